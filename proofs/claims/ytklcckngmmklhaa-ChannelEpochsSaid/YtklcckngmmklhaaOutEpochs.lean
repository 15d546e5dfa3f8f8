/- ChannelEpochs answers true whatever it is handed, and leaves its arguments as they were. -/
import Derived.Test.YtklcckngmmklhaaOutEpochsg
import Derived.Test.YtklcckngmmklhaaRows
import Derived.JoinedOf
import Derived.KernelRfl
namespace Go.Proofs.Ytklcckngmmklhaa
open Go Go.Abs Go.Proofs

theorem channelEpochs_own : ownKnob Try.prog.godebug = none := by kernel_rfl
theorem channelEpochs_laid : laidOutB Try.prog = true := by kernel_rfl
theorem channelEpochs_lifted (os : Os) (started : os.Started) (H : Type) (enc : TypeId × Value → H) :
    ReturnsInHanded {} Try.checked os 4 .any (Rows.channelEpochsSpec.pre6 enc Try.prog Try.f4 Rows.channelEpochsRow.domain false) (Rows.channelEpochsSpec.post enc Try.prog Try.f4 false true false false) := by
  refine law_lifted (C := Try.checked) channelEpochs_own started (by kernel_rfl) Try.func4 channelEpochs_laid
    (ChangeSpec.witness6 (enc := enc) (C := Try.checked) false ⟨#[], #[.agg (Array.replicate 32 (.int .u8 0)), .agg (Array.replicate 32 (.int .u8 0)), .int .u64 0, .int .u64 0], []⟩ 8 (by kernel_rfl) (by kernel_rfl) (by kernel_rfl) (by kernel_rfl))
    4 (by kernel_rfl) (by kernel_rfl) rfl ?_ ?_ ?_
  · intro ds h
    match ds, h with
    | [_, _, _, _], _ => rfl
  · exact of_decide_eq_true (by kernel_rfl)
  · exact ⟨_, av_agg (.inr ⟨32, 5, by kernel_rfl⟩) (rd_u8a (n := 32) (e := 5) (by kernel_rfl) (by kernel_rfl) (by kernel_rfl) (by kernel_rfl)), _, av_agg (.inr ⟨32, 5, by kernel_rfl⟩) (rd_u8a (n := 32) (e := 5) (by kernel_rfl) (by kernel_rfl) (by kernel_rfl) (by kernel_rfl)), _, av_one (.inl ⟨.u64, by kernel_rfl⟩) (rd_u64 (by kernel_rfl)), _, av_one (.inl ⟨.u64, by kernel_rfl⟩) (rd_u64 (by kernel_rfl)), by
      rintro _ ⟨x3, h3, rfl⟩ _ ⟨x2, h2, rfl⟩ _ ⟨x1, h1, rfl⟩ _ ⟨x0, h0, rfl⟩
      exact epochs_ x0 x1 x2 x3 h0 h1⟩
theorem channelEpochs_holds : Rows.ChannelEpochsSaid :=
  OpenClaim.holds_of_wide 4 Try.f4 rfl rfl rfl rfl rfl rfl rfl ⟨rfl, rfl, rfl, rfl, rfl⟩ rfl rfl rfl rfl rfl (by kernel_rfl) Try.func4 (by kernel_rfl)
    (of_decide_eq_true (by kernel_rfl)) (by unfold Func.isWrapper; first | (rw [if_pos (by decide +kernel)]; kernel_rfl) | (rw [if_neg (by decide +kernel)]; exact ⟨rfl, rfl⟩))
    (fun os started H enc _ => channelEpochs_lifted os started H enc)
end Go.Proofs.Ytklcckngmmklhaa

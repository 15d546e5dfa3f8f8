/- ChannelCarries answers true whatever it is handed, and leaves its arguments as they were. -/
import Derived.Test.YtklcckngmmklhaaOutCarriesg
import Derived.Test.YtklcckngmmklhaaRows
import Derived.JoinedOf
import Derived.KernelRfl
namespace Go.Proofs.Ytklcckngmmklhaa
open Go Go.Abs Go.Proofs

theorem channelCarries_own : ownKnob Try.prog.godebug = none := by kernel_rfl
theorem channelCarries_laid : laidOutB Try.prog = true := by kernel_rfl
theorem channelCarries_lifted (os : Os) (started : os.Started) (H : Type) (enc : TypeId × Value → H) :
    ReturnsInHanded {} Try.checked os 3 .any (Rows.channelCarriesSpec.pre6 enc Try.prog Try.f3 Rows.channelCarriesRow.domain false) (Rows.channelCarriesSpec.post enc Try.prog Try.f3 false true false false) := by
  refine law_lifted (C := Try.checked) channelCarries_own started (by kernel_rfl) Try.func3 channelCarries_laid
    (ChangeSpec.witness6 (enc := enc) (C := Try.checked) false ⟨#[], #[.agg (Array.replicate 32 (.int .u8 0)), .agg (Array.replicate 32 (.int .u8 0)), .agg (Array.replicate 32 (.int .u8 0)), .int .i64 0, .slice none 0 0], []⟩ 8 (by kernel_rfl) (by kernel_rfl) (by kernel_rfl) (by kernel_rfl))
    4 (by kernel_rfl) (by kernel_rfl) rfl ?_ ?_ ?_
  · intro ds h
    match ds, h with
    | [_, _, _, _, _], _ => rfl
  · exact of_decide_eq_true (by kernel_rfl)
  · exact ⟨_, av_agg (.inr ⟨32, 5, by kernel_rfl⟩) (rd_u8a (n := 32) (e := 5) (by kernel_rfl) (by kernel_rfl) (by kernel_rfl) (by kernel_rfl)), _, av_agg (.inr ⟨32, 5, by kernel_rfl⟩) (rd_u8a (n := 32) (e := 5) (by kernel_rfl) (by kernel_rfl) (by kernel_rfl) (by kernel_rfl)), _, av_agg (.inr ⟨32, 5, by kernel_rfl⟩) (rd_u8a (n := 32) (e := 5) (by kernel_rfl) (by kernel_rfl) (by kernel_rfl) (by kernel_rfl)), _, av_one (.inl ⟨.i64, by kernel_rfl⟩) (rd_i64 (by kernel_rfl)), _, av_one (.inr (.inr (.inr ⟨3, by kernel_rfl⟩))) (rd_i64s (e := 3) (by kernel_rfl) (by kernel_rfl) (by kernel_rfl)), by
      rintro _ ⟨x4, h4, rfl⟩ _ ⟨x3, h3, rfl⟩ _ ⟨x2, h2, rfl⟩ _ ⟨x1, h1, rfl⟩ _ ⟨x0, h0, rfl⟩
      exact carries_all x0 x1 x2 h0 h1 h2 x3 x4 _ rfl⟩
theorem channelCarries_holds : Rows.ChannelCarriesSaid :=
  OpenClaim.holds_of_wide 3 Try.f3 rfl rfl rfl rfl rfl rfl rfl ⟨rfl, rfl, rfl, rfl, rfl⟩ rfl rfl rfl rfl rfl (by kernel_rfl) Try.func3 (by kernel_rfl)
    (of_decide_eq_true (by kernel_rfl)) (by unfold Func.isWrapper; first | (rw [if_pos (by decide +kernel)]; kernel_rfl) | (rw [if_neg (by decide +kernel)]; exact ⟨rfl, rfl⟩))
    (fun os started H enc _ => channelCarries_lifted os started H enc)
end Go.Proofs.Ytklcckngmmklhaa

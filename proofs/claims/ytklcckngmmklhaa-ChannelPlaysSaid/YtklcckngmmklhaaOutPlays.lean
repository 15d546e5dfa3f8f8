/- ChannelPlays answers true whatever it is handed, and leaves its arguments as they were. -/
import Derived.Test.YtklcckngmmklhaaOutPlaysh
import Derived.Test.YtklcckngmmklhaaRows
import Derived.JoinedOf
import Derived.KernelRfl
namespace Go.Proofs.Ytklcckngmmklhaa
open Go Go.Abs Go.Proofs
theorem rd_acts : Rd Try.prog 47 (fun l : List A19 => l.length ≤ 140737488351232) (fun l => [.ro l.length (l.flatMap cA)]) :=
  (rd_slice (e := 53) (by kernel_rfl) (Rd.mono (p' := fun _ : A19 => True) (g' := cA) (rd_st (t := 53) (flds := [(0, 3), (1, 30), (2, 34), (3, 3)]) (by kernel_rfl) (.cons (by kernel_rfl) (rd_i64 (by kernel_rfl)) (.cons (by kernel_rfl) (rd_u8s (e := 5) (by kernel_rfl) (by kernel_rfl) (by kernel_rfl)) (.cons (by kernel_rfl) (rd_u64 (by kernel_rfl)) (.cons (by kernel_rfl) (rd_i64 (by kernel_rfl)) (.nil _))))) (by kernel_rfl)) fun x _ => ⟨⟨x.1, x.2.1, x.2.2.1, x.2.2.2.1⟩, trivial, rfl⟩)).mono fun l h => ⟨l, by have h2 := h.2; rw [show Try.prog.bytesOf 53 = 48 by kernel_rfl] at h2; simp only [reachBytes] at h2; omega, rfl⟩
theorem channelPlays_own : ownKnob Try.prog.godebug = none := by kernel_rfl
theorem channelPlays_laid : laidOutB Try.prog = true := by kernel_rfl
theorem channelPlays_lifted (os : Os) (started : os.Started) (H : Type) (enc : TypeId × Value → H) :
    ReturnsInHanded {} Try.checked os 5 .any (Rows.channelPlaysSpec.pre6 enc Try.prog Try.f5 Rows.channelPlaysRow.domain false) (Rows.channelPlaysSpec.post enc Try.prog Try.f5 false true false false) := by
  refine law_lifted (C := Try.checked) channelPlays_own started (by kernel_rfl) Try.func5 channelPlays_laid
    (ChangeSpec.witness6 (enc := enc) (C := Try.checked) false ⟨#[], #[.agg (Array.replicate 32 (.int .u8 0)), .agg (Array.replicate 32 (.int .u8 0)), .agg (Array.replicate 32 (.int .u8 0)), .slice none 0 0], []⟩ 8 (by kernel_rfl) (by kernel_rfl) (by kernel_rfl) (by kernel_rfl))
    4 (by kernel_rfl) (by kernel_rfl) rfl ?_ ?_ ?_
  · intro ds h
    match ds, h with
    | [_, _, _, _], _ => rfl
  · exact of_decide_eq_true (by kernel_rfl)
  · exact ⟨_, av_agg (.inr ⟨32, 5, by kernel_rfl⟩) (rd_u8a (n := 32) (e := 5) (by kernel_rfl) (by kernel_rfl) (by kernel_rfl) (by kernel_rfl)), _, av_agg (.inr ⟨32, 5, by kernel_rfl⟩) (rd_u8a (n := 32) (e := 5) (by kernel_rfl) (by kernel_rfl) (by kernel_rfl) (by kernel_rfl)), _, av_agg (.inr ⟨32, 5, by kernel_rfl⟩) (rd_u8a (n := 32) (e := 5) (by kernel_rfl) (by kernel_rfl) (by kernel_rfl) (by kernel_rfl)), _, av_one (.inr (.inr (.inr ⟨53, by kernel_rfl⟩))) rd_acts, by
      rintro _ ⟨x3, h3, rfl⟩ _ ⟨x2, h2, rfl⟩ _ ⟨x1, h1, rfl⟩ _ ⟨x0, h0, rfl⟩
      exact plays_ x0 x1 x2 h0 h1 h2 x3 _ rfl h3⟩
theorem channelPlays_holds : Rows.ChannelPlaysSaid :=
  OpenClaim.holds_of_wide 5 Try.f5 rfl rfl rfl rfl rfl rfl rfl ⟨rfl, rfl, rfl, rfl, rfl⟩ rfl rfl rfl rfl rfl (by kernel_rfl) Try.func5 (by kernel_rfl)
    (of_decide_eq_true (by kernel_rfl)) (by unfold Func.isWrapper; first | (rw [if_pos (by decide +kernel)]; kernel_rfl) | (rw [if_neg (by decide +kernel)]; exact ⟨rfl, rfl⟩))
    (fun os started H enc _ => channelPlays_lifted os started H enc)
end Go.Proofs.Ytklcckngmmklhaa

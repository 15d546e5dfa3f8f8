/- StateTwins answers true whatever it is handed, and leaves its arguments as they were. -/
import Derived.Test.YtlnepajgnckolaaOutTwinsf
import Derived.Test.YtlnepajgnckolaaRows
import Derived.JoinedOf
import Derived.KernelRfl
namespace Go.Proofs.Ytlnepajgnckolaa
open Go Go.Abs Go.Proofs
theorem rd_steps : Rd Try.prog 46 (fun l : List B16 => l.length ≤ 140737488351232) (fun l => [.ro l.length (l.flatMap bC)]) :=
  (rd_slice (e := 50) (by kernel_rfl) (Rd.mono (p' := fun _ : B16 => True) (g' := bC) (rd_st (t := 50) (flds := [(0, 3), (1, 34)]) (by kernel_rfl) (.cons (by kernel_rfl) (rd_i64 (by kernel_rfl)) (.cons (by kernel_rfl) (rd_u8s (e := 5) (by kernel_rfl) (by kernel_rfl) (by kernel_rfl)) (.nil _))) (by kernel_rfl)) fun x _ => ⟨⟨x.1, x.2.1⟩, trivial, rfl⟩)).mono fun l h => ⟨l, by have h2 := h.2; rw [show Try.prog.bytesOf 50 = 32 by kernel_rfl] at h2; simp only [reachBytes] at h2; omega, rfl⟩
theorem stateTwins_own : ownKnob Try.prog.godebug = none := by kernel_rfl
theorem stateTwins_laid : laidOutB Try.prog = true := by kernel_rfl
theorem stateTwins_lifted (os : Os) (started : os.Started) (H : Type) (enc : TypeId × Value → H) :
    ReturnsInHanded {} Try.checked os 4 .any (Rows.stateTwinsSpec.pre6 enc Try.prog Try.f4 Rows.stateTwinsRow.domain false) (Rows.stateTwinsSpec.post enc Try.prog Try.f4 false true false false) := by
  refine law_lifted (C := Try.checked) stateTwins_own started (by kernel_rfl) Try.func4 stateTwins_laid
    (ChangeSpec.witness6 (enc := enc) (C := Try.checked) false ⟨#[], #[.string ⟨#[]⟩, .slice none 0 0, .slice none 0 0], []⟩ 8 (by kernel_rfl) (by kernel_rfl) (by kernel_rfl) (by kernel_rfl))
    4 (by kernel_rfl) (by kernel_rfl) rfl ?_ ?_ ?_
  · intro ds h
    match ds, h with
    | [_, _, _], _ => rfl
  · exact of_decide_eq_true (by kernel_rfl)
  · exact ⟨_, av_one (.inr (.inr (.inl (by kernel_rfl)))) (rd_str (by kernel_rfl)), _, av_one (.inr (.inr (.inr ⟨50, by kernel_rfl⟩))) rd_steps, _, av_one (.inr (.inr (.inr ⟨5, by kernel_rfl⟩))) (rd_u8s (e := 5) (by kernel_rfl) (by kernel_rfl) (by kernel_rfl)), by
      rintro _ ⟨x2, h2, rfl⟩ _ ⟨x1, h1, rfl⟩ _ ⟨x0, h0, rfl⟩
      exact twins_ x0 x1 _ rfl h1 x2 _ rfl⟩
theorem stateTwins_holds : Rows.StateTwinsSaid :=
  OpenClaim.holds_of_wide 4 Try.f4 rfl rfl rfl rfl rfl rfl rfl ⟨rfl, rfl, rfl, rfl, rfl⟩ rfl rfl rfl rfl rfl (by kernel_rfl) Try.func4 (by kernel_rfl)
    (of_decide_eq_true (by kernel_rfl)) (by unfold Func.isWrapper; first | (rw [if_pos (by decide +kernel)]; kernel_rfl) | (rw [if_neg (by decide +kernel)]; exact ⟨rfl, rfl⟩))
    (fun os started H enc _ => stateTwins_lifted os started H enc)
end Go.Proofs.Ytlnepajgnckolaa

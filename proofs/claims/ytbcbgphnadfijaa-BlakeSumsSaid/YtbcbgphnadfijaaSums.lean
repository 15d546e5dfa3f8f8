/- BlakeSums answers true whatever it is handed, and leaves its arguments as they were. -/
import Derived.Test.YtbcbgphnadfijaaRows
import Derived.Test.YtbcbgphnadfijaaAbsEn
import Derived.Test.YtbcbgphnadfijaaBi
import Derived.JoinedOf
import Derived.KernelRfl
namespace Go.Proofs.Ytbcbgphnadfijaa
open Go Go.Abs Go.Proofs

theorem blakeSums_own : ownKnob Try.prog.godebug = none := by kernel_rfl
theorem blakeSums_laid : laidOutB Try.prog = true := by kernel_rfl
theorem blakeSums_lifted (os : Os) (started : os.Started) (H : Type) (enc : TypeId × Value → H) :
    ReturnsInHanded {} Try.checked os 3 .any (Rows.blakeSumsSpec.pre6 enc Try.prog Try.f3 Rows.blakeSumsRow.domain false) (Rows.blakeSumsSpec.post enc Try.prog Try.f3 false true false false) := by
  refine law_lifted (C := Try.checked) blakeSums_own started (by kernel_rfl) Try.func3 blakeSums_laid
    (ChangeSpec.witness6 (enc := enc) (C := Try.checked) false ⟨#[], #[.slice none 0 0, .slice none 0 0], []⟩ 8 (by kernel_rfl) (by kernel_rfl) (by kernel_rfl) (by kernel_rfl))
    4 (by kernel_rfl) (by kernel_rfl) rfl ?_ ?_ ?_
  · intro ds h
    match ds, h with
    | [_, _], _ => rfl
  · exact of_decide_eq_true (by kernel_rfl)
  · exact ⟨_, av_one (.inr (.inr (.inr ⟨5, by kernel_rfl⟩))) (rd_u8s (e := 5) (by kernel_rfl) (by kernel_rfl) (by kernel_rfl)), _, av_one (.inr (.inr (.inr ⟨3, by kernel_rfl⟩))) (rd_i64s (e := 3) (by kernel_rfl) (by kernel_rfl) (by kernel_rfl)), by
      rintro _ ⟨x1, h1, rfl⟩ _ ⟨x0, h0, rfl⟩
      by_cases h : 1000 < x0.length
      · exact sums_l1 x0 _ x1 _ (by omega) h
      · by_cases h2 : 20 < x1.length
        · exact sums_l2 x0 _ x1 _ (by omega) (by omega) h2
        · exact sums_ x0 _ _ x1 _ rfl (by omega) rfl (by omega) rfl⟩
theorem blakeSums_holds : Rows.BlakeSumsSaid :=
  OpenClaim.holds_of_wide 3 Try.f3 rfl rfl rfl rfl rfl rfl rfl ⟨rfl, rfl, rfl, rfl, rfl⟩ rfl rfl rfl rfl rfl (by kernel_rfl) Try.func3 (by kernel_rfl)
    (of_decide_eq_true (by kernel_rfl)) (by unfold Func.isWrapper; first | (rw [if_pos (by decide +kernel)]; kernel_rfl) | (rw [if_neg (by decide +kernel)]; exact ⟨rfl, rfl⟩))
    (fun os started H enc _ => blakeSums_lifted os started H enc)
end Go.Proofs.Ytbcbgphnadfijaa

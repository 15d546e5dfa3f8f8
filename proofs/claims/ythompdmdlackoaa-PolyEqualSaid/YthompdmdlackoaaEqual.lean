/- PolyEqual answers true whatever it is handed, and leaves its arguments as they were. -/
import Derived.Test.YthompdmdlackoaaRows
import Derived.Test.YthompdmdlackoaaAbsEn
import Derived.Test.YthompdmdlackoaaPe
import Derived.JoinedOf
import Derived.KernelRfl
namespace Go.Proofs.Ythompdmdlackoaa
open Go Go.Abs Go.Proofs

theorem polyEqual_own : ownKnob Try.prog.godebug = none := by kernel_rfl
theorem polyEqual_laid : laidOutB Try.prog = true := by kernel_rfl
theorem polyEqual_lifted (os : Os) (started : os.Started) (H : Type) (enc : TypeId × Value → H) :
    ReturnsInHanded {} Try.checked os 6 .any (Rows.polyEqualSpec.pre6 enc Try.prog Try.f6 Rows.polyEqualRow.domain false) (Rows.polyEqualSpec.post enc Try.prog Try.f6 false true false false) := by
  refine law_lifted (C := Try.checked) polyEqual_own started (by kernel_rfl) Try.func6 polyEqual_laid
    (ChangeSpec.witness6 (enc := enc) (C := Try.checked) false ⟨#[], #[.agg (Array.replicate 16 (.int .u8 0)), .agg (Array.replicate 16 (.int .u8 0))], []⟩ 8 (by kernel_rfl) (by kernel_rfl) (by kernel_rfl) (by kernel_rfl))
    4 (by kernel_rfl) (by kernel_rfl) rfl ?_ ?_ ?_
  · intro ds h
    match ds, h with
    | [_, _], _ => rfl
  · exact of_decide_eq_true (by kernel_rfl)
  · exact ⟨_, av_agg (.inr ⟨16, 5, by kernel_rfl⟩) (rd_u8a (n := 16) (e := 5) (by kernel_rfl) (by kernel_rfl) (by kernel_rfl) (by kernel_rfl)), _, av_agg (.inr ⟨16, 5, by kernel_rfl⟩) (rd_u8a (n := 16) (e := 5) (by kernel_rfl) (by kernel_rfl) (by kernel_rfl) (by kernel_rfl)), by
      rintro _ ⟨x1, h1, rfl⟩ _ ⟨x0, h0, rfl⟩
      exact equals x0 x1 h0 h1⟩
theorem polyEqual_holds : Rows.PolyEqualSaid :=
  OpenClaim.holds_of_wide 6 Try.f6 rfl rfl rfl rfl rfl rfl rfl ⟨rfl, rfl, rfl, rfl, rfl⟩ rfl rfl rfl rfl rfl (by kernel_rfl) Try.func6 (by kernel_rfl)
    (of_decide_eq_true (by kernel_rfl)) (by unfold Func.isWrapper; first | (rw [if_pos (by decide +kernel)]; kernel_rfl) | (rw [if_neg (by decide +kernel)]; exact ⟨rfl, rfl⟩))
    (fun os started H enc _ => polyEqual_lifted os started H enc)
end Go.Proofs.Ythompdmdlackoaa

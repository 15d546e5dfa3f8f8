/- WindowNil answers true whatever it is handed, and leaves its arguments as they were. -/
import Derived.Test.YtgojpagfgfknkaaOutNild
import Derived.Test.YtgojpagfgfknkaaRows
import Derived.JoinedOf
import Derived.KernelRfl
namespace Go.Proofs.Ytgojpagfgfknkaa
open Go Go.Abs Go.Proofs

theorem windowNil_own : ownKnob Try.prog.godebug = none := by kernel_rfl
theorem windowNil_laid : laidOutB Try.prog = true := by kernel_rfl
theorem windowNil_lifted (os : Os) (started : os.Started) (H : Type) (enc : TypeId × Value → H) :
    ReturnsInHanded {} Try.checked os 6 .any (Rows.windowNilSpec.pre6 enc Try.prog Try.f6 Rows.windowNilRow.domain false) (Rows.windowNilSpec.post enc Try.prog Try.f6 false true false false) := by
  refine law_lifted (C := Try.checked) windowNil_own started (by kernel_rfl) Try.func6 windowNil_laid
    (ChangeSpec.witness6 (enc := enc) (C := Try.checked) false ⟨#[], #[], []⟩ 8 (by kernel_rfl) (by kernel_rfl) (by kernel_rfl) (by kernel_rfl))
    4 (by kernel_rfl) (by kernel_rfl) rfl ?_ ?_ ?_
  · intro ds h
    match ds, h with
    | [], _ => rfl
  · exact of_decide_eq_true (by kernel_rfl)
  · exact by
      show Go.Abs.Good Try.prog 6 [] [] (sc (.bool true)) []
      exact Wd.wnil
theorem windowNil_holds : Rows.WindowNilSaid :=
  OpenClaim.holds_of_wide 6 Try.f6 rfl rfl rfl rfl rfl rfl rfl ⟨rfl, rfl, rfl, rfl, rfl⟩ rfl rfl rfl rfl rfl (by kernel_rfl) Try.func6 (by kernel_rfl)
    (of_decide_eq_true (by kernel_rfl)) (by unfold Func.isWrapper; first | (rw [if_pos (by decide +kernel)]; kernel_rfl) | (rw [if_neg (by decide +kernel)]; exact ⟨rfl, rfl⟩))
    (fun os started H enc _ => windowNil_lifted os started H enc)
end Go.Proofs.Ytgojpagfgfknkaa

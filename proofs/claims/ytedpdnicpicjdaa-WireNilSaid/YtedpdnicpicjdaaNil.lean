/- WireNil answers true whatever it is handed, and leaves its arguments as they were. -/
import Derived.Test.YtedpdnicpicjdaaRows
import Derived.Test.YtedpdnicpicjdaaAbsEn
import Derived.Test.YtedpdnicpicjdaaWz
import Derived.JoinedOf
import Derived.KernelRfl
namespace Go.Proofs.Ytedpdnicpicjdaa
open Go Go.Abs Go.Proofs

theorem wireNil_own : ownKnob Try.prog.godebug = none := by kernel_rfl
theorem wireNil_laid : laidOutB Try.prog = true := by kernel_rfl
theorem wireNil_lifted (os : Os) (started : os.Started) (H : Type) (enc : TypeId × Value → H) :
    ReturnsInHanded {} Try.checked os 4 .any (Rows.wireNilSpec.pre6 enc Try.prog Try.f4 Rows.wireNilRow.domain false) (Rows.wireNilSpec.post enc Try.prog Try.f4 false true false false) := by
  refine law_lifted (C := Try.checked) wireNil_own started (by kernel_rfl) Try.func4 wireNil_laid
    (ChangeSpec.witness6 (enc := enc) (C := Try.checked) false ⟨#[], #[], []⟩ 8 (by kernel_rfl) (by kernel_rfl) (by kernel_rfl) (by kernel_rfl))
    4 (by kernel_rfl) (by kernel_rfl) rfl ?_ ?_ ?_
  · intro ds h
    match ds, h with
    | [], _ => rfl
  · exact of_decide_eq_true (by kernel_rfl)
  · exact by
      show Go.Abs.Good Try.prog 4 [] [] (sc (.bool true)) []
      exact nil_
theorem wireNil_holds : Rows.WireNilSaid :=
  OpenClaim.holds_of_wide 4 Try.f4 rfl rfl rfl rfl rfl rfl rfl ⟨rfl, rfl, rfl, rfl, rfl⟩ rfl rfl rfl rfl rfl (by kernel_rfl) Try.func4 (by kernel_rfl)
    (of_decide_eq_true (by kernel_rfl)) (by unfold Func.isWrapper; first | (rw [if_pos (by decide +kernel)]; kernel_rfl) | (rw [if_neg (by decide +kernel)]; exact ⟨rfl, rfl⟩))
    (fun os started H enc _ => wireNil_lifted os started H enc)
end Go.Proofs.Ytedpdnicpicjdaa

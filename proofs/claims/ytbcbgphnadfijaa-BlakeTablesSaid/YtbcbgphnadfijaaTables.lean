/- BlakeTables answers true whatever it is handed, and leaves its arguments as they were. -/
import Derived.Test.YtbcbgphnadfijaaRows
import Derived.Test.YtbcbgphnadfijaaAbsEn
import Derived.Test.YtbcbgphnadfijaaBf
import Derived.JoinedOf
import Derived.KernelRfl
namespace Go.Proofs.Ytbcbgphnadfijaa
open Go Go.Abs Go.Proofs

theorem blakeTables_own : ownKnob Try.prog.godebug = none := by kernel_rfl
theorem blakeTables_laid : laidOutB Try.prog = true := by kernel_rfl
theorem blakeTables_lifted (os : Os) (started : os.Started) (H : Type) (enc : TypeId × Value → H) :
    ReturnsInHanded {} Try.checked os 4 .any (Rows.blakeTablesSpec.pre6 enc Try.prog Try.f4 Rows.blakeTablesRow.domain false) (Rows.blakeTablesSpec.post enc Try.prog Try.f4 false true false false) := by
  refine law_lifted (C := Try.checked) blakeTables_own started (by kernel_rfl) Try.func4 blakeTables_laid
    (ChangeSpec.witness6 (enc := enc) (C := Try.checked) false ⟨#[], #[.int .i64 0], []⟩ 8 (by kernel_rfl) (by kernel_rfl) (by kernel_rfl) (by kernel_rfl))
    4 (by kernel_rfl) (by kernel_rfl) rfl ?_ ?_ ?_
  · intro ds h
    match ds, h with
    | [_], _ => rfl
  · exact of_decide_eq_true (by kernel_rfl)
  · exact ⟨_, av_one (.inl ⟨.i64, by kernel_rfl⟩) (rd_i64 (by kernel_rfl)), by
      rintro _ ⟨x0, h0, rfl⟩
      exact tables x0⟩
theorem blakeTables_holds : Rows.BlakeTablesSaid :=
  OpenClaim.holds_of_wide 4 Try.f4 rfl rfl rfl rfl rfl rfl rfl ⟨rfl, rfl, rfl, rfl, rfl⟩ rfl rfl rfl rfl rfl (by kernel_rfl) Try.func4 (by kernel_rfl)
    (of_decide_eq_true (by kernel_rfl)) (by unfold Func.isWrapper; first | (rw [if_pos (by decide +kernel)]; kernel_rfl) | (rw [if_neg (by decide +kernel)]; exact ⟨rfl, rfl⟩))
    (fun os started H enc _ => blakeTables_lifted os started H enc)
end Go.Proofs.Ytbcbgphnadfijaa

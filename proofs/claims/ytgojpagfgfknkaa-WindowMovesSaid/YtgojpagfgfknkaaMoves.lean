/- WindowMoves answers true whatever it is handed, and leaves its arguments as they were. -/
import Derived.Test.YtgojpagfgfknkaaRows
import Derived.Test.YtgojpagfgfknkaaAbsEn
import Derived.Test.YtgojpagfgfknkaaLa
import Derived.JoinedOf
import Derived.KernelRfl
namespace Go.Proofs.Ytgojpagfgfknkaa
open Go Go.Abs Go.Proofs

theorem moves_own : ownKnob Try.prog.godebug = none := by kernel_rfl
theorem moves_laid : laidOutB Try.prog = true := by kernel_rfl
theorem moves_lifted (os : Os) (started : os.Started) (H : Type) (enc : TypeId × Value → H) :
    ReturnsInHanded {} Try.checked os 4 .any (Rows.windowMovesSpec.pre6 enc Try.prog Try.f4 Rows.windowMovesRow.domain false) (Rows.windowMovesSpec.post enc Try.prog Try.f4 false true false false) := by
  refine law_lifted (C := Try.checked) moves_own started (by kernel_rfl) Try.func4 moves_laid
    (ChangeSpec.witness6 (enc := enc) (C := Try.checked) false ⟨#[], #[.slice none 0 0, .int .u64 0], []⟩ 8 (by kernel_rfl) (by kernel_rfl) (by kernel_rfl) (by kernel_rfl))
    4 (by kernel_rfl) (by kernel_rfl) rfl ?_ ?_ ?_
  · intro ds h
    match ds, h with
    | [_, _], _ => rfl
  · exact of_decide_eq_true (by kernel_rfl)
  · exact ⟨_, av_one (.inr (.inr (.inr ⟨23, by kernel_rfl⟩))) (rd_u64s (e := 23) (by kernel_rfl) (by kernel_rfl) (by kernel_rfl)), _, av_one (.inl ⟨.u64, by kernel_rfl⟩) (rd_u64 (by kernel_rfl)), by
      rintro _ ⟨x, _, rfl⟩ _ ⟨l, hl, rfl⟩
      exact moves l.length l x rfl (by omega)⟩
theorem windowMoves_holds : Rows.WindowMovesSaid :=
  OpenClaim.holds_of_wide 4 Try.f4 rfl rfl rfl rfl rfl rfl rfl ⟨rfl, rfl, rfl, rfl, rfl⟩ rfl rfl rfl rfl rfl (by kernel_rfl) Try.func4 (by kernel_rfl)
    (of_decide_eq_true (by kernel_rfl)) (by unfold Func.isWrapper; first | (rw [if_pos (by decide +kernel)]; kernel_rfl) | (rw [if_neg (by decide +kernel)]; exact ⟨rfl, rfl⟩))
    (fun os started H enc _ => moves_lifted os started H enc)
end Go.Proofs.Ytgojpagfgfknkaa

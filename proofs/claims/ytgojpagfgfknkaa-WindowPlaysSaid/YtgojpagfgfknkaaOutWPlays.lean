/- WindowPlays answers true whatever it is handed, and leaves its arguments as they were. -/
import Derived.Test.YtgojpagfgfknkaaOutWPlaysd
import Derived.Test.YtgojpagfgfknkaaRows
import Derived.JoinedOf
import Derived.KernelRfl
namespace Go.Proofs.Ytgojpagfgfknkaa
open Go Go.Abs Go.Proofs

theorem windowPlays_own : ownKnob Try.prog.godebug = none := by kernel_rfl
theorem windowPlays_laid : laidOutB Try.prog = true := by kernel_rfl
theorem windowPlays_lifted (os : Os) (started : os.Started) (H : Type) (enc : TypeId × Value → H) :
    ReturnsInHanded {} Try.checked os 5 .any (Rows.windowPlaysSpec.pre6 enc Try.prog Try.f5 Rows.windowPlaysRow.domain false) (Rows.windowPlaysSpec.post enc Try.prog Try.f5 false true false false) := by
  refine law_lifted (C := Try.checked) windowPlays_own started (by kernel_rfl) Try.func5 windowPlays_laid
    (ChangeSpec.witness6 (enc := enc) (C := Try.checked) false ⟨#[], #[.slice none 0 0, .int .u64 0], []⟩ 8 (by kernel_rfl) (by kernel_rfl) (by kernel_rfl) (by kernel_rfl))
    4 (by kernel_rfl) (by kernel_rfl) rfl ?_ ?_ ?_
  · intro ds h
    match ds, h with
    | [_, _], _ => rfl
  · exact of_decide_eq_true (by kernel_rfl)
  · exact ⟨_, av_one (.inr (.inr (.inr ⟨23, by kernel_rfl⟩))) (rd_u64s (e := 23) (by kernel_rfl) (by kernel_rfl) (by kernel_rfl)), _, av_one (.inl ⟨.u64, by kernel_rfl⟩) (rd_u64 (by kernel_rfl)), by
      rintro _ ⟨x1, h1, rfl⟩ _ ⟨x0, h0, rfl⟩
      exact Wd.wplays x0 x1 _ rfl (by omega)⟩
theorem windowPlays_holds : Rows.WindowPlaysSaid :=
  OpenClaim.holds_of_wide 5 Try.f5 rfl rfl rfl rfl rfl rfl rfl ⟨rfl, rfl, rfl, rfl, rfl⟩ rfl rfl rfl rfl rfl (by kernel_rfl) Try.func5 (by kernel_rfl)
    (of_decide_eq_true (by kernel_rfl)) (by unfold Func.isWrapper; first | (rw [if_pos (by decide +kernel)]; kernel_rfl) | (rw [if_neg (by decide +kernel)]; exact ⟨rfl, rfl⟩))
    (fun os started H enc _ => windowPlays_lifted os started H enc)
end Go.Proofs.Ytgojpagfgfknkaa

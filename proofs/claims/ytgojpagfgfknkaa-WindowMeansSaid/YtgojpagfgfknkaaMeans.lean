/- WindowMeans answers true whatever it is handed, and leaves its arguments as they were. -/
import Derived.Test.YtgojpagfgfknkaaRows
import Derived.Test.YtgojpagfgfknkaaAbsEn
import Derived.Test.YtgojpagfgfknkaaLa
import Derived.JoinedOf
import Derived.KernelRfl
namespace Go.Proofs.Ytgojpagfgfknkaa
open Go Go.Abs Go.Proofs

theorem windowMeans_own : ownKnob Try.prog.godebug = none := by kernel_rfl
theorem windowMeans_laid : laidOutB Try.prog = true := by kernel_rfl
theorem windowMeans_lifted (os : Os) (started : os.Started) (H : Type) (enc : TypeId × Value → H) :
    ReturnsInHanded {} Try.checked os 3 .any (Rows.windowMeansSpec.pre6 enc Try.prog Try.f3 Rows.windowMeansRow.domain false) (Rows.windowMeansSpec.post enc Try.prog Try.f3 false true false false) := by
  refine law_lifted (C := Try.checked) windowMeans_own started (by kernel_rfl) Try.func3 windowMeans_laid
    (ChangeSpec.witness6 (enc := enc) (C := Try.checked) false ⟨#[], #[.slice none 0 0, .int .u64 0, .slice none 0 0], []⟩ 8 (by kernel_rfl) (by kernel_rfl) (by kernel_rfl) (by kernel_rfl))
    4 (by kernel_rfl) (by kernel_rfl) rfl ?_ ?_ ?_
  · intro ds h
    match ds, h with
    | [_, _, _], _ => rfl
  · exact of_decide_eq_true (by kernel_rfl)
  · exact ⟨_, av_one (.inr (.inr (.inr ⟨23, by kernel_rfl⟩))) (rd_u64s (e := 23) (by kernel_rfl) (by kernel_rfl) (by kernel_rfl)), _, av_one (.inl ⟨.u64, by kernel_rfl⟩) (rd_u64 (by kernel_rfl)), _, av_one (.inr (.inr (.inr ⟨23, by kernel_rfl⟩))) (rd_u64s (e := 23) (by kernel_rfl) (by kernel_rfl) (by kernel_rfl)), by
      rintro _ ⟨x2, h2, rfl⟩ _ ⟨x1, h1, rfl⟩ _ ⟨x0, h0, rfl⟩
      exact means x0.length x0 x1 x2.length x2 rfl (by omega) rfl (by omega)⟩
theorem windowMeans_holds : Rows.WindowMeansSaid :=
  OpenClaim.holds_of_wide 3 Try.f3 rfl rfl rfl rfl rfl rfl rfl ⟨rfl, rfl, rfl, rfl, rfl⟩ rfl rfl rfl rfl rfl (by kernel_rfl) Try.func3 (by kernel_rfl)
    (of_decide_eq_true (by kernel_rfl)) (by unfold Func.isWrapper; first | (rw [if_pos (by decide +kernel)]; kernel_rfl) | (rw [if_neg (by decide +kernel)]; exact ⟨rfl, rfl⟩))
    (fun os started H enc _ => windowMeans_lifted os started H enc)
end Go.Proofs.Ytgojpagfgfknkaa

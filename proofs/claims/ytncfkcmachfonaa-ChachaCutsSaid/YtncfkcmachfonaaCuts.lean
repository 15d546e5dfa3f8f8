/- ChachaCuts answers true whatever it is handed, and leaves its arguments as they were. -/
import Derived.Test.YtncfkcmachfonaaRows
import Derived.Test.YtncfkcmachfonaaAbsEn
import Derived.Test.YtncfkcmachfonaaChf
import Derived.JoinedOf
import Derived.KernelRfl
namespace Go.Proofs.Ytncfkcmachfonaa
open Go Go.Abs Go.Proofs

theorem chachaCuts_own : ownKnob Try.prog.godebug = none := by kernel_rfl
theorem chachaCuts_laid : laidOutB Try.prog = true := by kernel_rfl
theorem chachaCuts_lifted (os : Os) (started : os.Started) (H : Type) (enc : TypeId × Value → H) :
    ReturnsInHanded {} Try.checked os 4 .any (Rows.chachaCutsSpec.pre6 enc Try.prog Try.f4 Rows.chachaCutsRow.domain false) (Rows.chachaCutsSpec.post enc Try.prog Try.f4 false true false false) := by
  refine law_lifted (C := Try.checked) chachaCuts_own started (by kernel_rfl) Try.func4 chachaCuts_laid
    (ChangeSpec.witness6 (enc := enc) (C := Try.checked) false ⟨#[], #[.agg (Array.replicate 32 (.int .u8 0)), .int .u32 0, .agg (Array.replicate 12 (.int .u8 0)), .int .i64 0, .slice none 0 0], []⟩ 8 (by kernel_rfl) (by kernel_rfl) (by kernel_rfl) (by kernel_rfl))
    4 (by kernel_rfl) (by kernel_rfl) rfl ?_ ?_ ?_
  · intro ds h
    match ds, h with
    | [_, _, _, _, _], _ => rfl
  · exact of_decide_eq_true (by kernel_rfl)
  · exact ⟨_, av_agg (.inr ⟨32, 5, by kernel_rfl⟩) (rd_u8a (n := 32) (e := 5) (by kernel_rfl) (by kernel_rfl) (by kernel_rfl) (by kernel_rfl)), _, av_one (.inl ⟨.u32, by kernel_rfl⟩) (rd_u32 (by kernel_rfl)), _, av_agg (.inr ⟨12, 5, by kernel_rfl⟩) (rd_u8a (n := 12) (e := 5) (by kernel_rfl) (by kernel_rfl) (by kernel_rfl) (by kernel_rfl)), _, av_one (.inl ⟨.i64, by kernel_rfl⟩) (rd_i64 (by kernel_rfl)), _, av_one (.inr (.inr (.inr ⟨5, by kernel_rfl⟩))) (rd_u8s (e := 5) (by kernel_rfl) (by kernel_rfl) (by kernel_rfl)), by
      rintro _ ⟨x4, h4, rfl⟩ _ ⟨x3, h3, rfl⟩ _ ⟨x2, h2, rfl⟩ _ ⟨x1, h1, rfl⟩ _ ⟨x0, h0, rfl⟩
      rcases Decidable.em (x3 < 0) with hs | hs
      · exact cuts_neg x0 x1 x2 x3 x4.length x4 h0 h2 rfl (by omega) hs (by have := h3; omega)
      · obtain ⟨k, rfl⟩ : ∃ k : Nat, x3 = k := ⟨x3.toNat, by omega⟩
        exact cuts x0 x1 x2 k x4.length x4 h0 h2 rfl (by omega) (by have := h3; omega)⟩
theorem chachaCuts_holds : Rows.ChachaCutsSaid :=
  OpenClaim.holds_of_wide 4 Try.f4 rfl rfl rfl rfl rfl rfl rfl ⟨rfl, rfl, rfl, rfl, rfl⟩ rfl rfl rfl rfl rfl (by kernel_rfl) Try.func4 (by kernel_rfl)
    (of_decide_eq_true (by kernel_rfl)) (by unfold Func.isWrapper; first | (rw [if_pos (by decide +kernel)]; kernel_rfl) | (rw [if_neg (by decide +kernel)]; exact ⟨rfl, rfl⟩))
    (fun os started H enc _ => chachaCuts_lifted os started H enc)
end Go.Proofs.Ytncfkcmachfonaa

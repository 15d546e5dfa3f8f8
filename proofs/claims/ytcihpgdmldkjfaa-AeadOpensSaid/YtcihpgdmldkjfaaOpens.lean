/- AeadOpens answers true whatever it is handed, and leaves its arguments as they were. -/
import Derived.Test.YtcihpgdmldkjfaaRows
import Derived.Test.YtcihpgdmldkjfaaAbsEn
import Derived.Test.YtcihpgdmldkjfaaAe
import Derived.JoinedOf
import Derived.KernelRfl
namespace Go.Proofs.Ytcihpgdmldkjfaa
open Go Go.Abs Go.Proofs

theorem aeadOpens_own : ownKnob Try.prog.godebug = none := by kernel_rfl
theorem aeadOpens_laid : laidOutB Try.prog = true := by kernel_rfl
theorem aeadOpens_lifted (os : Os) (started : os.Started) (H : Type) (enc : TypeId × Value → H) :
    ReturnsInHanded {} Try.checked os 4 .any (Rows.aeadOpensSpec.pre6 enc Try.prog Try.f4 Rows.aeadOpensRow.domain false) (Rows.aeadOpensSpec.post enc Try.prog Try.f4 false true false false) := by
  refine law_lifted (C := Try.checked) aeadOpens_own started (by kernel_rfl) Try.func4 aeadOpens_laid
    (ChangeSpec.witness6 (enc := enc) (C := Try.checked) false ⟨#[], #[.agg (Array.replicate 32 (.int .u8 0)), .agg (Array.replicate 12 (.int .u8 0)), .slice none 0 0, .slice none 0 0], []⟩ 8 (by kernel_rfl) (by kernel_rfl) (by kernel_rfl) (by kernel_rfl))
    4 (by kernel_rfl) (by kernel_rfl) rfl ?_ ?_ ?_
  · intro ds h
    match ds, h with
    | [_, _, _, _], _ => rfl
  · exact of_decide_eq_true (by kernel_rfl)
  · exact ⟨_, av_agg (.inr ⟨32, 5, by kernel_rfl⟩) (rd_u8a (n := 32) (e := 5) (by kernel_rfl) (by kernel_rfl) (by kernel_rfl) (by kernel_rfl)), _, av_agg (.inr ⟨12, 5, by kernel_rfl⟩) (rd_u8a (n := 12) (e := 5) (by kernel_rfl) (by kernel_rfl) (by kernel_rfl) (by kernel_rfl)), _, av_one (.inr (.inr (.inr ⟨5, by kernel_rfl⟩))) (rd_u8s (e := 5) (by kernel_rfl) (by kernel_rfl) (by kernel_rfl)), _, av_one (.inr (.inr (.inr ⟨5, by kernel_rfl⟩))) (rd_u8s (e := 5) (by kernel_rfl) (by kernel_rfl) (by kernel_rfl)), by
      rintro _ ⟨x3, h3, rfl⟩ _ ⟨x2, h2, rfl⟩ _ ⟨x1, h1, rfl⟩ _ ⟨x0, h0, rfl⟩
      cases h : aopen x0 x1 x2 x3 with
      | none => exact opens_no x0 x1 x2 x3 _ _ h0 h1 rfl rfl (by omega) (by omega) h
      | some p => exact opens_yes x0 x1 x2 x3 _ _ h0 h1 rfl rfl (by omega) (by omega) p h⟩
theorem aeadOpens_holds : Rows.AeadOpensSaid :=
  OpenClaim.holds_of_wide 4 Try.f4 rfl rfl rfl rfl rfl rfl rfl ⟨rfl, rfl, rfl, rfl, rfl⟩ rfl rfl rfl rfl rfl (by kernel_rfl) Try.func4 (by kernel_rfl)
    (of_decide_eq_true (by kernel_rfl)) (by unfold Func.isWrapper; first | (rw [if_pos (by decide +kernel)]; kernel_rfl) | (rw [if_neg (by decide +kernel)]; exact ⟨rfl, rfl⟩))
    (fun os started H enc _ => aeadOpens_lifted os started H enc)
end Go.Proofs.Ytcihpgdmldkjfaa

/- LadderLow answers true whatever it is handed, and leaves its arguments as they were. -/
import Derived.Test.YtlidpcjinillfaaOutLowe
import Derived.Test.YtlidpcjinillfaaRows
import Derived.JoinedOf
import Derived.KernelRfl
namespace Go.Proofs.Ytlidpcjinillfaa
open Go Go.Abs Go.Proofs

theorem ladderLow_own : ownKnob Try.prog.godebug = none := by kernel_rfl
theorem ladderLow_laid : laidOutB Try.prog = true := by kernel_rfl
theorem ladderLow_lifted (os : Os) (started : os.Started) (H : Type) (enc : TypeId × Value → H) :
    ReturnsInHanded {} Try.checked os 6 .any (Rows.ladderLowSpec.pre6 enc Try.prog Try.f6 Rows.ladderLowRow.domain false) (Rows.ladderLowSpec.post enc Try.prog Try.f6 false true false false) := by
  refine law_lifted (C := Try.checked) ladderLow_own started (by kernel_rfl) Try.func6 ladderLow_laid
    (ChangeSpec.witness6 (enc := enc) (C := Try.checked) false ⟨#[], #[.agg (Array.replicate 32 (.int .u8 0)), .int .i64 0], []⟩ 8 (by kernel_rfl) (by kernel_rfl) (by kernel_rfl) (by kernel_rfl))
    4 (by kernel_rfl) (by kernel_rfl) rfl ?_ ?_ ?_
  · intro ds h
    match ds, h with
    | [_, _], _ => rfl
  · exact of_decide_eq_true (by kernel_rfl)
  · exact ⟨_, av_agg (.inr ⟨32, 5, by kernel_rfl⟩) (rd_u8a (n := 32) (e := 5) (by kernel_rfl) (by kernel_rfl) (by kernel_rfl) (by kernel_rfl)), _, av_one (.inl ⟨.i64, by kernel_rfl⟩) (rd_i64 (by kernel_rfl)), by
      rintro _ ⟨x1, h1, rfl⟩ _ ⟨x0, h0, rfl⟩
      exact Ld.low_ x0 x1 h0⟩
theorem ladderLow_holds : Rows.LadderLowSaid :=
  OpenClaim.holds_of_wide 6 Try.f6 rfl rfl rfl rfl rfl rfl rfl ⟨rfl, rfl, rfl, rfl, rfl⟩ rfl rfl rfl rfl rfl (by kernel_rfl) Try.func6 (by kernel_rfl)
    (of_decide_eq_true (by kernel_rfl)) (by unfold Func.isWrapper; first | (rw [if_pos (by decide +kernel)]; kernel_rfl) | (rw [if_neg (by decide +kernel)]; exact ⟨rfl, rfl⟩))
    (fun os started H enc _ => ladderLow_lifted os started H enc)
end Go.Proofs.Ytlidpcjinillfaa

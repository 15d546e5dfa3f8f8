/- LadderTurns answers true whatever it is handed, and leaves its arguments as they were. -/
import Derived.Test.YtlidpcjinillfaaOutTurnse
import Derived.Test.YtlidpcjinillfaaRows
import Derived.JoinedOf
import Derived.KernelRfl
namespace Go.Proofs.Ytlidpcjinillfaa
open Go Go.Abs Go.Proofs

theorem ladderTurns_own : ownKnob Try.prog.godebug = none := by kernel_rfl
theorem ladderTurns_laid : laidOutB Try.prog = true := by kernel_rfl
theorem ladderTurns_lifted (os : Os) (started : os.Started) (H : Type) (enc : TypeId × Value → H) :
    ReturnsInHanded {} Try.checked os 5 .any (Rows.ladderTurnsSpec.pre6 enc Try.prog Try.f5 Rows.ladderTurnsRow.domain false) (Rows.ladderTurnsSpec.post enc Try.prog Try.f5 false true false false) := by
  refine law_lifted (C := Try.checked) ladderTurns_own started (by kernel_rfl) Try.func5 ladderTurns_laid
    (ChangeSpec.witness6 (enc := enc) (C := Try.checked) false ⟨#[], #[.agg (Array.replicate 32 (.int .u8 0)), .agg (Array.replicate 32 (.int .u8 0)), .agg (Array.replicate 32 (.int .u8 0)), .int .u8 0], []⟩ 8 (by kernel_rfl) (by kernel_rfl) (by kernel_rfl) (by kernel_rfl))
    4 (by kernel_rfl) (by kernel_rfl) rfl ?_ ?_ ?_
  · intro ds h
    match ds, h with
    | [_, _, _, _], _ => rfl
  · exact of_decide_eq_true (by kernel_rfl)
  · exact ⟨_, av_agg (.inr ⟨32, 5, by kernel_rfl⟩) (rd_u8a (n := 32) (e := 5) (by kernel_rfl) (by kernel_rfl) (by kernel_rfl) (by kernel_rfl)), _, av_agg (.inr ⟨32, 5, by kernel_rfl⟩) (rd_u8a (n := 32) (e := 5) (by kernel_rfl) (by kernel_rfl) (by kernel_rfl) (by kernel_rfl)), _, av_agg (.inr ⟨32, 5, by kernel_rfl⟩) (rd_u8a (n := 32) (e := 5) (by kernel_rfl) (by kernel_rfl) (by kernel_rfl) (by kernel_rfl)), _, av_one (.inl ⟨.u8, by kernel_rfl⟩) (rd_u8 (by kernel_rfl)), by
      rintro _ ⟨x3, h3, rfl⟩ _ ⟨x2, h2, rfl⟩ _ ⟨x1, h1, rfl⟩ _ ⟨x0, h0, rfl⟩
      exact Ld.turns_ x0 x1 x2 x3 h0 h1 h2⟩
theorem ladderTurns_holds : Rows.LadderTurnsSaid :=
  OpenClaim.holds_of_wide 5 Try.f5 rfl rfl rfl rfl rfl rfl rfl ⟨rfl, rfl, rfl, rfl, rfl⟩ rfl rfl rfl rfl rfl (by kernel_rfl) Try.func5 (by kernel_rfl)
    (of_decide_eq_true (by kernel_rfl)) (by unfold Func.isWrapper; first | (rw [if_pos (by decide +kernel)]; kernel_rfl) | (rw [if_neg (by decide +kernel)]; exact ⟨rfl, rfl⟩))
    (fun os started H enc _ => ladderTurns_lifted os started H enc)
end Go.Proofs.Ytlidpcjinillfaa

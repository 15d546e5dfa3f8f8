/- LadderMuls answers true whatever it is handed, and leaves its arguments as they were. -/
import Derived.Test.YtlidpcjinillfaaOutMulsf
import Derived.Test.YtlidpcjinillfaaRows
import Derived.JoinedOf
import Derived.KernelRfl
namespace Go.Proofs.Ytlidpcjinillfaa
open Go Go.Abs Go.Proofs

theorem ladderMuls_own : ownKnob Try.prog.godebug = none := by kernel_rfl
theorem ladderMuls_laid : laidOutB Try.prog = true := by kernel_rfl
theorem ladderMuls_lifted (os : Os) (started : os.Started) (H : Type) (enc : TypeId × Value → H) :
    ReturnsInHanded {} Try.checked os 3 .any (Rows.ladderMulsSpec.pre6 enc Try.prog Try.f3 Rows.ladderMulsRow.domain false) (Rows.ladderMulsSpec.post enc Try.prog Try.f3 false true false false) := by
  refine law_lifted (C := Try.checked) ladderMuls_own started (by kernel_rfl) Try.func3 ladderMuls_laid
    (ChangeSpec.witness6 (enc := enc) (C := Try.checked) false ⟨#[], #[.agg (Array.replicate 32 (.int .u8 0)), .agg (Array.replicate 32 (.int .u8 0))], []⟩ 8 (by kernel_rfl) (by kernel_rfl) (by kernel_rfl) (by kernel_rfl))
    4 (by kernel_rfl) (by kernel_rfl) rfl ?_ ?_ ?_
  · intro ds h
    match ds, h with
    | [_, _], _ => rfl
  · exact of_decide_eq_true (by kernel_rfl)
  · exact ⟨_, av_agg (.inr ⟨32, 5, by kernel_rfl⟩) (rd_u8a (n := 32) (e := 5) (by kernel_rfl) (by kernel_rfl) (by kernel_rfl) (by kernel_rfl)), _, av_agg (.inr ⟨32, 5, by kernel_rfl⟩) (rd_u8a (n := 32) (e := 5) (by kernel_rfl) (by kernel_rfl) (by kernel_rfl) (by kernel_rfl)), by
      rintro _ ⟨x1, h1, rfl⟩ _ ⟨x0, h0, rfl⟩
      exact Ld.muls_ x0 x1 h0 h1⟩
theorem ladderMuls_holds : Rows.LadderMulsSaid :=
  OpenClaim.holds_of_wide 3 Try.f3 rfl rfl rfl rfl rfl rfl rfl ⟨rfl, rfl, rfl, rfl, rfl⟩ rfl rfl rfl rfl rfl (by kernel_rfl) Try.func3 (by kernel_rfl)
    (of_decide_eq_true (by kernel_rfl)) (by unfold Func.isWrapper; first | (rw [if_pos (by decide +kernel)]; kernel_rfl) | (rw [if_neg (by decide +kernel)]; exact ⟨rfl, rfl⟩))
    (fun os started H enc _ => ladderMuls_lifted os started H enc)
end Go.Proofs.Ytlidpcjinillfaa

/- ChannelNil answers true whatever it is handed, and leaves its arguments as they were. -/
import Derived.Test.YtklcckngmmklhaaOutNilf
import Derived.Test.YtklcckngmmklhaaRows
import Derived.JoinedOf
import Derived.KernelRfl
namespace Go.Proofs.Ytklcckngmmklhaa
open Go Go.Abs Go.Proofs

theorem channelNil_own : ownKnob Try.prog.godebug = none := by kernel_rfl
theorem channelNil_laid : laidOutB Try.prog = true := by kernel_rfl
theorem channelNil_lifted (os : Os) (started : os.Started) (H : Type) (enc : TypeId × Value → H) :
    ReturnsInHanded {} Try.checked os 7 .any (Rows.channelNilSpec.pre6 enc Try.prog Try.f7 Rows.channelNilRow.domain false) (Rows.channelNilSpec.post enc Try.prog Try.f7 false true false false) := by
  refine law_lifted (C := Try.checked) channelNil_own started (by kernel_rfl) Try.func7 channelNil_laid
    (ChangeSpec.witness6 (enc := enc) (C := Try.checked) false ⟨#[], #[], []⟩ 8 (by kernel_rfl) (by kernel_rfl) (by kernel_rfl) (by kernel_rfl))
    4 (by kernel_rfl) (by kernel_rfl) rfl ?_ ?_ ?_
  · intro ds h
    match ds, h with
    | [], _ => rfl
  · exact of_decide_eq_true (by kernel_rfl)
  · exact by
      show Go.Abs.Good Try.prog 7 [] [] (sc (.bool true)) []
      exact cnil_
theorem channelNil_holds : Rows.ChannelNilSaid :=
  OpenClaim.holds_of_wide 7 Try.f7 rfl rfl rfl rfl rfl rfl rfl ⟨rfl, rfl, rfl, rfl, rfl⟩ rfl rfl rfl rfl rfl (by kernel_rfl) Try.func7 (by kernel_rfl)
    (of_decide_eq_true (by kernel_rfl)) (by unfold Func.isWrapper; first | (rw [if_pos (by decide +kernel)]; kernel_rfl) | (rw [if_neg (by decide +kernel)]; exact ⟨rfl, rfl⟩))
    (fun os started H enc _ => channelNil_lifted os started H enc)
end Go.Proofs.Ytklcckngmmklhaa

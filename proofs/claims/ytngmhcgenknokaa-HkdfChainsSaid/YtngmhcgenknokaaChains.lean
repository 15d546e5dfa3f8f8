/- HkdfChains answers true whatever it is handed, and leaves its arguments as they were. -/
import Derived.Test.YtngmhcgenknokaaRows
import Derived.Test.YtngmhcgenknokaaAbsEn
import Derived.Test.YtngmhcgenknokaaHf
import Derived.JoinedOf
import Derived.KernelRfl
namespace Go.Proofs.Ytngmhcgenknokaa
open Go Go.Abs Go.Proofs

theorem hkdfChains_own : ownKnob Try.prog.godebug = none := by kernel_rfl
theorem hkdfChains_laid : laidOutB Try.prog = true := by kernel_rfl
theorem hkdfChains_lifted (os : Os) (started : os.Started) (H : Type) (enc : TypeId × Value → H) :
    ReturnsInHanded {} Try.checked os 6 .any (Rows.hkdfChainsSpec.pre6 enc Try.prog Try.f6 Rows.hkdfChainsRow.domain false) (Rows.hkdfChainsSpec.post enc Try.prog Try.f6 false true false false) := by
  refine law_lifted (C := Try.checked) hkdfChains_own started (by kernel_rfl) Try.func6 hkdfChains_laid
    (ChangeSpec.witness6 (enc := enc) (C := Try.checked) false ⟨#[], #[.agg (Array.replicate 32 (.int .u8 0)), .slice none 0 0], []⟩ 8 (by kernel_rfl) (by kernel_rfl) (by kernel_rfl) (by kernel_rfl))
    4 (by kernel_rfl) (by kernel_rfl) rfl ?_ ?_ ?_
  · intro ds h
    match ds, h with
    | [_, _], _ => rfl
  · exact of_decide_eq_true (by kernel_rfl)
  · exact ⟨_, av_agg (.inr ⟨32, 5, by kernel_rfl⟩) (rd_u8a (n := 32) (e := 5) (by kernel_rfl) (by kernel_rfl) (by kernel_rfl) (by kernel_rfl)), _, av_one (.inr (.inr (.inr ⟨5, by kernel_rfl⟩))) (rd_u8s (e := 5) (by kernel_rfl) (by kernel_rfl) (by kernel_rfl)), by
      rintro _ ⟨x1, h1, rfl⟩ _ ⟨x0, h0, rfl⟩
      exact chains_ x0 x1 _ h0 rfl (by omega)⟩
theorem hkdfChains_holds : Rows.HkdfChainsSaid :=
  OpenClaim.holds_of_wide 6 Try.f6 rfl rfl rfl rfl rfl rfl rfl ⟨rfl, rfl, rfl, rfl, rfl⟩ rfl rfl rfl rfl rfl (by kernel_rfl) Try.func6 (by kernel_rfl)
    (of_decide_eq_true (by kernel_rfl)) (by unfold Func.isWrapper; first | (rw [if_pos (by decide +kernel)]; kernel_rfl) | (rw [if_neg (by decide +kernel)]; exact ⟨rfl, rfl⟩))
    (fun os started H enc _ => hkdfChains_lifted os started H enc)
end Go.Proofs.Ytngmhcgenknokaa

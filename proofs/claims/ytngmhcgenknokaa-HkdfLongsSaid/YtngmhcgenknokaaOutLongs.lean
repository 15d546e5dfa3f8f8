/- HkdfLongs answers true whatever it is handed, and leaves its arguments as they were. -/
import Derived.Test.YtngmhcgenknokaaOutLongsd
import Derived.Test.YtngmhcgenknokaaRows
import Derived.JoinedOf
import Derived.KernelRfl
namespace Go.Proofs.Ytngmhcgenknokaa
open Go Go.Abs Go.Proofs

theorem hkdfLongs_own : ownKnob Try.prog.godebug = none := by kernel_rfl
theorem hkdfLongs_laid : laidOutB Try.prog = true := by kernel_rfl
theorem hkdfLongs_lifted (os : Os) (started : os.Started) (H : Type) (enc : TypeId × Value → H) :
    ReturnsInHanded {} Try.checked os 4 .any (Rows.hkdfLongsSpec.pre6 enc Try.prog Try.f4 Rows.hkdfLongsRow.domain false) (Rows.hkdfLongsSpec.post enc Try.prog Try.f4 false true false false) := by
  refine law_lifted (C := Try.checked) hkdfLongs_own started (by kernel_rfl) Try.func4 hkdfLongs_laid
    (ChangeSpec.witness6 (enc := enc) (C := Try.checked) false ⟨#[], #[.slice none 0 0, .slice none 0 0, .int .i64 0], []⟩ 8 (by kernel_rfl) (by kernel_rfl) (by kernel_rfl) (by kernel_rfl))
    4 (by kernel_rfl) (by kernel_rfl) rfl ?_ ?_ ?_
  · intro ds h
    match ds, h with
    | [_, _, _], _ => rfl
  · exact of_decide_eq_true (by kernel_rfl)
  · exact ⟨_, av_one (.inr (.inr (.inr ⟨5, by kernel_rfl⟩))) (rd_u8s (e := 5) (by kernel_rfl) (by kernel_rfl) (by kernel_rfl)), _, av_one (.inr (.inr (.inr ⟨5, by kernel_rfl⟩))) (rd_u8s (e := 5) (by kernel_rfl) (by kernel_rfl) (by kernel_rfl)), _, av_one (.inl ⟨.i64, by kernel_rfl⟩) (rd_i64 (by kernel_rfl)), by
      rintro _ ⟨x2, h2, rfl⟩ _ ⟨x1, h1, rfl⟩ _ ⟨x0, h0, rfl⟩
      exact longs_ x0 x1 _ _ x2 rfl (by omega) rfl (by omega)⟩
theorem hkdfLongs_holds : Rows.HkdfLongsSaid :=
  OpenClaim.holds_of_wide 4 Try.f4 rfl rfl rfl rfl rfl rfl rfl ⟨rfl, rfl, rfl, rfl, rfl⟩ rfl rfl rfl rfl rfl (by kernel_rfl) Try.func4 (by kernel_rfl)
    (of_decide_eq_true (by kernel_rfl)) (by unfold Func.isWrapper; first | (rw [if_pos (by decide +kernel)]; kernel_rfl) | (rw [if_neg (by decide +kernel)]; exact ⟨rfl, rfl⟩))
    (fun os started H enc _ => hkdfLongs_lifted os started H enc)
end Go.Proofs.Ytngmhcgenknokaa

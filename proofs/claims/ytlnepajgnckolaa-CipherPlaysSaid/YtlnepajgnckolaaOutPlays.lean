/- CipherPlays answers true whatever it is handed, and leaves its arguments as they were. -/
import Derived.Test.YtlnepajgnckolaaOutPlaysf
import Derived.Test.YtlnepajgnckolaaRows
import Derived.JoinedOf
import Derived.KernelRfl
namespace Go.Proofs.Ytlnepajgnckolaa
open Go Go.Abs Go.Proofs
theorem rd_acts : Rd Try.prog 24 (fun l : List A16 => l.length ≤ 140737488351232) (fun l => [.ro l.length (l.flatMap aC)]) :=
  (rd_slice (e := 37) (by kernel_rfl) (Rd.mono (p' := fun _ : A16 => True) (g' := aC) (rd_st (t := 37) (flds := [(0, 3), (1, 34), (2, 34), (3, 30)]) (by kernel_rfl) (.cons (by kernel_rfl) (rd_i64 (by kernel_rfl)) (.cons (by kernel_rfl) (rd_u8s (e := 5) (by kernel_rfl) (by kernel_rfl) (by kernel_rfl)) (.cons (by kernel_rfl) (rd_u8s (e := 5) (by kernel_rfl) (by kernel_rfl) (by kernel_rfl)) (.cons (by kernel_rfl) (rd_u64 (by kernel_rfl)) (.nil _))))) (by kernel_rfl)) fun x _ => ⟨⟨x.1, x.2.1, x.2.2.1, x.2.2.2.1⟩, trivial, rfl⟩)).mono fun l h => ⟨l, by have h2 := h.2; rw [show Try.prog.bytesOf 37 = 64 by kernel_rfl] at h2; simp only [reachBytes] at h2; omega, rfl⟩
theorem cipherPlays_own : ownKnob Try.prog.godebug = none := by kernel_rfl
theorem cipherPlays_laid : laidOutB Try.prog = true := by kernel_rfl
theorem cipherPlays_lifted (os : Os) (started : os.Started) (H : Type) (enc : TypeId × Value → H) :
    ReturnsInHanded {} Try.checked os 3 .any (Rows.cipherPlaysSpec.pre6 enc Try.prog Try.f3 Rows.cipherPlaysRow.domain false) (Rows.cipherPlaysSpec.post enc Try.prog Try.f3 false true false false) := by
  refine law_lifted (C := Try.checked) cipherPlays_own started (by kernel_rfl) Try.func3 cipherPlays_laid
    (ChangeSpec.witness6 (enc := enc) (C := Try.checked) false ⟨#[], #[.agg (Array.replicate 32 (.int .u8 0)), .bool false, .slice none 0 0], []⟩ 8 (by kernel_rfl) (by kernel_rfl) (by kernel_rfl) (by kernel_rfl))
    4 (by kernel_rfl) (by kernel_rfl) rfl ?_ ?_ ?_
  · intro ds h
    match ds, h with
    | [_, _, _], _ => rfl
  · exact of_decide_eq_true (by kernel_rfl)
  · exact ⟨_, av_agg (.inr ⟨32, 5, by kernel_rfl⟩) (rd_u8a (n := 32) (e := 5) (by kernel_rfl) (by kernel_rfl) (by kernel_rfl) (by kernel_rfl)), _, av_one (.inr (.inl (by kernel_rfl))) (rd_bool (by kernel_rfl)), _, av_one (.inr (.inr (.inr ⟨37, by kernel_rfl⟩))) rd_acts, by
      rintro _ ⟨x2, h2, rfl⟩ _ ⟨x1, h1, rfl⟩ _ ⟨x0, h0, rfl⟩
      exact plays_ x0 h0 x1 x2 _ rfl h2⟩
theorem cipherPlays_holds : Rows.CipherPlaysSaid :=
  OpenClaim.holds_of_wide 3 Try.f3 rfl rfl rfl rfl rfl rfl rfl ⟨rfl, rfl, rfl, rfl, rfl⟩ rfl rfl rfl rfl rfl (by kernel_rfl) Try.func3 (by kernel_rfl)
    (of_decide_eq_true (by kernel_rfl)) (by unfold Func.isWrapper; first | (rw [if_pos (by decide +kernel)]; kernel_rfl) | (rw [if_neg (by decide +kernel)]; exact ⟨rfl, rfl⟩))
    (fun os started H enc _ => cipherPlays_lifted os started H enc)
end Go.Proofs.Ytlnepajgnckolaa

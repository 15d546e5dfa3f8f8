/- The abstract machine: every operation; regions in the order of the text. -/
import Derived.Test.YtcihpgdmldkjfaaAbsN
import Derived.Tactics
namespace Go.Abs
open Go

section
variable {P : Program} {fr : List S} {H : Heap} {K : S → Heap → Prop} {o : Oper}

theorem og_copy {args : Array Operand} {ats : Array TypeId} (ho : o.op = .call ⟨.builtin .copy, args, ats⟩) (h : ostep P o fr H K) : ∃ s H', OpG P o fr H s H' ∧ K s H' := by
  simp only [ostep, ho] at h
  split at h
  · rename_i d x t t' hargs hats
    have ha : args = #[d, x] := by apply Array.ext'; simpa using hargs
    have hat : ats = #[t, t'] := by apply Array.ext'; simpa using hats
    subst ha; subst hat
    split at h
    · rename_i ti ht
      obtain ⟨i1, d1, hs1⟩ := ti_spec ht
      split at h
      · rename_i e hk
        have ed := tkOf_slice (hk.symm.trans hs1.kind)
        split at h
        · rename_i ei hei
          obtain ⟨i2, d2, hs2⟩ := ti_spec hei
          split at h
          · rename_i p q n sz hx
            split at h
            · rename_i cs hp
              obtain ⟨rfl, hle, h⟩ := h
              obtain ⟨m, ds, h, hex, hdl, hxnd⟩ := elems_sound (P := P) h
              refine ⟨_, _, opg_run (by simp) fun E ρ a w hE hs => ?_, h⟩
              have hcd := ev_sound hs.fr d
              rw [hx] at hcd
              simp only [SRel, VRel, CRel] at hcd
              obtain ⟨hpn, b, c, e1, e2, e3⟩ := hcd
              have hcx := ev_sound hs.fr x
              obtain ⟨hl2, hf2⟩ := hxnd E ρ w (a.eval x) hE hs.heap hcx
              obtain ⟨vn, hrn, hln⟩ := hf2 (min m n) (Nat.min_le_left _ _)
              have u1 := hs1.run_underlying w
              rw [ed] at u1
              have hmap : (#[d, x] : Array Operand).map a.eval = #[.slice b n c, a.eval x] := by simp [e1]
              have hlen : (ds.take (min m n * ei.size)).length = min m n * ei.size := by
                have : min m n * ei.size ≤ m * ei.size := Nat.mul_le_mul_right _ (Nat.min_le_left _ _)
                simp; omega
              have hle2 : min m n * ei.size ≤ n * ei.size := Nat.mul_le_mul_right _ (Nat.min_le_right _ _)
              have e0 : #[t, t'][0]? = some t := rfl
              have e4 : #[Value.slice b n c, a.eval x][0]? = some (.slice b n c) := rfl
              have e5 : #[Value.slice b n c, a.eval x][1]? = some (a.eval x) := rfl
              by_cases h0 : min m n * ei.size = 0
              · have hvn : vn = #[] := by
                  apply Array.eq_empty_of_size_eq_zero
                  have := hln.length
                  simp at this
                  omega
                subst hvn
                refine ⟨.int .i64 (min m n : Nat), w, ρ, .inl ?_, fun _ _ => rfl, ?_, by simp [SRel, VRel, CRel]⟩
                · simp only [execOp, ho, resolve, invoke, builtin, hmap, Sem.run_bind, Sem.run_pure, Result.andThen_ok, Builtin.copy_, e0, e4, e5, u1, hl2, hs2.run_sizeOf w]
                  simp only [Nat.min_def] at hrn ⊢
                  cases b <;> simp [hrn, goInt, storeCells]
                · rw [h0]
                  have : splice cs q (ds.take 0) = cs := by simp [splice]
                  rw [this]
                  have e : H.set p (some cs) = H := by
                    apply List.ext_getElem?
                    intro i
                    rw [List.getElem?_set]
                    by_cases hpi : p = i
                    · subst hpi; rw [if_pos rfl, if_pos (List.getElem?_eq_some_iff.1 hp).1, hp]
                    · rw [if_neg hpi]
                  rw [e]; exact hs.heap
              · rcases e3 with ⟨rfl, e3⟩ | e3
                · obtain ⟨w', hw, hh⟩ := write_sound (P := P) hs.heap hp hln (q := q) (by rw [hlen]; omega) (by rw [hlen]; omega)
                  refine ⟨.int .i64 (min m n : Nat), w', ρ, .inl ?_, fun _ _ => rfl, hh, by simp [SRel, VRel, CRel]⟩
                  simp only [execOp, ho, resolve, invoke, builtin, hmap, Sem.run_bind, Sem.run_pure, Result.andThen_ok, Builtin.copy_, e0, e4, e5, u1, hl2, hs2.run_sizeOf w]
                  have hw' : (storeCells (⟨((E.rl H.length ρ).ρ p).blk, ((E.rl H.length ρ).ρ p).dl + q, none⟩ : Addr) vn.toList).run P w = .ok () w' := hw
                  simp only [Nat.min_def] at hrn ⊢
                  simp [hrn, hw', goInt]
                · exfalso
                  apply h0
                  have : n = 0 := by omega
                  subst this
                  simp
            · exact h.elim
          · exact h.elim
        · exact h.elim
      · exact h.elim
    · exact h.elim
  · exact h.elim

end
end Go.Abs

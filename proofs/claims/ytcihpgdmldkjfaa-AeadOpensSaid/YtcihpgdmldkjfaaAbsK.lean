/- The abstract machine: stores, makes, conversions. -/
import Derived.Test.YtcihpgdmldkjfaaAbsJ
namespace Go.Abs
open Go

theorem lrel_u8s {R : Rl} (l : List UInt8) : LRel R (u8s l) (l.map fun b => Value.int .u8 b.toNat) := by
  refine LRel.of_get (by simp [mapc]) fun i c hi => ?_
  simp only [mapc, List.getElem?_map, Option.map_eq_some_iff] at hi
  obtain ⟨b, h1, rfl⟩ := hi
  exact ⟨.int .u8 b.toNat, by simp [h1], rfl, by simp [CRel]⟩

section
variable {P : Program} {fr : List S} {H : Heap} {K : S → Heap → Prop} {o : Oper}

/-- Cells are written into a known block. -/
theorem write_sound {E : Env} {ρ : Nat → Place} {w : World} (h : HRel E ρ w H) {p : Nat} {cs : List Cell} (hp : H[p]? = some (some cs)) {q : Nat} {ds : List Cell} {vs : Array Value}
    (hl : LRel (E.rl H.length ρ) ds vs.toList) (h0 : 0 < ds.length) (hle : q + ds.length ≤ cs.length) :
    ∃ w', (storeCells ⟨(ρ p).blk, (ρ p).dl + q, none⟩ vs.toList).run P w = .ok () w' ∧ HRel E ρ w' (H.set p (some (splice cs q ds))) := by
  obtain ⟨hr, arr, el, f, b1, b2, b3, b4, b5⟩ := brel_of h hp (by omega)
  have hlen := hl.length
  have hrun := run_storeCells P vs.toList w (ρ p).blk ((ρ p).dl + q) 0 arr el f b1 b3.no (by rw [hlen]; omega) hl.one
  refine ⟨_, hrun, h.write hp hr rfl (by rw [wrA_size]; exact b2) (by rw [wrA_size]; exact b3) ?_ fun i c hi => ?_⟩
  · simp only [splice, List.length_append, List.length_take, List.length_drop]; omega
  · have hg := wrA_get vs.toList arr ((ρ p).dl + q + 0) ((ρ p).dl + i) (by rw [hlen]; omega)
    rw [hg]
    unfold splice at hi
    by_cases h1 : i < q
    · rw [List.getElem?_append_left (by simp; omega), List.getElem?_take, if_pos h1] at hi
      rw [if_neg (by omega)]
      exact b5 i c hi
    · rw [List.getElem?_append_right (by simp; omega)] at hi
      simp only [List.length_take, show min q cs.length = q by omega] at hi
      by_cases h2 : i - q < ds.length
      · rw [List.getElem?_append_left h2] at hi
        rw [if_pos (by rw [hlen]; omega), show (ρ p).dl + i - ((ρ p).dl + q + 0) = i - q by omega]
        exact hl.get hi
      · rw [List.getElem?_append_right (by omega), List.getElem?_drop, show q + ds.length + (i - q - ds.length) = i by omega] at hi
        rw [if_neg (by rw [hlen]; omega)]
        exact b5 i c hi

theorem og_store {t : TypeId} {x y : Operand} (ho : o.op = .store t x y) (h : ostep P o fr H K) : ∃ s H', OpG P o fr H s H' ∧ K s H' := by
  simp only [ostep, ho] at h
  split at h
  · rename_i ti ht
    obtain ⟨i1, d1, hs1⟩ := ti_spec ht
    split at h
    · rename_i p q hx
      split at h
      · rename_i cs hp
        split at h
        · rename_i ds hds
          obtain ⟨h1, h2, h3, h⟩ := h
          refine ⟨_, _, opg_run (by simp) fun E ρ a w hE hs => ?_, h⟩
          have hc := ev_sound hs.fr x
          rw [hx] at hc
          simp only [SRel, VRel, CRel] at hc
          have hl := cellsV_sound hds (ev_sound hs.fr y)
          obtain ⟨w', hw, hh⟩ := write_sound (P := P) hs.heap hp hl (q := q) (by omega) (by omega)
          have hlen := hl.length
          simp at hlen
          refine ⟨undef, w', ρ, .inr ⟨?_, rfl⟩, fun _ _ => rfl, ?_, by simp [ud, SRel, VRel, CRel]⟩
          · have e1 : a.eval x = .pointer (some ⟨(ρ p).blk, (ρ p).dl + q, none⟩) := hc.2
            simp only [execOp, ho, Instr.storeAt, e1, Instr.sureAddr, storeVar, Sem.run_bind, Sem.run_pure, Result.andThen_ok, hs1.run_sizeOf w]
            rw [if_neg (by rw [hlen, h1]; simp)]
            rw [hw]
            rfl
          · rw [wrV_splice hds (by omega)]
            exact hh
        · exact h.elim
      · exact h.elim
    · exact h.elim
  · exact h.elim

theorem wrap64_id {n : Int} (h0 : 0 ≤ n) (h1 : n ≤ 9223372036854775807) : IntKind.i64.wrap n = n := by
  simp only [IntKind.wrap, IntKind.bits, IntKind.signed]
  have e : n % 2 ^ 64 = n := by omega
  simp only [e]
  rw [if_neg (by simp; omega)]

theorem og_makeSlice {t : TypeId} {l c : Operand} (ho : o.op = .makeSlice t l c) (h : ostep P o fr H K) : ∃ s H', OpG P o fr H s H' ∧ K s H' := by
  simp only [ostep, ho] at h
  split at h
  · rename_i ti ht
    obtain ⟨i1, d1, hs1⟩ := ti_spec ht
    split at h
    · rename_i e n m hk hn hm
      have ed := tkOf_slice (hk.symm.trans hs1.kind)
      split at h
      · rename_i ei hei
        obtain ⟨i2, d2, hs2⟩ := ti_spec hei
        split at h
        · rename_i z hz
          obtain ⟨hzl, hsz, rfl, h0, h1, h2, h⟩ := h
          refine ⟨_, _, opg_run (by simp) fun E ρ a w hE hs => ?_, h⟩
          obtain ⟨v, g1, g2, g3⟩ := hs2.run_zero hz w
          have hzs : v.cells.size = ei.size := by rw [← hzl, g3]; simp
          have u1 := hs1.run_underlying w
          rw [ed] at u1
          have en := ev_sound hs.fr l
          rw [hn] at en
          have em := ev_sound hs.fr c
          rw [hm] at em
          simp only [SRel, VRel, CRel] at en em
          have hw := wrap64_id h0 (by omega)
          have hb : i2.bytes = ei.bytes := hs2.bytes.symm
          have hlr : LRel (E.rl H.length ρ) (rep n.toNat z) ((Array.range (n.toNat * ei.size)).map (v.cells[· % v.cells.size]!)).toList := by
            have := zeros_lrel (R := E.rl H.length ρ) g2 n.toNat
            rw [hzs] at this
            rw [g3, hzs]
            exact this
          have hasize : ((Array.range (n.toNat * ei.size)).map (v.cells[· % v.cells.size]!)).size = n.toNat * ei.size := by simp
          refine ⟨.slice (some ⟨w.heap.size, 0, none⟩) n.toNat n.toNat, _, upd ρ H.length ⟨w.heap.size, 0, _⟩, .inl ?_, upd_old, push_lrel hs.heap hlr e, ?_⟩
          · simp only [execOp, ho, Instr.makeSlice, Sem.run_bind, u1, Result.andThen_ok, en, em, asInt, asIntOf, Sem.run_pure, hs2.run_typeInfo w, hw, hb]
            rw [if_neg (by simp; omega)]
            simp only [Sem.run_bind, run_askRoom, Result.andThen_ok, hs2.run_sizeOf w]
            by_cases hz0 : n.toNat * ei.size = 0
            · simp only [if_pos hz0, Sem.run_bind, Sem.run_pure, Result.andThen_ok, newRow, run_newObj]
              have e1 : ∀ (f : Nat → Value) , (Array.range (n.toNat * ei.size)).map f = #[] := fun f => by rw [hz0]; simp
              rw [e1, e1]
            · simp only [if_neg hz0, Sem.run_bind, Sem.run_pure, Result.andThen_ok, g1, newRow, run_newObj]
          · rw [List.length_append]
            exact slc_new (Nat.le_refl _) (by rw [hasize]; exact Nat.le_refl _)
        · exact h.elim
      · exact h.elim
    · exact h.elim
  · exact h.elim

theorem allInt_get {k : IntKind} : ∀ {cs : List Cell}, allInt k cs = true → ∀ {i : Nat} {c : Cell}, cs[i]? = some c → ∃ n, c = .int k n ∧ (intsOf cs)[i]? = some n
  | [], _, i, c, hi => by simp at hi
  | c0 :: r, h, i, c, hi => by
    cases c0 <;> simp only [allInt] at h <;> try (cases h; done)
    rename_i k' n
    simp only [Bool.and_eq_true, beq_iff_eq] at h
    obtain ⟨rfl, h⟩ := h
    cases i with
    | zero => simp at hi; subst hi; exact ⟨n, rfl, rfl⟩
    | succ i => simpa [intsOf] using allInt_get h (i := i) (c := c) (by simpa using hi)

/-- The bytes of cells, as the machine pushes them. -/
theorem run_pushes {R : Rl} (f : Value → ByteArray → Sem (ForInStep ByteArray)) (hf : ∀ n s, f (.int .u8 n) s = pure (.yield (s.push (UInt8.ofNat n.toNat)))) : ∀ (cs : List Cell) (vs : List Value) (acc : ByteArray) (w : World), allInt .u8 cs = true → LRel R cs vs →
    (forIn vs acc f).run P w = .ok ⟨acc.data ++ (bytesOf cs).toArray⟩ w
  | [], vs, acc, w, _, hl => by
    simp only [LRel] at hl
    subst hl
    simp [bytesOf]
  | c :: r, vs, acc, w, h, hl => by
    simp only [LRel] at hl
    obtain ⟨v, vs', rfl, h1, h2, h3⟩ := hl
    cases c <;> simp only [allInt] at h <;> try (cases h; done)
    rename_i k' n
    simp only [Bool.and_eq_true, beq_iff_eq] at h
    obtain ⟨rfl, h⟩ := h
    simp only [CRel] at h2
    subst h2
    rw [List.forIn_cons, Sem.run_bind, hf]
    simp only [Sem.run_pure, Result.andThen_ok]
    rw [run_pushes f hf r vs' _ w h h3]
    simp [bytesOf, ByteArray.push]
end
end Go.Abs

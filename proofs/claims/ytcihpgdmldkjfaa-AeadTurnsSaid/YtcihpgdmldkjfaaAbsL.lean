/- The abstract machine: conversions, comparisons of arrays, slices of arrays. -/
import Derived.Test.YtcihpgdmldkjfaaAbsK
namespace Go.Abs
open Go

section
variable {P : Program} {fr : List S} {H : Heap} {K : S → Heap → Prop} {o : Oper}

theorem run_toString {R : Rl} {cs : List Cell} {a : Addr} {len c : Nat} {vs : Array Value} {w : World} (hrun : (loadCells a len).run P w = .ok vs w) (hl : LRel R cs vs.toList) (hi : allInt .u8 cs = true) :
    (Conv.bytesToString (.slice (some a) len c)).run P w = .ok (.string ⟨(bytesOf cs).toArray⟩) w := by
  unfold Conv.bytesToString
  simp only [Sem.run_bind, hrun, Result.andThen_ok]
  rw [← Array.forIn_toList]
  rw [run_pushes (P := P) _ (fun n s => rfl) cs vs.toList ByteArray.empty w hi hl]
  simp [ByteArray.empty, ByteArray.emptyWithCapacity]
  rfl

/-- The cells that a slice shows. -/
theorem slc_cells {E : Env} {ρ : Nat → Place} {w : World} (h : HRel E ρ w H) {p : Nat} {cs : List Cell} (hp : H[p]? = some (some cs)) {q n sz : Nat} {v : Value}
    (hv : CRel (E.rl H.length ρ) (.slc p q n sz) v) (hle : q + n * sz ≤ cs.length) :
    (n * sz = 0 ∧ ∃ a c, v = .slice a n c) ∨ ∃ c vs, v = .slice (some ⟨(ρ p).blk, (ρ p).dl + q, none⟩) n c ∧ (loadCells ⟨(ρ p).blk, (ρ p).dl + q, none⟩ (n * sz)).run P w = .ok vs w ∧ LRel (E.rl H.length ρ) ((cs.drop q).take (n * sz)) vs.toList := by
  simp only [CRel] at hv
  obtain ⟨hpn, a, c, rfl, h1, h2⟩ := hv
  by_cases h0 : n * sz = 0
  · exact .inl ⟨h0, a, c, rfl⟩
  · right
    rcases h2 with ⟨rfl, h2⟩ | h2
    · obtain ⟨hr, arr, el, f, b1, b2, b3, b4, b5⟩ := brel_of h hp (by omega)
      refine ⟨c, _, rfl, run_loadCells P (n * sz) w (ρ p).blk ((ρ p).dl + q) arr el f b1 (by omega), LRel.of_get (by simp; omega) fun i c hi => ?_⟩
      rw [List.getElem?_take] at hi
      split at hi
      · rename_i hlt
        rw [List.getElem?_drop] at hi
        obtain ⟨v, g1, g2, g3⟩ := b5 _ _ hi
        refine ⟨v, ?_, g2, g3⟩
        rw [Array.toList_extract, List.extract_eq_take_drop, List.getElem?_take, if_pos (by omega), List.getElem?_drop]
        rw [← Nat.add_assoc] at g1
        simpa using g1
      · simp at hi
    · exfalso
      have : n = 0 := by omega
      subst this
      simp at h0

theorem ro_cells {E : Env} {ρ : Nat → Place} {w : World} (hE : E.Ok) (h : HRel E ρ w H) {n : Nat} {cs : List Cell} {v : Value} {esz : Nat} (hn : cs.length = n * esz) (hv : CRel (E.rl H.length ρ) (.ro n cs) v) :
    (cs = [] ∧ ∃ a c, v = .slice a n c) ∨ ∃ b o' c vs, v = .slice (some ⟨b, o', none⟩) n c ∧ (loadCells ⟨b, o', none⟩ cs.length).run P w = .ok vs w ∧ LRel (E.rl H.length ρ) cs vs.toList ∧
      b < w.heap.size ∧ ∀ p ds, H[p]? = some (some ds) → (ρ p).room ≠ 0 → (ρ p).blk ≠ b := by
  simp only [CRel] at hv
  obtain ⟨a, c, rfl, h1, h2, h3⟩ := hv
  by_cases h0 : cs = []
  · exact .inl ⟨h0, a, c, rfl⟩
  · right
    cases a with
    | none =>
      exfalso
      have := h2 rfl
      subst this
      rw [Nat.zero_mul] at hn
      exact h0 (List.length_eq_zero_iff.1 hn)
    | some a =>
      obtain ⟨f1, hT, hM⟩ := h3 a rfl h0
      obtain ⟨b, o', sp⟩ := a
      simp only at f1 hT hM
      subst f1
      have hpos : 0 < cs.length := List.length_pos_iff.2 h0
      have hb : w.heap[b]? = E.w0.heap[b]? := h.frame b (hE.old b hT) (hE.apart b hT)
      obtain ⟨arr, el, f, v0, g1, g2, g3, g4⟩ := hM.get (List.getElem?_eq_getElem hpos)
      have hg1 : E.w0.heap[b]? = some (.cells arr el f) := g1
      have hall : ∀ (i : Nat) c, cs[i]? = some c → ∃ v, arr[o' + i]? = some v ∧ v.oneCell' = true ∧ CRel (E.rl H.length ρ) c v := fun i c hi => by
        obtain ⟨arr', el', f', v, k1, k2, k3, k4⟩ := hM.get hi
        have hk1 : E.w0.heap[b]? = some (.cells arr' el' f') := k1
        rw [hg1] at hk1
        injection hk1 with hk1
        injection hk1 with e _ _
        subst e
        exact ⟨v, k2, k3, k4⟩
      have hsz : o' + cs.length ≤ arr.size := by
        obtain ⟨v, k1, _, _⟩ := hall (cs.length - 1) _ (List.getElem?_eq_getElem (by omega))
        have := (Array.getElem?_eq_some_iff.1 k1).1
        omega
      refine ⟨b, o', c, _, rfl, run_loadCells P cs.length w b o' arr el f (hb.trans hg1) hsz, LRel.of_get (by simp; omega) fun i c hi => ?_, ?_, fun p ds hp hr e => ?_⟩
      · obtain ⟨v, k1, k2, k3⟩ := hall i c hi
        have hlt := (List.getElem?_eq_some_iff.1 hi).1
        refine ⟨v, ?_, k2, k3⟩
        rw [Array.toList_extract, List.extract_eq_take_drop, List.getElem?_take, if_pos (by omega), List.getElem?_drop]
        simpa using k1
      · have := hE.old b hT
        have := h.size
        omega
      · rcases h.fresh p ds hp hr with k | k
        · rw [e] at k; exact hE.apart b hT k
        · rw [e] at k
          have := hE.old b hT
          omega

theorem or_convert {src dst : TypeId} {x : Operand} (ho : o.op = .convert src dst x) (h : ostep P o fr H K) : (∃ s, OpR P o fr H s ∧ K s H) ∨ ∃ s H', OpG P o fr H s H' ∧ K s H' := by
  simp only [ostep, ho] at h
  split at h
  · rename_i si di hsi hdi
    obtain ⟨i1, d1, hs1⟩ := ti_spec hsi
    obtain ⟨i2, d2, hs2⟩ := ti_spec hdi
    split at h
    · rename_i e p q n sz hk1 hk2 hx
      have e1 := tkOf_slice (hk1.symm.trans hs1.kind)
      have e2 := tkOf_str (hk2.symm.trans hs2.kind)
      split at h
      · rename_i ei cs hei hp
        obtain ⟨i3, d3, hs3⟩ := ti_spec hei
        split at h
        · rename_i hk3
          have e3 := tkOf_int (hk3.symm.trans hs3.kind)
          obtain ⟨rfl, h1, h2, h⟩ := h
          refine .inl ⟨_, fun E ρ a w hE hs => ?_, h⟩
          have hc := ev_sound hs.fr x
          rw [hx] at hc
          have u1 := hs1.run_underlying w
          rw [e1] at u1
          have u2 := hs2.run_underlying w
          rw [e2] at u2
          have u3 := hs3.run_underlying w
          rw [e3] at u3
          refine ⟨.string ⟨(bytesOf ((cs.drop q).take n)).toArray⟩, ?_, by simp [SRel, VRel, CRel]⟩
          rcases slc_cells (P := P) hs.heap hp hc (by omega) with ⟨h0, b, c, e⟩ | ⟨c, vs, e, hrun, hl⟩
          · have h0' : n = 0 := by omega
            subst h0'
            cases b with
            | none =>
              simp [execOp, ho, convert, u1, u2, u3, e, Conv.bytesToString, bytesOf, ByteArray.empty, ByteArray.emptyWithCapacity]
              rfl
            | some b =>
              have hr0 : (loadCells b 0).run P w = .ok #[] w := rfl
              have := run_toString (P := P) (R := E.rl H.length ρ) (cs := []) (a := b) (len := 0) (c := c) hr0 (by simp [LRel]) rfl
              simp [execOp, ho, convert, u1, u2, u3, e, this, bytesOf]
          · rw [Nat.mul_one] at hrun hl
            have := run_toString (P := P) (c := c) hrun hl h2
            simp [execOp, ho, convert, u1, u2, u3, e, this]
        · exact h.elim
      · exact h.elim
    · rename_i e n cs hk1 hk2 hx
      have e1 := tkOf_slice (hk1.symm.trans hs1.kind)
      have e2 := tkOf_str (hk2.symm.trans hs2.kind)
      split at h
      · rename_i ei hei
        obtain ⟨i3, d3, hs3⟩ := ti_spec hei
        split at h
        · rename_i hk3
          have e3 := tkOf_int (hk3.symm.trans hs3.kind)
          obtain ⟨h1, h2, h⟩ := h
          refine .inl ⟨_, fun E ρ a w hE hs => ?_, h⟩
          have hc := ev_sound hs.fr x
          rw [hx] at hc
          have u1 := hs1.run_underlying w
          rw [e1] at u1
          have u2 := hs2.run_underlying w
          rw [e2] at u2
          have u3 := hs3.run_underlying w
          rw [e3] at u3
          refine ⟨.string ⟨(bytesOf cs).toArray⟩, ?_, by simp [SRel, VRel, CRel]⟩
          rcases ro_cells (P := P) hE hs.heap (esz := 1) (by omega) hc with ⟨rfl, b, c, e⟩ | ⟨b, o', c, vs, e, hrun, hl, _⟩
          · have h0' : n = 0 := by simpa using h1.symm
            subst h0'
            cases b with
            | none =>
              simp [execOp, ho, convert, u1, u2, u3, e, Conv.bytesToString, bytesOf, ByteArray.empty, ByteArray.emptyWithCapacity]
              rfl
            | some b =>
              have hr0 : (loadCells b 0).run P w = .ok #[] w := rfl
              have := run_toString (P := P) (R := E.rl H.length ρ) (cs := []) (a := b) (len := 0) (c := c) hr0 (by simp [LRel]) rfl
              simp [execOp, ho, convert, u1, u2, u3, e, this, bytesOf]
          · rw [h1] at hrun
            have := run_toString (P := P) (c := c) hrun hl h2
            simp [execOp, ho, convert, u1, u2, u3, e, this]
        · exact h.elim
      · exact h.elim
    · rename_i e hk1 hk2 hx
      have e1 := tkOf_slice (hk1.symm.trans hs1.kind)
      have e2 := tkOf_str (hk2.symm.trans hs2.kind)
      split at h
      · rename_i ei hei
        obtain ⟨i3, d3, hs3⟩ := ti_spec hei
        split at h
        · rename_i hk3
          have e3 := tkOf_int (hk3.symm.trans hs3.kind)
          refine .inl ⟨_, fun E ρ a w hE hs => ?_, h⟩
          have hc := ev_sound hs.fr x
          rw [hx] at hc
          simp only [SRel, VRel, CRel] at hc
          have u1 := hs1.run_underlying w
          rw [e1] at u1
          have u2 := hs2.run_underlying w
          rw [e2] at u2
          have u3 := hs3.run_underlying w
          rw [e3] at u3
          exact ⟨.string ⟨#[]⟩, (by simp [execOp, ho, convert, u1, u2, u3, hc, Conv.bytesToString, ByteArray.empty, ByteArray.emptyWithCapacity]; rfl), by simp [SRel, VRel, CRel]⟩
        · exact h.elim
      · exact h.elim
    · rename_i e s hk1 hk2 hx
      have e1 := tkOf_str (hk1.symm.trans hs1.kind)
      have e2 := tkOf_slice (hk2.symm.trans hs2.kind)
      split at h
      · rename_i ei hei
        obtain ⟨i3, d3, hs3⟩ := ti_spec hei
        split at h
        · rename_i hk3
          have e3 := tkOf_int (hk3.symm.trans hs3.kind)
          obtain ⟨hsz, h⟩ := h
          refine .inr ⟨_, _, opg_run (by simp) fun E ρ a w hE hs => ?_, h⟩
          have hc := ev_sound hs.fr x
          rw [hx] at hc
          simp only [SRel, VRel, CRel] at hc
          have u1 : ∀ w, (underlying src).run P w = .ok .string w := fun w => by have := hs1.run_underlying w; rwa [e1] at this
          have u2 : ∀ w, (underlying dst).run P w = .ok (.slice e) w := fun w => by have := hs2.run_underlying w; rwa [e2] at this
          have u3 : ∀ w, (underlying e).run P w = .ok (.int .u8) w := fun w => by have := hs3.run_underlying w; rwa [e3] at this
          have hcap : s.size ≤ (Question.appendCap s.size 0 e).cut (w.tape w.drawn (.appendCap s.size 0 e)) := by simp [Question.cut]
          generalize hcdef : (Question.appendCap s.size 0 e).cut (w.tape w.drawn (.appendCap s.size 0 e)) = cap at hcap
          generalize harr : (s.data.map (fun b => Value.int .u8 b.toNat) ++ Array.replicate (cap - s.size) (.int .u8 0) : Array Value) = arr
          have hasz : arr.size = cap := by rw [← harr]; simp; have : s.data.size = s.size := rfl; omega
          refine ⟨.slice (some ⟨w.heap.size, 0, none⟩) s.size cap, (World.freeze { w with drawn := w.drawn + 1, heap := w.heap.push (.cells arr e) } ⟨w.heap.size, arr.size, none⟩ 1), upd ρ H.length ⟨w.heap.size, 0, arr.size⟩, .inl ?_, upd_old, ?_, ?_⟩
          · simp only [execOp, ho, convert, Sem.run_bind, u1, u2, u3, hc, Result.andThen_ok, Conv.stringToBytes, run_choose, Question.forced, Bool.false_eq_true, if_false, hcdef, newRow, run_newObj, Sem.run_pure, harr]
            simp [markStringish, World.shape?]
          · refine HRel.push (w := { w with drawn := w.drawn + 1 }) (hs.heap.drew _) (arr := arr) (el := e) (fr := (arr.size, arr.size + 1)) ?_ ?_ ?_ ?_ (.inr ⟨Nat.le_refl _, Nat.le_succ _⟩) ?_ fun i c hi => ?_
            · simp only [World.freeze]
              apply Array.ext_getElem?
              intro i
              rw [if_neg (by omega)]
              simp only
              rw [Array.getElem?_modify]
              by_cases hi : w.heap.size = i
              · subst hi; simp
              · rw [if_neg hi, Array.getElem?_push, Array.getElem?_push, if_neg (fun e => hi e.symm), if_neg (fun e => hi e.symm)]
            · simp only [World.freeze]; split <;> rfl
            · simp only [World.freeze]; split <;> rfl
            · simp only [World.freeze]; split <;> rfl
            · simp only [mapc, List.length_map, Array.length_toList]
              have : s.data.size = s.size := rfl
              omega
            · simp only [mapc, List.getElem?_map, Option.map_eq_some_iff] at hi
              obtain ⟨b, h1, rfl⟩ := hi
              have hlt := (List.getElem?_eq_some_iff.1 h1).1
              have h1' : s.data[i]? = some b := by simpa using h1
              refine ⟨.int .u8 b.toNat, ?_, rfl, by simp [CRel]⟩
              rw [← harr, Array.getElem?_append_left (by simpa using hlt), Array.getElem?_map, h1']
              rfl
          · rw [List.length_append]
            have := slc_new (E := E) (ρ := ρ) (H := H) (w := w) (n := s.size) (c := cap) (sz := 1) (size := arr.size) hcap (by omega)
            exact this
        · exact h.elim
      · exact h.elim
    · rename_i e e' p q n sz hk1 hk2 hx
      have e1 := tkOf_slice (hk1.symm.trans hs1.kind)
      have e2 := tkOf_slice (hk2.symm.trans hs2.kind)
      split at h
      · rename_i ei cs hei hp
        obtain ⟨i3, d3, hs3⟩ := ti_spec hei
        split at h
        · rename_i hk3
          have e3 := tkOf_int (hk3.symm.trans hs3.kind)
          obtain ⟨rfl, rfl, hn, h⟩ := h
          refine .inr ⟨_, _, opg_run (Nat.le_refl _) fun E ρ a w hE hs => ?_, h⟩
          have hc := ev_sound hs.fr x
          rw [hx] at hc
          simp only [SRel, VRel, CRel] at hc
          obtain ⟨hpl, b, c, hv, hnc, hb⟩ := hc
          have ee : e = e' := by
            obtain rfl := Option.some.inj (hsi.symm.trans hdi)
            exact TK.slice.inj (hk1.symm.trans hk2)
          subst ee
          have u1 : ∀ w, (underlying src).run P w = .ok (.slice e) w := fun w => by have := hs1.run_underlying w; rwa [e1] at this
          have u3 : ∀ w, (underlying e).run P w = .ok (.int .u8) w := fun w => by have := hs3.run_underlying w; rwa [e3] at this
          rcases hb with ⟨rfl, hroom⟩ | h0
          · simp only [Env.rl] at hroom hv
            have hr : (ρ p).room ≠ 0 := by omega
            obtain ⟨arr, el, f, b1, b2, b3, b4, b5⟩ := hs.heap.blk p cs hp hr
            have hlt : (ρ p).blk < w.heap.size := (Array.getElem?_eq_some_iff.1 b1).1
            refine ⟨.slice (some ⟨(ρ p).blk, (ρ p).dl + q, none⟩) n c, w.freeze ⟨(ρ p).blk, arr.size, none⟩ 1, ρ, .inl ?_, fun _ _ => rfl, ?_, ?_⟩
            · simp only [execOp, ho, convert, Sem.run_bind, u1, u3, hv, Result.andThen_ok, markStringish, beq_self_eq_true, Sem.run_pure]
              simp [World.shape?, b1]
            · have hw : w.freeze ⟨(ρ p).blk, arr.size, none⟩ 1 = withBlock w (ρ p).blk (.cells arr el (if f.1 == f.2 then (arr.size, arr.size + 1) else (min f.1 arr.size, max f.2 (arr.size + 1)))) := by
                simp only [World.freeze, withBlock]
                rw [if_neg (by decide)]
                congr 1
                apply Array.ext_getElem?
                intro i
                rw [Array.getElem?_modify, Array.getElem?_setIfInBounds]
                by_cases hi : (ρ p).blk = i
                · subst hi; rw [if_pos rfl, if_pos rfl, b1, if_pos hlt]; rfl
                · rw [if_neg hi, if_neg hi]
              have := hs.heap.write (ds := cs) hp hr hw b2 (by
                rcases b3 with b3 | b3
                · rw [if_pos (by simpa using b3)]; exact .inr ⟨Nat.le_refl _, Nat.le_succ _⟩
                · by_cases hf : f.1 = f.2
                  · rw [if_pos (by simpa using hf)]; exact .inr ⟨Nat.le_refl _, Nat.le_succ _⟩
                  · rw [if_neg (by simpa using hf)]; exact .inr ⟨by simp only; omega, by simp only; omega⟩) b4 b5
              have hset : H.set p (some cs) = H := by
                apply List.ext_getElem?
                intro i
                rw [List.getElem?_set]
                by_cases hi : p = i
                · subst hi; rw [if_pos rfl, if_pos (List.getElem?_eq_some_iff.1 hp).1, hp]
                · rw [if_neg hi]
              rwa [hset] at this
            · simp only [SRel, VRel, CRel]
              exact ⟨hpl, _, _, rfl, hnc, .inl ⟨rfl, hroom⟩⟩
          · omega
        · exact h.elim
      · exact h.elim
    · rw [← ho] at h
      obtain ⟨s, h1, h2⟩ := pstep_sound h
      exact .inl ⟨s, opr_pv H h2, h1⟩
  · exact h.elim

theorem og_convert {src dst : TypeId} {x : Operand} (ho : o.op = .convert src dst x) (h : ostep P o fr H K) : ∃ s H', OpG P o fr H s H' ∧ K s H' := by
  rcases or_convert ho h with ⟨s, h1, h2⟩ | ⟨s, H', h1, h2⟩
  · exact ⟨s, H, opg_opr h1, h2⟩
  · exact ⟨s, H', h1, h2⟩

theorem or_slice {t : TypeId} {x : Operand} {lo hi mx : Option Operand} (ho : o.op = .slice t x lo hi mx) (h : ostep P o fr H K) : ∃ s, OpR P o fr H s ∧ K s H := by
  simp only [ostep, ho] at h
  split at h
  · rename_i p q hx
    split at h
    · rename_i ti l hh m cs ht hl hhi hm hp
      obtain ⟨i1, d1, hs1⟩ := ti_spec ht
      split at h
      · rename_i n e hk
        have ed := tkOf_array (hk.symm.trans hs1.kind)
        split at h
        · rename_i ei hei
          obtain ⟨i2, d2, hs2⟩ := ti_spec hei
          obtain ⟨hz, hle, h⟩ := h
          obtain ⟨L, U, hK, hb⟩ := bnds_uniform h
          refine ⟨_, fun E ρ a w hE hs => ?_, hK⟩
          have hc := ev_sound hs.fr x
          rw [hx] at hc
          simp only [SRel, VRel, CRel] at hc
          have e1 : a.eval x = .pointer (some ⟨(ρ p).blk, (ρ p).dl + q, none⟩) := hc.2
          have u1 := hs1.run_underlying w
          rw [ed] at u1
          obtain ⟨L', U', M, hrun, ⟨rfl, rfl⟩, h1, h2, h3, h4⟩ := bnds_sound (P := P) hs.fr hl hhi hm (Nat.le_refl n) false hb w
          refine ⟨.slice (some (if M = L' then ⟨(ρ p).blk, (ρ p).dl + q, none⟩ else ⟨(ρ p).blk, (ρ p).dl + q + L' * ei.size, none⟩)) (U' - L') (M - L'), ?_, ?_⟩
          · simp [execOp, ho, e1, Instr.sliceAt, u1, Instr.sureAddr, hrun, hs2.run_sizeOf w, add_none]
          · simp only [SRel, VRel, CRel]
            refine ⟨hc.1, _, _, rfl, by omega, ?_⟩
            by_cases hML : M = L'
            · right; omega
            · left
              rw [if_neg hML]
              refine ⟨by simp only [Env.rl]; rw [Nat.add_assoc], ?_⟩
              have hmul : (L' + (M - L')) * ei.size ≤ n * ei.size := Nat.mul_le_mul_right _ (by omega)
              rw [Nat.add_mul] at hmul
              simp only [Env.rl]
              have hpos : 0 < n := by omega
              have : 0 < n * ei.size := Nat.mul_pos hpos hz
              obtain ⟨hr, arr, el, f, b1, b2, b3, b4, b5⟩ := brel_of hs.heap hp (by omega)
              omega
        · exact h.elim
      · exact h.elim
    · exact h.elim
  · rw [← ho] at h
    obtain ⟨s, h1, h2⟩ := pstep_sound h
    exact ⟨s, opr_pv H h2, h1⟩
theorem og_slice {t : TypeId} {x : Operand} {lo hi mx : Option Operand} (ho : o.op = .slice t x lo hi mx) (h : ostep P o fr H K) : ∃ s H', OpG P o fr H s H' ∧ K s H' :=
  let ⟨s, h1, h2⟩ := or_slice ho h; ⟨s, H, opg_opr h1, h2⟩
end
end Go.Abs

/- The abstract machine: the operations on memory are described rightly, further. -/
import Derived.Test.YtcihpgdmldkjfaaAbsI
namespace Go.Abs
open Go

theorem rep_eq (n : Nat) (z : List Cell) : rep n z = (List.replicate n z).flatten := by
  unfold rep
  split
  · rename_i x
    induction n with
    | zero => rfl
    | succ n ih => simp [List.replicate_succ, ← ih]
  · rfl

theorem flat_get {α : Type} (z : List α) : ∀ (n i : Nat), ((List.replicate n z).flatten)[i]? = if i < n * z.length then z[i % z.length]? else none
  | 0, i => by simp
  | n + 1, i => by
    rw [List.replicate_succ, List.flatten_cons]
    by_cases h : i < z.length
    · rw [List.getElem?_append_left h, if_pos (by rw [Nat.add_mul]; omega), Nat.mod_eq_of_lt h]
    · rw [List.getElem?_append_right (by omega), flat_get z n]
      have hz : i % z.length = (i - z.length) % z.length := by
        rw [Nat.mod_eq_sub_mod (by omega)]
      by_cases h2 : i < (n + 1) * z.length
      · rw [if_pos h2, if_pos (by rw [Nat.add_mul] at h2; omega), hz]
      · rw [if_neg h2, if_neg (by rw [Nat.add_mul] at h2; omega)]

theorem flat_length {α : Type} (z : List α) (n : Nat) : ((List.replicate n z).flatten).length = n * z.length := by
  induction n with
  | zero => simp
  | succ n ih => rw [List.replicate_succ, List.flatten_cons, List.length_append, ih, Nat.add_mul]; omega

section
variable {P : Program} {fr : List S} {H : Heap} {K : S → Heap → Prop} {o : Oper}

theorem zeros_lrel {R : Rl} {zv : Array Value} (h : zv.toList.all Value.oneCell' = true) (n : Nat) :
    LRel R (rep n (zv.toList.map vOf)) ((Array.range (n * zv.size)).map (zv[· % zv.size]!)).toList := by
  rw [rep_eq]
  refine LRel.of_get (by rw [flat_length]; simp) fun i c hi => ?_
  rw [flat_get] at hi
  simp only [List.length_map, Array.length_toList] at hi
  split at hi
  · rename_i hlt
    rw [List.getElem?_map, Option.map_eq_some_iff] at hi
    obtain ⟨v, h1, rfl⟩ := hi
    have hv : zv[i % zv.size]? = some v := by simpa using h1
    refine ⟨v, ?_, List.all_eq_true.1 h v (List.mem_of_getElem? h1), vOf_sound R v⟩
    rw [Array.getElem?_toList, Array.getElem?_map, Array.getElem?_range]
    rw [if_pos hlt]
    simp only [Option.map_some, Array.getElem!_eq_getD, Array.getD_eq_getD_getElem?, hv, Option.getD_some]
  · simp at hi

theorem slc_new {E : Env} {ρ : Nat → Place} {w : World} {n c sz size : Nat} (hnc : n ≤ c) (h : c * sz ≤ size) : SRel (E.rl (H.length + 1) (upd ρ H.length ⟨w.heap.size, 0, size⟩)) (sc (.slc H.length 0 n sz)) (.slice (some ⟨w.heap.size, 0, none⟩) n c) := by
  simp only [SRel, VRel, CRel]
  refine ⟨by simp [Env.rl], _, _, rfl, hnc, .inl ?_⟩
  simp only [Env.rl, upd_new]
  exact ⟨by first | rfl | trivial, by omega⟩

theorem og_buildSlice {t : TypeId} {len : Nat} {parts : Array (Nat × Operand)} (ho : o.op = .buildSlice t len parts) (h : ostep P o fr H K) : ∃ s H', OpG P o fr H s H' ∧ K s H' := by
  simp only [ostep, ho] at h
  split at h
  · rename_i ti ht
    obtain ⟨i1, d1, hs1⟩ := ti_spec ht
    split at h
    · rename_i e hk
      have ed := tkOf_slice (hk.symm.trans hs1.kind)
      split at h
      · rename_i ei hei
        obtain ⟨i2, d2, hs2⟩ := ti_spec hei
        split at h
        · rename_i z hz
          obtain ⟨hzl, hle, h⟩ := h
          obtain ⟨cs, hK, hu⟩ := fillK_uniform _ _ h
          refine ⟨_, _, opg_run (by simp) fun E ρ a w hE hs => ?_, hK⟩
          obtain ⟨v, h1, h2, h3⟩ := hs2.run_zero hz w
          have hzs : v.cells.size = ei.size := by rw [← hzl, h3]; simp
          have u1 := hs1.run_underlying w
          rw [ed] at u1
          have hmap : (parts.map fun (x : Nat × Operand) => (x.1, a.eval x.2)).toList = parts.toList.map fun x => (x.1, a.eval x.2) := by simp
          have hinit : LRel (E.rl H.length ρ) (rep len z) ((Array.range (len * ei.size)).map ((if len * ei.size = 0 then #[] else v.cells)[· % (if len * ei.size = 0 then #[] else v.cells).size]!)).toList := by
            by_cases h0 : len * ei.size = 0
            · rw [if_pos h0, h0]
              have : rep len z = [] := by
                rw [rep_eq]; apply List.eq_nil_of_length_eq_zero; rw [flat_length, hzl]; exact h0
              rw [this]
              simp [LRel]
            · rw [if_neg h0, ← hzs, h3]
              exact zeros_lrel h2 len
          obtain ⟨cs', vs, rfl, k2, k3⟩ := fillK_sound hs.fr _ _ _ hinit hu
          have hlen : vs.size = len * ei.size := by
            have l1 := k3.length
            have l2 := hinit.length
            have l3 : ∀ (parts : List (Nat × Operand)) (cells cs : List Cell), fillK fr (fun i => some (i * ei.size, ei.size)) (fun c => c = cs) cells parts → cs.length = cells.length := by
              intro parts
              induction parts with
              | nil => intro cells cs hh; simp only [fillK] at hh; rw [hh]
              | cons p r ih =>
                obtain ⟨i, x⟩ := p
                intro cells cs hh
                simp only [fillK] at hh
                split at hh
                · rename_i off size ds hp hds
                  obtain ⟨g1, g2, g3⟩ := hh
                  rw [ih _ _ g3, wrV_splice hds (by omega)]
                  simp only [splice, List.length_append, List.length_take, List.length_drop]
                  omega
                · exact hh.elim
            have := l3 _ _ _ hu
            simp at l1 l2
            omega
          refine ⟨.slice (some ⟨w.heap.size, 0, none⟩) len len, _, upd ρ H.length ⟨w.heap.size, 0, vs.size⟩, .inl ?_, upd_old, push_lrel hs.heap k3 e, ?_⟩
          · simp only [execOp, ho, Instr.buildSlice, Sem.run_bind, u1, Result.andThen_ok, hs2.run_sizeOf w]
            rw [if_neg (by omega)]
            by_cases h0 : len * ei.size = 0
            · simp only [if_pos h0] at k2 ⊢
              simp only [Sem.run_bind, Sem.run_pure, Result.andThen_ok, hmap]
              rw [k2]
              simp [newRow]
            · simp only [if_neg h0] at k2 ⊢
              simp only [Sem.run_bind, Sem.run_pure, Result.andThen_ok, h1, hmap]
              rw [k2]
              simp [newRow]
          · rw [List.length_append]
            exact slc_new (Nat.le_refl _) (by omega)
        · exact h.elim
      · exact h.elim
    · exact h.elim
  · exact h.elim

theorem brel_of {E : Env} {ρ : Nat → Place} {w : World} (h : HRel E ρ w H) {p : Nat} {cs : List Cell} (hp : H[p]? = some (some cs)) (hne : 0 < cs.length) :
    (ρ p).room ≠ 0 ∧ BRel (E.rl H.length ρ) w (ρ p) cs := by
  have hr : (ρ p).room ≠ 0 := by
    intro hr
    have := h.emp p cs hp hr
    subst this
    simp at hne
  exact ⟨hr, h.blk p cs hp hr⟩

/-- What lies at a pointer into a known block, or behind a pointer that may only be looked through. -/
theorem load_sound {t : TypeId} {ti : TI} (ht : tiOf P t = some ti) {R : Rl} {cs : List Cell} {q : Nat} {w : World} {b o' : Nat} {arr : Array Value} {el : TypeId} {f : Nat × Nat}
    (hb : w.heap[b]? = some (.cells arr el f)) (hlen : o' + (cs.length - q) ≤ arr.size) (hrel : ∀ (i : Nat) c, (cs.drop q)[i]? = some c → ∃ v, arr[o' + i]? = some v ∧ v.oneCell' = true ∧ CRel R c v) :
    (ti.kind.agg = true → 0 < ti.size → q + ti.size ≤ cs.length → ∃ v, (loadVar t ⟨b, o', none⟩).run P w = .ok v w ∧ SRel R (sa ((cs.drop q).take ti.size)) v) ∧
    (ti.kind.agg = false → ∀ c, cs[q]? = some c → ∃ v, (loadVar t ⟨b, o', none⟩).run P w = .ok v w ∧ SRel R (sc c) v) := by
  obtain ⟨i1, d1, hs1⟩ := ti_spec ht
  constructor
  · intro hag h0 hle
    have hag' := hs1.run_isAgg w
    rw [hag] at hag'
    refine ⟨.agg (arr.extract o' (o' + ti.size)), ?_, arr.extract o' (o' + ti.size), rfl, ?_⟩
    · rw [loadVar, Sem.run_bind, hag']
      simp only [Result.andThen_ok, if_true, Sem.run_bind, hs1.run_sizeOf w, run_loadCells P ti.size w b o' arr el f hb (by omega), Sem.run_pure]
    · refine LRel.of_get ?_ fun i c hi => ?_
      · simp; omega
      · rw [List.getElem?_take] at hi
        split at hi
        · rename_i hlt
          obtain ⟨v, h1, h2, h3⟩ := hrel i c hi
          refine ⟨v, ?_, h2, h3⟩
          rw [Array.toList_extract, List.extract_eq_take_drop, List.getElem?_take, if_pos (by omega), List.getElem?_drop]
          simpa using h1
        · simp at hi
  · intro hag c hc
    have hag' := hs1.run_isAgg w
    rw [hag] at hag'
    obtain ⟨v, h1, h2, h3⟩ := hrel 0 c (by rw [List.getElem?_drop]; simpa using hc)
    refine ⟨v, ?_, h3⟩
    rw [loadVar, Sem.run_bind, hag']
    have hcell : w.cell? ⟨b, o', none⟩ = some v := by
      simp only [World.cell?, hb]
      simpa using h1
    simp [hcell]

/-- A load, as the machine runs it. -/
def LoadOk (P : Program) (fr : List S) (H : Heap) (t : TypeId) (x : Operand) (s : S) : Prop :=
  ∀ (E : Env) (ρ : Nat → Place) (a : Act) (w : World), E.Ok → Sim E ρ ⟨fr, H⟩ a w → ∃ v, (Instr.loadAt t (a.eval x)).run P w = .ok v w ∧ SRel (E.rl H.length ρ) s v

theorem loadR_sound {t : TypeId} {x : Operand} {K : S → Prop} (h : loadR P fr H t x K) : ∃ s, K s ∧ LoadOk P fr H t x s := by
  unfold loadR at h
  split at h
  · rename_i ti ht
    -- through a pointer to a block
    have hptr : ∀ p q cs, ev fr x = .v (.c (.ptr p q)) → H[p]? = some (some cs) → ∀ s, ((ti.kind.agg = true ∧ 0 < ti.size ∧ q + ti.size ≤ cs.length ∧ s = sa ((cs.drop q).take ti.size)) ∨ (ti.kind.agg = false ∧ ∃ c, cs[q]? = some c ∧ s = sc c)) → LoadOk P fr H t x s := by
      intro p q cs hx hp s hcase
      intro E ρ a w hE hs
      have hc := ev_sound hs.fr x
      rw [hx] at hc
      simp only [SRel, VRel, CRel] at hc
      have hq : q < cs.length := by
        rcases hcase with ⟨_, h0, h1, _⟩ | ⟨_, c, h1, _⟩
        · omega
        · exact (List.getElem?_eq_some_iff.1 h1).1
      have hpos : 0 < cs.length := by omega
      obtain ⟨hr, arr, el, f, b1, b2, b3, b4, b5⟩ := brel_of hs.heap hp hpos
      have hl := load_sound (P := P) ht (R := E.rl H.length ρ) (cs := cs) (q := q) (w := w) (b := (ρ p).blk) (o' := (ρ p).dl + q) b1 (by omega) (fun i c hi => by
        rw [List.getElem?_drop] at hi
        have := b5 _ _ hi
        rwa [← Nat.add_assoc] at this)
      have e1 : a.eval x = .pointer (some ⟨(ρ p).blk, (ρ p).dl + q, none⟩) := hc.2
      rcases hcase with ⟨k1, k2, k3, rfl⟩ | ⟨k1, c, k2, rfl⟩
      · obtain ⟨v, g1, g2⟩ := hl.1 k1 k2 k3
        exact ⟨v, by simp [e1, Instr.loadAt, Instr.sureAddr, g1], g2⟩
      · obtain ⟨v, g1, g2⟩ := hl.2 k1 c k2
        exact ⟨v, by simp [e1, Instr.loadAt, Instr.sureAddr, g1], g2⟩
    -- through one that may only be looked through
    have hrop : ∀ cs, ev fr x = .v (.c (.rop cs)) → ∀ s, ((ti.kind.agg = true ∧ 0 < ti.size ∧ ti.size ≤ cs.length ∧ s = sa (cs.take ti.size)) ∨ (ti.kind.agg = false ∧ ∃ c, cs[0]? = some c ∧ s = sc c)) → LoadOk P fr H t x s := by
      intro cs hx s hcase
      intro E ρ a w hE hs
      have hc := ev_sound hs.fr x
      rw [hx] at hc
      simp only [SRel, VRel, CRel] at hc
      obtain ⟨b, o', e1, hT, hM⟩ := hc
      have hpos : 0 < cs.length := by
        rcases hcase with ⟨_, h0, h1, _⟩ | ⟨_, c, h1, _⟩
        · omega
        · have := (List.getElem?_eq_some_iff.1 h1).1; omega
      have hb : w.heap[b]? = E.w0.heap[b]? := hs.heap.frame b (hE.old b hT) (hE.apart b hT)
      obtain ⟨arr, el, f, v0, g1, g2, g3, g4⟩ := hM.get (List.getElem?_eq_getElem hpos)
      have hg1 : E.w0.heap[b]? = some (.cells arr el f) := g1
      have hall : ∀ (i : Nat) c, cs[i]? = some c → ∃ v, arr[o' + i]? = some v ∧ v.oneCell' = true ∧ CRel (E.rl H.length ρ) c v := fun i c hi => by
        obtain ⟨arr', el', f', v, k1, k2, k3, k4⟩ := hM.get hi
        have hk1 : E.w0.heap[b]? = some (.cells arr' el' f') := k1
        rw [hg1] at hk1
        injection hk1 with hk1
        injection hk1 with e _ _
        subst e
        exact ⟨v, k2, k3, k4⟩
      have hsz : o' + cs.length ≤ arr.size := by
        obtain ⟨v, k1, _, _⟩ := hall (cs.length - 1) _ (List.getElem?_eq_getElem (by omega))
        have := (Array.getElem?_eq_some_iff.1 k1).1
        omega
      have hl := load_sound (P := P) ht (R := E.rl H.length ρ) (cs := cs) (q := 0) (w := w) (b := b) (o' := o') (hb.trans hg1) (by omega) (fun i c hi => by
        rw [List.getElem?_drop, Nat.zero_add] at hi
        exact hall i c hi)
      rcases hcase with ⟨k1, k2, k3, rfl⟩ | ⟨k1, c, k2, rfl⟩
      · obtain ⟨v, g1, g2⟩ := hl.1 k1 k2 (by omega)
        exact ⟨v, by simp [e1, Instr.loadAt, Instr.sureAddr, g1], by simpa using g2⟩
      · obtain ⟨v, g1, g2⟩ := hl.2 k1 c k2
        exact ⟨v, by simp [e1, Instr.loadAt, Instr.sureAddr, g1], g2⟩
    split at h
    · rename_i p q hag hx
      split at h
      · rename_i cs hp
        exact ⟨_, h.2.2, hptr p q cs hx hp _ (.inl ⟨hag, h.1, h.2.1, rfl⟩)⟩
      · exact h.elim
    · rename_i cs hag hx
      exact ⟨_, h.2.2, hrop cs hx _ (.inl ⟨hag, h.1, h.2.1, rfl⟩)⟩
    · rename_i p q hag hx
      split at h
      · rename_i cs hp
        split at h
        · exact ⟨_, h.2, hptr p q cs hx hp _ (.inr ⟨hag, _, h.1, rfl⟩)⟩
        · split at h
          · rename_i c hc
            exact ⟨_, h, hptr p q cs hx hp _ (.inr ⟨hag, _, hc, rfl⟩)⟩
          · exact h.elim
      · exact h.elim
    · rename_i cs hag hx
      split at h
      · exact ⟨_, h.2, hrop cs hx _ (.inr ⟨hag, _, h.1, rfl⟩)⟩
      · split at h
        · rename_i c hc
          exact ⟨_, h, hrop cs hx _ (.inr ⟨hag, _, hc, rfl⟩)⟩
        · exact h.elim
    · exact h.elim
  · exact h.elim

theorem or_load {t : TypeId} {x : Operand} (ho : o.op = .load t x) (h : ostep P o fr H K) : ∃ s, OpR P o fr H s ∧ K s H := by
  simp only [ostep, ho] at h
  obtain ⟨s, h1, h2⟩ := loadR_sound h
  refine ⟨s, fun E ρ a w hE hs => ?_, h1⟩
  obtain ⟨v, g1, g2⟩ := h2 E ρ a w hE hs
  exact ⟨v, by simp [execOp, ho, g1], g2⟩
theorem og_load {t : TypeId} {x : Operand} (ho : o.op = .load t x) (h : ostep P o fr H K) : ∃ s H', OpG P o fr H s H' ∧ K s H' :=
  let ⟨s, h1, h2⟩ := or_load ho h; ⟨s, H, opg_opr h1, h2⟩
end
end Go.Abs

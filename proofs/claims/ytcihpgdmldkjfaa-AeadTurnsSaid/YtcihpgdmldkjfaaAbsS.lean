/- The abstract machine: a region that draws its order comes to what its text comes to. -/
import Derived.Test.YtcihpgdmldkjfaaAbsR
namespace Go.Abs
open Go

def reads (o : Oper) : List Nat := o.op.operands.toList.filterMap fun | .tmp t => some t | _ => none
def rst (keep : List Nat) (fr : List S) : List S := vwF id keep 0 fr

theorem sm_id (s : S) : sm id s = s := by
  cases s with
  | v x => cases x <;> simp [sm, vm]
  | t xs =>
    have : (vm id) = (id : V → V) := by
      funext x
      cases x <;> simp [vm]
    simp [sm, this]

theorem vwF_keep (f : Cell → Cell) (keep : List Nat) : ∀ (fr : List S) (i j : Nat), keep.contains (i + j) = true → (vwF f keep i fr)[j]? = (fr[j]?).map (sm f)
  | [], i, j, _ => by simp [vwF]
  | s :: r, i, 0, h => by
    have h' : i ∈ keep := by simpa using h
    simp [vwF, h']
  | s :: r, i, j + 1, h => by
    simp only [vwF, List.getElem?_cons_succ]
    exact vwF_keep f keep r (i + 1) j (by rw [show i + 1 + j = i + (j + 1) by omega]; exact h)

theorem rst_get {keep : List Nat} {fr : List S} {t : Nat} (h : t ∈ keep) : (rst keep fr)[t]? = fr[t]? := by
  unfold rst
  rw [vwF_keep id keep fr 0 t (by simpa using h)]
  cases fr[t]? <;> simp [sm_id]

theorem ev_rst {o : Oper} {fr : List S} {x : Operand} (h : x ∈ o.op.operands.toList) : ev (rst (reads o) fr) x = ev fr x := by
  cases x with
  | tmp t =>
    have : t ∈ reads o := by
      simp only [reads, List.mem_filterMap]
      exact ⟨.tmp t, h, rfl⟩
    simp only [ev, rst_get this]
  | const v => cases v <;> rfl
  | global g => rfl
  | func f => rfl

theorem ostep_rst {P : Program} {o : Oper} {fr : List S} {H : Heap} {K : S → Heap → Prop} : ostep P o (rst (reads o) fr) H K = ostep P o fr H K :=
  ostep_congr fun _ hx => ev_rst hx

/-- Which operations must be over before: as a number's bits. -/
inductive Anc (ops : List Oper) : Nat → Nat → Prop
  | one {i : Nat} {o : Oper} {e : Edge} : ops[i]? = some o → e ∈ o.after → Region.binds .any e = true → Anc ops i e.on
  | more {i j : Nat} {o : Oper} {e : Edge} : ops[i]? = some o → e ∈ o.after → Region.binds .any e = true → Anc ops e.on j → Anc ops i j

def ancOf (A : List Nat) (o : Oper) : Nat := (o.after.toList.filter fun e => Region.binds .any e).foldl (fun m e => m ||| (2 ^ e.on ||| A.getD e.on 0)) 0
def ancs : List Oper → List Nat → List Nat
  | [], A => A
  | o :: r, A => ancs r (A ++ [ancOf A o])

theorem foldl_bit {A : List Nat} {j : Nat} : ∀ (l : List Edge) (m : Nat), (l.foldl (fun m e => m ||| (2 ^ e.on ||| A.getD e.on 0)) m).testBit j = true → m.testBit j = true ∨ ∃ e ∈ l, j = e.on ∨ (A.getD e.on 0).testBit j = true
  | [], m, h => .inl h
  | e :: r, m, h => by
    rcases foldl_bit r _ h with h | ⟨e', h1, h2⟩
    · rw [Nat.testBit_or, Nat.testBit_or, Nat.testBit_two_pow] at h
      simp only [Bool.or_eq_true, decide_eq_true_eq] at h
      rcases h with h | h | h
      · exact .inl h
      · exact .inr ⟨e, by simp, .inl h.symm⟩
      · exact .inr ⟨e, by simp, .inr h⟩
    · exact .inr ⟨e', by simp [h1], h2⟩
theorem ancs_spec {ops : List Oper} : ∀ (r : List Oper) (A : List Nat), (∀ j, r[j]? = ops[A.length + j]?) → (∀ i j, (A.getD i 0).testBit j = true → Anc ops i j) →
    ∀ i j, ((ancs r A).getD i 0).testBit j = true → Anc ops i j
  | [], A, _, h => h
  | o :: r, A, hr, h => by
    refine ancs_spec r (A ++ [ancOf A o]) (fun j => ?_) (fun i j hb => ?_)
    · have := hr (j + 1)
      simp only [List.getElem?_cons_succ] at this
      rw [this, List.length_append]
      simp only [List.length_cons, List.length_nil]
      rw [show A.length + (j + 1) = A.length + (0 + 1) + j by omega]
    · rw [List.getD_eq_getElem?_getD] at hb
      by_cases hi : i < A.length
      · rw [List.getElem?_append_left hi, ← List.getD_eq_getElem?_getD] at hb
        exact h i j hb
      · by_cases hi2 : i = A.length
        · subst hi2
          rw [List.getElem?_append_right (Nat.le_refl _)] at hb
          simp only [Nat.sub_self, List.getElem?_cons_zero, Option.getD_some] at hb
          have ho := hr 0
          simp only [List.getElem?_cons_zero, Nat.add_zero] at ho
          rcases foldl_bit _ _ hb with hb | ⟨e, h1, h2⟩
          · simp at hb
          · simp only [List.mem_filter, Array.mem_toList_iff] at h1
            rcases h2 with rfl | h2
            · exact .one ho.symm h1.1 h1.2
            · exact .more ho.symm h1.1 h1.2 (h _ _ h2)
        · rw [List.getElem?_eq_none (by simp; omega)] at hb
          simp at hb

/-- A frame in which just these operations have been carried out. -/
structure Fits (ops : List Oper) (n : Nat) (fr0 : List S) (vals : Nat → S) (D : Nat → Bool) (fr : List S) : Prop where
  len : fr.length = fr0.length
  old : ∀ t, (∀ (j : Nat) o, j < n → D j = true → ops[j]? = some o → o.dst ≠ some t) → fr[t]? = fr0[t]?
  new : ∀ (j : Nat) o t, j < n → D j = true → ops[j]? = some o → o.dst = some t → t < fr0.length → fr[t]? = some (vals j)

def rdsB (ops : List Oper) (o : Oper) : List Nat := reads o ++ (match o.guard with | some (j, _) => ((ops[j]?).bind (·.dst)).toList | none => [])
def Uniq (ops : List Oper) (n : Nat) : Prop := ∀ (i j : Nat) oi oj t, i < n → j < n → i ≠ j → ops[i]? = some oi → ops[j]? = some oj → oj.dst = some t → oi.dst ≠ some t
def topoE (ops : List Oper) : Bool :=
  (List.range ops.length).all fun i => match ops[i]? with
    | some o => o.after.all fun e => !Region.binds .any e || decide (e.on < i)
    | none => false
def depE (ops : List Oper) (A : List Nat) : Bool :=
  (List.range ops.length).all fun i => (List.range ops.length).all fun j => i == j || (match ops[i]?, ops[j]? with
    | some oi, some oj => (match oj.dst with
      | some t => oi.dst != some t && (!(rdsB ops oi).contains t || (if j < i then (A.getD i 0).testBit j else (A.getD j 0).testBit i))
      | none => true)
    | _, _ => false)
def chainE (n : Nat) (A : List Nat) (es : List Nat) : Bool :=
  (List.range es.length).all fun m => decide (es.getD m 0 < n) && (m + 1 == es.length || (decide (es.getD m 0 < es.getD (m + 1) 0) && (A.getD (es.getD (m + 1) 0) 0).testBit (es.getD m 0)))
def rangeE (n : Nat) (A : List Nat) (es lo hi : List Nat) : Bool :=
  (List.range n).all fun i => es.contains i || ((lo.getD i 0 == 0 || (decide (lo.getD i 0 ≤ es.length) && (A.getD i 0).testBit (es.getD (lo.getD i 0 - 1) 0))) && (decide (es.length ≤ hi.getD i 0) || (A.getD (es.getD (hi.getD i 0) 0) 0).testBit i))
/-- A region's effects come in one chain; what else it does may come between effects of these numbers. -/
def drawE (ops : List Oper) (es lo hi : List Nat) : Bool :=
  let A := ancs ops []
  topoE ops && depE ops A && chainE ops.length A es && rangeE ops.length A es lo hi

structure DrawOk (ops : List Oper) (es lo hi : List Nat) : Prop where
  topo : ∀ (i : Nat) o, ops[i]? = some o → ∀ e ∈ o.after, Region.binds .any e = true → e.on < i
  uniq : Uniq ops ops.length
  dep : ∀ (i j : Nat) oi oj t, i ≠ j → ops[i]? = some oi → ops[j]? = some oj → oj.dst = some t → t ∈ rdsB ops oi → (j < i ∧ Anc ops i j) ∨ (i < j ∧ Anc ops j i)
  lt : ∀ (m e : Nat), es[m]? = some e → e < ops.length
  chain : ∀ (m e e' : Nat), es[m]? = some e → es[m + 1]? = some e' → e < e' ∧ Anc ops e' e
  lo : ∀ i, i < ops.length → i ∉ es → lo.getD i 0 ≤ es.length ∧ ∀ m e, m + 1 = lo.getD i 0 → es[m]? = some e → Anc ops i e
  hi : ∀ i, i < ops.length → i ∉ es → ∀ e, es[hi.getD i 0]? = some e → Anc ops e i

theorem drawE_ok {ops : List Oper} {es lo hi : List Nat} (h : drawE ops es lo hi = true) : DrawOk ops es lo hi := by
  simp only [drawE, Bool.and_eq_true] at h
  obtain ⟨⟨⟨h1, h2⟩, h3⟩, h4⟩ := h
  have hA : ∀ i j, ((ancs ops []).getD i 0).testBit j = true → Anc ops i j := ancs_spec ops [] (fun j => by simp) (fun i j hb => by simp at hb)
  have hd : ∀ (i j : Nat) oi oj t, i < ops.length → j < ops.length → i ≠ j → ops[i]? = some oi → ops[j]? = some oj → oj.dst = some t →
      oi.dst ≠ some t ∧ (t ∈ rdsB ops oi → (j < i ∧ Anc ops i j) ∨ (i < j ∧ Anc ops j i)) := by
    intro i j oi oj t hi hj hij hoi hoj ht
    have := List.all_eq_true.1 (List.all_eq_true.1 h2 i (List.mem_range.2 hi)) j (List.mem_range.2 hj)
    rw [hoi, hoj] at this
    simp only [ht, Bool.or_eq_true, beq_iff_eq, Bool.and_eq_true, bne_iff_ne, Bool.not_eq_true'] at this
    rcases this with h | ⟨h, k⟩
    · exact absurd h hij
    · refine ⟨h, fun hm => ?_⟩
      rcases k with k | k
      · have : (rdsB ops oi).contains t = true := by simpa using hm
        rw [this] at k; cases k
      · by_cases hlt : j < i
        · rw [if_pos hlt] at k; exact .inl ⟨hlt, hA _ _ k⟩
        · rw [if_neg hlt] at k; exact .inr ⟨by omega, hA _ _ k⟩
  have hget : ∀ (m e : Nat), es[m]? = some e → m < es.length ∧ es.getD m 0 = e := fun m e h => by
    obtain ⟨g1, g2⟩ := List.getElem?_eq_some_iff.1 h
    exact ⟨g1, by rw [List.getD_eq_getElem?_getD, h]; rfl⟩
  have hc : ∀ m, m < es.length → es.getD m 0 < ops.length ∧ (m + 1 = es.length ∨ (es.getD m 0 < es.getD (m + 1) 0 ∧ ((ancs ops []).getD (es.getD (m + 1) 0) 0).testBit (es.getD m 0) = true)) := by
    intro m hm
    have := List.all_eq_true.1 h3 m (List.mem_range.2 hm)
    simpa [Bool.and_eq_true, Bool.or_eq_true] using this
  have hr : ∀ i, i < ops.length → i ∉ es → (lo.getD i 0 = 0 ∨ (lo.getD i 0 ≤ es.length ∧ ((ancs ops []).getD i 0).testBit (es.getD (lo.getD i 0 - 1) 0) = true)) ∧ (es.length ≤ hi.getD i 0 ∨ ((ancs ops []).getD (es.getD (hi.getD i 0) 0) 0).testBit i = true) := by
    intro i hi' hne
    have := List.all_eq_true.1 h4 i (List.mem_range.2 hi')
    simp only [Bool.and_eq_true, Bool.or_eq_true, beq_iff_eq, decide_eq_true_eq, List.contains_iff_mem] at this
    rcases this with h | h
    · exact absurd h hne
    · exact h
  refine ⟨fun i o ho e he hb => ?_, fun i j oi oj t hi hj hij hoi hoj ht => (hd i j oi oj t hi hj hij hoi hoj ht).1, fun i j oi oj t hij hoi hoj ht hm => (hd i j oi oj t (List.getElem?_eq_some_iff.1 hoi).1 (List.getElem?_eq_some_iff.1 hoj).1 hij hoi hoj ht).2 hm,
    fun m e hm => ?_, fun m e e' hm hm' => ?_, fun i hi' hne => ?_, fun i hi' hne e he => ?_⟩
  · have := List.all_eq_true.1 h1 i (List.mem_range.2 (List.getElem?_eq_some_iff.1 ho).1)
    rw [ho] at this
    have := Array.all_eq_true'.1 this e he
    simp only [hb, Bool.not_true, Bool.false_or, decide_eq_true_eq] at this
    exact this
  · obtain ⟨g1, g2⟩ := hget m e hm
    rw [← g2]; exact (hc m g1).1
  · obtain ⟨g1, g2⟩ := hget m e hm
    obtain ⟨g3, g4⟩ := hget (m + 1) e' hm'
    rcases (hc m g1).2 with k | ⟨k1, k2⟩
    · omega
    · rw [g2, g4] at k1 k2; exact ⟨k1, hA _ _ k2⟩
  · rcases (hr i hi' hne).1 with k | ⟨k1, k2⟩
    · exact ⟨by omega, fun m e hm _ => by omega⟩
    · refine ⟨k1, fun m e hm he => ?_⟩
      rw [show lo.getD i 0 - 1 = m by omega, (hget m e he).2] at k2
      exact hA _ _ k2
  · obtain ⟨g1, g2⟩ := hget _ e he
    rcases (hr i hi' hne).2 with k | k
    · omega
    · rw [g2] at k; exact hA _ _ k

theorem Fits.agree {ops : List Oper} {n : Nat} {fr0 fr fr' : List S} {vals : Nat → S} {D D' : Nat → Bool} (h : Fits ops n fr0 vals D fr) (h' : Fits ops n fr0 vals D' fr') {t : Nat}
    (hD : ∀ (j : Nat) o, j < n → ops[j]? = some o → o.dst = some t → D j = D' j) : fr[t]? = fr'[t]? := by
  by_cases ht : t < fr0.length
  · by_cases hw : ∃ (j : Nat) (o : Oper), j < n ∧ D j = true ∧ ops[j]? = some o ∧ o.dst = some t
    · obtain ⟨j, o, h1, h2, h3, h4⟩ := hw
      rw [h.new j o t h1 h2 h3 h4 ht, h'.new j o t h1 (by rw [← hD j o h1 h3 h4]; exact h2) h3 h4 ht]
    · rw [h.old t (fun j o h1 h2 h3 h4 => hw ⟨j, o, h1, h2, h3, h4⟩), h'.old t (fun j o h1 h2 h3 h4 => hw ⟨j, o, h1, by rw [hD j o h1 h3 h4]; exact h2, h3, h4⟩)]
  · rw [List.getElem?_eq_none (by rw [h.len]; omega), List.getElem?_eq_none (by rw [h'.len]; omega)]

theorem Fits.put {ops : List Oper} {n : Nat} (ok : Uniq ops n) {fr0 fr : List S} {vals : Nat → S} {D D' : Nat → Bool} (h : Fits ops n fr0 vals D fr) {i : Nat} {o : Oper} (hi : i < n) (ho : ops[i]? = some o)
    (hD : ∀ j, D' j = true ↔ (D j = true ∨ j = i)) : Fits ops n fr0 vals D' (put fr o.dst (vals i)) := by
  refine ⟨by rw [put_length]; exact h.len, fun t ht => ?_, fun j oj t hj hd hoj hdst htl => ?_⟩
  · have h1 : o.dst ≠ some t := ht i o hi ((hD i).2 (.inr rfl)) ho
    have h2 := h.old t fun j oj hj hd hoj => ht j oj hj ((hD j).2 (.inl hd)) hoj
    cases hdd : o.dst with
    | none => simpa [Abs.put] using h2
    | some d =>
      simp only [Abs.put]
      rw [List.getElem?_set_ne (fun e => h1 (by rw [hdd, e]))]
      exact h2
  · by_cases hji : j = i
    · subst hji
      rw [ho] at hoj
      obtain rfl := Option.some.inj hoj
      rw [hdst]
      simp only [Abs.put]
      rw [List.getElem?_set_self (by rw [h.len]; exact htl)]
    · have hdj : D j = true := by
        rcases (hD j).1 hd with h1 | h1
        · exact h1
        · exact absurd h1 hji
      have h2 := h.new j oj t hj hdj hoj hdst htl
      cases hdd : o.dst with
      | none => simpa [Abs.put] using h2
      | some d =>
        have h3 := ok i j o oj t hi hj (fun e => hji e.symm) ho hoj hdst
        simp only [Abs.put]
        rw [List.getElem?_set_ne (fun e => h3 (by rw [hdd, e]))]
        exact h2

theorem countP_set {p p' : Nat → Bool} {i : Nat} : ∀ {l : List Nat}, l.Nodup → i ∈ l → p i = false → (∀ j, p' j = (p j || j == i)) → l.countP p' = l.countP p + 1
  | [], _, h, _, _ => by cases h
  | x :: l, hnd, hm, hp, hpp => by
    rw [List.nodup_cons] at hnd
    rw [List.countP_cons, List.countP_cons]
    by_cases hx : x = i
    · subst hx
      have hsame : l.countP p' = l.countP p := by
        apply List.countP_congr
        intro j hj
        rw [hpp j]
        have : j ≠ x := fun e => hnd.1 (e ▸ hj)
        simp [this]
      rw [hsame, hpp x, hp]
      simp
    · have hm' : i ∈ l := by
        rcases List.mem_cons.1 hm with h | h
        · exact absurd h.symm hx
        · exact h
      rw [countP_set hnd.2 hm' hp hpp, hpp x]
      have : (x == i) = false := by simpa using hx
      simp only [this, Bool.or_false]
      omega
end Go.Abs

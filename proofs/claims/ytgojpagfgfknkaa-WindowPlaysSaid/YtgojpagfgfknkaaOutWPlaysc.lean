/- Texts that the proof stands on, put together: the abstract machine, and what functions do over it. -/
import Derived.Test.YtgojpagfgfknkaaOutWPlaysb
/- The abstract machine: regions that draw their order, whose effects lie in no one chain: one walk for each order of the effects. -/
namespace Go.Abs
open Go

/-! A list of operations, put into another order. -/
def posOf : List Nat → Nat → Nat
  | [], _ => 0
  | x :: r, i => bif Nat.beq x i then 0 else posOf r i + 1
def prevOf : List Nat → Nat → Option Nat
  | x :: y :: r, i => bif Nat.beq y i then some x else prevOf (y :: r) i
  | _, _ => none
def renE (ord : List Nat) (e : Edge) : Edge := ⟨posOf ord e.on, e.ground⟩
def preE (ord es : List Nat) (i : Nat) : Array Edge := match prevOf es i with
  | some x => #[⟨posOf ord x, .data⟩]
  | none => #[]
def renO (ord es : List Nat) (i : Nat) (o : Oper) : Oper :=
  ⟨o.dst, o.op, o.type, o.pos, o.after.map (renE ord) ++ preE ord es i, match o.guard with
    | some (j, b) => some (posOf ord j, b)
    | none => none⟩
def permO (ops : List Oper) (ord es : List Nat) : List Oper := ord.map fun i => renO ord es i ((ops[i]?).getD default)
def permB (n : Nat) (ord : List Nat) : Bool :=
  ord.length == n && (List.range n).all fun i => decide (posOf ord i < n) && ord[posOf ord i]? == some i && (match ord[i]? with
    | some x => decide (x < n) && posOf ord x == i
    | none => false)

theorem wp_ren {P : Program} {ord es : List Nat} {i : Nat} {o : Oper} {a : Act} {w : World} {K : Act → World → Prop} {Q : Exit → Act → World → Prop} : (renO ord es i o).wp P a w K Q = o.wp P a w K Q := rfl
theorem asks_ren {P : Program} {ord es : List Nat} {i : Nat} {o : Oper} {a : Act} {w : World} : (renO ord es i o).asks P a w = o.asks P a w := rfl

structure PermOk (n : Nat) (ord : List Nat) : Prop where
  len : ord.length = n
  lt : ∀ i, i < n → posOf ord i < n
  at_ : ∀ i, i < n → ord[posOf ord i]? = some i
  inv : ∀ (j x : Nat), ord[j]? = some x → x < n ∧ posOf ord x = j
theorem permB_ok {n : Nat} {ord : List Nat} (h : permB n ord = true) : PermOk n ord := by
  simp only [permB, Bool.and_eq_true, beq_iff_eq] at h
  obtain ⟨h1, h2⟩ := h
  have h3 : ∀ i, i < n → (posOf ord i < n ∧ ord[posOf ord i]? = some i) ∧ (match ord[i]? with
    | some x => decide (x < n) && posOf ord x == i
    | none => false) = true := fun i hi => by
    have := List.all_eq_true.1 h2 i (List.mem_range.2 hi)
    simpa only [Bool.and_eq_true, decide_eq_true_eq, beq_iff_eq] using this
  refine ⟨h1, fun i hi => (h3 i hi).1.1, fun i hi => (h3 i hi).1.2, fun j x hx => ?_⟩
  have hj : j < n := by rw [← h1]; exact (List.getElem?_eq_some_iff.1 hx).1
  have := (h3 j hj).2
  rw [hx] at this
  simpa only [Bool.and_eq_true, decide_eq_true_eq, beq_iff_eq] using this
theorem posOf_out : ∀ {ord : List Nat} {i : Nat}, i ∉ ord → posOf ord i = ord.length
  | [], _, _ => rfl
  | x :: r, i, h => by
    have hx : x ≠ i := fun e => h (by simp [e])
    have hr : i ∉ r := fun e => h (by simp [e])
    have : Nat.beq x i = false := by
      cases hb : Nat.beq x i with
      | false => rfl
      | true => exact absurd (Nat.eq_of_beq_eq_true hb) hx
    rw [posOf, this, cond_false, posOf_out hr]; rfl

section
variable {ops : List Oper} {ord es : List Nat}
theorem permO_len : (permO ops ord es).length = ord.length := by simp [permO]
theorem permO_at (ok : PermOk ops.length ord) {i : Nat} {o : Oper} (h : ops[i]? = some o) : (permO ops ord es)[posOf ord i]? = some (renO ord es i o) := by
  have hi := (List.getElem?_eq_some_iff.1 h).1
  simp [permO, List.getElem?_map, ok.at_ i hi, h]
theorem permO_inv (ok : PermOk ops.length ord) {j : Nat} {o' : Oper} (h : (permO ops ord es)[j]? = some o') : ∃ i o, ops[i]? = some o ∧ posOf ord i = j ∧ o' = renO ord es i o := by
  simp only [permO, List.getElem?_map, Option.map_eq_some_iff] at h
  obtain ⟨x, hx, rfl⟩ := h
  obtain ⟨h1, h2⟩ := ok.inv j x hx
  obtain ⟨o, ho⟩ : ∃ o, ops[x]? = some o := ⟨_, List.getElem?_eq_getElem h1⟩
  exact ⟨x, o, ho, h2, by rw [ho]; rfl⟩
theorem yielded_ren (ok : PermOk ops.length ord) (tmps : Array Value) (j : Nat) : yielded (permO ops ord es).toArray tmps (posOf ord j) = yielded ops.toArray tmps j := by
  unfold yielded
  have : ((permO ops ord es).toArray[posOf ord j]?).bind (·.dst) = (ops.toArray[j]?).bind (·.dst) := by
    simp only [List.getElem?_toArray]
    by_cases hj : j < ops.length
    · obtain ⟨o, ho⟩ : ∃ o, ops[j]? = some o := ⟨_, List.getElem?_eq_getElem hj⟩
      rw [permO_at ok ho, ho]; rfl
    · have hn : j ∉ ord := fun hm => by
        obtain ⟨k, hk⟩ := List.mem_iff_getElem?.1 hm
        exact hj (ok.inv k j hk).1
      rw [posOf_out hn, List.getElem?_eq_none (by rw [permO_len]; exact Nat.le_refl _), List.getElem?_eq_none (by omega)]
  rw [this]
theorem wanted_ren (ok : PermOk ops.length ord) (tmps : Array Value) (i : Nat) (o : Oper) : Region.wanted (renO ord es i o) (yielded (permO ops ord es).toArray tmps) = Region.wanted o (yielded ops.toArray tmps) := by
  unfold Region.wanted renO
  cases hg : o.guard with
  | none => rfl
  | some g =>
    obtain ⟨j, b⟩ := g
    simp only [yielded_ren ok]
theorem wpOps_ren (ok : PermOk ops.length ord) {P : Program} {Q : Exit → Act → World → Prop} : ∀ (σ : List Nat) (a : Act) (w : World), (∀ i ∈ σ, i < ops.length) →
    wpOps P (permO ops ord es).toArray Q (σ.map (posOf ord)) a w → wpOps P ops.toArray Q σ a w
  | [], _, _, _, h => h
  | i :: σ, a, w, hi, h => by
    obtain ⟨o, ho⟩ : ∃ o, ops[i]? = some o := ⟨_, List.getElem?_eq_getElem (hi i (by simp))⟩
    rw [List.map_cons, wpOps_cons] at h
    rw [wpOps_cons]
    unfold wpOp at h ⊢
    rw [List.getElem?_toArray] at h ⊢
    rw [permO_at ok ho] at h
    rw [ho]
    simp only at h ⊢
    rw [wanted_ren ok, wp_ren, asks_ren] at h
    have ih := wpOps_ren ok (P := P) (Q := Q) σ
    split
    · rename_i hw
      rw [if_pos hw] at h
      rcases h with h | h
      · exact .inl (Oper.wp_mono (fun a w h => ih a w (fun x hx => hi x (by simp [hx])) h) h)
      · exact .inr h
    · rename_i hw
      rw [if_neg hw] at h
      exact ih _ _ (fun x hx => hi x (by simp [hx])) h
end

/-! Orders that may be drawn. -/
inductive ValidO (ops : Array Oper) : Array Bool → List Nat → Prop
  | nil {l : Array Bool} : Region.ready .any ops l = [] → ValidO ops l []
  | cons {l : Array Bool} {i : Nat} {σ : List Nat} : i ∈ Region.ready .any ops l → ValidO ops (l.setIfInBounds i true) σ → ValidO ops l (i :: σ)

theorem any_valid {P : Program} {ops : Array Oper} {Q : Exit → Act → World → Prop} : ∀ (σ : List Nat) (f : Nat) (l : Array Bool) (a : Act) (w : World), ValidO ops l σ → wpAny P .any ops Q f l a w → wpOps P ops Q σ a w
  | [], 0, _, _, _, _, h => h.2
  | [], f + 1, _, _, _, .nil hr, h => h.1 hr
  | i :: σ, 0, _, _, _, .cons hi _, h => by rw [h.1] at hi; cases hi
  | i :: σ, f + 1, l, a, w, .cons hi hv, h => by
    rw [wpOps_cons]
    exact wpOp_mono (fun a w h => any_valid σ f _ a w hv h) (h.2 i hi)

theorem valid_go {ops : List Oper} : ∀ (f t : Nat) (l : Array Bool), l.size = ops.length → (List.range ops.length).countP (fun j => l.getD j false) + f = ops.length →
    ValidO ops.toArray l (Region.linearise.go .any ops.toArray f t l [])
  | 0, t, l, hs, hc => by
    have hall : ∀ j, j < ops.length → l.getD j false = true := by
      have : (List.range ops.length).countP (fun j => l.getD j false) = (List.range ops.length).length := by rw [List.length_range]; omega
      rw [List.countP_eq_length] at this
      exact fun j hj => this j (List.mem_range.2 hj)
    refine .nil (List.eq_nil_iff_forall_not_mem.2 fun i hi => ?_)
    obtain ⟨h1, o, h2, _⟩ := mem_ready.1 hi
    have hlt : i < ops.length := by simpa using (Array.getElem?_eq_some_iff.1 h2).1
    have h3 := getD_both h1
    rw [hall i hlt] at h3; cases h3
  | f + 1, t, l, hs, hc => by
    simp only [Region.linearise.go]
    change ValidO ops.toArray l (match (Region.ready .any ops.toArray l)[t % (Region.ready .any ops.toArray l).length]? with
      | some i => Region.linearise.go .any ops.toArray f (t / (Region.ready .any ops.toArray l).length) (l.setIfInBounds i true) [i]
      | none => [].reverse)
    cases hi : (Region.ready .any ops.toArray l)[t % (Region.ready .any ops.toArray l).length]? with
    | none =>
      refine .nil ?_
      cases hr : Region.ready .any ops.toArray l with
      | nil => rfl
      | cons x xs =>
        rw [hr] at hi
        have hlt : t % (x :: xs).length < (x :: xs).length := Nat.mod_lt _ (by simp)
        simp at hi
        simp at hlt
        omega
    | some i =>
      simp only []
      rw [linearise_go_acc, List.reverse_singleton, List.singleton_append]
      have hm := List.mem_of_getElem? hi
      obtain ⟨h1, o, h2, _⟩ := mem_ready.1 hm
      have hlt : i < ops.length := by simpa using (Array.getElem?_eq_some_iff.1 h2).1
      refine .cons hm (valid_go f _ _ (by simpa using hs) ?_)
      have := countP_set (p := fun j => l.getD j false) (p' := fun j => (l.setIfInBounds i true).getD j false) (i := i) (List.nodup_range (n := ops.length)) (List.mem_range.2 hlt) (getD_both h1) (fun j => by
        rw [getD_set_i false (by omega)]
        by_cases h : j = i
        · subst h; simp
        · rw [if_neg h]
          have : (j == i) = false := by simpa using h
          rw [this, Bool.or_false])
      omega

theorem valid_lt {ops : List Oper} {l : Array Bool} {σ : List Nat} (h : ValidO ops.toArray l σ) : ∀ i ∈ σ, i < ops.length := by
  induction h with
  | nil => intro i hi; cases hi
  | cons hi _ ih =>
    intro j hj
    rcases List.mem_cons.1 hj with rfl | hj
    · obtain ⟨_, o, h2, _⟩ := mem_ready.1 hi
      simpa using (Array.getElem?_eq_some_iff.1 h2).1
    · exact ih j hj

/-! Which orders the effects come in. -/
def covB (A E : List Nat) (pls : List (List Nat)) : Nat → List Nat → Bool
  | 0, run => (E.all fun e => run.contains e) && pls.contains run
  | f + 1, run => bif (E.all fun e => run.contains e) then pls.contains run else E.all fun i => run.contains i || (E.any fun e => (A.getD i 0).testBit e && !run.contains e) || covB A E pls f (run ++ [i])

theorem cov_sound {ops : List Oper} {A E : List Nat} {pls : List (List Nat)} (hA : ∀ i j, (A.getD i 0).testBit j = true → Anc ops i j) (hE : ∀ e ∈ E, e < ops.length)
    (topo : ∀ (i : Nat) o, ops[i]? = some o → ∀ e ∈ o.after, Region.binds .any e = true → e.on < i) :
    ∀ (σ : List Nat) (l : Array Bool) (f : Nat) (run : List Nat), l.size = ops.length → (∀ (j : Nat) oj, ops[j]? = some oj → l.getD j false = true → ∀ e ∈ oj.after, Region.binds .any e = true → l.getD e.on false = true) →
      (∀ e ∈ E, l.getD e false = true ↔ e ∈ run) → ValidO ops.toArray l σ → covB A E pls f run = true → run ++ σ.filter (fun i => E.contains i) ∈ pls
  | [], l, f, run, hs, hcl, hr, .nil hnil, hc => by
    have hall : ∀ (j : Nat), j < ops.length → l.getD j false = true := by
      intro j
      induction j using Nat.strongRecOn with
      | ind j ih =>
        intro hj
        obtain ⟨o, ho⟩ : ∃ o, ops[j]? = some o := ⟨_, List.getElem?_eq_getElem hj⟩
        apply Classical.byContradiction
        intro hn
        have hn' : l.getD j false = false := by simpa using hn
        have : j ∈ Region.ready .any ops.toArray l := mem_ready.2 ⟨getD_in (by omega) hn', o, by simpa using ho, fun e he hb => ih e.on (topo j o ho e he hb) (by have := topo j o ho e he hb; omega)⟩
        rw [hnil] at this; cases this
    have hE' : (E.all fun e => run.contains e) = true := List.all_eq_true.2 fun e he => by
      have := (hr e he).1 (hall e (hE e he))
      simpa using this
    rw [List.filter_nil, List.append_nil]
    cases f with
    | zero => simp only [covB, hE', Bool.true_and] at hc; simpa using hc
    | succ f => simp only [covB, hE', cond_true] at hc; simpa using hc
  | i :: σ, l, f, run, hs, hcl, hr, .cons hi hv, hc => by
    obtain ⟨h1, o, h2, hd⟩ := mem_ready.1 hi
    have ho : ops[i]? = some o := by simpa using h2
    have hlt := (List.getElem?_eq_some_iff.1 ho).1
    have hcl' : ∀ (j : Nat) oj, ops[j]? = some oj → (l.setIfInBounds i true).getD j false = true → ∀ e ∈ oj.after, Region.binds .any e = true → (l.setIfInBounds i true).getD e.on false = true := by
      intro j oj hj hlj e he hb
      rw [getD_set_i false (by omega)] at hlj ⊢
      by_cases hji : j = i
      · subst hji
        rw [ho] at hj
        obtain rfl := Option.some.inj hj
        rw [hd e he hb]; simp
      · rw [if_neg hji] at hlj
        rw [hcl j oj hj hlj e he hb]; simp
    by_cases hiE : i ∈ E
    · have hnr : i ∉ run := fun h => by
        have := (hr i hiE).2 h
        rw [getD_both h1] at this; cases this
      have hE' : (E.all fun e => run.contains e) = false := by
        apply Bool.eq_false_iff.2
        intro h
        have := List.all_eq_true.1 h i hiE
        exact hnr (by simpa using this)
      rw [List.filter_cons_of_pos (by simpa using hiE)]
      cases f with
      | zero => simp only [covB, hE', Bool.false_and] at hc; cases hc
      | succ f =>
        simp only [covB, hE', cond_false] at hc
        have h3 := List.all_eq_true.1 hc i hiE
        simp only [Bool.or_eq_true, List.any_eq_true, Bool.and_eq_true, Bool.not_eq_true', List.contains_iff_mem] at h3
        rcases h3 with (h3 | ⟨e, h3, h4, h5⟩) | h3
        · exact absurd h3 hnr
        · have := anc_listed (listed := l) hcl (hA i e h4) (fun o' ho' e' he' hb' => by
            rw [ho] at ho'; obtain rfl := Option.some.inj ho'; exact hd e' he' hb')
          have := (hr e h3).1 this
          have h6 : run.contains e = true := by simpa using this
          rw [h6] at h5; cases h5
        · have := cov_sound hA hE topo σ (l.setIfInBounds i true) f (run ++ [i]) (by simpa using hs) hcl' (fun e he => by
            rw [getD_set_i false (by omega)]
            by_cases hei : e = i
            · subst hei; simp
            · rw [if_neg hei, hr e he]; simp [hei]) hv h3
          rw [List.append_assoc] at this
          exact this
    · rw [List.filter_cons_of_neg (by simpa using hiE)]
      refine cov_sound hA hE topo σ (l.setIfInBounds i true) f run (by simpa using hs) hcl' (fun e he => ?_) hv hc
      rw [getD_set_i false (by omega), if_neg (fun h : e = i => hiE (h ▸ he))]
      exact hr e he

theorem prevOf_at : ∀ {es : List Nat} {i x : Nat}, prevOf es i = some x → ∃ l r, es = l ++ x :: i :: r
  | [], _, _, h => by simp [prevOf] at h
  | [_], _, _, h => by simp [prevOf] at h
  | a :: b :: es, i, x, h => by
    simp only [prevOf] at h
    cases hb : Nat.beq b i with
    | true =>
      rw [hb, cond_true] at h
      have := Nat.eq_of_beq_eq_true hb
      subst this
      obtain rfl := Option.some.inj h
      exact ⟨[], es, rfl⟩
    | false =>
      rw [hb, cond_false] at h
      obtain ⟨l, r, e⟩ := prevOf_at h
      exact ⟨a :: l, r, by rw [e]; rfl⟩

/-- An order in which the effects come just so is one of the renamed region. -/
theorem valid_ren {ops : List Oper} {ord es E : List Nat} (ok : PermOk ops.length ord) (topo : ∀ (i : Nat) o, ops[i]? = some o → ∀ e ∈ o.after, Region.binds .any e = true → e.on < i)
    (hnd : es.Nodup) (hsub : ∀ e ∈ es, e ∈ E) : ∀ (σ : List Nat) (l l' : Array Bool) (run : List Nat), l.size = ops.length → l'.size = ops.length → (∀ j, j < ops.length → l'.getD (posOf ord j) false = l.getD j false) →
      (∀ e ∈ E, e ∈ run → l.getD e false = true) → es = run ++ σ.filter (fun i => E.contains i) → ValidO ops.toArray l σ → ValidO (permO ops ord es).toArray l' (σ.map (posOf ord))
  | [], l, l', run, hs, hs', hl, hr, he, .nil hnil => by
    refine .nil (List.eq_nil_iff_forall_not_mem.2 fun j hj => ?_)
    obtain ⟨h1, o', h2, hd⟩ := mem_ready.1 hj
    obtain ⟨i, o, ho, hp, rfl⟩ := permO_inv ok (by simpa using h2)
    have hi := (List.getElem?_eq_some_iff.1 ho).1
    have : i ∈ Region.ready .any ops.toArray l := mem_ready.2 ⟨getD_in (by omega) (by rw [← hl i hi, hp]; exact getD_both h1), o, by simpa using ho, fun e he hb => by
      have h3 := hd (renE ord e) (by simp only [renO, Array.mem_append, Array.mem_map]; exact .inl ⟨e, he, rfl⟩) hb
      have h4 := topo i o ho e he hb
      rw [← hl e.on (by omega)]; exact h3⟩
    rw [hnil] at this; cases this
  | i :: σ, l, l', run, hs, hs', hl, hr, he, .cons hi hv => by
    obtain ⟨h1, o, h2, hd⟩ := mem_ready.1 hi
    have ho : ops[i]? = some o := by simpa using h2
    have hlt := (List.getElem?_eq_some_iff.1 ho).1
    have hpl := ok.lt i hlt
    have hl' : ∀ j, j < ops.length → (l'.setIfInBounds (posOf ord i) true).getD (posOf ord j) false = (l.setIfInBounds i true).getD j false := fun j hj => by
      rw [getD_set_i false (by omega), getD_set_i false (by omega)]
      by_cases hji : j = i
      · subst hji; simp
      · have : posOf ord j ≠ posOf ord i := fun h => hji (by
          have h3 := ok.at_ j hj
          rw [h, ok.at_ i hlt] at h3
          exact (Option.some.inj h3).symm)
        rw [if_neg hji, if_neg this, hl j hj]
    have hready : posOf ord i ∈ Region.ready .any (permO ops ord es).toArray l' := by
      refine mem_ready.2 ⟨getD_in (by omega) (by rw [hl i hlt]; exact getD_both h1), renO ord es i o, by simpa using permO_at ok ho, fun e hm hb => ?_⟩
      simp only [renO, Array.mem_append, Array.mem_map] at hm
      rcases hm with ⟨e0, hm, rfl⟩ | hm
      · have h4 := topo i o ho e0 hm hb
        show l'.getD (posOf ord e0.on) false = true
        rw [hl e0.on (by omega)]; exact hd e0 hm hb
      · unfold preE at hm
        cases hp : prevOf es i with
        | none => rw [hp] at hm; simp at hm
        | some x =>
          rw [hp] at hm
          simp only [List.mem_toArray, List.mem_cons, List.not_mem_nil, or_false] at hm
          subst hm
          show l'.getD (posOf ord x) false = true
          obtain ⟨p, q, hpq⟩ := prevOf_at hp
          have hiE : i ∈ E := hsub i (by rw [hpq]; simp)
          have hxE : x ∈ E := hsub x (by rw [hpq]; simp)
          rw [List.filter_cons_of_pos (by simpa using hiE)] at he
          -- the same list, cut at i twice
          have hnd1 := hnd
          rw [he] at hnd1
          have hnr : i ∉ run := fun h => by
            have := (List.nodup_append.1 hnd1).2.2 i h i (by simp)
            exact this rfl
          have hnp : i ∉ p ++ [x] := fun h => by
            have hnd2 := hnd
            rw [hpq, show p ++ x :: i :: q = (p ++ [x]) ++ i :: q by simp] at hnd2
            exact (List.nodup_append.1 hnd2).2.2 i h i (by simp) rfl
          have hcut : ∀ (a b c d : List Nat), a ++ i :: b = c ++ i :: d → i ∉ a → i ∉ c → a = c := by
            intro a
            induction a with
            | nil =>
              intro b c d h _ hc
              cases c with
              | nil => rfl
              | cons y c => simp at h; exact absurd h.1 (fun e => hc (by simp [← e]))
            | cons z a ih =>
              intro b c d h ha hc
              cases c with
              | nil => simp at h; exact absurd h.1.symm (fun e => ha (by simp [← e]))
              | cons y c =>
                simp only [List.cons_append, List.cons.injEq] at h
                rw [h.1, ih b c d h.2 (fun e => ha (by simp [e])) (fun e => hc (by simp [e]))]
          have hrun : run = p ++ [x] := hcut run _ (p ++ [x]) q (by rw [← he, hpq]; simp) hnr hnp
          have hlx := hr x hxE (by rw [hrun]; simp)
          have hxl : x < ops.length := by
            rcases Nat.lt_or_ge x ops.length with h | h
            · exact h
            · rw [Array.getD_eq_getD_getElem?, Array.getElem?_eq_none (by omega)] at hlx; cases hlx
          rw [hl x hxl]; exact hlx
    rw [List.map_cons]
    by_cases hiE : i ∈ E
    · rw [List.filter_cons_of_pos (by simpa using hiE)] at he
      exact .cons hready (valid_ren ok topo hnd hsub σ _ _ (run ++ [i]) (by simpa using hs) (by simpa using hs') hl' (fun e heE hm => by
        rw [getD_set_i false (by omega)]
        by_cases hei : e = i
        · rw [if_pos hei]
        · rw [if_neg hei]
          refine hr e heE ?_
          rcases List.mem_append.1 hm with h | h
          · exact h
          · simp at h; exact absurd h hei) (by rw [he]; simp) hv)
    · rw [List.filter_cons_of_neg (by simpa using hiE)] at he
      exact .cons hready (valid_ren ok topo hnd hsub σ _ _ run (by simpa using hs) (by simpa using hs') hl' (fun e heE hm => by
        rw [getD_set_i false (by omega)]
        by_cases hei : e = i
        · rw [if_pos hei]
        · rw [if_neg hei]; exact hr e heE hm) he hv)

/-- A region that draws its order: what draw_game comes to. -/
theorem drawE_any {P : Program} {n0 : Nat} {ops : List Oper} {Q : Exit → St → Prop} {fr : List S} {H : Heap} (es lo hi : List Nat) (hB : drawE ops es lo hi = true) (hn : n0 ≤ H.length)
    (h : Dw P ops lo hi (Q .normal) ops 0 es [H] [] fr) {E : Env} {ρ : Nat → Place} {a : Act} {w : World} (hE : E.Ok) (hs : Sim E ρ ⟨fr, H⟩ a w) :
    wpAny P .any ops.toArray (post n0 E ρ Q) ops.length (Array.replicate ops.length false) a { w with drawn := w.drawn + 1 } := by
  have ok := drawE_ok hB
  obtain ⟨vals, hp, Vs, h1, _, h2⟩ := dw_tr (E := es.length) ops 0 es [H] [] fr (by simp) (by simp; omega) h
  have h0 : hp 0 = H := by
    have := h1 0 (by simp)
    simpa using this.symm
  obtain ⟨hst, hend⟩ := tr_each ok (fr0 := fr) ops 0 0 fr (fun j => by rw [Nat.zero_add]) (by simp) (Nat.zero_le _) (fun m e _ => by omega) ⟨rfl, fun _ _ => rfl, fun j o t _ hd => by simp at hd⟩ (by simpa using h2)
  exact draw_game (P := P) (n0 := n0) (Q := Q) ok (fun j o ho => hst j o (Nat.zero_le _) ho) hend hE ops.length 0 ρ (Array.replicate ops.length false) fr a { w with drawn := w.drawn + 1 } (by
      have : (List.range ops.length).countP (fun j => (Array.replicate ops.length false).getD j false) = 0 := by
        rw [List.countP_eq_zero]
        intro j _
        rw [getD_replicate_false]; simp
      rw [this]; simp)
    ⟨by simp, fun j oj _ hl => (by rw [getD_replicate_false] at hl; cases hl), fun t ht ht' => by simp at ht ht'; omega⟩ (Nat.zero_le _)
    (fun m e _ => by rw [getD_replicate_false]; simp)
    ⟨rfl, fun _ _ => rfl, fun j o t _ hd => by rw [getD_replicate_false] at hd; cases hd⟩ (by rw [h0]; exact hn) ⟨by rw [h0]; exact hs.fr, by rw [h0]; exact hs.heap.drew _⟩

/-- One order of the effects: the order of the walk, the effects by their numbers, and by their places in the walk, and what may come between which. -/
structure Plan where
  ord : List Nat
  es : List Nat
  es2 : List Nat
  lo : List Nat
  hi : List Nat
def planB (ops : List Oper) (E : List Nat) (p : Plan) : Bool :=
  permB ops.length p.ord && drawE (permO ops p.ord p.es) p.es2 p.lo p.hi && decide p.es.Nodup && (p.es.all fun e => E.contains e)
def multiB (ops : List Oper) (E : List Nat) (pls : List Plan) : Bool :=
  topoE ops && (E.all fun e => decide (e < ops.length)) && covB (ancs ops []) E (pls.map Plan.es) E.length [] && pls.all (planB ops E)
def plansDw (P : Program) (ops : List Oper) (Q : St → Prop) (H : Heap) (fr : List S) : List Plan → Prop
  | [] => True
  | p :: r => Dw P (permO ops p.ord p.es) p.lo p.hi Q (permO ops p.ord p.es) 0 p.es2 [H] [] fr ∧ plansDw P ops Q H fr r
theorem plans_at {P : Program} {ops : List Oper} {Q : St → Prop} {H : Heap} {fr : List S} : ∀ {pls : List Plan}, plansDw P ops Q H fr pls → ∀ p ∈ pls, Dw P (permO ops p.ord p.es) p.lo p.hi Q (permO ops p.ord p.es) 0 p.es2 [H] [] fr
  | [], _, p, hp => by cases hp
  | q :: r, h, p, hp => by
    rcases List.mem_cons.1 hp with rfl | hp
    · exact h.1
    · exact plans_at h.2 p hp
theorem awp_drawM {P : Program} {n0 id : Nat} {ops : Array Oper} {Q : Exit → St → Prop} {fr : List S} {H : Heap} (E : List Nat) (pls : List Plan) (hm : P.follows .mixedOrders = true) (hB : multiB ops.toList E pls = true) (hn : n0 ≤ H.length)
    (h : plansDw P ops.toList (Q .normal) H fr pls) : AWp P n0 (.region id ops true) Q ⟨fr, H⟩ := by
  intro En ρ a w hE hs
  simp only [multiB, Bool.and_eq_true] at hB
  obtain ⟨⟨⟨hT, hEl⟩, hC⟩, hP⟩ := hB
  obtain ⟨ops⟩ := ops
  simp only at hT hEl hC hP h ⊢
  have topo : ∀ (i : Nat) o, ops[i]? = some o → ∀ e ∈ o.after, Region.binds .any e = true → e.on < i := fun i o ho e he hb => by
    have := List.all_eq_true.1 hT i (List.mem_range.2 (List.getElem?_eq_some_iff.1 ho).1)
    rw [ho] at this
    have := Array.all_eq_true'.1 this e he
    simp only [hb, Bool.not_true, Bool.false_or, decide_eq_true_eq] at this
    exact this
  have hA : ∀ i j, ((ancs ops []).getD i 0).testBit j = true → Anc ops i j := ancs_spec ops [] (fun j => by simp) (fun i j hb => by simp at hb)
  refine wp_region_draw fun t => ?_
  simp only [Region.schedule, hm, Bool.true_or, if_true]
  have hv : ValidO ops.toArray (Array.replicate ops.length false) (Region.linearise .any ops.toArray t) := by
    show ValidO ops.toArray _ (Region.linearise.go .any ops.toArray ops.toArray.size t (Array.replicate ops.toArray.size false) [])
    rw [show ops.toArray.size = ops.length by simp]
    refine valid_go _ _ _ (by simp) ?_
    have : (List.range ops.length).countP (fun j => (Array.replicate ops.length false).getD j false) = 0 := by
      rw [List.countP_eq_zero]
      intro j _
      rw [getD_replicate_false]; simp
    rw [this]; simp
  generalize Region.linearise .any ops.toArray t = σ at hv ⊢
  have hlt := valid_lt hv
  have hcov := cov_sound (pls := pls.map Plan.es) (E := E) hA (fun e he => by simpa using List.all_eq_true.1 hEl e he) topo σ _ E.length [] (by simp) (fun j oj _ hl => (by rw [getD_replicate_false] at hl; cases hl))
    (fun e _ => by rw [getD_replicate_false]; simp) hv hC
  rw [List.nil_append] at hcov
  obtain ⟨p, hp, he⟩ := List.mem_map.1 hcov
  have hpB := List.all_eq_true.1 hP p hp
  simp only [planB, Bool.and_eq_true, decide_eq_true_eq] at hpB
  obtain ⟨⟨⟨h1, h2⟩, h3⟩, h4⟩ := hpB
  have ok := permB_ok h1
  have hany := drawE_any (n0 := n0) (Q := Q) p.es2 p.lo p.hi h2 hn (plans_at h p hp) hE hs
  refine wpOps_ren ok σ _ _ hlt (any_valid _ _ _ _ _ ?_ hany)
  refine valid_ren (E := E) ok topo h3 (fun e he => by simpa using List.all_eq_true.1 h4 e he) σ (Array.replicate ops.length false) _ [] (by simp) (by simp [permO_len, ok.len]) (fun j _ => by rw [getD_replicate_false, getD_replicate_false]) (fun e _ hm => by cases hm) (by rw [List.nil_append]; exact he) hv
/-! Effects in a region, the memory told plainly behind each. -/
section
variable {P : Program} {N : Nat} {al : List (Nat × S)} {H H1 H2 : Heap} {ops r : List Oper} {q : St → Prop} {op : Op} {oty : TypeId} {ops_ : String} {oaf : Array Edge} {d j w : Nat} {want : Bool} {oj : Oper} {s : S}
variable {lo hi : List Nat} {i : Nat} {rem : List Nat} {hist : List Heap} {pend : List (Nat × Heap)}
theorem De2 (h : ∀ K : S → Heap → Prop, K s H1 → ostep P ⟨some d, op, oty, ops_, oaf, none⟩ (frm N al) H K) (k : Dw P ops lo hi q r (i + 1) rem (H2 :: H :: hist) pend (frm N ((d, s) :: al))) (hH : H1 = H2 := by first | (simp only [List.set_cons_zero, List.set_cons_succ, List.cons_append, List.nil_append, List.append_nil, kill, setB]; done) | (simp only [List.set_cons_zero, List.set_cons_succ, List.cons_append, List.nil_append, List.append_nil, kill, setB]; exact rfl) | exact rfl) (hp : pendOk pend (hist.length + 1) H2 := by repeat' (first | exact trivial | exact sub_one rfl | refine And.intro ?_ ?_)) : Dw P ops lo hi q (⟨some d, op, oty, ops_, oaf, none⟩ :: r) i (i :: rem) (H :: hist) pend (frm N al) := by
  subst hH; exact De (h _ ⟨hp, k⟩)
theorem G2 (h : ∀ K : S → Heap → Prop, K s H1 → ostep P ⟨some d, op, oty, ops_, oaf, none⟩ (frm N al) H K) (k : aops P ops q r ⟨frm N ((d, s) :: al), H2⟩) (hH : H1 = H2 := by first | (simp only [List.set_cons_zero, List.set_cons_succ, List.cons_append, List.nil_append, List.append_nil, kill, setB]; done) | (simp only [List.set_cons_zero, List.set_cons_succ, List.cons_append, List.nil_append, List.append_nil, kill, setB]; exact rfl) | exact rfl) : aops P ops q (⟨some d, op, oty, ops_, oaf, none⟩ :: r) ⟨frm N al, H⟩ := by
  subst hH; exact G (h _ k)
theorem G20 (h : ∀ K : S → Heap → Prop, K s H1 → ostep P ⟨none, op, oty, ops_, oaf, none⟩ (frm N al) H K) (k : aops P ops q r ⟨frm N al, H2⟩) (hH : H1 = H2 := by first | (simp only [List.set_cons_zero, List.set_cons_succ, List.cons_append, List.nil_append, List.append_nil, kill, setB]; done) | (simp only [List.set_cons_zero, List.set_cons_succ, List.cons_append, List.nil_append, List.append_nil, kill, setB]; exact rfl) | exact rfl) : aops P ops q (⟨none, op, oty, ops_, oaf, none⟩ :: r) ⟨frm N al, H⟩ := by
  subst hH; exact G0 (h _ k)
theorem G2g (h : ∀ K : S → Heap → Prop, K s H1 → ostep P ⟨some d, op, oty, ops_, oaf, some (j, want)⟩ (frm N al) H K) (k : aops P ops q r ⟨frm N ((d, s) :: al), H2⟩) (hH : H1 = H2 := by first | (simp only [List.set_cons_zero, List.set_cons_succ, List.cons_append, List.nil_append, List.append_nil, kill, setB]; done) | (simp only [List.set_cons_zero, List.set_cons_succ, List.cons_append, List.nil_append, List.append_nil, kill, setB]; exact rfl) | exact rfl) (hj : ops[j]? = some oj := by exact rfl) (hjd : oj.dst = some w := by exact rfl) (hv : lkpB N al w = .v (.c (.bool want)) := by first | exact rfl | exact congrArg (fun b => S.v (V.c (Cell.bool b))) (by assumption) | exact congrArg (fun b => S.v (V.c (Cell.bool b))) (decide_eq_true (by assumption)) | exact congrArg (fun b => S.v (V.c (Cell.bool b))) (decide_eq_false (by assumption))) : aops P ops q (⟨some d, op, oty, ops_, oaf, some (j, want)⟩ :: r) ⟨frm N al, H⟩ := by
  subst hH; exact Gg (h _ k) hj hjd hv
end
section
variable {P : Program} {n N id : Nat} {Q : Exit → St → Prop} {ops : Array Oper} {al : List (Nat × S)} {H H' : Heap}
theorem rdm (E : List Nat) (pls : List Plan) (h : plansDw P ops.toList (Q .normal) H' (frm N al) pls) (hH : H = H' := by first | (simp only [List.set_cons_zero, List.set_cons_succ, List.cons_append, List.nil_append, List.append_nil]; done) | (simp only [List.set_cons_zero, List.set_cons_succ, List.cons_append, List.nil_append, List.append_nil]; exact rfl) | exact rfl) (hn : Nat.ble n H'.length = true := by exact rfl) (hm : P.follows .mixedOrders = true := by exact rfl) (hB : multiB ops.toList E pls = true := by decide +kernel) : AWp P n (.region id ops true) Q ⟨frm N al, H⟩ := by
  subst hH; exact awp_drawM E pls hm hB (Nat.le_of_ble_eq_true hn) h
end
/-! More operations. -/
section
variable {P : Program} {fr : List S} {H : Heap} {K : S → Heap → Prop} {od : Option Nat} {oty : TypeId} {ops_ : String} {oaf : Array Edge} {ogu : Option (Nat × Bool)} {t u : TypeId} {ti : TI} {a b : Operand}
end
end Go.Abs

/- What functions of the program do, walked over the abstract machine. -/
namespace Go.Proofs.Ytgojpagfgfknkaa.Wd
open Go Go.Abs Go.Proofs

/-- Is a number below the greatest one, of a window to which some came? -/
def wb (g b n : UInt64) : Bool := decide (b ≠ 0) && decide (n ≤ g)
abbrev wbit (b d : UInt64) : Prop := shr64n b d.toNat &&& 1 = 1
def wchk (m : Bool) (g b n : UInt64) : Nat := if m then (if wb g b n then (if 64 ≤ g - n ∨ wbit b (g - n) then 10 else 0) else 0) else 1
def wcame (m : Bool) (g b n : UInt64) : Bool := m && (wb g b n && (decide (g - n < 64) && decide (wbit b (g - n))))
abbrev wcs (m : Bool) (g b : UInt64) : List Cell := [c64 g, c64 b, .bool m]
def wtake (g b n : UInt64) : UInt64 × UInt64 := if wb g b n then (g, b ||| shl64n 1 (g - n).toNat) else if b = 0 then (n, 1) else if 64 ≤ n - g then (n, 0 ||| 1) else (n, shl64n b (n - g).toNat ||| 1)
def wnext (m : Bool) (g b n : UInt64) : UInt64 × UInt64 := if wchk m g b n = 0 then wtake g b n else (g, b)
/-- (*window.Window).there -/
theorem there (m : Bool) (g b : UInt64) : Good Try.prog 18 [.c (.rop (wcs m g b))] [] (sc (.bool m)) [] := by
  refine good_frm 11 Try.func18 rfl rfl rfl rfl rfl rfl ?_
  refine awp_seq ?_
  refine rln ?_
  refine As ?_
  refine gend ?_
  refine awp_seq ?_
  refine rln ?_
  refine Mv ?_
  refine G (q_neqp ?_)
  refine Mv ?_
  refine Gg (q_mv (s := .v (.c _)) ?_)
  refine Gg (q_ncr ?_)
  refine Gg (q_far ?_)
  refine Gg (q_ldr ?_)
  refine G (q_pkt ?_)
  refine As ?_
  refine gend ?_
  refine awp_ret ?_
  exact fp1
/-- (*window.Window).below -/
theorem below (m : Bool) (g b n : UInt64) : Good Try.prog 17 [.c (.rop (wcs m g b)), .c (c64 n)] [] (.t [.c (c64 (g - n)), .c (.bool (wb g b n))]) [] := by
  refine good_frm 25 Try.func17 rfl rfl rfl rfl rfl rfl ?_
  refine awp_seq ?_
  refine rln ?_
  refine G (q_as (s := sc (c64 0)) ?_)
  refine As ?_
  refine gend ?_
  refine awp_seq ?_
  refine rdln [] [] [] ?_
  refine Dp (fun _ => q_mv (s := .v (.c _)) ⟨rfl, rfl⟩) ?_
  refine Dp (fun _ => q_ncr ⟨rfl, rfl⟩) ?_
  refine Dp (fun _ => q_far ⟨rfl, rfl⟩) ?_
  refine Dp (fun _ => q_ldr ⟨rfl, rfl⟩) ?_
  refine Dp (fun _ => q_mv (s := .v (.c _)) ⟨rfl, rfl⟩) ?_
  refine Dp (fun _ => q_sub64 ⟨rfl, rfl⟩) ?_
  refine Dp (fun _ => q_mv (s := .v (.c _)) ⟨rfl, rfl⟩) ?_
  refine Dp (fun _ => q_ncr ⟨rfl, rfl⟩) ?_
  refine Dp (fun _ => q_far ⟨rfl, rfl⟩) ?_
  refine Dp (fun _ => q_ldr ⟨rfl, rfl⟩) ?_
  refine Dp (fun _ => q_neq64 (y := 0) ⟨rfl, rfl⟩) ?_
  refine Dp (fun _ => q_mv (s := .v (.c _)) ⟨rfl, rfl⟩) ?_
  refine Dspd 17 (fun hb12 => ?_) (fun hb12 => ?_)
  · refine Dpg (fun _ => q_mv (s := .v (.c _)) ⟨rfl, rfl⟩) ?_
    refine Dpg (fun _ => q_mv (s := .v (.c _)) ⟨rfl, rfl⟩) ?_
    refine Dpg (fun _ => q_ncr ⟨rfl, rfl⟩) ?_
    refine Dpg (fun _ => q_far ⟨rfl, rfl⟩) ?_
    refine Dpg (fun _ => q_ldr ⟨rfl, rfl⟩) ?_
    refine Dpg (fun _ => q_leq64 ⟨rfl, rfl⟩) ?_
    refine Dp (fun _ => q_pkt ⟨rfl, rfl⟩) ?_
    refine Dp (fun _ => q_as (s := .v (.c _)) ⟨rfl, rfl⟩) ?_
    refine Dp (fun _ => q_as (s := .v (.c _)) ⟨rfl, rfl⟩) ?_
    refine dend ?_
    refine awp_ret ?_
    exact fp2 (hv := by simp [wb, hb12])
  refine Dn ?_
  refine Dn ?_
  refine Dn ?_
  refine Dn ?_
  refine Dn ?_
  refine Dn ?_
  refine Dp (fun _ => q_pkf ⟨rfl, rfl⟩) ?_
  refine Dp (fun _ => q_as (s := .v (.c _)) ⟨rfl, rfl⟩) ?_
  refine Dp (fun _ => q_as (s := .v (.c _)) ⟨rfl, rfl⟩) ?_
  refine dend ?_
  refine awp_ret ?_
  exact fp2 (hv := by simp [wb, hb12])
/-- (*window.Window).Check -/
theorem check (m : Bool) (g b n : UInt64) : Good Try.prog 15 [.c (.rop (wcs m g b)), .c (c64 n)] [] (sc (cn (wchk m g b n))) [] := by
  refine good_frm 30 Try.func15 rfl rfl rfl rfl rfl rfl ?_
  refine awp_seq ?_
  refine rln ?_
  refine G (q_as (s := sc (cn 0)) ?_)
  refine gend ?_
  refine awp_scope 0 (fun s => (m = true ∧ wb g b n = false) ∧ ∃ al H, s = ⟨frm 30 al, H⟩) rfl ?_ ?_; rotate_left
  · rintro _ ⟨⟨hm, hw⟩, al, H, rfl⟩
    refine awp_seq ?_
    refine awp_skip ?_
    refine awp_seq ?_
    refine rln ?_
    refine G (q_as (s := sc (cn 0)) ?_)
    refine gend ?_
    refine awp_ret ?_
    exact fp1 (hv := by simp [wchk, wbit, *])
  refine awp_seq ?_
  refine awp_seq ?_
  refine rln ?_
  refine Mv ?_
  refine G2 (fun _ k_ => q_callp (there _ _ _/- (*escutcheon/window.Window).there -/) k_) ?_
  refine G (q_notb ?_)
  refine gend ?_
  refine cndbn (fun hc1 => ?_) (fun hc1 => ?_)
  · refine awp_seq ?_
    refine rln ?_
    refine G (q_as (s := sc (cn 1)) ?_)
    refine gend ?_
    refine awp_ret ?_
    exact fp1 (hv := by simp [wchk, wbit, *])
  refine awp_skip ?_
  refine awp_seq ?_
  refine rln ?_
  refine Mv ?_
  refine Mv ?_
  refine G2 (fun _ k_ => q_callp (below _ _ _ _/- (*escutcheon/window.Window).below -/) k_) ?_
  refine G (q_mv (s := .t _) ?_)
  refine G (q_ext (y := .c _) ?_)
  refine G (q_ext (y := .c _) ?_)
  refine As ?_
  refine As ?_
  refine gend ?_
  refine awp_seq ?_
  refine awp_seq ?_
  refine rln ?_
  refine Mv ?_
  refine G (q_notb ?_)
  refine gend ?_
  refine cndbn (fun hc2 => ?_) (fun hc2 => ?_)
  · refine awp_goto ?_
    exact ⟨rfl, ⟨by assumption, by assumption⟩, _, _, rfl⟩
  refine awp_skip ?_
  refine awp_seq ?_
  refine awp_seq ?_
  refine rln ?_
  refine Mv ?_
  refine G (q_geq64 (y := 64) ?_)
  refine Mv ?_
  refine Aspd 20 (fun hb3 => ?_) (fun hb3 => ?_)
  · refine Gn ?_
    refine Gn ?_
    refine Gn ?_
    refine Gn ?_
    refine Gn ?_
    refine Gn ?_
    refine Gn ?_
    refine Gn ?_
    refine G (q_pkt ?_)
    refine gend ?_
    refine cndT ?_
    refine awp_seq ?_
    refine rln ?_
    refine G (q_as (s := sc (cn 10)) ?_)
    refine gend ?_
    refine awp_ret ?_
    exact fp1 (hv := by simp [wchk, wbit, *])
  refine Gg (q_mv (s := .v (.c _)) ?_)
  refine Gg (q_ncr ?_)
  refine Gg (q_far ?_)
  refine Gg (q_ldr ?_)
  refine Gg (q_mv (s := .v (.c _)) ?_)
  refine Gg (q_shr64_64 ?_)
  refine Gg (q_and64 (y := 1) ?_)
  refine Gg (q_eql64 (y := 1) ?_)
  refine G (q_pkf ?_)
  refine gend ?_
  refine cnd (fun hc3 => ?_) (fun hc3 => ?_)
  · refine awp_seq ?_
    refine rln ?_
    refine G (q_as (s := sc (cn 10)) ?_)
    refine gend ?_
    refine awp_ret ?_
    exact fp1 (hv := by simp [wchk, wbit, *])
  refine awp_skip ?_
  refine awp_seq ?_
  refine awp_label ?_
  refine awp_seq ?_
  refine rln ?_
  refine G (q_as (s := sc (cn 0)) ?_)
  refine gend ?_
  refine awp_ret ?_
  exact fp1 (hv := by simp [wchk, wbit, *])
/-- (*window.Window).Came -/
theorem came (m : Bool) (g b n : UInt64) : Good Try.prog 16 [.c (.rop (wcs m g b)), .c (c64 n)] [] (sc (.bool (wcame m g b n))) [] := by
  refine good_frm 31 Try.func16 rfl rfl rfl rfl rfl rfl ?_
  refine awp_seq ?_
  refine rln ?_
  refine As ?_
  refine gend ?_
  refine awp_seq ?_
  refine awp_seq ?_
  refine rln ?_
  refine Mv ?_
  refine G2 (fun _ k_ => q_callp (there _ _ _/- (*escutcheon/window.Window).there -/) k_) ?_
  refine G (q_notb ?_)
  refine gend ?_
  refine cndbn (fun hc1 => ?_) (fun hc1 => ?_)
  · refine awp_seq ?_
    refine rln ?_
    refine As ?_
    refine gend ?_
    refine awp_ret ?_
    exact fp1 (hv := by simp [wcame, wbit, *])
  refine awp_skip ?_
  refine awp_seq ?_
  refine rln ?_
  refine Mv ?_
  refine Mv ?_
  refine G2 (fun _ k_ => q_callp (below _ _ _ _/- (*escutcheon/window.Window).below -/) k_) ?_
  refine G (q_mv (s := .t _) ?_)
  refine G (q_ext (y := .c _) ?_)
  refine G (q_ext (y := .c _) ?_)
  refine As ?_
  refine As ?_
  refine gend ?_
  refine awp_seq ?_
  refine rln ?_
  refine Mv ?_
  refine Mv ?_
  refine Asp 17 (fun hb2 => ?_) (fun hb2 => ?_)
  · refine Gg (q_mv (s := .v (.c _)) ?_)
    refine Gg (q_lss64 (y := 64) ?_)
    refine G (q_pkt ?_)
    refine Mv ?_
    refine Aspd 21 (fun hb6 => ?_) (fun hb6 => ?_)
    · refine Gg (q_mv (s := .v (.c _)) ?_)
      refine Gg (q_ncr ?_)
      refine Gg (q_far ?_)
      refine Gg (q_ldr ?_)
      refine Gg (q_mv (s := .v (.c _)) ?_)
      refine Gg (q_shr64_64 ?_)
      refine Gg (q_and64 (y := 1) ?_)
      refine Gg (q_eql64 (y := 1) ?_)
      refine G (q_pkt ?_)
      refine As ?_
      refine gend ?_
      refine awp_ret ?_
      exact fp1 (hv := by simp [wcame, wbit, *])
    refine Gn ?_
    refine Gn ?_
    refine Gn ?_
    refine Gn ?_
    refine Gn ?_
    refine Gn ?_
    refine Gn ?_
    refine Gn ?_
    refine G (q_pkf ?_)
    refine As ?_
    refine gend ?_
    refine awp_ret ?_
    exact fp1 (hv := by simp [wcame, wbit, *])
  refine Gn ?_
  refine Gn ?_
  refine G (q_pkf ?_)
  refine Mv ?_
  refine Gn ?_
  refine Gn ?_
  refine Gn ?_
  refine Gn ?_
  refine Gn ?_
  refine Gn ?_
  refine Gn ?_
  refine Gn ?_
  refine G (q_pkf ?_)
  refine As ?_
  refine gend ?_
  refine awp_ret ?_
  exact fp1 (hv := by simp [wcame, wbit, *])
/-- (*window.Window).Greatest -/
theorem greatest (m : Bool) (g b : UInt64) : Good Try.prog 14 [.c (.rop (wcs m g b))] [] (.t [.c (c64 (if m && decide (b ≠ 0) then g else 0)), .c (.bool (m && decide (b ≠ 0)))]) [] := by
  refine good_frm 18 Try.func14 rfl rfl rfl rfl rfl rfl ?_
  refine awp_seq ?_
  refine rln ?_
  refine G (q_as (s := sc (c64 0)) ?_)
  refine As ?_
  refine gend ?_
  refine awp_seq ?_
  refine awp_seq ?_
  refine rln ?_
  refine Mv ?_
  refine G2 (fun _ k_ => q_callp (there _ _ _/- (*escutcheon/window.Window).there -/) k_) ?_
  refine G (q_notb ?_)
  refine Mv ?_
  refine Asp 7 (fun hb4 => ?_) (fun hb4 => ?_)
  · refine Gn ?_
    refine Gn ?_
    refine Gn ?_
    refine Gn ?_
    refine Gn ?_
    refine G (q_pkt ?_)
    refine gend ?_
    refine cndT ?_
    refine awp_seq ?_
    refine rln ?_
    refine G (q_as (s := sc (c64 0)) ?_)
    refine As ?_
    refine gend ?_
    refine awp_ret ?_
    exact fp2 (hv := by simp at hb4; simp [hb4])
  refine Gg (q_mv (s := .v (.c _)) ?_)
  refine Gg (q_ncr ?_)
  refine Gg (q_far ?_)
  refine Gg (q_ldr ?_)
  refine Gg (q_eql64 (y := 0) ?_)
  refine G (q_pkf ?_)
  refine gend ?_
  refine cnd (fun hc1 => ?_) (fun hc1 => ?_)
  · refine awp_seq ?_
    refine rln ?_
    refine G (q_as (s := sc (c64 0)) ?_)
    refine As ?_
    refine gend ?_
    refine awp_ret ?_
    exact fp2 (hv := by simp at hb4; simp [hb4, hc1])
  refine awp_skip ?_
  refine awp_seq ?_
  refine rln ?_
  refine Mv ?_
  refine G (q_ncr ?_)
  refine G (q_far ?_)
  refine G (q_ldr ?_)
  refine As ?_
  refine As ?_
  refine gend ?_
  refine awp_ret ?_
  exact fp2 (hv := by simp at hb4; simp [hb4, hc1])
/-- (*window.Window).Copy -/
theorem copy (m : Bool) (g b : UInt64) (hm : m = true) : Good Try.prog 11 [.c (.rop (wcs m g b))] [] (sc (.ptr 0 0)) [some (wcs m g b)] := by
  refine good_frm 10 Try.func11 rfl rfl rfl rfl rfl rfl ?_
  refine awp_seq ?_
  refine rln ?_
  refine As ?_
  refine gend ?_
  refine awp_seq ?_
  refine awp_seq ?_
  refine rln ?_
  refine Mv ?_
  refine G2 (fun _ k_ => q_callp (there _ _ _/- (*escutcheon/window.Window).there -/) k_) ?_
  refine G (q_notb ?_)
  refine gend ?_
  refine cndbn (fun hc1 => ?_) (fun hc1 => ?_)
  · refine awp_seq ?_
    refine rln ?_
    refine As ?_
    refine gend ?_
    refine awp_ret ?_
    subst hm; cases hc1
  refine awp_skip ?_
  refine awp_seq ?_
  refine rln ?_
  refine Mv ?_
  refine G (q_ncr ?_)
  refine G (q_ldar ?_)
  refine G2 (fun _ k_ => q_al k_) ?_
  refine G20 (fun _ k_ => q_stw k_) ?_
  refine gend ?_
  refine awp_seq ?_
  refine rln ?_
  refine As ?_
  refine gend ?_
  refine awp_ret ?_
  exact fn1 0 (hc := by exact rfl)
/-- window.New -/
theorem new : Good Try.prog 8 [] [] (sc (.ptr 0 0)) [some (wcs true 0 0)] := by
  refine good_frm 3 Try.func8 rfl rfl rfl rfl rfl rfl ?_
  refine awp_seq ?_
  refine rln ?_
  refine As ?_
  refine gend ?_
  refine awp_seq ?_
  refine rln ?_
  refine G (q_bls (fkc rfl rfl rfl (Nat.le_of_ble_eq_true rfl) (fk0 ?_)))
  refine G2 (fun _ k_ => q_boxa k_) ?_
  refine As ?_
  refine gend ?_
  refine awp_ret ?_
  exact fn1 0
/-- (*window.Window).Take -/
theorem take (m : Bool) (g b n : UInt64) : Good Try.prog 10 [.c (.ptr 0 0), .c (c64 n)] [some (wcs m g b)] (sc (cn (wchk m g b n))) [some (wcs m (wnext m g b n).1 (wnext m g b n).2)] := by
  refine good_frm 75 Try.func10 rfl rfl rfl rfl rfl rfl ?_
  refine awp_seq ?_
  refine rln ?_
  refine G (q_as (s := sc (cn 0)) ?_)
  refine gend ?_
  refine awp_seq ?_
  refine rln ?_
  refine Mv ?_
  refine Mv ?_
  refine G2 (fun _ k_ => q_callp (check _ _ _ _/- (*escutcheon/window.Window).Check -/) k_) ?_
  refine As ?_
  refine gend ?_
  refine awp_seq ?_
  refine awp_seq ?_
  refine rln ?_
  refine Mv ?_
  refine G (q_neqn (y := 0) ?_)
  refine gend ?_
  refine cnd (fun hc1 => ?_) (fun hc1 => ?_)
  · refine awp_seq ?_
    refine rln ?_
    refine Mv ?_
    refine As ?_
    refine gend ?_
    refine awp_ret ?_
    exact fw1 (hH := by simp [wnext, hc1])
  refine awp_skip ?_
  refine awp_seq ?_
  refine rln ?_
  refine Mv ?_
  refine Mv ?_
  refine G2 (fun _ k_ => q_callp (below _ _ _ _/- (*escutcheon/window.Window).below -/) k_) ?_
  refine G (q_mv (s := .t _) ?_)
  refine G (q_ext (y := .c _) ?_)
  refine G (q_ext (y := .c _) ?_)
  refine As ?_
  refine As ?_
  refine gend ?_
  refine awp_seq ?_
  refine awp_block ?_
  refine awp_seq ?_
  refine rln ?_
  refine Mv ?_
  refine As ?_
  refine gend ?_
  refine cndb (fun hc2 => ?_) (fun hc2 => ?_)
  · refine rln ?_
    refine Mv ?_
    refine G (q_ncp ?_)
    refine G (q_fap0 ?_)
    refine G (q_ldp ?_)
    refine Mv ?_
    refine G (q_shl64_64 (x := 1) ?_)
    refine G (q_or64 ?_)
    refine G (q_ncp ?_)
    refine G (q_fap0 ?_)
    refine G20 (fun _ k_ => q_st k_) ?_
    refine gend ?_
    refine awp_seq ?_
    refine rln ?_
    refine G (q_as (s := sc (cn 0)) ?_)
    refine gend ?_
    refine awp_ret ?_
    exact fw1 (hH := by simp only [wnext, if_pos (Decidable.not_not.1 hc1)]; simp [wtake, hc2]) (hv := by rw [Decidable.not_not.1 hc1])
  refine awp_seq ?_
  refine rln ?_
  refine Mv ?_
  refine G (q_ncp ?_)
  refine G (q_fap0 ?_)
  refine G (q_ldp ?_)
  refine G (q_eql64 (y := 0) ?_)
  refine As ?_
  refine gend ?_
  refine cnd (fun hc3 => ?_) (fun hc3 => ?_)
  · refine rln ?_
    refine Mv ?_
    refine Mv ?_
    refine Mv ?_
    refine G (q_ncp ?_)
    refine G (q_fap0 ?_)
    refine G20 (fun _ k_ => q_st k_) ?_
    refine G (q_ncp ?_)
    refine G (q_fap0 ?_)
    refine G20 (fun _ k_ => q_st (c := c64 1) k_) ?_
    refine gend ?_
    refine awp_seq ?_
    refine rln ?_
    refine G (q_as (s := sc (cn 0)) ?_)
    refine gend ?_
    refine awp_ret ?_
    exact fw1 (hH := by simp only [wnext, if_pos (Decidable.not_not.1 hc1)]; rw [show wtake g b n = (n, 1) from by unfold wtake; rw [if_neg (by rw [hc2]; decide), if_pos hc3]]) (hv := by rw [Decidable.not_not.1 hc1])
  refine awp_seq ?_
  refine rln ?_
  refine Mv ?_
  refine Mv ?_
  refine G (q_ncp ?_)
  refine G (q_fap0 ?_)
  refine G (q_ldp ?_)
  refine G (q_sub64 ?_)
  refine As ?_
  refine gend ?_
  refine awp_seq ?_
  refine rln ?_
  refine Mv ?_
  refine Mv ?_
  refine G (q_ncp ?_)
  refine G (q_fap0 ?_)
  refine G20 (fun _ k_ => q_st k_) ?_
  refine gend ?_
  refine awp_seq ?_
  refine awp_seq ?_
  refine rln ?_
  refine Mv ?_
  refine G (q_geq64 (y := 64) ?_)
  refine gend ?_
  refine cnd (fun hc4 => ?_) (fun hc4 => ?_)
  · refine rln ?_
    refine Mv ?_
    refine G (q_ncp ?_)
    refine G (q_fap0 ?_)
    refine G20 (fun _ k_ => q_st (c := c64 0) k_) ?_
    refine gend ?_
    refine rln ?_
    refine Mv ?_
    refine G (q_ncp ?_)
    refine G (q_fap0 ?_)
    refine G (q_ldp ?_)
    refine G (q_or64 (y := 1) ?_)
    refine G (q_ncp ?_)
    refine G (q_fap0 ?_)
    refine G20 (fun _ k_ => q_st k_) ?_
    refine gend ?_
    refine awp_seq ?_
    refine rln ?_
    refine G (q_as (s := sc (cn 0)) ?_)
    refine gend ?_
    refine awp_ret ?_
    exact fw1 (hH := by simp only [wnext, if_pos (Decidable.not_not.1 hc1)]; simp [wtake, *]) (hv := by rw [Decidable.not_not.1 hc1])
  refine rln ?_
  refine Mv ?_
  refine G (q_ncp ?_)
  refine G (q_fap0 ?_)
  refine G (q_ldp ?_)
  refine Mv ?_
  refine G (q_shl64_64 ?_)
  refine G (q_ncp ?_)
  refine G (q_fap0 ?_)
  refine G20 (fun _ k_ => q_st k_) ?_
  refine gend ?_
  refine rln ?_
  refine Mv ?_
  refine G (q_ncp ?_)
  refine G (q_fap0 ?_)
  refine G (q_ldp ?_)
  refine G (q_or64 (y := 1) ?_)
  refine G (q_ncp ?_)
  refine G (q_fap0 ?_)
  refine G20 (fun _ k_ => q_st k_) ?_
  refine gend ?_
  refine awp_seq ?_
  refine rln ?_
  refine G (q_as (s := sc (cn 0)) ?_)
  refine gend ?_
  refine awp_ret ?_
  exact fw1 (hH := by simp only [wnext, if_pos (Decidable.not_not.1 hc1)]; simp [wtake, *]) (hv := by rw [Decidable.not_not.1 hc1])
end Go.Proofs.Ytgojpagfgfknkaa.Wd

/- Two windows at a distance answer alike; a window answers by what it took. -/
namespace Go.Proofs.Ytgojpagfgfknkaa.Wd
open Go Go.Abs Go.Proofs

/-- The second window lies s above the first. -/
def Mv2 (s : UInt64) (a b : UInt64 × UInt64) : Prop := a.2 = b.2 ∧ (a.2 = 0 ∨ (a.1.toNat < 4611686018427387904 ∧ b.1.toNat = a.1.toNat + s.toNat))

theorem bit_shl (b : UInt64) (k d : Nat) (hd : d < 64) : (shl64n b k).toNat.testBit d = (decide (k ≤ d) && b.toNat.testBit (d - k)) := by
  unfold shl64n
  by_cases hk : k < 64
  · have e : (b <<< UInt64.ofNat k).toNat = (b.toNat <<< k) % 2 ^ 64 := by
      rw [UInt64.toNat_shiftLeft, UInt64.toNat_ofNat', Nat.mod_eq_of_lt (show k < 2 ^ 64 by omega), Nat.mod_eq_of_lt hk]
    simp only [hk, ↓reduceIte]
    rw [e, Nat.testBit_mod_two_pow, Nat.testBit_shiftLeft]
    simp [hd]
  · simp only [hk, ↓reduceIte]
    have : ¬ k ≤ d := by omega
    simp [this]

theorem wbit_iff (b d : UInt64) (hd : d.toNat < 64) : wbit b d ↔ b.toNat.testBit d.toNat = true := by
  unfold wbit shr64n
  simp only [hd, ↓reduceIte]
  rw [← UInt64.toNat_inj, UInt64.toNat_and, UInt64.toNat_shiftRight, UInt64.toNat_ofNat', Nat.mod_eq_of_lt (show d.toNat < 2 ^ 64 by omega), Nat.mod_eq_of_lt hd]
  show b.toNat >>> d.toNat &&& 1 = 1 ↔ _
  rw [Nat.testBit, bne_iff_ne, Nat.and_comm]
  have : 1 &&& b.toNat >>> d.toNat < 2 := by rw [Nat.and_comm, Nat.and_one_is_mod]; omega
  constructor
  · intro h; omega
  · intro h; omega

/-- What a window holds that took these numbers. -/
structure Inv (l : List UInt64) (g b : UInt64) : Prop where
  nil : b = 0 ↔ l = []
  top : l ≠ [] → g ∈ l ∧ ∀ x ∈ l, x.toNat ≤ g.toNat
  bits : ∀ d, d < 64 → (b.toNat.testBit d = true ↔ ∃ x ∈ l, x.toNat + d = g.toNat)

theorem inv_nil : Inv [] 0 0 := ⟨by simp, by simp, by simp⟩

theorem take_inv {l : List UInt64} {g b n : UInt64} (I : Inv l g b) (h : wchk true g b n = 0) : Inv (l ++ [n]) (wnext true g b n).1 (wnext true g b n).2 := by
  have h64 : (64 : UInt64).toNat = 64 := rfl
  have key : ∀ g' b' : UInt64, (∀ d, d < 64 → (b'.toNat.testBit d = true ↔ ∃ x ∈ l ++ [n], x.toNat + d = g'.toNat)) → (g' ∈ l ++ [n] ∧ ∀ x ∈ l ++ [n], x.toNat ≤ g'.toNat) → Inv (l ++ [n]) g' b' := by
    intro g' b' h1 h2
    refine ⟨⟨fun h => ?_, fun h => by simp at h⟩, fun _ => h2, h1⟩
    have := (h1 0 (by omega)).2 ⟨g', h2.1, rfl⟩
    rw [h] at this
    simp at this
  unfold wnext
  rw [if_pos h]
  unfold wtake
  by_cases hw : wb g b n = true
  · rw [if_pos hw]
    simp only [wb, Bool.and_eq_true, decide_eq_true_eq, UInt64.le_iff_toNat_le] at hw
    have hl : l ≠ [] := fun h => hw.1 (I.nil.2 h)
    have hs : (g - n).toNat = g.toNat - n.toNat := UInt64.toNat_sub_of_le _ _ (UInt64.le_iff_toNat_le.2 hw.2)
    refine key g (b ||| shl64n 1 (g - n).toNat) (fun d hd => ?_) ⟨by simp [(I.top hl).1], fun x hx => ?_⟩
    · rw [UInt64.toNat_or, Nat.testBit_or, bit_shl _ _ _ hd, Bool.or_eq_true, I.bits d hd, hs]
      constructor
      · rintro (⟨x, hx, e⟩ | hx)
        · exact ⟨x, by simp [hx], e⟩
        · simp only [Bool.and_eq_true, decide_eq_true_eq] at hx
          obtain ⟨hx1, hx2⟩ := hx
          have hw2 := hw.2
          have : d - (g.toNat - n.toNat) = 0 := by
            have := hx2
            rcases Nat.eq_zero_or_pos (d - (g.toNat - n.toNat)) with h0 | h0
            · exact h0
            · rw [show (1 : UInt64).toNat = 2 ^ 0 from rfl, Nat.testBit_two_pow] at this
              simp at this; omega
          exact ⟨n, by simp, by omega⟩
      · rintro ⟨x, hx, e⟩
        rcases List.mem_append.1 hx with hx | hx
        · exact .inl ⟨x, hx, e⟩
        · obtain rfl := List.mem_singleton.1 hx
          right
          have : d - (g.toNat - x.toNat) = 0 := by omega
          rw [this]
          have : g.toNat - x.toNat ≤ d := by omega
          simp [this]
    · rcases List.mem_append.1 hx with hx | hx
      · exact (I.top hl).2 x hx
      · obtain rfl := List.mem_singleton.1 hx
        exact hw.2
  · rw [if_neg hw]
    by_cases hb : b = 0
    · rw [if_pos hb]
      have hl := I.nil.1 hb
      subst hl
      refine key n 1 (fun d hd => ?_) ⟨by simp, by simp⟩
      rw [show (1 : UInt64).toNat = 2 ^ 0 from rfl, Nat.testBit_two_pow]
      simp; omega
    · rw [if_neg hb]
      have hl : l ≠ [] := fun h => hb (I.nil.2 h)
      have hgt : g.toNat < n.toNat := by
        simp [wb, hb, UInt64.le_iff_toNat_le] at hw
        have := UInt64.lt_iff_toNat_lt.1 hw
        exact this
      have hs : (n - g).toNat = n.toNat - g.toNat := UInt64.toNat_sub_of_le _ _ (UInt64.le_iff_toNat_le.2 (by omega))
      have htop : n ∈ l ++ [n] ∧ ∀ x ∈ l ++ [n], x.toNat ≤ n.toNat := ⟨by simp, fun x hx => by
        rcases List.mem_append.1 hx with hx | hx
        · have := (I.top hl).2 x hx; omega
        · obtain rfl := List.mem_singleton.1 hx; exact Nat.le_refl _⟩
      split
      · rename_i h1
        rw [UInt64.le_iff_toNat_le, hs, h64] at h1
        refine key n (0 ||| 1) (fun d hd => ?_) htop
        rw [show ((0 : UInt64) ||| 1).toNat = 2 ^ 0 from rfl, Nat.testBit_two_pow]
        simp only [decide_eq_true_eq]
        constructor
        · intro h0; exact ⟨n, by simp, by omega⟩
        · rintro ⟨x, hx, e⟩
          rcases List.mem_append.1 hx with hx | hx
          · have := (I.top hl).2 x hx; omega
          · obtain rfl := List.mem_singleton.1 hx; omega
      · rename_i h1
        rw [UInt64.le_iff_toNat_le, hs, h64] at h1
        refine key n (shl64n b (n - g).toNat ||| 1) (fun d hd => ?_) htop
        rw [UInt64.toNat_or, Nat.testBit_or, bit_shl _ _ _ hd, hs, show (1 : UInt64).toNat = 2 ^ 0 from rfl, Nat.testBit_two_pow]
        simp only [Bool.or_eq_true, Bool.and_eq_true, decide_eq_true_eq]
        constructor
        · rintro (⟨h2, h3⟩ | h0)
          · obtain ⟨x, hx, e⟩ := (I.bits _ (by omega)).1 h3
            exact ⟨x, by simp [hx], by omega⟩
          · exact ⟨n, by simp, by omega⟩
        · rintro ⟨x, hx, e⟩
          rcases List.mem_append.1 hx with hx | hx
          · have := (I.top hl).2 x hx
            left
            exact ⟨by omega, (I.bits _ (by omega)).2 ⟨x, hx, by omega⟩⟩
          · obtain rfl := List.mem_singleton.1 hx
            right; omega

end Go.Proofs.Ytgojpagfgfknkaa.Wd

/- What the document's list of numbers says is what a window says that took them. -/
namespace Go.Proofs.Ytgojpagfgfknkaa.Wd
open Go Go.Abs Go.Proofs

/-- The greatest one of all. -/
def grl (l : List UInt64) : UInt64 := l.foldl (fun n x => if n < x then x else n) 0
def rold (l : List UInt64) (n : UInt64) : Bool := decide (0 < l.length) && (decide (n < grl l) && decide (64 ≤ grl l - n))
def rcame (l : List UInt64) (n : UInt64) : Bool := decide (n ∈ l) && !rold l n
def rchk (l : List UInt64) (n : UInt64) : Nat := if rcame l n || rold l n then 10 else 0
theorem grl_take {l : List UInt64} {i : Nat} (h : i < l.length) : grl (l.take (i + 1)) = if grl (l.take i) < l.getD i 0 then l.getD i 0 else grl (l.take i) := by
  rw [List.take_succ_eq_append_getElem h, grl, List.foldl_append, List.getD_eq_getElem?_getD, List.getElem?_eq_getElem h]; rfl
theorem grl_spec (l : List UInt64) : (∀ x ∈ l, x.toNat ≤ (grl l).toNat) ∧ (grl l = 0 ∨ grl l ∈ l) := by
  have key : ∀ (l : List UInt64) (a : UInt64), (a.toNat ≤ (l.foldl (fun n x => if n < x then x else n) a).toNat ∧ ∀ x ∈ l, x.toNat ≤ (l.foldl (fun n x => if n < x then x else n) a).toNat) ∧ (l.foldl (fun n x => if n < x then x else n) a = a ∨ l.foldl (fun n x => if n < x then x else n) a ∈ l) := by
    intro l
    induction l with
    | nil => intro a; simp
    | cons y r ih =>
      intro a
      simp only [List.foldl_cons]
      obtain ⟨⟨h1, h2⟩, h3⟩ := ih (if a < y then y else a)
      by_cases hy : a < y
      · simp only [hy, ↓reduceIte] at h1 h2 h3 ⊢
        rw [UInt64.lt_iff_toNat_lt] at hy
        refine ⟨⟨by omega, fun x hx => ?_⟩, ?_⟩
        · rcases List.mem_cons.1 hx with rfl | hx
          · exact h1
          · exact h2 x hx
        · rcases h3 with h3 | h3
          · rw [h3]; exact .inr (List.mem_cons_self ..)
          · exact .inr (List.mem_cons_of_mem _ h3)
      · simp only [hy, ↓reduceIte] at h1 h2 h3 ⊢
        rw [UInt64.lt_iff_toNat_lt] at hy
        refine ⟨⟨h1, fun x hx => ?_⟩, ?_⟩
        · rcases List.mem_cons.1 hx with rfl | hx
          · omega
          · exact h2 x hx
        · rcases h3 with h3 | h3
          · exact .inl h3
          · exact .inr (List.mem_cons_of_mem _ h3)
  obtain ⟨⟨_, h2⟩, h3⟩ := key l 0
  exact ⟨h2, h3⟩
theorem grl_inv {l : List UInt64} {g b : UInt64} (I : Inv l g b) (hl : l ≠ []) : grl l = g := by
  obtain ⟨h1, h2⟩ := I.top hl
  obtain ⟨h3, h4⟩ := grl_spec l
  have h5 := h3 g h1
  apply UInt64.toNat_inj.1
  rcases h4 with h4 | h4
  · rw [h4] at h5 ⊢; have : (0 : UInt64).toNat = 0 := rfl; omega
  · have := h2 _ h4; omega
theorem great_inv {l : List UInt64} {g b : UInt64} (I : Inv l g b) : (if true && decide (b ≠ 0) then g else 0) = grl l ∧ (true && decide (b ≠ 0)) = decide (0 < l.length) := by
  by_cases hl : l = []
  · have := I.nil.2 hl
    subst hl this; exact ⟨rfl, rfl⟩
  · have hb : b ≠ 0 := fun h => hl (I.nil.1 h)
    have hp : 0 < l.length := List.length_pos_iff.2 hl
    simp [hb, hp, grl_inv I hl]
theorem chk_inv {l : List UInt64} {g b : UInt64} (I : Inv l g b) (n : UInt64) : wchk true g b n = rchk l n ∧ wcame true g b n = rcame l n := by
  have h64 : (64 : UInt64).toNat = 64 := rfl
  by_cases hl : l = []
  · have := I.nil.2 hl
    subst hl this
    simp [wchk, wb, wcame, rchk, rcame, rold]
  · have hb : b ≠ 0 := fun h => hl (I.nil.1 h)
    have hp : 0 < l.length := List.length_pos_iff.2 hl
    obtain ⟨h1, h2⟩ := I.top hl
    have hg := grl_inv I hl
    by_cases hn : n ≤ g
    · have hs : (g - n).toNat = g.toNat - n.toNat := UInt64.toNat_sub_of_le _ _ hn
      have hn' := UInt64.le_iff_toNat_le.1 hn
      have hw : wb g b n = true := by simp [wb, hb, hn]
      by_cases hd : 64 ≤ g - n
      · have hd' : 64 ≤ g.toNat - n.toNat := by rw [UInt64.le_iff_toNat_le, hs, h64] at hd; exact hd
        have hlt : n < g := by rw [UInt64.lt_iff_toNat_lt]; omega
        have ho : rold l n = true := by simp [rold, hp, hg, hlt, hd]
        have hd2 : ¬ g - n < 64 := by rw [UInt64.lt_iff_toNat_lt, hs, h64]; omega
        simp [wchk, hw, hd, rchk, ho, wcame, hd2, rcame]
      · have hd' : g.toNat - n.toNat < 64 := by rw [UInt64.le_iff_toNat_le, hs, h64] at hd; omega
        have ho : rold l n = false := by simp [rold, hg, hd]
        have hd2 : g - n < 64 := by rw [UInt64.lt_iff_toNat_lt, hs, h64]; omega
        have hbit : wbit b (g - n) ↔ n ∈ l := by
          rw [wbit_iff b (g - n) (by omega), hs, I.bits _ (by omega)]
          constructor
          · rintro ⟨x, hx, e⟩
            have : x = n := UInt64.toNat_inj.1 (by omega)
            exact this ▸ hx
          · intro hx; exact ⟨n, hx, by omega⟩
        constructor
        · simp only [wchk, hw, hd, false_or, ↓reduceIte, rchk, rcame, ho, Bool.not_false, Bool.and_true, Bool.or_false]
          by_cases hm : n ∈ l
          · simp [hm, hbit.2 hm]
          · simp [hm, mt hbit.1 hm]
        · simp only [wcame, hw, Bool.true_and, hd2, decide_true, rcame, ho, Bool.not_false, Bool.and_true]
          exact decide_eq_decide.2 hbit
    · have hw : wb g b n = false := by simp [wb, hn]
      have hn' : g.toNat < n.toNat := by rw [UInt64.le_iff_toNat_le] at hn; omega
      have hnl : n ∉ l := fun h => by have := h2 n h; omega
      have ho : rold l n = false := by
        have : ¬ n < g := by rw [UInt64.lt_iff_toNat_lt]; omega
        simp [rold, hg, this]
      simp [wchk, hw, wcame, rchk, rcame, ho, hnl]
/-- The next list. -/
def rnext (l : List UInt64) (n : UInt64) : List UInt64 := if rchk l n = 0 then l ++ [n] else l
theorem next_inv {l : List UInt64} {g b : UInt64} (I : Inv l g b) (n : UInt64) : Inv (rnext l n) (wnext true g b n).1 (wnext true g b n).2 := by
  have h := (chk_inv I n).1
  by_cases h0 : wchk true g b n = 0
  · rw [rnext, if_pos (h ▸ h0)]; exact take_inv I h0
  · rw [rnext, if_neg (h ▸ h0), wnext, if_neg h0]; exact I
theorem mem_at {l : List UInt64} {n : UInt64} {i : Nat} (hi : i < l.length) (h : l.getD i 0 = n) : n ∈ l := by
  rw [List.getD_eq_getElem?_getD, List.getElem?_eq_getElem hi] at h
  simp at h
  exact h ▸ List.getElem_mem hi
theorem not_mem_all {l : List UInt64} {n : UInt64} (h : ∀ j, j < l.length → l.getD j 0 ≠ n) : n ∉ l := fun hm => by
  obtain ⟨j, hj, e⟩ := List.mem_iff_getElem.1 hm
  exact h j hj (by rw [List.getD_eq_getElem?_getD, List.getElem?_eq_getElem hj]; exact e)
/-- Numbers ahead, none of which is that one. -/
structure CP (l : List UInt64) (n : UInt64) where
  i : Nat
  hi : i ≤ l.length
  ok : ∀ j, j < i → l.getD j 0 ≠ n
/-- Where the statement's loop stands. -/
structure WP (m : Nat) where
  i : Nat
  came : List UInt64
  g : UInt64
  b : UInt64
  hi : i ≤ m
  hl : came.length ≤ i
  I : Inv came g b
end Go.Proofs.Ytgojpagfgfknkaa.Wd

/- The abstract machine: a block is told under another number, and no longer under its old one. -/
namespace Go.Abs
open Go

/-- What a slot holds is told as before, or as a slice or a pointer into the new number. -/
def SubM (p q : Nat) (al : List (Nat × S)) : List (Nat × S) → Prop
  | [] => True
  | (t, s) :: r => (lkp al t = s ∨ (∃ o n sz, lkp al t = sc (.slc p o n sz) ∧ s = sc (.slc q o n sz)) ∨ (∃ o, lkp al t = sc (.ptr p o) ∧ s = sc (.ptr q o))) ∧ SubM p q al r

end Go.Abs

/- The abstract machine: what a function does is told of more memory, and its outcome in other words; memory under other numbers. -/
namespace Go.Abs
open Go

/-! What a function does, told of more memory: as a call does it. -/
theorem argVs_tmps : ∀ (pre args : List V) (post : List S), argVs ((pre ++ args).map S.v ++ post) ((List.range' pre.length args.length).map Operand.tmp) = some args
  | pre, [], post => rfl
  | pre, a :: r, post => by
    have h := argVs_tmps (pre ++ [a]) r post
    rw [List.append_assoc] at h
    simp only [List.length_cons, List.range'_succ, List.map_cons, argVs]
    have e : ev ((pre ++ a :: r).map S.v ++ post) (.tmp pre.length) = .v a := by
      simp [ev]
    rw [e]
    have h' : argVs ((pre ++ a :: r).map S.v ++ post) ((List.range' (pre.length + 1) r.length).map Operand.tmp) = some r := by
      simpa using h
    rw [h']

theorem vsrel_at {R : Rl} : ∀ {xs : List V} {vs : List Value}, VsRel R xs vs → ∀ (i : Nat) x, xs[i]? = some x → ∃ v, vs[i]? = some v ∧ VRel R x v
  | [], vs, _, i, x, h => by simp at h
  | y :: xs, vs, k, i, x, h => by
    simp only [VsRel] at k
    obtain ⟨v, vs', rfl, h1, h2⟩ := k
    cases i with
    | zero => simp at h; subst h; exact ⟨v, rfl, h1⟩
    | succ i => simpa using vsrel_at h2 i x (by simpa using h)

theorem Good.call {P : Program} {k : FuncId} {args : List V} {H Hl' : Heap} {v : S} (π : List Nat) (lend : Bool) (hnd : π.Nodup) (hπ : ∀ p ∈ π, p < H.length)
    (hg : Good P k (args.map (vm (cm (cin π lend H) 8))) (π.map (pick H (cm (cin π lend H) 8))) v Hl') :
    Good P k args H (sm (cm (cout π lend H.length) 8) v) (back π (cm (cout π lend H.length) 8) H Hl') := by
  obtain ⟨fn, hfn, hbody, hname⟩ := hg.2.1
  let fr : List S := args.map S.v ++ [ud]
  let xs : List Operand := (List.range' 0 args.length).map Operand.tmp
  have hargs : argVs fr xs = some args := by
    have := argVs_tmps [] args [ud]
    simpa [fr, xs] using this
  let o : Oper := { dst := some args.length, op := .call ⟨.value (.func k), xs.toArray, #[]⟩, type := 0, pos := "", after := #[], guard := none }
  have hg' : Good P k ((args ++ ([] : List Cell).map V.c).map (vm (cm (cin π lend H) 8))) (π.map (pick H (cm (cin π lend H) 8))) v Hl' := by simpa using hg
  have hop := opg_call (P := P) (o := o) (fr := fr) (H := H) (f := .func k) (args := xs.toArray) (ats := #[]) π lend rfl (by rfl : ev fr (.func k) = sc (.fn k [])) hargs hfn hbody hname hnd hπ hg'
  refine ⟨hop.1, ⟨fn, hfn, hbody, hname⟩, ?_⟩
  intro E ρ w rargs hE hw himg hH hrel
  subst hw
  have hlen := vsrel_length hrel
  let a : Act := ⟨(rargs ++ [undef]).toArray, []⟩
  have hs : Sim E ρ ⟨fr, H⟩ a E.w0 := by
    refine ⟨⟨rfl, by simp [a, fr, hlen], fun i s hi => ?_⟩, hH⟩
    by_cases hlt : i < args.length
    · simp only [fr] at hi
      rw [List.getElem?_append_left (by simpa using hlt)] at hi
      simp only [List.getElem?_map, Option.map_eq_some_iff] at hi
      obtain ⟨x, h1, rfl⟩ := hi
      obtain ⟨v, h2, h3⟩ := vsrel_at hrel i x h1
      refine ⟨v, ?_, h3⟩
      have hlt' : i < rargs.length := by omega
      simp only [a, List.getElem?_toArray]
      rw [List.getElem?_append_left hlt']
      exact h2
    · have h1 := (List.getElem?_eq_some_iff.1 hi).1
      simp [fr] at h1
      have hi' : i = args.length := by omega
      subst hi'
      simp [fr] at hi
      subst hi
      exact ⟨undef, by simp [a, hlen.symm], by simp [ud, SRel, VRel, CRel]⟩
  have hrun : (execOp a.eval o).run P E.w0 = .ok (.enter k rargs.toArray) E.w0 := by
    have hb : fn.body.isNone = false := by cases hfb : fn.body with
      | none => rw [hfb] at hbody; cases hbody
      | some c => rfl
    have hev : xs.toArray.map a.eval = rargs.toArray := by
      apply Array.ext'
      simp only [xs, List.map_toArray, List.map_map]
      apply List.ext_getElem?
      intro i
      simp only [List.getElem?_map, List.getElem?_range']
      by_cases hi : i < args.length
      · have hi' : i < rargs.length := by omega
        simp [hi, a, Act.eval, Array.getD_eq_getD_getElem?, hi', List.getElem?_append_left]
      · rw [List.getElem?_eq_none (l := rargs) (by omega)]
        simp [hi]
    simp only [execOp, o, resolve, Act.eval, Deferred.ofValue, invoke, callFunc, Sem.run_bind, Sem.run_pure, Result.andThen_ok, run_program, hfn, hname, hb, Bool.false_eq_true, if_false, Array.empty_append, Array.append_empty]
    exact congrArg (fun z => Result.ok (Next.enter k z) E.w0) hev
  have key := hop.2 E ρ a E.w0 hE hs (fun a' w' => ∃ ρ', (∀ p, p < H.length → ρ' p = ρ p) ∧ HRel E ρ' w' (back π (cm (cout π lend H.length) 8) H Hl') ∧ SRel (E.rl (back π (cm (cout π lend H.length) 8) H Hl').length ρ') (sm (cm (cout π lend H.length) 8) v) (a'.tmps.getD args.length undef)) (fun _ _ _ => False) ?_
  · unfold Oper.wp at key
    rw [hrun, Oper.upon_enter] at key
    refine key.mono ?_
    intro e w' h
    cases e with
    | returned rv =>
      obtain ⟨ρ', h1, h2, h3⟩ := h
      refine ⟨rv, ρ', rfl, h1, h2, ?_⟩
      have : (a.put o.dst rv).tmps.getD args.length undef = rv := by
        simp [Act.put, o, a, Array.getD_eq_getD_getElem?, hlen.symm]
      rw [this] at h3
      exact h3
    | panicked chain => exact h.elim
    | outgrown => exact absurd h (by simp [LetsOut])
  · intro rv w' ρ' h1 h2 h3
    refine ⟨ρ', h1, h2, ?_⟩
    have : (a.put o.dst rv).tmps.getD args.length undef = rv := by
      simp [Act.put, o, a, Array.getD_eq_getD_getElem?, hlen.symm]
    rw [this]
    exact h3

/-! The outcome told in other words. -/
theorem Good.out {P : Program} {k : FuncId} {args : List V} {H H' H2 : Heap} {v v2 : S} (hg : Good P k args H v H') (hl : H.length ≤ H2.length) (hle : SLe H.length ⟨[v], H'⟩ ⟨[v2], H2⟩) : Good P k args H v2 H2 := by
  refine ⟨hl, hg.2.1, fun E ρ w rargs hE hw himg hH hrel => ?_⟩
  refine (hg.2.2 E ρ w rargs hE hw himg hH hrel).mono ?_
  rintro e w' ⟨rv, ρ', rfl, h1, h2, h3⟩
  obtain ⟨ρ2, k1, k2⟩ := hle E ρ' ⟨#[rv], []⟩ w' ⟨⟨rfl, rfl, fun i s hi => by
    cases i with
    | zero => simp at hi; subst hi; exact ⟨rv, rfl, h3⟩
    | succ i => simp at hi⟩, h2⟩
  refine ⟨rv, ρ2, rfl, fun p hp => (k1 p hp).trans (h1 p hp), k2.heap, ?_⟩
  obtain ⟨v', g1, g2⟩ := k2.fr.2.2 0 v2 rfl
  simp at g1
  subst g1
  exact g2

/-- A nil slice as an empty one of this block. -/
def e2 (q sz : Nat) : Cell → Cell
  | .nils => .slc q 0 0 sz
  | c => c
theorem e2_sound {R R' : Rl} {q sz : Nat} (h : R.Le R') (hq : q < R'.n) (c : Cell) (v : Value) (k : CRel R c v) : CRel R' (e2 q sz c) v := by
  by_cases hc : c = .nils
  · subst hc
    simp only [CRel] at k
    subst k
    simp only [e2, CRel]
    exact ⟨hq, none, 0, rfl, Nat.le_refl _, .inr rfl⟩
  · have : e2 q sz c = c := by unfold e2; split <;> first | exact absurd rfl hc | rfl
    rw [this]; exact CRel.mono h c v k
/-- The same with an empty block behind all others. -/
theorem emp_sim {E : Env} {ρ : Nat → Place} {w : World} {H : Heap} (hh : HRel E ρ w H) : ∃ ρ', (∀ p, p < H.length → ρ' p = ρ p) ∧ HRel E ρ' w (H ++ [some []]) := by
  let ρ' : Nat → Place := fun p => if p = H.length then ⟨0, 0, 0⟩ else ρ p
  have hρ : ∀ p, p < H.length → ρ' p = ρ p := fun p hp => if_neg (by omega)
  have hle : (E.rl H.length ρ).Le (E.rl (H ++ [some []]).length ρ') := ⟨fun b hb => ⟨hb, rfl⟩, fun p hp => ⟨by
    show p < (H ++ [some []]).length
    have hp' : p < H.length := hp
    simp; omega, hρ p hp⟩⟩
  have hget : ∀ p cs, (H ++ [some ([] : List Cell)])[p]? = some (some cs) → (ρ' p).room ≠ 0 → p < H.length ∧ H[p]? = some (some cs) := by
    intro p cs hp hr
    by_cases hlt : p < H.length
    · rw [List.getElem?_append_left hlt] at hp; exact ⟨hlt, hp⟩
    · have := (List.getElem?_eq_some_iff.1 hp).1
      simp at this
      have : p = H.length := by omega
      subst this
      simp [ρ'] at hr
  refine ⟨ρ', hρ, hh.os, hh.tape, hh.output, hh.size, hh.frame, fun p cs hp hr => ?_, fun p q cs ds hp hq hrp hrq he => ?_, fun p cs hp hr => ?_, fun p cs hp hr => ?_⟩
  · obtain ⟨h1, h2⟩ := hget p cs hp hr
    rw [hρ p h1] at hr ⊢
    exact hh.fresh p cs h2 hr
  · obtain ⟨h1, h2⟩ := hget p cs hp hrp
    obtain ⟨h3, h4⟩ := hget q ds hq hrq
    rw [hρ p h1] at hrp he
    rw [hρ q h3] at hrq he
    exact hh.inj p q cs ds h2 h4 hrp hrq he
  · obtain ⟨h1, h2⟩ := hget p cs hp hr
    rw [hρ p h1] at hr ⊢
    exact (hh.blk p cs h2 hr).mono hle rfl
  · by_cases hlt : p < H.length
    · rw [List.getElem?_append_left hlt] at hp
      rw [hρ p hlt] at hr
      exact hh.emp p cs hp hr
    · have := (List.getElem?_eq_some_iff.1 hp).1
      simp at this
      have : p = H.length := by omega
      subst this
      simpa using hp
theorem sle_emp2 {n : Nat} {v : S} {H : Heap} (sz : Nat) (hn : n ≤ H.length) : SLe n ⟨[v], H⟩ ⟨[sm (e2 H.length sz) v], H ++ [some []]⟩ := by
  intro E ρ a w hs
  obtain ⟨ρ', h1, h2⟩ := emp_sim hs.heap
  have hle : (E.rl H.length ρ).Le (E.rl (H ++ [some []]).length ρ') := ⟨fun b hb => ⟨hb, rfl⟩, fun p hp => ⟨by
    show p < (H ++ [some []]).length
    have hp' : p < H.length := hp
    simp; omega, h1 p hp⟩⟩
  refine ⟨ρ', fun p hp => h1 p (Nat.lt_of_lt_of_le hp hn), ⟨hs.fr.1, hs.fr.2.1, fun i s hi => ?_⟩, h2⟩
  cases i with
  | zero =>
    simp at hi
    subst hi
    obtain ⟨u, k1, k2⟩ := hs.fr.2.2 0 v rfl
    exact ⟨u, k1, sm_sound (fun c v k => e2_sound hle (by show H.length < (H ++ [some []]).length; simp) c v k) k2⟩
  | succ i => simp at hi
/-- What was nil is an empty slice of a new, empty block. -/
theorem Good.emp {P : Program} {k : FuncId} {args : List V} {H H' : Heap} {v v2 : S} (hg : Good P k args H v H') (sz : Nat) (hv : sm (e2 H'.length sz) v = v2 := by rfl) : Good P k args H v2 (H' ++ [some []]) := by
  subst hv
  exact hg.out (H2 := H' ++ [some []]) (Nat.le_trans hg.1 (by simp)) (sle_emp2 sz hg.1)

/-! Memory under other numbers: for each new block the old one, and whether it is told of. -/
def nfi (p : Nat) (b : Bool) : List (Nat × Bool) → Option Nat
  | [] => none
  | (q, c) :: r => if Nat.beq q p && (!b || c) then some 0 else (nfi p b r).map (· + 1)
theorem nfi_get {p : Nat} {b : Bool} : ∀ {l : List (Nat × Bool)} {j : Nat}, nfi p b l = some j → (l[j]?).map (·.1) = some p
  | [], j, h => by simp [nfi] at h
  | (q, c) :: r, j, h => by
    simp only [nfi] at h
    split at h
    · rename_i hq
      simp at h
      subst h
      simp at hq
      simp [hq.1]
    · rw [Option.map_eq_some_iff] at h
      obtain ⟨i, h1, rfl⟩ := h
      simpa using nfi_get h1
def nph (τ : List (Nat × Bool)) (p : Nat) : Option Nat := match nfi p true τ with
  | some j => some j
  | none => nfi p false τ
theorem nph_get {τ : List (Nat × Bool)} {p j : Nat} (h : nph τ p = some j) : (τ[j]?).map (·.1) = some p := by
  unfold nph at h
  split at h
  · rename_i h1; simp at h; subst h; exact nfi_get h1
  · exact nfi_get h
abbrev nm (τ : List (Nat × Bool)) : Cell → Cell := cm ⟨nph τ, fun _ => none, true, false⟩ 8
def renB (τ : List (Nat × Bool)) (H : Heap) : Heap := τ.map fun x => if x.2 then pick H (nm τ) x.1 else none
def uniqT : List (Nat × Bool) → Bool
  | [] => true
  | (p, b) :: r => (!b || r.all fun x => !(x.2 && Nat.beq x.1 p)) && uniqT r
theorem uniqT_ok : ∀ {τ : List (Nat × Bool)}, uniqT τ = true → ∀ {i j p : Nat}, τ[i]? = some (p, true) → τ[j]? = some (p, true) → i = j
  | [], _, i, j, p, h1, _ => by simp at h1
  | (q, b) :: r, h, i, j, p, h1, h2 => by
    simp only [uniqT, Bool.and_eq_true] at h
    have no : ∀ k : Nat, b = true → q = p → r[k]? = some (p, true) → False := by
      intro k hb hq hk
      have h3 := h.1
      rw [hb] at h3
      simp only [Bool.not_true, Bool.false_or] at h3
      have := List.all_eq_true.1 h3 _ (List.mem_of_getElem? hk)
      simp [hq] at this
    cases i with
    | zero =>
      simp at h1
      cases j with
      | zero => rfl
      | succ j => simp at h2; exact (no j h1.2 h1.1 h2).elim
    | succ i =>
      simp at h1
      cases j with
      | zero => simp at h2; exact (no i h2.2 h2.1 h1).elim
      | succ j => simp at h2; rw [uniqT_ok h.2 h1 h2]
theorem ren_sim {τ : List (Nat × Bool)} {E : Env} {ρ : Nat → Place} {w : World} {H : Heap} (hu : uniqT τ = true) (hh : HRel E ρ w H) :
    HRel E (fun j => ρ ((τ.getD j (0, false)).1)) w (renB τ H) ∧ ∀ c v, CRel (E.rl H.length ρ) c v → CRel (E.rl (renB τ H).length fun j => ρ ((τ.getD j (0, false)).1)) (nm τ c) v := by
  have key : ∀ c v, CRel (E.rl H.length ρ) c v → CRel (E.rl (renB τ H).length fun j => ρ ((τ.getD j (0, false)).1)) (nm τ c) v := by
    refine cm_sound (R := E.rl H.length ρ) (R' := E.rl (renB τ H).length fun j => ρ ((τ.getD j (0, false)).1)) (m := ⟨nph τ, fun _ => none, true, false⟩) ⟨fun p q hq hp => ?_, fun p cs hcs => by simp at hcs, fun _ b hb => ⟨hb, rfl⟩⟩ 8
    have := nph_get hq
    rw [Option.map_eq_some_iff] at this
    obtain ⟨x, h1, h2⟩ := this
    have hlt := (List.getElem?_eq_some_iff.1 h1).1
    refine ⟨by show q < (renB τ H).length; simpa [renB] using hlt, ?_⟩
    show ρ ((τ.getD q (0, false)).1) = ρ p
    rw [List.getD_eq_getElem?_getD, h1]; exact congrArg ρ h2
  have hget : ∀ (j : Nat) cs, (renB τ H)[j]? = some (some cs) → ∃ p c0, τ[j]? = some (p, true) ∧ H[p]? = some (some c0) ∧ cs = c0.map (nm τ) ∧ (τ.getD j (0, false)).1 = p := by
    intro j cs hj
    simp only [renB, List.getElem?_map, Option.map_eq_some_iff] at hj
    obtain ⟨⟨p, b⟩, h1, h2⟩ := hj
    cases b with
    | false => simp at h2
    | true =>
      simp only [if_true] at h2
      obtain ⟨c0, h3, h4⟩ := pick_get h2
      exact ⟨p, c0, h1, h3, h4, by rw [List.getD_eq_getElem?_getD, h1]; rfl⟩
  refine ⟨⟨hh.os, hh.tape, hh.output, hh.size, hh.frame, fun p cs hp hr => ?_, fun p q cs ds hp hq hr1 hr2 he => ?_, fun p cs hp hr => ?_, fun p cs hp hr => ?_⟩, key⟩
  · obtain ⟨q, c0, h1, h2, h3, h4⟩ := hget p cs hp
    simp only [h4] at hr ⊢
    exact hh.fresh q c0 h2 hr
  · obtain ⟨p', c0, h1, h2, h3, h4⟩ := hget p cs hp
    obtain ⟨q', d0, k1, k2, k3, k4⟩ := hget q ds hq
    simp only [h4] at hr1 he
    simp only [k4] at hr2 he
    have := hh.inj p' q' c0 d0 h2 k2 hr1 hr2 he
    subst this
    exact uniqT_ok hu h1 k1
  · obtain ⟨q, c0, h1, h2, h3, h4⟩ := hget p cs hp
    simp only [h4] at hr ⊢
    obtain ⟨arr, el, fr, b1, b2, b3, b4, b5⟩ := hh.blk q c0 h2 hr
    refine ⟨arr, el, fr, b1, b2, b3, by rw [h3]; simpa using b4, fun i c hi => ?_⟩
    rw [h3, List.getElem?_map, Option.map_eq_some_iff] at hi
    obtain ⟨c1, h5, rfl⟩ := hi
    obtain ⟨v, h6, ho, h7⟩ := b5 i c1 h5
    exact ⟨v, h6, ho, key _ _ h7⟩
  · obtain ⟨q, c0, h1, h2, h3, h4⟩ := hget p cs hp
    simp only [h4] at hr
    rw [h3, hh.emp q c0 h2 hr]; rfl
theorem sle_renS {n : Nat} {fr : List S} {H : Heap} (τ : List (Nat × Bool)) (hu : uniqT τ = true) (hn : ∀ p, p < n → (τ[p]?).map (·.1) = some p) : SLe n ⟨fr, H⟩ ⟨fr.map (sm (nm τ)), renB τ H⟩ := by
  intro E ρ a w hs
  obtain ⟨h1, h2⟩ := ren_sim (τ := τ) hu hs.heap
  refine ⟨_, fun p hp => ?_, ⟨hs.fr.1, by simpa using hs.fr.2.1, fun i s hi => ?_⟩, h1⟩
  · have := hn p hp
    rw [Option.map_eq_some_iff] at this
    obtain ⟨x, k1, k2⟩ := this
    show ρ ((τ.getD p (0, false)).1) = ρ p
    rw [List.getD_eq_getElem?_getD, k1]; exact congrArg ρ k2
  · rw [List.getElem?_map, Option.map_eq_some_iff] at hi
    obtain ⟨s0, k1, rfl⟩ := hi
    obtain ⟨v, k2, k3⟩ := hs.fr.2.2 i s0 k1
    exact ⟨v, k2, sm_sound h2 k3⟩
theorem frm_map (f : Cell → Cell) {N : Nat} {al : List (Nat × S)} {t : Nat} : lkp (al.map fun x => (x.1, sm f x.2)) t = sm f (lkp al t) ∨ (lkp al t = ud ∧ lkp (al.map fun x => (x.1, sm f x.2)) t = ud) := by
  induction al with
  | nil => exact .inr ⟨rfl, rfl⟩
  | cons x r ih =>
    obtain ⟨i, s⟩ := x
    simp only [List.map_cons, lkp]
    cases Nat.beq i t with
    | true => exact .inl rfl
    | false => exact ih
/-- As a frame says it. -/
theorem sle_ren {n N : Nat} {al al' : List (Nat × S)} {H H' : Heap} (τ : List (Nat × Bool)) (hu : uniqT τ = true) (hn : ∀ p, p < n → (τ[p]?).map (·.1) = some p)
    (hf : SubL (al.map fun x => (x.1, sm (nm τ) x.2)) al') (hH : H' = renB τ H) : SLe n ⟨frm N al, H⟩ ⟨frm N al', H'⟩ := by
  intro E ρ a w hs
  obtain ⟨ρ', h1, h2⟩ := sle_renS (n := n) (fr := frm N al) (H := H) τ hu hn E ρ a w hs
  subst hH
  refine ⟨ρ', h1, ⟨h2.fr.1, by rw [frm_length]; have := hs.fr.2.1; rwa [frm_length] at this, fun t s ht => ?_⟩, h2.heap⟩
  have hlt : t < N := by
    have := (List.getElem?_eq_some_iff.1 ht).1
    rwa [frm_length] at this
  rw [frm_get hlt] at ht
  obtain rfl := Option.some.inj ht
  obtain ⟨v, k1, k2⟩ := h2.fr.2.2 t _ (by rw [List.getElem?_map, frm_get hlt]; rfl)
  refine ⟨v, k1, ?_⟩
  rcases sub_get hf t with h | h
  · rw [h]; simp [ud, SRel, VRel, CRel]
  · rw [h]
    rcases frm_map (N := N) (nm τ) (al := al) (t := t) with g | ⟨_, g⟩
    · rw [g]; exact k2
    · rw [g]; simp [ud, SRel, VRel, CRel]
end Go.Abs

/- The abstract machine: words for memory where a block may be told of or not. -/
namespace Go.Abs
open Go

/-- Bytes, if there are any to be told of. -/
def kb (has : Bool) (key : List UInt8) : Option (List Cell) := bif has then some (u8s key) else none
/-- A pointer to them, or none. -/
def kp (has : Bool) (p : Nat) : Cell := bif has then .ptr p 0 else .nilp
/-- The same, looked at. -/
def kr (has : Bool) (key : List UInt8) : Cell := bif has then .rop (u8s key) else .nilp
/-! Blocks under other numbers, one by one. -/
def renL (τ0 τ : List (Nat × Bool)) (H : Heap) : Heap := τ.map fun x => if x.2 then pick H (nm τ0) x.1 else none
theorem rl0 {τ0 : List (Nat × Bool)} {H : Heap} : renL τ0 [] H = [] := rfl
theorem rlT {τ0 τ : List (Nat × Bool)} {H R : Heap} {p : Nat} {cs cs' : List Cell} (hp : H[p]? = some (some cs)) (hc : cs.map (nm τ0) = cs') (h : renL τ0 τ H = R) : renL τ0 ((p, true) :: τ) H = some cs' :: R := by
  subst hc h; simp [renL, pick, hp]
end Go.Abs

/- The abstract machine: elements of a slice of structs that may be looked at. -/
namespace Go.Abs
open Go

section
variable {P : Program} {fr : List S} {H : Heap} {K : S → Heap → Prop} {od : Option Nat} {oty : TypeId} {ops_ : String} {oaf : Array Edge} {ogu : Option (Nat × Bool)} {t u : TypeId} {a b i : Operand} {ti : TI}
end
end Go.Abs

/- What functions of the program do, walked over the abstract machine. -/
namespace Go.Proofs.Ytgojpagfgfknkaa.Wd
open Go Go.Abs Go.Proofs

/-- escutcheonref18.Greatest -/
theorem rgreat_ (l : List UInt64) (h9 : l.length ≤ 100000) : Good Try.prog 21 [.c (.ro l.length (u64s l))] [] (.t [.c (c64 (grl l)), .c (.bool (decide (0 < l.length)))]) [] := by
  refine good_frm 26 Try.func21 rfl rfl rfl rfl rfl rfl ?_
  refine awp_seq ?_
  refine rln ?_
  refine G (q_as (s := sc (c64 0)) ?_)
  refine As ?_
  refine gend ?_
  refine awp_seq ?_
  refine rln ?_
  refine G (q_as (s := sc (c64 0)) ?_)
  refine gend ?_
  refine awp_seq ?_
  refine awp_seq ?_
  refine rln ?_
  refine G (q_as (s := sc (cn 0)) ?_)
  refine gend ?_
  refine awp_block ?_
  refine awp_loop (fun x : {i : Nat // i ≤ l.length} => ⟨frm 26 [(0, sc (.ro l.length (u64s l))), (4, sc (c64 (grl (l.take x.1)))), (5, sc (cn x.1))], []⟩) (fun x => l.length - x.1) ⟨0, Nat.zero_le _⟩ (sle_sub ⟨rfl, rfl, rfl, trivial⟩ rfl) fun x => ?_   -- live: [0, 4, 5]
  refine awp_seq ?_
  refine awp_seq ?_
  refine rln ?_
  refine Mv ?_
  refine Mv ?_
  refine G (q_leno ?_)
  refine G (q_lssn ?_)
  refine gend ?_
  refine cnd (fun hc1 => ?_) (fun hc1 => ?_); rotate_left
  · refine awp_exit ?_
    rw [show x.1 = l.length from (by have := x.2; omega)]
    rw [List.take_length]
    refine awp_seq ?_
    refine rln ?_
    refine Mv ?_
    refine Mv ?_
    refine G (q_leno ?_)
    refine G (q_gtrn (y := 0) ?_)
    refine As ?_
    refine As ?_
    refine gend ?_
    refine awp_ret ?_
    exact fp2
  refine awp_skip ?_
  refine awp_seq ?_
  refine awp_block ?_
  refine awp_seq ?_
  refine rln ?_
  refine Mv ?_
  refine Mv ?_
  refine G (q_ixo1 ?_)
  refine G (q_ldrd ?_)
  refine Mv ?_
  refine G (q_gtr64 ?_)
  refine gend ?_
  refine cnd (fun hc2 => ?_) (fun hc2 => ?_)
  · refine rln ?_
    refine Mv ?_
    refine Mv ?_
    refine G (q_ixo1 ?_)
    refine G (q_ldrd ?_)
    refine As ?_
    refine gend ?_
    refine rln ?_
    refine Mv ?_
    refine G (q_addn (y := 1) ?_)
    refine As ?_
    refine gend ?_
    exact ⟨⟨x.1 + 1, by omega⟩, by show l.length - (x.1 + 1) < l.length - x.1; omega, sle_sub ⟨rfl, congrArg (fun z => sc (c64 z)) (by rw [grl_take (by omega)]; first | exact (if_pos hc2).symm | exact (if_neg hc2).symm), rfl, trivial⟩ rfl⟩   -- endloop 1
  refine awp_skip ?_
  refine rln ?_
  refine Mv ?_
  refine G (q_addn (y := 1) ?_)
  refine As ?_
  refine gend ?_
  exact ⟨⟨x.1 + 1, by omega⟩, by show l.length - (x.1 + 1) < l.length - x.1; omega, sle_sub ⟨rfl, congrArg (fun z => sc (c64 z)) (by rw [grl_take (by omega)]; first | exact (if_pos hc2).symm | exact (if_neg hc2).symm), rfl, trivial⟩ rfl⟩   -- endloop 1
/-- escutcheonref18.Old -/
theorem rold_ (l : List UInt64) (n : UInt64) (h9 : l.length ≤ 100000) : Good Try.prog 20 [.c (.ro l.length (u64s l)), .c (c64 n)] [] (sc (.bool (rold l n))) [] := by
  refine good_frm 24 Try.func20 rfl rfl rfl rfl rfl rfl ?_
  refine awp_seq ?_
  refine rln ?_
  refine As ?_
  refine gend ?_
  refine awp_seq ?_
  refine rln ?_
  refine Mv ?_
  refine G2 (fun _ k_ => q_callp (rgreat_ l h9) k_) ?_
  refine G (q_mv (s := .t _) ?_)
  refine G (q_ext (y := .c _) ?_)
  refine G (q_ext (y := .c _) ?_)
  refine As ?_
  refine As ?_
  refine gend ?_
  refine awp_seq ?_
  refine rln ?_
  refine Mv ?_
  refine Mv ?_
  refine Asp 13 (fun hb2 => ?_) (fun hb2 => ?_)
  · refine Gg (q_mv (s := .v (.c _)) ?_)
    refine Gg (q_mv (s := .v (.c _)) ?_)
    refine Gg (q_lss64 ?_)
    refine G (q_pkt ?_)
    refine Mv ?_
    refine Aspd 18 (fun hb7 => ?_) (fun hb7 => ?_)
    · refine Gg (q_mv (s := .v (.c _)) ?_)
      refine Gg (q_mv (s := .v (.c _)) ?_)
      refine Gg (q_sub64 ?_)
      refine Gg (q_geq64 (y := 64) ?_)
      refine G (q_pkt ?_)
      refine As ?_
      refine gend ?_
      refine awp_ret ?_
      exact fp1 (hv := by simp [rold, *])
    refine Gn ?_
    refine Gn ?_
    refine Gn ?_
    refine Gn ?_
    refine G (q_pkf ?_)
    refine As ?_
    refine gend ?_
    refine awp_ret ?_
    exact fp1 (hv := by simp [rold, *])
  refine Gn ?_
  refine Gn ?_
  refine Gn ?_
  refine G (q_pkf ?_)
  refine Mv ?_
  refine Gn ?_
  refine Gn ?_
  refine Gn ?_
  refine Gn ?_
  refine G (q_pkf ?_)
  refine As ?_
  refine gend ?_
  refine awp_ret ?_
  exact fp1 (hv := by simp [rold, *])
/-- escutcheonref18.Came -/
theorem rcame_ (l : List UInt64) (n : UInt64) (h9 : l.length ≤ 100000) : Good Try.prog 19 [.c (.ro l.length (u64s l)), .c (c64 n)] [] (sc (.bool (rcame l n))) [] := by
  refine good_frm 22 Try.func19 rfl rfl rfl rfl rfl rfl ?_
  refine awp_seq ?_
  refine rln ?_
  refine As ?_
  refine gend ?_
  refine awp_seq ?_
  refine awp_seq ?_
  refine rln ?_
  refine G (q_as (s := sc (cn 0)) ?_)
  refine gend ?_
  refine awp_block ?_
  refine awp_loop (fun x : CP l n => ⟨frm 22 [(0, sc (.ro l.length (u64s l))), (1, sc (c64 n)), (5, sc (cn x.i))], []⟩) (fun x => l.length - x.i) ⟨0, Nat.zero_le _, fun _ h => absurd h (Nat.not_lt_zero _)⟩ (sle_sub ⟨rfl, rfl, rfl, trivial⟩ rfl) fun x => ?_   -- live: [0, 1, 5]
  have hxi := x.hi
  refine awp_seq ?_
  refine awp_seq ?_
  refine rln ?_
  refine Mv ?_
  refine Mv ?_
  refine G (q_leno ?_)
  refine G (q_lssn ?_)
  refine gend ?_
  refine cnd (fun hc1 => ?_) (fun hc1 => ?_); rotate_left
  · refine awp_exit ?_
    refine awp_seq ?_
    refine rln ?_
    refine As ?_
    refine gend ?_
    refine awp_ret ?_
    exact fp1 (hv := by have h := not_mem_all (fun j hj => x.ok j (by omega)); simp [rcame, h])
  refine awp_skip ?_
  refine awp_seq ?_
  refine awp_block ?_
  refine awp_seq ?_
  refine rln ?_
  refine Mv ?_
  refine Mv ?_
  refine G (q_ixo1 ?_)
  refine G (q_ldrd ?_)
  refine Mv ?_
  refine G (q_eql64 ?_)
  refine gend ?_
  refine cnd (fun hc2 => ?_) (fun hc2 => ?_)
  · refine awp_seq ?_
    refine rln ?_
    refine Mv ?_
    refine Mv ?_
    refine G2 (fun _ k_ => q_callp (rold_ l n h9) k_) ?_
    refine G (q_notb ?_)
    refine As ?_
    refine gend ?_
    refine awp_ret ?_
    exact fp1 (hv := by have h := mem_at (by omega) hc2; simp [rcame, h])
  refine awp_skip ?_
  refine rln ?_
  refine Mv ?_
  refine G (q_addn (y := 1) ?_)
  refine As ?_
  refine gend ?_
  exact ⟨⟨x.i + 1, by omega, fun j hj => by rcases Nat.lt_succ_iff_lt_or_eq.1 hj with h | rfl; exact x.ok j h; exact hc2⟩, by show l.length - (x.i + 1) < l.length - x.i; omega, sle_sub ⟨rfl, rfl, rfl, trivial⟩ rfl⟩   -- endloop 1
/-- escutcheonref18.Check -/
theorem rcheck_ (l : List UInt64) (n : UInt64) (h9 : l.length ≤ 100000) : Good Try.prog 12 [.c (.ro l.length (u64s l)), .c (c64 n)] [] (sc (cn (rchk l n))) [] := by
  refine good_frm 13 Try.func12 rfl rfl rfl rfl rfl rfl ?_
  refine awp_seq ?_
  refine rln ?_
  refine G (q_as (s := sc (cn 0)) ?_)
  refine gend ?_
  refine awp_seq ?_
  refine awp_seq ?_
  refine rln ?_
  refine Mv ?_
  refine Mv ?_
  refine G2 (fun _ k_ => q_callp (rcame_ l n h9) k_) ?_
  refine Mv ?_
  refine Asp 8 (fun hb4 => ?_) (fun hb4 => ?_)
  · refine Gn ?_
    refine Gn ?_
    refine Gn ?_
    refine G (q_pkt ?_)
    refine gend ?_
    refine cndT ?_
    refine awp_seq ?_
    refine rln ?_
    refine G (q_as (s := sc (cn 10)) ?_)
    refine gend ?_
    refine awp_ret ?_
    exact fp1 (hv := by simp [rchk, *])
  refine Gg (q_mv (s := .v (.c _)) ?_)
  refine Gg (q_mv (s := .v (.c _)) ?_)
  refine G2g (fun _ k_ => q_callp (rold_ l n h9) k_) ?_
  refine G (q_pkf ?_)
  refine gend ?_
  refine cndb (fun hc1 => ?_) (fun hc1 => ?_)
  · refine awp_seq ?_
    refine rln ?_
    refine G (q_as (s := sc (cn 10)) ?_)
    refine gend ?_
    refine awp_ret ?_
    exact fp1 (hv := by simp [rchk, *])
  refine awp_skip ?_
  refine awp_seq ?_
  refine rln ?_
  refine G (q_as (s := sc (cn 0)) ?_)
  refine gend ?_
  refine awp_ret ?_
  exact fp1 (hv := by simp [rchk, *])
end Go.Proofs.Ytgojpagfgfknkaa.Wd

/- What functions of the program do, walked over the abstract machine. -/
namespace Go.Proofs.Ytgojpagfgfknkaa.Wd
open Go Go.Abs Go.Proofs

def s1 : UInt64 × UInt64 := wnext true 0 0 70
def s2 : UInt64 × UInt64 := wnext true s1.1 s1.2 7
def s3 : UInt64 × UInt64 := wnext true s2.1 s2.2 6
def s4 : UInt64 × UInt64 := wnext true s3.1 s3.2 70
theorem known_1 : wchk true 0 0 70 + wchk true s1.1 s1.2 7 + wchk true s4.1 s4.2 8 = 0 := by decide +kernel
theorem known_2 : wchk true s2.1 s2.2 6 = 10 := by decide +kernel
theorem known_3 : wchk true s3.1 s3.2 70 = 10 := by decide +kernel
/-- escutcheonlaw18.num -/
theorem num (n : Nat) : Good Try.prog 9 [.c (cn n)] [] (sc (cn n)) [] := by
  refine good_frm 4 Try.func9 rfl rfl rfl rfl rfl rfl ?_
  refine awp_seq ?_
  refine rln ?_
  refine G (q_as (s := sc (cn 0)) ?_)
  refine gend ?_
  refine awp_seq ?_
  refine rln ?_
  refine Mv ?_
  refine As ?_
  refine gend ?_
  refine awp_ret ?_
  exact fp1
/-- escutcheonlaw18.known -/
theorem known : Good Try.prog 7 [] [] (sc (.bool true)) [] := by
  refine good_frm 39 Try.func7 rfl rfl rfl rfl rfl rfl ?_
  refine awp_seq ?_
  refine rln ?_
  refine As ?_
  refine gend ?_
  refine awp_seq ?_
  refine rln ?_
  refine G2 (fun _ k_ => q_calln new k_) ?_
  refine As ?_
  refine gend ?_
  refine awp_seq ?_
  refine awp_seq ?_
  refine rln ?_
  refine Mv ?_
  refine G (q_eqlp ?_)
  refine gend ?_
  refine cndF ?_
  refine awp_skip ?_
  refine awp_seq ?_
  refine rln ?_
  refine Mv ?_
  refine G2 (fun _ k_ => q_callw 0 (take true 0 0 70) k_) ?_
  refine Mv ?_
  refine G2 (fun _ k_ => q_callw 0 (take true s1.1 s1.2 7) k_) ?_
  refine Mv ?_
  refine G2 (fun _ k_ => q_callw 0 (take true s2.1 s2.2 6) k_) ?_
  refine Mv ?_
  refine G2 (fun _ k_ => q_callw 0 (take true s3.1 s3.2 70) k_) ?_
  refine Mv ?_
  refine G2 (fun _ k_ => q_callw 0 (take true s4.1 s4.2 8) k_) ?_
  refine As ?_
  refine As ?_
  refine As ?_
  refine As ?_
  refine As ?_
  refine gend ?_
  refine awp_seq ?_
  refine rln ?_
  refine Mv ?_
  refine G2 (fun _ k_ => q_callp (num _/- escutcheon/escutcheonlaw18.num -/) k_) ?_
  refine Mv ?_
  refine G2 (fun _ k_ => q_callp (num _/- escutcheon/escutcheonlaw18.num -/) k_) ?_
  refine G (q_addn ?_)
  refine Mv ?_
  refine G2 (fun _ k_ => q_callp (num _/- escutcheon/escutcheonlaw18.num -/) k_) ?_
  refine G (q_addn ?_)
  refine G (q_eqln (y := 0) ?_)
  refine Mv ?_
  refine Aknd 29 (fun hb10 => ?_) ?_; rotate_left
  · simp [known_1, known_2, known_3]
  refine Gg (q_mv (s := .v (.c _)) ?_)
  refine G2g (fun _ k_ => q_callp (num _/- escutcheon/escutcheonlaw18.num -/) k_) ?_
  refine Gg (q_eqln (y := 10) ?_)
  refine G (q_pkt ?_)
  refine Mv ?_
  refine Aknd 34 (fun hb15 => ?_) ?_; rotate_left
  · simp [known_1, known_2, known_3]
  refine Gg (q_mv (s := .v (.c _)) ?_)
  refine G2g (fun _ k_ => q_callp (num _/- escutcheon/escutcheonlaw18.num -/) k_) ?_
  refine Gg (q_eqln (y := 10) ?_)
  refine G (q_pkt ?_)
  refine As ?_
  refine gend ?_
  refine awp_ret ?_
  exact fp1
end Go.Proofs.Ytgojpagfgfknkaa.Wd

/- What functions of the program do, walked over the abstract machine. -/
namespace Go.Proofs.Ytgojpagfgfknkaa.Wd
open Go Go.Abs Go.Proofs

/-- escutcheonlaw18.looks -/
theorem looks_ (l : List UInt64) (g b n : UInt64) (h9 : l.length ≤ 100000) (I : Inv l g b) : Good Try.prog 13 [.c (.rop (wcs true g b)), .c (.ro l.length (u64s l)), .c (c64 n)] [] (sc (.bool true)) [] := by
  have g1 := greatest true g b
  rw [(great_inv I).1, (great_inv I).2] at g1
  have g2 := came true g b n
  rw [(chk_inv I n).2] at g2
  have g3 := check true g b n
  rw [(chk_inv I n).1] at g3
  refine good_frm 48 Try.func13 rfl rfl rfl rfl rfl rfl ?_
  refine awp_seq ?_
  refine rln ?_
  refine As ?_
  refine gend ?_
  refine awp_seq ?_
  refine rln ?_
  refine Mv ?_
  refine G2 (fun _ k_ => q_callp g1 k_) ?_
  refine G (q_mv (s := .t _) ?_)
  refine G (q_ext (y := .c _) ?_)
  refine G (q_ext (y := .c _) ?_)
  refine As ?_
  refine As ?_
  refine gend ?_
  refine awp_seq ?_
  refine rln ?_
  refine Mv ?_
  refine G2 (fun _ k_ => q_callp (rgreat_ l h9) k_) ?_
  refine G (q_mv (s := .t _) ?_)
  refine G (q_ext (y := .c _) ?_)
  refine G (q_ext (y := .c _) ?_)
  refine As ?_
  refine As ?_
  refine gend ?_
  refine awp_seq ?_
  refine rln ?_
  refine Mv ?_
  refine Mv ?_
  refine G (q_eql64 ?_)
  refine Mv ?_
  refine Aknd 24 (fun hb4 => ?_) ?_; rotate_left
  · exact rfl
  refine Gg (q_mv (s := .v (.c _)) ?_)
  refine Gg (q_mv (s := .v (.c _)) ?_)
  refine Gg (q_eqlb ?_)
  refine G (q_pkt ?_)
  refine Mv ?_
  refine Akn 29 (fun hb9 => ?_) ?_; rotate_left
  · simp
  refine Gg (q_mv (s := .v (.c _)) ?_)
  refine Gg (q_mv (s := .v (.c _)) ?_)
  refine G2g (fun _ k_ => q_callp g2 k_) ?_
  refine Gg (q_mv (s := .v (.c _)) ?_)
  refine Gg (q_mv (s := .v (.c _)) ?_)
  refine G2g (fun _ k_ => q_callp (rcame_ l n h9) k_) ?_
  refine Gg (q_eqlb ?_)
  refine G (q_pkt ?_)
  refine Mv ?_
  refine Akn 38 (fun hb18 => ?_) ?_; rotate_left
  · simp
  refine Gg (q_mv (s := .v (.c _)) ?_)
  refine Gg (q_mv (s := .v (.c _)) ?_)
  refine G2g (fun _ k_ => q_callp g3 k_) ?_
  refine G2g (fun _ k_ => q_callp (num _) k_) ?_
  refine Gg (q_mv (s := .v (.c _)) ?_)
  refine Gg (q_mv (s := .v (.c _)) ?_)
  refine G2g (fun _ k_ => q_callp (rcheck_ l n h9) k_) ?_
  refine Gg (q_eqln ?_)
  refine G (q_pkt ?_)
  refine As ?_
  refine gend ?_
  refine awp_ret ?_
  exact fp1 (hv := by simp)
end Go.Proofs.Ytgojpagfgfknkaa.Wd

/- What functions of the program do, walked over the abstract machine. -/
namespace Go.Proofs.Ytgojpagfgfknkaa.Wd
open Go Go.Abs Go.Proofs

theorem looks_k (l : List UInt64) (k : Nat) (g b n : UInt64) (hk : l.length = k) (h9 : k ≤ 100000) (I : Inv l g b) : Good Try.prog 13 [.c (.rop (wcs true g b)), .c (.ro k (u64s l)), .c (c64 n)] [] (sc (.bool true)) [] := by
  subst hk; exact looks_ l g b n h9 I
theorem app_one {l : List UInt64} {a : UInt64} : u64s l ++ [c64 a] = u64s (l ++ [a]) := by simp [mapc]
theorem cut_app {l : List UInt64} {a : UInt64} {n : Nat} (h : l.length + 1 = n) : ((u64s l ++ [c64 a]).drop 0).take (n * 1) = u64s (l ++ [a]) := by
  rw [app_one]; exact cut_h (by simp [← h])
set_option maxHeartbeats 1600000 in
/-- escutcheonlaw18.WindowPlays -/
theorem wplays (l : List UInt64) (n : UInt64) (k : Nat) (hk : l.length = k) (hk9 : k ≤ 140737488351232) : Good Try.prog 5 [.c (.ro k (u64s l)), .c (c64 n)] [] (sc (.bool true)) [] := by
  refine good_frm 89 Try.func5 rfl rfl rfl rfl rfl rfl ?_
  refine awp_seq ?_
  refine rln ?_
  refine As ?_
  refine gend ?_
  refine awp_seq ?_
  refine awp_seq ?_
  refine rln ?_
  refine Mv ?_
  refine G (q_leno ?_)
  refine G (q_gtrn (y := 200) ?_)
  refine gend ?_
  refine cnd (fun hc1 => ?_) (fun hc1 => ?_)
  · refine awp_seq ?_
    refine rln ?_
    refine G2 (fun _ k_ => q_callp known k_) ?_
    refine As ?_
    refine gend ?_
    refine awp_ret ?_
    exact fp1
  refine awp_skip ?_
  refine awp_seq ?_
  refine rln ?_
  refine G2 (fun _ k_ => q_calln new k_) ?_
  refine As ?_
  refine gend ?_
  refine awp_seq ?_
  refine awp_seq ?_
  refine rln ?_
  refine Mv ?_
  refine G (q_eqlp ?_)
  refine gend ?_
  refine cndF ?_
  refine awp_skip ?_
  refine awp_seq ?_
  refine rln ?_
  refine As ?_
  refine gend ?_
  refine awp_seq ?_
  refine awp_seq ?_
  refine rln ?_
  refine G (q_as (s := sc (cn 0)) ?_)
  refine gend ?_
  refine awp_block ?_
  refine awp_loop (fun x : WP k => ⟨frm 89 [(0, sc (.ro k (u64s l))), (1, sc (c64 n)), (5, sc (.ptr 0 0)), (6, sc (.slc 1 0 x.came.length 1)), (7, sc (cn x.i))], [some (wcs true x.g x.b), some (u64s x.came)]⟩) (fun x => k - x.i) ⟨0, [], 0, 0, Nat.zero_le _, Nat.le_refl _, inv_nil⟩ (sle_empty 1 (Nat.zero_le _) ⟨.inl rfl, .inl rfl, .inl rfl, .inr ⟨rfl, rfl⟩, .inl rfl, trivial⟩) fun x => ?_   -- live: [0, 1, 5, 6, 7]
  have hxi := x.hi
  have hxl := x.hl
  have hn1 := next_inv x.I (l.getD x.i 0)
  refine awp_seq ?_
  refine awp_seq ?_
  refine rln ?_
  refine Mv ?_
  refine Mv ?_
  refine G (q_leno ?_)
  refine G (q_lssn ?_)
  refine gend ?_
  refine cnd (fun hc2 => ?_) (fun hc2 => ?_); rotate_left
  · refine awp_exit ?_
    refine awp_seq ?_
    refine rln ?_
    refine Mv ?_
    refine Mv ?_
    refine Mv ?_
    refine G2 (fun _ k_ => q_callp (looks_k x.came _ _ _ n rfl (by omega) x.I) k_ (ha := (cac (et rfl) (sees_ptr rfl rfl rfl rfl) (cac (et rfl) (sees_slc rfl rfl (cut_h rfl)) (cac (et rfl) cm_int ca0))))) ?_
    refine Mv ?_
    refine G2g (fun _ k_ => q_callp known k_) ?_
    refine G (q_pkt ?_)
    refine As ?_
    refine gend ?_
    refine awp_ret ?_
    exact fp1
  refine awp_skip ?_
  refine awp_seq ?_
  refine awp_block ?_
  refine awp_seq ?_
  refine rln ?_
  refine Mv ?_
  refine G2 (fun _ k_ => q_calln (copy true x.g x.b rfl) k_ (ha := (cac (et rfl) (sees_ptr rfl rfl rfl rfl) ca0))) ?_
  refine As ?_
  refine gend ?_
  refine awp_seq ?_
  refine rln ?_
  refine Mv ?_
  refine As ?_
  refine gend ?_
  refine awp_seq ?_
  refine rln ?_
  refine Mv ?_
  refine Mv ?_
  refine Mv ?_
  refine G (q_ixo1 ?_)
  refine G (q_ldrd ?_)
  refine G2 (fun _ k_ => q_callw 0 (take true x.g x.b (l.getD x.i 0)) k_) ?_
  refine As ?_
  refine gend ?_
  refine awp_seq ?_
  refine awp_seq ?_
  refine rdln [1, 7] [0, 0, 0, 0, 0, 0, 0, 1, 2] [0, 1, 1, 1, 1, 1, 1, 2, 2] ?_
  refine Dp (fun _ => q_mv (s := .v (.c _)) ⟨rfl, rfl⟩) ?_
  refine De2 (fun _ k_ => q_callp (num _/- escutcheon/escutcheonlaw18.num -/) k_) ?_
  refine Dp (fun _ => q_mv (s := .v (.c _)) ⟨rfl, rfl⟩) ?_
  refine Dp (fun _ => q_mv (s := .v (.c _)) ⟨rfl, rfl⟩) ?_
  refine Dp (fun _ => q_mv (s := .v (.c _)) ⟨rfl, rfl⟩) ?_
  refine Dp (fun _ => q_ixo1 ⟨rfl, rfl⟩) ?_
  refine Dp (fun _ => q_ldrd ⟨rfl, rfl⟩) ?_
  refine De2 (fun _ k_ => q_callp (rcheck_ x.came (l.getD x.i 0) (by omega)) k_ (ha := (cac (et rfl) (sees_slc rfl rfl (cut_h rfl)) (cac (et rfl) cm_int ca0)))) ?_
  refine Dp (fun _ => q_neqn ⟨rfl, rfl⟩) ?_
  refine dend ?_
  refine cndN (fun hc3 => ?_) ?_; rotate_left
  · exact fun h => h (chk_inv x.I _).1
  refine awp_skip ?_
  refine awp_seq ?_
  refine awp_seq ?_
  refine rln ?_
  refine Mv ?_
  refine G2 (fun _ k_ => q_callp (num _/- escutcheon/escutcheonlaw18.num -/) k_) ?_
  refine G (q_eqln (y := 0) ?_)
  refine gend ?_
  refine cnd (fun hc4 => ?_) (fun hc4 => ?_)
  · rw [rnext, if_pos ((chk_inv x.I (l.getD x.i 0)).1 ▸ hc4)] at hn1
    have I1 := hn1
    refine rdm [1, 6, 7] [⟨[0, 1, 2, 3, 4, 5, 6, 7, 8], [1, 6, 7], [1, 6, 7], [0, 0, 0, 0, 0, 0, 1, 2, 3], [0, 1, 1, 1, 1, 1, 2, 3, 3]⟩, ⟨[0, 2, 3, 4, 5, 6, 1, 7, 8], [6, 1, 7], [5, 6, 7], [0, 0, 0, 0, 0, 0, 1, 2, 3], [1, 0, 0, 0, 0, 1, 2, 3, 3]⟩] ⟨?_, ?_, trivial⟩   -- region 16
    · refine Dp (fun _ => q_mv (s := .v (.c _)) ⟨rfl, rfl⟩) ?_
      refine De2 (fun _ k_ => q_app  k_ (eA := el_nil) (eB := el_slc (xs := u64s x.came) rfl (by rw [mapc_length]; omega) (cut_h rfl))) ?_
      refine Dp (fun _ => q_mv (s := .v (.c _)) ⟨rfl, rfl⟩) ?_
      refine Dp (fun _ => q_mv (s := .v (.c _)) ⟨rfl, rfl⟩) ?_
      refine Dp (fun _ => q_ixo1 ⟨rfl, rfl⟩) ?_
      refine Dp (fun _ => q_ldrd ⟨rfl, rfl⟩) ?_
      refine De2 (fun _ k_ => q_bsl (fkc rfl (et rfl) rfl (Nat.le_of_ble_eq_true rfl) (fk0 k_))) ?_
      refine De2 (fun _ k_ => q_app  k_ (eA := el_slc (xs := u64s x.came) rfl (by rw [mapc_length]; omega) (cut_h (by omega))) (eB := el_slc (xs := [c64 (l.getD x.i 0)]) rfl (Nat.le_refl _) rfl)) ?_
      refine Dp (fun _ => q_as (s := .v (.c _)) ⟨rfl, rfl⟩) ?_
      refine dend ?_
      refine awp_seq ?_
      refine rln ?_
      refine Mv ?_
      refine G (q_eqlp ?_)
      refine Mv ?_
      refine Gg (q_mv (s := .v (.c _)) ?_)
      refine Gg (q_mv (s := .v (.c _)) ?_)
      refine Gg (q_mv (s := .v (.c _)) ?_)
      refine G2g (fun _ k_ => q_callp (looks_k (x.came ++ [l.getD x.i 0]) _ _ _ n (by simp <;> omega) (by omega) I1) k_ (ha := (cac (et rfl) (sees_ptr rfl rfl rfl rfl) (cac (et rfl) (sees_slc rfl rfl (cut_app (by omega))) (cac (et rfl) cm_int ca0))))) ?_
      refine Gg (q_notb ?_)
      refine G (q_pkf ?_)
      refine Mv ?_
      refine Gg (q_mv (s := .v (.c _)) ?_)
      refine Gg (q_mv (s := .v (.c _)) ?_)
      refine Gg (q_mv (s := .v (.c _)) ?_)
      refine Gg (q_mv (s := .v (.c _)) ?_)
      refine Gg (q_ixo1 ?_)
      refine Gg (q_ldrd ?_)
      refine G2g (fun _ k_ => q_callp (looks_k (x.came ++ [l.getD x.i 0]) _ _ _ (l.getD x.i 0) (by simp <;> omega) (by omega) I1) k_ (ha := (cac (et rfl) (sees_ptr rfl rfl rfl rfl) (cac (et rfl) (sees_slc rfl rfl (cut_app (by omega))) (cac (et rfl) cm_int ca0))))) ?_
      refine Gg (q_notb ?_)
      refine G (q_pkf ?_)
      refine Mv ?_
      refine Gg (q_mv (s := .v (.c _)) ?_)
      refine Gg (q_mv (s := .v (.c _)) ?_)
      refine Gg (q_mv (s := .v (.c _)) ?_)
      refine Gg (q_mv (s := .v (.c _)) ?_)
      refine Gg (q_ixo1 ?_)
      refine Gg (q_ldrd ?_)
      refine G2g (fun _ k_ => q_callp (looks_k x.came _ _ _ (l.getD x.i 0) rfl (by omega) x.I) k_ (ha := (cac (et rfl) (sees_ptr rfl rfl rfl rfl) (cac (et rfl) (sees_slc rfl rfl (cut_h rfl)) (cac (et rfl) cm_int ca0))))) ?_
      refine Gg (q_notb ?_)
      refine G (q_pkf ?_)
      refine gend ?_
      refine cndF ?_
      refine awp_skip ?_
      refine rln ?_
      refine Mv ?_
      refine G (q_addn (y := 1) ?_)
      refine As ?_
      refine gend ?_
      exact ⟨⟨x.i + 1, x.came ++ [l.getD x.i 0], (wnext true x.g x.b (l.getD x.i 0)).1, (wnext true x.g x.b (l.getD x.i 0)).2, by omega, by simp <;> omega, I1⟩, by show k - (x.i + 1) < k - x.i; omega, sle_ren [(0, true), (5, true)] rfl (fun p h => absurd h (Nat.not_lt_zero _)) ⟨rs_ro, rfl, rfl, congrArg (fun z => sc (.slc 1 0 z 1)) (by simp <;> omega), rfl, trivial⟩ (Eq.symm (a := renL _ _ _) (rlT rfl rfl (rlT rfl ((congrArg (List.map _) app_one).trans sees_m) rl0)))⟩   -- endloop 1
    refine Dp (fun _ => q_mv (s := .v (.c _)) ⟨rfl, rfl⟩) ?_
    refine Dp (fun _ => q_mv (s := .v (.c _)) ⟨rfl, rfl⟩) ?_
    refine Dp (fun _ => q_mv (s := .v (.c _)) ⟨rfl, rfl⟩) ?_
    refine Dp (fun _ => q_ixo1 ⟨rfl, rfl⟩) ?_
    refine Dp (fun _ => q_ldrd ⟨rfl, rfl⟩) ?_
    refine De2 (fun _ k_ => q_bsl (fkc rfl (et rfl) rfl (Nat.le_of_ble_eq_true rfl) (fk0 k_))) ?_
    refine De2 (fun _ k_ => q_app  k_ (eA := el_nil) (eB := el_slc (xs := u64s x.came) rfl (by rw [mapc_length]; omega) (cut_h rfl))) ?_
    refine De2 (fun _ k_ => q_app  k_ (eA := el_slc (xs := u64s x.came) rfl (by rw [mapc_length]; omega) (cut_h (by omega))) (eB := el_slc (xs := [c64 (l.getD x.i 0)]) rfl (Nat.le_refl _) rfl)) ?_
    refine Dp (fun _ => q_as (s := .v (.c _)) ⟨rfl, rfl⟩) ?_
    refine dend ?_
    refine awp_seq ?_
    refine rln ?_
    refine Mv ?_
    refine G (q_eqlp ?_)
    refine Mv ?_
    refine Gg (q_mv (s := .v (.c _)) ?_)
    refine Gg (q_mv (s := .v (.c _)) ?_)
    refine Gg (q_mv (s := .v (.c _)) ?_)
    refine G2g (fun _ k_ => q_callp (looks_k (x.came ++ [l.getD x.i 0]) _ _ _ n (by simp <;> omega) (by omega) I1) k_ (ha := (cac (et rfl) (sees_ptr rfl rfl rfl rfl) (cac (et rfl) (sees_slc rfl rfl (cut_app (by omega))) (cac (et rfl) cm_int ca0))))) ?_
    refine Gg (q_notb ?_)
    refine G (q_pkf ?_)
    refine Mv ?_
    refine Gg (q_mv (s := .v (.c _)) ?_)
    refine Gg (q_mv (s := .v (.c _)) ?_)
    refine Gg (q_mv (s := .v (.c _)) ?_)
    refine Gg (q_mv (s := .v (.c _)) ?_)
    refine Gg (q_ixo1 ?_)
    refine Gg (q_ldrd ?_)
    refine G2g (fun _ k_ => q_callp (looks_k (x.came ++ [l.getD x.i 0]) _ _ _ (l.getD x.i 0) (by simp <;> omega) (by omega) I1) k_ (ha := (cac (et rfl) (sees_ptr rfl rfl rfl rfl) (cac (et rfl) (sees_slc rfl rfl (cut_app (by omega))) (cac (et rfl) cm_int ca0))))) ?_
    refine Gg (q_notb ?_)
    refine G (q_pkf ?_)
    refine Mv ?_
    refine Gg (q_mv (s := .v (.c _)) ?_)
    refine Gg (q_mv (s := .v (.c _)) ?_)
    refine Gg (q_mv (s := .v (.c _)) ?_)
    refine Gg (q_mv (s := .v (.c _)) ?_)
    refine Gg (q_ixo1 ?_)
    refine Gg (q_ldrd ?_)
    refine G2g (fun _ k_ => q_callp (looks_k x.came _ _ _ (l.getD x.i 0) rfl (by omega) x.I) k_ (ha := (cac (et rfl) (sees_ptr rfl rfl rfl rfl) (cac (et rfl) (sees_slc rfl rfl (cut_h rfl)) (cac (et rfl) cm_int ca0))))) ?_
    refine Gg (q_notb ?_)
    refine G (q_pkf ?_)
    refine gend ?_
    refine cndF ?_
    refine awp_skip ?_
    refine rln ?_
    refine Mv ?_
    refine G (q_addn (y := 1) ?_)
    refine As ?_
    refine gend ?_
    exact ⟨⟨x.i + 1, x.came ++ [l.getD x.i 0], (wnext true x.g x.b (l.getD x.i 0)).1, (wnext true x.g x.b (l.getD x.i 0)).2, by omega, by simp <;> omega, I1⟩, by show k - (x.i + 1) < k - x.i; omega, sle_ren [(0, true), (5, true)] rfl (fun p h => absurd h (Nat.not_lt_zero _)) ⟨rs_ro, rfl, rfl, congrArg (fun z => sc (.slc 1 0 z 1)) (by simp <;> omega), rfl, trivial⟩ (Eq.symm (a := renL _ _ _) (rlT rfl rfl (rlT rfl ((congrArg (List.map _) app_one).trans sees_m) rl0)))⟩   -- endloop 1
  rw [rnext, if_neg (fun h => hc4 ((chk_inv x.I (l.getD x.i 0)).1.trans h))] at hn1
  have I1 := hn1
  refine awp_skip ?_
  refine awp_seq ?_
  refine rln ?_
  refine Mv ?_
  refine G (q_eqlp ?_)
  refine Mv ?_
  refine Gg (q_mv (s := .v (.c _)) ?_)
  refine Gg (q_mv (s := .v (.c _)) ?_)
  refine Gg (q_mv (s := .v (.c _)) ?_)
  refine G2g (fun _ k_ => q_callp (looks_k x.came _ _ _ n rfl (by omega) I1) k_ (ha := (cac (et rfl) (sees_ptr rfl rfl rfl rfl) (cac (et rfl) (sees_slc rfl rfl (cut_h rfl)) (cac (et rfl) cm_int ca0))))) ?_
  refine Gg (q_notb ?_)
  refine G (q_pkf ?_)
  refine Mv ?_
  refine Gg (q_mv (s := .v (.c _)) ?_)
  refine Gg (q_mv (s := .v (.c _)) ?_)
  refine Gg (q_mv (s := .v (.c _)) ?_)
  refine Gg (q_mv (s := .v (.c _)) ?_)
  refine Gg (q_ixo1 ?_)
  refine Gg (q_ldrd ?_)
  refine G2g (fun _ k_ => q_callp (looks_k x.came _ _ _ (l.getD x.i 0) rfl (by omega) I1) k_ (ha := (cac (et rfl) (sees_ptr rfl rfl rfl rfl) (cac (et rfl) (sees_slc rfl rfl (cut_h rfl)) (cac (et rfl) cm_int ca0))))) ?_
  refine Gg (q_notb ?_)
  refine G (q_pkf ?_)
  refine Mv ?_
  refine Gg (q_mv (s := .v (.c _)) ?_)
  refine Gg (q_mv (s := .v (.c _)) ?_)
  refine Gg (q_mv (s := .v (.c _)) ?_)
  refine Gg (q_mv (s := .v (.c _)) ?_)
  refine Gg (q_ixo1 ?_)
  refine Gg (q_ldrd ?_)
  refine G2g (fun _ k_ => q_callp (looks_k x.came _ _ _ (l.getD x.i 0) rfl (by omega) x.I) k_ (ha := (cac (et rfl) (sees_ptr rfl rfl rfl rfl) (cac (et rfl) (sees_slc rfl rfl (cut_h rfl)) (cac (et rfl) cm_int ca0))))) ?_
  refine Gg (q_notb ?_)
  refine G (q_pkf ?_)
  refine gend ?_
  refine cndF ?_
  refine awp_skip ?_
  refine rln ?_
  refine Mv ?_
  refine G (q_addn (y := 1) ?_)
  refine As ?_
  refine gend ?_
  exact ⟨⟨x.i + 1, x.came, (wnext true x.g x.b (l.getD x.i 0)).1, (wnext true x.g x.b (l.getD x.i 0)).2, by omega, by omega, I1⟩, by show k - (x.i + 1) < k - x.i; omega, sle_ren [(0, true), (1, true)] rfl (fun p h => absurd h (Nat.not_lt_zero _)) ⟨rs_ro, rfl, rfl, rfl, rfl, trivial⟩ (Eq.symm (a := renL _ _ _) (rlT rfl rfl (rlT rfl sees_m rl0)))⟩   -- endloop 1
end Go.Proofs.Ytgojpagfgfknkaa.Wd


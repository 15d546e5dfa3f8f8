/- The abstract machine: regions that draw their order, whose effects lie in no one chain: one walk for each order of the effects. -/
import Derived.Test.YtcihpgdmldkjfaaAbsZe
namespace Go.Abs
open Go

/-! A list of operations, put into another order. -/
def posOf : List Nat → Nat → Nat
  | [], _ => 0
  | x :: r, i => bif Nat.beq x i then 0 else posOf r i + 1
def prevOf : List Nat → Nat → Option Nat
  | x :: y :: r, i => bif Nat.beq y i then some x else prevOf (y :: r) i
  | _, _ => none
def renE (ord : List Nat) (e : Edge) : Edge := ⟨posOf ord e.on, e.ground⟩
def preE (ord es : List Nat) (i : Nat) : Array Edge := match prevOf es i with
  | some x => #[⟨posOf ord x, .data⟩]
  | none => #[]
def renO (ord es : List Nat) (i : Nat) (o : Oper) : Oper :=
  ⟨o.dst, o.op, o.type, o.pos, o.after.map (renE ord) ++ preE ord es i, match o.guard with
    | some (j, b) => some (posOf ord j, b)
    | none => none⟩
def permO (ops : List Oper) (ord es : List Nat) : List Oper := ord.map fun i => renO ord es i ((ops[i]?).getD default)
def permB (n : Nat) (ord : List Nat) : Bool :=
  ord.length == n && (List.range n).all fun i => decide (posOf ord i < n) && ord[posOf ord i]? == some i && (match ord[i]? with
    | some x => decide (x < n) && posOf ord x == i
    | none => false)

theorem wp_ren {P : Program} {ord es : List Nat} {i : Nat} {o : Oper} {a : Act} {w : World} {K : Act → World → Prop} {Q : Exit → Act → World → Prop} : (renO ord es i o).wp P a w K Q = o.wp P a w K Q := rfl
theorem asks_ren {P : Program} {ord es : List Nat} {i : Nat} {o : Oper} {a : Act} {w : World} : (renO ord es i o).asks P a w = o.asks P a w := rfl

structure PermOk (n : Nat) (ord : List Nat) : Prop where
  len : ord.length = n
  lt : ∀ i, i < n → posOf ord i < n
  at_ : ∀ i, i < n → ord[posOf ord i]? = some i
  inv : ∀ (j x : Nat), ord[j]? = some x → x < n ∧ posOf ord x = j
theorem permB_ok {n : Nat} {ord : List Nat} (h : permB n ord = true) : PermOk n ord := by
  simp only [permB, Bool.and_eq_true, beq_iff_eq] at h
  obtain ⟨h1, h2⟩ := h
  have h3 : ∀ i, i < n → (posOf ord i < n ∧ ord[posOf ord i]? = some i) ∧ (match ord[i]? with
    | some x => decide (x < n) && posOf ord x == i
    | none => false) = true := fun i hi => by
    have := List.all_eq_true.1 h2 i (List.mem_range.2 hi)
    simpa only [Bool.and_eq_true, decide_eq_true_eq, beq_iff_eq] using this
  refine ⟨h1, fun i hi => (h3 i hi).1.1, fun i hi => (h3 i hi).1.2, fun j x hx => ?_⟩
  have hj : j < n := by rw [← h1]; exact (List.getElem?_eq_some_iff.1 hx).1
  have := (h3 j hj).2
  rw [hx] at this
  simpa only [Bool.and_eq_true, decide_eq_true_eq, beq_iff_eq] using this
theorem posOf_out : ∀ {ord : List Nat} {i : Nat}, i ∉ ord → posOf ord i = ord.length
  | [], _, _ => rfl
  | x :: r, i, h => by
    have hx : x ≠ i := fun e => h (by simp [e])
    have hr : i ∉ r := fun e => h (by simp [e])
    have : Nat.beq x i = false := by
      cases hb : Nat.beq x i with
      | false => rfl
      | true => exact absurd (Nat.eq_of_beq_eq_true hb) hx
    rw [posOf, this, cond_false, posOf_out hr]; rfl

section
variable {ops : List Oper} {ord es : List Nat}
theorem permO_len : (permO ops ord es).length = ord.length := by simp [permO]
theorem permO_at (ok : PermOk ops.length ord) {i : Nat} {o : Oper} (h : ops[i]? = some o) : (permO ops ord es)[posOf ord i]? = some (renO ord es i o) := by
  have hi := (List.getElem?_eq_some_iff.1 h).1
  simp [permO, List.getElem?_map, ok.at_ i hi, h]
theorem permO_inv (ok : PermOk ops.length ord) {j : Nat} {o' : Oper} (h : (permO ops ord es)[j]? = some o') : ∃ i o, ops[i]? = some o ∧ posOf ord i = j ∧ o' = renO ord es i o := by
  simp only [permO, List.getElem?_map, Option.map_eq_some_iff] at h
  obtain ⟨x, hx, rfl⟩ := h
  obtain ⟨h1, h2⟩ := ok.inv j x hx
  obtain ⟨o, ho⟩ : ∃ o, ops[x]? = some o := ⟨_, List.getElem?_eq_getElem h1⟩
  exact ⟨x, o, ho, h2, by rw [ho]; rfl⟩
theorem yielded_ren (ok : PermOk ops.length ord) (tmps : Array Value) (j : Nat) : yielded (permO ops ord es).toArray tmps (posOf ord j) = yielded ops.toArray tmps j := by
  unfold yielded
  have : ((permO ops ord es).toArray[posOf ord j]?).bind (·.dst) = (ops.toArray[j]?).bind (·.dst) := by
    simp only [List.getElem?_toArray]
    by_cases hj : j < ops.length
    · obtain ⟨o, ho⟩ : ∃ o, ops[j]? = some o := ⟨_, List.getElem?_eq_getElem hj⟩
      rw [permO_at ok ho, ho]; rfl
    · have hn : j ∉ ord := fun hm => by
        obtain ⟨k, hk⟩ := List.mem_iff_getElem?.1 hm
        exact hj (ok.inv k j hk).1
      rw [posOf_out hn, List.getElem?_eq_none (by rw [permO_len]; exact Nat.le_refl _), List.getElem?_eq_none (by omega)]
  rw [this]
theorem wanted_ren (ok : PermOk ops.length ord) (tmps : Array Value) (i : Nat) (o : Oper) : Region.wanted (renO ord es i o) (yielded (permO ops ord es).toArray tmps) = Region.wanted o (yielded ops.toArray tmps) := by
  unfold Region.wanted renO
  cases hg : o.guard with
  | none => rfl
  | some g =>
    obtain ⟨j, b⟩ := g
    simp only [yielded_ren ok]
theorem wpOps_ren (ok : PermOk ops.length ord) {P : Program} {Q : Exit → Act → World → Prop} : ∀ (σ : List Nat) (a : Act) (w : World), (∀ i ∈ σ, i < ops.length) →
    wpOps P (permO ops ord es).toArray Q (σ.map (posOf ord)) a w → wpOps P ops.toArray Q σ a w
  | [], _, _, _, h => h
  | i :: σ, a, w, hi, h => by
    obtain ⟨o, ho⟩ : ∃ o, ops[i]? = some o := ⟨_, List.getElem?_eq_getElem (hi i (by simp))⟩
    rw [List.map_cons, wpOps_cons] at h
    rw [wpOps_cons]
    unfold wpOp at h ⊢
    rw [List.getElem?_toArray] at h ⊢
    rw [permO_at ok ho] at h
    rw [ho]
    simp only at h ⊢
    rw [wanted_ren ok, wp_ren, asks_ren] at h
    have ih := wpOps_ren ok (P := P) (Q := Q) σ
    split
    · rename_i hw
      rw [if_pos hw] at h
      rcases h with h | h
      · exact .inl (Oper.wp_mono (fun a w h => ih a w (fun x hx => hi x (by simp [hx])) h) h)
      · exact .inr h
    · rename_i hw
      rw [if_neg hw] at h
      exact ih _ _ (fun x hx => hi x (by simp [hx])) h
end

/-! Orders that may be drawn. -/
inductive ValidO (ops : Array Oper) : Array Bool → List Nat → Prop
  | nil {l : Array Bool} : Region.ready .any ops l = [] → ValidO ops l []
  | cons {l : Array Bool} {i : Nat} {σ : List Nat} : i ∈ Region.ready .any ops l → ValidO ops (l.setIfInBounds i true) σ → ValidO ops l (i :: σ)

theorem any_valid {P : Program} {ops : Array Oper} {Q : Exit → Act → World → Prop} : ∀ (σ : List Nat) (f : Nat) (l : Array Bool) (a : Act) (w : World), ValidO ops l σ → wpAny P .any ops Q f l a w → wpOps P ops Q σ a w
  | [], 0, _, _, _, _, h => h.2
  | [], f + 1, _, _, _, .nil hr, h => h.1 hr
  | i :: σ, 0, _, _, _, .cons hi _, h => by rw [h.1] at hi; cases hi
  | i :: σ, f + 1, l, a, w, .cons hi hv, h => by
    rw [wpOps_cons]
    exact wpOp_mono (fun a w h => any_valid σ f _ a w hv h) (h.2 i hi)

theorem valid_go {ops : List Oper} : ∀ (f t : Nat) (l : Array Bool), l.size = ops.length → (List.range ops.length).countP (fun j => l.getD j false) + f = ops.length →
    ValidO ops.toArray l (Region.linearise.go .any ops.toArray f t l [])
  | 0, t, l, hs, hc => by
    have hall : ∀ j, j < ops.length → l.getD j false = true := by
      have : (List.range ops.length).countP (fun j => l.getD j false) = (List.range ops.length).length := by rw [List.length_range]; omega
      rw [List.countP_eq_length] at this
      exact fun j hj => this j (List.mem_range.2 hj)
    refine .nil (List.eq_nil_iff_forall_not_mem.2 fun i hi => ?_)
    obtain ⟨h1, o, h2, _⟩ := mem_ready.1 hi
    have hlt : i < ops.length := by simpa using (Array.getElem?_eq_some_iff.1 h2).1
    have h3 := getD_both h1
    rw [hall i hlt] at h3; cases h3
  | f + 1, t, l, hs, hc => by
    simp only [Region.linearise.go]
    change ValidO ops.toArray l (match (Region.ready .any ops.toArray l)[t % (Region.ready .any ops.toArray l).length]? with
      | some i => Region.linearise.go .any ops.toArray f (t / (Region.ready .any ops.toArray l).length) (l.setIfInBounds i true) [i]
      | none => [].reverse)
    cases hi : (Region.ready .any ops.toArray l)[t % (Region.ready .any ops.toArray l).length]? with
    | none =>
      refine .nil ?_
      cases hr : Region.ready .any ops.toArray l with
      | nil => rfl
      | cons x xs =>
        rw [hr] at hi
        have hlt : t % (x :: xs).length < (x :: xs).length := Nat.mod_lt _ (by simp)
        simp at hi
        simp at hlt
        omega
    | some i =>
      simp only []
      rw [linearise_go_acc, List.reverse_singleton, List.singleton_append]
      have hm := List.mem_of_getElem? hi
      obtain ⟨h1, o, h2, _⟩ := mem_ready.1 hm
      have hlt : i < ops.length := by simpa using (Array.getElem?_eq_some_iff.1 h2).1
      refine .cons hm (valid_go f _ _ (by simpa using hs) ?_)
      have := countP_set (p := fun j => l.getD j false) (p' := fun j => (l.setIfInBounds i true).getD j false) (i := i) (List.nodup_range (n := ops.length)) (List.mem_range.2 hlt) (getD_both h1) (fun j => by
        rw [getD_set_i false (by omega)]
        by_cases h : j = i
        · subst h; simp
        · rw [if_neg h]
          have : (j == i) = false := by simpa using h
          rw [this, Bool.or_false])
      omega

theorem valid_lt {ops : List Oper} {l : Array Bool} {σ : List Nat} (h : ValidO ops.toArray l σ) : ∀ i ∈ σ, i < ops.length := by
  induction h with
  | nil => intro i hi; cases hi
  | cons hi _ ih =>
    intro j hj
    rcases List.mem_cons.1 hj with rfl | hj
    · obtain ⟨_, o, h2, _⟩ := mem_ready.1 hi
      simpa using (Array.getElem?_eq_some_iff.1 h2).1
    · exact ih j hj

/-! Which orders the effects come in. -/
def covB (A E : List Nat) (pls : List (List Nat)) : Nat → List Nat → Bool
  | 0, run => (E.all fun e => run.contains e) && pls.contains run
  | f + 1, run => bif (E.all fun e => run.contains e) then pls.contains run else E.all fun i => run.contains i || (E.any fun e => (A.getD i 0).testBit e && !run.contains e) || covB A E pls f (run ++ [i])

theorem cov_sound {ops : List Oper} {A E : List Nat} {pls : List (List Nat)} (hA : ∀ i j, (A.getD i 0).testBit j = true → Anc ops i j) (hE : ∀ e ∈ E, e < ops.length)
    (topo : ∀ (i : Nat) o, ops[i]? = some o → ∀ e ∈ o.after, Region.binds .any e = true → e.on < i) :
    ∀ (σ : List Nat) (l : Array Bool) (f : Nat) (run : List Nat), l.size = ops.length → (∀ (j : Nat) oj, ops[j]? = some oj → l.getD j false = true → ∀ e ∈ oj.after, Region.binds .any e = true → l.getD e.on false = true) →
      (∀ e ∈ E, l.getD e false = true ↔ e ∈ run) → ValidO ops.toArray l σ → covB A E pls f run = true → run ++ σ.filter (fun i => E.contains i) ∈ pls
  | [], l, f, run, hs, hcl, hr, .nil hnil, hc => by
    have hall : ∀ (j : Nat), j < ops.length → l.getD j false = true := by
      intro j
      induction j using Nat.strongRecOn with
      | ind j ih =>
        intro hj
        obtain ⟨o, ho⟩ : ∃ o, ops[j]? = some o := ⟨_, List.getElem?_eq_getElem hj⟩
        apply Classical.byContradiction
        intro hn
        have hn' : l.getD j false = false := by simpa using hn
        have : j ∈ Region.ready .any ops.toArray l := mem_ready.2 ⟨getD_in (by omega) hn', o, by simpa using ho, fun e he hb => ih e.on (topo j o ho e he hb) (by have := topo j o ho e he hb; omega)⟩
        rw [hnil] at this; cases this
    have hE' : (E.all fun e => run.contains e) = true := List.all_eq_true.2 fun e he => by
      have := (hr e he).1 (hall e (hE e he))
      simpa using this
    rw [List.filter_nil, List.append_nil]
    cases f with
    | zero => simp only [covB, hE', Bool.true_and] at hc; simpa using hc
    | succ f => simp only [covB, hE', cond_true] at hc; simpa using hc
  | i :: σ, l, f, run, hs, hcl, hr, .cons hi hv, hc => by
    obtain ⟨h1, o, h2, hd⟩ := mem_ready.1 hi
    have ho : ops[i]? = some o := by simpa using h2
    have hlt := (List.getElem?_eq_some_iff.1 ho).1
    have hcl' : ∀ (j : Nat) oj, ops[j]? = some oj → (l.setIfInBounds i true).getD j false = true → ∀ e ∈ oj.after, Region.binds .any e = true → (l.setIfInBounds i true).getD e.on false = true := by
      intro j oj hj hlj e he hb
      rw [getD_set_i false (by omega)] at hlj ⊢
      by_cases hji : j = i
      · subst hji
        rw [ho] at hj
        obtain rfl := Option.some.inj hj
        rw [hd e he hb]; simp
      · rw [if_neg hji] at hlj
        rw [hcl j oj hj hlj e he hb]; simp
    by_cases hiE : i ∈ E
    · have hnr : i ∉ run := fun h => by
        have := (hr i hiE).2 h
        rw [getD_both h1] at this; cases this
      have hE' : (E.all fun e => run.contains e) = false := by
        apply Bool.eq_false_iff.2
        intro h
        have := List.all_eq_true.1 h i hiE
        exact hnr (by simpa using this)
      rw [List.filter_cons_of_pos (by simpa using hiE)]
      cases f with
      | zero => simp only [covB, hE', Bool.false_and] at hc; cases hc
      | succ f =>
        simp only [covB, hE', cond_false] at hc
        have h3 := List.all_eq_true.1 hc i hiE
        simp only [Bool.or_eq_true, List.any_eq_true, Bool.and_eq_true, Bool.not_eq_true', List.contains_iff_mem] at h3
        rcases h3 with (h3 | ⟨e, h3, h4, h5⟩) | h3
        · exact absurd h3 hnr
        · have := anc_listed (listed := l) hcl (hA i e h4) (fun o' ho' e' he' hb' => by
            rw [ho] at ho'; obtain rfl := Option.some.inj ho'; exact hd e' he' hb')
          have := (hr e h3).1 this
          have h6 : run.contains e = true := by simpa using this
          rw [h6] at h5; cases h5
        · have := cov_sound hA hE topo σ (l.setIfInBounds i true) f (run ++ [i]) (by simpa using hs) hcl' (fun e he => by
            rw [getD_set_i false (by omega)]
            by_cases hei : e = i
            · subst hei; simp
            · rw [if_neg hei, hr e he]; simp [hei]) hv h3
          rw [List.append_assoc] at this
          exact this
    · rw [List.filter_cons_of_neg (by simpa using hiE)]
      refine cov_sound hA hE topo σ (l.setIfInBounds i true) f run (by simpa using hs) hcl' (fun e he => ?_) hv hc
      rw [getD_set_i false (by omega), if_neg (fun h : e = i => hiE (h ▸ he))]
      exact hr e he

theorem prevOf_at : ∀ {es : List Nat} {i x : Nat}, prevOf es i = some x → ∃ l r, es = l ++ x :: i :: r
  | [], _, _, h => by simp [prevOf] at h
  | [_], _, _, h => by simp [prevOf] at h
  | a :: b :: es, i, x, h => by
    simp only [prevOf] at h
    cases hb : Nat.beq b i with
    | true =>
      rw [hb, cond_true] at h
      have := Nat.eq_of_beq_eq_true hb
      subst this
      obtain rfl := Option.some.inj h
      exact ⟨[], es, rfl⟩
    | false =>
      rw [hb, cond_false] at h
      obtain ⟨l, r, e⟩ := prevOf_at h
      exact ⟨a :: l, r, by rw [e]; rfl⟩

/-- An order in which the effects come just so is one of the renamed region. -/
theorem valid_ren {ops : List Oper} {ord es E : List Nat} (ok : PermOk ops.length ord) (topo : ∀ (i : Nat) o, ops[i]? = some o → ∀ e ∈ o.after, Region.binds .any e = true → e.on < i)
    (hnd : es.Nodup) (hsub : ∀ e ∈ es, e ∈ E) : ∀ (σ : List Nat) (l l' : Array Bool) (run : List Nat), l.size = ops.length → l'.size = ops.length → (∀ j, j < ops.length → l'.getD (posOf ord j) false = l.getD j false) →
      (∀ e ∈ E, e ∈ run → l.getD e false = true) → es = run ++ σ.filter (fun i => E.contains i) → ValidO ops.toArray l σ → ValidO (permO ops ord es).toArray l' (σ.map (posOf ord))
  | [], l, l', run, hs, hs', hl, hr, he, .nil hnil => by
    refine .nil (List.eq_nil_iff_forall_not_mem.2 fun j hj => ?_)
    obtain ⟨h1, o', h2, hd⟩ := mem_ready.1 hj
    obtain ⟨i, o, ho, hp, rfl⟩ := permO_inv ok (by simpa using h2)
    have hi := (List.getElem?_eq_some_iff.1 ho).1
    have : i ∈ Region.ready .any ops.toArray l := mem_ready.2 ⟨getD_in (by omega) (by rw [← hl i hi, hp]; exact getD_both h1), o, by simpa using ho, fun e he hb => by
      have h3 := hd (renE ord e) (by simp only [renO, Array.mem_append, Array.mem_map]; exact .inl ⟨e, he, rfl⟩) hb
      have h4 := topo i o ho e he hb
      rw [← hl e.on (by omega)]; exact h3⟩
    rw [hnil] at this; cases this
  | i :: σ, l, l', run, hs, hs', hl, hr, he, .cons hi hv => by
    obtain ⟨h1, o, h2, hd⟩ := mem_ready.1 hi
    have ho : ops[i]? = some o := by simpa using h2
    have hlt := (List.getElem?_eq_some_iff.1 ho).1
    have hpl := ok.lt i hlt
    have hl' : ∀ j, j < ops.length → (l'.setIfInBounds (posOf ord i) true).getD (posOf ord j) false = (l.setIfInBounds i true).getD j false := fun j hj => by
      rw [getD_set_i false (by omega), getD_set_i false (by omega)]
      by_cases hji : j = i
      · subst hji; simp
      · have : posOf ord j ≠ posOf ord i := fun h => hji (by
          have h3 := ok.at_ j hj
          rw [h, ok.at_ i hlt] at h3
          exact (Option.some.inj h3).symm)
        rw [if_neg hji, if_neg this, hl j hj]
    have hready : posOf ord i ∈ Region.ready .any (permO ops ord es).toArray l' := by
      refine mem_ready.2 ⟨getD_in (by omega) (by rw [hl i hlt]; exact getD_both h1), renO ord es i o, by simpa using permO_at ok ho, fun e hm hb => ?_⟩
      simp only [renO, Array.mem_append, Array.mem_map] at hm
      rcases hm with ⟨e0, hm, rfl⟩ | hm
      · have h4 := topo i o ho e0 hm hb
        show l'.getD (posOf ord e0.on) false = true
        rw [hl e0.on (by omega)]; exact hd e0 hm hb
      · unfold preE at hm
        cases hp : prevOf es i with
        | none => rw [hp] at hm; simp at hm
        | some x =>
          rw [hp] at hm
          simp only [List.mem_toArray, List.mem_cons, List.not_mem_nil, or_false] at hm
          subst hm
          show l'.getD (posOf ord x) false = true
          obtain ⟨p, q, hpq⟩ := prevOf_at hp
          have hiE : i ∈ E := hsub i (by rw [hpq]; simp)
          have hxE : x ∈ E := hsub x (by rw [hpq]; simp)
          rw [List.filter_cons_of_pos (by simpa using hiE)] at he
          -- the same list, cut at i twice
          have hnd1 := hnd
          rw [he] at hnd1
          have hnr : i ∉ run := fun h => by
            have := (List.nodup_append.1 hnd1).2.2 i h i (by simp)
            exact this rfl
          have hnp : i ∉ p ++ [x] := fun h => by
            have hnd2 := hnd
            rw [hpq, show p ++ x :: i :: q = (p ++ [x]) ++ i :: q by simp] at hnd2
            exact (List.nodup_append.1 hnd2).2.2 i h i (by simp) rfl
          have hcut : ∀ (a b c d : List Nat), a ++ i :: b = c ++ i :: d → i ∉ a → i ∉ c → a = c := by
            intro a
            induction a with
            | nil =>
              intro b c d h _ hc
              cases c with
              | nil => rfl
              | cons y c => simp at h; exact absurd h.1 (fun e => hc (by simp [← e]))
            | cons z a ih =>
              intro b c d h ha hc
              cases c with
              | nil => simp at h; exact absurd h.1.symm (fun e => ha (by simp [← e]))
              | cons y c =>
                simp only [List.cons_append, List.cons.injEq] at h
                rw [h.1, ih b c d h.2 (fun e => ha (by simp [e])) (fun e => hc (by simp [e]))]
          have hrun : run = p ++ [x] := hcut run _ (p ++ [x]) q (by rw [← he, hpq]; simp) hnr hnp
          have hlx := hr x hxE (by rw [hrun]; simp)
          have hxl : x < ops.length := by
            rcases Nat.lt_or_ge x ops.length with h | h
            · exact h
            · rw [Array.getD_eq_getD_getElem?, Array.getElem?_eq_none (by omega)] at hlx; cases hlx
          rw [hl x hxl]; exact hlx
    rw [List.map_cons]
    by_cases hiE : i ∈ E
    · rw [List.filter_cons_of_pos (by simpa using hiE)] at he
      exact .cons hready (valid_ren ok topo hnd hsub σ _ _ (run ++ [i]) (by simpa using hs) (by simpa using hs') hl' (fun e heE hm => by
        rw [getD_set_i false (by omega)]
        by_cases hei : e = i
        · rw [if_pos hei]
        · rw [if_neg hei]
          refine hr e heE ?_
          rcases List.mem_append.1 hm with h | h
          · exact h
          · simp at h; exact absurd h hei) (by rw [he]; simp) hv)
    · rw [List.filter_cons_of_neg (by simpa using hiE)] at he
      exact .cons hready (valid_ren ok topo hnd hsub σ _ _ run (by simpa using hs) (by simpa using hs') hl' (fun e heE hm => by
        rw [getD_set_i false (by omega)]
        by_cases hei : e = i
        · rw [if_pos hei]
        · rw [if_neg hei]; exact hr e heE hm) he hv)

/-- A region that draws its order: what draw_game comes to. -/
theorem drawE_any {P : Program} {n0 : Nat} {ops : List Oper} {Q : Exit → St → Prop} {fr : List S} {H : Heap} (es lo hi : List Nat) (hB : drawE ops es lo hi = true) (hn : n0 ≤ H.length)
    (h : Dw P ops lo hi (Q .normal) ops 0 es [H] [] fr) {E : Env} {ρ : Nat → Place} {a : Act} {w : World} (hE : E.Ok) (hs : Sim E ρ ⟨fr, H⟩ a w) :
    wpAny P .any ops.toArray (post n0 E ρ Q) ops.length (Array.replicate ops.length false) a { w with drawn := w.drawn + 1 } := by
  have ok := drawE_ok hB
  obtain ⟨vals, hp, Vs, h1, _, h2⟩ := dw_tr (E := es.length) ops 0 es [H] [] fr (by simp) (by simp; omega) h
  have h0 : hp 0 = H := by
    have := h1 0 (by simp)
    simpa using this.symm
  obtain ⟨hst, hend⟩ := tr_each ok (fr0 := fr) ops 0 0 fr (fun j => by rw [Nat.zero_add]) (by simp) (Nat.zero_le _) (fun m e _ => by omega) ⟨rfl, fun _ _ => rfl, fun j o t _ hd => by simp at hd⟩ (by simpa using h2)
  exact draw_game (P := P) (n0 := n0) (Q := Q) ok (fun j o ho => hst j o (Nat.zero_le _) ho) hend hE ops.length 0 ρ (Array.replicate ops.length false) fr a { w with drawn := w.drawn + 1 } (by
      have : (List.range ops.length).countP (fun j => (Array.replicate ops.length false).getD j false) = 0 := by
        rw [List.countP_eq_zero]
        intro j _
        rw [getD_replicate_false]; simp
      rw [this]; simp)
    ⟨by simp, fun j oj _ hl => (by rw [getD_replicate_false] at hl; cases hl), fun t ht ht' => by simp at ht ht'; omega⟩ (Nat.zero_le _)
    (fun m e _ => by rw [getD_replicate_false]; simp)
    ⟨rfl, fun _ _ => rfl, fun j o t _ hd => by rw [getD_replicate_false] at hd; cases hd⟩ (by rw [h0]; exact hn) ⟨by rw [h0]; exact hs.fr, by rw [h0]; exact hs.heap.drew _⟩

/-- One order of the effects: the order of the walk, the effects by their numbers, and by their places in the walk, and what may come between which. -/
structure Plan where
  ord : List Nat
  es : List Nat
  es2 : List Nat
  lo : List Nat
  hi : List Nat
def planB (ops : List Oper) (E : List Nat) (p : Plan) : Bool :=
  permB ops.length p.ord && drawE (permO ops p.ord p.es) p.es2 p.lo p.hi && decide p.es.Nodup && (p.es.all fun e => E.contains e)
def multiB (ops : List Oper) (E : List Nat) (pls : List Plan) : Bool :=
  topoE ops && (E.all fun e => decide (e < ops.length)) && covB (ancs ops []) E (pls.map Plan.es) E.length [] && pls.all (planB ops E)
def plansDw (P : Program) (ops : List Oper) (Q : St → Prop) (H : Heap) (fr : List S) : List Plan → Prop
  | [] => True
  | p :: r => Dw P (permO ops p.ord p.es) p.lo p.hi Q (permO ops p.ord p.es) 0 p.es2 [H] [] fr ∧ plansDw P ops Q H fr r
theorem plans_at {P : Program} {ops : List Oper} {Q : St → Prop} {H : Heap} {fr : List S} : ∀ {pls : List Plan}, plansDw P ops Q H fr pls → ∀ p ∈ pls, Dw P (permO ops p.ord p.es) p.lo p.hi Q (permO ops p.ord p.es) 0 p.es2 [H] [] fr
  | [], _, p, hp => by cases hp
  | q :: r, h, p, hp => by
    rcases List.mem_cons.1 hp with rfl | hp
    · exact h.1
    · exact plans_at h.2 p hp
theorem awp_drawM {P : Program} {n0 id : Nat} {ops : Array Oper} {Q : Exit → St → Prop} {fr : List S} {H : Heap} (E : List Nat) (pls : List Plan) (hm : P.follows .mixedOrders = true) (hB : multiB ops.toList E pls = true) (hn : n0 ≤ H.length)
    (h : plansDw P ops.toList (Q .normal) H fr pls) : AWp P n0 (.region id ops true) Q ⟨fr, H⟩ := by
  intro En ρ a w hE hs
  simp only [multiB, Bool.and_eq_true] at hB
  obtain ⟨⟨⟨hT, hEl⟩, hC⟩, hP⟩ := hB
  obtain ⟨ops⟩ := ops
  simp only at hT hEl hC hP h ⊢
  have topo : ∀ (i : Nat) o, ops[i]? = some o → ∀ e ∈ o.after, Region.binds .any e = true → e.on < i := fun i o ho e he hb => by
    have := List.all_eq_true.1 hT i (List.mem_range.2 (List.getElem?_eq_some_iff.1 ho).1)
    rw [ho] at this
    have := Array.all_eq_true'.1 this e he
    simp only [hb, Bool.not_true, Bool.false_or, decide_eq_true_eq] at this
    exact this
  have hA : ∀ i j, ((ancs ops []).getD i 0).testBit j = true → Anc ops i j := ancs_spec ops [] (fun j => by simp) (fun i j hb => by simp at hb)
  refine wp_region_draw fun t => ?_
  simp only [Region.schedule, hm, Bool.true_or, if_true]
  have hv : ValidO ops.toArray (Array.replicate ops.length false) (Region.linearise .any ops.toArray t) := by
    show ValidO ops.toArray _ (Region.linearise.go .any ops.toArray ops.toArray.size t (Array.replicate ops.toArray.size false) [])
    rw [show ops.toArray.size = ops.length by simp]
    refine valid_go _ _ _ (by simp) ?_
    have : (List.range ops.length).countP (fun j => (Array.replicate ops.length false).getD j false) = 0 := by
      rw [List.countP_eq_zero]
      intro j _
      rw [getD_replicate_false]; simp
    rw [this]; simp
  generalize Region.linearise .any ops.toArray t = σ at hv ⊢
  have hlt := valid_lt hv
  have hcov := cov_sound (pls := pls.map Plan.es) (E := E) hA (fun e he => by simpa using List.all_eq_true.1 hEl e he) topo σ _ E.length [] (by simp) (fun j oj _ hl => (by rw [getD_replicate_false] at hl; cases hl))
    (fun e _ => by rw [getD_replicate_false]; simp) hv hC
  rw [List.nil_append] at hcov
  obtain ⟨p, hp, he⟩ := List.mem_map.1 hcov
  have hpB := List.all_eq_true.1 hP p hp
  simp only [planB, Bool.and_eq_true, decide_eq_true_eq] at hpB
  obtain ⟨⟨⟨h1, h2⟩, h3⟩, h4⟩ := hpB
  have ok := permB_ok h1
  have hany := drawE_any (n0 := n0) (Q := Q) p.es2 p.lo p.hi h2 hn (plans_at h p hp) hE hs
  refine wpOps_ren ok σ _ _ hlt (any_valid _ _ _ _ _ ?_ hany)
  refine valid_ren (E := E) ok topo h3 (fun e he => by simpa using List.all_eq_true.1 h4 e he) σ (Array.replicate ops.length false) _ [] (by simp) (by simp [permO_len, ok.len]) (fun j _ => by rw [getD_replicate_false, getD_replicate_false]) (fun e _ hm => by cases hm) (by rw [List.nil_append]; exact he) hv
/-! Effects in a region, the memory told plainly behind each. -/
section
variable {P : Program} {N : Nat} {al : List (Nat × S)} {H H1 H2 : Heap} {ops r : List Oper} {q : St → Prop} {op : Op} {oty : TypeId} {ops_ : String} {oaf : Array Edge} {d j w : Nat} {want : Bool} {oj : Oper} {s : S}
variable {lo hi : List Nat} {i : Nat} {rem : List Nat} {hist : List Heap} {pend : List (Nat × Heap)}
theorem De2 (h : ∀ K : S → Heap → Prop, K s H1 → ostep P ⟨some d, op, oty, ops_, oaf, none⟩ (frm N al) H K) (k : Dw P ops lo hi q r (i + 1) rem (H2 :: H :: hist) pend (frm N ((d, s) :: al))) (hH : H1 = H2 := by first | (simp only [List.set_cons_zero, List.set_cons_succ, List.cons_append, List.nil_append, List.append_nil, kill]; done) | (simp only [List.set_cons_zero, List.set_cons_succ, List.cons_append, List.nil_append, List.append_nil, kill]; exact rfl) | exact rfl) (hp : pendOk pend (hist.length + 1) H2 := by repeat' (first | exact trivial | exact sub_one rfl | refine And.intro ?_ ?_)) : Dw P ops lo hi q (⟨some d, op, oty, ops_, oaf, none⟩ :: r) i (i :: rem) (H :: hist) pend (frm N al) := by
  subst hH; exact De (h _ ⟨hp, k⟩)
theorem De20 (h : ∀ K : S → Heap → Prop, K s H1 → ostep P ⟨none, op, oty, ops_, oaf, none⟩ (frm N al) H K) (k : Dw P ops lo hi q r (i + 1) rem (H2 :: H :: hist) pend (frm N al)) (hH : H1 = H2 := by first | (simp only [List.set_cons_zero, List.set_cons_succ, List.cons_append, List.nil_append, List.append_nil, kill]; done) | (simp only [List.set_cons_zero, List.set_cons_succ, List.cons_append, List.nil_append, List.append_nil, kill]; exact rfl) | exact rfl) (hp : pendOk pend (hist.length + 1) H2 := by repeat' (first | exact trivial | exact sub_one rfl | refine And.intro ?_ ?_)) : Dw P ops lo hi q (⟨none, op, oty, ops_, oaf, none⟩ :: r) i (i :: rem) (H :: hist) pend (frm N al) := by
  subst hH; exact De0 (h _ ⟨hp, k⟩)
theorem De2g (h : ∀ K : S → Heap → Prop, K s H1 → ostep P ⟨some d, op, oty, ops_, oaf, some (j, want)⟩ (frm N al) H K) (k : Dw P ops lo hi q r (i + 1) rem (H2 :: H :: hist) pend (frm N ((d, s) :: al))) (hH : H1 = H2 := by first | (simp only [List.set_cons_zero, List.set_cons_succ, List.cons_append, List.nil_append, List.append_nil, kill]; done) | (simp only [List.set_cons_zero, List.set_cons_succ, List.cons_append, List.nil_append, List.append_nil, kill]; exact rfl) | exact rfl) (hp : pendOk pend (hist.length + 1) H2 := by repeat' (first | exact trivial | exact sub_one rfl | refine And.intro ?_ ?_)) (hj : ops[j]? = some oj := by exact rfl) (hjd : oj.dst = some w := by exact rfl) (hv : lkpB N al w = .v (.c (.bool want)) := by first | exact rfl | exact congrArg (fun b => S.v (V.c (Cell.bool b))) (by assumption) | exact congrArg (fun b => S.v (V.c (Cell.bool b))) (decide_eq_true (by assumption)) | exact congrArg (fun b => S.v (V.c (Cell.bool b))) (decide_eq_false (by assumption))) : Dw P ops lo hi q (⟨some d, op, oty, ops_, oaf, some (j, want)⟩ :: r) i (i :: rem) (H :: hist) pend (frm N al) := by
  subst hH; exact Deg (h _ ⟨hp, k⟩) hj hjd hv
theorem DSpg (p : Nat) {cs : List Cell}
    (_hp : H[p]? = some (some cs)) (h : ∀ V' : Heap, V'[p]? = some (some cs) → ostep P ⟨some d, op, oty, ops_, oaf, some (j, want)⟩ (frm N al) V' fun s' H' => s' = s ∧ H' = V')
    (k : Dw P ops lo hi q r (i + 1) rem (H :: hist) ((hi.getD i 0, one p cs) :: pend) (frm N ((d, s) :: al))) (hne : (rem.head? == some i) = false := by exact rfl)
    (hs : seen (one p cs) ((H :: hist).take ((hist.length + 1) - lo.getD i 0)) := by repeat' (first | exact trivial | exact sub_one rfl | refine And.intro ?_ ?_)) (hj : ops[j]? = some oj := by exact rfl) (hjd : oj.dst = some w := by exact rfl) (hv : lkpB N al w = .v (.c (.bool want)) := by first | exact rfl | exact congrArg (fun b => S.v (V.c (Cell.bool b))) (by assumption) | exact congrArg (fun b => S.v (V.c (Cell.bool b))) (decide_eq_true (by assumption)) | exact congrArg (fun b => S.v (V.c (Cell.bool b))) (decide_eq_false (by assumption))) : Dw P ops lo hi q (⟨some d, op, oty, ops_, oaf, some (j, want)⟩ :: r) i rem (H :: hist) pend (frm N al) :=
  dR p rfl (tkg rfl hj hjd hv) hne hs h k
theorem G2 (h : ∀ K : S → Heap → Prop, K s H1 → ostep P ⟨some d, op, oty, ops_, oaf, none⟩ (frm N al) H K) (k : aops P ops q r ⟨frm N ((d, s) :: al), H2⟩) (hH : H1 = H2 := by first | (simp only [List.set_cons_zero, List.set_cons_succ, List.cons_append, List.nil_append, List.append_nil, kill]; done) | (simp only [List.set_cons_zero, List.set_cons_succ, List.cons_append, List.nil_append, List.append_nil, kill]; exact rfl) | exact rfl) : aops P ops q (⟨some d, op, oty, ops_, oaf, none⟩ :: r) ⟨frm N al, H⟩ := by
  subst hH; exact G (h _ k)
theorem G20 (h : ∀ K : S → Heap → Prop, K s H1 → ostep P ⟨none, op, oty, ops_, oaf, none⟩ (frm N al) H K) (k : aops P ops q r ⟨frm N al, H2⟩) (hH : H1 = H2 := by first | (simp only [List.set_cons_zero, List.set_cons_succ, List.cons_append, List.nil_append, List.append_nil, kill]; done) | (simp only [List.set_cons_zero, List.set_cons_succ, List.cons_append, List.nil_append, List.append_nil, kill]; exact rfl) | exact rfl) : aops P ops q (⟨none, op, oty, ops_, oaf, none⟩ :: r) ⟨frm N al, H⟩ := by
  subst hH; exact G0 (h _ k)
theorem G2g (h : ∀ K : S → Heap → Prop, K s H1 → ostep P ⟨some d, op, oty, ops_, oaf, some (j, want)⟩ (frm N al) H K) (k : aops P ops q r ⟨frm N ((d, s) :: al), H2⟩) (hH : H1 = H2 := by first | (simp only [List.set_cons_zero, List.set_cons_succ, List.cons_append, List.nil_append, List.append_nil, kill]; done) | (simp only [List.set_cons_zero, List.set_cons_succ, List.cons_append, List.nil_append, List.append_nil, kill]; exact rfl) | exact rfl) (hj : ops[j]? = some oj := by exact rfl) (hjd : oj.dst = some w := by exact rfl) (hv : lkpB N al w = .v (.c (.bool want)) := by first | exact rfl | exact congrArg (fun b => S.v (V.c (Cell.bool b))) (by assumption) | exact congrArg (fun b => S.v (V.c (Cell.bool b))) (decide_eq_true (by assumption)) | exact congrArg (fun b => S.v (V.c (Cell.bool b))) (decide_eq_false (by assumption))) : aops P ops q (⟨some d, op, oty, ops_, oaf, some (j, want)⟩ :: r) ⟨frm N al, H⟩ := by
  subst hH; exact Gg (h _ k) hj hjd hv
end
section
variable {P : Program} {n N id : Nat} {Q : Exit → St → Prop} {ops : Array Oper} {al : List (Nat × S)} {H H' : Heap}
theorem rdm (E : List Nat) (pls : List Plan) (h : plansDw P ops.toList (Q .normal) H' (frm N al) pls) (hH : H = H' := by first | (simp only [List.set_cons_zero, List.set_cons_succ, List.cons_append, List.nil_append, List.append_nil]; done) | (simp only [List.set_cons_zero, List.set_cons_succ, List.cons_append, List.nil_append, List.append_nil]; exact rfl) | exact rfl) (hn : Nat.ble n H'.length = true := by exact rfl) (hm : P.follows .mixedOrders = true := by exact rfl) (hB : multiB ops.toList E pls = true := by decide +kernel) : AWp P n (.region id ops true) Q ⟨frm N al, H⟩ := by
  subst hH; exact awp_drawM E pls hm hB (Nat.le_of_ble_eq_true hn) h
end
/-! More operations. -/
section
variable {P : Program} {fr : List S} {H : Heap} {K : S → Heap → Prop} {od : Option Nat} {oty : TypeId} {ops_ : String} {oaf : Array Edge} {ogu : Option (Nat × Bool)} {t u : TypeId} {ti : TI} {a b : Operand}
theorem q_negi {x : Int} (h : K (sc (ci (-x))) H) (hx : ev fr a = sc (ci x) := by first | exact et rfl | exact rfl) (hb : -9223372036854775807 ≤ x ∧ x ≤ 9223372036854775807 := by omega) : ostep P ⟨od, .unOp .neg t a, oty, ops_, oaf, ogu⟩ fr H K := by
  simp only [ostep, pstep, hx]
  rw [wi64 (by omega), show (0 : Int) - x = -x by omega]
  exact h
theorem q_pad15 {n : Nat} [iht : TiOf P t ti] (h : K (sc (cn ((16 - n % 16) % 16))) H) (hx : ev fr a = sc (ci (-(n : Int))) := by first | exact et rfl | exact rfl) (hy : ev fr b = sc (cn 15) := by first | exact et rfl | exact rfl) : ostep P ⟨od, .binOp .and t a b u, oty, ops_, oaf, ogu⟩ fr H K := by
  refine binI rfl iht.h hx hy ?_
  simp only [binC, shiftv, arithv, true_and]
  have e : (BitVec.ofInt IntKind.i64.bits (-(n : Int)) &&& BitVec.ofInt IntKind.i64.bits ((15 : Nat) : Int)).toNat = (16 - n % 16) % 16 := by
    rw [BitVec.toNat_and, show (BitVec.ofInt IntKind.i64.bits ((15 : Nat) : Int)).toNat = 2 ^ 4 - 1 from rfl, Nat.and_two_pow_sub_one_eq_mod, BitVec.toNat_ofInt, show IntKind.i64.bits = 64 from rfl]
    omega
  rw [e, wi64 (by omega)]
  exact h
/-- A call by way of a variable that holds a function that keeps nothing: it makes a block. -/
theorem q_callfn {F : Operand} {k m : Nat} {args : Array Operand} {ats : Array TypeId} {v s : S} {cs : List Cell} {args' : List V} (hg : Good P k args' [] v [some cs]) (h : K s (H ++ [some cs])) (hf : ev fr F = sc (.fn k []) := by first | exact et rfl | exact rfl) (ha : CA fr H [] true args.toList args') (hm : H.length = m := by first | exact hlen0 | exact hlen1 | (simp only [List.length_append, List.length_set, List.length_cons, List.length_nil, Nat.zero_add, Nat.reduceAdd]; done) | (simp only [List.length_append, List.length_set, List.length_cons, List.length_nil, Nat.zero_add, Nat.reduceAdd]; exact rfl))
    (hcs : cs.map (cm (cout [] true m) 8) = cs := by first | exact sees_m | exact rfl) (e3 : sm (cm (cout [] true m) 8) v = s := by first | exact rs_int | exact rs_new | exact rs_nils | exact rfl) : ostep P ⟨od, .call ⟨.value F, args, ats⟩, oty, ops_, oaf, ogu⟩ fr H K := by
  subst hm
  obtain ⟨avs, h1, h2⟩ := ha
  exact r_call [] true rfl hf h1 List.nodup_nil (by simp) (by simpa using h2) rfl hg e3 (by rw [back_nil]; simp [picks, hcs]) h
end
end Go.Abs

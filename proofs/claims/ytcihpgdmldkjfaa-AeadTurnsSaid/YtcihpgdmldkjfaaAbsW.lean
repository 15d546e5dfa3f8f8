/- The abstract machine: frames as lists of what was put; how a walk goes on. -/
import Derived.Test.YtcihpgdmldkjfaaAbsV
import Derived.ScopeJumps
import Derived.LoopN
namespace Go.Abs
open Go

/-- What was put last into a slot. -/
def lkp : List (Nat × S) → Nat → S
  | [], _ => ud
  | (i, s) :: r, t => bif Nat.beq i t then s else lkp r t
def lkpB (N : Nat) (al : List (Nat × S)) (t : Nat) : S := bif Nat.blt t N then lkp al t else ud
def frm (N : Nat) (al : List (Nat × S)) : List S := (List.range N).map (lkp al)

theorem frm_length (N : Nat) (al : List (Nat × S)) : (frm N al).length = N := by simp [frm]
theorem frm_get {N : Nat} {al : List (Nat × S)} {t : Nat} (h : t < N) : (frm N al)[t]? = some (lkp al t) := by
  simp [frm, h]
theorem frm_ext {N : Nat} {al al' : List (Nat × S)} (h : ∀ t, t < N → lkp al t = lkp al' t) : frm N al = frm N al' := by
  apply List.ext_getElem?
  intro t
  by_cases ht : t < N
  · rw [frm_get ht, frm_get ht, h t ht]
  · rw [List.getElem?_eq_none (by rw [frm_length]; omega), List.getElem?_eq_none (by rw [frm_length]; omega)]

theorem et {N : Nat} {al : List (Nat × S)} {t : Nat} {s : S} (h : lkpB N al t = s) : ev (frm N al) (.tmp t) = s := by
  subst h
  show ((frm N al)[t]?).getD ud = lkpB N al t
  unfold lkpB
  cases hb : Nat.blt t N with
  | true =>
    have : t < N := by simpa [Nat.blt_eq] using hb
    rw [frm_get this]; rfl
  | false =>
    have : ¬ t < N := by
      intro h
      rw [← Nat.blt_eq] at h
      rw [h] at hb; cases hb
    rw [List.getElem?_eq_none (by rw [frm_length]; omega)]; rfl

theorem put_frm (N : Nat) (al : List (Nat × S)) (d : Nat) (s : S) : put (frm N al) (some d) s = frm N ((d, s) :: al) := by
  apply List.ext_getElem?
  intro t
  simp only [put, List.getElem?_set]
  by_cases ht : t < N
  · rw [frm_get ht, frm_get ht]
    by_cases hd : d = t
    · subst hd
      rw [if_pos rfl, if_pos (by rw [frm_length]; exact ht)]
      simp [lkp]
    · rw [if_neg hd]
      have : Nat.beq d t = false := by
        cases h : Nat.beq d t with
        | false => rfl
        | true => exact absurd (Nat.eq_of_beq_eq_true h) hd
      simp [lkp, this]
  · have h2 : (frm N ((d, s) :: al))[t]? = none := List.getElem?_eq_none (by rw [frm_length]; omega)
    rw [h2]
    by_cases hd : d = t
    · subst hd
      rw [if_pos rfl, if_neg (by rw [frm_length]; exact ht)]
    · rw [if_neg hd, List.getElem?_eq_none (by rw [frm_length]; omega)]

/-- The frame at a call's begin. -/
def args0 : Nat → List V → List (Nat × S)
  | _, [] => []
  | i, x :: r => (i, .v x) :: args0 (i + 1) r
theorem lkp_args0 : ∀ (l : List V) (i t : Nat), lkp (args0 i l) t = if i ≤ t then ((l[t - i]?).map S.v).getD ud else ud
  | [], i, t => by simp [args0, lkp]
  | x :: r, i, t => by
    simp only [args0, lkp]
    cases hb : Nat.beq i t with
    | true =>
      have := Nat.eq_of_beq_eq_true hb
      subst this
      simp
    | false =>
      have hne : i ≠ t := fun h => by subst h; rw [Nat.beq_refl] at hb; cases hb
      rw [cond_false, lkp_args0 r (i + 1) t]
      by_cases h : i ≤ t
      · rw [if_pos (by omega), if_pos h, show t - i = (t - (i + 1)) + 1 by omega]; simp
      · rw [if_neg (by omega), if_neg h]
theorem frm_args {N : Nat} {l : List V} (h : l.length ≤ N) : l.map S.v ++ List.replicate (N - l.length) ud = frm N (args0 0 l) := by
  apply List.ext_getElem?
  intro t
  by_cases ht : t < N
  · rw [frm_get ht, lkp_args0, if_pos (Nat.zero_le _)]
    by_cases hl : t < l.length
    · rw [List.getElem?_append_left (by simpa using hl)]
      simp [hl]
    · rw [List.getElem?_append_right (by simp; omega), List.getElem?_replicate, List.length_map, if_pos (by omega)]
      rw [Nat.sub_zero, List.getElem?_eq_none (by omega)]; rfl
  · rw [List.getElem?_eq_none (by simp; omega), List.getElem?_eq_none (by rw [frm_length]; omega)]

theorem good_frm {P : Program} {k : FuncId} {fn : Func} {c : Code} {args : List V} {H H' : Heap} {v : S} {n : Nat} (N : Nat) (hf : P.funcs[k]? = some fn) (hb : fn.body = some c) (hN : fn.ntmps = N)
    (ha : Nat.ble args.length N = true) (hn : H.length = n) (hl : Nat.ble n H'.length = true) (hnm : (fn.name == "runtime.NumGoroutine") = false)
    (h : AWp P n c (ended P fn n v H') ⟨frm N (args0 0 args), H⟩) : Good P k args H v H' := by
  subst hN
  exact good_of_body hf hb (Nat.le_of_ble_eq_true ha) (frm_args (Nat.le_of_ble_eq_true ha)) hn (Nat.le_of_ble_eq_true hl) hnm h

section
variable {P : Program} {n N : Nat} {Q : Exit → St → Prop} {al al' : List (Nat × S)} {H H' : Heap} {ops r : List Oper} {q : St → Prop} {o : Oper}

/-! One operation ahead. -/
theorem guard_frm {j t : Nat} {b : Bool} {oj : Oper} (hj : ops[j]? = some oj) (hjd : oj.dst = some t) (hv : lkpB N al t = .v (.c (.bool b))) : guardOf ops (frm N al) j = some (some b) := by
  have hlt : t < N := by
    unfold lkpB at hv
    cases hb : Nat.blt t N with
    | true => simpa [Nat.blt_eq] using hb
    | false => rw [hb] at hv; simp [ud] at hv
  have hv' : lkp al t = .v (.c (.bool b)) := by
    unfold lkpB at hv
    rwa [show Nat.blt t N = true by simpa [Nat.blt_eq] using hlt] at hv
  simp [guardOf, hj, hjd, frm_get hlt, hv']
theorem guard_frm_us {j t : Nat} {oj : Oper} (hj : ops[j]? = some oj) (hjd : oj.dst = some t) (hv : lkpB N al t = us) : guardOf ops (frm N al) j = some none := by
  have hlt : t < N := by
    unfold lkpB at hv
    cases hb : Nat.blt t N with
    | true => simpa [Nat.blt_eq] using hb
    | false => rw [hb] at hv; simp [ud, us] at hv
  have hv' : lkp al t = .t [] := by
    unfold lkpB at hv
    rwa [show Nat.blt t N = true by simpa [Nat.blt_eq] using hlt] at hv
  simp [guardOf, hj, hjd, frm_get hlt, hv']
/-- Is this one carried out? -/
def Taken (ops : List Oper) (N : Nat) (al : List (Nat × S)) (o : Oper) : Prop := o.guard = none ∨ ∃ j want, o.guard = some (j, want) ∧ guardOf ops (frm N al) j = some (some want)
def Skipped (ops : List Oper) (N : Nat) (al : List (Nat × S)) (o : Oper) : Prop := ∃ j want b, o.guard = some (j, want) ∧ guardOf ops (frm N al) j = some b ∧ b ≠ some want
theorem tk (h : o.guard = none) : Taken ops N al o := .inl h
theorem tkg {j t : Nat} {want : Bool} {oj : Oper} (hg : o.guard = some (j, want)) (hj : ops[j]? = some oj) (hjd : oj.dst = some t) (hv : lkpB N al t = .v (.c (.bool want))) : Taken ops N al o := .inr ⟨j, want, hg, guard_frm hj hjd hv⟩
theorem sk {j t : Nat} {want b : Bool} {oj : Oper} (hg : o.guard = some (j, want)) (hj : ops[j]? = some oj) (hjd : oj.dst = some t) (hv : lkpB N al t = .v (.c (.bool b))) (hne : b ≠ want) : Skipped ops N al o := ⟨j, want, some b, hg, guard_frm hj hjd hv, fun h => hne (Option.some.inj h)⟩
theorem sku {j t : Nat} {want : Bool} {oj : Oper} (hg : o.guard = some (j, want)) (hj : ops[j]? = some oj) (hjd : oj.dst = some t) (hv : lkpB N al t = us) : Skipped ops N al o := ⟨j, want, none, hg, guard_frm_us hj hjd hv, by simp⟩

theorem g1 {d : Nat} (hd : o.dst = some d) (hg : Taken ops N al o) (h : ostep P o (frm N al) H fun s H' => aops P ops q r ⟨frm N ((d, s) :: al), H'⟩) : aops P ops q (o :: r) ⟨frm N al, H⟩ := by
  rcases hg with hg | ⟨j, want, hg, hb⟩
  · simp only [aops, hg, hd, put_frm]; exact h
  · simp only [aops, hg, hb, hd, put_frm]; exact ⟨fun _ => h, fun hne => absurd rfl hne⟩
theorem g0 (hd : o.dst = none) (hg : Taken ops N al o) (h : ostep P o (frm N al) H fun _ H' => aops P ops q r ⟨frm N al, H'⟩) : aops P ops q (o :: r) ⟨frm N al, H⟩ := by
  rcases hg with hg | ⟨j, want, hg, hb⟩
  · simp only [aops, hg, hd]; exact h
  · simp only [aops, hg, hb, hd]; exact ⟨fun _ => h, fun hne => absurd rfl hne⟩
/-- One that is not carried out. -/
theorem gS {d : Nat} (hd : o.dst = some d) (hg : Skipped ops N al o) (h : aops P ops q r ⟨frm N ((d, us) :: al), H⟩) : aops P ops q (o :: r) ⟨frm N al, H⟩ := by
  obtain ⟨j, want, b, hg, hb, hne⟩ := hg
  simp only [aops, hg, hb, hd, put_frm]
  exact ⟨fun he => absurd he hne, fun _ => h⟩
theorem gend {st : St} (h : q st) : aops P ops q [] st := h

/-! The same in a region that draws its order: an operation without memory; one that looks at a block; an effect. -/
section
variable {lo hi : List Nat} {i : Nat} {rem : List Nat} {hist : List Heap} {pend : List (Nat × Heap)}
theorem dP {d : Nat} {s : S} (hd : o.dst = some d) (hg : Taken ops N al o) (hne : (rem.head? == some i) = false) (h : ∀ V', ostep P o (frm N al) V' fun s' H' => s' = s ∧ H' = V')
    (k : Dw P ops lo hi q r (i + 1) rem hist pend (frm N ((d, s) :: al))) : Dw P ops lo hi q (o :: r) i rem hist pend (frm N al) := by
  have hne' : ¬ rem.head? = some i := fun e => by rw [e] at hne; simp at hne
  simp only [Dw, if_neg hne']
  refine ⟨[], s, pend, .inr ⟨rfl, rfl⟩, ?_, ?_, by rw [hd, put_frm]; exact k⟩
  · have : ∀ l : List Heap, seen [] l := by
      intro l
      induction l with
      | nil => trivial
      | cons x r ih => exact ⟨fun p cs h => by simp at h, ih⟩
    exact this _
  · rcases hg with hg | ⟨j, want, hg, hb⟩
    · simp only [hg]; exact fun V' _ => h V'
    · simp only [hg]; exact ⟨some want, hb, fun _ V' _ => h V', fun hn => absurd rfl hn⟩
/-- One block. -/
def one (p : Nat) (cs : List Cell) : Heap := List.replicate p none ++ [some cs]
theorem one_get {p q : Nat} {cs ds : List Cell} (h : (one p cs)[q]? = some (some ds)) : q = p ∧ ds = cs := by
  unfold one at h
  by_cases hq : q < p
  · rw [List.getElem?_append_left (by simpa using hq), List.getElem?_replicate, if_pos hq] at h; simp at h
  · rw [List.getElem?_append_right (by simpa using hq)] at h
    simp only [List.length_replicate] at h
    by_cases h0 : q - p = 0
    · rw [h0] at h; simp at h; exact ⟨by omega, h.symm⟩
    · rw [List.getElem?_eq_none (by simp; omega)] at h; simp at h
theorem sub_one {p : Nat} {cs : List Cell} {H : Heap} (h : H[p]? = some (some cs)) : Sub (one p cs) H := fun q ds hq => by
  obtain ⟨rfl, rfl⟩ := one_get hq; exact h
theorem one_at {p : Nat} {cs : List Cell} {V' : Heap} (h : Sub (one p cs) V') : V'[p]? = some (some cs) := h p cs (by simp [one])
theorem dR {d : Nat} {s : S} (p : Nat) {cs : List Cell} (hd : o.dst = some d) (hg : Taken ops N al o) (hne : (rem.head? == some i) = false) (hs : seen (one p cs) (hist.take (hist.length - lo.getD i 0))) (h : ∀ V' : Heap, V'[p]? = some (some cs) → ostep P o (frm N al) V' fun s' H' => s' = s ∧ H' = V')
    (k : Dw P ops lo hi q r (i + 1) rem hist ((hi.getD i 0, one p cs) :: pend) (frm N ((d, s) :: al))) : Dw P ops lo hi q (o :: r) i rem hist pend (frm N al) := by
  have hne' : ¬ rem.head? = some i := fun e => by rw [e] at hne; simp at hne
  simp only [Dw, if_neg hne']
  refine ⟨one p cs, s, _, .inl rfl, hs, ?_, by rw [hd, put_frm]; exact k⟩
  rcases hg with hg | ⟨j, want, hg, hb⟩
  · simp only [hg]; exact fun V' hV => h V' (one_at hV)
  · simp only [hg]; exact ⟨some want, hb, fun _ V' hV => h V' (one_at hV), fun hn => absurd rfl hn⟩
theorem dE {d : Nat} (hd : o.dst = some d) (hg : Taken ops N al o) (h : ostep P o (frm N al) H fun s H' => pendOk pend (hist.length + 1) H' ∧ Dw P ops lo hi q r (i + 1) rem (H' :: H :: hist) pend (frm N ((d, s) :: al))) :
    Dw P ops lo hi q (o :: r) i (i :: rem) (H :: hist) pend (frm N al) := by
  simp only [Dw, List.head?_cons, if_true, List.headD_cons, List.tail_cons]
  rcases hg with hg | ⟨j, want, hg, hb⟩
  · simp only [hg, hd, put_frm]; exact h
  · simp only [hg, hd, put_frm]; exact ⟨some want, hb, fun _ => h, fun hn => absurd rfl hn⟩
theorem dE0 (hd : o.dst = none) (hg : Taken ops N al o) (h : ostep P o (frm N al) H fun _ H' => pendOk pend (hist.length + 1) H' ∧ Dw P ops lo hi q r (i + 1) rem (H' :: H :: hist) pend (frm N al)) :
    Dw P ops lo hi q (o :: r) i (i :: rem) (H :: hist) pend (frm N al) := by
  simp only [Dw, List.head?_cons, if_true, List.headD_cons, List.tail_cons]
  rcases hg with hg | ⟨j, want, hg, hb⟩
  · simp only [hg, hd]; exact h
  · simp only [hg, hd]; exact ⟨some want, hb, fun _ => h, fun hn => absurd rfl hn⟩
/-- One that only looks is not carried out. -/
theorem dN {d : Nat} (hd : o.dst = some d) (hg : Skipped ops N al o) (hne : (rem.head? == some i) = false) (k : Dw P ops lo hi q r (i + 1) rem hist pend (frm N ((d, us) :: al))) : Dw P ops lo hi q (o :: r) i rem hist pend (frm N al) := by
  have hne' : ¬ rem.head? = some i := fun e => by rw [e] at hne; simp at hne
  obtain ⟨j, want, b, hg, hb, hbw⟩ := hg
  simp only [Dw, if_neg hne', hg]
  refine ⟨[], us, pend, .inr ⟨rfl, rfl⟩, ?_, ⟨b, hb, fun he => absurd he hbw, fun _ => rfl⟩, by rw [hd, put_frm]; exact k⟩
  have : ∀ l : List Heap, seen [] l := by
    intro l
    induction l with
    | nil => trivial
    | cons x r ih => exact ⟨fun p cs h => by simp at h, ih⟩
  exact this _
/-- An effect that does not come. -/
theorem dM {d : Nat} (hd : o.dst = some d) (hg : Skipped ops N al o) (hp : pendOk pend (hist.length + 1) H) (k : Dw P ops lo hi q r (i + 1) rem (H :: H :: hist) pend (frm N ((d, us) :: al))) : Dw P ops lo hi q (o :: r) i (i :: rem) (H :: hist) pend (frm N al) := by
  obtain ⟨j, want, b, hg, hb, hbw⟩ := hg
  simp only [Dw, List.head?_cons, if_true, List.headD_cons, List.tail_cons, hg]
  exact ⟨b, hb, fun he => absurd he hbw, fun _ => ⟨hp, by rw [hd, put_frm]; exact k⟩⟩
theorem dend {fr : List S} (h : q ⟨fr, H⟩) : Dw P ops lo hi q [] i [] (H :: hist) pend fr := ⟨rfl, h⟩
end

/-! Less is told. -/
def SubL (al : List (Nat × S)) : List (Nat × S) → Prop
  | [] => True
  | (t, s) :: r => lkp al t = s ∧ SubL al r
theorem sub_get : ∀ {al' : List (Nat × S)}, SubL al al' → ∀ t, lkp al' t = ud ∨ lkp al' t = lkp al t
  | [], _, _ => .inl rfl
  | (i, s) :: r, h, t => by
    simp only [SubL] at h
    simp only [lkp]
    cases hb : Nat.beq i t with
    | true =>
      have := Nat.eq_of_beq_eq_true hb
      subst this
      exact .inr (by rw [cond_true]; exact h.1.symm)
    | false => rw [cond_false]; exact sub_get h.2 t

/-- As a frame says: less of it, and memory looked at under other numbers. -/
theorem sle_view (π : List Nat) (hn : ∀ p, p < n → π[p]? = some p) (hnd : π.Nodup)
    (hf : SubL (al.map fun x => (x.1, sm (cm ⟨fun p => idx p π, fun _ => none, true, false⟩ 8) x.2)) al')
    (hH : H' = π.map (pick H (cm ⟨fun p => idx p π, fun _ => none, true, false⟩ 8))) : SLe n ⟨frm N al, H⟩ ⟨frm N al', H'⟩ := by
  have hl : ∀ (f : Cell → Cell) (al : List (Nat × S)) t, lkp al t = ud ∨ lkp (al.map fun x => (x.1, sm f x.2)) t = sm f (lkp al t) := by
    intro f al t
    induction al with
    | nil => exact .inl rfl
    | cons x r ih =>
      obtain ⟨i, s⟩ := x
      simp only [List.map_cons, lkp]
      cases Nat.beq i t with
      | true => exact .inr rfl
      | false => exact ih
  have hl0 : ∀ (f : Cell → Cell) (al : List (Nat × S)) t, lkp al t = ud → lkp (al.map fun x => (x.1, sm f x.2)) t = ud ∨ lkp (al.map fun x => (x.1, sm f x.2)) t = sm f ud := by
    intro f al t h
    induction al with
    | nil => exact .inl rfl
    | cons x r ih =>
      obtain ⟨i, s⟩ := x
      simp only [List.map_cons, lkp] at h ⊢
      cases hb : Nat.beq i t with
      | true => rw [hb, cond_true] at h; rw [h]; exact .inr rfl
      | false => rw [hb, cond_false] at h; exact ih h
  intro E ρ a w hs
  obtain ⟨ρ', h1, h2⟩ := SLe.view (n := n) (st := ⟨frm N al, H⟩) π (List.range N) hn hnd E ρ a w hs
  refine ⟨ρ', h1, ?_, ?_⟩
  · refine ⟨h2.fr.1, ?_, fun t s ht => ?_⟩
    · rw [frm_length]
      have := hs.fr.2.1
      rw [frm_length] at this
      exact this
    · have hlt : t < N := by
        have := (List.getElem?_eq_some_iff.1 ht).1
        rwa [frm_length] at this
      rw [frm_get hlt] at ht
      obtain rfl := Option.some.inj ht
      have hv : (Abs.view π (List.range N) ⟨frm N al, H⟩).fr[t]? = some (sm (cm ⟨fun p => idx p π, fun _ => none, true, false⟩ 8) (lkp al t)) := by
        show (vwF _ (List.range N) 0 (frm N al))[t]? = _
        rw [vwF_keep _ _ _ 0 t (by simpa using hlt), frm_get hlt]; rfl
      obtain ⟨v, k1, k2⟩ := h2.fr.2.2 t _ hv
      refine ⟨v, k1, ?_⟩
      have hlen : (Abs.view π (List.range N) ⟨frm N al, H⟩).H.length = H'.length := by rw [hH]; rfl
      rw [hlen] at k2
      show SRel (E.rl H'.length ρ') (lkp al' t) v
      rcases sub_get hf t with h | h
      · rw [h]; simp [ud, SRel, VRel, CRel]
      · rw [h]
        rcases hl (cm ⟨fun p => idx p π, fun _ => none, true, false⟩ 8) al t with g | g
        · rcases hl0 (cm ⟨fun p => idx p π, fun _ => none, true, false⟩ 8) al t g with g' | g'
          · rw [g']; simp [ud, SRel, VRel, CRel]
          · rw [g']; rw [g] at k2; exact k2
        · rw [g]; exact k2
  · have : (Abs.view π (List.range N) ⟨frm N al, H⟩).H = H' := by rw [hH]; rfl
    rw [← this]; exact h2.heap

theorem sle_sub (hf : SubL al al') (hH : H = H') : SLe n ⟨frm N al, H⟩ ⟨frm N al', H'⟩ := by
  subst hH
  intro E ρ a w hs
  refine ⟨ρ, fun _ _ => rfl, ⟨hs.fr.1, by rw [frm_length]; have := hs.fr.2.1; rwa [frm_length] at this, fun t s ht => ?_⟩, hs.heap⟩
  have hlt : t < N := by
    have := (List.getElem?_eq_some_iff.1 ht).1
    rwa [frm_length] at this
  rw [frm_get hlt] at ht
  obtain rfl := Option.some.inj ht
  obtain ⟨v, k1, k2⟩ := hs.fr.2.2 t _ (frm_get hlt)
  refine ⟨v, k1, ?_⟩
  rcases sub_get hf t with h | h
  · rw [h]; simp [ud, SRel, VRel, CRel]
  · rw [h]; exact k2

/-! Control. -/
theorem awp_c {c : Operand} {x y : Code} {st : St} {p : Prop} [Decidable p] (hc : ev st.fr c = .v (.c (.bool (decide p)))) (h1 : p → AWp P n x Q st) (h2 : ¬ p → AWp P n y Q st) : AWp P n (.cond c x y) Q st :=
  awp_cond hc (fun h => h1 (by simpa using h)) (fun h => h2 (by simpa using h))
theorem awp_cb {c : Operand} {x y : Code} {st : St} {b : Bool} (hc : ev st.fr c = .v (.c (.bool b))) (h1 : b = true → AWp P n x Q st) (h2 : b = false → AWp P n y Q st) : AWp P n (.cond c x y) Q st :=
  awp_cond hc h1 h2
theorem awp_ct {c : Operand} {x y : Code} {st : St} (hc : ev st.fr c = .v (.c (.bool true))) (h1 : AWp P n x Q st) : AWp P n (.cond c x y) Q st :=
  awp_cond hc (fun _ => h1) (fun h => by cases h)
theorem awp_cf {c : Operand} {x y : Code} {st : St} (hc : ev st.fr c = .v (.c (.bool false))) (h2 : AWp P n y Q st) : AWp P n (.cond c x y) Q st :=
  awp_cond hc (fun h => by cases h) (fun _ => h2)

/-- Ways meet again. -/
theorem awp_cut {α : Type} {x y : Code} {st : St} (I : α → St) (h1 : AWp P n x (then_ (fun s => ∃ a, SLe n s (I a)) Q) st) (h2 : ∀ a, AWp P n y Q (I a)) : AWp P n (.seq x y) Q st := by
  refine awp_seq (AWp.mono h1 ?_)
  intro e s h
  cases e with
  | normal =>
    obtain ⟨a, ha⟩ := h
    exact awp_le ha (h2 a)
  | _ => exact h

theorem awp_label {l : Nat} {st : St} (h : Q .normal st) : AWp P n (.label l) Q st := fun _ ρ _ _ _ hs => wp_label ⟨st, ρ, h, fun _ _ => rfl, hs⟩
theorem awp_goto {l : Nat} {st : St} (h : Q (.goto l) st) : AWp P n (.goto l) Q st := fun _ ρ _ _ _ hs => wp_goto ⟨st, ρ, h, fun _ _ => rfl, hs⟩
def jump_ (l : Nat) (J : St → Prop) (Q : Exit → St → Prop) : Exit → St → Prop
  | .goto l', s => l' = l ∧ J s
  | e, s => Q e s
/-- A scope with jumps forward to one label. -/
theorem awp_scope {c rest : Code} {st : St} (l : Nat) (J : St → Prop) (hl : findLabel c l = some rest) (h : AWp P n c (jump_ l J Q) st) (hJ : ∀ s, J s → AWp P n rest (jump_ l (fun _ => False) Q) s) : AWp P n (.scope c) Q st := by
  intro E ρ a w hE hs
  refine wp_scope_jumps l (fun a' w' => ∃ s ρ', J s ∧ (∀ p, p < n → ρ' p = ρ p) ∧ Sim E ρ' s a' w') (fun _ _ => 0) hl ?_ ?_
  · refine wp_mono (h E ρ a w hE hs) ?_
    rintro e a' w' ⟨s, ρ', k1, k2, k3⟩
    cases e with
    | goto l' => exact ⟨k1.1, s, ρ', k1.2, k2, k3⟩
    | _ => exact ⟨s, ρ', k1, k2, k3⟩
  · rintro a w ⟨s, ρ', k1, k2, k3⟩
    refine wp_mono (hJ s k1 E ρ' a w hE k3) ?_
    rintro e a' w' ⟨s', ρ'', l1, l2, l3⟩
    cases e with
    | goto l' => exact l1.2.elim
    | _ => exact ⟨s', ρ'', l1, fun p hp => (l2 p hp).trans (k2 p hp), l3⟩

/-- A loop of so many rounds at most, one after the other. -/
def arounds (P : Program) (n : Nat) (c : Code) (Q : Exit → St → Prop) : Nat → St → Prop
  | 0, _ => False
  | m + 1, st => AWp P n c (then_ (arounds P n c Q m) Q) st
theorem awp_rounds {c : Code} {st : St} (m : Nat) (h : arounds P n c Q m st) : AWp P n (.loop c) Q st := by
  have key : ∀ (m : Nat) (st : St) (E : Env) (ρ : Nat → Place) (a : Act) (w : World), E.Ok → arounds P n c Q m st → Sim E ρ st a w → Code.rounds P c (post n E ρ Q) m a w := by
    intro m
    induction m with
    | zero => intro st E ρ a w _ h _; exact h.elim
    | succ m ih =>
      intro st E ρ a w hE h hs
      rw [rounds_succ]
      refine wp_mono (h E ρ a w hE hs) ?_
      rintro e a' w' ⟨s, ρ', h1, h2, h3⟩
      cases e with
      | normal =>
        have := ih s E ρ' a' w' hE h1 h3
        rw [post_trans h2] at this
        exact this
      | _ => exact ⟨s, ρ', h1, h2, h3⟩
  exact fun E ρ a w hE hs => wp_loop_rounds m (key m st E ρ a w hE h hs)
end
end Go.Abs

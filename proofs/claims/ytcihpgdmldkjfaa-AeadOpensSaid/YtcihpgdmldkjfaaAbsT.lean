/- The abstract machine: a region that draws its order, whatever order is drawn. -/
import Derived.Test.YtcihpgdmldkjfaaAbsS
namespace Go.Abs
open Go

theorem getD_set_i {l : Array Bool} {i j : Nat} (d : Bool) (hi : i < l.size) : (l.setIfInBounds i true).getD j d = if j = i then true else l.getD j d := by
  simp only [Array.getD_eq_getD_getElem?]
  by_cases h : j = i
  · subst h; simp [hi]
  · rw [if_neg h, Array.getElem?_setIfInBounds_ne (fun e => h e.symm)]

/-- A memory that tells no more. -/
def Sub (V H : Heap) : Prop := ∀ (p : Nat) cs, V[p]? = some (some cs) → H[p]? = some (some cs)

def EStep (P : Program) (ops : List Oper) (o : Oper) (fr : List S) (H : Heap) (s : S) (H' : Heap) : Prop :=
  match o.guard with
  | none => OpG P o (rst (reads o) fr) H s H'
  | some (j, want) => ∃ b, guardOf ops fr j = some b ∧ (b = some want → OpG P o (rst (reads o) fr) H s H') ∧ (b ≠ some want → s = us ∧ H' = H)
def RStep (P : Program) (ops : List Oper) (o : Oper) (fr : List S) (V : Heap) (s : S) : Prop :=
  match o.guard with
  | none => ∀ V', Sub V V' → OpG P o (rst (reads o) fr) V' s V'
  | some (j, want) => ∃ b, guardOf ops fr j = some b ∧ (b = some want → ∀ V', Sub V V' → OpG P o (rst (reads o) fr) V' s V') ∧ (b ≠ some want → s = us)

/-- What a region comes to in the text's order: values, memories, what was looked at. -/
def Tr (P : Program) (ops : List Oper) (E : Nat) (lo hi : List Nat) (vals : Nat → S) (hp Vs : Nat → Heap) (Q : St → Prop) : List Oper → Nat → List Nat → Nat → List S → Prop
  | [], _, rem, k, fr => rem = [] ∧ Q ⟨fr, hp k⟩
  | o :: r, i, rem, k, fr =>
    if rem.head? = some i then EStep P ops o fr (hp k) (vals i) (hp (k + 1)) ∧ Tr P ops E lo hi vals hp Vs Q r (i + 1) rem.tail (k + 1) (put fr o.dst (vals i))
    else RStep P ops o fr (Vs i) (vals i) ∧ (∀ k', lo.getD i 0 ≤ k' → k' ≤ hi.getD i 0 → k' ≤ E → Sub (Vs i) (hp k')) ∧ Tr P ops E lo hi vals hp Vs Q r (i + 1) rem k (put fr o.dst (vals i))

theorem Tr.congr {P : Program} {ops : List Oper} {E : Nat} {lo hi : List Nat} {hp : Nat → Heap} {vals vals' : Nat → S} {Vs Vs' : Nat → Heap} {Q : St → Prop} : ∀ (l : List Oper) (i : Nat) (rem : List Nat) (k : Nat) (fr : List S),
    (∀ j, i ≤ j → vals j = vals' j ∧ Vs j = Vs' j) → Tr P ops E lo hi vals hp Vs Q l i rem k fr → Tr P ops E lo hi vals' hp Vs' Q l i rem k fr
  | [], _, _, _, _, _, h => h
  | o :: r, i, rem, k, fr, he, h => by
    simp only [Tr] at h ⊢
    rw [← (he i (Nat.le_refl _)).1, ← (he i (Nat.le_refl _)).2]
    split at h
    · rename_i hr; rw [if_pos hr]
      exact ⟨h.1, Tr.congr r (i + 1) _ _ _ (fun j hj => he j (by omega)) h.2⟩
    · rename_i hr; rw [if_neg hr]
      exact ⟨h.1, h.2.1, Tr.congr r (i + 1) _ _ _ (fun j hj => he j (by omega)) h.2.2⟩

def pendOk : List (Nat × Heap) → Nat → Heap → Prop
  | [], _, _ => True
  | (h, V) :: r, m, H => (bif Nat.ble m h then Sub V H else True) ∧ pendOk r m H
theorem pendOk_get : ∀ {l : List (Nat × Heap)} {m : Nat} {H : Heap}, pendOk l m H → ∀ x ∈ l, m ≤ x.1 → Sub x.2 H
  | [], _, _, _, x, hx, _ => by cases hx
  | (h, V) :: r, m, H, hk, x, hx, hm => by
    simp only [pendOk] at hk
    rcases List.mem_cons.1 hx with rfl | hx
    · have : Nat.ble m h = true := by rw [Nat.ble_eq]; exact hm
      rw [this] at hk
      exact hk.1
    · exact pendOk_get hk.2 x hx hm
def seen (V : Heap) : List Heap → Prop
  | [] => True
  | H :: r => Sub V H ∧ seen V r
theorem seen_get {V : Heap} : ∀ {l : List Heap}, seen V l → ∀ H ∈ l, Sub V H
  | [], _, _, h => by cases h
  | H :: r, hs, x, hx => by
    rcases List.mem_cons.1 hx with rfl | hx
    · exact hs.1
    · exact seen_get hs.2 x hx

/-- The walk through a region that draws its order, in the text's order. 'rem': effects still to come; 'hist': memories, the last one first; 'pend': what was looked at, and till which effect. -/
def Dw (P : Program) (ops : List Oper) (lo hi : List Nat) (Q : St → Prop) : List Oper → Nat → List Nat → List Heap → List (Nat × Heap) → List S → Prop
  | [], _, rem, hist, _, fr => rem = [] ∧ Q ⟨fr, hist.headD []⟩
  | o :: r, i, rem, hist, pend, fr =>
    if rem.head? = some i then
      match o.guard with
      | none => ostep P o fr (hist.headD []) fun s H' => pendOk pend hist.length H' ∧ Dw P ops lo hi Q r (i + 1) rem.tail (H' :: hist) pend (put fr o.dst s)
      | some (j, want) => ∃ b, guardOf ops fr j = some b ∧ (b = some want → ostep P o fr (hist.headD []) fun s H' => pendOk pend hist.length H' ∧ Dw P ops lo hi Q r (i + 1) rem.tail (H' :: hist) pend (put fr o.dst s)) ∧
          (b ≠ some want → pendOk pend hist.length (hist.headD []) ∧ Dw P ops lo hi Q r (i + 1) rem.tail (hist.headD [] :: hist) pend (put fr o.dst us))
    else ∃ V s pend', (pend' = (hi.getD i 0, V) :: pend ∨ (pend' = pend ∧ V = [])) ∧ seen V (hist.take (hist.length - lo.getD i 0)) ∧
      (match o.guard with
        | none => ∀ V', Sub V V' → ostep P o fr V' fun s' H' => s' = s ∧ H' = V'
        | some (j, want) => ∃ b, guardOf ops fr j = some b ∧ (b = some want → ∀ V', Sub V V' → ostep P o fr V' fun s' H' => s' = s ∧ H' = V') ∧ (b ≠ some want → s = us)) ∧
      Dw P ops lo hi Q r (i + 1) rem hist pend' (put fr o.dst s)

theorem dw_tr {P : Program} {ops : List Oper} {E : Nat} {lo hi : List Nat} {Q : St → Prop} : ∀ (l : List Oper) (i : Nat) (rem : List Nat) (hist : List Heap) (pend : List (Nat × Heap)) (fr : List S),
    hist ≠ [] → E + 1 = hist.length + rem.length → Dw P ops lo hi Q l i rem hist pend fr →
    ∃ vals hp Vs, (∀ j, j < hist.length → hist[hist.length - 1 - j]? = some (hp j)) ∧ (∀ x ∈ pend, ∀ k', hist.length ≤ k' → k' ≤ x.1 → k' ≤ E → Sub x.2 (hp k')) ∧
      Tr P ops E lo hi vals hp Vs Q l i rem (hist.length - 1) fr
  | [], i, rem, hist, pend, fr, hne, hE, h => by
    obtain ⟨rfl, hq⟩ := h
    have hlen : 0 < hist.length := List.length_pos_iff.2 hne
    refine ⟨fun _ => ud, fun j => (hist[hist.length - 1 - j]?).getD [], fun _ => [], fun j hj => ?_, fun x _ k' h1 _ h3 => ?_, rfl, ?_⟩
    · show _ = some ((hist[hist.length - 1 - j]?).getD [])
      rw [List.getElem?_eq_getElem (by omega)]; rfl
    · simp at hE; omega
    · have : (hist[hist.length - 1 - (hist.length - 1)]?).getD [] = hist.headD [] := by
        rw [Nat.sub_self]; cases hist <;> simp
      show Q ⟨fr, (hist[hist.length - 1 - (hist.length - 1)]?).getD []⟩
      rw [this]; exact hq
  | o :: r, i, rem, hist, pend, fr, hne, hE, h => by
    have hlen : 0 < hist.length := List.length_pos_iff.2 hne
    simp only [Dw] at h
    split at h
    · rename_i hr
      have hrem : rem.length = rem.tail.length + 1 := by cases rem <;> simp at hr ⊢
      have mk : ∀ s H', pendOk pend hist.length H' → EStep P ops o fr (hist.headD []) s H' → Dw P ops lo hi Q r (i + 1) rem.tail (H' :: hist) pend (put fr o.dst s) →
          ∃ vals hp Vs, (∀ j, j < hist.length → hist[hist.length - 1 - j]? = some (hp j)) ∧ (∀ x ∈ pend, ∀ k', hist.length ≤ k' → k' ≤ x.1 → k' ≤ E → Sub x.2 (hp k')) ∧ Tr P ops E lo hi vals hp Vs Q (o :: r) i rem (hist.length - 1) fr := by
        intro s H' hp1 hst hd
        obtain ⟨vals, hp, Vs, k1, k2, k3⟩ := dw_tr (E := E) r (i + 1) rem.tail (H' :: hist) pend _ (by simp) (by rw [List.length_cons]; omega) hd
        have g0 : hp hist.length = H' := by
          have := k1 hist.length (by simp)
          simpa using this.symm
        have g1 : ∀ j, j < hist.length → hist[hist.length - 1 - j]? = some (hp j) := fun j hj => by
          have := k1 j (by rw [List.length_cons]; omega)
          rw [← this, List.length_cons, show hist.length + 1 - 1 - j = (hist.length - 1 - j) + 1 by omega, List.getElem?_cons_succ]
        have g2 : hp (hist.length - 1) = hist.headD [] := by
          have := g1 (hist.length - 1) (by omega)
          rw [Nat.sub_self] at this
          cases hist with
          | nil => simp at hlen
          | cons x y => simp at this ⊢; exact this.symm
        refine ⟨fun j => if j = i then s else vals j, hp, Vs, g1, fun x hx k' h1 h2 h3 => ?_, ?_⟩
        · by_cases hk : k' = hist.length
          · subst hk; rw [g0]; exact pendOk_get hp1 x hx h2
          · exact k2 x hx k' (by rw [List.length_cons]; omega) h2 h3
        · simp only [Tr, if_pos hr, if_true]
          refine ⟨?_, ?_⟩
          · rw [g2, show hist.length - 1 + 1 = hist.length by omega, g0]; exact hst
          · rw [show hist.length - 1 + 1 = hist.length by omega]
            exact Tr.congr r (i + 1) _ _ _ (fun j hj => ⟨by rw [if_neg (by omega)], rfl⟩) (by simpa using k3)
      split at h
      · rename_i hg
        rw [← ostep_rst] at h
        obtain ⟨s, H', h1, h2, h3⟩ := ostep_sound h
        exact mk s H' h2 (by simp only [EStep, hg]; exact h1) h3
      · rename_i j want hg
        obtain ⟨b, hb, h1, h2⟩ := h
        by_cases hbw : b = some want
        · have h' := h1 hbw
          rw [← ostep_rst] at h'
          obtain ⟨s, H', g1, g2, g3⟩ := ostep_sound h'
          exact mk s H' g2 (by simp only [EStep, hg]; exact ⟨b, hb, fun _ => g1, fun hn => absurd hbw hn⟩) g3
        · obtain ⟨g2, g3⟩ := h2 hbw
          exact mk us (hist.headD []) g2 (by simp only [EStep, hg]; exact ⟨b, hb, fun he => absurd he hbw, fun _ => ⟨trivial, trivial⟩⟩) g3
    · rename_i hr
      obtain ⟨V, s, pend', hp', hsn, hst, hd⟩ := h
      have still : ∀ {V' : Heap}, (ostep P o fr V' fun s' H' => s' = s ∧ H' = V') → OpG P o (rst (reads o) fr) V' s V' := fun {V'} h => by
        rw [← ostep_rst] at h
        obtain ⟨s1, H1, g1, rfl, rfl⟩ := ostep_sound h
        exact g1
      obtain ⟨vals, hp, Vs, k1, k2, k3⟩ := dw_tr r (i + 1) rem hist pend' _ hne hE hd
      refine ⟨fun j => if j = i then s else vals j, hp, fun j => if j = i then V else Vs j, k1, fun x hx k' h1 h2 h3 => k2 x (by rcases hp' with rfl | ⟨rfl, _⟩ <;> simp [hx]) k' h1 h2 h3, ?_⟩
      simp only [Tr, if_neg hr, if_true]
      refine ⟨?_, fun k' g1 g2 g3 => ?_, Tr.congr r (i + 1) _ _ _ (fun j hj => ⟨by rw [if_neg (by omega)], by rw [if_neg (by omega)]⟩) k3⟩
      · unfold RStep
        split at hst
        · rename_i hg
          exact fun V' hV => still (hst V' hV)
        · rename_i j want hg
          obtain ⟨b, hb, h1, h2⟩ := hst
          exact ⟨b, hb, fun he V' hV => still (h1 he V' hV), h2⟩
      · by_cases hk : k' < hist.length
        · have hm := k1 k' hk
          have hmem : hp k' ∈ hist.take (hist.length - lo.getD i 0) := by
            rw [List.mem_iff_getElem?]
            exact ⟨hist.length - 1 - k', by rw [List.getElem?_take, if_pos (by omega)]; exact hm⟩
          exact seen_get hsn _ hmem
        · rcases hp' with rfl | ⟨_, rfl⟩
          · exact k2 (hi.getD i 0, V) (by simp) k' (by omega) g2 g3
          · intro p cs h; simp at h

/-- What holds of each operation. -/
theorem tr_each {P : Program} {ops : List Oper} {es lo hi : List Nat} (ok : DrawOk ops es lo hi) {vals : Nat → S} {hp Vs : Nat → Heap} {Q : St → Prop} {fr0 : List S} : ∀ (l : List Oper) (i k : Nat) (fr : List S),
    (∀ j, l[j]? = ops[i + j]?) → i + l.length = ops.length → k ≤ es.length → (∀ (m e : Nat), es[m]? = some e → (e < i ↔ m < k)) → Fits ops ops.length fr0 vals (fun j => decide (j < i)) fr → Tr P ops es.length lo hi vals hp Vs Q l i (es.drop k) k fr →
    (∀ (j : Nat) o, i ≤ j → ops[j]? = some o → ∃ frj, Fits ops ops.length fr0 vals (fun k => decide (k < j)) frj ∧ (∀ m, es[m]? = some j → EStep P ops o frj (hp m) (vals j) (hp (m + 1))) ∧
        (j ∉ es → RStep P ops o frj (Vs j) (vals j) ∧ ∀ k', lo.getD j 0 ≤ k' → k' ≤ hi.getD j 0 → k' ≤ es.length → Sub (Vs j) (hp k'))) ∧
      ∃ frn, Fits ops ops.length fr0 vals (fun k => decide (k < ops.length)) frn ∧ Q ⟨frn, hp es.length⟩
  | [], i, k, fr, hl, hn, hk, hm, hf, h => by
    obtain ⟨h1, h2⟩ := h
    have hi' : i = ops.length := by simpa using hn
    subst hi'
    refine ⟨fun j o h1 h2 => by have := (List.getElem?_eq_some_iff.1 h2).1; omega, fr, hf, ?_⟩
    have hk2 : es.length ≤ k := by
      have := congrArg List.length h1
      simp at this; omega
    rw [show es.length = k by omega]; exact h2
  | o :: r, i, k, fr, hl, hn, hk, hm, hf, h => by
    simp only [List.length_cons] at hn
    have ho : ops[i]? = some o := by
      have := hl 0
      simpa using this.symm
    have hf' : Fits ops ops.length fr0 vals (fun j => decide (j < i + 1)) (put fr o.dst (vals i)) := hf.put ok.uniq (by omega) ho fun j => by simp; omega
    have hl' : ∀ j, r[j]? = ops[i + 1 + j]? := fun j => by
      have := hl (j + 1)
      simp only [List.getElem?_cons_succ] at this
      rw [this, show i + 1 + j = i + (j + 1) by omega]
    simp only [Tr] at h
    by_cases hr : (es.drop k).head? = some i
    · rw [if_pos hr] at h
      have hek : es[k]? = some i := by
        rw [List.head?_drop] at hr; exact hr
      have hklt := (List.getElem?_eq_some_iff.1 hek).1
      have hm' : ∀ (m e : Nat), es[m]? = some e → (e < i + 1 ↔ m < k + 1) := fun m e he => by
        have h1 := hm m e he
        constructor
        · intro hlt
          rcases Nat.lt_or_ge e i with g | g
          · have := h1.1 g; omega
          · have hei : e = i := by omega
            subst hei
            rcases Nat.lt_or_ge m (k + 1) with g2 | g2
            · exact g2
            · exfalso
              have hs : ∀ d, k + d + 1 < es.length → ∀ e', es[k + d + 1]? = some e' → e < e' := by
                intro d
                induction d with
                | zero => intro hd e' he'; exact (ok.chain k e e' hek he').1
                | succ d ih =>
                  intro hd e' he'
                  obtain ⟨e'', hee⟩ : ∃ e'', es[k + d + 1]? = some e'' := ⟨_, List.getElem?_eq_getElem (by omega)⟩
                  have := ih (by omega) e'' hee
                  have := (ok.chain (k + d + 1) e'' e' hee he').1
                  omega
              have hml := (List.getElem?_eq_some_iff.1 he).1
              have := hs (m - k - 1) (by omega) e (by rw [show k + (m - k - 1) + 1 = m by omega]; exact he)
              omega
        · intro hlt
          by_cases hmk : m = k
          · subst hmk; rw [hek] at he; have := Option.some.inj he; omega
          · have := h1.2 (by omega); omega
      have htl : (es.drop k).tail = es.drop (k + 1) := by rw [List.tail_drop]
      rw [htl] at h
      obtain ⟨g1, g2⟩ := tr_each ok r (i + 1) (k + 1) _ hl' (by omega) (by omega) hm' hf' h.2
      refine ⟨fun j oj k1 k2 => ?_, g2⟩
      by_cases hji : j = i
      · subst hji
        rw [ho] at k2
        obtain rfl := Option.some.inj k2
        refine ⟨fr, hf, fun m hme => ?_, fun hne => absurd (List.mem_of_getElem? hek) hne⟩
        have hmk : m = k := by
          have := (hm' m j hme).1 (by omega)
          have h2 := hm m j hme
          rcases Nat.lt_or_ge m k with g | g
          · have := h2.2 g; omega
          · omega
        subst hmk; exact h.1
      · exact g1 j oj (by omega) k2
    · rw [if_neg hr] at h
      have hne : i ∉ es := by
        intro hmem
        obtain ⟨m, hme⟩ := List.mem_iff_getElem?.1 hmem
        have h1 := hm m i hme
        have hmk : k ≤ m := by
          rcases Nat.lt_or_ge m k with g | g
          · have := h1.2 g; omega
          · exact g
        have hml := (List.getElem?_eq_some_iff.1 hme).1
        obtain ⟨e, hek⟩ : ∃ e, es[k]? = some e := ⟨_, List.getElem?_eq_getElem (by omega)⟩
        have hei : i ≤ e := by
          rcases Nat.lt_or_ge e i with g | g
          · have := (hm k e hek).1 g; omega
          · exact g
        by_cases hmk2 : m = k
        · subst hmk2
          apply hr
          rw [List.head?_drop]; exact hme
        · have hs : ∀ d, k + d + 1 < es.length → ∀ e', es[k + d + 1]? = some e' → e < e' := by
            intro d
            induction d with
            | zero => intro hd e' he'; exact (ok.chain k e e' hek he').1
            | succ d ih =>
              intro hd e' he'
              obtain ⟨e'', hee⟩ : ∃ e'', es[k + d + 1]? = some e'' := ⟨_, List.getElem?_eq_getElem (by omega)⟩
              have := ih (by omega) e'' hee
              have := (ok.chain (k + d + 1) e'' e' hee he').1
              omega
          have := hs (m - k - 1) (by omega) i (by rw [show k + (m - k - 1) + 1 = m by omega]; exact hme)
          omega
      have hm' : ∀ (m e : Nat), es[m]? = some e → (e < i + 1 ↔ m < k) := fun m e he => by
        have h1 := hm m e he
        have : e ≠ i := fun h => hne (h ▸ List.mem_of_getElem? he)
        constructor
        · intro hlt; exact h1.1 (by omega)
        · intro hlt; have := h1.2 hlt; omega
      obtain ⟨g1, g2⟩ := tr_each ok r (i + 1) k _ hl' (by omega) hk hm' hf' h.2.2
      refine ⟨fun j oj k1 k2 => ?_, g2⟩
      by_cases hji : j = i
      · subst hji
        rw [ho] at k2
        obtain rfl := Option.some.inj k2
        exact ⟨fr, hf, fun m hme => absurd (List.mem_of_getElem? hme) hne, fun _ => ⟨h.1, h.2.1⟩⟩
      · exact g1 j oj (by omega) k2

theorem opg_opr' {P : Program} {o : Oper} {fr : List S} {H : Heap} {s : S} (h : OpR P o fr H s) : True ∧ ∀ (E : Env) (ρ : Nat → Place) (a : Act) (w : World), E.Ok → Sim E ρ ⟨fr, H⟩ a w →
    ∀ (K : Act → World → Prop) (Q : Exit → Act → World → Prop), (∀ v, SRel (E.rl H.length ρ) s v → K (a.put o.dst v) w) → o.wp P a w K Q := by
  refine ⟨trivial, fun E ρ a w hE hs K Q hK => ?_⟩
  obtain ⟨v, h1, h2⟩ := h E ρ a w hE hs
  unfold Oper.wp
  rw [h1]
  exact hK v h2
theorem anc_listed {ops : List Oper} {listed : Array Bool} (closed : ∀ (j : Nat) oj, ops[j]? = some oj → listed.getD j false = true → ∀ e ∈ oj.after, Region.binds .any e = true → listed.getD e.on false = true) {i j : Nat} (h : Anc ops i j) :
    (∀ o, ops[i]? = some o → ∀ e ∈ o.after, Region.binds .any e = true → listed.getD e.on false = true) → listed.getD j false = true := by
  induction h with
  | one ho he hb => exact fun hd => hd _ ho _ he hb
  | more ho he hb _ ih => exact fun hd => ih fun o' ho' e' he' hb' => closed _ o' ho' (hd _ ho _ he hb) e' he' hb'

section
variable {P : Program} {ops : List Oper} {es lo hi : List Nat} {n0 : Nat} {vals : Nat → S} {hp Vs : Nat → Heap} {fr0 : List S} {Q : Exit → St → Prop}

/-- The post of the real walk. -/
def post (n0 : Nat) (E : Env) (ρ : Nat → Place) (Q : Exit → St → Prop) : Exit → Act → World → Prop :=
  fun e a' w' => ∃ st' ρ', Q e st' ∧ (∀ p, p < n0 → ρ' p = ρ p) ∧ Sim E ρ' st' a' w'

theorem post_trans {E : Env} {ρ ρ' : Nat → Place} (h : ∀ p, p < n0 → ρ' p = ρ p) : post n0 E ρ' Q = post n0 E ρ Q := by
  funext e a w
  apply propext
  constructor
  · rintro ⟨s, r, k1, k2, k3⟩; exact ⟨s, r, k1, fun p hp => (k2 p hp).trans (h p hp), k3⟩
  · rintro ⟨s, r, k1, k2, k3⟩; exact ⟨s, r, k1, fun p hp => (k2 p hp).trans (h p hp).symm, k3⟩

theorem draw_game (ok : DrawOk ops es lo hi)
    (hst : ∀ (j : Nat) o, ops[j]? = some o → ∃ frj, Fits ops ops.length fr0 vals (fun k => decide (k < j)) frj ∧ (∀ m, es[m]? = some j → EStep P ops o frj (hp m) (vals j) (hp (m + 1))) ∧
        (j ∉ es → RStep P ops o frj (Vs j) (vals j) ∧ ∀ k', lo.getD j 0 ≤ k' → k' ≤ hi.getD j 0 → k' ≤ es.length → Sub (Vs j) (hp k')))
    (hend : ∃ frn, Fits ops ops.length fr0 vals (fun k => decide (k < ops.length)) frn ∧ Q .normal ⟨frn, hp es.length⟩) {E : Env} (hE : E.Ok) :
    ∀ (f k : Nat) (ρ : Nat → Place) (listed : Array Bool) (fr : List S) (a : Act) (w : World), (List.range ops.length).countP (fun j => listed.getD j false) + f = ops.length →
      HeadInv .any ops.toArray ops.length listed → k ≤ es.length → (∀ (m e : Nat), es[m]? = some e → (listed.getD e false = true ↔ m < k)) → Fits ops ops.length fr0 vals (fun j => listed.getD j false) fr → n0 ≤ (hp k).length → Sim E ρ ⟨fr, hp k⟩ a w →
      wpAny P .any ops.toArray (post n0 E ρ Q) f listed a w := by
  intro f
  induction f with
  | zero =>
    intro k ρ listed fr a w hc inv hk hm hfit hn0 hs
    have hall : ∀ j, j < ops.length → listed.getD j false = true := by
      have : (List.range ops.length).countP (fun j => listed.getD j false) = (List.range ops.length).length := by rw [List.length_range]; omega
      rw [List.countP_eq_length] at this
      exact fun j hj => this j (List.mem_range.2 hj)
    have hsz : listed.size = ops.length := by simpa using inv.size
    obtain ⟨frn, hfn, hq⟩ := hend
    have hfr : fr = frn := by
      apply List.ext_getElem?
      intro t
      exact hfit.agree hfn fun j o hj _ _ => by rw [hall j hj]; simp [hj]
    subst hfr
    have hke : k = es.length := by
      rcases Nat.lt_or_ge k es.length with hlt | hge
      · exfalso
        obtain ⟨e, he⟩ : ∃ e, es[k]? = some e := ⟨_, List.getElem?_eq_getElem hlt⟩
        have := (hm k e he).1 (hall e (ok.lt k e he))
        omega
      · omega
    subst hke
    refine ⟨?_, ⟨fr, hp es.length⟩, ρ, hq, fun _ _ => rfl, hs⟩
    apply List.eq_nil_iff_forall_not_mem.2
    intro i hi
    obtain ⟨h1, o, h2, _⟩ := mem_ready.1 hi
    have hlt : i < ops.length := by
      have := (Array.getElem?_eq_some_iff.1 h2).1
      simpa using this
    have := hall i hlt
    have h3 := getD_both h1
    rw [this] at h3; cases h3
  | succ f ih =>
    intro k ρ listed fr a w hc inv hk hm hfit hn0 hs
    have hsz : listed.size = ops.length := by simpa using inv.size
    have closed : ∀ (j : Nat) oj, ops[j]? = some oj → listed.getD j false = true → ∀ e ∈ oj.after, Region.binds .any e = true → listed.getD e.on false = true := fun j oj hj hl e he hb => inv.closed j oj (by simpa using hj) hl e he hb
    -- some operation is ready
    have hready : ∀ (d j : Nat), j ≤ d → j < ops.length → listed.getD j false = false → ∃ i, i ∈ Region.ready .any ops.toArray listed := by
      intro d
      induction d with
      | zero =>
        intro j hj hjn hun
        have : j = 0 := by omega
        subst this
        obtain ⟨o, ho⟩ : ∃ o, ops[0]? = some o := ⟨_, List.getElem?_eq_getElem (by omega)⟩
        exact ⟨0, mem_ready.2 ⟨getD_in (by omega) hun, o, by simpa using ho, fun e he hb => by have := ok.topo 0 o ho e he hb; omega⟩⟩
      | succ d ihd =>
        intro j hj hjn hun
        obtain ⟨o, ho⟩ : ∃ o, ops[j]? = some o := ⟨_, List.getElem?_eq_getElem (by omega)⟩
        by_cases hall : ∀ e ∈ o.after, Region.binds .any e = true → listed.getD e.on false = true
        · exact ⟨j, mem_ready.2 ⟨getD_in (by omega) hun, o, by simpa using ho, hall⟩⟩
        · obtain ⟨e, he⟩ := Classical.not_forall.1 hall
          obtain ⟨he1, he⟩ := Classical.not_imp.1 he
          obtain ⟨he2, he3⟩ := Classical.not_imp.1 he
          have hlt := ok.topo j o ho e he1 he2
          exact ihd e.on (by omega) (by omega) (by simpa using he3)
    have hun : ∃ j, j < ops.length ∧ listed.getD j false = false := by
      apply Classical.byContradiction
      intro hno
      have : ∀ j, j < ops.length → listed.getD j false = true := fun j hj => by
        cases hb : listed.getD j false with
        | true => rfl
        | false => exact absurd ⟨j, hj, hb⟩ hno
      have hcc : (List.range ops.length).countP (fun j => listed.getD j false) = (List.range ops.length).length := List.countP_eq_length.2 fun j hj => this j (List.mem_range.1 hj)
      rw [List.length_range] at hcc
      omega
    obtain ⟨j0, hj0, hun0⟩ := hun
    refine ⟨fun hnil => ?_, fun i hrdy => ?_⟩
    · obtain ⟨i, hrdy⟩ := hready j0 j0 (Nat.le_refl _) hj0 hun0
      rw [hnil] at hrdy; cases hrdy
    · obtain ⟨hui, o, ho', hdeps⟩ := mem_ready.1 hrdy
      have ho : ops[i]? = some o := by simpa using ho'
      have hin : i < ops.length := (List.getElem?_eq_some_iff.1 ho).1
      have huif : listed.getD i false = false := getD_both hui
      have hdeps' : ∀ o', ops[i]? = some o' → ∀ e ∈ o'.after, Region.binds .any e = true → listed.getD e.on false = true := fun o' h => by
        rw [ho] at h
        obtain rfl := Option.some.inj h
        exact hdeps
      obtain ⟨frj, hfj, hE1, hR1⟩ := hst i o ho
      -- what it reads is what it reads in the text's order
      have hagree : ∀ t, t ∈ rdsB ops o → fr[t]? = frj[t]? := fun t ht => hfit.agree hfj fun j oj hj hoj hdst => by
        by_cases hji : j = i
        · subst hji
          simp only [Nat.lt_irrefl, decide_false]
          exact huif
        · rcases ok.dep i j o oj t (fun e => hji e.symm) ho hoj hdst ht with ⟨h1, h2⟩ | ⟨h1, h2⟩
          · rw [anc_listed closed h2 hdeps']; simp [h1]
          · cases hlj : listed.getD j false with
            | false => simp; omega
            | true =>
              have := anc_listed closed h2 (fun o' ho'' e he hb => closed j o' ho'' hlj e he hb)
              rw [huif] at this; cases this
      have hsr : Sim E ρ ⟨rst (reads o) frj, hp k⟩ a w := by
        refine ⟨⟨hs.fr.1, ?_, fun t s ht => ?_⟩, hs.heap⟩
        · rw [show (rst (reads o) frj).length = frj.length from vwF_length _ _ _ _, hfj.len, ← hfit.len]; exact hs.fr.2.1
        · obtain ⟨s0, g1, g2⟩ := vwF_get id (reads o) frj 0 t s ht
          rcases g2 with rfl | rfl
          · by_cases hm : t ∈ reads o
            · have h1 : frj[t]? = some s0 := g1
              have h2 := hagree t (by simp [rdsB, hm])
              obtain ⟨v, k1, k2⟩ := hs.fr.2.2 t s0 (by rw [h2]; exact h1)
              exact ⟨v, k1, by rw [sm_id]; exact k2⟩
            · -- not among what is told: the slot is undefined
              have hlt := (List.getElem?_eq_some_iff.1 g1).1
              have hlt2 : t < a.tmps.size := by rw [hs.fr.2.1, hfit.len, ← hfj.len]; exact hlt
              have hnone : (rst (reads o) frj)[t]? = some ud := by
                have : ∀ (l : List S) (i j : Nat), (reads o).contains (i + j) = false → j < l.length → (vwF id (reads o) i l)[j]? = some ud := by
                  intro l
                  induction l with
                  | nil => intro i j _ h; simp at h
                  | cons x r ihl =>
                    intro i j hc hj
                    cases j with
                    | zero =>
                      have : ¬ i ∈ reads o := by simpa using hc
                      simp [vwF, this, ud]
                    | succ j =>
                      simp only [vwF, List.getElem?_cons_succ]
                      exact ihl (i + 1) j (by rw [show i + 1 + j = i + (j + 1) by omega]; exact hc) (by simpa using hj)
                exact this frj 0 t (by simpa using hm) hlt
              rw [hnone] at ht
              refine ⟨a.tmps[t], by simp [hlt2], ?_⟩
              rw [← Option.some.inj ht]
              simp [ud, SRel, VRel, CRel]
          · have hlt := (List.getElem?_eq_some_iff.1 g1).1
            have hlt2 : t < a.tmps.size := by rw [hs.fr.2.1, hfit.len, ← hfj.len]; exact hlt
            exact ⟨a.tmps[t], by simp [hlt2], by simp [SRel, VRel, CRel]⟩
      have inv' := inv.set hrdy hin
      have hD : ∀ j, (listed.setIfInBounds i true).getD j false = true ↔ (listed.getD j false = true ∨ j = i) := fun j => by
        rw [getD_set_i false (by omega)]
        by_cases h : j = i <;> simp [h]
      have hfit' : Fits ops ops.length fr0 vals (fun j => (listed.setIfInBounds i true).getD j false) (put fr o.dst (vals i)) := hfit.put ok.uniq hin ho hD
      have hc' : (List.range ops.length).countP (fun j => (listed.setIfInBounds i true).getD j false) + f = ops.length := by
        have := countP_set (p := fun j => listed.getD j false) (p' := fun j => (listed.setIfInBounds i true).getD j false) (i := i) (List.nodup_range (n := ops.length)) (List.mem_range.2 hin) huif (fun j => by
          rw [getD_set_i false (by omega)]
          by_cases h : j = i
          · subst h; simp
          · rw [if_neg h]
            have : (j == i) = false := by simpa using h
            rw [this, Bool.or_false])
        omega
      have hgd : ∀ (j : Nat) (want : Bool) (b : Option Bool), o.guard = some (j, want) → guardOf ops frj j = some b → yielded ops.toArray a.tmps j = b := fun j want b hg hb => by
        have hb' : guardOf ops fr j = some b := by
          unfold guardOf at hb ⊢
          cases hd : (ops[j]?).bind (·.dst) with
          | none => rw [hd] at hb; simp at hb
          | some d =>
            rw [hd] at hb
            simp only at hb ⊢
            rw [hagree d (by simp [rdsB, hg, hd])]
            exact hb
        exact guardOf_sound hs.fr hb'
      by_cases hmem : i ∈ es
      · -- an effect
        obtain ⟨m, hme⟩ := List.mem_iff_getElem?.1 hmem
        have hmk : m = k := by
          rcases Nat.lt_trichotomy m k with h | h | h
          · have := (hm m i hme).2 h
            rw [huif] at this; cases this
          · exact h
          · exfalso
            have hml := (List.getElem?_eq_some_iff.1 hme).1
            obtain ⟨e, he⟩ : ∃ e, es[m - 1]? = some e := ⟨_, List.getElem?_eq_getElem (by omega)⟩
            have h1 := (ok.chain (m - 1) e i he (by rw [show m - 1 + 1 = m by omega]; exact hme)).2
            have h2 := anc_listed closed h1 hdeps'
            have := (hm (m - 1) e he).1 h2
            omega
        subst hmk
        have hml := (List.getElem?_eq_some_iff.1 hme).1
        have hm' : ∀ (m' e : Nat), es[m']? = some e → ((listed.setIfInBounds i true).getD e false = true ↔ m' < m + 1) := fun m' e he => by
          rw [hD e]
          have hinc : ∀ d p e1, es[p]? = some e1 → ∀ e2, es[p + d + 1]? = some e2 → e1 < e2 := by
            intro d
            induction d with
            | zero => intro p e1 h1 e2 h2; exact (ok.chain p e1 e2 h1 h2).1
            | succ d ihd =>
              intro p e1 h1 e2 h2
              have hl2 := (List.getElem?_eq_some_iff.1 h2).1
              obtain ⟨e3, h3⟩ : ∃ e3, es[p + d + 1]? = some e3 := ⟨_, List.getElem?_eq_getElem (by omega)⟩
              have := ihd p e1 h1 e3 h3
              have := (ok.chain (p + d + 1) e3 e2 h3 h2).1
              omega
          constructor
          · rintro (h | h)
            · have := (hm m' e he).1 h; omega
            · subst h
              rcases Nat.lt_trichotomy m' m with g | g | g
              · omega
              · omega
              · have := hinc (m' - m - 1) m e hme e (by rw [show m + (m' - m - 1) + 1 = m' by omega]; exact he); omega
          · intro h
            by_cases hh : m' = m
            · subst hh; rw [hme] at he; exact .inr (Option.some.inj he).symm
            · exact .inl ((hm m' e he).2 (by omega))
        have next : ∀ (ρ' : Nat → Place) (a' : Act) (w' : World), (∀ p, p < (hp m).length → ρ' p = ρ p) → n0 ≤ (hp (m + 1)).length → Sim E ρ' ⟨put fr o.dst (vals i), hp (m + 1)⟩ a' w' →
            wpAny P .any ops.toArray (post n0 E ρ Q) f (listed.setIfInBounds i true) a' w' := fun ρ' a' w' hρ hn' hs' => by
          have := ih (m + 1) ρ' _ _ a' w' hc' inv' (by omega) hm' hfit' hn' hs'
          rwa [post_trans (fun p hp' => hρ p (Nat.lt_of_lt_of_le hp' hn0))] at this
        have hstep := hE1 m hme
        have go : OpG P o (rst (reads o) frj) (hp m) (vals i) (hp (m + 1)) → o.wp P a w (wpAny P .any ops.toArray (post n0 E ρ Q) f (listed.setIfInBounds i true)) (post n0 E ρ Q) := fun hg => by
          refine hg.2 E ρ a w hE hsr _ _ fun v w' ρ' h1 h2 h3 => next ρ' _ w' h1 (Nat.le_trans hn0 hg.1) ⟨?_, h2⟩
          exact FRel.put_grow hg.1 h1 hs.fr o.dst h3
        unfold wpOp
        simp only [ho']
        unfold EStep at hstep
        split at hstep
        · rename_i hg
          have hw : Region.wanted o (yielded ops.toArray a.tmps) = true := by simp [Region.wanted, hg]
          rw [if_pos hw]
          exact .inl (go hstep)
        · rename_i j want hg
          obtain ⟨b, hb, k1, k2⟩ := hstep
          have hy := hgd j want b hg hb
          by_cases hbw : b = some want
          · have hw : Region.wanted o (yielded ops.toArray a.tmps) = true := by simp [Region.wanted, hg, hy, hbw]
            rw [if_pos hw]
            exact .inl (go (k1 hbw))
          · have hw : ¬ Region.wanted o (yielded ops.toArray a.tmps) = true := by simp [Region.wanted, hg, hy, hbw]
            rw [if_neg hw]
            obtain ⟨k3, k4⟩ := k2 hbw
            refine next ρ _ w (fun _ _ => rfl) (by rw [k4]; exact hn0) ?_
            rw [k3, k4]
            exact ⟨put_sound hs.fr o.dst us_rel, hs.heap⟩
      · -- it only looks
        have hm' : ∀ (m' e : Nat), es[m']? = some e → ((listed.setIfInBounds i true).getD e false = true ↔ m' < k) := fun m' e he => by
          rw [hD e]
          have hne : e ≠ i := fun h => hmem (h ▸ List.mem_of_getElem? he)
          rw [← hm m' e he]
          exact ⟨fun h => h.resolve_right hne, .inl⟩
        obtain ⟨hstep, hsub⟩ := hR1 hmem
        have hlo : lo.getD i 0 ≤ k := by
          obtain ⟨g1, g2⟩ := ok.lo i hin hmem
          rcases Nat.eq_zero_or_pos (lo.getD i 0) with h0 | h0
          · omega
          · obtain ⟨e, he⟩ : ∃ e, es[lo.getD i 0 - 1]? = some e := ⟨_, List.getElem?_eq_getElem (by omega)⟩
            have h1 := g2 (lo.getD i 0 - 1) e (by omega) he
            have h2 := anc_listed closed h1 hdeps'
            have := (hm _ e he).1 h2
            omega
        have hhi : k ≤ hi.getD i 0 := by
          rcases Nat.lt_or_ge (hi.getD i 0) k with h | h
          · exfalso
            obtain ⟨e, he⟩ : ∃ e, es[hi.getD i 0]? = some e := ⟨_, List.getElem?_eq_getElem (by omega)⟩
            have h1 := ok.hi i hin hmem e he
            have hl := (hm _ e he).2 h
            have h2 := anc_listed closed h1 (fun o' ho'' e' he' hb => closed e o' ho'' hl e' he' hb)
            rw [huif] at h2; cases h2
          · exact h
        have hV := hsub k hlo hhi hk
        have next : ∀ (ρ' : Nat → Place) (a' : Act) (w' : World), (∀ p, p < (hp k).length → ρ' p = ρ p) → Sim E ρ' ⟨put fr o.dst (vals i), hp k⟩ a' w' →
            wpAny P .any ops.toArray (post n0 E ρ Q) f (listed.setIfInBounds i true) a' w' := fun ρ' a' w' hρ hs' => by
          have := ih k ρ' _ _ a' w' hc' inv' hk hm' hfit' hn0 hs'
          rwa [post_trans (fun p hp' => hρ p (Nat.lt_of_lt_of_le hp' hn0))] at this
        have go : OpG P o (rst (reads o) frj) (hp k) (vals i) (hp k) → o.wp P a w (wpAny P .any ops.toArray (post n0 E ρ Q) f (listed.setIfInBounds i true)) (post n0 E ρ Q) := fun hg => by
          refine hg.2 E ρ a w hE hsr _ _ fun v w' ρ' h1 h2 h3 => next ρ' _ w' h1 ⟨?_, h2⟩
          exact FRel.put_grow hg.1 h1 hs.fr o.dst h3
        unfold wpOp
        simp only [ho']
        unfold RStep at hstep
        split at hstep
        · rename_i hg
          have hw : Region.wanted o (yielded ops.toArray a.tmps) = true := by simp [Region.wanted, hg]
          rw [if_pos hw]
          exact .inl (go (hstep _ hV))
        · rename_i j want hg
          obtain ⟨b, hb, k1, k2⟩ := hstep
          have hy := hgd j want b hg hb
          by_cases hbw : b = some want
          · have hw : Region.wanted o (yielded ops.toArray a.tmps) = true := by simp [Region.wanted, hg, hy, hbw]
            rw [if_pos hw]
            exact .inl (go (k1 hbw _ hV))
          · have hw : ¬ Region.wanted o (yielded ops.toArray a.tmps) = true := by simp [Region.wanted, hg, hy, hbw]
            rw [if_neg hw]
            refine next ρ _ w (fun _ _ => rfl) ⟨?_, hs.heap⟩
            rw [k2 hbw]
            exact put_sound hs.fr o.dst us_rel
end

/-- A region that draws its order. -/
theorem awp_drawE {P : Program} {n0 id : Nat} {ops : Array Oper} {Q : Exit → St → Prop} {fr : List S} {H : Heap} (es lo hi : List Nat) (hm : P.follows .mixedOrders = true) (hB : drawE ops.toList es lo hi = true) (hn : n0 ≤ H.length)
    (h : Dw P ops.toList lo hi (Q .normal) ops.toList 0 es [H] [] fr) : AWp P n0 (.region id ops true) Q ⟨fr, H⟩ := by
  intro E ρ a w hE hs
  have ok := drawE_ok hB
  obtain ⟨vals, hp, Vs, h1, _, h2⟩ := dw_tr (E := es.length) ops.toList 0 es [H] [] fr (by simp) (by simp; omega) h
  have h0 : hp 0 = H := by
    have := h1 0 (by simp)
    simpa using this.symm
  obtain ⟨hst, hend⟩ := tr_each ok (fr0 := fr) ops.toList 0 0 fr (fun j => by rw [Nat.zero_add]) (by simp) (Nat.zero_le _) (fun m e _ => by omega) ⟨rfl, fun _ _ => rfl, fun j o t _ hd => by simp at hd⟩ (by simpa using h2)
  refine wp_region_any hm ?_
  have := draw_game (P := P) (n0 := n0) (Q := Q) ok (fun j o ho => hst j o (Nat.zero_le _) ho) hend hE ops.size 0 ρ (Array.replicate ops.size false) fr a { w with drawn := w.drawn + 1 } (by
      have : (List.range ops.toList.length).countP (fun j => (Array.replicate ops.size false).getD j false) = 0 := by
        rw [List.countP_eq_zero]
        intro j _
        rw [getD_replicate_false]; simp
      rw [this]; simp)
    ⟨by simp, fun j oj _ hl => (by rw [getD_replicate_false] at hl; cases hl), fun t ht ht' => by simp at ht ht'; omega⟩ (Nat.zero_le _)
    (fun m e _ => by rw [getD_replicate_false]; simp)
    ⟨rfl, fun _ _ => rfl, fun j o t _ hd => by rw [getD_replicate_false] at hd; cases hd⟩ (by rw [h0]; exact hn) ⟨by rw [h0]; exact hs.fr, by rw [h0]; exact hs.heap.drew _⟩
  have e : ops.toList.toArray = ops := by simp
  rw [e] at this
  exact this
end Go.Abs

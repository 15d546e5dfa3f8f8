/- Texts that the proof stands on, put together: the abstract machine, and what functions do over it. -/
import Derived.Test.YtklcckngmmklhaaOutCarriesf
import Derived.OpenShut
import Derived.Handed
import Derived.Carry
/- The abstract machine: the entry: arguments that read as data are described by cells; a law that is Good answers as_ its row says. -/
namespace Go.Abs
open Go Go.ChangeShapes Go.WideShapes Go.RowKit
def R0 (W : World) : Rl := ⟨fun b => b < W.heap.size, W.heap, 0, fun _ => ⟨0, 0, 0⟩⟩
def Rd (P : Program) (t : TypeId) {α : Type} (p : α → Prop) (g : α → List Cell) : Prop :=
  ∀ (H : Type) (enc : TypeId × Value → H) (W : World) (fuel : Nat) (vs : List Value) (d : DataW H) (ps : List MemPlace),
    DataW.trod enc P W 0 (fun _ => true) true fuel t vs = some (d, ps) → (∀ x ∈ d.weights P t, x ≤ reachBytes) → ∃ x, p x ∧ LRel (R0 W) (g x) vs
theorem Rd.mono {P : Program} {t : TypeId} {α β : Type} {p : α → Prop} {g : α → List Cell} {p' : β → Prop} {g' : β → List Cell} (h : Rd P t p g) (f : ∀ x, p x → ∃ y, p' y ∧ g x = g' y) : Rd P t p' g' := by
  intro H enc W fuel vs d ps h1 h2
  obtain ⟨x, hx, hr⟩ := h H enc W fuel vs d ps h1 h2
  obtain ⟨y, hy, e⟩ := f x hx
  exact ⟨y, hy, e ▸ hr⟩
section
variable {P : Program} {t e : TypeId}
theorem lrel1 {R : Rl} {c : Cell} {v : Value} (ho : v.oneCell' = true) (h : CRel R c v) : LRel R [c] [v] := by
  simp only [LRel]; exact ⟨v, [], rfl, ho, h, rfl⟩
theorem wf_int {k : IntKind} {n : Int} (h : (Lit.int k n).wf = true) : k.min ≤ n ∧ n ≤ k.max := by
  simp only [Lit.wf, Bool.and_eq_true, decide_eq_true_eq] at h; exact h
theorem rd_int {k : IntKind} (ht : P.underlying t = some (.int k)) : Rd P t (fun n : Int => k.min ≤ n ∧ n ≤ k.max) (fun n => [.int k n]) := by
  intro H enc W fuel vs d ps h _
  obtain ⟨n, rfl, hx, hw⟩ := DataW.trod_int ht h
  exact ⟨n, wf_int hw, lrel1 rfl (by simp [CRel])⟩
theorem rd_u8 (ht : P.underlying t = some (.int .u8)) : Rd P t (fun _ : UInt8 => True) (fun x => [c8 x]) :=
  (rd_int ht).mono fun n h => ⟨UInt8.ofNat n.toNat, trivial, by
    have h1 : (0 : Int) ≤ n := h.1
    have h2 : n ≤ 255 := h.2
    show [Cell.int .u8 n] = [Cell.int .u8 ((UInt8.ofNat n.toNat).toNat : Int)]
    rw [UInt8.toNat_ofNat', Nat.mod_eq_of_lt (by omega), Int.toNat_of_nonneg h1]⟩
theorem rd_i64 (ht : P.underlying t = some (.int .i64)) : Rd P t (fun n : Int => -9223372036854775808 ≤ n ∧ n ≤ 9223372036854775807) (fun n => [ci n]) := rd_int ht
theorem mem_weightsAll {H : Type} {x : Nat} {d : DataW H} (h : x ∈ d.weights P e) : ∀ (l : List (DataW H)), d ∈ l → x ∈ DataW.weightsAll P e l
  | [], hd => by cases hd
  | y :: r, hd => by
    rw [DataW.weightsAll, List.mem_append]
    rcases List.mem_cons.1 hd with rfl | hd
    · exact .inl h
    · exact .inr (mem_weightsAll h r hd)
theorem choose_list {α : Type} {q : Nat → α → Prop} : ∀ (n : Nat), (∀ i, i < n → ∃ x, q i x) → ∃ l : List α, l.length = n ∧ ∀ i x, l[i]? = some x → q i x
  | 0, _ => ⟨[], rfl, by simp⟩
  | n + 1, h => by
    obtain ⟨l, hl, hq⟩ := choose_list n fun i hi => h i (by omega)
    obtain ⟨x, hx⟩ := h n (by omega)
    refine ⟨l ++ [x], by simp [hl], fun i y hy => ?_⟩
    by_cases hi : i < n
    · rw [List.getElem?_append_left (by omega)] at hy
      exact hq i y hy
    · have := (List.getElem?_eq_some_iff.1 hy).1
      simp at this
      have hin : i = n := by omega
      subst hin
      rw [List.getElem?_append_right (by omega)] at hy
      simp [hl] at hy
      exact hy ▸ hx
theorem get_flatMap {α β : Type} {g : α → List β} {sz : Nat} (hsz : 0 < sz) : ∀ (l : List α), (∀ x ∈ l, (g x).length = sz) → ∀ (i : Nat) c, (l.flatMap g)[i]? = some c → ∃ x, l[i / sz]? = some x ∧ (g x)[i % sz]? = some c
  | [], _, i, c, h => by simp at h
  | a :: r, hl, i, c, h => by
    rw [List.flatMap_cons] at h
    have ha := hl a (by simp)
    by_cases hi : i < sz
    · rw [List.getElem?_append_left (by omega)] at h
      rw [Nat.div_eq_of_lt hi, Nat.mod_eq_of_lt hi]
      exact ⟨a, rfl, h⟩
    · rw [List.getElem?_append_right (by omega), ha] at h
      obtain ⟨x, h1, h2⟩ := get_flatMap hsz r (fun x hx => hl x (by simp [hx])) (i - sz) c h
      have e : i = (i - sz) + sz := by omega
      rw [e, Nat.add_div_right _ hsz, Nat.add_mod_right]
      exact ⟨x, by simpa using h1, h2⟩
theorem flatMap_one {α β : Type} (f : α → β) (l : List α) : (l.flatMap fun x => [f x]) = l.map f := by induction l <;> simp [*]
theorem len_flatMap {α β : Type} {g : α → List β} {sz : Nat} : ∀ (l : List α), (∀ x ∈ l, (g x).length = sz) → (l.flatMap g).length = l.length * sz
  | [], _ => by simp
  | a :: r, h => by
    rw [List.flatMap_cons, List.length_append, h a (by simp), len_flatMap r fun x hx => h x (by simp [hx]), List.length_cons, Nat.succ_mul]
    omega
theorem cell_of {W : World} {a : Addr} {v : Value} (h : W.cell? a = some v) : a.spot = none ∧ a.block < W.heap.size ∧ ∃ arr el fr, W.heap[a.block]? = some (.cells arr el fr) ∧ arr[a.off]? = some v := by
  unfold World.cell? at h
  split at h
  · rename_i c el fr hb
    split at h
    · cases h
    · rename_i hs
      exact ⟨by cases hsp : a.spot <;> simp_all, (Array.getElem?_eq_some_iff.1 hb).1, c, el, fr, hb, h⟩
  · cases h
theorem add_block' (a : Addr) (i : Nat) : (a.add i).block = a.block ∧ (a.add i).off = a.off + i := by
  unfold Addr.add; split
  · rename_i h; subst h; exact ⟨rfl, rfl⟩
  · exact ⟨rfl, rfl⟩
theorem rd_slice {α : Type} {p : α → Prop} {g : α → List Cell} (ht : P.underlying t = some (.slice e)) (he : Rd P e p g) :
    Rd P t (fun l : List α => (∀ x ∈ l, p x) ∧ l.length * P.bytesOf e ≤ reachBytes) (fun l => [.ro l.length (l.flatMap g)]) := by
  intro H enc W fuel vs d ps h hw
  rcases DataW.trod_slice ht h with ⟨rfl, hx⟩ | ⟨a, len, cap, elems, rest, m, rfl, rfl, hx, hb, hl, hc, hlen, hel, hsp, _⟩
  · exact ⟨[], ⟨by simp, by simp⟩, lrel1 rfl (by simp only [CRel]; exact ⟨none, 0, rfl, Nat.le_refl _, fun _ => rfl, fun x hx => by cases hx⟩)⟩
  obtain ⟨rfl, rfl⟩ := Prod.mk.inj hx
  have hwt : ∀ y, y ∈ DataW.weights P t (.slice (elems.map (·.1)) (rest.map (·.1))) ↔ y ∈ ((elems.map (·.1)).length + (rest.map (·.1)).length) * P.bytesOf e :: (DataW.weightsAll P e (elems.map (·.1)) ++ DataW.weightsAll P e (rest.map (·.1))) := by
    intro y; rw [DataW.weights, ht]
  have hbytes : (elems.length + rest.length) * P.bytesOf e ≤ reachBytes := by
    have := hw _ ((hwt _).2 (List.mem_cons_self ..))
    simpa using this
  have each : ∀ i, i < len → ∃ x, p x ∧ ∃ cs', W.cells? 0 (a.add (i * P.cellsOf e)) (P.cellsOf e) = some cs' ∧ LRel (R0 W) (g x) cs' := by
    intro i hi
    have h1 := hel i hi
    have hlt : i < elems.length := by omega
    rw [List.getElem?_eq_getElem hlt, Option.bind_eq_some_iff] at h1
    obtain ⟨cs', h2, h3⟩ := h1
    obtain ⟨x, hx, hr⟩ := he H enc W m cs' _ _ h3 (fun y hy => hw y ((hwt _).2 (List.mem_cons_of_mem _ (List.mem_append_left _ (mem_weightsAll hy _ (List.mem_map.2 ⟨_, List.getElem_mem hlt, rfl⟩))))))
    exact ⟨x, hx, cs', h2, hr⟩
  obtain ⟨l, hl1, hl2⟩ := choose_list len each
  have hpl : ∀ x ∈ l, p x ∧ (g x).length = P.cellsOf e := by
    intro x hx
    obtain ⟨i, hi, rfl⟩ := List.mem_iff_getElem.1 hx
    obtain ⟨h1, cs', h2, h3⟩ := hl2 i _ (List.getElem?_eq_getElem hi)
    exact ⟨h1, by rw [← h3.length]; exact (World.cells?_some h2).2.1⟩
  refine ⟨l, ⟨fun x hx => (hpl x hx).1, ?_⟩, lrel1 rfl ?_⟩
  · refine Nat.le_trans (Nat.mul_le_mul_right _ ?_) hbytes
    omega
  · simp only [CRel]
    refine ⟨some a, cap, hl1 ▸ rfl, by omega, (fun hn => by cases hn), fun x hx hne => ?_⟩
    obtain rfl := Option.some.inj hx
    have hsz : 0 < P.cellsOf e := by
      rcases Nat.eq_zero_or_pos (P.cellsOf e) with h0 | h0
      · exact absurd (List.eq_nil_of_length_eq_zero (by rw [len_flatMap l fun x hx => (hpl x hx).2, h0, Nat.mul_zero])) hne
      · exact h0
    have cellAt : ∀ (i : Nat) c, (l.flatMap g)[i]? = some c → ∃ v, W.cell? (a.add i) = some v ∧ v.oneCell' = true ∧ CRel (R0 W) c v := by
      intro i c hi
      obtain ⟨x, h1, h2⟩ := get_flatMap hsz l (fun x hx => (hpl x hx).2) i c hi
      obtain ⟨_, cs', h3, h4⟩ := hl2 _ _ h1
      obtain ⟨v, h5, h6, h7⟩ := h4.get h2
      have h8 := (World.cells?_some h3).2.2 (i % P.cellsOf e) (Nat.mod_lt _ hsz)
      have e1 : (a.add (i / P.cellsOf e * P.cellsOf e)).add (i % P.cellsOf e) = a.add i := by
        have := Nat.div_add_mod i (P.cellsOf e)
        rw [Nat.mul_comm] at this
        unfold Addr.add
        rcases a with ⟨ab, ao, asp⟩
        by_cases hq : i / P.cellsOf e * P.cellsOf e = 0
        · have : i % P.cellsOf e = i := by omega
          simp [hq, this]
        · by_cases hr : i % P.cellsOf e = 0
          · have : i / P.cellsOf e * P.cellsOf e = i := by omega
            rw [if_neg hq, if_pos hr, if_neg (by omega), this]
          · rw [if_neg hq, if_neg hr, if_neg (by omega)]
            simp only [Addr.mk.injEq, true_and, and_true]; omega
      rw [e1, h5] at h8
      exact ⟨v, h8, h6, h7⟩
    have hne' : ∃ c, (l.flatMap g)[0]? = some c := by
      cases hf : l.flatMap g with
      | nil => exact absurd hf hne
      | cons c r => exact ⟨c, rfl⟩
    obtain ⟨c0, hc0⟩ := hne'
    obtain ⟨v0, hv0, _⟩ := cellAt 0 c0 hc0
    obtain ⟨s1, s2, _⟩ := cell_of hv0
    have e0 : a.add 0 = a := rfl
    rw [e0] at s1 s2
    refine ⟨s1, s2, MRel.of_get fun i c hi => ?_⟩
    obtain ⟨v, h1, h2, h3⟩ := cellAt i c hi
    obtain ⟨_, _, arr, el, fr, h4, h5⟩ := cell_of h1
    rw [(add_block' a i).1] at h4
    rw [(add_block' a i).2] at h5
    exact ⟨arr, el, fr, v, h4, h5, h2, h3⟩
theorem lrel_append {R : Rl} : ∀ {cs ds : List Cell} {vs ws : List Value}, LRel R cs vs → LRel R ds ws → LRel R (cs ++ ds) (vs ++ ws)
  | [], ds, vs, ws, h, k => by
    simp only [LRel] at h
    subst h
    exact k
  | c :: cs, ds, vs, ws, h, k => by
    simp only [LRel] at h
    obtain ⟨v, vs', rfl, h1, h2, h3⟩ := h
    simp only [List.cons_append, LRel]
    exact ⟨v, vs' ++ ws, rfl, h1, h2, lrel_append h3 k⟩
theorem lrel_chunks {R : Rl} {α : Type} {g : α → List Cell} {sz : Nat} : ∀ (l : List α) (vs : List Value), vs.length = l.length * sz → (∀ i x, l[i]? = some x → LRel R (g x) ((vs.drop (i * sz)).take sz)) → LRel R (l.flatMap g) vs
  | [], vs, hl, _ => by
    have : vs = [] := List.eq_nil_of_length_eq_zero (by simpa using hl)
    subst this
    simp [LRel]
  | a :: r, vs, hl, h => by
    have h0 := h 0 a rfl
    rw [Nat.zero_mul, List.drop_zero] at h0
    rw [List.length_cons, Nat.succ_mul] at hl
    have h1 := lrel_chunks (R := R) (g := g) (sz := sz) r (vs.drop sz) (by rw [List.length_drop]; omega) (fun i x hx => by
      have := h (i + 1) x (by simpa using hx)
      rw [List.drop_drop, show sz + i * sz = (i + 1) * sz by rw [Nat.succ_mul]; omega]
      exact this)
    have := lrel_append h0 h1
    rw [List.take_append_drop] at this
    rw [List.flatMap_cons]
    exact this
theorem rd_array {α : Type} {p : α → Prop} {g : α → List Cell} {n : Nat} (ht : P.underlying t = some (.array n e)) (hs : P.cellsOf t = n * P.cellsOf e) (he : Rd P e p g) :
    Rd P t (fun l : List α => (∀ x ∈ l, p x) ∧ l.length = n) (fun l => l.flatMap g) := by
  intro H enc W fuel vs d ps h hw
  obtain ⟨xs, m, rfl, hx, hlen, hn, hel⟩ := DataW.trod_array ht h
  obtain ⟨rfl, rfl⟩ := Prod.mk.inj hx
  have each : ∀ i, i < n → ∃ x, p x ∧ LRel (R0 W) (g x) ((vs.drop (i * P.cellsOf e)).take (P.cellsOf e)) := by
    intro i hi
    have h1 := hel i hi
    have hlt : i < xs.length := by omega
    rw [List.getElem?_eq_getElem hlt] at h1
    exact he H enc W m _ _ _ h1 (fun y hy => hw y (by
      rw [DataW.weights, ht]
      exact mem_weightsAll hy _ (List.mem_map.2 ⟨_, List.getElem_mem hlt, rfl⟩)))
  obtain ⟨l, hl1, hl2⟩ := choose_list n each
  refine ⟨l, ⟨fun x hx => ?_, hl1⟩, lrel_chunks l vs (by rw [hlen, hs, hl1]) fun i x hx => (hl2 i x hx).2⟩
  obtain ⟨i, hi, rfl⟩ := List.mem_iff_getElem.1 hx
  exact (hl2 i _ (List.getElem?_eq_getElem hi)).1
inductive Fds (P : Program) : Nat → List Field → Nat → {α : Type} → (α → Prop) → (α → List Cell) → Prop
  | nil (o : Nat) : Fds P o [] o (α := Unit) (fun _ => True) (fun _ => [])
  | cons {o tot : Nat} {f : Field} {fs : List Field} {α β : Type} {p : α → Prop} {g : α → List Cell} {q : β → Prop} {k : β → List Cell}
      (ho : f.offset = o) (h : Rd P f.type p g) (r : Fds P (o + P.cellsOf f.type) fs tot q k) : Fds P o (f :: fs) tot (α := α × β) (fun x => p x.1 ∧ q x.2) (fun x => g x.1 ++ k x.2)
theorem rd_i64s (ht : P.underlying t = some (.slice e)) (he : P.underlying e = some (.int .i64)) (hb : P.bytesOf e = 8) : Rd P t (fun l : List Int => (∀ x ∈ l, -9223372036854775808 ≤ x ∧ x ≤ 9223372036854775807) ∧ l.length * 8 ≤ 140737488351232) (fun l => [.ro l.length (i64s l)]) :=
  (rd_slice ht (rd_i64 he)).mono fun l h => ⟨l, ⟨h.1, by have := h.2; rw [hb] at this; simpa [reachBytes] using this⟩, by rw [flatMap_one]; rfl⟩
theorem rd_u8a {n : Nat} (ht : P.underlying t = some (.array n e)) (he : P.underlying e = some (.int .u8)) (hs : P.cellsOf t = n) (hc : P.cellsOf e = 1) : Rd P t (fun l : List UInt8 => l.length = n) (fun l => u8s l) :=
  (rd_array ht (by rw [hs, hc, Nat.mul_one]) (rd_u8 he)).mono fun l h => ⟨l, h.2, by rw [flatMap_one]; rfl⟩
def Av (P : Program) (t : TypeId) (s : V → Prop) : Prop :=
  ∀ (H : Type) (enc : TypeId × Value → H) (W : World) (base : Nat) (v : Value) (d : DataW H) (ps : List MemPlace), Value.okWide P W .any base t v →
    DataW.Trod enc P W 0 (fun _ => true) true t v d ps → (∀ x ∈ d.weights P t, x ≤ reachBytes) → ∃ a, s a ∧ VRel (R0 W) a v
theorem av_agg {α : Type} {p : α → Prop} {g : α → List Cell} (ht : (∃ fs, P.underlying t = some (.struct fs)) ∨ ∃ n e, P.underlying t = some (.array n e)) (h : Rd P t p g) : Av P t (fun a => ∃ x, p x ∧ a = .a (g x)) := by
  intro H enc W base v d ps ho htr hw
  obtain ⟨fuel, hf⟩ := htr
  obtain ⟨x, hx, hr⟩ := h H enc W fuel _ d ps hf hw
  have : ∃ cs, v = .agg cs := by
    unfold Value.okWide at ho
    rcases ht with ⟨fs, ht⟩ | ⟨n, e, ht⟩ <;> rw [ht] at ho
    · obtain ⟨cs, h1, _⟩ := ho; exact ⟨cs, h1⟩
    · obtain ⟨cs, h1, _⟩ := ho; exact ⟨cs, h1⟩
  obtain ⟨cs, rfl⟩ := this
  exact ⟨.a (g x), ⟨x, hx, rfl⟩, cs, rfl, hr⟩
theorem av_one {α : Type} {p : α → Prop} {g : α → Cell} (ht : (∃ k, P.underlying t = some (.int k)) ∨ P.underlying t = some .bool ∨ P.underlying t = some .string ∨ ∃ e, P.underlying t = some (.slice e)) (h : Rd P t p (fun x => [g x])) : Av P t (fun a => ∃ x, p x ∧ a = .c (g x)) := by
  intro H enc W base v d ps ho htr hw
  obtain ⟨fuel, hf⟩ := htr
  have : v.cells.toList = [v] := by
    unfold Value.okWide at ho
    rcases ht with ⟨k, ht⟩ | ht | ht | ⟨e, ht⟩ <;> rw [ht] at ho <;> unfold Cell.okWide at ho <;> rw [ht] at ho <;> cases v <;> first | rfl | (simp [Cell.ok, ht] at ho; done)
  rw [this] at hf
  obtain ⟨x, hx, hr⟩ := h H enc W fuel _ d ps hf hw
  refine ⟨.c (g x), ⟨x, hx, rfl⟩, ?_⟩
  simp only [LRel] at hr
  obtain ⟨v', vs', e1, _, h2, _⟩ := hr
  obtain ⟨rfl, _⟩ := List.cons.inj e1
  exact h2
end
def Avs (P : Program) : List TypeId → (List V → Prop) → Prop
  | [], q => q []
  | t :: ts, q => ∃ s : V → Prop, Av P t s ∧ Avs P ts (fun r => ∀ a, s a → q (a :: r))
theorem avs_sound {P : Program} {H : Type} {enc : TypeId × Value → H} {W : World} {base : Nat} : ∀ (ts : List TypeId) (q : List V → Prop) (vs : List Value) (ds : List (DataW H)) (ps : List MemPlace),
    Avs P ts q → DataW.TrodAll enc P W 0 (fun _ => true) true ts vs ds ps → (∀ (j : Nat) t v, ts[j]? = some t → vs[j]? = some v → Value.okWide P W .any base t v) →
    (∀ x ∈ DataW.weightsEach P ts ds, x ≤ reachBytes) → ∃ as_, q as_ ∧ VsRel (R0 W) as_ vs
  | [], q, vs, ds, ps, h, ht, _, _ => by
    obtain ⟨rfl, _, _⟩ := trodAll_nil ht
    exact ⟨[], h, rfl⟩
  | t :: ts, q, vs, ds, ps, h, ht, ho, hw => by
    obtain ⟨s, hs, hr⟩ := h
    cases vs with
    | nil => simp [DataW.TrodAll] at ht
    | cons v vs => cases ds with
      | nil => simp [DataW.TrodAll] at ht
      | cons d ds =>
        obtain ⟨p, r, h1, h2, _⟩ := ht
        obtain ⟨a, ha, hva⟩ := hs H enc W base v d p (ho 0 t v rfl rfl) h1 (fun x hx => hw x (by rw [DataW.weightsEach]; exact List.mem_append_left _ hx))
        obtain ⟨as_, has, hvs⟩ := avs_sound ts _ vs ds r hr h2 (fun j t' v' h3 h4 => ho (j + 1) t' v' (by simpa using h3) (by simpa using h4)) (fun x hx => hw x (by rw [DataW.weightsEach]; exact List.mem_append_right _ hx))
        exact ⟨a :: as_, has a ha, v, vs, rfl, hva, hvs⟩
theorem trodAll_below {P : Program} {H : Type} {enc : TypeId × Value → H} {W W' : World} (hl : laidOutB P = true) (hb : Below W.heap.size W W') : ∀ (ts : List TypeId) (vs : List Value) (ds : List (DataW H)) (ps : List MemPlace),
    (∀ t ∈ ts, P.readableRec t = true ∧ t < P.types.size) → DataW.TrodAll enc P W 0 (fun _ => true) true ts vs ds ps → (∀ x ∈ ps, x.block < W.heap.size) →
    DataW.TrodAll enc P W' 0 (fun b => decide (b < W.heap.size)) true ts vs ds ps
  | [], vs, ds, ps, _, ht, _ => by
    obtain ⟨rfl, rfl, rfl⟩ := trodAll_nil ht
    exact rfl
  | t :: ts, vs, ds, ps, hr, ht, hlt => by
    cases vs with
    | nil => simp [DataW.TrodAll] at ht
    | cons v vs => cases ds with
      | nil => simp [DataW.TrodAll] at ht
      | cons d ds =>
        obtain ⟨p, r, h1, h2, rfl⟩ := ht
        exact ⟨p, r, Below.trod hl (hr t (by simp)).1 (hr t (by simp)).2 h1 hb (fun x hx => hlt x (List.mem_append_left _ hx)),
          trodAll_below hl hb ts vs ds r (fun t' h => hr t' (by simp [h])) h2 (fun x hx => hlt x (List.mem_append_right _ hx)), rfl⟩
theorem law_lifted {C : Checked} {os : Os} {f : FuncId} {fn : Func} {s : ChangeSpec} {H : Type} {enc : TypeId × Value → H} (own : ownKnob C.prog.godebug = none) (started : os.Started) (noInit : C.prog.inits.idxOf? f = none) (hfn : C.prog.funcs[f]? = some fn)
    (hl : laidOutB C.prog = true)
    (witness : ∃ (w : World) (tape : Tape) (i : Input), w.os = os ∧ (w.forCall tape i).Shaped C.prog ∧ i.vars = [] ∧ Input.okWide C.prog (w.forCall tape i) .any w.heap.size f i ∧
      s.pre6 enc C.prog fn [] false (w.forCall tape i).memory i.args ∧ ({} : Assume).holds C.prog (lone (Frame.enter C.prog f i.args .normal) [] (w.forCall tape i)))
    (tb : TypeId) (hres : fn.resultTypes = #[tb]) (htb : C.prog.underlying tb = some .bool) (hvars : s.vars = [])
    (hspec : ∀ ds : List (DataW H), ds.length = fn.params.toList.length → s.fn H ds = { results := [.lit (.bool true)], args := ds })
    (hread : ∀ t ∈ fn.params.toList, C.prog.readableRec t = true ∧ t < C.prog.types.size)
    (good : Avs C.prog fn.params.toList (fun as_ => Good C.prog f as_ [] (sc (.bool true)) [])) :
    ReturnsInHanded {} C os f .any (s.pre6 enc C.prog fn [] false) (s.post enc C.prog fn false true false false) := by
  have key := returnsInHanded_of_change_and (a := {}) (enc := enc) (s := s) (conds := []) (apart := false) (fresh := true) (handsOn := false) (again := false) (X := fun _ _ => True) (fun _ _ _ _ h => h) own started noInit hfn
    (by
      obtain ⟨w, tape, i, h1, h2, h3, h4, h5, h6⟩ := witness
      exact ⟨w, tape, i, h1, h2, h3, h4, ⟨⟨h5.1, trivial⟩, h5.2⟩, h6⟩) ?_
  · have e : (fun w args => (s.pre enc C.prog fn [] false w args ∧ True) ∧ sizedMet enc C.prog fn (OpenSpec.ofChange s) false w args) = s.pre6 enc C.prog fn [] false := by
      funext w args
      unfold ChangeSpec.pre6
      rw [and_true]
    rw [e] at key
    exact key
  · intro W base args ds gs before hval hW _ hwt _ _
    obtain ⟨p, q, hA, hV, hps, hfz, hnd⟩ := hW
    have hW' : DataW.Whole enc C.prog fn.params.toList s.vars false W args.toList ds gs before := ⟨p, q, hA, hV, hps, hfz, hnd⟩
    have hg : gs = [] ∧ q = [] := by
      rw [hvars] at hV
      cases gs with
      | nil => exact ⟨rfl, hV⟩
      | cons _ _ => exact hV.elim
    obtain ⟨rfl, rfl⟩ := hg
    rw [List.append_nil] at hps
    subst hps
    rw [List.append_nil] at hwt
    have hlenA : ∀ (ts : List TypeId) (vs : List Value) (ds : List (DataW H)) (ps : List MemPlace), DataW.TrodAll enc C.prog W 0 (fun _ => true) true ts vs ds ps → ds.length = ts.length := by
      intro ts
      induction ts with
      | nil => intro vs ds ps h; obtain ⟨_, rfl, _⟩ := trodAll_nil h; rfl
      | cons t ts ih =>
        intro vs ds ps h
        cases vs with
        | nil => simp [DataW.TrodAll] at h
        | cons v vs => cases ds with
          | nil => simp [DataW.TrodAll] at h
          | cons d ds =>
            obtain ⟨_, _, _, h2, _⟩ := h
            simp [ih _ _ _ h2]
    have hlen := hlenA _ _ _ _ hA
    have hwt' : ∀ x ∈ DataW.weightsEach C.prog fn.params.toList ds, x ≤ reachBytes := by
      intro x hx
      rw [List.all_eq_true] at hwt
      have hx' : x ∈ DataW.weightsEach C.prog (fn.params.toList ++ s.plain.varTypes C.prog) ds := by
        have : ∀ (ts us : List TypeId) (ds : List (DataW H)), ds.length = ts.length → DataW.weightsEach C.prog (ts ++ us) ds = DataW.weightsEach C.prog ts ds := by
          intro ts
          induction ts with
          | nil => intro us ds h; have : ds = [] := List.eq_nil_of_length_eq_zero h; subst this; cases us <;> rfl
          | cons t ts ih =>
            intro us ds h
            cases ds with
            | nil => simp at h
            | cons d ds => rw [List.cons_append, DataW.weightsEach, DataW.weightsEach, ih us ds (by simpa using h)]
        rw [this _ _ _ hlen]; exact hx
      simpa using hwt x hx'
    obtain ⟨as_, hgood, hrel⟩ := avs_sound _ _ _ _ _ good hA (fun j t v h1 h2 => hval j t v (by simpa using h1) (by simpa using h2)) hwt'
    obtain ⟨_, _, hg⟩ := hgood
    let E : Env := ⟨W, fun b => b < W.heap.size, fun _ => False⟩
    have hE : E.Ok := ⟨fun b h => h, fun b _ h => h, fun b h => h.elim⟩
    have call := hg E (fun _ => ⟨0, 0, 0⟩) W args.toList hE rfl (fun b => ⟨fun h => h.elim, fun ⟨p, cs, h, _⟩ => by simp at h⟩)
      ⟨rfl, rfl, rfl, Nat.le_refl _, fun _ _ _ => rfl, fun p cs h => by simp at h, fun p q cs ds h => by simp at h, fun p cs h => by simp at h, fun p cs h => by simp at h⟩ hrel
    rw [Array.toArray_toList] at call
    refine Calls.mono call ?_
    rintro ee w' ⟨rv, ρ', rfl, _, hH, hS⟩
    refine ⟨rv, rfl, ?_⟩
    have hrv : rv = .bool true := by simpa [SRel, VRel, CRel] using hS
    subst hrv
    have hb : Below W.heap.size W w' := ⟨hH.os, hH.tape, hH.output, hH.size, fun k hk => hH.frame k hk (fun h => h)⟩
    have hold : ∀ x ∈ before, x.block < W.heap.size := fun x hx => hW'.lt x hx
    refine ⟨ds, [], before, [], before, [], hW', ?_, ?_, ?_, Below.frame hb _, fun h => by cases h⟩
    · rw [List.append_nil, hspec ds hlen, hres]
      exact trodAll_mk1 ⟨1, by simp [DataW.trod, Value.cells, htb]⟩
    · rw [List.append_nil, hspec ds hlen]
      exact trodAll_below hl hb _ _ _ _ hread hA hold
    · rw [List.append_nil, hspec ds hlen, hvars]
      exact rfl
end Go.Abs

/- The abstract machine: the entry: structs that read as data, told by their offsets and types. -/
namespace Go.Abs
open Go Go.ChangeShapes Go.WideShapes Go.RowKit
def stF (P : Program) (t : TypeId) : Option (List (Nat × TypeId)) := match P.underlying t with
  | some (.struct fs) => some (fs.toList.map fun f => (f.offset, f.type))
  | _ => none
inductive Fdp (P : Program) : Nat → List (Nat × TypeId) → Nat → {α : Type} → (α → Prop) → (α → List Cell) → Prop
  | nil (o : Nat) : Fdp P o [] o (α := Unit) (fun _ => True) (fun _ => [])
  | cons {o tot off : Nat} {t : TypeId} {fs : List (Nat × TypeId)} {α β : Type} {p : α → Prop} {g : α → List Cell} {q : β → Prop} {k : β → List Cell}
      (ho : off = o) (h : Rd P t p g) (r : Fdp P (o + P.cellsOf t) fs tot q k) : Fdp P o ((off, t) :: fs) tot (α := α × β) (fun x => p x.1 ∧ q x.2) (fun x => g x.1 ++ k x.2)
end Go.Abs


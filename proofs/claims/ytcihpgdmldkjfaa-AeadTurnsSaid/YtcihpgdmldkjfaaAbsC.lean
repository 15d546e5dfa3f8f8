/- The abstract machine: memory: what a load gives, what a store does, new blocks. -/
import Derived.Test.YtcihpgdmldkjfaaAbsB
namespace Go.Abs
open Go

theorem add_none (b o i : Nat) : (Addr.add ⟨b, o, none⟩ i) = ⟨b, o + i, none⟩ := by
  unfold Addr.add
  split
  · rename_i h; subst h; rfl
  · rfl

def withBlock (w : World) (b : Nat) (o : Obj) : World := { w with heap := w.heap.setIfInBounds b o }

def wrA (arr : Array Value) (o : Nat) : List Value → Array Value
  | [] => arr
  | v :: r => wrA (arr.setIfInBounds o v) (o + 1) r

theorem wrA_size : ∀ (vs : List Value) (arr : Array Value) (o : Nat), (wrA arr o vs).size = arr.size
  | [], _, _ => rfl
  | v :: r, arr, o => by simp [wrA, wrA_size r]

theorem wrA_get : ∀ (vs : List Value) (arr : Array Value) (o i : Nat), o + vs.length ≤ arr.size →
    (wrA arr o vs)[i]? = if o ≤ i ∧ i < o + vs.length then vs[i - o]? else arr[i]?
  | [], arr, o, i, _ => by
    have : ¬ (o ≤ i ∧ i < o + ([] : List Value).length) := by rintro ⟨h1, h2⟩; simp only [List.length_nil] at h2; omega
    rw [if_neg this]; rfl
  | v :: r, arr, o, i, h => by
    simp only [List.length_cons] at h
    rw [wrA, wrA_get r _ _ _ (by simp; omega)]
    by_cases h1 : o + 1 ≤ i ∧ i < o + 1 + r.length
    · rw [if_pos h1, if_pos (by simp only [List.length_cons]; omega)]
      obtain ⟨k, rfl⟩ : ∃ k, i = o + 1 + k := ⟨i - (o + 1), by omega⟩
      rw [show o + 1 + k - (o + 1) = k by omega, show o + 1 + k - o = k + 1 by omega]
      simp
    · rw [if_neg h1]
      by_cases h2 : o = i
      · subst h2
        rw [if_pos (by simp only [List.length_cons]; omega)]
        simp [show o < arr.size by omega]
      · rw [if_neg (by simp only [List.length_cons]; omega), Array.getElem?_setIfInBounds_ne h2]

theorem setCell_eq (w : World) (b o : Nat) (v : Value) (arr : Array Value) (el : TypeId) (fr : Nat × Nat) (h : w.heap[b]? = some (.cells arr el fr)) :
    w.setCell ⟨b, o, none⟩ v = withBlock w b (.cells (arr.setIfInBounds o v) el fr) := by
  unfold World.setCell withBlock
  congr 1
  apply Array.ext_getElem?
  intro i
  rw [Array.getElem?_modify]
  by_cases hi : b = i
  · subst hi
    obtain ⟨hlt, he⟩ := Array.getElem?_eq_some_iff.1 h
    simp [hlt, he]
  · rw [if_neg hi, Array.getElem?_setIfInBounds_ne hi]

theorem withBlock_same (w : World) (b : Nat) (o : Obj) (h : w.heap[b]? = some o) : withBlock w b o = w := by
  have e : w.heap.setIfInBounds b o = w.heap := by
    apply Array.ext_getElem?
    intro i
    by_cases hi : b = i
    · subst hi
      obtain ⟨hlt, he⟩ := Array.getElem?_eq_some_iff.1 h
      simp [hlt, he]
    · rw [Array.getElem?_setIfInBounds_ne hi]
  unfold withBlock
  rw [e]

theorem withBlock_withBlock (w : World) (b : Nat) (o o' : Obj) : withBlock (withBlock w b o) b o' = withBlock w b o' := by
  unfold withBlock
  congr 1
  apply Array.ext_getElem?
  intro i
  by_cases hi : b = i
  · subst hi
    by_cases hlt : b < w.heap.size
    · simp [hlt]
    · simp [hlt]
  · simp [Array.getElem?_setIfInBounds_ne hi]

theorem withBlock_get (w : World) (b : Nat) (o : Obj) (h : b < w.heap.size) : (withBlock w b o).heap[b]? = some o := by
  simp [withBlock, h]

theorem run_storeCells (P : Program) : ∀ (vs : List Value) (w : World) (b o i : Nat) (arr : Array Value) (el : TypeId) (fr : Nat × Nat),
    w.heap[b]? = some (.cells arr el fr) → (∀ k, k < arr.size → ¬ (fr.1 ≤ k ∧ k < fr.2)) → o + i + vs.length ≤ arr.size → (∀ v ∈ vs, v.oneCell' = true) →
    (storeCells ⟨b, o, none⟩ vs i).run P w = .ok () (withBlock w b (.cells (wrA arr (o + i) vs) el fr))
  | [], w, b, o, i, arr, el, fr, h, _, _, _ => by
    rw [wrA, withBlock_same _ _ _ h]; rfl
  | v :: r, w, b, o, i, arr, el, fr, h, hf, hl, ho => by
    simp only [List.length_cons] at hl
    have hc : w.cell? ⟨b, o + i, none⟩ = some (arr[o + i]'(by omega)) := by
      simp [World.cell?, h]
    have hfz : w.frozen? ⟨b, o + i, none⟩ = false := by
      have := hf (o + i) (by omega)
      simp only [World.frozen?, h]
      simpa using this
    have hlt : b < w.heap.size := (Array.getElem?_eq_some_iff.1 h).1
    rw [storeCells, Sem.run_bind, add_none, run_store P w _ v _ (ho v (by simp)), hc]
    simp only [hfz, Bool.false_eq_true, if_false, Result.andThen_ok]
    rw [setCell_eq w b (o + i) v arr el fr h,
      run_storeCells P r _ b o (i + 1) (arr.setIfInBounds (o + i) v) el fr (withBlock_get _ _ _ hlt) (by simpa using hf) (by simp; omega) (fun v hv => ho v (by simp [hv])),
      withBlock_withBlock]
    rfl

theorem run_loadCellsFrom (P : Program) : ∀ (n : Nat) (w : World) (b o i : Nat) (acc : Array Value) (arr : Array Value) (el : TypeId) (fr : Nat × Nat),
    w.heap[b]? = some (.cells arr el fr) → o + i + n ≤ arr.size →
    (loadCellsFrom ⟨b, o, none⟩ i n acc).run P w = .ok (acc ++ arr.extract (o + i) (o + i + n)) w
  | 0, w, b, o, i, acc, arr, el, fr, h, hl => by
    simp only [loadCellsFrom, Sem.run_pure]
    congr 1
    apply Array.ext'
    simp
  | n + 1, w, b, o, i, acc, arr, el, fr, h, hl => by
    have hc : w.cell? ⟨b, o + i, none⟩ = some (arr[o + i]'(by omega)) := by
      simp [World.cell?, h]
    rw [loadCellsFrom, Sem.run_bind, add_none, run_load, hc]
    simp only [Result.andThen_ok]
    rw [run_loadCellsFrom P n w b o (i + 1) _ arr el fr h (by omega)]
    congr 1
    apply Array.ext'
    simp only [Array.toList_append, Array.toList_push, Array.toList_extract, List.append_assoc, List.extract_eq_take_drop]
    congr 1
    rw [show o + i + (n + 1) - (o + i) = n + 1 by omega, show o + (i + 1) + n - (o + (i + 1)) = n by omega]
    have hd : arr.toList.drop (o + i) = arr[o + i]'(by omega) :: arr.toList.drop (o + (i + 1)) := by
      rw [List.drop_eq_getElem_cons (by simp; omega)]
      simp [Nat.add_assoc]
    rw [hd]
    simp

theorem run_loadCells (P : Program) (n : Nat) (w : World) (b o : Nat) (arr : Array Value) (el : TypeId) (fr : Nat × Nat) (h : w.heap[b]? = some (.cells arr el fr)) (hl : o + n ≤ arr.size) :
    (loadCells ⟨b, o, none⟩ n).run P w = .ok (arr.extract o (o + n)) w := by
  rw [loadCells, run_loadCellsFrom P n w b o 0 #[] arr el fr h (by omega)]
  simp

/-! ## The description of memory under writes and new blocks. -/
def upd (ρ : Nat → Place) (p : Nat) (pl : Place) : Nat → Place := fun q => if q = p then pl else ρ q

theorem rl_le_upd (E : Env) (ρ : Nat → Place) (n m : Nat) (pl : Place) (h : n ≤ m) : (E.rl n ρ).Le (E.rl (m + 1) (upd ρ m pl)) :=
  ⟨fun _ hb => ⟨hb, rfl⟩, fun p hp => ⟨(by have : p < n := hp; show p < m + 1; omega), by
    have : p < n := hp
    simp only [Env.rl, upd]; rw [if_neg (by omega)]⟩⟩

theorem rl_le_n (E : Env) (ρ : Nat → Place) (n m : Nat) (h : n ≤ m) : (E.rl n ρ).Le (E.rl m ρ) :=
  ⟨fun _ hb => ⟨hb, rfl⟩, fun _ hp => ⟨Nat.lt_of_lt_of_le hp h, rfl⟩⟩

theorem BRel.mono {R R' : Rl} (h : R.Le R') {w w' : World} {pl : Place} {cs : List Cell} (hb : w'.heap[pl.blk]? = w.heap[pl.blk]?) (k : BRel R w pl cs) : BRel R' w' pl cs := by
  obtain ⟨arr, el, fr, b1, b2, b3, b4, b5⟩ := k
  exact ⟨arr, el, fr, by rw [hb]; exact b1, b2, b3, b4, fun i c hi => let ⟨v, h1, h2, h3⟩ := b5 i c hi; ⟨v, h1, h2, h3.mono h⟩⟩

theorem HRel.lt {E : Env} {ρ : Nat → Place} {w : World} {H : Heap} (h : HRel E ρ w H) {p : Nat} {cs : List Cell} (hp : H[p]? = some (some cs)) (hr : (ρ p).room ≠ 0) : (ρ p).blk < w.heap.size := by
  obtain ⟨arr, el, fr, b1, _⟩ := h.blk p cs hp hr
  exact (Array.getElem?_eq_some_iff.1 b1).1

/-- Only draws between. -/
theorem HRel.same {E : Env} {ρ : Nat → Place} {w w' : World} {H : Heap} (h : HRel E ρ w H) (h1 : w'.heap = w.heap) (h2 : w'.os = w.os) (h3 : w'.tape = w.tape) (h4 : w'.output = w.output) : HRel E ρ w' H :=
  ⟨h2.trans h.os, h3.trans h.tape, h4.trans h.output, by rw [h1]; exact h.size, fun b k1 k2 => by rw [h1]; exact h.frame b k1 k2, h.fresh, h.inj,
    fun p cs hp hr => (h.blk p cs hp hr).mono (Rl.Le.refl _) (by rw [h1]), h.emp⟩

theorem HRel.drew {E : Env} {ρ : Nat → Place} {w : World} {H : Heap} (h : HRel E ρ w H) (k : Nat) : HRel E ρ { w with drawn := k } H := h.same rfl rfl rfl rfl

/-- A new block. -/
theorem HRel.push {E : Env} {ρ : Nat → Place} {w w' : World} {H : Heap} (h : HRel E ρ w H) {arr : Array Value} {el : TypeId} {fr : Nat × Nat} {cs : List Cell}
    (h1 : w'.heap = w.heap.push (.cells arr el fr)) (h2 : w'.os = w.os) (h3 : w'.tape = w.tape) (h4 : w'.output = w.output)
    (hfr : Fz fr arr.size) (hlen : cs.length ≤ arr.size)
    (hcs : ∀ (i : Nat) c, cs[i]? = some c → ∃ v, arr[i]? = some v ∧ v.oneCell' = true ∧ CRel (E.rl (H.length + 1) (upd ρ H.length ⟨w.heap.size, 0, arr.size⟩)) c v) :
    HRel E (upd ρ H.length ⟨w.heap.size, 0, arr.size⟩) w' (H ++ [some cs]) := by
  have hle := rl_le_upd E ρ H.length H.length ⟨w.heap.size, 0, arr.size⟩ (Nat.le_refl _)
  have hold : ∀ b, b < w.heap.size → w'.heap[b]? = w.heap[b]? := fun b hb => by
    rw [h1, Array.getElem?_push, if_neg (by omega)]
  have hget : ∀ (p : Nat) ds, (H ++ [some cs])[p]? = some (some ds) → (H[p]? = some (some ds) ∧ p < H.length) ∨ (p = H.length ∧ ds = cs) := by
    intro p ds hp
    rcases Nat.lt_or_ge p H.length with hlt | hge
    · rw [List.getElem?_append_left hlt] at hp
      exact .inl ⟨hp, hlt⟩
    · rw [List.getElem?_append_right hge] at hp
      rcases Nat.eq_or_lt_of_le hge with he | hgt
      · subst he; simp at hp; exact .inr ⟨rfl, hp.symm⟩
      · rw [List.getElem?_eq_none (by simp; omega)] at hp; simp at hp
  have hu : ∀ p, p < H.length → upd ρ H.length ⟨w.heap.size, 0, arr.size⟩ p = ρ p := fun p hp => by unfold upd; rw [if_neg (by omega)]
  have hn : upd ρ H.length ⟨w.heap.size, 0, arr.size⟩ H.length = ⟨w.heap.size, 0, arr.size⟩ := by unfold upd; rw [if_pos rfl]
  refine ⟨h2.trans h.os, h3.trans h.tape, h4.trans h.output, ?_, fun b k1 k2 => ?_, fun p ds hp hr => ?_, fun p q ds es hp hq hr1 hr2 he => ?_, fun p ds hp hr => ?_, fun p ds hp hr => ?_⟩
  · have := h.size; rw [h1]; simp; omega
  · have := h.size
    rw [hold b (by omega)]; exact h.frame b k1 k2
  · rcases hget p ds hp with ⟨k, hlt⟩ | ⟨rfl, rfl⟩
    · rw [hu p hlt] at hr ⊢; exact h.fresh p ds k hr
    · rw [hn]; exact .inr h.size
  · rcases hget p ds hp with ⟨k, hlt⟩ | ⟨rfl, rfl⟩
    · rw [hu p hlt] at hr1
      rcases hget q es hq with ⟨k', hlt'⟩ | ⟨rfl, rfl⟩
      · rw [hu q hlt'] at hr2
        rw [hu p hlt, hu q hlt'] at he; exact h.inj p q ds es k k' hr1 hr2 he
      · rw [hu p hlt, hn] at he
        have := h.lt k hr1
        simp only at he
        omega
    · rcases hget q es hq with ⟨k', hlt'⟩ | ⟨h5, h6⟩
      · rw [hu q hlt'] at hr2
        rw [hu q hlt', hn] at he
        have := h.lt k' hr2
        simp only at he
        omega
      · exact h5.symm
  · rcases hget p ds hp with ⟨k, hlt⟩ | ⟨rfl, rfl⟩
    · rw [hu p hlt] at hr ⊢
      refine (h.blk p ds k hr).mono ?_ (hold _ (h.lt k hr))
      simpa using hle
    · rw [hn]
      refine ⟨arr, el, fr, by rw [h1]; simp, rfl, hfr, by simpa using hlen, fun i c hi => ?_⟩
      obtain ⟨v, k1, k2, k3⟩ := hcs i c hi
      exact ⟨v, by simpa using k1, k2, by simpa using k3⟩
  · rcases hget p ds hp with ⟨k, hlt⟩ | ⟨rfl, rfl⟩
    · rw [hu p hlt] at hr; exact h.emp p ds k hr
    · rw [hn] at hr
      simp only at hr
      rw [hr] at hlen
      simpa using hlen

/-- A new block of no cells that lies nowhere. -/
theorem HRel.pushEmp {E : Env} {ρ : Nat → Place} {w w' : World} {H : Heap} (h : HRel E ρ w H) (h1 : w'.heap = w.heap) (h2 : w'.os = w.os) (h3 : w'.tape = w.tape) (h4 : w'.output = w.output) :
    HRel E (upd ρ H.length ⟨0, 0, 0⟩) w' (H ++ [some []]) := by
  have hle := rl_le_upd E ρ H.length H.length ⟨0, 0, 0⟩ (Nat.le_refl _)
  have hget : ∀ (p : Nat) ds, (H ++ [some []])[p]? = some (some ds) → (H[p]? = some (some ds) ∧ p < H.length) ∨ (p = H.length ∧ ds = []) := by
    intro p ds hp
    rcases Nat.lt_or_ge p H.length with hlt | hge
    · rw [List.getElem?_append_left hlt] at hp
      exact .inl ⟨hp, hlt⟩
    · rw [List.getElem?_append_right hge] at hp
      rcases Nat.eq_or_lt_of_le hge with he | hgt
      · subst he; simp at hp; exact .inr ⟨rfl, hp⟩
      · rw [List.getElem?_eq_none (by simp; omega)] at hp; simp at hp
  have hu : ∀ p, p < H.length → upd ρ H.length ⟨0, 0, 0⟩ p = ρ p := fun p hp => by unfold upd; rw [if_neg (by omega)]
  have hn : upd ρ H.length ⟨0, 0, 0⟩ H.length = ⟨0, 0, 0⟩ := by unfold upd; rw [if_pos rfl]
  refine ⟨h2.trans h.os, h3.trans h.tape, h4.trans h.output, by rw [h1]; exact h.size, fun b k1 k2 => by rw [h1]; exact h.frame b k1 k2, fun p ds hp hr => ?_, fun p q ds es hp hq hr1 hr2 he => ?_, fun p ds hp hr => ?_, fun p ds hp hr => ?_⟩
  · rcases hget p ds hp with ⟨k, hlt⟩ | ⟨rfl, rfl⟩
    · rw [hu p hlt] at hr ⊢; exact h.fresh p ds k hr
    · rw [hn] at hr; exact absurd rfl hr
  · rcases hget p ds hp with ⟨k, hlt⟩ | ⟨rfl, rfl⟩
    · rw [hu p hlt] at hr1
      rcases hget q es hq with ⟨k', hlt'⟩ | ⟨rfl, rfl⟩
      · rw [hu q hlt'] at hr2
        rw [hu p hlt, hu q hlt'] at he; exact h.inj p q ds es k k' hr1 hr2 he
      · rw [hn] at hr2; exact absurd rfl hr2
    · rw [hn] at hr1; exact absurd rfl hr1
  · rcases hget p ds hp with ⟨k, hlt⟩ | ⟨rfl, rfl⟩
    · rw [hu p hlt] at hr ⊢
      refine (h.blk p ds k hr).mono ?_ (by rw [h1])
      simpa using hle
    · rw [hn] at hr; exact absurd rfl hr
  · rcases hget p ds hp with ⟨k, hlt⟩ | ⟨rfl, rfl⟩
    · rw [hu p hlt] at hr; exact h.emp p ds k hr
    · rfl

/-- A block is written. -/
theorem HRel.write {E : Env} {ρ : Nat → Place} {w w' : World} {H : Heap} (h : HRel E ρ w H) {p : Nat} {cs ds : List Cell} (hp : H[p]? = some (some cs)) (hr : (ρ p).room ≠ 0)
    {arr : Array Value} {el : TypeId} {fr : Nat × Nat}
    (h1 : w' = withBlock w (ρ p).blk (.cells arr el fr)) (hsz : arr.size = (ρ p).room) (hfr : Fz fr arr.size) (hlen : (ρ p).dl + ds.length ≤ (ρ p).room)
    (hcs : ∀ (i : Nat) c, ds[i]? = some c → ∃ v, arr[(ρ p).dl + i]? = some v ∧ v.oneCell' = true ∧ CRel (E.rl H.length ρ) c v) :
    HRel E ρ w' (H.set p (some ds)) := by
  subst h1
  have hlt := h.lt hp hr
  have hpl : p < H.length := (List.getElem?_eq_some_iff.1 hp).1
  have hget : ∀ (q : Nat) es, (H.set p (some ds))[q]? = some (some es) → (q = p ∧ es = ds) ∨ (q ≠ p ∧ H[q]? = some (some es)) := by
    intro q es hq
    rw [List.getElem?_set] at hq
    by_cases hqp : p = q
    · subst hqp
      rw [if_pos rfl, if_pos hpl] at hq
      exact .inl ⟨rfl, (Option.some.inj (Option.some.inj hq)).symm⟩
    · rw [if_neg hqp] at hq
      exact .inr ⟨fun e => hqp e.symm, hq⟩
  have hother : ∀ b, b ≠ (ρ p).blk → (withBlock w (ρ p).blk (.cells arr el fr)).heap[b]? = w.heap[b]? := fun b hb => by
    simp only [withBlock]; rw [Array.getElem?_setIfInBounds_ne (fun e => hb e.symm)]
  refine ⟨h.os, h.tape, h.output, by simpa [withBlock] using h.size, fun b k1 k2 => ?_, fun q es hq hrq => ?_, fun q r es fs hq hrr h5 h6 he => ?_, fun q es hq hrq => ?_, fun q es hq hrq => ?_⟩
  · rw [hother b (fun e => ?_)]
    · exact h.frame b k1 k2
    · subst e
      rcases h.fresh p cs hp hr with h5 | h5
      · exact k2 h5
      · omega
  · rcases hget q es hq with ⟨rfl, rfl⟩ | ⟨hne, k⟩
    · exact h.fresh q cs hp hr
    · exact h.fresh q es k hrq
  · rcases hget q es hq with ⟨rfl, rfl⟩ | ⟨hne, k⟩
    · rcases hget r fs hrr with ⟨h7, h8⟩ | ⟨hne', k'⟩
      · exact h7.symm
      · exact h.inj q r cs fs hp k' h5 h6 he
    · rcases hget r fs hrr with ⟨rfl, rfl⟩ | ⟨hne', k'⟩
      · exact h.inj q r es cs k hp h5 h6 he
      · exact h.inj q r es fs k k' h5 h6 he
  · rw [List.length_set]
    rcases hget q es hq with ⟨rfl, rfl⟩ | ⟨hne, k⟩
    · exact ⟨arr, el, fr, withBlock_get _ _ _ hlt, hsz, hfr, hlen, hcs⟩
    · exact (h.blk q es k hrq).mono (Rl.Le.refl _) (hother _ fun e => hne (h.inj q p es cs k hp hrq hr e))
  · rcases hget q es hq with ⟨rfl, rfl⟩ | ⟨hne, k⟩
    · exact absurd hrq hr
    · exact h.emp q es k hrq

theorem FRel.grow {E : Env} {ρ ρ' : Nat → Place} {n m : Nat} (h : n ≤ m) (hρ : ∀ p, p < n → ρ' p = ρ p) {fr : List S} {a : Act} (k : FRel (E.rl n ρ) fr a) : FRel (E.rl m ρ') fr a :=
  FRel.mono (R := E.rl n ρ) (R' := E.rl m ρ') ⟨fun _ hb => ⟨hb, rfl⟩, fun p hp => ⟨Nat.lt_of_lt_of_le hp h, hρ p hp⟩⟩ k
end Go.Abs

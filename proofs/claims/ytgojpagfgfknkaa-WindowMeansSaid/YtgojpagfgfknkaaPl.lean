/- Two windows at a distance answer alike; a window answers by what it took. -/
import Derived.Test.YtgojpagfgfknkaaWin
namespace Go.Proofs.Ytgojpagfgfknkaa
open Go Go.Abs Go.Proofs

/-- The second window lies s above the first. -/
def Mv2 (s : UInt64) (a b : UInt64 × UInt64) : Prop := a.2 = b.2 ∧ (a.2 = 0 ∨ (a.1.toNat < 4611686018427387904 ∧ b.1.toNat = a.1.toNat + s.toNat))

theorem moves_step {s n : UInt64} {a b : UInt64 × UInt64} (h : Mv2 s a b) (hs : s.toNat < 4611686018427387904) (hn : n.toNat < 4611686018427387904) :
    wchk true a.1 a.2 n = wchk true b.1 b.2 (n + s) ∧ Mv2 s (wnext true a.1 a.2 n) (wnext true b.1 b.2 (n + s)) := by
  obtain ⟨ga, ba⟩ := a
  obtain ⟨gb, bb⟩ := b
  obtain ⟨h1, h2⟩ := h
  simp only at h1 h2 ⊢
  subst h1
  have hns : (n + s).toNat = n.toNat + s.toNat := by rw [UInt64.toNat_add]; omega
  by_cases h0 : ba = 0
  · subst h0
    simp [wchk, wb, wnext, wtake, Mv2, hns, hn]
  · obtain ⟨h3, h4⟩ := h2.resolve_left h0
    have e0 : gb = ga + s := by apply UInt64.toNat_inj.1; rw [UInt64.toNat_add, h4]; omega
    have e1 : gb - (n + s) = ga - n := by subst e0; grind
    have e2 : (n + s) - gb = n - ga := by subst e0; grind
    have e3 : (n + s ≤ gb) = (n ≤ ga) := by
      rw [UInt64.le_iff_toNat_le, UInt64.le_iff_toNat_le, hns, h4]
      exact propext ⟨fun h => by omega, fun h => by omega⟩
    have hwb : wb gb ba (n + s) = wb ga ba n := by unfold wb; simp only [e3]
    have hch : wchk true ga ba n = wchk true gb ba (n + s) := by unfold wchk; rw [hwb, e1]
    refine ⟨hch, ?_⟩
    unfold wnext wtake
    rw [← hch, hwb, e1, e2]
    split
    · split
      · exact ⟨rfl, .inr ⟨h3, h4⟩⟩
      · split
        · exact ⟨rfl, .inr ⟨hn, hns⟩⟩
        · exact ⟨rfl, .inr ⟨hn, hns⟩⟩
    · exact ⟨rfl, .inr ⟨h3, h4⟩⟩

theorem bit_shl (b : UInt64) (k d : Nat) (hd : d < 64) : (shl64n b k).toNat.testBit d = (decide (k ≤ d) && b.toNat.testBit (d - k)) := by
  unfold shl64n
  by_cases hk : k < 64
  · have e : (b <<< UInt64.ofNat k).toNat = (b.toNat <<< k) % 2 ^ 64 := by
      rw [UInt64.toNat_shiftLeft, UInt64.toNat_ofNat', Nat.mod_eq_of_lt (show k < 2 ^ 64 by omega), Nat.mod_eq_of_lt hk]
    simp only [hk, ↓reduceIte]
    rw [e, Nat.testBit_mod_two_pow, Nat.testBit_shiftLeft]
    simp [hd]
  · simp only [hk, ↓reduceIte]
    have : ¬ k ≤ d := by omega
    simp [this]

theorem wbit_iff (b d : UInt64) (hd : d.toNat < 64) : wbit b d ↔ b.toNat.testBit d.toNat = true := by
  unfold wbit shr64n
  simp only [hd, ↓reduceIte]
  rw [← UInt64.toNat_inj, UInt64.toNat_and, UInt64.toNat_shiftRight, UInt64.toNat_ofNat', Nat.mod_eq_of_lt (show d.toNat < 2 ^ 64 by omega), Nat.mod_eq_of_lt hd]
  show b.toNat >>> d.toNat &&& 1 = 1 ↔ _
  rw [Nat.testBit, bne_iff_ne, Nat.and_comm]
  have : 1 &&& b.toNat >>> d.toNat < 2 := by rw [Nat.and_comm, Nat.and_one_is_mod]; omega
  constructor
  · intro h; omega
  · intro h; omega

/-- What a window holds that took these numbers. -/
structure Inv (l : List UInt64) (g b : UInt64) : Prop where
  nil : b = 0 ↔ l = []
  top : l ≠ [] → g ∈ l ∧ ∀ x ∈ l, x.toNat ≤ g.toNat
  bits : ∀ d, d < 64 → (b.toNat.testBit d = true ↔ ∃ x ∈ l, x.toNat + d = g.toNat)

theorem inv_nil : Inv [] 0 0 := ⟨by simp, by simp, by simp⟩

theorem take_new {l : List UInt64} {g b n : UInt64} (I : Inv l g b) (h : wchk true g b n = 0) : n ∉ l := by
  intro hn
  have hl : l ≠ [] := List.ne_nil_of_mem hn
  have hb : b ≠ 0 := fun h => hl (I.nil.1 h)
  have hle := (I.top hl).2 n hn
  have hw : wb g b n = true := by simp [wb, hb, UInt64.le_iff_toNat_le, hle]
  have hs : (g - n).toNat = g.toNat - n.toNat := UInt64.toNat_sub_of_le _ _ (UInt64.le_iff_toNat_le.2 hle)
  simp only [wchk, hw, ↓reduceIte] at h
  split at h
  · cases h
  · rename_i hc
    simp only [not_or, UInt64.le_iff_toNat_le, hs] at hc
    obtain ⟨h1, h2⟩ := hc
    have h64 : (64 : UInt64).toNat = 64 := rfl
    rw [h64] at h1
    exact h2 ((wbit_iff b (g - n) (by omega)).2 (by rw [hs]; exact (I.bits _ (by omega)).2 ⟨n, hn, by omega⟩))

theorem take_inv {l : List UInt64} {g b n : UInt64} (I : Inv l g b) (h : wchk true g b n = 0) : Inv (l ++ [n]) (wnext true g b n).1 (wnext true g b n).2 := by
  have h64 : (64 : UInt64).toNat = 64 := rfl
  have key : ∀ g' b' : UInt64, (∀ d, d < 64 → (b'.toNat.testBit d = true ↔ ∃ x ∈ l ++ [n], x.toNat + d = g'.toNat)) → (g' ∈ l ++ [n] ∧ ∀ x ∈ l ++ [n], x.toNat ≤ g'.toNat) → Inv (l ++ [n]) g' b' := by
    intro g' b' h1 h2
    refine ⟨⟨fun h => ?_, fun h => by simp at h⟩, fun _ => h2, h1⟩
    have := (h1 0 (by omega)).2 ⟨g', h2.1, rfl⟩
    rw [h] at this
    simp at this
  unfold wnext
  rw [if_pos h]
  unfold wtake
  by_cases hw : wb g b n = true
  · rw [if_pos hw]
    simp only [wb, Bool.and_eq_true, decide_eq_true_eq, UInt64.le_iff_toNat_le] at hw
    have hl : l ≠ [] := fun h => hw.1 (I.nil.2 h)
    have hs : (g - n).toNat = g.toNat - n.toNat := UInt64.toNat_sub_of_le _ _ (UInt64.le_iff_toNat_le.2 hw.2)
    refine key g (b ||| shl64n 1 (g - n).toNat) (fun d hd => ?_) ⟨by simp [(I.top hl).1], fun x hx => ?_⟩
    · rw [UInt64.toNat_or, Nat.testBit_or, bit_shl _ _ _ hd, Bool.or_eq_true, I.bits d hd, hs]
      constructor
      · rintro (⟨x, hx, e⟩ | hx)
        · exact ⟨x, by simp [hx], e⟩
        · simp only [Bool.and_eq_true, decide_eq_true_eq] at hx
          obtain ⟨hx1, hx2⟩ := hx
          have hw2 := hw.2
          have : d - (g.toNat - n.toNat) = 0 := by
            have := hx2
            rcases Nat.eq_zero_or_pos (d - (g.toNat - n.toNat)) with h0 | h0
            · exact h0
            · rw [show (1 : UInt64).toNat = 2 ^ 0 from rfl, Nat.testBit_two_pow] at this
              simp at this; omega
          exact ⟨n, by simp, by omega⟩
      · rintro ⟨x, hx, e⟩
        rcases List.mem_append.1 hx with hx | hx
        · exact .inl ⟨x, hx, e⟩
        · obtain rfl := List.mem_singleton.1 hx
          right
          have : d - (g.toNat - x.toNat) = 0 := by omega
          rw [this]
          have : g.toNat - x.toNat ≤ d := by omega
          simp [this]
    · rcases List.mem_append.1 hx with hx | hx
      · exact (I.top hl).2 x hx
      · obtain rfl := List.mem_singleton.1 hx
        exact hw.2
  · rw [if_neg hw]
    by_cases hb : b = 0
    · rw [if_pos hb]
      have hl := I.nil.1 hb
      subst hl
      refine key n 1 (fun d hd => ?_) ⟨by simp, by simp⟩
      rw [show (1 : UInt64).toNat = 2 ^ 0 from rfl, Nat.testBit_two_pow]
      simp; omega
    · rw [if_neg hb]
      have hl : l ≠ [] := fun h => hb (I.nil.2 h)
      have hgt : g.toNat < n.toNat := by
        simp [wb, hb, UInt64.le_iff_toNat_le] at hw
        have := UInt64.lt_iff_toNat_lt.1 hw
        exact this
      have hs : (n - g).toNat = n.toNat - g.toNat := UInt64.toNat_sub_of_le _ _ (UInt64.le_iff_toNat_le.2 (by omega))
      have htop : n ∈ l ++ [n] ∧ ∀ x ∈ l ++ [n], x.toNat ≤ n.toNat := ⟨by simp, fun x hx => by
        rcases List.mem_append.1 hx with hx | hx
        · have := (I.top hl).2 x hx; omega
        · obtain rfl := List.mem_singleton.1 hx; exact Nat.le_refl _⟩
      split
      · rename_i h1
        rw [UInt64.le_iff_toNat_le, hs, h64] at h1
        refine key n (0 ||| 1) (fun d hd => ?_) htop
        rw [show ((0 : UInt64) ||| 1).toNat = 2 ^ 0 from rfl, Nat.testBit_two_pow]
        simp only [decide_eq_true_eq]
        constructor
        · intro h0; exact ⟨n, by simp, by omega⟩
        · rintro ⟨x, hx, e⟩
          rcases List.mem_append.1 hx with hx | hx
          · have := (I.top hl).2 x hx; omega
          · obtain rfl := List.mem_singleton.1 hx; omega
      · rename_i h1
        rw [UInt64.le_iff_toNat_le, hs, h64] at h1
        refine key n (shl64n b (n - g).toNat ||| 1) (fun d hd => ?_) htop
        rw [UInt64.toNat_or, Nat.testBit_or, bit_shl _ _ _ hd, hs, show (1 : UInt64).toNat = 2 ^ 0 from rfl, Nat.testBit_two_pow]
        simp only [Bool.or_eq_true, Bool.and_eq_true, decide_eq_true_eq]
        constructor
        · rintro (⟨h2, h3⟩ | h0)
          · obtain ⟨x, hx, e⟩ := (I.bits _ (by omega)).1 h3
            exact ⟨x, by simp [hx], by omega⟩
          · exact ⟨n, by simp, by omega⟩
        · rintro ⟨x, hx, e⟩
          rcases List.mem_append.1 hx with hx | hx
          · have := (I.top hl).2 x hx
            left
            exact ⟨by omega, (I.bits _ (by omega)).2 ⟨x, hx, by omega⟩⟩
          · obtain rfl := List.mem_singleton.1 hx
            right; omega

/-- A number no more than 63 below the greatest: refused only if it came. -/
theorem take_near {l : List UInt64} {g b n : UInt64} (I : Inv l g b) (hn : n ∉ l) (hd : ∀ x ∈ l, x.toNat < n.toNat + 64) : wchk true g b n = 0 := by
  have h64 : (64 : UInt64).toNat = 64 := rfl
  simp only [wchk, ↓reduceIte]
  split
  · rename_i hw
    simp only [wb, Bool.and_eq_true, decide_eq_true_eq, UInt64.le_iff_toNat_le] at hw
    have hl : l ≠ [] := fun h => hw.1 (I.nil.2 h)
    have hs : (g - n).toNat = g.toNat - n.toNat := UInt64.toNat_sub_of_le _ _ (UInt64.le_iff_toNat_le.2 hw.2)
    have := hd g (I.top hl).1
    rw [if_neg]
    rintro (h1 | h1)
    · rw [UInt64.le_iff_toNat_le, hs, h64] at h1; omega
    · rw [wbit_iff b (g - n) (by omega), hs, I.bits _ (by omega)] at h1
      obtain ⟨x, hx, e⟩ := h1
      have : x = n := UInt64.toNat_inj.1 (by omega)
      exact hn (this ▸ hx)
  · rfl
end Go.Proofs.Ytgojpagfgfknkaa

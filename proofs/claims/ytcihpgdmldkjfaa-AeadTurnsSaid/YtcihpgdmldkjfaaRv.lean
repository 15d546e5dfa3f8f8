/- The reference's numbers of base 256. -/
import Derived.Test.YtcihpgdmldkjfaaRs
namespace Go.Proofs.Ytcihpgdmldkjfaa.Po
open Go Go.Abs Go.Proofs

/-- The number of the first digits. -/
def Dv (d : List UInt64) : Nat → Nat
  | 0 => 0
  | i + 1 => Dv d i + 256 ^ i * (d.getD i 0).toNat
theorem getD_set (d : List UInt64) (i j : Nat) (x : UInt64) (h : i < d.length) : (d.set i x).getD j 0 = if i = j then x else d.getD j 0 := by
  simp only [List.getD_eq_getElem?_getD, List.getElem?_set]
  by_cases e : i = j
  · subst e; simp [h]
  · simp [e]
theorem Dv_congr {d e : List UInt64} : ∀ n, (∀ i, i < n → d.getD i 0 = e.getD i 0) → Dv d n = Dv e n
  | 0, _ => rfl
  | n + 1, h => by rw [Dv, Dv, Dv_congr n fun i hi => h i (by omega), h n (by omega)]
theorem Dv_set (d : List UInt64) (i : Nat) (x : UInt64) (h : i < d.length) : ∀ n, i < n → Dv (d.set i x) n + 256 ^ i * (d.getD i 0).toNat = Dv d n + 256 ^ i * x.toNat
  | 0, hn => by omega
  | n + 1, hn => by
    rw [Dv, Dv]
    by_cases e : i = n
    · subst e
      rw [getD_set d i i x h, if_pos rfl, Dv_congr (e := d) i fun j hj => by rw [getD_set d i j x h, if_neg (by omega)]]
      omega
    · have := Dv_set d i x h n (by omega)
      rw [getD_set d i n x h, if_neg e]
      omega
theorem Dv_ge (d : List UInt64) (i : Nat) : ∀ n, i < n → 256 ^ i * (d.getD i 0).toNat ≤ Dv d n
  | 0, h => by omega
  | n + 1, h => by
    rw [Dv]
    by_cases e : i = n
    · subst e; omega
    · have := Dv_ge d i n (by omega); omega
theorem Dv_lt (d : List UInt64) : ∀ n, (∀ i, i < n → (d.getD i 0).toNat < 256) → Dv d n < 256 ^ n
  | 0, _ => by simp [Dv]
  | n + 1, h => by
    have h1 := Dv_lt d n fun i hi => h i (by omega)
    have h2 := h n (by omega)
    have h3 : 256 ^ n * (d.getD n 0).toNat ≤ 256 ^ n * 255 := Nat.mul_le_mul_left _ (by omega)
    rw [Dv, Nat.pow_succ]; omega
theorem Dv_zero (m : Nat) : ∀ n, Dv (List.replicate m 0) n = 0
  | 0 => rfl
  | n + 1 => by
    rw [Dv, Dv_zero m n]
    have : (List.replicate m (0 : UInt64)).getD n 0 = 0 := by
      rw [List.getD_eq_getElem?_getD, List.getElem?_replicate]; split <;> rfl
    rw [this]; rfl
theorem rep_get (m n : Nat) : (List.replicate m (0 : UInt64)).getD n 0 = 0 := by
  rw [List.getD_eq_getElem?_getD, List.getElem?_replicate]; split <;> rfl
/-- Digits that are no great ones. -/
def Bd (d : List UInt64) (b : Nat) : Prop := ∀ i, (d.getD i 0).toNat ≤ b
theorem mod256 (x : UInt64) : (x % 256).toNat = x.toNat % 256 := by rw [UInt64.toNat_mod]; rfl
theorem div256 (x : UInt64) : (x / 256).toNat = x.toNat / 256 := by rw [UInt64.toNat_div]; rfl
theorem nrm_spec (d : List UInt64) (hb : Bd d 9223372036854775808) : ∀ i, i ≤ d.length → (∀ j, i ≤ j → (nrm d i).1.getD j 0 = d.getD j 0) ∧ (∀ j, j < i → ((nrm d i).1.getD j 0).toNat < 256) ∧
    (nrm d i).2.toNat ≤ 72057594037927936 ∧ Dv d i = Dv (nrm d i).1 i + 256 ^ i * (nrm d i).2.toNat
  | 0, _ => ⟨fun _ _ => rfl, fun j h => by omega, by show (0 : UInt64).toNat ≤ _; decide, by simp [Dv, nrm]⟩
  | i + 1, hi => by
    obtain ⟨h1, h2, h3, h4⟩ := nrm_spec d hb i (by omega)
    have hl := nrm_len d i
    have e := h1 i (Nat.le_refl _)
    have hd := hb i
    have hx : ((nrm d i).1.getD i 0 + (nrm d i).2).toNat = (d.getD i 0).toNat + (nrm d i).2.toNat := by
      rw [e, UInt64.toNat_add]; omega
    rw [nrm]
    refine ⟨fun j hj => ?_, fun j hj => ?_, ?_, ?_⟩
    · rw [getD_set _ _ _ _ (by omega), if_neg (by omega)]; exact h1 j (by omega)
    · rw [getD_set _ _ _ _ (by omega)]
      split
      · rw [mod256]; omega
      · exact h2 j (by omega)
    · rw [div256, hx]; omega
    · rw [Dv, h4, Dv, getD_set _ _ _ _ (by omega), if_pos rfl, mod256, div256, hx, Nat.pow_succ, Nat.mul_assoc,
        Dv_congr (d := (nrm d i).1.set i (((nrm d i).1.getD i 0 + (nrm d i).2) % 256)) (e := (nrm d i).1) i fun j hj => by rw [getD_set _ _ _ _ (by omega), if_neg (by omega)]]
      generalize (nrm d i).2.toNat = c
      generalize (d.getD i 0).toNat = u
      have : 256 ^ i * ((u + c) % 256) + 256 ^ i * (256 * ((u + c) / 256)) = 256 ^ i * (u + c) := by rw [← Nat.mul_add, Nat.mod_add_div]
      rw [Nat.mul_add] at this
      omega
theorem fld_spec (d : List UInt64) (hl : d.length = 34) (hb : Bd d 255) : ∀ j, j ≤ 18 →
    Dv (fld d j).1 34 + 1361129467683753853853498429727072845824 * Dv (fld d j).2 34 = Dv d 34 ∧ (∀ k, 16 + j ≤ k → (fld d j).1.getD k 0 = d.getD k 0) ∧
      (∀ k, 16 < k → k < 16 + j → (fld d j).1.getD k 0 = 0) ∧ (0 < j → ((fld d j).1.getD 16 0).toNat < 4) ∧ Bd (fld d j).1 255 ∧ Bd (fld d j).2 255 ∧
      (∀ k, j ≤ k → (fld d j).2.getD k 0 = 0) ∧ (∀ k, k + 1 = j → ((fld d j).2.getD k 0).toNat ≤ 63)
  | 0, _ => ⟨by rw [fld, Dv_zero]; rfl, fun _ _ => rfl, fun k h h' => by omega, fun h => by omega, hb, fun i => by rw [fld, rep_get]; decide, fun k _ => by rw [fld, rep_get], fun k h => by omega⟩
  | j + 1, hj => by
    obtain ⟨h1, h2, h3, h4, h5, h6, h7, h8⟩ := fld_spec d hl hb j (by omega)
    obtain ⟨l1, l2⟩ := fld_len d j
    have hd := hb (16 + j)
    have e := h2 (16 + j) (Nat.le_refl _)
    have u0 := h7 j (Nat.le_refl _)
    have q4 : ((fld d j).1.getD (16 + j) 0 / 4).toNat = (d.getD (16 + j) 0).toNat / 4 := by rw [e, UInt64.toNat_div]; rfl
    have m4 : ((fld d j).1.getD (16 + j) 0 % 4).toNat = (d.getD (16 + j) 0).toNat % 4 := by rw [e, UInt64.toNat_mod]; rfl
    have hj16 : 16 + j - 16 = j := by omega
    have uu : ((fld d j).2.getD j 0 + (fld d j).1.getD (16 + j) 0 / 4).toNat = (d.getD (16 + j) 0).toNat / 4 := by
      rw [u0, UInt64.toNat_add, q4]
      have : UInt64.toNat 0 = 0 := rfl
      rw [this]; omega
    have p130 : (1361129467683753853853498429727072845824 : Nat) = 256 ^ 16 * 4 := by decide
    rw [fld]
    split
    · rename_i hlt
      obtain ⟨t, rfl⟩ : ∃ t, j = t + 1 := ⟨j - 1, by omega⟩
      have ht := h8 t rfl
      have hjt : 16 + (t + 1) - 17 = t := by omega
      rw [hj16, hjt]
      simp only
      generalize hA : (fld d (t + 1)).1 = A at *
      generalize hU : (fld d (t + 1)).2 = U at *
      have g1 : (U.set (t + 1) (U.getD (t + 1) 0 + A.getD (16 + (t + 1)) 0 / 4)).getD t 0 = U.getD t 0 := by rw [getD_set _ _ _ _ (by omega), if_neg (by omega)]
      have vv : ((U.set (t + 1) (U.getD (t + 1) 0 + A.getD (16 + (t + 1)) 0 / 4)).getD t 0 + A.getD (16 + (t + 1)) 0 % 4 * 64).toNat = (U.getD t 0).toNat + (d.getD (16 + (t + 1)) 0).toNat % 4 * 64 := by
        rw [g1, UInt64.toNat_add, UInt64.toNat_mul, m4]
        have : UInt64.toNat 64 = 64 := rfl
        rw [this]; omega
      have z : UInt64.toNat 0 = 0 := rfl
      refine ⟨?_, fun k hk => ?_, fun k hk hk' => ?_, fun _ => ?_, fun k => ?_, fun k => ?_, fun k hk => ?_, fun k hk => ?_⟩
      · have s1 := Dv_set A (16 + (t + 1)) 0 (by omega) 34 (by omega)
        have s2 := Dv_set U (t + 1) (U.getD (t + 1) 0 + A.getD (16 + (t + 1)) 0 / 4) (by omega) 34 (by omega)
        have s3 := Dv_set (U.set (t + 1) (U.getD (t + 1) 0 + A.getD (16 + (t + 1)) 0 / 4)) t ((U.set (t + 1) (U.getD (t + 1) 0 + A.getD (16 + (t + 1)) 0 / 4)).getD t 0 + A.getD (16 + (t + 1)) 0 % 4 * 64) (by rw [List.length_set]; omega) 34 (by omega)
        generalize (U.set (t + 1) (U.getD (t + 1) 0 + A.getD (16 + (t + 1)) 0 / 4)).set t ((U.set (t + 1) (U.getD (t + 1) 0 + A.getD (16 + (t + 1)) 0 / 4)).getD t 0 + A.getD (16 + (t + 1)) 0 % 4 * 64) = U2 at s3 ⊢
        rw [vv, g1, Nat.mul_add] at s3
        generalize U.set (t + 1) (U.getD (t + 1) 0 + A.getD (16 + (t + 1)) 0 / 4) = U1 at s2 s3
        generalize A.set (16 + (t + 1)) 0 = A1 at s1 ⊢
        rw [uu, u0, z, Nat.mul_zero, Nat.add_zero] at s2
        rw [e, z, Nat.mul_zero, Nat.add_zero] at s1
        have w : 256 ^ (16 + (t + 1)) * (d.getD (16 + (t + 1)) 0).toNat = 1361129467683753853853498429727072845824 * (256 ^ (t + 1) * ((d.getD (16 + (t + 1)) 0).toNat / 4)) + 1361129467683753853853498429727072845824 * (256 ^ t * ((d.getD (16 + (t + 1)) 0).toNat % 4 * 64)) := by
          generalize (d.getD (16 + (t + 1)) 0).toNat = x
          have e1 : (256 : Nat) ^ (16 + (t + 1)) = 340282366920938463463374607431768211456 * (256 * 256 ^ t) := by
            rw [Nat.pow_add, show (256 : Nat) ^ 16 = 340282366920938463463374607431768211456 by decide, Nat.pow_succ']
          rw [e1, Nat.pow_succ']
          generalize 256 ^ t = P
          have key : P * x = 4 * (P * (x / 4)) + P * (x % 4) := by rw [Nat.mul_left_comm, ← Nat.mul_add, Nat.div_add_mod]
          have k1 : P * (x % 4 * 64) = 64 * (P * (x % 4)) := by rw [Nat.mul_comm (x % 4), Nat.mul_left_comm]
          rw [k1, Nat.mul_assoc, Nat.mul_assoc, Nat.mul_assoc, key]
          omega
        omega
      · rw [getD_set _ _ _ _ (by omega), if_neg (by omega)]; exact h2 k (by omega)
      · rw [getD_set _ _ _ _ (by omega)]
        split
        · rfl
        · exact h3 k hk (by omega)
      · rw [getD_set _ _ _ _ (by omega), if_neg (by omega)]; exact h4 (by omega)
      · rw [getD_set _ _ _ _ (by omega)]
        split
        · decide
        · exact h5 k
      · rw [getD_set _ _ _ _ (by rw [List.length_set]; omega)]
        split
        · rw [vv]; omega
        · rw [getD_set _ _ _ _ (by omega)]
          split
          · rw [uu]; omega
          · exact h6 k
      · rw [getD_set _ _ _ _ (by rw [List.length_set]; omega), if_neg (by omega), getD_set _ _ _ _ (by omega), if_neg (by omega)]; exact h7 k (by omega)
      · have : k = t + 1 := by omega
        subst this
        rw [getD_set _ _ _ _ (by rw [List.length_set]; omega), if_neg (by omega), getD_set _ _ _ _ (by omega), if_pos rfl, uu]; omega
    · have hj0 : j = 0 := by omega
      subst hj0
      rw [hj16]
      simp only
      generalize hA : (fld d 0).1 = A at *
      generalize hU : (fld d 0).2 = U at *
      have z : UInt64.toNat 0 = 0 := rfl
      refine ⟨?_, fun k hk => ?_, fun k hk hk' => by omega, fun _ => ?_, fun k => ?_, fun k => ?_, fun k hk => ?_, fun k hk => ?_⟩
      · have s1 := Dv_set A (16 + 0) (A.getD (16 + 0) 0 % 4) (by omega) 34 (by omega)
        have s2 := Dv_set U 0 (U.getD 0 0 + A.getD (16 + 0) 0 / 4) (by omega) 34 (by omega)
        generalize U.set 0 (U.getD 0 0 + A.getD (16 + 0) 0 / 4) = U1 at s2 ⊢
        generalize A.set (16 + 0) (A.getD (16 + 0) 0 % 4) = A1 at s1 ⊢
        rw [uu, u0, z, Nat.mul_zero, Nat.add_zero] at s2
        rw [m4, e] at s1
        omega
      · rw [getD_set _ _ _ _ (by omega), if_neg (by omega)]; exact h2 k (by omega)
      · rw [getD_set _ _ _ _ (by omega), if_pos rfl, m4]; omega
      · rw [getD_set _ _ _ _ (by omega)]
        split
        · rw [m4]; omega
        · exact h5 k
      · rw [getD_set _ _ _ _ (by omega)]
        split
        · rw [uu]; omega
        · exact h6 k
      · rw [getD_set _ _ _ _ (by omega), if_neg (by omega)]; exact h7 k (by omega)
      · have : k = 0 := by omega
        subst this
        rw [getD_set _ _ _ _ (by omega), if_pos rfl, uu]; omega
theorem add5_spec (d u : List UInt64) (hl : d.length = 34) (hd : Bd d 255) (hu : Bd u 255) : ∀ i, i ≤ 34 → (∀ j, i ≤ j → (add5 d u i).getD j 0 = d.getD j 0) ∧ Bd (add5 d u i) 1530 ∧ Dv (add5 d u i) 34 = Dv d 34 + 5 * Dv u i
  | 0, _ => ⟨fun _ _ => rfl, fun i => Nat.le_trans (hd i) (by decide), by simp [add5, Dv]⟩
  | i + 1, hi => by
    obtain ⟨h1, h2, h3⟩ := add5_spec d u hl hd hu i (by omega)
    have hl' := (add5_len d u i).trans hl
    have e := h1 i (Nat.le_refl _)
    have b1 := hd i
    have b2 := hu i
    have hx : ((add5 d u i).getD i 0 + 5 * u.getD i 0).toNat = (d.getD i 0).toNat + 5 * (u.getD i 0).toNat := by
      rw [e, UInt64.toNat_add, UInt64.toNat_mul, show UInt64.toNat 5 = 5 from rfl]; omega
    rw [add5]
    refine ⟨fun j hj => ?_, fun j => ?_, ?_⟩
    · rw [getD_set _ _ _ _ (by omega), if_neg (by omega)]; exact h1 j (by omega)
    · rw [getD_set _ _ _ _ (by omega)]
      split
      · rw [hx]; omega
      · exact h2 j
    · have s := Dv_set (add5 d u i) i ((add5 d u i).getD i 0 + 5 * u.getD i 0) (by omega) 34 (by omega)
      have hd' : Dv u (i + 1) = Dv u i + 256 ^ i * (u.getD i 0).toNat := rfl
      generalize (add5 d u i).set i ((add5 d u i).getD i 0 + 5 * u.getD i 0) = N at s ⊢
      rw [hx, e, h3, Nat.mul_add, Nat.mul_left_comm] at s
      rw [hd', Nat.mul_add]
      omega
end Go.Proofs.Ytcihpgdmldkjfaa.Po

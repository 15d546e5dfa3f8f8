/- The mark and the reference's mark are one. -/
import Derived.Test.YtcihpgdmldkjfaaRw
namespace Go.Proofs.Ytcihpgdmldkjfaa.Po
open Go Go.Abs Go.Proofs

theorem byt_and (x m : UInt64) (i : Nat) (h : i < 8) : byt (x &&& m) i = byt x i &&& byt m i := by
  apply UInt8.toNat_inj.1
  rw [UInt8.toNat_and, byt_nat _ _ h, byt_nat _ _ h, byt_nat _ _ h, UInt64.toNat_and]
  rw [show (256 : Nat) ^ i = 2 ^ (8 * i) by rw [Nat.pow_mul], show (256 : Nat) = 2 ^ 8 by decide, Nat.and_div_two_pow, Nat.and_mod_two_pow]
theorem byt_half (l : List UInt8) (i : Nat) (h : i < 8) : byt (half l) i = l.getD i 0 := by
  apply UInt8.toNat_inj.1
  rw [byt_nat _ _ h, half_nat, Fv_digit _ 8 i h]
theorem Fv_all (x : UInt64) : x.toNat = Fv (byt x) 8 := by
  rw [Fv_byt x 8 (by decide), Nat.mod_eq_of_lt x.toNat_lt]
theorem and15 (b : UInt8) : b &&& 15 = b % 16 := by
  apply UInt8.toNat_inj.1
  rw [UInt8.toNat_and, UInt8.toNat_mod]
  exact Nat.and_two_pow_sub_one_eq_mod b.toNat 4
theorem and252 : ∀ b : UInt8, (b &&& 252).toNat = b.toNat / 4 * 4 := by
  intro b
  have : ∀ n : Fin 256, ((UInt8.ofNat n.1) &&& 252).toNat = n.1 / 4 * 4 := by decide +kernel
  have h := this ⟨b.toNat, b.toNat_lt⟩
  simpa using h
theorem and255 (b : UInt8) : b &&& 255 = b := by
  apply UInt8.toNat_inj.1
  rw [UInt8.toNat_and]
  have := b.toNat_lt
  rw [show UInt8.toNat 255 = 2 ^ 8 - 1 from rfl, Nat.and_two_pow_sub_one_eq_mod]
  omega
theorem rr_get (key : List UInt8) : ∀ i, i ≤ 16 → ∀ j, j < i → (rr key i).getD j 0 = rv key j
  | 0, _, j, h => by omega
  | i + 1, h, j, hj => by
    have hl := rr_len key i
    rw [rr, getD_set _ _ _ _ (by omega)]
    split
    · rename_i e; rw [e]
    · exact rr_get key i (by omega) j (by omega)
/-- The factor's bytes. -/
def kb8 (key : List UInt8) (i : Nat) : UInt8 := if i < 8 then key.getD i 0 &&& byt 1152921487695413247 i else key.getD i 0 &&& byt 1152921487695413244 (i - 8)
theorem rv_kb8 (key : List UInt8) (i : Nat) (h : i < 16) : (rv key i).toNat = (kb8 key i).toNat := by
  have m0 : byt 1152921487695413247 0 = 255 ∧ byt 1152921487695413247 1 = 255 ∧ byt 1152921487695413247 2 = 255 ∧ byt 1152921487695413247 3 = 15 ∧ byt 1152921487695413247 4 = 252 ∧ byt 1152921487695413247 5 = 255 ∧ byt 1152921487695413247 6 = 255 ∧ byt 1152921487695413247 7 = 15 := by decide +kernel
  have m1 : byt 1152921487695413244 0 = 252 ∧ byt 1152921487695413244 1 = 255 ∧ byt 1152921487695413244 2 = 255 ∧ byt 1152921487695413244 3 = 15 ∧ byt 1152921487695413244 4 = 252 ∧ byt 1152921487695413244 5 = 255 ∧ byt 1152921487695413244 6 = 255 ∧ byt 1152921487695413244 7 = 15 := by decide +kernel
  obtain ⟨a0, a1, a2, a3, a4, a5, a6, a7⟩ := m0
  obtain ⟨b0, b1, b2, b3, b4, b5, b6, b7⟩ := m1
  have t16 : ∀ b : UInt8, (b.toUInt64 % 16).toNat = (b % 16).toNat := fun b => by
    rw [UInt64.toNat_mod, UInt8.toNat_mod, UInt8.toNat_toUInt64]; rfl
  have t4 : ∀ b : UInt8, (b.toUInt64 / 4 * 4).toNat = b.toNat / 4 * 4 := fun b => by
    have := b.toNat_lt
    rw [UInt64.toNat_mul, UInt64.toNat_div, UInt8.toNat_toUInt64, show UInt64.toNat 4 = 4 from rfl]; omega
  have hi : i = 0 ∨ i = 1 ∨ i = 2 ∨ i = 3 ∨ i = 4 ∨ i = 5 ∨ i = 6 ∨ i = 7 ∨ i = 8 ∨ i = 9 ∨ i = 10 ∨ i = 11 ∨ i = 12 ∨ i = 13 ∨ i = 14 ∨ i = 15 := by omega
  rcases hi with rfl | rfl | rfl | rfl | rfl | rfl | rfl | rfl | rfl | rfl | rfl | rfl | rfl | rfl | rfl | rfl <;>
    simp [-UInt8.toNat_and, rv, rv1, kb8, a0, a1, a2, a3, a4, a5, a6, a7, b0, b1, b2, b3, b4, b5, b6, b7, and15, and252, and255, t16, t4]
theorem Dv_Fv (d : List UInt64) (f : Nat → UInt8) : ∀ n, (∀ i, i < n → (d.getD i 0).toNat = (f i).toNat) → Dv d n = Fv f n
  | 0, _ => rfl
  | n + 1, h => by rw [Dv, Fv, Dv_Fv d f n fun i hi => h i (by omega), h n (by omega)]
theorem factor (key : List UInt8) : Dv (rr key 16) 16 = ((rk key).getD 0 0).toNat + 18446744073709551616 * ((rk key).getD 1 0).toNat := by
  rw [Dv_Fv (rr key 16) (kb8 key) 16 fun i hi => by rw [rr_get key 16 (by decide) i hi]; exact rv_kb8 key i hi]
  rw [show (16 : Nat) = 8 + 8 from rfl, Fv_add]
  have e0 : ((rk key).getD 0 0).toNat = Fv (kb8 key) 8 := by
    show (half key &&& 1152921487695413247).toNat = _
    rw [Fv_all]
    refine Fv_congr 8 fun i hi => ?_
    rw [byt_and _ _ _ hi, byt_half _ _ hi, kb8, if_pos hi]
  have e1 : ((rk key).getD 1 0).toNat = Fv (fun i => kb8 key (8 + i)) 8 := by
    show (half (kq key 8) &&& 1152921487695413244).toNat = _
    rw [Fv_all]
    refine Fv_congr 8 fun i hi => ?_
    rw [byt_and _ _ _ hi, byt_half _ _ hi, kq_get key 8 i hi (by decide), kb8, if_neg (by omega), Nat.add_sub_cancel_left]
  rw [e0, e1]
theorem factor_lt (key : List UInt8) : ((rk key).getD 0 0).toNat + 18446744073709551616 * ((rk key).getD 1 0).toNat < 21267647932558653966460912964485513216 := by
  have h0 := ((rk key).getD 0 0).toNat_lt
  have h1 : ((rk key).getD 1 0).toNat ≤ 1152921487695413244 := by
    show (half (kq key 8) &&& 1152921487695413244).toNat ≤ _
    rw [UInt64.toNat_and]; exact Nat.and_le_right
  omega
theorem rr_bd (key : List UInt8) : Bd (rr key 16) 255 := fun i => by
  by_cases h : i < 16
  · rw [rr_get key 16 (by decide) i h, rv_kb8 key i h]
    have := (kb8 key i).toNat_lt
    omega
  · rw [getD_out _ _ (by rw [rr_len]; omega)]; decide
theorem raw_get (m : List UInt8) (q k i : Nat) (hk : k ≤ 16) (hq : q + k ≤ m.length) (hi : i < 24) : (raw m q k).getD i 0 = if i < k then m.getD (q + i) 0 else 0 := by
  have e : raw m q k = (m.drop q).take k ++ List.replicate (24 - k) 0 := by
    have e1 : (((m.drop q).take (k * 1)).take (min k 24 * 1)) = (m.drop q).take k := by
      rw [Nat.mul_one, Nat.mul_one, List.take_take]; congr 1; omega
    have e2 : ((m.drop q).take k).length = k := by rw [List.length_take, List.length_drop]; omega
    rw [raw, e1, sp, e2, Nat.zero_add, List.take_zero, List.nil_append, List.drop_replicate]
  rw [e, List.getD_eq_getElem?_getD, List.getElem?_append]
  have e2 : ((m.drop q).take k).length = k := by rw [List.length_take, List.length_drop]; omega
  rw [e2]
  split
  · rename_i h
    rw [List.getElem?_take, if_pos h, List.getElem?_drop, ← List.getD_eq_getElem?_getD]
  · rw [List.getElem?_replicate]; split <;> rfl
theorem piece_get (m : List UInt8) (q k i : Nat) (hk : k ≤ 16) (hq : q + k ≤ m.length) (hi : i < 24) : (piece m q k).getD i 0 = if i < k then m.getD (q + i) 0 else if i = k then 1 else 0 := by
  have hl := raw_len m q k hk
  have e : piece m q k = (raw m q k).set k 1 := rfl
  rw [e, List.getD_eq_getElem?_getD, List.getElem?_set]
  by_cases h : k = i
  · subst h; rw [if_pos rfl, if_pos (by omega), if_neg (by omega), if_pos rfl]; rfl
  · rw [if_neg h, ← List.getD_eq_getElem?_getD, raw_get m q k i hk hq hi]
    split
    · rfl
    · rw [if_neg (by omega)]
theorem Fv_zero (f : Nat → UInt8) : ∀ n, (∀ i, i < n → f i = 0) → Fv f n = 0
  | 0, _ => rfl
  | n + 1, h => by rw [Fv, Fv_zero f n fun i hi => h i (by omega), h n (by omega)]; rfl
theorem piece_nat (m : List UInt8) (q k : Nat) (hk : k ≤ 16) (hq : q + k ≤ m.length) : Fv (fun i => (piece m q k).getD i 0) 24 = Pn m q k := by
  obtain ⟨b, hb⟩ : ∃ b, 24 = k + (1 + b) := ⟨24 - k - 1, by omega⟩
  rw [hb, Fv_add, Fv_add (fun i => (piece m q k).getD (k + i) 0) 1 b]
  have e1 : Fv (fun i => (piece m q k).getD i 0) k = Fv (fun i => m.getD (q + i) 0) k := Fv_congr k fun i hi => by
    rw [piece_get m q k i hk hq (by omega), if_pos hi]
  have e2 : Fv (fun i => (piece m q k).getD (k + i) 0) 1 = 1 := by
    show 0 + 256 ^ 0 * ((piece m q k).getD (k + 0) 0).toNat = 1
    rw [piece_get m q k (k + 0) hk hq (by omega), if_neg (by omega), if_pos (by omega)]; rfl
  have e3 : Fv (fun i => (piece m q k).getD (k + (1 + i)) 0) b = 0 := Fv_zero _ b fun i hi => by
    rw [piece_get m q k (k + (1 + i)) hk hq (by omega), if_neg (by omega), if_neg (by omega)]
  rw [e1, e2, e3]
  simp [Pn]
theorem pat_get (P : List UInt8) (i t : Nat) (hi : i < 3) (ht : t < 8) : (pat P i).getD t 0 = P.getD (8 * i + t) 0 := by
  simp only [pat, List.getD_eq_getElem?_getD, List.getElem?_take, List.getElem?_drop, Nat.mul_one, Nat.zero_add]
  rw [if_pos (by omega)]
theorem words_nat (P : List UInt8) : (half (pat P 0)).toNat + 18446744073709551616 * (half (pat P 1)).toNat + 340282366920938463463374607431768211456 * (half (pat P 2)).toNat = Fv (fun i => P.getD i 0) 24 := by
  rw [half_nat, half_nat, half_nat, show (24 : Nat) = 8 + (8 + 8) from rfl, Fv_add, Fv_add (fun i => P.getD (8 + i) 0) 8 8]
  have e0 : Fv (fun t => (pat P 0).getD t 0) 8 = Fv (fun i => P.getD i 0) 8 := Fv_congr 8 fun t ht => by rw [pat_get P 0 t (by decide) ht, Nat.mul_zero, Nat.zero_add]
  have e1 : Fv (fun t => (pat P 1).getD t 0) 8 = Fv (fun i => P.getD (8 + i) 0) 8 := Fv_congr 8 fun t ht => by rw [pat_get P 1 t (by decide) ht]
  have e2 : Fv (fun t => (pat P 2).getD t 0) 8 = Fv (fun i => P.getD (8 + (8 + i)) 0) 8 := Fv_congr 8 fun t ht => by rw [pat_get P 2 t (by decide) ht, ← Nat.add_assoc]
  rw [e0, e1, e2, Nat.mul_add, ← Nat.mul_assoc]
  have p8 : (256 : Nat) ^ 8 = 18446744073709551616 := by decide
  rw [p8]
  omega
theorem pacc_spec (m key : List UInt8) : ∀ j, j ≤ (m.length + 15) / 16 → V3 (pacc m (rk key) j) = An m (Dv (rr key 16) 16) j
  | 0, _ => rfl
  | j + 1, hj => by
    have ih := pacc_spec m key j (by omega)
    have hl := pacc_len m (rk key) j
    have ha := An_lt m (Dv (rr key 16) 16) j
    have hp := Pn_lt m (16 * j) (min 16 (m.length - 16 * j)) (by omega)
    have hq : min (16 * j) m.length = 16 * j := by omega
    have hk : min 16 (m.length - 16 * j) ≤ 16 := by omega
    have e := addp_eq (pacc m (rk key) j) hl (fun i => half (pat (piece m (min (16 * j) m.length) (min 16 (m.length - min (16 * j) m.length))) i))
    rw [hq] at e
    have w := words_nat (piece m (16 * j) (min 16 (m.length - 16 * j)))
    rw [piece_nat m (16 * j) _ hk (by omega)] at w
    have hs : V3 (addp (pacc m (rk key) j) (fun i => half (pat (piece m (16 * j) (min 16 (m.length - 16 * j))) i)) 3).1 = An m (Dv (rr key 16) 16) j + Pn m (16 * j) (min 16 (m.length - 16 * j)) := by
      generalize (addp (pacc m (rk key) j) (fun i => half (pat (piece m (16 * j) (min 16 (m.length - 16 * j))) i)) 3).2.toNat = c at *
      generalize V3 (addp (pacc m (rk key) j) (fun i => half (pat (piece m (16 * j) (min 16 (m.length - 16 * j))) i)) 3).1 = v at *
      rw [ih] at e
      omega
    rw [pacc, hq]
    have hl2 := (addp_len (pacc m (rk key) j) (fun i => half (pat (piece m (16 * j) (min 16 (m.length - 16 * j))) i)) 3).trans hl
    obtain ⟨t1, t2⟩ := times_eq _ (rk key) hl2 rfl (by rw [hs]; omega) (factor_lt key)
    rw [small_eq _ (times_len _ _) (by omega), t1, hs, ← factor key, An]
theorem tag_rtag (key l : List UInt8) : tag key l = rtag key l := by
  refine Fv_inj (n := 16) (tag_len _ _) (rtag_len _ _) ?_
  obtain ⟨r1, r2⟩ := racc_spec l (rr key 16) (rr_bd key) (by rw [factor]; exact factor_lt key) ((l.length + 15) / 16)
  have p1 := pacc_spec l key ((l.length + 15) / 16) (Nat.le_refl _)
  obtain ⟨o1, o2⟩ := rob_spec (racc l (rr key 16) ((l.length + 15) / 16)) key r2 16 (by decide)
  have f1 := fin2_nat (pacc l (rk key) ((l.length + 15) / 16)) key
  have hlt := Fv_lt (fun j => (rob (racc l (rr key 16) ((l.length + 15) / 16)) key 16).1.getD j 0) 16
  have p16 : (256 : Nat) ^ 16 = 340282366920938463463374607431768211456 := by decide
  have hD : Dv (racc l (rr key 16) ((l.length + 15) / 16)) 17 = Dv (racc l (rr key 16) ((l.length + 15) / 16)) 16 + 256 ^ 16 * ((racc l (rr key 16) ((l.length + 15) / 16)).getD 16 0).toNat := rfl
  show Fv (fun i => (fin2 (pacc l (rk key) ((l.length + 15) / 16)) key).getD i 0) 16 = Fv (fun j => (rob (racc l (rr key 16) ((l.length + 15) / 16)) key 16).1.getD j 0) 16
  rw [f1]
  rw [p16] at o2 hlt hD
  rw [← p1] at r1
  unfold V3 at r1
  rw [hD] at r1
  generalize Fv (fun j => (rob (racc l (rr key 16) ((l.length + 15) / 16)) key 16).1.getD j 0) 16 = F at *
  generalize Fv (fun j => key.getD (16 + j) 0) 16 = K at *
  generalize Dv (racc l (rr key 16) ((l.length + 15) / 16)) 16 = D at *
  generalize ((pacc l (rk key) ((l.length + 15) / 16)).getD 0 0).toNat = a at *
  generalize ((pacc l (rk key) ((l.length + 15) / 16)).getD 1 0).toNat = b at *
  omega
end Go.Proofs.Ytcihpgdmldkjfaa.Po

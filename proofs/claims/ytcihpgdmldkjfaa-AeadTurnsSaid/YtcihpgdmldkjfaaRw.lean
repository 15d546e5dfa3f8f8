/- The reference's mark as a number. -/
import Derived.Test.YtcihpgdmldkjfaaRv
import Derived.Test.YtcihpgdmldkjfaaPv
namespace Go.Proofs.Ytcihpgdmldkjfaa.Po
open Go Go.Abs Go.Proofs

theorem Bd.mono {d : List UInt64} {a b : Nat} (h : Bd d a) (hab : a ≤ b) : Bd d b := fun i => Nat.le_trans (h i) hab
theorem getD_out (d : List UInt64) (i : Nat) (h : d.length ≤ i) : d.getD i 0 = 0 := by
  rw [List.getD_eq_getElem?_getD, List.getElem?_eq_none h]; rfl
theorem Dv_split (d : List UInt64) (n : Nat) (hz : ∀ k, n ≤ k → d.getD k 0 = 0) : ∀ m, n ≤ m → Dv d m = Dv d n
  | 0, h => by have : n = 0 := by omega
               rw [this]
  | m + 1, h => by
    by_cases e : n = m + 1
    · rw [e]
    · have hz' := hz m (by omega)
      have : Dv d (m + 1) = Dv d m + 256 ^ m * (d.getD m 0).toNat := rfl
      rw [this, Dv_split d n hz m (by omega), hz']
      show Dv d n + 256 ^ m * 0 = _
      omega
/-- One pass. -/
theorem pass_spec (d : List UInt64) (hl : d.length = 34) (hb : Bd d 9223372036854775808) (hv : Dv d 34 < 7588550360256754183279148073529370729071901715047420004889892225542594864082845696) :
    ∃ L U, Dv d 34 = L + 1361129467683753853853498429727072845824 * U ∧ L < 1361129467683753853853498429727072845824 ∧
      Dv (add5 (fld (nrm d 34).1 18).1 (fld (nrm d 34).1 18).2 34) 34 = L + 5 * U ∧ Bd (add5 (fld (nrm d 34).1 18).1 (fld (nrm d 34).1 18).2 34) 1530 := by
  obtain ⟨n1, n2, n3, n4⟩ := nrm_spec d hb 34 (by omega)
  have nl := (nrm_len d 34).trans hl
  have h256 : (256 : Nat) ^ 34 = 7588550360256754183279148073529370729071901715047420004889892225542594864082845696 := by decide
  rw [h256] at n4
  have hc : (nrm d 34).2.toNat = 0 := by
    generalize (nrm d 34).2.toNat = c at *
    have := Nat.zero_le (Dv (nrm d 34).1 34)
    omega
  rw [hc, Nat.mul_zero, Nat.add_zero] at n4
  have nb : Bd (nrm d 34).1 255 := fun i => by
    by_cases h : i < 34
    · have := n2 i h; omega
    · rw [getD_out _ _ (by omega)]; decide
  generalize (nrm d 34).1 = E at *
  obtain ⟨f1, f2, f3, f4, f5, f6, f7, f8⟩ := fld_spec E nl nb 18 (by decide)
  obtain ⟨fl1, fl2⟩ := fld_len E 18
  obtain ⟨a1, a2, a3⟩ := add5_spec (fld E 18).1 (fld E 18).2 (fl1.trans nl) f5 f6 34 (by decide)
  refine ⟨Dv (fld E 18).1 34, Dv (fld E 18).2 34, by rw [n4]; exact f1.symm, ?_, a3, a2⟩
  have e17 := Dv_split (fld E 18).1 17 (fun k hk => by
    by_cases h : k < 34
    · exact f3 k (by omega) (by omega)
    · exact getD_out _ _ (by omega)) 34 (by decide)
  rw [e17]
  have h16 := f4 (by decide)
  have hlt := Dv_lt (fld E 18).1 16 fun i _ => by have := f5 i; omega
  have : Dv (fld E 18).1 17 = Dv (fld E 18).1 16 + 256 ^ 16 * ((fld E 18).1.getD 16 0).toNat := rfl
  rw [this]
  have h16' : (256 : Nat) ^ 16 = 340282366920938463463374607431768211456 := by decide
  rw [h16'] at *
  omega
theorem pss_spec (d : List UInt64) (hl : d.length = 34) (hb : Bd d 9223372036854775808) (hv : Dv d 34 < 57896044618658097711785492504343953926634992332820282019728792003956564819968) :
    Dv (pss d 4) 34 < 1361129467683753853853498429727072845824 ∧ Dv (pss d 4) 34 % 1361129467683753853853498429727072845819 = Dv d 34 % 1361129467683753853853498429727072845819 ∧ Bd (pss d 4) 1530 := by
  have l : ∀ k, (pss d k).length = 34 := fun k => (pss_len d k).trans hl
  obtain ⟨L0, U0, a1, a2, a3, a4⟩ := pass_spec (pss d 0) (l 0) hb (by show Dv d 34 < _; omega)
  obtain ⟨L1, U1, b1, b2, b3, b4⟩ := pass_spec (pss d 1) (l 1) (a4.mono (by decide)) (by show Dv (add5 _ _ 34) 34 < _; rw [a3]; have : Dv (pss d 0) 34 = Dv d 34 := rfl; omega)
  obtain ⟨L2, U2, c1, c2, c3, c4⟩ := pass_spec (pss d 2) (l 2) (b4.mono (by decide)) (by
    show Dv (add5 _ _ 34) 34 < _; rw [b3]
    have h0 : Dv (pss d 0) 34 = Dv d 34 := rfl
    have h1 : Dv (pss d 1) 34 = L0 + 5 * U0 := a3
    omega)
  obtain ⟨L3, U3, d1, d2, d3, d4⟩ := pass_spec (pss d 3) (l 3) (c4.mono (by decide)) (by
    show Dv (add5 _ _ 34) 34 < _; rw [c3]
    have h0 : Dv (pss d 0) 34 = Dv d 34 := rfl
    have h1 : Dv (pss d 1) 34 = L0 + 5 * U0 := a3
    have h2 : Dv (pss d 2) 34 = L1 + 5 * U1 := b3
    omega)
  have h0 : Dv (pss d 0) 34 = Dv d 34 := rfl
  have h1 : Dv (pss d 1) 34 = L0 + 5 * U0 := a3
  have h2 : Dv (pss d 2) 34 = L1 + 5 * U1 := b3
  have h3 : Dv (pss d 3) 34 = L2 + 5 * U2 := c3
  have h4 : Dv (pss d 4) 34 = L3 + 5 * U3 := d3
  refine ⟨by omega, ?_, d4⟩
  have : Dv d 34 = Dv (pss d 4) 34 + 1361129467683753853853498429727072845819 * (U0 + U1 + U2 + U3) := by omega
  rw [this, Nat.add_mul_mod_self_left]
theorem nn_spec (d : List UInt64) (hl : d.length = 34) (hb : Bd d 9223372036854775808) : ∀ i, i ≤ 17 → (∀ j, j < i → ((nn d i).1.getD j 0).toNat < 256) ∧ (nn d i).2.toNat ≤ 72057594037927936 ∧ Dv d i = Dv (nn d i).1 i + 256 ^ i * (nn d i).2.toNat
  | 0, _ => ⟨fun j h => by omega, by show (0 : UInt64).toNat ≤ _; decide, by simp [Dv, nn]⟩
  | i + 1, hi => by
    obtain ⟨h2, h3, h4⟩ := nn_spec d hl hb i (by omega)
    have hl' := nn_len d i
    have hd := hb i
    have hx : (d.getD i 0 + (nn d i).2).toNat = (d.getD i 0).toNat + (nn d i).2.toNat := by
      rw [UInt64.toNat_add]; omega
    rw [nn]
    refine ⟨fun j hj => ?_, ?_, ?_⟩
    · rw [getD_set _ _ _ _ (by omega)]
      split
      · rw [mod256]; omega
      · exact h2 j (by omega)
    · rw [div256, hx]; omega
    · rw [Dv, h4, Dv, getD_set _ _ _ _ (by omega), if_pos rfl, mod256, div256, hx, Nat.pow_succ, Nat.mul_assoc,
        Dv_congr (d := (nn d i).1.set i ((d.getD i 0 + (nn d i).2) % 256)) (e := (nn d i).1) i fun j hj => by rw [getD_set _ _ _ _ (by omega), if_neg (by omega)]]
      generalize (nn d i).2.toNat = c
      generalize (d.getD i 0).toNat = u
      have : 256 ^ i * ((u + c) % 256) + 256 ^ i * (256 * ((u + c) / 256)) = 256 ^ i * (u + c) := by rw [← Nat.mul_add, Nat.mod_add_div]
      rw [Nat.mul_add] at this
      omega
theorem sb5_spec (n : List UInt64) (hl : n.length = 17) (hb : Bd n 255) : ∀ i, i ≤ 17 → (∀ j, i ≤ j → (sb5 n i).1.getD j 0 = n.getD j 0) ∧ (∀ j, j < i → ((sb5 n i).1.getD j 0).toNat < 256) ∧ (sb5 n i).2.toNat ≤ 5 ∧ Dv n i + 5 = Dv (sb5 n i).1 i + 256 ^ i * (sb5 n i).2.toNat
  | 0, _ => ⟨fun _ _ => rfl, fun j h => by omega, by show (5 : UInt64).toNat ≤ _; decide, by simp [Dv, sb5]⟩
  | i + 1, hi => by
    obtain ⟨h1, h2, h3, h4⟩ := sb5_spec n hl hb i (by omega)
    have hl' := (sb5_len n i).trans hl
    have e := h1 i (Nat.le_refl _)
    have hd := hb i
    have hx : ((sb5 n i).1.getD i 0 + (sb5 n i).2).toNat = (n.getD i 0).toNat + (sb5 n i).2.toNat := by
      rw [e, UInt64.toNat_add]; omega
    rw [sb5]
    refine ⟨fun j hj => ?_, fun j hj => ?_, ?_, ?_⟩
    · rw [getD_set _ _ _ _ (by omega), if_neg (by omega)]; exact h1 j (by omega)
    · rw [getD_set _ _ _ _ (by omega)]
      split
      · rw [mod256]; omega
      · exact h2 j (by omega)
    · rw [div256, hx]; omega
    · have hDn : Dv n (i + 1) = Dv n i + 256 ^ i * (n.getD i 0).toNat := rfl
      rw [hDn, Nat.add_right_comm, h4, Dv, getD_set _ _ _ _ (by omega), if_pos rfl, mod256, div256, hx, Nat.pow_succ, Nat.mul_assoc,
        Dv_congr (d := (sb5 n i).1.set i (((sb5 n i).1.getD i 0 + (sb5 n i).2) % 256)) (e := (sb5 n i).1) i fun j hj => by rw [getD_set _ _ _ _ (by omega), if_neg (by omega)]]
      generalize (sb5 n i).2.toNat = c
      generalize (n.getD i 0).toNat = u
      have : 256 ^ i * ((u + c) % 256) + 256 ^ i * (256 * ((u + c) / 256)) = 256 ^ i * (u + c) := by rw [← Nat.mul_add, Nat.mod_add_div]
      rw [Nat.mul_add] at this
      omega
/-- All bytes that are 255 but for the lowest one. -/
theorem gr_true (n : List UInt64) : ∀ i, gr n i = true → (n.getD 16 0).toNat ≤ 3 → (n.getD 16 0).toNat = 3 ∧ 251 ≤ (n.getD 0 0).toNat ∧ ∀ k, k < i → (n.getD (1 + k) 0).toNat = 255
  | 0, h, h16 => by
    unfold gr g0 at h
    simp only [Bool.or_eq_true, Bool.and_eq_true, decide_eq_true_eq] at h
    rcases h with ⟨h1, h2⟩ | h1
    · exact ⟨by rw [h1]; rfl, UInt64.le_iff_toNat_le.1 h2, fun k hk => by omega⟩
    · have := UInt64.lt_iff_toNat_lt.1 h1
      have e : UInt64.toNat 3 = 3 := rfl
      rw [e] at this; omega
  | i + 1, h, h16 => by
    rw [gr] at h
    simp only [Bool.or_eq_true, Bool.and_eq_true, decide_eq_true_eq] at h
    obtain ⟨h1, h2⟩ := h
    obtain ⟨a, b, c⟩ := gr_true n i h1 h16
    refine ⟨a, b, fun k hk => ?_⟩
    by_cases e : k = i
    · subst e
      rcases h2 with h2 | h2
      · rw [h2]; rfl
      · have := UInt64.lt_iff_toNat_lt.1 h2
        have e : UInt64.toNat 3 = 3 := rfl
        rw [e] at this; omega
    · exact c k (by omega)
theorem gr_false (n : List UInt64) : ∀ i, gr n i = false → ¬ ((n.getD 16 0).toNat = 3 ∧ 251 ≤ (n.getD 0 0).toNat ∧ ∀ k, k < i → (n.getD (1 + k) 0).toNat = 255)
  | 0, h, ⟨a, b, _⟩ => by
    unfold gr g0 at h
    have e1 : n.getD 16 0 = 3 := UInt64.toNat_inj.1 a
    have e2 : 251 ≤ n.getD 0 0 := UInt64.le_iff_toNat_le.2 b
    rw [decide_eq_true e1, decide_eq_true e2] at h
    simp at h
  | i + 1, h, ⟨a, b, c⟩ => by
    rw [gr] at h
    have e3 : n.getD (1 + i) 0 = 255 := UInt64.toNat_inj.1 (c i (by omega))
    rw [decide_eq_true e3] at h
    simp only [Bool.true_or, Bool.and_true] at h
    exact gr_false n i h ⟨a, b, fun k hk => c k (by omega)⟩
theorem Dv17 (n : List UInt64) : Dv n 17 = (n.getD 0 0).toNat + 256 * (n.getD 1 0).toNat + 65536 * (n.getD 2 0).toNat + 16777216 * (n.getD 3 0).toNat + 4294967296 * (n.getD 4 0).toNat + 1099511627776 * (n.getD 5 0).toNat + 281474976710656 * (n.getD 6 0).toNat + 72057594037927936 * (n.getD 7 0).toNat + 18446744073709551616 * (n.getD 8 0).toNat + 4722366482869645213696 * (n.getD 9 0).toNat + 1208925819614629174706176 * (n.getD 10 0).toNat + 309485009821345068724781056 * (n.getD 11 0).toNat + 79228162514264337593543950336 * (n.getD 12 0).toNat + 20282409603651670423947251286016 * (n.getD 13 0).toNat + 5192296858534827628530496329220096 * (n.getD 14 0).toNat + 1329227995784915872903807060280344576 * (n.getD 15 0).toNat + 340282366920938463463374607431768211456 * (n.getD 16 0).toNat := by
  simp only [Dv]
  omega
/-- The least number. -/
theorem rsfin_spec (n : List UInt64) (hl : n.length = 17) (hb : Bd n 255) (hv : Dv n 17 < 1361129467683753853853498429727072845824) :
    Dv (rsfin n) 17 = Dv n 17 % 1361129467683753853853498429727072845819 ∧ Bd (rsfin n) 255 := by
  have d17 := Dv17 n
  have hd : ∀ i, i < 17 → (n.getD i 0).toNat ≤ 255 := fun i _ => hb i
  have h16 : (n.getD 16 0).toNat ≤ 3 := by
    have := Dv_ge n 16 17 (by decide)
    have e : (256 : Nat) ^ 16 = 340282366920938463463374607431768211456 := by decide
    rw [e] at this; omega
  cases hg : gr n 15 with
  | true =>
    obtain ⟨g1, g2, g3⟩ := gr_true n 15 hg h16
    have e1 := g3 0 (by decide)
    have e2 := g3 1 (by decide)
    have e3 := g3 2 (by decide)
    have e4 := g3 3 (by decide)
    have e5 := g3 4 (by decide)
    have e6 := g3 5 (by decide)
    have e7 := g3 6 (by decide)
    have e8 := g3 7 (by decide)
    have e9 := g3 8 (by decide)
    have e10 := g3 9 (by decide)
    have e11 := g3 10 (by decide)
    have e12 := g3 11 (by decide)
    have e13 := g3 12 (by decide)
    have e14 := g3 13 (by decide)
    have e15 := g3 14 (by decide)
    simp only [Nat.add_zero, Nat.reduceAdd] at e1 e2 e3 e4 e5 e6 e7 e8 e9 e10 e11 e12 e13 e14 e15
    have hge : 1361129467683753853853498429727072845819 ≤ Dv n 17 := by omega
    clear e1 e2 e3 e4 e5 e6 e7 e8 e9 e10 e11 e12 e13 e14 e15 d17
    obtain ⟨s1, s2, s3, s4⟩ := sb5_spec n hl hb 17 (by decide)
    have sl := (sb5_len n 17).trans hl
    have p17 : (256 : Nat) ^ 17 = 87112285931760246646623899502532662132736 := by decide
    have p16 : (256 : Nat) ^ 16 = 340282366920938463463374607431768211456 := by decide
    rw [p17] at s4
    have hc : (sb5 n 17).2.toNat = 0 := by
      generalize (sb5 n 17).2.toNat = c at *
      have := Nat.zero_le (Dv (sb5 n 17).1 17)
      omega
    rw [hc, Nat.mul_zero, Nat.add_zero] at s4
    have sb : Bd (sb5 n 17).1 255 := fun i => by
      by_cases h : i < 17
      · have := s2 i h; omega
      · rw [getD_out _ _ (by omega)]; decide
    have hlt := Dv_lt (sb5 n 17).1 16 fun i _ => by have := sb i; omega
    rw [p16] at hlt
    have hsp : Dv (sb5 n 17).1 17 = Dv (sb5 n 17).1 16 + 340282366920938463463374607431768211456 * ((sb5 n 17).1.getD 16 0).toNat := by rw [← p16]; rfl
    unfold rsfin
    rw [hg, if_pos rfl]
    generalize (sb5 n 17).1 = E at *
    have x16 : (E.getD 16 0).toNat = 4 := by omega
    have y16 : (E.getD 16 0 - 4).toNat = 0 := by
      have : E.getD 16 0 = 4 := UInt64.toNat_inj.1 x16
      rw [this]; rfl
    have st := Dv_set E 16 (E.getD 16 0 - 4) (by omega) 17 (by decide)
    rw [y16, x16, p16] at st
    refine ⟨?_, fun i => ?_⟩
    · rw [Nat.mod_eq_sub_mod hge, Nat.mod_eq_of_lt (by omega)]; omega
    · rw [getD_set _ _ _ _ (by omega)]
      split
      · rw [y16]; decide
      · exact sb i
  | false =>
    have hn := gr_false n 15 hg
    have hlt : Dv n 17 < 1361129467683753853853498429727072845819 := by
      refine Nat.lt_of_not_le fun hge => hn ⟨?_, ?_, fun k hk => ?_⟩
      · have := hd 0; have := hd 1; have := hd 2; have := hd 3; have := hd 4; have := hd 5; have := hd 6; have := hd 7; have := hd 8; have := hd 9; have := hd 10; have := hd 11; have := hd 12; have := hd 13; have := hd 14; have := hd 15
        omega
      · have := hd 0; have := hd 1; have := hd 2; have := hd 3; have := hd 4; have := hd 5; have := hd 6; have := hd 7; have := hd 8; have := hd 9; have := hd 10; have := hd 11; have := hd 12; have := hd 13; have := hd 14; have := hd 15
        omega
      · have := hd 0; have := hd 1; have := hd 2; have := hd 3; have := hd 4; have := hd 5; have := hd 6; have := hd 7; have := hd 8; have := hd 9; have := hd 10; have := hd 11; have := hd 12; have := hd 13; have := hd 14; have := hd 15
        have hk' : k = 0 ∨ k = 1 ∨ k = 2 ∨ k = 3 ∨ k = 4 ∨ k = 5 ∨ k = 6 ∨ k = 7 ∨ k = 8 ∨ k = 9 ∨ k = 10 ∨ k = 11 ∨ k = 12 ∨ k = 13 ∨ k = 14 := by omega
        rcases hk' with rfl | rfl | rfl | rfl | rfl | rfl | rfl | rfl | rfl | rfl | rfl | rfl | rfl | rfl | rfl <;> simp only [Nat.add_zero, Nat.reduceAdd] <;> omega
    unfold rsfin
    rw [hg, if_neg (by decide), Nat.mod_eq_of_lt hlt]
    exact ⟨rfl, hb⟩
theorem rsmall_spec (d : List UInt64) (hl : d.length = 34) (hb : Bd d 9223372036854775808) (hv : Dv d 34 < 57896044618658097711785492504343953926634992332820282019728792003956564819968) :
    Dv (rsmall d) 17 = Dv d 34 % 1361129467683753853853498429727072845819 ∧ Bd (rsmall d) 255 := by
  obtain ⟨p1, p2, p3⟩ := pss_spec d hl hb hv
  have pl := (pss_len d 4).trans hl
  have e17 := Dv_split (pss d 4) 17 (fun k hk => by
    by_cases h : k < 34
    · have g := Dv_ge (pss d 4) k 34 h
      have hp : 256 ^ 17 ≤ 256 ^ k := Nat.pow_le_pow_right (by decide) hk
      have p17 : (256 : Nat) ^ 17 = 87112285931760246646623899502532662132736 := by decide
      rw [p17] at hp
      have : (((pss d 4).getD k 0)).toNat = 0 := by
        rcases Nat.eq_zero_or_pos (((pss d 4).getD k 0)).toNat with h0 | h0
        · exact h0
        · have := Nat.le_mul_of_pos_right (256 ^ k) h0
          omega
      exact UInt64.toNat_inj.1 this
    · exact getD_out _ _ (by omega)) 34 (by decide)
  obtain ⟨n1, n2, n3⟩ := nn_spec (pss d 4) pl (p3.mono (by decide)) 17 (by decide)
  have nl := nn_len (pss d 4) 17
  have p17 : (256 : Nat) ^ 17 = 87112285931760246646623899502532662132736 := by decide
  rw [p17] at n3
  have hc : (nn (pss d 4) 17).2.toNat = 0 := by
    generalize (nn (pss d 4) 17).2.toNat = c at *
    have := Nat.zero_le (Dv (nn (pss d 4) 17).1 17)
    omega
  rw [hc, Nat.mul_zero, Nat.add_zero] at n3
  have nb : Bd (nn (pss d 4) 17).1 255 := fun i => by
    by_cases h : i < 17
    · have := n1 i h; omega
    · rw [getD_out _ _ (by omega)]; decide
  obtain ⟨r1, r2⟩ := rsfin_spec (nn (pss d 4) 17).1 nl nb (by omega)
  refine ⟨?_, r2⟩
  rw [rsmall, r1, ← n3, ← e17, p2]
theorem pin_spec (a r d : List UInt64) (i B : Nat) (hi : i ≤ 16) (hl : d.length = 34) (ha : Bd a 600) (hr : Bd r 255) (hd : Bd d B) (hB : B ≤ 4611686018427387904) : ∀ k, k ≤ 16 →
    (∀ j, i + k ≤ j → (pin a r i d k).getD j 0 = d.getD j 0) ∧ Bd (pin a r i d k) (B + 153000) ∧ Dv (pin a r i d k) 34 = Dv d 34 + 256 ^ i * ((a.getD i 0).toNat * Dv r k)
  | 0, _ => ⟨fun _ _ => rfl, hd.mono (by omega), by simp [pin, Dv]⟩
  | k + 1, hk => by
    obtain ⟨h1, h2, h3⟩ := pin_spec a r d i B hi hl ha hr hd hB k (by omega)
    have hl' := (pin_len a r i d k).trans hl
    have e := h1 (i + k) (Nat.le_refl _)
    have b1 := hd (i + k)
    have b2 : (a.getD i 0).toNat * (r.getD k 0).toNat ≤ 600 * 255 := Nat.mul_le_mul (ha i) (hr k)
    have hx : ((pin a r i d k).getD (i + k) 0 + a.getD i 0 * r.getD k 0).toNat = (d.getD (i + k) 0).toNat + (a.getD i 0).toNat * (r.getD k 0).toNat := by
      rw [e, UInt64.toNat_add, UInt64.toNat_mul]
      generalize (a.getD i 0).toNat * (r.getD k 0).toNat = m at *
      omega
    rw [pin]
    refine ⟨fun j hj => ?_, fun j => ?_, ?_⟩
    · rw [getD_set _ _ _ _ (by omega), if_neg (by omega)]; exact h1 j (by omega)
    · rw [getD_set _ _ _ _ (by omega)]
      split
      · rw [hx]; generalize (a.getD i 0).toNat * (r.getD k 0).toNat = m at *; omega
      · exact h2 j
    · have s := Dv_set (pin a r i d k) (i + k) ((pin a r i d k).getD (i + k) 0 + a.getD i 0 * r.getD k 0) (by omega) 34 (by omega)
      have hD : Dv r (k + 1) = Dv r k + 256 ^ k * (r.getD k 0).toNat := rfl
      generalize (pin a r i d k).set (i + k) ((pin a r i d k).getD (i + k) 0 + a.getD i 0 * r.getD k 0) = N at s ⊢
      rw [hx, e, h3, Nat.mul_add] at s
      rw [hD, Nat.mul_add, Nat.mul_add]
      have : 256 ^ (i + k) * ((a.getD i 0).toNat * (r.getD k 0).toNat) = 256 ^ i * ((a.getD i 0).toNat * (256 ^ k * (r.getD k 0).toNat)) := by
        rw [Nat.pow_add, Nat.mul_assoc, Nat.mul_left_comm (256 ^ k)]
      omega
theorem pout_spec (a r : List UInt64) (ha : Bd a 600) (hr : Bd r 255) : ∀ i, i ≤ 17 → Bd (pout a r i) (i * 153000) ∧ Dv (pout a r i) 34 = Dv a i * Dv r 16
  | 0, _ => ⟨fun i => by rw [pout, rep_get]; decide, by rw [pout, Dv_zero]; simp [Dv]⟩
  | i + 1, hi => by
    obtain ⟨h1, h2⟩ := pout_spec a r ha hr i (by omega)
    obtain ⟨g1, g2, g3⟩ := pin_spec a r (pout a r i) i (i * 153000) (by omega) (pout_len a r i) ha hr h1 (by omega) 16 (by decide)
    rw [pout]
    refine ⟨by rw [Nat.succ_mul]; exact g2, ?_⟩
    have hD : Dv a (i + 1) = Dv a i + 256 ^ i * (a.getD i 0).toNat := rfl
    rw [g3, h2, hD, Nat.add_mul, Nat.mul_assoc]
theorem radd_spec (a : List UInt64) (l : List UInt8) (q : Nat) (hl : a.length = 17) (ha : Bd a 255) : ∀ i, i ≤ 16 → (∀ j, i ≤ j → (radd a l q i).getD j 0 = a.getD j 0) ∧ Bd (radd a l q i) 510 ∧ Dv (radd a l q i) 17 = Dv a 17 + Fv (fun i => l.getD (q + i) 0) i
  | 0, _ => ⟨fun _ _ => rfl, ha.mono (by decide), by simp [radd, Fv]⟩
  | i + 1, hi => by
    obtain ⟨h1, h2, h3⟩ := radd_spec a l q hl ha i (by omega)
    have hl' := (radd_len a l q i).trans hl
    have e := h1 i (Nat.le_refl _)
    have b1 := ha i
    have b2 := (l.getD (q + i) 0).toNat_lt
    have hx : ((radd a l q i).getD i 0 + (l.getD (q + i) 0).toUInt64).toNat = (a.getD i 0).toNat + (l.getD (q + i) 0).toNat := by
      rw [e, UInt64.toNat_add, UInt8.toNat_toUInt64]; omega
    rw [radd]
    refine ⟨fun j hj => ?_, fun j => ?_, ?_⟩
    · rw [getD_set _ _ _ _ (by omega), if_neg (by omega)]; exact h1 j (by omega)
    · rw [getD_set _ _ _ _ (by omega)]
      split
      · rw [hx]; omega
      · exact h2 j
    · have s := Dv_set (radd a l q i) i ((radd a l q i).getD i 0 + (l.getD (q + i) 0).toUInt64) (by omega) 17 (by omega)
      have hF : Fv (fun i => l.getD (q + i) 0) (i + 1) = Fv (fun i => l.getD (q + i) 0) i + 256 ^ i * (l.getD (q + i) 0).toNat := rfl
      generalize (radd a l q i).set i ((radd a l q i).getD i 0 + (l.getD (q + i) 0).toUInt64) = N at s ⊢
      rw [hx, e, h3, Nat.mul_add] at s
      rw [hF]; omega
/-- A piece, as a number. -/
def Pn (l : List UInt8) (q k : Nat) : Nat := Fv (fun i => l.getD (q + i) 0) k + 256 ^ k
theorem Pn_lt (l : List UInt8) (q k : Nat) (hk : k ≤ 16) : Pn l q k < 680564733841876926926749214863536422912 := by
  have h1 := Fv_lt (fun i => l.getD (q + i) 0) k
  have h2 : (256 : Nat) ^ k ≤ 256 ^ 16 := Nat.pow_le_pow_right (by decide) hk
  have e : (256 : Nat) ^ 16 = 340282366920938463463374607431768211456 := by decide
  rw [e] at h2
  unfold Pn; omega
theorem rblk_spec (a : List UInt64) (l : List UInt8) (q k : Nat) (hk : k ≤ 16) (hl : a.length = 17) (ha : Bd a 255) : Bd (rblk a l q k) 600 ∧ Dv (rblk a l q k) 17 = Dv a 17 + Pn l q k := by
  obtain ⟨h1, h2, h3⟩ := radd_spec a l q hl ha k hk
  have hl' := (radd_len a l q k).trans hl
  have b := h2 k
  have hx : ((radd a l q k).getD k 0 + 1).toNat = ((radd a l q k).getD k 0).toNat + 1 := by
    rw [UInt64.toNat_add, show UInt64.toNat 1 = 1 from rfl]; omega
  unfold rblk
  refine ⟨fun j => ?_, ?_⟩
  · rw [getD_set _ _ _ _ (by omega)]
    split
    · rw [hx]; omega
    · exact Nat.le_trans (h2 j) (by decide)
  · have s := Dv_set (radd a l q k) k ((radd a l q k).getD k 0 + 1) (by omega) 17 (by omega)
    generalize (radd a l q k).set k ((radd a l q k).getD k 0 + 1) = N at s ⊢
    rw [hx, h3, Nat.mul_add, Nat.mul_one] at s
    unfold Pn; omega
/-- The mark's number, block by block. -/
def An (l : List UInt8) (R : Nat) : Nat → Nat
  | 0 => 0
  | j + 1 => (An l R j + Pn l (16 * j) (min 16 (l.length - 16 * j))) * R % 1361129467683753853853498429727072845819
theorem An_lt (l : List UInt8) (R : Nat) : ∀ j, An l R j < 1361129467683753853853498429727072845819
  | 0 => by show 0 < _; decide
  | j + 1 => Nat.mod_lt _ (by decide)
theorem racc_spec (l : List UInt8) (r : List UInt64) (hr : Bd r 255) (hR : Dv r 16 < 21267647932558653966460912964485513216) : ∀ j, Dv (racc l r j) 17 = An l (Dv r 16) j ∧ Bd (racc l r j) 255
  | 0 => ⟨by rw [racc, Dv_zero]; rfl, fun i => by rw [racc, rep_get]; decide⟩
  | j + 1 => by
    obtain ⟨h1, h2⟩ := racc_spec l r hr hR j
    obtain ⟨b1, b2⟩ := rblk_spec (racc l r j) l (16 * j) (min 16 (l.length - 16 * j)) (by omega) (racc_len l r j) h2
    obtain ⟨c1, c2⟩ := pout_spec (rblk (racc l r j) l (16 * j) (min 16 (l.length - 16 * j))) r b1 hr 17 (by decide)
    have hp := Pn_lt l (16 * j) (min 16 (l.length - 16 * j)) (by omega)
    have ha := An_lt l (Dv r 16) j
    have hm : Dv (rblk (racc l r j) l (16 * j) (min 16 (l.length - 16 * j))) 17 * Dv r 16 ≤ 2722258935367507707706996859454145691647 * 21267647932558653966460912964485513215 := Nat.mul_le_mul (by omega) (by omega)
    obtain ⟨s1, s2⟩ := rsmall_spec (pout (rblk (racc l r j) l (16 * j) (min 16 (l.length - 16 * j))) r 17) (pout_len _ _ _) (c1.mono (by decide)) (by rw [c2]; exact Nat.lt_of_le_of_lt hm (by decide))
    rw [racc]
    exact ⟨by rw [s1, c2, b2, h1, An], s2⟩
theorem rob_spec (a : List UInt64) (key : List UInt8) (ha : Bd a 255) : ∀ i, i ≤ 16 → (rob a key i).2.toNat ≤ 2 ∧ Fv (fun j => (rob a key i).1.getD j 0) i + 256 ^ i * (rob a key i).2.toNat = Dv a i + Fv (fun j => key.getD (16 + j) 0) i
  | 0, _ => ⟨by show (0 : UInt64).toNat ≤ _; decide, by simp [rob, Fv, Dv]⟩
  | i + 1, hi => by
    obtain ⟨h1, h2⟩ := rob_spec a key ha i (by omega)
    have hl := rob_len a key i
    have b1 := ha i
    have b2 := (key.getD (16 + i) 0).toNat_lt
    have hx : (a.getD i 0 + (key.getD (16 + i) 0).toUInt64 + (rob a key i).2).toNat = (a.getD i 0).toNat + (key.getD (16 + i) 0).toNat + (rob a key i).2.toNat := by
      rw [UInt64.toNat_add, UInt64.toNat_add, UInt8.toNat_toUInt64]; omega
    have hpw : 256 ^ (i + 1) = 256 ^ i * 256 := Nat.pow_succ ..
    rw [rob]
    refine ⟨by rw [div256, hx]; omega, ?_⟩
    have hF1 : ∀ f : Nat → UInt8, Fv f (i + 1) = Fv f i + 256 ^ i * (f i).toNat := fun _ => rfl
    have hD : Dv a (i + 1) = Dv a i + 256 ^ i * (a.getD i 0).toNat := rfl
    have gi : ((rob a key i).1.set i (a.getD i 0 + (key.getD (16 + i) 0).toUInt64 + (rob a key i).2).toUInt8).getD i 0 = (a.getD i 0 + (key.getD (16 + i) 0).toUInt64 + (rob a key i).2).toUInt8 := by
      rw [List.getD_eq_getElem?_getD, List.getElem?_set, if_pos rfl, if_pos (by omega)]; rfl
    have gc : Fv (fun j => ((rob a key i).1.set i (a.getD i 0 + (key.getD (16 + i) 0).toUInt64 + (rob a key i).2).toUInt8).getD j 0) i = Fv (fun j => (rob a key i).1.getD j 0) i := Fv_congr i fun j hj => by
      simp only [List.getD_eq_getElem?_getD, List.getElem?_set, if_neg (show ¬ i = j by omega)]
    rw [hF1, hF1, hD]
    simp only
    rw [gc, gi, div256, hx, UInt64.toNat_toUInt8, hx, hpw, Nat.mul_assoc (256 ^ i) 256]
    generalize (a.getD i 0).toNat = u at *
    generalize (key.getD (16 + i) 0).toNat = v at *
    generalize (rob a key i).2.toNat = c at *
    have : 256 ^ i * ((u + v + c) % 2 ^ 8) + 256 ^ i * (256 * ((u + v + c) / 256)) = 256 ^ i * (u + v + c) := by rw [← Nat.mul_add, show (2 : Nat) ^ 8 = 256 from rfl, Nat.mod_add_div]
    rw [Nat.mul_add, Nat.mul_add] at this
    omega
end Go.Proofs.Ytcihpgdmldkjfaa.Po

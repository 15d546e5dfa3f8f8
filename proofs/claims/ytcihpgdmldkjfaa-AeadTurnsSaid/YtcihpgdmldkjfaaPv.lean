/- The steps of a mark, as numbers modulo 2^130 - 5. -/
import Derived.Test.YtcihpgdmldkjfaaPm
namespace Go.Proofs.Ytcihpgdmldkjfaa.Po
open Go Go.Abs Go.Proofs

/-- Three words as a number. -/
def V3 (l : List UInt64) : Nat := (l.getD 0 0).toNat + 18446744073709551616 * (l.getD 1 0).toNat + 340282366920938463463374607431768211456 * (l.getD 2 0).toNat
theorem row2 (x r0 r1 u v : UInt64) :
    (x * r0 + u + 0 + 0 + 0).toNat + 18446744073709551616 * (x * r1 + v + 0 + (mulhi x r0 + addc (x * r0) u 0 + addc (x * r0 + u + 0) 0 0) + 0).toNat +
      340282366920938463463374607431768211456 * (mulhi x r1 + addc (x * r1) v 0 + addc (x * r1 + v + 0) (mulhi x r0 + addc (x * r0) u 0 + addc (x * r0 + u + 0) 0 0) 0).toNat =
      x.toNat * (r0.toNat + 18446744073709551616 * r1.toNat) + u.toNat + 18446744073709551616 * v.toNat := by
  have h1 := row_eq x r0 u 0
  have h2 := row_eq x r1 v (mulhi x r0 + addc (x * r0) u 0 + addc (x * r0 + u + 0) 0 0)
  generalize mulhi x r0 + addc (x * r0) u 0 + addc (x * r0 + u + 0) 0 0 = h0 at *
  have z : UInt64.toNat 0 = 0 := rfl
  rw [z] at h1
  have e : x.toNat * (r0.toNat + 18446744073709551616 * r1.toNat) = x.toNat * r0.toNat + 18446744073709551616 * (x.toNat * r1.toNat) := by rw [Nat.mul_add, Nat.mul_left_comm]
  rw [e]
  omega
theorem tout_eq (a0 a1 a2 r0 r1 : UInt64) : ∃ w0 w1 w2 w3 w4 : UInt64, tout [a0, a1, a2] [r0, r1] 3 = [w0, w1, w2, w3, w4] ∧
    w0.toNat + 18446744073709551616 * w1.toNat + 340282366920938463463374607431768211456 * (w2.toNat + 18446744073709551616 * w3.toNat + 340282366920938463463374607431768211456 * w4.toNat) = (a0.toNat + 18446744073709551616 * a1.toNat + 340282366920938463463374607431768211456 * a2.toNat) * (r0.toNat + 18446744073709551616 * r1.toNat) := by
  have e0 := row2 a0 r0 r1 0 0
  obtain ⟨l0, l1, h, q0⟩ : ∃ l0 l1 h, tout [a0, a1, a2] [r0, r1] 1 = [l0, l1, h, 0, 0] ∧ l0.toNat + 18446744073709551616 * l1.toNat + 340282366920938463463374607431768211456 * h.toNat = a0.toNat * (r0.toNat + 18446744073709551616 * r1.toNat) :=
    ⟨_, _, _, rfl, by simp only [UInt64.toNat_zero, Nat.mul_zero, Nat.add_zero] at e0; exact e0⟩
  obtain ⟨q0, p0⟩ := q0
  have e1 := row2 a1 r0 r1 l1 h
  obtain ⟨m0, m1, h', q1, p1⟩ : ∃ m0 m1 h', tout [a0, a1, a2] [r0, r1] 2 = [l0, m0, m1, h', 0] ∧ m0.toNat + 18446744073709551616 * m1.toNat + 340282366920938463463374607431768211456 * h'.toNat = a1.toNat * (r0.toNat + 18446744073709551616 * r1.toNat) + l1.toNat + 18446744073709551616 * h.toNat :=
    ⟨_, _, _, by rw [tout, q0]; rfl, e1⟩
  have e2 := row2 a2 r0 r1 m1 h'
  obtain ⟨n0, n1, h'', q2, p2⟩ : ∃ n0 n1 h'', tout [a0, a1, a2] [r0, r1] 3 = [l0, m0, n0, n1, h''] ∧ n0.toNat + 18446744073709551616 * n1.toNat + 340282366920938463463374607431768211456 * h''.toNat = a2.toNat * (r0.toNat + 18446744073709551616 * r1.toNat) + m1.toNat + 18446744073709551616 * h'.toNat :=
    ⟨_, _, _, by rw [tout, q1]; rfl, e2⟩
  refine ⟨l0, m0, n0, n1, h'', q2, ?_⟩
  rw [Nat.add_mul, Nat.add_mul, Nat.mul_assoc 18446744073709551616, Nat.mul_assoc (340282366920938463463374607431768211456)]
  generalize a0.toNat * (r0.toNat + 18446744073709551616 * r1.toNat) = x at *
  generalize a1.toNat * (r0.toNat + 18446744073709551616 * r1.toNat) = y at *
  generalize a2.toNat * (r0.toNat + 18446744073709551616 * r1.toNat) = z at *
  omega
theorem or62 (x y : UInt64) : (shr64n x 2 ||| shl64n y 62).toNat = x.toNat / 4 + y.toNat % 4 * 4611686018427387904 := by
  have hx := x.toNat_lt
  rw [UInt64.toNat_or, shr_nat x 2 (by decide), shl64n_lt _ _ (by decide), UInt64.toNat_shiftLeft]
  have e : y.toNat <<< ((UInt64.ofNat 62).toNat % 64) % 2 ^ 64 = (y.toNat % 4) <<< 62 := by
    rw [show (UInt64.ofNat 62).toNat % 64 = 62 from rfl, Nat.shiftLeft_eq, Nat.shiftLeft_eq]
    omega
  rw [e, Nat.or_comm, ← Nat.shiftLeft_add_eq_or_of_lt (by omega), Nat.shiftLeft_eq]
  omega
theorem and3 (x : UInt64) : (x &&& 3).toNat = x.toNat % 4 := by
  rw [UInt64.toNat_and]; exact Nat.and_two_pow_sub_one_eq_mod x.toNat 2
theorem fold_eq (w0 w1 w2 w3 w4 : UInt64) : V3 (low [w0, w1, w2, w3, w4]) + 1361129467683753853853498429727072845824 * V3 (upw [w0, w1, w2, w3, w4]) = w0.toNat + 18446744073709551616 * w1.toNat + 340282366920938463463374607431768211456 * (w2.toNat + 18446744073709551616 * w3.toNat + 340282366920938463463374607431768211456 * w4.toNat) ∧
    V3 (low [w0, w1, w2, w3, w4]) < 1361129467683753853853498429727072845824 := by
  have h0 := w0.toNat_lt
  have h1 := w1.toNat_lt
  have h2 := w2.toNat_lt
  have h3 := w3.toNat_lt
  have h4 := w4.toNat_lt
  simp only [V3, low, upw, List.getD_cons_zero, List.getD_cons_succ, or62, and3, shr_nat _ 2 (show 2 < 64 by decide)]
  omega
theorem addp_eq (o : List UInt64) (ho : o.length = 3) (u : Nat → UInt64) : V3 (addp o u 3).1 + 6277101735386680763835789423207666416102355444464034512896 * (addp o u 3).2.toNat = V3 o + (u 0).toNat + 18446744073709551616 * (u 1).toNat + 340282366920938463463374607431768211456 * (u 2).toNat := by
  obtain ⟨o0, o1, o2, rfl⟩ : ∃ o0 o1 o2, o = [o0, o1, o2] := by
    match o, ho with
    | [a, b, c], _ => exact ⟨a, b, c, rfl⟩
  have h0 := addc_eq (x := o0) (y := u 0) (c := 0) (by decide)
  have h1 := addc_eq (x := o1) (y := u 1) (c := addc o0 (u 0) 0) (addc_le ..)
  have h2 := addc_eq (x := o2) (y := u 2) (c := addc o1 (u 1) (addc o0 (u 0) 0)) (addc_le ..)
  have z : UInt64.toNat 0 = 0 := rfl
  rw [z] at h0
  have e : addp [o0, o1, o2] u 3 = ([o0 + u 0 + 0, o1 + u 1 + addc o0 (u 0) 0, o2 + u 2 + addc o1 (u 1) (addc o0 (u 0) 0)], addc o2 (u 2) (addc o1 (u 1) (addc o0 (u 0) 0))) := rfl
  rw [e]
  simp only [V3, List.getD_cons_zero, List.getD_cons_succ]
  omega
theorem V3_lt (l : List UInt64) : V3 l < 6277101735386680763835789423207666416102355444464034512896 := by
  have h0 := (l.getD 0 0).toNat_lt
  have h1 := (l.getD 1 0).toNat_lt
  have h2 := (l.getD 2 0).toNat_lt
  unfold V3
  omega
theorem addk_eq (o u : List UInt64) (ho : o.length = 3) (h : V3 o + 5 * V3 u < 6277101735386680763835789423207666416102355444464034512896) : ∀ k, k ≤ 5 → V3 (addk o u k) = V3 o + k * V3 u
  | 0, _ => by simp [addk]
  | k + 1, hk => by
    have ih := addk_eq o u ho h k (by omega)
    have e := addp_eq (addk o u k) ((addk_len o u k).trans ho) (fun i => u.getD i 0)
    have hu : V3 u = (u.getD 0 0).toNat + 18446744073709551616 * (u.getD 1 0).toNat + 340282366920938463463374607431768211456 * (u.getD 2 0).toNat := rfl
    rw [addk]
    have hk5 : k * V3 u + V3 u ≤ 5 * V3 u := by rw [← Nat.succ_mul]; exact Nat.mul_le_mul_right _ (by omega)
    rw [Nat.succ_mul]
    generalize (addp (addk o u k) (fun i => u.getD i 0) 3).2.toNat = c at *
    generalize V3 (addp (addk o u k) (fun i => u.getD i 0) 3).1 = v at *
    have : V3 (addk o u k) + V3 u < 6277101735386680763835789423207666416102355444464034512896 := by omega
    have hc : c = 0 := by omega
    omega
theorem list3 {l : List UInt64} (h : l.length = 3) : ∃ a b c, l = [a, b, c] := by
  match l, h with
  | [a, b, c], _ => exact ⟨a, b, c, rfl⟩
theorem list2 {l : List UInt64} (h : l.length = 2) : ∃ a b, l = [a, b] := by
  match l, h with
  | [a, b], _ => exact ⟨a, b, rfl⟩
/-- A product, modulo 2^130 - 5. -/
theorem times_eq (a r : List UInt64) (ha : a.length = 3) (hr : r.length = 2) (h1 : V3 a < 2722258935367507707706996859454145691648) (h2 : (r.getD 0 0).toNat + 18446744073709551616 * (r.getD 1 0).toNat < 21267647932558653966460912964485513216) :
    V3 (times a r) % 1361129467683753853853498429727072845819 = V3 a * ((r.getD 0 0).toNat + 18446744073709551616 * (r.getD 1 0).toNat) % 1361129467683753853853498429727072845819 ∧ V3 (times a r) < 2722258935367507707706996859454145691648 := by
  obtain ⟨a0, a1, a2, rfl⟩ := list3 ha
  obtain ⟨r0, r1, rfl⟩ := list2 hr
  obtain ⟨w0, w1, w2, w3, w4, e, hw⟩ := tout_eq a0 a1 a2 r0 r1
  obtain ⟨f1, f2⟩ := fold_eq w0 w1 w2 w3 w4
  rw [hw] at f1
  have hV : V3 [a0, a1, a2] = a0.toNat + 18446744073709551616 * a1.toNat + 340282366920938463463374607431768211456 * a2.toNat := rfl
  simp only [List.getD_cons_zero, List.getD_cons_succ] at h2 ⊢
  rw [← hV] at f1
  have hb : V3 [a0, a1, a2] * (r0.toNat + 18446744073709551616 * r1.toNat) ≤ 2722258935367507707706996859454145691647 * 21267647932558653966460912964485513215 := Nat.mul_le_mul (by omega) (by omega)
  have hU : V3 (upw [w0, w1, w2, w3, w4]) < 42535295865117307932921825928971026432 := by omega
  have hk := addk_eq (low [w0, w1, w2, w3, w4]) (upw [w0, w1, w2, w3, w4]) rfl (by omega) 5 (by decide)
  rw [times, e, hk]
  generalize V3 (low [w0, w1, w2, w3, w4]) = L at *
  generalize V3 (upw [w0, w1, w2, w3, w4]) = U at *
  generalize V3 [a0, a1, a2] * (r0.toNat + 18446744073709551616 * r1.toNat) = M at *
  constructor
  · have : M = L + 5 * U + 1361129467683753853853498429727072845819 * U := by omega
    rw [this, Nat.add_mul_mod_self_left]
  · omega
theorem sst_eq (a : List UInt64) (ha : a.length = 3) (h : V3 a < 21778071482940061661655974875633165533184) :
    ∃ L U, V3 a = L + 1361129467683753853853498429727072845824 * U ∧ L < 1361129467683753853853498429727072845824 ∧ U < 16 ∧ V3 (sst a) = L + 5 * U := by
  obtain ⟨a0, a1, a2, rfl⟩ := list3 ha
  have h0 := a0.toNat_lt
  have h1 := a1.toNat_lt
  have h2 := a2.toNat_lt
  simp only [V3, List.getD_cons_zero, List.getD_cons_succ] at h
  have h64 : a2.toNat < 64 := by omega
  have e5 : (5 * shr64n a2 2).toNat = 5 * (a2.toNat / 4) := by
    rw [UInt64.toNat_mul, shr_nat a2 2 (by decide), show UInt64.toNat 5 = 5 from rfl]; omega
  have c0 := addc_eq (x := a0) (y := 5 * shr64n a2 2) (c := 0) (by decide)
  have c1 := addc_eq (x := a1) (y := 0) (c := addc a0 (5 * shr64n a2 2) 0) (addc_le ..)
  have k2 := addc_le a1 0 (addc a0 (5 * shr64n a2 2) 0)
  have z : UInt64.toNat 0 = 0 := rfl
  rw [z] at c0 c1
  rw [e5] at c0
  have e : sst [a0, a1, a2] = [a0 + 5 * shr64n a2 2 + 0, a1 + 0 + addc a0 (5 * shr64n a2 2) 0, (a2 &&& 3) + addc a1 0 (addc a0 (5 * shr64n a2 2) 0)] := rfl
  have e3 : ((a2 &&& 3) + addc a1 0 (addc a0 (5 * shr64n a2 2) 0)).toNat = a2.toNat % 4 + (addc a1 0 (addc a0 (5 * shr64n a2 2) 0)).toNat := by
    rw [UInt64.toNat_add, and3]; omega
  refine ⟨a0.toNat + 18446744073709551616 * a1.toNat + 340282366920938463463374607431768211456 * (a2.toNat % 4), a2.toNat / 4, ?_, ?_, ?_, ?_⟩
  · simp only [V3, List.getD_cons_zero, List.getD_cons_succ]; omega
  · omega
  · omega
  · rw [e]
    simp only [V3, List.getD_cons_zero, List.getD_cons_succ, e3]
    generalize (addc a1 0 (addc a0 (5 * shr64n a2 2) 0)).toNat = u at *
    generalize (addc a0 (5 * shr64n a2 2) 0).toNat = v at *
    omega
theorem small_eq (a : List UInt64) (ha : a.length = 3) (h : V3 a < 21778071482940061661655974875633165533184) : V3 (small a) = V3 a % 1361129467683753853853498429727072845819 := by
  obtain ⟨L, U, e1, e2, e3, e4⟩ := sst_eq a ha h
  obtain ⟨L', U', f1, f2, f3, f4⟩ := sst_eq (sst a) ((sst_len a).trans ha) (by omega)
  have hs : V3 (ssts a 2) = L' + 5 * U' := f4
  have hl : (ssts a 2).length = 3 := (ssts_len a 2).trans ha
  have hmod : V3 a % 1361129467683753853853498429727072845819 = V3 (ssts a 2) % 1361129467683753853853498429727072845819 := by
    have : V3 a = V3 (ssts a 2) + 1361129467683753853853498429727072845819 * (U + U') := by omega
    rw [this, Nat.add_mul_mod_self_left]
  have hlt : V3 (ssts a 2) < 1361129467683753853853498429727072845824 := by omega
  rw [hmod, small]
  generalize ssts a 2 = s at *
  obtain ⟨s0, s1, s2, rfl⟩ := list3 hl
  have b1 := subb_eq (x := s0) (y := 18446744073709551611) (c := 0) (by decide)
  have b2 := subb_eq (x := s1) (y := 18446744073709551615) (c := sb1 [s0, s1, s2]) (subb_le ..)
  have b3 := subb_eq (x := s2) (y := 3) (c := sb2 [s0, s1, s2]) (subb_le ..)
  have z : UInt64.toNat 0 = 0 := rfl
  have z1 : UInt64.toNat 18446744073709551611 = 18446744073709551611 := rfl
  have z2 : UInt64.toNat 18446744073709551615 = 18446744073709551615 := rfl
  have z3 : UInt64.toNat 3 = 3 := rfl
  rw [z, z1] at b1
  rw [z2] at b2
  rw [z3] at b3
  have g1 : sb1 [s0, s1, s2] = subb s0 18446744073709551611 0 := rfl
  have g2 : sb2 [s0, s1, s2] = subb s1 18446744073709551615 (sb1 [s0, s1, s2]) := rfl
  have g3 : sb3 [s0, s1, s2] = subb s2 3 (sb2 [s0, s1, s2]) := rfl
  have l3 := subb_le s2 3 (sb2 [s0, s1, s2])
  rw [← g1] at b1
  rw [← g2] at b2
  rw [← g3] at b3 l3
  have es : slt [s0, s1, s2] = [s0 - 18446744073709551611 - 0, s1 - 18446744073709551615 - sb1 [s0, s1, s2], s2 - 3 - sb2 [s0, s1, s2]] := rfl
  have hv : V3 (slt [s0, s1, s2]) + 1361129467683753853853498429727072845819 = V3 [s0, s1, s2] + 6277101735386680763835789423207666416102355444464034512896 * (sb3 [s0, s1, s2]).toNat := by
    rw [es]
    simp only [V3, List.getD_cons_zero, List.getD_cons_succ]
    omega
  have hb := V3_lt (slt [s0, s1, s2])
  have h2p : V3 [s0, s1, s2] < 2 * 1361129467683753853853498429727072845819 := by omega
  unfold sfin
  split
  · rename_i h0
    rw [h0, z] at hv
    rw [Nat.mod_eq_sub_mod (by omega), Nat.mod_eq_of_lt (by omega)]
    omega
  · rename_i h0
    have : (sb3 [s0, s1, s2]).toNat ≠ 0 := fun e => h0 (UInt64.toNat_inj.1 e)
    rw [Nat.mod_eq_of_lt (by omega)]
end Go.Proofs.Ytcihpgdmldkjfaa.Po

/- What the bytes of marks come to, as numbers. -/
import Derived.Test.YtcihpgdmldkjfaaPt
namespace Go.Proofs.Ytcihpgdmldkjfaa.Po
open Go Go.Abs Go.Proofs

/-- The number of the first bytes, the lowest first. -/
def Fv (f : Nat → UInt8) : Nat → Nat
  | 0 => 0
  | i + 1 => Fv f i + 256 ^ i * (f i).toNat
theorem Fv_lt (f : Nat → UInt8) : ∀ n, Fv f n < 256 ^ n
  | 0 => by simp [Fv]
  | n + 1 => by
    have h1 := Fv_lt f n
    have h2 := (f n).toNat_lt
    have h3 : 256 ^ n * (f n).toNat ≤ 256 ^ n * 255 := Nat.mul_le_mul_left _ (by omega)
    rw [Fv, Nat.pow_succ]; omega
theorem Fv_congr {f h : Nat → UInt8} : ∀ n, (∀ i, i < n → f i = h i) → Fv f n = Fv h n
  | 0, _ => rfl
  | n + 1, e => by rw [Fv, Fv, Fv_congr n fun i hi => e i (by omega), e n (by omega)]
theorem Fv_add (f : Nat → UInt8) (a : Nat) : ∀ b, Fv f (a + b) = Fv f a + 256 ^ a * Fv (fun i => f (a + i)) b
  | 0 => by simp [Fv]
  | b + 1 => by
    rw [← Nat.add_assoc, Fv, Fv_add f a b, Fv, Nat.pow_add, Nat.mul_add, Nat.mul_assoc]
    omega
theorem Fv_digit (f : Nat → UInt8) (n i : Nat) (h : i < n) : Fv f n / 256 ^ i % 256 = (f i).toNat := by
  obtain ⟨b, rfl⟩ : ∃ b, n = i + (1 + b) := ⟨n - i - 1, by omega⟩
  rw [Fv_add, Fv_add (fun j => f (i + j)) 1 b]
  have h1 := Fv_lt f i
  have hp : 0 < 256 ^ i := Nat.pow_pos (by decide)
  have h2 := (f i).toNat_lt
  have e : Fv (fun j => f (i + j)) 1 = (f i).toNat := by simp [Fv]
  rw [e, Nat.add_comm, Nat.mul_add_div hp, Nat.div_eq_of_lt h1]
  omega
theorem Fv_inj {l m : List UInt8} {n : Nat} (hl : l.length = n) (hm : m.length = n) (h : Fv (fun i => l.getD i 0) n = Fv (fun i => m.getD i 0) n) : l = m := by
  refine List.ext_getElem (by omega) fun i h1 h2 => ?_
  have e1 := Fv_digit (fun i => l.getD i 0) n i (by omega)
  have e2 := Fv_digit (fun i => m.getD i 0) n i (by omega)
  rw [h, e2] at e1
  have := UInt8.toNat_inj.1 e1
  simpa [List.getD_eq_getElem?_getD, h1, h2] using this.symm
/-- A sum's digits. -/
def byt (x : UInt64) (i : Nat) : UInt8 := (shr64n x (8 * i)).toUInt8
theorem byt_nat (x : UInt64) (i : Nat) (h : i < 8) : (byt x i).toNat = x.toNat / 256 ^ i % 256 := by
  unfold byt
  rw [UInt64.toNat_toUInt8, shr_nat x (8 * i) (by omega), Nat.pow_mul]
theorem Fv_byt (x : UInt64) : ∀ n, n ≤ 8 → Fv (byt x) n = x.toNat % 256 ^ n
  | 0, _ => by simp [Fv, Nat.mod_one]
  | n + 1, h => by rw [Fv, Fv_byt x n (by omega), byt_nat x n (by omega), Nat.mod_pow_succ]
theorem outb_eq (lo hi : UInt64) : outb lo hi 8 = [byt lo 0, byt lo 1, byt lo 2, byt lo 3, byt lo 4, byt lo 5, byt lo 6, byt lo 7, byt hi 0, byt hi 1, byt hi 2, byt hi 3, byt hi 4, byt hi 5, byt hi 6, byt hi 7] := rfl
theorem Fv_outb (lo hi : UInt64) : Fv (fun i => (outb lo hi 8).getD i 0) 16 = lo.toNat + 2 ^ 64 * hi.toNat := by
  rw [show (16 : Nat) = 8 + 8 from rfl, Fv_add, outb_eq]
  have e1 : Fv (fun i => [byt lo 0, byt lo 1, byt lo 2, byt lo 3, byt lo 4, byt lo 5, byt lo 6, byt lo 7, byt hi 0, byt hi 1, byt hi 2, byt hi 3, byt hi 4, byt hi 5, byt hi 6, byt hi 7].getD i 0) 8 = Fv (byt lo) 8 := rfl
  have e2 : Fv (fun i => [byt lo 0, byt lo 1, byt lo 2, byt lo 3, byt lo 4, byt lo 5, byt lo 6, byt lo 7, byt hi 0, byt hi 1, byt hi 2, byt hi 3, byt hi 4, byt hi 5, byt hi 6, byt hi 7].getD (8 + i) 0) 8 = Fv (byt hi) 8 := rfl
  rw [e1, e2, Fv_byt _ 8 (by decide), Fv_byt _ 8 (by decide)]
  have h1 := lo.toNat_lt
  have h2 := hi.toNat_lt
  rw [Nat.mod_eq_of_lt h1, Nat.mod_eq_of_lt h2]
theorem hf_nat (l : List UInt8) : ∀ i, i ≤ 8 → (hf l i).toNat = Fv (fun i => l.getD i 0) i
  | 0, _ => rfl
  | i + 1, h => by
    have ih := hf_nat l i (by omega)
    have hlt := Fv_lt (fun i => l.getD i 0) i
    have hb := (l.getD i 0).toNat_lt
    rw [hf, UInt64.toNat_or, ih, Fv]
    have e : (shl64n (l.getD i 0).toUInt64 (8 * i)).toNat = (l.getD i 0).toNat <<< (8 * i) := by
      rw [shl64n_lt _ _ (by omega), UInt64.toNat_shiftLeft]
      have : (UInt64.ofNat (8 * i)).toNat % 64 = 8 * i := by
        rw [UInt64.toNat_ofNat_of_lt' (by rw [show UInt64.size = 2 ^ 64 from rfl]; omega), Nat.mod_eq_of_lt (by omega)]
      rw [this, UInt8.toNat_toUInt64, Nat.shiftLeft_eq]
      refine Nat.mod_eq_of_lt ?_
      have h1 : 2 ^ (8 * i) ≤ 2 ^ 56 := Nat.pow_le_pow_right (by decide) (by omega)
      calc (l.getD i 0).toNat * 2 ^ (8 * i) ≤ 255 * 2 ^ 56 := Nat.mul_le_mul (by omega) h1
        _ < 2 ^ 64 := by decide
    rw [e, Nat.or_comm, ← Nat.shiftLeft_add_eq_or_of_lt (by rw [Nat.pow_mul]; exact hlt), Nat.shiftLeft_eq, Nat.pow_mul, Nat.mul_comm (l.getD i 0).toNat, Nat.add_comm]
theorem half_nat (l : List UInt8) : (half l).toNat = Fv (fun i => l.getD i 0) 8 := by
  rw [half, hf_nat _ 8 (by decide)]
  refine Fv_congr 8 fun i hi => ?_
  simp only [List.getD_eq_getElem?_getD, List.getElem?_take, hi, if_true]
theorem kq_get (key : List UInt8) (q i : Nat) (hi : i < 8) (hq : q + 8 ≤ 32) : (kq key q).getD i 0 = key.getD (q + i) 0 := by
  simp only [kq, List.getD_eq_getElem?_getD, List.getElem?_take, List.getElem?_drop, Nat.mul_one, Nat.zero_add]
  rw [if_pos (by omega)]
/-- The mark as a number. -/
theorem fin2_nat (a : List UInt64) (key : List UInt8) : Fv (fun i => (fin2 a key).getD i 0) 16 = ((a.getD 0 0).toNat + 2 ^ 64 * (a.getD 1 0).toNat + Fv (fun i => key.getD (16 + i) 0) 16) % 2 ^ 128 := by
  rw [fin2, Fv_outb, show (16 : Nat) = 8 + 8 from rfl, Fv_add]
  have e1 : (half (kq key 16)).toNat = Fv (fun i => key.getD (8 + 8 + i) 0) 8 := by
    rw [half_nat]; exact Fv_congr 8 fun i hi => kq_get key 16 i hi (by decide)
  have e2 : (half (kq key 24)).toNat = Fv (fun i => key.getD (8 + 8 + (8 + i)) 0) 8 := by
    rw [half_nat]; refine Fv_congr 8 fun i hi => (kq_get key 24 i hi (by decide)).trans ?_
    show key.getD (24 + i) 0 = key.getD (16 + (8 + i)) 0
    rw [← Nat.add_assoc]
  rw [← e1, ← e2]
  have h1 := (a.getD 0 0).toNat_lt
  have h2 := (a.getD 1 0).toNat_lt
  have h3 := (half (kq key 16)).toNat_lt
  have h4 := (half (kq key 24)).toNat_lt
  generalize half (kq key 16) = x at *
  generalize half (kq key 24) = y at *
  generalize a.getD 0 0 = u at *
  generalize a.getD 1 0 = v at *
  simp only [UInt64.toNat_add, UInt64.toNat_zero, Nat.add_zero]
  unfold addc
  simp only [UInt64.toNat_zero, Nat.add_zero]
  split
  · have : UInt64.toNat 1 = 1 := rfl
    rw [this]; omega
  · rw [UInt64.toNat_zero]; omega
/-- Keys that differ behind the first half alone. -/
theorem rk_congr {k k' : List UInt8} (h : ∀ i, i < 16 → k.getD i 0 = k'.getD i 0) : rk k = rk k' := by
  have e1 : half k = half k' := UInt64.toNat_inj.1 (by rw [half_nat, half_nat]; exact Fv_congr 8 fun i hi => h i (by omega))
  have e2 : half (kq k 8) = half (kq k' 8) := UInt64.toNat_inj.1 (by
    rw [half_nat, half_nat]; exact Fv_congr 8 fun i hi => by rw [kq_get k 8 i hi (by decide), kq_get k' 8 i hi (by decide)]; exact h _ (by omega))
  simp only [rk, e1, e2]
end Go.Proofs.Ytcihpgdmldkjfaa.Po

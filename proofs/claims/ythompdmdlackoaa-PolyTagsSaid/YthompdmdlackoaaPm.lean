/- What the bytes of marks come to, as numbers. -/
import Derived.Test.YthompdmdlackoaaPg
namespace Go.Proofs.Ythompdmdlackoaa
open Go Go.Abs Go.Proofs

/-- The number of the first bytes, the lowest first. -/
def Fv (f : Nat → UInt8) : Nat → Nat
  | 0 => 0
  | i + 1 => Fv f i + 256 ^ i * (f i).toNat
theorem Fv_lt (f : Nat → UInt8) : ∀ n, Fv f n < 256 ^ n
  | 0 => by simp [Fv]
  | n + 1 => by
    have h1 := Fv_lt f n
    have h2 := (f n).toNat_lt
    have h3 : 256 ^ n * (f n).toNat ≤ 256 ^ n * 255 := Nat.mul_le_mul_left _ (by omega)
    rw [Fv, Nat.pow_succ]; omega
theorem Fv_congr {f h : Nat → UInt8} : ∀ n, (∀ i, i < n → f i = h i) → Fv f n = Fv h n
  | 0, _ => rfl
  | n + 1, e => by rw [Fv, Fv, Fv_congr n fun i hi => e i (by omega), e n (by omega)]
theorem Fv_add (f : Nat → UInt8) (a : Nat) : ∀ b, Fv f (a + b) = Fv f a + 256 ^ a * Fv (fun i => f (a + i)) b
  | 0 => by simp [Fv]
  | b + 1 => by
    rw [← Nat.add_assoc, Fv, Fv_add f a b, Fv, Nat.pow_add, Nat.mul_add, Nat.mul_assoc]
    omega
theorem Fv_digit (f : Nat → UInt8) (n i : Nat) (h : i < n) : Fv f n / 256 ^ i % 256 = (f i).toNat := by
  obtain ⟨b, rfl⟩ : ∃ b, n = i + (1 + b) := ⟨n - i - 1, by omega⟩
  rw [Fv_add, Fv_add (fun j => f (i + j)) 1 b]
  have h1 := Fv_lt f i
  have hp : 0 < 256 ^ i := Nat.pow_pos (by decide)
  have h2 := (f i).toNat_lt
  have e : Fv (fun j => f (i + j)) 1 = (f i).toNat := by simp [Fv]
  rw [e, Nat.add_comm, Nat.mul_add_div hp, Nat.div_eq_of_lt h1]
  omega
theorem Fv_inj {l m : List UInt8} {n : Nat} (hl : l.length = n) (hm : m.length = n) (h : Fv (fun i => l.getD i 0) n = Fv (fun i => m.getD i 0) n) : l = m := by
  refine List.ext_getElem (by omega) fun i h1 h2 => ?_
  have e1 := Fv_digit (fun i => l.getD i 0) n i (by omega)
  have e2 := Fv_digit (fun i => m.getD i 0) n i (by omega)
  rw [h, e2] at e1
  have := UInt8.toNat_inj.1 e1
  simpa [List.getD_eq_getElem?_getD, h1, h2] using this.symm
/-- A sum's digits. -/
theorem cy_spec (f h : Nat → UInt8) : ∀ i, ∃ r, r < 256 ^ i ∧ Fv f i + Fv h i = 256 ^ i * cy f h i + r
  | 0 => ⟨0, by decide, by simp [Fv, cy]⟩
  | i + 1 => by
    obtain ⟨r, h1, h2⟩ := cy_spec f h i
    have hp : 0 < 256 ^ i := Nat.pow_pos (by decide)
    have e : Fv f (i + 1) + Fv h (i + 1) = 256 ^ i * (cy f h i + (f i).toNat + (h i).toNat) + r := by
      rw [Fv, Fv, Nat.mul_add, Nat.mul_add]; omega
    refine ⟨256 ^ i * ((cy f h i + (f i).toNat + (h i).toNat) % 256) + r, ?_, ?_⟩
    · have := Nat.mod_lt (cy f h i + (f i).toNat + (h i).toNat) (y := 256) (by decide)
      have : 256 ^ i * ((cy f h i + (f i).toNat + (h i).toNat) % 256) ≤ 256 ^ i * 255 := Nat.mul_le_mul_left _ (by omega)
      rw [Nat.pow_succ]; omega
    · rw [e, cy, Nat.pow_succ, Nat.mul_assoc, ← Nat.add_assoc, ← Nat.mul_add, Nat.div_add_mod]
theorem sum_digit (f h : Nat → UInt8) (n i : Nat) (hi : i < n) : (cy f h i + (f i).toNat + (h i).toNat) % 256 = (Fv f n + Fv h n) / 256 ^ i % 256 := by
  obtain ⟨b, rfl⟩ : ∃ b, n = i + (1 + b) := ⟨n - i - 1, by omega⟩
  obtain ⟨r, h1, h2⟩ := cy_spec f h i
  have hp : 0 < 256 ^ i := Nat.pow_pos (by decide)
  rw [Fv_add f, Fv_add (fun j => f (i + j)) 1 b, Fv_add h, Fv_add (fun j => h (i + j)) 1 b]
  have e : Fv (fun j => f (i + j)) 1 = (f i).toNat := by simp [Fv]
  have e' : Fv (fun j => h (i + j)) 1 = (h i).toNat := by simp [Fv]
  rw [e, e']
  generalize Fv (fun j => f (i + (1 + j))) b = x
  generalize Fv (fun j => h (i + (1 + j))) b = y
  have e3 : Fv f i + 256 ^ i * ((f i).toNat + 256 ^ 1 * x) + (Fv h i + 256 ^ i * ((h i).toNat + 256 ^ 1 * y)) = 256 ^ i * (cy f h i + (f i).toNat + (h i).toNat + 256 * (x + y)) + r := by
    simp only [Nat.mul_add, Nat.pow_one]
    omega
  rw [e3, Nat.mul_add_div hp, Nat.div_eq_of_lt h1]
  omega
/-- A word's bytes. -/
def byt (x : UInt64) (i : Nat) : UInt8 := (shr64n x (8 * i)).toUInt8
theorem byt_nat (x : UInt64) (i : Nat) (h : i < 8) : (byt x i).toNat = x.toNat / 256 ^ i % 256 := by
  unfold byt
  rw [UInt64.toNat_toUInt8, shr_nat x (8 * i) (by omega), Nat.pow_mul]
theorem Fv_byt (x : UInt64) : ∀ n, n ≤ 8 → Fv (byt x) n = x.toNat % 256 ^ n
  | 0, _ => by simp [Fv, Nat.mod_one]
  | n + 1, h => by rw [Fv, Fv_byt x n (by omega), byt_nat x n (by omega), Nat.mod_pow_succ]
theorem outb_eq (lo hi : UInt64) : outb lo hi 8 = [byt lo 0, byt lo 1, byt lo 2, byt lo 3, byt lo 4, byt lo 5, byt lo 6, byt lo 7, byt hi 0, byt hi 1, byt hi 2, byt hi 3, byt hi 4, byt hi 5, byt hi 6, byt hi 7] := rfl
theorem Fv_outb (lo hi : UInt64) : Fv (fun i => (outb lo hi 8).getD i 0) 16 = lo.toNat + 2 ^ 64 * hi.toNat := by
  rw [show (16 : Nat) = 8 + 8 from rfl, Fv_add, outb_eq]
  have e1 : Fv (fun i => [byt lo 0, byt lo 1, byt lo 2, byt lo 3, byt lo 4, byt lo 5, byt lo 6, byt lo 7, byt hi 0, byt hi 1, byt hi 2, byt hi 3, byt hi 4, byt hi 5, byt hi 6, byt hi 7].getD i 0) 8 = Fv (byt lo) 8 := rfl
  have e2 : Fv (fun i => [byt lo 0, byt lo 1, byt lo 2, byt lo 3, byt lo 4, byt lo 5, byt lo 6, byt lo 7, byt hi 0, byt hi 1, byt hi 2, byt hi 3, byt hi 4, byt hi 5, byt hi 6, byt hi 7].getD (8 + i) 0) 8 = Fv (byt hi) 8 := rfl
  rw [e1, e2, Fv_byt _ 8 (by decide), Fv_byt _ 8 (by decide)]
  have h1 := lo.toNat_lt
  have h2 := hi.toNat_lt
  rw [Nat.mod_eq_of_lt h1, Nat.mod_eq_of_lt h2]
theorem hf_nat (l : List UInt8) : ∀ i, i ≤ 8 → (hf l i).toNat = Fv (fun i => l.getD i 0) i
  | 0, _ => rfl
  | i + 1, h => by
    have ih := hf_nat l i (by omega)
    have hlt := Fv_lt (fun i => l.getD i 0) i
    have hb := (l.getD i 0).toNat_lt
    rw [hf, UInt64.toNat_or, ih, Fv]
    have e : (shl64n (l.getD i 0).toUInt64 (8 * i)).toNat = (l.getD i 0).toNat <<< (8 * i) := by
      rw [shl64n_lt _ _ (by omega), UInt64.toNat_shiftLeft]
      have : (UInt64.ofNat (8 * i)).toNat % 64 = 8 * i := by
        rw [UInt64.toNat_ofNat_of_lt' (by rw [show UInt64.size = 2 ^ 64 from rfl]; omega), Nat.mod_eq_of_lt (by omega)]
      rw [this, UInt8.toNat_toUInt64, Nat.shiftLeft_eq]
      refine Nat.mod_eq_of_lt ?_
      have h1 : 2 ^ (8 * i) ≤ 2 ^ 56 := Nat.pow_le_pow_right (by decide) (by omega)
      calc (l.getD i 0).toNat * 2 ^ (8 * i) ≤ 255 * 2 ^ 56 := Nat.mul_le_mul (by omega) h1
        _ < 2 ^ 64 := by decide
    rw [e, Nat.or_comm, ← Nat.shiftLeft_add_eq_or_of_lt (by rw [Nat.pow_mul]; exact hlt), Nat.shiftLeft_eq, Nat.pow_mul, Nat.mul_comm (l.getD i 0).toNat, Nat.add_comm]
theorem half_nat (l : List UInt8) : (half l).toNat = Fv (fun i => l.getD i 0) 8 := by
  rw [half, hf_nat _ 8 (by decide)]
  refine Fv_congr 8 fun i hi => ?_
  simp only [List.getD_eq_getElem?_getD, List.getElem?_take, hi, if_true]
theorem kq_get (key : List UInt8) (q i : Nat) (hi : i < 8) (hq : q + 8 ≤ 32) : (kq key q).getD i 0 = key.getD (q + i) 0 := by
  simp only [kq, List.getD_eq_getElem?_getD, List.getElem?_take, List.getElem?_drop, Nat.mul_one, Nat.zero_add]
  rw [if_pos (by omega)]
/-- The mark as a number. -/
theorem fin2_nat (a : List UInt64) (key : List UInt8) : Fv (fun i => (fin2 a key).getD i 0) 16 = ((a.getD 0 0).toNat + 2 ^ 64 * (a.getD 1 0).toNat + Fv (fun i => key.getD (16 + i) 0) 16) % 2 ^ 128 := by
  rw [fin2, Fv_outb, show (16 : Nat) = 8 + 8 from rfl, Fv_add]
  have e1 : (half (kq key 16)).toNat = Fv (fun i => key.getD (8 + 8 + i) 0) 8 := by
    rw [half_nat]; exact Fv_congr 8 fun i hi => kq_get key 16 i hi (by decide)
  have e2 : (half (kq key 24)).toNat = Fv (fun i => key.getD (8 + 8 + (8 + i)) 0) 8 := by
    rw [half_nat]; refine Fv_congr 8 fun i hi => (kq_get key 24 i hi (by decide)).trans ?_
    show key.getD (24 + i) 0 = key.getD (16 + (8 + i)) 0
    rw [← Nat.add_assoc]
  rw [← e1, ← e2]
  have h1 := (a.getD 0 0).toNat_lt
  have h2 := (a.getD 1 0).toNat_lt
  have h3 := (half (kq key 16)).toNat_lt
  have h4 := (half (kq key 24)).toNat_lt
  generalize half (kq key 16) = x at *
  generalize half (kq key 24) = y at *
  generalize a.getD 0 0 = u at *
  generalize a.getD 1 0 = v at *
  simp only [UInt64.toNat_add, UInt64.toNat_zero, Nat.add_zero]
  unfold addc
  simp only [UInt64.toNat_zero, Nat.add_zero]
  split
  · have : UInt64.toNat 1 = 1 := rfl
    rw [this]; omega
  · rw [UInt64.toNat_zero]; omega
/-- Keys that differ behind the first half alone. -/
theorem rk_congr {k k' : List UInt8} (h : ∀ i, i < 16 → k.getD i 0 = k'.getD i 0) : rk k = rk k' := by
  have e1 : half k = half k' := UInt64.toNat_inj.1 (by rw [half_nat, half_nat]; exact Fv_congr 8 fun i hi => h i (by omega))
  have e2 : half (kq k 8) = half (kq k' 8) := UInt64.toNat_inj.1 (by
    rw [half_nat, half_nat]; exact Fv_congr 8 fun i hi => by rw [kq_get k 8 i hi (by decide), kq_get k' 8 i hi (by decide)]; exact h _ (by omega))
  simp only [rk, e1, e2]
theorem ot_get (key s : List UInt8) (hk : key.length = 32) : ∀ i, i ≤ 16 → ∀ j, (ot key s i).getD j 0 = if 16 ≤ j ∧ j < 16 + i then s.getD (j - 16) 0 else key.getD j 0
  | 0, _, j => by rw [ot, if_neg (by omega)]
  | i + 1, h, j => by
    have hl := (ot_len key s i).trans hk
    have ih := ot_get key s hk i (by omega) j
    rw [ot]
    by_cases hj : j = 16 + i
    · subst hj
      rw [if_pos (by omega), List.getD_eq_getElem?_getD, List.getElem?_set, if_pos rfl, if_pos (by omega)]
      simp
    · have : ((ot key s i).set (16 + i) (s.getD i 0)).getD j 0 = (ot key s i).getD j 0 := by
        simp only [List.getD_eq_getElem?_getD, List.getElem?_set, if_neg (show ¬ 16 + i = j by omega)]
      rw [this, ih]
      by_cases h' : 16 ≤ j ∧ j < 16 + i
      · rw [if_pos h', if_pos (by omega)]
      · rw [if_neg h', if_neg (by omega)]
theorem sums_fact (key s l : List UInt8) (hk : key.length = 32) (i : Nat) (hi : i < 16) :
    (cy (fun i => (tag key l).getD i 0) (fun i => s.getD i 0) i + ((tag key l).getD i 0).toNat + (s.getD i 0).toNat) % 256 =
      (cy (fun i => (tag (ot key s 16) l).getD i 0) (fun i => key.getD (16 + i) 0) i + ((tag (ot key s 16) l).getD i 0).toNat + (key.getD (16 + i) 0).toNat) % 256 := by
  rw [sum_digit (fun i => (tag key l).getD i 0) (fun i => s.getD i 0) 16 i hi, sum_digit (fun i => (tag (ot key s 16) l).getD i 0) (fun i => key.getD (16 + i) 0) 16 i hi]
  have er : rk (ot key s 16) = rk key := rk_congr fun i hi => by rw [ot_get key s hk 16 (by decide), if_neg (by omega)]
  have eo : Fv (fun i => (ot key s 16).getD (16 + i) 0) 16 = Fv (fun i => s.getD i 0) 16 := Fv_congr 16 fun i hi => by
    rw [ot_get key s hk 16 (by decide), if_pos (by omega), Nat.add_sub_cancel_left]
  have e1 := fin2_nat (pacc l (rk key) ((l.length + 15) / 16)) key
  have e2 := fin2_nat (pacc l (rk key) ((l.length + 15) / 16)) (ot key s 16)
  rw [eo] at e2
  have t1 : tag key l = fin2 (pacc l (rk key) ((l.length + 15) / 16)) key := rfl
  have t2 : tag (ot key s 16) l = fin2 (pacc l (rk key) ((l.length + 15) / 16)) (ot key s 16) := by rw [tag, er]
  rw [t1, t2, e1, e2]
  generalize Fv (fun i => s.getD i 0) 16 = S
  generalize Fv (fun i => key.getD (16 + i) 0) 16 = K
  generalize ((pacc l (rk key) ((l.length + 15) / 16)).getD 0 0).toNat + 2 ^ 64 * ((pacc l (rk key) ((l.length + 15) / 16)).getD 1 0).toNat = X
  have hm : ∀ N : Nat, N / 256 ^ i % 256 = N % 2 ^ 128 / 256 ^ i % 256 := fun N => by
    have e : (2 : Nat) ^ 128 = 256 ^ i * (256 * 256 ^ (15 - i)) := by
      rw [← Nat.pow_succ', ← Nat.pow_add, show i + (15 - i + 1) = 16 by omega]
    rw [e, Nat.mod_mul_right_div_self, Nat.mod_mul_right_mod]
  rw [hm ((X + K) % 2 ^ 128 + S), hm ((X + S) % 2 ^ 128 + K)]
  have : ((X + K) % 2 ^ 128 + S) % 2 ^ 128 = ((X + S) % 2 ^ 128 + K) % 2 ^ 128 := by omega
  rw [this]
theorem sums (key s l : List UInt8) (n : Nat) (hkey : key.length = 32) (hl : l.length = n) (hn : n ≤ 140737488351232) (hs : s.length = 16) : Good Try.prog 5 [.a (u8s key), .a (u8s s), .c (.ro n (u8s l))] [] (sc (.bool true)) [] := by
  by_cases h : 300 < n
  · exact sums_long key s l n hl hn h
  · exact sums_ key s l _ _ _ n hkey hl hn hs (by omega) rfl rfl rfl fun i hi => sums_fact key s l hkey i hi
theorem sh_get (key : List UInt8) : ∀ i, i ≤ 16 → ∀ j, j < i → (sh key i).getD j 0 = key.getD (16 + j) 0
  | 0, _, j, h => by omega
  | i + 1, h, j, hj => by
    have hl := sh_len key i
    rw [sh]
    by_cases e : j = i
    · subst e
      rw [List.getD_eq_getElem?_getD, List.getElem?_set, if_pos rfl, if_pos (by omega)]; simp
    · have : ((sh key i).set i (key.getD (16 + i) 0)).getD j 0 = (sh key i).getD j 0 := by
        simp only [List.getD_eq_getElem?_getD, List.getElem?_set, if_neg (show ¬ i = j by omega)]
      rw [this]; exact sh_get key i (by omega) j (by omega)
theorem zk_get (key : List UInt8) (hk : key.length = 32) : ∀ i, i ≤ 16 → ∀ j, (zk key i).getD j 0 = if j < i then (if j % 4 = 3 then 240 else 0) else key.getD j 0
  | 0, _, j => by rw [zk, if_neg (by omega)]
  | i + 1, h, j => by
    have hl := (zk_len key i).trans hk
    have ih := zk_get key hk i (by omega) j
    have e0 : (zk key (i + 1)) = (zk key i).set i (if i % 4 = 3 then 240 else 0) := by
      rw [zk]; split <;> simp
    rw [e0]
    by_cases e : j = i
    · subst e
      rw [if_pos (show j < j + 1 by omega), List.getD_eq_getElem?_getD, List.getElem?_set, if_pos rfl, if_pos (by omega)]; simp
    · have : ((zk key i).set i (if i % 4 = 3 then 240 else 0)).getD j 0 = (zk key i).getD j 0 := by
        simp only [List.getD_eq_getElem?_getD, List.getElem?_set, if_neg (show ¬ i = j by omega)]
      rw [this, ih]
      by_cases h' : j < i
      · rw [if_pos h', if_pos (show j < i + 1 by omega)]
      · rw [if_neg h', if_neg (show ¬ j < i + 1 by omega)]
theorem fin2_zero (key : List UInt8) (hk : key.length = 32) (K : List UInt8) (h : ∀ i, i < 16 → K.getD (16 + i) 0 = key.getD (16 + i) 0) : fin2 (List.replicate 3 0) K = sh key 16 := by
  refine Fv_inj (n := 16) (outb_len _ _ _) (sh_len _ _) ?_
  rw [fin2_nat, Fv_congr (h := fun i => key.getD (16 + i) 0) 16 h]
  have e : Fv (fun i => (sh key 16).getD i 0) 16 = Fv (fun i => key.getD (16 + i) 0) 16 := Fv_congr 16 fun i hi => sh_get key 16 (by decide) i hi
  rw [e]
  have h1 := Fv_lt (fun i => key.getD (16 + i) 0) 16
  have h2 : (List.replicate 3 (0 : UInt64)).getD 0 0 = 0 := rfl
  have h3 : (List.replicate 3 (0 : UInt64)).getD 1 0 = 0 := rfl
  rw [h2, h3]
  have h4 : (256 : Nat) ^ 16 = 2 ^ 128 := by decide
  rw [h4] at h1
  simp only [UInt64.toNat_zero, Nat.mul_zero, Nat.add_zero, Nat.zero_add]
  exact Nat.mod_eq_of_lt h1
theorem rk_zero (key : List UInt8) (hk : key.length = 32) : rk (zk key 16) = [0, 0] := by
  have e := rk_congr (k := zk key 16) (k' := zk (List.replicate 32 0) 16) fun i hi => by
    rw [zk_get key hk 16 (by decide), zk_get _ (by simp) 16 (by decide), if_pos hi, if_pos hi]
  rw [e]
  decide +kernel
theorem mulhi_zero (x : UInt64) : mulhi x 0 = 0 := by
  simp [mulhi, shr64n]
theorem times_zero (a : List UInt64) : times a [0, 0] = List.replicate 3 0 := by
  have hs : ∀ i w, w = List.replicate 5 (0 : UInt64) → i ≤ 2 → tstep a [0, 0] i w 2 = (List.replicate 5 0, 0) := by
    rintro i w rfl hi
    have a0 : addc 0 0 0 = 0 := by decide
    have : i = 0 ∨ i = 1 ∨ i = 2 := by omega
    rcases this with rfl | rfl | rfl <;> simp [tstep, mulhi_zero, a0]
  have ht : ∀ i, i ≤ 3 → tout a [0, 0] i = List.replicate 5 0 := by
    intro i
    induction i with
    | zero => intro _; rfl
    | succ i ih =>
      intro h
      rw [tout, hs i _ (ih (by omega)) (by omega)]
      have : i = 0 ∨ i = 1 ∨ i = 2 := by omega
      rcases this with rfl | rfl | rfl <;> rfl
  rw [times, ht 3 (by decide)]
  decide +kernel
theorem pacc_zero (m : List UInt8) : ∀ j, pacc m [0, 0] j = List.replicate 3 0
  | 0 => rfl
  | j + 1 => by rw [pacc, times_zero]; decide +kernel
theorem noughts (key l : List UInt8) (n : Nat) (hkey : key.length = 32) (hl : l.length = n) (hn : n ≤ 140737488351232) : Good Try.prog 4 [.a (u8s key), .c (.ro n (u8s l))] [] (sc (.bool true)) [] := by
  by_cases h : 600 < n
  · exact noughts_long key l n hl hn h
  · refine noughts_ key l _ _ n hkey hl hn (by omega) rfl rfl (fin2_zero key hkey key fun _ _ => rfl) ?_
    rw [tag, rk_zero key hkey, pacc_zero]
    exact fin2_zero key hkey _ fun i hi => by rw [zk_get key hkey 16 (by decide), if_neg (by omega)]
end Go.Proofs.Ythompdmdlackoaa

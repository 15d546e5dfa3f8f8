/- Words: sums with a carry, differences with a borrow, products of two words, as numbers. -/
import Derived.Test.YtbcbgphnadfijaaAbsZd
namespace Go.Abs
open Go

theorem addc_nat (x y c : UInt64) : (x + y + c).toNat + 18446744073709551616 * (addc x y c).toNat = x.toNat + y.toNat + c.toNat ∨ 1 < c.toNat := by
  have hx := x.toNat_lt
  have hy := y.toNat_lt
  have hc := c.toNat_lt
  rcases Nat.lt_or_ge 1 c.toNat with h | h
  · exact .inr h
  refine .inl ?_
  simp only [UInt64.toNat_add]
  unfold addc
  split
  · have : UInt64.toNat 1 = 1 := rfl
    rw [this]; omega
  · have : UInt64.toNat 0 = 0 := rfl
    rw [this]; omega
theorem addc_eq {x y c : UInt64} (h : c.toNat ≤ 1) : (x + y + c).toNat + 18446744073709551616 * (addc x y c).toNat = x.toNat + y.toNat + c.toNat :=
  (addc_nat x y c).resolve_right (by omega)
theorem subb_eq {x y c : UInt64} (h : c.toNat ≤ 1) : (x - y - c).toNat + y.toNat + c.toNat = x.toNat + 18446744073709551616 * (subb x y c).toNat := by
  have hx := x.toNat_lt
  have hy := y.toNat_lt
  rw [UInt64.toNat_sub, UInt64.toNat_sub]
  unfold subb
  split
  · have : UInt64.toNat 1 = 1 := rfl
    rw [this]; omega
  · have : UInt64.toNat 0 = 0 := rfl
    rw [this]; omega
/-- The upper word of a product. -/
def mulhi (x y : UInt64) : UInt64 :=
  shr64n x 32 * shr64n y 32 + shr64n (shr64n x 32 * (y &&& 4294967295) + shr64n ((x &&& 4294967295) * (y &&& 4294967295)) 32) 32 +
    shr64n ((shr64n x 32 * (y &&& 4294967295) + shr64n ((x &&& 4294967295) * (y &&& 4294967295)) 32 &&& 4294967295) + (x &&& 4294967295) * shr64n y 32) 32
theorem shr_nat (n : UInt64) (k : Nat) (h : k < 64) : (shr64n n k).toNat = n.toNat / 2 ^ k := by
  unfold shr64n
  simp [UInt64.toNat_shiftRight, Nat.shiftRight_eq_div_pow, h, Nat.mod_eq_of_lt h]
theorem low_nat (n : UInt64) : (n &&& 4294967295).toNat = n.toNat % 4294967296 := by
  rw [UInt64.toNat_and]
  exact Nat.and_two_pow_sub_one_eq_mod n.toNat 32
theorem mulhi_nat (x y : UInt64) : (mulhi x y).toNat = x.toNat * y.toNat / 18446744073709551616 := by
  have hx := x.toNat_lt
  have hy := y.toNat_lt
  have s32 : ∀ n : UInt64, (shr64n n 32).toNat = n.toNat / 4294967296 := fun n => shr_nat n 32 (by decide)
  have hx1 : x.toNat / 4294967296 < 4294967296 := by omega
  have hy1 : y.toNat / 4294967296 < 4294967296 := by omega
  have hx0 : x.toNat % 4294967296 < 4294967296 := Nat.mod_lt _ (by decide)
  have hy0 : y.toNat % 4294967296 < 4294967296 := Nat.mod_lt _ (by decide)
  have ex : x.toNat = 4294967296 * (x.toNat / 4294967296) + x.toNat % 4294967296 := (Nat.div_add_mod _ _).symm
  have ey : y.toNat = 4294967296 * (y.toNat / 4294967296) + y.toNat % 4294967296 := (Nat.div_add_mod _ _).symm
  unfold mulhi
  simp only [UInt64.toNat_add, UInt64.toNat_mul, s32, low_nat]
  rw [show x.toNat * y.toNat = (4294967296 * (x.toNat / 4294967296) + x.toNat % 4294967296) * (4294967296 * (y.toNat / 4294967296) + y.toNat % 4294967296) by rw [← ex, ← ey]]
  generalize x.toNat / 4294967296 = a at *
  generalize x.toNat % 4294967296 = b at *
  generalize y.toNat / 4294967296 = c at *
  generalize y.toNat % 4294967296 = d at *
  have m : ∀ u v : Nat, u < 4294967296 → v < 4294967296 → u * v ≤ 4294967295 * 4294967295 := fun u v hu hv => Nat.mul_le_mul (by omega) (by omega)
  have h1 := m a c hx1 hy1
  have h2 := m a d hx1 hy0
  have h3 := m b c hx0 hy1
  have h4 := m b d hx0 hy0
  have e : (4294967296 * a + b) * (4294967296 * c + d) = 18446744073709551616 * (a * c) + 4294967296 * (a * d + b * c) + b * d := by
    simp only [Nat.mul_add, Nat.add_mul]
    have e1 : 4294967296 * a * (4294967296 * c) = 18446744073709551616 * (a * c) := by rw [Nat.mul_mul_mul_comm]
    have e2 : 4294967296 * a * d = 4294967296 * (a * d) := Nat.mul_assoc ..
    have e3 : b * (4294967296 * c) = 4294967296 * (b * c) := by rw [Nat.mul_left_comm]
    omega
  rw [e]
  generalize a * c = p at *
  generalize a * d = q at *
  generalize b * c = r at *
  generalize b * d = s at *
  omega
/-- One place of a product's row: what stands there, what is carried on. -/
theorem row_eq (x y w v : UInt64) : (x * y + w + 0 + v + 0).toNat + 18446744073709551616 * (mulhi x y + addc (x * y) w 0 + addc (x * y + w + 0) v 0).toNat = x.toNat * y.toNat + w.toNat + v.toNat := by
  have hx := x.toNat_lt
  have hy := y.toNat_lt
  have hw := w.toNat_lt
  have hv := v.toNat_lt
  have h1 := addc_eq (x := x * y) (y := w) (c := 0) (by decide)
  have h2 := addc_eq (x := x * y + w + 0) (y := v) (c := 0) (by decide)
  have hm := mulhi_nat x y
  have hxy : (x * y).toNat = x.toNat * y.toNat % 18446744073709551616 := UInt64.toNat_mul ..
  have hb : x.toNat * y.toNat ≤ 18446744073709551615 * 18446744073709551615 := Nat.mul_le_mul (by omega) (by omega)
  have z : UInt64.toNat 0 = 0 := rfl
  rw [z] at h1 h2
  have c1 := addc_le (x * y) w 0
  have c2 := addc_le (x * y + w + 0) v 0
  rw [UInt64.toNat_add (mulhi x y + addc (x * y) w 0), UInt64.toNat_add (mulhi x y)]
  generalize (addc (x * y) w 0).toNat = k1 at *
  generalize (addc (x * y + w + 0) v 0).toNat = k2 at *
  generalize (x * y + w + 0 + v + 0).toNat = t at *
  generalize (x * y + w + 0).toNat = u at *
  rw [hm]
  rw [hxy] at h1
  generalize x.toNat * y.toNat = P at *
  omega
theorem q_eqa0 {P : Program} {fr : List S} {H : Heap} {K : S → Heap → Prop} {od : Option Nat} {oty : TypeId} {ops_ : String} {oaf : Array Edge} {ogu : Option (Nat × Bool)} {t u : TypeId} {a b : Operand} {ti : TI} {n e : Nat} {ei : TI} {x y : List Int} [it_ : ArT P t ti n e ei 1] (h : K (sc (.bool (decide (x = y)))) H) (hek : ei.kind = .int .i64 := by exact rfl) (hpl : ti.plain = true := by exact rfl)
    (hx : ev fr a = sa (i64s x) := by first | exact et rfl | exact rfl) (hy : ev fr b = sa (i64s y) := by first | exact et rfl | exact rfl) (hlx : x.length = n := by first | omega | assumption | exact rfl | (simp; done)) (hly : y.length = n := by first | omega | assumption | exact rfl | (simp; done)) : ostep P ⟨od, .binOp .eql t a b u, oty, ops_, oaf, ogu⟩ fr H K :=
  eqArr rfl it_.ht it_.hk it_.he hek hpl it_.hs hx hy (mapc_allInt _) (mapc_allInt _) (by rw [mapc_length]; exact hlx) (by rw [mapc_length]; exact hly) (by rw [mapc_ints, mapc_ints, List.map_id', List.map_id']; rfl) h
end Go.Abs

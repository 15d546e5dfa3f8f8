/- Texts that the proof stands on, put together: the abstract machine, and what functions do over it. -/
import Derived.Test.YtklcckngmmklhaaOutCarriesb
import Derived.Laws.Externs
import Derived.KernelRfl
import Derived.Test.YtklcckngmmklhaaProg
/- The abstract machine: the rules for single operations, what can be found by itself being found. Printed by wrap.py. -/
namespace Go.Abs
open Go
theorem hlen0 : List.length ([] : Heap) = 0 := rfl
theorem hlen1 {b0 : Option (List Cell)} : List.length [b0] = 1 := rfl
theorem hlen2 {b0 b1 : Option (List Cell)} : List.length [b0, b1] = 2 := rfl
theorem hlen3 {b0 b1 b2 : Option (List Cell)} : List.length [b0, b1, b2] = 3 := rfl
theorem hlen4 {b0 b1 b2 b3 : Option (List Cell)} : List.length [b0, b1, b2, b3] = 4 := rfl
theorem hlen5 {b0 b1 b2 b3 b4 : Option (List Cell)} : List.length [b0, b1, b2, b3, b4] = 5 := rfl
theorem hlen6 {b0 b1 b2 b3 b4 b5 : Option (List Cell)} : List.length [b0, b1, b2, b3, b4, b5] = 6 := rfl
theorem hlen7 {b0 b1 b2 b3 b4 b5 b6 : Option (List Cell)} : List.length [b0, b1, b2, b3, b4, b5, b6] = 7 := rfl
theorem hlen8 {b0 b1 b2 b3 b4 b5 b6 b7 : Option (List Cell)} : List.length [b0, b1, b2, b3, b4, b5, b6, b7] = 8 := rfl
theorem hlen9 {b0 b1 b2 b3 b4 b5 b6 b7 b8 : Option (List Cell)} : List.length [b0, b1, b2, b3, b4, b5, b6, b7, b8] = 9 := rfl
theorem hlen10 {b0 b1 b2 b3 b4 b5 b6 b7 b8 b9 : Option (List Cell)} : List.length [b0, b1, b2, b3, b4, b5, b6, b7, b8, b9] = 10 := rfl
theorem hlen11 {b0 b1 b2 b3 b4 b5 b6 b7 b8 b9 b10 : Option (List Cell)} : List.length [b0, b1, b2, b3, b4, b5, b6, b7, b8, b9, b10] = 11 := rfl
theorem hlen12 {b0 b1 b2 b3 b4 b5 b6 b7 b8 b9 b10 b11 : Option (List Cell)} : List.length [b0, b1, b2, b3, b4, b5, b6, b7, b8, b9, b10, b11] = 12 := rfl
theorem hlen13 {b0 b1 b2 b3 b4 b5 b6 b7 b8 b9 b10 b11 b12 : Option (List Cell)} : List.length [b0, b1, b2, b3, b4, b5, b6, b7, b8, b9, b10, b11, b12] = 13 := rfl
theorem hlen14 {b0 b1 b2 b3 b4 b5 b6 b7 b8 b9 b10 b11 b12 b13 : Option (List Cell)} : List.length [b0, b1, b2, b3, b4, b5, b6, b7, b8, b9, b10, b11, b12, b13] = 14 := rfl
theorem hlen15 {b0 b1 b2 b3 b4 b5 b6 b7 b8 b9 b10 b11 b12 b13 b14 : Option (List Cell)} : List.length [b0, b1, b2, b3, b4, b5, b6, b7, b8, b9, b10, b11, b12, b13, b14] = 15 := rfl
theorem hlen16 {b0 b1 b2 b3 b4 b5 b6 b7 b8 b9 b10 b11 b12 b13 b14 b15 : Option (List Cell)} : List.length [b0, b1, b2, b3, b4, b5, b6, b7, b8, b9, b10, b11, b12, b13, b14, b15] = 16 := rfl
theorem hlen17 {b0 b1 b2 b3 b4 b5 b6 b7 b8 b9 b10 b11 b12 b13 b14 b15 b16 : Option (List Cell)} : List.length [b0, b1, b2, b3, b4, b5, b6, b7, b8, b9, b10, b11, b12, b13, b14, b15, b16] = 17 := rfl
theorem hlen18 {b0 b1 b2 b3 b4 b5 b6 b7 b8 b9 b10 b11 b12 b13 b14 b15 b16 b17 : Option (List Cell)} : List.length [b0, b1, b2, b3, b4, b5, b6, b7, b8, b9, b10, b11, b12, b13, b14, b15, b16, b17] = 18 := rfl
theorem hlen19 {b0 b1 b2 b3 b4 b5 b6 b7 b8 b9 b10 b11 b12 b13 b14 b15 b16 b17 b18 : Option (List Cell)} : List.length [b0, b1, b2, b3, b4, b5, b6, b7, b8, b9, b10, b11, b12, b13, b14, b15, b16, b17, b18] = 19 := rfl
theorem hlen20 {b0 b1 b2 b3 b4 b5 b6 b7 b8 b9 b10 b11 b12 b13 b14 b15 b16 b17 b18 b19 : Option (List Cell)} : List.length [b0, b1, b2, b3, b4, b5, b6, b7, b8, b9, b10, b11, b12, b13, b14, b15, b16, b17, b18, b19] = 20 := rfl
theorem hlen21 {b0 b1 b2 b3 b4 b5 b6 b7 b8 b9 b10 b11 b12 b13 b14 b15 b16 b17 b18 b19 b20 : Option (List Cell)} : List.length [b0, b1, b2, b3, b4, b5, b6, b7, b8, b9, b10, b11, b12, b13, b14, b15, b16, b17, b18, b19, b20] = 21 := rfl
theorem hlen22 {b0 b1 b2 b3 b4 b5 b6 b7 b8 b9 b10 b11 b12 b13 b14 b15 b16 b17 b18 b19 b20 b21 : Option (List Cell)} : List.length [b0, b1, b2, b3, b4, b5, b6, b7, b8, b9, b10, b11, b12, b13, b14, b15, b16, b17, b18, b19, b20, b21] = 22 := rfl
theorem hlen23 {b0 b1 b2 b3 b4 b5 b6 b7 b8 b9 b10 b11 b12 b13 b14 b15 b16 b17 b18 b19 b20 b21 b22 : Option (List Cell)} : List.length [b0, b1, b2, b3, b4, b5, b6, b7, b8, b9, b10, b11, b12, b13, b14, b15, b16, b17, b18, b19, b20, b21, b22] = 23 := rfl
theorem hlen24 {b0 b1 b2 b3 b4 b5 b6 b7 b8 b9 b10 b11 b12 b13 b14 b15 b16 b17 b18 b19 b20 b21 b22 b23 : Option (List Cell)} : List.length [b0, b1, b2, b3, b4, b5, b6, b7, b8, b9, b10, b11, b12, b13, b14, b15, b16, b17, b18, b19, b20, b21, b22, b23] = 24 := rfl
class TiOf (P : Program) (t : TypeId) (ti : outParam TI) : Prop where
  h : tiOf P t = some ti
class SlT (P : Program) (t : TypeId) (ti : outParam TI) (e : outParam Nat) (ei : outParam TI) (sz : outParam Nat) : Prop where
  ht : tiOf P t = some ti
  hk : ti.kind = .slice e
  he : tiOf P e = some ei
  hs : ei.size = sz
class ArT (P : Program) (t : TypeId) (ti : outParam TI) (n e : outParam Nat) (ei : outParam TI) (sz : outParam Nat) : Prop where
  ht : tiOf P t = some ti
  hk : ti.kind = .array n e
  he : tiOf P e = some ei
  hs : ei.size = sz
class ZT (P : Program) (t : TypeId) (ti : outParam TI) (z : outParam (List Cell)) : Prop where
  h : tiOf P t = some ti
  hz : ti.zero = some z
class StT (P : Program) (t : TypeId) (ti : outParam TI) (fs : outParam (List (Nat × Nat))) : Prop where
  h : tiOf P t = some ti
  hk : ti.kind = .struct fs
class FdT (P : Program) (t : TypeId) (f : Nat) (ti : outParam TI) (fs : outParam (List (Nat × Nat))) (off ft : outParam Nat) (fti : outParam TI) (fsz : outParam Nat) : Prop where
  ht : tiOf P t = some ti
  hk : ti.kind = .struct fs
  hf : fs[f]? = some (off, ft)
  hft : tiOf P ft = some fti
  hs : fti.size = fsz
section
variable {P : Program} {fr : List S} {H H' : Heap} {K : S → Heap → Prop} {t u : TypeId} {ti : TI} {a b i : Operand} {od : Option Nat} {oty : TypeId} {ops_ : String} {oaf : Array Edge} {ogu : Option (Nat × Bool)}
theorem q_or8 {x y : UInt8} [iht : TiOf P t ti] (h : K (sc (c8 (x ||| y))) H) (hx : ev fr a = sc (c8 x) := by first | exact et rfl | exact rfl) (hy : ev fr b = sc (c8 y) := by first | exact et rfl | exact rfl) : ostep P ⟨od, .binOp .or t a b u, oty, ops_, oaf, ogu⟩ fr H K :=
  r_or8 rfl iht.h hx hy h
theorem q_xor8 {x y : UInt8} [iht : TiOf P t ti] (h : K (sc (c8 (x ^^^ y))) H) (hx : ev fr a = sc (c8 x) := by first | exact et rfl | exact rfl) (hy : ev fr b = sc (c8 y) := by first | exact et rfl | exact rfl) : ostep P ⟨od, .binOp .xor t a b u, oty, ops_, oaf, ogu⟩ fr H K :=
  r_xor8 rfl iht.h hx hy h
theorem q_eql8 {x y : UInt8} [iht : TiOf P t ti] (h : K (sc (.bool (decide (x = y)))) H) (hx : ev fr a = sc (c8 x) := by first | exact et rfl | exact rfl) (hy : ev fr b = sc (c8 y) := by first | exact et rfl | exact rfl) : ostep P ⟨od, .binOp .eql t a b u, oty, ops_, oaf, ogu⟩ fr H K :=
  r_eql8 rfl iht.h hx hy h
theorem q_add32 {x y : UInt32} [iht : TiOf P t ti] (h : K (sc (c32 (x + y))) H) (hx : ev fr a = sc (c32 x) := by first | exact et rfl | exact rfl) (hy : ev fr b = sc (c32 y) := by first | exact et rfl | exact rfl) : ostep P ⟨od, .binOp .add t a b u, oty, ops_, oaf, ogu⟩ fr H K :=
  r_add32 rfl iht.h hx hy h
theorem q_or32 {x y : UInt32} [iht : TiOf P t ti] (h : K (sc (c32 (x ||| y))) H) (hx : ev fr a = sc (c32 x) := by first | exact et rfl | exact rfl) (hy : ev fr b = sc (c32 y) := by first | exact et rfl | exact rfl) : ostep P ⟨od, .binOp .or t a b u, oty, ops_, oaf, ogu⟩ fr H K :=
  r_or32 rfl iht.h hx hy h
theorem q_xor32 {x y : UInt32} [iht : TiOf P t ti] (h : K (sc (c32 (x ^^^ y))) H) (hx : ev fr a = sc (c32 x) := by first | exact et rfl | exact rfl) (hy : ev fr b = sc (c32 y) := by first | exact et rfl | exact rfl) : ostep P ⟨od, .binOp .xor t a b u, oty, ops_, oaf, ogu⟩ fr H K :=
  r_xor32 rfl iht.h hx hy h
theorem q_shl32_64 {x : UInt32} {n : UInt64} [iht : TiOf P t ti] (h : K (sc (c32 (shl32n x n.toNat))) H) (hx : ev fr a = sc (c32 x) := by first | exact et rfl | exact rfl) (hy : ev fr b = sc (c64 n) := by first | exact et rfl | exact rfl) : ostep P ⟨od, .binOp .shl t a b u, oty, ops_, oaf, ogu⟩ fr H K :=
  r_shl32_64 rfl iht.h hx hy h
theorem q_shr32_64 {x : UInt32} {n : UInt64} [iht : TiOf P t ti] (h : K (sc (c32 (shr32n x n.toNat))) H) (hx : ev fr a = sc (c32 x) := by first | exact et rfl | exact rfl) (hy : ev fr b = sc (c64 n) := by first | exact et rfl | exact rfl) : ostep P ⟨od, .binOp .shr t a b u, oty, ops_, oaf, ogu⟩ fr H K :=
  r_shr32_64 rfl iht.h hx hy h
theorem q_shr32_0 {x : UInt32} {n : Nat} [iht : TiOf P t ti] (h : K (sc (c32 (shr32n x n))) H) (hx : ev fr a = sc (c32 x) := by first | exact et rfl | exact rfl) (hy : ev fr b = sc (cn n) := by first | exact et rfl | exact rfl) : ostep P ⟨od, .binOp .shr t a b u, oty, ops_, oaf, ogu⟩ fr H K :=
  r_shr32_0 rfl iht.h hx hy h
theorem q_add64 {x y : UInt64} [iht : TiOf P t ti] (h : K (sc (c64 (x + y))) H) (hx : ev fr a = sc (c64 x) := by first | exact et rfl | exact rfl) (hy : ev fr b = sc (c64 y) := by first | exact et rfl | exact rfl) : ostep P ⟨od, .binOp .add t a b u, oty, ops_, oaf, ogu⟩ fr H K :=
  r_add64 rfl iht.h hx hy h
theorem q_sub64 {x y : UInt64} [iht : TiOf P t ti] (h : K (sc (c64 (x - y))) H) (hx : ev fr a = sc (c64 x) := by first | exact et rfl | exact rfl) (hy : ev fr b = sc (c64 y) := by first | exact et rfl | exact rfl) : ostep P ⟨od, .binOp .sub t a b u, oty, ops_, oaf, ogu⟩ fr H K :=
  r_sub64 rfl iht.h hx hy h
theorem q_mul64 {x y : UInt64} [iht : TiOf P t ti] (h : K (sc (c64 (x * y))) H) (hx : ev fr a = sc (c64 x) := by first | exact et rfl | exact rfl) (hy : ev fr b = sc (c64 y) := by first | exact et rfl | exact rfl) : ostep P ⟨od, .binOp .mul t a b u, oty, ops_, oaf, ogu⟩ fr H K :=
  r_mul64 rfl iht.h hx hy h
theorem q_and64 {x y : UInt64} [iht : TiOf P t ti] (h : K (sc (c64 (x &&& y))) H) (hx : ev fr a = sc (c64 x) := by first | exact et rfl | exact rfl) (hy : ev fr b = sc (c64 y) := by first | exact et rfl | exact rfl) : ostep P ⟨od, .binOp .and t a b u, oty, ops_, oaf, ogu⟩ fr H K :=
  r_and64 rfl iht.h hx hy h
theorem q_or64 {x y : UInt64} [iht : TiOf P t ti] (h : K (sc (c64 (x ||| y))) H) (hx : ev fr a = sc (c64 x) := by first | exact et rfl | exact rfl) (hy : ev fr b = sc (c64 y) := by first | exact et rfl | exact rfl) : ostep P ⟨od, .binOp .or t a b u, oty, ops_, oaf, ogu⟩ fr H K :=
  r_or64 rfl iht.h hx hy h
theorem q_quo64 {x y : UInt64} [iht : TiOf P t ti] (h : K (sc (c64 (x / y))) H) (hx : ev fr a = sc (c64 x) := by first | exact et rfl | exact rfl) (hy : ev fr b = sc (c64 y) := by first | exact et rfl | exact rfl) (hz : y ≠ 0 := by first | omega | with_reducible assumption | exact (mapc_length ..).trans (by with_reducible assumption) | (simp only [List.length_set, List.length_append, List.length_replicate, List.length_take, List.length_drop, List.length_map, List.length_cons, List.length_nil, mapc_length] <;> omega) | exact rfl | exact Nat.le_of_ble_eq_true rfl | assumption) : ostep P ⟨od, .binOp .quo t a b u, oty, ops_, oaf, ogu⟩ fr H K :=
  r_quo64 rfl iht.h hx hy hz h
theorem q_rem64 {x y : UInt64} [iht : TiOf P t ti] (h : K (sc (c64 (x % y))) H) (hx : ev fr a = sc (c64 x) := by first | exact et rfl | exact rfl) (hy : ev fr b = sc (c64 y) := by first | exact et rfl | exact rfl) (hz : y ≠ 0 := by first | omega | with_reducible assumption | exact (mapc_length ..).trans (by with_reducible assumption) | (simp only [List.length_set, List.length_append, List.length_replicate, List.length_take, List.length_drop, List.length_map, List.length_cons, List.length_nil, mapc_length] <;> omega) | exact rfl | exact Nat.le_of_ble_eq_true rfl | assumption) : ostep P ⟨od, .binOp .rem t a b u, oty, ops_, oaf, ogu⟩ fr H K :=
  r_rem64 rfl iht.h hx hy hz h
theorem q_eql64 {x y : UInt64} [iht : TiOf P t ti] (h : K (sc (.bool (decide (x = y)))) H) (hx : ev fr a = sc (c64 x) := by first | exact et rfl | exact rfl) (hy : ev fr b = sc (c64 y) := by first | exact et rfl | exact rfl) : ostep P ⟨od, .binOp .eql t a b u, oty, ops_, oaf, ogu⟩ fr H K :=
  r_eql64 rfl iht.h hx hy h
theorem q_neq64 {x y : UInt64} [iht : TiOf P t ti] (h : K (sc (.bool (decide (x ≠ y)))) H) (hx : ev fr a = sc (c64 x) := by first | exact et rfl | exact rfl) (hy : ev fr b = sc (c64 y) := by first | exact et rfl | exact rfl) : ostep P ⟨od, .binOp .neq t a b u, oty, ops_, oaf, ogu⟩ fr H K :=
  r_neq64 rfl iht.h hx hy h
theorem q_lss64 {x y : UInt64} [iht : TiOf P t ti] (h : K (sc (.bool (decide (x < y)))) H) (hx : ev fr a = sc (c64 x) := by first | exact et rfl | exact rfl) (hy : ev fr b = sc (c64 y) := by first | exact et rfl | exact rfl) : ostep P ⟨od, .binOp .lss t a b u, oty, ops_, oaf, ogu⟩ fr H K :=
  r_lss64 rfl iht.h hx hy h
theorem q_leq64 {x y : UInt64} [iht : TiOf P t ti] (h : K (sc (.bool (decide (x ≤ y)))) H) (hx : ev fr a = sc (c64 x) := by first | exact et rfl | exact rfl) (hy : ev fr b = sc (c64 y) := by first | exact et rfl | exact rfl) : ostep P ⟨od, .binOp .leq t a b u, oty, ops_, oaf, ogu⟩ fr H K :=
  r_leq64 rfl iht.h hx hy h
theorem q_gtr64 {x y : UInt64} [iht : TiOf P t ti] (h : K (sc (.bool (decide (y < x)))) H) (hx : ev fr a = sc (c64 x) := by first | exact et rfl | exact rfl) (hy : ev fr b = sc (c64 y) := by first | exact et rfl | exact rfl) : ostep P ⟨od, .binOp .gtr t a b u, oty, ops_, oaf, ogu⟩ fr H K :=
  r_gtr64 rfl iht.h hx hy h
theorem q_geq64 {x y : UInt64} [iht : TiOf P t ti] (h : K (sc (.bool (decide (y ≤ x)))) H) (hx : ev fr a = sc (c64 x) := by first | exact et rfl | exact rfl) (hy : ev fr b = sc (c64 y) := by first | exact et rfl | exact rfl) : ostep P ⟨od, .binOp .geq t a b u, oty, ops_, oaf, ogu⟩ fr H K :=
  r_geq64 rfl iht.h hx hy h
theorem q_shl64_64 {x : UInt64} {n : UInt64} [iht : TiOf P t ti] (h : K (sc (c64 (shl64n x n.toNat))) H) (hx : ev fr a = sc (c64 x) := by first | exact et rfl | exact rfl) (hy : ev fr b = sc (c64 n) := by first | exact et rfl | exact rfl) : ostep P ⟨od, .binOp .shl t a b u, oty, ops_, oaf, ogu⟩ fr H K :=
  r_shl64_64 rfl iht.h hx hy h
theorem q_shr64_64 {x : UInt64} {n : UInt64} [iht : TiOf P t ti] (h : K (sc (c64 (shr64n x n.toNat))) H) (hx : ev fr a = sc (c64 x) := by first | exact et rfl | exact rfl) (hy : ev fr b = sc (c64 n) := by first | exact et rfl | exact rfl) : ostep P ⟨od, .binOp .shr t a b u, oty, ops_, oaf, ogu⟩ fr H K :=
  r_shr64_64 rfl iht.h hx hy h
theorem q_shl64_0 {x : UInt64} {n : Nat} [iht : TiOf P t ti] (h : K (sc (c64 (shl64n x n))) H) (hx : ev fr a = sc (c64 x) := by first | exact et rfl | exact rfl) (hy : ev fr b = sc (cn n) := by first | exact et rfl | exact rfl) : ostep P ⟨od, .binOp .shl t a b u, oty, ops_, oaf, ogu⟩ fr H K :=
  r_shl64_0 rfl iht.h hx hy h
theorem q_shr64_0 {x : UInt64} {n : Nat} [iht : TiOf P t ti] (h : K (sc (c64 (shr64n x n))) H) (hx : ev fr a = sc (c64 x) := by first | exact et rfl | exact rfl) (hy : ev fr b = sc (cn n) := by first | exact et rfl | exact rfl) : ostep P ⟨od, .binOp .shr t a b u, oty, ops_, oaf, ogu⟩ fr H K :=
  r_shr64_0 rfl iht.h hx hy h
theorem q_addi {x y : Int} [iht : TiOf P t ti] (h : K (sc (ci (x + y))) H) (hx : ev fr a = sc (ci x) := by first | exact et rfl | exact rfl) (hy : ev fr b = sc (ci y) := by first | exact et rfl | exact rfl) (hb : -9223372036854775808 ≤ x + y ∧ x + y ≤ 9223372036854775807 := by first | omega | with_reducible assumption | exact (mapc_length ..).trans (by with_reducible assumption) | (simp only [List.length_set, List.length_append, List.length_replicate, List.length_take, List.length_drop, List.length_map, List.length_cons, List.length_nil, mapc_length] <;> omega) | exact rfl | exact Nat.le_of_ble_eq_true rfl | assumption) : ostep P ⟨od, .binOp .add t a b u, oty, ops_, oaf, ogu⟩ fr H K :=
  r_addi rfl iht.h hx hy hb h
theorem q_subi {x y : Int} [iht : TiOf P t ti] (h : K (sc (ci (x - y))) H) (hx : ev fr a = sc (ci x) := by first | exact et rfl | exact rfl) (hy : ev fr b = sc (ci y) := by first | exact et rfl | exact rfl) (hb : -9223372036854775808 ≤ x - y ∧ x - y ≤ 9223372036854775807 := by first | omega | with_reducible assumption | exact (mapc_length ..).trans (by with_reducible assumption) | (simp only [List.length_set, List.length_append, List.length_replicate, List.length_take, List.length_drop, List.length_map, List.length_cons, List.length_nil, mapc_length] <;> omega) | exact rfl | exact Nat.le_of_ble_eq_true rfl | assumption) : ostep P ⟨od, .binOp .sub t a b u, oty, ops_, oaf, ogu⟩ fr H K :=
  r_subi rfl iht.h hx hy hb h
theorem q_addn {x y : Nat} [iht : TiOf P t ti] (h : K (sc (cn (x + y))) H) (hx : ev fr a = sc (cn x) := by first | exact et rfl | exact rfl) (hy : ev fr b = sc (cn y) := by first | exact et rfl | exact rfl) (hb : x + y ≤ 9223372036854775807 := by first | omega | with_reducible assumption | exact (mapc_length ..).trans (by with_reducible assumption) | (simp only [List.length_set, List.length_append, List.length_replicate, List.length_take, List.length_drop, List.length_map, List.length_cons, List.length_nil, mapc_length] <;> omega) | exact rfl | exact Nat.le_of_ble_eq_true rfl | assumption) : ostep P ⟨od, .binOp .add t a b u, oty, ops_, oaf, ogu⟩ fr H K :=
  r_addn rfl iht.h hx hy hb h
theorem q_subn {x y : Nat} [iht : TiOf P t ti] (h : K (sc (cn (x - y))) H) (hx : ev fr a = sc (cn x) := by first | exact et rfl | exact rfl) (hy : ev fr b = sc (cn y) := by first | exact et rfl | exact rfl) (hb : y ≤ x ∧ x ≤ 9223372036854775807 := by first | omega | with_reducible assumption | exact (mapc_length ..).trans (by with_reducible assumption) | (simp only [List.length_set, List.length_append, List.length_replicate, List.length_take, List.length_drop, List.length_map, List.length_cons, List.length_nil, mapc_length] <;> omega) | exact rfl | exact Nat.le_of_ble_eq_true rfl | assumption) : ostep P ⟨od, .binOp .sub t a b u, oty, ops_, oaf, ogu⟩ fr H K :=
  r_subn rfl iht.h hx hy hb h
theorem q_muln {x y : Nat} [iht : TiOf P t ti] (h : K (sc (cn (x * y))) H) (hx : ev fr a = sc (cn x) := by first | exact et rfl | exact rfl) (hy : ev fr b = sc (cn y) := by first | exact et rfl | exact rfl) (hb : x * y ≤ 9223372036854775807 := by first | omega | with_reducible assumption | exact (mapc_length ..).trans (by with_reducible assumption) | (simp only [List.length_set, List.length_append, List.length_replicate, List.length_take, List.length_drop, List.length_map, List.length_cons, List.length_nil, mapc_length] <;> omega) | exact rfl | exact Nat.le_of_ble_eq_true rfl | assumption) : ostep P ⟨od, .binOp .mul t a b u, oty, ops_, oaf, ogu⟩ fr H K :=
  r_muln rfl iht.h hx hy hb h
theorem q_quon {x y : Nat} [iht : TiOf P t ti] (h : K (sc (cn (x / y))) H) (hx : ev fr a = sc (cn x) := by first | exact et rfl | exact rfl) (hy : ev fr b = sc (cn y) := by first | exact et rfl | exact rfl) (hb : 0 < y ∧ x ≤ 9223372036854775807 := by first | omega | with_reducible assumption | exact (mapc_length ..).trans (by with_reducible assumption) | (simp only [List.length_set, List.length_append, List.length_replicate, List.length_take, List.length_drop, List.length_map, List.length_cons, List.length_nil, mapc_length] <;> omega) | exact rfl | exact Nat.le_of_ble_eq_true rfl | assumption) : ostep P ⟨od, .binOp .quo t a b u, oty, ops_, oaf, ogu⟩ fr H K :=
  r_quon rfl iht.h hx hy hb h
theorem q_remn {x y : Nat} [iht : TiOf P t ti] (h : K (sc (cn (x % y))) H) (hx : ev fr a = sc (cn x) := by first | exact et rfl | exact rfl) (hy : ev fr b = sc (cn y) := by first | exact et rfl | exact rfl) (hb : 0 < y := by first | omega | with_reducible assumption | exact (mapc_length ..).trans (by with_reducible assumption) | (simp only [List.length_set, List.length_append, List.length_replicate, List.length_take, List.length_drop, List.length_map, List.length_cons, List.length_nil, mapc_length] <;> omega) | exact rfl | exact Nat.le_of_ble_eq_true rfl | assumption) : ostep P ⟨od, .binOp .rem t a b u, oty, ops_, oaf, ogu⟩ fr H K :=
  r_remn rfl iht.h hx hy hb h
theorem q_remi {x y : Int} [iht : TiOf P t ti] (h : K (sc (ci (x.tmod y))) H) (hx : ev fr a = sc (ci x) := by first | exact et rfl | exact rfl) (hy : ev fr b = sc (ci y) := by first | exact et rfl | exact rfl) (hb : y ≠ 0 := by first | omega | with_reducible assumption | exact (mapc_length ..).trans (by with_reducible assumption) | (simp only [List.length_set, List.length_append, List.length_replicate, List.length_take, List.length_drop, List.length_map, List.length_cons, List.length_nil, mapc_length] <;> omega) | exact rfl | exact Nat.le_of_ble_eq_true rfl | assumption) : ostep P ⟨od, .binOp .rem t a b u, oty, ops_, oaf, ogu⟩ fr H K :=
  r_remi rfl iht.h hx hy hb h
theorem q_eqli {x y : Int} [iht : TiOf P t ti] (h : K (sc (.bool (decide (x = y)))) H) (hx : ev fr a = sc (ci x) := by first | exact et rfl | exact rfl) (hy : ev fr b = sc (ci y) := by first | exact et rfl | exact rfl) : ostep P ⟨od, .binOp .eql t a b u, oty, ops_, oaf, ogu⟩ fr H K :=
  r_eqli rfl iht.h hx hy h
theorem q_eqln {x y : Nat} [iht : TiOf P t ti] (h : K (sc (.bool (decide (x = y)))) H) (hx : ev fr a = sc (cn x) := by first | exact et rfl | exact rfl) (hy : ev fr b = sc (cn y) := by first | exact et rfl | exact rfl) : ostep P ⟨od, .binOp .eql t a b u, oty, ops_, oaf, ogu⟩ fr H K :=
  r_eqln rfl iht.h hx hy h
theorem q_neqn {x y : Nat} [iht : TiOf P t ti] (h : K (sc (.bool (decide (x ≠ y)))) H) (hx : ev fr a = sc (cn x) := by first | exact et rfl | exact rfl) (hy : ev fr b = sc (cn y) := by first | exact et rfl | exact rfl) : ostep P ⟨od, .binOp .neq t a b u, oty, ops_, oaf, ogu⟩ fr H K :=
  r_neqn rfl iht.h hx hy h
theorem q_lssi {x y : Int} [iht : TiOf P t ti] (h : K (sc (.bool (decide (x < y)))) H) (hx : ev fr a = sc (ci x) := by first | exact et rfl | exact rfl) (hy : ev fr b = sc (ci y) := by first | exact et rfl | exact rfl) : ostep P ⟨od, .binOp .lss t a b u, oty, ops_, oaf, ogu⟩ fr H K :=
  r_lssi rfl iht.h hx hy h
theorem q_lssn {x y : Nat} [iht : TiOf P t ti] (h : K (sc (.bool (decide (x < y)))) H) (hx : ev fr a = sc (cn x) := by first | exact et rfl | exact rfl) (hy : ev fr b = sc (cn y) := by first | exact et rfl | exact rfl) : ostep P ⟨od, .binOp .lss t a b u, oty, ops_, oaf, ogu⟩ fr H K :=
  r_lssn rfl iht.h hx hy h
theorem q_leqi {x y : Int} [iht : TiOf P t ti] (h : K (sc (.bool (decide (x ≤ y)))) H) (hx : ev fr a = sc (ci x) := by first | exact et rfl | exact rfl) (hy : ev fr b = sc (ci y) := by first | exact et rfl | exact rfl) : ostep P ⟨od, .binOp .leq t a b u, oty, ops_, oaf, ogu⟩ fr H K :=
  r_leqi rfl iht.h hx hy h
theorem q_gtri {x y : Int} [iht : TiOf P t ti] (h : K (sc (.bool (decide (y < x)))) H) (hx : ev fr a = sc (ci x) := by first | exact et rfl | exact rfl) (hy : ev fr b = sc (ci y) := by first | exact et rfl | exact rfl) : ostep P ⟨od, .binOp .gtr t a b u, oty, ops_, oaf, ogu⟩ fr H K :=
  r_gtri rfl iht.h hx hy h
theorem q_gtrn {x y : Nat} [iht : TiOf P t ti] (h : K (sc (.bool (decide (y < x)))) H) (hx : ev fr a = sc (cn x) := by first | exact et rfl | exact rfl) (hy : ev fr b = sc (cn y) := by first | exact et rfl | exact rfl) : ostep P ⟨od, .binOp .gtr t a b u, oty, ops_, oaf, ogu⟩ fr H K :=
  r_gtrn rfl iht.h hx hy h
theorem q_geqi {x y : Int} [iht : TiOf P t ti] (h : K (sc (.bool (decide (y ≤ x)))) H) (hx : ev fr a = sc (ci x) := by first | exact et rfl | exact rfl) (hy : ev fr b = sc (ci y) := by first | exact et rfl | exact rfl) : ostep P ⟨od, .binOp .geq t a b u, oty, ops_, oaf, ogu⟩ fr H K :=
  r_geqi rfl iht.h hx hy h
theorem q_cv8_32 {s d : TypeId} {si di : TI} {x : UInt8} [ihs : TiOf P s si] [ihd : TiOf P d di] (h : K (sc (c32 (x.toUInt32))) H) (hk : si.kind = .int .u8 := by exact rfl) (hk' : di.kind = .int .u32 := by exact rfl) (hx : ev fr a = sc (c8 x) := by first | exact et rfl | exact rfl) : ostep P ⟨od, .convert s d a, oty, ops_, oaf, ogu⟩ fr H K :=
  r_cv8_32 rfl ihs.h ihd.h hk hk' hx h
theorem q_cv8_64 {s d : TypeId} {si di : TI} {x : UInt8} [ihs : TiOf P s si] [ihd : TiOf P d di] (h : K (sc (c64 (x.toUInt64))) H) (hk : si.kind = .int .u8 := by exact rfl) (hk' : di.kind = .int .u64 := by exact rfl) (hx : ev fr a = sc (c8 x) := by first | exact et rfl | exact rfl) : ostep P ⟨od, .convert s d a, oty, ops_, oaf, ogu⟩ fr H K :=
  r_cv8_64 rfl ihs.h ihd.h hk hk' hx h
theorem q_cv0_8 {s d : TypeId} {si di : TI} {x : Nat} [ihs : TiOf P s si] [ihd : TiOf P d di] (h : K (sc (c8 (UInt8.ofNat x))) H) (hk : si.kind = .int .i64 := by exact rfl) (hk' : di.kind = .int .u8 := by exact rfl) (hx : ev fr a = sc (cn x) := by first | exact et rfl | exact rfl) : ostep P ⟨od, .convert s d a, oty, ops_, oaf, ogu⟩ fr H K :=
  r_cv0_8 rfl ihs.h ihd.h hk hk' hx h
theorem q_cv32_8 {s d : TypeId} {si di : TI} {x : UInt32} [ihs : TiOf P s si] [ihd : TiOf P d di] (h : K (sc (c8 (x.toUInt8))) H) (hk : si.kind = .int .u32 := by exact rfl) (hk' : di.kind = .int .u8 := by exact rfl) (hx : ev fr a = sc (c32 x) := by first | exact et rfl | exact rfl) : ostep P ⟨od, .convert s d a, oty, ops_, oaf, ogu⟩ fr H K :=
  r_cv32_8 rfl ihs.h ihd.h hk hk' hx h
theorem q_cv64_8 {s d : TypeId} {si di : TI} {x : UInt64} [ihs : TiOf P s si] [ihd : TiOf P d di] (h : K (sc (c8 (x.toUInt8))) H) (hk : si.kind = .int .u64 := by exact rfl) (hk' : di.kind = .int .u8 := by exact rfl) (hx : ev fr a = sc (c64 x) := by first | exact et rfl | exact rfl) : ostep P ⟨od, .convert s d a, oty, ops_, oaf, ogu⟩ fr H K :=
  r_cv64_8 rfl ihs.h ihd.h hk hk' hx h
theorem q_cv0_64 {s d : TypeId} {si di : TI} {x : Nat} [ihs : TiOf P s si] [ihd : TiOf P d di] (h : K (sc (c64 (UInt64.ofNat x))) H) (hk : si.kind = .int .i64 := by exact rfl) (hk' : di.kind = .int .u64 := by exact rfl) (hx : ev fr a = sc (cn x) := by first | exact et rfl | exact rfl) : ostep P ⟨od, .convert s d a, oty, ops_, oaf, ogu⟩ fr H K :=
  r_cv0_64 rfl ihs.h ihd.h hk hk' hx h
theorem q_mv {s : S}  (h : K s H) (hx : ev fr a = s := by first | exact et rfl | exact rfl) : ostep P ⟨od, .move a, oty, ops_, oaf, ogu⟩ fr H K :=
  r_mv rfl hx h
theorem q_as {s : S}  (h : K s H) (hx : ev fr a = s := by first | exact et rfl | exact rfl) : ostep P ⟨od, .assign a, oty, ops_, oaf, ogu⟩ fr H K :=
  r_as rfl hx h
theorem q_pkt {c : Operand} {s : S}  (h : K s H) (hc : ev fr c = sc (.bool true) := by first | exact et rfl | exact et (congrArg (fun b => S.v (V.c (Cell.bool b))) (by assumption)) | exact et (congrArg (fun b => S.v (V.c (Cell.bool b))) (decide_eq_true (by assumption))) | exact et (congrArg (fun b => S.v (V.c (Cell.bool b))) (decide_eq_false (by assumption))) | exact rfl) (hx : ev fr a = s := by first | exact et rfl | exact rfl) : ostep P ⟨od, .pick c a b, oty, ops_, oaf, ogu⟩ fr H K :=
  r_pkt rfl hc hx h
theorem q_pkf {c : Operand} {s : S}  (h : K s H) (hc : ev fr c = sc (.bool false) := by first | exact et rfl | exact et (congrArg (fun b => S.v (V.c (Cell.bool b))) (by assumption)) | exact et (congrArg (fun b => S.v (V.c (Cell.bool b))) (decide_eq_true (by assumption))) | exact et (congrArg (fun b => S.v (V.c (Cell.bool b))) (decide_eq_false (by assumption))) | exact rfl) (hx : ev fr b = s := by first | exact et rfl | exact rfl) : ostep P ⟨od, .pick c a b, oty, ops_, oaf, ogu⟩ fr H K :=
  r_pkf rfl hc hx h
theorem q_ncp {p q : Nat}  (h : K (sc (.ptr p q)) H) (hx : ev fr a = sc (.ptr p q) := by first | exact et rfl | exact rfl) : ostep P ⟨od, .nilCheck a, oty, ops_, oaf, ogu⟩ fr H K :=
  r_ncp rfl hx h
theorem q_ncr {cs : List Cell}  (h : K (sc (.rop cs)) H) (hx : ev fr a = sc (.rop cs) := by first | exact et rfl | exact rfl) : ostep P ⟨od, .nilCheck a, oty, ops_, oaf, ogu⟩ fr H K :=
  r_ncr rfl hx h
theorem q_notb {x : Bool}  (h : K (sc (.bool (!x))) H) (hx : ev fr a = sc (.bool x) := by first | exact et rfl | exact rfl) : ostep P ⟨od, .unOp .not t a, oty, ops_, oaf, ogu⟩ fr H K :=
  r_notb rfl hx h
theorem q_eqlp {x : Cell} {e : Nat} {r : Bool} [iht : TiOf P t ti] (h : K (sc (.bool r)) H) (hk : ti.kind = .ptr e := by exact rfl) (hx : ev fr a = sc x := by first | exact et rfl | exact rfl) (hn : isNilP x = some r := by exact rfl) (hy : ev fr b = sc .nilp := by first | exact et rfl | exact rfl) : ostep P ⟨od, .binOp .eql t a b u, oty, ops_, oaf, ogu⟩ fr H K :=
  r_eqlp rfl iht.h hk hx hn hy h
theorem q_neqp {x : Cell} {e : Nat} {r : Bool} [iht : TiOf P t ti] (h : K (sc (.bool (!r))) H) (hk : ti.kind = .ptr e := by exact rfl) (hx : ev fr a = sc x := by first | exact et rfl | exact rfl) (hn : isNilP x = some r := by exact rfl) (hy : ev fr b = sc .nilp := by first | exact et rfl | exact rfl) : ostep P ⟨od, .binOp .neq t a b u, oty, ops_, oaf, ogu⟩ fr H K :=
  r_neqp rfl iht.h hk hx hn hy h
theorem q_eqls {x y : ByteArray} [iht : TiOf P t ti] (h : K (sc (.bool (decide (x = y)))) H) (hx : ev fr a = sc (.str x) := by first | exact et rfl | exact rfl) (hy : ev fr b = sc (.str y) := by first | exact et rfl | exact rfl) : ostep P ⟨od, .binOp .eql t a b u, oty, ops_, oaf, ogu⟩ fr H K :=
  r_eqls rfl iht.h hx hy h
theorem q_neqs {x y : ByteArray} [iht : TiOf P t ti] (h : K (sc (.bool (!decide (x = y)))) H) (hx : ev fr a = sc (.str x) := by first | exact et rfl | exact rfl) (hy : ev fr b = sc (.str y) := by first | exact et rfl | exact rfl) : ostep P ⟨od, .binOp .neq t a b u, oty, ops_, oaf, ogu⟩ fr H K :=
  r_neqs rfl iht.h hx hy h
theorem q_fap {p q f off ft : Nat} {fs : List (Nat × Nat)} {fti : TI} {fsz : Nat} [it_ : FdT P t f ti fs off ft fti fsz] (h : K (sc (.ptr p (q + off))) H) (hz : Nat.blt 0 fsz = true := by exact rfl) (hx : ev fr a = sc (.ptr p q) := by first | exact et rfl | exact rfl) : ostep P ⟨od, .fieldAddr t a f, oty, ops_, oaf, ogu⟩ fr H K :=
  by have hs_ := it_.hs; subst hs_; exact r_fap rfl it_.ht it_.hk it_.hf it_.hft hz hx h
theorem q_fap0 {p f off ft : Nat} {fs : List (Nat × Nat)} {fti : TI} {fsz : Nat} [it_ : FdT P t f ti fs off ft fti fsz] (h : K (sc (.ptr p off)) H) (hz : Nat.blt 0 fsz = true := by exact rfl) (hx : ev fr a = sc (.ptr p 0) := by first | exact et rfl | exact rfl) : ostep P ⟨od, .fieldAddr t a f, oty, ops_, oaf, ogu⟩ fr H K :=
  by have hs_ := it_.hs; subst hs_; exact r_fap0 rfl it_.ht it_.hk it_.hf it_.hft hz hx h
theorem q_far {cs : List Cell} {f off ft : Nat} {fs : List (Nat × Nat)} {fti : TI} {fsz : Nat} [it_ : FdT P t f ti fs off ft fti fsz] (h : K (sc (.rop (cs.drop off))) H) (hz : Nat.blt 0 fsz = true := by exact rfl) (hx : ev fr a = sc (.rop cs) := by first | exact et rfl | exact rfl) : ostep P ⟨od, .fieldAddr t a f, oty, ops_, oaf, ogu⟩ fr H K :=
  by have hs_ := it_.hs; subst hs_; exact r_far rfl it_.ht it_.hk it_.hf it_.hft hz hx h
theorem q_ixp {p q n e j : Nat} {ei : TI} {sz_ : Nat} [it_ : ArT P t ti n e ei sz_] (h : K (sc (.ptr p (q + j * sz_))) H) (hi : Ix (ev fr i) j := by first | exact ixn (et rfl) | exact ixn rfl | exact ix64 (et rfl) | exact ix8 (et rfl) | exact ix32 (et rfl)) (hx : ev fr a = sc (.ptr p q) := by first | exact et rfl | exact rfl) (hlt : j < n := by first | omega | with_reducible assumption | exact (mapc_length ..).trans (by with_reducible assumption) | (simp only [List.length_set, List.length_append, List.length_replicate, List.length_take, List.length_drop, List.length_map, List.length_cons, List.length_nil, mapc_length] <;> omega) | exact rfl | exact Nat.le_of_ble_eq_true rfl | assumption) : ostep P ⟨od, .indexAddr t a i, oty, ops_, oaf, ogu⟩ fr H K :=
  by have hs_ := it_.hs; subst hs_; exact r_ixp rfl it_.ht it_.hk it_.he hi hx hlt h
theorem q_ixp1 {p n e j : Nat} {ei : TI} [it_ : ArT P t ti n e ei 1] (h : K (sc (.ptr p j)) H) (hi : Ix (ev fr i) j := by first | exact ixn (et rfl) | exact ixn rfl | exact ix64 (et rfl) | exact ix8 (et rfl) | exact ix32 (et rfl)) (hx : ev fr a = sc (.ptr p 0) := by first | exact et rfl | exact rfl) (hlt : j < n := by first | omega | with_reducible assumption | exact (mapc_length ..).trans (by with_reducible assumption) | (simp only [List.length_set, List.length_append, List.length_replicate, List.length_take, List.length_drop, List.length_map, List.length_cons, List.length_nil, mapc_length] <;> omega) | exact rfl | exact Nat.le_of_ble_eq_true rfl | assumption) : ostep P ⟨od, .indexAddr t a i, oty, ops_, oaf, ogu⟩ fr H K :=
  r_ixp1 rfl it_.ht it_.hk it_.he it_.hs hi hx hlt h
theorem q_ixs1 {p m sz e j : Nat} {ei : TI} [it_ : SlT P t ti e ei 1] (h : K (sc (.ptr p j)) H) (hi : Ix (ev fr i) j := by first | exact ixn (et rfl) | exact ixn rfl | exact ix64 (et rfl) | exact ix8 (et rfl) | exact ix32 (et rfl)) (hx : ev fr a = sc (.slc p 0 m sz) := by first | exact et rfl | exact rfl) (hlt : j < m := by first | omega | with_reducible assumption | exact (mapc_length ..).trans (by with_reducible assumption) | (simp only [List.length_set, List.length_append, List.length_replicate, List.length_take, List.length_drop, List.length_map, List.length_cons, List.length_nil, mapc_length] <;> omega) | exact rfl | exact Nat.le_of_ble_eq_true rfl | assumption) : ostep P ⟨od, .indexAddr t a i, oty, ops_, oaf, ogu⟩ fr H K :=
  r_ixs1 rfl it_.ht it_.hk it_.he it_.hs hi hx hlt h
theorem q_ixo1 {m e j : Nat} {cs : List Cell} {ei : TI} [it_ : SlT P t ti e ei 1] (h : K (sc (.rop (cs.drop j))) H) (hi : Ix (ev fr i) j := by first | exact ixn (et rfl) | exact ixn rfl | exact ix64 (et rfl) | exact ix8 (et rfl) | exact ix32 (et rfl)) (hx : ev fr a = sc (.ro m cs) := by first | exact et rfl | exact rfl) (hlt : j < m := by first | omega | with_reducible assumption | exact (mapc_length ..).trans (by with_reducible assumption) | (simp only [List.length_set, List.length_append, List.length_replicate, List.length_take, List.length_drop, List.length_map, List.length_cons, List.length_nil, mapc_length] <;> omega) | exact rfl | exact Nat.le_of_ble_eq_true rfl | assumption) (hc : j < cs.length := by first | omega | with_reducible assumption | exact (mapc_length ..).trans (by with_reducible assumption) | (simp only [List.length_set, List.length_append, List.length_replicate, List.length_take, List.length_drop, List.length_map, List.length_cons, List.length_nil, mapc_length] <;> omega) | exact rfl | exact Nat.le_of_ble_eq_true rfl | assumption) : ostep P ⟨od, .indexAddr t a i, oty, ops_, oaf, ogu⟩ fr H K :=
  r_ixo1 rfl it_.ht it_.hk it_.he it_.hs hi hx hlt hc h
theorem q_ldp {p q : Nat} {cs : List Cell} {c : Cell} [iht : TiOf P t ti] (h : K (sc c) H) (hx : ev fr a = sc (.ptr p q) := by first | exact et rfl | exact rfl) (hp : H[p]? = some (some cs) := by exact rfl) (hc : cs[q]? = some c := by first | (refine u8_at ?_; (first | omega | with_reducible assumption | exact (mapc_length ..).trans (by with_reducible assumption) | (simp only [List.length_set, List.length_append, List.length_replicate, List.length_take, List.length_drop, List.length_map, List.length_cons, List.length_nil, mapc_length] <;> omega) | exact rfl | exact Nat.le_of_ble_eq_true rfl | assumption)) | (refine u32_at ?_; (first | omega | with_reducible assumption | exact (mapc_length ..).trans (by with_reducible assumption) | (simp only [List.length_set, List.length_append, List.length_replicate, List.length_take, List.length_drop, List.length_map, List.length_cons, List.length_nil, mapc_length] <;> omega) | exact rfl | exact Nat.le_of_ble_eq_true rfl | assumption)) | (refine u64_at ?_; (first | omega | with_reducible assumption | exact (mapc_length ..).trans (by with_reducible assumption) | (simp only [List.length_set, List.length_append, List.length_replicate, List.length_take, List.length_drop, List.length_map, List.length_cons, List.length_nil, mapc_length] <;> omega) | exact rfl | exact Nat.le_of_ble_eq_true rfl | assumption)) | (refine i64_at ?_; (first | omega | with_reducible assumption | exact (mapc_length ..).trans (by with_reducible assumption) | (simp only [List.length_set, List.length_append, List.length_replicate, List.length_take, List.length_drop, List.length_map, List.length_cons, List.length_nil, mapc_length] <;> omega) | exact rfl | exact Nat.le_of_ble_eq_true rfl | assumption)) | exact rfl) (hk : ldOk ti.kind c = true := by exact rfl) : ostep P ⟨od, .load t a, oty, ops_, oaf, ogu⟩ fr H K :=
  r_ldp rfl iht.h hx hp hc hk h
theorem q_ldr {cs : List Cell} {c : Cell} [iht : TiOf P t ti] (h : K (sc c) H) (hx : ev fr a = sc (.rop cs) := by first | exact et rfl | exact rfl) (hc : cs[0]? = some c := by first | (refine u8_at ?_; (first | omega | with_reducible assumption | exact (mapc_length ..).trans (by with_reducible assumption) | (simp only [List.length_set, List.length_append, List.length_replicate, List.length_take, List.length_drop, List.length_map, List.length_cons, List.length_nil, mapc_length] <;> omega) | exact rfl | exact Nat.le_of_ble_eq_true rfl | assumption)) | (refine u32_at ?_; (first | omega | with_reducible assumption | exact (mapc_length ..).trans (by with_reducible assumption) | (simp only [List.length_set, List.length_append, List.length_replicate, List.length_take, List.length_drop, List.length_map, List.length_cons, List.length_nil, mapc_length] <;> omega) | exact rfl | exact Nat.le_of_ble_eq_true rfl | assumption)) | (refine u64_at ?_; (first | omega | with_reducible assumption | exact (mapc_length ..).trans (by with_reducible assumption) | (simp only [List.length_set, List.length_append, List.length_replicate, List.length_take, List.length_drop, List.length_map, List.length_cons, List.length_nil, mapc_length] <;> omega) | exact rfl | exact Nat.le_of_ble_eq_true rfl | assumption)) | (refine i64_at ?_; (first | omega | with_reducible assumption | exact (mapc_length ..).trans (by with_reducible assumption) | (simp only [List.length_set, List.length_append, List.length_replicate, List.length_take, List.length_drop, List.length_map, List.length_cons, List.length_nil, mapc_length] <;> omega) | exact rfl | exact Nat.le_of_ble_eq_true rfl | assumption)) | exact rfl) (hk : ldOk ti.kind c = true := by exact rfl) : ostep P ⟨od, .load t a, oty, ops_, oaf, ogu⟩ fr H K :=
  r_ldr rfl iht.h hx hc hk h
theorem q_ldrd {cs : List Cell} {j : Nat} {c : Cell} [iht : TiOf P t ti] (h : K (sc c) H) (hx : ev fr a = sc (.rop (cs.drop j)) := by first | exact et rfl | exact rfl) (hc : cs[j]? = some c := by first | (refine u8_at ?_; (first | omega | with_reducible assumption | exact (mapc_length ..).trans (by with_reducible assumption) | (simp only [List.length_set, List.length_append, List.length_replicate, List.length_take, List.length_drop, List.length_map, List.length_cons, List.length_nil, mapc_length] <;> omega) | exact rfl | exact Nat.le_of_ble_eq_true rfl | assumption)) | (refine u32_at ?_; (first | omega | with_reducible assumption | exact (mapc_length ..).trans (by with_reducible assumption) | (simp only [List.length_set, List.length_append, List.length_replicate, List.length_take, List.length_drop, List.length_map, List.length_cons, List.length_nil, mapc_length] <;> omega) | exact rfl | exact Nat.le_of_ble_eq_true rfl | assumption)) | (refine u64_at ?_; (first | omega | with_reducible assumption | exact (mapc_length ..).trans (by with_reducible assumption) | (simp only [List.length_set, List.length_append, List.length_replicate, List.length_take, List.length_drop, List.length_map, List.length_cons, List.length_nil, mapc_length] <;> omega) | exact rfl | exact Nat.le_of_ble_eq_true rfl | assumption)) | (refine i64_at ?_; (first | omega | with_reducible assumption | exact (mapc_length ..).trans (by with_reducible assumption) | (simp only [List.length_set, List.length_append, List.length_replicate, List.length_take, List.length_drop, List.length_map, List.length_cons, List.length_nil, mapc_length] <;> omega) | exact rfl | exact Nat.le_of_ble_eq_true rfl | assumption)) | exact rfl) (hk : ldOk ti.kind c = true := by exact rfl) : ostep P ⟨od, .load t a, oty, ops_, oaf, ogu⟩ fr H K :=
  r_ldrd rfl iht.h hx hc hk h
theorem q_ldw {p : Nat} {cs : List Cell} [iht : TiOf P t ti] (h : K (sa cs) H) (hk : ti.kind.agg = true := by exact rfl) (hz : Nat.blt 0 ti.size = true := by exact rfl) (hx : ev fr a = sc (.ptr p 0) := by first | exact et rfl | exact rfl) (hp : H[p]? = some (some cs) := by exact rfl) (hl : cs.length = ti.size := by first | omega | with_reducible assumption | exact (mapc_length ..).trans (by with_reducible assumption) | (simp only [List.length_set, List.length_append, List.length_replicate, List.length_take, List.length_drop, List.length_map, List.length_cons, List.length_nil, mapc_length] <;> omega) | exact rfl | exact Nat.le_of_ble_eq_true rfl | assumption) : ostep P ⟨od, .load t a, oty, ops_, oaf, ogu⟩ fr H K :=
  r_ldw rfl iht.h hk hz hx hp hl h
theorem q_ldar {cs xs : List Cell} [iht : TiOf P t ti] (h : K (sa xs) H) (hk : ti.kind.agg = true := by exact rfl) (hz : Nat.blt 0 ti.size = true := by exact rfl) (hx : ev fr a = sc (.rop cs) := by first | exact et rfl | exact rfl) (hl : ti.size ≤ cs.length := by first | omega | with_reducible assumption | exact (mapc_length ..).trans (by with_reducible assumption) | (simp only [List.length_set, List.length_append, List.length_replicate, List.length_take, List.length_drop, List.length_map, List.length_cons, List.length_nil, mapc_length] <;> omega) | exact rfl | exact Nat.le_of_ble_eq_true rfl | assumption) (hc : cs.take ti.size = xs := by first | exact cut_h (by with_reducible assumption) | exact rfl | exact cut_m | exact cut_w | (simp; done)) : ostep P ⟨od, .load t a, oty, ops_, oaf, ogu⟩ fr H K :=
  r_ldar rfl iht.h hk hz hx hl hc h
theorem q_st {p q : Nat} {cs : List Cell} {c : Cell} [iht : TiOf P t ti] (h : K ud (H.set p (some (cs.set q c)))) (hs : ti.size = 1 := by exact rfl) (hx : ev fr a = sc (.ptr p q) := by first | exact et rfl | exact rfl) (hp : H[p]? = some (some cs) := by exact rfl) (hy : ev fr b = sc c := by first | exact et rfl | exact rfl) (hcv : cellsV (sc c) = some [c] := by exact rfl) (hq : q < cs.length := by first | omega | with_reducible assumption | exact (mapc_length ..).trans (by with_reducible assumption) | (simp only [List.length_set, List.length_append, List.length_replicate, List.length_take, List.length_drop, List.length_map, List.length_cons, List.length_nil, mapc_length] <;> omega) | exact rfl | exact Nat.le_of_ble_eq_true rfl | assumption) : ostep P ⟨od, .store t a b, oty, ops_, oaf, ogu⟩ fr H K :=
  r_st rfl iht.h hs hx hp hy hcv hq h
theorem q_stm {α : Type} {k : IntKind} {g : α → Int} {x : α} {p q : Nat} {l : List α} [iht : TiOf P t ti] (h : K ud (H.set p (some (mapc k g (l.set q x))))) (hs : ti.size = 1 := by exact rfl) (hx : ev fr a = sc (.ptr p q) := by first | exact et rfl | exact rfl) (hp : H[p]? = some (some (mapc k g l)) := by exact rfl) (hy : ev fr b = sc (.int k (g x)) := by first | exact et rfl | exact rfl) (hq : q < l.length := by first | omega | with_reducible assumption | exact (mapc_length ..).trans (by with_reducible assumption) | (simp only [List.length_set, List.length_append, List.length_replicate, List.length_take, List.length_drop, List.length_map, List.length_cons, List.length_nil, mapc_length] <;> omega) | exact rfl | exact Nat.le_of_ble_eq_true rfl | assumption) : ostep P ⟨od, .store t a b, oty, ops_, oaf, ogu⟩ fr H K :=
  r_stm rfl iht.h hs hx hp hy hq h
theorem q_stw {p : Nat} {cs xs : List Cell} [iht : TiOf P t ti] (h : K ud (H.set p (some xs))) (hx : ev fr a = sc (.ptr p 0) := by first | exact et rfl | exact rfl) (hp : H[p]? = some (some cs) := by exact rfl) (hy : ev fr b = sa xs := by first | exact et rfl | exact rfl) (hl : xs.length = ti.size := by first | omega | with_reducible assumption | exact (mapc_length ..).trans (by with_reducible assumption) | (simp only [List.length_set, List.length_append, List.length_replicate, List.length_take, List.length_drop, List.length_map, List.length_cons, List.length_nil, mapc_length] <;> omega) | exact rfl | exact Nat.le_of_ble_eq_true rfl | assumption) (hz : Nat.blt 0 ti.size = true := by exact rfl) (hc : cs.length = ti.size := by first | omega | with_reducible assumption | exact (mapc_length ..).trans (by with_reducible assumption) | (simp only [List.length_set, List.length_append, List.length_replicate, List.length_take, List.length_drop, List.length_map, List.length_cons, List.length_nil, mapc_length] <;> omega) | exact rfl | exact Nat.le_of_ble_eq_true rfl | assumption) : ostep P ⟨od, .store t a b, oty, ops_, oaf, ogu⟩ fr H K :=
  r_stw rfl iht.h hx hp hy hl hz hc h
theorem q_al {z : List Cell} {m : Nat} [iz_ : ZT P t ti z] (h : K (sc (.ptr m 0)) (H ++ [some z])) (hm : H.length = m := by first | exact hlen0 | exact hlen1 | (simp only [List.length_append, List.length_set, List.length_cons, List.length_nil, Nat.zero_add, Nat.reduceAdd]; done) | (simp only [List.length_append, List.length_set, List.length_cons, List.length_nil, Nat.zero_add, Nat.reduceAdd]; exact rfl) | exact hlen2 | exact hlen3 | exact hlen4 | exact hlen5 | exact hlen6 | exact hlen7 | exact hlen8 | exact hlen9 | exact hlen10 | exact hlen11 | exact hlen12 | exact hlen13 | exact hlen14 | exact hlen15 | exact hlen16 | exact hlen17 | exact hlen18 | exact hlen19 | exact hlen20 | exact hlen21 | exact hlen22 | exact hlen23 | exact hlen24) : ostep P ⟨od, .alloc t, oty, ops_, oaf, ogu⟩ fr H K :=
  r_al rfl iz_.h iz_.hz hm h
theorem q_boxa {xs : List Cell} {m : Nat}  (h : K (sc (.ptr m 0)) (H ++ [some xs])) (hx : ev fr a = sa xs := by first | exact et rfl | exact rfl) (hm : H.length = m := by first | exact hlen0 | exact hlen1 | (simp only [List.length_append, List.length_set, List.length_cons, List.length_nil, Nat.zero_add, Nat.reduceAdd]; done) | (simp only [List.length_append, List.length_set, List.length_cons, List.length_nil, Nat.zero_add, Nat.reduceAdd]; exact rfl) | exact hlen2 | exact hlen3 | exact hlen4 | exact hlen5 | exact hlen6 | exact hlen7 | exact hlen8 | exact hlen9 | exact hlen10 | exact hlen11 | exact hlen12 | exact hlen13 | exact hlen14 | exact hlen15 | exact hlen16 | exact hlen17 | exact hlen18 | exact hlen19 | exact hlen20 | exact hlen21 | exact hlen22 | exact hlen23 | exact hlen24) : ostep P ⟨od, .box t a, oty, ops_, oaf, ogu⟩ fr H K :=
  r_boxa rfl hx hm h
theorem q_bla {n e : Nat} {z : List Cell} {ei : TI} {parts : Array (Nat × Operand)} {sz_ : Nat} [it_ : ArT P t ti n e ei sz_] [iz_ : ZT P t ti z] (h : fillK fr (fun i => some (i * sz_, sz_)) (fun cs => K (sa cs) H) z parts.toList)  : ostep P ⟨od, .build t parts, oty, ops_, oaf, ogu⟩ fr H K :=
  by have hs_ := it_.hs; subst hs_; exact r_bla rfl it_.ht iz_.hz it_.hk it_.he h
theorem q_bls {fs : List (Nat × Nat)} {z : List Cell} {parts : Array (Nat × Operand)} [is_ : StT P t ti fs] [iz_ : ZT P t ti z] (h : fillK fr (placeS P fs) (fun cs => K (sa cs) H) z parts.toList) (hfs : (fs.all fun f => (tiOf P f.2).isSome) = true := by exact rfl) : ostep P ⟨od, .build t parts, oty, ops_, oaf, ogu⟩ fr H K :=
  r_bls rfl iz_.h iz_.hz is_.hk hfs h
theorem q_bsl {e len m : Nat} {z : List Cell} {ei : TI} {parts : Array (Nat × Operand)} {sz_ : Nat} [it_ : SlT P t ti e ei sz_] [iz_ : ZT P e ei z] (h : fillK fr (fun i => some (i * sz_, sz_)) (fun cs => K (sc (.slc m 0 len sz_)) (H ++ [some cs])) (rep len z) parts.toList) (hzl : z.length = sz_ := by exact rfl) (hb : Nat.ble (len * sz_) 16777216 = true := by exact rfl) (hm : H.length = m := by first | exact hlen0 | exact hlen1 | (simp only [List.length_append, List.length_set, List.length_cons, List.length_nil, Nat.zero_add, Nat.reduceAdd]; done) | (simp only [List.length_append, List.length_set, List.length_cons, List.length_nil, Nat.zero_add, Nat.reduceAdd]; exact rfl) | exact hlen2 | exact hlen3 | exact hlen4 | exact hlen5 | exact hlen6 | exact hlen7 | exact hlen8 | exact hlen9 | exact hlen10 | exact hlen11 | exact hlen12 | exact hlen13 | exact hlen14 | exact hlen15 | exact hlen16 | exact hlen17 | exact hlen18 | exact hlen19 | exact hlen20 | exact hlen21 | exact hlen22 | exact hlen23 | exact hlen24) : ostep P ⟨od, .buildSlice t len parts, oty, ops_, oaf, ogu⟩ fr H K :=
  by have hs_ := it_.hs; subst hs_; exact r_bsl rfl it_.ht it_.hk it_.he iz_.hz hzl hb hm h
theorem q_mks {e n m : Nat} {z : List Cell} {ei : TI} {l c : Operand} {sz_ : Nat} [it_ : SlT P t ti e ei sz_] [iz_ : ZT P e ei z] (h : K (sc (.slc m 0 n sz_)) (H ++ [some (rep n z)])) (hzl : z.length = sz_ := by exact rfl) (hs : Nat.blt 0 sz_ = true := by exact rfl) (hl : ev fr l = sc (cn n) := by first | exact et rfl | exact rfl) (hc : ev fr c = sc (cn n) := by first | exact et rfl | exact rfl) (hn : n ≤ 281474976710656 := by first | omega | with_reducible assumption | exact (mapc_length ..).trans (by with_reducible assumption) | (simp only [List.length_set, List.length_append, List.length_replicate, List.length_take, List.length_drop, List.length_map, List.length_cons, List.length_nil, mapc_length] <;> omega) | exact rfl | exact Nat.le_of_ble_eq_true rfl | assumption) (hb : ei.bytes * n ≤ 281474976710656 := by first | omega | with_reducible assumption | exact (mapc_length ..).trans (by with_reducible assumption) | (simp only [List.length_set, List.length_append, List.length_replicate, List.length_take, List.length_drop, List.length_map, List.length_cons, List.length_nil, mapc_length] <;> omega) | exact rfl | exact Nat.le_of_ble_eq_true rfl | assumption) (hm : H.length = m := by first | exact hlen0 | exact hlen1 | (simp only [List.length_append, List.length_set, List.length_cons, List.length_nil, Nat.zero_add, Nat.reduceAdd]; done) | (simp only [List.length_append, List.length_set, List.length_cons, List.length_nil, Nat.zero_add, Nat.reduceAdd]; exact rfl) | exact hlen2 | exact hlen3 | exact hlen4 | exact hlen5 | exact hlen6 | exact hlen7 | exact hlen8 | exact hlen9 | exact hlen10 | exact hlen11 | exact hlen12 | exact hlen13 | exact hlen14 | exact hlen15 | exact hlen16 | exact hlen17 | exact hlen18 | exact hlen19 | exact hlen20 | exact hlen21 | exact hlen22 | exact hlen23 | exact hlen24) : ostep P ⟨od, .makeSlice t l c, oty, ops_, oaf, ogu⟩ fr H K :=
  by have hs_ := it_.hs; subst hs_; exact r_mks rfl it_.ht it_.hk it_.he iz_.hz hzl hs hl hc hn hb hm h
theorem q_app {e n m w : Nat} {z cs ds : List Cell} {ei ti' : TI} {u : TypeId} {sA sB : S} {sz_ : Nat} [it_ : SlT P t ti e ei sz_] [iz_ : ZT P e ei z] [ihu : TiOf P u ti'] (h : K (sc (.slc w 0 (n + m) sz_)) (kill H sA ++ [some (cs ++ ds)])) (hni : ∀ k, ti'.kind ≠ .int k := by intro _ h; simp at h) (hzl : z.length = sz_ := by exact rfl) (hby : Nat.blt 0 ei.bytes = true := by exact rfl) (hs : Nat.blt 0 sz_ = true := by exact rfl) (ha : ev fr a = sA := by first | exact et rfl | exact rfl) (hb : ev fr b = sB := by first | exact et rfl | exact rfl) (eA : Elems H sz_ sA n cs := by first | exact el_nil | exact el_str | (apply el_ro; (first | omega | with_reducible assumption | exact (mapc_length ..).trans (by with_reducible assumption) | (simp only [List.length_set, List.length_append, List.length_replicate, List.length_take, List.length_drop, List.length_map, List.length_cons, List.length_nil, mapc_length] <;> omega) | exact rfl | exact Nat.le_of_ble_eq_true rfl | assumption)) | (apply el_slc; exact rfl; (first | omega | with_reducible assumption | exact (mapc_length ..).trans (by with_reducible assumption) | (simp only [List.length_set, List.length_append, List.length_replicate, List.length_take, List.length_drop, List.length_map, List.length_cons, List.length_nil, mapc_length] <;> omega) | exact rfl | exact Nat.le_of_ble_eq_true rfl | assumption); (first | exact cut_h (by with_reducible assumption) | exact rfl | exact cut_m | exact cut_w | (simp; done)))) (eB : Elems H sz_ sB m ds := by first | exact el_nil | exact el_str | (apply el_ro; (first | omega | with_reducible assumption | exact (mapc_length ..).trans (by with_reducible assumption) | (simp only [List.length_set, List.length_append, List.length_replicate, List.length_take, List.length_drop, List.length_map, List.length_cons, List.length_nil, mapc_length] <;> omega) | exact rfl | exact Nat.le_of_ble_eq_true rfl | assumption)) | (apply el_slc; exact rfl; (first | omega | with_reducible assumption | exact (mapc_length ..).trans (by with_reducible assumption) | (simp only [List.length_set, List.length_append, List.length_replicate, List.length_take, List.length_drop, List.length_map, List.length_cons, List.length_nil, mapc_length] <;> omega) | exact rfl | exact Nat.le_of_ble_eq_true rfl | assumption); (first | exact cut_h (by with_reducible assumption) | exact rfl | exact cut_m | exact cut_w | (simp; done)))) (hsl : (∃ p q l s, sA = sc (.slc p q l s)) ∨ sA = sc .nils := by first | exact .inl ⟨_, _, _, _, rfl⟩ | exact .inr rfl) (h1 : (2 * (n + m) + 192) * ei.bytes ≤ 281474976710656 := by first | omega | with_reducible assumption | exact (mapc_length ..).trans (by with_reducible assumption) | (simp only [List.length_set, List.length_append, List.length_replicate, List.length_take, List.length_drop, List.length_map, List.length_cons, List.length_nil, mapc_length] <;> omega) | exact rfl | exact Nat.le_of_ble_eq_true rfl | assumption) (h2 : n + m ≤ 281474976710656 := by first | omega | with_reducible assumption | exact (mapc_length ..).trans (by with_reducible assumption) | (simp only [List.length_set, List.length_append, List.length_replicate, List.length_take, List.length_drop, List.length_map, List.length_cons, List.length_nil, mapc_length] <;> omega) | exact rfl | exact Nat.le_of_ble_eq_true rfl | assumption) (hw : H.length = w := by first | exact hlen0 | exact hlen1 | (simp only [List.length_append, List.length_set, List.length_cons, List.length_nil, Nat.zero_add, Nat.reduceAdd]; done) | (simp only [List.length_append, List.length_set, List.length_cons, List.length_nil, Nat.zero_add, Nat.reduceAdd]; exact rfl) | exact hlen2 | exact hlen3 | exact hlen4 | exact hlen5 | exact hlen6 | exact hlen7 | exact hlen8 | exact hlen9 | exact hlen10 | exact hlen11 | exact hlen12 | exact hlen13 | exact hlen14 | exact hlen15 | exact hlen16 | exact hlen17 | exact hlen18 | exact hlen19 | exact hlen20 | exact hlen21 | exact hlen22 | exact hlen23 | exact hlen24) : ostep P ⟨od, .call ⟨.builtin .append, #[a, b], #[t, u]⟩, oty, ops_, oaf, ogu⟩ fr H K :=
  by have hs_ := it_.hs; subst hs_; exact r_app rfl it_.ht ihu.h hni it_.hk it_.he iz_.hz hzl hby hs ha hb eA eB hsl h1 h2 hw h
theorem q_cpy {e n m p q sz : Nat} {cs ds : List Cell} {ei : TI} {u : TypeId} {sB : S} {sz_ : Nat} [it_ : SlT P t ti e ei sz_] (h : K (sc (cn (min m n))) (H.set p (some (splice cs q (ds.take (min m n * sz)))))) (ha : ev fr a = sc (.slc p q n sz) := by first | exact et rfl | exact rfl) (hp : H[p]? = some (some cs) := by exact rfl) (hsz : sz = sz_ := by exact rfl) (hl : q + n * sz ≤ cs.length := by first | omega | with_reducible assumption | exact (mapc_length ..).trans (by with_reducible assumption) | (simp only [List.length_set, List.length_append, List.length_replicate, List.length_take, List.length_drop, List.length_map, List.length_cons, List.length_nil, mapc_length] <;> omega) | exact rfl | exact Nat.le_of_ble_eq_true rfl | assumption) (hb : ev fr b = sB := by first | exact et rfl | exact rfl) (eB : Elems H sz_ sB m ds := by first | exact el_nil | exact el_str | (apply el_ro; (first | omega | with_reducible assumption | exact (mapc_length ..).trans (by with_reducible assumption) | (simp only [List.length_set, List.length_append, List.length_replicate, List.length_take, List.length_drop, List.length_map, List.length_cons, List.length_nil, mapc_length] <;> omega) | exact rfl | exact Nat.le_of_ble_eq_true rfl | assumption)) | (apply el_slc; exact rfl; (first | omega | with_reducible assumption | exact (mapc_length ..).trans (by with_reducible assumption) | (simp only [List.length_set, List.length_append, List.length_replicate, List.length_take, List.length_drop, List.length_map, List.length_cons, List.length_nil, mapc_length] <;> omega) | exact rfl | exact Nat.le_of_ble_eq_true rfl | assumption); (first | exact cut_h (by with_reducible assumption) | exact rfl | exact cut_m | exact cut_w | (simp; done)))) : ostep P ⟨od, .call ⟨.builtin .copy, #[a, b], #[t, u]⟩, oty, ops_, oaf, ogu⟩ fr H K :=
  by have hs_ := it_.hs; subst hs_; exact r_cpy rfl it_.ht it_.hk it_.he ha hp hsz hl hb eB h
theorem q_lenc {p q n sz e : Nat} [iht : TiOf P t ti] (h : K (sc (cn n)) H) (hk : ti.kind = .slice e := by exact rfl) (hx : ev fr a = sc (.slc p q n sz) := by first | exact et rfl | exact rfl) : ostep P ⟨od, .call ⟨.builtin .len, #[a], #[t]⟩, oty, ops_, oaf, ogu⟩ fr H K :=
  r_lenc rfl iht.h hk hx h
theorem q_leno {n e : Nat} {cs : List Cell} [iht : TiOf P t ti] (h : K (sc (cn n)) H) (hk : ti.kind = .slice e := by exact rfl) (hx : ev fr a = sc (.ro n cs) := by first | exact et rfl | exact rfl) : ostep P ⟨od, .call ⟨.builtin .len, #[a], #[t]⟩, oty, ops_, oaf, ogu⟩ fr H K :=
  r_leno rfl iht.h hk hx h
theorem q_minn {x y : Nat} {ats : Array TypeId}  (h : K (sc (cn (min x y))) H) (hx : ev fr a = sc (cn x) := by first | exact et rfl | exact rfl) (hy : ev fr b = sc (cn y) := by first | exact et rfl | exact rfl) : ostep P ⟨od, .call ⟨.builtin .min, #[a, b], ats⟩, oty, ops_, oaf, ogu⟩ fr H K :=
  r_minn rfl hx hy h
theorem q_max64 {x y : UInt64} {ats : Array TypeId}  (h : K (sc (c64 (if x < y then y else x))) H) (hx : ev fr a = sc (c64 x) := by first | exact et rfl | exact rfl) (hy : ev fr b = sc (c64 y) := by first | exact et rfl | exact rfl) : ostep P ⟨od, .call ⟨.builtin .max, #[a, b], ats⟩, oty, ops_, oaf, ogu⟩ fr H K :=
  r_max64 rfl hx hy h
theorem q_ext {xs : List V} {j : Nat} {y : V}  (h : K (.v y) H) (hx : ev fr a = .t xs := by first | exact et rfl | exact rfl) (hj : xs[j]? = some y := by exact rfl) : ostep P ⟨od, .extract a j, oty, ops_, oaf, ogu⟩ fr H K :=
  r_ext rfl hx hj h
theorem q_ina {xs ys : List Cell} {n e j : Nat} {ei : TI} {sz_ : Nat} [it_ : ArT P t ti n e ei sz_] (h : K (sa ys) H) (hi : Ix (ev fr i) j := by first | exact ixn (et rfl) | exact ixn rfl | exact ix64 (et rfl) | exact ix8 (et rfl) | exact ix32 (et rfl)) (hx : ev fr a = sa xs := by first | exact et rfl | exact rfl) (hlt : j < n := by first | omega | with_reducible assumption | exact (mapc_length ..).trans (by with_reducible assumption) | (simp only [List.length_set, List.length_append, List.length_replicate, List.length_take, List.length_drop, List.length_map, List.length_cons, List.length_nil, mapc_length] <;> omega) | exact rfl | exact Nat.le_of_ble_eq_true rfl | assumption) (hl : ei.kind.agg = true := by exact rfl) (hy : (xs.drop (j * sz_)).take sz_ = ys := by first | exact cut_h (by with_reducible assumption) | exact rfl | exact cut_m | exact cut_w | (simp; done)) : ostep P ⟨od, .index t a i, oty, ops_, oaf, ogu⟩ fr H K :=
  by have hs_ := it_.hs; subst hs_; exact r_ina rfl it_.ht it_.hk it_.he hi hx hlt hl hy h
theorem q_mkf {f : Nat} {cap : Array Operand} {cs : List Cell}  (h : K (sc (.fn f cs)) H) (hc : caps fr cap.toList = some cs := by exact rfl) : ostep P ⟨od, .makeFunc (.func f) #[] cap, oty, ops_, oaf, ogu⟩ fr H K :=
  r_mkf rfl hc h
theorem q_s2p {p q l sz n e : Nat} [iht : TiOf P t ti] (h : K (sc (.ptr p q)) H) (hk : ti.kind = .array n e := by exact rfl) (hx : ev fr a = sc (.slc p q l sz) := by first | exact et rfl | exact rfl) (hl : n ≤ l := by first | omega | with_reducible assumption | exact (mapc_length ..).trans (by with_reducible assumption) | (simp only [List.length_set, List.length_append, List.length_replicate, List.length_take, List.length_drop, List.length_map, List.length_cons, List.length_nil, mapc_length] <;> omega) | exact rfl | exact Nat.le_of_ble_eq_true rfl | assumption) (hn : 0 < n := by first | omega | with_reducible assumption | exact (mapc_length ..).trans (by with_reducible assumption) | (simp only [List.length_set, List.length_append, List.length_replicate, List.length_take, List.length_drop, List.length_map, List.length_cons, List.length_nil, mapc_length] <;> omega) | exact rfl | exact Nat.le_of_ble_eq_true rfl | assumption) : ostep P ⟨od, .sliceToArrayPointer t a, oty, ops_, oaf, ogu⟩ fr H K :=
  r_s2p rfl iht.h hk hx hl hn h
theorem q_s2r {l n e : Nat} {cs : List Cell} [iht : TiOf P t ti] (h : K (sc (.rop cs)) H) (hk : ti.kind = .array n e := by exact rfl) (hx : ev fr a = sc (.ro l cs) := by first | exact et rfl | exact rfl) (hl : n ≤ l := by first | omega | with_reducible assumption | exact (mapc_length ..).trans (by with_reducible assumption) | (simp only [List.length_set, List.length_append, List.length_replicate, List.length_take, List.length_drop, List.length_map, List.length_cons, List.length_nil, mapc_length] <;> omega) | exact rfl | exact Nat.le_of_ble_eq_true rfl | assumption) (hn : 0 < n := by first | omega | with_reducible assumption | exact (mapc_length ..).trans (by with_reducible assumption) | (simp only [List.length_set, List.length_append, List.length_replicate, List.length_take, List.length_drop, List.length_map, List.length_cons, List.length_nil, mapc_length] <;> omega) | exact rfl | exact Nat.le_of_ble_eq_true rfl | assumption) (hc : cs ≠ [] := by first | omega | with_reducible assumption | exact (mapc_length ..).trans (by with_reducible assumption) | (simp only [List.length_set, List.length_append, List.length_replicate, List.length_take, List.length_drop, List.length_map, List.length_cons, List.length_nil, mapc_length] <;> omega) | exact rfl | exact Nat.le_of_ble_eq_true rfl | assumption) : ostep P ⟨od, .sliceToArrayPointer t a, oty, ops_, oaf, ogu⟩ fr H K :=
  r_s2r rfl iht.h hk hx hl hn hc h
theorem q_csl {s d e p q n : Nat} {si di ei : TI} {cs : List Cell} {l : List UInt8} {sz_ : Nat} [it_ : SlT P s si e ei sz_] [ihd : TiOf P d di] (h : K (sc (.str ⟨l.toArray⟩)) H) (hk' : di.kind = .str := by exact rfl) (hek : ei.kind = .int .u8 := by exact rfl) (hx : ev fr a = sc (.slc p q n 1) := by first | exact et rfl | exact rfl) (hp : H[p]? = some (some cs) := by exact rfl) (hl : q + n ≤ cs.length := by first | omega | with_reducible assumption | exact (mapc_length ..).trans (by with_reducible assumption) | (simp only [List.length_set, List.length_append, List.length_replicate, List.length_take, List.length_drop, List.length_map, List.length_cons, List.length_nil, mapc_length] <;> omega) | exact rfl | exact Nat.le_of_ble_eq_true rfl | assumption) (hc : (cs.drop q).take n = u8s l := by first | exact cut_h (by with_reducible assumption) | exact rfl | exact cut_m | exact cut_w | (simp; done)) : ostep P ⟨od, .convert s d a, oty, ops_, oaf, ogu⟩ fr H K :=
  r_csl rfl it_.ht ihd.h it_.hk hk' it_.he hek hx hp hl hc h
theorem q_callp {f : Nat} {args : Array Operand} {ats : Array TypeId} {v s : S} {args' : List V} (hg : Good P f args' [] v []) (h : K s H) (ha : CA fr H [] true args.toList args' := by repeat' (first | exact ca0 | refine cac (by first | exact et rfl | exact rfl) (by first | exact cm_int | exact cm_bool | exact cm_str | exact sees_ro | (apply sees_slc; exact rfl; (first | exact rfl | assumption); (first | exact cut_h (by with_reducible assumption) | exact rfl | exact cut_m | exact cut_w)) | (apply sees_parts; exact rfl; (first | exact rfl | assumption); (repeat' (first | exact pq0 | (apply pq_ro; (first | with_reducible assumption | (simp only [List.length_take, List.length_drop, List.length_append] <;> omega) | exact rfl)) | refine pq_nil ?_ | (apply pq_slc; exact rfl; (first | exact rfl | assumption); (first | exact cut_h (by with_reducible assumption) | exact rfl | exact cut_m | exact cut_w); (first | with_reducible assumption | (simp only [List.length_take, List.length_drop, List.length_append] <;> omega) | exact rfl))))) | exact sees_nil8 | exact sees_nil | exact sees_ptr rfl (by first | exact rfl | assumption) rfl rfl | exact rfl) ?_ | refine caa (by first | exact et rfl | exact rfl) (by first | exact sees_m | exact rfl) ?_)) (e3 : sm (cm (cout [] true H.length) 8) v = s := by first | exact rs_int | exact rs_bool | exact rs_m | exact rs_new | exact rs_nils | exact rs_str | exact rs_newp | exact rs_nilp | exact vt0 | exact vt2 (by first | exact vs_int | exact vs_bool | exact vs_m | exact vs_new | exact vs_nils | exact vs_str | exact vs_newp | exact vs_nilp | exact rfl) (by first | exact vs_int | exact vs_bool | exact vs_m | exact vs_new | exact vs_nils | exact vs_str | exact vs_newp | exact vs_nilp | exact rfl) | exact vt3 (by first | exact vs_int | exact vs_bool | exact vs_m | exact vs_new | exact vs_nils | exact vs_str | exact vs_newp | exact vs_nilp | exact rfl) (by first | exact vs_int | exact vs_bool | exact vs_m | exact vs_new | exact vs_nils | exact vs_str | exact vs_newp | exact vs_nilp | exact rfl) (by first | exact vs_int | exact vs_bool | exact vs_m | exact vs_new | exact vs_nils | exact vs_str | exact vs_newp | exact vs_nilp | exact rfl) | exact vt4 (by first | exact vs_int | exact vs_bool | exact vs_m | exact vs_new | exact vs_nils | exact vs_str | exact vs_newp | exact vs_nilp | exact rfl) (by first | exact vs_int | exact vs_bool | exact vs_m | exact vs_new | exact vs_nils | exact vs_str | exact vs_newp | exact vs_nilp | exact rfl) (by first | exact vs_int | exact vs_bool | exact vs_m | exact vs_new | exact vs_nils | exact vs_str | exact vs_newp | exact vs_nilp | exact rfl) (by first | exact vs_int | exact vs_bool | exact vs_m | exact vs_new | exact vs_nils | exact vs_str | exact vs_newp | exact vs_nilp | exact rfl) | exact rfl) : ostep P ⟨od, .call ⟨.value (.func f), args, ats⟩, oty, ops_, oaf, ogu⟩ fr H K :=
  r_callp rfl ha hg e3 h
theorem q_calln {f m : Nat} {args : Array Operand} {ats : Array TypeId} {v s : S} {cs : List Cell} {args' : List V} (hg : Good P f args' [] v [some cs]) (h : K s (H ++ [some cs])) (ha : CA fr H [] true args.toList args' := by repeat' (first | exact ca0 | refine cac (by first | exact et rfl | exact rfl) (by first | exact cm_int | exact cm_bool | exact cm_str | exact sees_ro | (apply sees_slc; exact rfl; (first | exact rfl | assumption); (first | exact cut_h (by with_reducible assumption) | exact rfl | exact cut_m | exact cut_w)) | (apply sees_parts; exact rfl; (first | exact rfl | assumption); (repeat' (first | exact pq0 | (apply pq_ro; (first | with_reducible assumption | (simp only [List.length_take, List.length_drop, List.length_append] <;> omega) | exact rfl)) | refine pq_nil ?_ | (apply pq_slc; exact rfl; (first | exact rfl | assumption); (first | exact cut_h (by with_reducible assumption) | exact rfl | exact cut_m | exact cut_w); (first | with_reducible assumption | (simp only [List.length_take, List.length_drop, List.length_append] <;> omega) | exact rfl))))) | exact sees_nil8 | exact sees_nil | exact sees_ptr rfl (by first | exact rfl | assumption) rfl rfl | exact rfl) ?_ | refine caa (by first | exact et rfl | exact rfl) (by first | exact sees_m | exact rfl) ?_)) (hm : H.length = m := by first | exact hlen0 | exact hlen1 | (simp only [List.length_append, List.length_set, List.length_cons, List.length_nil, Nat.zero_add, Nat.reduceAdd]; done) | (simp only [List.length_append, List.length_set, List.length_cons, List.length_nil, Nat.zero_add, Nat.reduceAdd]; exact rfl) | exact hlen2 | exact hlen3 | exact hlen4 | exact hlen5 | exact hlen6 | exact hlen7 | exact hlen8 | exact hlen9 | exact hlen10 | exact hlen11 | exact hlen12 | exact hlen13 | exact hlen14 | exact hlen15 | exact hlen16 | exact hlen17 | exact hlen18 | exact hlen19 | exact hlen20 | exact hlen21 | exact hlen22 | exact hlen23 | exact hlen24) (hcs : cs.map (cm (cout [] true m) 8) = cs := by first | exact sees_m | exact rfl) (e3 : sm (cm (cout [] true m) 8) v = s := by first | exact rs_int | exact rs_bool | exact rs_m | exact rs_new | exact rs_nils | exact rs_str | exact rs_newp | exact rs_nilp | exact vt0 | exact vt2 (by first | exact vs_int | exact vs_bool | exact vs_m | exact vs_new | exact vs_nils | exact vs_str | exact vs_newp | exact vs_nilp | exact rfl) (by first | exact vs_int | exact vs_bool | exact vs_m | exact vs_new | exact vs_nils | exact vs_str | exact vs_newp | exact vs_nilp | exact rfl) | exact vt3 (by first | exact vs_int | exact vs_bool | exact vs_m | exact vs_new | exact vs_nils | exact vs_str | exact vs_newp | exact vs_nilp | exact rfl) (by first | exact vs_int | exact vs_bool | exact vs_m | exact vs_new | exact vs_nils | exact vs_str | exact vs_newp | exact vs_nilp | exact rfl) (by first | exact vs_int | exact vs_bool | exact vs_m | exact vs_new | exact vs_nils | exact vs_str | exact vs_newp | exact vs_nilp | exact rfl) | exact vt4 (by first | exact vs_int | exact vs_bool | exact vs_m | exact vs_new | exact vs_nils | exact vs_str | exact vs_newp | exact vs_nilp | exact rfl) (by first | exact vs_int | exact vs_bool | exact vs_m | exact vs_new | exact vs_nils | exact vs_str | exact vs_newp | exact vs_nilp | exact rfl) (by first | exact vs_int | exact vs_bool | exact vs_m | exact vs_new | exact vs_nils | exact vs_str | exact vs_newp | exact vs_nilp | exact rfl) (by first | exact vs_int | exact vs_bool | exact vs_m | exact vs_new | exact vs_nils | exact vs_str | exact vs_newp | exact vs_nilp | exact rfl) | exact rfl) : ostep P ⟨od, .call ⟨.value (.func f), args, ats⟩, oty, ops_, oaf, ogu⟩ fr H K :=
  r_calln rfl ha hg hm hcs e3 h
theorem q_callw {f : Nat} {args : Array Operand} {ats : Array TypeId} {v s : S} {cs cs' ds ds' : List Cell} {args' : List V} (p : Nat) (hg : Good P f args' [some cs'] v [some ds]) (h : K s (H.set p (some ds'))) (ha : CA fr H [p] true args.toList args' := by repeat' (first | exact ca0 | refine cac (by first | exact et rfl | exact rfl) (by first | exact cm_int | exact cm_bool | exact cm_str | exact sees_ro | (apply sees_slc; exact rfl; (first | exact rfl | assumption); (first | exact cut_h (by with_reducible assumption) | exact rfl | exact cut_m | exact cut_w)) | (apply sees_parts; exact rfl; (first | exact rfl | assumption); (repeat' (first | exact pq0 | (apply pq_ro; (first | with_reducible assumption | (simp only [List.length_take, List.length_drop, List.length_append] <;> omega) | exact rfl)) | refine pq_nil ?_ | (apply pq_slc; exact rfl; (first | exact rfl | assumption); (first | exact cut_h (by with_reducible assumption) | exact rfl | exact cut_m | exact cut_w); (first | with_reducible assumption | (simp only [List.length_take, List.length_drop, List.length_append] <;> omega) | exact rfl))))) | exact sees_nil8 | exact sees_nil | exact sees_ptr rfl (by first | exact rfl | assumption) rfl rfl | exact rfl) ?_ | refine caa (by first | exact et rfl | exact rfl) (by first | exact sees_m | exact rfl) ?_)) (hp : H[p]? = some (some cs) := by exact rfl) (hcs : cs.map (cm (cin [p] true H) 8) = cs' := by first | exact sees_m | exact rfl) (hds : ds.map (cm (cout [p] true H.length) 8) = ds' := by first | exact sees_m | exact rfl) (e3 : sm (cm (cout [p] true H.length) 8) v = s := by first | exact rs_int | exact rs_bool | exact rs_m | exact rs_new | exact rs_nils | exact rs_str | exact rs_newp | exact rs_nilp | exact vt0 | exact vt2 (by first | exact vs_int | exact vs_bool | exact vs_m | exact vs_new | exact vs_nils | exact vs_str | exact vs_newp | exact vs_nilp | exact rfl) (by first | exact vs_int | exact vs_bool | exact vs_m | exact vs_new | exact vs_nils | exact vs_str | exact vs_newp | exact vs_nilp | exact rfl) | exact vt3 (by first | exact vs_int | exact vs_bool | exact vs_m | exact vs_new | exact vs_nils | exact vs_str | exact vs_newp | exact vs_nilp | exact rfl) (by first | exact vs_int | exact vs_bool | exact vs_m | exact vs_new | exact vs_nils | exact vs_str | exact vs_newp | exact vs_nilp | exact rfl) (by first | exact vs_int | exact vs_bool | exact vs_m | exact vs_new | exact vs_nils | exact vs_str | exact vs_newp | exact vs_nilp | exact rfl) | exact vt4 (by first | exact vs_int | exact vs_bool | exact vs_m | exact vs_new | exact vs_nils | exact vs_str | exact vs_newp | exact vs_nilp | exact rfl) (by first | exact vs_int | exact vs_bool | exact vs_m | exact vs_new | exact vs_nils | exact vs_str | exact vs_newp | exact vs_nilp | exact rfl) (by first | exact vs_int | exact vs_bool | exact vs_m | exact vs_new | exact vs_nils | exact vs_str | exact vs_newp | exact vs_nilp | exact rfl) (by first | exact vs_int | exact vs_bool | exact vs_m | exact vs_new | exact vs_nils | exact vs_str | exact vs_newp | exact vs_nilp | exact rfl) | exact rfl) : ostep P ⟨od, .call ⟨.value (.func f), args, ats⟩, oty, ops_, oaf, ogu⟩ fr H K :=
  r_callw p rfl ha hp hcs hg hds e3 h
theorem q_sls_lo {p q n e sz : Nat} {ei : TI} {j : Nat} {x : Operand} {sz_ : Nat} [it_ : SlT P t ti e ei sz_] (h : K (sc (.slc p (q + j * sz) (n - j) sz)) H) (hx : ev fr a = sc (.slc p q n sz) := by first | exact et rfl | exact rfl) (hsz : sz = sz_ := by exact rfl) (hj : ev fr x = sc (cn j) := by first | exact et rfl | exact rfl) (hb : j ≤ n := by first | omega | with_reducible assumption | exact (mapc_length ..).trans (by with_reducible assumption) | (simp only [List.length_set, List.length_append, List.length_replicate, List.length_take, List.length_drop, List.length_map, List.length_cons, List.length_nil, mapc_length] <;> omega) | exact rfl | exact Nat.le_of_ble_eq_true rfl | assumption) : ostep P ⟨od, .slice t a (some x) none none, oty, ops_, oaf, ogu⟩ fr H K :=
  by have hs_ := it_.hs; subst hs_; exact r_sls_lo rfl it_.ht it_.hk it_.he hx hsz hj hb h
theorem q_sls_hi {p q n e sz : Nat} {ei : TI} {k : Nat} {y : Operand} {sz_ : Nat} [it_ : SlT P t ti e ei sz_] (h : K (sc (.slc p (q) (k) sz)) H) (hx : ev fr a = sc (.slc p q n sz) := by first | exact et rfl | exact rfl) (hsz : sz = sz_ := by exact rfl) (hk' : ev fr y = sc (cn k) := by first | exact et rfl | exact rfl) (hb : k ≤ n := by first | omega | with_reducible assumption | exact (mapc_length ..).trans (by with_reducible assumption) | (simp only [List.length_set, List.length_append, List.length_replicate, List.length_take, List.length_drop, List.length_map, List.length_cons, List.length_nil, mapc_length] <;> omega) | exact rfl | exact Nat.le_of_ble_eq_true rfl | assumption) : ostep P ⟨od, .slice t a none (some y) none, oty, ops_, oaf, ogu⟩ fr H K :=
  by have hs_ := it_.hs; subst hs_; exact r_sls_hi rfl it_.ht it_.hk it_.he hx hsz hk' hb h
theorem q_slo_lo {n e : Nat} {cs xs : List Cell} {ei : TI} {j : Nat} {x : Operand} {sz_ : Nat} [it_ : SlT P t ti e ei sz_] (h : K (sc (.ro (n - j) xs)) H) (hx : ev fr a = sc (.ro n cs) := by first | exact et rfl | exact rfl) (hj : ev fr x = sc (cn j) := by first | exact et rfl | exact rfl) (hb : j ≤ n := by first | omega | with_reducible assumption | exact (mapc_length ..).trans (by with_reducible assumption) | (simp only [List.length_set, List.length_append, List.length_replicate, List.length_take, List.length_drop, List.length_map, List.length_cons, List.length_nil, mapc_length] <;> omega) | exact rfl | exact Nat.le_of_ble_eq_true rfl | assumption) (hc : (cs.drop (j * sz_)).take ((n - j) * sz_) = xs := by first | exact cut_h (by with_reducible assumption) | exact rfl | exact cut_m | exact cut_w | (simp; done)) : ostep P ⟨od, .slice t a (some x) none none, oty, ops_, oaf, ogu⟩ fr H K :=
  by have hs_ := it_.hs; subst hs_; exact r_slo_lo rfl it_.ht it_.hk it_.he hx hj hb hc h
theorem q_slo_hi {n e : Nat} {cs xs : List Cell} {ei : TI} {k : Nat} {y : Operand} {sz_ : Nat} [it_ : SlT P t ti e ei sz_] (h : K (sc (.ro (k) xs)) H) (hx : ev fr a = sc (.ro n cs) := by first | exact et rfl | exact rfl) (hk' : ev fr y = sc (cn k) := by first | exact et rfl | exact rfl) (hb : k ≤ n := by first | omega | with_reducible assumption | exact (mapc_length ..).trans (by with_reducible assumption) | (simp only [List.length_set, List.length_append, List.length_replicate, List.length_take, List.length_drop, List.length_map, List.length_cons, List.length_nil, mapc_length] <;> omega) | exact rfl | exact Nat.le_of_ble_eq_true rfl | assumption) (hc : (cs.drop (0 * sz_)).take ((k) * sz_) = xs := by first | exact cut_h (by with_reducible assumption) | exact rfl | exact cut_m | exact cut_w | (simp; done)) : ostep P ⟨od, .slice t a none (some y) none, oty, ops_, oaf, ogu⟩ fr H K :=
  by have hs_ := it_.hs; subst hs_; exact r_slo_hi rfl it_.ht it_.hk it_.he hx hk' hb hc h
theorem q_slp_no {p q n e : Nat} {cs : List Cell} {ei : TI} {sz_ : Nat} [it_ : ArT P t ti n e ei sz_] (h : K (sc (.slc p (q) (n) sz_)) H) (hx : ev fr a = sc (.ptr p q) := by first | exact et rfl | exact rfl) (hp : H[p]? = some (some cs) := by exact rfl) (hs : Nat.blt 0 sz_ = true := by exact rfl) (hl : q + n * sz_ ≤ cs.length := by first | omega | with_reducible assumption | exact (mapc_length ..).trans (by with_reducible assumption) | (simp only [List.length_set, List.length_append, List.length_replicate, List.length_take, List.length_drop, List.length_map, List.length_cons, List.length_nil, mapc_length] <;> omega) | exact rfl | exact Nat.le_of_ble_eq_true rfl | assumption) : ostep P ⟨od, .slice t a none none none, oty, ops_, oaf, ogu⟩ fr H K :=
  by have hs_ := it_.hs; subst hs_; exact r_slp_no rfl it_.ht it_.hk it_.he hx hp hs hl h
theorem q_slp_lo {p q n e : Nat} {cs : List Cell} {ei : TI} {j : Nat} {x : Operand} {sz_ : Nat} [it_ : ArT P t ti n e ei sz_] (h : K (sc (.slc p (q + j * sz_) (n - j) sz_)) H) (hx : ev fr a = sc (.ptr p q) := by first | exact et rfl | exact rfl) (hp : H[p]? = some (some cs) := by exact rfl) (hs : Nat.blt 0 sz_ = true := by exact rfl) (hl : q + n * sz_ ≤ cs.length := by first | omega | with_reducible assumption | exact (mapc_length ..).trans (by with_reducible assumption) | (simp only [List.length_set, List.length_append, List.length_replicate, List.length_take, List.length_drop, List.length_map, List.length_cons, List.length_nil, mapc_length] <;> omega) | exact rfl | exact Nat.le_of_ble_eq_true rfl | assumption) (hj : ev fr x = sc (cn j) := by first | exact et rfl | exact rfl) (hb : j ≤ n := by first | omega | with_reducible assumption | exact (mapc_length ..).trans (by with_reducible assumption) | (simp only [List.length_set, List.length_append, List.length_replicate, List.length_take, List.length_drop, List.length_map, List.length_cons, List.length_nil, mapc_length] <;> omega) | exact rfl | exact Nat.le_of_ble_eq_true rfl | assumption) : ostep P ⟨od, .slice t a (some x) none none, oty, ops_, oaf, ogu⟩ fr H K :=
  by have hs_ := it_.hs; subst hs_; exact r_slp_lo rfl it_.ht it_.hk it_.he hx hp hs hl hj hb h
theorem q_slp_hi {p q n e : Nat} {cs : List Cell} {ei : TI} {k : Nat} {y : Operand} {sz_ : Nat} [it_ : ArT P t ti n e ei sz_] (h : K (sc (.slc p (q) (k) sz_)) H) (hx : ev fr a = sc (.ptr p q) := by first | exact et rfl | exact rfl) (hp : H[p]? = some (some cs) := by exact rfl) (hs : Nat.blt 0 sz_ = true := by exact rfl) (hl : q + n * sz_ ≤ cs.length := by first | omega | with_reducible assumption | exact (mapc_length ..).trans (by with_reducible assumption) | (simp only [List.length_set, List.length_append, List.length_replicate, List.length_take, List.length_drop, List.length_map, List.length_cons, List.length_nil, mapc_length] <;> omega) | exact rfl | exact Nat.le_of_ble_eq_true rfl | assumption) (hk' : ev fr y = sc (cn k) := by first | exact et rfl | exact rfl) (hb : k ≤ n := by first | omega | with_reducible assumption | exact (mapc_length ..).trans (by with_reducible assumption) | (simp only [List.length_set, List.length_append, List.length_replicate, List.length_take, List.length_drop, List.length_map, List.length_cons, List.length_nil, mapc_length] <;> omega) | exact rfl | exact Nat.le_of_ble_eq_true rfl | assumption) : ostep P ⟨od, .slice t a none (some y) none, oty, ops_, oaf, ogu⟩ fr H K :=
  by have hs_ := it_.hs; subst hs_; exact r_slp_hi rfl it_.ht it_.hk it_.he hx hp hs hl hk' hb h
end
section
variable {P : Program} {N : Nat} {al : List (Nat × S)} {H : Heap} {ops r : List Oper} {q : St → Prop} {op : Op} {oty : TypeId} {ops_ : String} {oaf : Array Edge} {d j w : Nat} {want b : Bool} {oj : Oper}
theorem G (h : ostep P ⟨some d, op, oty, ops_, oaf, none⟩ (frm N al) H fun s H' => aops P ops q r ⟨frm N ((d, s) :: al), H'⟩) : aops P ops q (⟨some d, op, oty, ops_, oaf, none⟩ :: r) ⟨frm N al, H⟩ := g1 rfl (tk rfl) h
theorem G0 (h : ostep P ⟨none, op, oty, ops_, oaf, none⟩ (frm N al) H fun _ H' => aops P ops q r ⟨frm N al, H'⟩) : aops P ops q (⟨none, op, oty, ops_, oaf, none⟩ :: r) ⟨frm N al, H⟩ := g0 rfl (tk rfl) h
theorem Gg (h : ostep P ⟨some d, op, oty, ops_, oaf, some (j, want)⟩ (frm N al) H fun s H' => aops P ops q r ⟨frm N ((d, s) :: al), H'⟩) (hj : ops[j]? = some oj := by exact rfl) (hjd : oj.dst = some w := by exact rfl) (hv : lkpB N al w = .v (.c (.bool want)) := by first | exact rfl | exact congrArg (fun b => S.v (V.c (Cell.bool b))) (by assumption) | exact congrArg (fun b => S.v (V.c (Cell.bool b))) (decide_eq_true (by assumption)) | exact congrArg (fun b => S.v (V.c (Cell.bool b))) (decide_eq_false (by assumption))) : aops P ops q (⟨some d, op, oty, ops_, oaf, some (j, want)⟩ :: r) ⟨frm N al, H⟩ := g1 rfl (tkg rfl hj hjd hv) h
theorem Gn (h : aops P ops q r ⟨frm N ((d, us) :: al), H⟩) (hj : ops[j]? = some oj := by exact rfl) (hjd : oj.dst = some w := by exact rfl) (hv : lkpB N al w = .v (.c (.bool (!want))) := by first | exact rfl | exact congrArg (fun b => S.v (V.c (Cell.bool b))) (by assumption) | exact congrArg (fun b => S.v (V.c (Cell.bool b))) (decide_eq_true (by assumption)) | exact congrArg (fun b => S.v (V.c (Cell.bool b))) (decide_eq_false (by assumption))) : aops P ops q (⟨some d, op, oty, ops_, oaf, some (j, want)⟩ :: r) ⟨frm N al, H⟩ := gS rfl (sk rfl hj hjd hv (by cases want <;> decide)) h
variable {lo hi : List Nat} {i : Nat} {rem : List Nat} {hist : List Heap} {pend : List (Nat × Heap)} {s : S}
theorem Dp (h : ∀ V', ostep P ⟨some d, op, oty, ops_, oaf, none⟩ (frm N al) V' fun s' H' => s' = s ∧ H' = V') (k : Dw P ops lo hi q r (i + 1) rem hist pend (frm N ((d, s) :: al))) (hne : (rem.head? == some i) = false := by exact rfl) :
    Dw P ops lo hi q (⟨some d, op, oty, ops_, oaf, none⟩ :: r) i rem hist pend (frm N al) := dP rfl (tk rfl) hne h k
theorem Dpg (h : ∀ V', ostep P ⟨some d, op, oty, ops_, oaf, some (j, want)⟩ (frm N al) V' fun s' H' => s' = s ∧ H' = V') (k : Dw P ops lo hi q r (i + 1) rem hist pend (frm N ((d, s) :: al))) (hne : (rem.head? == some i) = false := by exact rfl)
    (hj : ops[j]? = some oj := by exact rfl) (hjd : oj.dst = some w := by exact rfl) (hv : lkpB N al w = .v (.c (.bool want)) := by first | exact rfl | exact congrArg (fun b => S.v (V.c (Cell.bool b))) (by assumption) | exact congrArg (fun b => S.v (V.c (Cell.bool b))) (decide_eq_true (by assumption)) | exact congrArg (fun b => S.v (V.c (Cell.bool b))) (decide_eq_false (by assumption))) :
    Dw P ops lo hi q (⟨some d, op, oty, ops_, oaf, some (j, want)⟩ :: r) i rem hist pend (frm N al) := dP rfl (tkg rfl hj hjd hv) hne h k
theorem Dn (k : Dw P ops lo hi q r (i + 1) rem hist pend (frm N ((d, us) :: al))) (hne : (rem.head? == some i) = false := by exact rfl)
    (hj : ops[j]? = some oj := by exact rfl) (hjd : oj.dst = some w := by exact rfl) (hv : lkpB N al w = .v (.c (.bool (!want))) := by first | exact rfl | exact congrArg (fun b => S.v (V.c (Cell.bool b))) (by assumption) | exact congrArg (fun b => S.v (V.c (Cell.bool b))) (decide_eq_true (by assumption)) | exact congrArg (fun b => S.v (V.c (Cell.bool b))) (decide_eq_false (by assumption))) :
    Dw P ops lo hi q (⟨some d, op, oty, ops_, oaf, some (j, want)⟩ :: r) i rem hist pend (frm N al) := dN rfl (sk rfl hj hjd hv (by cases want <;> decide)) hne k
theorem Dm (k : Dw P ops lo hi q r (i + 1) rem (H :: H :: hist) pend (frm N ((d, us) :: al))) (hj : ops[j]? = some oj := by exact rfl) (hjd : oj.dst = some w := by exact rfl) (hv : lkpB N al w = .v (.c (.bool (!want))) := by first | exact rfl | exact congrArg (fun b => S.v (V.c (Cell.bool b))) (by assumption) | exact congrArg (fun b => S.v (V.c (Cell.bool b))) (decide_eq_true (by assumption)) | exact congrArg (fun b => S.v (V.c (Cell.bool b))) (decide_eq_false (by assumption)))
    (hp : pendOk pend (hist.length + 1) H := by repeat' (first | exact trivial | exact sub_one rfl | refine And.intro ?_ ?_)) :
    Dw P ops lo hi q (⟨some d, op, oty, ops_, oaf, some (j, want)⟩ :: r) i (i :: rem) (H :: hist) pend (frm N al) := dM rfl (sk rfl hj hjd hv (by cases want <;> decide)) hp k
theorem De (h : ostep P ⟨some d, op, oty, ops_, oaf, none⟩ (frm N al) H fun s H' => pendOk pend (hist.length + 1) H' ∧ Dw P ops lo hi q r (i + 1) rem (H' :: H :: hist) pend (frm N ((d, s) :: al))) : Dw P ops lo hi q (⟨some d, op, oty, ops_, oaf, none⟩ :: r) i (i :: rem) (H :: hist) pend (frm N al) := dE rfl (tk rfl) h
theorem De0 (h : ostep P ⟨none, op, oty, ops_, oaf, none⟩ (frm N al) H fun _ H' => pendOk pend (hist.length + 1) H' ∧ Dw P ops lo hi q r (i + 1) rem (H' :: H :: hist) pend (frm N al)) : Dw P ops lo hi q (⟨none, op, oty, ops_, oaf, none⟩ :: r) i (i :: rem) (H :: hist) pend (frm N al) := dE0 rfl (tk rfl) h
theorem Deg (h : ostep P ⟨some d, op, oty, ops_, oaf, some (j, want)⟩ (frm N al) H fun s H' => pendOk pend (hist.length + 1) H' ∧ Dw P ops lo hi q r (i + 1) rem (H' :: H :: hist) pend (frm N ((d, s) :: al))) (hj : ops[j]? = some oj := by exact rfl) (hjd : oj.dst = some w := by exact rfl) (hv : lkpB N al w = .v (.c (.bool want)) := by first | exact rfl | exact congrArg (fun b => S.v (V.c (Cell.bool b))) (by assumption) | exact congrArg (fun b => S.v (V.c (Cell.bool b))) (decide_eq_true (by assumption)) | exact congrArg (fun b => S.v (V.c (Cell.bool b))) (decide_eq_false (by assumption))) :
    Dw P ops lo hi q (⟨some d, op, oty, ops_, oaf, some (j, want)⟩ :: r) i (i :: rem) (H :: hist) pend (frm N al) := dE rfl (tkg rfl hj hjd hv) h
theorem frm_same {s : S} (h : lkpB N al w = s) : frm N ((w, s) :: al) = frm N al := by
  unfold frm
  apply List.map_congr_left
  intro t ht
  have hlt : t < N := List.mem_range.1 ht
  simp only [lkp]
  cases hb : Nat.beq w t with
  | true =>
    have := Nat.eq_of_beq_eq_true hb
    subst this
    rw [cond_true, ← h, lkpB, show Nat.blt w N = true by simpa [Nat.blt_eq] using hlt, cond_true]
  | false => rw [cond_false]
theorem Asp (w : Nat) (h1 : b = true → aops P ops q r ⟨frm N ((w, sc (.bool true)) :: al), H⟩) (h2 : b = false → aops P ops q r ⟨frm N ((w, sc (.bool false)) :: al), H⟩) (_hv : lkpB N al w = .v (.c (.bool b)) := by exact rfl) : aops P ops q r ⟨frm N al, H⟩ := by
  cases b
  · have := h2 rfl; rwa [frm_same _hv] at this
  · have := h1 rfl; rwa [frm_same _hv] at this
theorem Aspd (w : Nat) {p : Prop} [Decidable p] (h1 : p → aops P ops q r ⟨frm N ((w, sc (.bool true)) :: al), H⟩) (h2 : ¬ p → aops P ops q r ⟨frm N ((w, sc (.bool false)) :: al), H⟩) (_hv : lkpB N al w = .v (.c (.bool (decide p))) := by exact rfl) : aops P ops q r ⟨frm N al, H⟩ := by
  by_cases h : p
  · have := h1 h; rwa [frm_same (_hv.trans (by rw [decide_eq_true h]))] at this
  · have := h2 h; rwa [frm_same (_hv.trans (by rw [decide_eq_false h]))] at this
theorem Akn (w : Nat) (h1 : b = true → aops P ops q r ⟨frm N ((w, sc (.bool true)) :: al), H⟩) (h2 : b = true) (_hv : lkpB N al w = .v (.c (.bool b)) := by exact rfl) : aops P ops q r ⟨frm N al, H⟩ := by
  subst h2; have := h1 rfl; rwa [frm_same _hv] at this
theorem Aknd (w : Nat) {p : Prop} [Decidable p] (h1 : p → aops P ops q r ⟨frm N ((w, sc (.bool true)) :: al), H⟩) (h2 : p) (_hv : lkpB N al w = .v (.c (.bool (decide p))) := by exact rfl) : aops P ops q r ⟨frm N al, H⟩ := by
  have := h1 h2; rwa [frm_same (_hv.trans (by rw [decide_eq_true h2]))] at this
theorem Akfd (w : Nat) {p : Prop} [Decidable p] (h1 : ¬ p → aops P ops q r ⟨frm N ((w, sc (.bool false)) :: al), H⟩) (h2 : ¬ p) (_hv : lkpB N al w = .v (.c (.bool (decide p))) := by exact rfl) : aops P ops q r ⟨frm N al, H⟩ := by
  have := h1 h2; rwa [frm_same (_hv.trans (by rw [decide_eq_false h2]))] at this
theorem Dspd (w : Nat) {p : Prop} [Decidable p] (h1 : p → Dw P ops lo hi q r i rem hist pend (frm N ((w, sc (.bool true)) :: al))) (h2 : ¬ p → Dw P ops lo hi q r i rem hist pend (frm N ((w, sc (.bool false)) :: al))) (_hv : lkpB N al w = .v (.c (.bool (decide p))) := by exact rfl) : Dw P ops lo hi q r i rem hist pend (frm N al) := by
  by_cases h : p
  · have := h1 h; rwa [frm_same (_hv.trans (by rw [decide_eq_true h]))] at this
  · have := h2 h; rwa [frm_same (_hv.trans (by rw [decide_eq_false h]))] at this
theorem Dknd (w : Nat) {p : Prop} [Decidable p] (h1 : p → Dw P ops lo hi q r i rem hist pend (frm N ((w, sc (.bool true)) :: al))) (h2 : p) (_hv : lkpB N al w = .v (.c (.bool (decide p))) := by exact rfl) : Dw P ops lo hi q r i rem hist pend (frm N al) := by
  have := h1 h2; rwa [frm_same (_hv.trans (by rw [decide_eq_true h2]))] at this
theorem Dkfd (w : Nat) {p : Prop} [Decidable p] (h1 : ¬ p → Dw P ops lo hi q r i rem hist pend (frm N ((w, sc (.bool false)) :: al))) (h2 : ¬ p) (_hv : lkpB N al w = .v (.c (.bool (decide p))) := by exact rfl) : Dw P ops lo hi q r i rem hist pend (frm N al) := by
  have := h1 h2; rwa [frm_same (_hv.trans (by rw [decide_eq_false h2]))] at this
theorem Mv {c : Cell} {x : Operand} (h : aops P ops q r ⟨frm N ((d, sc c) :: al), H⟩) (hx : ev (frm N al) x = sc c := by first | exact et rfl | exact rfl) : aops P ops q (⟨some d, .move x, oty, ops_, oaf, none⟩ :: r) ⟨frm N al, H⟩ := G (q_mv h hx)
theorem As {c : Cell} {x : Operand} (h : aops P ops q r ⟨frm N ((d, sc c) :: al), H⟩) (hx : ev (frm N al) x = sc c := by first | exact et rfl | exact rfl) : aops P ops q (⟨some d, .assign x, oty, ops_, oaf, none⟩ :: r) ⟨frm N al, H⟩ := G (q_as h hx)
theorem pw {B : Prop} {m : Nat} (k : B) (hp : pendOk pend m H := by repeat' (first | exact trivial | exact sub_one rfl | refine And.intro ?_ ?_)) : pendOk pend m H ∧ B := ⟨hp, k⟩
variable {t : TypeId} {ti : TI} {x : Operand} {p o1 : Nat} {cs : List Cell} {c : Cell}
theorem DLp [it : TiOf P t ti] (k : Dw P ops lo hi q r (i + 1) rem (H :: hist) ((hi.getD i 0, one p cs) :: pend) (frm N ((d, sc c) :: al))) (hx : ev (frm N al) x = sc (.ptr p o1) := by first | exact et rfl | exact rfl) (_hp : H[p]? = some (some cs) := by exact rfl) (hc : cs[o1]? = some c := by first | (refine u8_at ?_; (first | omega | with_reducible assumption | exact (mapc_length ..).trans (by with_reducible assumption) | (simp only [List.length_set, List.length_append, List.length_replicate, List.length_take, List.length_drop, List.length_map, List.length_cons, List.length_nil, mapc_length] <;> omega) | exact rfl | exact Nat.le_of_ble_eq_true rfl | assumption)) | (refine u32_at ?_; (first | omega | with_reducible assumption | exact (mapc_length ..).trans (by with_reducible assumption) | (simp only [List.length_set, List.length_append, List.length_replicate, List.length_take, List.length_drop, List.length_map, List.length_cons, List.length_nil, mapc_length] <;> omega) | exact rfl | exact Nat.le_of_ble_eq_true rfl | assumption)) | (refine u64_at ?_; (first | omega | with_reducible assumption | exact (mapc_length ..).trans (by with_reducible assumption) | (simp only [List.length_set, List.length_append, List.length_replicate, List.length_take, List.length_drop, List.length_map, List.length_cons, List.length_nil, mapc_length] <;> omega) | exact rfl | exact Nat.le_of_ble_eq_true rfl | assumption)) | (refine i64_at ?_; (first | omega | with_reducible assumption | exact (mapc_length ..).trans (by with_reducible assumption) | (simp only [List.length_set, List.length_append, List.length_replicate, List.length_take, List.length_drop, List.length_map, List.length_cons, List.length_nil, mapc_length] <;> omega) | exact rfl | exact Nat.le_of_ble_eq_true rfl | assumption)) | exact rfl) (hk : ldOk ti.kind c = true := by exact rfl) (hne : (rem.head? == some i) = false := by exact rfl)
    (hs : seen (one p cs) ((H :: hist).take ((hist.length + 1) - lo.getD i 0)) := by repeat' (first | exact trivial | exact sub_one rfl | refine And.intro ?_ ?_)) : Dw P ops lo hi q (⟨some d, .load t x, oty, ops_, oaf, none⟩ :: r) i rem (H :: hist) pend (frm N al) :=
  dR p rfl (tk rfl) hne hs (fun _ hv => r_ldp rfl it.h hx hv hc hk ⟨rfl, rfl⟩) k
theorem DLw [it : TiOf P t ti] (k : Dw P ops lo hi q r (i + 1) rem (H :: hist) ((hi.getD i 0, one p cs) :: pend) (frm N ((d, sa cs) :: al))) (hx : ev (frm N al) x = sc (.ptr p 0) := by first | exact et rfl | exact rfl) (_hp : H[p]? = some (some cs) := by exact rfl) (hk : ti.kind.agg = true := by exact rfl) (hz : Nat.blt 0 ti.size = true := by exact rfl) (hl : cs.length = ti.size := by first | omega | with_reducible assumption | exact (mapc_length ..).trans (by with_reducible assumption) | (simp only [List.length_set, List.length_append, List.length_replicate, List.length_take, List.length_drop, List.length_map, List.length_cons, List.length_nil, mapc_length] <;> omega) | exact rfl | exact Nat.le_of_ble_eq_true rfl | assumption) (hne : (rem.head? == some i) = false := by exact rfl)
    (hs : seen (one p cs) ((H :: hist).take ((hist.length + 1) - lo.getD i 0)) := by repeat' (first | exact trivial | exact sub_one rfl | refine And.intro ?_ ?_)) : Dw P ops lo hi q (⟨some d, .load t x, oty, ops_, oaf, none⟩ :: r) i rem (H :: hist) pend (frm N al) :=
  dR p rfl (tk rfl) hne hs (fun _ hv => r_ldw rfl it.h hk hz hx hv hl ⟨rfl, rfl⟩) k
variable {s1 d1 e n n1 : Nat} {si di ei : TI} {l : List UInt8}
end
end Go.Abs

/- The abstract machine: code, piece by piece. -/
namespace Go.Abs
open Go
section
variable {P : Program} {n N id : Nat} {Q : Exit → St → Prop} {st : St} {ops : Array Oper} {x y : Code} {al : List (Nat × S)} {H : Heap}
theorem rl (h : aops P ops.toList (Q .normal) ops.toList st) (hn : Nat.ble n st.H.length = true := by exact rfl) : AWp P n (.region id ops false) Q st :=
  awp_region (Nat.le_of_ble_eq_true hn) h
theorem rdl (es lo hi : List Nat) (h : Dw P ops.toList lo hi (Q .normal) ops.toList 0 es [H] [] (frm N al)) (hn : Nat.ble n H.length = true := by exact rfl) (hm : P.follows .mixedOrders = true := by exact rfl) (hB : drawE ops.toList es lo hi = true := by decide +kernel) : AWp P n (.region id ops true) Q ⟨frm N al, H⟩ :=
  awp_drawE es lo hi hm hB (Nat.le_of_ble_eq_true hn) h
theorem cnd {c : Operand} {p : Prop} [Decidable p] (h1 : p → AWp P n x Q st) (h2 : ¬ p → AWp P n y Q st) (hc : ev st.fr c = .v (.c (.bool (decide p))) := by first | exact et rfl | exact rfl) : AWp P n (.cond c x y) Q st := awp_c hc h1 h2
theorem cndb {c : Operand} {b : Bool} (h1 : b = true → AWp P n x Q st) (h2 : b = false → AWp P n y Q st) (hc : ev st.fr c = .v (.c (.bool b)) := by first | exact et rfl | exact rfl) : AWp P n (.cond c x y) Q st := awp_cb hc h1 h2
theorem cndn {c : Operand} {p : Prop} [Decidable p] (h1 : ¬ p → AWp P n x Q st) (h2 : p → AWp P n y Q st) (hc : ev st.fr c = .v (.c (.bool (!decide p))) := by first | exact et rfl | exact rfl) : AWp P n (.cond c x y) Q st :=
  awp_cb hc (fun h => h1 (by simpa using h)) (fun h => h2 (by simpa using h))
theorem cndbn {c : Operand} {b : Bool} (h1 : b = false → AWp P n x Q st) (h2 : b = true → AWp P n y Q st) (hc : ev st.fr c = .v (.c (.bool (!b))) := by first | exact et rfl | exact rfl) : AWp P n (.cond c x y) Q st :=
  awp_cb hc (fun h => h1 (by simpa using h)) (fun h => h2 (by simpa using h))
theorem cndT {c : Operand} (h1 : AWp P n x Q st) (hc : ev st.fr c = .v (.c (.bool true)) := by first | exact et rfl | exact et (congrArg (fun b => S.v (V.c (Cell.bool b))) (by assumption)) | exact et (congrArg (fun b => S.v (V.c (Cell.bool b))) (decide_eq_true (by assumption))) | exact rfl) : AWp P n (.cond c x y) Q st := awp_ct hc h1
theorem cndF {c : Operand} (h1 : AWp P n y Q st) (hc : ev st.fr c = .v (.c (.bool false)) := by first | exact et rfl | exact et (congrArg (fun b => S.v (V.c (Cell.bool b))) (by assumption)) | exact et (congrArg (fun b => S.v (V.c (Cell.bool b))) (decide_eq_false (by assumption))) | exact rfl) : AWp P n (.cond c x y) Q st := awp_cf hc h1
theorem cndY {c : Operand} {p : Prop} [Decidable p] (h1 : p → AWp P n x Q st) (h2 : p) (hc : ev st.fr c = .v (.c (.bool (decide p))) := by first | exact et rfl | exact rfl) : AWp P n (.cond c x y) Q st := awp_c hc h1 (fun h => absurd h2 h)
theorem cndN {c : Operand} {p : Prop} [Decidable p] (h1 : ¬ p → AWp P n y Q st) (h2 : ¬ p) (hc : ev st.fr c = .v (.c (.bool (decide p))) := by first | exact et rfl | exact rfl) : AWp P n (.cond c x y) Q st := awp_c hc (fun h => absurd h h2) h1
theorem cndnN {c : Operand} {p : Prop} [Decidable p] (h1 : p → AWp P n y Q st) (h2 : p) (hc : ev st.fr c = .v (.c (.bool (!decide p))) := by first | exact et rfl | exact rfl) : AWp P n (.cond c x y) Q st := cndn (fun h => absurd h2 h) h1 hc
theorem cndbY {c : Operand} {b : Bool} (h1 : b = true → AWp P n x Q st) (h2 : b = true) (hc : ev st.fr c = .v (.c (.bool b)) := by first | exact et rfl | exact rfl) : AWp P n (.cond c x y) Q st := awp_cb hc h1 (fun h => by rw [h2] at h; cases h)
theorem cndbN {c : Operand} {b : Bool} (h1 : b = false → AWp P n y Q st) (h2 : b = false) (hc : ev st.fr c = .v (.c (.bool b)) := by first | exact et rfl | exact rfl) : AWp P n (.cond c x y) Q st := awp_cb hc (fun h => by rw [h2] at h; cases h) h1
theorem cndbnN {c : Operand} {b : Bool} (h1 : b = true → AWp P n y Q st) (h2 : b = true) (hc : ev st.fr c = .v (.c (.bool (!b))) := by first | exact et rfl | exact rfl) : AWp P n (.cond c x y) Q st := cndbn (fun h => by rw [h2] at h; cases h) h1 hc
theorem cndbnY {c : Operand} {b : Bool} (h1 : b = false → AWp P n x Q st) (h2 : b = false) (hc : ev st.fr c = .v (.c (.bool (!b))) := by first | exact et rfl | exact rfl) : AWp P n (.cond c x y) Q st := cndbn h1 (fun h => by rw [h2] at h; cases h) hc
theorem retell {al : List (Nat × S)} (al' : List (Nat × S)) (h : AWp P n x Q ⟨frm N al', H⟩) (he : SubL al al') : AWp P n x Q ⟨frm N al, H⟩ := awp_le (sle_sub he rfl) h
theorem reheap {al : List (Nat × S)} (al' : List (Nat × S)) (H' : Heap) (h : AWp P n x Q ⟨frm N al', H'⟩) (he : SubL al al') (hH : H = H') : AWp P n x Q ⟨frm N al, H⟩ := awp_le (sle_sub he hH) h
end
/-! A body's end. -/
section
variable {P : Program} {st : St} {f : Cell → Cell} {l : List ResultVar} {ys : List V}
def RV (P : Program) (st : St) (f : Cell → Cell) (l : List ResultVar) (ys : List V) : Prop := ∃ xs, (∀ K : List V → Prop, K xs → resK P st l K) ∧ xs.map (vm f) = ys
theorem rv0 : RV P st f [] [] := ⟨[], fun _ h => rk0 h, rfl⟩
theorem rvt {t : Nat} {x y : V} (hx : ev st.fr (.tmp t) = .v x) (hm : vm f x = y) (h : RV P st f l ys) : RV P st f (.tmp t :: l) (y :: ys) := by
  obtain ⟨xs, h1, h2⟩ := h
  exact ⟨x :: xs, fun K hK => rkt hx (h1 _ hK), by simp [hm, h2]⟩
theorem rva {t a p : Nat} {ti : TI} {cs : List Cell} {y : V} [it : TiOf P t ti] (hx : ev st.fr (.tmp a) = sc (.ptr p 0)) (hp : st.H[p]? = some (some cs)) (hl : cs.length = ti.size) (hm : vm f (.a cs) = y) (h : RV P st f l ys) (hk : ti.kind.agg = true := by exact rfl) (hz : Nat.blt 0 ti.size = true := by exact rfl) : RV P st f (.cell a t :: l) (y :: ys) := by
  obtain ⟨xs, h1, h2⟩ := h
  exact ⟨.a cs :: xs, fun K hK => rka it.h hk hz hx hp hl (h1 _ hK), by simp [hm, h2]⟩
theorem sm_packR (f : Cell → Cell) : ∀ xs : List V, sm f (packR xs) = packR (xs.map (vm f))
  | [] => rfl
  | [_] => rfl
  | _ :: _ :: _ => rfl
variable {fn : Func} {v : S} {H' : Heap}
theorem fin_g {n : Nat} (π : List Nat) (hn : ∀ p, p < n → π[p]? = some p) (hnd : π.Nodup) (hv : v = packR ys) (hl : fn.results.toList = l) (hr : RV P st (cm ⟨fun p => idx p π, fun _ => none, true, false⟩ 8) l ys)
    (hH : H' = π.map (pick st.H (cm ⟨fun p => idx p π, fun _ => none, true, false⟩ 8))) : fin P fn n v H' st := by
  obtain ⟨xs, h1, h2⟩ := hr
  exact fin_of π hn hnd hl h1 (by rw [hv, sm_packR, h2]) hH
theorem pi0 : ∀ p : Nat, p < 1 → [0][p]? = some p := by
  intro p hp
  have h : p = 0 := by omega
  rw [h]; rfl
theorem fp1 {t0 : Nat} {x0 y0 : V} (hl : fn.results.toList = [.tmp t0] := by exact rfl) (hx0 : ev st.fr (.tmp t0) = .v x0 := by first | exact et rfl | exact rfl) (hm0 : vm (cm ⟨fun p => idx p [], fun _ => none, true, false⟩ 8) x0 = y0 := by first | exact vs_int | exact vs_bool | exact vs_m | exact vs_str | exact vs_nilp | exact rfl) (hv : v = .v y0 := by exact rfl) : fin P fn 0 v [] st :=
  fin_g (ys := [y0]) [] (by simp) List.nodup_nil hv hl (rvt hx0 hm0 rv0) rfl
theorem fp2 {t0 t1 : Nat} {x0 y0 x1 y1 : V} (hl : fn.results.toList = [.tmp t0, .tmp t1] := by exact rfl) (hx0 : ev st.fr (.tmp t0) = .v x0 := by first | exact et rfl | exact rfl) (hm0 : vm (cm ⟨fun p => idx p [], fun _ => none, true, false⟩ 8) x0 = y0 := by first | exact vs_int | exact vs_bool | exact vs_m | exact vs_str | exact vs_nilp | exact rfl) (hx1 : ev st.fr (.tmp t1) = .v x1 := by first | exact et rfl | exact rfl) (hm1 : vm (cm ⟨fun p => idx p [], fun _ => none, true, false⟩ 8) x1 = y1 := by first | exact vs_int | exact vs_bool | exact vs_m | exact vs_str | exact vs_nilp | exact rfl) (hv : v = .t [y0, y1] := by exact rfl) : fin P fn 0 v [] st :=
  fin_g (ys := [y0, y1]) [] (by simp) List.nodup_nil hv hl (rvt hx0 hm0 (rvt hx1 hm1 rv0)) rfl
theorem fpc {a t p : Nat} {ti : TI} {ds : List Cell} {y : V} [it : TiOf P t ti] (hl : fn.results.toList = [.cell a t] := by exact rfl) (hx : ev st.fr (.tmp a) = sc (.ptr p 0) := by first | exact et rfl | exact rfl) (hp : st.H[p]? = some (some ds) := by exact rfl) (hn : ds.length = ti.size := by first | exact rfl | (simp; done) | omega) (hk : ti.kind.agg = true := by exact rfl) (hz : Nat.blt 0 ti.size = true := by exact rfl) (hm : vm (cm ⟨fun p => idx p [], fun _ => none, true, false⟩ 8) (.a ds) = y := by first | exact vs_int | exact vs_bool | exact vs_m | exact vs_str | exact vs_nilp | exact rfl) (hv : v = .v y := by exact rfl) : fin P fn 0 v [] st :=
  fin_g (ys := [y]) [] (by simp) List.nodup_nil hv hl (rva hx hp hn hm rv0 hk hz) rfl
theorem fn1 {t0 : Nat} {x0 y0 : V} {cs cs' cs'' : List Cell} (q : Nat) (hl : fn.results.toList = [.tmp t0] := by exact rfl) (hx0 : ev st.fr (.tmp t0) = .v x0 := by first | exact et rfl | exact rfl) (hm0 : vm (cm ⟨fun p => idx p [q], fun _ => none, true, false⟩ 8) x0 = y0 := by first | exact vs_int | exact vs_bool | exact vs_m | exact vs_str | exact vs_nilp | exact rfl) (hq : st.H[q]? = some (some cs) := by exact rfl) (hc : cs.map (cm ⟨fun p => idx p [q], fun _ => none, true, false⟩ 8) = cs'' := by first | exact mapc_cm _ _ _ | (simp only [List.map_cons, List.map_nil, List.set_cons_zero, List.set_cons_succ, cm_int, cm_bool, cm_str, cm_nilp, cm_nils, cm_nilf, vOf]; done) | (simp only [List.map_cons, List.map_nil, List.set_cons_zero, List.set_cons_succ, cm_int, cm_bool, cm_str, cm_nilp, cm_nils, cm_nilf, vOf]; exact rfl) | exact rfl) (hH : cs'' = cs' := by exact rfl) (hv : v = .v y0 := by exact rfl) : fin P fn 0 v [some cs'] st :=
  fin_g (ys := [y0]) [q] (by simp) (by simp) hv hl (rvt hx0 hm0 rv0) (by simp [pick, hq, hc, hH])
theorem fn2 {t0 t1 : Nat} {x0 y0 x1 y1 : V} {cs cs' cs'' : List Cell} (q : Nat) (hl : fn.results.toList = [.tmp t0, .tmp t1] := by exact rfl) (hx0 : ev st.fr (.tmp t0) = .v x0 := by first | exact et rfl | exact rfl) (hm0 : vm (cm ⟨fun p => idx p [q], fun _ => none, true, false⟩ 8) x0 = y0 := by first | exact vs_int | exact vs_bool | exact vs_m | exact vs_str | exact vs_nilp | exact rfl) (hx1 : ev st.fr (.tmp t1) = .v x1 := by first | exact et rfl | exact rfl) (hm1 : vm (cm ⟨fun p => idx p [q], fun _ => none, true, false⟩ 8) x1 = y1 := by first | exact vs_int | exact vs_bool | exact vs_m | exact vs_str | exact vs_nilp | exact rfl) (hq : st.H[q]? = some (some cs) := by exact rfl) (hc : cs.map (cm ⟨fun p => idx p [q], fun _ => none, true, false⟩ 8) = cs'' := by first | exact mapc_cm _ _ _ | (simp only [List.map_cons, List.map_nil, List.set_cons_zero, List.set_cons_succ, cm_int, cm_bool, cm_str, cm_nilp, cm_nils, cm_nilf, vOf]; done) | (simp only [List.map_cons, List.map_nil, List.set_cons_zero, List.set_cons_succ, cm_int, cm_bool, cm_str, cm_nilp, cm_nils, cm_nilf, vOf]; exact rfl) | exact rfl) (hH : cs'' = cs' := by exact rfl) (hv : v = .t [y0, y1] := by exact rfl) : fin P fn 0 v [some cs'] st :=
  fin_g (ys := [y0, y1]) [q] (by simp) (by simp) hv hl (rvt hx0 hm0 (rvt hx1 hm1 rv0)) (by simp [pick, hq, hc, hH])
theorem fw0 {cs cs' cs'' : List Cell} (hl : fn.results.toList = [] := by exact rfl) (hq : st.H[0]? = some (some cs) := by exact rfl) (hc : cs.map (cm ⟨fun p => idx p [0], fun _ => none, true, false⟩ 8) = cs'' := by first | exact mapc_cm _ _ _ | (simp only [List.map_cons, List.map_nil, List.set_cons_zero, List.set_cons_succ, cm_int, cm_bool, cm_str, cm_nilp, cm_nils, cm_nilf, vOf]; done) | (simp only [List.map_cons, List.map_nil, List.set_cons_zero, List.set_cons_succ, cm_int, cm_bool, cm_str, cm_nilp, cm_nils, cm_nilf, vOf]; exact rfl) | exact rfl) (hH : cs'' = cs' := by exact rfl) (hv : v = .t [] := by exact rfl) : fin P fn 1 v [some cs'] st :=
  fin_g (n := 1) (ys := []) [0] pi0 (by simp) hv hl rv0 (by simp [pick, hq, hc, hH])
theorem fw1 {t0 : Nat} {x0 y0 : V} {cs cs' cs'' : List Cell} (hl : fn.results.toList = [.tmp t0] := by exact rfl) (hx0 : ev st.fr (.tmp t0) = .v x0 := by first | exact et rfl | exact rfl) (hm0 : vm (cm ⟨fun p => idx p [0], fun _ => none, true, false⟩ 8) x0 = y0 := by first | exact vs_int | exact vs_bool | exact vs_m | exact vs_str | exact vs_nilp | exact rfl) (hq : st.H[0]? = some (some cs) := by exact rfl) (hc : cs.map (cm ⟨fun p => idx p [0], fun _ => none, true, false⟩ 8) = cs'' := by first | exact mapc_cm _ _ _ | (simp only [List.map_cons, List.map_nil, List.set_cons_zero, List.set_cons_succ, cm_int, cm_bool, cm_str, cm_nilp, cm_nils, cm_nilf, vOf]; done) | (simp only [List.map_cons, List.map_nil, List.set_cons_zero, List.set_cons_succ, cm_int, cm_bool, cm_str, cm_nilp, cm_nils, cm_nilf, vOf]; exact rfl) | exact rfl) (hH : cs'' = cs' := by exact rfl) (hv : v = .v y0 := by exact rfl) : fin P fn 1 v [some cs'] st :=
  fin_g (n := 1) (ys := [y0]) [0] pi0 (by simp) hv hl (rvt hx0 hm0 rv0) (by simp [pick, hq, hc, hH])
end
end Go.Abs

/- The abstract machine: an empty slice as a block of its own; memory looked at anew. -/
namespace Go.Abs
open Go
theorem awp_mid {P : Program} {n : Nat} {x y : Code} {Q : Exit → St → Prop} {st : St} (st0 : St) (h1 : AWp P n x (then_ (fun s => SLe n s st0) Q) st) (h2 : AWp P n y Q st0) : AWp P n (.seq x y) Q st := by
  refine awp_seq fun E ρ a w hE hs => wp_mono (h1 E ρ a w hE hs) ?_
  rintro e a' w' ⟨st', ρ', k1, k2, k3⟩
  refine ⟨st', ρ', ?_, k2, k3⟩
  cases e with
  | normal => exact awp_le k1 h2
  | _ => exact k1
def SubE (q sz : Nat) (al : List (Nat × S)) : List (Nat × S) → Prop
  | [] => True
  | (t, s) :: r => (lkp al t = s ∨ (lkp al t = sc .nils ∧ s = sc (.slc q 0 0 sz))) ∧ SubE q sz al r
theorem sube_get {q sz : Nat} {al : List (Nat × S)} : ∀ {al' : List (Nat × S)}, SubE q sz al al' → ∀ t, lkp al' t = ud ∨ lkp al' t = lkp al t ∨ (lkp al t = sc .nils ∧ lkp al' t = sc (.slc q 0 0 sz))
  | [], _, _ => .inl rfl
  | (i, s) :: r, h, t => by
    simp only [SubE] at h
    simp only [lkp]
    cases hb : Nat.beq i t with
    | true =>
      have := Nat.eq_of_beq_eq_true hb
      subst this
      rw [cond_true]
      rcases h.1 with h | ⟨h, h'⟩
      · exact .inr (.inl h.symm)
      · exact .inr (.inr ⟨h, h'⟩)
    | false => rw [cond_false]; exact sube_get h.2 t
theorem sle_empty {n N : Nat} {al al' : List (Nat × S)} {H : Heap} (sz : Nat) (hn : n ≤ H.length) (hf : SubE H.length sz al al') : SLe n ⟨frm N al, H⟩ ⟨frm N al', H ++ [some []]⟩ := by
  intro E ρ a w hs
  let ρ' : Nat → Place := fun p => if p = H.length then ⟨0, 0, 0⟩ else ρ p
  have hρ : ∀ p, p < H.length → ρ' p = ρ p := fun p hp => if_neg (by omega)
  have hle : (E.rl H.length ρ).Le (E.rl (H ++ [some []]).length ρ') := ⟨fun b hb => ⟨hb, rfl⟩, fun p hp => ⟨by
    show p < (H ++ [some []]).length
    have hp' : p < H.length := hp
    simp; omega, hρ p hp⟩⟩
  have hget : ∀ p cs, (H ++ [some ([] : List Cell)])[p]? = some (some cs) → (ρ' p).room ≠ 0 → p < H.length ∧ H[p]? = some (some cs) := by
    intro p cs hp hr
    by_cases hlt : p < H.length
    · rw [List.getElem?_append_left hlt] at hp; exact ⟨hlt, hp⟩
    · have := (List.getElem?_eq_some_iff.1 hp).1
      simp at this
      have : p = H.length := by omega
      subst this
      simp [ρ'] at hr
  refine ⟨ρ', fun p hp => hρ p (by omega), ⟨hs.fr.1, by rw [frm_length]; have := hs.fr.2.1; rwa [frm_length] at this, fun t s ht => ?_⟩, ?_⟩
  · have hlt : t < N := by
      have := (List.getElem?_eq_some_iff.1 ht).1
      rwa [frm_length] at this
    rw [frm_get hlt] at ht
    obtain rfl := Option.some.inj ht
    obtain ⟨v, k1, k2⟩ := hs.fr.2.2 t _ (frm_get hlt)
    refine ⟨v, k1, ?_⟩
    rcases sube_get hf t with h | h | ⟨h, h'⟩
    · rw [h]; simp [ud, SRel, VRel, CRel]
    · rw [h]; exact SRel.mono hle _ _ k2
    · rw [h']
      rw [h] at k2
      simp only [SRel, VRel, CRel] at k2 ⊢
      subst k2
      exact ⟨by show H.length < (H ++ [some []]).length; simp, none, 0, rfl, Nat.le_refl _, .inr rfl⟩
  · have hh := hs.heap
    refine ⟨hh.os, hh.tape, hh.output, hh.size, hh.frame, fun p cs hp hr => ?_, fun p q cs ds hp hq hrp hrq he => ?_, fun p cs hp hr => ?_, fun p cs hp hr => ?_⟩
    · obtain ⟨h1, h2⟩ := hget p cs hp hr
      rw [hρ p h1] at hr ⊢
      exact hh.fresh p cs h2 hr
    · obtain ⟨h1, h2⟩ := hget p cs hp hrp
      obtain ⟨h3, h4⟩ := hget q ds hq hrq
      rw [hρ p h1] at hrp he
      rw [hρ q h3] at hrq he
      exact hh.inj p q cs ds h2 h4 hrp hrq he
    · obtain ⟨h1, h2⟩ := hget p cs hp hr
      rw [hρ p h1] at hr ⊢
      exact (hh.blk p cs h2 hr).mono hle rfl
    · by_cases hlt : p < H.length
      · rw [List.getElem?_append_left hlt] at hp
        rw [hρ p hlt] at hr
        exact hh.emp p cs hp hr
      · have := (List.getElem?_eq_some_iff.1 hp).1
        simp at this
        have : p = H.length := by omega
        subst this
        simpa using hp
theorem pick_c {H : Heap} {m : CM} {p : Nat} {cs : List Cell} (h : H[p]? = some (some cs)) (hc : cs.map (cm m 8) = cs) : pick H (cm m 8) p = some cs := by
  unfold pick; rw [h]; simp only [hc]
theorem pick_m {α : Type} {k : IntKind} {g : α → Int} {l : List α} {H : Heap} {m : CM} {p : Nat} (h : H[p]? = some (some (mapc k g l))) : pick H (cm m 8) p = some (mapc k g l) := pick_c h (mapc_cm m 8 l)
theorem rep_u8 (n : Nat) : rep n [c8 0] = u8s (List.replicate n 0) := by
  rw [rep_eq]
  induction n with
  | zero => rfl
  | succ n ih => rw [List.replicate_succ, List.flatten_cons, ih]; rfl
theorem vh1 {H : Heap} {f : Cell → Cell} {a : Nat} {x : Option (List Cell)} (h : pick H f a = x) : [x] = [a].map (pick H f) := by simp [h]
theorem vh3 {H : Heap} {f : Cell → Cell} {a b c : Nat} {x y z : Option (List Cell)} (h : pick H f a = x) (h1 : pick H f b = y) (h2 : pick H f c = z) : [x, y, z] = [a, b, c].map (pick H f) := by simp [h, h1, h2]
theorem vh5 {H : Heap} {f : Cell → Cell} {a b c d e : Nat} {x y z w v : Option (List Cell)} (h : pick H f a = x) (h1 : pick H f b = y) (h2 : pick H f c = z) (h3 : pick H f d = w) (h4 : pick H f e = v) : [x, y, z, w, v] = [a, b, c, d, e].map (pick H f) := by simp [h, h1, h2, h3, h4]
theorem vh4 {H : Heap} {f : Cell → Cell} {a b c d : Nat} {x y z w : Option (List Cell)} (h : pick H f a = x) (h1 : pick H f b = y) (h2 : pick H f c = z) (h3 : pick H f d = w) : [x, y, z, w] = [a, b, c, d].map (pick H f) := by simp [h, h1, h2, h3]
theorem r_callcw {P : Program} {fr : List S} {H : Heap} {K : S → Heap → Prop} {o : Oper} {F : Operand} {k : Nat} {caps : List Cell} {caps' : List V} {args : Array Operand} {ats : Array TypeId} {v s : S} {cs cs' ds ds' : List Cell} {args' : List V} (p : Nat) (ho : o.op = .call ⟨.value F, args, ats⟩)
    (hf : ev fr F = sc (.fn k caps)) (ha : CA fr H [p] true args.toList args') (hcap : caps.map (fun c => V.c (cm (cin [p] true H) 8 c)) = caps') (hp : H[p]? = some (some cs)) (hcs : cs.map (cm (cin [p] true H) 8) = cs')
    (hg : Good P k (args' ++ caps') [some cs'] v [some ds]) (hds : ds.map (cm (cout [p] true H.length) 8) = ds') (e3 : sm (cm (cout [p] true H.length) 8) v = s) (h : K s (H.set p (some ds'))) : ostep P o fr H K := by
  obtain ⟨avs, h1, h2⟩ := ha
  have hlt : p < H.length := (List.getElem?_eq_some_iff.1 hp).1
  refine r_call [p] true ho hf h1 (by simp) (by simpa using hlt) (by rw [List.map_append, h2, ← hcap, List.map_map]; rfl) (by simp [pick, hp, hcs]) hg e3 ?_ h
  apply List.ext_getElem?
  intro j
  rw [back, List.drop_of_length_le (by simp)]
  simp only [picks, List.append_nil]
  rw [putB_get, List.getElem?_set, Nat.zero_add]
  by_cases hj : p = j
  · subst hj
    simp [hlt, pbk, idx, pick, hds]
  · simp [hj, pbk, idx]
theorem q_callcw {P : Program} {fr : List S} {H : Heap} {K : S → Heap → Prop} {od : Option Nat} {oty : TypeId} {ops_ : String} {oaf : Array Edge} {ogu : Option (Nat × Bool)} {F : Operand} {k : Nat} {caps : List Cell} {args : Array Operand} {ats : Array TypeId} {v s : S} {cs cs' ds ds' : List Cell} {all : List V} (p : Nat)
    (hg : Good P k all [some cs'] v [some ds]) (h : K s (H.set p (some ds'))) (hf : ev fr F = sc (.fn k caps) := by first | exact et rfl | exact rfl) (ha : CA fr H [p] true args.toList (all.take args.size) := by repeat' (first | exact ca0 | refine cac (by first | exact et rfl | exact rfl) (by first | exact cm_int | exact cm_bool | exact cm_str | exact sees_ro | (apply sees_slc; exact rfl; (first | exact rfl | assumption); (first | exact cut_h (by with_reducible assumption) | exact rfl | exact cut_m | exact cut_w)) | (apply sees_parts; exact rfl; (first | exact rfl | assumption); (repeat' (first | exact pq0 | (apply pq_ro; (first | with_reducible assumption | (simp only [List.length_take, List.length_drop, List.length_append] <;> omega) | exact rfl)) | refine pq_nil ?_ | (apply pq_slc; exact rfl; (first | exact rfl | assumption); (first | exact cut_h (by with_reducible assumption) | exact rfl | exact cut_m | exact cut_w); (first | with_reducible assumption | (simp only [List.length_take, List.length_drop, List.length_append] <;> omega) | exact rfl))))) | exact sees_nil8 | exact sees_nil | exact sees_ptr rfl (by first | exact rfl | assumption) rfl rfl | exact rfl) ?_ | refine caa (by first | exact et rfl | exact rfl) (by first | exact sees_m | exact rfl) ?_)) (hcap : caps.map (fun c => V.c (cm (cin [p] true H) 8 c)) = all.drop args.size := by exact rfl) (hp : H[p]? = some (some cs) := by exact rfl) (hcs : cs.map (cm (cin [p] true H) 8) = cs' := by first | exact sees_m | exact rfl) (hds : ds.map (cm (cout [p] true H.length) 8) = ds' := by first | exact sees_m | exact rfl) (e3 : sm (cm (cout [p] true H.length) 8) v = s := by first | exact rs_int | exact rs_bool | exact rs_m | exact rs_new | exact rs_nils | exact rs_str | exact rs_newp | exact rs_nilp | exact vt0 | exact vt2 (by first | exact vs_int | exact vs_bool | exact vs_m | exact vs_new | exact vs_nils | exact vs_str | exact vs_newp | exact vs_nilp | exact rfl) (by first | exact vs_int | exact vs_bool | exact vs_m | exact vs_new | exact vs_nils | exact vs_str | exact vs_newp | exact vs_nilp | exact rfl) | exact vt3 (by first | exact vs_int | exact vs_bool | exact vs_m | exact vs_new | exact vs_nils | exact vs_str | exact vs_newp | exact vs_nilp | exact rfl) (by first | exact vs_int | exact vs_bool | exact vs_m | exact vs_new | exact vs_nils | exact vs_str | exact vs_newp | exact vs_nilp | exact rfl) (by first | exact vs_int | exact vs_bool | exact vs_m | exact vs_new | exact vs_nils | exact vs_str | exact vs_newp | exact vs_nilp | exact rfl) | exact vt4 (by first | exact vs_int | exact vs_bool | exact vs_m | exact vs_new | exact vs_nils | exact vs_str | exact vs_newp | exact vs_nilp | exact rfl) (by first | exact vs_int | exact vs_bool | exact vs_m | exact vs_new | exact vs_nils | exact vs_str | exact vs_newp | exact vs_nilp | exact rfl) (by first | exact vs_int | exact vs_bool | exact vs_m | exact vs_new | exact vs_nils | exact vs_str | exact vs_newp | exact vs_nilp | exact rfl) (by first | exact vs_int | exact vs_bool | exact vs_m | exact vs_new | exact vs_nils | exact vs_str | exact vs_newp | exact vs_nilp | exact rfl) | exact rfl) : ostep P ⟨od, .call ⟨.value F, args, ats⟩, oty, ops_, oaf, ogu⟩ fr H K :=
  r_callcw p rfl hf ha hcap hp hcs ((List.take_append_drop args.size all).symm ▸ hg) hds e3 h
def setB : List Nat → Heap → Heap → Heap
  | p :: π, x :: L, H => setB π L (H.set p x)
  | _, _, H => H
theorem setB_get : ∀ (π : List Nat) (L H : Heap) (j : Nat), π.Nodup → L.length = π.length → (setB π L H)[j]? = (H[j]?).map fun b => match idx j π with | some i => L.getD i none | none => b
  | [], [], H, j, _, _ => by simp [setB, idx]
  | [], _ :: _, _, _, _, h => by simp at h
  | _ :: _, [], _, _, _, h => by simp at h
  | p :: π, x :: L, H, j, hn, hl => by
    rw [setB, setB_get π L (H.set p x) j (List.nodup_cons.1 hn).2 (by simpa using hl), List.getElem?_set]
    by_cases hj : p = j
    · subst hj
      have hni : idx p π = none := by
        cases h : idx p π with
        | none => rfl
        | some i => exact absurd (List.mem_of_getElem? (idx_get h)) (List.nodup_cons.1 hn).1
      by_cases hlt : p < H.length
      · simp [hlt, idx, hni]
      · simp [hlt]
    · rw [if_neg hj]
      cases h : idx j π with
      | none => simp [idx, hj, h]
      | some i => simp [idx, hj, h]
theorem picks_map (f : Cell → Cell) : ∀ H : Heap, picks f H = H.map (Option.map (List.map f))
  | [] => rfl
  | some _ :: r => by simp [picks, picks_map f r]
  | none :: r => by simp [picks, picks_map f r]
theorem back_split {π : List Nat} {f : Cell → Cell} {H L N : Heap} (hnd : π.Nodup) (hl : L.length = π.length) : back π f H (L ++ N) = setB π (L.map (Option.map (List.map f))) H ++ N.map (Option.map (List.map f)) := by
  rw [back, ← hl, List.drop_left, picks_map]
  congr 1
  apply List.ext_getElem?
  intro j
  rw [putB_get, setB_get _ _ _ _ hnd (by simpa using hl), Nat.zero_add]
  congr 1
  funext b
  unfold pbk
  cases h : idx j π with
  | none => rfl
  | some i =>
    have hi : i < L.length := by rw [hl]; exact (List.getElem?_eq_some_iff.1 (idx_get h)).1
    simp only [pick, List.getElem?_append_left hi, List.getD_eq_getElem?_getD, List.getElem?_map, List.getElem?_eq_getElem hi]
    cases L[i] <;> rfl
theorem pl0 {H : Heap} {f : Cell → Cell} : ([] : List Nat).map (pick H f) = [] := rfl
theorem pl1 {H Hl : Heap} {f : Cell → Cell} {p : Nat} {π : List Nat} {cs cs' : List Cell} (hp : H[p]? = some (some cs)) (hc : cs.map f = cs') (h : π.map (pick H f) = Hl) : (p :: π).map (pick H f) = some cs' :: Hl := by
  simp [pick, hp, hc, ← h]
theorem ml0 {f : Cell → Cell} : ([] : Heap).map (Option.map (List.map f)) = [] := rfl
theorem ml1 {f : Cell → Cell} {L L' : Heap} {x y : List Cell} (hx : x.map f = y) (h : L.map (Option.map (List.map f)) = L') : (some x :: L).map (Option.map (List.map f)) = some y :: L' := by
  simp [hx, h]
theorem mln {f : Cell → Cell} {L L' : Heap} (h : L.map (Option.map (List.map f)) = L') : (none :: L).map (Option.map (List.map f)) = none :: L' := by
  simp [h]
theorem r_callv {P : Program} {fr : List S} {H : Heap} {K : S → Heap → Prop} {o : Oper} {f : Nat} {args : Array Operand} {ats : Array TypeId} {v s : S} {Hl L L' M M' : Heap} {args' : List V} (π : List Nat) (ho : o.op = .call ⟨.value (.func f), args, ats⟩)
    (ha : CA fr H π true args.toList args') (hnd : π.Nodup) (hπ : ∀ p ∈ π, p < H.length) (e2 : π.map (pick H (cm (cin π true H) 8)) = Hl) (hg : Good P f args' Hl v (L ++ M)) (hl : L.length = π.length)
    (eL : L.map (Option.map (List.map (cm (cout π true H.length) 8))) = L') (eM : M.map (Option.map (List.map (cm (cout π true H.length) 8))) = M') (e3 : sm (cm (cout π true H.length) 8) v = s) (h : K s (setB π L' H ++ M')) : ostep P o fr H K := by
  obtain ⟨avs, h1, h2⟩ := ha
  exact r_call π true ho rfl h1 hnd hπ (by simpa using h2) e2 hg e3 (by rw [back_split hnd hl, eL, eM]) h
theorem allB {π : List Nat} {n : Nat} (h : (π.all fun p => Nat.blt p n) = true) : ∀ p ∈ π, p < n := fun p hp => by
  have := List.all_eq_true.1 h p hp
  simpa [Nat.blt_eq] using this
theorem q_callv {P : Program} {fr : List S} {H : Heap} {K : S → Heap → Prop} {od : Option Nat} {oty : TypeId} {ops_ : String} {oaf : Array Edge} {ogu : Option (Nat × Bool)} {f : Nat} {args : Array Operand} {ats : Array TypeId} {v s : S} {Hl L' M' : Heap} {args' : List V} (π : List Nat) (L : Heap) (M : Heap)
    (hg : Good P f args' Hl v (L ++ M)) (h : K s (setB π L' H ++ M')) (ha : CA fr H π true args.toList args' := by repeat' (first | exact ca0 | refine cac (by first | exact et rfl | exact rfl) (by first | exact cm_int | exact cm_bool | exact cm_str | exact sees_ro | (apply sees_slc; exact rfl; (first | exact rfl | assumption); (first | exact cut_h (by with_reducible assumption) | exact rfl | exact cut_m | exact cut_w)) | (apply sees_parts; exact rfl; (first | exact rfl | assumption); (repeat' (first | exact pq0 | (apply pq_ro; (first | with_reducible assumption | (simp only [List.length_take, List.length_drop, List.length_append] <;> omega) | exact rfl)) | refine pq_nil ?_ | (apply pq_slc; exact rfl; (first | exact rfl | assumption); (first | exact cut_h (by with_reducible assumption) | exact rfl | exact cut_m | exact cut_w); (first | with_reducible assumption | (simp only [List.length_take, List.length_drop, List.length_append] <;> omega) | exact rfl))))) | exact sees_nil8 | exact sees_nil | exact sees_ptr rfl (by first | exact rfl | assumption) rfl rfl | exact rfl) ?_ | refine caa (by first | exact et rfl | exact rfl) (by first | exact sees_m | exact rfl) ?_)) (hnd : π.Nodup := by decide) (hπ : (π.all fun p => Nat.blt p H.length) = true := by exact rfl)
    (e2 : π.map (pick H (cm (cin π true H) 8)) = Hl := by repeat' (first | exact pl0 | refine pl1 rfl (by first | exact sees_m | exact rfl) ?_)) (hl : L.length = π.length := by exact rfl)
    (eL : L.map (Option.map (List.map (cm (cout π true H.length) 8))) = L' := by first | exact ml0 | exact ml1 (by first | exact sees_m | exact rfl) ml0 | exact ml1 (by first | exact sees_m | exact rfl) (ml1 (by first | exact sees_m | exact rfl) ml0) | exact ml1 (by first | exact sees_m | exact rfl) (ml1 (by first | exact sees_m | exact rfl) (ml1 (by first | exact sees_m | exact rfl) ml0)) | exact ml1 (by first | exact sees_m | exact rfl) (ml1 (by first | exact sees_m | exact rfl) (ml1 (by first | exact sees_m | exact rfl) (ml1 (by first | exact sees_m | exact rfl) ml0))) | exact ml1 (by first | exact sees_m | exact rfl) (ml1 (by first | exact sees_m | exact rfl) (ml1 (by first | exact sees_m | exact rfl) (ml1 (by first | exact sees_m | exact rfl) (ml1 (by first | exact sees_m | exact rfl) ml0))))) (eM : M.map (Option.map (List.map (cm (cout π true H.length) 8))) = M' := by first | exact ml0 | exact ml1 (by first | exact sees_m | exact rfl) ml0 | exact ml1 (by first | exact sees_m | exact rfl) (ml1 (by first | exact sees_m | exact rfl) ml0) | exact ml1 (by first | exact sees_m | exact rfl) (ml1 (by first | exact sees_m | exact rfl) (ml1 (by first | exact sees_m | exact rfl) ml0)) | exact ml1 (by first | exact sees_m | exact rfl) (ml1 (by first | exact sees_m | exact rfl) (ml1 (by first | exact sees_m | exact rfl) (ml1 (by first | exact sees_m | exact rfl) ml0))) | exact ml1 (by first | exact sees_m | exact rfl) (ml1 (by first | exact sees_m | exact rfl) (ml1 (by first | exact sees_m | exact rfl) (ml1 (by first | exact sees_m | exact rfl) (ml1 (by first | exact sees_m | exact rfl) ml0)))))
    (e3 : sm (cm (cout π true H.length) 8) v = s := by first | exact rs_int | exact rs_bool | exact rs_m | exact rs_new | exact rs_nils | exact rs_str | exact rs_newp | exact rs_nilp | exact vt0 | exact vt2 (by first | exact vs_int | exact vs_bool | exact vs_m | exact vs_new | exact vs_nils | exact vs_str | exact vs_newp | exact vs_nilp | exact rfl) (by first | exact vs_int | exact vs_bool | exact vs_m | exact vs_new | exact vs_nils | exact vs_str | exact vs_newp | exact vs_nilp | exact rfl) | exact vt3 (by first | exact vs_int | exact vs_bool | exact vs_m | exact vs_new | exact vs_nils | exact vs_str | exact vs_newp | exact vs_nilp | exact rfl) (by first | exact vs_int | exact vs_bool | exact vs_m | exact vs_new | exact vs_nils | exact vs_str | exact vs_newp | exact vs_nilp | exact rfl) (by first | exact vs_int | exact vs_bool | exact vs_m | exact vs_new | exact vs_nils | exact vs_str | exact vs_newp | exact vs_nilp | exact rfl) | exact vt4 (by first | exact vs_int | exact vs_bool | exact vs_m | exact vs_new | exact vs_nils | exact vs_str | exact vs_newp | exact vs_nilp | exact rfl) (by first | exact vs_int | exact vs_bool | exact vs_m | exact vs_new | exact vs_nils | exact vs_str | exact vs_newp | exact vs_nilp | exact rfl) (by first | exact vs_int | exact vs_bool | exact vs_m | exact vs_new | exact vs_nils | exact vs_str | exact vs_newp | exact vs_nilp | exact rfl) (by first | exact vs_int | exact vs_bool | exact vs_m | exact vs_new | exact vs_nils | exact vs_str | exact vs_newp | exact vs_nilp | exact rfl) | exact rfl) : ostep P ⟨od, .call ⟨.value (.func f), args, ats⟩, oty, ops_, oaf, ogu⟩ fr H K :=
  r_callv π rfl ha hnd (allB hπ) e2 hg hl eL eM e3 h
theorem pi01 : ∀ p : Nat, p < 2 → [0, 1][p]? = some p := by
  intro p hp
  match p, hp with
  | 0, _ => rfl
  | 1, _ => rfl
theorem pi012 : ∀ p : Nat, p < 3 → [0, 1, 2][p]? = some p := by
  intro p hp
  match p, hp with
  | 0, _ => rfl
  | 1, _ => rfl
  | 2, _ => rfl
section
variable {P : Program} {fr : List S} {H : Heap} {K : S → Heap → Prop} {od : Option Nat} {oty : TypeId} {ops_ : String} {oaf : Array Edge} {ogu : Option (Nat × Bool)} {t u : TypeId} {ti : TI} {a b : Operand}
theorem q_css {s e p q n : Nat} {ei : TI} [it_ : SlT P s ti e ei 1] (h : K (sc (.slc p q n 1)) H) (hk : ei.kind = .int .u8 := by exact rfl) (hx : ev fr a = sc (.slc p q n 1) := by first | exact et rfl | exact rfl) (hn : 0 < n := by first | omega | decide) (hp : ∃ cs, H[p]? = some (some cs) := by exact ⟨_, rfl⟩) : ostep P ⟨od, .convert s s a, oty, ops_, oaf, ogu⟩ fr H K := by
  obtain ⟨cs, hp⟩ := hp
  simp only [ostep, it_.ht, it_.hk, hx, it_.he, hp, hk]
  exact ⟨trivial, trivial, hn, h⟩
end
def intC : Value → Option Cell
  | .int k n => some (.int k n)
  | _ => none
def fillC (place : Nat → Option (Nat × Nat)) : List Cell → List (Nat × Operand) → Option (List Cell)
  | cells, [] => some cells
  | cells, (i, .const v) :: r => match place i, intC v with
    | some (off, 1), some c => bif Nat.blt off cells.length then fillC place (cells.set off c) r else none
    | _, _ => none
  | _, _ => none
/-! A body's end, whatever blocks are told. -/
theorem fx0 {P : Program} {st : St} {fn : Func} {v : S} {H' : Heap} {n : Nat} (π : List Nat) (hl : fn.results.toList = [] := by exact rfl) (hH : π.map (pick st.H (cm ⟨fun p => idx p π, fun _ => none, true, false⟩ 8)) = H' := by repeat' (first | exact pl0 | refine pl1 rfl (by first | exact sees_m | exact rfl) ?_)) (hv : v = .t [] := by exact rfl) (hnd : π.Nodup := by decide) (hn : ∀ p, p < n → π[p]? = some p := by first | exact fun p h => absurd h (Nat.not_lt_zero _) | exact pi0 | exact pi01 | exact pi012) : fin P fn n v H' st :=
  fin_g (ys := []) π hn hnd hv hl rv0 hH.symm
theorem fx1 {P : Program} {st : St} {fn : Func} {v : S} {H' : Heap} {n : Nat} {t0 : Nat} {x0 y0 : V} (π : List Nat) (hl : fn.results.toList = [.tmp t0] := by exact rfl) (hx0 : ev st.fr (.tmp t0) = .v x0 := by first | exact et rfl | exact rfl) (hm0 : vm (cm ⟨fun p => idx p π, fun _ => none, true, false⟩ 8) x0 = y0 := by first | exact vs_int | exact vs_bool | exact vs_m | exact vs_str | exact vs_nilp | exact rfl) (hH : π.map (pick st.H (cm ⟨fun p => idx p π, fun _ => none, true, false⟩ 8)) = H' := by repeat' (first | exact pl0 | refine pl1 rfl (by first | exact sees_m | exact rfl) ?_)) (hv : v = .v y0 := by exact rfl) (hnd : π.Nodup := by decide) (hn : ∀ p, p < n → π[p]? = some p := by first | exact fun p h => absurd h (Nat.not_lt_zero _) | exact pi0 | exact pi01 | exact pi012) : fin P fn n v H' st :=
  fin_g (ys := [y0]) π hn hnd hv hl (rvt hx0 hm0 rv0) hH.symm
theorem fx2 {P : Program} {st : St} {fn : Func} {v : S} {H' : Heap} {n : Nat} {t0 t1 : Nat} {x0 y0 x1 y1 : V} (π : List Nat) (hl : fn.results.toList = [.tmp t0, .tmp t1] := by exact rfl) (hx0 : ev st.fr (.tmp t0) = .v x0 := by first | exact et rfl | exact rfl) (hm0 : vm (cm ⟨fun p => idx p π, fun _ => none, true, false⟩ 8) x0 = y0 := by first | exact vs_int | exact vs_bool | exact vs_m | exact vs_str | exact vs_nilp | exact rfl) (hx1 : ev st.fr (.tmp t1) = .v x1 := by first | exact et rfl | exact rfl) (hm1 : vm (cm ⟨fun p => idx p π, fun _ => none, true, false⟩ 8) x1 = y1 := by first | exact vs_int | exact vs_bool | exact vs_m | exact vs_str | exact vs_nilp | exact rfl) (hH : π.map (pick st.H (cm ⟨fun p => idx p π, fun _ => none, true, false⟩ 8)) = H' := by repeat' (first | exact pl0 | refine pl1 rfl (by first | exact sees_m | exact rfl) ?_)) (hv : v = .t [y0, y1] := by exact rfl) (hnd : π.Nodup := by decide) (hn : ∀ p, p < n → π[p]? = some p := by first | exact fun p h => absurd h (Nat.not_lt_zero _) | exact pi0 | exact pi01 | exact pi012) : fin P fn n v H' st :=
  fin_g (ys := [y0, y1]) π hn hnd hv hl (rvt hx0 hm0 (rvt hx1 hm1 rv0)) hH.symm
theorem fx3 {P : Program} {st : St} {fn : Func} {v : S} {H' : Heap} {n : Nat} {t0 t1 t2 : Nat} {x0 y0 x1 y1 x2 y2 : V} (π : List Nat) (hl : fn.results.toList = [.tmp t0, .tmp t1, .tmp t2] := by exact rfl) (hx0 : ev st.fr (.tmp t0) = .v x0 := by first | exact et rfl | exact rfl) (hm0 : vm (cm ⟨fun p => idx p π, fun _ => none, true, false⟩ 8) x0 = y0 := by first | exact vs_int | exact vs_bool | exact vs_m | exact vs_str | exact vs_nilp | exact rfl) (hx1 : ev st.fr (.tmp t1) = .v x1 := by first | exact et rfl | exact rfl) (hm1 : vm (cm ⟨fun p => idx p π, fun _ => none, true, false⟩ 8) x1 = y1 := by first | exact vs_int | exact vs_bool | exact vs_m | exact vs_str | exact vs_nilp | exact rfl) (hx2 : ev st.fr (.tmp t2) = .v x2 := by first | exact et rfl | exact rfl) (hm2 : vm (cm ⟨fun p => idx p π, fun _ => none, true, false⟩ 8) x2 = y2 := by first | exact vs_int | exact vs_bool | exact vs_m | exact vs_str | exact vs_nilp | exact rfl) (hH : π.map (pick st.H (cm ⟨fun p => idx p π, fun _ => none, true, false⟩ 8)) = H' := by repeat' (first | exact pl0 | refine pl1 rfl (by first | exact sees_m | exact rfl) ?_)) (hv : v = .t [y0, y1, y2] := by exact rfl) (hnd : π.Nodup := by decide) (hn : ∀ p, p < n → π[p]? = some p := by first | exact fun p h => absurd h (Nat.not_lt_zero _) | exact pi0 | exact pi01 | exact pi012) : fin P fn n v H' st :=
  fin_g (ys := [y0, y1, y2]) π hn hnd hv hl (rvt hx0 hm0 (rvt hx1 hm1 (rvt hx2 hm2 rv0))) hH.symm
theorem DSp {P : Program} {N : Nat} {al : List (Nat × S)} {H : Heap} {ops r : List Oper} {q : St → Prop} {op : Op} {oty : TypeId} {ops_ : String} {oaf : Array Edge} {d : Nat} {lo hi : List Nat} {i : Nat} {rem : List Nat} {hist : List Heap} {pend : List (Nat × Heap)} {s : S} (p : Nat) {cs : List Cell}
    (_hp : H[p]? = some (some cs)) (h : ∀ V' : Heap, V'[p]? = some (some cs) → ostep P ⟨some d, op, oty, ops_, oaf, none⟩ (frm N al) V' fun s' H' => s' = s ∧ H' = V')
    (k : Dw P ops lo hi q r (i + 1) rem (H :: hist) ((hi.getD i 0, one p cs) :: pend) (frm N ((d, s) :: al))) (hne : (rem.head? == some i) = false := by exact rfl)
    (hs : seen (one p cs) ((H :: hist).take ((hist.length + 1) - lo.getD i 0)) := by repeat' (first | exact trivial | exact sub_one rfl | refine And.intro ?_ ?_)) : Dw P ops lo hi q (⟨some d, op, oty, ops_, oaf, none⟩ :: r) i rem (H :: hist) pend (frm N al) :=
  dR p rfl (tk rfl) hne hs h k
section
variable {P : Program} {N : Nat} {al : List (Nat × S)} {H : Heap} {ops r : List Oper} {q : St → Prop} {oty : TypeId} {ops_ : String} {oaf : Array Edge} {d j w : Nat} {want : Bool} {oj : Oper}
variable {lo hi : List Nat} {i : Nat} {rem : List Nat} {hist : List Heap} {pend : List (Nat × Heap)} {t : TypeId} {ti : TI} {x : Operand} {p : Nat} {cs : List Cell}
theorem DLwg [it : TiOf P t ti] (k : Dw P ops lo hi q r (i + 1) rem (H :: hist) ((hi.getD i 0, one p cs) :: pend) (frm N ((d, sa cs) :: al))) (hx : ev (frm N al) x = sc (.ptr p 0) := by first | exact et rfl | exact rfl) (_hp : H[p]? = some (some cs) := by exact rfl) (hk : ti.kind.agg = true := by exact rfl) (hz : Nat.blt 0 ti.size = true := by exact rfl) (hl : cs.length = ti.size := by first | omega | with_reducible assumption | exact (mapc_length ..).trans (by with_reducible assumption) | (simp only [List.length_set, List.length_append, List.length_replicate, List.length_take, List.length_drop, List.length_map, List.length_cons, List.length_nil, mapc_length] <;> omega) | exact rfl | exact Nat.le_of_ble_eq_true rfl) (hne : (rem.head? == some i) = false := by exact rfl)
    (hs : seen (one p cs) ((H :: hist).take ((hist.length + 1) - lo.getD i 0)) := by repeat' (first | exact trivial | exact sub_one rfl | refine And.intro ?_ ?_)) (hj : ops[j]? = some oj := by exact rfl) (hjd : oj.dst = some w := by exact rfl) (hv : lkpB N al w = .v (.c (.bool want)) := by first | exact rfl | exact congrArg (fun b => S.v (V.c (Cell.bool b))) (by assumption) | exact congrArg (fun b => S.v (V.c (Cell.bool b))) (decide_eq_true (by assumption)) | exact congrArg (fun b => S.v (V.c (Cell.bool b))) (decide_eq_false (by assumption))) : Dw P ops lo hi q (⟨some d, .load t x, oty, ops_, oaf, some (j, want)⟩ :: r) i rem (H :: hist) pend (frm N al) :=
  dR p rfl (tkg rfl hj hjd hv) hne hs (fun _ hv => r_ldw rfl it.h hk hz hx hv hl ⟨rfl, rfl⟩) k
end
end Go.Abs

/- The abstract machine: functions without a body that the model stands in for. -/
namespace Go.Abs
open Go
theorem av0 {fr : List S} : argVs fr [] = some [] := rfl
theorem av1 {fr : List S} {x : Operand} {r : List Operand} {y : V} {ys : List V} (hx : ev fr x = .v y) (h : argVs fr r = some ys) : argVs fr (x :: r) = some (y :: ys) := by
  simp only [argVs, hx, h]
theorem q_callx {P : Program} {fr : List S} {H : Heap} {K : S → Heap → Prop} {od : Option Nat} {oty : TypeId} {ops_ : String} {oaf : Array Edge} {ogu : Option (Nat × Bool)} {f : Nat} {args : Array Operand} {ats : Array TypeId} {v : S} {avs : List V}
    (hx : Ext P f avs v) (h : K v H) (ha : argVs fr args.toList = some avs := by repeat' (first | exact av0 | refine av1 (by first | exact et rfl | exact rfl) ?_)) : ostep P ⟨od, .call ⟨.value (.func f), args, ats⟩, oty, ops_, oaf, ogu⟩ fr H K := by
  simp only [ostep, callO]
  rw [show ev fr (.func f) = sc (.fn f []) from rfl, ha]
  exact .inr ⟨rfl, v, hx, h⟩
def addc (x y c : UInt64) : UInt64 := if 18446744073709551616 ≤ x.toNat + y.toNat + c.toNat then 1 else 0
def subb (x y c : UInt64) : UInt64 := if x.toNat < y.toNat + c.toNat then 1 else 0
theorem addc_le (x y c : UInt64) : (addc x y c).toNat ≤ 1 := by unfold addc; split <;> decide
theorem subb_le (x y c : UInt64) : (subb x y c).toNat ≤ 1 := by unfold subb; split <;> decide
def subEntry : Array Value → Sem Value := fun args => do
  let (x, y, b) ← Extern.MathBitsCarry.three "Sub64" args
  pure (Extern.MathBitsCarry.pair ((x + Extern.MathBitsCarry.m64 - y - b) % Extern.MathBitsCarry.m64) (if x < y + b then 1 else 0))
theorem run_sub {P : Program} (x y b : Nat) (hb : b ≤ 1) (w : World) :
    (subEntry #[.int .u64 x, .int .u64 y, .int .u64 b]).run P w =
      .ok (.tuple #[.int .u64 (((x + 18446744073709551616 - y - b) % 18446744073709551616 : Nat) : Int), .int .u64 ((if x < y + b then 1 else 0 : Nat) : Int)]) w := by
  have : b = 0 ∨ b = 1 := by omega
  rcases this with rfl | rfl <;> rfl
theorem ext3 {R : Rl} {x y c : UInt64} {rargs : List Value} (h : VsRel R [.c (c64 x), .c (c64 y), .c (c64 c)] rargs) : rargs = [.int .u64 x.toNat, .int .u64 y.toNat, .int .u64 c.toNat] := by
  simp only [VsRel, VRel, CRel] at h
  obtain ⟨v, vs, rfl, rfl, v', vs', rfl, rfl, v'', vs'', rfl, rfl, rfl⟩ := h
  rfl
theorem add_ext {P : Program} {k : Nat} {fn : Func} (hf : P.funcs[k]? = some fn) (hname : (fn.name == "runtime.NumGoroutine") = false) (hb : fn.body.isNone = true) (hn : Extern.findNext fn = none) (he : Extern.find fn = some add64Entry)
    (x y c : UInt64) (hc : c.toNat ≤ 1) : Ext P k [.c (c64 x), .c (c64 y), .c (c64 c)] (.t [.c (c64 (x + y + c)), .c (c64 (addc x y c))]) := by
  intro R w rargs h
  rw [ext3 h]
  refine ⟨.tuple #[.int .u64 (x + y + c).toNat, .int .u64 (addc x y c).toNat], ?_, #[.int .u64 (x + y + c).toNat, .int .u64 (addc x y c).toNat], rfl, ?_⟩
  · rw [run_callFunc_extern hf hname hb hn he]
    have hx := x.toNat_lt
    have hy := y.toNat_lt
    rw [show ([.int .u64 x.toNat, .int .u64 y.toNat, .int .u64 c.toNat] : List Value).toArray = #[.int .u64 (x.toNat : Int), .int .u64 (y.toNat : Int), .int .u64 (c.toNat : Int)] from rfl, run_add64 _ _ _ (by omega) (by omega) (by omega) (by omega)]
    simp only [Result.andThen]
    have e1 : (x + y + c).toNat = (x.toNat + y.toNat + c.toNat) % 18446744073709551616 := by simp [UInt64.toNat_add]
    have e2 : (addc x y c).toNat = (x.toNat + y.toNat + c.toNat) / 18446744073709551616 := by
      unfold addc
      split
      · show 1 = _; omega
      · show 0 = _; omega
    rw [e1, e2]
    congr 5 <;> omega
  · simp only [VsRel, VRel, CRel]
    exact ⟨_, _, rfl, rfl, _, _, rfl, rfl, rfl⟩
theorem sub_ext {P : Program} {k : Nat} {fn : Func} (hf : P.funcs[k]? = some fn) (hname : (fn.name == "runtime.NumGoroutine") = false) (hb : fn.body.isNone = true) (hn : Extern.findNext fn = none) (he : Extern.find fn = some subEntry)
    (x y c : UInt64) (hc : c.toNat ≤ 1) : Ext P k [.c (c64 x), .c (c64 y), .c (c64 c)] (.t [.c (c64 (x - y - c)), .c (c64 (subb x y c))]) := by
  intro R w rargs h
  rw [ext3 h]
  refine ⟨.tuple #[.int .u64 (x - y - c).toNat, .int .u64 (subb x y c).toNat], ?_, #[.int .u64 (x - y - c).toNat, .int .u64 (subb x y c).toNat], rfl, ?_⟩
  · rw [run_callFunc_extern hf hname hb hn he]
    have hx := x.toNat_lt
    have hy := y.toNat_lt
    rw [show ([.int .u64 x.toNat, .int .u64 y.toNat, .int .u64 c.toNat] : List Value).toArray = #[.int .u64 (x.toNat : Int), .int .u64 (y.toNat : Int), .int .u64 (c.toNat : Int)] from rfl, run_sub _ _ _ hc]
    simp only [Result.andThen]
    have e1 : (x - y - c).toNat = (x.toNat + 18446744073709551616 - y.toNat - c.toNat) % 18446744073709551616 := by
      rw [UInt64.toNat_sub, UInt64.toNat_sub]
      omega
    have e2 : (subb x y c).toNat = if x.toNat < y.toNat + c.toNat then 1 else 0 := by
      unfold subb
      split <;> rfl
    rw [e1, e2]
  · simp only [VsRel, VRel, CRel]
    exact ⟨_, _, rfl, rfl, _, _, rfl, rfl, rfl⟩
class AddX (P : Program) (k : Nat) : Prop where h : ∀ x y c : UInt64, c.toNat ≤ 1 → Ext P k [.c (c64 x), .c (c64 y), .c (c64 c)] (.t [.c (c64 (x + y + c)), .c (c64 (addc x y c))])
class SubX (P : Program) (k : Nat) : Prop where h : ∀ x y c : UInt64, c.toNat ≤ 1 → Ext P k [.c (c64 x), .c (c64 y), .c (c64 c)] (.t [.c (c64 (x - y - c)), .c (c64 (subb x y c))])
section
variable {P : Program} {fr : List S} {H : Heap} {K : S → Heap → Prop} {od : Option Nat} {oty : TypeId} {ops_ : String} {oaf : Array Edge} {ogu : Option (Nat × Bool)} {f : Nat} {a b d : Operand} {ats : Array TypeId} {x y c : UInt64}
theorem q_addx [ax : AddX P f] (h : K (.t [.c (c64 (x + y + c)), .c (c64 (addc x y c))]) H) (hx : ev fr a = sc (c64 x) := by first | exact et rfl | exact rfl) (hy : ev fr b = sc (c64 y) := by first | exact et rfl | exact rfl) (hz : ev fr d = sc (c64 c) := by first | exact et rfl | exact rfl)
    (hc : c.toNat ≤ 1 := by first | exact addc_le .. | exact subb_le .. | assumption | decide) : ostep P ⟨od, .call ⟨.value (.func f), #[a, b, d], ats⟩, oty, ops_, oaf, ogu⟩ fr H K := q_callx (ax.h x y c hc) h (av1 hx (av1 hy (av1 hz av0)))
theorem q_subx [ax : SubX P f] (h : K (.t [.c (c64 (x - y - c)), .c (c64 (subb x y c))]) H) (hx : ev fr a = sc (c64 x) := by first | exact et rfl | exact rfl) (hy : ev fr b = sc (c64 y) := by first | exact et rfl | exact rfl) (hz : ev fr d = sc (c64 c) := by first | exact et rfl | exact rfl)
    (hc : c.toNat ≤ 1 := by first | exact addc_le .. | exact subb_le .. | assumption | decide) : ostep P ⟨od, .call ⟨.value (.func f), #[a, b, d], ats⟩, oty, ops_, oaf, ogu⟩ fr H K := q_callx (ax.h x y c hc) h (av1 hx (av1 hy (av1 hz av0)))
end
end Go.Abs

/- The types of the program, as the abstract machine asks for them. -/
namespace Go.Proofs.Ytklcckngmmklhaa
open Go Go.Abs Go.Proofs
abbrev T1 : TI := ⟨1, 8, some ([.nilf]), .func, true⟩
theorem y1 : tiOf Try.prog 1 = some T1 := by kernel_rfl
instance : TiOf Try.prog 1 T1 := ⟨y1⟩
abbrev T2 : TI := ⟨1, 8, some ([cn 0]), .int .i64, true⟩
theorem y2 : tiOf Try.prog 2 = some T2 := by kernel_rfl
instance : TiOf Try.prog 2 T2 := ⟨y2⟩
abbrev T3 : TI := ⟨1, 8, some ([cn 0]), .int .i64, true⟩
theorem y3 : tiOf Try.prog 3 = some T3 := by kernel_rfl
instance : TiOf Try.prog 3 T3 := ⟨y3⟩
abbrev T4 : TI := ⟨1, 1, some ([.bool false]), .bool, true⟩
theorem y4 : tiOf Try.prog 4 = some T4 := by kernel_rfl
instance : TiOf Try.prog 4 T4 := ⟨y4⟩
abbrev T5 : TI := ⟨1, 1, some ([c8 0]), .int .u8, true⟩
theorem y5 : tiOf Try.prog 5 = some T5 := by kernel_rfl
instance : TiOf Try.prog 5 T5 := ⟨y5⟩
abbrev T6 : TI := ⟨1, 1, some ([c8 0]), .int .u8, true⟩
theorem y6 : tiOf Try.prog 6 = some T6 := by kernel_rfl
instance : TiOf Try.prog 6 T6 := ⟨y6⟩
abbrev T7 : TI := ⟨4, 24, some ([cn 0, cn 0, .bool false, c8 0]), .struct [(0, 2), (1, 3), (2, 4), (3, 6)], true⟩
theorem y7 : tiOf Try.prog 7 = some T7 := by kernel_rfl
instance : TiOf Try.prog 7 T7 := ⟨y7⟩
abbrev T8 : TI := ⟨4, 24, some ([cn 0, cn 0, .bool false, c8 0]), .struct [(0, 2), (1, 3), (2, 4), (3, 6)], true⟩
theorem y8 : tiOf Try.prog 8 = some T8 := by kernel_rfl
instance : TiOf Try.prog 8 T8 := ⟨y8⟩
abbrev T9 : TI := ⟨1, 16, some ([.str ⟨#[]⟩]), .str, true⟩
theorem y9 : tiOf Try.prog 9 = some T9 := by kernel_rfl
instance : TiOf Try.prog 9 T9 := ⟨y9⟩
abbrev T10 : TI := ⟨1, 16, some ([.str ⟨#[]⟩]), .str, true⟩
theorem y10 : tiOf Try.prog 10 = some T10 := by kernel_rfl
instance : TiOf Try.prog 10 T10 := ⟨y10⟩
abbrev T11 : TI := ⟨1, 16, some ([.str ⟨#[]⟩]), .str, true⟩
theorem y11 : tiOf Try.prog 11 = some T11 := by kernel_rfl
instance : TiOf Try.prog 11 T11 := ⟨y11⟩
abbrev T12 : TI := ⟨1, 8, some ([c64 0]), .int .u64, true⟩
theorem y12 : tiOf Try.prog 12 = some T12 := by kernel_rfl
instance : TiOf Try.prog 12 T12 := ⟨y12⟩
abbrev T13 : TI := ⟨2, 24, some ([.str ⟨#[]⟩, c64 0]), .struct [(0, 9), (1, 12)], true⟩
theorem y13 : tiOf Try.prog 13 = some T13 := by kernel_rfl
instance : TiOf Try.prog 13 T13 := ⟨y13⟩
abbrev T14 : TI := ⟨2, 24, some ([.str ⟨#[]⟩, c64 0]), .struct [(0, 9), (1, 12)], true⟩
theorem y14 : tiOf Try.prog 14 = some T14 := by kernel_rfl
instance : TiOf Try.prog 14 T14 := ⟨y14⟩
abbrev T15 : TI := ⟨1, 8, some ([.nilp]), .ptr 134, true⟩
theorem y15 : tiOf Try.prog 15 = some T15 := by kernel_rfl
instance : TiOf Try.prog 15 T15 := ⟨y15⟩
abbrev T16 : TI := ⟨1, 8, some ([.nilp]), .ptr 137, true⟩
theorem y16 : tiOf Try.prog 16 = some T16 := by kernel_rfl
instance : TiOf Try.prog 16 T16 := ⟨y16⟩
abbrev T17 : TI := ⟨1, 8, some ([.nilp]), .ptr 146, true⟩
theorem y17 : tiOf Try.prog 17 = some T17 := by kernel_rfl
instance : TiOf Try.prog 17 T17 := ⟨y17⟩
abbrev T18 : TI := ⟨1, 8, some ([.nilp]), .struct [(0, 17)], true⟩
theorem y18 : tiOf Try.prog 18 = some T18 := by kernel_rfl
instance : TiOf Try.prog 18 T18 := ⟨y18⟩
abbrev T19 : TI := ⟨1, 8, some ([.nilp]), .struct [(0, 17)], true⟩
theorem y19 : tiOf Try.prog 19 = some T19 := by kernel_rfl
instance : TiOf Try.prog 19 T19 := ⟨y19⟩
abbrev T21 : TI := ⟨1, 4, some ([.int .i32 0]), .int .i32, true⟩
theorem y21 : tiOf Try.prog 21 = some T21 := by kernel_rfl
instance : TiOf Try.prog 21 T21 := ⟨y21⟩
abbrev T22 : TI := ⟨32, 32, some (u8s (List.replicate 32 0)), .array 32 5, true⟩
theorem y22 : tiOf Try.prog 22 = some T22 := by kernel_rfl
instance : TiOf Try.prog 22 T22 := ⟨y22⟩
abbrev T23 : TI := ⟨32, 32, some (u8s (List.replicate 32 0)), .array 32 5, true⟩
theorem y23 : tiOf Try.prog 23 = some T23 := by kernel_rfl
instance : TiOf Try.prog 23 T23 := ⟨y23⟩
abbrev T24 : TI := ⟨1, 24, some ([.nils]), .slice 3, true⟩
theorem y24 : tiOf Try.prog 24 = some T24 := by kernel_rfl
instance : TiOf Try.prog 24 T24 := ⟨y24⟩
abbrev T25 : TI := ⟨1, 8, some ([.nilf]), .func, true⟩
theorem y25 : tiOf Try.prog 25 = some T25 := by kernel_rfl
instance : TiOf Try.prog 25 T25 := ⟨y25⟩
abbrev T26 : TI := ⟨1, 8, some ([.nilp]), .ptr 70, true⟩
theorem y26 : tiOf Try.prog 26 = some T26 := by kernel_rfl
instance : TiOf Try.prog 26 T26 := ⟨y26⟩
abbrev T28 : TI := ⟨1, 8, some ([.nilf]), .func, true⟩
theorem y28 : tiOf Try.prog 28 = some T28 := by kernel_rfl
instance : TiOf Try.prog 28 T28 := ⟨y28⟩
abbrev T29 : TI := ⟨1, 24, some ([.nils]), .slice 30, true⟩
theorem y29 : tiOf Try.prog 29 = some T29 := by kernel_rfl
instance : TiOf Try.prog 29 T29 := ⟨y29⟩
abbrev T30 : TI := ⟨1, 24, some ([.nils]), .slice 5, true⟩
theorem y30 : tiOf Try.prog 30 = some T30 := by kernel_rfl
instance : TiOf Try.prog 30 T30 := ⟨y30⟩
abbrev T31 : TI := ⟨1, 8, some ([cn 0]), .int .i64, true⟩
theorem y31 : tiOf Try.prog 31 = some T31 := by kernel_rfl
instance : TiOf Try.prog 31 T31 := ⟨y31⟩
abbrev T33 : TI := ⟨1, 8, some ([.nilf]), .func, true⟩
theorem y33 : tiOf Try.prog 33 = some T33 := by kernel_rfl
instance : TiOf Try.prog 33 T33 := ⟨y33⟩
abbrev T34 : TI := ⟨1, 8, some ([c64 0]), .int .u64, true⟩
theorem y34 : tiOf Try.prog 34 = some T34 := by kernel_rfl
instance : TiOf Try.prog 34 T34 := ⟨y34⟩
abbrev T36 : TI := ⟨1, 8, some ([.nilf]), .func, true⟩
theorem y36 : tiOf Try.prog 36 = some T36 := by kernel_rfl
instance : TiOf Try.prog 36 T36 := ⟨y36⟩
abbrev T37 : TI := ⟨1, 8, some ([.nilf]), .func, true⟩
theorem y37 : tiOf Try.prog 37 = some T37 := by kernel_rfl
instance : TiOf Try.prog 37 T37 := ⟨y37⟩
abbrev T38 : TI := ⟨1, 8, some ([.nilp]), .ptr 82, true⟩
theorem y38 : tiOf Try.prog 38 = some T38 := by kernel_rfl
instance : TiOf Try.prog 38 T38 := ⟨y38⟩
abbrev T40 : TI := ⟨1, 8, some ([.nilf]), .func, true⟩
theorem y40 : tiOf Try.prog 40 = some T40 := by kernel_rfl
instance : TiOf Try.prog 40 T40 := ⟨y40⟩
abbrev T41 : TI := ⟨1, 8, some ([.nilf]), .func, true⟩
theorem y41 : tiOf Try.prog 41 = some T41 := by kernel_rfl
instance : TiOf Try.prog 41 T41 := ⟨y41⟩
abbrev T42 : TI := ⟨1, 8, some ([.nilf]), .func, true⟩
theorem y42 : tiOf Try.prog 42 = some T42 := by kernel_rfl
instance : TiOf Try.prog 42 T42 := ⟨y42⟩
abbrev T43 : TI := ⟨1, 8, some ([.nilf]), .func, true⟩
theorem y43 : tiOf Try.prog 43 = some T43 := by kernel_rfl
instance : TiOf Try.prog 43 T43 := ⟨y43⟩
abbrev T44 : TI := ⟨1, 8, some ([.nilf]), .func, true⟩
theorem y44 : tiOf Try.prog 44 = some T44 := by kernel_rfl
instance : TiOf Try.prog 44 T44 := ⟨y44⟩
abbrev T45 : TI := ⟨1, 8, some ([.nilf]), .func, true⟩
theorem y45 : tiOf Try.prog 45 = some T45 := by kernel_rfl
instance : TiOf Try.prog 45 T45 := ⟨y45⟩
abbrev T46 : TI := ⟨1, 8, some ([.nilf]), .func, true⟩
theorem y46 : tiOf Try.prog 46 = some T46 := by kernel_rfl
instance : TiOf Try.prog 46 T46 := ⟨y46⟩
abbrev T47 : TI := ⟨1, 24, some ([.nils]), .slice 53, true⟩
theorem y47 : tiOf Try.prog 47 = some T47 := by kernel_rfl
instance : TiOf Try.prog 47 T47 := ⟨y47⟩
abbrev T48 : TI := ⟨1, 8, some ([.nilp]), .ptr 51, true⟩
theorem y48 : tiOf Try.prog 48 = some T48 := by kernel_rfl
instance : TiOf Try.prog 48 T48 := ⟨y48⟩
abbrev T49 : TI := ⟨1, 24, some ([.nils]), .slice 34, true⟩
theorem y49 : tiOf Try.prog 49 = some T49 := by kernel_rfl
instance : TiOf Try.prog 49 T49 := ⟨y49⟩
abbrev T50 : TI := ⟨98, 128, some (u8s (List.replicate 96 0) ++ [c64 0, .nils]), .struct [(0, 23), (32, 23), (64, 23), (96, 34), (97, 49)], true⟩
theorem y50 : tiOf Try.prog 50 = some T50 := by kernel_rfl
instance : TiOf Try.prog 50 T50 := ⟨y50⟩
abbrev T51 : TI := ⟨98, 128, some (u8s (List.replicate 96 0) ++ [c64 0, .nils]), .struct [(0, 23), (32, 23), (64, 23), (96, 34), (97, 49)], true⟩
theorem y51 : tiOf Try.prog 51 = some T51 := by kernel_rfl
instance : TiOf Try.prog 51 T51 := ⟨y51⟩
abbrev T52 : TI := ⟨4, 48, some ([cn 0, .nils, c64 0, cn 0]), .struct [(0, 3), (1, 30), (2, 34), (3, 3)], true⟩
theorem y52 : tiOf Try.prog 52 = some T52 := by kernel_rfl
instance : TiOf Try.prog 52 T52 := ⟨y52⟩
abbrev T53 : TI := ⟨4, 48, some ([cn 0, .nils, c64 0, cn 0]), .struct [(0, 3), (1, 30), (2, 34), (3, 3)], true⟩
theorem y53 : tiOf Try.prog 53 = some T53 := by kernel_rfl
instance : TiOf Try.prog 53 T53 := ⟨y53⟩
abbrev T55 : TI := ⟨1, 8, some ([.nilf]), .func, true⟩
theorem y55 : tiOf Try.prog 55 = some T55 := by kernel_rfl
instance : TiOf Try.prog 55 T55 := ⟨y55⟩
abbrev T57 : TI := ⟨1, 8, some ([.nilf]), .func, true⟩
theorem y57 : tiOf Try.prog 57 = some T57 := by kernel_rfl
instance : TiOf Try.prog 57 T57 := ⟨y57⟩
abbrev T59 : TI := ⟨1, 8, some ([.nilf]), .func, true⟩
theorem y59 : tiOf Try.prog 59 = some T59 := by kernel_rfl
instance : TiOf Try.prog 59 T59 := ⟨y59⟩
abbrev T60 : TI := ⟨1, 8, some ([.nilf]), .func, true⟩
theorem y60 : tiOf Try.prog 60 = some T60 := by kernel_rfl
instance : TiOf Try.prog 60 T60 := ⟨y60⟩
abbrev T61 : TI := ⟨1, 8, some ([.nilf]), .func, true⟩
theorem y61 : tiOf Try.prog 61 = some T61 := by kernel_rfl
instance : TiOf Try.prog 61 T61 := ⟨y61⟩
abbrev T62 : TI := ⟨1, 8, some ([.nilf]), .func, true⟩
theorem y62 : tiOf Try.prog 62 = some T62 := by kernel_rfl
instance : TiOf Try.prog 62 T62 := ⟨y62⟩
abbrev T63 : TI := ⟨1, 8, some ([.nilf]), .func, true⟩
theorem y63 : tiOf Try.prog 63 = some T63 := by kernel_rfl
instance : TiOf Try.prog 63 T63 := ⟨y63⟩
abbrev T64 : TI := ⟨1, 8, some ([.nilf]), .func, true⟩
theorem y64 : tiOf Try.prog 64 = some T64 := by kernel_rfl
instance : TiOf Try.prog 64 T64 := ⟨y64⟩
abbrev T65 : TI := ⟨2, 16, some ([.nilp, .nilp]), .array 2 38, true⟩
theorem y65 : tiOf Try.prog 65 = some T65 := by kernel_rfl
instance : TiOf Try.prog 65 T65 := ⟨y65⟩
abbrev T66 : TI := ⟨3, 24, some ([c64 0, .nilp, .nilp]), .struct [(0, 34), (1, 65)], true⟩
theorem y66 : tiOf Try.prog 66 = some T66 := by kernel_rfl
instance : TiOf Try.prog 66 T66 := ⟨y66⟩
abbrev T67 : TI := ⟨3, 24, some ([c64 0, .nilp, .nilp]), .struct [(0, 34), (1, 65)], true⟩
theorem y67 : tiOf Try.prog 67 = some T67 := by kernel_rfl
instance : TiOf Try.prog 67 T67 := ⟨y67⟩
abbrev T68 : TI := ⟨1, 8, some ([.nilp]), .ptr 95, true⟩
theorem y68 : tiOf Try.prog 68 = some T68 := by kernel_rfl
instance : TiOf Try.prog 68 T68 := ⟨y68⟩
abbrev T69 : TI := ⟨42, 112, some ([c64 0, .nilp, .nilp, c64 0, .nilp, .nilp, c64 0, .nilp, c64 0, .bool false] ++ u8s (List.replicate 32 0)), .struct [(0, 67), (3, 67), (6, 34), (7, 68), (8, 34), (9, 4), (10, 23)], true⟩
theorem y69 : tiOf Try.prog 69 = some T69 := by kernel_rfl
instance : TiOf Try.prog 69 T69 := ⟨y69⟩
abbrev T70 : TI := ⟨42, 112, some ([c64 0, .nilp, .nilp, c64 0, .nilp, .nilp, c64 0, .nilp, c64 0, .bool false] ++ u8s (List.replicate 32 0)), .struct [(0, 67), (3, 67), (6, 34), (7, 68), (8, 34), (9, 4), (10, 23)], true⟩
theorem y70 : tiOf Try.prog 70 = some T70 := by kernel_rfl
instance : TiOf Try.prog 70 T70 := ⟨y70⟩
abbrev T71 : TI := ⟨1, 24, some ([.nils]), .slice 26, true⟩
theorem y71 : tiOf Try.prog 71 = some T71 := by kernel_rfl
instance : TiOf Try.prog 71 T71 := ⟨y71⟩
abbrev T72 : TI := ⟨1, 8, some ([.nilf]), .func, true⟩
theorem y72 : tiOf Try.prog 72 = some T72 := by kernel_rfl
instance : TiOf Try.prog 72 T72 := ⟨y72⟩
abbrev T73 : TI := ⟨1, 8, some ([.nilf]), .func, true⟩
theorem y73 : tiOf Try.prog 73 = some T73 := by kernel_rfl
instance : TiOf Try.prog 73 T73 := ⟨y73⟩
abbrev T74 : TI := ⟨1, 8, some ([.nilf]), .func, true⟩
theorem y74 : tiOf Try.prog 74 = some T74 := by kernel_rfl
instance : TiOf Try.prog 74 T74 := ⟨y74⟩
abbrev T75 : TI := ⟨1, 8, some ([.nilf]), .func, true⟩
theorem y75 : tiOf Try.prog 75 = some T75 := by kernel_rfl
instance : TiOf Try.prog 75 T75 := ⟨y75⟩
abbrev T77 : TI := ⟨1, 8, some ([.nilf]), .func, true⟩
theorem y77 : tiOf Try.prog 77 = some T77 := by kernel_rfl
instance : TiOf Try.prog 77 T77 := ⟨y77⟩
abbrev T78 : TI := ⟨1, 8, some ([.nilf]), .func, true⟩
theorem y78 : tiOf Try.prog 78 = some T78 := by kernel_rfl
instance : TiOf Try.prog 78 T78 := ⟨y78⟩
abbrev T79 : TI := ⟨1, 8, some ([.nilp]), .ptr 67, true⟩
theorem y79 : tiOf Try.prog 79 = some T79 := by kernel_rfl
instance : TiOf Try.prog 79 T79 := ⟨y79⟩
abbrev T80 : TI := ⟨1, 8, some ([.nilp]), .ptr 23, true⟩
theorem y80 : tiOf Try.prog 80 = some T80 := by kernel_rfl
instance : TiOf Try.prog 80 T80 := ⟨y80⟩
abbrev T81 : TI := ⟨3, 24, some ([.nilp, c64 0, .bool false]), .struct [(0, 80), (1, 34), (2, 4)], true⟩
theorem y81 : tiOf Try.prog 81 = some T81 := by kernel_rfl
instance : TiOf Try.prog 81 T81 := ⟨y81⟩
abbrev T82 : TI := ⟨3, 24, some ([.nilp, c64 0, .bool false]), .struct [(0, 80), (1, 34), (2, 4)], true⟩
theorem y82 : tiOf Try.prog 82 = some T82 := by kernel_rfl
instance : TiOf Try.prog 82 T82 := ⟨y82⟩
abbrev T83 : TI := ⟨1, 8, some ([.nilf]), .func, true⟩
theorem y83 : tiOf Try.prog 83 = some T83 := by kernel_rfl
instance : TiOf Try.prog 83 T83 := ⟨y83⟩
abbrev T84 : TI := ⟨1, 8, some ([.nilf]), .func, true⟩
theorem y84 : tiOf Try.prog 84 = some T84 := by kernel_rfl
instance : TiOf Try.prog 84 T84 := ⟨y84⟩
abbrev T85 : TI := ⟨1, 8, some ([.nilf]), .func, true⟩
theorem y85 : tiOf Try.prog 85 = some T85 := by kernel_rfl
instance : TiOf Try.prog 85 T85 := ⟨y85⟩
abbrev T86 : TI := ⟨12, 12, some (u8s (List.replicate 12 0)), .array 12 5, true⟩
theorem y86 : tiOf Try.prog 86 = some T86 := by kernel_rfl
instance : TiOf Try.prog 86 T86 := ⟨y86⟩
abbrev T87 : TI := ⟨1, 8, some ([.nilf]), .func, true⟩
theorem y87 : tiOf Try.prog 87 = some T87 := by kernel_rfl
instance : TiOf Try.prog 87 T87 := ⟨y87⟩
abbrev T88 : TI := ⟨1, 8, some ([.nilf]), .func, true⟩
theorem y88 : tiOf Try.prog 88 = some T88 := by kernel_rfl
instance : TiOf Try.prog 88 T88 := ⟨y88⟩
abbrev T89 : TI := ⟨1, 8, some ([.nilf]), .func, true⟩
theorem y89 : tiOf Try.prog 89 = some T89 := by kernel_rfl
instance : TiOf Try.prog 89 T89 := ⟨y89⟩
abbrev T90 : TI := ⟨1, 8, some ([c64 0]), .int .u64, true⟩
theorem y90 : tiOf Try.prog 90 = some T90 := by kernel_rfl
instance : TiOf Try.prog 90 T90 := ⟨y90⟩
abbrev T92 : TI := ⟨1, 8, some ([.nilf]), .func, true⟩
theorem y92 : tiOf Try.prog 92 = some T92 := by kernel_rfl
instance : TiOf Try.prog 92 T92 := ⟨y92⟩
abbrev T93 : TI := ⟨1, 8, some ([.nilf]), .func, true⟩
theorem y93 : tiOf Try.prog 93 = some T93 := by kernel_rfl
instance : TiOf Try.prog 93 T93 := ⟨y93⟩
abbrev T94 : TI := ⟨3, 24, some ([c64 0, c64 0, .bool false]), .struct [(0, 34), (1, 34), (2, 4)], true⟩
theorem y94 : tiOf Try.prog 94 = some T94 := by kernel_rfl
instance : TiOf Try.prog 94 T94 := ⟨y94⟩
abbrev T95 : TI := ⟨3, 24, some ([c64 0, c64 0, .bool false]), .struct [(0, 34), (1, 34), (2, 4)], true⟩
theorem y95 : tiOf Try.prog 95 = some T95 := by kernel_rfl
instance : TiOf Try.prog 95 T95 := ⟨y95⟩
abbrev T96 : TI := ⟨1, 8, some ([.nilf]), .func, true⟩
theorem y96 : tiOf Try.prog 96 = some T96 := by kernel_rfl
instance : TiOf Try.prog 96 T96 := ⟨y96⟩
abbrev T97 : TI := ⟨1, 8, some ([.nilf]), .func, true⟩
theorem y97 : tiOf Try.prog 97 = some T97 := by kernel_rfl
instance : TiOf Try.prog 97 T97 := ⟨y97⟩
abbrev T98 : TI := ⟨1, 4, some ([c32 0]), .int .u32, true⟩
theorem y98 : tiOf Try.prog 98 = some T98 := by kernel_rfl
instance : TiOf Try.prog 98 T98 := ⟨y98⟩
abbrev T99 : TI := ⟨16, 16, some (u8s (List.replicate 16 0)), .array 16 5, true⟩
theorem y99 : tiOf Try.prog 99 = some T99 := by kernel_rfl
instance : TiOf Try.prog 99 T99 := ⟨y99⟩
abbrev T100 : TI := ⟨1, 8, some ([.nilf]), .func, true⟩
theorem y100 : tiOf Try.prog 100 = some T100 := by kernel_rfl
instance : TiOf Try.prog 100 T100 := ⟨y100⟩
abbrev T101 : TI := ⟨1, 8, some ([.nilf]), .func, true⟩
theorem y101 : tiOf Try.prog 101 = some T101 := by kernel_rfl
instance : TiOf Try.prog 101 T101 := ⟨y101⟩
abbrev T102 : TI := ⟨1, 8, some ([.nilf]), .func, true⟩
theorem y102 : tiOf Try.prog 102 = some T102 := by kernel_rfl
instance : TiOf Try.prog 102 T102 := ⟨y102⟩
abbrev T103 : TI := ⟨64, 64, some (u8s (List.replicate 64 0)), .array 64 5, true⟩
theorem y103 : tiOf Try.prog 103 = some T103 := by kernel_rfl
instance : TiOf Try.prog 103 T103 := ⟨y103⟩
abbrev T104 : TI := ⟨64, 64, some (u8s (List.replicate 64 0)), .array 64 5, true⟩
theorem y104 : tiOf Try.prog 104 = some T104 := by kernel_rfl
instance : TiOf Try.prog 104 T104 := ⟨y104⟩
abbrev T105 : TI := ⟨1, 8, some ([.nilf]), .func, true⟩
theorem y105 : tiOf Try.prog 105 = some T105 := by kernel_rfl
instance : TiOf Try.prog 105 T105 := ⟨y105⟩
abbrev T106 : TI := ⟨1, 8, some ([.nilf]), .func, true⟩
theorem y106 : tiOf Try.prog 106 = some T106 := by kernel_rfl
instance : TiOf Try.prog 106 T106 := ⟨y106⟩
abbrev T107 : TI := ⟨1, 8, some ([.nilf]), .func, true⟩
theorem y107 : tiOf Try.prog 107 = some T107 := by kernel_rfl
instance : TiOf Try.prog 107 T107 := ⟨y107⟩
abbrev T108 : TI := ⟨1, 8, some ([.nilf]), .func, true⟩
theorem y108 : tiOf Try.prog 108 = some T108 := by kernel_rfl
instance : TiOf Try.prog 108 T108 := ⟨y108⟩
abbrev T109 : TI := ⟨16, 64, some (u32s (List.replicate 16 0)), .array 16 98, true⟩
theorem y109 : tiOf Try.prog 109 = some T109 := by kernel_rfl
instance : TiOf Try.prog 109 T109 := ⟨y109⟩
abbrev T110 : TI := ⟨1, 8, some ([.nilf]), .func, true⟩
theorem y110 : tiOf Try.prog 110 = some T110 := by kernel_rfl
instance : TiOf Try.prog 110 T110 := ⟨y110⟩
abbrev T111 : TI := ⟨2, 16, some (i64s (List.replicate 2 0)), .array 2 3, true⟩
theorem y111 : tiOf Try.prog 111 = some T111 := by kernel_rfl
instance : TiOf Try.prog 111 T111 := ⟨y111⟩
abbrev T112 : TI := ⟨4, 32, some (i64s (List.replicate 4 0)), .array 2 111, true⟩
theorem y112 : tiOf Try.prog 112 = some T112 := by kernel_rfl
instance : TiOf Try.prog 112 T112 := ⟨y112⟩
abbrev T113 : TI := ⟨1, 8, some ([.nilf]), .func, true⟩
theorem y113 : tiOf Try.prog 113 = some T113 := by kernel_rfl
instance : TiOf Try.prog 113 T113 := ⟨y113⟩
abbrev T114 : TI := ⟨1, 8, some ([.nilf]), .func, true⟩
theorem y114 : tiOf Try.prog 114 = some T114 := by kernel_rfl
instance : TiOf Try.prog 114 T114 := ⟨y114⟩
abbrev T115 : TI := ⟨1, 8, some ([.nilf]), .func, true⟩
theorem y115 : tiOf Try.prog 115 = some T115 := by kernel_rfl
instance : TiOf Try.prog 115 T115 := ⟨y115⟩
abbrev T116 : TI := ⟨2, 16, some (u64s (List.replicate 2 0)), .array 2 34, true⟩
theorem y116 : tiOf Try.prog 116 = some T116 := by kernel_rfl
instance : TiOf Try.prog 116 T116 := ⟨y116⟩
abbrev T117 : TI := ⟨3, 24, some (u64s (List.replicate 3 0)), .array 3 34, true⟩
theorem y117 : tiOf Try.prog 117 = some T117 := by kernel_rfl
instance : TiOf Try.prog 117 T117 := ⟨y117⟩
abbrev T118 : TI := ⟨24, 24, some (u8s (List.replicate 24 0)), .array 24 5, true⟩
theorem y118 : tiOf Try.prog 118 = some T118 := by kernel_rfl
instance : TiOf Try.prog 118 T118 := ⟨y118⟩
abbrev T120 : TI := ⟨1, 8, some ([.nilf]), .func, true⟩
theorem y120 : tiOf Try.prog 120 = some T120 := by kernel_rfl
instance : TiOf Try.prog 120 T120 := ⟨y120⟩
abbrev T121 : TI := ⟨1, 8, some ([.nilf]), .func, true⟩
theorem y121 : tiOf Try.prog 121 = some T121 := by kernel_rfl
instance : TiOf Try.prog 121 T121 := ⟨y121⟩
abbrev T122 : TI := ⟨1, 8, some ([.nilf]), .func, true⟩
theorem y122 : tiOf Try.prog 122 = some T122 := by kernel_rfl
instance : TiOf Try.prog 122 T122 := ⟨y122⟩
abbrev T123 : TI := ⟨1, 8, some ([.nilf]), .func, true⟩
theorem y123 : tiOf Try.prog 123 = some T123 := by kernel_rfl
instance : TiOf Try.prog 123 T123 := ⟨y123⟩
abbrev T124 : TI := ⟨16, 128, some (u64s (List.replicate 16 0)), .array 16 34, true⟩
theorem y124 : tiOf Try.prog 124 = some T124 := by kernel_rfl
instance : TiOf Try.prog 124 T124 := ⟨y124⟩
abbrev T125 : TI := ⟨17, 136, some (u64s (List.replicate 17 0)), .array 17 34, true⟩
theorem y125 : tiOf Try.prog 125 = some T125 := by kernel_rfl
instance : TiOf Try.prog 125 T125 := ⟨y125⟩
abbrev T126 : TI := ⟨17, 136, some (u64s (List.replicate 17 0)), .array 17 34, true⟩
theorem y126 : tiOf Try.prog 126 = some T126 := by kernel_rfl
instance : TiOf Try.prog 126 T126 := ⟨y126⟩
abbrev T127 : TI := ⟨34, 272, some (u64s (List.replicate 34 0)), .array 34 34, true⟩
theorem y127 : tiOf Try.prog 127 = some T127 := by kernel_rfl
instance : TiOf Try.prog 127 T127 := ⟨y127⟩
abbrev T128 : TI := ⟨1, 8, some ([.nilf]), .func, true⟩
theorem y128 : tiOf Try.prog 128 = some T128 := by kernel_rfl
instance : TiOf Try.prog 128 T128 := ⟨y128⟩
abbrev T129 : TI := ⟨5, 40, some (u64s (List.replicate 5 0)), .array 5 34, true⟩
theorem y129 : tiOf Try.prog 129 = some T129 := by kernel_rfl
instance : TiOf Try.prog 129 T129 := ⟨y129⟩
abbrev T130 : TI := ⟨1, 8, some ([.nilf]), .func, true⟩
theorem y130 : tiOf Try.prog 130 = some T130 := by kernel_rfl
instance : TiOf Try.prog 130 T130 := ⟨y130⟩
abbrev T131 : TI := ⟨1, 8, some ([.nilf]), .func, true⟩
theorem y131 : tiOf Try.prog 131 = some T131 := by kernel_rfl
instance : TiOf Try.prog 131 T131 := ⟨y131⟩
abbrev T132 : TI := ⟨1, 8, some ([.nilf]), .func, true⟩
theorem y132 : tiOf Try.prog 132 = some T132 := by kernel_rfl
instance : TiOf Try.prog 132 T132 := ⟨y132⟩
abbrev T133 : TI := ⟨4, 40, some ([.nilp, .nilp, .nilp, .str ⟨#[]⟩]), .struct [(0, 17), (1, 17), (2, 17), (3, 9)], true⟩
theorem y133 : tiOf Try.prog 133 = some T133 := by kernel_rfl
instance : TiOf Try.prog 133 T133 := ⟨y133⟩
abbrev T134 : TI := ⟨4, 40, some ([.nilp, .nilp, .nilp, .str ⟨#[]⟩]), .struct [(0, 17), (1, 17), (2, 17), (3, 9)], true⟩
theorem y134 : tiOf Try.prog 134 = some T134 := by kernel_rfl
instance : TiOf Try.prog 134 T134 := ⟨y134⟩
abbrev T135 : TI := ⟨0, 0, some ([]), .array 0 16, true⟩
theorem y135 : tiOf Try.prog 135 = some T135 := by kernel_rfl
instance : TiOf Try.prog 135 T135 := ⟨y135⟩
abbrev T136 : TI := ⟨0, 0, some ([]), .struct [(0, 135)], true⟩
theorem y136 : tiOf Try.prog 136 = some T136 := by kernel_rfl
instance : TiOf Try.prog 136 T136 := ⟨y136⟩
abbrev T137 : TI := ⟨0, 0, some ([]), .struct [(0, 135)], true⟩
theorem y137 : tiOf Try.prog 137 = some T137 := by kernel_rfl
instance : TiOf Try.prog 137 T137 := ⟨y137⟩
abbrev T138 : TI := ⟨1, 8, some ([.nilf]), .func, true⟩
theorem y138 : tiOf Try.prog 138 = some T138 := by kernel_rfl
instance : TiOf Try.prog 138 T138 := ⟨y138⟩
abbrev T139 : TI := ⟨1, 1, some ([c8 0]), .int .u8, true⟩
theorem y139 : tiOf Try.prog 139 = some T139 := by kernel_rfl
instance : TiOf Try.prog 139 T139 := ⟨y139⟩
abbrev T140 : TI := ⟨1, 1, some ([c8 0]), .int .u8, true⟩
theorem y140 : tiOf Try.prog 140 = some T140 := by kernel_rfl
instance : TiOf Try.prog 140 T140 := ⟨y140⟩
abbrev T141 : TI := ⟨1, 8, some ([.nilf]), .func, true⟩
theorem y141 : tiOf Try.prog 141 = some T141 := by kernel_rfl
instance : TiOf Try.prog 141 T141 := ⟨y141⟩
abbrev T142 : TI := ⟨1, 8, some ([.nilp]), .ptr 5, true⟩
theorem y142 : tiOf Try.prog 142 = some T142 := by kernel_rfl
instance : TiOf Try.prog 142 T142 := ⟨y142⟩
abbrev T143 : TI := ⟨1, 4, some ([.int .i32 0]), .int .i32, true⟩
theorem y143 : tiOf Try.prog 143 = some T143 := by kernel_rfl
instance : TiOf Try.prog 143 T143 := ⟨y143⟩
abbrev T144 : TI := ⟨1, 4, some ([.int .i32 0]), .int .i32, true⟩
theorem y144 : tiOf Try.prog 144 = some T144 := by kernel_rfl
instance : TiOf Try.prog 144 T144 := ⟨y144⟩
abbrev T145 : TI := ⟨11, 48, some ([c64 0, c64 0, c32 0] ++ u8s (List.replicate 4 0) ++ [.nilf, .nilp, .int .i32 0, .int .i32 0]), .struct [(0, 12), (1, 12), (2, 98), (3, 139), (4, 5), (5, 5), (6, 140), (7, 141), (8, 142), (9, 143), (10, 144)], true⟩
theorem y145 : tiOf Try.prog 145 = some T145 := by kernel_rfl
instance : TiOf Try.prog 145 T145 := ⟨y145⟩
abbrev T146 : TI := ⟨11, 48, some ([c64 0, c64 0, c32 0] ++ u8s (List.replicate 4 0) ++ [.nilf, .nilp, .int .i32 0, .int .i32 0]), .struct [(0, 12), (1, 12), (2, 98), (3, 139), (4, 5), (5, 5), (6, 140), (7, 141), (8, 142), (9, 143), (10, 144)], true⟩
theorem y146 : tiOf Try.prog 146 = some T146 := by kernel_rfl
instance : TiOf Try.prog 146 T146 := ⟨y146⟩
instance : ZT Try.prog 1 T1 ([.nilf]) := ⟨y1, rfl⟩
instance : ZT Try.prog 2 T2 ([cn 0]) := ⟨y2, rfl⟩
instance : ZT Try.prog 3 T3 ([cn 0]) := ⟨y3, rfl⟩
instance : ZT Try.prog 4 T4 ([.bool false]) := ⟨y4, rfl⟩
instance : ZT Try.prog 5 T5 ([c8 0]) := ⟨y5, rfl⟩
instance : ZT Try.prog 6 T6 ([c8 0]) := ⟨y6, rfl⟩
instance : ZT Try.prog 7 T7 ([cn 0, cn 0, .bool false, c8 0]) := ⟨y7, rfl⟩
instance : StT Try.prog 7 T7 [(0, 2), (1, 3), (2, 4), (3, 6)] := ⟨y7, rfl⟩
instance : ZT Try.prog 8 T8 ([cn 0, cn 0, .bool false, c8 0]) := ⟨y8, rfl⟩
instance : StT Try.prog 8 T8 [(0, 2), (1, 3), (2, 4), (3, 6)] := ⟨y8, rfl⟩
instance : ZT Try.prog 9 T9 ([.str ⟨#[]⟩]) := ⟨y9, rfl⟩
instance : ZT Try.prog 10 T10 ([.str ⟨#[]⟩]) := ⟨y10, rfl⟩
instance : ZT Try.prog 11 T11 ([.str ⟨#[]⟩]) := ⟨y11, rfl⟩
instance : ZT Try.prog 12 T12 ([c64 0]) := ⟨y12, rfl⟩
instance : ZT Try.prog 13 T13 ([.str ⟨#[]⟩, c64 0]) := ⟨y13, rfl⟩
instance : StT Try.prog 13 T13 [(0, 9), (1, 12)] := ⟨y13, rfl⟩
instance : ZT Try.prog 14 T14 ([.str ⟨#[]⟩, c64 0]) := ⟨y14, rfl⟩
instance : StT Try.prog 14 T14 [(0, 9), (1, 12)] := ⟨y14, rfl⟩
instance : ZT Try.prog 15 T15 ([.nilp]) := ⟨y15, rfl⟩
instance : ZT Try.prog 16 T16 ([.nilp]) := ⟨y16, rfl⟩
instance : ZT Try.prog 17 T17 ([.nilp]) := ⟨y17, rfl⟩
instance : ZT Try.prog 18 T18 ([.nilp]) := ⟨y18, rfl⟩
instance : StT Try.prog 18 T18 [(0, 17)] := ⟨y18, rfl⟩
instance : ZT Try.prog 19 T19 ([.nilp]) := ⟨y19, rfl⟩
instance : StT Try.prog 19 T19 [(0, 17)] := ⟨y19, rfl⟩
instance : ZT Try.prog 21 T21 ([.int .i32 0]) := ⟨y21, rfl⟩
instance : ZT Try.prog 22 T22 (u8s (List.replicate 32 0)) := ⟨y22, rfl⟩
instance : ZT Try.prog 23 T23 (u8s (List.replicate 32 0)) := ⟨y23, rfl⟩
instance : ZT Try.prog 24 T24 ([.nils]) := ⟨y24, rfl⟩
instance : ZT Try.prog 25 T25 ([.nilf]) := ⟨y25, rfl⟩
instance : ZT Try.prog 26 T26 ([.nilp]) := ⟨y26, rfl⟩
instance : ZT Try.prog 28 T28 ([.nilf]) := ⟨y28, rfl⟩
instance : ZT Try.prog 29 T29 ([.nils]) := ⟨y29, rfl⟩
instance : ZT Try.prog 30 T30 ([.nils]) := ⟨y30, rfl⟩
instance : ZT Try.prog 31 T31 ([cn 0]) := ⟨y31, rfl⟩
instance : ZT Try.prog 33 T33 ([.nilf]) := ⟨y33, rfl⟩
instance : ZT Try.prog 34 T34 ([c64 0]) := ⟨y34, rfl⟩
instance : ZT Try.prog 36 T36 ([.nilf]) := ⟨y36, rfl⟩
instance : ZT Try.prog 37 T37 ([.nilf]) := ⟨y37, rfl⟩
instance : ZT Try.prog 38 T38 ([.nilp]) := ⟨y38, rfl⟩
instance : ZT Try.prog 40 T40 ([.nilf]) := ⟨y40, rfl⟩
instance : ZT Try.prog 41 T41 ([.nilf]) := ⟨y41, rfl⟩
instance : ZT Try.prog 42 T42 ([.nilf]) := ⟨y42, rfl⟩
instance : ZT Try.prog 43 T43 ([.nilf]) := ⟨y43, rfl⟩
instance : ZT Try.prog 44 T44 ([.nilf]) := ⟨y44, rfl⟩
instance : ZT Try.prog 45 T45 ([.nilf]) := ⟨y45, rfl⟩
instance : ZT Try.prog 46 T46 ([.nilf]) := ⟨y46, rfl⟩
instance : ZT Try.prog 47 T47 ([.nils]) := ⟨y47, rfl⟩
instance : ZT Try.prog 48 T48 ([.nilp]) := ⟨y48, rfl⟩
instance : ZT Try.prog 49 T49 ([.nils]) := ⟨y49, rfl⟩
instance : ZT Try.prog 50 T50 (u8s (List.replicate 96 0) ++ [c64 0, .nils]) := ⟨y50, rfl⟩
instance : StT Try.prog 50 T50 [(0, 23), (32, 23), (64, 23), (96, 34), (97, 49)] := ⟨y50, rfl⟩
instance : ZT Try.prog 51 T51 (u8s (List.replicate 96 0) ++ [c64 0, .nils]) := ⟨y51, rfl⟩
instance : StT Try.prog 51 T51 [(0, 23), (32, 23), (64, 23), (96, 34), (97, 49)] := ⟨y51, rfl⟩
instance : ZT Try.prog 52 T52 ([cn 0, .nils, c64 0, cn 0]) := ⟨y52, rfl⟩
instance : StT Try.prog 52 T52 [(0, 3), (1, 30), (2, 34), (3, 3)] := ⟨y52, rfl⟩
instance : ZT Try.prog 53 T53 ([cn 0, .nils, c64 0, cn 0]) := ⟨y53, rfl⟩
instance : StT Try.prog 53 T53 [(0, 3), (1, 30), (2, 34), (3, 3)] := ⟨y53, rfl⟩
instance : ZT Try.prog 55 T55 ([.nilf]) := ⟨y55, rfl⟩
instance : ZT Try.prog 57 T57 ([.nilf]) := ⟨y57, rfl⟩
instance : ZT Try.prog 59 T59 ([.nilf]) := ⟨y59, rfl⟩
instance : ZT Try.prog 60 T60 ([.nilf]) := ⟨y60, rfl⟩
instance : ZT Try.prog 61 T61 ([.nilf]) := ⟨y61, rfl⟩
instance : ZT Try.prog 62 T62 ([.nilf]) := ⟨y62, rfl⟩
instance : ZT Try.prog 63 T63 ([.nilf]) := ⟨y63, rfl⟩
instance : ZT Try.prog 64 T64 ([.nilf]) := ⟨y64, rfl⟩
instance : ZT Try.prog 65 T65 ([.nilp, .nilp]) := ⟨y65, rfl⟩
instance : ZT Try.prog 66 T66 ([c64 0, .nilp, .nilp]) := ⟨y66, rfl⟩
instance : StT Try.prog 66 T66 [(0, 34), (1, 65)] := ⟨y66, rfl⟩
instance : ZT Try.prog 67 T67 ([c64 0, .nilp, .nilp]) := ⟨y67, rfl⟩
instance : StT Try.prog 67 T67 [(0, 34), (1, 65)] := ⟨y67, rfl⟩
instance : ZT Try.prog 68 T68 ([.nilp]) := ⟨y68, rfl⟩
instance : ZT Try.prog 69 T69 ([c64 0, .nilp, .nilp, c64 0, .nilp, .nilp, c64 0, .nilp, c64 0, .bool false] ++ u8s (List.replicate 32 0)) := ⟨y69, rfl⟩
instance : StT Try.prog 69 T69 [(0, 67), (3, 67), (6, 34), (7, 68), (8, 34), (9, 4), (10, 23)] := ⟨y69, rfl⟩
instance : ZT Try.prog 70 T70 ([c64 0, .nilp, .nilp, c64 0, .nilp, .nilp, c64 0, .nilp, c64 0, .bool false] ++ u8s (List.replicate 32 0)) := ⟨y70, rfl⟩
instance : StT Try.prog 70 T70 [(0, 67), (3, 67), (6, 34), (7, 68), (8, 34), (9, 4), (10, 23)] := ⟨y70, rfl⟩
instance : ZT Try.prog 71 T71 ([.nils]) := ⟨y71, rfl⟩
instance : ZT Try.prog 72 T72 ([.nilf]) := ⟨y72, rfl⟩
instance : ZT Try.prog 73 T73 ([.nilf]) := ⟨y73, rfl⟩
instance : ZT Try.prog 74 T74 ([.nilf]) := ⟨y74, rfl⟩
instance : ZT Try.prog 75 T75 ([.nilf]) := ⟨y75, rfl⟩
instance : ZT Try.prog 77 T77 ([.nilf]) := ⟨y77, rfl⟩
instance : ZT Try.prog 78 T78 ([.nilf]) := ⟨y78, rfl⟩
instance : ZT Try.prog 79 T79 ([.nilp]) := ⟨y79, rfl⟩
instance : ZT Try.prog 80 T80 ([.nilp]) := ⟨y80, rfl⟩
instance : ZT Try.prog 81 T81 ([.nilp, c64 0, .bool false]) := ⟨y81, rfl⟩
instance : StT Try.prog 81 T81 [(0, 80), (1, 34), (2, 4)] := ⟨y81, rfl⟩
instance : ZT Try.prog 82 T82 ([.nilp, c64 0, .bool false]) := ⟨y82, rfl⟩
instance : StT Try.prog 82 T82 [(0, 80), (1, 34), (2, 4)] := ⟨y82, rfl⟩
instance : ZT Try.prog 83 T83 ([.nilf]) := ⟨y83, rfl⟩
instance : ZT Try.prog 84 T84 ([.nilf]) := ⟨y84, rfl⟩
instance : ZT Try.prog 85 T85 ([.nilf]) := ⟨y85, rfl⟩
instance : ZT Try.prog 86 T86 (u8s (List.replicate 12 0)) := ⟨y86, rfl⟩
instance : ZT Try.prog 87 T87 ([.nilf]) := ⟨y87, rfl⟩
instance : ZT Try.prog 88 T88 ([.nilf]) := ⟨y88, rfl⟩
instance : ZT Try.prog 89 T89 ([.nilf]) := ⟨y89, rfl⟩
instance : ZT Try.prog 90 T90 ([c64 0]) := ⟨y90, rfl⟩
instance : ZT Try.prog 92 T92 ([.nilf]) := ⟨y92, rfl⟩
instance : ZT Try.prog 93 T93 ([.nilf]) := ⟨y93, rfl⟩
instance : ZT Try.prog 94 T94 ([c64 0, c64 0, .bool false]) := ⟨y94, rfl⟩
instance : StT Try.prog 94 T94 [(0, 34), (1, 34), (2, 4)] := ⟨y94, rfl⟩
instance : ZT Try.prog 95 T95 ([c64 0, c64 0, .bool false]) := ⟨y95, rfl⟩
instance : StT Try.prog 95 T95 [(0, 34), (1, 34), (2, 4)] := ⟨y95, rfl⟩
instance : ZT Try.prog 96 T96 ([.nilf]) := ⟨y96, rfl⟩
instance : ZT Try.prog 97 T97 ([.nilf]) := ⟨y97, rfl⟩
instance : ZT Try.prog 98 T98 ([c32 0]) := ⟨y98, rfl⟩
instance : ZT Try.prog 99 T99 (u8s (List.replicate 16 0)) := ⟨y99, rfl⟩
instance : ZT Try.prog 100 T100 ([.nilf]) := ⟨y100, rfl⟩
instance : ZT Try.prog 101 T101 ([.nilf]) := ⟨y101, rfl⟩
instance : ZT Try.prog 102 T102 ([.nilf]) := ⟨y102, rfl⟩
instance : ZT Try.prog 103 T103 (u8s (List.replicate 64 0)) := ⟨y103, rfl⟩
instance : ZT Try.prog 104 T104 (u8s (List.replicate 64 0)) := ⟨y104, rfl⟩
instance : ZT Try.prog 105 T105 ([.nilf]) := ⟨y105, rfl⟩
instance : ZT Try.prog 106 T106 ([.nilf]) := ⟨y106, rfl⟩
instance : ZT Try.prog 107 T107 ([.nilf]) := ⟨y107, rfl⟩
instance : ZT Try.prog 108 T108 ([.nilf]) := ⟨y108, rfl⟩
instance : ZT Try.prog 109 T109 (u32s (List.replicate 16 0)) := ⟨y109, rfl⟩
instance : ZT Try.prog 110 T110 ([.nilf]) := ⟨y110, rfl⟩
instance : ZT Try.prog 111 T111 (i64s (List.replicate 2 0)) := ⟨y111, rfl⟩
instance : ZT Try.prog 112 T112 (i64s (List.replicate 4 0)) := ⟨y112, rfl⟩
instance : ZT Try.prog 113 T113 ([.nilf]) := ⟨y113, rfl⟩
instance : ZT Try.prog 114 T114 ([.nilf]) := ⟨y114, rfl⟩
instance : ZT Try.prog 115 T115 ([.nilf]) := ⟨y115, rfl⟩
instance : ZT Try.prog 116 T116 (u64s (List.replicate 2 0)) := ⟨y116, rfl⟩
instance : ZT Try.prog 117 T117 (u64s (List.replicate 3 0)) := ⟨y117, rfl⟩
instance : ZT Try.prog 118 T118 (u8s (List.replicate 24 0)) := ⟨y118, rfl⟩
instance : ZT Try.prog 120 T120 ([.nilf]) := ⟨y120, rfl⟩
instance : ZT Try.prog 121 T121 ([.nilf]) := ⟨y121, rfl⟩
instance : ZT Try.prog 122 T122 ([.nilf]) := ⟨y122, rfl⟩
instance : ZT Try.prog 123 T123 ([.nilf]) := ⟨y123, rfl⟩
instance : ZT Try.prog 124 T124 (u64s (List.replicate 16 0)) := ⟨y124, rfl⟩
instance : ZT Try.prog 125 T125 (u64s (List.replicate 17 0)) := ⟨y125, rfl⟩
instance : ZT Try.prog 126 T126 (u64s (List.replicate 17 0)) := ⟨y126, rfl⟩
instance : ZT Try.prog 127 T127 (u64s (List.replicate 34 0)) := ⟨y127, rfl⟩
instance : ZT Try.prog 128 T128 ([.nilf]) := ⟨y128, rfl⟩
instance : ZT Try.prog 129 T129 (u64s (List.replicate 5 0)) := ⟨y129, rfl⟩
instance : ZT Try.prog 130 T130 ([.nilf]) := ⟨y130, rfl⟩
instance : ZT Try.prog 131 T131 ([.nilf]) := ⟨y131, rfl⟩
instance : ZT Try.prog 132 T132 ([.nilf]) := ⟨y132, rfl⟩
instance : ZT Try.prog 133 T133 ([.nilp, .nilp, .nilp, .str ⟨#[]⟩]) := ⟨y133, rfl⟩
instance : StT Try.prog 133 T133 [(0, 17), (1, 17), (2, 17), (3, 9)] := ⟨y133, rfl⟩
instance : ZT Try.prog 134 T134 ([.nilp, .nilp, .nilp, .str ⟨#[]⟩]) := ⟨y134, rfl⟩
instance : StT Try.prog 134 T134 [(0, 17), (1, 17), (2, 17), (3, 9)] := ⟨y134, rfl⟩
instance : ZT Try.prog 135 T135 ([]) := ⟨y135, rfl⟩
instance : ZT Try.prog 136 T136 ([]) := ⟨y136, rfl⟩
instance : StT Try.prog 136 T136 [(0, 135)] := ⟨y136, rfl⟩
instance : ZT Try.prog 137 T137 ([]) := ⟨y137, rfl⟩
instance : StT Try.prog 137 T137 [(0, 135)] := ⟨y137, rfl⟩
instance : ZT Try.prog 138 T138 ([.nilf]) := ⟨y138, rfl⟩
instance : ZT Try.prog 139 T139 ([c8 0]) := ⟨y139, rfl⟩
instance : ZT Try.prog 140 T140 ([c8 0]) := ⟨y140, rfl⟩
instance : ZT Try.prog 141 T141 ([.nilf]) := ⟨y141, rfl⟩
instance : ZT Try.prog 142 T142 ([.nilp]) := ⟨y142, rfl⟩
instance : ZT Try.prog 143 T143 ([.int .i32 0]) := ⟨y143, rfl⟩
instance : ZT Try.prog 144 T144 ([.int .i32 0]) := ⟨y144, rfl⟩
instance : ZT Try.prog 145 T145 ([c64 0, c64 0, c32 0] ++ u8s (List.replicate 4 0) ++ [.nilf, .nilp, .int .i32 0, .int .i32 0]) := ⟨y145, rfl⟩
instance : StT Try.prog 145 T145 [(0, 12), (1, 12), (2, 98), (3, 139), (4, 5), (5, 5), (6, 140), (7, 141), (8, 142), (9, 143), (10, 144)] := ⟨y145, rfl⟩
instance : ZT Try.prog 146 T146 ([c64 0, c64 0, c32 0] ++ u8s (List.replicate 4 0) ++ [.nilf, .nilp, .int .i32 0, .int .i32 0]) := ⟨y146, rfl⟩
instance : StT Try.prog 146 T146 [(0, 12), (1, 12), (2, 98), (3, 139), (4, 5), (5, 5), (6, 140), (7, 141), (8, 142), (9, 143), (10, 144)] := ⟨y146, rfl⟩
instance : FdT Try.prog 7 0 T7 [(0, 2), (1, 3), (2, 4), (3, 6)] 0 2 T2 1 := ⟨y7, rfl, rfl, y2, rfl⟩
instance : FdT Try.prog 7 1 T7 [(0, 2), (1, 3), (2, 4), (3, 6)] 1 3 T3 1 := ⟨y7, rfl, rfl, y3, rfl⟩
instance : FdT Try.prog 7 2 T7 [(0, 2), (1, 3), (2, 4), (3, 6)] 2 4 T4 1 := ⟨y7, rfl, rfl, y4, rfl⟩
instance : FdT Try.prog 7 3 T7 [(0, 2), (1, 3), (2, 4), (3, 6)] 3 6 T6 1 := ⟨y7, rfl, rfl, y6, rfl⟩
instance : FdT Try.prog 8 0 T8 [(0, 2), (1, 3), (2, 4), (3, 6)] 0 2 T2 1 := ⟨y8, rfl, rfl, y2, rfl⟩
instance : FdT Try.prog 8 1 T8 [(0, 2), (1, 3), (2, 4), (3, 6)] 1 3 T3 1 := ⟨y8, rfl, rfl, y3, rfl⟩
instance : FdT Try.prog 8 2 T8 [(0, 2), (1, 3), (2, 4), (3, 6)] 2 4 T4 1 := ⟨y8, rfl, rfl, y4, rfl⟩
instance : FdT Try.prog 8 3 T8 [(0, 2), (1, 3), (2, 4), (3, 6)] 3 6 T6 1 := ⟨y8, rfl, rfl, y6, rfl⟩
instance : FdT Try.prog 13 0 T13 [(0, 9), (1, 12)] 0 9 T9 1 := ⟨y13, rfl, rfl, y9, rfl⟩
instance : FdT Try.prog 13 1 T13 [(0, 9), (1, 12)] 1 12 T12 1 := ⟨y13, rfl, rfl, y12, rfl⟩
instance : FdT Try.prog 14 0 T14 [(0, 9), (1, 12)] 0 9 T9 1 := ⟨y14, rfl, rfl, y9, rfl⟩
instance : FdT Try.prog 14 1 T14 [(0, 9), (1, 12)] 1 12 T12 1 := ⟨y14, rfl, rfl, y12, rfl⟩
instance : FdT Try.prog 18 0 T18 [(0, 17)] 0 17 T17 1 := ⟨y18, rfl, rfl, y17, rfl⟩
instance : FdT Try.prog 19 0 T19 [(0, 17)] 0 17 T17 1 := ⟨y19, rfl, rfl, y17, rfl⟩
instance : ArT Try.prog 22 T22 32 5 T5 1 := ⟨y22, rfl, y5, rfl⟩
instance : ArT Try.prog 23 T23 32 5 T5 1 := ⟨y23, rfl, y5, rfl⟩
instance : SlT Try.prog 24 T24 3 T3 1 := ⟨y24, rfl, y3, rfl⟩
instance : SlT Try.prog 29 T29 30 T30 1 := ⟨y29, rfl, y30, rfl⟩
instance : SlT Try.prog 30 T30 5 T5 1 := ⟨y30, rfl, y5, rfl⟩
instance : SlT Try.prog 47 T47 53 T53 4 := ⟨y47, rfl, y53, rfl⟩
instance : SlT Try.prog 49 T49 34 T34 1 := ⟨y49, rfl, y34, rfl⟩
instance : FdT Try.prog 50 0 T50 [(0, 23), (32, 23), (64, 23), (96, 34), (97, 49)] 0 23 T23 32 := ⟨y50, rfl, rfl, y23, rfl⟩
instance : FdT Try.prog 50 1 T50 [(0, 23), (32, 23), (64, 23), (96, 34), (97, 49)] 32 23 T23 32 := ⟨y50, rfl, rfl, y23, rfl⟩
instance : FdT Try.prog 50 2 T50 [(0, 23), (32, 23), (64, 23), (96, 34), (97, 49)] 64 23 T23 32 := ⟨y50, rfl, rfl, y23, rfl⟩
instance : FdT Try.prog 50 3 T50 [(0, 23), (32, 23), (64, 23), (96, 34), (97, 49)] 96 34 T34 1 := ⟨y50, rfl, rfl, y34, rfl⟩
instance : FdT Try.prog 50 4 T50 [(0, 23), (32, 23), (64, 23), (96, 34), (97, 49)] 97 49 T49 1 := ⟨y50, rfl, rfl, y49, rfl⟩
instance : FdT Try.prog 51 0 T51 [(0, 23), (32, 23), (64, 23), (96, 34), (97, 49)] 0 23 T23 32 := ⟨y51, rfl, rfl, y23, rfl⟩
instance : FdT Try.prog 51 1 T51 [(0, 23), (32, 23), (64, 23), (96, 34), (97, 49)] 32 23 T23 32 := ⟨y51, rfl, rfl, y23, rfl⟩
instance : FdT Try.prog 51 2 T51 [(0, 23), (32, 23), (64, 23), (96, 34), (97, 49)] 64 23 T23 32 := ⟨y51, rfl, rfl, y23, rfl⟩
instance : FdT Try.prog 51 3 T51 [(0, 23), (32, 23), (64, 23), (96, 34), (97, 49)] 96 34 T34 1 := ⟨y51, rfl, rfl, y34, rfl⟩
instance : FdT Try.prog 51 4 T51 [(0, 23), (32, 23), (64, 23), (96, 34), (97, 49)] 97 49 T49 1 := ⟨y51, rfl, rfl, y49, rfl⟩
instance : FdT Try.prog 52 0 T52 [(0, 3), (1, 30), (2, 34), (3, 3)] 0 3 T3 1 := ⟨y52, rfl, rfl, y3, rfl⟩
instance : FdT Try.prog 52 1 T52 [(0, 3), (1, 30), (2, 34), (3, 3)] 1 30 T30 1 := ⟨y52, rfl, rfl, y30, rfl⟩
instance : FdT Try.prog 52 2 T52 [(0, 3), (1, 30), (2, 34), (3, 3)] 2 34 T34 1 := ⟨y52, rfl, rfl, y34, rfl⟩
instance : FdT Try.prog 52 3 T52 [(0, 3), (1, 30), (2, 34), (3, 3)] 3 3 T3 1 := ⟨y52, rfl, rfl, y3, rfl⟩
instance : FdT Try.prog 53 0 T53 [(0, 3), (1, 30), (2, 34), (3, 3)] 0 3 T3 1 := ⟨y53, rfl, rfl, y3, rfl⟩
instance : FdT Try.prog 53 1 T53 [(0, 3), (1, 30), (2, 34), (3, 3)] 1 30 T30 1 := ⟨y53, rfl, rfl, y30, rfl⟩
instance : FdT Try.prog 53 2 T53 [(0, 3), (1, 30), (2, 34), (3, 3)] 2 34 T34 1 := ⟨y53, rfl, rfl, y34, rfl⟩
instance : FdT Try.prog 53 3 T53 [(0, 3), (1, 30), (2, 34), (3, 3)] 3 3 T3 1 := ⟨y53, rfl, rfl, y3, rfl⟩
instance : ArT Try.prog 65 T65 2 38 T38 1 := ⟨y65, rfl, y38, rfl⟩
instance : FdT Try.prog 66 0 T66 [(0, 34), (1, 65)] 0 34 T34 1 := ⟨y66, rfl, rfl, y34, rfl⟩
instance : FdT Try.prog 66 1 T66 [(0, 34), (1, 65)] 1 65 T65 2 := ⟨y66, rfl, rfl, y65, rfl⟩
instance : FdT Try.prog 67 0 T67 [(0, 34), (1, 65)] 0 34 T34 1 := ⟨y67, rfl, rfl, y34, rfl⟩
instance : FdT Try.prog 67 1 T67 [(0, 34), (1, 65)] 1 65 T65 2 := ⟨y67, rfl, rfl, y65, rfl⟩
instance : FdT Try.prog 69 0 T69 [(0, 67), (3, 67), (6, 34), (7, 68), (8, 34), (9, 4), (10, 23)] 0 67 T67 3 := ⟨y69, rfl, rfl, y67, rfl⟩
instance : FdT Try.prog 69 1 T69 [(0, 67), (3, 67), (6, 34), (7, 68), (8, 34), (9, 4), (10, 23)] 3 67 T67 3 := ⟨y69, rfl, rfl, y67, rfl⟩
instance : FdT Try.prog 69 2 T69 [(0, 67), (3, 67), (6, 34), (7, 68), (8, 34), (9, 4), (10, 23)] 6 34 T34 1 := ⟨y69, rfl, rfl, y34, rfl⟩
instance : FdT Try.prog 69 3 T69 [(0, 67), (3, 67), (6, 34), (7, 68), (8, 34), (9, 4), (10, 23)] 7 68 T68 1 := ⟨y69, rfl, rfl, y68, rfl⟩
instance : FdT Try.prog 69 4 T69 [(0, 67), (3, 67), (6, 34), (7, 68), (8, 34), (9, 4), (10, 23)] 8 34 T34 1 := ⟨y69, rfl, rfl, y34, rfl⟩
instance : FdT Try.prog 69 5 T69 [(0, 67), (3, 67), (6, 34), (7, 68), (8, 34), (9, 4), (10, 23)] 9 4 T4 1 := ⟨y69, rfl, rfl, y4, rfl⟩
instance : FdT Try.prog 69 6 T69 [(0, 67), (3, 67), (6, 34), (7, 68), (8, 34), (9, 4), (10, 23)] 10 23 T23 32 := ⟨y69, rfl, rfl, y23, rfl⟩
instance : FdT Try.prog 70 0 T70 [(0, 67), (3, 67), (6, 34), (7, 68), (8, 34), (9, 4), (10, 23)] 0 67 T67 3 := ⟨y70, rfl, rfl, y67, rfl⟩
instance : FdT Try.prog 70 1 T70 [(0, 67), (3, 67), (6, 34), (7, 68), (8, 34), (9, 4), (10, 23)] 3 67 T67 3 := ⟨y70, rfl, rfl, y67, rfl⟩
instance : FdT Try.prog 70 2 T70 [(0, 67), (3, 67), (6, 34), (7, 68), (8, 34), (9, 4), (10, 23)] 6 34 T34 1 := ⟨y70, rfl, rfl, y34, rfl⟩
instance : FdT Try.prog 70 3 T70 [(0, 67), (3, 67), (6, 34), (7, 68), (8, 34), (9, 4), (10, 23)] 7 68 T68 1 := ⟨y70, rfl, rfl, y68, rfl⟩
instance : FdT Try.prog 70 4 T70 [(0, 67), (3, 67), (6, 34), (7, 68), (8, 34), (9, 4), (10, 23)] 8 34 T34 1 := ⟨y70, rfl, rfl, y34, rfl⟩
instance : FdT Try.prog 70 5 T70 [(0, 67), (3, 67), (6, 34), (7, 68), (8, 34), (9, 4), (10, 23)] 9 4 T4 1 := ⟨y70, rfl, rfl, y4, rfl⟩
instance : FdT Try.prog 70 6 T70 [(0, 67), (3, 67), (6, 34), (7, 68), (8, 34), (9, 4), (10, 23)] 10 23 T23 32 := ⟨y70, rfl, rfl, y23, rfl⟩
instance : SlT Try.prog 71 T71 26 T26 1 := ⟨y71, rfl, y26, rfl⟩
instance : FdT Try.prog 81 0 T81 [(0, 80), (1, 34), (2, 4)] 0 80 T80 1 := ⟨y81, rfl, rfl, y80, rfl⟩
instance : FdT Try.prog 81 1 T81 [(0, 80), (1, 34), (2, 4)] 1 34 T34 1 := ⟨y81, rfl, rfl, y34, rfl⟩
instance : FdT Try.prog 81 2 T81 [(0, 80), (1, 34), (2, 4)] 2 4 T4 1 := ⟨y81, rfl, rfl, y4, rfl⟩
instance : FdT Try.prog 82 0 T82 [(0, 80), (1, 34), (2, 4)] 0 80 T80 1 := ⟨y82, rfl, rfl, y80, rfl⟩
instance : FdT Try.prog 82 1 T82 [(0, 80), (1, 34), (2, 4)] 1 34 T34 1 := ⟨y82, rfl, rfl, y34, rfl⟩
instance : FdT Try.prog 82 2 T82 [(0, 80), (1, 34), (2, 4)] 2 4 T4 1 := ⟨y82, rfl, rfl, y4, rfl⟩
instance : ArT Try.prog 86 T86 12 5 T5 1 := ⟨y86, rfl, y5, rfl⟩
instance : FdT Try.prog 94 0 T94 [(0, 34), (1, 34), (2, 4)] 0 34 T34 1 := ⟨y94, rfl, rfl, y34, rfl⟩
instance : FdT Try.prog 94 1 T94 [(0, 34), (1, 34), (2, 4)] 1 34 T34 1 := ⟨y94, rfl, rfl, y34, rfl⟩
instance : FdT Try.prog 94 2 T94 [(0, 34), (1, 34), (2, 4)] 2 4 T4 1 := ⟨y94, rfl, rfl, y4, rfl⟩
instance : FdT Try.prog 95 0 T95 [(0, 34), (1, 34), (2, 4)] 0 34 T34 1 := ⟨y95, rfl, rfl, y34, rfl⟩
instance : FdT Try.prog 95 1 T95 [(0, 34), (1, 34), (2, 4)] 1 34 T34 1 := ⟨y95, rfl, rfl, y34, rfl⟩
instance : FdT Try.prog 95 2 T95 [(0, 34), (1, 34), (2, 4)] 2 4 T4 1 := ⟨y95, rfl, rfl, y4, rfl⟩
instance : ArT Try.prog 99 T99 16 5 T5 1 := ⟨y99, rfl, y5, rfl⟩
instance : ArT Try.prog 103 T103 64 5 T5 1 := ⟨y103, rfl, y5, rfl⟩
instance : ArT Try.prog 104 T104 64 5 T5 1 := ⟨y104, rfl, y5, rfl⟩
instance : ArT Try.prog 109 T109 16 98 T98 1 := ⟨y109, rfl, y98, rfl⟩
instance : ArT Try.prog 111 T111 2 3 T3 1 := ⟨y111, rfl, y3, rfl⟩
instance : ArT Try.prog 112 T112 2 111 T111 2 := ⟨y112, rfl, y111, rfl⟩
instance : ArT Try.prog 116 T116 2 34 T34 1 := ⟨y116, rfl, y34, rfl⟩
instance : ArT Try.prog 117 T117 3 34 T34 1 := ⟨y117, rfl, y34, rfl⟩
instance : ArT Try.prog 118 T118 24 5 T5 1 := ⟨y118, rfl, y5, rfl⟩
instance : ArT Try.prog 124 T124 16 34 T34 1 := ⟨y124, rfl, y34, rfl⟩
instance : ArT Try.prog 125 T125 17 34 T34 1 := ⟨y125, rfl, y34, rfl⟩
instance : ArT Try.prog 126 T126 17 34 T34 1 := ⟨y126, rfl, y34, rfl⟩
instance : ArT Try.prog 127 T127 34 34 T34 1 := ⟨y127, rfl, y34, rfl⟩
instance : ArT Try.prog 129 T129 5 34 T34 1 := ⟨y129, rfl, y34, rfl⟩
instance : FdT Try.prog 133 0 T133 [(0, 17), (1, 17), (2, 17), (3, 9)] 0 17 T17 1 := ⟨y133, rfl, rfl, y17, rfl⟩
instance : FdT Try.prog 133 1 T133 [(0, 17), (1, 17), (2, 17), (3, 9)] 1 17 T17 1 := ⟨y133, rfl, rfl, y17, rfl⟩
instance : FdT Try.prog 133 2 T133 [(0, 17), (1, 17), (2, 17), (3, 9)] 2 17 T17 1 := ⟨y133, rfl, rfl, y17, rfl⟩
instance : FdT Try.prog 133 3 T133 [(0, 17), (1, 17), (2, 17), (3, 9)] 3 9 T9 1 := ⟨y133, rfl, rfl, y9, rfl⟩
instance : FdT Try.prog 134 0 T134 [(0, 17), (1, 17), (2, 17), (3, 9)] 0 17 T17 1 := ⟨y134, rfl, rfl, y17, rfl⟩
instance : FdT Try.prog 134 1 T134 [(0, 17), (1, 17), (2, 17), (3, 9)] 1 17 T17 1 := ⟨y134, rfl, rfl, y17, rfl⟩
instance : FdT Try.prog 134 2 T134 [(0, 17), (1, 17), (2, 17), (3, 9)] 2 17 T17 1 := ⟨y134, rfl, rfl, y17, rfl⟩
instance : FdT Try.prog 134 3 T134 [(0, 17), (1, 17), (2, 17), (3, 9)] 3 9 T9 1 := ⟨y134, rfl, rfl, y9, rfl⟩
instance : ArT Try.prog 135 T135 0 16 T16 1 := ⟨y135, rfl, y16, rfl⟩
instance : FdT Try.prog 136 0 T136 [(0, 135)] 0 135 T135 0 := ⟨y136, rfl, rfl, y135, rfl⟩
instance : FdT Try.prog 137 0 T137 [(0, 135)] 0 135 T135 0 := ⟨y137, rfl, rfl, y135, rfl⟩
instance : FdT Try.prog 145 0 T145 [(0, 12), (1, 12), (2, 98), (3, 139), (4, 5), (5, 5), (6, 140), (7, 141), (8, 142), (9, 143), (10, 144)] 0 12 T12 1 := ⟨y145, rfl, rfl, y12, rfl⟩
instance : FdT Try.prog 145 1 T145 [(0, 12), (1, 12), (2, 98), (3, 139), (4, 5), (5, 5), (6, 140), (7, 141), (8, 142), (9, 143), (10, 144)] 1 12 T12 1 := ⟨y145, rfl, rfl, y12, rfl⟩
instance : FdT Try.prog 145 2 T145 [(0, 12), (1, 12), (2, 98), (3, 139), (4, 5), (5, 5), (6, 140), (7, 141), (8, 142), (9, 143), (10, 144)] 2 98 T98 1 := ⟨y145, rfl, rfl, y98, rfl⟩
instance : FdT Try.prog 145 3 T145 [(0, 12), (1, 12), (2, 98), (3, 139), (4, 5), (5, 5), (6, 140), (7, 141), (8, 142), (9, 143), (10, 144)] 3 139 T139 1 := ⟨y145, rfl, rfl, y139, rfl⟩
instance : FdT Try.prog 145 4 T145 [(0, 12), (1, 12), (2, 98), (3, 139), (4, 5), (5, 5), (6, 140), (7, 141), (8, 142), (9, 143), (10, 144)] 4 5 T5 1 := ⟨y145, rfl, rfl, y5, rfl⟩
instance : FdT Try.prog 145 5 T145 [(0, 12), (1, 12), (2, 98), (3, 139), (4, 5), (5, 5), (6, 140), (7, 141), (8, 142), (9, 143), (10, 144)] 5 5 T5 1 := ⟨y145, rfl, rfl, y5, rfl⟩
instance : FdT Try.prog 145 6 T145 [(0, 12), (1, 12), (2, 98), (3, 139), (4, 5), (5, 5), (6, 140), (7, 141), (8, 142), (9, 143), (10, 144)] 6 140 T140 1 := ⟨y145, rfl, rfl, y140, rfl⟩
instance : FdT Try.prog 145 7 T145 [(0, 12), (1, 12), (2, 98), (3, 139), (4, 5), (5, 5), (6, 140), (7, 141), (8, 142), (9, 143), (10, 144)] 7 141 T141 1 := ⟨y145, rfl, rfl, y141, rfl⟩
instance : FdT Try.prog 145 8 T145 [(0, 12), (1, 12), (2, 98), (3, 139), (4, 5), (5, 5), (6, 140), (7, 141), (8, 142), (9, 143), (10, 144)] 8 142 T142 1 := ⟨y145, rfl, rfl, y142, rfl⟩
instance : FdT Try.prog 145 9 T145 [(0, 12), (1, 12), (2, 98), (3, 139), (4, 5), (5, 5), (6, 140), (7, 141), (8, 142), (9, 143), (10, 144)] 9 143 T143 1 := ⟨y145, rfl, rfl, y143, rfl⟩
instance : FdT Try.prog 145 10 T145 [(0, 12), (1, 12), (2, 98), (3, 139), (4, 5), (5, 5), (6, 140), (7, 141), (8, 142), (9, 143), (10, 144)] 10 144 T144 1 := ⟨y145, rfl, rfl, y144, rfl⟩
instance : FdT Try.prog 146 0 T146 [(0, 12), (1, 12), (2, 98), (3, 139), (4, 5), (5, 5), (6, 140), (7, 141), (8, 142), (9, 143), (10, 144)] 0 12 T12 1 := ⟨y146, rfl, rfl, y12, rfl⟩
instance : FdT Try.prog 146 1 T146 [(0, 12), (1, 12), (2, 98), (3, 139), (4, 5), (5, 5), (6, 140), (7, 141), (8, 142), (9, 143), (10, 144)] 1 12 T12 1 := ⟨y146, rfl, rfl, y12, rfl⟩
instance : FdT Try.prog 146 2 T146 [(0, 12), (1, 12), (2, 98), (3, 139), (4, 5), (5, 5), (6, 140), (7, 141), (8, 142), (9, 143), (10, 144)] 2 98 T98 1 := ⟨y146, rfl, rfl, y98, rfl⟩
instance : FdT Try.prog 146 3 T146 [(0, 12), (1, 12), (2, 98), (3, 139), (4, 5), (5, 5), (6, 140), (7, 141), (8, 142), (9, 143), (10, 144)] 3 139 T139 1 := ⟨y146, rfl, rfl, y139, rfl⟩
instance : FdT Try.prog 146 4 T146 [(0, 12), (1, 12), (2, 98), (3, 139), (4, 5), (5, 5), (6, 140), (7, 141), (8, 142), (9, 143), (10, 144)] 4 5 T5 1 := ⟨y146, rfl, rfl, y5, rfl⟩
instance : FdT Try.prog 146 5 T146 [(0, 12), (1, 12), (2, 98), (3, 139), (4, 5), (5, 5), (6, 140), (7, 141), (8, 142), (9, 143), (10, 144)] 5 5 T5 1 := ⟨y146, rfl, rfl, y5, rfl⟩
instance : FdT Try.prog 146 6 T146 [(0, 12), (1, 12), (2, 98), (3, 139), (4, 5), (5, 5), (6, 140), (7, 141), (8, 142), (9, 143), (10, 144)] 6 140 T140 1 := ⟨y146, rfl, rfl, y140, rfl⟩
instance : FdT Try.prog 146 7 T146 [(0, 12), (1, 12), (2, 98), (3, 139), (4, 5), (5, 5), (6, 140), (7, 141), (8, 142), (9, 143), (10, 144)] 7 141 T141 1 := ⟨y146, rfl, rfl, y141, rfl⟩
instance : FdT Try.prog 146 8 T146 [(0, 12), (1, 12), (2, 98), (3, 139), (4, 5), (5, 5), (6, 140), (7, 141), (8, 142), (9, 143), (10, 144)] 8 142 T142 1 := ⟨y146, rfl, rfl, y142, rfl⟩
instance : FdT Try.prog 146 9 T146 [(0, 12), (1, 12), (2, 98), (3, 139), (4, 5), (5, 5), (6, 140), (7, 141), (8, 142), (9, 143), (10, 144)] 9 143 T143 1 := ⟨y146, rfl, rfl, y143, rfl⟩
instance : FdT Try.prog 146 10 T146 [(0, 12), (1, 12), (2, 98), (3, 139), (4, 5), (5, 5), (6, 140), (7, 141), (8, 142), (9, 143), (10, 144)] 10 144 T144 1 := ⟨y146, rfl, rfl, y144, rfl⟩
instance : AddX Try.prog 68 := ⟨fun x y c hc => add_ext (fn := Try.f68) (by kernel_rfl) (by kernel_rfl) (by kernel_rfl) (by kernel_rfl) (by kernel_rfl) x y c hc⟩
instance : SubX Try.prog 73 := ⟨fun x y c hc => sub_ext (fn := Try.f73) (by kernel_rfl) (by kernel_rfl) (by kernel_rfl) (by kernel_rfl) (by kernel_rfl) x y c hc⟩
end Go.Proofs.Ytklcckngmmklhaa

/- Words: sums with a carry, differences with a borrow, products of two words, as numbers. -/
namespace Go.Abs
open Go
def mulhi (x y : UInt64) : UInt64 :=
  shr64n x 32 * shr64n y 32 + shr64n (shr64n x 32 * (y &&& 4294967295) + shr64n ((x &&& 4294967295) * (y &&& 4294967295)) 32) 32 +
    shr64n ((shr64n x 32 * (y &&& 4294967295) + shr64n ((x &&& 4294967295) * (y &&& 4294967295)) 32 &&& 4294967295) + (x &&& 4294967295) * shr64n y 32) 32
theorem shr_nat (n : UInt64) (k : Nat) (h : k < 64) : (shr64n n k).toNat = n.toNat / 2 ^ k := by
  unfold shr64n
  simp [UInt64.toNat_shiftRight, Nat.shiftRight_eq_div_pow, h, Nat.mod_eq_of_lt h]
/-! Regions, with the memory told plainly first. -/
section
variable {P : Program} {n N id : Nat} {Q : Exit → St → Prop} {ops : Array Oper} {al : List (Nat × S)} {H H' : Heap}
theorem rln (h : aops P ops.toList (Q .normal) ops.toList ⟨frm N al, H'⟩) (hH : H = H' := by first | (simp only [List.set_cons_zero, List.set_cons_succ, List.cons_append, List.nil_append, List.append_nil]; done) | (simp only [List.set_cons_zero, List.set_cons_succ, List.cons_append, List.nil_append, List.append_nil]; exact rfl) | exact rfl) (hn : Nat.ble n H'.length = true := by exact rfl) : AWp P n (.region id ops false) Q ⟨frm N al, H⟩ := by
  subst hH; exact awp_region (Nat.le_of_ble_eq_true hn) h
theorem rdln (es lo hi : List Nat) (h : Dw P ops.toList lo hi (Q .normal) ops.toList 0 es [H'] [] (frm N al)) (hH : H = H' := by first | (simp only [List.set_cons_zero, List.set_cons_succ, List.cons_append, List.nil_append, List.append_nil]; done) | (simp only [List.set_cons_zero, List.set_cons_succ, List.cons_append, List.nil_append, List.append_nil]; exact rfl) | exact rfl) (hn : Nat.ble n H'.length = true := by exact rfl) (hm : P.follows .mixedOrders = true := by exact rfl) (hB : drawE ops.toList es lo hi = true := by decide +kernel) : AWp P n (.region id ops true) Q ⟨frm N al, H⟩ := by
  subst hH; exact awp_drawE es lo hi hm hB (Nat.le_of_ble_eq_true hn) h
end
/-! In a region that draws its order: a struct or an array inside a block. -/
section
variable {P : Program} {N : Nat} {al : List (Nat × S)} {H : Heap} {ops r : List Oper} {q : St → Prop} {oty : TypeId} {ops_ : String} {oaf : Array Edge} {d j w : Nat} {want : Bool} {oj : Oper}
variable {lo hi : List Nat} {i : Nat} {rem : List Nat} {hist : List Heap} {pend : List (Nat × Heap)} {t : TypeId} {ti : TI} {x : Operand} {p o1 : Nat} {cs xs : List Cell}
theorem DLa [it : TiOf P t ti] (k : Dw P ops lo hi q r (i + 1) rem (H :: hist) ((hi.getD i 0, one p cs) :: pend) (frm N ((d, sa xs) :: al))) (hx : ev (frm N al) x = sc (.ptr p o1) := by first | exact et rfl | exact rfl) (_hp : H[p]? = some (some cs) := by exact rfl) (hk : ti.kind.agg = true := by exact rfl) (hz : Nat.blt 0 ti.size = true := by exact rfl) (hl : o1 + ti.size ≤ cs.length := by first | omega | with_reducible assumption | (simp only [List.length_set, List.length_append, List.length_replicate, List.length_take, List.length_drop, List.length_map, List.length_cons, List.length_nil, mapc_length] <;> omega) | exact rfl | exact Nat.le_of_ble_eq_true rfl | assumption) (hc : (cs.drop o1).take ti.size = xs := by first | exact rfl | exact cut_m) (hne : (rem.head? == some i) = false := by exact rfl)
    (hs : seen (one p cs) ((H :: hist).take ((hist.length + 1) - lo.getD i 0)) := by repeat' (first | exact trivial | exact sub_one rfl | refine And.intro ?_ ?_)) : Dw P ops lo hi q (⟨some d, .load t x, oty, ops_, oaf, none⟩ :: r) i rem (H :: hist) pend (frm N al) :=
  dR p rfl (tk rfl) hne hs (fun _ hv => r_lda rfl it.h hk hz hx hv hl hc ⟨rfl, rfl⟩) k
end
end Go.Abs

/- The abstract machine: regions that draw their order, whose effects lie in no one chain: one walk for each order of the effects. -/
namespace Go.Abs
open Go
/-! A list of operations, put into another order. -/
def posOf : List Nat → Nat → Nat
  | [], _ => 0
  | x :: r, i => bif Nat.beq x i then 0 else posOf r i + 1
def prevOf : List Nat → Nat → Option Nat
  | x :: y :: r, i => bif Nat.beq y i then some x else prevOf (y :: r) i
  | _, _ => none
def renE (ord : List Nat) (e : Edge) : Edge := ⟨posOf ord e.on, e.ground⟩
def preE (ord es : List Nat) (i : Nat) : Array Edge := match prevOf es i with
  | some x => #[⟨posOf ord x, .data⟩]
  | none => #[]
def renO (ord es : List Nat) (i : Nat) (o : Oper) : Oper :=
  ⟨o.dst, o.op, o.type, o.pos, o.after.map (renE ord) ++ preE ord es i, match o.guard with
    | some (j, b) => some (posOf ord j, b)
    | none => none⟩
def permO (ops : List Oper) (ord es : List Nat) : List Oper := ord.map fun i => renO ord es i ((ops[i]?).getD default)
def permB (n : Nat) (ord : List Nat) : Bool :=
  ord.length == n && (List.range n).all fun i => decide (posOf ord i < n) && ord[posOf ord i]? == some i && (match ord[i]? with
    | some x => decide (x < n) && posOf ord x == i
    | none => false)
theorem wp_ren {P : Program} {ord es : List Nat} {i : Nat} {o : Oper} {a : Act} {w : World} {K : Act → World → Prop} {Q : Exit → Act → World → Prop} : (renO ord es i o).wp P a w K Q = o.wp P a w K Q := rfl
theorem asks_ren {P : Program} {ord es : List Nat} {i : Nat} {o : Oper} {a : Act} {w : World} : (renO ord es i o).asks P a w = o.asks P a w := rfl
structure PermOk (n : Nat) (ord : List Nat) : Prop where
  len : ord.length = n
  lt : ∀ i, i < n → posOf ord i < n
  at_ : ∀ i, i < n → ord[posOf ord i]? = some i
  inv : ∀ (j x : Nat), ord[j]? = some x → x < n ∧ posOf ord x = j
theorem permB_ok {n : Nat} {ord : List Nat} (h : permB n ord = true) : PermOk n ord := by
  simp only [permB, Bool.and_eq_true, beq_iff_eq] at h
  obtain ⟨h1, h2⟩ := h
  have h3 : ∀ i, i < n → (posOf ord i < n ∧ ord[posOf ord i]? = some i) ∧ (match ord[i]? with
    | some x => decide (x < n) && posOf ord x == i
    | none => false) = true := fun i hi => by
    have := List.all_eq_true.1 h2 i (List.mem_range.2 hi)
    simpa only [Bool.and_eq_true, decide_eq_true_eq, beq_iff_eq] using this
  refine ⟨h1, fun i hi => (h3 i hi).1.1, fun i hi => (h3 i hi).1.2, fun j x hx => ?_⟩
  have hj : j < n := by rw [← h1]; exact (List.getElem?_eq_some_iff.1 hx).1
  have := (h3 j hj).2
  rw [hx] at this
  simpa only [Bool.and_eq_true, decide_eq_true_eq, beq_iff_eq] using this
theorem posOf_out : ∀ {ord : List Nat} {i : Nat}, i ∉ ord → posOf ord i = ord.length
  | [], _, _ => rfl
  | x :: r, i, h => by
    have hx : x ≠ i := fun e => h (by simp [e])
    have hr : i ∉ r := fun e => h (by simp [e])
    have : Nat.beq x i = false := by
      cases hb : Nat.beq x i with
      | false => rfl
      | true => exact absurd (Nat.eq_of_beq_eq_true hb) hx
    rw [posOf, this, cond_false, posOf_out hr]; rfl
section
variable {ops : List Oper} {ord es : List Nat}
theorem permO_len : (permO ops ord es).length = ord.length := by simp [permO]
theorem permO_at (ok : PermOk ops.length ord) {i : Nat} {o : Oper} (h : ops[i]? = some o) : (permO ops ord es)[posOf ord i]? = some (renO ord es i o) := by
  have hi := (List.getElem?_eq_some_iff.1 h).1
  simp [permO, List.getElem?_map, ok.at_ i hi, h]
theorem permO_inv (ok : PermOk ops.length ord) {j : Nat} {o' : Oper} (h : (permO ops ord es)[j]? = some o') : ∃ i o, ops[i]? = some o ∧ posOf ord i = j ∧ o' = renO ord es i o := by
  simp only [permO, List.getElem?_map, Option.map_eq_some_iff] at h
  obtain ⟨x, hx, rfl⟩ := h
  obtain ⟨h1, h2⟩ := ok.inv j x hx
  obtain ⟨o, ho⟩ : ∃ o, ops[x]? = some o := ⟨_, List.getElem?_eq_getElem h1⟩
  exact ⟨x, o, ho, h2, by rw [ho]; rfl⟩
theorem yielded_ren (ok : PermOk ops.length ord) (tmps : Array Value) (j : Nat) : yielded (permO ops ord es).toArray tmps (posOf ord j) = yielded ops.toArray tmps j := by
  unfold yielded
  have : ((permO ops ord es).toArray[posOf ord j]?).bind (·.dst) = (ops.toArray[j]?).bind (·.dst) := by
    simp only [List.getElem?_toArray]
    by_cases hj : j < ops.length
    · obtain ⟨o, ho⟩ : ∃ o, ops[j]? = some o := ⟨_, List.getElem?_eq_getElem hj⟩
      rw [permO_at ok ho, ho]; rfl
    · have hn : j ∉ ord := fun hm => by
        obtain ⟨k, hk⟩ := List.mem_iff_getElem?.1 hm
        exact hj (ok.inv k j hk).1
      rw [posOf_out hn, List.getElem?_eq_none (by rw [permO_len]; exact Nat.le_refl _), List.getElem?_eq_none (by omega)]
  rw [this]
theorem wanted_ren (ok : PermOk ops.length ord) (tmps : Array Value) (i : Nat) (o : Oper) : Region.wanted (renO ord es i o) (yielded (permO ops ord es).toArray tmps) = Region.wanted o (yielded ops.toArray tmps) := by
  unfold Region.wanted renO
  cases hg : o.guard with
  | none => rfl
  | some g =>
    obtain ⟨j, b⟩ := g
    simp only [yielded_ren ok]
theorem wpOps_ren (ok : PermOk ops.length ord) {P : Program} {Q : Exit → Act → World → Prop} : ∀ (σ : List Nat) (a : Act) (w : World), (∀ i ∈ σ, i < ops.length) →
    wpOps P (permO ops ord es).toArray Q (σ.map (posOf ord)) a w → wpOps P ops.toArray Q σ a w
  | [], _, _, _, h => h
  | i :: σ, a, w, hi, h => by
    obtain ⟨o, ho⟩ : ∃ o, ops[i]? = some o := ⟨_, List.getElem?_eq_getElem (hi i (by simp))⟩
    rw [List.map_cons, wpOps_cons] at h
    rw [wpOps_cons]
    unfold wpOp at h ⊢
    rw [List.getElem?_toArray] at h ⊢
    rw [permO_at ok ho] at h
    rw [ho]
    simp only at h ⊢
    rw [wanted_ren ok, wp_ren, asks_ren] at h
    have ih := wpOps_ren ok (P := P) (Q := Q) σ
    split
    · rename_i hw
      rw [if_pos hw] at h
      rcases h with h | h
      · exact .inl (Oper.wp_mono (fun a w h => ih a w (fun x hx => hi x (by simp [hx])) h) h)
      · exact .inr h
    · rename_i hw
      rw [if_neg hw] at h
      exact ih _ _ (fun x hx => hi x (by simp [hx])) h
end
/-! Orders that may be drawn. -/
inductive ValidO (ops : Array Oper) : Array Bool → List Nat → Prop
  | nil {l : Array Bool} : Region.ready .any ops l = [] → ValidO ops l []
  | cons {l : Array Bool} {i : Nat} {σ : List Nat} : i ∈ Region.ready .any ops l → ValidO ops (l.setIfInBounds i true) σ → ValidO ops l (i :: σ)
theorem any_valid {P : Program} {ops : Array Oper} {Q : Exit → Act → World → Prop} : ∀ (σ : List Nat) (f : Nat) (l : Array Bool) (a : Act) (w : World), ValidO ops l σ → wpAny P .any ops Q f l a w → wpOps P ops Q σ a w
  | [], 0, _, _, _, _, h => h.2
  | [], f + 1, _, _, _, .nil hr, h => h.1 hr
  | i :: σ, 0, _, _, _, .cons hi _, h => by rw [h.1] at hi; cases hi
  | i :: σ, f + 1, l, a, w, .cons hi hv, h => by
    rw [wpOps_cons]
    exact wpOp_mono (fun a w h => any_valid σ f _ a w hv h) (h.2 i hi)
theorem valid_go {ops : List Oper} : ∀ (f t : Nat) (l : Array Bool), l.size = ops.length → (List.range ops.length).countP (fun j => l.getD j false) + f = ops.length →
    ValidO ops.toArray l (Region.linearise.go .any ops.toArray f t l [])
  | 0, t, l, hs, hc => by
    have hall : ∀ j, j < ops.length → l.getD j false = true := by
      have : (List.range ops.length).countP (fun j => l.getD j false) = (List.range ops.length).length := by rw [List.length_range]; omega
      rw [List.countP_eq_length] at this
      exact fun j hj => this j (List.mem_range.2 hj)
    refine .nil (List.eq_nil_iff_forall_not_mem.2 fun i hi => ?_)
    obtain ⟨h1, o, h2, _⟩ := mem_ready.1 hi
    have hlt : i < ops.length := by simpa using (Array.getElem?_eq_some_iff.1 h2).1
    have h3 := getD_both h1
    rw [hall i hlt] at h3; cases h3
  | f + 1, t, l, hs, hc => by
    simp only [Region.linearise.go]
    change ValidO ops.toArray l (match (Region.ready .any ops.toArray l)[t % (Region.ready .any ops.toArray l).length]? with
      | some i => Region.linearise.go .any ops.toArray f (t / (Region.ready .any ops.toArray l).length) (l.setIfInBounds i true) [i]
      | none => [].reverse)
    cases hi : (Region.ready .any ops.toArray l)[t % (Region.ready .any ops.toArray l).length]? with
    | none =>
      refine .nil ?_
      cases hr : Region.ready .any ops.toArray l with
      | nil => rfl
      | cons x xs =>
        rw [hr] at hi
        have hlt : t % (x :: xs).length < (x :: xs).length := Nat.mod_lt _ (by simp)
        simp at hi
        simp at hlt
        omega
    | some i =>
      simp only []
      rw [linearise_go_acc, List.reverse_singleton, List.singleton_append]
      have hm := List.mem_of_getElem? hi
      obtain ⟨h1, o, h2, _⟩ := mem_ready.1 hm
      have hlt : i < ops.length := by simpa using (Array.getElem?_eq_some_iff.1 h2).1
      refine .cons hm (valid_go f _ _ (by simpa using hs) ?_)
      have := countP_set (p := fun j => l.getD j false) (p' := fun j => (l.setIfInBounds i true).getD j false) (i := i) (List.nodup_range (n := ops.length)) (List.mem_range.2 hlt) (getD_both h1) (fun j => by
        rw [getD_set_i false (by omega)]
        by_cases h : j = i
        · subst h; simp
        · rw [if_neg h]
          have : (j == i) = false := by simpa using h
          rw [this, Bool.or_false])
      omega
theorem valid_lt {ops : List Oper} {l : Array Bool} {σ : List Nat} (h : ValidO ops.toArray l σ) : ∀ i ∈ σ, i < ops.length := by
  induction h with
  | nil => intro i hi; cases hi
  | cons hi _ ih =>
    intro j hj
    rcases List.mem_cons.1 hj with rfl | hj
    · obtain ⟨_, o, h2, _⟩ := mem_ready.1 hi
      simpa using (Array.getElem?_eq_some_iff.1 h2).1
    · exact ih j hj
/-! Which orders the effects come in. -/
def covB (A E : List Nat) (pls : List (List Nat)) : Nat → List Nat → Bool
  | 0, run => (E.all fun e => run.contains e) && pls.contains run
  | f + 1, run => bif (E.all fun e => run.contains e) then pls.contains run else E.all fun i => run.contains i || (E.any fun e => (A.getD i 0).testBit e && !run.contains e) || covB A E pls f (run ++ [i])
theorem cov_sound {ops : List Oper} {A E : List Nat} {pls : List (List Nat)} (hA : ∀ i j, (A.getD i 0).testBit j = true → Anc ops i j) (hE : ∀ e ∈ E, e < ops.length)
    (topo : ∀ (i : Nat) o, ops[i]? = some o → ∀ e ∈ o.after, Region.binds .any e = true → e.on < i) :
    ∀ (σ : List Nat) (l : Array Bool) (f : Nat) (run : List Nat), l.size = ops.length → (∀ (j : Nat) oj, ops[j]? = some oj → l.getD j false = true → ∀ e ∈ oj.after, Region.binds .any e = true → l.getD e.on false = true) →
      (∀ e ∈ E, l.getD e false = true ↔ e ∈ run) → ValidO ops.toArray l σ → covB A E pls f run = true → run ++ σ.filter (fun i => E.contains i) ∈ pls
  | [], l, f, run, hs, hcl, hr, .nil hnil, hc => by
    have hall : ∀ (j : Nat), j < ops.length → l.getD j false = true := by
      intro j
      induction j using Nat.strongRecOn with
      | ind j ih =>
        intro hj
        obtain ⟨o, ho⟩ : ∃ o, ops[j]? = some o := ⟨_, List.getElem?_eq_getElem hj⟩
        apply Classical.byContradiction
        intro hn
        have hn' : l.getD j false = false := by simpa using hn
        have : j ∈ Region.ready .any ops.toArray l := mem_ready.2 ⟨getD_in (by omega) hn', o, by simpa using ho, fun e he hb => ih e.on (topo j o ho e he hb) (by have := topo j o ho e he hb; omega)⟩
        rw [hnil] at this; cases this
    have hE' : (E.all fun e => run.contains e) = true := List.all_eq_true.2 fun e he => by
      have := (hr e he).1 (hall e (hE e he))
      simpa using this
    rw [List.filter_nil, List.append_nil]
    cases f with
    | zero => simp only [covB, hE', Bool.true_and] at hc; simpa using hc
    | succ f => simp only [covB, hE', cond_true] at hc; simpa using hc
  | i :: σ, l, f, run, hs, hcl, hr, .cons hi hv, hc => by
    obtain ⟨h1, o, h2, hd⟩ := mem_ready.1 hi
    have ho : ops[i]? = some o := by simpa using h2
    have hlt := (List.getElem?_eq_some_iff.1 ho).1
    have hcl' : ∀ (j : Nat) oj, ops[j]? = some oj → (l.setIfInBounds i true).getD j false = true → ∀ e ∈ oj.after, Region.binds .any e = true → (l.setIfInBounds i true).getD e.on false = true := by
      intro j oj hj hlj e he hb
      rw [getD_set_i false (by omega)] at hlj ⊢
      by_cases hji : j = i
      · subst hji
        rw [ho] at hj
        obtain rfl := Option.some.inj hj
        rw [hd e he hb]; simp
      · rw [if_neg hji] at hlj
        rw [hcl j oj hj hlj e he hb]; simp
    by_cases hiE : i ∈ E
    · have hnr : i ∉ run := fun h => by
        have := (hr i hiE).2 h
        rw [getD_both h1] at this; cases this
      have hE' : (E.all fun e => run.contains e) = false := by
        apply Bool.eq_false_iff.2
        intro h
        have := List.all_eq_true.1 h i hiE
        exact hnr (by simpa using this)
      rw [List.filter_cons_of_pos (by simpa using hiE)]
      cases f with
      | zero => simp only [covB, hE', Bool.false_and] at hc; cases hc
      | succ f =>
        simp only [covB, hE', cond_false] at hc
        have h3 := List.all_eq_true.1 hc i hiE
        simp only [Bool.or_eq_true, List.any_eq_true, Bool.and_eq_true, Bool.not_eq_true', List.contains_iff_mem] at h3
        rcases h3 with (h3 | ⟨e, h3, h4, h5⟩) | h3
        · exact absurd h3 hnr
        · have := anc_listed (listed := l) hcl (hA i e h4) (fun o' ho' e' he' hb' => by
            rw [ho] at ho'; obtain rfl := Option.some.inj ho'; exact hd e' he' hb')
          have := (hr e h3).1 this
          have h6 : run.contains e = true := by simpa using this
          rw [h6] at h5; cases h5
        · have := cov_sound hA hE topo σ (l.setIfInBounds i true) f (run ++ [i]) (by simpa using hs) hcl' (fun e he => by
            rw [getD_set_i false (by omega)]
            by_cases hei : e = i
            · subst hei; simp
            · rw [if_neg hei, hr e he]; simp [hei]) hv h3
          rw [List.append_assoc] at this
          exact this
    · rw [List.filter_cons_of_neg (by simpa using hiE)]
      refine cov_sound hA hE topo σ (l.setIfInBounds i true) f run (by simpa using hs) hcl' (fun e he => ?_) hv hc
      rw [getD_set_i false (by omega), if_neg (fun h : e = i => hiE (h ▸ he))]
      exact hr e he
theorem prevOf_at : ∀ {es : List Nat} {i x : Nat}, prevOf es i = some x → ∃ l r, es = l ++ x :: i :: r
  | [], _, _, h => by simp [prevOf] at h
  | [_], _, _, h => by simp [prevOf] at h
  | a :: b :: es, i, x, h => by
    simp only [prevOf] at h
    cases hb : Nat.beq b i with
    | true =>
      rw [hb, cond_true] at h
      have := Nat.eq_of_beq_eq_true hb
      subst this
      obtain rfl := Option.some.inj h
      exact ⟨[], es, rfl⟩
    | false =>
      rw [hb, cond_false] at h
      obtain ⟨l, r, e⟩ := prevOf_at h
      exact ⟨a :: l, r, by rw [e]; rfl⟩
theorem valid_ren {ops : List Oper} {ord es E : List Nat} (ok : PermOk ops.length ord) (topo : ∀ (i : Nat) o, ops[i]? = some o → ∀ e ∈ o.after, Region.binds .any e = true → e.on < i)
    (hnd : es.Nodup) (hsub : ∀ e ∈ es, e ∈ E) : ∀ (σ : List Nat) (l l' : Array Bool) (run : List Nat), l.size = ops.length → l'.size = ops.length → (∀ j, j < ops.length → l'.getD (posOf ord j) false = l.getD j false) →
      (∀ e ∈ E, e ∈ run → l.getD e false = true) → es = run ++ σ.filter (fun i => E.contains i) → ValidO ops.toArray l σ → ValidO (permO ops ord es).toArray l' (σ.map (posOf ord))
  | [], l, l', run, hs, hs', hl, hr, he, .nil hnil => by
    refine .nil (List.eq_nil_iff_forall_not_mem.2 fun j hj => ?_)
    obtain ⟨h1, o', h2, hd⟩ := mem_ready.1 hj
    obtain ⟨i, o, ho, hp, rfl⟩ := permO_inv ok (by simpa using h2)
    have hi := (List.getElem?_eq_some_iff.1 ho).1
    have : i ∈ Region.ready .any ops.toArray l := mem_ready.2 ⟨getD_in (by omega) (by rw [← hl i hi, hp]; exact getD_both h1), o, by simpa using ho, fun e he hb => by
      have h3 := hd (renE ord e) (by simp only [renO, Array.mem_append, Array.mem_map]; exact .inl ⟨e, he, rfl⟩) hb
      have h4 := topo i o ho e he hb
      rw [← hl e.on (by omega)]; exact h3⟩
    rw [hnil] at this; cases this
  | i :: σ, l, l', run, hs, hs', hl, hr, he, .cons hi hv => by
    obtain ⟨h1, o, h2, hd⟩ := mem_ready.1 hi
    have ho : ops[i]? = some o := by simpa using h2
    have hlt := (List.getElem?_eq_some_iff.1 ho).1
    have hpl := ok.lt i hlt
    have hl' : ∀ j, j < ops.length → (l'.setIfInBounds (posOf ord i) true).getD (posOf ord j) false = (l.setIfInBounds i true).getD j false := fun j hj => by
      rw [getD_set_i false (by omega), getD_set_i false (by omega)]
      by_cases hji : j = i
      · subst hji; simp
      · have : posOf ord j ≠ posOf ord i := fun h => hji (by
          have h3 := ok.at_ j hj
          rw [h, ok.at_ i hlt] at h3
          exact (Option.some.inj h3).symm)
        rw [if_neg hji, if_neg this, hl j hj]
    have hready : posOf ord i ∈ Region.ready .any (permO ops ord es).toArray l' := by
      refine mem_ready.2 ⟨getD_in (by omega) (by rw [hl i hlt]; exact getD_both h1), renO ord es i o, by simpa using permO_at ok ho, fun e hm hb => ?_⟩
      simp only [renO, Array.mem_append, Array.mem_map] at hm
      rcases hm with ⟨e0, hm, rfl⟩ | hm
      · have h4 := topo i o ho e0 hm hb
        show l'.getD (posOf ord e0.on) false = true
        rw [hl e0.on (by omega)]; exact hd e0 hm hb
      · unfold preE at hm
        cases hp : prevOf es i with
        | none => rw [hp] at hm; simp at hm
        | some x =>
          rw [hp] at hm
          simp only [List.mem_toArray, List.mem_cons, List.not_mem_nil, or_false] at hm
          subst hm
          show l'.getD (posOf ord x) false = true
          obtain ⟨p, q, hpq⟩ := prevOf_at hp
          have hiE : i ∈ E := hsub i (by rw [hpq]; simp)
          have hxE : x ∈ E := hsub x (by rw [hpq]; simp)
          rw [List.filter_cons_of_pos (by simpa using hiE)] at he
          have hnd1 := hnd
          rw [he] at hnd1
          have hnr : i ∉ run := fun h => by
            have := (List.nodup_append.1 hnd1).2.2 i h i (by simp)
            exact this rfl
          have hnp : i ∉ p ++ [x] := fun h => by
            have hnd2 := hnd
            rw [hpq, show p ++ x :: i :: q = (p ++ [x]) ++ i :: q by simp] at hnd2
            exact (List.nodup_append.1 hnd2).2.2 i h i (by simp) rfl
          have hcut : ∀ (a b c d : List Nat), a ++ i :: b = c ++ i :: d → i ∉ a → i ∉ c → a = c := by
            intro a
            induction a with
            | nil =>
              intro b c d h _ hc
              cases c with
              | nil => rfl
              | cons y c => simp at h; exact absurd h.1 (fun e => hc (by simp [← e]))
            | cons z a ih =>
              intro b c d h ha hc
              cases c with
              | nil => simp at h; exact absurd h.1.symm (fun e => ha (by simp [← e]))
              | cons y c =>
                simp only [List.cons_append, List.cons.injEq] at h
                rw [h.1, ih b c d h.2 (fun e => ha (by simp [e])) (fun e => hc (by simp [e]))]
          have hrun : run = p ++ [x] := hcut run _ (p ++ [x]) q (by rw [← he, hpq]; simp) hnr hnp
          have hlx := hr x hxE (by rw [hrun]; simp)
          have hxl : x < ops.length := by
            rcases Nat.lt_or_ge x ops.length with h | h
            · exact h
            · rw [Array.getD_eq_getD_getElem?, Array.getElem?_eq_none (by omega)] at hlx; cases hlx
          rw [hl x hxl]; exact hlx
    rw [List.map_cons]
    by_cases hiE : i ∈ E
    · rw [List.filter_cons_of_pos (by simpa using hiE)] at he
      exact .cons hready (valid_ren ok topo hnd hsub σ _ _ (run ++ [i]) (by simpa using hs) (by simpa using hs') hl' (fun e heE hm => by
        rw [getD_set_i false (by omega)]
        by_cases hei : e = i
        · rw [if_pos hei]
        · rw [if_neg hei]
          refine hr e heE ?_
          rcases List.mem_append.1 hm with h | h
          · exact h
          · simp at h; exact absurd h hei) (by rw [he]; simp) hv)
    · rw [List.filter_cons_of_neg (by simpa using hiE)] at he
      exact .cons hready (valid_ren ok topo hnd hsub σ _ _ run (by simpa using hs) (by simpa using hs') hl' (fun e heE hm => by
        rw [getD_set_i false (by omega)]
        by_cases hei : e = i
        · rw [if_pos hei]
        · rw [if_neg hei]; exact hr e heE hm) he hv)
theorem drawE_any {P : Program} {n0 : Nat} {ops : List Oper} {Q : Exit → St → Prop} {fr : List S} {H : Heap} (es lo hi : List Nat) (hB : drawE ops es lo hi = true) (hn : n0 ≤ H.length)
    (h : Dw P ops lo hi (Q .normal) ops 0 es [H] [] fr) {E : Env} {ρ : Nat → Place} {a : Act} {w : World} (hE : E.Ok) (hs : Sim E ρ ⟨fr, H⟩ a w) :
    wpAny P .any ops.toArray (post n0 E ρ Q) ops.length (Array.replicate ops.length false) a { w with drawn := w.drawn + 1 } := by
  have ok := drawE_ok hB
  obtain ⟨vals, hp, Vs, h1, _, h2⟩ := dw_tr (E := es.length) ops 0 es [H] [] fr (by simp) (by simp; omega) h
  have h0 : hp 0 = H := by
    have := h1 0 (by simp)
    simpa using this.symm
  obtain ⟨hst, hend⟩ := tr_each ok (fr0 := fr) ops 0 0 fr (fun j => by rw [Nat.zero_add]) (by simp) (Nat.zero_le _) (fun m e _ => by omega) ⟨rfl, fun _ _ => rfl, fun j o t _ hd => by simp at hd⟩ (by simpa using h2)
  exact draw_game (P := P) (n0 := n0) (Q := Q) ok (fun j o ho => hst j o (Nat.zero_le _) ho) hend hE ops.length 0 ρ (Array.replicate ops.length false) fr a { w with drawn := w.drawn + 1 } (by
      have : (List.range ops.length).countP (fun j => (Array.replicate ops.length false).getD j false) = 0 := by
        rw [List.countP_eq_zero]
        intro j _
        rw [getD_replicate_false]; simp
      rw [this]; simp)
    ⟨by simp, fun j oj _ hl => (by rw [getD_replicate_false] at hl; cases hl), fun t ht ht' => by simp at ht ht'; omega⟩ (Nat.zero_le _)
    (fun m e _ => by rw [getD_replicate_false]; simp)
    ⟨rfl, fun _ _ => rfl, fun j o t _ hd => by rw [getD_replicate_false] at hd; cases hd⟩ (by rw [h0]; exact hn) ⟨by rw [h0]; exact hs.fr, by rw [h0]; exact hs.heap.drew _⟩
structure Plan where
  ord : List Nat
  es : List Nat
  es2 : List Nat
  lo : List Nat
  hi : List Nat
def planB (ops : List Oper) (E : List Nat) (p : Plan) : Bool :=
  permB ops.length p.ord && drawE (permO ops p.ord p.es) p.es2 p.lo p.hi && decide p.es.Nodup && (p.es.all fun e => E.contains e)
def multiB (ops : List Oper) (E : List Nat) (pls : List Plan) : Bool :=
  topoE ops && (E.all fun e => decide (e < ops.length)) && covB (ancs ops []) E (pls.map Plan.es) E.length [] && pls.all (planB ops E)
def plansDw (P : Program) (ops : List Oper) (Q : St → Prop) (H : Heap) (fr : List S) : List Plan → Prop
  | [] => True
  | p :: r => Dw P (permO ops p.ord p.es) p.lo p.hi Q (permO ops p.ord p.es) 0 p.es2 [H] [] fr ∧ plansDw P ops Q H fr r
theorem plans_at {P : Program} {ops : List Oper} {Q : St → Prop} {H : Heap} {fr : List S} : ∀ {pls : List Plan}, plansDw P ops Q H fr pls → ∀ p ∈ pls, Dw P (permO ops p.ord p.es) p.lo p.hi Q (permO ops p.ord p.es) 0 p.es2 [H] [] fr
  | [], _, p, hp => by cases hp
  | q :: r, h, p, hp => by
    rcases List.mem_cons.1 hp with rfl | hp
    · exact h.1
    · exact plans_at h.2 p hp
theorem awp_drawM {P : Program} {n0 id : Nat} {ops : Array Oper} {Q : Exit → St → Prop} {fr : List S} {H : Heap} (E : List Nat) (pls : List Plan) (hm : P.follows .mixedOrders = true) (hB : multiB ops.toList E pls = true) (hn : n0 ≤ H.length)
    (h : plansDw P ops.toList (Q .normal) H fr pls) : AWp P n0 (.region id ops true) Q ⟨fr, H⟩ := by
  intro En ρ a w hE hs
  simp only [multiB, Bool.and_eq_true] at hB
  obtain ⟨⟨⟨hT, hEl⟩, hC⟩, hP⟩ := hB
  obtain ⟨ops⟩ := ops
  simp only at hT hEl hC hP h ⊢
  have topo : ∀ (i : Nat) o, ops[i]? = some o → ∀ e ∈ o.after, Region.binds .any e = true → e.on < i := fun i o ho e he hb => by
    have := List.all_eq_true.1 hT i (List.mem_range.2 (List.getElem?_eq_some_iff.1 ho).1)
    rw [ho] at this
    have := Array.all_eq_true'.1 this e he
    simp only [hb, Bool.not_true, Bool.false_or, decide_eq_true_eq] at this
    exact this
  have hA : ∀ i j, ((ancs ops []).getD i 0).testBit j = true → Anc ops i j := ancs_spec ops [] (fun j => by simp) (fun i j hb => by simp at hb)
  refine wp_region_draw fun t => ?_
  simp only [Region.schedule, hm, Bool.true_or, if_true]
  have hv : ValidO ops.toArray (Array.replicate ops.length false) (Region.linearise .any ops.toArray t) := by
    show ValidO ops.toArray _ (Region.linearise.go .any ops.toArray ops.toArray.size t (Array.replicate ops.toArray.size false) [])
    rw [show ops.toArray.size = ops.length by simp]
    refine valid_go _ _ _ (by simp) ?_
    have : (List.range ops.length).countP (fun j => (Array.replicate ops.length false).getD j false) = 0 := by
      rw [List.countP_eq_zero]
      intro j _
      rw [getD_replicate_false]; simp
    rw [this]; simp
  generalize Region.linearise .any ops.toArray t = σ at hv ⊢
  have hlt := valid_lt hv
  have hcov := cov_sound (pls := pls.map Plan.es) (E := E) hA (fun e he => by simpa using List.all_eq_true.1 hEl e he) topo σ _ E.length [] (by simp) (fun j oj _ hl => (by rw [getD_replicate_false] at hl; cases hl))
    (fun e _ => by rw [getD_replicate_false]; simp) hv hC
  rw [List.nil_append] at hcov
  obtain ⟨p, hp, he⟩ := List.mem_map.1 hcov
  have hpB := List.all_eq_true.1 hP p hp
  simp only [planB, Bool.and_eq_true, decide_eq_true_eq] at hpB
  obtain ⟨⟨⟨h1, h2⟩, h3⟩, h4⟩ := hpB
  have ok := permB_ok h1
  have hany := drawE_any (n0 := n0) (Q := Q) p.es2 p.lo p.hi h2 hn (plans_at h p hp) hE hs
  refine wpOps_ren ok σ _ _ hlt (any_valid _ _ _ _ _ ?_ hany)
  refine valid_ren (E := E) ok topo h3 (fun e he => by simpa using List.all_eq_true.1 h4 e he) σ (Array.replicate ops.length false) _ [] (by simp) (by simp [permO_len, ok.len]) (fun j _ => by rw [getD_replicate_false, getD_replicate_false]) (fun e _ hm => by cases hm) (by rw [List.nil_append]; exact he) hv
/-! Effects in a region, the memory told plainly behind each. -/
section
variable {P : Program} {N : Nat} {al : List (Nat × S)} {H H1 H2 : Heap} {ops r : List Oper} {q : St → Prop} {op : Op} {oty : TypeId} {ops_ : String} {oaf : Array Edge} {d j w : Nat} {want : Bool} {oj : Oper} {s : S}
variable {lo hi : List Nat} {i : Nat} {rem : List Nat} {hist : List Heap} {pend : List (Nat × Heap)}
theorem De2 (h : ∀ K : S → Heap → Prop, K s H1 → ostep P ⟨some d, op, oty, ops_, oaf, none⟩ (frm N al) H K) (k : Dw P ops lo hi q r (i + 1) rem (H2 :: H :: hist) pend (frm N ((d, s) :: al))) (hH : H1 = H2 := by first | (simp only [List.set_cons_zero, List.set_cons_succ, List.cons_append, List.nil_append, List.append_nil, kill, setB]; done) | (simp only [List.set_cons_zero, List.set_cons_succ, List.cons_append, List.nil_append, List.append_nil, kill, setB]; exact rfl) | exact rfl) (hp : pendOk pend (hist.length + 1) H2 := by repeat' (first | exact trivial | exact sub_one rfl | refine And.intro ?_ ?_)) : Dw P ops lo hi q (⟨some d, op, oty, ops_, oaf, none⟩ :: r) i (i :: rem) (H :: hist) pend (frm N al) := by
  subst hH; exact De (h _ ⟨hp, k⟩)
theorem De20 (h : ∀ K : S → Heap → Prop, K s H1 → ostep P ⟨none, op, oty, ops_, oaf, none⟩ (frm N al) H K) (k : Dw P ops lo hi q r (i + 1) rem (H2 :: H :: hist) pend (frm N al)) (hH : H1 = H2 := by first | (simp only [List.set_cons_zero, List.set_cons_succ, List.cons_append, List.nil_append, List.append_nil, kill, setB]; done) | (simp only [List.set_cons_zero, List.set_cons_succ, List.cons_append, List.nil_append, List.append_nil, kill, setB]; exact rfl) | exact rfl) (hp : pendOk pend (hist.length + 1) H2 := by repeat' (first | exact trivial | exact sub_one rfl | refine And.intro ?_ ?_)) : Dw P ops lo hi q (⟨none, op, oty, ops_, oaf, none⟩ :: r) i (i :: rem) (H :: hist) pend (frm N al) := by
  subst hH; exact De0 (h _ ⟨hp, k⟩)
theorem De2g (h : ∀ K : S → Heap → Prop, K s H1 → ostep P ⟨some d, op, oty, ops_, oaf, some (j, want)⟩ (frm N al) H K) (k : Dw P ops lo hi q r (i + 1) rem (H2 :: H :: hist) pend (frm N ((d, s) :: al))) (hH : H1 = H2 := by first | (simp only [List.set_cons_zero, List.set_cons_succ, List.cons_append, List.nil_append, List.append_nil, kill, setB]; done) | (simp only [List.set_cons_zero, List.set_cons_succ, List.cons_append, List.nil_append, List.append_nil, kill, setB]; exact rfl) | exact rfl) (hp : pendOk pend (hist.length + 1) H2 := by repeat' (first | exact trivial | exact sub_one rfl | refine And.intro ?_ ?_)) (hj : ops[j]? = some oj := by exact rfl) (hjd : oj.dst = some w := by exact rfl) (hv : lkpB N al w = .v (.c (.bool want)) := by first | exact rfl | exact congrArg (fun b => S.v (V.c (Cell.bool b))) (by assumption) | exact congrArg (fun b => S.v (V.c (Cell.bool b))) (decide_eq_true (by assumption)) | exact congrArg (fun b => S.v (V.c (Cell.bool b))) (decide_eq_false (by assumption))) : Dw P ops lo hi q (⟨some d, op, oty, ops_, oaf, some (j, want)⟩ :: r) i (i :: rem) (H :: hist) pend (frm N al) := by
  subst hH; exact Deg (h _ ⟨hp, k⟩) hj hjd hv
theorem G2 (h : ∀ K : S → Heap → Prop, K s H1 → ostep P ⟨some d, op, oty, ops_, oaf, none⟩ (frm N al) H K) (k : aops P ops q r ⟨frm N ((d, s) :: al), H2⟩) (hH : H1 = H2 := by first | (simp only [List.set_cons_zero, List.set_cons_succ, List.cons_append, List.nil_append, List.append_nil, kill, setB]; done) | (simp only [List.set_cons_zero, List.set_cons_succ, List.cons_append, List.nil_append, List.append_nil, kill, setB]; exact rfl) | exact rfl) : aops P ops q (⟨some d, op, oty, ops_, oaf, none⟩ :: r) ⟨frm N al, H⟩ := by
  subst hH; exact G (h _ k)
theorem G20 (h : ∀ K : S → Heap → Prop, K s H1 → ostep P ⟨none, op, oty, ops_, oaf, none⟩ (frm N al) H K) (k : aops P ops q r ⟨frm N al, H2⟩) (hH : H1 = H2 := by first | (simp only [List.set_cons_zero, List.set_cons_succ, List.cons_append, List.nil_append, List.append_nil, kill, setB]; done) | (simp only [List.set_cons_zero, List.set_cons_succ, List.cons_append, List.nil_append, List.append_nil, kill, setB]; exact rfl) | exact rfl) : aops P ops q (⟨none, op, oty, ops_, oaf, none⟩ :: r) ⟨frm N al, H⟩ := by
  subst hH; exact G0 (h _ k)
theorem G2g (h : ∀ K : S → Heap → Prop, K s H1 → ostep P ⟨some d, op, oty, ops_, oaf, some (j, want)⟩ (frm N al) H K) (k : aops P ops q r ⟨frm N ((d, s) :: al), H2⟩) (hH : H1 = H2 := by first | (simp only [List.set_cons_zero, List.set_cons_succ, List.cons_append, List.nil_append, List.append_nil, kill, setB]; done) | (simp only [List.set_cons_zero, List.set_cons_succ, List.cons_append, List.nil_append, List.append_nil, kill, setB]; exact rfl) | exact rfl) (hj : ops[j]? = some oj := by exact rfl) (hjd : oj.dst = some w := by exact rfl) (hv : lkpB N al w = .v (.c (.bool want)) := by first | exact rfl | exact congrArg (fun b => S.v (V.c (Cell.bool b))) (by assumption) | exact congrArg (fun b => S.v (V.c (Cell.bool b))) (decide_eq_true (by assumption)) | exact congrArg (fun b => S.v (V.c (Cell.bool b))) (decide_eq_false (by assumption))) : aops P ops q (⟨some d, op, oty, ops_, oaf, some (j, want)⟩ :: r) ⟨frm N al, H⟩ := by
  subst hH; exact Gg (h _ k) hj hjd hv
end
section
variable {P : Program} {n N id : Nat} {Q : Exit → St → Prop} {ops : Array Oper} {al : List (Nat × S)} {H H' : Heap}
theorem rdm (E : List Nat) (pls : List Plan) (h : plansDw P ops.toList (Q .normal) H' (frm N al) pls) (hH : H = H' := by first | (simp only [List.set_cons_zero, List.set_cons_succ, List.cons_append, List.nil_append, List.append_nil]; done) | (simp only [List.set_cons_zero, List.set_cons_succ, List.cons_append, List.nil_append, List.append_nil]; exact rfl) | exact rfl) (hn : Nat.ble n H'.length = true := by exact rfl) (hm : P.follows .mixedOrders = true := by exact rfl) (hB : multiB ops.toList E pls = true := by decide +kernel) : AWp P n (.region id ops true) Q ⟨frm N al, H⟩ := by
  subst hH; exact awp_drawM E pls hm hB (Nat.le_of_ble_eq_true hn) h
end
/-! More operations. -/
section
variable {P : Program} {fr : List S} {H : Heap} {K : S → Heap → Prop} {od : Option Nat} {oty : TypeId} {ops_ : String} {oaf : Array Edge} {ogu : Option (Nat × Bool)} {t u : TypeId} {ti : TI} {a b : Operand}
theorem q_negi {x : Int} (h : K (sc (ci (-x))) H) (hx : ev fr a = sc (ci x) := by first | exact et rfl | exact rfl) (hb : -9223372036854775807 ≤ x ∧ x ≤ 9223372036854775807 := by omega) : ostep P ⟨od, .unOp .neg t a, oty, ops_, oaf, ogu⟩ fr H K := by
  simp only [ostep, pstep, hx]
  rw [wi64 (by omega), show (0 : Int) - x = -x by omega]
  exact h
theorem q_pad15 {n : Nat} [iht : TiOf P t ti] (h : K (sc (cn ((16 - n % 16) % 16))) H) (hx : ev fr a = sc (ci (-(n : Int))) := by first | exact et rfl | exact rfl) (hy : ev fr b = sc (cn 15) := by first | exact et rfl | exact rfl) : ostep P ⟨od, .binOp .and t a b u, oty, ops_, oaf, ogu⟩ fr H K := by
  refine binI rfl iht.h hx hy ?_
  simp only [binC, shiftv, arithv, true_and]
  have e : (BitVec.ofInt IntKind.i64.bits (-(n : Int)) &&& BitVec.ofInt IntKind.i64.bits ((15 : Nat) : Int)).toNat = (16 - n % 16) % 16 := by
    rw [BitVec.toNat_and, show (BitVec.ofInt IntKind.i64.bits ((15 : Nat) : Int)).toNat = 2 ^ 4 - 1 from rfl, Nat.and_two_pow_sub_one_eq_mod, BitVec.toNat_ofInt, show IntKind.i64.bits = 64 from rfl]
    omega
  rw [e, wi64 (by omega)]
  exact h
theorem q_callfn {F : Operand} {k m : Nat} {args : Array Operand} {ats : Array TypeId} {v s : S} {cs : List Cell} {args' : List V} (hg : Good P k args' [] v [some cs]) (h : K s (H ++ [some cs])) (hf : ev fr F = sc (.fn k []) := by first | exact et rfl | exact rfl) (ha : CA fr H [] true args.toList args') (hm : H.length = m := by first | exact hlen0 | exact hlen1 | (simp only [List.length_append, List.length_set, List.length_cons, List.length_nil, Nat.zero_add, Nat.reduceAdd]; done) | (simp only [List.length_append, List.length_set, List.length_cons, List.length_nil, Nat.zero_add, Nat.reduceAdd]; exact rfl))
    (hcs : cs.map (cm (cout [] true m) 8) = cs := by first | exact sees_m | exact rfl) (e3 : sm (cm (cout [] true m) 8) v = s := by first | exact rs_int | exact rs_new | exact rs_nils | exact rfl) : ostep P ⟨od, .call ⟨.value F, args, ats⟩, oty, ops_, oaf, ogu⟩ fr H K := by
  subst hm
  obtain ⟨avs, h1, h2⟩ := ha
  exact r_call [] true rfl hf h1 List.nodup_nil (by simp) (by simpa using h2) rfl hg e3 (by rw [back_nil]; simp [picks, hcs]) h
end
end Go.Abs


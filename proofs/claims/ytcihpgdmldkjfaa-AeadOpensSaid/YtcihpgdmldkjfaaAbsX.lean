/- The abstract machine: rules for single operations, by the kinds of their operands. Printed by rules.py. -/
import Derived.Test.YtcihpgdmldkjfaaAbsW
namespace Go.Abs
open Go

abbrev cn (n : Nat) : Cell := .int .i64 (n : Int)
abbrev ci (n : Int) : Cell := .int .i64 n
theorem ek8 (x : UInt8) {fr : List S} : ev fr (.const (.int .u8 (x.toNat : Int))) = sc (c8 x) := rfl
theorem ek32 (x : UInt32) {fr : List S} : ev fr (.const (.int .u32 (x.toNat : Int))) = sc (c32 x) := rfl
theorem ek64 (x : UInt64) {fr : List S} : ev fr (.const (.int .u64 (x.toNat : Int))) = sc (c64 x) := rfl
theorem ekn (x : Nat) {fr : List S} : ev fr (.const (.int .i64 (x : Int))) = sc (cn x) := rfl

/-! Words: what the reference calls shifts, whatever the count. -/
def shl8n (x : UInt8) (n : Nat) : UInt8 := if n < 8 then x <<< UInt8.ofNat n else 0
def shr8n (x : UInt8) (n : Nat) : UInt8 := if n < 8 then x >>> UInt8.ofNat n else 0
theorem shl8n_lt (x : UInt8) (n : Nat) (h : n < 8) : shl8n x n = x <<< UInt8.ofNat n := if_pos h
theorem shr8n_lt (x : UInt8) (n : Nat) (h : n < 8) : shr8n x n = x >>> UInt8.ofNat n := if_pos h
theorem wr_shl8 (x : UInt8) (n : Nat) : IntKind.u8.wrap ((x.toNat : Int) * 2 ^ (min n 8)) = ((shl8n x n).toNat : Int) := by
  unfold shl8n
  have e : IntKind.u8.wrap ((x.toNat : Int) * 2 ^ (min n 8)) = (((x.toNat * 2 ^ (min n 8)) % 2 ^ 8 : Nat) : Int) := by
    rw [wrap_u .u8 rfl]; simp [IntKind.bits]
  rw [e]
  by_cases h : n < 8
  · rw [if_pos h, Nat.min_eq_left (by omega), UInt8.toNat_shiftLeft]
    have h1 : (UInt8.ofNat n).toNat = n := by simp; omega
    rw [h1, Nat.mod_eq_of_lt h, Nat.shiftLeft_eq]
  · rw [if_neg h, Nat.min_eq_right (by omega)]
    simp
theorem wr_shr8 (x : UInt8) (n : Nat) : ((x.toNat : Int)).fdiv (2 ^ (min n 8)) = ((shr8n x n).toNat : Int) := by
  unfold shr8n
  have e : ((x.toNat : Int)).fdiv (2 ^ (min n 8)) = ((x.toNat / 2 ^ (min n 8) : Nat) : Int) := by
    rw [Int.fdiv_eq_ediv_of_nonneg _ (by exact Int.le_of_lt (Int.pow_pos (by decide)))]
    simp
  rw [e]
  by_cases h : n < 8
  · rw [if_pos h, Nat.min_eq_left (by omega), UInt8.toNat_shiftRight]
    have h1 : (UInt8.ofNat n).toNat = n := by simp; omega
    rw [h1, Nat.mod_eq_of_lt h, Nat.shiftRight_eq_div_pow]
  · rw [if_neg h, Nat.min_eq_right (by omega)]
    have : x.toNat / 2 ^ 8 = 0 := Nat.div_eq_of_lt x.toNat_lt
    rw [this]; rfl
theorem wr_quo8 (x y : UInt8) : IntKind.u8.wrap ((x.toNat : Int).tdiv y.toNat) = ((x / y).toNat : Int) := by
  have h : ((x.toNat : Int).tdiv y.toNat) = ((x.toNat / y.toNat : Nat) : Int) := by rw [Int.ofNat_tdiv]
  rw [h, wrap_u .u8 rfl, UInt8.toNat_div]
  have := x.toNat_lt
  have h2 : x.toNat / y.toNat < 2 ^ 8 := Nat.lt_of_le_of_lt (Nat.div_le_self _ _) this
  have : ((x.toNat / y.toNat : Nat) : Int) < 2 ^ 8 := by exact_mod_cast h2
  exact Int.emod_eq_of_lt (Int.natCast_nonneg _) this
theorem wr_rem8 (x y : UInt8) : (x.toNat : Int).tmod y.toNat = ((x % y).toNat : Int) := by
  rw [UInt8.toNat_mod, Int.ofNat_tmod]
theorem wr_not8 (x : UInt8) : IntKind.u8.wrap ((BitVec.ofInt IntKind.u8.bits (if IntKind.u8.signed then -1 else IntKind.u8.max) ^^^ BitVec.ofInt IntKind.u8.bits (x.toNat : Int)).toNat : Int) = ((~~~x).toNat : Int) := by
  have e : (if IntKind.u8.signed then -1 else IntKind.u8.max) = (((-1 : UInt8).toNat : Nat) : Int) := by decide
  have h : (-1 : UInt8) ^^^ x = ~~~x := UInt8.eq_of_toBitVec_eq (by rw [UInt8.toBitVec_xor, UInt8.toBitVec_not]; exact BitVec.allOnes_xor)
  rw [e, xor8, h]
theorem wr_neg8 (x : UInt8) : IntKind.u8.wrap (0 - (x.toNat : Int)) = ((-x).toNat : Int) := by
  have := sub8 0 x
  simpa using this

def shl32n (x : UInt32) (n : Nat) : UInt32 := if n < 32 then x <<< UInt32.ofNat n else 0
def shr32n (x : UInt32) (n : Nat) : UInt32 := if n < 32 then x >>> UInt32.ofNat n else 0
theorem shl32n_lt (x : UInt32) (n : Nat) (h : n < 32) : shl32n x n = x <<< UInt32.ofNat n := if_pos h
theorem shr32n_lt (x : UInt32) (n : Nat) (h : n < 32) : shr32n x n = x >>> UInt32.ofNat n := if_pos h
theorem wr_shl32 (x : UInt32) (n : Nat) : IntKind.u32.wrap ((x.toNat : Int) * 2 ^ (min n 32)) = ((shl32n x n).toNat : Int) := by
  unfold shl32n
  have e : IntKind.u32.wrap ((x.toNat : Int) * 2 ^ (min n 32)) = (((x.toNat * 2 ^ (min n 32)) % 2 ^ 32 : Nat) : Int) := by
    rw [wrap_u .u32 rfl]; simp [IntKind.bits]
  rw [e]
  by_cases h : n < 32
  · rw [if_pos h, Nat.min_eq_left (by omega), UInt32.toNat_shiftLeft]
    have h1 : (UInt32.ofNat n).toNat = n := by simp; omega
    rw [h1, Nat.mod_eq_of_lt h, Nat.shiftLeft_eq]
  · rw [if_neg h, Nat.min_eq_right (by omega)]
    simp
theorem wr_shr32 (x : UInt32) (n : Nat) : ((x.toNat : Int)).fdiv (2 ^ (min n 32)) = ((shr32n x n).toNat : Int) := by
  unfold shr32n
  have e : ((x.toNat : Int)).fdiv (2 ^ (min n 32)) = ((x.toNat / 2 ^ (min n 32) : Nat) : Int) := by
    rw [Int.fdiv_eq_ediv_of_nonneg _ (by exact Int.le_of_lt (Int.pow_pos (by decide)))]
    simp
  rw [e]
  by_cases h : n < 32
  · rw [if_pos h, Nat.min_eq_left (by omega), UInt32.toNat_shiftRight]
    have h1 : (UInt32.ofNat n).toNat = n := by simp; omega
    rw [h1, Nat.mod_eq_of_lt h, Nat.shiftRight_eq_div_pow]
  · rw [if_neg h, Nat.min_eq_right (by omega)]
    have : x.toNat / 2 ^ 32 = 0 := Nat.div_eq_of_lt x.toNat_lt
    rw [this]; rfl
theorem wr_quo32 (x y : UInt32) : IntKind.u32.wrap ((x.toNat : Int).tdiv y.toNat) = ((x / y).toNat : Int) := by
  have h : ((x.toNat : Int).tdiv y.toNat) = ((x.toNat / y.toNat : Nat) : Int) := by rw [Int.ofNat_tdiv]
  rw [h, wrap_u .u32 rfl, UInt32.toNat_div]
  have := x.toNat_lt
  have h2 : x.toNat / y.toNat < 2 ^ 32 := Nat.lt_of_le_of_lt (Nat.div_le_self _ _) this
  have : ((x.toNat / y.toNat : Nat) : Int) < 2 ^ 32 := by exact_mod_cast h2
  exact Int.emod_eq_of_lt (Int.natCast_nonneg _) this
theorem wr_rem32 (x y : UInt32) : (x.toNat : Int).tmod y.toNat = ((x % y).toNat : Int) := by
  rw [UInt32.toNat_mod, Int.ofNat_tmod]
theorem wr_not32 (x : UInt32) : IntKind.u32.wrap ((BitVec.ofInt IntKind.u32.bits (if IntKind.u32.signed then -1 else IntKind.u32.max) ^^^ BitVec.ofInt IntKind.u32.bits (x.toNat : Int)).toNat : Int) = ((~~~x).toNat : Int) := by
  have e : (if IntKind.u32.signed then -1 else IntKind.u32.max) = (((-1 : UInt32).toNat : Nat) : Int) := by decide
  have h : (-1 : UInt32) ^^^ x = ~~~x := UInt32.eq_of_toBitVec_eq (by rw [UInt32.toBitVec_xor, UInt32.toBitVec_not]; exact BitVec.allOnes_xor)
  rw [e, xor32, h]
theorem wr_neg32 (x : UInt32) : IntKind.u32.wrap (0 - (x.toNat : Int)) = ((-x).toNat : Int) := by
  have := sub32 0 x
  simpa using this

def shl64n (x : UInt64) (n : Nat) : UInt64 := if n < 64 then x <<< UInt64.ofNat n else 0
def shr64n (x : UInt64) (n : Nat) : UInt64 := if n < 64 then x >>> UInt64.ofNat n else 0
theorem shl64n_lt (x : UInt64) (n : Nat) (h : n < 64) : shl64n x n = x <<< UInt64.ofNat n := if_pos h
theorem shr64n_lt (x : UInt64) (n : Nat) (h : n < 64) : shr64n x n = x >>> UInt64.ofNat n := if_pos h
theorem wr_shl64 (x : UInt64) (n : Nat) : IntKind.u64.wrap ((x.toNat : Int) * 2 ^ (min n 64)) = ((shl64n x n).toNat : Int) := by
  unfold shl64n
  have e : IntKind.u64.wrap ((x.toNat : Int) * 2 ^ (min n 64)) = (((x.toNat * 2 ^ (min n 64)) % 2 ^ 64 : Nat) : Int) := by
    rw [wrap_u .u64 rfl]; simp [IntKind.bits]
  rw [e]
  by_cases h : n < 64
  · rw [if_pos h, Nat.min_eq_left (by omega), UInt64.toNat_shiftLeft]
    have h1 : (UInt64.ofNat n).toNat = n := by simp; omega
    rw [h1, Nat.mod_eq_of_lt h, Nat.shiftLeft_eq]
  · rw [if_neg h, Nat.min_eq_right (by omega)]
    simp
theorem wr_shr64 (x : UInt64) (n : Nat) : ((x.toNat : Int)).fdiv (2 ^ (min n 64)) = ((shr64n x n).toNat : Int) := by
  unfold shr64n
  have e : ((x.toNat : Int)).fdiv (2 ^ (min n 64)) = ((x.toNat / 2 ^ (min n 64) : Nat) : Int) := by
    rw [Int.fdiv_eq_ediv_of_nonneg _ (by exact Int.le_of_lt (Int.pow_pos (by decide)))]
    simp
  rw [e]
  by_cases h : n < 64
  · rw [if_pos h, Nat.min_eq_left (by omega), UInt64.toNat_shiftRight]
    have h1 : (UInt64.ofNat n).toNat = n := by simp; omega
    rw [h1, Nat.mod_eq_of_lt h, Nat.shiftRight_eq_div_pow]
  · rw [if_neg h, Nat.min_eq_right (by omega)]
    have : x.toNat / 2 ^ 64 = 0 := Nat.div_eq_of_lt x.toNat_lt
    rw [this]; rfl
theorem wr_quo64 (x y : UInt64) : IntKind.u64.wrap ((x.toNat : Int).tdiv y.toNat) = ((x / y).toNat : Int) := by
  have h : ((x.toNat : Int).tdiv y.toNat) = ((x.toNat / y.toNat : Nat) : Int) := by rw [Int.ofNat_tdiv]
  rw [h, wrap_u .u64 rfl, UInt64.toNat_div]
  have := x.toNat_lt
  have h2 : x.toNat / y.toNat < 2 ^ 64 := Nat.lt_of_le_of_lt (Nat.div_le_self _ _) this
  have : ((x.toNat / y.toNat : Nat) : Int) < 2 ^ 64 := by exact_mod_cast h2
  exact Int.emod_eq_of_lt (Int.natCast_nonneg _) this
theorem wr_rem64 (x y : UInt64) : (x.toNat : Int).tmod y.toNat = ((x % y).toNat : Int) := by
  rw [UInt64.toNat_mod, Int.ofNat_tmod]
theorem wr_not64 (x : UInt64) : IntKind.u64.wrap ((BitVec.ofInt IntKind.u64.bits (if IntKind.u64.signed then -1 else IntKind.u64.max) ^^^ BitVec.ofInt IntKind.u64.bits (x.toNat : Int)).toNat : Int) = ((~~~x).toNat : Int) := by
  have e : (if IntKind.u64.signed then -1 else IntKind.u64.max) = (((-1 : UInt64).toNat : Nat) : Int) := by decide
  have h : (-1 : UInt64) ^^^ x = ~~~x := UInt64.eq_of_toBitVec_eq (by rw [UInt64.toBitVec_xor, UInt64.toBitVec_not]; exact BitVec.allOnes_xor)
  rw [e, xor64, h]
theorem wr_neg64 (x : UInt64) : IntKind.u64.wrap (0 - (x.toNat : Int)) = ((-x).toNat : Int) := by
  have := sub64 0 x
  simpa using this

theorem andn32 (x y : UInt32) : IntKind.u32.wrap ((BitVec.ofInt IntKind.u32.bits (x.toNat : Int) &&& ~~~BitVec.ofInt IntKind.u32.bits (y.toNat : Int)).toNat : Int) = ((x &&& ~~~y).toNat : Int) := by
  show IntKind.u32.wrap ((BitVec.ofInt 32 _ &&& ~~~BitVec.ofInt 32 _).toNat : Int) = _
  rw [of32, of32, wrap_u .u32 rfl, ← UInt32.toBitVec_not, ← UInt32.toBitVec_and]; show ((x &&& ~~~y).toNat : Int) % 4294967296 = _; have := (x &&& ~~~y).toNat_lt; omega

theorem andn64 (x y : UInt64) : IntKind.u64.wrap ((BitVec.ofInt IntKind.u64.bits (x.toNat : Int) &&& ~~~BitVec.ofInt IntKind.u64.bits (y.toNat : Int)).toNat : Int) = ((x &&& ~~~y).toNat : Int) := by
  show IntKind.u64.wrap ((BitVec.ofInt 64 _ &&& ~~~BitVec.ofInt 64 _).toNat : Int) = _
  rw [of64, of64, wrap_u .u64 rfl, ← UInt64.toBitVec_not, ← UInt64.toBitVec_and]; show ((x &&& ~~~y).toNat : Int) % 18446744073709551616 = _; have := (x &&& ~~~y).toNat_lt; omega

section
variable {P : Program} {fr : List S} {H : Heap} {K : S → Heap → Prop} {o : Oper} {t u : TypeId} {ti : TI} {a b : Operand}

theorem binI {op : BinOp} {k k' : IntKind} {x y : Int} (ho : o.op = .binOp op t a b u) (ht : tiOf P t = some ti) (hx : ev fr a = sc (.int k x)) (hy : ev fr b = sc (.int k' y))
    (h : binC op ti.kind (.int k x) (.int k' y) fun r => K (sc r) H) : ostep P o fr H K := by
  simp only [ostep, ho, hx, hy, pstep, ht]
  exact h

theorem r_add8 {x y : UInt8} (ho : o.op = .binOp .add t a b u) (ht : tiOf P t = some ti) (hx : ev fr a = sc (c8 x)) (hy : ev fr b = sc (c8 y)) (h : K (sc (c8 (x + y))) H) : ostep P o fr H K :=
  binI ho ht hx hy (by simp only [binC, shiftv, arithv, true_and]; rw [add8]; exact h)
theorem r_sub8 {x y : UInt8} (ho : o.op = .binOp .sub t a b u) (ht : tiOf P t = some ti) (hx : ev fr a = sc (c8 x)) (hy : ev fr b = sc (c8 y)) (h : K (sc (c8 (x - y))) H) : ostep P o fr H K :=
  binI ho ht hx hy (by simp only [binC, shiftv, arithv, true_and]; rw [sub8]; exact h)
theorem r_mul8 {x y : UInt8} (ho : o.op = .binOp .mul t a b u) (ht : tiOf P t = some ti) (hx : ev fr a = sc (c8 x)) (hy : ev fr b = sc (c8 y)) (h : K (sc (c8 (x * y))) H) : ostep P o fr H K :=
  binI ho ht hx hy (by simp only [binC, shiftv, arithv, true_and]; rw [mul8]; exact h)
theorem r_and8 {x y : UInt8} (ho : o.op = .binOp .and t a b u) (ht : tiOf P t = some ti) (hx : ev fr a = sc (c8 x)) (hy : ev fr b = sc (c8 y)) (h : K (sc (c8 (x &&& y))) H) : ostep P o fr H K :=
  binI ho ht hx hy (by simp only [binC, shiftv, arithv, true_and]; rw [and8]; exact h)
theorem r_or8 {x y : UInt8} (ho : o.op = .binOp .or t a b u) (ht : tiOf P t = some ti) (hx : ev fr a = sc (c8 x)) (hy : ev fr b = sc (c8 y)) (h : K (sc (c8 (x ||| y))) H) : ostep P o fr H K :=
  binI ho ht hx hy (by simp only [binC, shiftv, arithv, true_and]; rw [or8]; exact h)
theorem r_xor8 {x y : UInt8} (ho : o.op = .binOp .xor t a b u) (ht : tiOf P t = some ti) (hx : ev fr a = sc (c8 x)) (hy : ev fr b = sc (c8 y)) (h : K (sc (c8 (x ^^^ y))) H) : ostep P o fr H K :=
  binI ho ht hx hy (by simp only [binC, shiftv, arithv, true_and]; rw [xor8]; exact h)
theorem r_andNot8 {x y : UInt8} (ho : o.op = .binOp .andNot t a b u) (ht : tiOf P t = some ti) (hx : ev fr a = sc (c8 x)) (hy : ev fr b = sc (c8 y)) (h : K (sc (c8 (x &&& ~~~y))) H) : ostep P o fr H K :=
  binI ho ht hx hy (by simp only [binC, shiftv, arithv, true_and]; rw [andn8]; exact h)
theorem r_quo8 {x y : UInt8} (ho : o.op = .binOp .quo t a b u) (ht : tiOf P t = some ti) (hx : ev fr a = sc (c8 x)) (hy : ev fr b = sc (c8 y)) (hz : y ≠ 0) (h : K (sc (c8 (x / y))) H) : ostep P o fr H K :=
  binI ho ht hx hy (by
    simp only [binC, shiftv, arithv, divv, true_and]; rw [wr_quo8]
    exact ⟨fun e => hz (UInt8.toNat_inj.1 (by exact_mod_cast e)), h⟩)
theorem r_rem8 {x y : UInt8} (ho : o.op = .binOp .rem t a b u) (ht : tiOf P t = some ti) (hx : ev fr a = sc (c8 x)) (hy : ev fr b = sc (c8 y)) (hz : y ≠ 0) (h : K (sc (c8 (x % y))) H) : ostep P o fr H K :=
  binI ho ht hx hy (by
    simp only [binC, shiftv, arithv, divv, true_and]; rw [wr_rem8]
    exact ⟨fun e => hz (UInt8.toNat_inj.1 (by exact_mod_cast e)), h⟩)
theorem r_eql8 {x y : UInt8} (ho : o.op = .binOp .eql t a b u) (ht : tiOf P t = some ti) (hx : ev fr a = sc (c8 x)) (hy : ev fr b = sc (c8 y)) (h : K (sc (.bool (decide (x = y)))) H) : ostep P o fr H K :=
  binI ho ht hx hy (by
    simp only [binC, shiftv, arithv, divv, cmpv, true_and]
    refine cast (congrArg (fun z => K (sc (.bool z)) H) ?_) h
    rw [Bool.eq_iff_iff]; simp only [decide_eq_true_eq, beq_iff_eq, ← UInt8.toNat_inj]; omega)
theorem r_neq8 {x y : UInt8} (ho : o.op = .binOp .neq t a b u) (ht : tiOf P t = some ti) (hx : ev fr a = sc (c8 x)) (hy : ev fr b = sc (c8 y)) (h : K (sc (.bool (decide (x ≠ y)))) H) : ostep P o fr H K :=
  binI ho ht hx hy (by
    simp only [binC, shiftv, arithv, divv, cmpv, true_and]
    refine cast (congrArg (fun z => K (sc (.bool z)) H) ?_) h
    rw [Bool.eq_iff_iff]; simp only [decide_eq_true_eq, bne_iff_ne, ne_eq, ← UInt8.toNat_inj]; omega)
theorem r_lss8 {x y : UInt8} (ho : o.op = .binOp .lss t a b u) (ht : tiOf P t = some ti) (hx : ev fr a = sc (c8 x)) (hy : ev fr b = sc (c8 y)) (h : K (sc (.bool (decide (x < y)))) H) : ostep P o fr H K :=
  binI ho ht hx hy (by
    simp only [binC, shiftv, arithv, divv, cmpv, true_and]
    refine cast (congrArg (fun z => K (sc (.bool z)) H) ?_) h
    rw [Bool.eq_iff_iff]; simp only [decide_eq_true_eq, UInt8.lt_iff_toNat_lt]; omega)
theorem r_leq8 {x y : UInt8} (ho : o.op = .binOp .leq t a b u) (ht : tiOf P t = some ti) (hx : ev fr a = sc (c8 x)) (hy : ev fr b = sc (c8 y)) (h : K (sc (.bool (decide (x ≤ y)))) H) : ostep P o fr H K :=
  binI ho ht hx hy (by
    simp only [binC, shiftv, arithv, divv, cmpv, true_and]
    refine cast (congrArg (fun z => K (sc (.bool z)) H) ?_) h
    rw [Bool.eq_iff_iff]; simp only [decide_eq_true_eq, UInt8.le_iff_toNat_le]; omega)
theorem r_gtr8 {x y : UInt8} (ho : o.op = .binOp .gtr t a b u) (ht : tiOf P t = some ti) (hx : ev fr a = sc (c8 x)) (hy : ev fr b = sc (c8 y)) (h : K (sc (.bool (decide (y < x)))) H) : ostep P o fr H K :=
  binI ho ht hx hy (by
    simp only [binC, shiftv, arithv, divv, cmpv, true_and]
    refine cast (congrArg (fun z => K (sc (.bool z)) H) ?_) h
    rw [Bool.eq_iff_iff]; simp only [decide_eq_true_eq, gt_iff_lt, UInt8.lt_iff_toNat_lt]; omega)
theorem r_geq8 {x y : UInt8} (ho : o.op = .binOp .geq t a b u) (ht : tiOf P t = some ti) (hx : ev fr a = sc (c8 x)) (hy : ev fr b = sc (c8 y)) (h : K (sc (.bool (decide (y ≤ x)))) H) : ostep P o fr H K :=
  binI ho ht hx hy (by
    simp only [binC, shiftv, arithv, divv, cmpv, true_and]
    refine cast (congrArg (fun z => K (sc (.bool z)) H) ?_) h
    rw [Bool.eq_iff_iff]; simp only [decide_eq_true_eq, ge_iff_le, UInt8.le_iff_toNat_le]; omega)
theorem r_shl8_8 {x : UInt8} {n : UInt8} (ho : o.op = .binOp .shl t a b u) (ht : tiOf P t = some ti) (hx : ev fr a = sc (c8 x)) (hy : ev fr b = sc (c8 n)) (h : K (sc (c8 (shl8n x n.toNat))) H) : ostep P o fr H K :=
  binI ho ht hx hy (by
    simp only [binC, shiftv, Int.toNat_natCast]
    exact ⟨by omega, by rw [show IntKind.u8.bits = 8 from rfl, wr_shl8]; exact h⟩)
theorem r_shr8_8 {x : UInt8} {n : UInt8} (ho : o.op = .binOp .shr t a b u) (ht : tiOf P t = some ti) (hx : ev fr a = sc (c8 x)) (hy : ev fr b = sc (c8 n)) (h : K (sc (c8 (shr8n x n.toNat))) H) : ostep P o fr H K :=
  binI ho ht hx hy (by
    simp only [binC, shiftv, Int.toNat_natCast]
    exact ⟨by omega, by rw [show IntKind.u8.bits = 8 from rfl, wr_shr8]; exact h⟩)
theorem r_shl8_32 {x : UInt8} {n : UInt32} (ho : o.op = .binOp .shl t a b u) (ht : tiOf P t = some ti) (hx : ev fr a = sc (c8 x)) (hy : ev fr b = sc (c32 n)) (h : K (sc (c8 (shl8n x n.toNat))) H) : ostep P o fr H K :=
  binI ho ht hx hy (by
    simp only [binC, shiftv, Int.toNat_natCast]
    exact ⟨by omega, by rw [show IntKind.u8.bits = 8 from rfl, wr_shl8]; exact h⟩)
theorem r_shr8_32 {x : UInt8} {n : UInt32} (ho : o.op = .binOp .shr t a b u) (ht : tiOf P t = some ti) (hx : ev fr a = sc (c8 x)) (hy : ev fr b = sc (c32 n)) (h : K (sc (c8 (shr8n x n.toNat))) H) : ostep P o fr H K :=
  binI ho ht hx hy (by
    simp only [binC, shiftv, Int.toNat_natCast]
    exact ⟨by omega, by rw [show IntKind.u8.bits = 8 from rfl, wr_shr8]; exact h⟩)
theorem r_shl8_64 {x : UInt8} {n : UInt64} (ho : o.op = .binOp .shl t a b u) (ht : tiOf P t = some ti) (hx : ev fr a = sc (c8 x)) (hy : ev fr b = sc (c64 n)) (h : K (sc (c8 (shl8n x n.toNat))) H) : ostep P o fr H K :=
  binI ho ht hx hy (by
    simp only [binC, shiftv, Int.toNat_natCast]
    exact ⟨by omega, by rw [show IntKind.u8.bits = 8 from rfl, wr_shl8]; exact h⟩)
theorem r_shr8_64 {x : UInt8} {n : UInt64} (ho : o.op = .binOp .shr t a b u) (ht : tiOf P t = some ti) (hx : ev fr a = sc (c8 x)) (hy : ev fr b = sc (c64 n)) (h : K (sc (c8 (shr8n x n.toNat))) H) : ostep P o fr H K :=
  binI ho ht hx hy (by
    simp only [binC, shiftv, Int.toNat_natCast]
    exact ⟨by omega, by rw [show IntKind.u8.bits = 8 from rfl, wr_shr8]; exact h⟩)
theorem r_shl8_0 {x : UInt8} {n : Nat} (ho : o.op = .binOp .shl t a b u) (ht : tiOf P t = some ti) (hx : ev fr a = sc (c8 x)) (hy : ev fr b = sc (cn n)) (h : K (sc (c8 (shl8n x n))) H) : ostep P o fr H K :=
  binI ho ht hx hy (by
    simp only [binC, shiftv, Int.toNat_natCast]
    exact ⟨by omega, by rw [show IntKind.u8.bits = 8 from rfl, wr_shl8]; exact h⟩)
theorem r_shr8_0 {x : UInt8} {n : Nat} (ho : o.op = .binOp .shr t a b u) (ht : tiOf P t = some ti) (hx : ev fr a = sc (c8 x)) (hy : ev fr b = sc (cn n)) (h : K (sc (c8 (shr8n x n))) H) : ostep P o fr H K :=
  binI ho ht hx hy (by
    simp only [binC, shiftv, Int.toNat_natCast]
    exact ⟨by omega, by rw [show IntKind.u8.bits = 8 from rfl, wr_shr8]; exact h⟩)
theorem r_not8 {x : UInt8} (ho : o.op = .unOp .xor t a) (hx : ev fr a = sc (c8 x)) (h : K (sc (c8 (~~~x))) H) : ostep P o fr H K := by
  simp only [ostep, ho, pstep, hx, arithv]
  rw [wr_not8]; exact h
theorem r_neg8 {x : UInt8} (ho : o.op = .unOp .neg t a) (hx : ev fr a = sc (c8 x)) (h : K (sc (c8 (-x))) H) : ostep P o fr H K := by
  simp only [ostep, ho, pstep, hx]
  rw [wr_neg8]; exact h
theorem r_add32 {x y : UInt32} (ho : o.op = .binOp .add t a b u) (ht : tiOf P t = some ti) (hx : ev fr a = sc (c32 x)) (hy : ev fr b = sc (c32 y)) (h : K (sc (c32 (x + y))) H) : ostep P o fr H K :=
  binI ho ht hx hy (by simp only [binC, shiftv, arithv, true_and]; rw [add32]; exact h)
theorem r_sub32 {x y : UInt32} (ho : o.op = .binOp .sub t a b u) (ht : tiOf P t = some ti) (hx : ev fr a = sc (c32 x)) (hy : ev fr b = sc (c32 y)) (h : K (sc (c32 (x - y))) H) : ostep P o fr H K :=
  binI ho ht hx hy (by simp only [binC, shiftv, arithv, true_and]; rw [sub32]; exact h)
theorem r_mul32 {x y : UInt32} (ho : o.op = .binOp .mul t a b u) (ht : tiOf P t = some ti) (hx : ev fr a = sc (c32 x)) (hy : ev fr b = sc (c32 y)) (h : K (sc (c32 (x * y))) H) : ostep P o fr H K :=
  binI ho ht hx hy (by simp only [binC, shiftv, arithv, true_and]; rw [mul32]; exact h)
theorem r_and32 {x y : UInt32} (ho : o.op = .binOp .and t a b u) (ht : tiOf P t = some ti) (hx : ev fr a = sc (c32 x)) (hy : ev fr b = sc (c32 y)) (h : K (sc (c32 (x &&& y))) H) : ostep P o fr H K :=
  binI ho ht hx hy (by simp only [binC, shiftv, arithv, true_and]; rw [and32]; exact h)
theorem r_or32 {x y : UInt32} (ho : o.op = .binOp .or t a b u) (ht : tiOf P t = some ti) (hx : ev fr a = sc (c32 x)) (hy : ev fr b = sc (c32 y)) (h : K (sc (c32 (x ||| y))) H) : ostep P o fr H K :=
  binI ho ht hx hy (by simp only [binC, shiftv, arithv, true_and]; rw [or32]; exact h)
theorem r_xor32 {x y : UInt32} (ho : o.op = .binOp .xor t a b u) (ht : tiOf P t = some ti) (hx : ev fr a = sc (c32 x)) (hy : ev fr b = sc (c32 y)) (h : K (sc (c32 (x ^^^ y))) H) : ostep P o fr H K :=
  binI ho ht hx hy (by simp only [binC, shiftv, arithv, true_and]; rw [xor32]; exact h)
theorem r_andNot32 {x y : UInt32} (ho : o.op = .binOp .andNot t a b u) (ht : tiOf P t = some ti) (hx : ev fr a = sc (c32 x)) (hy : ev fr b = sc (c32 y)) (h : K (sc (c32 (x &&& ~~~y))) H) : ostep P o fr H K :=
  binI ho ht hx hy (by simp only [binC, shiftv, arithv, true_and]; rw [andn32]; exact h)
theorem r_quo32 {x y : UInt32} (ho : o.op = .binOp .quo t a b u) (ht : tiOf P t = some ti) (hx : ev fr a = sc (c32 x)) (hy : ev fr b = sc (c32 y)) (hz : y ≠ 0) (h : K (sc (c32 (x / y))) H) : ostep P o fr H K :=
  binI ho ht hx hy (by
    simp only [binC, shiftv, arithv, divv, true_and]; rw [wr_quo32]
    exact ⟨fun e => hz (UInt32.toNat_inj.1 (by exact_mod_cast e)), h⟩)
theorem r_rem32 {x y : UInt32} (ho : o.op = .binOp .rem t a b u) (ht : tiOf P t = some ti) (hx : ev fr a = sc (c32 x)) (hy : ev fr b = sc (c32 y)) (hz : y ≠ 0) (h : K (sc (c32 (x % y))) H) : ostep P o fr H K :=
  binI ho ht hx hy (by
    simp only [binC, shiftv, arithv, divv, true_and]; rw [wr_rem32]
    exact ⟨fun e => hz (UInt32.toNat_inj.1 (by exact_mod_cast e)), h⟩)
theorem r_eql32 {x y : UInt32} (ho : o.op = .binOp .eql t a b u) (ht : tiOf P t = some ti) (hx : ev fr a = sc (c32 x)) (hy : ev fr b = sc (c32 y)) (h : K (sc (.bool (decide (x = y)))) H) : ostep P o fr H K :=
  binI ho ht hx hy (by
    simp only [binC, shiftv, arithv, divv, cmpv, true_and]
    refine cast (congrArg (fun z => K (sc (.bool z)) H) ?_) h
    rw [Bool.eq_iff_iff]; simp only [decide_eq_true_eq, beq_iff_eq, ← UInt32.toNat_inj]; omega)
theorem r_neq32 {x y : UInt32} (ho : o.op = .binOp .neq t a b u) (ht : tiOf P t = some ti) (hx : ev fr a = sc (c32 x)) (hy : ev fr b = sc (c32 y)) (h : K (sc (.bool (decide (x ≠ y)))) H) : ostep P o fr H K :=
  binI ho ht hx hy (by
    simp only [binC, shiftv, arithv, divv, cmpv, true_and]
    refine cast (congrArg (fun z => K (sc (.bool z)) H) ?_) h
    rw [Bool.eq_iff_iff]; simp only [decide_eq_true_eq, bne_iff_ne, ne_eq, ← UInt32.toNat_inj]; omega)
theorem r_lss32 {x y : UInt32} (ho : o.op = .binOp .lss t a b u) (ht : tiOf P t = some ti) (hx : ev fr a = sc (c32 x)) (hy : ev fr b = sc (c32 y)) (h : K (sc (.bool (decide (x < y)))) H) : ostep P o fr H K :=
  binI ho ht hx hy (by
    simp only [binC, shiftv, arithv, divv, cmpv, true_and]
    refine cast (congrArg (fun z => K (sc (.bool z)) H) ?_) h
    rw [Bool.eq_iff_iff]; simp only [decide_eq_true_eq, UInt32.lt_iff_toNat_lt]; omega)
theorem r_leq32 {x y : UInt32} (ho : o.op = .binOp .leq t a b u) (ht : tiOf P t = some ti) (hx : ev fr a = sc (c32 x)) (hy : ev fr b = sc (c32 y)) (h : K (sc (.bool (decide (x ≤ y)))) H) : ostep P o fr H K :=
  binI ho ht hx hy (by
    simp only [binC, shiftv, arithv, divv, cmpv, true_and]
    refine cast (congrArg (fun z => K (sc (.bool z)) H) ?_) h
    rw [Bool.eq_iff_iff]; simp only [decide_eq_true_eq, UInt32.le_iff_toNat_le]; omega)
theorem r_gtr32 {x y : UInt32} (ho : o.op = .binOp .gtr t a b u) (ht : tiOf P t = some ti) (hx : ev fr a = sc (c32 x)) (hy : ev fr b = sc (c32 y)) (h : K (sc (.bool (decide (y < x)))) H) : ostep P o fr H K :=
  binI ho ht hx hy (by
    simp only [binC, shiftv, arithv, divv, cmpv, true_and]
    refine cast (congrArg (fun z => K (sc (.bool z)) H) ?_) h
    rw [Bool.eq_iff_iff]; simp only [decide_eq_true_eq, gt_iff_lt, UInt32.lt_iff_toNat_lt]; omega)
theorem r_geq32 {x y : UInt32} (ho : o.op = .binOp .geq t a b u) (ht : tiOf P t = some ti) (hx : ev fr a = sc (c32 x)) (hy : ev fr b = sc (c32 y)) (h : K (sc (.bool (decide (y ≤ x)))) H) : ostep P o fr H K :=
  binI ho ht hx hy (by
    simp only [binC, shiftv, arithv, divv, cmpv, true_and]
    refine cast (congrArg (fun z => K (sc (.bool z)) H) ?_) h
    rw [Bool.eq_iff_iff]; simp only [decide_eq_true_eq, ge_iff_le, UInt32.le_iff_toNat_le]; omega)
theorem r_shl32_8 {x : UInt32} {n : UInt8} (ho : o.op = .binOp .shl t a b u) (ht : tiOf P t = some ti) (hx : ev fr a = sc (c32 x)) (hy : ev fr b = sc (c8 n)) (h : K (sc (c32 (shl32n x n.toNat))) H) : ostep P o fr H K :=
  binI ho ht hx hy (by
    simp only [binC, shiftv, Int.toNat_natCast]
    exact ⟨by omega, by rw [show IntKind.u32.bits = 32 from rfl, wr_shl32]; exact h⟩)
theorem r_shr32_8 {x : UInt32} {n : UInt8} (ho : o.op = .binOp .shr t a b u) (ht : tiOf P t = some ti) (hx : ev fr a = sc (c32 x)) (hy : ev fr b = sc (c8 n)) (h : K (sc (c32 (shr32n x n.toNat))) H) : ostep P o fr H K :=
  binI ho ht hx hy (by
    simp only [binC, shiftv, Int.toNat_natCast]
    exact ⟨by omega, by rw [show IntKind.u32.bits = 32 from rfl, wr_shr32]; exact h⟩)
theorem r_shl32_32 {x : UInt32} {n : UInt32} (ho : o.op = .binOp .shl t a b u) (ht : tiOf P t = some ti) (hx : ev fr a = sc (c32 x)) (hy : ev fr b = sc (c32 n)) (h : K (sc (c32 (shl32n x n.toNat))) H) : ostep P o fr H K :=
  binI ho ht hx hy (by
    simp only [binC, shiftv, Int.toNat_natCast]
    exact ⟨by omega, by rw [show IntKind.u32.bits = 32 from rfl, wr_shl32]; exact h⟩)
theorem r_shr32_32 {x : UInt32} {n : UInt32} (ho : o.op = .binOp .shr t a b u) (ht : tiOf P t = some ti) (hx : ev fr a = sc (c32 x)) (hy : ev fr b = sc (c32 n)) (h : K (sc (c32 (shr32n x n.toNat))) H) : ostep P o fr H K :=
  binI ho ht hx hy (by
    simp only [binC, shiftv, Int.toNat_natCast]
    exact ⟨by omega, by rw [show IntKind.u32.bits = 32 from rfl, wr_shr32]; exact h⟩)
theorem r_shl32_64 {x : UInt32} {n : UInt64} (ho : o.op = .binOp .shl t a b u) (ht : tiOf P t = some ti) (hx : ev fr a = sc (c32 x)) (hy : ev fr b = sc (c64 n)) (h : K (sc (c32 (shl32n x n.toNat))) H) : ostep P o fr H K :=
  binI ho ht hx hy (by
    simp only [binC, shiftv, Int.toNat_natCast]
    exact ⟨by omega, by rw [show IntKind.u32.bits = 32 from rfl, wr_shl32]; exact h⟩)
theorem r_shr32_64 {x : UInt32} {n : UInt64} (ho : o.op = .binOp .shr t a b u) (ht : tiOf P t = some ti) (hx : ev fr a = sc (c32 x)) (hy : ev fr b = sc (c64 n)) (h : K (sc (c32 (shr32n x n.toNat))) H) : ostep P o fr H K :=
  binI ho ht hx hy (by
    simp only [binC, shiftv, Int.toNat_natCast]
    exact ⟨by omega, by rw [show IntKind.u32.bits = 32 from rfl, wr_shr32]; exact h⟩)
theorem r_shl32_0 {x : UInt32} {n : Nat} (ho : o.op = .binOp .shl t a b u) (ht : tiOf P t = some ti) (hx : ev fr a = sc (c32 x)) (hy : ev fr b = sc (cn n)) (h : K (sc (c32 (shl32n x n))) H) : ostep P o fr H K :=
  binI ho ht hx hy (by
    simp only [binC, shiftv, Int.toNat_natCast]
    exact ⟨by omega, by rw [show IntKind.u32.bits = 32 from rfl, wr_shl32]; exact h⟩)
theorem r_shr32_0 {x : UInt32} {n : Nat} (ho : o.op = .binOp .shr t a b u) (ht : tiOf P t = some ti) (hx : ev fr a = sc (c32 x)) (hy : ev fr b = sc (cn n)) (h : K (sc (c32 (shr32n x n))) H) : ostep P o fr H K :=
  binI ho ht hx hy (by
    simp only [binC, shiftv, Int.toNat_natCast]
    exact ⟨by omega, by rw [show IntKind.u32.bits = 32 from rfl, wr_shr32]; exact h⟩)
theorem r_not32 {x : UInt32} (ho : o.op = .unOp .xor t a) (hx : ev fr a = sc (c32 x)) (h : K (sc (c32 (~~~x))) H) : ostep P o fr H K := by
  simp only [ostep, ho, pstep, hx, arithv]
  rw [wr_not32]; exact h
theorem r_neg32 {x : UInt32} (ho : o.op = .unOp .neg t a) (hx : ev fr a = sc (c32 x)) (h : K (sc (c32 (-x))) H) : ostep P o fr H K := by
  simp only [ostep, ho, pstep, hx]
  rw [wr_neg32]; exact h
theorem r_add64 {x y : UInt64} (ho : o.op = .binOp .add t a b u) (ht : tiOf P t = some ti) (hx : ev fr a = sc (c64 x)) (hy : ev fr b = sc (c64 y)) (h : K (sc (c64 (x + y))) H) : ostep P o fr H K :=
  binI ho ht hx hy (by simp only [binC, shiftv, arithv, true_and]; rw [add64]; exact h)
theorem r_sub64 {x y : UInt64} (ho : o.op = .binOp .sub t a b u) (ht : tiOf P t = some ti) (hx : ev fr a = sc (c64 x)) (hy : ev fr b = sc (c64 y)) (h : K (sc (c64 (x - y))) H) : ostep P o fr H K :=
  binI ho ht hx hy (by simp only [binC, shiftv, arithv, true_and]; rw [sub64]; exact h)
theorem r_mul64 {x y : UInt64} (ho : o.op = .binOp .mul t a b u) (ht : tiOf P t = some ti) (hx : ev fr a = sc (c64 x)) (hy : ev fr b = sc (c64 y)) (h : K (sc (c64 (x * y))) H) : ostep P o fr H K :=
  binI ho ht hx hy (by simp only [binC, shiftv, arithv, true_and]; rw [mul64]; exact h)
theorem r_and64 {x y : UInt64} (ho : o.op = .binOp .and t a b u) (ht : tiOf P t = some ti) (hx : ev fr a = sc (c64 x)) (hy : ev fr b = sc (c64 y)) (h : K (sc (c64 (x &&& y))) H) : ostep P o fr H K :=
  binI ho ht hx hy (by simp only [binC, shiftv, arithv, true_and]; rw [and64]; exact h)
theorem r_or64 {x y : UInt64} (ho : o.op = .binOp .or t a b u) (ht : tiOf P t = some ti) (hx : ev fr a = sc (c64 x)) (hy : ev fr b = sc (c64 y)) (h : K (sc (c64 (x ||| y))) H) : ostep P o fr H K :=
  binI ho ht hx hy (by simp only [binC, shiftv, arithv, true_and]; rw [or64]; exact h)
theorem r_xor64 {x y : UInt64} (ho : o.op = .binOp .xor t a b u) (ht : tiOf P t = some ti) (hx : ev fr a = sc (c64 x)) (hy : ev fr b = sc (c64 y)) (h : K (sc (c64 (x ^^^ y))) H) : ostep P o fr H K :=
  binI ho ht hx hy (by simp only [binC, shiftv, arithv, true_and]; rw [xor64]; exact h)
theorem r_andNot64 {x y : UInt64} (ho : o.op = .binOp .andNot t a b u) (ht : tiOf P t = some ti) (hx : ev fr a = sc (c64 x)) (hy : ev fr b = sc (c64 y)) (h : K (sc (c64 (x &&& ~~~y))) H) : ostep P o fr H K :=
  binI ho ht hx hy (by simp only [binC, shiftv, arithv, true_and]; rw [andn64]; exact h)
theorem r_quo64 {x y : UInt64} (ho : o.op = .binOp .quo t a b u) (ht : tiOf P t = some ti) (hx : ev fr a = sc (c64 x)) (hy : ev fr b = sc (c64 y)) (hz : y ≠ 0) (h : K (sc (c64 (x / y))) H) : ostep P o fr H K :=
  binI ho ht hx hy (by
    simp only [binC, shiftv, arithv, divv, true_and]; rw [wr_quo64]
    exact ⟨fun e => hz (UInt64.toNat_inj.1 (by exact_mod_cast e)), h⟩)
theorem r_rem64 {x y : UInt64} (ho : o.op = .binOp .rem t a b u) (ht : tiOf P t = some ti) (hx : ev fr a = sc (c64 x)) (hy : ev fr b = sc (c64 y)) (hz : y ≠ 0) (h : K (sc (c64 (x % y))) H) : ostep P o fr H K :=
  binI ho ht hx hy (by
    simp only [binC, shiftv, arithv, divv, true_and]; rw [wr_rem64]
    exact ⟨fun e => hz (UInt64.toNat_inj.1 (by exact_mod_cast e)), h⟩)
theorem r_eql64 {x y : UInt64} (ho : o.op = .binOp .eql t a b u) (ht : tiOf P t = some ti) (hx : ev fr a = sc (c64 x)) (hy : ev fr b = sc (c64 y)) (h : K (sc (.bool (decide (x = y)))) H) : ostep P o fr H K :=
  binI ho ht hx hy (by
    simp only [binC, shiftv, arithv, divv, cmpv, true_and]
    refine cast (congrArg (fun z => K (sc (.bool z)) H) ?_) h
    rw [Bool.eq_iff_iff]; simp only [decide_eq_true_eq, beq_iff_eq, ← UInt64.toNat_inj]; omega)
theorem r_neq64 {x y : UInt64} (ho : o.op = .binOp .neq t a b u) (ht : tiOf P t = some ti) (hx : ev fr a = sc (c64 x)) (hy : ev fr b = sc (c64 y)) (h : K (sc (.bool (decide (x ≠ y)))) H) : ostep P o fr H K :=
  binI ho ht hx hy (by
    simp only [binC, shiftv, arithv, divv, cmpv, true_and]
    refine cast (congrArg (fun z => K (sc (.bool z)) H) ?_) h
    rw [Bool.eq_iff_iff]; simp only [decide_eq_true_eq, bne_iff_ne, ne_eq, ← UInt64.toNat_inj]; omega)
theorem r_lss64 {x y : UInt64} (ho : o.op = .binOp .lss t a b u) (ht : tiOf P t = some ti) (hx : ev fr a = sc (c64 x)) (hy : ev fr b = sc (c64 y)) (h : K (sc (.bool (decide (x < y)))) H) : ostep P o fr H K :=
  binI ho ht hx hy (by
    simp only [binC, shiftv, arithv, divv, cmpv, true_and]
    refine cast (congrArg (fun z => K (sc (.bool z)) H) ?_) h
    rw [Bool.eq_iff_iff]; simp only [decide_eq_true_eq, UInt64.lt_iff_toNat_lt]; omega)
theorem r_leq64 {x y : UInt64} (ho : o.op = .binOp .leq t a b u) (ht : tiOf P t = some ti) (hx : ev fr a = sc (c64 x)) (hy : ev fr b = sc (c64 y)) (h : K (sc (.bool (decide (x ≤ y)))) H) : ostep P o fr H K :=
  binI ho ht hx hy (by
    simp only [binC, shiftv, arithv, divv, cmpv, true_and]
    refine cast (congrArg (fun z => K (sc (.bool z)) H) ?_) h
    rw [Bool.eq_iff_iff]; simp only [decide_eq_true_eq, UInt64.le_iff_toNat_le]; omega)
theorem r_gtr64 {x y : UInt64} (ho : o.op = .binOp .gtr t a b u) (ht : tiOf P t = some ti) (hx : ev fr a = sc (c64 x)) (hy : ev fr b = sc (c64 y)) (h : K (sc (.bool (decide (y < x)))) H) : ostep P o fr H K :=
  binI ho ht hx hy (by
    simp only [binC, shiftv, arithv, divv, cmpv, true_and]
    refine cast (congrArg (fun z => K (sc (.bool z)) H) ?_) h
    rw [Bool.eq_iff_iff]; simp only [decide_eq_true_eq, gt_iff_lt, UInt64.lt_iff_toNat_lt]; omega)
theorem r_geq64 {x y : UInt64} (ho : o.op = .binOp .geq t a b u) (ht : tiOf P t = some ti) (hx : ev fr a = sc (c64 x)) (hy : ev fr b = sc (c64 y)) (h : K (sc (.bool (decide (y ≤ x)))) H) : ostep P o fr H K :=
  binI ho ht hx hy (by
    simp only [binC, shiftv, arithv, divv, cmpv, true_and]
    refine cast (congrArg (fun z => K (sc (.bool z)) H) ?_) h
    rw [Bool.eq_iff_iff]; simp only [decide_eq_true_eq, ge_iff_le, UInt64.le_iff_toNat_le]; omega)
theorem r_shl64_8 {x : UInt64} {n : UInt8} (ho : o.op = .binOp .shl t a b u) (ht : tiOf P t = some ti) (hx : ev fr a = sc (c64 x)) (hy : ev fr b = sc (c8 n)) (h : K (sc (c64 (shl64n x n.toNat))) H) : ostep P o fr H K :=
  binI ho ht hx hy (by
    simp only [binC, shiftv, Int.toNat_natCast]
    exact ⟨by omega, by rw [show IntKind.u64.bits = 64 from rfl, wr_shl64]; exact h⟩)
theorem r_shr64_8 {x : UInt64} {n : UInt8} (ho : o.op = .binOp .shr t a b u) (ht : tiOf P t = some ti) (hx : ev fr a = sc (c64 x)) (hy : ev fr b = sc (c8 n)) (h : K (sc (c64 (shr64n x n.toNat))) H) : ostep P o fr H K :=
  binI ho ht hx hy (by
    simp only [binC, shiftv, Int.toNat_natCast]
    exact ⟨by omega, by rw [show IntKind.u64.bits = 64 from rfl, wr_shr64]; exact h⟩)
theorem r_shl64_32 {x : UInt64} {n : UInt32} (ho : o.op = .binOp .shl t a b u) (ht : tiOf P t = some ti) (hx : ev fr a = sc (c64 x)) (hy : ev fr b = sc (c32 n)) (h : K (sc (c64 (shl64n x n.toNat))) H) : ostep P o fr H K :=
  binI ho ht hx hy (by
    simp only [binC, shiftv, Int.toNat_natCast]
    exact ⟨by omega, by rw [show IntKind.u64.bits = 64 from rfl, wr_shl64]; exact h⟩)
theorem r_shr64_32 {x : UInt64} {n : UInt32} (ho : o.op = .binOp .shr t a b u) (ht : tiOf P t = some ti) (hx : ev fr a = sc (c64 x)) (hy : ev fr b = sc (c32 n)) (h : K (sc (c64 (shr64n x n.toNat))) H) : ostep P o fr H K :=
  binI ho ht hx hy (by
    simp only [binC, shiftv, Int.toNat_natCast]
    exact ⟨by omega, by rw [show IntKind.u64.bits = 64 from rfl, wr_shr64]; exact h⟩)
theorem r_shl64_64 {x : UInt64} {n : UInt64} (ho : o.op = .binOp .shl t a b u) (ht : tiOf P t = some ti) (hx : ev fr a = sc (c64 x)) (hy : ev fr b = sc (c64 n)) (h : K (sc (c64 (shl64n x n.toNat))) H) : ostep P o fr H K :=
  binI ho ht hx hy (by
    simp only [binC, shiftv, Int.toNat_natCast]
    exact ⟨by omega, by rw [show IntKind.u64.bits = 64 from rfl, wr_shl64]; exact h⟩)
theorem r_shr64_64 {x : UInt64} {n : UInt64} (ho : o.op = .binOp .shr t a b u) (ht : tiOf P t = some ti) (hx : ev fr a = sc (c64 x)) (hy : ev fr b = sc (c64 n)) (h : K (sc (c64 (shr64n x n.toNat))) H) : ostep P o fr H K :=
  binI ho ht hx hy (by
    simp only [binC, shiftv, Int.toNat_natCast]
    exact ⟨by omega, by rw [show IntKind.u64.bits = 64 from rfl, wr_shr64]; exact h⟩)
theorem r_shl64_0 {x : UInt64} {n : Nat} (ho : o.op = .binOp .shl t a b u) (ht : tiOf P t = some ti) (hx : ev fr a = sc (c64 x)) (hy : ev fr b = sc (cn n)) (h : K (sc (c64 (shl64n x n))) H) : ostep P o fr H K :=
  binI ho ht hx hy (by
    simp only [binC, shiftv, Int.toNat_natCast]
    exact ⟨by omega, by rw [show IntKind.u64.bits = 64 from rfl, wr_shl64]; exact h⟩)
theorem r_shr64_0 {x : UInt64} {n : Nat} (ho : o.op = .binOp .shr t a b u) (ht : tiOf P t = some ti) (hx : ev fr a = sc (c64 x)) (hy : ev fr b = sc (cn n)) (h : K (sc (c64 (shr64n x n))) H) : ostep P o fr H K :=
  binI ho ht hx hy (by
    simp only [binC, shiftv, Int.toNat_natCast]
    exact ⟨by omega, by rw [show IntKind.u64.bits = 64 from rfl, wr_shr64]; exact h⟩)
theorem r_not64 {x : UInt64} (ho : o.op = .unOp .xor t a) (hx : ev fr a = sc (c64 x)) (h : K (sc (c64 (~~~x))) H) : ostep P o fr H K := by
  simp only [ostep, ho, pstep, hx, arithv]
  rw [wr_not64]; exact h
theorem r_neg64 {x : UInt64} (ho : o.op = .unOp .neg t a) (hx : ev fr a = sc (c64 x)) (h : K (sc (c64 (-x))) H) : ostep P o fr H K := by
  simp only [ostep, ho, pstep, hx]
  rw [wr_neg64]; exact h

/-! Ints: as natural numbers, or as any. -/
theorem wi64 {n : Int} (h : -9223372036854775808 ≤ n ∧ n ≤ 9223372036854775807) : IntKind.i64.wrap n = n := by
  unfold IntKind.wrap
  have hb : IntKind.i64.bits = 64 := rfl
  have hs : IntKind.i64.signed = true := rfl
  rw [hb, hs]
  simp only [Bool.true_and, decide_eq_true_eq]
  split <;> omega

theorem r_addi {x y : Int} (ho : o.op = .binOp .add t a b u) (ht : tiOf P t = some ti) (hx : ev fr a = sc (ci x)) (hy : ev fr b = sc (ci y)) (hb : -9223372036854775808 ≤ x + y ∧ x + y ≤ 9223372036854775807) (h : K (sc (ci (x + y))) H) : ostep P o fr H K :=
  binI ho ht hx hy (by simp only [binC, shiftv, arithv, true_and]; rw [wi64 hb]; exact h)
theorem r_subi {x y : Int} (ho : o.op = .binOp .sub t a b u) (ht : tiOf P t = some ti) (hx : ev fr a = sc (ci x)) (hy : ev fr b = sc (ci y)) (hb : -9223372036854775808 ≤ x - y ∧ x - y ≤ 9223372036854775807) (h : K (sc (ci (x - y))) H) : ostep P o fr H K :=
  binI ho ht hx hy (by simp only [binC, shiftv, arithv, true_and]; rw [wi64 hb]; exact h)
theorem r_muli {x y : Int} (ho : o.op = .binOp .mul t a b u) (ht : tiOf P t = some ti) (hx : ev fr a = sc (ci x)) (hy : ev fr b = sc (ci y)) (hb : -9223372036854775808 ≤ x * y ∧ x * y ≤ 9223372036854775807) (h : K (sc (ci (x * y))) H) : ostep P o fr H K :=
  binI ho ht hx hy (by simp only [binC, shiftv, arithv, true_and]; rw [wi64 hb]; exact h)
theorem r_addn {x y : Nat} (ho : o.op = .binOp .add t a b u) (ht : tiOf P t = some ti) (hx : ev fr a = sc (cn x)) (hy : ev fr b = sc (cn y)) (hb : x + y ≤ 9223372036854775807) (h : K (sc (cn (x + y))) H) : ostep P o fr H K :=
  r_addi ho ht hx hy (by omega) (by rw [← Int.natCast_add]; exact h)
theorem r_subn {x y : Nat} (ho : o.op = .binOp .sub t a b u) (ht : tiOf P t = some ti) (hx : ev fr a = sc (cn x)) (hy : ev fr b = sc (cn y)) (hb : y ≤ x ∧ x ≤ 9223372036854775807) (h : K (sc (cn (x - y))) H) : ostep P o fr H K :=
  r_subi ho ht hx hy (by omega) (by rw [show ((x : Int) - (y : Int)) = ((x - y : Nat) : Int) by omega]; exact h)
theorem r_muln {x y : Nat} (ho : o.op = .binOp .mul t a b u) (ht : tiOf P t = some ti) (hx : ev fr a = sc (cn x)) (hy : ev fr b = sc (cn y)) (hb : x * y ≤ 9223372036854775807) (h : K (sc (cn (x * y))) H) : ostep P o fr H K :=
  r_muli ho ht hx hy (by
    have h0 : (0 : Int) ≤ ((x * y : Nat) : Int) := Int.natCast_nonneg _
    rw [← Int.natCast_mul]; omega) (by rw [← Int.natCast_mul]; exact h)
theorem r_quon {x y : Nat} (ho : o.op = .binOp .quo t a b u) (ht : tiOf P t = some ti) (hx : ev fr a = sc (cn x)) (hy : ev fr b = sc (cn y)) (hb : 0 < y ∧ x ≤ 9223372036854775807) (h : K (sc (cn (x / y))) H) : ostep P o fr H K :=
  binI ho ht hx hy (by
    simp only [binC, shiftv, arithv, divv, true_and]
    have e : (x : Int).tdiv y = ((x / y : Nat) : Int) := by rw [Int.ofNat_tdiv]
    have hle : x / y ≤ x := Nat.div_le_self _ _
    have h0 : (0 : Int) ≤ ((x / y : Nat) : Int) := Int.natCast_nonneg _
    rw [e, wi64 (by omega)]
    exact ⟨by omega, h⟩)
theorem r_remn {x y : Nat} (ho : o.op = .binOp .rem t a b u) (ht : tiOf P t = some ti) (hx : ev fr a = sc (cn x)) (hy : ev fr b = sc (cn y)) (hb : 0 < y) (h : K (sc (cn (x % y))) H) : ostep P o fr H K :=
  binI ho ht hx hy (by
    simp only [binC, shiftv, arithv, divv, true_and]
    have e : (x : Int).tmod y = ((x % y : Nat) : Int) := by rw [Int.ofNat_tmod]
    rw [e]
    exact ⟨by omega, h⟩)
theorem r_remi {x y : Int} (ho : o.op = .binOp .rem t a b u) (ht : tiOf P t = some ti) (hx : ev fr a = sc (ci x)) (hy : ev fr b = sc (ci y)) (hb : y ≠ 0) (h : K (sc (ci (x.tmod y))) H) : ostep P o fr H K :=
  binI ho ht hx hy (by simp only [binC, shiftv, arithv, divv, true_and]; exact ⟨hb, h⟩)
theorem r_quoi {x y : Int} (ho : o.op = .binOp .quo t a b u) (ht : tiOf P t = some ti) (hx : ev fr a = sc (ci x)) (hy : ev fr b = sc (ci y)) (hb : y ≠ 0) (hr : -9223372036854775808 ≤ x.tdiv y ∧ x.tdiv y ≤ 9223372036854775807) (h : K (sc (ci (x.tdiv y))) H) : ostep P o fr H K :=
  binI ho ht hx hy (by simp only [binC, shiftv, arithv, divv, true_and]; rw [wi64 hr]; exact ⟨hb, h⟩)
theorem r_shln {x y : Nat} (ho : o.op = .binOp .shl t a b u) (ht : tiOf P t = some ti) (hx : ev fr a = sc (cn x)) (hy : ev fr b = sc (cn y)) (hb : x * 2 ^ (min y 64) ≤ 9223372036854775807) (h : K (sc (cn (x * 2 ^ (min y 64)))) H) : ostep P o fr H K :=
  binI ho ht hx hy (by
    simp only [binC, shiftv, Int.toNat_natCast]
    have h0 : (0 : Int) ≤ ((x * 2 ^ (min y 64) : Nat) : Int) := Int.natCast_nonneg _
    have h1 : ((x * 2 ^ (min y 64) : Nat) : Int) = (x : Int) * 2 ^ (min y 64) := by rw [Int.natCast_mul, Int.natCast_pow]; rfl
    generalize hz : x * 2 ^ (min y 64) = z at *
    rw [show IntKind.i64.bits = 64 from rfl, ← h1, wi64 (by omega)]
    exact ⟨by omega, h⟩)
theorem r_andn {x y : Nat} (ho : o.op = .binOp .and t a b u) (ht : tiOf P t = some ti) (hx : ev fr a = sc (cn x)) (hy : ev fr b = sc (cn y)) (hb : x ≤ 9223372036854775807 ∧ y ≤ 9223372036854775807) (h : K (sc (cn (x &&& y))) H) : ostep P o fr H K :=
  binI ho ht hx hy (by
    simp only [binC, shiftv, arithv, true_and]
    have e : ((BitVec.ofInt IntKind.i64.bits (x : Int) &&& BitVec.ofInt IntKind.i64.bits (y : Int)).toNat) = x &&& y := by
      have h1 : ∀ z : Nat, z ≤ 9223372036854775807 → (BitVec.ofInt IntKind.i64.bits (z : Int)).toNat = z := fun z hz => by
        show (BitVec.ofInt 64 (z : Int)).toNat = z
        simp; omega
      rw [BitVec.toNat_and, h1 x hb.1, h1 y hb.2]
    have hle : x &&& y ≤ x := Nat.and_le_left
    rw [e, wi64 (by omega)]
    exact h)
theorem r_eqli {x y : Int} (ho : o.op = .binOp .eql t a b u) (ht : tiOf P t = some ti) (hx : ev fr a = sc (ci x)) (hy : ev fr b = sc (ci y)) (h : K (sc (.bool (decide (x = y)))) H) : ostep P o fr H K :=
  binI ho ht hx hy (by
    simp only [binC, shiftv, arithv, divv, cmpv, true_and]
    refine cast (congrArg (fun z => K (sc (.bool z)) H) ?_) h
    first | rfl | (rw [Bool.eq_iff_iff]; simp))
theorem r_eqln {x y : Nat} (ho : o.op = .binOp .eql t a b u) (ht : tiOf P t = some ti) (hx : ev fr a = sc (cn x)) (hy : ev fr b = sc (cn y)) (h : K (sc (.bool (decide (x = y)))) H) : ostep P o fr H K :=
  r_eqli ho ht hx hy (cast (congrArg (fun z => K (sc (.bool z)) H) (decide_eq_decide.2 (by omega))) h)
theorem r_neqi {x y : Int} (ho : o.op = .binOp .neq t a b u) (ht : tiOf P t = some ti) (hx : ev fr a = sc (ci x)) (hy : ev fr b = sc (ci y)) (h : K (sc (.bool (decide (x ≠ y)))) H) : ostep P o fr H K :=
  binI ho ht hx hy (by
    simp only [binC, shiftv, arithv, divv, cmpv, true_and]
    refine cast (congrArg (fun z => K (sc (.bool z)) H) ?_) h
    first | rfl | (rw [Bool.eq_iff_iff]; simp))
theorem r_neqn {x y : Nat} (ho : o.op = .binOp .neq t a b u) (ht : tiOf P t = some ti) (hx : ev fr a = sc (cn x)) (hy : ev fr b = sc (cn y)) (h : K (sc (.bool (decide (x ≠ y)))) H) : ostep P o fr H K :=
  r_neqi ho ht hx hy (cast (congrArg (fun z => K (sc (.bool z)) H) (decide_eq_decide.2 (by omega))) h)
theorem r_lssi {x y : Int} (ho : o.op = .binOp .lss t a b u) (ht : tiOf P t = some ti) (hx : ev fr a = sc (ci x)) (hy : ev fr b = sc (ci y)) (h : K (sc (.bool (decide (x < y)))) H) : ostep P o fr H K :=
  binI ho ht hx hy (by
    simp only [binC, shiftv, arithv, divv, cmpv, true_and]
    refine cast (congrArg (fun z => K (sc (.bool z)) H) ?_) h
    first | rfl | (rw [Bool.eq_iff_iff]; simp))
theorem r_lssn {x y : Nat} (ho : o.op = .binOp .lss t a b u) (ht : tiOf P t = some ti) (hx : ev fr a = sc (cn x)) (hy : ev fr b = sc (cn y)) (h : K (sc (.bool (decide (x < y)))) H) : ostep P o fr H K :=
  r_lssi ho ht hx hy (cast (congrArg (fun z => K (sc (.bool z)) H) (decide_eq_decide.2 (by omega))) h)
theorem r_leqi {x y : Int} (ho : o.op = .binOp .leq t a b u) (ht : tiOf P t = some ti) (hx : ev fr a = sc (ci x)) (hy : ev fr b = sc (ci y)) (h : K (sc (.bool (decide (x ≤ y)))) H) : ostep P o fr H K :=
  binI ho ht hx hy (by
    simp only [binC, shiftv, arithv, divv, cmpv, true_and]
    refine cast (congrArg (fun z => K (sc (.bool z)) H) ?_) h
    first | rfl | (rw [Bool.eq_iff_iff]; simp))
theorem r_leqn {x y : Nat} (ho : o.op = .binOp .leq t a b u) (ht : tiOf P t = some ti) (hx : ev fr a = sc (cn x)) (hy : ev fr b = sc (cn y)) (h : K (sc (.bool (decide (x ≤ y)))) H) : ostep P o fr H K :=
  r_leqi ho ht hx hy (cast (congrArg (fun z => K (sc (.bool z)) H) (decide_eq_decide.2 (by omega))) h)
theorem r_gtri {x y : Int} (ho : o.op = .binOp .gtr t a b u) (ht : tiOf P t = some ti) (hx : ev fr a = sc (ci x)) (hy : ev fr b = sc (ci y)) (h : K (sc (.bool (decide (y < x)))) H) : ostep P o fr H K :=
  binI ho ht hx hy (by
    simp only [binC, shiftv, arithv, divv, cmpv, true_and]
    refine cast (congrArg (fun z => K (sc (.bool z)) H) ?_) h
    first | rfl | (rw [Bool.eq_iff_iff]; simp))
theorem r_gtrn {x y : Nat} (ho : o.op = .binOp .gtr t a b u) (ht : tiOf P t = some ti) (hx : ev fr a = sc (cn x)) (hy : ev fr b = sc (cn y)) (h : K (sc (.bool (decide (y < x)))) H) : ostep P o fr H K :=
  r_gtri ho ht hx hy (cast (congrArg (fun z => K (sc (.bool z)) H) (decide_eq_decide.2 (by omega))) h)
theorem r_geqi {x y : Int} (ho : o.op = .binOp .geq t a b u) (ht : tiOf P t = some ti) (hx : ev fr a = sc (ci x)) (hy : ev fr b = sc (ci y)) (h : K (sc (.bool (decide (y ≤ x)))) H) : ostep P o fr H K :=
  binI ho ht hx hy (by
    simp only [binC, shiftv, arithv, divv, cmpv, true_and]
    refine cast (congrArg (fun z => K (sc (.bool z)) H) ?_) h
    first | rfl | (rw [Bool.eq_iff_iff]; simp))
theorem r_geqn {x y : Nat} (ho : o.op = .binOp .geq t a b u) (ht : tiOf P t = some ti) (hx : ev fr a = sc (cn x)) (hy : ev fr b = sc (cn y)) (h : K (sc (.bool (decide (y ≤ x)))) H) : ostep P o fr H K :=
  r_geqi ho ht hx hy (cast (congrArg (fun z => K (sc (.bool z)) H) (decide_eq_decide.2 (by omega))) h)

/-! Conversions of numbers. -/
theorem convI {k k' : IntKind} {s d : TypeId} {si di : TI} {n : Int} (ho : o.op = .convert s d a) (hs : tiOf P s = some si) (hd : tiOf P d = some di) (hk : si.kind = .int k) (hk' : di.kind = .int k') (hx : ev fr a = sc (.int k n))
    (h : K (sc (.int k' (k'.wrap n))) H) : ostep P o fr H K := by
  simp only [ostep, ho, hs, hd, hk, hk', hx, pstep]
  exact h

theorem r_cv8_8 {s d : TypeId} {si di : TI} {x : UInt8} (ho : o.op = .convert s d a) (hs : tiOf P s = some si) (hd : tiOf P d = some di) (hk : si.kind = .int .u8) (hk' : di.kind = .int .u8) (hx : ev fr a = sc (c8 x)) (h : K (sc (c8 (x))) H) : ostep P o fr H K :=
  convI ho hs hd hk hk' hx (by rw [show IntKind.u8.wrap (x.toNat : Int) = ((x).toNat : Int) from by have := x.toNat_lt; rw [wrap_u .u8 rfl]; exact Int.emod_eq_of_lt (by omega) (by simp only [IntKind.bits]; omega)]; exact h)
theorem r_cv8_32 {s d : TypeId} {si di : TI} {x : UInt8} (ho : o.op = .convert s d a) (hs : tiOf P s = some si) (hd : tiOf P d = some di) (hk : si.kind = .int .u8) (hk' : di.kind = .int .u32) (hx : ev fr a = sc (c8 x)) (h : K (sc (c32 (x.toUInt32))) H) : ostep P o fr H K :=
  convI ho hs hd hk hk' hx (by rw [show IntKind.u32.wrap (x.toNat : Int) = ((x.toUInt32).toNat : Int) from cv8_32 x]; exact h)
theorem r_cv8_64 {s d : TypeId} {si di : TI} {x : UInt8} (ho : o.op = .convert s d a) (hs : tiOf P s = some si) (hd : tiOf P d = some di) (hk : si.kind = .int .u8) (hk' : di.kind = .int .u64) (hx : ev fr a = sc (c8 x)) (h : K (sc (c64 (x.toUInt64))) H) : ostep P o fr H K :=
  convI ho hs hd hk hk' hx (by rw [show IntKind.u64.wrap (x.toNat : Int) = ((x.toUInt64).toNat : Int) from cv8_64 x]; exact h)
theorem r_cv8_0 {s d : TypeId} {si di : TI} {x : UInt8} (ho : o.op = .convert s d a) (hs : tiOf P s = some si) (hd : tiOf P d = some di) (hk : si.kind = .int .u8) (hk' : di.kind = .int .i64) (hx : ev fr a = sc (c8 x)) (h : K (sc (cn x.toNat)) H) : ostep P o fr H K :=
  convI ho hs hd hk hk' hx (by have := x.toNat_lt; rw [wi64 (by omega)]; exact h)
theorem r_cv0_8 {s d : TypeId} {si di : TI} {x : Nat} (ho : o.op = .convert s d a) (hs : tiOf P s = some si) (hd : tiOf P d = some di) (hk : si.kind = .int .i64) (hk' : di.kind = .int .u8) (hx : ev fr a = sc (cn x)) (h : K (sc (c8 (UInt8.ofNat x))) H) : ostep P o fr H K :=
  convI ho hs hd hk hk' hx (by rw [show IntKind.u8.wrap (x : Int) = ((UInt8.ofNat x).toNat : Int) by rw [wrap_u .u8 rfl]; simp [IntKind.bits]]; exact h)
theorem r_cvi_8 {s d : TypeId} {si di : TI} {x : Int} (ho : o.op = .convert s d a) (hs : tiOf P s = some si) (hd : tiOf P d = some di) (hk : si.kind = .int .i64) (hk' : di.kind = .int .u8) (hx : ev fr a = sc (ci x)) (h : K (sc (c8 (UInt8.ofInt x))) H) : ostep P o fr H K :=
  convI ho hs hd hk hk' hx (by rw [show IntKind.u8.wrap x = ((UInt8.ofInt x).toNat : Int) by rw [wrap_u .u8 rfl]; simp [IntKind.bits, UInt8.ofInt]; omega]; exact h)
theorem r_cv32_8 {s d : TypeId} {si di : TI} {x : UInt32} (ho : o.op = .convert s d a) (hs : tiOf P s = some si) (hd : tiOf P d = some di) (hk : si.kind = .int .u32) (hk' : di.kind = .int .u8) (hx : ev fr a = sc (c32 x)) (h : K (sc (c8 (x.toUInt8))) H) : ostep P o fr H K :=
  convI ho hs hd hk hk' hx (by rw [show IntKind.u8.wrap (x.toNat : Int) = ((x.toUInt8).toNat : Int) from cv32_8 x]; exact h)
theorem r_cv32_32 {s d : TypeId} {si di : TI} {x : UInt32} (ho : o.op = .convert s d a) (hs : tiOf P s = some si) (hd : tiOf P d = some di) (hk : si.kind = .int .u32) (hk' : di.kind = .int .u32) (hx : ev fr a = sc (c32 x)) (h : K (sc (c32 (x))) H) : ostep P o fr H K :=
  convI ho hs hd hk hk' hx (by rw [show IntKind.u32.wrap (x.toNat : Int) = ((x).toNat : Int) from by have := x.toNat_lt; rw [wrap_u .u32 rfl]; exact Int.emod_eq_of_lt (by omega) (by simp only [IntKind.bits]; omega)]; exact h)
theorem r_cv32_64 {s d : TypeId} {si di : TI} {x : UInt32} (ho : o.op = .convert s d a) (hs : tiOf P s = some si) (hd : tiOf P d = some di) (hk : si.kind = .int .u32) (hk' : di.kind = .int .u64) (hx : ev fr a = sc (c32 x)) (h : K (sc (c64 (x.toUInt64))) H) : ostep P o fr H K :=
  convI ho hs hd hk hk' hx (by rw [show IntKind.u64.wrap (x.toNat : Int) = ((x.toUInt64).toNat : Int) from cv32_64 x]; exact h)
theorem r_cv32_0 {s d : TypeId} {si di : TI} {x : UInt32} (ho : o.op = .convert s d a) (hs : tiOf P s = some si) (hd : tiOf P d = some di) (hk : si.kind = .int .u32) (hk' : di.kind = .int .i64) (hx : ev fr a = sc (c32 x)) (h : K (sc (cn x.toNat)) H) : ostep P o fr H K :=
  convI ho hs hd hk hk' hx (by have := x.toNat_lt; rw [wi64 (by omega)]; exact h)
theorem r_cv0_32 {s d : TypeId} {si di : TI} {x : Nat} (ho : o.op = .convert s d a) (hs : tiOf P s = some si) (hd : tiOf P d = some di) (hk : si.kind = .int .i64) (hk' : di.kind = .int .u32) (hx : ev fr a = sc (cn x)) (h : K (sc (c32 (UInt32.ofNat x))) H) : ostep P o fr H K :=
  convI ho hs hd hk hk' hx (by rw [show IntKind.u32.wrap (x : Int) = ((UInt32.ofNat x).toNat : Int) by rw [wrap_u .u32 rfl]; simp [IntKind.bits]]; exact h)
theorem r_cvi_32 {s d : TypeId} {si di : TI} {x : Int} (ho : o.op = .convert s d a) (hs : tiOf P s = some si) (hd : tiOf P d = some di) (hk : si.kind = .int .i64) (hk' : di.kind = .int .u32) (hx : ev fr a = sc (ci x)) (h : K (sc (c32 (UInt32.ofInt x))) H) : ostep P o fr H K :=
  convI ho hs hd hk hk' hx (by rw [show IntKind.u32.wrap x = ((UInt32.ofInt x).toNat : Int) by rw [wrap_u .u32 rfl]; simp [IntKind.bits, UInt32.ofInt]; omega]; exact h)
theorem r_cv64_8 {s d : TypeId} {si di : TI} {x : UInt64} (ho : o.op = .convert s d a) (hs : tiOf P s = some si) (hd : tiOf P d = some di) (hk : si.kind = .int .u64) (hk' : di.kind = .int .u8) (hx : ev fr a = sc (c64 x)) (h : K (sc (c8 (x.toUInt8))) H) : ostep P o fr H K :=
  convI ho hs hd hk hk' hx (by rw [show IntKind.u8.wrap (x.toNat : Int) = ((x.toUInt8).toNat : Int) from cv64_8 x]; exact h)
theorem r_cv64_32 {s d : TypeId} {si di : TI} {x : UInt64} (ho : o.op = .convert s d a) (hs : tiOf P s = some si) (hd : tiOf P d = some di) (hk : si.kind = .int .u64) (hk' : di.kind = .int .u32) (hx : ev fr a = sc (c64 x)) (h : K (sc (c32 (x.toUInt32))) H) : ostep P o fr H K :=
  convI ho hs hd hk hk' hx (by rw [show IntKind.u32.wrap (x.toNat : Int) = ((x.toUInt32).toNat : Int) from cv64_32 x]; exact h)
theorem r_cv64_64 {s d : TypeId} {si di : TI} {x : UInt64} (ho : o.op = .convert s d a) (hs : tiOf P s = some si) (hd : tiOf P d = some di) (hk : si.kind = .int .u64) (hk' : di.kind = .int .u64) (hx : ev fr a = sc (c64 x)) (h : K (sc (c64 (x))) H) : ostep P o fr H K :=
  convI ho hs hd hk hk' hx (by rw [show IntKind.u64.wrap (x.toNat : Int) = ((x).toNat : Int) from by have := x.toNat_lt; rw [wrap_u .u64 rfl]; exact Int.emod_eq_of_lt (by omega) (by simp only [IntKind.bits]; omega)]; exact h)
theorem r_cv64_0 {s d : TypeId} {si di : TI} {x : UInt64} (ho : o.op = .convert s d a) (hs : tiOf P s = some si) (hd : tiOf P d = some di) (hk : si.kind = .int .u64) (hk' : di.kind = .int .i64) (hx : ev fr a = sc (c64 x)) (hb : x.toNat ≤ 9223372036854775807) (h : K (sc (cn x.toNat)) H) : ostep P o fr H K :=
  convI ho hs hd hk hk' hx (by have := x.toNat_lt; rw [wi64 (by omega)]; exact h)
theorem r_cv0_64 {s d : TypeId} {si di : TI} {x : Nat} (ho : o.op = .convert s d a) (hs : tiOf P s = some si) (hd : tiOf P d = some di) (hk : si.kind = .int .i64) (hk' : di.kind = .int .u64) (hx : ev fr a = sc (cn x)) (h : K (sc (c64 (UInt64.ofNat x))) H) : ostep P o fr H K :=
  convI ho hs hd hk hk' hx (by rw [show IntKind.u64.wrap (x : Int) = ((UInt64.ofNat x).toNat : Int) by rw [wrap_u .u64 rfl]; simp [IntKind.bits]]; exact h)
theorem r_cvi_64 {s d : TypeId} {si di : TI} {x : Int} (ho : o.op = .convert s d a) (hs : tiOf P s = some si) (hd : tiOf P d = some di) (hk : si.kind = .int .i64) (hk' : di.kind = .int .u64) (hx : ev fr a = sc (ci x)) (h : K (sc (c64 (UInt64.ofInt x))) H) : ostep P o fr H K :=
  convI ho hs hd hk hk' hx (by rw [show IntKind.u64.wrap x = ((UInt64.ofInt x).toNat : Int) by rw [wrap_u .u64 rfl]; simp [IntKind.bits, UInt64.ofInt]; omega]; exact h)
theorem r_cvi_i {s d : TypeId} {si di : TI} {x : Int} (ho : o.op = .convert s d a) (hs : tiOf P s = some si) (hd : tiOf P d = some di) (hk : si.kind = .int .i64) (hk' : di.kind = .int .i64) (hx : ev fr a = sc (ci x)) (hb : -9223372036854775808 ≤ x ∧ x ≤ 9223372036854775807) (h : K (sc (ci x)) H) : ostep P o fr H K :=
  convI ho hs hd hk hk' hx (by rw [wi64 hb]; exact h)
end
end Go.Abs

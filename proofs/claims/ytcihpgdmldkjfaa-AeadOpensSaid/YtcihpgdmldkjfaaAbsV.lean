/- The abstract machine: lists of integers of one kind; words. -/
import Derived.Test.YtcihpgdmldkjfaaAbsU
namespace Go.Abs
open Go

abbrev u32s (l : List UInt32) : List Cell := mapc .u32 (fun b : UInt32 => (b.toNat : Int)) l
abbrev u64s (l : List UInt64) : List Cell := mapc .u64 (fun b : UInt64 => (b.toNat : Int)) l
abbrev i64s (l : List Int) : List Cell := mapc .i64 (fun n : Int => n) l
abbrev c8 (b : UInt8) : Cell := .int .u8 (b.toNat : Int)
abbrev c32 (b : UInt32) : Cell := .int .u32 (b.toNat : Int)
abbrev c64 (b : UInt64) : Cell := .int .u64 (b.toNat : Int)

section
variable {α : Type} {k : IntKind} {g : α → Int}
theorem mapc_length (l : List α) : (mapc k g l).length = l.length := by simp [mapc]
theorem mapc_drop (l : List α) (n : Nat) : (mapc k g l).drop n = mapc k g (l.drop n) := by simp [mapc]
theorem mapc_take (l : List α) (n : Nat) : (mapc k g l).take n = mapc k g (l.take n) := by simp [mapc]
theorem mapc_append (l m : List α) : mapc k g l ++ mapc k g m = mapc k g (l ++ m) := by simp [mapc]
theorem mapc_nil : mapc k g [] = [] := rfl
theorem mapc_cons (x : α) (l : List α) : mapc k g (x :: l) = .int k (g x) :: mapc k g l := rfl
theorem mapc_set (l : List α) (i : Nat) (x : α) : (mapc k g l).set i (.int k (g x)) = mapc k g (l.set i x) := by simp [mapc, List.map_set]
theorem mapc_isInt (l : List α) (i : Nat) : isInt k (mapc k g l) i ↔ i < l.length := by
  unfold isInt intAt mapc
  rw [List.getElem?_map]
  by_cases h : i < l.length
  · simp [h]
  · rw [List.getElem?_eq_none (by omega)]; simp [h]
theorem mapc_intAt [Inhabited α] (l : List α) (i : Nat) (h : i < l.length) : intAt (mapc k g l) i = g (l.getD i default) := by
  unfold intAt mapc
  rw [List.getElem?_map, List.getD_eq_getElem?_getD, List.getElem?_eq_getElem h]
  rfl
theorem mapc_intAt' (l : List α) (i : Nat) (d : α) (hd : g d = 0) : intAt (mapc k g l) i = g (l.getD i d) := by
  unfold intAt mapc
  rw [List.getElem?_map, List.getD_eq_getElem?_getD]
  cases l[i]? with
  | none => simp [hd]
  | some x => rfl
theorem mapc_allInt (l : List α) : allInt k (mapc k g l) = true := by
  induction l with
  | nil => rfl
  | cons x l ih => simp only [mapc, List.map_cons, allInt] at ih ⊢; simp [ih]
theorem mapc_ints (l : List α) : intsOf (mapc k g l) = l.map g := by
  induction l with
  | nil => rfl
  | cons x l ih => simp only [mapc, List.map_cons, intsOf] at ih ⊢; simp [ih]
theorem mapc_cm (m : CM) (d : Nat) (l : List α) : (mapc k g l).map (cm m d) = mapc k g l := by
  simp only [mapc, List.map_map]
  apply List.map_congr_left
  intro x _
  cases d <;> rfl
theorem mapc_replicate (n : Nat) (x : α) : mapc k g (List.replicate n x) = List.replicate n (.int k (g x)) := by simp [mapc]
theorem mapc_isEmpty (l : List α) : (mapc k g l).isEmpty = l.isEmpty := by cases l <;> rfl
theorem mapc_splice (l m : List α) (q : Nat) : splice (mapc k g l) q (mapc k g m) = mapc k g (l.take q ++ (m ++ l.drop (q + m.length))) := by
  simp [splice, mapc]
theorem mapc_ne_nil (l : List α) : (mapc k g l ≠ []) = (l ≠ []) := by cases l <;> simp [mapc]
end

section
variable {α : Type} {k : IntKind} {g : α → Int}
theorem cut_m {l : List α} {q n : Nat} : ((mapc k g l).drop q).take n = mapc k g ((l.drop q).take n) := by simp [mapc]
theorem cut_w {l : List α} : ((mapc k g l).drop 0).take l.length = mapc k g l := by
  rw [List.drop_zero, ← mapc_length (k := k) (g := g) l, List.take_length]
theorem cut_h {l : List α} {n : Nat} (h : l.length = n) : ((mapc k g l).drop 0).take (n * 1) = mapc k g l := by
  subst h
  rw [Nat.mul_one]
  exact cut_w
end
theorem isInt_u8s (l : List UInt8) (i : Nat) : isInt .u8 (u8s l) i ↔ i < l.length := mapc_isInt l i
theorem isInt_u32s (l : List UInt32) (i : Nat) : isInt .u32 (u32s l) i ↔ i < l.length := mapc_isInt l i
theorem isInt_u64s (l : List UInt64) (i : Nat) : isInt .u64 (u64s l) i ↔ i < l.length := mapc_isInt l i
theorem isInt_i64s (l : List Int) (i : Nat) : isInt .i64 (i64s l) i ↔ i < l.length := mapc_isInt l i
theorem intAt_u8s (l : List UInt8) (i : Nat) : intAt (u8s l) i = ((l.getD i 0).toNat : Int) := mapc_intAt' l i 0 rfl
theorem intAt_u32s (l : List UInt32) (i : Nat) : intAt (u32s l) i = ((l.getD i 0).toNat : Int) := mapc_intAt' l i 0 rfl
theorem intAt_u64s (l : List UInt64) (i : Nat) : intAt (u64s l) i = ((l.getD i 0).toNat : Int) := mapc_intAt' l i 0 rfl
theorem intAt_i64s (l : List Int) (i : Nat) : intAt (i64s l) i = l.getD i 0 := mapc_intAt' l i 0 rfl
theorem rep8 (n : Nat) : List.replicate n (.int .u8 0) = u8s (List.replicate n 0) := by simp [mapc]
theorem rep32 (n : Nat) : List.replicate n (.int .u32 0) = u32s (List.replicate n 0) := by simp [mapc]
theorem rep64 (n : Nat) : List.replicate n (.int .u64 0) = u64s (List.replicate n 0) := by simp [mapc]
theorem repi (n : Nat) : List.replicate n (.int .i64 0) = i64s (List.replicate n 0) := by simp [mapc]
theorem eq_u8s (l m : List UInt8) : decide (l.map (fun b : UInt8 => (b.toNat : Int)) = m.map fun b => (b.toNat : Int)) = decide (l = m) := by
  rw [decide_eq_decide, List.map_inj_right]
  intro x y h
  exact UInt8.toNat_inj.1 (by exact_mod_cast h)
theorem eq_u32s (l m : List UInt32) : decide (l.map (fun b : UInt32 => (b.toNat : Int)) = m.map fun b => (b.toNat : Int)) = decide (l = m) := by
  rw [decide_eq_decide, List.map_inj_right]
  intro x y h
  exact UInt32.toNat_inj.1 (by exact_mod_cast h)
theorem eq_u64s (l m : List UInt64) : decide (l.map (fun b : UInt64 => (b.toNat : Int)) = m.map fun b => (b.toNat : Int)) = decide (l = m) := by
  rw [decide_eq_decide, List.map_inj_right]
  intro x y h
  exact UInt64.toNat_inj.1 (by exact_mod_cast h)

theorem bytesOf_u8s (l : List UInt8) : bytesOf (u8s l) = l := by
  induction l with
  | nil => rfl
  | cons x l ih =>
    simp only [mapc, List.map_cons, bytesOf] at ih ⊢
    rw [ih]
    simp

/-! Arithmetic of words. -/
theorem wrap_u (k : IntKind) (hk : k.signed = false) (n : Int) : k.wrap n = n % 2 ^ k.bits := by
  simp [IntKind.wrap, hk]
theorem wrap8 (n : Int) : IntKind.u8.wrap n = n % 256 := wrap_u .u8 rfl n
theorem wrap32 (n : Int) : IntKind.u32.wrap n = n % 4294967296 := wrap_u .u32 rfl n
theorem wrap64u (n : Int) : IntKind.u64.wrap n = n % 18446744073709551616 := wrap_u .u64 rfl n

theorem add8 (x y : UInt8) : IntKind.u8.wrap ((x.toNat : Int) + y.toNat) = ((x + y).toNat : Int) := by rw [wrap8, UInt8.toNat_add]; rfl
theorem add32 (x y : UInt32) : IntKind.u32.wrap ((x.toNat : Int) + y.toNat) = ((x + y).toNat : Int) := by rw [wrap32, UInt32.toNat_add]; rfl
theorem add64 (x y : UInt64) : IntKind.u64.wrap ((x.toNat : Int) + y.toNat) = ((x + y).toNat : Int) := by rw [wrap64u, UInt64.toNat_add]; rfl
theorem mul8 (x y : UInt8) : IntKind.u8.wrap ((x.toNat : Int) * y.toNat) = ((x * y).toNat : Int) := by rw [wrap8, UInt8.toNat_mul]; rfl
theorem mul32 (x y : UInt32) : IntKind.u32.wrap ((x.toNat : Int) * y.toNat) = ((x * y).toNat : Int) := by rw [wrap32, UInt32.toNat_mul]; rfl
theorem mul64 (x y : UInt64) : IntKind.u64.wrap ((x.toNat : Int) * y.toNat) = ((x * y).toNat : Int) := by rw [wrap64u, UInt64.toNat_mul]; rfl
theorem sub8 (x y : UInt8) : IntKind.u8.wrap ((x.toNat : Int) - y.toNat) = ((x - y).toNat : Int) := by
  rw [wrap8, UInt8.toNat_sub]; have := x.toNat_lt; have := y.toNat_lt; omega
theorem sub32 (x y : UInt32) : IntKind.u32.wrap ((x.toNat : Int) - y.toNat) = ((x - y).toNat : Int) := by
  rw [wrap32, UInt32.toNat_sub]; have := x.toNat_lt; have := y.toNat_lt; omega
theorem sub64 (x y : UInt64) : IntKind.u64.wrap ((x.toNat : Int) - y.toNat) = ((x - y).toNat : Int) := by
  rw [wrap64u, UInt64.toNat_sub]; have := x.toNat_lt; have := y.toNat_lt; omega

theorem of8 (x : UInt8) : BitVec.ofInt 8 (x.toNat : Int) = x.toBitVec := by
  apply BitVec.eq_of_toNat_eq; simp
theorem of32 (x : UInt32) : BitVec.ofInt 32 (x.toNat : Int) = x.toBitVec := by
  apply BitVec.eq_of_toNat_eq; simp
theorem of64 (x : UInt64) : BitVec.ofInt 64 (x.toNat : Int) = x.toBitVec := by
  apply BitVec.eq_of_toNat_eq; simp
theorem xor8 (x y : UInt8) : IntKind.u8.wrap ((BitVec.ofInt IntKind.u8.bits (x.toNat : Int) ^^^ BitVec.ofInt IntKind.u8.bits (y.toNat : Int)).toNat : Int) = ((x ^^^ y).toNat : Int) := by
  show IntKind.u8.wrap ((BitVec.ofInt 8 _ ^^^ BitVec.ofInt 8 _).toNat : Int) = _
  rw [of8, of8, wrap8, ← UInt8.toBitVec_xor]; show ((x ^^^ y).toNat : Int) % 256 = _; have := (x ^^^ y).toNat_lt; omega
theorem and8 (x y : UInt8) : IntKind.u8.wrap ((BitVec.ofInt IntKind.u8.bits (x.toNat : Int) &&& BitVec.ofInt IntKind.u8.bits (y.toNat : Int)).toNat : Int) = ((x &&& y).toNat : Int) := by
  show IntKind.u8.wrap ((BitVec.ofInt 8 _ &&& BitVec.ofInt 8 _).toNat : Int) = _
  rw [of8, of8, wrap8, ← UInt8.toBitVec_and]; show ((x &&& y).toNat : Int) % 256 = _; have := (x &&& y).toNat_lt; omega
theorem or8 (x y : UInt8) : IntKind.u8.wrap ((BitVec.ofInt IntKind.u8.bits (x.toNat : Int) ||| BitVec.ofInt IntKind.u8.bits (y.toNat : Int)).toNat : Int) = ((x ||| y).toNat : Int) := by
  show IntKind.u8.wrap ((BitVec.ofInt 8 _ ||| BitVec.ofInt 8 _).toNat : Int) = _
  rw [of8, of8, wrap8, ← UInt8.toBitVec_or]; show ((x ||| y).toNat : Int) % 256 = _; have := (x ||| y).toNat_lt; omega
theorem andn8 (x y : UInt8) : IntKind.u8.wrap ((BitVec.ofInt IntKind.u8.bits (x.toNat : Int) &&& ~~~BitVec.ofInt IntKind.u8.bits (y.toNat : Int)).toNat : Int) = ((x &&& ~~~y).toNat : Int) := by
  show IntKind.u8.wrap ((BitVec.ofInt 8 _ &&& ~~~BitVec.ofInt 8 _).toNat : Int) = _
  rw [of8, of8, wrap8, ← UInt8.toBitVec_not, ← UInt8.toBitVec_and]; show ((x &&& ~~~y).toNat : Int) % 256 = _; have := (x &&& ~~~y).toNat_lt; omega
theorem xor32 (x y : UInt32) : IntKind.u32.wrap ((BitVec.ofInt IntKind.u32.bits (x.toNat : Int) ^^^ BitVec.ofInt IntKind.u32.bits (y.toNat : Int)).toNat : Int) = ((x ^^^ y).toNat : Int) := by
  show IntKind.u32.wrap ((BitVec.ofInt 32 _ ^^^ BitVec.ofInt 32 _).toNat : Int) = _
  rw [of32, of32, wrap32, ← UInt32.toBitVec_xor]; show ((x ^^^ y).toNat : Int) % 4294967296 = _; have := (x ^^^ y).toNat_lt; omega
theorem and32 (x y : UInt32) : IntKind.u32.wrap ((BitVec.ofInt IntKind.u32.bits (x.toNat : Int) &&& BitVec.ofInt IntKind.u32.bits (y.toNat : Int)).toNat : Int) = ((x &&& y).toNat : Int) := by
  show IntKind.u32.wrap ((BitVec.ofInt 32 _ &&& BitVec.ofInt 32 _).toNat : Int) = _
  rw [of32, of32, wrap32, ← UInt32.toBitVec_and]; show ((x &&& y).toNat : Int) % 4294967296 = _; have := (x &&& y).toNat_lt; omega
theorem or32 (x y : UInt32) : IntKind.u32.wrap ((BitVec.ofInt IntKind.u32.bits (x.toNat : Int) ||| BitVec.ofInt IntKind.u32.bits (y.toNat : Int)).toNat : Int) = ((x ||| y).toNat : Int) := by
  show IntKind.u32.wrap ((BitVec.ofInt 32 _ ||| BitVec.ofInt 32 _).toNat : Int) = _
  rw [of32, of32, wrap32, ← UInt32.toBitVec_or]; show ((x ||| y).toNat : Int) % 4294967296 = _; have := (x ||| y).toNat_lt; omega
theorem xor64 (x y : UInt64) : IntKind.u64.wrap ((BitVec.ofInt IntKind.u64.bits (x.toNat : Int) ^^^ BitVec.ofInt IntKind.u64.bits (y.toNat : Int)).toNat : Int) = ((x ^^^ y).toNat : Int) := by
  show IntKind.u64.wrap ((BitVec.ofInt 64 _ ^^^ BitVec.ofInt 64 _).toNat : Int) = _
  rw [of64, of64, wrap64u, ← UInt64.toBitVec_xor]; show ((x ^^^ y).toNat : Int) % 18446744073709551616 = _; have := (x ^^^ y).toNat_lt; omega
theorem and64 (x y : UInt64) : IntKind.u64.wrap ((BitVec.ofInt IntKind.u64.bits (x.toNat : Int) &&& BitVec.ofInt IntKind.u64.bits (y.toNat : Int)).toNat : Int) = ((x &&& y).toNat : Int) := by
  show IntKind.u64.wrap ((BitVec.ofInt 64 _ &&& BitVec.ofInt 64 _).toNat : Int) = _
  rw [of64, of64, wrap64u, ← UInt64.toBitVec_and]; show ((x &&& y).toNat : Int) % 18446744073709551616 = _; have := (x &&& y).toNat_lt; omega
theorem or64 (x y : UInt64) : IntKind.u64.wrap ((BitVec.ofInt IntKind.u64.bits (x.toNat : Int) ||| BitVec.ofInt IntKind.u64.bits (y.toNat : Int)).toNat : Int) = ((x ||| y).toNat : Int) := by
  show IntKind.u64.wrap ((BitVec.ofInt 64 _ ||| BitVec.ofInt 64 _).toNat : Int) = _
  rw [of64, of64, wrap64u, ← UInt64.toBitVec_or]; show ((x ||| y).toNat : Int) % 18446744073709551616 = _; have := (x ||| y).toNat_lt; omega

/-! Conversions of one kind into another. -/
theorem cv8_32 (x : UInt8) : IntKind.u32.wrap (x.toNat : Int) = (x.toUInt32.toNat : Int) := by rw [wrap32]; have := x.toNat_lt; simp; omega
theorem cv8_64 (x : UInt8) : IntKind.u64.wrap (x.toNat : Int) = (x.toUInt64.toNat : Int) := by rw [wrap64u]; have := x.toNat_lt; simp; omega
theorem cv32_8 (x : UInt32) : IntKind.u8.wrap (x.toNat : Int) = (x.toUInt8.toNat : Int) := by rw [wrap8]; simp
theorem cv64_8 (x : UInt64) : IntKind.u8.wrap (x.toNat : Int) = (x.toUInt8.toNat : Int) := by rw [wrap8]; simp
theorem cv64_32 (x : UInt64) : IntKind.u32.wrap (x.toNat : Int) = (x.toUInt32.toNat : Int) := by rw [wrap32]; simp
theorem cv32_64 (x : UInt32) : IntKind.u64.wrap (x.toNat : Int) = (x.toUInt64.toNat : Int) := by rw [wrap64u]; have := x.toNat_lt; simp; omega

/-! Shifts by a number that is known. -/
theorem shl32 (x : UInt32) (n : Nat) (h : n < 32) : IntKind.u32.wrap ((x.toNat : Int) * 2 ^ n) = ((x <<< (UInt32.ofNat n)).toNat : Int) := by
  rw [wrap32, UInt32.toNat_shiftLeft]
  have h1 : (UInt32.ofNat n).toNat = n := by simp; omega
  rw [h1, Nat.mod_eq_of_lt h, Nat.shiftLeft_eq]
  rw [Int.natCast_emod, Int.natCast_mul, Int.natCast_pow]
  rfl
theorem shl64 (x : UInt64) (n : Nat) (h : n < 64) : IntKind.u64.wrap ((x.toNat : Int) * 2 ^ n) = ((x <<< (UInt64.ofNat n)).toNat : Int) := by
  rw [wrap64u, UInt64.toNat_shiftLeft]
  have h1 : (UInt64.ofNat n).toNat = n := by simp; omega
  rw [h1, Nat.mod_eq_of_lt h, Nat.shiftLeft_eq]
  rw [Int.natCast_emod, Int.natCast_mul, Int.natCast_pow]
  rfl
theorem shr32 (x : UInt32) (n : Nat) (h : n < 32) : ((x.toNat : Int)).fdiv (2 ^ n) = ((x >>> (UInt32.ofNat n)).toNat : Int) := by
  rw [UInt32.toNat_shiftRight]
  have h1 : (UInt32.ofNat n).toNat = n := by simp; omega
  rw [h1, Nat.mod_eq_of_lt h, Nat.shiftRight_eq_div_pow, Int.fdiv_eq_ediv_of_nonneg _ (by exact Int.le_of_lt (Int.pow_pos (by decide)))]
  norm_cast
theorem shr64 (x : UInt64) (n : Nat) (h : n < 64) : ((x.toNat : Int)).fdiv (2 ^ n) = ((x >>> (UInt64.ofNat n)).toNat : Int) := by
  rw [UInt64.toNat_shiftRight]
  have h1 : (UInt64.ofNat n).toNat = n := by simp; omega
  rw [h1, Nat.mod_eq_of_lt h, Nat.shiftRight_eq_div_pow, Int.fdiv_eq_ediv_of_nonneg _ (by exact Int.le_of_lt (Int.pow_pos (by decide)))]
  norm_cast
end Go.Abs

/- What functions of the program do, walked over the abstract machine. -/
import Derived.Test.YtngmhcgenknokaaTi
import Derived.Test.YtngmhcgenknokaaAbsZe
namespace Go.Proofs.Ytngmhcgenknokaa
open Go Go.Abs Go.Proofs

/-- A word turned right. -/
def rotr (x : UInt32) (r : Nat) : UInt32 := shl32n x (32 - r) ||| shr32n x r
def rotk (x : UInt32) (k : Int) : UInt32 := shl32n x (UInt64.ofInt k &&& 31).toNat ||| shr32n x (32 - (UInt64.ofInt k &&& 31)).toNat
theorem rotk_16 (x : UInt32) : rotk x (-16) = rotr x 16 := by
  rw [rotk, rotr, show (UInt64.ofInt (-16) &&& 31).toNat = 16 by decide +kernel, show (32 - (UInt64.ofInt (-16) &&& 31)).toNat = 16 by decide +kernel]
theorem rotk_12 (x : UInt32) : rotk x (-12) = rotr x 12 := by
  rw [rotk, rotr, show (UInt64.ofInt (-12) &&& 31).toNat = 20 by decide +kernel, show (32 - (UInt64.ofInt (-12) &&& 31)).toNat = 12 by decide +kernel]
theorem rotk_8 (x : UInt32) : rotk x (-8) = rotr x 8 := by
  rw [rotk, rotr, show (UInt64.ofInt (-8) &&& 31).toNat = 24 by decide +kernel, show (32 - (UInt64.ofInt (-8) &&& 31)).toNat = 8 by decide +kernel]
theorem rotk_7 (x : UInt32) : rotk x (-7) = rotr x 7 := by
  rw [rotk, rotr, show (UInt64.ofInt (-7) &&& 31).toNat = 25 by decide +kernel, show (32 - (UInt64.ofInt (-7) &&& 31)).toNat = 7 by decide +kernel]
/-- A root's bits, the highest first. -/
def rootf (n : UInt64) : Nat → UInt64
  | 0 => 0
  | j + 1 => if mulhi (rootf n j ||| shl64n 1 (35 - j)) (rootf n j ||| shl64n 1 (35 - j)) < n ∨ (mulhi (rootf n j ||| shl64n 1 (35 - j)) (rootf n j ||| shl64n 1 (35 - j)) = n ∧ (rootf n j ||| shl64n 1 (35 - j)) * (rootf n j ||| shl64n 1 (35 - j)) = 0) then rootf n j ||| shl64n 1 (35 - j) else rootf n j
def prm (k : Nat) : Nat → Bool
  | 0 => true
  | j + 1 => prm k j && decide (UInt64.ofNat (2 + k) % UInt64.ofNat (2 + j) ≠ 0)
def stt : Nat → Nat × List UInt32
  | 0 => (0, List.replicate 8 0)
  | k + 1 => if prm k k = true then ((stt k).1 + 1, (stt k).2.set (stt k).1 (rootf (UInt64.ofNat (2 + k)) 36).toUInt32) else stt k
theorem stt_len : ∀ k, (stt k).2.length = 8
  | 0 => by simp [stt]
  | k + 1 => by rw [stt]; split <;> simp [stt_len k]
theorem stt_lt : ∀ k, k < 18 → (stt k).1 < 8 := by
  have : ∀ k : Fin 18, (stt k.1).1 < 8 := by decide +kernel
  exact fun k h => this ⟨k, h⟩
theorem stt_18 : (stt 18).1 = 8 := by decide +kernel
theorem num_lt (a b : Nat) (ha : a < 100) (hb : b < 100) : (UInt64.ofNat a < UInt64.ofNat b) ↔ a < b := by
  rw [UInt64.lt_iff_toNat_lt, UInt64.toNat_ofNat_of_lt' (by rw [show UInt64.size = 18446744073709551616 from rfl]; omega), UInt64.toNat_ofNat_of_lt' (by rw [show UInt64.size = 18446744073709551616 from rfl]; omega)]
theorem num_ne (a : Nat) (ha : a < 100) (h0 : 0 < a) : UInt64.ofNat a ≠ 0 := by
  intro e
  have := congrArg UInt64.toNat e
  rw [UInt64.toNat_ofNat_of_lt' (by rw [show UInt64.size = 18446744073709551616 from rfl]; omega)] at this
  have z : UInt64.toNat 0 = 0 := rfl
  omega
theorem num_succ (a : Nat) : UInt64.ofNat a + 1 = UInt64.ofNat (a + 1) := by rw [UInt64.ofNat_add]; rfl
/-- The orders, one behind the other. -/
def ords : List Nat := [0, 1, 2, 3, 4, 5, 6, 7, 8, 9, 10, 11, 12, 13, 14, 15, 14, 10, 4, 8, 9, 15, 13, 6, 1, 12, 0, 2, 11, 7, 5, 3, 11, 8, 12, 0, 5, 2, 15, 13, 10, 14, 3, 6, 7, 1, 9, 4, 7, 9, 3, 1, 13, 12, 11, 14, 2, 6, 5, 10, 4, 0, 15, 8, 9, 0, 5, 7, 2, 4, 10, 15, 14, 1, 11, 12, 6, 8, 3, 13, 2, 12, 6, 10, 0, 11, 8, 3, 4, 13, 7, 5, 15, 14, 1, 9, 12, 5, 1, 15, 14, 13, 4, 10, 0, 7, 6, 3, 9, 2, 8, 11, 13, 11, 7, 14, 12, 1, 3, 9, 5, 0, 15, 4, 8, 6, 2, 10, 6, 15, 14, 9, 11, 3, 0, 8, 12, 2, 13, 7, 1, 4, 10, 5, 10, 2, 8, 4, 7, 6, 1, 5, 15, 11, 9, 14, 3, 12, 13, 0]
def ordz : List Int := ords.map Int.ofNat
theorem ords_len : ords.length = 160 := by decide +kernel
theorem ords_lt (k : Nat) : ords.getD k 0 < 16 := by
  by_cases h : k < 160
  · have : ∀ k : Fin 160, ords.getD k.1 0 < 16 := by decide +kernel
    exact this ⟨k, h⟩
  · rw [List.getD_eq_getElem?_getD, List.getElem?_eq_none (by rw [ords_len]; omega)]; decide
theorem ords_at (k : Nat) (h : k < 160) : (i64s ordz)[k]? = some (cn (ords.getD k 0)) := by
  have hl := ords_len
  simp [ordz, mapc, List.getElem?_map, List.getD_eq_getElem?_getD, List.getElem?_eq_getElem (show k < ords.length by omega)]
theorem ords_at2 (a b : Nat) (h : a + b < 160) : ((i64s ordz).drop a)[b]? = some (cn (ords.getD (a + b) 0)) := by
  rw [List.getElem?_drop]; exact ords_at _ h
/-- The mix's steps. -/
def m1 (v : List UInt32) (a b : Nat) (x : UInt32) : List UInt32 := v.set a (v.getD a 0 + (v.getD b 0 + x))
def m2 (v : List UInt32) (d a r : Nat) : List UInt32 := v.set d (rotr (v.getD d 0 ^^^ v.getD a 0) r)
def m3 (v : List UInt32) (c d : Nat) : List UInt32 := v.set c (v.getD c 0 + v.getD d 0)
theorem m1_len (v : List UInt32) (a b : Nat) (x : UInt32) : (m1 v a b x).length = v.length := by simp [m1]
theorem m2_len (v : List UInt32) (d a r : Nat) : (m2 v d a r).length = v.length := by simp [m2]
theorem m3_len (v : List UInt32) (c d : Nat) : (m3 v c d).length = v.length := by simp [m3]
def mixh (v : List UInt32) (a b c d : Nat) (x : UInt32) (r r' : Nat) : List UInt32 := m2 (m3 (m2 (m1 v a b x) d a r) c d) b c r'
def gmix (v : List UInt32) (a b c d : Nat) (x y : UInt32) : List UInt32 := mixh (mixh v a b c d x 16 12) a b c d y 8 7
theorem gmix_len (v : List UInt32) (a b c d : Nat) (x y : UInt32) : (gmix v a b c d x y).length = v.length := by simp [gmix, mixh, m1_len, m2_len, m3_len]
/-- A block's words. -/
def mw (l : List UInt8) : Nat → List UInt32
  | 0 => List.replicate 16 0
  | i + 1 => (mw l i).set (i / 4) ((mw l i).getD (i / 4) 0 ||| shl32n (l.getD i 0).toUInt32 (8 * (i % 4)))
theorem mw_len (l : List UInt8) : ∀ i, (mw l i).length = 16
  | 0 => by simp [mw]
  | i + 1 => by rw [mw, List.length_set, mw_len]
def vini (h f : List UInt32) (t : UInt64) (last : Bool) : List UInt32 :=
  let v := ((h ++ f).set 12 ((h ++ f).getD 12 0 ^^^ t.toUInt32)).set 13 (((h ++ f).set 12 ((h ++ f).getD 12 0 ^^^ t.toUInt32)).getD 13 0 ^^^ (shr64n t 32).toUInt32)
  if last then v.set 14 (~~~ v.getD 14 0) else v
theorem vini_len (h f : List UInt32) (t : UInt64) (last : Bool) (hh : h.length = 8) (hf : f.length = 8) : (vini h f t last).length = 16 := by
  unfold vini; simp only; split <;> simp [hh, hf]
def ins (m : List UInt32) (r : Nat) (v : List UInt32) : Nat → List UInt32
  | 0 => v
  | i + 1 => gmix (ins m r v i) (i % 4) (4 + (i + i / 4) % 4) (8 + (i + 2 * (i / 4)) % 4) (12 + (i + 3 * (i / 4)) % 4) (m.getD (ords.getD (r * 16 + 2 * i * 1) 0) 0) (m.getD (ords.getD (r * 16 + (2 * i + 1) * 1) 0) 0)
theorem ins_len (m : List UInt32) (r : Nat) (v : List UInt32) : ∀ i, (ins m r v i).length = v.length
  | 0 => rfl
  | i + 1 => by rw [ins, gmix_len, ins_len]
def rnds (m v : List UInt32) : Nat → List UInt32
  | 0 => v
  | r + 1 => ins m r (rnds m v r) 8
theorem rnds_len (m v : List UInt32) : ∀ r, (rnds m v r).length = v.length
  | 0 => rfl
  | r + 1 => by rw [rnds, ins_len, rnds_len]
def hxr (h v : List UInt32) : Nat → List UInt32
  | 0 => h
  | i + 1 => (hxr h v i).set i ((hxr h v i).getD i 0 ^^^ (v.getD i 0 ^^^ v.getD (i + 8) 0))
theorem hxr_len (h v : List UInt32) : ∀ i, (hxr h v i).length = h.length
  | 0 => rfl
  | i + 1 => by rw [hxr, List.length_set, hxr_len]
def press (h f : List UInt32) (l : List UInt8) (t : UInt64) (last : Bool) : List UInt32 := hxr h (rnds (mw l 64) (vini h f t last) 10) 8
theorem press_len (h f : List UInt32) (l : List UInt8) (t : UInt64) (last : Bool) : (press h f l t last).length = h.length := hxr_len _ _ _
/-- math/bits.RotateLeft32 -/
theorem rotl (x : UInt32) (k : Int) : Good Try.prog 25 [.c (c32 x), .c (ci k)] [] (sc (c32 (rotk x k))) [] := by
  refine good_frm 17 Try.func25 rfl rfl rfl rfl rfl rfl ?_
  refine awp_seq ?_
  refine rl ?_
  refine G (q_as (s := sc (c32 0)) ?_)
  refine gend ?_
  refine awp_seq ?_
  refine rl ?_
  refine Mv ?_
  refine G (q_cvi_64 ?_)
  refine G (q_and64 (y := 31) ?_)
  refine As ?_
  refine gend ?_
  refine awp_seq ?_
  refine rl ?_
  refine Mv ?_
  refine Mv ?_
  refine G (q_shl32_64 ?_)
  refine Mv ?_
  refine Mv ?_
  refine G (q_sub64 (x := 32) ?_)
  refine G (q_shr32_64 ?_)
  refine G (q_or32 ?_)
  refine As ?_
  refine gend ?_
  refine awp_ret ?_
  exact fp1
/-- math/bits.Mul64 -/
theorem mul64 (x y : UInt64) : Good Try.prog 26 [.c (c64 x), .c (c64 y)] [] (.t [.c (c64 (mulhi x y)), .c (c64 (x * y))]) [] := by
  refine good_frm 51 Try.func26 rfl rfl rfl rfl rfl rfl ?_
  refine awp_seq ?_
  refine rl ?_
  refine G (q_as (s := sc (c64 0)) ?_)
  refine G (q_as (s := sc (c64 0)) ?_)
  refine gend ?_
  refine awp_seq ?_
  refine rl ?_
  refine Mv ?_
  refine G (q_and64 (y := 4294967295) ?_)
  refine As ?_
  refine gend ?_
  refine awp_seq ?_
  refine rl ?_
  refine Mv ?_
  refine G (q_shr64_64 (n := 32) ?_)
  refine As ?_
  refine gend ?_
  refine awp_seq ?_
  refine rl ?_
  refine Mv ?_
  refine G (q_and64 (y := 4294967295) ?_)
  refine As ?_
  refine gend ?_
  refine awp_seq ?_
  refine rl ?_
  refine Mv ?_
  refine G (q_shr64_64 (n := 32) ?_)
  refine As ?_
  refine gend ?_
  refine awp_seq ?_
  refine rl ?_
  refine Mv ?_
  refine Mv ?_
  refine G (q_mul64 ?_)
  refine As ?_
  refine gend ?_
  refine awp_seq ?_
  refine rl ?_
  refine Mv ?_
  refine Mv ?_
  refine G (q_mul64 ?_)
  refine Mv ?_
  refine G (q_shr64_64 (n := 32) ?_)
  refine G (q_add64 ?_)
  refine As ?_
  refine gend ?_
  refine awp_seq ?_
  refine rl ?_
  refine Mv ?_
  refine G (q_and64 (y := 4294967295) ?_)
  refine As ?_
  refine gend ?_
  refine awp_seq ?_
  refine rl ?_
  refine Mv ?_
  refine G (q_shr64_64 (n := 32) ?_)
  refine As ?_
  refine gend ?_
  refine awp_seq ?_
  refine rl ?_
  refine Mv ?_
  refine Mv ?_
  refine Mv ?_
  refine G (q_mul64 ?_)
  refine G (q_add64 ?_)
  refine As ?_
  refine gend ?_
  refine awp_seq ?_
  refine rl ?_
  refine Mv ?_
  refine Mv ?_
  refine G (q_mul64 ?_)
  refine Mv ?_
  refine G (q_add64 ?_)
  refine Mv ?_
  refine G (q_shr64_64 (n := 32) ?_)
  refine G (q_add64 ?_)
  refine As ?_
  refine gend ?_
  refine awp_seq ?_
  refine rl ?_
  refine Mv ?_
  refine Mv ?_
  refine G (q_mul64 ?_)
  refine As ?_
  refine gend ?_
  refine awp_ret ?_
  exact fp2
/-- blake.root -/
theorem root (n : UInt64) : Good Try.prog 23 [.c (c64 n)] [] (sc (c32 (rootf n 36).toUInt32)) [] := by
  refine good_frm 37 Try.func23 rfl rfl rfl rfl rfl rfl ?_
  refine awp_seq ?_
  refine rl ?_
  refine G (q_as (s := sc (c32 0)) ?_)
  refine gend ?_
  refine awp_seq ?_
  refine rl ?_
  refine G (q_as (s := sc (c64 0)) ?_)
  refine gend ?_
  refine awp_seq ?_
  refine awp_seq ?_
  refine rl ?_
  refine G (q_as (s := sc (cn 35)) ?_)
  refine gend ?_
  refine awp_block ?_
  refine awp_loop (fun x : {i : Nat // i ≤ 36} => ⟨frm 37 [(0, sc (c64 n)), (3, sc (c64 (rootf n x.1))), (4, sc (ci (35 - (x.1 : Int))))], []⟩) (fun x => 36 - x.1) ⟨0, Nat.zero_le _⟩ (sle_sub ⟨rfl, rfl, rfl, trivial⟩ rfl) fun x => ?_   -- live: [0, 3, 4]
  refine awp_seq ?_
  refine awp_seq ?_
  refine rl ?_
  refine Mv ?_
  refine G (q_geqi (y := 0) ?_)
  refine gend ?_
  refine cnd (fun hc1 => ?_) (fun hc1 => ?_); rotate_left
  · refine awp_exit ?_
    rw [show x.1 = 36 from (by have := x.2; omega)]
    refine awp_seq ?_
    refine rl ?_
    refine Mv ?_
    refine G (q_cv64_32 ?_)
    refine As ?_
    refine gend ?_
    refine awp_ret ?_
    exact fp1
  refine awp_skip ?_
  refine retell [(0, sc (c64 n)), (3, sc (c64 (rootf n x.1))), (4, sc (cn (35 - x.1)))] ?_ ⟨rfl, rfl, congrArg (fun i => sc (ci i)) (by omega), trivial⟩
  refine awp_seq ?_
  refine awp_block ?_
  refine awp_seq ?_
  refine rl ?_
  refine Mv ?_
  refine Mv ?_
  refine G (q_shl64_0 (x := 1) ?_)
  refine G (q_or64 ?_)
  refine As ?_
  refine gend ?_
  refine awp_seq ?_
  refine rl ?_
  refine Mv ?_
  refine Mv ?_
  refine G (q_callp (mul64 _ _/- math/bits.Mul64 -/) ?_)
  refine G (q_mv (s := .t _) ?_)
  refine G (q_ext (y := .c _) ?_)
  refine G (q_ext (y := .c _) ?_)
  refine As ?_
  refine As ?_
  refine gend ?_
  refine awp_seq ?_
  refine rl ?_
  refine Mv ?_
  refine Mv ?_
  refine G (q_lss64 ?_)
  refine Mv ?_
  refine Aspd 25 (fun hb4 => ?_) (fun hb4 => ?_)
  · refine Gn ?_
    refine Gn ?_
    refine Gn ?_
    refine Gn ?_
    refine Gu ?_
    refine Gu ?_
    refine Gn ?_
    refine G (q_pkt ?_)
    refine gend ?_
    refine cndT ?_
    refine rl ?_
    refine Mv ?_
    refine As ?_
    refine gend ?_
    refine rl ?_
    refine Mv ?_
    refine G (q_subi (y := 1) ?_)
    refine As ?_
    refine gend ?_
    exact ⟨⟨x.1 + 1, by omega⟩, by show 36 - (x.1 + 1) < 36 - x.1; omega, sle_sub ⟨rfl, congrArg (fun z => sc (c64 z)) (by show _ = rootf n (x.1 + 1); rw [rootf]; generalize rootf n x.1 ||| shl64n 1 (35 - x.1) = y at *; simp [*]), congrArg (fun i => sc (ci i)) (by show ((35 - x.1 : Nat) : Int) - 1 = 35 - ((x.1 + 1 : Nat) : Int); omega), trivial⟩ rfl⟩   -- endloop 1
  refine Gg (q_mv (s := .v (.c _)) ?_)
  refine Gg (q_mv (s := .v (.c _)) ?_)
  refine Gg (q_eql64 ?_)
  refine Gg (q_mv (s := .v (.c _)) ?_)
  refine Aspd 29 (fun hb8 => ?_) (fun hb8 => ?_)
  · refine Gg (q_mv (s := .v (.c _)) ?_)
    refine Gg (q_eql64 (y := 0) ?_)
    refine Gg (q_pkt ?_)
    refine G (q_pkf ?_)
    refine gend ?_
    refine cnd (fun hc2 => ?_) (fun hc2 => ?_)
    · refine rl ?_
      refine Mv ?_
      refine As ?_
      refine gend ?_
      refine rl ?_
      refine Mv ?_
      refine G (q_subi (y := 1) ?_)
      refine As ?_
      refine gend ?_
      exact ⟨⟨x.1 + 1, by omega⟩, by show 36 - (x.1 + 1) < 36 - x.1; omega, sle_sub ⟨rfl, congrArg (fun z => sc (c64 z)) (by show _ = rootf n (x.1 + 1); rw [rootf]; generalize rootf n x.1 ||| shl64n 1 (35 - x.1) = y at *; simp [*]), congrArg (fun i => sc (ci i)) (by show ((35 - x.1 : Nat) : Int) - 1 = 35 - ((x.1 + 1 : Nat) : Int); omega), trivial⟩ rfl⟩   -- endloop 1
    refine awp_skip ?_
    refine rl ?_
    refine Mv ?_
    refine G (q_subi (y := 1) ?_)
    refine As ?_
    refine gend ?_
    exact ⟨⟨x.1 + 1, by omega⟩, by show 36 - (x.1 + 1) < 36 - x.1; omega, sle_sub ⟨rfl, congrArg (fun z => sc (c64 z)) (by show _ = rootf n (x.1 + 1); rw [rootf]; generalize rootf n x.1 ||| shl64n 1 (35 - x.1) = y at *; simp [*]), congrArg (fun i => sc (ci i)) (by show ((35 - x.1 : Nat) : Int) - 1 = 35 - ((x.1 + 1 : Nat) : Int); omega), trivial⟩ rfl⟩   -- endloop 1
  refine Gn ?_
  refine Gn ?_
  refine Gg (q_pkf ?_)
  refine G (q_pkf ?_)
  refine gend ?_
  refine cndF ?_
  refine awp_skip ?_
  refine rl ?_
  refine Mv ?_
  refine G (q_subi (y := 1) ?_)
  refine As ?_
  refine gend ?_
  exact ⟨⟨x.1 + 1, by omega⟩, by show 36 - (x.1 + 1) < 36 - x.1; omega, sle_sub ⟨rfl, congrArg (fun z => sc (c64 z)) (by show _ = rootf n (x.1 + 1); rw [rootf]; generalize rootf n x.1 ||| shl64n 1 (35 - x.1) = y at *; simp [*]), congrArg (fun i => sc (ci i)) (by show ((35 - x.1 : Nat) : Int) - 1 = 35 - ((x.1 + 1 : Nat) : Int); omega), trivial⟩ rfl⟩   -- endloop 1
set_option maxHeartbeats 800000 in
/-- blake.start -/
theorem start : Good Try.prog 19 [] [] (sa (u32s (stt 18).2)) [] := by
  refine good_frm 29 Try.func19 rfl rfl rfl rfl rfl rfl ?_
  refine awp_seq ?_
  refine rl ?_
  refine G (q_al ?_)
  refine gend ?_
  refine awp_seq ?_
  refine rl ?_
  refine G (q_as (s := sc (cn 0)) ?_)
  refine gend ?_
  refine awp_seq ?_
  refine awp_seq ?_
  refine rl ?_
  refine G (q_as (s := sc (c64 2)) ?_)
  refine gend ?_
  refine awp_block ?_
  refine awp_loop (fun x : {i : Nat // i ≤ 18} => ⟨frm 29 [(0, sc (.ptr 0 0)), (1, sc (cn (stt x.1).1)), (2, sc (c64 (UInt64.ofNat (2 + x.1))))], [some (u32s (stt x.1).2)]⟩) (fun x => 18 - x.1) ⟨0, Nat.zero_le _⟩ (sle_sub ⟨rfl, rfl, rfl, trivial⟩ rfl) fun x => ?_   -- live: [0, 1, 2]
  have hl := stt_len x.1
  have hlt := stt_lt x.1
  have hx18 : (stt x.1).1 < 8 → x.1 + 1 ≤ 18 := fun h => by
    rcases Nat.lt_or_ge x.1 18 with h' | h'
    · omega
    · exfalso
      have e : x.1 = 18 := by have := x.2; omega
      rw [e, stt_18] at h; omega
  refine awp_seq ?_
  refine awp_seq ?_
  refine rl ?_
  refine Mv ?_
  refine G (q_lssn (y := 8) ?_)
  refine gend ?_
  refine cnd (fun hc1 => ?_) (fun hc1 => ?_); rotate_left
  · refine awp_exit ?_
    rw [show x.1 = 18 from (by have := x.2; omega)]
    refine awp_seq ?_
    refine rl ?_
    refine G (q_ldw  ?_ (hl := (mapc_length ..).trans (stt_len 18)))
    refine G0 (q_stw  ?_ (hl := (mapc_length ..).trans (stt_len 18)) (hc := (mapc_length ..).trans (stt_len 18)))
    refine gend ?_
    refine awp_ret ?_
    exact fpc (t := 43) (a := 0) (hn := by exact (mapc_length ..).trans (stt_len 18))
  refine awp_skip ?_
  refine awp_seq ?_
  refine awp_block ?_
  refine awp_seq ?_
  refine rl ?_
  refine As ?_
  refine gend ?_
  refine awp_seq ?_
  refine awp_seq ?_
  refine rl ?_
  refine G (q_as (s := sc (c64 2)) ?_)
  refine gend ?_
  refine awp_block ?_
  refine awp_loop (fun j : {i : Nat // i ≤ x.1} => ⟨frm 29 [(0, sc (.ptr 0 0)), (1, sc (cn (stt x.1).1)), (2, sc (c64 (UInt64.ofNat (2 + x.1)))), (3, sc (.bool (prm x.1 j.1))), (4, sc (c64 (UInt64.ofNat (2 + j.1))))], [some (u32s (stt x.1).2)]⟩) (fun j => x.1 - j.1) ⟨0, Nat.zero_le _⟩ (sle_sub ⟨rfl, rfl, rfl, rfl, rfl, trivial⟩ rfl) fun j => ?_   -- live: [2, 3, 4]
  have hnl := num_lt (2 + j.1) (2 + x.1) (by omega) (by omega)
  refine awp_seq ?_
  refine awp_seq ?_
  refine rl ?_
  refine Mv ?_
  refine Mv ?_
  refine G (q_lss64 ?_)
  refine gend ?_
  refine cnd (fun hc2 => ?_) (fun hc2 => ?_); rotate_left
  · refine awp_exit ?_
    have hc2' := mt hnl.2 hc2
    rw [show j.1 = x.1 from (by have := j.2; omega)]
    refine awp_seq ?_
    refine rl ?_
    refine Mv ?_
    refine gend ?_
    refine cndb (fun hc3 => ?_) (fun hc3 => ?_)
    · refine awp_seq ?_
      refine rl ?_
      refine Mv ?_
      refine Mv ?_
      refine G (q_callp (root _/- escutcheon/blake.root -/) ?_)
      refine G (q_ixp1 ?_)
      refine G0 (q_stm ?_)
      refine gend ?_
      refine rl ?_
      refine Mv ?_
      refine G (q_addn (y := 1) ?_)
      refine As ?_
      refine gend ?_
      refine rl ?_
      refine Mv ?_
      refine G (q_add64 (y := 1) ?_)
      refine As ?_
      refine gend ?_
      exact ⟨⟨x.1 + 1, by omega⟩, by show 18 - (x.1 + 1) < 18 - x.1; omega, sle_sub ⟨rfl, congrArg (fun n => sc (cn n)) (by show _ = (stt (x.1 + 1)).1; rw [stt]; first | rw [if_pos (by assumption)] | rw [if_neg (by simp [*])]), congrArg (fun z => sc (c64 z)) (num_succ _), trivial⟩ (by show _ = [some (u32s (stt (x.1 + 1)).2)]; rw [stt]; first | (rw [if_pos (by assumption)]; rfl) | rw [if_neg (by simp [*])])⟩   -- endloop 1
    refine awp_skip ?_
    refine rl ?_
    refine Mv ?_
    refine G (q_add64 (y := 1) ?_)
    refine As ?_
    refine gend ?_
    exact ⟨⟨x.1 + 1, by omega⟩, by show 18 - (x.1 + 1) < 18 - x.1; omega, sle_sub ⟨rfl, congrArg (fun n => sc (cn n)) (by show _ = (stt (x.1 + 1)).1; rw [stt]; first | rw [if_pos (by assumption)] | rw [if_neg (by simp [*])]), congrArg (fun z => sc (c64 z)) (num_succ _), trivial⟩ (by show _ = [some (u32s (stt (x.1 + 1)).2)]; rw [stt]; first | (rw [if_pos (by assumption)]; rfl) | rw [if_neg (by simp [*])])⟩   -- endloop 1
  refine awp_skip ?_
  refine awp_seq ?_
  refine awp_block ?_
  refine rl ?_
  refine Mv ?_
  refine Mv ?_
  refine Asp 15 (fun hb2 => ?_) (fun hb2 => ?_)
  · refine Gg (q_mv (s := .v (.c _)) ?_)
    refine Gg (q_mv (s := .v (.c _)) ?_)
    refine Gg (q_rem64 ?_ (hz := num_ne _ (by omega) (by omega)))
    refine Gg (q_neq64 (y := 0) ?_)
    refine G (q_pkt ?_)
    refine As ?_
    refine gend ?_
    refine rl ?_
    refine Mv ?_
    refine G (q_add64 (y := 1) ?_)
    refine As ?_
    refine gend ?_
    exact ⟨⟨j.1 + 1, by have := hnl.1 hc2; omega⟩, by show x.1 - (j.1 + 1) < x.1 - j.1; have := hnl.1 hc2; omega, sle_sub ⟨rfl, rfl, rfl, congrArg (fun b => sc (.bool b)) (by show _ = prm x.1 (j.1 + 1); rw [prm]; simp [*]), congrArg (fun z => sc (c64 z)) (num_succ _), trivial⟩ rfl⟩   -- endloop 2
  refine Gn ?_
  refine Gn ?_
  refine Gn ?_
  refine Gn ?_
  refine G (q_pkf ?_)
  refine As ?_
  refine gend ?_
  refine rl ?_
  refine Mv ?_
  refine G (q_add64 (y := 1) ?_)
  refine As ?_
  refine gend ?_
  exact ⟨⟨j.1 + 1, by have := hnl.1 hc2; omega⟩, by show x.1 - (j.1 + 1) < x.1 - j.1; have := hnl.1 hc2; omega, sle_sub ⟨rfl, rfl, rfl, congrArg (fun b => sc (.bool b)) (by show _ = prm x.1 (j.1 + 1); rw [prm]; simp [*]), congrArg (fun z => sc (c64 z)) (num_succ _), trivial⟩ rfl⟩   -- endloop 2
/-- blake.orders -/
theorem orders : Good Try.prog 20 [] [] (sa (i64s ordz)) [] := by
  refine good_frm 12 Try.func20 rfl rfl rfl rfl rfl rfl ?_
  refine awp_seq ?_
  refine rl ?_
  refine G (q_al ?_)
  refine gend ?_
  refine awp_seq ?_
  refine rl ?_
  refine G (q_bla (fkC (out := i64s [0, 1, 2, 3, 4, 5, 6, 7, 8, 9, 10, 11, 12, 13, 14, 15]) ?_))
  refine G (q_bla (fkC (out := i64s [14, 10, 4, 8, 9, 15, 13, 6, 1, 12, 0, 2, 11, 7, 5, 3]) ?_))
  refine G (q_bla (fkC (out := i64s [11, 8, 12, 0, 5, 2, 15, 13, 10, 14, 3, 6, 7, 1, 9, 4]) ?_))
  refine G (q_bla (fkC (out := i64s [7, 9, 3, 1, 13, 12, 11, 14, 2, 6, 5, 10, 4, 0, 15, 8]) ?_))
  refine G (q_bla (fkC (out := i64s [9, 0, 5, 7, 2, 4, 10, 15, 14, 1, 11, 12, 6, 8, 3, 13]) ?_))
  refine G (q_bla (fkC (out := i64s [2, 12, 6, 10, 0, 11, 8, 3, 4, 13, 7, 5, 15, 14, 1, 9]) ?_))
  refine G (q_bla (fkC (out := i64s [12, 5, 1, 15, 14, 13, 4, 10, 0, 7, 6, 3, 9, 2, 8, 11]) ?_))
  refine G (q_bla (fkC (out := i64s [13, 11, 7, 14, 12, 1, 3, 9, 5, 0, 15, 4, 8, 6, 2, 10]) ?_))
  refine G (q_bla (fkC (out := i64s [6, 15, 14, 9, 11, 3, 0, 8, 12, 2, 13, 7, 1, 4, 10, 5]) ?_))
  refine G (q_bla (fkC (out := i64s [10, 2, 8, 4, 7, 6, 1, 5, 15, 11, 9, 14, 3, 12, 13, 0]) ?_))
  refine G (q_bla (fka rfl (et rfl) (by first | exact (mapc_length ..).trans (by with_reducible assumption) | decide +kernel | decide) (by first | decide +kernel | decide) (fka rfl (et rfl) (by first | exact (mapc_length ..).trans (by with_reducible assumption) | decide +kernel | decide) (by first | decide +kernel | decide) (fka rfl (et rfl) (by first | exact (mapc_length ..).trans (by with_reducible assumption) | decide +kernel | decide) (by first | decide +kernel | decide) (fka rfl (et rfl) (by first | exact (mapc_length ..).trans (by with_reducible assumption) | decide +kernel | decide) (by first | decide +kernel | decide) (fka rfl (et rfl) (by first | exact (mapc_length ..).trans (by with_reducible assumption) | decide +kernel | decide) (by first | decide +kernel | decide) (fka rfl (et rfl) (by first | exact (mapc_length ..).trans (by with_reducible assumption) | decide +kernel | decide) (by first | decide +kernel | decide) (fka rfl (et rfl) (by first | exact (mapc_length ..).trans (by with_reducible assumption) | decide +kernel | decide) (by first | decide +kernel | decide) (fka rfl (et rfl) (by first | exact (mapc_length ..).trans (by with_reducible assumption) | decide +kernel | decide) (by first | decide +kernel | decide) (fka rfl (et rfl) (by first | exact (mapc_length ..).trans (by with_reducible assumption) | decide +kernel | decide) (by first | decide +kernel | decide) (fka rfl (et rfl) (by first | exact (mapc_length ..).trans (by with_reducible assumption) | decide +kernel | decide) (by first | decide +kernel | decide) (fk0 ?_))))))))))))
  refine G0 (q_stw  ?_ (hl := by kernel_rfl) (hc := by kernel_rfl))
  refine gend ?_
  refine awp_ret ?_
  exact fpc (t := 54) (a := 0) (hn := by kernel_rfl) (hv := by kernel_rfl)
set_option maxHeartbeats 800000 in
/-- blake.press$1 -/
theorem mix_ (v : List UInt32) (a b c d : Nat) (x y : UInt32) (ha : a < 16) (hb : b < 16) (hc : c < 16) (hd : d < 16) (hv : v.length = 16) : Good Try.prog 24 [.c (cn a), .c (cn b), .c (cn c), .c (cn d), .c (c32 x), .c (c32 y), .c (.ptr 0 0)] [some (u32s v)] (.t []) [some (u32s (gmix v a b c d x y))] := by
  refine good_frm 89 Try.func24 rfl rfl rfl rfl rfl rfl ?_
  refine awp_seq ?_
  refine rdl [10] [] [0, 0, 0, 0, 0, 0, 0, 0, 0, 0, 1] ?_
  refine Dp (fun _ => q_mv (s := .v (.c _)) ⟨rfl, rfl⟩) ?_
  refine Dp (fun _ => q_ixp1 ⟨rfl, rfl⟩) ?_
  refine DLp ?_
  refine Dp (fun _ => q_mv (s := .v (.c _)) ⟨rfl, rfl⟩) ?_
  refine Dp (fun _ => q_ixp1 ⟨rfl, rfl⟩) ?_
  refine DLp ?_
  refine Dp (fun _ => q_mv (s := .v (.c _)) ⟨rfl, rfl⟩) ?_
  refine Dp (fun _ => q_add32 ⟨rfl, rfl⟩) ?_
  refine Dp (fun _ => q_add32 ⟨rfl, rfl⟩) ?_
  refine Dp (fun _ => q_ixp1 ⟨rfl, rfl⟩) ?_
  refine De0 (q_stm (pw ?_))
  refine dend ?_
  refine awp_seq ?_
  refine rdl [10] [] [0, 0, 0, 0, 0, 0, 0, 0, 0, 0, 1] ?_
  refine Dp (fun _ => q_mv (s := .v (.c _)) ⟨rfl, rfl⟩) ?_
  refine Dp (fun _ => q_mv (s := .v (.c _)) ⟨rfl, rfl⟩) ?_
  refine Dp (fun _ => q_ixp1 ⟨rfl, rfl⟩) ?_
  refine DLp ?_
  refine Dp (fun _ => q_mv (s := .v (.c _)) ⟨rfl, rfl⟩) ?_
  refine Dp (fun _ => q_ixp1 ⟨rfl, rfl⟩) ?_
  refine DLp ?_
  refine Dp (fun _ => q_xor32 ⟨rfl, rfl⟩) ?_
  refine Dp (fun _ => q_callp (rotl _ (-16)/- math/bits.RotateLeft32 -/) ⟨rfl, rfl⟩) ?_
  refine Dp (fun _ => q_ixp1 ⟨rfl, rfl⟩) ?_
  refine De0 (q_stm (pw ?_))
  refine dend ?_
  refine awp_seq ?_
  refine rdl [8] [] [0, 0, 0, 0, 0, 0, 0, 0, 1] ?_
  refine Dp (fun _ => q_mv (s := .v (.c _)) ⟨rfl, rfl⟩) ?_
  refine Dp (fun _ => q_ixp1 ⟨rfl, rfl⟩) ?_
  refine DLp ?_
  refine Dp (fun _ => q_mv (s := .v (.c _)) ⟨rfl, rfl⟩) ?_
  refine Dp (fun _ => q_ixp1 ⟨rfl, rfl⟩) ?_
  refine DLp ?_
  refine Dp (fun _ => q_add32 ⟨rfl, rfl⟩) ?_
  refine Dp (fun _ => q_ixp1 ⟨rfl, rfl⟩) ?_
  refine De0 (q_stm (pw ?_))
  refine dend ?_
  refine awp_seq ?_
  refine rdl [10] [] [0, 0, 0, 0, 0, 0, 0, 0, 0, 0, 1] ?_
  refine Dp (fun _ => q_mv (s := .v (.c _)) ⟨rfl, rfl⟩) ?_
  refine Dp (fun _ => q_mv (s := .v (.c _)) ⟨rfl, rfl⟩) ?_
  refine Dp (fun _ => q_ixp1 ⟨rfl, rfl⟩) ?_
  refine DLp ?_
  refine Dp (fun _ => q_mv (s := .v (.c _)) ⟨rfl, rfl⟩) ?_
  refine Dp (fun _ => q_ixp1 ⟨rfl, rfl⟩) ?_
  refine DLp ?_
  refine Dp (fun _ => q_xor32 ⟨rfl, rfl⟩) ?_
  refine Dp (fun _ => q_callp (rotl _ (-12)/- math/bits.RotateLeft32 -/) ⟨rfl, rfl⟩) ?_
  refine Dp (fun _ => q_ixp1 ⟨rfl, rfl⟩) ?_
  refine De0 (q_stm (pw ?_))
  refine dend ?_
  refine awp_seq ?_
  refine rdl [10] [] [0, 0, 0, 0, 0, 0, 0, 0, 0, 0, 1] ?_
  refine Dp (fun _ => q_mv (s := .v (.c _)) ⟨rfl, rfl⟩) ?_
  refine Dp (fun _ => q_ixp1 ⟨rfl, rfl⟩) ?_
  refine DLp ?_
  refine Dp (fun _ => q_mv (s := .v (.c _)) ⟨rfl, rfl⟩) ?_
  refine Dp (fun _ => q_ixp1 ⟨rfl, rfl⟩) ?_
  refine DLp ?_
  refine Dp (fun _ => q_mv (s := .v (.c _)) ⟨rfl, rfl⟩) ?_
  refine Dp (fun _ => q_add32 ⟨rfl, rfl⟩) ?_
  refine Dp (fun _ => q_add32 ⟨rfl, rfl⟩) ?_
  refine Dp (fun _ => q_ixp1 ⟨rfl, rfl⟩) ?_
  refine De0 (q_stm (pw ?_))
  refine dend ?_
  refine awp_seq ?_
  refine rdl [10] [] [0, 0, 0, 0, 0, 0, 0, 0, 0, 0, 1] ?_
  refine Dp (fun _ => q_mv (s := .v (.c _)) ⟨rfl, rfl⟩) ?_
  refine Dp (fun _ => q_mv (s := .v (.c _)) ⟨rfl, rfl⟩) ?_
  refine Dp (fun _ => q_ixp1 ⟨rfl, rfl⟩) ?_
  refine DLp ?_
  refine Dp (fun _ => q_mv (s := .v (.c _)) ⟨rfl, rfl⟩) ?_
  refine Dp (fun _ => q_ixp1 ⟨rfl, rfl⟩) ?_
  refine DLp ?_
  refine Dp (fun _ => q_xor32 ⟨rfl, rfl⟩) ?_
  refine Dp (fun _ => q_callp (rotl _ (-8)/- math/bits.RotateLeft32 -/) ⟨rfl, rfl⟩) ?_
  refine Dp (fun _ => q_ixp1 ⟨rfl, rfl⟩) ?_
  refine De0 (q_stm (pw ?_))
  refine dend ?_
  refine awp_seq ?_
  refine rdl [8] [] [0, 0, 0, 0, 0, 0, 0, 0, 1] ?_
  refine Dp (fun _ => q_mv (s := .v (.c _)) ⟨rfl, rfl⟩) ?_
  refine Dp (fun _ => q_ixp1 ⟨rfl, rfl⟩) ?_
  refine DLp ?_
  refine Dp (fun _ => q_mv (s := .v (.c _)) ⟨rfl, rfl⟩) ?_
  refine Dp (fun _ => q_ixp1 ⟨rfl, rfl⟩) ?_
  refine DLp ?_
  refine Dp (fun _ => q_add32 ⟨rfl, rfl⟩) ?_
  refine Dp (fun _ => q_ixp1 ⟨rfl, rfl⟩) ?_
  refine De0 (q_stm (pw ?_))
  refine dend ?_
  refine rdl [10] [] [0, 0, 0, 0, 0, 0, 0, 0, 0, 0, 1] ?_
  refine Dp (fun _ => q_mv (s := .v (.c _)) ⟨rfl, rfl⟩) ?_
  refine Dp (fun _ => q_mv (s := .v (.c _)) ⟨rfl, rfl⟩) ?_
  refine Dp (fun _ => q_ixp1 ⟨rfl, rfl⟩) ?_
  refine DLp ?_
  refine Dp (fun _ => q_mv (s := .v (.c _)) ⟨rfl, rfl⟩) ?_
  refine Dp (fun _ => q_ixp1 ⟨rfl, rfl⟩) ?_
  refine DLp ?_
  refine Dp (fun _ => q_xor32 ⟨rfl, rfl⟩) ?_
  refine Dp (fun _ => q_callp (rotl _ (-7)/- math/bits.RotateLeft32 -/) ⟨rfl, rfl⟩) ?_
  refine Dp (fun _ => q_ixp1 ⟨rfl, rfl⟩) ?_
  refine De0 (q_stm (pw ?_))
  refine dend ?_
  exact fw0 (hH := by simp only [rotk_16, rotk_12, rotk_8, rotk_7]; rfl)
end Go.Proofs.Ytngmhcgenknokaa

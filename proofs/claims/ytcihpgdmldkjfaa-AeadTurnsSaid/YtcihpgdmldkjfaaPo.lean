/- What functions of the program do, walked over the abstract machine. -/
import Derived.Test.YtcihpgdmldkjfaaTi
import Derived.Test.YtcihpgdmldkjfaaAbsZf
namespace Go.Proofs.Ytcihpgdmldkjfaa.Po
open Go Go.Abs Go.Proofs

/-- Eight bytes, the lowest first. -/
def hf (l : List UInt8) : Nat → UInt64
  | 0 => 0
  | i + 1 => hf l i ||| shl64n (l.getD i 0).toUInt64 (8 * i)
abbrev half (l : List UInt8) : UInt64 := hf (l.take 8) 8
/-- What two marks have not in common. -/
def xo (a b : List UInt8) : Nat → UInt8
  | 0 => 0
  | i + 1 => xo a b i ||| (a.getD i 0 ^^^ b.getD i 0)
theorem xo_zero (a b : List UInt8) : ∀ i, xo a b i = 0 ↔ ∀ j, j < i → a.getD j 0 = b.getD j 0
  | 0 => by simp [xo]
  | i + 1 => by
    rw [xo]
    constructor
    · intro h
      have h1 := UInt8.or_eq_zero_iff.1 h
      have h2 := (xo_zero a b i).1 h1.1
      intro j hj
      by_cases e : j = i
      · subst e; exact UInt8.xor_eq_zero_iff.1 h1.2
      · exact h2 j (by omega)
    · intro h
      rw [(xo_zero a b i).2 fun j hj => h j (by omega), h i (by omega)]
      simp
theorem xo_iff (a b : List UInt8) (ha : a.length = 16) (hb : b.length = 16) : (xo a b 16 = 0) = (a = b) := by
  rw [eq_iff_iff, xo_zero]
  constructor
  · intro h
    refine List.ext_getElem (by omega) fun i h1 h2 => ?_
    have := h i (by omega)
    simpa [List.getD_eq_getElem?_getD, h1, h2] using this
  · rintro rfl j _; rfl
/-- poly.half -/
theorem half_ (k : Nat) (l : List UInt8) (h : 8 ≤ l.length) (hl : l.length = k) (hk : k ≤ 140737488351232) : Good Try.prog 29 [.c (.ro k (u8s l))] [] (sc (c64 (half l))) [] := by
  refine good_frm 22 Try.func29 rfl rfl rfl rfl rfl rfl ?_
  refine awp_seq ?_
  refine rl ?_
  refine G (q_as (s := sc (c64 0)) ?_)
  refine gend ?_
  refine awp_seq ?_
  refine awp_seq ?_
  refine rl ?_
  refine Mv ?_
  refine G (q_slo_hi (k := 8) ?_)
  refine G (q_leno ?_)
  refine G (q_mv (s := sc (cn 0)) ?_)
  refine gend ?_
  refine awp_block ?_
  refine awp_loop (fun x : {i : Nat // i ≤ 8} => ⟨frm 22 [(2, sc (c64 (hf (l.take 8) x.1))), (6, sc (.ro 8 (u8s (l.take 8)))), (7, sc (cn 8)), (8, sc (cn x.1))], []⟩) (fun x => 8 - x.1) ⟨0, Nat.zero_le _⟩ (sle_sub ⟨rfl, congrArg (fun z => sc (.ro 8 z)) (cut_m (k := .u8) (q := 0) (n := 8)), rfl, rfl, trivial⟩ rfl) fun x => ?_   -- live: [2, 6, 7, 8]
  have h8 : (l.take 8).length = 8 := by rw [List.length_take]; omega
  refine awp_seq ?_
  refine rl ?_
  refine G (q_lssn ?_)
  refine gend ?_
  refine awp_seq ?_
  refine cnd (fun hc1 => ?_) (fun hc1 => ?_); rotate_left
  · refine awp_exit ?_
    rw [show x.1 = 8 from (by have := x.2; omega)]
    refine awp_seq ?_
    refine rl ?_
    refine Mv ?_
    refine As ?_
    refine gend ?_
    refine awp_ret ?_
    exact fp1
  refine awp_skip ?_
  refine awp_seq ?_
  refine awp_block ?_
  refine awp_seq ?_
  refine rl ?_
  refine Mv ?_
  refine G (q_ixo1 ?_)
  refine G (q_ldrd ?_)
  refine As ?_
  refine As ?_
  refine gend ?_
  refine rl ?_
  refine Mv ?_
  refine Mv ?_
  refine G (q_cv8_64 ?_)
  refine Mv ?_
  refine G (q_muln (x := 8) ?_)
  refine G (q_shl64_0 ?_)
  refine G (q_or64 ?_)
  refine As ?_
  refine gend ?_
  refine rl ?_
  refine G (q_addn (y := 1) ?_)
  refine Mv ?_
  refine gend ?_
  exact ⟨⟨x.1 + 1, by omega⟩, by show 8 - (x.1 + 1) < 8 - x.1; omega, sle_sub ⟨rfl, rfl, rfl, rfl, trivial⟩ rfl⟩   -- endloop 1
/-- math/bits.Mul64 -/
theorem mul64 (x y : UInt64) : Good Try.prog 36 [.c (c64 x), .c (c64 y)] [] (.t [.c (c64 (mulhi x y)), .c (c64 (x * y))]) [] := by
  refine good_frm 51 Try.func36 rfl rfl rfl rfl rfl rfl ?_
  refine awp_seq ?_
  refine rl ?_
  refine G (q_as (s := sc (c64 0)) ?_)
  refine G (q_as (s := sc (c64 0)) ?_)
  refine gend ?_
  refine awp_seq ?_
  refine rl ?_
  refine Mv ?_
  refine G (q_and64 (y := 4294967295) ?_)
  refine As ?_
  refine gend ?_
  refine awp_seq ?_
  refine rl ?_
  refine Mv ?_
  refine G (q_shr64_64 (n := 32) ?_)
  refine As ?_
  refine gend ?_
  refine awp_seq ?_
  refine rl ?_
  refine Mv ?_
  refine G (q_and64 (y := 4294967295) ?_)
  refine As ?_
  refine gend ?_
  refine awp_seq ?_
  refine rl ?_
  refine Mv ?_
  refine G (q_shr64_64 (n := 32) ?_)
  refine As ?_
  refine gend ?_
  refine awp_seq ?_
  refine rl ?_
  refine Mv ?_
  refine Mv ?_
  refine G (q_mul64 ?_)
  refine As ?_
  refine gend ?_
  refine awp_seq ?_
  refine rl ?_
  refine Mv ?_
  refine Mv ?_
  refine G (q_mul64 ?_)
  refine Mv ?_
  refine G (q_shr64_64 (n := 32) ?_)
  refine G (q_add64 ?_)
  refine As ?_
  refine gend ?_
  refine awp_seq ?_
  refine rl ?_
  refine Mv ?_
  refine G (q_and64 (y := 4294967295) ?_)
  refine As ?_
  refine gend ?_
  refine awp_seq ?_
  refine rl ?_
  refine Mv ?_
  refine G (q_shr64_64 (n := 32) ?_)
  refine As ?_
  refine gend ?_
  refine awp_seq ?_
  refine rl ?_
  refine Mv ?_
  refine Mv ?_
  refine Mv ?_
  refine G (q_mul64 ?_)
  refine G (q_add64 ?_)
  refine As ?_
  refine gend ?_
  refine awp_seq ?_
  refine rl ?_
  refine Mv ?_
  refine Mv ?_
  refine G (q_mul64 ?_)
  refine Mv ?_
  refine G (q_add64 ?_)
  refine Mv ?_
  refine G (q_shr64_64 (n := 32) ?_)
  refine G (q_add64 ?_)
  refine As ?_
  refine gend ?_
  refine awp_seq ?_
  refine rl ?_
  refine Mv ?_
  refine Mv ?_
  refine G (q_mul64 ?_)
  refine As ?_
  refine gend ?_
  refine awp_ret ?_
  exact fp2
/-- poly.Equal -/
theorem equal (a b : List UInt8) (ha : a.length = 16) (hb : b.length = 16) : Good Try.prog 16 [.a (u8s a), .a (u8s b)] [] (sc (.bool (decide (a = b)))) [] := by
  refine good_frm 22 Try.func16 rfl rfl rfl rfl rfl rfl ?_
  refine awp_seq ?_
  refine rl ?_
  refine G (q_boxa ?_)
  refine G (q_boxa ?_)
  refine As ?_
  refine gend ?_
  refine awp_seq ?_
  refine rl ?_
  refine G (q_as (s := sc (c8 0)) ?_)
  refine gend ?_
  refine awp_seq ?_
  refine awp_seq ?_
  refine rl ?_
  refine G (q_mv (s := sc (cn 0)) ?_)
  refine gend ?_
  refine awp_block ?_
  refine awp_loop (fun x : {i : Nat // i ≤ 16} => ⟨frm 22 [(2, sc (.ptr 0 0)), (3, sc (.ptr 1 0)), (5, sc (c8 (xo a b x.1))), (7, sc (cn x.1))], [some (u8s a), some (u8s b)]⟩) (fun x => 16 - x.1) ⟨0, Nat.zero_le _⟩ (sle_sub ⟨rfl, rfl, rfl, rfl, trivial⟩ rfl) fun x => ?_   -- live: [2, 3, 5, 7]
  refine awp_seq ?_
  refine rl ?_
  refine G (q_lssn (y := 16) ?_)
  refine gend ?_
  refine awp_seq ?_
  refine cnd (fun hc1 => ?_) (fun hc1 => ?_); rotate_left
  · refine awp_exit ?_
    rw [show x.1 = 16 from (by have := x.2; omega)]
    refine awp_seq ?_
    refine rl ?_
    refine Mv ?_
    refine G (q_eql8 (y := 0) ?_)
    refine As ?_
    refine gend ?_
    refine awp_ret ?_
    exact fp1 (hv := by simp only [xo_iff a b ha hb])
  refine awp_skip ?_
  refine awp_seq ?_
  refine awp_block ?_
  refine awp_seq ?_
  refine rl ?_
  refine Mv ?_
  refine As ?_
  refine gend ?_
  refine rdl [] [] [] ?_
  refine Dp (fun _ => q_mv (s := .v (.c _)) ⟨rfl, rfl⟩) ?_
  refine Dp (fun _ => q_mv (s := .v (.c _)) ⟨rfl, rfl⟩) ?_
  refine Dp (fun _ => q_ixp1 ⟨rfl, rfl⟩) ?_
  refine DLp ?_
  refine Dp (fun _ => q_mv (s := .v (.c _)) ⟨rfl, rfl⟩) ?_
  refine Dp (fun _ => q_ixp1 ⟨rfl, rfl⟩) ?_
  refine DLp ?_
  refine Dp (fun _ => q_xor8 ⟨rfl, rfl⟩) ?_
  refine Dp (fun _ => q_or8 ⟨rfl, rfl⟩) ?_
  refine Dp (fun _ => q_as (s := .v (.c _)) ⟨rfl, rfl⟩) ?_
  refine dend ?_
  refine rl ?_
  refine G (q_addn (y := 1) ?_)
  refine Mv ?_
  refine gend ?_
  exact ⟨⟨x.1 + 1, by omega⟩, by show 16 - (x.1 + 1) < 16 - x.1; omega, sle_sub ⟨rfl, rfl, rfl, rfl, trivial⟩ rfl⟩   -- endloop 1
/-- One row of a product: what stands where, and what is carried on. -/
def tstep (a r : List UInt64) (i : Nat) (w : List UInt64) : Nat → List UInt64 × UInt64
  | 0 => (w, 0)
  | j + 1 =>
    ((tstep a r i w j).1.set (i + j) (a.getD i 0 * r.getD j 0 + (tstep a r i w j).1.getD (i + j) 0 + 0 + (tstep a r i w j).2 + 0),
      mulhi (a.getD i 0) (r.getD j 0) + addc (a.getD i 0 * r.getD j 0) ((tstep a r i w j).1.getD (i + j) 0) 0 + addc (a.getD i 0 * r.getD j 0 + (tstep a r i w j).1.getD (i + j) 0 + 0) (tstep a r i w j).2 0)
theorem tstep_len (a r : List UInt64) (i : Nat) (w : List UInt64) : ∀ j, (tstep a r i w j).1.length = w.length
  | 0 => rfl
  | j + 1 => by rw [tstep, List.length_set, tstep_len]
def tout (a r : List UInt64) : Nat → List UInt64
  | 0 => List.replicate 5 0
  | i + 1 => (tstep a r i (tout a r i) 2).1.set (i + 2) (tstep a r i (tout a r i) 2).2
theorem tout_len (a r : List UInt64) : ∀ i, (tout a r i).length = 5
  | 0 => by simp [tout]
  | i + 1 => by rw [tout, List.length_set, tstep_len, tout_len]
def upw (w : List UInt64) : List UInt64 := [shr64n (w.getD 2 0) 2 ||| shl64n (w.getD 3 0) 62, shr64n (w.getD 3 0) 2 ||| shl64n (w.getD 4 0) 62, shr64n (w.getD 4 0) 2]
def low (w : List UInt64) : List UInt64 := [w.getD 0 0, w.getD 1 0, w.getD 2 0 &&& 3]
/-- A sum, word by word. -/
def addp (o : List UInt64) (u : Nat → UInt64) : Nat → List UInt64 × UInt64
  | 0 => (o, 0)
  | i + 1 => ((addp o u i).1.set i ((addp o u i).1.getD i 0 + u i + (addp o u i).2), addc ((addp o u i).1.getD i 0) (u i) (addp o u i).2)
theorem addp_len (o : List UInt64) (u : Nat → UInt64) : ∀ i, (addp o u i).1.length = o.length
  | 0 => rfl
  | i + 1 => by rw [addp, List.length_set, addp_len]
theorem addp_le (o : List UInt64) (u : Nat → UInt64) : ∀ i, (addp o u i).2.toNat ≤ 1
  | 0 => by show (0 : UInt64).toNat ≤ 1; decide
  | i + 1 => by rw [addp]; exact addc_le ..
def addk (o u : List UInt64) : Nat → List UInt64
  | 0 => o
  | k + 1 => (addp (addk o u k) (fun i => u.getD i 0) 3).1
theorem addk_len (o u : List UInt64) : ∀ k, (addk o u k).length = o.length
  | 0 => rfl
  | k + 1 => by rw [addk, addp_len, addk_len]
def times (a r : List UInt64) : List UInt64 := addk (low (tout a r 3)) (upw (tout a r 3)) 5
theorem times_len (a r : List UInt64) : (times a r).length = 3 := by rw [times, addk_len]; rfl
/-- One pass that takes what stands at 2^130 and above down. -/
def sst (a : List UInt64) : List UInt64 :=
  (((a.set 2 (a.getD 2 0 &&& 3)).set 0 ((a.set 2 (a.getD 2 0 &&& 3)).getD 0 0 + 5 * shr64n (a.getD 2 0) 2 + 0)).set 1
    (((a.set 2 (a.getD 2 0 &&& 3)).set 0 ((a.set 2 (a.getD 2 0 &&& 3)).getD 0 0 + 5 * shr64n (a.getD 2 0) 2 + 0)).getD 1 0 + 0 + addc ((a.set 2 (a.getD 2 0 &&& 3)).getD 0 0) (5 * shr64n (a.getD 2 0) 2) 0)).set 2
    ((((a.set 2 (a.getD 2 0 &&& 3)).set 0 ((a.set 2 (a.getD 2 0 &&& 3)).getD 0 0 + 5 * shr64n (a.getD 2 0) 2 + 0)).set 1
    (((a.set 2 (a.getD 2 0 &&& 3)).set 0 ((a.set 2 (a.getD 2 0 &&& 3)).getD 0 0 + 5 * shr64n (a.getD 2 0) 2 + 0)).getD 1 0 + 0 + addc ((a.set 2 (a.getD 2 0 &&& 3)).getD 0 0) (5 * shr64n (a.getD 2 0) 2) 0)).getD 2 0 +
      addc (((a.set 2 (a.getD 2 0 &&& 3)).set 0 ((a.set 2 (a.getD 2 0 &&& 3)).getD 0 0 + 5 * shr64n (a.getD 2 0) 2 + 0)).getD 1 0) 0 (addc ((a.set 2 (a.getD 2 0 &&& 3)).getD 0 0) (5 * shr64n (a.getD 2 0) 2) 0))
theorem sst_len (a : List UInt64) : (sst a).length = a.length := by simp [sst]
def ssts (a : List UInt64) : Nat → List UInt64
  | 0 => a
  | k + 1 => sst (ssts a k)
theorem ssts_len (a : List UInt64) : ∀ k, (ssts a k).length = a.length
  | 0 => rfl
  | k + 1 => by rw [ssts, sst_len, ssts_len]
def sb1 (s : List UInt64) : UInt64 := subb (s.getD 0 0) 18446744073709551611 0
def sb2 (s : List UInt64) : UInt64 := subb (s.getD 1 0) 18446744073709551615 (sb1 s)
def sb3 (s : List UInt64) : UInt64 := subb (s.getD 2 0) 3 (sb2 s)
def slt (s : List UInt64) : List UInt64 := (((List.replicate 3 0).set 0 (s.getD 0 0 - 18446744073709551611 - 0)).set 1 (s.getD 1 0 - 18446744073709551615 - sb1 s)).set 2 (s.getD 2 0 - 3 - sb2 s)
def sfin (s : List UInt64) : List UInt64 := if sb3 s = 0 then slt s else s
def small (a : List UInt64) : List UInt64 := sfin (ssts a 2)
theorem small_len (a : List UInt64) (h : a.length = 3) : (small a).length = 3 := by
  unfold small sfin
  split
  · simp [slt]
  · rw [ssts_len, h]
/-- poly.times -/
theorem times_ (a r : List UInt64) (ha : a.length = 3) (hr : r.length = 2) : Good Try.prog 32 [.a (u64s a), .a (u64s r)] [] (sa (u64s (times a r))) [] := by
  refine good_frm 113 Try.func32 rfl rfl rfl rfl rfl rfl ?_
  refine awp_seq ?_
  refine rl ?_
  refine G (q_boxa ?_)
  refine G (q_boxa ?_)
  refine G (q_al ?_)
  refine gend ?_
  refine awp_seq ?_
  refine rl ?_
  refine G (q_al ?_)
  refine gend ?_
  refine awp_seq ?_
  refine awp_seq ?_
  refine rl ?_
  refine G (q_mv (s := sc (cn 0)) ?_)
  refine gend ?_
  refine awp_block ?_
  refine awp_loop (fun x : {i : Nat // i ≤ 3} => ⟨frm 113 [(2, sc (.ptr 0 0)), (3, sc (.ptr 1 0)), (4, sc (.ptr 2 0)), (5, sc (.ptr 3 0)), (16, sc (cn x.1))], [some (u64s a), some (u64s r), some (u64s (List.replicate 3 0)), some (u64s (tout a r x.1))]⟩) (fun x => 3 - x.1) ⟨0, Nat.zero_le _⟩ (sle_sub ⟨rfl, rfl, rfl, rfl, rfl, trivial⟩ rfl) fun x => ?_   -- live: [2, 3, 5, 16]
  refine awp_seq ?_
  refine rl ?_
  refine G (q_lssn (y := 3) ?_)
  refine gend ?_
  refine awp_seq ?_
  refine cnd (fun hc1 => ?_) (fun hc1 => ?_); rotate_left
  · refine awp_exit ?_
    rw [show x.1 = 3 from (by have := x.2; omega)]
    have hw := tout_len a r 3
    generalize hW : tout a r 3 = W at hw ⊢
    refine awp_seq ?_
    refine rl ?_
    refine G (q_ixp1 ?_)
    refine G (q_ldp ?_)
    refine G (q_shr64_64 (n := 2) ?_)
    refine G (q_ixp1 ?_)
    refine G (q_ldp ?_)
    refine G (q_shl64_64 (n := 62) ?_)
    refine G (q_or64 ?_)
    refine G (q_ixp1 ?_)
    refine G (q_ldp ?_)
    refine G (q_shr64_64 (n := 2) ?_)
    refine G (q_ixp1 ?_)
    refine G (q_ldp ?_)
    refine G (q_shl64_64 (n := 62) ?_)
    refine G (q_or64 ?_)
    refine G (q_ixp1 ?_)
    refine G (q_ldp ?_)
    refine G (q_shr64_64 (n := 2) ?_)
    refine G (q_bla (fkc rfl (et rfl) rfl (Nat.le_of_ble_eq_true rfl) (fkc rfl (et rfl) rfl (Nat.le_of_ble_eq_true rfl) (fkc rfl (et rfl) rfl (Nat.le_of_ble_eq_true rfl) (fk0 ?_)))))
    refine G (q_al ?_)
    refine G0 (q_stw ?_)
    refine gend ?_
    refine awp_seq ?_
    refine rl ?_
    refine G (q_ixp1 ?_)
    refine G (q_ldp ?_)
    refine G (q_ixp1 ?_)
    refine G (q_ldp ?_)
    refine G (q_ixp1 ?_)
    refine G (q_ldp ?_)
    refine G (q_and64 (y := 3) ?_)
    refine G (q_bla (fkc rfl (et rfl) rfl (Nat.le_of_ble_eq_true rfl) (fkc rfl (et rfl) rfl (Nat.le_of_ble_eq_true rfl) (fkc rfl (et rfl) rfl (Nat.le_of_ble_eq_true rfl) (fk0 ?_)))))
    refine G (q_al ?_)
    refine G0 (q_stw ?_)
    refine gend ?_
    refine awp_seq ?_
    refine awp_seq ?_
    refine rl ?_
    refine G (q_mv (s := sc (cn 0)) ?_)
    refine gend ?_
    refine awp_block ?_
    refine awp_loop (fun y : {i : Nat // i ≤ 5} => ⟨frm 113 [(4, sc (.ptr 2 0)), (12, sc (.ptr 4 0)), (13, sc (.ptr 5 0)), (92, sc (cn y.1))], [some (u64s a), some (u64s r), some (u64s (List.replicate 3 0)), some (u64s W), some (u64s (upw W)), some (u64s (addk (low W) (upw W) y.1))]⟩) (fun y => 5 - y.1) ⟨0, Nat.zero_le _⟩ (sle_sub ⟨rfl, rfl, rfl, rfl, trivial⟩ rfl) fun y => ?_   -- live: [12, 13, 92]
    have hb3 : (addk (low W) (upw W) y.1).length = 3 := (addk_len ..).trans rfl
    refine awp_seq ?_
    refine rl ?_
    refine G (q_lssn (y := 5) ?_)
    refine gend ?_
    refine awp_seq ?_
    refine cnd (fun hc2 => ?_) (fun hc2 => ?_); rotate_left
    · refine awp_exit ?_
      rw [show y.1 = 5 from (by have := y.2; omega)]
      have hk : (addk (low W) (upw W) 5).length = 3 := (addk_len ..).trans rfl
      generalize hK : addk (low W) (upw W) 5 = K at hk ⊢
      refine awp_seq ?_
      refine rl ?_
      refine G (q_ldw  ?_ (hl := (mapc_length ..).trans hk))
      refine G0 (q_stw ?_ (hl := (mapc_length ..).trans hk))
      refine gend ?_
      refine awp_ret ?_
      exact fpc (t := 61) (a := 4) (hn := by exact (mapc_length ..).trans hk) (hv := by rw [← hK, ← hW]; rfl)
    refine awp_skip ?_
    refine awp_seq ?_
    refine awp_block ?_
    refine awp_seq ?_
    refine rl ?_
    refine G (q_as (s := sc (c64 0)) ?_)
    refine gend ?_
    refine awp_seq ?_
    refine rl ?_
    refine G (q_mv (s := sc (cn 0)) ?_)
    refine gend ?_
    refine awp_block ?_
    refine awp_loop (fun z : {i : Nat // i ≤ 3} => ⟨frm 113 [(4, sc (.ptr 2 0)), (12, sc (.ptr 4 0)), (13, sc (.ptr 5 0)), (92, sc (cn y.1)), (14, sc (c64 (addp (addk (low W) (upw W) y.1) (fun i => (upw W).getD i 0) z.1).2)), (94, sc (cn z.1))], [some (u64s a), some (u64s r), some (u64s (List.replicate 3 0)), some (u64s W), some (u64s (upw W)), some (u64s (addp (addk (low W) (upw W) y.1) (fun i => (upw W).getD i 0) z.1).1)]⟩) (fun z => 3 - z.1) ⟨0, Nat.zero_le _⟩ (sle_sub ⟨rfl, rfl, rfl, rfl, rfl, rfl, trivial⟩ rfl) fun z => ?_   -- live: [12, 13, 14, 94]
    have hz := (addp_len (addk (low W) (upw W) y.1) (fun i => (upw W).getD i 0) z.1).trans hb3
    have hc := addp_le (addk (low W) (upw W) y.1) (fun i => (upw W).getD i 0) z.1
    have hu : (upw W).length = 3 := rfl
    refine awp_seq ?_
    refine rl ?_
    refine G (q_lssn (y := 3) ?_)
    refine gend ?_
    refine awp_seq ?_
    refine cnd (fun hc3 => ?_) (fun hc3 => ?_); rotate_left
    · refine awp_exit ?_
      rw [show z.1 = 3 from (by have := z.2; omega)]
      refine rl ?_
      refine G (q_addn (y := 1) ?_)
      refine Mv ?_
      refine gend ?_
      exact ⟨⟨y.1 + 1, by omega⟩, by show 5 - (y.1 + 1) < 5 - y.1; omega, sle_sub ⟨rfl, rfl, rfl, rfl, trivial⟩ rfl⟩   -- endloop 2
    refine awp_skip ?_
    refine awp_seq ?_
    refine awp_block ?_
    refine awp_seq ?_
    refine rl ?_
    refine Mv ?_
    refine As ?_
    refine gend ?_
    refine rdl [13] [0, 0, 0, 0, 0, 0, 0, 0, 0, 0, 0, 0, 0, 0, 1] [0, 0, 0, 0, 0, 0, 0, 0, 0, 0, 0, 1, 0, 1, 1] ?_
    refine Dp (fun _ => q_mv (s := .v (.c _)) ⟨rfl, rfl⟩) ?_
    refine Dp (fun _ => q_mv (s := .v (.c _)) ⟨rfl, rfl⟩) ?_
    refine Dp (fun _ => q_ixp1 ⟨rfl, rfl⟩) ?_
    refine DLp ?_
    refine Dp (fun _ => q_mv (s := .v (.c _)) ⟨rfl, rfl⟩) ?_
    refine Dp (fun _ => q_ixp1 ⟨rfl, rfl⟩) ?_
    refine DLp ?_
    refine Dp (fun _ => q_mv (s := .v (.c _)) ⟨rfl, rfl⟩) ?_
    refine Dp (fun _ => q_addx ⟨rfl, rfl⟩) ?_
    refine Dp (fun _ => q_mv (s := .t _) ⟨rfl, rfl⟩) ?_
    refine Dp (fun _ => q_ext (y := .c _) ⟨rfl, rfl⟩) ?_
    refine Dp (fun _ => q_ext (y := .c _) ⟨rfl, rfl⟩) ?_
    refine Dp (fun _ => q_ixp1 ⟨rfl, rfl⟩) ?_
    refine De0 (q_stm (pw ?_))
    refine Dp (fun _ => q_as (s := .v (.c _)) ⟨rfl, rfl⟩) ?_
    refine dend ?_
    refine rl ?_
    refine G (q_addn (y := 1) ?_)
    refine Mv ?_
    refine gend ?_
    exact ⟨⟨z.1 + 1, by omega⟩, by show 3 - (z.1 + 1) < 3 - z.1; omega, sle_sub ⟨rfl, rfl, rfl, rfl, rfl, rfl, trivial⟩ rfl⟩   -- endloop 3
  refine awp_skip ?_
  refine awp_seq ?_
  refine awp_block ?_
  refine awp_seq ?_
  refine rl ?_
  refine Mv ?_
  refine As ?_
  refine gend ?_
  refine awp_seq ?_
  refine rl ?_
  refine G (q_as (s := sc (c64 0)) ?_)
  refine gend ?_
  refine awp_seq ?_
  refine awp_seq ?_
  refine rl ?_
  refine G (q_mv (s := sc (cn 0)) ?_)
  refine gend ?_
  refine awp_block ?_
  refine awp_loop (fun j : {i : Nat // i ≤ 2} => ⟨frm 113 [(2, sc (.ptr 0 0)), (3, sc (.ptr 1 0)), (4, sc (.ptr 2 0)), (5, sc (.ptr 3 0)), (6, sc (cn x.1)), (16, sc (cn x.1)), (7, sc (c64 (tstep a r x.1 (tout a r x.1) j.1).2)), (19, sc (cn j.1))], [some (u64s a), some (u64s r), some (u64s (List.replicate 3 0)), some (u64s (tstep a r x.1 (tout a r x.1) j.1).1)]⟩) (fun j => 2 - j.1) ⟨0, Nat.zero_le _⟩ (sle_sub ⟨rfl, rfl, rfl, rfl, rfl, rfl, rfl, rfl, trivial⟩ rfl) fun j => ?_   -- live: [2, 3, 5, 6, 7, 19]
  have hl := (tstep_len a r x.1 (tout a r x.1) j.1).trans (tout_len a r x.1)
  refine awp_seq ?_
  refine rl ?_
  refine G (q_lssn (y := 2) ?_)
  refine gend ?_
  refine awp_seq ?_
  refine cnd (fun hc4 => ?_) (fun hc4 => ?_); rotate_left
  · refine awp_exit ?_
    rw [show j.1 = 2 from (by have := j.2; omega)]
    have hl := (tstep_len a r x.1 (tout a r x.1) 2).trans (tout_len a r x.1)
    refine rl ?_
    refine Mv ?_
    refine G (q_addn (y := 2) ?_)
    refine Mv ?_
    refine G (q_ixp1 ?_)
    refine G0 (q_stm ?_)
    refine gend ?_
    refine rl ?_
    refine G (q_addn (y := 1) ?_)
    refine Mv ?_
    refine gend ?_
    exact ⟨⟨x.1 + 1, by omega⟩, by show 3 - (x.1 + 1) < 3 - x.1; omega, sle_sub ⟨rfl, rfl, rfl, rfl, rfl, trivial⟩ rfl⟩   -- endloop 1
  refine awp_skip ?_
  refine awp_seq ?_
  refine awp_block ?_
  refine awp_seq ?_
  refine rl ?_
  refine Mv ?_
  refine As ?_
  refine gend ?_
  refine awp_seq ?_
  refine rdl [] [] [] ?_
  refine Dp (fun _ => q_mv (s := .v (.c _)) ⟨rfl, rfl⟩) ?_
  refine Dp (fun _ => q_ixp1 ⟨rfl, rfl⟩) ?_
  refine DLp ?_
  refine Dp (fun _ => q_mv (s := .v (.c _)) ⟨rfl, rfl⟩) ?_
  refine Dp (fun _ => q_ixp1 ⟨rfl, rfl⟩) ?_
  refine DLp ?_
  refine Dp (fun _ => q_callp (mul64 _ _/- math/bits.Mul64 -/) ⟨rfl, rfl⟩) ?_
  refine Dp (fun _ => q_mv (s := .t _) ⟨rfl, rfl⟩) ?_
  refine Dp (fun _ => q_ext (y := .c _) ⟨rfl, rfl⟩) ?_
  refine Dp (fun _ => q_ext (y := .c _) ⟨rfl, rfl⟩) ?_
  refine Dp (fun _ => q_as (s := .v (.c _)) ⟨rfl, rfl⟩) ?_
  refine Dp (fun _ => q_as (s := .v (.c _)) ⟨rfl, rfl⟩) ?_
  refine dend ?_
  refine awp_seq ?_
  refine rl ?_
  refine G (q_as (s := sc (c64 0)) ?_)
  refine gend ?_
  refine awp_seq ?_
  refine rl ?_
  refine Mv ?_
  refine Mv ?_
  refine Mv ?_
  refine G (q_addn ?_)
  refine G (q_ixp1 ?_)
  refine G (q_ldp ?_)
  refine G (q_addx (c := 0) ?_)
  refine G (q_mv (s := .t _) ?_)
  refine G (q_ext (y := .c _) ?_)
  refine G (q_ext (y := .c _) ?_)
  refine As ?_
  refine As ?_
  refine gend ?_
  refine awp_seq ?_
  refine rl ?_
  refine Mv ?_
  refine Mv ?_
  refine G (q_add64 ?_)
  refine As ?_
  refine gend ?_
  refine awp_seq ?_
  refine rl ?_
  refine Mv ?_
  refine Mv ?_
  refine G (q_addx (c := 0) ?_)
  refine G (q_mv (s := .t _) ?_)
  refine G (q_ext (y := .c _) ?_)
  refine G (q_ext (y := .c _) ?_)
  refine As ?_
  refine As ?_
  refine gend ?_
  refine awp_seq ?_
  refine rl ?_
  refine Mv ?_
  refine Mv ?_
  refine G (q_add64 ?_)
  refine As ?_
  refine gend ?_
  refine rl ?_
  refine Mv ?_
  refine Mv ?_
  refine G (q_addn ?_)
  refine Mv ?_
  refine Mv ?_
  refine G (q_ixp1 ?_)
  refine G0 (q_stm ?_)
  refine As ?_
  refine gend ?_
  refine rl ?_
  refine G (q_addn (y := 1) ?_)
  refine Mv ?_
  refine gend ?_
  exact ⟨⟨j.1 + 1, by omega⟩, by show 2 - (j.1 + 1) < 2 - j.1; omega, sle_sub ⟨rfl, rfl, rfl, rfl, rfl, rfl, rfl, rfl, trivial⟩ rfl⟩   -- endloop 4
/-- poly.small -/
theorem small_ (a : List UInt64) (ha : a.length = 3) : Good Try.prog 31 [.a (u64s a)] [] (sa (u64s (small a))) [] := by
  refine good_frm 66 Try.func31 rfl rfl rfl rfl rfl rfl ?_
  refine awp_seq ?_
  refine rl ?_
  refine G (q_boxa ?_)
  refine G (q_al ?_)
  refine gend ?_
  refine awp_seq ?_
  refine awp_seq ?_
  refine rl ?_
  refine G (q_mv (s := sc (cn 0)) ?_)
  refine gend ?_
  refine awp_block ?_
  refine awp_loop (fun x : {i : Nat // i ≤ 2} => ⟨frm 66 [(1, sc (.ptr 0 0)), (2, sc (.ptr 1 0)), (7, sc (cn x.1))], [some (u64s (ssts a x.1)), some (u64s (List.replicate 3 0))]⟩) (fun x => 2 - x.1) ⟨0, Nat.zero_le _⟩ (sle_sub ⟨rfl, rfl, rfl, trivial⟩ rfl) fun x => ?_   -- live: [1, 7]
  have hl := (ssts_len a x.1).trans ha
  refine awp_seq ?_
  refine rl ?_
  refine G (q_lssn (y := 2) ?_)
  refine gend ?_
  refine awp_seq ?_
  refine cnd (fun hc1 => ?_) (fun hc1 => ?_); rotate_left
  · refine awp_exit ?_
    rw [show x.1 = 2 from (by have := x.2; omega)]
    have hl := (ssts_len a 2).trans ha
    generalize hS : ssts a 2 = S at hl ⊢
    refine awp_seq ?_
    refine rl ?_
    refine G (q_al ?_)
    refine gend ?_
    refine awp_seq ?_
    refine rl ?_
    refine G (q_as (s := sc (c64 0)) ?_)
    refine gend ?_
    refine awp_seq ?_
    refine rl ?_
    refine G (q_ixp1 ?_)
    refine G (q_ldp ?_)
    refine G (q_subx (y := 18446744073709551611) (c := 0) ?_)
    refine G (q_mv (s := .t _) ?_)
    refine G (q_ext (y := .c _) ?_)
    refine G (q_ext (y := .c _) ?_)
    refine G (q_ixp1 ?_)
    refine G0 (q_stm ?_)
    refine As ?_
    refine gend ?_
    refine awp_seq ?_
    refine rl ?_
    refine G (q_ixp1 ?_)
    refine G (q_ldp ?_)
    refine Mv ?_
    refine G (q_subx (y := 18446744073709551615) ?_)
    refine G (q_mv (s := .t _) ?_)
    refine G (q_ext (y := .c _) ?_)
    refine G (q_ext (y := .c _) ?_)
    refine G (q_ixp1 ?_)
    refine G0 (q_stm ?_)
    refine As ?_
    refine gend ?_
    refine awp_seq ?_
    refine rl ?_
    refine G (q_ixp1 ?_)
    refine G (q_ldp ?_)
    refine Mv ?_
    refine G (q_subx (y := 3) ?_)
    refine G (q_mv (s := .t _) ?_)
    refine G (q_ext (y := .c _) ?_)
    refine G (q_ext (y := .c _) ?_)
    refine G (q_ixp1 ?_)
    refine G0 (q_stm ?_)
    refine As ?_
    refine gend ?_
    refine awp_seq ?_
    refine awp_seq ?_
    refine rl ?_
    refine Mv ?_
    refine G (q_eql64 (y := 0) ?_)
    refine gend ?_
    refine cnd (fun hc2 => ?_) (fun hc2 => ?_)
    · refine awp_seq ?_
      refine rl ?_
      refine G (q_ldw ?_)
      refine G0 (q_stw ?_)
      refine gend ?_
      refine awp_ret ?_
      exact fpc (t := 61) (a := 2) (hn := by simp only [mapc_length, List.length_set, List.length_replicate]) (hv := by rw [small, hS, sfin, if_pos (show sb3 S = 0 from hc2)]; rfl)
    refine awp_skip ?_
    refine awp_seq ?_
    refine rl ?_
    refine G (q_ldw ?_)
    refine G0 (q_stw ?_)
    refine gend ?_
    refine awp_ret ?_
    exact fpc (t := 61) (a := 2) (hn := by exact (mapc_length ..).trans hl) (hv := by rw [small, hS, sfin, if_neg (show ¬ sb3 S = 0 from hc2)])
  refine awp_skip ?_
  refine awp_seq ?_
  refine awp_block ?_
  refine awp_seq ?_
  refine rl ?_
  refine G (q_ixp1 ?_)
  refine G (q_ldp ?_)
  refine G (q_shr64_64 (n := 2) ?_)
  refine As ?_
  refine gend ?_
  refine awp_seq ?_
  refine rl ?_
  refine G (q_ixp1 ?_)
  refine G (q_ldp ?_)
  refine G (q_and64 (y := 3) ?_)
  refine G (q_ixp1 ?_)
  refine G0 (q_stm ?_)
  refine gend ?_
  refine awp_seq ?_
  refine rl ?_
  refine G (q_as (s := sc (c64 0)) ?_)
  refine gend ?_
  refine awp_seq ?_
  refine rl ?_
  refine G (q_ixp1 ?_)
  refine G (q_ldp ?_)
  refine Mv ?_
  refine G (q_mul64 (x := 5) ?_)
  refine G (q_addx (c := 0) ?_)
  refine G (q_mv (s := .t _) ?_)
  refine G (q_ext (y := .c _) ?_)
  refine G (q_ext (y := .c _) ?_)
  refine G (q_ixp1 ?_)
  refine G0 (q_stm ?_)
  refine As ?_
  refine gend ?_
  refine awp_seq ?_
  refine rl ?_
  refine G (q_ixp1 ?_)
  refine G (q_ldp ?_)
  refine Mv ?_
  refine G (q_addx (y := 0) ?_)
  refine G (q_mv (s := .t _) ?_)
  refine G (q_ext (y := .c _) ?_)
  refine G (q_ext (y := .c _) ?_)
  refine G (q_ixp1 ?_)
  refine G0 (q_stm ?_)
  refine As ?_
  refine gend ?_
  refine rl ?_
  refine G (q_ixp1 ?_)
  refine G (q_ldp ?_)
  refine Mv ?_
  refine G (q_add64 ?_)
  refine G (q_ixp1 ?_)
  refine G0 (q_stm ?_)
  refine gend ?_
  refine rl ?_
  refine G (q_addn (y := 1) ?_)
  refine Mv ?_
  refine gend ?_
  exact ⟨⟨x.1 + 1, by omega⟩, by show 2 - (x.1 + 1) < 2 - x.1; omega, sle_sub ⟨rfl, rfl, rfl, trivial⟩ rfl⟩   -- endloop 1
end Go.Proofs.Ytcihpgdmldkjfaa.Po

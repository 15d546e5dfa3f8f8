/- Texts that the proof stands on, put together: the abstract machine, and what functions do over it. -/
import Derived.Test.YtklcckngmmklhaaOutCarriesc
/- What functions of the program do, walked over the abstract machine. -/
namespace Go.Proofs.Ytklcckngmmklhaa.Po
open Go Go.Abs Go.Proofs
set_option maxRecDepth 20000
def hf (l : List UInt8) : Nat → UInt64
  | 0 => 0
  | i + 1 => hf l i ||| shl64n (l.getD i 0).toUInt64 (8 * i)
abbrev half (l : List UInt8) : UInt64 := hf (l.take 8) 8
def xo (a b : List UInt8) : Nat → UInt8
  | 0 => 0
  | i + 1 => xo a b i ||| (a.getD i 0 ^^^ b.getD i 0)
theorem xo_zero (a b : List UInt8) : ∀ i, xo a b i = 0 ↔ ∀ j, j < i → a.getD j 0 = b.getD j 0
  | 0 => by simp [xo]
  | i + 1 => by
    rw [xo]
    constructor
    · intro h
      have h1 := UInt8.or_eq_zero_iff.1 h
      have h2 := (xo_zero a b i).1 h1.1
      intro j hj
      by_cases e : j = i
      · subst e; exact UInt8.xor_eq_zero_iff.1 h1.2
      · exact h2 j (by omega)
    · intro h
      rw [(xo_zero a b i).2 fun j hj => h j (by omega), h i (by omega)]
      simp
theorem xo_iff (a b : List UInt8) (ha : a.length = 16) (hb : b.length = 16) : (xo a b 16 = 0) = (a = b) := by
  rw [eq_iff_iff, xo_zero]
  constructor
  · intro h
    refine List.ext_getElem (by omega) fun i h1 h2 => ?_
    have := h i (by omega)
    simpa [List.getD_eq_getElem?_getD, h1, h2] using this
  · rintro rfl j _; rfl
theorem half_ (k : Nat) (l : List UInt8) (h : 8 ≤ l.length) (hl : l.length = k) (hk : k ≤ 140737488351232) : Good Try.prog 67 [.c (.ro k (u8s l))] [] (sc (c64 (half l))) [] := by
  refine good_frm 22 Try.func67 rfl rfl rfl rfl rfl rfl ?_
  refine awp_seq ?_
  refine rl ?_
  refine G (q_as (s := sc (c64 0)) ?_)
  refine gend ?_
  refine awp_seq ?_
  refine awp_seq ?_
  refine rl ?_
  refine Mv ?_
  refine G (q_slo_hi (k := 8) ?_)
  refine G (q_leno ?_)
  refine G (q_mv (s := sc (cn 0)) ?_)
  refine gend ?_
  refine awp_block ?_
  refine awp_loop (fun x : {i : Nat // i ≤ 8} => ⟨frm 22 [(2, sc (c64 (hf (l.take 8) x.1))), (6, sc (.ro 8 (u8s (l.take 8)))), (7, sc (cn 8)), (8, sc (cn x.1))], []⟩) (fun x => 8 - x.1) ⟨0, Nat.zero_le _⟩ (sle_sub ⟨rfl, congrArg (fun z => sc (.ro 8 z)) (cut_m (k := .u8) (q := 0) (n := 8)), rfl, rfl, trivial⟩ rfl) fun x => ?_
  have h8 : (l.take 8).length = 8 := by rw [List.length_take]; omega
  refine awp_seq ?_
  refine rl ?_
  refine G (q_lssn ?_)
  refine gend ?_
  refine awp_seq ?_
  refine cnd (fun hc1 => ?_) (fun hc1 => ?_); rotate_left
  · refine awp_exit ?_
    rw [show x.1 = 8 from (by have := x.2; omega)]
    refine awp_seq ?_
    refine rl ?_
    refine Mv ?_
    refine As ?_
    refine gend ?_
    refine awp_ret ?_
    exact fp1
  refine awp_skip ?_
  refine awp_seq ?_
  refine awp_block ?_
  refine awp_seq ?_
  refine rl ?_
  refine Mv ?_
  refine G (q_ixo1 ?_)
  refine G (q_ldrd ?_)
  refine As ?_
  refine As ?_
  refine gend ?_
  refine rl ?_
  refine Mv ?_
  refine Mv ?_
  refine G (q_cv8_64 ?_)
  refine Mv ?_
  refine G (q_muln (x := 8) ?_)
  refine G (q_shl64_0 ?_)
  refine G (q_or64 ?_)
  refine As ?_
  refine gend ?_
  refine rl ?_
  refine G (q_addn (y := 1) ?_)
  refine Mv ?_
  refine gend ?_
  exact ⟨⟨x.1 + 1, by omega⟩, by show 8 - (x.1 + 1) < 8 - x.1; omega, sle_sub ⟨rfl, rfl, rfl, rfl, trivial⟩ rfl⟩
theorem mul64 (x y : UInt64) : Good Try.prog 74 [.c (c64 x), .c (c64 y)] [] (.t [.c (c64 (mulhi x y)), .c (c64 (x * y))]) [] := by
  refine good_frm 51 Try.func74 rfl rfl rfl rfl rfl rfl ?_
  refine awp_seq ?_
  refine rl ?_
  refine G (q_as (s := sc (c64 0)) ?_)
  refine G (q_as (s := sc (c64 0)) ?_)
  refine gend ?_
  refine awp_seq ?_
  refine rl ?_
  refine Mv ?_
  refine G (q_and64 (y := 4294967295) ?_)
  refine As ?_
  refine gend ?_
  refine awp_seq ?_
  refine rl ?_
  refine Mv ?_
  refine G (q_shr64_64 (n := 32) ?_)
  refine As ?_
  refine gend ?_
  refine awp_seq ?_
  refine rl ?_
  refine Mv ?_
  refine G (q_and64 (y := 4294967295) ?_)
  refine As ?_
  refine gend ?_
  refine awp_seq ?_
  refine rl ?_
  refine Mv ?_
  refine G (q_shr64_64 (n := 32) ?_)
  refine As ?_
  refine gend ?_
  refine awp_seq ?_
  refine rl ?_
  refine Mv ?_
  refine Mv ?_
  refine G (q_mul64 ?_)
  refine As ?_
  refine gend ?_
  refine awp_seq ?_
  refine rl ?_
  refine Mv ?_
  refine Mv ?_
  refine G (q_mul64 ?_)
  refine Mv ?_
  refine G (q_shr64_64 (n := 32) ?_)
  refine G (q_add64 ?_)
  refine As ?_
  refine gend ?_
  refine awp_seq ?_
  refine rl ?_
  refine Mv ?_
  refine G (q_and64 (y := 4294967295) ?_)
  refine As ?_
  refine gend ?_
  refine awp_seq ?_
  refine rl ?_
  refine Mv ?_
  refine G (q_shr64_64 (n := 32) ?_)
  refine As ?_
  refine gend ?_
  refine awp_seq ?_
  refine rl ?_
  refine Mv ?_
  refine Mv ?_
  refine Mv ?_
  refine G (q_mul64 ?_)
  refine G (q_add64 ?_)
  refine As ?_
  refine gend ?_
  refine awp_seq ?_
  refine rl ?_
  refine Mv ?_
  refine Mv ?_
  refine G (q_mul64 ?_)
  refine Mv ?_
  refine G (q_add64 ?_)
  refine Mv ?_
  refine G (q_shr64_64 (n := 32) ?_)
  refine G (q_add64 ?_)
  refine As ?_
  refine gend ?_
  refine awp_seq ?_
  refine rl ?_
  refine Mv ?_
  refine Mv ?_
  refine G (q_mul64 ?_)
  refine As ?_
  refine gend ?_
  refine awp_ret ?_
  exact fp2
theorem equal (a b : List UInt8) (ha : a.length = 16) (hb : b.length = 16) : Good Try.prog 56 [.a (u8s a), .a (u8s b)] [] (sc (.bool (decide (a = b)))) [] := by
  refine good_frm 22 Try.func56 rfl rfl rfl rfl rfl rfl ?_
  refine awp_seq ?_
  refine rl ?_
  refine G (q_boxa ?_)
  refine G (q_boxa ?_)
  refine As ?_
  refine gend ?_
  refine awp_seq ?_
  refine rl ?_
  refine G (q_as (s := sc (c8 0)) ?_)
  refine gend ?_
  refine awp_seq ?_
  refine awp_seq ?_
  refine rl ?_
  refine G (q_mv (s := sc (cn 0)) ?_)
  refine gend ?_
  refine awp_block ?_
  refine awp_loop (fun x : {i : Nat // i ≤ 16} => ⟨frm 22 [(2, sc (.ptr 0 0)), (3, sc (.ptr 1 0)), (5, sc (c8 (xo a b x.1))), (7, sc (cn x.1))], [some (u8s a), some (u8s b)]⟩) (fun x => 16 - x.1) ⟨0, Nat.zero_le _⟩ (sle_sub ⟨rfl, rfl, rfl, rfl, trivial⟩ rfl) fun x => ?_
  refine awp_seq ?_
  refine rl ?_
  refine G (q_lssn (y := 16) ?_)
  refine gend ?_
  refine awp_seq ?_
  refine cnd (fun hc1 => ?_) (fun hc1 => ?_); rotate_left
  · refine awp_exit ?_
    rw [show x.1 = 16 from (by have := x.2; omega)]
    refine awp_seq ?_
    refine rl ?_
    refine Mv ?_
    refine G (q_eql8 (y := 0) ?_)
    refine As ?_
    refine gend ?_
    refine awp_ret ?_
    exact fp1 (hv := by simp only [xo_iff a b ha hb])
  refine awp_skip ?_
  refine awp_seq ?_
  refine awp_block ?_
  refine awp_seq ?_
  refine rl ?_
  refine Mv ?_
  refine As ?_
  refine gend ?_
  refine rdl [] [] [] ?_
  refine Dp (fun _ => q_mv (s := .v (.c _)) ⟨rfl, rfl⟩) ?_
  refine Dp (fun _ => q_mv (s := .v (.c _)) ⟨rfl, rfl⟩) ?_
  refine Dp (fun _ => q_ixp1 ⟨rfl, rfl⟩) ?_
  refine DLp ?_
  refine Dp (fun _ => q_mv (s := .v (.c _)) ⟨rfl, rfl⟩) ?_
  refine Dp (fun _ => q_ixp1 ⟨rfl, rfl⟩) ?_
  refine DLp ?_
  refine Dp (fun _ => q_xor8 ⟨rfl, rfl⟩) ?_
  refine Dp (fun _ => q_or8 ⟨rfl, rfl⟩) ?_
  refine Dp (fun _ => q_as (s := .v (.c _)) ⟨rfl, rfl⟩) ?_
  refine dend ?_
  refine rl ?_
  refine G (q_addn (y := 1) ?_)
  refine Mv ?_
  refine gend ?_
  exact ⟨⟨x.1 + 1, by omega⟩, by show 16 - (x.1 + 1) < 16 - x.1; omega, sle_sub ⟨rfl, rfl, rfl, rfl, trivial⟩ rfl⟩
def tstep (a r : List UInt64) (i : Nat) (w : List UInt64) : Nat → List UInt64 × UInt64
  | 0 => (w, 0)
  | j + 1 =>
    ((tstep a r i w j).1.set (i + j) (a.getD i 0 * r.getD j 0 + (tstep a r i w j).1.getD (i + j) 0 + 0 + (tstep a r i w j).2 + 0),
      mulhi (a.getD i 0) (r.getD j 0) + addc (a.getD i 0 * r.getD j 0) ((tstep a r i w j).1.getD (i + j) 0) 0 + addc (a.getD i 0 * r.getD j 0 + (tstep a r i w j).1.getD (i + j) 0 + 0) (tstep a r i w j).2 0)
theorem tstep_len (a r : List UInt64) (i : Nat) (w : List UInt64) : ∀ j, (tstep a r i w j).1.length = w.length
  | 0 => rfl
  | j + 1 => by rw [tstep, List.length_set, tstep_len]
def tout (a r : List UInt64) : Nat → List UInt64
  | 0 => List.replicate 5 0
  | i + 1 => (tstep a r i (tout a r i) 2).1.set (i + 2) (tstep a r i (tout a r i) 2).2
theorem tout_len (a r : List UInt64) : ∀ i, (tout a r i).length = 5
  | 0 => by simp [tout]
  | i + 1 => by rw [tout, List.length_set, tstep_len, tout_len]
def upw (w : List UInt64) : List UInt64 := [shr64n (w.getD 2 0) 2 ||| shl64n (w.getD 3 0) 62, shr64n (w.getD 3 0) 2 ||| shl64n (w.getD 4 0) 62, shr64n (w.getD 4 0) 2]
def low (w : List UInt64) : List UInt64 := [w.getD 0 0, w.getD 1 0, w.getD 2 0 &&& 3]
def addp (o : List UInt64) (u : Nat → UInt64) : Nat → List UInt64 × UInt64
  | 0 => (o, 0)
  | i + 1 => ((addp o u i).1.set i ((addp o u i).1.getD i 0 + u i + (addp o u i).2), addc ((addp o u i).1.getD i 0) (u i) (addp o u i).2)
theorem addp_len (o : List UInt64) (u : Nat → UInt64) : ∀ i, (addp o u i).1.length = o.length
  | 0 => rfl
  | i + 1 => by rw [addp, List.length_set, addp_len]
theorem addp_le (o : List UInt64) (u : Nat → UInt64) : ∀ i, (addp o u i).2.toNat ≤ 1
  | 0 => by show (0 : UInt64).toNat ≤ 1; decide
  | i + 1 => by rw [addp]; exact addc_le ..
def addk (o u : List UInt64) : Nat → List UInt64
  | 0 => o
  | k + 1 => (addp (addk o u k) (fun i => u.getD i 0) 3).1
theorem addk_len (o u : List UInt64) : ∀ k, (addk o u k).length = o.length
  | 0 => rfl
  | k + 1 => by rw [addk, addp_len, addk_len]
def times (a r : List UInt64) : List UInt64 := addk (low (tout a r 3)) (upw (tout a r 3)) 5
theorem times_len (a r : List UInt64) : (times a r).length = 3 := by rw [times, addk_len]; rfl
def sst (a : List UInt64) : List UInt64 :=
  (((a.set 2 (a.getD 2 0 &&& 3)).set 0 ((a.set 2 (a.getD 2 0 &&& 3)).getD 0 0 + 5 * shr64n (a.getD 2 0) 2 + 0)).set 1
    (((a.set 2 (a.getD 2 0 &&& 3)).set 0 ((a.set 2 (a.getD 2 0 &&& 3)).getD 0 0 + 5 * shr64n (a.getD 2 0) 2 + 0)).getD 1 0 + 0 + addc ((a.set 2 (a.getD 2 0 &&& 3)).getD 0 0) (5 * shr64n (a.getD 2 0) 2) 0)).set 2
    ((((a.set 2 (a.getD 2 0 &&& 3)).set 0 ((a.set 2 (a.getD 2 0 &&& 3)).getD 0 0 + 5 * shr64n (a.getD 2 0) 2 + 0)).set 1
    (((a.set 2 (a.getD 2 0 &&& 3)).set 0 ((a.set 2 (a.getD 2 0 &&& 3)).getD 0 0 + 5 * shr64n (a.getD 2 0) 2 + 0)).getD 1 0 + 0 + addc ((a.set 2 (a.getD 2 0 &&& 3)).getD 0 0) (5 * shr64n (a.getD 2 0) 2) 0)).getD 2 0 +
      addc (((a.set 2 (a.getD 2 0 &&& 3)).set 0 ((a.set 2 (a.getD 2 0 &&& 3)).getD 0 0 + 5 * shr64n (a.getD 2 0) 2 + 0)).getD 1 0) 0 (addc ((a.set 2 (a.getD 2 0 &&& 3)).getD 0 0) (5 * shr64n (a.getD 2 0) 2) 0))
theorem sst_len (a : List UInt64) : (sst a).length = a.length := by simp [sst]
def ssts (a : List UInt64) : Nat → List UInt64
  | 0 => a
  | k + 1 => sst (ssts a k)
theorem ssts_len (a : List UInt64) : ∀ k, (ssts a k).length = a.length
  | 0 => rfl
  | k + 1 => by rw [ssts, sst_len, ssts_len]
def sb1 (s : List UInt64) : UInt64 := subb (s.getD 0 0) 18446744073709551611 0
def sb2 (s : List UInt64) : UInt64 := subb (s.getD 1 0) 18446744073709551615 (sb1 s)
def sb3 (s : List UInt64) : UInt64 := subb (s.getD 2 0) 3 (sb2 s)
def slt (s : List UInt64) : List UInt64 := (((List.replicate 3 0).set 0 (s.getD 0 0 - 18446744073709551611 - 0)).set 1 (s.getD 1 0 - 18446744073709551615 - sb1 s)).set 2 (s.getD 2 0 - 3 - sb2 s)
def sfin (s : List UInt64) : List UInt64 := if sb3 s = 0 then slt s else s
def small (a : List UInt64) : List UInt64 := sfin (ssts a 2)
theorem small_len (a : List UInt64) (h : a.length = 3) : (small a).length = 3 := by
  unfold small sfin
  split
  · simp [slt]
  · rw [ssts_len, h]
theorem times_ (a r : List UInt64) (ha : a.length = 3) (hr : r.length = 2) : Good Try.prog 70 [.a (u64s a), .a (u64s r)] [] (sa (u64s (times a r))) [] := by
  refine good_frm 113 Try.func70 rfl rfl rfl rfl rfl rfl ?_
  refine awp_seq ?_
  refine rl ?_
  refine G (q_boxa ?_)
  refine G (q_boxa ?_)
  refine G (q_al ?_)
  refine gend ?_
  refine awp_seq ?_
  refine rl ?_
  refine G (q_al ?_)
  refine gend ?_
  refine awp_seq ?_
  refine awp_seq ?_
  refine rl ?_
  refine G (q_mv (s := sc (cn 0)) ?_)
  refine gend ?_
  refine awp_block ?_
  refine awp_loop (fun x : {i : Nat // i ≤ 3} => ⟨frm 113 [(2, sc (.ptr 0 0)), (3, sc (.ptr 1 0)), (4, sc (.ptr 2 0)), (5, sc (.ptr 3 0)), (16, sc (cn x.1))], [some (u64s a), some (u64s r), some (u64s (List.replicate 3 0)), some (u64s (tout a r x.1))]⟩) (fun x => 3 - x.1) ⟨0, Nat.zero_le _⟩ (sle_sub ⟨rfl, rfl, rfl, rfl, rfl, trivial⟩ rfl) fun x => ?_
  refine awp_seq ?_
  refine rl ?_
  refine G (q_lssn (y := 3) ?_)
  refine gend ?_
  refine awp_seq ?_
  refine cnd (fun hc1 => ?_) (fun hc1 => ?_); rotate_left
  · refine awp_exit ?_
    rw [show x.1 = 3 from (by have := x.2; omega)]
    have hw := tout_len a r 3
    generalize hW : tout a r 3 = W at hw ⊢
    refine awp_seq ?_
    refine rl ?_
    refine G (q_ixp1 ?_)
    refine G (q_ldp ?_)
    refine G (q_shr64_64 (n := 2) ?_)
    refine G (q_ixp1 ?_)
    refine G (q_ldp ?_)
    refine G (q_shl64_64 (n := 62) ?_)
    refine G (q_or64 ?_)
    refine G (q_ixp1 ?_)
    refine G (q_ldp ?_)
    refine G (q_shr64_64 (n := 2) ?_)
    refine G (q_ixp1 ?_)
    refine G (q_ldp ?_)
    refine G (q_shl64_64 (n := 62) ?_)
    refine G (q_or64 ?_)
    refine G (q_ixp1 ?_)
    refine G (q_ldp ?_)
    refine G (q_shr64_64 (n := 2) ?_)
    refine G (q_bla (fkc rfl (et rfl) rfl (Nat.le_of_ble_eq_true rfl) (fkc rfl (et rfl) rfl (Nat.le_of_ble_eq_true rfl) (fkc rfl (et rfl) rfl (Nat.le_of_ble_eq_true rfl) (fk0 ?_)))))
    refine G (q_al ?_)
    refine G0 (q_stw ?_)
    refine gend ?_
    refine awp_seq ?_
    refine rl ?_
    refine G (q_ixp1 ?_)
    refine G (q_ldp ?_)
    refine G (q_ixp1 ?_)
    refine G (q_ldp ?_)
    refine G (q_ixp1 ?_)
    refine G (q_ldp ?_)
    refine G (q_and64 (y := 3) ?_)
    refine G (q_bla (fkc rfl (et rfl) rfl (Nat.le_of_ble_eq_true rfl) (fkc rfl (et rfl) rfl (Nat.le_of_ble_eq_true rfl) (fkc rfl (et rfl) rfl (Nat.le_of_ble_eq_true rfl) (fk0 ?_)))))
    refine G (q_al ?_)
    refine G0 (q_stw ?_)
    refine gend ?_
    refine awp_seq ?_
    refine awp_seq ?_
    refine rl ?_
    refine G (q_mv (s := sc (cn 0)) ?_)
    refine gend ?_
    refine awp_block ?_
    refine awp_loop (fun y : {i : Nat // i ≤ 5} => ⟨frm 113 [(4, sc (.ptr 2 0)), (12, sc (.ptr 4 0)), (13, sc (.ptr 5 0)), (92, sc (cn y.1))], [some (u64s a), some (u64s r), some (u64s (List.replicate 3 0)), some (u64s W), some (u64s (upw W)), some (u64s (addk (low W) (upw W) y.1))]⟩) (fun y => 5 - y.1) ⟨0, Nat.zero_le _⟩ (sle_sub ⟨rfl, rfl, rfl, rfl, trivial⟩ rfl) fun y => ?_
    have hb3 : (addk (low W) (upw W) y.1).length = 3 := (addk_len ..).trans rfl
    refine awp_seq ?_
    refine rl ?_
    refine G (q_lssn (y := 5) ?_)
    refine gend ?_
    refine awp_seq ?_
    refine cnd (fun hc2 => ?_) (fun hc2 => ?_); rotate_left
    · refine awp_exit ?_
      rw [show y.1 = 5 from (by have := y.2; omega)]
      have hk : (addk (low W) (upw W) 5).length = 3 := (addk_len ..).trans rfl
      generalize hK : addk (low W) (upw W) 5 = K at hk ⊢
      refine awp_seq ?_
      refine rl ?_
      refine G (q_ldw  ?_ (hl := (mapc_length ..).trans hk))
      refine G0 (q_stw ?_ (hl := (mapc_length ..).trans hk))
      refine gend ?_
      refine awp_ret ?_
      exact fpc (t := 117) (a := 4) (hn := by exact (mapc_length ..).trans hk) (hv := by rw [← hK, ← hW]; rfl)
    refine awp_skip ?_
    refine awp_seq ?_
    refine awp_block ?_
    refine awp_seq ?_
    refine rl ?_
    refine G (q_as (s := sc (c64 0)) ?_)
    refine gend ?_
    refine awp_seq ?_
    refine rl ?_
    refine G (q_mv (s := sc (cn 0)) ?_)
    refine gend ?_
    refine awp_block ?_
    refine awp_loop (fun z : {i : Nat // i ≤ 3} => ⟨frm 113 [(4, sc (.ptr 2 0)), (12, sc (.ptr 4 0)), (13, sc (.ptr 5 0)), (92, sc (cn y.1)), (14, sc (c64 (addp (addk (low W) (upw W) y.1) (fun i => (upw W).getD i 0) z.1).2)), (94, sc (cn z.1))], [some (u64s a), some (u64s r), some (u64s (List.replicate 3 0)), some (u64s W), some (u64s (upw W)), some (u64s (addp (addk (low W) (upw W) y.1) (fun i => (upw W).getD i 0) z.1).1)]⟩) (fun z => 3 - z.1) ⟨0, Nat.zero_le _⟩ (sle_sub ⟨rfl, rfl, rfl, rfl, rfl, rfl, trivial⟩ rfl) fun z => ?_
    have hz := (addp_len (addk (low W) (upw W) y.1) (fun i => (upw W).getD i 0) z.1).trans hb3
    have hc := addp_le (addk (low W) (upw W) y.1) (fun i => (upw W).getD i 0) z.1
    have hu : (upw W).length = 3 := rfl
    refine awp_seq ?_
    refine rl ?_
    refine G (q_lssn (y := 3) ?_)
    refine gend ?_
    refine awp_seq ?_
    refine cnd (fun hc3 => ?_) (fun hc3 => ?_); rotate_left
    · refine awp_exit ?_
      rw [show z.1 = 3 from (by have := z.2; omega)]
      refine rl ?_
      refine G (q_addn (y := 1) ?_)
      refine Mv ?_
      refine gend ?_
      exact ⟨⟨y.1 + 1, by omega⟩, by show 5 - (y.1 + 1) < 5 - y.1; omega, sle_sub ⟨rfl, rfl, rfl, rfl, trivial⟩ rfl⟩
    refine awp_skip ?_
    refine awp_seq ?_
    refine awp_block ?_
    refine awp_seq ?_
    refine rl ?_
    refine Mv ?_
    refine As ?_
    refine gend ?_
    refine rdl [13] [0, 0, 0, 0, 0, 0, 0, 0, 0, 0, 0, 0, 0, 0, 1] [0, 0, 0, 0, 0, 0, 0, 0, 0, 0, 0, 1, 0, 1, 1] ?_
    refine Dp (fun _ => q_mv (s := .v (.c _)) ⟨rfl, rfl⟩) ?_
    refine Dp (fun _ => q_mv (s := .v (.c _)) ⟨rfl, rfl⟩) ?_
    refine Dp (fun _ => q_ixp1 ⟨rfl, rfl⟩) ?_
    refine DLp ?_
    refine Dp (fun _ => q_mv (s := .v (.c _)) ⟨rfl, rfl⟩) ?_
    refine Dp (fun _ => q_ixp1 ⟨rfl, rfl⟩) ?_
    refine DLp ?_
    refine Dp (fun _ => q_mv (s := .v (.c _)) ⟨rfl, rfl⟩) ?_
    refine Dp (fun _ => q_addx ⟨rfl, rfl⟩) ?_
    refine Dp (fun _ => q_mv (s := .t _) ⟨rfl, rfl⟩) ?_
    refine Dp (fun _ => q_ext (y := .c _) ⟨rfl, rfl⟩) ?_
    refine Dp (fun _ => q_ext (y := .c _) ⟨rfl, rfl⟩) ?_
    refine Dp (fun _ => q_ixp1 ⟨rfl, rfl⟩) ?_
    refine De0 (q_stm (pw ?_))
    refine Dp (fun _ => q_as (s := .v (.c _)) ⟨rfl, rfl⟩) ?_
    refine dend ?_
    refine rl ?_
    refine G (q_addn (y := 1) ?_)
    refine Mv ?_
    refine gend ?_
    exact ⟨⟨z.1 + 1, by omega⟩, by show 3 - (z.1 + 1) < 3 - z.1; omega, sle_sub ⟨rfl, rfl, rfl, rfl, rfl, rfl, trivial⟩ rfl⟩
  refine awp_skip ?_
  refine awp_seq ?_
  refine awp_block ?_
  refine awp_seq ?_
  refine rl ?_
  refine Mv ?_
  refine As ?_
  refine gend ?_
  refine awp_seq ?_
  refine rl ?_
  refine G (q_as (s := sc (c64 0)) ?_)
  refine gend ?_
  refine awp_seq ?_
  refine awp_seq ?_
  refine rl ?_
  refine G (q_mv (s := sc (cn 0)) ?_)
  refine gend ?_
  refine awp_block ?_
  refine awp_loop (fun j : {i : Nat // i ≤ 2} => ⟨frm 113 [(2, sc (.ptr 0 0)), (3, sc (.ptr 1 0)), (4, sc (.ptr 2 0)), (5, sc (.ptr 3 0)), (6, sc (cn x.1)), (16, sc (cn x.1)), (7, sc (c64 (tstep a r x.1 (tout a r x.1) j.1).2)), (19, sc (cn j.1))], [some (u64s a), some (u64s r), some (u64s (List.replicate 3 0)), some (u64s (tstep a r x.1 (tout a r x.1) j.1).1)]⟩) (fun j => 2 - j.1) ⟨0, Nat.zero_le _⟩ (sle_sub ⟨rfl, rfl, rfl, rfl, rfl, rfl, rfl, rfl, trivial⟩ rfl) fun j => ?_
  have hl := (tstep_len a r x.1 (tout a r x.1) j.1).trans (tout_len a r x.1)
  refine awp_seq ?_
  refine rl ?_
  refine G (q_lssn (y := 2) ?_)
  refine gend ?_
  refine awp_seq ?_
  refine cnd (fun hc4 => ?_) (fun hc4 => ?_); rotate_left
  · refine awp_exit ?_
    rw [show j.1 = 2 from (by have := j.2; omega)]
    have hl := (tstep_len a r x.1 (tout a r x.1) 2).trans (tout_len a r x.1)
    refine rl ?_
    refine Mv ?_
    refine G (q_addn (y := 2) ?_)
    refine Mv ?_
    refine G (q_ixp1 ?_)
    refine G0 (q_stm ?_)
    refine gend ?_
    refine rl ?_
    refine G (q_addn (y := 1) ?_)
    refine Mv ?_
    refine gend ?_
    exact ⟨⟨x.1 + 1, by omega⟩, by show 3 - (x.1 + 1) < 3 - x.1; omega, sle_sub ⟨rfl, rfl, rfl, rfl, rfl, trivial⟩ rfl⟩
  refine awp_skip ?_
  refine awp_seq ?_
  refine awp_block ?_
  refine awp_seq ?_
  refine rl ?_
  refine Mv ?_
  refine As ?_
  refine gend ?_
  refine awp_seq ?_
  refine rdl [] [] [] ?_
  refine Dp (fun _ => q_mv (s := .v (.c _)) ⟨rfl, rfl⟩) ?_
  refine Dp (fun _ => q_ixp1 ⟨rfl, rfl⟩) ?_
  refine DLp ?_
  refine Dp (fun _ => q_mv (s := .v (.c _)) ⟨rfl, rfl⟩) ?_
  refine Dp (fun _ => q_ixp1 ⟨rfl, rfl⟩) ?_
  refine DLp ?_
  refine Dp (fun _ => q_callp (mul64 _ _/- math/bits.Mul64 -/) ⟨rfl, rfl⟩) ?_
  refine Dp (fun _ => q_mv (s := .t _) ⟨rfl, rfl⟩) ?_
  refine Dp (fun _ => q_ext (y := .c _) ⟨rfl, rfl⟩) ?_
  refine Dp (fun _ => q_ext (y := .c _) ⟨rfl, rfl⟩) ?_
  refine Dp (fun _ => q_as (s := .v (.c _)) ⟨rfl, rfl⟩) ?_
  refine Dp (fun _ => q_as (s := .v (.c _)) ⟨rfl, rfl⟩) ?_
  refine dend ?_
  refine awp_seq ?_
  refine rl ?_
  refine G (q_as (s := sc (c64 0)) ?_)
  refine gend ?_
  refine awp_seq ?_
  refine rl ?_
  refine Mv ?_
  refine Mv ?_
  refine Mv ?_
  refine G (q_addn ?_)
  refine G (q_ixp1 ?_)
  refine G (q_ldp ?_)
  refine G (q_addx (c := 0) ?_)
  refine G (q_mv (s := .t _) ?_)
  refine G (q_ext (y := .c _) ?_)
  refine G (q_ext (y := .c _) ?_)
  refine As ?_
  refine As ?_
  refine gend ?_
  refine awp_seq ?_
  refine rl ?_
  refine Mv ?_
  refine Mv ?_
  refine G (q_add64 ?_)
  refine As ?_
  refine gend ?_
  refine awp_seq ?_
  refine rl ?_
  refine Mv ?_
  refine Mv ?_
  refine G (q_addx (c := 0) ?_)
  refine G (q_mv (s := .t _) ?_)
  refine G (q_ext (y := .c _) ?_)
  refine G (q_ext (y := .c _) ?_)
  refine As ?_
  refine As ?_
  refine gend ?_
  refine awp_seq ?_
  refine rl ?_
  refine Mv ?_
  refine Mv ?_
  refine G (q_add64 ?_)
  refine As ?_
  refine gend ?_
  refine rl ?_
  refine Mv ?_
  refine Mv ?_
  refine G (q_addn ?_)
  refine Mv ?_
  refine Mv ?_
  refine G (q_ixp1 ?_)
  refine G0 (q_stm ?_)
  refine As ?_
  refine gend ?_
  refine rl ?_
  refine G (q_addn (y := 1) ?_)
  refine Mv ?_
  refine gend ?_
  exact ⟨⟨j.1 + 1, by omega⟩, by show 2 - (j.1 + 1) < 2 - j.1; omega, sle_sub ⟨rfl, rfl, rfl, rfl, rfl, rfl, rfl, rfl, trivial⟩ rfl⟩
theorem small_ (a : List UInt64) (ha : a.length = 3) : Good Try.prog 69 [.a (u64s a)] [] (sa (u64s (small a))) [] := by
  refine good_frm 66 Try.func69 rfl rfl rfl rfl rfl rfl ?_
  refine awp_seq ?_
  refine rl ?_
  refine G (q_boxa ?_)
  refine G (q_al ?_)
  refine gend ?_
  refine awp_seq ?_
  refine awp_seq ?_
  refine rl ?_
  refine G (q_mv (s := sc (cn 0)) ?_)
  refine gend ?_
  refine awp_block ?_
  refine awp_loop (fun x : {i : Nat // i ≤ 2} => ⟨frm 66 [(1, sc (.ptr 0 0)), (2, sc (.ptr 1 0)), (7, sc (cn x.1))], [some (u64s (ssts a x.1)), some (u64s (List.replicate 3 0))]⟩) (fun x => 2 - x.1) ⟨0, Nat.zero_le _⟩ (sle_sub ⟨rfl, rfl, rfl, trivial⟩ rfl) fun x => ?_
  have hl := (ssts_len a x.1).trans ha
  refine awp_seq ?_
  refine rl ?_
  refine G (q_lssn (y := 2) ?_)
  refine gend ?_
  refine awp_seq ?_
  refine cnd (fun hc1 => ?_) (fun hc1 => ?_); rotate_left
  · refine awp_exit ?_
    rw [show x.1 = 2 from (by have := x.2; omega)]
    have hl := (ssts_len a 2).trans ha
    generalize hS : ssts a 2 = S at hl ⊢
    refine awp_seq ?_
    refine rl ?_
    refine G (q_al ?_)
    refine gend ?_
    refine awp_seq ?_
    refine rl ?_
    refine G (q_as (s := sc (c64 0)) ?_)
    refine gend ?_
    refine awp_seq ?_
    refine rl ?_
    refine G (q_ixp1 ?_)
    refine G (q_ldp ?_)
    refine G (q_subx (y := 18446744073709551611) (c := 0) ?_)
    refine G (q_mv (s := .t _) ?_)
    refine G (q_ext (y := .c _) ?_)
    refine G (q_ext (y := .c _) ?_)
    refine G (q_ixp1 ?_)
    refine G0 (q_stm ?_)
    refine As ?_
    refine gend ?_
    refine awp_seq ?_
    refine rl ?_
    refine G (q_ixp1 ?_)
    refine G (q_ldp ?_)
    refine Mv ?_
    refine G (q_subx (y := 18446744073709551615) ?_)
    refine G (q_mv (s := .t _) ?_)
    refine G (q_ext (y := .c _) ?_)
    refine G (q_ext (y := .c _) ?_)
    refine G (q_ixp1 ?_)
    refine G0 (q_stm ?_)
    refine As ?_
    refine gend ?_
    refine awp_seq ?_
    refine rl ?_
    refine G (q_ixp1 ?_)
    refine G (q_ldp ?_)
    refine Mv ?_
    refine G (q_subx (y := 3) ?_)
    refine G (q_mv (s := .t _) ?_)
    refine G (q_ext (y := .c _) ?_)
    refine G (q_ext (y := .c _) ?_)
    refine G (q_ixp1 ?_)
    refine G0 (q_stm ?_)
    refine As ?_
    refine gend ?_
    refine awp_seq ?_
    refine awp_seq ?_
    refine rl ?_
    refine Mv ?_
    refine G (q_eql64 (y := 0) ?_)
    refine gend ?_
    refine cnd (fun hc2 => ?_) (fun hc2 => ?_)
    · refine awp_seq ?_
      refine rl ?_
      refine G (q_ldw ?_)
      refine G0 (q_stw ?_)
      refine gend ?_
      refine awp_ret ?_
      exact fpc (t := 117) (a := 2) (hn := by simp only [mapc_length, List.length_set, List.length_replicate]) (hv := by rw [small, hS, sfin, if_pos (show sb3 S = 0 from hc2)]; rfl)
    refine awp_skip ?_
    refine awp_seq ?_
    refine rl ?_
    refine G (q_ldw ?_)
    refine G0 (q_stw ?_)
    refine gend ?_
    refine awp_ret ?_
    exact fpc (t := 117) (a := 2) (hn := by exact (mapc_length ..).trans hl) (hv := by rw [small, hS, sfin, if_neg (show ¬ sb3 S = 0 from hc2)])
  refine awp_skip ?_
  refine awp_seq ?_
  refine awp_block ?_
  refine awp_seq ?_
  refine rl ?_
  refine G (q_ixp1 ?_)
  refine G (q_ldp ?_)
  refine G (q_shr64_64 (n := 2) ?_)
  refine As ?_
  refine gend ?_
  refine awp_seq ?_
  refine rl ?_
  refine G (q_ixp1 ?_)
  refine G (q_ldp ?_)
  refine G (q_and64 (y := 3) ?_)
  refine G (q_ixp1 ?_)
  refine G0 (q_stm ?_)
  refine gend ?_
  refine awp_seq ?_
  refine rl ?_
  refine G (q_as (s := sc (c64 0)) ?_)
  refine gend ?_
  refine awp_seq ?_
  refine rl ?_
  refine G (q_ixp1 ?_)
  refine G (q_ldp ?_)
  refine Mv ?_
  refine G (q_mul64 (x := 5) ?_)
  refine G (q_addx (c := 0) ?_)
  refine G (q_mv (s := .t _) ?_)
  refine G (q_ext (y := .c _) ?_)
  refine G (q_ext (y := .c _) ?_)
  refine G (q_ixp1 ?_)
  refine G0 (q_stm ?_)
  refine As ?_
  refine gend ?_
  refine awp_seq ?_
  refine rl ?_
  refine G (q_ixp1 ?_)
  refine G (q_ldp ?_)
  refine Mv ?_
  refine G (q_addx (y := 0) ?_)
  refine G (q_mv (s := .t _) ?_)
  refine G (q_ext (y := .c _) ?_)
  refine G (q_ext (y := .c _) ?_)
  refine G (q_ixp1 ?_)
  refine G0 (q_stm ?_)
  refine As ?_
  refine gend ?_
  refine rl ?_
  refine G (q_ixp1 ?_)
  refine G (q_ldp ?_)
  refine Mv ?_
  refine G (q_add64 ?_)
  refine G (q_ixp1 ?_)
  refine G0 (q_stm ?_)
  refine gend ?_
  refine rl ?_
  refine G (q_addn (y := 1) ?_)
  refine Mv ?_
  refine gend ?_
  exact ⟨⟨x.1 + 1, by omega⟩, by show 2 - (x.1 + 1) < 2 - x.1; omega, sle_sub ⟨rfl, rfl, rfl, trivial⟩ rfl⟩
end Go.Proofs.Ytklcckngmmklhaa.Po

/- What functions of the program do, walked over the abstract machine. -/
namespace Go.Proofs.Ytklcckngmmklhaa.Po
open Go Go.Abs Go.Proofs
set_option maxRecDepth 20000
theorem slc_eq {b q q' n n' z : Nat} (h : q = q') (h' : n = n') : sc (.slc b q n z) = sc (.slc b q' n' z) := by rw [h, h']
def sp {α : Type} (a b : List α) (q : Nat) : List α := a.take q ++ (b ++ a.drop (q + b.length))
theorem splice_cpy {α : Type} {k : IntKind} {g : α → Int} {a b : List α} {q j c d : Nat} : splice (mapc k g a) q ((((mapc k g b).drop c).take d).take j) = mapc k g (sp a (((b.drop c).take d).take j) q) := by
  simp [mapc, splice, sp]
def piece (m : List UInt8) (q k : Nat) : List UInt8 := (sp (List.replicate 24 0) (((m.drop q).take (k * 1)).take (min k 24 * 1)) 0).set k 1
abbrev raw (m : List UInt8) (q k : Nat) : List UInt8 := sp (List.replicate 24 0) (((m.drop q).take (k * 1)).take (min k 24 * 1)) 0
theorem raw_len (m : List UInt8) (q k : Nat) (hk : k ≤ 16) : (raw m q k).length = 24 := by
  simp [raw, sp]
  omega
theorem piece_len (m : List UInt8) (q k : Nat) (hk : k ≤ 16) : (piece m q k).length = 24 := by
  simp [piece, sp]
  omega
abbrev pat (P : List UInt8) (i : Nat) : List UInt8 := (P.drop (0 + 8 * i * 1)).take ((24 - 8 * i) * 1)
def pacc (m : List UInt8) (r : List UInt64) : Nat → List UInt64
  | 0 => List.replicate 3 0
  | j + 1 => small (times (addp (pacc m r j) (fun i => half (pat (piece m (min (16 * j) m.length) (min 16 (m.length - min (16 * j) m.length))) i)) 3).1 r)
theorem pacc_len (m : List UInt8) (r : List UInt64) : ∀ j, (pacc m r j).length = 3
  | 0 => by simp [pacc]
  | j + 1 => by rw [pacc]; exact small_len _ (times_len _ _)
abbrev kq (key : List UInt8) (q : Nat) : List UInt8 := (key.drop (0 + q * 1)).take ((32 - q) * 1)
abbrev rk (key : List UInt8) : List UInt64 := [half key &&& 1152921487695413247, half (kq key 8) &&& 1152921487695413244]
def outb (lo hi : UInt64) : Nat → List UInt8
  | 0 => List.replicate 16 0
  | i + 1 => ((outb lo hi i).set i (shr64n lo (8 * i)).toUInt8).set (8 + i) (shr64n hi (8 * i)).toUInt8
theorem outb_len (lo hi : UInt64) : ∀ i, (outb lo hi i).length = 16
  | 0 => by simp [outb]
  | i + 1 => by rw [outb, List.length_set, List.length_set, outb_len]
def fin2 (a : List UInt64) (key : List UInt8) : List UInt8 :=
  outb (a.getD 0 0 + half (kq key 16) + 0) (a.getD 1 0 + half (kq key 24) + addc (a.getD 0 0) (half (kq key 16)) 0) 8
def tag (key : List UInt8) (m : List UInt8) : List UInt8 := fin2 (pacc m (rk key) ((m.length + 15) / 16)) key
set_option maxHeartbeats 800000 in
theorem tag_ (key : List UInt8) (ps : List (List UInt8)) (k : Nat) (hkey : key.length = 32) (hk : ps.length = k) (hk9 : k ≤ 100000) (hm : ps.flatten.length ≤ 100000) : Good Try.prog 59 [.a (u8s key), .c (.ro k (pcs ps))] [] (sa (u8s (tag key ps.flatten))) [] := by
  refine good_frm 111 Try.func59 rfl rfl rfl rfl rfl rfl ?_
  refine awp_seq ?_
  refine rl ?_
  refine G (q_boxa ?_)
  refine G (q_al ?_)
  refine gend ?_
  refine awp_seq ?_
  refine rdl [7, 8] [0, 0, 0, 0, 0, 0, 0, 0, 1] [1, 1, 1, 1, 1, 1, 1, 1, 2] ?_
  refine DSp 0 rfl (fun _ hv => q_slp_no ⟨rfl, rfl⟩ (hp := hv)) ?_
  refine DSp 0 rfl (fun _ _ => q_callp (half_ 32 key (by omega) hkey (by decide)/- escutcheon/poly.half -/) ⟨rfl, rfl⟩) ?_
  refine Dp (fun _ => q_and64 (y := 1152921487695413247) ⟨rfl, rfl⟩) ?_
  refine DSp 0 rfl (fun _ hv => q_slp_lo (j := 8) ⟨rfl, rfl⟩ (hp := hv)) ?_
  refine DSp 0 rfl (fun _ _ => q_callp (half_ 24 (kq key 8) (by simp [hkey]) (by simp [hkey]) (by decide)/- escutcheon/poly.half -/) ⟨rfl, rfl⟩) ?_
  refine Dp (fun _ => q_and64 (y := 1152921487695413244) ⟨rfl, rfl⟩) ?_
  refine Dp (fun _ => q_bla (fkc rfl (et rfl) rfl (Nat.le_of_ble_eq_true rfl) (fkc rfl (et rfl) rfl (Nat.le_of_ble_eq_true rfl) (fk0 ⟨rfl, rfl⟩)))) ?_
  refine De (q_al (pw ?_))
  refine De0 (q_stw (pw ?_))
  refine dend ?_
  refine awp_seq ?_
  refine rl ?_
  refine As ?_
  refine gend ?_
  refine awp_seq ?_
  refine awp_seq ?_
  refine rl ?_
  refine Mv ?_
  refine G (q_leno ?_)
  refine G (q_mv (s := sc (cn 0)) ?_)
  refine gend ?_
  refine awp_block ?_
  refine awp_loop (fun x : {s : Nat × List UInt8 × Nat // s.1 ≤ k ∧ s.2.1 = fl ps s.1 ∧ s.2.1.length = s.2.2} => ⟨frm 111 [(2, sc (.ptr 0 0)), (4, sc (.ptr 1 0)), (5, sc (.ptr 2 0)), (6, sc (.slc 3 0 x.1.2.2 1)), (26, sc (.ro k (pcs ps))), (27, sc (cn k)), (28, sc (cn x.1.1))], [some (u8s key), some (u8s (List.replicate 16 0)), some (u64s (rk key)), some (u8s x.1.2.1)]⟩) (fun x => k - x.1.1) ⟨(0, [], 0), Nat.zero_le _, rfl, rfl⟩ (sle_empty 1 (Nat.zero_le _) ⟨.inl rfl, .inl rfl, .inl rfl, .inr ⟨rfl, rfl⟩, .inl rfl, .inl rfl, .inl rfl, trivial⟩) fun x => ?_
  have h1 := x.2.1
  have h2 := x.2.2.1
  have hmn := x.2.2.2
  have hpl : (pcs ps).length = k := by simp [pcs, hk]
  refine awp_seq ?_
  refine rl ?_
  refine G (q_lssn ?_)
  refine gend ?_
  refine awp_seq ?_
  refine cnd (fun hc1 => ?_) (fun hc1 => ?_); rotate_left
  · refine awp_exit ?_
    have hik : x.1.1 = k := by omega
    have hmf : x.1.2.1 = ps.flatten := by rw [h2, fl, hik, ← hk, List.take_length]
    generalize x.1.2.1 = m at hmf hmn ⊢
    generalize x.1.2.2 = n at hmn ⊢
    have hn9 : n ≤ 100000 := by rw [← hmn, hmf]; exact hm
    refine awp_seq ?_
    refine rl ?_
    refine G (q_al ?_)
    refine gend ?_
    refine awp_seq ?_
    refine awp_block ?_
    refine awp_loop (fun j : {i : Nat // i ≤ (n + 15) / 16} => ⟨frm 111 [(2, sc (.ptr 0 0)), (4, sc (.ptr 1 0)), (5, sc (.ptr 2 0)), (6, sc (.slc 3 (min (16 * j.1) n) (n - min (16 * j.1) n) 1)), (9, sc (.ptr 4 0))], [some (u8s key), some (u8s (List.replicate 16 0)), some (u64s (rk key)), some (u8s m), some (u64s (pacc m (rk key) j.1))]⟩) (fun j => (n + 15) / 16 - j.1) ⟨0, Nat.zero_le _⟩ (sle_sub ⟨rfl, rfl, rfl, slc_eq (by simp) (by simp), rfl, trivial⟩ rfl) fun j => ?_
    have ha := pacc_len m (rk key) j.1
    refine awp_seq ?_
    refine awp_seq ?_
    refine rl ?_
    refine Mv ?_
    refine G (q_lenc ?_)
    refine G (q_gtrn (y := 0) ?_)
    refine gend ?_
    refine cnd (fun hc2 => ?_) (fun hc2 => ?_); rotate_left
    · refine awp_exit ?_
      rw [show j.1 = (n + 15) / 16 from (by have := j.2; omega)]
      have ha := pacc_len m (rk key) ((n + 15) / 16)
      generalize hA : pacc m (rk key) ((n + 15) / 16) = A at ha ⊢
      refine awp_seq ?_
      refine rdl [] [] [] ?_
      refine Dp (fun _ => q_ixp1 ⟨rfl, rfl⟩) ?_
      refine DLp ?_
      refine DSp 0 rfl (fun _ hv => q_slp_lo (j := 16) ⟨rfl, rfl⟩ (hp := hv)) ?_
      refine DSp 0 rfl (fun _ _ => q_callp (half_ 16 (kq key 16) (by simp [hkey]) (by simp [hkey]) (by decide)/- escutcheon/poly.half -/) ⟨rfl, rfl⟩) ?_
      refine Dp (fun _ => q_addx (c := 0) ⟨rfl, rfl⟩) ?_
      refine Dp (fun _ => q_mv (s := .t _) ⟨rfl, rfl⟩) ?_
      refine Dp (fun _ => q_ext (y := .c _) ⟨rfl, rfl⟩) ?_
      refine Dp (fun _ => q_ext (y := .c _) ⟨rfl, rfl⟩) ?_
      refine Dp (fun _ => q_as (s := .v (.c _)) ⟨rfl, rfl⟩) ?_
      refine Dp (fun _ => q_as (s := .v (.c _)) ⟨rfl, rfl⟩) ?_
      refine dend ?_
      refine awp_seq ?_
      refine rdl [] [] [] ?_
      refine Dp (fun _ => q_ixp1 ⟨rfl, rfl⟩) ?_
      refine DLp ?_
      refine DSp 0 rfl (fun _ hv => q_slp_lo (j := 24) ⟨rfl, rfl⟩ (hp := hv)) ?_
      refine DSp 0 rfl (fun _ _ => q_callp (half_ 8 (kq key 24) (by simp [hkey]) (by simp [hkey]) (by decide)/- escutcheon/poly.half -/) ⟨rfl, rfl⟩) ?_
      refine Dp (fun _ => q_mv (s := .v (.c _)) ⟨rfl, rfl⟩) ?_
      refine Dp (fun _ => q_addx ⟨rfl, rfl⟩) ?_
      refine Dp (fun _ => q_mv (s := .t _) ⟨rfl, rfl⟩) ?_
      refine Dp (fun _ => q_ext (y := .c _) ⟨rfl, rfl⟩) ?_
      refine Dp (fun _ => q_ext (y := .c _) ⟨rfl, rfl⟩) ?_
      refine Dp (fun _ => q_as (s := .v (.c _)) ⟨rfl, rfl⟩) ?_
      refine Dp (fun _ => q_as (s := .v (.c _)) ⟨rfl, rfl⟩) ?_
      refine dend ?_
      refine awp_seq ?_
      refine awp_seq ?_
      refine rl ?_
      refine G (q_mv (s := sc (cn 0)) ?_)
      refine gend ?_
      refine awp_block ?_
      refine awp_loop (fun y : {i : Nat // i ≤ 8} => ⟨frm 111 [(4, sc (.ptr 1 0)), (14, sc (c64 (A.getD 0 0 + half (kq key 16) + 0))), (16, sc (c64 (A.getD 1 0 + half (kq key 24) + addc (A.getD 0 0) (half (kq key 16)) 0))), (91, sc (cn y.1))], [some (u8s key), some (u8s (outb (A.getD 0 0 + half (kq key 16) + 0) (A.getD 1 0 + half (kq key 24) + addc (A.getD 0 0) (half (kq key 16)) 0) y.1)), some (u64s (rk key)), some (u8s m), some (u64s A)]⟩) (fun y => 8 - y.1) ⟨0, Nat.zero_le _⟩ (sle_sub ⟨rfl, rfl, rfl, rfl, trivial⟩ rfl) fun y => ?_
      have hl := outb_len (A.getD 0 0 + half (kq key 16) + 0) (A.getD 1 0 + half (kq key 24) + addc (A.getD 0 0) (half (kq key 16)) 0) y.1
      refine awp_seq ?_
      refine rl ?_
      refine G (q_lssn (y := 8) ?_)
      refine gend ?_
      refine awp_seq ?_
      refine cnd (fun hc3 => ?_) (fun hc3 => ?_); rotate_left
      · refine awp_exit ?_
        rw [show y.1 = 8 from (by have := y.2; omega)]
        have hl := outb_len (A.getD 0 0 + half (kq key 16) + 0) (A.getD 1 0 + half (kq key 24) + addc (A.getD 0 0) (half (kq key 16)) 0) 8
        refine awp_seq ?_
        refine rl ?_
        refine G (q_ldw  ?_ (hl := (mapc_length ..).trans hl))
        refine G0 (q_stw  ?_ (hl := (mapc_length ..).trans hl) (hc := (mapc_length ..).trans hl))
        refine gend ?_
        refine awp_ret ?_
        exact fpc (t := 99) (a := 4) (hn := by exact (mapc_length ..).trans hl) (hv := by rw [tag, ← hmf, hmn, hA]; rfl)
      refine awp_skip ?_
      refine awp_seq ?_
      refine awp_block ?_
      refine awp_seq ?_
      refine rl ?_
      refine Mv ?_
      refine As ?_
      refine gend ?_
      refine rdl [14, 16] [0, 0, 0, 0, 0, 0, 0, 0, 0, 0, 0, 0, 0, 0, 0, 1, 1] [0, 1, 1, 0, 0, 0, 0, 0, 1, 1, 1, 1, 1, 0, 1, 1, 2] ?_
      refine Dp (fun _ => q_mv (s := .v (.c _)) ⟨rfl, rfl⟩) ?_
      refine Dp (fun _ => q_mv (s := .v (.c _)) ⟨rfl, rfl⟩) ?_
      refine Dp (fun _ => q_addn (x := 8) ⟨rfl, rfl⟩) ?_
      refine Dp (fun _ => q_mv (s := .v (.c _)) ⟨rfl, rfl⟩) ?_
      refine Dp (fun _ => q_mv (s := .v (.c _)) ⟨rfl, rfl⟩) ?_
      refine Dp (fun _ => q_muln (x := 8) ⟨rfl, rfl⟩) ?_
      refine Dp (fun _ => q_shr64_0 ⟨rfl, rfl⟩) ?_
      refine Dp (fun _ => q_cv64_8 ⟨rfl, rfl⟩) ?_
      refine Dp (fun _ => q_mv (s := .v (.c _)) ⟨rfl, rfl⟩) ?_
      refine Dp (fun _ => q_mv (s := .v (.c _)) ⟨rfl, rfl⟩) ?_
      refine Dp (fun _ => q_muln (x := 8) ⟨rfl, rfl⟩) ?_
      refine Dp (fun _ => q_shr64_0 ⟨rfl, rfl⟩) ?_
      refine Dp (fun _ => q_cv64_8 ⟨rfl, rfl⟩) ?_
      refine Dp (fun _ => q_ixp1 ⟨rfl, rfl⟩) ?_
      refine De0 (q_stm (pw ?_))
      refine Dp (fun _ => q_ixp1 ⟨rfl, rfl⟩) ?_
      refine De0 (q_stm (pw ?_))
      refine dend ?_
      refine rl ?_
      refine G (q_addn (y := 1) ?_)
      refine Mv ?_
      refine gend ?_
      exact ⟨⟨y.1 + 1, by omega⟩, by show 8 - (y.1 + 1) < 8 - y.1; omega, sle_sub ⟨rfl, rfl, rfl, rfl, trivial⟩ rfl⟩
    refine awp_skip ?_
    refine awp_block ?_
    refine awp_seq ?_
    refine rl ?_
    refine Mv ?_
    refine G (q_lenc ?_)
    refine G (q_minn (x := 16) ?_)
    refine As ?_
    refine gend ?_
    refine awp_seq ?_
    refine rl ?_
    refine G (q_al ?_)
    refine gend ?_
    refine awp_seq ?_
    refine rdl [4] [] [0, 0, 0, 0, 1] ?_
    refine DSp 5 rfl (fun _ hv => q_slp_no ⟨rfl, rfl⟩ (hp := hv)) ?_
    refine Dp (fun _ => q_mv (s := .v (.c _)) ⟨rfl, rfl⟩) ?_
    refine Dp (fun _ => q_mv (s := .v (.c _)) ⟨rfl, rfl⟩) ?_
    refine Dp (fun _ => q_sls_hi ⟨rfl, rfl⟩) ?_
    refine De (q_cpy (pw ?_))
    refine dend ?_
    have hsp := raw_len m (min (16 * j.1) n) (min 16 (n - min (16 * j.1) n)) (by omega)
    refine reheap [(2, sc (.ptr 0 0)), (4, sc (.ptr 1 0)), (5, sc (.ptr 2 0)), (6, sc (.slc 3 (min (16 * j.1) n) (n - min (16 * j.1) n) 1)), (9, sc (.ptr 4 0)), (10, sc (cn (min 16 (n - min (16 * j.1) n)))), (11, sc (.ptr 5 0))] [some (u8s key), some (u8s (List.replicate 16 0)), some (u64s (rk key)), some (u8s m), some (u64s (pacc m (rk key) j.1)), some (u8s (raw m (min (16 * j.1) n) (min 16 (n - min (16 * j.1) n))))] ?_ ⟨rfl, rfl, rfl, rfl, rfl, rfl, rfl, trivial⟩ (congrArg (fun z => [some (u8s key), some (u8s (List.replicate 16 0)), some (u64s (rk key)), some (u8s m), some (u64s (pacc m (rk key) j.1)), some z]) splice_cpy)
    refine awp_seq ?_
    refine rl ?_
    refine Mv ?_
    refine G (q_ixp1 ?_)
    refine G0 (q_stm (x := (1 : UInt8)) ?_)
    refine gend ?_
    refine awp_seq ?_
    refine rl ?_
    refine G (q_as (s := sc (c64 0)) ?_)
    refine gend ?_
    refine awp_seq ?_
    refine awp_seq ?_
    refine rl ?_
    refine G (q_mv (s := sc (cn 0)) ?_)
    refine gend ?_
    obtain ⟨P, hP'⟩ : ∃ P, piece m (min (16 * j.1) n) (min 16 (n - min (16 * j.1) n)) = P := ⟨_, rfl⟩
    have hP : P.length = 24 := by rw [← hP']; exact piece_len _ _ _ (by omega)
    refine awp_block ?_
    refine awp_loop (fun e : {i : Nat // i ≤ 3} => ⟨frm 111 [(2, sc (.ptr 0 0)), (4, sc (.ptr 1 0)), (5, sc (.ptr 2 0)), (6, sc (.slc 3 (min (16 * j.1) n) (n - min (16 * j.1) n) 1)), (9, sc (.ptr 4 0)), (10, sc (cn (min 16 (n - min (16 * j.1) n)))), (11, sc (.ptr 5 0)), (12, sc (c64 (addp (pacc m (rk key) j.1) (fun i => half (pat P i)) e.1).2)), (49, sc (cn e.1))], [some (u8s key), some (u8s (List.replicate 16 0)), some (u64s (rk key)), some (u8s m), some (u64s (addp (pacc m (rk key) j.1) (fun i => half (pat P i)) e.1).1), some (u8s P)]⟩) (fun e => 3 - e.1) ⟨0, Nat.zero_le _⟩ (sle_sub ⟨rfl, rfl, rfl, rfl, rfl, rfl, rfl, rfl, rfl, trivial⟩ (by rw [← hP']; rfl)) fun e => ?_
    have hi := (addp_len (pacc m (rk key) j.1) (fun i => half (pat P i)) e.1).trans ha
    have hc := addp_le (pacc m (rk key) j.1) (fun i => half (pat P i)) e.1
    refine awp_seq ?_
    refine rl ?_
    refine G (q_lssn (y := 3) ?_)
    refine gend ?_
    refine awp_seq ?_
    refine cnd (fun hc4 => ?_) (fun hc4 => ?_); rotate_left
    · refine awp_exit ?_
      rw [show e.1 = 3 from (by have := e.2; omega)]
      have hi := (addp_len (pacc m (rk key) j.1) (fun i => half (pat P i)) 3).trans ha
      have gT := times_ (addp (pacc m (rk key) j.1) (fun i => half (pat P i)) 3).1 (rk key) hi rfl
      have gS := small_ (times (addp (pacc m (rk key) j.1) (fun i => half (pat P i)) 3).1 (rk key)) (times_len ..)
      have hpa : pacc m (rk key) (j.1 + 1) = small (times (addp (pacc m (rk key) j.1) (fun i => half (pat P i)) 3).1 (rk key)) := by rw [pacc, hmn, hP']
      rw [← hpa] at gS
      have hA1 := pacc_len m (rk key) (j.1 + 1)
      obtain ⟨A1, hA1e⟩ : ∃ A, pacc m (rk key) (j.1 + 1) = A := ⟨_, rfl⟩
      rw [hA1e] at gS hA1
      generalize times (addp (pacc m (rk key) j.1) (fun i => half (pat P i)) 3).1 (rk key) = T at gT gS
      refine awp_seq ?_
      refine rl ?_
      refine G (q_ldw  ?_ (hl := (mapc_length ..).trans hi))
      refine G (q_ldw  ?_ (hl := (mapc_length ..).trans rfl))
      refine G (q_callp (gT/- escutcheon/poly.times -/) ?_)
      refine G (q_callp (gS/- escutcheon/poly.small -/) ?_)
      refine G0 (q_stw  ?_ (hl := (mapc_length ..).trans hA1) (hc := (mapc_length ..).trans hi))
      refine gend ?_
      refine rl ?_
      refine Mv ?_
      refine Mv ?_
      refine G (q_sls_lo ?_)
      refine As ?_
      refine gend ?_
      exact ⟨⟨j.1 + 1, by omega⟩, by show (n + 15) / 16 - (j.1 + 1) < (n + 15) / 16 - j.1; omega, sle_view [0, 1, 2, 3, 4] (fun p h => absurd h (Nat.not_lt_zero _)) (by decide) ⟨rfl, rfl, rfl, slc_eq (by show _ = min (16 * (j.1 + 1)) n; omega) (by show _ = n - min (16 * (j.1 + 1)) n; omega), rfl, trivial⟩ (vh5 (pick_m rfl) (pick_m rfl) (pick_m rfl) (pick_m rfl) (pick_m (congrArg (fun z => some (some (u64s z))) hA1e.symm)))⟩
    refine awp_skip ?_
    refine awp_seq ?_
    refine awp_block ?_
    refine awp_seq ?_
    refine rl ?_
    refine Mv ?_
    refine As ?_
    refine gend ?_
    refine rdl [14] [0, 0, 0, 0, 0, 0, 0, 0, 0, 0, 0, 0, 0, 0, 0, 1] [0, 0, 0, 0, 0, 0, 0, 0, 0, 0, 0, 0, 1, 0, 1, 1] ?_
    refine Dp (fun _ => q_mv (s := .v (.c _)) ⟨rfl, rfl⟩) ?_
    refine Dp (fun _ => q_mv (s := .v (.c _)) ⟨rfl, rfl⟩) ?_
    refine Dp (fun _ => q_ixp1 ⟨rfl, rfl⟩) ?_
    refine DLp ?_
    refine Dp (fun _ => q_mv (s := .v (.c _)) ⟨rfl, rfl⟩) ?_
    refine Dp (fun _ => q_muln (x := 8) ⟨rfl, rfl⟩) ?_
    refine DSp 5 rfl (fun _ hv => q_slp_lo ⟨rfl, rfl⟩ (hp := hv)) ?_
    refine DSp 5 rfl (fun _ _ => q_callp (half_ (24 - 8 * e.1) (pat P e.1) (by simp [hP]; omega) (by simp [hP]) (by omega)/- escutcheon/poly.half -/) ⟨rfl, rfl⟩) ?_
    refine Dp (fun _ => q_mv (s := .v (.c _)) ⟨rfl, rfl⟩) ?_
    refine Dp (fun _ => q_addx ⟨rfl, rfl⟩) ?_
    refine Dp (fun _ => q_mv (s := .t _) ⟨rfl, rfl⟩) ?_
    refine Dp (fun _ => q_ext (y := .c _) ⟨rfl, rfl⟩) ?_
    refine Dp (fun _ => q_ext (y := .c _) ⟨rfl, rfl⟩) ?_
    refine Dp (fun _ => q_ixp1 ⟨rfl, rfl⟩) ?_
    refine De0 (q_stm (pw ?_))
    refine Dp (fun _ => q_as (s := .v (.c _)) ⟨rfl, rfl⟩) ?_
    refine dend ?_
    refine rl ?_
    refine G (q_addn (y := 1) ?_)
    refine Mv ?_
    refine gend ?_
    exact ⟨⟨e.1 + 1, by omega⟩, by show 3 - (e.1 + 1) < 3 - e.1; omega, sle_sub ⟨rfl, rfl, rfl, rfl, rfl, rfl, rfl, rfl, rfl, trivial⟩ rfl⟩
  refine awp_skip ?_
  refine awp_seq ?_
  refine awp_block ?_
  refine awp_seq ?_
  refine rl ?_
  have hb := fl_le ps x.1.1 (by omega)
  rw [← h2, hmn] at hb
  refine G (q_ixo1 ?_)
  refine G (q_ldrd ?_ (hc := pcs_at (by omega)))
  refine As ?_
  refine gend ?_
  refine rl ?_
  refine Mv ?_
  refine Mv ?_
  refine G (q_app ?_)
  refine As ?_
  refine gend ?_
  refine rl ?_
  refine G (q_addn (y := 1) ?_)
  refine Mv ?_
  refine gend ?_
  exact ⟨⟨(x.1.1 + 1, x.1.2.1 ++ ps.getD x.1.1 [], x.1.2.2 + (ps.getD x.1.1 []).length), by show x.1.1 + 1 ≤ k; omega, by show x.1.2.1 ++ _ = fl ps (x.1.1 + 1); rw [fl_succ ps x.1.1 (by omega), h2], by show (x.1.2.1 ++ _).length = _; rw [List.length_append, hmn]⟩, by show k - (x.1.1 + 1) < k - x.1.1; omega, sle_view [0, 1, 2, 4] (fun p h => absurd h (Nat.not_lt_zero _)) (by decide) ⟨rfl, rfl, rfl, rfl, rs_pcs, rfl, rfl, trivial⟩ (vh4 (pick_m rfl) (pick_m rfl) (pick_m rfl) (pick_m (congrArg (fun z => some (some z)) (mapc_append ..))))⟩
theorem tag_len (key m : List UInt8) : (tag key m).length = 16 := by unfold tag fin2; exact outb_len _ _ _
end Go.Proofs.Ytklcckngmmklhaa.Po

/- What functions of the program do, walked over the abstract machine. -/
namespace Go.Proofs.Ytklcckngmmklhaa.Po
open Go Go.Abs Go.Proofs
set_option maxRecDepth 20000
def nrm (d : List UInt64) : Nat → List UInt64 × UInt64
  | 0 => (d, 0)
  | i + 1 => ((nrm d i).1.set i (((nrm d i).1.getD i 0 + (nrm d i).2) % 256), ((nrm d i).1.getD i 0 + (nrm d i).2) / 256)
def fld (d : List UInt64) : Nat → List UInt64 × List UInt64
  | 0 => (d, List.replicate 34 0)
  | j + 1 =>
    if 16 < 16 + j then
      ((fld d j).1.set (16 + j) 0,
        ((fld d j).2.set (16 + j - 16) ((fld d j).2.getD (16 + j - 16) 0 + (fld d j).1.getD (16 + j) 0 / 4)).set (16 + j - 17)
          (((fld d j).2.set (16 + j - 16) ((fld d j).2.getD (16 + j - 16) 0 + (fld d j).1.getD (16 + j) 0 / 4)).getD (16 + j - 17) 0 + (fld d j).1.getD (16 + j) 0 % 4 * 64))
    else ((fld d j).1.set (16 + j) ((fld d j).1.getD (16 + j) 0 % 4), (fld d j).2.set (16 + j - 16) ((fld d j).2.getD (16 + j - 16) 0 + (fld d j).1.getD (16 + j) 0 / 4))
def add5 (d u : List UInt64) : Nat → List UInt64
  | 0 => d
  | i + 1 => (add5 d u i).set i ((add5 d u i).getD i 0 + 5 * u.getD i 0)
def pss (d : List UInt64) : Nat → List UInt64
  | 0 => d
  | k + 1 => add5 (fld (nrm (pss d k) 34).1 18).1 (fld (nrm (pss d k) 34).1 18).2 34
def nn (d : List UInt64) : Nat → List UInt64 × UInt64
  | 0 => (List.replicate 17 0, 0)
  | i + 1 => ((nn d i).1.set i ((d.getD i 0 + (nn d i).2) % 256), (d.getD i 0 + (nn d i).2) / 256)
def g0 (n : List UInt64) : Bool := (decide (n.getD 16 0 = 3) && decide (251 ≤ n.getD 0 0)) || decide (3 < n.getD 16 0)
def gr (n : List UInt64) : Nat → Bool
  | 0 => g0 n
  | i + 1 => gr n i && (decide (n.getD (1 + i) 0 = 255) || decide (3 < n.getD 16 0))
def sb5 (n : List UInt64) : Nat → List UInt64 × UInt64
  | 0 => (n, 5)
  | i + 1 => ((sb5 n i).1.set i (((sb5 n i).1.getD i 0 + (sb5 n i).2) % 256), ((sb5 n i).1.getD i 0 + (sb5 n i).2) / 256)
def rsfin (n : List UInt64) : List UInt64 := if gr n 15 then (sb5 n 17).1.set 16 ((sb5 n 17).1.getD 16 0 - 4) else n
def rsmall (d : List UInt64) : List UInt64 := rsfin (nn (pss d 4) 17).1
def rv1 (key : List UInt8) (i : Nat) : UInt64 := if i % 4 = 3 then (key.getD i 0).toUInt64 % 16 else (key.getD i 0).toUInt64
def rv (key : List UInt8) (i : Nat) : UInt64 := if i = 4 ∨ i = 8 ∨ i = 12 then rv1 key i / 4 * 4 else rv1 key i
def rr (key : List UInt8) : Nat → List UInt64
  | 0 => List.replicate 16 0
  | i + 1 => (rr key i).set i (rv key i)
def radd (a : List UInt64) (l : List UInt8) (q : Nat) : Nat → List UInt64
  | 0 => a
  | i + 1 => (radd a l q i).set i ((radd a l q i).getD i 0 + (l.getD (q + i) 0).toUInt64)
def pin (a r : List UInt64) (i : Nat) (d : List UInt64) : Nat → List UInt64
  | 0 => d
  | k + 1 => (pin a r i d k).set (i + k) ((pin a r i d k).getD (i + k) 0 + a.getD i 0 * r.getD k 0)
def pout (a r : List UInt64) : Nat → List UInt64
  | 0 => List.replicate 34 0
  | i + 1 => pin a r i (pout a r i) 16
def rblk (a : List UInt64) (l : List UInt8) (q k : Nat) : List UInt64 := (radd a l q k).set k ((radd a l q k).getD k 0 + 1)
def racc (l : List UInt8) (r : List UInt64) : Nat → List UInt64
  | 0 => List.replicate 17 0
  | j + 1 => rsmall (pout (rblk (racc l r j) l (16 * j) (min 16 (l.length - 16 * j))) r 17)
def rob (a : List UInt64) (key : List UInt8) : Nat → List UInt8 × UInt64
  | 0 => (List.replicate 16 0, 0)
  | i + 1 => ((rob a key i).1.set i (a.getD i 0 + (key.getD (16 + i) 0).toUInt64 + (rob a key i).2).toUInt8, (a.getD i 0 + (key.getD (16 + i) 0).toUInt64 + (rob a key i).2) / 256)
def rtag (key l : List UInt8) : List UInt8 := (rob (racc l (rr key 16) ((l.length + 15) / 16)) key 16).1
end Go.Proofs.Ytklcckngmmklhaa.Po

/- The reference's numbers of base 256. -/
namespace Go.Proofs.Ytklcckngmmklhaa.Po
open Go Go.Abs Go.Proofs
def Dv (d : List UInt64) : Nat → Nat
  | 0 => 0
  | i + 1 => Dv d i + 256 ^ i * (d.getD i 0).toNat
def Bd (d : List UInt64) (b : Nat) : Prop := ∀ i, (d.getD i 0).toNat ≤ b
end Go.Proofs.Ytklcckngmmklhaa.Po

/- What the bytes of marks come to, as numbers. -/
namespace Go.Proofs.Ytklcckngmmklhaa.Po
open Go Go.Abs Go.Proofs
def Fv (f : Nat → UInt8) : Nat → Nat
  | 0 => 0
  | i + 1 => Fv f i + 256 ^ i * (f i).toNat
def byt (x : UInt64) (i : Nat) : UInt8 := (shr64n x (8 * i)).toUInt8
end Go.Proofs.Ytklcckngmmklhaa.Po

/- The steps of a mark, as numbers modulo 2^130 - 5. -/
namespace Go.Proofs.Ytklcckngmmklhaa.Po
open Go Go.Abs Go.Proofs
def V3 (l : List UInt64) : Nat := (l.getD 0 0).toNat + 18446744073709551616 * (l.getD 1 0).toNat + 340282366920938463463374607431768211456 * (l.getD 2 0).toNat
end Go.Proofs.Ytklcckngmmklhaa.Po

/- The reference's mark as a number. -/
namespace Go.Proofs.Ytklcckngmmklhaa.Po
open Go Go.Abs Go.Proofs
theorem Bd.mono {d : List UInt64} {a b : Nat} (h : Bd d a) (hab : a ≤ b) : Bd d b := fun i => Nat.le_trans (h i) hab
def Pn (l : List UInt8) (q k : Nat) : Nat := Fv (fun i => l.getD (q + i) 0) k + 256 ^ k
def An (l : List UInt8) (R : Nat) : Nat → Nat
  | 0 => 0
  | j + 1 => (An l R j + Pn l (16 * j) (min 16 (l.length - 16 * j))) * R % 1361129467683753853853498429727072845819
end Go.Proofs.Ytklcckngmmklhaa.Po

/- The mark and the reference's mark are one. -/
namespace Go.Proofs.Ytklcckngmmklhaa.Po
open Go Go.Abs Go.Proofs
def kb8 (key : List UInt8) (i : Nat) : UInt8 := if i < 8 then key.getD i 0 &&& byt 1152921487695413247 i else key.getD i 0 &&& byt 1152921487695413244 (i - 8)
end Go.Proofs.Ytklcckngmmklhaa.Po

/- What functions of the program do, walked over the abstract machine. -/
namespace Go.Proofs.Ytklcckngmmklhaa.Ch
open Go Go.Abs Go.Proofs
set_option maxRecDepth 20000
def turn (x : UInt32) (n : UInt64) : UInt32 := shl32n x n.toNat ||| shr32n x (32 - n).toNat
def q1 (s : List UInt32) (a b : Nat) : List UInt32 := s.set a (s.getD a 0 + s.getD b 0)
def q2 (s : List UInt32) (a d : Nat) (r : Nat) : List UInt32 := s.set d (turn (s.getD d 0 ^^^ s.getD a 0) (UInt64.ofNat r))
def qh (s : List UInt32) (a b c d : Nat) (r r' : Nat) : List UInt32 := q2 (q1 (q2 (q1 s a b) a d r) c d) c b r'
def qr (s : List UInt32) (a b c d : Nat) : List UInt32 := qh (qh s a b c d 16 12) a b c d 8 7
theorem q1_len (s : List UInt32) (a b : Nat) : (q1 s a b).length = s.length := by simp [q1]
theorem q2_len (s : List UInt32) (a d r : Nat) : (q2 s a d r).length = s.length := by simp [q2]
theorem qh_len (s : List UInt32) (a b c d r r' : Nat) : (qh s a b c d r r').length = s.length := by simp [qh, q1_len, q2_len]
theorem qr_len (s : List UInt32) (a b c d : Nat) : (qr s a b c d).length = s.length := by simp [qr, qh_len]
def qa (j : Nat) : Nat := if j = 0 then 16 else 8
def qb (j : Nat) : Nat := if j = 0 then 12 else 7
def qs (s : List UInt32) (a b c d : Nat) : Nat → List UInt32
  | 0 => s
  | j + 1 => qh (qs s a b c d j) a b c d (qa j) (qb j)
theorem qs_len (s : List UInt32) (a b c d : Nat) : ∀ j, (qs s a b c d j).length = s.length
  | 0 => rfl
  | j + 1 => by rw [qs, qh_len, qs_len]
theorem qab (j : Nat) (h : j < 2) : (([cn 16, cn 12] ++ [cn 8, cn 7]).drop (j * 2)).take 2 = [cn (qa j), cn (qb j)] := by
  match j, h with
  | 0, _ => rfl
  | 1, _ => rfl
theorem qa_le (j : Nat) : qa j ≤ 16 := by unfold qa; split <;> decide
theorem qb_le (j : Nat) : qb j ≤ 16 := by unfold qb; split <;> decide
theorem turn_mod (x : UInt32) (r : Nat) (h : r ≤ 16) : turn x (UInt64.ofNat r &&& 31) = turn x (UInt64.ofNat r) := by
  have : UInt64.ofNat r &&& 31 = UInt64.ofNat r := by
    have : ∀ r : Fin 17, UInt64.ofNat r.1 &&& 31 = UInt64.ofNat r.1 := by decide
    exact this ⟨r, by omega⟩
  rw [this]
def wd (l : List UInt8) : UInt32 := (l.getD 0 0).toUInt32 ||| shl32n (l.getD 1 0).toUInt32 8 ||| shl32n (l.getD 2 0).toUInt32 16 ||| shl32n (l.getD 3 0).toUInt32 24
theorem rotate (x : UInt32) (r : Nat) (h : r ≤ 16) : Good Try.prog 66 [.c (c32 x), .c (cn r)] [] (sc (c32 (turn x (UInt64.ofNat r)))) [] := by
  refine good_frm 17 Try.func66 rfl rfl rfl rfl rfl rfl ?_
  refine awp_seq ?_
  refine rl ?_
  refine G (q_as (s := sc (c32 0)) ?_)
  refine gend ?_
  refine awp_seq ?_
  refine rl ?_
  refine Mv ?_
  refine G (q_cv0_64 ?_)
  refine G (q_and64 (y := 31) ?_)
  refine As ?_
  refine gend ?_
  refine awp_seq ?_
  refine rl ?_
  refine Mv ?_
  refine Mv ?_
  refine G (q_shl32_64 ?_)
  refine Mv ?_
  refine Mv ?_
  refine G (q_sub64 (x := 32) ?_)
  refine G (q_shr32_64 ?_)
  refine G (q_or32 ?_)
  refine As ?_
  refine gend ?_
  refine awp_ret ?_
  exact fp1 (hv := by rw [← turn_mod x r h]; rfl)
theorem rturn (x : UInt32) (n : UInt64) : Good Try.prog 75 [.c (c32 x), .c (c64 n)] [] (sc (c32 (turn x n))) [] := by
  refine good_frm 13 Try.func75 rfl rfl rfl rfl rfl rfl ?_
  refine awp_seq ?_
  refine rl ?_
  refine G (q_as (s := sc (c32 0)) ?_)
  refine gend ?_
  refine awp_seq ?_
  refine rl ?_
  refine Mv ?_
  refine Mv ?_
  refine G (q_shl32_64 ?_)
  refine Mv ?_
  refine Mv ?_
  refine G (q_sub64 (x := 32) ?_)
  refine G (q_shr32_64 ?_)
  refine G (q_or32 ?_)
  refine As ?_
  refine gend ?_
  refine awp_ret ?_
  exact fp1
theorem word (n : Nat) (l : List UInt8) (h : 4 ≤ l.length) (hn : l.length = n) : Good Try.prog 64 [.c (.ro n (u8s l))] [] (sc (c32 (wd l))) [] := by
  refine good_frm 25 Try.func64 rfl rfl rfl rfl rfl rfl ?_
  refine awp_seq ?_
  refine rl ?_
  refine G (q_as (s := sc (c32 0)) ?_)
  refine gend ?_
  refine awp_seq ?_
  refine rdl [] [] [] ?_
  refine Dp (fun _ => q_mv (s := .v (.c _)) ⟨rfl, rfl⟩) ?_
  refine Dp (fun _ => q_ixo1 ⟨rfl, rfl⟩) ?_
  refine Dp (fun _ => q_ldrd ⟨rfl, rfl⟩) ?_
  refine Dp (fun _ => q_cv8_32 ⟨rfl, rfl⟩) ?_
  refine Dp (fun _ => q_mv (s := .v (.c _)) ⟨rfl, rfl⟩) ?_
  refine Dp (fun _ => q_ixo1 ⟨rfl, rfl⟩) ?_
  refine Dp (fun _ => q_ldrd ⟨rfl, rfl⟩) ?_
  refine Dp (fun _ => q_cv8_32 ⟨rfl, rfl⟩) ?_
  refine Dp (fun _ => q_shl32_64 (n := 8) ⟨rfl, rfl⟩) ?_
  refine Dp (fun _ => q_or32 ⟨rfl, rfl⟩) ?_
  refine Dp (fun _ => q_mv (s := .v (.c _)) ⟨rfl, rfl⟩) ?_
  refine Dp (fun _ => q_ixo1 ⟨rfl, rfl⟩) ?_
  refine Dp (fun _ => q_ldrd ⟨rfl, rfl⟩) ?_
  refine Dp (fun _ => q_cv8_32 ⟨rfl, rfl⟩) ?_
  refine Dp (fun _ => q_shl32_64 (n := 16) ⟨rfl, rfl⟩) ?_
  refine Dp (fun _ => q_or32 ⟨rfl, rfl⟩) ?_
  refine Dp (fun _ => q_mv (s := .v (.c _)) ⟨rfl, rfl⟩) ?_
  refine Dp (fun _ => q_ixo1 ⟨rfl, rfl⟩) ?_
  refine Dp (fun _ => q_ldrd ⟨rfl, rfl⟩) ?_
  refine Dp (fun _ => q_cv8_32 ⟨rfl, rfl⟩) ?_
  refine Dp (fun _ => q_shl32_64 (n := 24) ⟨rfl, rfl⟩) ?_
  refine Dp (fun _ => q_or32 ⟨rfl, rfl⟩) ?_
  refine Dp (fun _ => q_as (s := .v (.c _)) ⟨rfl, rfl⟩) ?_
  refine dend ?_
  refine awp_ret ?_
  exact fp1
theorem quarter (s : List UInt32) (a b c d : Nat) (ha : a < 16) (hb : b < 16) (hc : c < 16) (hd : d < 16) (hs : s.length = 16) : Good Try.prog 65 [.c (cn a), .c (cn b), .c (cn c), .c (cn d), .c (.ptr 0 0)] [some (u32s s)] (.t []) [some (u32s (qr s a b c d))] := by
  refine good_frm 58 Try.func65 rfl rfl rfl rfl rfl rfl ?_
  refine awp_seq ?_
  refine rl ?_
  refine G (q_bla (fkc (c := cn 16) rfl rfl rfl (Nat.le_of_ble_eq_true rfl) (fkc (c := cn 12) rfl rfl rfl (Nat.le_of_ble_eq_true rfl) (fk0 ?_))))
  refine G (q_bla (fkc (c := cn 8) rfl rfl rfl (Nat.le_of_ble_eq_true rfl) (fkc (c := cn 7) rfl rfl rfl (Nat.le_of_ble_eq_true rfl) (fk0 ?_))))
  refine G (q_bla (fka rfl (et rfl) (by first | exact (mapc_length ..).trans (by with_reducible assumption) | decide +kernel | decide) (by first | decide +kernel | decide) (fka rfl (et rfl) (by first | exact (mapc_length ..).trans (by with_reducible assumption) | decide +kernel | decide) (by first | decide +kernel | decide) (fk0 ?_))))
  refine G (q_mv (s := sc (cn 0)) ?_)
  refine gend ?_
  refine awp_block ?_
  refine awp_loop (fun x : {j : Nat // j ≤ 2} => ⟨frm 58 [(0, sc (cn a)), (1, sc (cn b)), (2, sc (cn c)), (3, sc (cn d)), (4, sc (.ptr 0 0)), (13, sa ([cn 16, cn 12] ++ [cn 8, cn 7])), (14, sc (cn x.1))], [some (u32s (qs s a b c d x.1))]⟩) (fun x => 2 - x.1) ⟨0, Nat.zero_le _⟩ (sle_sub ⟨rfl, rfl, rfl, rfl, rfl, rfl, rfl, trivial⟩ rfl) fun x => ?_
  refine awp_seq ?_
  refine rl ?_
  refine G (q_lssn (y := 2) ?_)
  refine gend ?_
  refine awp_seq ?_
  refine cnd (fun hc1 => ?_) (fun hc1 => ?_); rotate_left
  · refine awp_exit ?_
    exact fw0 (hH := by rw [show x.1 = 2 from (by have := x.2; omega)]; rfl)
  refine awp_skip ?_
  refine awp_seq ?_
  refine awp_block ?_
  refine awp_seq ?_
  refine rl ?_
  refine G (q_ina ?_ (hy := qab x.1 hc1))
  refine G (q_al ?_)
  refine G0 (q_stw ?_)
  refine gend ?_
  refine awp_seq ?_
  have hl := (qs_len s a b c d x.1).trans hs
  refine rdl [8] [] [0, 0, 0, 0, 0, 0, 0, 0, 1] ?_
  refine Dp (fun _ => q_mv (s := .v (.c _)) ⟨rfl, rfl⟩) ?_
  refine Dp (fun _ => q_ixp1 ⟨rfl, rfl⟩) ?_
  refine DLp ?_
  refine Dp (fun _ => q_mv (s := .v (.c _)) ⟨rfl, rfl⟩) ?_
  refine Dp (fun _ => q_ixp1 ⟨rfl, rfl⟩) ?_
  refine DLp ?_
  refine Dp (fun _ => q_add32 ⟨rfl, rfl⟩) ?_
  refine Dp (fun _ => q_ixp1 ⟨rfl, rfl⟩) ?_
  refine De0 (q_stm (pw ?_))
  refine dend ?_
  refine awp_seq ?_
  refine rdl [10, 12] [0, 0, 0, 0, 0, 0, 0, 0, 0, 0, 0, 1, 1] [1, 0, 0, 0, 0, 0, 0, 0, 0, 0, 1, 1, 2] ?_
  refine Dp (fun _ => q_mv (s := .v (.c _)) ⟨rfl, rfl⟩) ?_
  refine Dp (fun _ => q_mv (s := .v (.c _)) ⟨rfl, rfl⟩) ?_
  refine Dp (fun _ => q_ixp1 ⟨rfl, rfl⟩) ?_
  refine DLp ?_
  refine Dp (fun _ => q_mv (s := .v (.c _)) ⟨rfl, rfl⟩) ?_
  refine Dp (fun _ => q_ixp1 ⟨rfl, rfl⟩) ?_
  refine DLp ?_
  refine Dp (fun _ => q_xor32 ⟨rfl, rfl⟩) ?_
  refine Dp (fun _ => q_ixp1 ⟨rfl, rfl⟩) ?_
  refine DLp ?_
  refine De (q_callp (rotate _ (qa x.1) (qa_le _)/- math/bits.RotateLeft32 -/) (pw ?_))
  refine Dp (fun _ => q_ixp1 ⟨rfl, rfl⟩) ?_
  refine De0 (q_stm (pw ?_))
  refine dend ?_
  refine awp_seq ?_
  refine rdl [8] [] [0, 0, 0, 0, 0, 0, 0, 0, 1] ?_
  refine Dp (fun _ => q_mv (s := .v (.c _)) ⟨rfl, rfl⟩) ?_
  refine Dp (fun _ => q_ixp1 ⟨rfl, rfl⟩) ?_
  refine DLp ?_
  refine Dp (fun _ => q_mv (s := .v (.c _)) ⟨rfl, rfl⟩) ?_
  refine Dp (fun _ => q_ixp1 ⟨rfl, rfl⟩) ?_
  refine DLp ?_
  refine Dp (fun _ => q_add32 ⟨rfl, rfl⟩) ?_
  refine Dp (fun _ => q_ixp1 ⟨rfl, rfl⟩) ?_
  refine De0 (q_stm (pw ?_))
  refine dend ?_
  refine rdl [10, 12] [0, 0, 0, 0, 0, 0, 0, 0, 0, 0, 0, 1, 1] [1, 0, 0, 0, 0, 0, 0, 0, 0, 0, 1, 1, 2] ?_
  refine Dp (fun _ => q_mv (s := .v (.c _)) ⟨rfl, rfl⟩) ?_
  refine Dp (fun _ => q_mv (s := .v (.c _)) ⟨rfl, rfl⟩) ?_
  refine Dp (fun _ => q_ixp1 ⟨rfl, rfl⟩) ?_
  refine DLp ?_
  refine Dp (fun _ => q_mv (s := .v (.c _)) ⟨rfl, rfl⟩) ?_
  refine Dp (fun _ => q_ixp1 ⟨rfl, rfl⟩) ?_
  refine DLp ?_
  refine Dp (fun _ => q_xor32 ⟨rfl, rfl⟩) ?_
  refine Dp (fun _ => q_ixp1 ⟨rfl, rfl⟩) ?_
  refine DLp ?_
  refine De (q_callp (rotate _ (qb x.1) (qb_le _)/- math/bits.RotateLeft32 -/) (pw ?_))
  refine Dp (fun _ => q_ixp1 ⟨rfl, rfl⟩) ?_
  refine De0 (q_stm (pw ?_))
  refine dend ?_
  refine rl ?_
  refine G (q_addn (y := 1) ?_)
  refine Mv ?_
  refine gend ?_
  exact ⟨⟨x.1 + 1, by omega⟩, by show 2 - (x.1 + 1) < 2 - x.1; omega, sle_view [0] pi0 (by decide) ⟨rfl, rfl, rfl, rfl, rfl, rfl, rfl, trivial⟩ (vh1 (pick_m rfl))⟩
def lw (s : List UInt32) (o m : Nat) (l : List UInt8) : Nat → List UInt32
  | 0 => s
  | i + 1 => (lw s o m l i).set (o + i) (wd ((l.drop (0 + 4 * i * 1)).take ((m - 4 * i) * 1)))
theorem lw_len (s : List UInt32) (o m : Nat) (l : List UInt8) : ∀ i, (lw s o m l i).length = s.length
  | 0 => rfl
  | i + 1 => by rw [lw, List.length_set, lw_len]
def cols (s : List UInt32) : Nat → List UInt32
  | 0 => s
  | i + 1 => qr (cols s i) i (4 + i) (8 + i) (12 + i)
def dias (s : List UInt32) : Nat → List UInt32
  | 0 => s
  | i + 1 => qr (dias s i) i (4 + (i + 1) % 4) (8 + (i + 2) % 4) (12 + (i + 3) % 4)
def dbl (s : List UInt32) : Nat → List UInt32
  | 0 => s
  | i + 1 => dias (cols (dbl s i) 4) 4
theorem cols_len (s : List UInt32) : ∀ i, (cols s i).length = s.length
  | 0 => rfl
  | i + 1 => by rw [cols, qr_len, cols_len]
theorem dias_len (s : List UInt32) : ∀ i, (dias s i).length = s.length
  | 0 => rfl
  | i + 1 => by rw [dias, qr_len, dias_len]
theorem dbl_len (s : List UInt32) : ∀ i, (dbl s i).length = s.length
  | 0 => rfl
  | i + 1 => by rw [dbl, dias_len, cols_len, dbl_len]
def ob (s t : List UInt32) : Nat → List UInt8
  | 0 => List.replicate 64 0
  | i + 1 => (ob s t i).set i (shr32n (s.getD (i / 4) 0 + t.getD (i / 4) 0) (8 * (i % 4))).toUInt8
theorem ob_len (s t : List UInt32) : ∀ i, (ob s t i).length = 64
  | 0 => by simp [ob]
  | i + 1 => by rw [ob, List.length_set, ob_len]
def ini (key : List UInt8) (ctr : UInt32) (nonce : List UInt8) : List UInt32 :=
  lw ((lw ([1634760805, 857760878, 2036477234, 1797285236] ++ List.replicate 12 0) 4 32 key 8).set 12 ctr) 13 12 nonce 3
def blk (key : List UInt8) (ctr : UInt32) (nonce : List UInt8) : List UInt8 := ob (dbl (ini key ctr nonce) 10) (ini key ctr nonce) 64
theorem blk_len (key : List UInt8) (ctr : UInt32) (nonce : List UInt8) : (blk key ctr nonce).length = 64 := ob_len _ _ _
theorem block (key : List UInt8) (ctr : UInt32) (nonce : List UInt8) (hk : key.length = 32) (hn : nonce.length = 12) : Good Try.prog 57 [.a (u8s key), .c (c32 ctr), .a (u8s nonce)] [] (sa (u8s (blk key ctr nonce))) [] := by
  refine good_frm 98 Try.func57 rfl rfl rfl rfl rfl rfl ?_
  refine awp_seq ?_
  refine rl ?_
  refine G (q_boxa ?_)
  refine G (q_boxa ?_)
  refine G (q_al ?_)
  refine gend ?_
  refine awp_seq ?_
  refine rl ?_
  refine G (q_bla (fkc (c := c32 1634760805) rfl rfl rfl (Nat.le_of_ble_eq_true rfl) (fkc (c := c32 857760878) rfl rfl rfl (Nat.le_of_ble_eq_true rfl) (fkc (c := c32 2036477234) rfl rfl rfl (Nat.le_of_ble_eq_true rfl) (fkc (c := c32 1797285236) rfl rfl rfl (Nat.le_of_ble_eq_true rfl) (fk0 ?_))))))
  refine G (q_al ?_)
  refine G0 (q_stw ?_)
  refine gend ?_
  refine awp_seq ?_
  refine awp_seq ?_
  refine rl ?_
  refine G (q_mv (s := sc (cn 0)) ?_)
  refine gend ?_
  refine awp_block ?_
  refine awp_loop (fun x : {i : Nat // i ≤ 8} => ⟨frm 98 [(1, sc (c32 ctr)), (3, sc (.ptr 0 0)), (5, sc (.ptr 1 0)), (6, sc (.ptr 2 0)), (7, sc (.ptr 3 0)), (16, sc (cn x.1))], [some (u8s key), some (u8s nonce), some (u8s (List.replicate 64 0)), some (u32s (lw ([1634760805, 857760878, 2036477234, 1797285236] ++ List.replicate 12 0) 4 32 key x.1))]⟩) (fun x => 8 - x.1) ⟨0, Nat.zero_le _⟩ (sle_sub ⟨rfl, rfl, rfl, rfl, rfl, rfl, trivial⟩ rfl) fun x => ?_
  refine awp_seq ?_
  refine rl ?_
  refine G (q_lssn (y := 8) ?_)
  refine gend ?_
  refine awp_seq ?_
  refine cnd (fun hc1 => ?_) (fun hc1 => ?_); rotate_left
  · refine awp_exit ?_
    rw [show x.1 = 8 from (by have := x.2; omega)]
    have hl8 : (lw ([1634760805, 857760878, 2036477234, 1797285236] ++ List.replicate 12 0) 4 32 key 8).length = 16 := (lw_len ..).trans rfl
    generalize hA : lw ([1634760805, 857760878, 2036477234, 1797285236] ++ List.replicate 12 0) 4 32 key 8 = A at hl8 ⊢
    refine awp_seq ?_
    refine rl ?_
    refine Mv ?_
    refine G (q_ixp1 ?_)
    refine G0 (q_stm ?_)
    refine gend ?_
    refine awp_seq ?_
    refine awp_seq ?_
    refine rl ?_
    refine G (q_mv (s := sc (cn 0)) ?_)
    refine gend ?_
    refine awp_block ?_
    refine awp_loop (fun y : {i : Nat // i ≤ 3} => ⟨frm 98 [(1, sc (c32 ctr)), (3, sc (.ptr 0 0)), (5, sc (.ptr 1 0)), (6, sc (.ptr 2 0)), (7, sc (.ptr 3 0)), (29, sc (cn y.1))], [some (u8s key), some (u8s nonce), some (u8s (List.replicate 64 0)), some (u32s (lw (A.set 12 ctr) 13 12 nonce y.1))]⟩) (fun y => 3 - y.1) ⟨0, Nat.zero_le _⟩ (sle_sub ⟨rfl, rfl, rfl, rfl, rfl, rfl, trivial⟩ rfl) fun y => ?_
    refine awp_seq ?_
    refine rl ?_
    refine G (q_lssn (y := 3) ?_)
    refine gend ?_
    refine awp_seq ?_
    refine cnd (fun hc2 => ?_) (fun hc2 => ?_); rotate_left
    · refine awp_exit ?_
      rw [show y.1 = 3 from (by have := y.2; omega)]
      have hi : (lw (A.set 12 ctr) 13 12 nonce 3).length = 16 := (lw_len ..).trans ((List.length_set ..).trans hl8)
      generalize hI : lw (A.set 12 ctr) 13 12 nonce 3 = I at hi ⊢
      refine awp_seq ?_
      refine rl ?_
      refine G (q_ldw  ?_ (hl := (mapc_length ..).trans hi))
      refine G (q_al ?_)
      refine G0 (q_stw ?_)
      refine gend ?_
      refine awp_seq ?_
      refine rl ?_
      refine G (q_mkf ?_ (caps1 (et rfl) rfl caps0))
      refine As ?_
      refine gend ?_
      refine awp_seq ?_
      refine awp_seq ?_
      refine rl ?_
      refine G (q_mv (s := sc (cn 0)) ?_)
      refine gend ?_
      refine awp_block ?_
      refine awp_loop (fun z : {i : Nat // i ≤ 10} => ⟨frm 98 [(1, sc (c32 ctr)), (3, sc (.ptr 0 0)), (5, sc (.ptr 1 0)), (6, sc (.ptr 2 0)), (7, sc (.ptr 3 0)), (10, sc (.ptr 4 0)), (11, sc (.fn 65 [.ptr 3 0])), (42, sc (cn z.1))], [some (u8s key), some (u8s nonce), some (u8s (List.replicate 64 0)), some (u32s (dbl I z.1)), some (u32s I)]⟩) (fun z => 10 - z.1) ⟨0, Nat.zero_le _⟩ (sle_sub ⟨rfl, rfl, rfl, rfl, rfl, rfl, rfl, rfl, trivial⟩ rfl) fun z => ?_
      refine awp_seq ?_
      refine rl ?_
      refine G (q_lssn (y := 10) ?_)
      refine gend ?_
      refine awp_seq ?_
      refine cnd (fun hc3 => ?_) (fun hc3 => ?_); rotate_left
      · refine awp_exit ?_
        rw [show z.1 = 10 from (by have := z.2; omega)]
        have hd := (dbl_len I 10).trans hi
        generalize hD : dbl I 10 = D at hd ⊢
        refine awp_seq ?_
        refine awp_seq ?_
        refine rl ?_
        refine G (q_mv (s := sc (cn 0)) ?_)
        refine gend ?_
        refine awp_block ?_
        refine awp_loop (fun t : {i : Nat // i ≤ 64} => ⟨frm 98 [(1, sc (c32 ctr)), (3, sc (.ptr 0 0)), (5, sc (.ptr 1 0)), (6, sc (.ptr 2 0)), (7, sc (.ptr 3 0)), (10, sc (.ptr 4 0)), (77, sc (cn t.1))], [some (u8s key), some (u8s nonce), some (u8s (ob D I t.1)), some (u32s D), some (u32s I)]⟩) (fun t => 64 - t.1) ⟨0, Nat.zero_le _⟩ (sle_sub ⟨rfl, rfl, rfl, rfl, rfl, rfl, rfl, trivial⟩ rfl) fun t => ?_
        refine awp_seq ?_
        refine rl ?_
        refine G (q_lssn (y := 64) ?_)
        refine gend ?_
        refine awp_seq ?_
        refine cnd (fun hc4 => ?_) (fun hc4 => ?_); rotate_left
        · refine awp_exit ?_
          rw [show t.1 = 64 from (by have := t.2; omega)]
          have ho := ob_len D I 64
          generalize hO : ob D I 64 = O at ho ⊢
          refine awp_seq ?_
          refine rl ?_
          refine G (q_ldw  ?_ (hl := (mapc_length ..).trans ho))
          refine G0 (q_stw ?_ (hl := (mapc_length ..).trans ho) (hc := (mapc_length ..).trans ho))
          refine gend ?_
          refine awp_ret ?_
          exact fpc (t := 104) (a := 6) (hn := by exact (mapc_length ..).trans ho) (hv := by rw [← hO, ← hD, ← hI, ← hA]; rfl)
        refine awp_skip ?_
        refine awp_seq ?_
        refine awp_block ?_
        refine awp_seq ?_
        refine rl ?_
        refine Mv ?_
        refine As ?_
        refine gend ?_
        have hot := ob_len D I t.1
        refine rdl [16] [] [0, 0, 0, 0, 0, 0, 0, 0, 0, 0, 0, 0, 0, 0, 0, 0, 1] ?_
        refine Dp (fun _ => q_mv (s := .v (.c _)) ⟨rfl, rfl⟩) ?_
        refine Dp (fun _ => q_mv (s := .v (.c _)) ⟨rfl, rfl⟩) ?_
        refine Dp (fun _ => q_quon (y := 4) ⟨rfl, rfl⟩) ?_
        refine Dp (fun _ => q_ixp1 ⟨rfl, rfl⟩) ?_
        refine DLp ?_
        refine Dp (fun _ => q_mv (s := .v (.c _)) ⟨rfl, rfl⟩) ?_
        refine Dp (fun _ => q_quon (y := 4) ⟨rfl, rfl⟩) ?_
        refine Dp (fun _ => q_ixp1 ⟨rfl, rfl⟩) ?_
        refine DLp ?_
        refine Dp (fun _ => q_add32 ⟨rfl, rfl⟩) ?_
        refine Dp (fun _ => q_mv (s := .v (.c _)) ⟨rfl, rfl⟩) ?_
        refine Dp (fun _ => q_remn (y := 4) ⟨rfl, rfl⟩) ?_
        refine Dp (fun _ => q_muln (x := 8) ⟨rfl, rfl⟩) ?_
        refine Dp (fun _ => q_shr32_0 ⟨rfl, rfl⟩) ?_
        refine Dp (fun _ => q_cv32_8 ⟨rfl, rfl⟩) ?_
        refine Dp (fun _ => q_ixp1 ⟨rfl, rfl⟩) ?_
        refine De0 (q_stm (pw ?_))
        refine dend ?_
        refine rl ?_
        refine G (q_addn (y := 1) ?_)
        refine Mv ?_
        refine gend ?_
        exact ⟨⟨t.1 + 1, by omega⟩, by show 64 - (t.1 + 1) < 64 - t.1; omega, sle_sub ⟨rfl, rfl, rfl, rfl, rfl, rfl, rfl, trivial⟩ rfl⟩
      refine awp_skip ?_
      refine awp_seq ?_
      refine awp_block ?_
      refine awp_seq ?_
      refine awp_seq ?_
      refine rl ?_
      refine G (q_mv (s := sc (cn 0)) ?_)
      refine gend ?_
      refine awp_block ?_
      refine awp_loop (fun u : {i : Nat // i ≤ 4} => ⟨frm 98 [(1, sc (c32 ctr)), (3, sc (.ptr 0 0)), (5, sc (.ptr 1 0)), (6, sc (.ptr 2 0)), (7, sc (.ptr 3 0)), (10, sc (.ptr 4 0)), (11, sc (.fn 65 [.ptr 3 0])), (42, sc (cn z.1)), (44, sc (cn u.1))], [some (u8s key), some (u8s nonce), some (u8s (List.replicate 64 0)), some (u32s (cols (dbl I z.1) u.1)), some (u32s I)]⟩) (fun u => 4 - u.1) ⟨0, Nat.zero_le _⟩ (sle_sub ⟨rfl, rfl, rfl, rfl, rfl, rfl, rfl, rfl, rfl, trivial⟩ rfl) fun u => ?_
      refine awp_seq ?_
      refine rl ?_
      refine G (q_lssn (y := 4) ?_)
      refine gend ?_
      refine awp_seq ?_
      refine cnd (fun hc5 => ?_) (fun hc5 => ?_); rotate_left
      · refine awp_exit ?_
        rw [show u.1 = 4 from (by have := u.2; omega)]
        refine awp_seq ?_
        refine rl ?_
        refine G (q_mv (s := sc (cn 0)) ?_)
        refine gend ?_
        refine awp_block ?_
        refine awp_loop (fun v : {i : Nat // i ≤ 4} => ⟨frm 98 [(1, sc (c32 ctr)), (3, sc (.ptr 0 0)), (5, sc (.ptr 1 0)), (6, sc (.ptr 2 0)), (7, sc (.ptr 3 0)), (10, sc (.ptr 4 0)), (11, sc (.fn 65 [.ptr 3 0])), (42, sc (cn z.1)), (57, sc (cn v.1))], [some (u8s key), some (u8s nonce), some (u8s (List.replicate 64 0)), some (u32s (dias (cols (dbl I z.1) 4) v.1)), some (u32s I)]⟩) (fun v => 4 - v.1) ⟨0, Nat.zero_le _⟩ (sle_sub ⟨rfl, rfl, rfl, rfl, rfl, rfl, rfl, rfl, rfl, trivial⟩ rfl) fun v => ?_
        refine awp_seq ?_
        refine rl ?_
        refine G (q_lssn (y := 4) ?_)
        refine gend ?_
        refine awp_seq ?_
        refine cnd (fun hc6 => ?_) (fun hc6 => ?_); rotate_left
        · refine awp_exit ?_
          rw [show v.1 = 4 from (by have := v.2; omega)]
          refine rl ?_
          refine G (q_addn (y := 1) ?_)
          refine Mv ?_
          refine gend ?_
          exact ⟨⟨z.1 + 1, by omega⟩, by show 10 - (z.1 + 1) < 10 - z.1; omega, sle_sub ⟨rfl, rfl, rfl, rfl, rfl, rfl, rfl, rfl, trivial⟩ rfl⟩
        refine awp_skip ?_
        refine awp_seq ?_
        refine awp_block ?_
        refine awp_seq ?_
        refine rl ?_
        refine Mv ?_
        refine As ?_
        refine gend ?_
        refine rl ?_
        refine Mv ?_
        refine Mv ?_
        refine Mv ?_
        refine G (q_addn (y := 1) ?_)
        refine G (q_remn (y := 4) ?_)
        refine G (q_addn (x := 4) ?_)
        refine Mv ?_
        refine G (q_addn (y := 2) ?_)
        refine G (q_remn (y := 4) ?_)
        refine G (q_addn (x := 8) ?_)
        refine Mv ?_
        refine G (q_addn (y := 3) ?_)
        refine G (q_remn (y := 4) ?_)
        refine G (q_addn (x := 12) ?_)
        have hl := (dias_len _ v.1).trans ((cols_len _ 4).trans ((dbl_len _ z.1).trans hi))
        refine G (q_callcw 3 (quarter _ v.1 (4 + (v.1 + 1) % 4) (8 + (v.1 + 2) % 4) (12 + (v.1 + 3) % 4) (by omega) (by omega) (by omega) (by omega) hl) ?_)
        refine gend ?_
        refine rl ?_
        refine G (q_addn (y := 1) ?_)
        refine Mv ?_
        refine gend ?_
        exact ⟨⟨v.1 + 1, by omega⟩, by show 4 - (v.1 + 1) < 4 - v.1; omega, sle_sub ⟨rfl, rfl, rfl, rfl, rfl, rfl, rfl, rfl, rfl, trivial⟩ rfl⟩
      refine awp_skip ?_
      refine awp_seq ?_
      refine awp_block ?_
      refine awp_seq ?_
      refine rl ?_
      refine Mv ?_
      refine As ?_
      refine gend ?_
      refine rl ?_
      refine Mv ?_
      refine Mv ?_
      refine Mv ?_
      refine G (q_addn (x := 4) ?_)
      refine Mv ?_
      refine G (q_addn (x := 8) ?_)
      refine Mv ?_
      refine G (q_addn (x := 12) ?_)
      have hl := (cols_len _ u.1).trans ((dbl_len _ z.1).trans hi)
      refine G (q_callcw 3 (quarter _ u.1 (4 + u.1) (8 + u.1) (12 + u.1) (by omega) (by omega) (by omega) (by omega) hl) ?_)
      refine gend ?_
      refine rl ?_
      refine G (q_addn (y := 1) ?_)
      refine Mv ?_
      refine gend ?_
      exact ⟨⟨u.1 + 1, by omega⟩, by show 4 - (u.1 + 1) < 4 - u.1; omega, sle_sub ⟨rfl, rfl, rfl, rfl, rfl, rfl, rfl, rfl, rfl, trivial⟩ rfl⟩
    refine awp_skip ?_
    refine awp_seq ?_
    refine awp_block ?_
    refine awp_seq ?_
    refine rl ?_
    refine Mv ?_
    refine As ?_
    refine gend ?_
    refine rl ?_
    refine Mv ?_
    refine G (q_addn (x := 13) ?_)
    refine Mv ?_
    refine G (q_muln (x := 4) ?_)
    refine G (q_slp_lo ?_)
    have hly : (lw (A.set 12 ctr) 13 12 nonce y.1).length = 16 := (lw_len ..).trans ((List.length_set ..).trans hl8)
    refine G (q_callp (word (12 - 4 * y.1) ((nonce.drop (0 + 4 * y.1 * 1)).take ((12 - 4 * y.1) * 1)) (by simp only [List.length_take, List.length_drop, hn]; omega) (by simp only [List.length_take, List.length_drop, hn]; omega)/- escutcheon/chacha.word -/) ?_)
    refine G (q_ixp1 ?_)
    refine G0 (q_stm ?_)
    refine gend ?_
    refine rl ?_
    refine G (q_addn (y := 1) ?_)
    refine Mv ?_
    refine gend ?_
    exact ⟨⟨y.1 + 1, by omega⟩, by show 3 - (y.1 + 1) < 3 - y.1; omega, sle_sub ⟨rfl, rfl, rfl, rfl, rfl, rfl, trivial⟩ rfl⟩
  refine awp_skip ?_
  refine awp_seq ?_
  refine awp_block ?_
  refine awp_seq ?_
  refine rl ?_
  refine Mv ?_
  refine As ?_
  refine gend ?_
  refine rl ?_
  refine Mv ?_
  refine G (q_addn (x := 4) ?_)
  refine Mv ?_
  refine G (q_muln (x := 4) ?_)
  refine G (q_slp_lo ?_)
  have hlx : (lw ([1634760805, 857760878, 2036477234, 1797285236] ++ List.replicate 12 0) 4 32 key x.1).length = 16 := (lw_len ..).trans rfl
  refine G (q_callp (word (32 - 4 * x.1) ((key.drop (0 + 4 * x.1 * 1)).take ((32 - 4 * x.1) * 1)) (by simp only [List.length_take, List.length_drop, hk]; omega) (by simp only [List.length_take, List.length_drop, hk]; omega)/- escutcheon/chacha.word -/) ?_)
  refine G (q_ixp1 ?_)
  refine G0 (q_stm ?_)
  refine gend ?_
  refine rl ?_
  refine G (q_addn (y := 1) ?_)
  refine Mv ?_
  refine gend ?_
  exact ⟨⟨x.1 + 1, by omega⟩, by show 8 - (x.1 + 1) < 8 - x.1; omega, sle_sub ⟨rfl, rfl, rfl, rfl, rfl, rfl, trivial⟩ rfl⟩
end Go.Proofs.Ytklcckngmmklhaa.Ch

/- What functions of the program do, walked over the abstract machine. -/
namespace Go.Proofs.Ytklcckngmmklhaa.Ch
open Go Go.Abs Go.Proofs
set_option maxRecDepth 20000
theorem round (s : List UInt32) (a b c d : Nat) (ha : a < 16) (hb : b < 16) (hc : c < 16) (hd : d < 16) (hs : s.length = 16) : Good Try.prog 71 [.a (u32s s), .c (cn a), .c (cn b), .c (cn c), .c (cn d)] [] (sa (u32s (qr s a b c d))) [] := by
  refine good_frm 88 Try.func71 rfl rfl rfl rfl rfl rfl ?_
  refine awp_seq ?_
  refine rl ?_
  refine G (q_boxa ?_)
  refine G (q_al ?_)
  refine gend ?_
  refine awp_seq ?_
  refine rdl [9] [] [0, 0, 0, 0, 0, 0, 0, 0, 0, 1] ?_
  refine Dp (fun _ => q_mv (s := .v (.c _)) ⟨rfl, rfl⟩) ?_
  refine Dp (fun _ => q_mv (s := .v (.c _)) ⟨rfl, rfl⟩) ?_
  refine Dp (fun _ => q_ixp1 ⟨rfl, rfl⟩) ?_
  refine DLp ?_
  refine Dp (fun _ => q_mv (s := .v (.c _)) ⟨rfl, rfl⟩) ?_
  refine Dp (fun _ => q_ixp1 ⟨rfl, rfl⟩) ?_
  refine DLp ?_
  refine Dp (fun _ => q_add32 ⟨rfl, rfl⟩) ?_
  refine Dp (fun _ => q_ixp1 ⟨rfl, rfl⟩) ?_
  refine De0 (q_stm (pw ?_))
  refine dend ?_
  refine awp_seq ?_
  refine rdl [8, 10] [0, 0, 0, 0, 0, 0, 0, 0, 0, 1, 1] [1, 0, 0, 0, 0, 0, 0, 0, 1, 1, 2] ?_
  refine Dp (fun _ => q_mv (s := .v (.c _)) ⟨rfl, rfl⟩) ?_
  refine Dp (fun _ => q_mv (s := .v (.c _)) ⟨rfl, rfl⟩) ?_
  refine Dp (fun _ => q_ixp1 ⟨rfl, rfl⟩) ?_
  refine DLp ?_
  refine Dp (fun _ => q_mv (s := .v (.c _)) ⟨rfl, rfl⟩) ?_
  refine Dp (fun _ => q_ixp1 ⟨rfl, rfl⟩) ?_
  refine DLp ?_
  refine Dp (fun _ => q_xor32 ⟨rfl, rfl⟩) ?_
  refine De (q_callp (rturn _ 16/- escutcheon/escutcheonref08.turn -/) (pw ?_))
  refine Dp (fun _ => q_ixp1 ⟨rfl, rfl⟩) ?_
  refine De0 (q_stm (pw ?_))
  refine dend ?_
  refine awp_seq ?_
  refine rdl [9] [] [0, 0, 0, 0, 0, 0, 0, 0, 0, 1] ?_
  refine Dp (fun _ => q_mv (s := .v (.c _)) ⟨rfl, rfl⟩) ?_
  refine Dp (fun _ => q_mv (s := .v (.c _)) ⟨rfl, rfl⟩) ?_
  refine Dp (fun _ => q_ixp1 ⟨rfl, rfl⟩) ?_
  refine DLp ?_
  refine Dp (fun _ => q_mv (s := .v (.c _)) ⟨rfl, rfl⟩) ?_
  refine Dp (fun _ => q_ixp1 ⟨rfl, rfl⟩) ?_
  refine DLp ?_
  refine Dp (fun _ => q_add32 ⟨rfl, rfl⟩) ?_
  refine Dp (fun _ => q_ixp1 ⟨rfl, rfl⟩) ?_
  refine De0 (q_stm (pw ?_))
  refine dend ?_
  refine awp_seq ?_
  refine rdl [8, 10] [0, 0, 0, 0, 0, 0, 0, 0, 0, 1, 1] [1, 0, 0, 0, 0, 0, 0, 0, 1, 1, 2] ?_
  refine Dp (fun _ => q_mv (s := .v (.c _)) ⟨rfl, rfl⟩) ?_
  refine Dp (fun _ => q_mv (s := .v (.c _)) ⟨rfl, rfl⟩) ?_
  refine Dp (fun _ => q_ixp1 ⟨rfl, rfl⟩) ?_
  refine DLp ?_
  refine Dp (fun _ => q_mv (s := .v (.c _)) ⟨rfl, rfl⟩) ?_
  refine Dp (fun _ => q_ixp1 ⟨rfl, rfl⟩) ?_
  refine DLp ?_
  refine Dp (fun _ => q_xor32 ⟨rfl, rfl⟩) ?_
  refine De (q_callp (rturn _ 12/- escutcheon/escutcheonref08.turn -/) (pw ?_))
  refine Dp (fun _ => q_ixp1 ⟨rfl, rfl⟩) ?_
  refine De0 (q_stm (pw ?_))
  refine dend ?_
  refine awp_seq ?_
  refine rdl [9] [] [0, 0, 0, 0, 0, 0, 0, 0, 0, 1] ?_
  refine Dp (fun _ => q_mv (s := .v (.c _)) ⟨rfl, rfl⟩) ?_
  refine Dp (fun _ => q_mv (s := .v (.c _)) ⟨rfl, rfl⟩) ?_
  refine Dp (fun _ => q_ixp1 ⟨rfl, rfl⟩) ?_
  refine DLp ?_
  refine Dp (fun _ => q_mv (s := .v (.c _)) ⟨rfl, rfl⟩) ?_
  refine Dp (fun _ => q_ixp1 ⟨rfl, rfl⟩) ?_
  refine DLp ?_
  refine Dp (fun _ => q_add32 ⟨rfl, rfl⟩) ?_
  refine Dp (fun _ => q_ixp1 ⟨rfl, rfl⟩) ?_
  refine De0 (q_stm (pw ?_))
  refine dend ?_
  refine awp_seq ?_
  refine rdl [8, 10] [0, 0, 0, 0, 0, 0, 0, 0, 0, 1, 1] [1, 0, 0, 0, 0, 0, 0, 0, 1, 1, 2] ?_
  refine Dp (fun _ => q_mv (s := .v (.c _)) ⟨rfl, rfl⟩) ?_
  refine Dp (fun _ => q_mv (s := .v (.c _)) ⟨rfl, rfl⟩) ?_
  refine Dp (fun _ => q_ixp1 ⟨rfl, rfl⟩) ?_
  refine DLp ?_
  refine Dp (fun _ => q_mv (s := .v (.c _)) ⟨rfl, rfl⟩) ?_
  refine Dp (fun _ => q_ixp1 ⟨rfl, rfl⟩) ?_
  refine DLp ?_
  refine Dp (fun _ => q_xor32 ⟨rfl, rfl⟩) ?_
  refine De (q_callp (rturn _ 8/- escutcheon/escutcheonref08.turn -/) (pw ?_))
  refine Dp (fun _ => q_ixp1 ⟨rfl, rfl⟩) ?_
  refine De0 (q_stm (pw ?_))
  refine dend ?_
  refine awp_seq ?_
  refine rdl [9] [] [0, 0, 0, 0, 0, 0, 0, 0, 0, 1] ?_
  refine Dp (fun _ => q_mv (s := .v (.c _)) ⟨rfl, rfl⟩) ?_
  refine Dp (fun _ => q_mv (s := .v (.c _)) ⟨rfl, rfl⟩) ?_
  refine Dp (fun _ => q_ixp1 ⟨rfl, rfl⟩) ?_
  refine DLp ?_
  refine Dp (fun _ => q_mv (s := .v (.c _)) ⟨rfl, rfl⟩) ?_
  refine Dp (fun _ => q_ixp1 ⟨rfl, rfl⟩) ?_
  refine DLp ?_
  refine Dp (fun _ => q_add32 ⟨rfl, rfl⟩) ?_
  refine Dp (fun _ => q_ixp1 ⟨rfl, rfl⟩) ?_
  refine De0 (q_stm (pw ?_))
  refine dend ?_
  refine awp_seq ?_
  refine rdl [8, 10] [0, 0, 0, 0, 0, 0, 0, 0, 0, 1, 1] [1, 0, 0, 0, 0, 0, 0, 0, 1, 1, 2] ?_
  refine Dp (fun _ => q_mv (s := .v (.c _)) ⟨rfl, rfl⟩) ?_
  refine Dp (fun _ => q_mv (s := .v (.c _)) ⟨rfl, rfl⟩) ?_
  refine Dp (fun _ => q_ixp1 ⟨rfl, rfl⟩) ?_
  refine DLp ?_
  refine Dp (fun _ => q_mv (s := .v (.c _)) ⟨rfl, rfl⟩) ?_
  refine Dp (fun _ => q_ixp1 ⟨rfl, rfl⟩) ?_
  refine DLp ?_
  refine Dp (fun _ => q_xor32 ⟨rfl, rfl⟩) ?_
  refine De (q_callp (rturn _ 7/- escutcheon/escutcheonref08.turn -/) (pw ?_))
  refine Dp (fun _ => q_ixp1 ⟨rfl, rfl⟩) ?_
  refine De0 (q_stm (pw ?_))
  refine dend ?_
  refine awp_seq ?_
  refine rl ?_
  refine G (q_ldw ?_)
  refine G0 (q_stw ?_)
  refine gend ?_
  refine awp_ret ?_
  exact fpc (t := 109) (a := 10) (hn := by simp only [mapc_length, List.length_set]; exact hs)
def txt (key : List UInt8) (ctr : UInt32) (nonce : List UInt8) : List UInt8 :=
  (([101, 120, 112, 97, 110, 100, 32, 51, 50, 45, 98, 121, 116, 101, 32, 107] ++ key) ++ [ctr.toUInt8, (shr32n ctr 8).toUInt8, (shr32n ctr 16).toUInt8, (shr32n ctr 24).toUInt8]) ++ nonce
def rst (T : List UInt8) : Nat → List UInt32
  | 0 => List.replicate 16 0
  | k + 1 => (rst T k).set ((63 - k) / 4) ((rst T k).getD ((63 - k) / 4) 0 * 256 + (T.getD (63 - k) 0).toUInt32)
end Go.Proofs.Ytklcckngmmklhaa.Ch

/- What functions of the program do, walked over the abstract machine. -/
namespace Go.Proofs.Ytklcckngmmklhaa.Ch
open Go Go.Abs Go.Proofs
set_option maxRecDepth 20000
def xw (key : List UInt8) (ctr : UInt32) (nonce l : List UInt8) (i : Nat) : List UInt8 :=
  (List.range i).map fun j => l.getD j 0 ^^^ (blk key (ctr + UInt32.ofNat (j / 64)) nonce).getD (j % 64) 0
theorem xw_len (key : List UInt8) (ctr : UInt32) (nonce l : List UInt8) (i : Nat) : (xw key ctr nonce l i).length = i := by simp [xw]
theorem xw_succ (key : List UInt8) (ctr : UInt32) (nonce l : List UInt8) (i : Nat) : xw key ctr nonce l (i + 1) = xw key ctr nonce l i ++ [l.getD i 0 ^^^ (blk key (ctr + UInt32.ofNat (i / 64)) nonce).getD (i % 64) 0] := by
  simp [xw, List.range_succ]
theorem xw_set (key : List UInt8) (ctr : UInt32) (nonce l : List UInt8) (n i : Nat) (h : i < n) (v : UInt8) (hv : v = l.getD i 0 ^^^ (blk key (ctr + UInt32.ofNat (i / 64)) nonce).getD (i % 64) 0) :
    (xw key ctr nonce l i ++ List.replicate (n - i) 0).set i v = xw key ctr nonce l (i + 1) ++ List.replicate (n - (i + 1)) 0 := by
  subst hv
  rw [xw_succ, List.set_append_right _ _ (by rw [xw_len]; exact Nat.le_refl _), xw_len, Nat.sub_self, show n - i = (n - (i + 1)) + 1 by omega, List.replicate_succ, List.set_cons_zero, List.append_assoc]
  rfl
theorem xw_pad (key : List UInt8) (ctr : UInt32) (nonce l : List UInt8) (n i : Nat) (h : i ≤ n) : (xw key ctr nonce l i ++ List.replicate (n - i) 0).length = n := by simp [xw_len]; omega
theorem ctr_next (ctr : UInt32) (i : Nat) (h : i % 64 = 0) : ctr + UInt32.ofNat ((i + 63) / 64) + 1 = ctr + UInt32.ofNat ((i + 1 + 63) / 64) := by
  rw [show (i + 1 + 63) / 64 = (i + 63) / 64 + 1 by omega, UInt32.ofNat_add, UInt32.add_assoc]
  rfl
theorem xor (key : List UInt8) (ctr : UInt32) (nonce : List UInt8) (n : Nat) (l : List UInt8) (hk : key.length = 32) (hn : nonce.length = 12) (hl : l.length = n) (hb : n ≤ 100000000) : Good Try.prog 51 [.a (u8s key), .c (c32 ctr), .a (u8s nonce), .c (.ro n (u8s l))] [] (sc (.slc 0 0 n 1)) [some (u8s (xw key ctr nonce l n))] := by
  refine good_frm 43 Try.func51 rfl rfl rfl rfl rfl rfl ?_
  refine awp_seq ?_
  refine rl ?_
  refine G (q_boxa ?_)
  refine G (q_boxa ?_)
  refine As ?_
  refine gend ?_
  refine awp_seq ?_
  refine rl ?_
  refine Mv ?_
  refine G (q_leno ?_)
  refine G (q_mks ?_)
  refine As ?_
  refine gend ?_
  refine awp_seq ?_
  refine rl ?_
  refine G (q_al ?_)
  refine gend ?_
  refine awp_seq ?_
  refine awp_seq ?_
  refine rl ?_
  refine Mv ?_
  refine G (q_leno ?_)
  refine G (q_mv (s := sc (cn 0)) ?_)
  refine gend ?_
  refine awp_block ?_
  refine awp_loop (fun x : {p : Nat × List UInt8 // p.1 ≤ n ∧ p.2.length = 64 ∧ (p.1 % 64 ≠ 0 → p.2 = blk key (ctr + UInt32.ofNat (p.1 / 64)) nonce)} => ⟨frm 43 [(1, sc (c32 (ctr + UInt32.ofNat ((x.1.1 + 63) / 64)))), (3, sc (.ro n (u8s l))), (4, sc (.ptr 0 0)), (6, sc (.ptr 1 0)), (9, sc (.slc 2 0 n 1)), (10, sc (.ptr 3 0)), (16, sc (cn n)), (17, sc (cn x.1.1))], [some (u8s key), some (u8s nonce), some (u8s (xw key ctr nonce l x.1.1 ++ List.replicate (n - x.1.1) 0)), some (u8s x.1.2)]⟩) (fun x => n - x.1.1) ⟨(0, List.replicate 64 0), Nat.zero_le _, by simp, by simp⟩ (sle_sub ⟨by show sc (c32 ctr) = sc (c32 (ctr + UInt32.ofNat ((0 + 63) / 64))); simp, rfl, rfl, rfl, rfl, rfl, rfl, rfl, trivial⟩ (congrArg (fun z => [some (u8s key), some (u8s nonce), some z, some (u8s (List.replicate 64 0))]) (by simp [rep, mapc, xw]))) fun x => ?_
  refine awp_seq ?_
  refine rl ?_
  refine G (q_lssn ?_)
  refine gend ?_
  refine awp_seq ?_
  refine cnd (fun hc1 => ?_) (fun hc1 => ?_); rotate_left
  · refine awp_exit ?_
    rw [show x.1.1 = n from (by have := x.2.1; omega)]
    refine awp_seq ?_
    refine rl ?_
    refine Mv ?_
    refine As ?_
    refine gend ?_
    refine awp_ret ?_
    exact fn1 2 (hH := by simp)
  refine awp_skip ?_
  refine awp_seq ?_
  refine awp_block ?_
  refine awp_seq ?_
  refine rl ?_
  refine Mv ?_
  refine As ?_
  refine gend ?_
  refine awp_seq ?_
  refine awp_seq ?_
  refine rl ?_
  refine Mv ?_
  refine G (q_remn (y := 64) ?_)
  refine G (q_eqln (y := 0) ?_)
  refine gend ?_
  refine cnd (fun hc2 => ?_) (fun hc2 => ?_)
  · refine awp_seq ?_
    refine rl ?_
    refine G (q_ldw ?_)
    refine Mv ?_
    refine G (q_ldw ?_)
    refine G (q_callp (block key (ctr + UInt32.ofNat ((x.1.1 + 63) / 64)) nonce hk hn/- escutcheon/chacha.Block -/) ?_)
    obtain ⟨B, hB⟩ : ∃ B, B = blk key (ctr + UInt32.ofNat ((x.1.1 + 63) / 64)) nonce := ⟨_, rfl⟩
    have hbl : B.length = 64 := hB ▸ blk_len key (ctr + UInt32.ofNat ((x.1.1 + 63) / 64)) nonce
    rw [← hB]
    refine G0 (q_stw ?_ (hl := (mapc_length ..).trans hbl) (hc := (mapc_length ..).trans x.2.2.1))
    refine gend ?_
    refine rl ?_
    refine Mv ?_
    refine G (q_add32 (y := 1) ?_)
    refine As ?_
    refine gend ?_
    have hks := x.2.2.1
    have hpad := xw_pad key ctr nonce l n x.1.1 x.2.1
    refine rdl [12] [] [0, 0, 0, 0, 0, 0, 0, 0, 0, 0, 0, 0, 1] ?_
    refine Dp (fun _ => q_mv (s := .v (.c _)) ⟨rfl, rfl⟩) ?_
    refine Dp (fun _ => q_mv (s := .v (.c _)) ⟨rfl, rfl⟩) ?_
    refine Dp (fun _ => q_mv (s := .v (.c _)) ⟨rfl, rfl⟩) ?_
    refine Dp (fun _ => q_mv (s := .v (.c _)) ⟨rfl, rfl⟩) ?_
    refine Dp (fun _ => q_ixo1 ⟨rfl, rfl⟩) ?_
    refine Dp (fun _ => q_ldrd ⟨rfl, rfl⟩) ?_
    refine Dp (fun _ => q_mv (s := .v (.c _)) ⟨rfl, rfl⟩) ?_
    refine Dp (fun _ => q_remn (y := 64) ⟨rfl, rfl⟩) ?_
    refine Dp (fun _ => q_ixp1 ⟨rfl, rfl⟩) ?_
    refine DLp ?_
    refine Dp (fun _ => q_xor8 ⟨rfl, rfl⟩) ?_
    refine Dp (fun _ => q_ixs1 ⟨rfl, rfl⟩) ?_
    refine De0 (q_stm (pw ?_))
    refine dend ?_
    refine rl ?_
    refine G (q_addn (y := 1) ?_)
    refine Mv ?_
    refine gend ?_
    exact ⟨⟨(x.1.1 + 1, B), by show x.1.1 + 1 ≤ n; omega, hbl, fun _ => by show B = blk key (ctr + UInt32.ofNat ((x.1.1 + 1) / 64)) nonce; rw [hB, show (x.1.1 + 1) / 64 = (x.1.1 + 63) / 64 by omega]⟩, by show n - (x.1.1 + 1) < n - x.1.1; omega, sle_sub ⟨congrArg (fun i => sc (c32 i)) (ctr_next ctr x.1.1 hc2), rfl, rfl, rfl, rfl, rfl, rfl, rfl, trivial⟩ (congrArg (fun z => [some (u8s key), some (u8s nonce), some (u8s z), some (u8s B)]) (xw_set key ctr nonce l n x.1.1 hc1 _ (by rw [hB, show (x.1.1 + 63) / 64 = x.1.1 / 64 by omega])))⟩
  refine awp_skip ?_
  have hks := x.2.2.1
  have hpad := xw_pad key ctr nonce l n x.1.1 x.2.1
  refine rdl [12] [] [0, 0, 0, 0, 0, 0, 0, 0, 0, 0, 0, 0, 1] ?_
  refine Dp (fun _ => q_mv (s := .v (.c _)) ⟨rfl, rfl⟩) ?_
  refine Dp (fun _ => q_mv (s := .v (.c _)) ⟨rfl, rfl⟩) ?_
  refine Dp (fun _ => q_mv (s := .v (.c _)) ⟨rfl, rfl⟩) ?_
  refine Dp (fun _ => q_mv (s := .v (.c _)) ⟨rfl, rfl⟩) ?_
  refine Dp (fun _ => q_ixo1 ⟨rfl, rfl⟩) ?_
  refine Dp (fun _ => q_ldrd ⟨rfl, rfl⟩) ?_
  refine Dp (fun _ => q_mv (s := .v (.c _)) ⟨rfl, rfl⟩) ?_
  refine Dp (fun _ => q_remn (y := 64) ⟨rfl, rfl⟩) ?_
  refine Dp (fun _ => q_ixp1 ⟨rfl, rfl⟩) ?_
  refine DLp ?_
  refine Dp (fun _ => q_xor8 ⟨rfl, rfl⟩) ?_
  refine Dp (fun _ => q_ixs1 ⟨rfl, rfl⟩) ?_
  refine De0 (q_stm (pw ?_))
  refine dend ?_
  refine rl ?_
  refine G (q_addn (y := 1) ?_)
  refine Mv ?_
  refine gend ?_
  exact ⟨⟨(x.1.1 + 1, x.1.2), by show x.1.1 + 1 ≤ n; omega, hks, fun h => by have h' : (x.1.1 + 1) % 64 ≠ 0 := h; show x.1.2 = _; rw [x.2.2.2 hc2, show (x.1.1 + 1) / 64 = x.1.1 / 64 by omega]⟩, by show n - (x.1.1 + 1) < n - x.1.1; omega, sle_sub ⟨congrArg (fun i => sc (c32 i)) (by rw [show (x.1.1 + 1 + 63) / 64 = (x.1.1 + 63) / 64 by omega]), rfl, rfl, rfl, rfl, rfl, rfl, rfl, trivial⟩ (congrArg (fun z => [some (u8s key), some (u8s nonce), some (u8s z), some (u8s x.1.2)]) (xw_set key ctr nonce l n x.1.1 hc1 _ (by rw [x.2.2.2 hc2])))⟩
end Go.Proofs.Ytklcckngmmklhaa.Ch

/- The reference takes the same words of its text. -/
namespace Go.Proofs.Ytklcckngmmklhaa.Ch
open Go Go.Abs Go.Proofs
theorem shr_nat (x : UInt32) (n : Nat) (hn : n < 32) : (shr32n x n).toNat = x.toNat / 2 ^ n := by
  unfold shr32n
  rw [if_pos hn, UInt32.toNat_shiftRight, UInt32.toNat_ofNat', Nat.mod_eq_of_lt (show n < 2 ^ 32 by omega), Nat.mod_eq_of_lt hn, Nat.shiftRight_eq_div_pow]
def rw4 (T : List UInt8) (j : Nat) : UInt32 := (((0 * 256 + (T.getD (4 * j + 3) 0).toUInt32) * 256 + (T.getD (4 * j + 2) 0).toUInt32) * 256 + (T.getD (4 * j + 1) 0).toUInt32) * 256 + (T.getD (4 * j) 0).toUInt32
end Go.Proofs.Ytklcckngmmklhaa.Ch

/- What functions of the program do, walked over the abstract machine. -/
namespace Go.Proofs.Ytklcckngmmklhaa.Ch
open Go Go.Abs Go.Proofs
set_option maxRecDepth 20000
end Go.Proofs.Ytklcckngmmklhaa.Ch

/- What functions of the program do, walked over the abstract machine. -/
namespace Go.Proofs.Ytklcckngmmklhaa.Ae
open Go Go.Abs Go.Proofs Go.Proofs.Ytklcckngmmklhaa.Ch Go.Proofs.Ytklcckngmmklhaa.Po
set_option maxRecDepth 20000
def num8 (n : UInt64) : Nat → List UInt8
  | 0 => []
  | i + 1 => num8 n i ++ [(shr64n n (8 * i)).toUInt8]
theorem num8_len (n : UInt64) : ∀ i, (num8 n i).length = i
  | 0 => rfl
  | i + 1 => by rw [num8, List.length_append, num8_len n i]; rfl
def padz (n : Nat) : List UInt8 := List.replicate ((16 - n % 16) % 16) 0
theorem padz_len (n : Nat) : (padz n).length = (16 - n % 16) % 16 := by simp [padz]
def amsg (ad c : List UInt8) : List UInt8 := ad ++ (padz ad.length ++ (c ++ (padz c.length ++ (num8 (UInt64.ofNat ad.length) 8 ++ num8 (UInt64.ofNat c.length) 8))))
def amark (key nonce ad c : List UInt8) : List UInt8 := tag ((blk key 0 nonce).take 32) (amsg ad c)
theorem amark_len (key nonce ad c : List UInt8) : (amark key nonce ad c).length = 16 := tag_len _ _
def aseal (key nonce ad l : List UInt8) : List UInt8 := xw key 1 nonce l l.length ++ amark key nonce ad (xw key 1 nonce l l.length)
theorem aseal_len (key nonce ad l : List UInt8) : (aseal key nonce ad l).length = l.length + 16 := by rw [aseal, List.length_append, xw_len, amark_len]
def anonce (n : UInt64) : List UInt8 := [0, 0, 0, 0] ++ num8 n 8
theorem anonce_len (n : UInt64) : (anonce n).length = 12 := by rw [anonce, List.length_append, num8_len]; rfl
theorem cut_pre {l : List UInt8} {k : Nat} : ((u8s l).drop 0).take k = u8s (l.take k) := by rw [List.drop_zero, mapc_take]
theorem amsg_len (ad c : List UInt8) : (amsg ad c).length ≤ ad.length + c.length + 46 := by
  simp only [amsg, List.length_append, padz_len, num8_len]; omega
theorem u8_snoc (l : List UInt8) (x : UInt8) : u8s l ++ [c8 x] = u8s (l ++ [x]) := by simp [mapc]
theorem number_ (n : UInt64) : Good Try.prog 53 [.c (c64 n)] [] (sc (.slc 0 0 8 1)) [some (u8s (num8 n 8))] := by
  refine good_frm 17 Try.func53 rfl rfl rfl rfl rfl rfl ?_
  refine awp_seq ?_
  refine rln ?_
  refine As ?_
  refine gend ?_
  refine awp_seq ?_
  refine awp_seq ?_
  refine rln ?_
  refine G (q_mv (s := sc (cn 0)) ?_)
  refine gend ?_
  refine awp_le (sle_empty (al' := [(0, sc (c64 n)), (2, sc (.slc 0 0 0 1)), (4, sc (cn 0))]) 1 (Nat.zero_le _) ⟨.inl rfl, .inr ⟨rfl, rfl⟩, .inl rfl, trivial⟩) ?_
  refine awp_block ?_
  refine awp_loop (fun x : {i : Nat // i ≤ 8} => ⟨frm 17 [(0, sc (c64 n)), (2, sc (.slc 0 0 x.1 1)), (4, sc (cn x.1))], [some (u8s (num8 n x.1))]⟩) (fun x => 8 - x.1) ⟨0, Nat.zero_le _⟩ (sle_sub ⟨rfl, rfl, rfl, trivial⟩ rfl) fun x => ?_
  have h5 := num8_len n x.1
  refine awp_seq ?_
  refine rln ?_
  refine G (q_lssn (y := 8) ?_)
  refine gend ?_
  refine awp_seq ?_
  refine cnd (fun hc1 => ?_) (fun hc1 => ?_); rotate_left
  · refine awp_exit ?_
    rw [show x.1 = 8 from (by have := x.2; omega)]
    refine awp_seq ?_
    refine rln ?_
    refine Mv ?_
    refine As ?_
    refine gend ?_
    refine awp_ret ?_
    exact fx1 [0] (hm0 := rfl) (hH := pl1 rfl sees_m pl0)
  refine awp_skip ?_
  refine awp_seq ?_
  refine awp_block ?_
  refine awp_seq ?_
  refine rln ?_
  refine Mv ?_
  refine As ?_
  refine gend ?_
  refine rln ?_
  refine Mv ?_
  refine Mv ?_
  refine Mv ?_
  refine G (q_muln (x := 8) ?_)
  refine G (q_shr64_0 ?_)
  refine G (q_cv64_8 ?_)
  refine G2 (fun _ k_ => q_bsl (fkc rfl (et rfl) rfl (Nat.le_of_ble_eq_true rfl) (fk0 k_))) ?_
  refine G2 (fun _ k_ => q_app k_) ?_
  refine As ?_
  refine gend ?_
  refine rln ?_
  refine G (q_addn (y := 1) ?_)
  refine Mv ?_
  refine gend ?_
  exact ⟨⟨x.1 + 1, by omega⟩, by show 8 - (x.1 + 1) < 8 - x.1; omega, sle_view [2] (fun p h => absurd h (Nat.not_lt_zero _)) (by decide) ⟨rfl, rfl, rfl, trivial⟩ (vh1 (pick_m (congrArg (fun z => some (some z)) (u8_snoc (num8 n x.1) _))))⟩
theorem pad_ (l : List UInt8) (n : Nat) (hl : l.length = n) (hn : n ≤ 140737488351232) : Good Try.prog 58 [.c (.ro n (u8s l))] [] (sc (.slc 0 0 ((16 - n % 16) % 16) 1)) [some (u8s (padz n))] := by
  refine good_frm 8 Try.func58 rfl rfl rfl rfl rfl rfl ?_
  refine awp_seq ?_
  refine rln ?_
  refine As ?_
  refine gend ?_
  refine awp_seq ?_
  refine rln ?_
  refine Mv ?_
  refine G (q_leno ?_)
  refine G (q_negi ?_)
  refine G (q_pad15 ?_)
  refine G2 (fun _ k_ => q_mks k_) ?_
  refine As ?_
  refine gend ?_
  refine awp_ret ?_
  exact fx1 [0] (hm0 := rfl) (hH := pl1 (cs' := u8s (padz n)) rfl (by rw [rep_u8]; exact sees_m) pl0)
set_option maxHeartbeats 1600000 in
theorem mark_ (key nonce ad c : List UInt8) (n k : Nat) (hkey : key.length = 32) (hnonce : nonce.length = 12) (had : ad.length = n) (hn : n ≤ 10000) (hc : c.length = k) (hk : k ≤ 10000) : Good Try.prog 52 [.a (u8s key), .a (u8s nonce), .c (.ro n (u8s ad)), .c (.ro k (u8s c))] [] (sa (u8s (amark key nonce ad c))) [] := by
  have g1 := block key 0 nonce hkey hnonce
  obtain ⟨B, hB⟩ : ∃ z, blk key 0 nonce = z := ⟨_, rfl⟩
  have hBl : B.length = 64 := by rw [← hB]; exact blk_len _ _ _
  rw [hB] at g1
  have hB2 : (B.take 32).length = 32 := by rw [List.length_take, hBl]; rfl
  have hpa := padz_len n
  have hpc := padz_len k
  have hna := num8_len (UInt64.ofNat n) 8
  have hnc := num8_len (UInt64.ofNat k) 8
  have hml := amsg_len ad c
  have g2 := tag_ (B.take 32) [ad, padz n, c, padz k, num8 (UInt64.ofNat n) 8, num8 (UInt64.ofNat k) 8] 6 hB2 rfl (by decide) (by simp only [List.flatten_cons, List.flatten_nil, List.length_append, List.length_nil]; omega)
  rw [show [ad, padz n, c, padz k, num8 (UInt64.ofNat n) 8, num8 (UInt64.ofNat k) 8].flatten = amsg ad c by simp [amsg, had, hc]] at g2
  have gpa := pad_ ad n had (by omega)
  have gpc := pad_ c k hc (by omega)
  have gna := number_ (UInt64.ofNat n)
  have gnc := number_ (UInt64.ofNat k)
  obtain ⟨T, hT⟩ : ∃ z, tag (B.take 32) (amsg ad c) = z := ⟨_, rfl⟩
  have hTl : T.length = 16 := by rw [← hT]; exact tag_len _ _
  rw [hT] at g2
  rw [show amark key nonce ad c = T by rw [← hT, ← hB]; rfl]
  obtain ⟨PA, hPA⟩ : ∃ z, padz n = z := ⟨_, rfl⟩
  obtain ⟨PC, hPC⟩ : ∃ z, padz k = z := ⟨_, rfl⟩
  obtain ⟨NA, hNA⟩ : ∃ z, num8 (UInt64.ofNat n) 8 = z := ⟨_, rfl⟩
  obtain ⟨NC, hNC⟩ : ∃ z, num8 (UInt64.ofNat k) 8 = z := ⟨_, rfl⟩
  rw [hPA] at gpa g2 hpa
  rw [hPC] at gpc g2 hpc
  rw [hNA] at gna g2 hna
  rw [hNC] at gnc g2 hnc
  refine good_frm 35 Try.func52 rfl rfl rfl rfl rfl rfl ?_
  refine awp_seq ?_
  refine rln ?_
  refine G2 (fun _ k_ => q_boxa k_) ?_
  refine G2 (fun _ k_ => q_boxa k_) ?_
  refine G2 (fun _ k_ => q_al k_) ?_
  refine gend ?_
  refine awp_seq ?_
  refine rln ?_
  refine G (q_ldw ?_)
  refine G (q_ldw ?_)
  refine G2 (fun _ k_ => q_callp g1 k_ (ha := (caa (et rfl) sees_m (cac rfl cm_int (caa (et rfl) sees_m ca0))))) ?_
  refine G2 (fun _ k_ => q_al k_) ?_
  refine G20 (fun _ k_ => q_stw k_) ?_
  refine gend ?_
  refine awp_seq ?_
  refine rln ?_
  refine As ?_
  refine gend ?_
  refine awp_seq ?_
  refine rdln [6, 10, 14, 18, 19, 20, 21] [0, 0, 0, 0, 0, 0, 0, 0, 0, 0, 1, 0, 0, 0, 2, 0, 0, 0, 3, 4, 5, 6] [5, 5, 5, 4, 0, 0, 1, 4, 1, 1, 2, 2, 2, 2, 3, 3, 3, 3, 4, 5, 6, 7] ?_
  refine DSp 3 rfl (fun _ hv => q_slp_hi (k := 32) ⟨rfl, rfl⟩ (hp := hv)) ?_
  refine Dp (fun _ => q_s2p ⟨rfl, rfl⟩) ?_
  refine DLa (xs := u8s (B.take 32)) ?_ (hc := cut_pre) (_hp := rfl)
  refine Dp (fun _ => q_mv (s := .v (.c _)) ⟨rfl, rfl⟩) ?_
  refine Dp (fun _ => q_mv (s := .v (.c _)) ⟨rfl, rfl⟩) ?_
  refine Dp (fun _ => q_mv (s := .v (.c _)) ⟨rfl, rfl⟩) ?_
  refine De2 (fun _ k_ => q_callfn gpa k_ (ha := cac (et rfl) sees_ro ca0)) ?_
  refine Dp (fun _ => q_mv (s := .v (.c _)) ⟨rfl, rfl⟩) ?_
  refine Dp (fun _ => q_mv (s := .v (.c _)) ⟨rfl, rfl⟩) ?_
  refine Dp (fun _ => q_mv (s := .v (.c _)) ⟨rfl, rfl⟩) ?_
  refine De2 (fun _ k_ => q_callfn gpc k_ (ha := cac (et rfl) sees_ro ca0)) ?_
  refine Dp (fun _ => q_mv (s := .v (.c _)) ⟨rfl, rfl⟩) ?_
  refine Dp (fun _ => q_leno ⟨rfl, rfl⟩) ?_
  refine Dp (fun _ => q_cv0_64 ⟨rfl, rfl⟩) ?_
  refine De2 (fun _ k_ => q_calln gna k_ (ha := (cac (et rfl) cm_int ca0))) ?_
  refine Dp (fun _ => q_mv (s := .v (.c _)) ⟨rfl, rfl⟩) ?_
  refine Dp (fun _ => q_leno ⟨rfl, rfl⟩) ?_
  refine Dp (fun _ => q_cv0_64 ⟨rfl, rfl⟩) ?_
  refine De2 (fun _ k_ => q_calln gnc k_ (ha := (cac (et rfl) cm_int ca0))) ?_
  refine De2 (fun _ k_ => q_bsl (fkc rfl (et rfl) rfl (Nat.le_of_ble_eq_true rfl) (fkc rfl (et rfl) rfl (Nat.le_of_ble_eq_true rfl) (fkc rfl (et rfl) rfl (Nat.le_of_ble_eq_true rfl) (fkc rfl (et rfl) rfl (Nat.le_of_ble_eq_true rfl) (fkc rfl (et rfl) rfl (Nat.le_of_ble_eq_true rfl) (fkc rfl (et rfl) rfl (Nat.le_of_ble_eq_true rfl) (fk0 k_)))))))) ?_
  refine De2 (fun _ k_ => q_callp g2 k_ (ha := (caa (et rfl) sees_m (cac (et rfl) (sees_parts rfl rfl (pq_ro had (pq_slc rfl rfl (cut_h hpa) hpa (pq_ro hc (pq_slc rfl rfl (cut_h hpc) hpc (pq_slc rfl rfl (cut_h hna) hna (pq_slc rfl rfl (cut_h hnc) hnc pq0))))))) ca0)))) ?_
  refine De20 (fun _ k_ => q_stw k_) ?_
  refine dend ?_
  refine awp_ret ?_
  exact fpc (t := 99) (a := 8) (hn := (mapc_length ..).trans hTl)
end Go.Proofs.Ytklcckngmmklhaa.Ae

/- What functions of the program do, walked over the abstract machine. -/
namespace Go.Proofs.Ytklcckngmmklhaa.Ae
open Go Go.Abs Go.Proofs Go.Proofs.Ytklcckngmmklhaa.Ch Go.Proofs.Ytklcckngmmklhaa.Po
set_option maxRecDepth 20000
theorem take0_m {l : List UInt8} {c : Nat} : ((u8s l).drop (0 * 1)).take (c * 1) = u8s (l.take c) := by rw [Nat.mul_one, Nat.mul_one, cut_m]; rfl
theorem drop_m {l : List UInt8} {c n : Nat} (h : l.length = n) : ((u8s l).drop (c * 1)).take ((n - c) * 1) = u8s (l.drop c) := by
  rw [Nat.mul_one, Nat.mul_one, cut_m, List.take_of_length_le (by rw [List.length_drop]; omega)]
theorem all_m {l : List UInt8} {n : Nat} (h : l.length = n) : (u8s l).take n = u8s l := by rw [List.take_of_length_le (by rw [mapc_length]; omega)]
def aopen (key nonce ad s : List UInt8) : Option (List UInt8) :=
  if s.length < 16 then none
  else if amark key nonce ad (s.take (s.length - 16)) = s.drop (s.length - 16) then some (xw key 1 nonce (s.take (s.length - 16)) (s.length - 16)) else none
theorem aopen_len {key nonce ad s p : List UInt8} (h : aopen key nonce ad s = some p) : p.length + 16 = s.length := by
  unfold aopen at h
  split at h
  · cases h
  · split at h
    · cases h; rw [xw_len]; omega
    · cases h
theorem cpy_n (n : List UInt8) (h : n.length = 8) : splice (u8s (List.replicate 12 0)) 4 ((u8s n).take (min 8 8 * 1)) = u8s ([0, 0, 0, 0] ++ n) := by
  rw [show min 8 8 * 1 = 8 from rfl, all_m h]
  simp [splice, mapc, h]
set_option maxHeartbeats 800000 in
theorem seal_ (key nonce ad l : List UInt8) (n k : Nat) (hkey : key.length = 32) (hnonce : nonce.length = 12) (had : ad.length = n) (hn : n ≤ 10000) (hc : l.length = k) (hk : k ≤ 10000) : Good Try.prog 39 [.a (u8s key), .a (u8s nonce), .c (.ro n (u8s ad)), .c (.ro k (u8s l))] [] (sc (.slc 0 0 (k + 16) 1)) [some (u8s (aseal key nonce ad l))] := by
  have g1 := xor key 1 nonce k l hkey hnonce hc (by omega)
  obtain ⟨C, hC⟩ : ∃ z, xw key 1 nonce l k = z := ⟨_, rfl⟩
  have hCl : C.length = k := by rw [← hC]; exact xw_len _ _ _ _ _
  rw [hC] at g1
  have g2 := mark_ key nonce ad C n k hkey hnonce had hn hCl hk
  obtain ⟨T, hT⟩ : ∃ z, amark key nonce ad C = z := ⟨_, rfl⟩
  have hTl : T.length = 16 := by rw [← hT]; exact amark_len _ _ _ _
  rw [hT] at g2
  rw [show aseal key nonce ad l = C ++ T by rw [← hT, ← hC, ← hc]; rfl]
  refine good_frm 23 Try.func39 rfl rfl rfl rfl rfl rfl ?_
  refine awp_seq ?_
  refine rln ?_
  refine G2 (fun _ k_ => q_boxa k_) ?_
  refine G2 (fun _ k_ => q_boxa k_) ?_
  refine As ?_
  refine gend ?_
  refine awp_seq ?_
  refine rln ?_
  refine G (q_ldw ?_)
  refine G (q_ldw ?_)
  refine Mv ?_
  refine G2 (fun _ k_ => q_calln g1 k_ (ha := (caa (et rfl) sees_m (cac rfl cm_int (caa (et rfl) sees_m (cac (et rfl) sees_ro ca0)))))) ?_
  refine As ?_
  refine gend ?_
  refine awp_seq ?_
  refine rln ?_
  refine G (q_ldw ?_)
  refine G (q_ldw ?_)
  refine Mv ?_
  refine Mv ?_
  refine G2 (fun _ k_ => q_callp g2 k_ (ha := (caa (et rfl) sees_m (caa (et rfl) sees_m (cac (et rfl) sees_ro (cac (et rfl) (sees_slc rfl rfl (cut_h hCl)) ca0)))))) ?_
  refine G2 (fun _ k_ => q_al k_) ?_
  refine G20 (fun _ k_ => q_stw k_) ?_
  refine gend ?_
  refine awp_seq ?_
  refine rln ?_
  refine Mv ?_
  refine G (q_slp_no ?_)
  refine G2 (fun _ k_ => q_app k_) ?_
  refine As ?_
  refine gend ?_
  refine awp_ret ?_
  exact fx1 [4] (hm0 := rfl) (hH := pl1 (cs' := u8s (C ++ T)) rfl (by rw [mapc_append]; exact sees_m) pl0)
theorem open_short (key nonce ad s : List UInt8) (n k : Nat) (hkey : key.length = 32) (hnonce : nonce.length = 12) (had : ad.length = n) (hn : n ≤ 10000) (hc : s.length = k) (hk : k ≤ 10000) (h : k < 16) : Good Try.prog 50 [.a (u8s key), .a (u8s nonce), .c (.ro n (u8s ad)), .c (.ro k (u8s s))] [] (.t [.c .nils, .c (cn 8)]) [] := by
  refine good_frm 38 Try.func50 rfl rfl rfl rfl rfl rfl ?_
  refine awp_seq ?_
  refine rln ?_
  refine G2 (fun _ k_ => q_boxa k_) ?_
  refine G2 (fun _ k_ => q_boxa k_) ?_
  refine As ?_
  refine G (q_as (s := sc (cn 0)) ?_)
  refine gend ?_
  refine awp_seq ?_
  refine rln ?_
  refine Mv ?_
  refine G (q_leno ?_)
  refine G (q_subi (y := 16) ?_)
  refine As ?_
  refine gend ?_
  refine awp_seq ?_
  refine awp_seq ?_
  refine rdln [9, 15] [0, 0, 0, 0, 0, 0, 0, 0, 0, 0, 0, 0, 0, 0, 0, 1, 2, 2] [0, 0, 0, 0, 0, 0, 0, 0, 0, 1, 1, 1, 1, 1, 1, 2, 2, 2] ?_
  refine Dp (fun _ => q_mv (s := .v (.c _)) ⟨rfl, rfl⟩) ?_
  refine Dp (fun _ => q_lssi (y := 0) ⟨rfl, rfl⟩) ?_
  refine Dp (fun _ => q_mv (s := .v (.c _)) ⟨rfl, rfl⟩) ?_
  refine Dknd 16 (fun hb3 => ?_) ?_; rotate_left
  · omega
  refine Dn ?_
  refine Dn ?_
  refine Dn ?_
  refine Dn ?_
  refine Dn ?_
  refine Dn ?_
  refine Dm ?_
  refine Dn ?_
  refine Dn ?_
  refine Dn ?_
  refine Dn ?_
  refine Dn ?_
  refine Dm ?_
  refine Dn ?_
  refine Dp (fun _ => q_pkt ⟨rfl, rfl⟩) ?_
  refine dend ?_
  refine cndT ?_
  refine awp_seq ?_
  refine rln ?_
  refine As ?_
  refine G (q_as (s := sc (cn 8)) ?_)
  refine gend ?_
  refine awp_ret ?_
  exact fx2 [] (hm0 := rfl) (hH := pl0)
set_option maxHeartbeats 800000 in
theorem open_bad (key nonce ad s : List UInt8) (n k : Nat) (hkey : key.length = 32) (hnonce : nonce.length = 12) (had : ad.length = n) (hn : n ≤ 10000) (hc : s.length = k) (hk : k ≤ 10000) (h : 16 ≤ k) (hh : amark key nonce ad (s.take (k - 16)) ≠ s.drop (k - 16)) : Good Try.prog 50 [.a (u8s key), .a (u8s nonce), .c (.ro n (u8s ad)), .c (.ro k (u8s s))] [] (.t [.c .nils, .c (cn 8)]) [] := by
  have hTl : (s.take (k - 16)).length = k - 16 := by rw [List.length_take]; omega
  have hDl : (s.drop (k - 16)).length = 16 := by rw [List.length_drop]; omega
  have g2 := mark_ key nonce ad (s.take (k - 16)) n (k - 16) hkey hnonce had hn hTl (by omega)
  obtain ⟨M, hM⟩ : ∃ z, amark key nonce ad (s.take (k - 16)) = z := ⟨_, rfl⟩
  have hMl : M.length = 16 := by rw [← hM]; exact amark_len _ _ _ _
  rw [hM] at g2 hh
  have g3 := equal M (s.drop (k - 16)) hMl hDl
  refine good_frm 38 Try.func50 rfl rfl rfl rfl rfl rfl ?_
  refine awp_seq ?_
  refine rln ?_
  refine G2 (fun _ k_ => q_boxa k_) ?_
  refine G2 (fun _ k_ => q_boxa k_) ?_
  refine As ?_
  refine G (q_as (s := sc (cn 0)) ?_)
  refine gend ?_
  refine awp_seq ?_
  refine rln ?_
  refine Mv ?_
  refine G (q_leno ?_)
  refine G (q_subn (y := 16) ?_)
  refine As ?_
  refine gend ?_
  refine awp_seq ?_
  refine awp_seq ?_
  refine rdln [9, 15] [0, 0, 0, 0, 0, 0, 0, 0, 0, 0, 0, 0, 0, 0, 0, 1, 2, 2] [0, 0, 0, 0, 0, 0, 0, 0, 0, 1, 1, 1, 1, 1, 1, 2, 2, 2] ?_
  refine Dp (fun _ => q_mv (s := .v (.c _)) ⟨rfl, rfl⟩) ?_
  refine Dp (fun _ => q_lssn (y := 0) ⟨rfl, rfl⟩) ?_
  refine Dp (fun _ => q_mv (s := .v (.c _)) ⟨rfl, rfl⟩) ?_
  refine Dkfd 16 (fun hb3 => ?_) ?_; rotate_left
  · omega
  refine DLwg ?_
  refine DLwg ?_
  refine Dpg (fun _ => q_mv (s := .v (.c _)) ⟨rfl, rfl⟩) ?_
  refine Dpg (fun _ => q_mv (s := .v (.c _)) ⟨rfl, rfl⟩) ?_
  refine Dpg (fun _ => q_mv (s := .v (.c _)) ⟨rfl, rfl⟩) ?_
  refine Dpg (fun _ => q_slo_hi  ⟨rfl, rfl⟩ (hc := take0_m)) ?_
  refine De2g (fun _ k_ => q_callp g2 k_ (ha := (caa (et rfl) sees_m (caa (et rfl) sees_m (cac (et rfl) sees_ro (cac (et rfl) sees_ro ca0)))))) ?_
  refine Dpg (fun _ => q_mv (s := .v (.c _)) ⟨rfl, rfl⟩) ?_
  refine Dpg (fun _ => q_mv (s := .v (.c _)) ⟨rfl, rfl⟩) ?_
  refine Dpg (fun _ => q_slo_lo  ⟨rfl, rfl⟩ (hc := drop_m hc)) ?_
  refine Dpg (fun _ => q_s2r  ⟨rfl, rfl⟩ (hc := fun e => by have := congrArg List.length e; rw [mapc_length, hDl] at this; cases this)) ?_
  refine Dpg (fun _ => q_ldar  ⟨rfl, rfl⟩ (hc := all_m hDl)) ?_
  refine De2g (fun _ k_ => q_callp g3 k_ (ha := (caa (et rfl) sees_m (caa (et rfl) sees_m ca0)))) ?_
  refine Dpg (fun _ => q_notb ⟨rfl, rfl⟩) ?_
  refine Dp (fun _ => q_pkf ⟨rfl, rfl⟩) ?_
  refine dend ?_
  refine cndbnY (fun hc1 => ?_) ?_; rotate_left
  · exact decide_eq_false hh
  refine awp_seq ?_
  refine rln ?_
  refine As ?_
  refine G (q_as (s := sc (cn 8)) ?_)
  refine gend ?_
  refine awp_ret ?_
  exact fx2 [] (hm0 := rfl) (hH := pl0)
set_option maxHeartbeats 800000 in
theorem open_yes (key nonce ad s : List UInt8) (n k : Nat) (hkey : key.length = 32) (hnonce : nonce.length = 12) (had : ad.length = n) (hn : n ≤ 10000) (hc : s.length = k) (hk : k ≤ 10000) (h : 16 ≤ k) (hh : amark key nonce ad (s.take (k - 16)) = s.drop (k - 16)) : Good Try.prog 50 [.a (u8s key), .a (u8s nonce), .c (.ro n (u8s ad)), .c (.ro k (u8s s))] [] (.t [.c (.slc 0 0 (k - 16) 1), .c (cn 0)]) [some (u8s (xw key 1 nonce (s.take (k - 16)) (k - 16)))] := by
  have hTl : (s.take (k - 16)).length = k - 16 := by rw [List.length_take]; omega
  have hDl : (s.drop (k - 16)).length = 16 := by rw [List.length_drop]; omega
  have g2 := mark_ key nonce ad (s.take (k - 16)) n (k - 16) hkey hnonce had hn hTl (by omega)
  obtain ⟨M, hM⟩ : ∃ z, amark key nonce ad (s.take (k - 16)) = z := ⟨_, rfl⟩
  have hMl : M.length = 16 := by rw [← hM]; exact amark_len _ _ _ _
  rw [hM] at g2 hh
  have g3 := equal M (s.drop (k - 16)) hMl hDl
  have g4 := xor key 1 nonce (k - 16) (s.take (k - 16)) hkey hnonce hTl (by omega)
  refine good_frm 38 Try.func50 rfl rfl rfl rfl rfl rfl ?_
  refine awp_seq ?_
  refine rln ?_
  refine G2 (fun _ k_ => q_boxa k_) ?_
  refine G2 (fun _ k_ => q_boxa k_) ?_
  refine As ?_
  refine G (q_as (s := sc (cn 0)) ?_)
  refine gend ?_
  refine awp_seq ?_
  refine rln ?_
  refine Mv ?_
  refine G (q_leno ?_)
  refine G (q_subn (y := 16) ?_)
  refine As ?_
  refine gend ?_
  refine awp_seq ?_
  refine awp_seq ?_
  refine rdln [9, 15] [0, 0, 0, 0, 0, 0, 0, 0, 0, 0, 0, 0, 0, 0, 0, 1, 2, 2] [0, 0, 0, 0, 0, 0, 0, 0, 0, 1, 1, 1, 1, 1, 1, 2, 2, 2] ?_
  refine Dp (fun _ => q_mv (s := .v (.c _)) ⟨rfl, rfl⟩) ?_
  refine Dp (fun _ => q_lssn (y := 0) ⟨rfl, rfl⟩) ?_
  refine Dp (fun _ => q_mv (s := .v (.c _)) ⟨rfl, rfl⟩) ?_
  refine Dkfd 16 (fun hb3 => ?_) ?_; rotate_left
  · omega
  refine DLwg ?_
  refine DLwg ?_
  refine Dpg (fun _ => q_mv (s := .v (.c _)) ⟨rfl, rfl⟩) ?_
  refine Dpg (fun _ => q_mv (s := .v (.c _)) ⟨rfl, rfl⟩) ?_
  refine Dpg (fun _ => q_mv (s := .v (.c _)) ⟨rfl, rfl⟩) ?_
  refine Dpg (fun _ => q_slo_hi  ⟨rfl, rfl⟩ (hc := take0_m)) ?_
  refine De2g (fun _ k_ => q_callp g2 k_ (ha := (caa (et rfl) sees_m (caa (et rfl) sees_m (cac (et rfl) sees_ro (cac (et rfl) sees_ro ca0)))))) ?_
  refine Dpg (fun _ => q_mv (s := .v (.c _)) ⟨rfl, rfl⟩) ?_
  refine Dpg (fun _ => q_mv (s := .v (.c _)) ⟨rfl, rfl⟩) ?_
  refine Dpg (fun _ => q_slo_lo  ⟨rfl, rfl⟩ (hc := drop_m hc)) ?_
  refine Dpg (fun _ => q_s2r  ⟨rfl, rfl⟩ (hc := fun e => by have := congrArg List.length e; rw [mapc_length, hDl] at this; cases this)) ?_
  refine Dpg (fun _ => q_ldar  ⟨rfl, rfl⟩ (hc := all_m hDl)) ?_
  refine De2g (fun _ k_ => q_callp g3 k_ (ha := (caa (et rfl) sees_m (caa (et rfl) sees_m ca0)))) ?_
  refine Dpg (fun _ => q_notb ⟨rfl, rfl⟩) ?_
  refine Dp (fun _ => q_pkf ⟨rfl, rfl⟩) ?_
  refine dend ?_
  refine cndbnN (fun hc1 => ?_) ?_; rotate_left
  · exact decide_eq_true hh
  refine awp_skip ?_
  refine awp_seq ?_
  refine rdln [5] [0, 0, 0, 0, 0, 0, 1, 1] [0, 0, 0, 0, 0, 1, 1, 1] ?_
  refine DLw ?_
  refine DLw ?_
  refine Dp (fun _ => q_mv (s := .v (.c _)) ⟨rfl, rfl⟩) ?_
  refine Dp (fun _ => q_mv (s := .v (.c _)) ⟨rfl, rfl⟩) ?_
  refine Dp (fun _ => q_slo_hi  ⟨rfl, rfl⟩ (hc := take0_m)) ?_
  refine De2 (fun _ k_ => q_calln g4 k_ (ha := (caa (et rfl) sees_m (cac rfl cm_int (caa (et rfl) sees_m (cac (et rfl) sees_ro ca0)))))) ?_
  refine Dp (fun _ => q_as (s := .v (.c _)) ⟨rfl, rfl⟩) ?_
  refine Dp (fun _ => q_as (s := sc (cn 0)) ⟨rfl, rfl⟩) ?_
  refine dend ?_
  refine awp_ret ?_
  exact fx2 [2] (hm0 := rfl) (hH := pl1 rfl sees_m pl0)
theorem open_none (key nonce ad s : List UInt8) (n k : Nat) (hkey : key.length = 32) (hnonce : nonce.length = 12) (had : ad.length = n) (hn : n ≤ 10000) (hc : s.length = k) (hk : k ≤ 10000) (h : aopen key nonce ad s = none) : Good Try.prog 50 [.a (u8s key), .a (u8s nonce), .c (.ro n (u8s ad)), .c (.ro k (u8s s))] [] (.t [.c .nils, .c (cn 8)]) [] := by
  unfold aopen at h
  rw [hc] at h
  by_cases h1 : k < 16
  · exact open_short key nonce ad s n k hkey hnonce had hn hc hk h1
  · rw [if_neg h1] at h
    by_cases h2 : amark key nonce ad (s.take (k - 16)) = s.drop (k - 16)
    · rw [if_pos h2] at h; cases h
    · exact open_bad key nonce ad s n k hkey hnonce had hn hc hk (by omega) h2
theorem open_some (key nonce ad s : List UInt8) (n k : Nat) (hkey : key.length = 32) (hnonce : nonce.length = 12) (had : ad.length = n) (hn : n ≤ 10000) (hc : s.length = k) (hk : k ≤ 10000) (p : List UInt8) (h : aopen key nonce ad s = some p) : Good Try.prog 50 [.a (u8s key), .a (u8s nonce), .c (.ro n (u8s ad)), .c (.ro k (u8s s))] [] (.t [.c (.slc 0 0 (k - 16) 1), .c (cn 0)]) [some (u8s p)] := by
  unfold aopen at h
  rw [hc] at h
  by_cases h1 : k < 16
  · rw [if_pos h1] at h; cases h
  · rw [if_neg h1] at h
    by_cases h2 : amark key nonce ad (s.take (k - 16)) = s.drop (k - 16)
    · rw [if_pos h2] at h; cases h; exact open_yes key nonce ad s n k hkey hnonce had hn hc hk (by omega) h2
    · rw [if_neg h2] at h; cases h
set_option maxHeartbeats 800000 in
theorem nonce_ (n : UInt64) : Good Try.prog 40 [.c (c64 n)] [] (sa (u8s (anonce n))) [] := by
  have g1 := number_ n
  obtain ⟨B, hB⟩ : ∃ z, num8 n 8 = z := ⟨_, rfl⟩
  have hBl : B.length = 8 := by rw [← hB]; exact num8_len _ _
  have hA : (anonce n).length = 12 := anonce_len n
  have hcp := cpy_n B hBl
  rw [hB] at g1
  rw [show ([0, 0, 0, 0] : List UInt8) ++ B = anonce n by rw [← hB]; rfl] at hcp
  refine good_frm 8 Try.func40 rfl rfl rfl rfl rfl rfl ?_
  refine awp_seq ?_
  refine rln ?_
  refine G2 (fun _ k_ => q_al k_) ?_
  refine gend ?_
  refine awp_seq ?_
  refine rdln [2, 3] [0, 0, 0, 1] [1, 0, 1, 2] ?_
  refine DSp 0 rfl (fun _ hv => q_slp_lo (j := 4) ⟨rfl, rfl⟩ (hp := hv)) ?_
  refine Dp (fun _ => q_mv (s := .v (.c _)) ⟨rfl, rfl⟩) ?_
  refine De2 (fun _ k_ => q_calln g1 k_ (ha := (cac (et rfl) cm_int ca0))) ?_
  refine De2 (fun _ k_ => q_cpy k_ (eB := el_slc rfl (by rw [mapc_length, hBl]; decide) (cut_h hBl))) ?_ (hH := by simp only [List.set_cons_zero, List.cons_append, List.nil_append]; exact congrArg (fun z => [some z, some (u8s B)]) hcp)
  refine dend ?_
  refine awp_seq ?_
  refine rln ?_
  refine G (q_ldw ?_)
  refine G20 (fun _ k_ => q_stw k_) ?_
  refine gend ?_
  refine awp_ret ?_
  exact fpc (t := 86) (a := 2) (hn := (mapc_length ..).trans hA)
end Go.Proofs.Ytklcckngmmklhaa.Ae

/- What functions of the program do, walked over the abstract machine. -/
namespace Go.Proofs.Ytklcckngmmklhaa.Ae
open Go Go.Abs Go.Proofs Go.Proofs.Ytklcckngmmklhaa.Ch Go.Proofs.Ytklcckngmmklhaa.Po
set_option maxRecDepth 20000
def rnon (n : UInt64) : Nat → List UInt8
  | 0 => List.replicate 12 0
  | i + 1 => (rnon n i).set (4 + i) (shr64n n (UInt64.ofNat (8 * i)).toNat).toUInt8
end Go.Proofs.Ytklcckngmmklhaa.Ae

/- What functions of the program do, walked over the abstract machine. -/
namespace Go.Proofs.Ytklcckngmmklhaa.Ae
open Go Go.Abs Go.Proofs Go.Proofs.Ytklcckngmmklhaa.Ch Go.Proofs.Ytklcckngmmklhaa.Po
set_option maxRecDepth 20000
theorem xw_get' (key : List UInt8) (ctr : UInt32) (nonce l : List UInt8) (n i : Nat) (h : i < n) : (xw key ctr nonce l n).getD i 0 = l.getD i 0 ^^^ (blk key (ctr + UInt32.ofNat (i / 64)) nonce).getD (i % 64) 0 := by
  simp [xw, List.getD_eq_getElem?_getD, h]
theorem xw_xw (key : List UInt8) (ctr : UInt32) (nonce l : List UInt8) (n : Nat) (h : l.length = n) : xw key ctr nonce (xw key ctr nonce l n) n = l := by
  refine List.ext_getElem (by rw [xw_len, h]) fun i h1 h2 => ?_
  rw [xw_len] at h1
  have := xw_get' key ctr nonce (xw key ctr nonce l n) n i h1
  rw [xw_get' key ctr nonce l n i h1, UInt8.xor_assoc, UInt8.xor_self, UInt8.xor_zero] at this
  simpa [List.getD_eq_getElem?_getD, h2, xw_len, h1] using this
theorem aopen_aseal (key nonce ad l : List UInt8) : aopen key nonce ad (aseal key nonce ad l) = some l := by
  have hl := aseal_len key nonce ad l
  have hx := xw_len key 1 nonce l l.length
  unfold aopen
  rw [hl, if_neg (by omega), Nat.add_sub_cancel]
  have e1 : (aseal key nonce ad l).take l.length = xw key 1 nonce l l.length := by rw [aseal, List.take_append_of_le_length (by omega), List.take_of_length_le (by omega)]
  have e2 : (aseal key nonce ad l).drop l.length = amark key nonce ad (xw key 1 nonce l l.length) := by rw [aseal, List.drop_append_of_le_length (by omega), List.drop_of_length_le (by omega), List.nil_append]
  rw [e1, e2, if_pos rfl, xw_xw key 1 nonce l _ rfl]
end Go.Proofs.Ytklcckngmmklhaa.Ae

/- The abstract machine: a block is told under another number, and no longer under its old one. -/
namespace Go.Abs
open Go
def SubM (p q : Nat) (al : List (Nat × S)) : List (Nat × S) → Prop
  | [] => True
  | (t, s) :: r => (lkp al t = s ∨ (∃ o n sz, lkp al t = sc (.slc p o n sz) ∧ s = sc (.slc q o n sz)) ∨ (∃ o, lkp al t = sc (.ptr p o) ∧ s = sc (.ptr q o))) ∧ SubM p q al r
end Go.Abs

/- The abstract machine: what a function does is told of more memory, and its outcome in other words; memory under other numbers. -/
namespace Go.Abs
open Go
/-! What a function does, told of more memory: as a call does it. -/
theorem argVs_tmps : ∀ (pre args : List V) (post : List S), argVs ((pre ++ args).map S.v ++ post) ((List.range' pre.length args.length).map Operand.tmp) = some args
  | pre, [], post => rfl
  | pre, a :: r, post => by
    have h := argVs_tmps (pre ++ [a]) r post
    rw [List.append_assoc] at h
    simp only [List.length_cons, List.range'_succ, List.map_cons, argVs]
    have e : ev ((pre ++ a :: r).map S.v ++ post) (.tmp pre.length) = .v a := by
      simp [ev]
    rw [e]
    have h' : argVs ((pre ++ a :: r).map S.v ++ post) ((List.range' (pre.length + 1) r.length).map Operand.tmp) = some r := by
      simpa using h
    rw [h']
theorem vsrel_at {R : Rl} : ∀ {xs : List V} {vs : List Value}, VsRel R xs vs → ∀ (i : Nat) x, xs[i]? = some x → ∃ v, vs[i]? = some v ∧ VRel R x v
  | [], vs, _, i, x, h => by simp at h
  | y :: xs, vs, k, i, x, h => by
    simp only [VsRel] at k
    obtain ⟨v, vs', rfl, h1, h2⟩ := k
    cases i with
    | zero => simp at h; subst h; exact ⟨v, rfl, h1⟩
    | succ i => simpa using vsrel_at h2 i x (by simpa using h)
theorem Good.call {P : Program} {k : FuncId} {args : List V} {H Hl' : Heap} {v : S} (π : List Nat) (lend : Bool) (hnd : π.Nodup) (hπ : ∀ p ∈ π, p < H.length)
    (hg : Good P k (args.map (vm (cm (cin π lend H) 8))) (π.map (pick H (cm (cin π lend H) 8))) v Hl') :
    Good P k args H (sm (cm (cout π lend H.length) 8) v) (back π (cm (cout π lend H.length) 8) H Hl') := by
  obtain ⟨fn, hfn, hbody, hname⟩ := hg.2.1
  let fr : List S := args.map S.v ++ [ud]
  let xs : List Operand := (List.range' 0 args.length).map Operand.tmp
  have hargs : argVs fr xs = some args := by
    have := argVs_tmps [] args [ud]
    simpa [fr, xs] using this
  let o : Oper := { dst := some args.length, op := .call ⟨.value (.func k), xs.toArray, #[]⟩, type := 0, pos := "", after := #[], guard := none }
  have hg' : Good P k ((args ++ ([] : List Cell).map V.c).map (vm (cm (cin π lend H) 8))) (π.map (pick H (cm (cin π lend H) 8))) v Hl' := by simpa using hg
  have hop := opg_call (P := P) (o := o) (fr := fr) (H := H) (f := .func k) (args := xs.toArray) (ats := #[]) π lend rfl (by rfl : ev fr (.func k) = sc (.fn k [])) hargs hfn hbody hname hnd hπ hg'
  refine ⟨hop.1, ⟨fn, hfn, hbody, hname⟩, ?_⟩
  intro E ρ w rargs hE hw himg hH hrel
  subst hw
  have hlen := vsrel_length hrel
  let a : Act := ⟨(rargs ++ [undef]).toArray, []⟩
  have hs : Sim E ρ ⟨fr, H⟩ a E.w0 := by
    refine ⟨⟨rfl, by simp [a, fr, hlen], fun i s hi => ?_⟩, hH⟩
    by_cases hlt : i < args.length
    · simp only [fr] at hi
      rw [List.getElem?_append_left (by simpa using hlt)] at hi
      simp only [List.getElem?_map, Option.map_eq_some_iff] at hi
      obtain ⟨x, h1, rfl⟩ := hi
      obtain ⟨v, h2, h3⟩ := vsrel_at hrel i x h1
      refine ⟨v, ?_, h3⟩
      have hlt' : i < rargs.length := by omega
      simp only [a, List.getElem?_toArray]
      rw [List.getElem?_append_left hlt']
      exact h2
    · have h1 := (List.getElem?_eq_some_iff.1 hi).1
      simp [fr] at h1
      have hi' : i = args.length := by omega
      subst hi'
      simp [fr] at hi
      subst hi
      exact ⟨undef, by simp [a, hlen.symm], by simp [ud, SRel, VRel, CRel]⟩
  have hrun : (execOp a.eval o).run P E.w0 = .ok (.enter k rargs.toArray) E.w0 := by
    have hb : fn.body.isNone = false := by cases hfb : fn.body with
      | none => rw [hfb] at hbody; cases hbody
      | some c => rfl
    have hev : xs.toArray.map a.eval = rargs.toArray := by
      apply Array.ext'
      simp only [xs, List.map_toArray, List.map_map]
      apply List.ext_getElem?
      intro i
      simp only [List.getElem?_map, List.getElem?_range']
      by_cases hi : i < args.length
      · have hi' : i < rargs.length := by omega
        simp [hi, a, Act.eval, Array.getD_eq_getD_getElem?, hi', List.getElem?_append_left]
      · rw [List.getElem?_eq_none (l := rargs) (by omega)]
        simp [hi]
    simp only [execOp, o, resolve, Act.eval, Deferred.ofValue, invoke, callFunc, Sem.run_bind, Sem.run_pure, Result.andThen_ok, run_program, hfn, hname, hb, Bool.false_eq_true, if_false, Array.empty_append, Array.append_empty]
    exact congrArg (fun z => Result.ok (Next.enter k z) E.w0) hev
  have key := hop.2 E ρ a E.w0 hE hs (fun a' w' => ∃ ρ', (∀ p, p < H.length → ρ' p = ρ p) ∧ HRel E ρ' w' (back π (cm (cout π lend H.length) 8) H Hl') ∧ SRel (E.rl (back π (cm (cout π lend H.length) 8) H Hl').length ρ') (sm (cm (cout π lend H.length) 8) v) (a'.tmps.getD args.length undef)) (fun _ _ _ => False) ?_
  · unfold Oper.wp at key
    rw [hrun, Oper.upon_enter] at key
    refine key.mono ?_
    intro e w' h
    cases e with
    | returned rv =>
      obtain ⟨ρ', h1, h2, h3⟩ := h
      refine ⟨rv, ρ', rfl, h1, h2, ?_⟩
      have : (a.put o.dst rv).tmps.getD args.length undef = rv := by
        simp [Act.put, o, a, Array.getD_eq_getD_getElem?, hlen.symm]
      rw [this] at h3
      exact h3
    | panicked chain => exact h.elim
    | outgrown => exact absurd h (by simp [LetsOut])
  · intro rv w' ρ' h1 h2 h3
    refine ⟨ρ', h1, h2, ?_⟩
    have : (a.put o.dst rv).tmps.getD args.length undef = rv := by
      simp [Act.put, o, a, Array.getD_eq_getD_getElem?, hlen.symm]
    rw [this]
    exact h3
/-! The outcome told in other words. -/
theorem Good.out {P : Program} {k : FuncId} {args : List V} {H H' H2 : Heap} {v v2 : S} (hg : Good P k args H v H') (hl : H.length ≤ H2.length) (hle : SLe H.length ⟨[v], H'⟩ ⟨[v2], H2⟩) : Good P k args H v2 H2 := by
  refine ⟨hl, hg.2.1, fun E ρ w rargs hE hw himg hH hrel => ?_⟩
  refine (hg.2.2 E ρ w rargs hE hw himg hH hrel).mono ?_
  rintro e w' ⟨rv, ρ', rfl, h1, h2, h3⟩
  obtain ⟨ρ2, k1, k2⟩ := hle E ρ' ⟨#[rv], []⟩ w' ⟨⟨rfl, rfl, fun i s hi => by
    cases i with
    | zero => simp at hi; subst hi; exact ⟨rv, rfl, h3⟩
    | succ i => simp at hi⟩, h2⟩
  refine ⟨rv, ρ2, rfl, fun p hp => (k1 p hp).trans (h1 p hp), k2.heap, ?_⟩
  obtain ⟨v', g1, g2⟩ := k2.fr.2.2 0 v2 rfl
  simp at g1
  subst g1
  exact g2
def e2 (q sz : Nat) : Cell → Cell
  | .nils => .slc q 0 0 sz
  | c => c
theorem e2_sound {R R' : Rl} {q sz : Nat} (h : R.Le R') (hq : q < R'.n) (c : Cell) (v : Value) (k : CRel R c v) : CRel R' (e2 q sz c) v := by
  by_cases hc : c = .nils
  · subst hc
    simp only [CRel] at k
    subst k
    simp only [e2, CRel]
    exact ⟨hq, none, 0, rfl, Nat.le_refl _, .inr rfl⟩
  · have : e2 q sz c = c := by unfold e2; split <;> first | exact absurd rfl hc | rfl
    rw [this]; exact CRel.mono h c v k
theorem emp_sim {E : Env} {ρ : Nat → Place} {w : World} {H : Heap} (hh : HRel E ρ w H) : ∃ ρ', (∀ p, p < H.length → ρ' p = ρ p) ∧ HRel E ρ' w (H ++ [some []]) := by
  let ρ' : Nat → Place := fun p => if p = H.length then ⟨0, 0, 0⟩ else ρ p
  have hρ : ∀ p, p < H.length → ρ' p = ρ p := fun p hp => if_neg (by omega)
  have hle : (E.rl H.length ρ).Le (E.rl (H ++ [some []]).length ρ') := ⟨fun b hb => ⟨hb, rfl⟩, fun p hp => ⟨by
    show p < (H ++ [some []]).length
    have hp' : p < H.length := hp
    simp; omega, hρ p hp⟩⟩
  have hget : ∀ p cs, (H ++ [some ([] : List Cell)])[p]? = some (some cs) → (ρ' p).room ≠ 0 → p < H.length ∧ H[p]? = some (some cs) := by
    intro p cs hp hr
    by_cases hlt : p < H.length
    · rw [List.getElem?_append_left hlt] at hp; exact ⟨hlt, hp⟩
    · have := (List.getElem?_eq_some_iff.1 hp).1
      simp at this
      have : p = H.length := by omega
      subst this
      simp [ρ'] at hr
  refine ⟨ρ', hρ, hh.os, hh.tape, hh.output, hh.size, hh.frame, fun p cs hp hr => ?_, fun p q cs ds hp hq hrp hrq he => ?_, fun p cs hp hr => ?_, fun p cs hp hr => ?_⟩
  · obtain ⟨h1, h2⟩ := hget p cs hp hr
    rw [hρ p h1] at hr ⊢
    exact hh.fresh p cs h2 hr
  · obtain ⟨h1, h2⟩ := hget p cs hp hrp
    obtain ⟨h3, h4⟩ := hget q ds hq hrq
    rw [hρ p h1] at hrp he
    rw [hρ q h3] at hrq he
    exact hh.inj p q cs ds h2 h4 hrp hrq he
  · obtain ⟨h1, h2⟩ := hget p cs hp hr
    rw [hρ p h1] at hr ⊢
    exact (hh.blk p cs h2 hr).mono hle rfl
  · by_cases hlt : p < H.length
    · rw [List.getElem?_append_left hlt] at hp
      rw [hρ p hlt] at hr
      exact hh.emp p cs hp hr
    · have := (List.getElem?_eq_some_iff.1 hp).1
      simp at this
      have : p = H.length := by omega
      subst this
      simpa using hp
theorem sle_emp2 {n : Nat} {v : S} {H : Heap} (sz : Nat) (hn : n ≤ H.length) : SLe n ⟨[v], H⟩ ⟨[sm (e2 H.length sz) v], H ++ [some []]⟩ := by
  intro E ρ a w hs
  obtain ⟨ρ', h1, h2⟩ := emp_sim hs.heap
  have hle : (E.rl H.length ρ).Le (E.rl (H ++ [some []]).length ρ') := ⟨fun b hb => ⟨hb, rfl⟩, fun p hp => ⟨by
    show p < (H ++ [some []]).length
    have hp' : p < H.length := hp
    simp; omega, h1 p hp⟩⟩
  refine ⟨ρ', fun p hp => h1 p (Nat.lt_of_lt_of_le hp hn), ⟨hs.fr.1, hs.fr.2.1, fun i s hi => ?_⟩, h2⟩
  cases i with
  | zero =>
    simp at hi
    subst hi
    obtain ⟨u, k1, k2⟩ := hs.fr.2.2 0 v rfl
    exact ⟨u, k1, sm_sound (fun c v k => e2_sound hle (by show H.length < (H ++ [some []]).length; simp) c v k) k2⟩
  | succ i => simp at hi
theorem Good.emp {P : Program} {k : FuncId} {args : List V} {H H' : Heap} {v v2 : S} (hg : Good P k args H v H') (sz : Nat) (hv : sm (e2 H'.length sz) v = v2 := by rfl) : Good P k args H v2 (H' ++ [some []]) := by
  subst hv
  exact hg.out (H2 := H' ++ [some []]) (Nat.le_trans hg.1 (by simp)) (sle_emp2 sz hg.1)
/-! Memory under other numbers: for each new block the old one, and whether it is told of. -/
def nfi (p : Nat) (b : Bool) : List (Nat × Bool) → Option Nat
  | [] => none
  | (q, c) :: r => if Nat.beq q p && (!b || c) then some 0 else (nfi p b r).map (· + 1)
theorem nfi_get {p : Nat} {b : Bool} : ∀ {l : List (Nat × Bool)} {j : Nat}, nfi p b l = some j → (l[j]?).map (·.1) = some p
  | [], j, h => by simp [nfi] at h
  | (q, c) :: r, j, h => by
    simp only [nfi] at h
    split at h
    · rename_i hq
      simp at h
      subst h
      simp at hq
      simp [hq.1]
    · rw [Option.map_eq_some_iff] at h
      obtain ⟨i, h1, rfl⟩ := h
      simpa using nfi_get h1
def nph (τ : List (Nat × Bool)) (p : Nat) : Option Nat := match nfi p true τ with
  | some j => some j
  | none => nfi p false τ
theorem nph_get {τ : List (Nat × Bool)} {p j : Nat} (h : nph τ p = some j) : (τ[j]?).map (·.1) = some p := by
  unfold nph at h
  split at h
  · rename_i h1; simp at h; subst h; exact nfi_get h1
  · exact nfi_get h
abbrev nm (τ : List (Nat × Bool)) : Cell → Cell := cm ⟨nph τ, fun _ => none, true, false⟩ 8
def renB (τ : List (Nat × Bool)) (H : Heap) : Heap := τ.map fun x => if x.2 then pick H (nm τ) x.1 else none
def uniqT : List (Nat × Bool) → Bool
  | [] => true
  | (p, b) :: r => (!b || r.all fun x => !(x.2 && Nat.beq x.1 p)) && uniqT r
theorem uniqT_ok : ∀ {τ : List (Nat × Bool)}, uniqT τ = true → ∀ {i j p : Nat}, τ[i]? = some (p, true) → τ[j]? = some (p, true) → i = j
  | [], _, i, j, p, h1, _ => by simp at h1
  | (q, b) :: r, h, i, j, p, h1, h2 => by
    simp only [uniqT, Bool.and_eq_true] at h
    have no : ∀ k : Nat, b = true → q = p → r[k]? = some (p, true) → False := by
      intro k hb hq hk
      have h3 := h.1
      rw [hb] at h3
      simp only [Bool.not_true, Bool.false_or] at h3
      have := List.all_eq_true.1 h3 _ (List.mem_of_getElem? hk)
      simp [hq] at this
    cases i with
    | zero =>
      simp at h1
      cases j with
      | zero => rfl
      | succ j => simp at h2; exact (no j h1.2 h1.1 h2).elim
    | succ i =>
      simp at h1
      cases j with
      | zero => simp at h2; exact (no i h2.2 h2.1 h1).elim
      | succ j => simp at h2; rw [uniqT_ok h.2 h1 h2]
theorem ren_sim {τ : List (Nat × Bool)} {E : Env} {ρ : Nat → Place} {w : World} {H : Heap} (hu : uniqT τ = true) (hh : HRel E ρ w H) :
    HRel E (fun j => ρ ((τ.getD j (0, false)).1)) w (renB τ H) ∧ ∀ c v, CRel (E.rl H.length ρ) c v → CRel (E.rl (renB τ H).length fun j => ρ ((τ.getD j (0, false)).1)) (nm τ c) v := by
  have key : ∀ c v, CRel (E.rl H.length ρ) c v → CRel (E.rl (renB τ H).length fun j => ρ ((τ.getD j (0, false)).1)) (nm τ c) v := by
    refine cm_sound (R := E.rl H.length ρ) (R' := E.rl (renB τ H).length fun j => ρ ((τ.getD j (0, false)).1)) (m := ⟨nph τ, fun _ => none, true, false⟩) ⟨fun p q hq hp => ?_, fun p cs hcs => by simp at hcs, fun _ b hb => ⟨hb, rfl⟩⟩ 8
    have := nph_get hq
    rw [Option.map_eq_some_iff] at this
    obtain ⟨x, h1, h2⟩ := this
    have hlt := (List.getElem?_eq_some_iff.1 h1).1
    refine ⟨by show q < (renB τ H).length; simpa [renB] using hlt, ?_⟩
    show ρ ((τ.getD q (0, false)).1) = ρ p
    rw [List.getD_eq_getElem?_getD, h1]; exact congrArg ρ h2
  have hget : ∀ (j : Nat) cs, (renB τ H)[j]? = some (some cs) → ∃ p c0, τ[j]? = some (p, true) ∧ H[p]? = some (some c0) ∧ cs = c0.map (nm τ) ∧ (τ.getD j (0, false)).1 = p := by
    intro j cs hj
    simp only [renB, List.getElem?_map, Option.map_eq_some_iff] at hj
    obtain ⟨⟨p, b⟩, h1, h2⟩ := hj
    cases b with
    | false => simp at h2
    | true =>
      simp only [if_true] at h2
      obtain ⟨c0, h3, h4⟩ := pick_get h2
      exact ⟨p, c0, h1, h3, h4, by rw [List.getD_eq_getElem?_getD, h1]; rfl⟩
  refine ⟨⟨hh.os, hh.tape, hh.output, hh.size, hh.frame, fun p cs hp hr => ?_, fun p q cs ds hp hq hr1 hr2 he => ?_, fun p cs hp hr => ?_, fun p cs hp hr => ?_⟩, key⟩
  · obtain ⟨q, c0, h1, h2, h3, h4⟩ := hget p cs hp
    simp only [h4] at hr ⊢
    exact hh.fresh q c0 h2 hr
  · obtain ⟨p', c0, h1, h2, h3, h4⟩ := hget p cs hp
    obtain ⟨q', d0, k1, k2, k3, k4⟩ := hget q ds hq
    simp only [h4] at hr1 he
    simp only [k4] at hr2 he
    have := hh.inj p' q' c0 d0 h2 k2 hr1 hr2 he
    subst this
    exact uniqT_ok hu h1 k1
  · obtain ⟨q, c0, h1, h2, h3, h4⟩ := hget p cs hp
    simp only [h4] at hr ⊢
    obtain ⟨arr, el, fr, b1, b2, b3, b4, b5⟩ := hh.blk q c0 h2 hr
    refine ⟨arr, el, fr, b1, b2, b3, by rw [h3]; simpa using b4, fun i c hi => ?_⟩
    rw [h3, List.getElem?_map, Option.map_eq_some_iff] at hi
    obtain ⟨c1, h5, rfl⟩ := hi
    obtain ⟨v, h6, ho, h7⟩ := b5 i c1 h5
    exact ⟨v, h6, ho, key _ _ h7⟩
  · obtain ⟨q, c0, h1, h2, h3, h4⟩ := hget p cs hp
    simp only [h4] at hr
    rw [h3, hh.emp q c0 h2 hr]; rfl
theorem sle_renS {n : Nat} {fr : List S} {H : Heap} (τ : List (Nat × Bool)) (hu : uniqT τ = true) (hn : ∀ p, p < n → (τ[p]?).map (·.1) = some p) : SLe n ⟨fr, H⟩ ⟨fr.map (sm (nm τ)), renB τ H⟩ := by
  intro E ρ a w hs
  obtain ⟨h1, h2⟩ := ren_sim (τ := τ) hu hs.heap
  refine ⟨_, fun p hp => ?_, ⟨hs.fr.1, by simpa using hs.fr.2.1, fun i s hi => ?_⟩, h1⟩
  · have := hn p hp
    rw [Option.map_eq_some_iff] at this
    obtain ⟨x, k1, k2⟩ := this
    show ρ ((τ.getD p (0, false)).1) = ρ p
    rw [List.getD_eq_getElem?_getD, k1]; exact congrArg ρ k2
  · rw [List.getElem?_map, Option.map_eq_some_iff] at hi
    obtain ⟨s0, k1, rfl⟩ := hi
    obtain ⟨v, k2, k3⟩ := hs.fr.2.2 i s0 k1
    exact ⟨v, k2, sm_sound h2 k3⟩
theorem piT {τ : List (Nat × Bool)} {n : Nat} (h : ((List.range n).all fun p => (τ[p]?).map (·.1) == some p) = true) : ∀ p, p < n → (τ[p]?).map (·.1) = some p := fun p hp => by
  have := List.all_eq_true.1 h p (List.mem_range.2 hp)
  simpa using this
theorem Good.ren {P : Program} {k : FuncId} {args : List V} {H H' H2 : Heap} {v v2 : S} (hg : Good P k args H v H') (τ : List (Nat × Bool)) (hu : uniqT τ = true) (hn : ∀ p, p < H.length → (τ[p]?).map (·.1) = some p)
    (hv : sm (nm τ) v = v2) (hH : renB τ H' = H2) : Good P k args H v2 H2 := by
  subst hv hH
  refine hg.out ?_ (sle_renS τ hu hn)
  rcases Nat.eq_zero_or_pos H.length with h | h
  · omega
  · have := hn (H.length - 1) (by omega)
    rw [Option.map_eq_some_iff] at this
    obtain ⟨x, h1, _⟩ := this
    have := (List.getElem?_eq_some_iff.1 h1).1
    simp only [renB, List.length_map]
    omega
theorem frm_map (f : Cell → Cell) {N : Nat} {al : List (Nat × S)} {t : Nat} : lkp (al.map fun x => (x.1, sm f x.2)) t = sm f (lkp al t) ∨ (lkp al t = ud ∧ lkp (al.map fun x => (x.1, sm f x.2)) t = ud) := by
  induction al with
  | nil => exact .inr ⟨rfl, rfl⟩
  | cons x r ih =>
    obtain ⟨i, s⟩ := x
    simp only [List.map_cons, lkp]
    cases Nat.beq i t with
    | true => exact .inl rfl
    | false => exact ih
theorem sle_ren {n N : Nat} {al al' : List (Nat × S)} {H H' : Heap} (τ : List (Nat × Bool)) (hu : uniqT τ = true) (hn : ∀ p, p < n → (τ[p]?).map (·.1) = some p)
    (hf : SubL (al.map fun x => (x.1, sm (nm τ) x.2)) al') (hH : H' = renB τ H) : SLe n ⟨frm N al, H⟩ ⟨frm N al', H'⟩ := by
  intro E ρ a w hs
  obtain ⟨ρ', h1, h2⟩ := sle_renS (n := n) (fr := frm N al) (H := H) τ hu hn E ρ a w hs
  subst hH
  refine ⟨ρ', h1, ⟨h2.fr.1, by rw [frm_length]; have := hs.fr.2.1; rwa [frm_length] at this, fun t s ht => ?_⟩, h2.heap⟩
  have hlt : t < N := by
    have := (List.getElem?_eq_some_iff.1 ht).1
    rwa [frm_length] at this
  rw [frm_get hlt] at ht
  obtain rfl := Option.some.inj ht
  obtain ⟨v, k1, k2⟩ := h2.fr.2.2 t _ (by rw [List.getElem?_map, frm_get hlt]; rfl)
  refine ⟨v, k1, ?_⟩
  rcases sub_get hf t with h | h
  · rw [h]; simp [ud, SRel, VRel, CRel]
  · rw [h]
    rcases frm_map (N := N) (nm τ) (al := al) (t := t) with g | ⟨_, g⟩
    · rw [g]; exact k2
    · rw [g]; simp [ud, SRel, VRel, CRel]
end Go.Abs

/- The abstract machine: words for memory where a block may be told of or not. -/
namespace Go.Abs
open Go
theorem plb {H Hl : Heap} {f : Cell → Cell} {p : Nat} {π : List Nat} {b b' : Option (List Cell)} (hp : H[p]? = some b) (hc : b.map (List.map f) = b') (h : π.map (pick H f) = Hl) : (p :: π).map (pick H f) = b' :: Hl := by
  subst hc
  cases b <;> simp [pick, hp, ← h]
theorem mlb {f : Cell → Cell} {L L' : Heap} {b b' : Option (List Cell)} (hx : b.map (List.map f) = b') (h : L.map (Option.map (List.map f)) = L') : (b :: L).map (Option.map (List.map f)) = b' :: L' := by
  simp [hx, h]
def kb (has : Bool) (key : List UInt8) : Option (List Cell) := bif has then some (u8s key) else none
theorem kb_map {has : Bool} {key : List UInt8} {m : CM} {d : Nat} : (kb has key).map (List.map (cm m d)) = kb has key := by
  cases has
  · rfl
  · simp [kb, mapc_cm]
def kp (has : Bool) (p : Nat) : Cell := bif has then .ptr p 0 else .nilp
def kr (has : Bool) (key : List UInt8) : Cell := bif has then .rop (u8s key) else .nilp
/-! Blocks under other numbers, one by one. -/
def renL (τ0 τ : List (Nat × Bool)) (H : Heap) : Heap := τ.map fun x => if x.2 then pick H (nm τ0) x.1 else none
theorem rl0 {τ0 : List (Nat × Bool)} {H : Heap} : renL τ0 [] H = [] := rfl
theorem rlT {τ0 τ : List (Nat × Bool)} {H R : Heap} {p : Nat} {cs cs' : List Cell} (hp : H[p]? = some (some cs)) (hc : cs.map (nm τ0) = cs') (h : renL τ0 τ H = R) : renL τ0 ((p, true) :: τ) H = some cs' :: R := by
  subst hc h; simp [renL, pick, hp]
theorem rlF {τ0 τ : List (Nat × Bool)} {H R : Heap} {p : Nat} (h : renL τ0 τ H = R) : renL τ0 ((p, false) :: τ) H = none :: R := by
  subst h; simp [renL]
theorem rlB {τ0 τ : List (Nat × Bool)} {H R : Heap} {p : Nat} {b b' : Option (List Cell)} (hp : H[p]? = some b) (hc : b.map (List.map (nm τ0)) = b') (h : renL τ0 τ H = R) : renL τ0 ((p, true) :: τ) H = b' :: R := by
  subst hc h; cases b <;> simp [renL, pick, hp]
theorem Good.ren' {P : Program} {k : FuncId} {args : List V} {H H' H2 : Heap} {v v2 : S} (hg : Good P k args H v H') (τ : List (Nat × Bool)) (hH : renL τ τ H' = H2) (hv : sm (nm τ) v = v2 := by rfl) (hu : uniqT τ = true := by rfl) (hn : ((List.range H.length).all fun p => (τ[p]?).map (·.1) == some p) = true := by rfl) : Good P k args H v2 H2 :=
  hg.ren τ hu (piT hn) hv hH
end Go.Abs

/- The abstract machine: elements of a slice of structs that may be looked at. -/
namespace Go.Abs
open Go
section
variable {P : Program} {fr : List S} {H : Heap} {K : S → Heap → Prop} {od : Option Nat} {oty : TypeId} {ops_ : String} {oaf : Array Edge} {ogu : Option (Nat × Bool)} {t u : TypeId} {a b i : Operand} {ti : TI}
end
end Go.Abs

/- What functions of the program do, walked over the abstract machine. -/
namespace Go.Proofs.Ytklcckngmmklhaa
open Go Go.Abs Go.Proofs Go.Proofs.Ytklcckngmmklhaa.Ch Go.Proofs.Ytklcckngmmklhaa.Po Go.Proofs.Ytklcckngmmklhaa.Ae
set_option maxRecDepth 20000
abbrev cC (kp : Cell) (n : UInt64) : List Cell := [kp, c64 n, .bool true]
def anext (key : List UInt8) : List UInt8 := (aseal key (anonce 18446744073709551615) [] (List.replicate 32 0)).take 32
theorem anext_len (key : List UInt8) : (anext key).length = 32 := by rw [anext, List.length_take, aseal_len]; simp
theorem keyE {key : List UInt8} (hk : key.length = 32) : (u8s key).isEmpty = false := by
  cases key with
  | nil => simp at hk
  | cons a l => rfl
theorem sees_key {H : Heap} {key : List UInt8} {p q d : Nat} {n : UInt64} {π : List Nat} (hp : idx p π = none) (hq : idx q π = none) (hk : key.length = 32) (hC : H[q]? = some (some (cC (.ptr p 0) n))) (hK : H[p]? = some (some (u8s key))) : cm (cin π true H) (d + 2) (.ptr q 0) = .rop [.rop (u8s key), c64 n, .bool true] := by
  have he : (cC (.ptr p 0) n).isEmpty = false := rfl
  simp only [cm, cin, hp, hq, joinH, hK, hC, if_true, he, keyE hk, Bool.false_eq_true, if_false, List.drop_zero, List.map_cons, List.map_nil]
  rw [mapc_cm]
theorem piB {π : List Nat} {n : Nat} (h : ((List.range n).all fun p => π[p]? == some p) = true) : ∀ p, p < n → π[p]? = some p := fun p hp => by
  simpa using List.all_eq_true.1 h p (List.mem_range.2 hp)
theorem cut_pre2 {l : List UInt8} {k : Nat} : ((u8s l).drop 0).take k = u8s (l.take k) := by rw [List.drop_zero, mapc_take]
theorem new_ (key : List UInt8) (hk : key.length = 32) : Good Try.prog 13 [.a (u8s key)] [] (sc (.ptr 1 0)) [some (u8s key), some (cC (.ptr 0 0) 0)] := by
  refine good_frm 5 Try.func13 rfl rfl rfl rfl rfl rfl ?_
  refine awp_seq ?_
  refine rln ?_
  refine G2 (fun _ k_ => q_boxa k_) ?_
  refine As ?_
  refine gend ?_
  refine awp_seq ?_
  refine rln ?_
  refine G (q_bls (fkc rfl (et rfl) rfl (Nat.le_of_ble_eq_true rfl) (fkc rfl rfl rfl (Nat.le_of_ble_eq_true rfl) (fk0 ?_))))
  refine G2 (fun _ k_ => q_boxa k_) ?_
  refine As ?_
  refine gend ?_
  refine awp_ret ?_
  exact fx1 [0, 1] (hm0 := rfl) (hH := pl1 rfl sees_m (pl1 rfl rfl pl0))
theorem ready_ok (kc : List Cell) (n : UInt64) (h : n ≠ 18446744073709551615) : Good Try.prog 37 [.c (.rop [.rop kc, c64 n, .bool true])] [] (sc (cn 0)) [] := by
  refine good_frm 26 Try.func37 rfl rfl rfl rfl rfl rfl ?_
  refine awp_seq ?_
  refine rln ?_
  refine G (q_as (s := sc (cn 0)) ?_)
  refine gend ?_
  refine awp_seq ?_
  refine awp_block ?_
  refine awp_seq ?_
  refine rln ?_
  refine Mv ?_
  refine G (q_eqlp ?_)
  refine Mv ?_
  refine Gg (q_mv (s := .v (.c _)) ?_)
  refine Gg (q_ncr ?_)
  refine Gg (q_far ?_)
  refine Gg (q_ldr ?_)
  refine Gg (q_notb ?_)
  refine G (q_pkf ?_)
  refine As ?_
  refine gend ?_
  refine cndbnN (fun hc1 => ?_) ?_; rotate_left
  · exact rfl
  refine awp_seq ?_
  refine rln ?_
  refine Mv ?_
  refine G (q_ncr ?_)
  refine G (q_far ?_)
  refine G (q_ldr ?_)
  refine G (q_neqp ?_)
  refine Mv ?_
  refine Akn 19 (fun hb6 => ?_) ?_; rotate_left
  · exact rfl
  refine Gg (q_mv (s := .v (.c _)) ?_)
  refine Gg (q_ncr ?_)
  refine Gg (q_far ?_)
  refine Gg (q_ldr ?_)
  refine Gg (q_eql64 (y := 18446744073709551615) ?_)
  refine G (q_pkt ?_)
  refine As ?_
  refine gend ?_
  refine cndN (fun hc2 => ?_) ?_; rotate_left
  · exact h
  refine awp_skip ?_
  refine awp_seq ?_
  refine rln ?_
  refine G (q_as (s := sc (cn 0)) ?_)
  refine gend ?_
  refine awp_ret ?_
  exact fp1
theorem has_k (kc : List Cell) (r : List Cell) : Good Try.prog 35 [.c (.rop (.rop kc :: r))] [] (sc (.bool true)) [] := by
  refine good_frm 12 Try.func35 rfl rfl rfl rfl rfl rfl ?_
  refine awp_seq ?_
  refine rln ?_
  refine As ?_
  refine gend ?_
  refine awp_seq ?_
  refine rln ?_
  refine Mv ?_
  refine G (q_neqp ?_)
  refine Mv ?_
  refine Gg (q_mv (s := .v (.c _)) ?_)
  refine Gg (q_ncr ?_)
  refine Gg (q_far ?_)
  refine Gg (q_ldr ?_)
  refine Gg (q_neqp ?_)
  refine G (q_pkt ?_)
  refine As ?_
  refine gend ?_
  refine awp_ret ?_
  exact fp1
end Go.Proofs.Ytklcckngmmklhaa

/- What functions of the program do, walked over the abstract machine. -/
namespace Go.Proofs.Ytklcckngmmklhaa
open Go Go.Abs Go.Proofs Go.Proofs.Ytklcckngmmklhaa.Ch Go.Proofs.Ytklcckngmmklhaa.Po Go.Proofs.Ytklcckngmmklhaa.Ae
set_option maxRecDepth 20000
set_option maxHeartbeats 1600000 in
theorem cseal_ok (key ad l : List UInt8) (n : UInt64) (a k : Nat) (hkey : key.length = 32) (had : ad.length = a) (ha9 : a ≤ 10000) (hl : l.length = k) (hk9 : k ≤ 10000) (h : n ≠ 18446744073709551615) : Good Try.prog 14 [.c (.ptr 0 0), .c (.ro a (u8s ad)), .c (.ro k (u8s l))] [some (cC (.ptr 1 0) n), some (u8s key)] (.t [.c (.slc 2 0 (k + 16) 1), .c (cn 0)]) [some (cC (.ptr 1 0) (n + 1)), some (u8s key), some (u8s (aseal key (anonce n) ad l))] := by
  have g1 := ready_ok (u8s key) n h
  have hNl := anonce_len n
  have g2 := nonce_ n
  obtain ⟨N, hN⟩ : ∃ z, anonce n = z := ⟨_, rfl⟩
  rw [hN] at hNl g2
  rw [hN]
  have g3 := seal_ key N ad l a k hkey hNl had ha9 hl hk9
  have hn1 : n + 1 - 1 = n := UInt64.add_sub_cancel ..
  have g2' : Good Try.prog 40 [.c (c64 (n + 1 - 1))] [] (sa (u8s N)) [] := by rw [hn1]; exact g2
  refine good_frm 43 Try.func14 rfl rfl rfl rfl rfl rfl ?_
  refine awp_seq ?_
  refine rln ?_
  refine As ?_
  refine G (q_as (s := sc (cn 0)) ?_)
  refine gend ?_
  refine awp_seq ?_
  refine awp_seq ?_
  refine rln ?_
  refine Mv ?_
  refine G2 (fun _ k_ => q_callp g1 k_ (ha := (cac (et rfl) (sees_key rfl rfl hkey rfl rfl) ca0))) ?_
  refine As ?_
  refine gend ?_
  refine awp_seq ?_
  refine rln ?_
  refine Mv ?_
  refine G (q_neqn (y := 0) ?_)
  refine gend ?_
  refine cndN (fun hc1 => ?_) ?_; rotate_left
  · exact fun h => h rfl
  refine awp_skip ?_
  refine awp_seq ?_
  refine awp_seq ?_
  refine rln ?_
  refine Mv ?_
  refine G (q_ncp ?_)
  refine G (q_fap0 ?_)
  refine G (q_ldp ?_)
  refine G (q_eqlp ?_)
  refine gend ?_
  refine cndF ?_
  refine awp_skip ?_
  refine awp_seq ?_
  refine rln ?_
  refine Mv ?_
  refine G (q_ncp ?_)
  refine G (q_fap0 ?_)
  refine G (q_ldp ?_)
  refine G (q_add64 (y := 1) ?_)
  refine G (q_ncp ?_)
  refine G (q_fap0 ?_)
  refine G20 (fun _ k_ => q_st k_) ?_
  refine gend ?_
  refine awp_seq ?_
  refine rdln [14] [0, 0, 0, 0, 0, 0, 0, 0, 0, 0, 0, 0, 0, 0, 0, 1, 1] [0, 0, 0, 0, 0, 0, 0, 0, 0, 0, 0, 0, 0, 0, 1, 1, 1] ?_
  refine Dp (fun _ => q_mv (s := .v (.c _)) ⟨rfl, rfl⟩) ?_
  refine Dp (fun _ => q_ncp ⟨rfl, rfl⟩) ?_
  refine Dp (fun _ => q_fap0 ⟨rfl, rfl⟩) ?_
  refine DLp ?_
  refine Dp (fun _ => q_ncp ⟨rfl, rfl⟩) ?_
  refine DLw ?_
  refine Dp (fun _ => q_mv (s := .v (.c _)) ⟨rfl, rfl⟩) ?_
  refine Dp (fun _ => q_ncp ⟨rfl, rfl⟩) ?_
  refine Dp (fun _ => q_fap0 ⟨rfl, rfl⟩) ?_
  refine DLp ?_
  refine Dp (fun _ => q_sub64 (y := 1) ⟨rfl, rfl⟩) ?_
  refine Dp (fun _ => q_callp g2' ⟨rfl, rfl⟩ (ha := (cac (et rfl) cm_int ca0))) ?_
  refine Dp (fun _ => q_mv (s := .v (.c _)) ⟨rfl, rfl⟩) ?_
  refine Dp (fun _ => q_mv (s := .v (.c _)) ⟨rfl, rfl⟩) ?_
  refine De2 (fun _ k_ => q_calln g3 k_ (ha := (caa (et rfl) sees_m (caa (et rfl) sees_m (cac (et rfl) sees_ro (cac (et rfl) sees_ro ca0)))))) ?_
  refine Dp (fun _ => q_as (s := .v (.c _)) ⟨rfl, rfl⟩) ?_
  refine Dp (fun _ => q_as (s := sc (cn 0)) ⟨rfl, rfl⟩) ?_
  refine dend ?_
  refine awp_ret ?_
  exact fx2 [0, 1, 2] (hm0 := rfl) (hH := pl1 rfl rfl (pl1 rfl sees_m (pl1 rfl sees_m pl0))) (hn := piB rfl)
set_option maxHeartbeats 1600000 in
theorem copen_ok (key ad l : List UInt8) (n : UInt64) (a k : Nat) (hkey : key.length = 32) (had : ad.length = a) (ha9 : a ≤ 10000) (hl : l.length = k) (hk9 : k ≤ 10000) (h : n ≠ 18446744073709551615) (p : List UInt8) (hp : aopen key (anonce n) ad l = some p) : Good Try.prog 33 [.c (.ptr 0 0), .c (.ro a (u8s ad)), .c (.ro k (u8s l))] [some (cC (.ptr 1 0) n), some (u8s key)] (.t [.c (.slc 2 0 (k - 16) 1), .c (cn 0)]) [some (cC (.ptr 1 0) (n + 1)), some (u8s key), some (u8s p)] := by
  have g1 := ready_ok (u8s key) n h
  have hNl := anonce_len n
  have g2 := nonce_ n
  obtain ⟨N, hN⟩ : ∃ z, anonce n = z := ⟨_, rfl⟩
  rw [hN] at hNl g2
  rw [hN] at hp
  have g3 := open_some key N ad l a k hkey hNl had ha9 hl hk9 p hp
  refine good_frm 51 Try.func33 rfl rfl rfl rfl rfl rfl ?_
  refine awp_seq ?_
  refine rln ?_
  refine As ?_
  refine G (q_as (s := sc (cn 0)) ?_)
  refine gend ?_
  refine awp_seq ?_
  refine awp_seq ?_
  refine rln ?_
  refine Mv ?_
  refine G2 (fun _ k_ => q_callp g1 k_ (ha := (cac (et rfl) (sees_key rfl rfl hkey rfl rfl) ca0))) ?_
  refine As ?_
  refine gend ?_
  refine awp_seq ?_
  refine rln ?_
  refine Mv ?_
  refine G (q_neqn (y := 0) ?_)
  refine gend ?_
  refine cndN (fun hc1 => ?_) ?_; rotate_left
  · exact fun h => h rfl
  refine awp_skip ?_
  refine awp_seq ?_
  refine awp_seq ?_
  refine rln ?_
  refine Mv ?_
  refine G (q_ncp ?_)
  refine G (q_fap0 ?_)
  refine G (q_ldp ?_)
  refine G (q_eqlp ?_)
  refine gend ?_
  refine cndF ?_
  refine awp_skip ?_
  refine awp_seq ?_
  refine rdln [13] [0, 0, 0, 0, 0, 0, 0, 0, 0, 0, 0, 0, 0, 0, 1, 1, 1, 1, 1] [0, 0, 0, 0, 0, 0, 0, 0, 0, 0, 0, 0, 0, 1, 1, 1, 1, 1, 1] ?_
  refine Dp (fun _ => q_mv (s := .v (.c _)) ⟨rfl, rfl⟩) ?_
  refine Dp (fun _ => q_ncp ⟨rfl, rfl⟩) ?_
  refine Dp (fun _ => q_fap0 ⟨rfl, rfl⟩) ?_
  refine DLp ?_
  refine Dp (fun _ => q_ncp ⟨rfl, rfl⟩) ?_
  refine DLw ?_
  refine Dp (fun _ => q_mv (s := .v (.c _)) ⟨rfl, rfl⟩) ?_
  refine Dp (fun _ => q_ncp ⟨rfl, rfl⟩) ?_
  refine Dp (fun _ => q_fap0 ⟨rfl, rfl⟩) ?_
  refine DLp ?_
  refine Dp (fun _ => q_callp g2 ⟨rfl, rfl⟩ (ha := (cac (et rfl) cm_int ca0))) ?_
  refine Dp (fun _ => q_mv (s := .v (.c _)) ⟨rfl, rfl⟩) ?_
  refine Dp (fun _ => q_mv (s := .v (.c _)) ⟨rfl, rfl⟩) ?_
  refine De2 (fun _ k_ => q_calln g3 k_ (ha := (caa (et rfl) sees_m (caa (et rfl) sees_m (cac (et rfl) sees_ro (cac (et rfl) sees_ro ca0)))))) ?_
  refine Dp (fun _ => q_mv (s := .t _) ⟨rfl, rfl⟩) ?_
  refine Dp (fun _ => q_ext (y := .c _) ⟨rfl, rfl⟩) ?_
  refine Dp (fun _ => q_ext (y := .c _) ⟨rfl, rfl⟩) ?_
  refine Dp (fun _ => q_as (s := .v (.c _)) ⟨rfl, rfl⟩) ?_
  refine Dp (fun _ => q_as (s := .v (.c _)) ⟨rfl, rfl⟩) ?_
  refine dend ?_
  refine awp_seq ?_
  refine awp_seq ?_
  refine rln ?_
  refine Mv ?_
  refine G (q_eqln (y := 0) ?_)
  refine gend ?_
  refine cndY (fun hc2 => ?_) ?_; rotate_left
  · exact rfl
  refine rln ?_
  refine Mv ?_
  refine G (q_ncp ?_)
  refine G (q_fap0 ?_)
  refine G (q_ldp ?_)
  refine G (q_add64 (y := 1) ?_)
  refine G (q_ncp ?_)
  refine G (q_fap0 ?_)
  refine G20 (fun _ k_ => q_st k_) ?_
  refine gend ?_
  refine awp_seq ?_
  refine rln ?_
  refine Mv ?_
  refine Mv ?_
  refine As ?_
  refine As ?_
  refine gend ?_
  refine awp_ret ?_
  exact fx2 [0, 1, 2] (hm0 := rfl) (hH := pl1 rfl rfl (pl1 rfl sees_m (pl1 rfl sees_m pl0))) (hn := piB rfl)
set_option maxHeartbeats 1600000 in
theorem copen_bad (key ad l : List UInt8) (n : UInt64) (a k : Nat) (hkey : key.length = 32) (had : ad.length = a) (ha9 : a ≤ 10000) (hl : l.length = k) (hk9 : k ≤ 10000) (h : n ≠ 18446744073709551615) (hp : aopen key (anonce n) ad l = none) : Good Try.prog 33 [.c (.ptr 0 0), .c (.ro a (u8s ad)), .c (.ro k (u8s l))] [some (cC (.ptr 1 0) n), some (u8s key)] (.t [.c .nils, .c (cn 8)]) [some (cC (.ptr 1 0) n), some (u8s key)] := by
  have g1 := ready_ok (u8s key) n h
  have hNl := anonce_len n
  have g2 := nonce_ n
  obtain ⟨N, hN⟩ : ∃ z, anonce n = z := ⟨_, rfl⟩
  rw [hN] at hNl g2
  rw [hN] at hp
  have g3 := open_none key N ad l a k hkey hNl had ha9 hl hk9 hp
  refine good_frm 51 Try.func33 rfl rfl rfl rfl rfl rfl ?_
  refine awp_seq ?_
  refine rln ?_
  refine As ?_
  refine G (q_as (s := sc (cn 0)) ?_)
  refine gend ?_
  refine awp_seq ?_
  refine awp_seq ?_
  refine rln ?_
  refine Mv ?_
  refine G2 (fun _ k_ => q_callp g1 k_ (ha := (cac (et rfl) (sees_key rfl rfl hkey rfl rfl) ca0))) ?_
  refine As ?_
  refine gend ?_
  refine awp_seq ?_
  refine rln ?_
  refine Mv ?_
  refine G (q_neqn (y := 0) ?_)
  refine gend ?_
  refine cndN (fun hc1 => ?_) ?_; rotate_left
  · exact fun h => h rfl
  refine awp_skip ?_
  refine awp_seq ?_
  refine awp_seq ?_
  refine rln ?_
  refine Mv ?_
  refine G (q_ncp ?_)
  refine G (q_fap0 ?_)
  refine G (q_ldp ?_)
  refine G (q_eqlp ?_)
  refine gend ?_
  refine cndF ?_
  refine awp_skip ?_
  refine awp_seq ?_
  refine rdln [] [] [] ?_
  refine Dp (fun _ => q_mv (s := .v (.c _)) ⟨rfl, rfl⟩) ?_
  refine Dp (fun _ => q_ncp ⟨rfl, rfl⟩) ?_
  refine Dp (fun _ => q_fap0 ⟨rfl, rfl⟩) ?_
  refine DLp ?_
  refine Dp (fun _ => q_ncp ⟨rfl, rfl⟩) ?_
  refine DLw ?_
  refine Dp (fun _ => q_mv (s := .v (.c _)) ⟨rfl, rfl⟩) ?_
  refine Dp (fun _ => q_ncp ⟨rfl, rfl⟩) ?_
  refine Dp (fun _ => q_fap0 ⟨rfl, rfl⟩) ?_
  refine DLp ?_
  refine Dp (fun _ => q_callp g2 ⟨rfl, rfl⟩ (ha := (cac (et rfl) cm_int ca0))) ?_
  refine Dp (fun _ => q_mv (s := .v (.c _)) ⟨rfl, rfl⟩) ?_
  refine Dp (fun _ => q_mv (s := .v (.c _)) ⟨rfl, rfl⟩) ?_
  refine Dp (fun _ => q_callp g3 ⟨rfl, rfl⟩ (ha := (caa (et rfl) sees_m (caa (et rfl) sees_m (cac (et rfl) sees_ro (cac (et rfl) sees_ro ca0)))))) ?_
  refine Dp (fun _ => q_mv (s := .t _) ⟨rfl, rfl⟩) ?_
  refine Dp (fun _ => q_ext (y := .c _) ⟨rfl, rfl⟩) ?_
  refine Dp (fun _ => q_ext (y := .c _) ⟨rfl, rfl⟩) ?_
  refine Dp (fun _ => q_as (s := .v (.c _)) ⟨rfl, rfl⟩) ?_
  refine Dp (fun _ => q_as (s := .v (.c _)) ⟨rfl, rfl⟩) ?_
  refine dend ?_
  refine awp_seq ?_
  refine awp_seq ?_
  refine rln ?_
  refine Mv ?_
  refine G (q_eqln (y := 0) ?_)
  refine gend ?_
  refine cndN (fun hc2 => ?_) ?_; rotate_left
  · exact by decide
  refine awp_skip ?_
  refine awp_seq ?_
  refine rln ?_
  refine Mv ?_
  refine Mv ?_
  refine As ?_
  refine As ?_
  refine gend ?_
  refine awp_ret ?_
  exact fx2 [0, 1] (hm0 := rfl) (hH := pl1 rfl rfl (pl1 rfl sees_m pl0))
theorem setn_k (key : List UInt8) (n m : UInt64) : Good Try.prog 29 [.c (.ptr 0 0), .c (c64 m)] [some (cC (.ptr 1 0) n), some (u8s key)] (.t []) [some (cC (.ptr 1 0) m), some (u8s key)] := by
  refine good_frm 16 Try.func29 rfl rfl rfl rfl rfl rfl ?_
  refine awp_seq ?_
  refine rln ?_
  refine Mv ?_
  refine G (q_neqp ?_)
  refine Mv ?_
  refine Gg (q_mv (s := .v (.c _)) ?_)
  refine Gg (q_ncp ?_)
  refine Gg (q_fap0 ?_)
  refine Gg (q_ldp ?_)
  refine G (q_pkt ?_)
  refine gend ?_
  refine cndbY (fun hc1 => ?_) ?_; rotate_left
  · exact rfl
  refine rln ?_
  refine Mv ?_
  refine Mv ?_
  refine G (q_ncp ?_)
  refine G (q_fap0 ?_)
  refine G20 (fun _ k_ => q_st k_) ?_
  refine gend ?_
  exact fx0 [0, 1] (hH := pl1 rfl rfl (pl1 rfl sees_m pl0))
end Go.Proofs.Ytklcckngmmklhaa

/- What functions of the program do, walked over the abstract machine. -/
namespace Go.Proofs.Ytklcckngmmklhaa
open Go Go.Abs Go.Proofs Go.Proofs.Ytklcckngmmklhaa.Ch Go.Proofs.Ytklcckngmmklhaa.Po Go.Proofs.Ytklcckngmmklhaa.Ae
set_option maxRecDepth 20000
abbrev sC (cp : Cell) (h ck : List UInt8) : List Cell := cp :: (u8s h ++ u8s ck)
set_option maxHeartbeats 1600000 in
theorem rekey_k (key : List UInt8) (n : UInt64) (hkey : key.length = 32) : Good Try.prog 47 [.c (.ptr 0 0)] [some (cC (.ptr 1 0) n), some (u8s key)] (.t []) [some (cC (.ptr 2 0) n), some (u8s key), some (u8s (anext key))] := by
  have hNl := anonce_len 18446744073709551615
  have g2 := nonce_ 18446744073709551615
  have hA := anext_len key
  have hS := aseal_len key (anonce 18446744073709551615) [] (List.replicate 32 0)
  have g3 := seal_ key (anonce 18446744073709551615) [] (List.replicate 32 0) 0 32 hkey hNl rfl (by decide) rfl (by decide)
  rw [show (List.replicate 32 (0 : UInt8)).length = 32 from rfl] at hS
  have hAS : anext key = (aseal key (anonce 18446744073709551615) [] (List.replicate 32 0)).take 32 := rfl
  obtain ⟨Sx, hSx⟩ : ∃ z, aseal key (anonce 18446744073709551615) [] (List.replicate 32 0) = z := ⟨_, rfl⟩
  obtain ⟨N, hN⟩ : ∃ z, anonce 18446744073709551615 = z := ⟨_, rfl⟩
  obtain ⟨A, hAA⟩ : ∃ z, anext key = z := ⟨_, rfl⟩
  rw [hSx] at hS hAS g3
  rw [hAA] at hA hAS ⊢
  rw [hN] at g2 g3 hNl
  refine good_frm 20 Try.func47 rfl rfl rfl rfl rfl rfl ?_
  refine awp_seq ?_
  refine rln ?_
  refine Mv ?_
  refine G2 (fun _ k_ => q_callp (has_k _ _) k_ (ha := (cac (et rfl) (sees_key rfl rfl hkey rfl rfl) ca0))) ?_
  refine gend ?_
  refine cndbY (fun hc1 => ?_) ?_; rotate_left
  · exact rfl
  refine awp_mid ⟨frm 20 [(0, sc (.ptr 0 0)), (2, sc (.ptr 2 0))], [some (cC (.ptr 1 0) n), some (u8s key), some (u8s A)]⟩ ?_ ?_
  · refine rdm [7, 8, 12, 13] [⟨[0, 1, 2, 3, 4, 5, 6, 7, 8, 9, 10, 11, 12, 13], [7, 8, 12, 13], [7, 8, 12, 13], [0, 0, 0, 0, 0, 0, 0, 0, 1, 2, 2, 2, 2, 3], [1, 1, 1, 1, 1, 1, 1, 1, 2, 3, 3, 3, 3, 4]⟩, ⟨[0, 1, 2, 3, 4, 5, 6, 7, 12, 8, 9, 10, 11, 13], [7, 12, 8, 13], [7, 8, 9, 13], [0, 0, 0, 0, 0, 0, 0, 0, 1, 2, 3, 3, 3, 3], [2, 2, 2, 2, 2, 2, 2, 1, 2, 3, 3, 3, 3, 4]⟩, ⟨[0, 1, 2, 3, 4, 5, 6, 12, 7, 8, 9, 10, 11, 13], [12, 7, 8, 13], [7, 8, 9, 13], [0, 0, 0, 0, 0, 0, 0, 0, 1, 2, 3, 3, 3, 3], [2, 2, 2, 2, 2, 2, 2, 1, 2, 3, 3, 3, 3, 4]⟩] ⟨?_, ?_, ?_, trivial⟩
    · refine Dp (fun _ => q_mv (s := .v (.c _)) ⟨rfl, rfl⟩) ?_
      refine Dp (fun _ => q_ncp ⟨rfl, rfl⟩) ?_
      refine Dp (fun _ => q_fap0 ⟨rfl, rfl⟩) ?_
      refine DLp ?_
      refine Dp (fun _ => q_ncp ⟨rfl, rfl⟩) ?_
      refine DLw ?_
      refine Dp (fun _ => q_callp g2 ⟨rfl, rfl⟩ (ha := (cac rfl cm_int ca0))) ?_
      refine De2 (fun _ k_ => q_mks k_) ?_
      refine De2 (fun _ k_ => q_calln g3 k_ (ha := (caa (et rfl) sees_m (caa (et rfl) sees_m (cac rfl sees_nil8 (cac (et rfl) (sees_slc rfl rfl rfl) ca0)))))) ?_
      refine Dp (fun _ => q_sls_hi (k := 32) ⟨rfl, rfl⟩) ?_
      refine Dp (fun _ => q_s2p ⟨rfl, rfl⟩) ?_
      refine DLa (xs := u8s A) ?_ (hc := by rw [hAS]; exact cut_pre2)
      refine De2 (fun _ k_ => q_al k_) ?_
      refine De20 (fun _ k_ => q_stw k_) ?_
      refine dend ?_
      exact sle_view [0, 1, 4] (piB rfl) (by decide) ⟨rfl, rfl, trivial⟩ (vh3 (pick_c rfl rfl) (pick_m rfl) (pick_m rfl))
    · refine Dp (fun _ => q_mv (s := .v (.c _)) ⟨rfl, rfl⟩) ?_
      refine Dp (fun _ => q_ncp ⟨rfl, rfl⟩) ?_
      refine Dp (fun _ => q_fap0 ⟨rfl, rfl⟩) ?_
      refine DLp ?_
      refine Dp (fun _ => q_ncp ⟨rfl, rfl⟩) ?_
      refine DLw ?_
      refine Dp (fun _ => q_callp g2 ⟨rfl, rfl⟩ (ha := (cac rfl cm_int ca0))) ?_
      refine De2 (fun _ k_ => q_mks k_) ?_
      refine De2 (fun _ k_ => q_al k_) ?_
      refine De2 (fun _ k_ => q_calln g3 k_ (ha := (caa (et rfl) sees_m (caa (et rfl) sees_m (cac rfl sees_nil8 (cac (et rfl) (sees_slc rfl rfl rfl) ca0)))))) ?_
      refine Dp (fun _ => q_sls_hi (k := 32) ⟨rfl, rfl⟩) ?_
      refine Dp (fun _ => q_s2p ⟨rfl, rfl⟩) ?_
      refine DLa (xs := u8s A) ?_ (hc := by rw [hAS]; exact cut_pre2)
      refine De20 (fun _ k_ => q_stw k_) ?_
      refine dend ?_
      exact sle_view [0, 1, 3] (piB rfl) (by decide) ⟨rfl, rfl, trivial⟩ (vh3 (pick_c rfl rfl) (pick_m rfl) (pick_m rfl))
    refine Dp (fun _ => q_mv (s := .v (.c _)) ⟨rfl, rfl⟩) ?_
    refine Dp (fun _ => q_ncp ⟨rfl, rfl⟩) ?_
    refine Dp (fun _ => q_fap0 ⟨rfl, rfl⟩) ?_
    refine DLp ?_
    refine Dp (fun _ => q_ncp ⟨rfl, rfl⟩) ?_
    refine DLw ?_
    refine Dp (fun _ => q_callp g2 ⟨rfl, rfl⟩ (ha := (cac rfl cm_int ca0))) ?_
    refine De2 (fun _ k_ => q_al k_) ?_
    refine De2 (fun _ k_ => q_mks k_) ?_
    refine De2 (fun _ k_ => q_calln g3 k_ (ha := (caa (et rfl) sees_m (caa (et rfl) sees_m (cac rfl sees_nil8 (cac (et rfl) (sees_slc rfl rfl rfl) ca0)))))) ?_
    refine Dp (fun _ => q_sls_hi (k := 32) ⟨rfl, rfl⟩) ?_
    refine Dp (fun _ => q_s2p ⟨rfl, rfl⟩) ?_
    refine DLa (xs := u8s A) ?_ (hc := by rw [hAS]; exact cut_pre2)
    refine De20 (fun _ k_ => q_stw k_) ?_
    refine dend ?_
    exact sle_view [0, 1, 2] (piB rfl) (by decide) ⟨rfl, rfl, trivial⟩ (vh3 (pick_c rfl rfl) (pick_m rfl) (pick_m rfl))
  refine rln ?_
  refine Mv ?_
  refine G (q_ncp ?_)
  refine G (q_fap0 ?_)
  refine G20 (fun _ k_ => q_st k_) ?_
  refine gend ?_
  exact fx0 [0, 1, 2] (hH := pl1 rfl rfl (pl1 rfl sees_m (pl1 rfl sees_m pl0))) (hn := piB rfl)
theorem copy_k (key : List UInt8) (n : UInt64) : Good Try.prog 36 [.c (.ptr 0 0)] [some (cC (.ptr 1 0) n), some (u8s key)] (sc (.ptr 2 0)) [some (cC (.ptr 1 0) n), some (u8s key), some (cC (.ptr 1 0) n)] := by
  refine good_frm 16 Try.func36 rfl rfl rfl rfl rfl rfl ?_
  refine awp_seq ?_
  refine rln ?_
  refine As ?_
  refine gend ?_
  refine awp_seq ?_
  refine awp_seq ?_
  refine rln ?_
  refine Mv ?_
  refine G (q_eqlp ?_)
  refine Mv ?_
  refine Gg (q_mv (s := .v (.c _)) ?_)
  refine Gg (q_ncp ?_)
  refine Gg (q_fap0 ?_)
  refine Gg (q_ldp ?_)
  refine Gg (q_notb ?_)
  refine G (q_pkf ?_)
  refine gend ?_
  refine cndbnN (fun hc1 => ?_) ?_; rotate_left
  · exact rfl
  refine awp_skip ?_
  refine awp_seq ?_
  refine rln ?_
  refine Mv ?_
  refine G (q_ncp ?_)
  refine G (q_ldw ?_)
  refine G2 (fun _ k_ => q_al k_) ?_
  refine G20 (fun _ k_ => q_stw k_) ?_
  refine gend ?_
  refine awp_seq ?_
  refine rln ?_
  refine As ?_
  refine gend ?_
  refine awp_ret ?_
  exact fx1 [0, 1, 2] (hm0 := rfl) (hH := pl1 rfl rfl (pl1 rfl sees_m (pl1 rfl rfl pl0))) (hn := piB rfl)
theorem copy_0 (n : UInt64) : Good Try.prog 36 [.c (.ptr 0 0)] [some (cC .nilp n)] (sc (.ptr 1 0)) [some (cC .nilp n), some (cC .nilp n)] := by
  refine good_frm 16 Try.func36 rfl rfl rfl rfl rfl rfl ?_
  refine awp_seq ?_
  refine rln ?_
  refine As ?_
  refine gend ?_
  refine awp_seq ?_
  refine awp_seq ?_
  refine rln ?_
  refine Mv ?_
  refine G (q_eqlp ?_)
  refine Mv ?_
  refine Gg (q_mv (s := .v (.c _)) ?_)
  refine Gg (q_ncp ?_)
  refine Gg (q_fap0 ?_)
  refine Gg (q_ldp ?_)
  refine Gg (q_notb ?_)
  refine G (q_pkf ?_)
  refine gend ?_
  refine cndbnN (fun hc1 => ?_) ?_; rotate_left
  · exact rfl
  refine awp_skip ?_
  refine awp_seq ?_
  refine rln ?_
  refine Mv ?_
  refine G (q_ncp ?_)
  refine G (q_ldw ?_)
  refine G2 (fun _ k_ => q_al k_) ?_
  refine G20 (fun _ k_ => q_stw k_) ?_
  refine gend ?_
  refine awp_seq ?_
  refine rln ?_
  refine As ?_
  refine gend ?_
  refine awp_ret ?_
  exact fx1 [0, 1] (hm0 := rfl) (hH := pl1 rfl rfl (pl1 rfl rfl pl0)) (hn := piB rfl)
end Go.Proofs.Ytklcckngmmklhaa

/- What functions of the program do, walked over the abstract machine. -/
namespace Go.Proofs.Ytklcckngmmklhaa.Wd
open Go Go.Abs Go.Proofs
set_option maxRecDepth 20000
def wb (g b n : UInt64) : Bool := decide (b ≠ 0) && decide (n ≤ g)
abbrev wbit (b d : UInt64) : Prop := shr64n b d.toNat &&& 1 = 1
def wchk (m : Bool) (g b n : UInt64) : Nat := if m then (if wb g b n then (if 64 ≤ g - n ∨ wbit b (g - n) then 10 else 0) else 0) else 1
def wcame (m : Bool) (g b n : UInt64) : Bool := m && (wb g b n && (decide (g - n < 64) && decide (wbit b (g - n))))
abbrev wcs (m : Bool) (g b : UInt64) : List Cell := [c64 g, c64 b, .bool m]
def wtake (g b n : UInt64) : UInt64 × UInt64 := if wb g b n then (g, b ||| shl64n 1 (g - n).toNat) else if b = 0 then (n, 1) else if 64 ≤ n - g then (n, 0 ||| 1) else (n, shl64n b (n - g).toNat ||| 1)
def wnext (m : Bool) (g b n : UInt64) : UInt64 × UInt64 := if wchk m g b n = 0 then wtake g b n else (g, b)
theorem there (m : Bool) (g b : UInt64) : Good Try.prog 48 [.c (.rop (wcs m g b))] [] (sc (.bool m)) [] := by
  refine good_frm 11 Try.func48 rfl rfl rfl rfl rfl rfl ?_
  refine awp_seq ?_
  refine rl ?_
  refine As ?_
  refine gend ?_
  refine awp_seq ?_
  refine rl ?_
  refine Mv ?_
  refine G (q_neqp ?_)
  refine Mv ?_
  refine Gg (q_mv (s := .v (.c _)) ?_)
  refine Gg (q_ncr ?_)
  refine Gg (q_far ?_)
  refine Gg (q_ldr ?_)
  refine G (q_pkt ?_)
  refine As ?_
  refine gend ?_
  refine awp_ret ?_
  exact fp1
theorem below (m : Bool) (g b n : UInt64) : Good Try.prog 49 [.c (.rop (wcs m g b)), .c (c64 n)] [] (.t [.c (c64 (g - n)), .c (.bool (wb g b n))]) [] := by
  refine good_frm 25 Try.func49 rfl rfl rfl rfl rfl rfl ?_
  refine awp_seq ?_
  refine rl ?_
  refine G (q_as (s := sc (c64 0)) ?_)
  refine As ?_
  refine gend ?_
  refine awp_seq ?_
  refine rdl [] [] [] ?_
  refine Dp (fun _ => q_mv (s := .v (.c _)) ⟨rfl, rfl⟩) ?_
  refine Dp (fun _ => q_ncr ⟨rfl, rfl⟩) ?_
  refine Dp (fun _ => q_far ⟨rfl, rfl⟩) ?_
  refine Dp (fun _ => q_ldr ⟨rfl, rfl⟩) ?_
  refine Dp (fun _ => q_mv (s := .v (.c _)) ⟨rfl, rfl⟩) ?_
  refine Dp (fun _ => q_sub64 ⟨rfl, rfl⟩) ?_
  refine Dp (fun _ => q_mv (s := .v (.c _)) ⟨rfl, rfl⟩) ?_
  refine Dp (fun _ => q_ncr ⟨rfl, rfl⟩) ?_
  refine Dp (fun _ => q_far ⟨rfl, rfl⟩) ?_
  refine Dp (fun _ => q_ldr ⟨rfl, rfl⟩) ?_
  refine Dp (fun _ => q_neq64 (y := 0) ⟨rfl, rfl⟩) ?_
  refine Dp (fun _ => q_mv (s := .v (.c _)) ⟨rfl, rfl⟩) ?_
  refine Dspd 17 (fun hb12 => ?_) (fun hb12 => ?_)
  · refine Dpg (fun _ => q_mv (s := .v (.c _)) ⟨rfl, rfl⟩) ?_
    refine Dpg (fun _ => q_mv (s := .v (.c _)) ⟨rfl, rfl⟩) ?_
    refine Dpg (fun _ => q_ncr ⟨rfl, rfl⟩) ?_
    refine Dpg (fun _ => q_far ⟨rfl, rfl⟩) ?_
    refine Dpg (fun _ => q_ldr ⟨rfl, rfl⟩) ?_
    refine Dpg (fun _ => q_leq64 ⟨rfl, rfl⟩) ?_
    refine Dp (fun _ => q_pkt ⟨rfl, rfl⟩) ?_
    refine Dp (fun _ => q_as (s := .v (.c _)) ⟨rfl, rfl⟩) ?_
    refine Dp (fun _ => q_as (s := .v (.c _)) ⟨rfl, rfl⟩) ?_
    refine dend ?_
    refine awp_ret ?_
    exact fp2 (hv := by simp [wb, hb12])
  refine Dn ?_
  refine Dn ?_
  refine Dn ?_
  refine Dn ?_
  refine Dn ?_
  refine Dn ?_
  refine Dp (fun _ => q_pkf ⟨rfl, rfl⟩) ?_
  refine Dp (fun _ => q_as (s := .v (.c _)) ⟨rfl, rfl⟩) ?_
  refine Dp (fun _ => q_as (s := .v (.c _)) ⟨rfl, rfl⟩) ?_
  refine dend ?_
  refine awp_ret ?_
  exact fp2 (hv := by simp [wb, hb12])
theorem check (m : Bool) (g b n : UInt64) : Good Try.prog 32 [.c (.rop (wcs m g b)), .c (c64 n)] [] (sc (cn (wchk m g b n))) [] := by
  refine good_frm 30 Try.func32 rfl rfl rfl rfl rfl rfl ?_
  refine awp_seq ?_
  refine rl ?_
  refine G (q_as (s := sc (cn 0)) ?_)
  refine gend ?_
  refine awp_scope 0 (fun s => (m = true ∧ wb g b n = false) ∧ ∃ al H, s = ⟨frm 30 al, H⟩) rfl ?_ ?_; rotate_left
  · rintro _ ⟨⟨hm, hw⟩, al, H, rfl⟩
    refine awp_seq ?_
    refine awp_skip ?_
    refine awp_seq ?_
    refine rl ?_
    refine G (q_as (s := sc (cn 0)) ?_)
    refine gend ?_
    refine awp_ret ?_
    exact fp1 (hv := by simp [wchk, wbit, *])
  refine awp_seq ?_
  refine awp_seq ?_
  refine rl ?_
  refine Mv ?_
  refine G (q_callp (there _ _ _/- (*escutcheon/window.Window).there -/) ?_)
  refine G (q_notb ?_)
  refine gend ?_
  refine cndbn (fun hc1 => ?_) (fun hc1 => ?_)
  · refine awp_seq ?_
    refine rl ?_
    refine G (q_as (s := sc (cn 1)) ?_)
    refine gend ?_
    refine awp_ret ?_
    exact fp1 (hv := by simp [wchk, wbit, *])
  refine awp_skip ?_
  refine awp_seq ?_
  refine rl ?_
  refine Mv ?_
  refine Mv ?_
  refine G (q_callp (below _ _ _ _/- (*escutcheon/window.Window).below -/) ?_)
  refine G (q_mv (s := .t _) ?_)
  refine G (q_ext (y := .c _) ?_)
  refine G (q_ext (y := .c _) ?_)
  refine As ?_
  refine As ?_
  refine gend ?_
  refine awp_seq ?_
  refine awp_seq ?_
  refine rl ?_
  refine Mv ?_
  refine G (q_notb ?_)
  refine gend ?_
  refine cndbn (fun hc2 => ?_) (fun hc2 => ?_)
  · refine awp_goto ?_
    exact ⟨rfl, ⟨by assumption, by assumption⟩, _, _, rfl⟩
  refine awp_skip ?_
  refine awp_seq ?_
  refine awp_seq ?_
  refine rl ?_
  refine Mv ?_
  refine G (q_geq64 (y := 64) ?_)
  refine Mv ?_
  refine Aspd 20 (fun hb3 => ?_) (fun hb3 => ?_)
  · refine Gn ?_
    refine Gn ?_
    refine Gn ?_
    refine Gn ?_
    refine Gn ?_
    refine Gn ?_
    refine Gn ?_
    refine Gn ?_
    refine G (q_pkt ?_)
    refine gend ?_
    refine cndT ?_
    refine awp_seq ?_
    refine rl ?_
    refine G (q_as (s := sc (cn 10)) ?_)
    refine gend ?_
    refine awp_ret ?_
    exact fp1 (hv := by simp [wchk, wbit, *])
  refine Gg (q_mv (s := .v (.c _)) ?_)
  refine Gg (q_ncr ?_)
  refine Gg (q_far ?_)
  refine Gg (q_ldr ?_)
  refine Gg (q_mv (s := .v (.c _)) ?_)
  refine Gg (q_shr64_64 ?_)
  refine Gg (q_and64 (y := 1) ?_)
  refine Gg (q_eql64 (y := 1) ?_)
  refine G (q_pkf ?_)
  refine gend ?_
  refine cnd (fun hc3 => ?_) (fun hc3 => ?_)
  · refine awp_seq ?_
    refine rl ?_
    refine G (q_as (s := sc (cn 10)) ?_)
    refine gend ?_
    refine awp_ret ?_
    exact fp1 (hv := by simp [wchk, wbit, *])
  refine awp_skip ?_
  refine awp_seq ?_
  refine awp_label ?_
  refine awp_seq ?_
  refine rl ?_
  refine G (q_as (s := sc (cn 0)) ?_)
  refine gend ?_
  refine awp_ret ?_
  exact fp1 (hv := by simp [wchk, wbit, *])
theorem copy (m : Bool) (g b : UInt64) (hm : m = true) : Good Try.prog 46 [.c (.rop (wcs m g b))] [] (sc (.ptr 0 0)) [some (wcs m g b)] := by
  refine good_frm 10 Try.func46 rfl rfl rfl rfl rfl rfl ?_
  refine awp_seq ?_
  refine rl ?_
  refine As ?_
  refine gend ?_
  refine awp_seq ?_
  refine awp_seq ?_
  refine rl ?_
  refine Mv ?_
  refine G (q_callp (there _ _ _/- (*escutcheon/window.Window).there -/) ?_)
  refine G (q_notb ?_)
  refine gend ?_
  refine cndbn (fun hc1 => ?_) (fun hc1 => ?_)
  · refine awp_seq ?_
    refine rl ?_
    refine As ?_
    refine gend ?_
    refine awp_ret ?_
    subst hm; cases hc1
  refine awp_skip ?_
  refine awp_seq ?_
  refine rl ?_
  refine Mv ?_
  refine G (q_ncr ?_)
  refine G (q_ldar ?_)
  refine G (q_al ?_)
  refine G0 (q_stw ?_)
  refine gend ?_
  refine awp_seq ?_
  refine rl ?_
  refine As ?_
  refine gend ?_
  refine awp_ret ?_
  exact fn1 0 (hc := by exact rfl)
theorem copy_0 (g b : UInt64) : Good Try.prog 46 [.c (.rop (wcs false g b))] [] (sc .nilp) [] := by
  refine good_frm 10 Try.func46 rfl rfl rfl rfl rfl rfl ?_
  refine awp_seq ?_
  refine rl ?_
  refine As ?_
  refine gend ?_
  refine awp_seq ?_
  refine awp_seq ?_
  refine rl ?_
  refine Mv ?_
  refine G (q_callp (there _ _ _/- (*escutcheon/window.Window).there -/) ?_)
  refine G (q_notb ?_)
  refine gend ?_
  refine cndbn (fun hc1 => ?_) (fun hc1 => ?_)
  · refine awp_seq ?_
    refine rl ?_
    refine As ?_
    refine gend ?_
    refine awp_ret ?_
    exact fp1
  refine awp_skip ?_
  refine awp_seq ?_
  refine rl ?_
  refine Mv ?_
  refine G (q_ncr ?_)
  refine G (q_ldar ?_)
  refine G (q_al ?_)
  refine G0 (q_stw ?_)
  refine gend ?_
  refine awp_seq ?_
  refine rl ?_
  refine As ?_
  refine gend ?_
  refine awp_ret ?_
  cases hc1
theorem new : Good Try.prog 42 [] [] (sc (.ptr 0 0)) [some (wcs true 0 0)] := by
  refine good_frm 3 Try.func42 rfl rfl rfl rfl rfl rfl ?_
  refine awp_seq ?_
  refine rl ?_
  refine As ?_
  refine gend ?_
  refine awp_seq ?_
  refine rl ?_
  refine G (q_bls (fkc rfl rfl rfl (Nat.le_of_ble_eq_true rfl) (fk0 ?_)))
  refine G (q_boxa ?_)
  refine As ?_
  refine gend ?_
  refine awp_ret ?_
  exact fn1 0
theorem take (m : Bool) (g b n : UInt64) : Good Try.prog 34 [.c (.ptr 0 0), .c (c64 n)] [some (wcs m g b)] (sc (cn (wchk m g b n))) [some (wcs m (wnext m g b n).1 (wnext m g b n).2)] := by
  refine good_frm 75 Try.func34 rfl rfl rfl rfl rfl rfl ?_
  refine awp_seq ?_
  refine rl ?_
  refine G (q_as (s := sc (cn 0)) ?_)
  refine gend ?_
  refine awp_seq ?_
  refine rl ?_
  refine Mv ?_
  refine Mv ?_
  refine G (q_callp (check _ _ _ _/- (*escutcheon/window.Window).Check -/) ?_)
  refine As ?_
  refine gend ?_
  refine awp_seq ?_
  refine awp_seq ?_
  refine rl ?_
  refine Mv ?_
  refine G (q_neqn (y := 0) ?_)
  refine gend ?_
  refine cnd (fun hc1 => ?_) (fun hc1 => ?_)
  · refine awp_seq ?_
    refine rl ?_
    refine Mv ?_
    refine As ?_
    refine gend ?_
    refine awp_ret ?_
    exact fw1 (hH := by simp [wnext, hc1])
  refine awp_skip ?_
  refine awp_seq ?_
  refine rl ?_
  refine Mv ?_
  refine Mv ?_
  refine G (q_callp (below _ _ _ _/- (*escutcheon/window.Window).below -/) ?_)
  refine G (q_mv (s := .t _) ?_)
  refine G (q_ext (y := .c _) ?_)
  refine G (q_ext (y := .c _) ?_)
  refine As ?_
  refine As ?_
  refine gend ?_
  refine awp_seq ?_
  refine awp_block ?_
  refine awp_seq ?_
  refine rl ?_
  refine Mv ?_
  refine As ?_
  refine gend ?_
  refine cndb (fun hc2 => ?_) (fun hc2 => ?_)
  · refine rl ?_
    refine Mv ?_
    refine G (q_ncp ?_)
    refine G (q_fap0 ?_)
    refine G (q_ldp ?_)
    refine Mv ?_
    refine G (q_shl64_64 (x := 1) ?_)
    refine G (q_or64 ?_)
    refine G (q_ncp ?_)
    refine G (q_fap0 ?_)
    refine G0 (q_st ?_)
    refine gend ?_
    refine awp_seq ?_
    refine rl ?_
    refine G (q_as (s := sc (cn 0)) ?_)
    refine gend ?_
    refine awp_ret ?_
    exact fw1 (hH := by simp only [wnext, if_pos (Decidable.not_not.1 hc1)]; simp [wtake, hc2]) (hv := by rw [Decidable.not_not.1 hc1])
  refine awp_seq ?_
  refine rl ?_
  refine Mv ?_
  refine G (q_ncp ?_)
  refine G (q_fap0 ?_)
  refine G (q_ldp ?_)
  refine G (q_eql64 (y := 0) ?_)
  refine As ?_
  refine gend ?_
  refine cnd (fun hc3 => ?_) (fun hc3 => ?_)
  · refine rl ?_
    refine Mv ?_
    refine Mv ?_
    refine Mv ?_
    refine G (q_ncp ?_)
    refine G (q_fap0 ?_)
    refine G0 (q_st ?_)
    refine G (q_ncp ?_)
    refine G (q_fap0 ?_)
    refine G0 (q_st (c := c64 1) ?_)
    refine gend ?_
    refine awp_seq ?_
    refine rl ?_
    refine G (q_as (s := sc (cn 0)) ?_)
    refine gend ?_
    refine awp_ret ?_
    exact fw1 (hH := by simp only [wnext, if_pos (Decidable.not_not.1 hc1)]; rw [show wtake g b n = (n, 1) from by unfold wtake; rw [if_neg (by rw [hc2]; decide), if_pos hc3]]) (hv := by rw [Decidable.not_not.1 hc1])
  refine awp_seq ?_
  refine rl ?_
  refine Mv ?_
  refine Mv ?_
  refine G (q_ncp ?_)
  refine G (q_fap0 ?_)
  refine G (q_ldp ?_)
  refine G (q_sub64 ?_)
  refine As ?_
  refine gend ?_
  refine awp_seq ?_
  refine rl ?_
  refine Mv ?_
  refine Mv ?_
  refine G (q_ncp ?_)
  refine G (q_fap0 ?_)
  refine G0 (q_st ?_)
  refine gend ?_
  refine awp_seq ?_
  refine awp_seq ?_
  refine rl ?_
  refine Mv ?_
  refine G (q_geq64 (y := 64) ?_)
  refine gend ?_
  refine cnd (fun hc4 => ?_) (fun hc4 => ?_)
  · refine rl ?_
    refine Mv ?_
    refine G (q_ncp ?_)
    refine G (q_fap0 ?_)
    refine G0 (q_st (c := c64 0) ?_)
    refine gend ?_
    refine rl ?_
    refine Mv ?_
    refine G (q_ncp ?_)
    refine G (q_fap0 ?_)
    refine G (q_ldp ?_)
    refine G (q_or64 (y := 1) ?_)
    refine G (q_ncp ?_)
    refine G (q_fap0 ?_)
    refine G0 (q_st ?_)
    refine gend ?_
    refine awp_seq ?_
    refine rl ?_
    refine G (q_as (s := sc (cn 0)) ?_)
    refine gend ?_
    refine awp_ret ?_
    exact fw1 (hH := by simp only [wnext, if_pos (Decidable.not_not.1 hc1)]; simp [wtake, *]) (hv := by rw [Decidable.not_not.1 hc1])
  refine rl ?_
  refine Mv ?_
  refine G (q_ncp ?_)
  refine G (q_fap0 ?_)
  refine G (q_ldp ?_)
  refine Mv ?_
  refine G (q_shl64_64 ?_)
  refine G (q_ncp ?_)
  refine G (q_fap0 ?_)
  refine G0 (q_st ?_)
  refine gend ?_
  refine rl ?_
  refine Mv ?_
  refine G (q_ncp ?_)
  refine G (q_fap0 ?_)
  refine G (q_ldp ?_)
  refine G (q_or64 (y := 1) ?_)
  refine G (q_ncp ?_)
  refine G (q_fap0 ?_)
  refine G0 (q_st ?_)
  refine gend ?_
  refine awp_seq ?_
  refine rl ?_
  refine G (q_as (s := sc (cn 0)) ?_)
  refine gend ?_
  refine awp_ret ?_
  exact fw1 (hH := by simp only [wnext, if_pos (Decidable.not_not.1 hc1)]; simp [wtake, *]) (hv := by rw [Decidable.not_not.1 hc1])
end Go.Proofs.Ytklcckngmmklhaa.Wd

/- Two windows at a distance answer alike; a window answers by what it took. -/
namespace Go.Proofs.Ytklcckngmmklhaa.Wd
open Go Go.Abs Go.Proofs
def Mv2 (s : UInt64) (a b : UInt64 × UInt64) : Prop := a.2 = b.2 ∧ (a.2 = 0 ∨ (a.1.toNat < 4611686018427387904 ∧ b.1.toNat = a.1.toNat + s.toNat))
theorem bit_shl (b : UInt64) (k d : Nat) (hd : d < 64) : (shl64n b k).toNat.testBit d = (decide (k ≤ d) && b.toNat.testBit (d - k)) := by
  unfold shl64n
  by_cases hk : k < 64
  · have e : (b <<< UInt64.ofNat k).toNat = (b.toNat <<< k) % 2 ^ 64 := by
      rw [UInt64.toNat_shiftLeft, UInt64.toNat_ofNat', Nat.mod_eq_of_lt (show k < 2 ^ 64 by omega), Nat.mod_eq_of_lt hk]
    simp only [hk, ↓reduceIte]
    rw [e, Nat.testBit_mod_two_pow, Nat.testBit_shiftLeft]
    simp [hd]
  · simp only [hk, ↓reduceIte]
    have : ¬ k ≤ d := by omega
    simp [this]
theorem wbit_iff (b d : UInt64) (hd : d.toNat < 64) : wbit b d ↔ b.toNat.testBit d.toNat = true := by
  unfold wbit shr64n
  simp only [hd, ↓reduceIte]
  rw [← UInt64.toNat_inj, UInt64.toNat_and, UInt64.toNat_shiftRight, UInt64.toNat_ofNat', Nat.mod_eq_of_lt (show d.toNat < 2 ^ 64 by omega), Nat.mod_eq_of_lt hd]
  show b.toNat >>> d.toNat &&& 1 = 1 ↔ _
  rw [Nat.testBit, bne_iff_ne, Nat.and_comm]
  have : 1 &&& b.toNat >>> d.toNat < 2 := by rw [Nat.and_comm, Nat.and_one_is_mod]; omega
  constructor
  · intro h; omega
  · intro h; omega
structure Inv (l : List UInt64) (g b : UInt64) : Prop where
  nil : b = 0 ↔ l = []
  top : l ≠ [] → g ∈ l ∧ ∀ x ∈ l, x.toNat ≤ g.toNat
  bits : ∀ d, d < 64 → (b.toNat.testBit d = true ↔ ∃ x ∈ l, x.toNat + d = g.toNat)
theorem inv_nil : Inv [] 0 0 := ⟨by simp, by simp, by simp⟩
theorem take_inv {l : List UInt64} {g b n : UInt64} (I : Inv l g b) (h : wchk true g b n = 0) : Inv (l ++ [n]) (wnext true g b n).1 (wnext true g b n).2 := by
  have h64 : (64 : UInt64).toNat = 64 := rfl
  have key : ∀ g' b' : UInt64, (∀ d, d < 64 → (b'.toNat.testBit d = true ↔ ∃ x ∈ l ++ [n], x.toNat + d = g'.toNat)) → (g' ∈ l ++ [n] ∧ ∀ x ∈ l ++ [n], x.toNat ≤ g'.toNat) → Inv (l ++ [n]) g' b' := by
    intro g' b' h1 h2
    refine ⟨⟨fun h => ?_, fun h => by simp at h⟩, fun _ => h2, h1⟩
    have := (h1 0 (by omega)).2 ⟨g', h2.1, rfl⟩
    rw [h] at this
    simp at this
  unfold wnext
  rw [if_pos h]
  unfold wtake
  by_cases hw : wb g b n = true
  · rw [if_pos hw]
    simp only [wb, Bool.and_eq_true, decide_eq_true_eq, UInt64.le_iff_toNat_le] at hw
    have hl : l ≠ [] := fun h => hw.1 (I.nil.2 h)
    have hs : (g - n).toNat = g.toNat - n.toNat := UInt64.toNat_sub_of_le _ _ (UInt64.le_iff_toNat_le.2 hw.2)
    refine key g (b ||| shl64n 1 (g - n).toNat) (fun d hd => ?_) ⟨by simp [(I.top hl).1], fun x hx => ?_⟩
    · rw [UInt64.toNat_or, Nat.testBit_or, bit_shl _ _ _ hd, Bool.or_eq_true, I.bits d hd, hs]
      constructor
      · rintro (⟨x, hx, e⟩ | hx)
        · exact ⟨x, by simp [hx], e⟩
        · simp only [Bool.and_eq_true, decide_eq_true_eq] at hx
          obtain ⟨hx1, hx2⟩ := hx
          have hw2 := hw.2
          have : d - (g.toNat - n.toNat) = 0 := by
            have := hx2
            rcases Nat.eq_zero_or_pos (d - (g.toNat - n.toNat)) with h0 | h0
            · exact h0
            · rw [show (1 : UInt64).toNat = 2 ^ 0 from rfl, Nat.testBit_two_pow] at this
              simp at this; omega
          exact ⟨n, by simp, by omega⟩
      · rintro ⟨x, hx, e⟩
        rcases List.mem_append.1 hx with hx | hx
        · exact .inl ⟨x, hx, e⟩
        · obtain rfl := List.mem_singleton.1 hx
          right
          have : d - (g.toNat - x.toNat) = 0 := by omega
          rw [this]
          have : g.toNat - x.toNat ≤ d := by omega
          simp [this]
    · rcases List.mem_append.1 hx with hx | hx
      · exact (I.top hl).2 x hx
      · obtain rfl := List.mem_singleton.1 hx
        exact hw.2
  · rw [if_neg hw]
    by_cases hb : b = 0
    · rw [if_pos hb]
      have hl := I.nil.1 hb
      subst hl
      refine key n 1 (fun d hd => ?_) ⟨by simp, by simp⟩
      rw [show (1 : UInt64).toNat = 2 ^ 0 from rfl, Nat.testBit_two_pow]
      simp; omega
    · rw [if_neg hb]
      have hl : l ≠ [] := fun h => hb (I.nil.2 h)
      have hgt : g.toNat < n.toNat := by
        simp [wb, hb, UInt64.le_iff_toNat_le] at hw
        have := UInt64.lt_iff_toNat_lt.1 hw
        exact this
      have hs : (n - g).toNat = n.toNat - g.toNat := UInt64.toNat_sub_of_le _ _ (UInt64.le_iff_toNat_le.2 (by omega))
      have htop : n ∈ l ++ [n] ∧ ∀ x ∈ l ++ [n], x.toNat ≤ n.toNat := ⟨by simp, fun x hx => by
        rcases List.mem_append.1 hx with hx | hx
        · have := (I.top hl).2 x hx; omega
        · obtain rfl := List.mem_singleton.1 hx; exact Nat.le_refl _⟩
      split
      · rename_i h1
        rw [UInt64.le_iff_toNat_le, hs, h64] at h1
        refine key n (0 ||| 1) (fun d hd => ?_) htop
        rw [show ((0 : UInt64) ||| 1).toNat = 2 ^ 0 from rfl, Nat.testBit_two_pow]
        simp only [decide_eq_true_eq]
        constructor
        · intro h0; exact ⟨n, by simp, by omega⟩
        · rintro ⟨x, hx, e⟩
          rcases List.mem_append.1 hx with hx | hx
          · have := (I.top hl).2 x hx; omega
          · obtain rfl := List.mem_singleton.1 hx; omega
      · rename_i h1
        rw [UInt64.le_iff_toNat_le, hs, h64] at h1
        refine key n (shl64n b (n - g).toNat ||| 1) (fun d hd => ?_) htop
        rw [UInt64.toNat_or, Nat.testBit_or, bit_shl _ _ _ hd, hs, show (1 : UInt64).toNat = 2 ^ 0 from rfl, Nat.testBit_two_pow]
        simp only [Bool.or_eq_true, Bool.and_eq_true, decide_eq_true_eq]
        constructor
        · rintro (⟨h2, h3⟩ | h0)
          · obtain ⟨x, hx, e⟩ := (I.bits _ (by omega)).1 h3
            exact ⟨x, by simp [hx], by omega⟩
          · exact ⟨n, by simp, by omega⟩
        · rintro ⟨x, hx, e⟩
          rcases List.mem_append.1 hx with hx | hx
          · have := (I.top hl).2 x hx
            left
            exact ⟨by omega, (I.bits _ (by omega)).2 ⟨x, hx, by omega⟩⟩
          · obtain rfl := List.mem_singleton.1 hx
            right; omega
end Go.Proofs.Ytklcckngmmklhaa.Wd

/- What the document's list of numbers says is what a window says that took them. -/
namespace Go.Proofs.Ytklcckngmmklhaa.Wd
open Go Go.Abs Go.Proofs
def grl (l : List UInt64) : UInt64 := l.foldl (fun n x => if n < x then x else n) 0
def rold (l : List UInt64) (n : UInt64) : Bool := decide (0 < l.length) && (decide (n < grl l) && decide (64 ≤ grl l - n))
def rcame (l : List UInt64) (n : UInt64) : Bool := decide (n ∈ l) && !rold l n
def rchk (l : List UInt64) (n : UInt64) : Nat := if rcame l n || rold l n then 10 else 0
theorem grl_spec (l : List UInt64) : (∀ x ∈ l, x.toNat ≤ (grl l).toNat) ∧ (grl l = 0 ∨ grl l ∈ l) := by
  have key : ∀ (l : List UInt64) (a : UInt64), (a.toNat ≤ (l.foldl (fun n x => if n < x then x else n) a).toNat ∧ ∀ x ∈ l, x.toNat ≤ (l.foldl (fun n x => if n < x then x else n) a).toNat) ∧ (l.foldl (fun n x => if n < x then x else n) a = a ∨ l.foldl (fun n x => if n < x then x else n) a ∈ l) := by
    intro l
    induction l with
    | nil => intro a; simp
    | cons y r ih =>
      intro a
      simp only [List.foldl_cons]
      obtain ⟨⟨h1, h2⟩, h3⟩ := ih (if a < y then y else a)
      by_cases hy : a < y
      · simp only [hy, ↓reduceIte] at h1 h2 h3 ⊢
        rw [UInt64.lt_iff_toNat_lt] at hy
        refine ⟨⟨by omega, fun x hx => ?_⟩, ?_⟩
        · rcases List.mem_cons.1 hx with rfl | hx
          · exact h1
          · exact h2 x hx
        · rcases h3 with h3 | h3
          · rw [h3]; exact .inr (List.mem_cons_self ..)
          · exact .inr (List.mem_cons_of_mem _ h3)
      · simp only [hy, ↓reduceIte] at h1 h2 h3 ⊢
        rw [UInt64.lt_iff_toNat_lt] at hy
        refine ⟨⟨h1, fun x hx => ?_⟩, ?_⟩
        · rcases List.mem_cons.1 hx with rfl | hx
          · omega
          · exact h2 x hx
        · rcases h3 with h3 | h3
          · exact .inl h3
          · exact .inr (List.mem_cons_of_mem _ h3)
  obtain ⟨⟨_, h2⟩, h3⟩ := key l 0
  exact ⟨h2, h3⟩
theorem grl_inv {l : List UInt64} {g b : UInt64} (I : Inv l g b) (hl : l ≠ []) : grl l = g := by
  obtain ⟨h1, h2⟩ := I.top hl
  obtain ⟨h3, h4⟩ := grl_spec l
  have h5 := h3 g h1
  apply UInt64.toNat_inj.1
  rcases h4 with h4 | h4
  · rw [h4] at h5 ⊢; have : (0 : UInt64).toNat = 0 := rfl; omega
  · have := h2 _ h4; omega
theorem chk_inv {l : List UInt64} {g b : UInt64} (I : Inv l g b) (n : UInt64) : wchk true g b n = rchk l n ∧ wcame true g b n = rcame l n := by
  have h64 : (64 : UInt64).toNat = 64 := rfl
  by_cases hl : l = []
  · have := I.nil.2 hl
    subst hl this
    simp [wchk, wb, wcame, rchk, rcame, rold]
  · have hb : b ≠ 0 := fun h => hl (I.nil.1 h)
    have hp : 0 < l.length := List.length_pos_iff.2 hl
    obtain ⟨h1, h2⟩ := I.top hl
    have hg := grl_inv I hl
    by_cases hn : n ≤ g
    · have hs : (g - n).toNat = g.toNat - n.toNat := UInt64.toNat_sub_of_le _ _ hn
      have hn' := UInt64.le_iff_toNat_le.1 hn
      have hw : wb g b n = true := by simp [wb, hb, hn]
      by_cases hd : 64 ≤ g - n
      · have hd' : 64 ≤ g.toNat - n.toNat := by rw [UInt64.le_iff_toNat_le, hs, h64] at hd; exact hd
        have hlt : n < g := by rw [UInt64.lt_iff_toNat_lt]; omega
        have ho : rold l n = true := by simp [rold, hp, hg, hlt, hd]
        have hd2 : ¬ g - n < 64 := by rw [UInt64.lt_iff_toNat_lt, hs, h64]; omega
        simp [wchk, hw, hd, rchk, ho, wcame, hd2, rcame]
      · have hd' : g.toNat - n.toNat < 64 := by rw [UInt64.le_iff_toNat_le, hs, h64] at hd; omega
        have ho : rold l n = false := by simp [rold, hg, hd]
        have hd2 : g - n < 64 := by rw [UInt64.lt_iff_toNat_lt, hs, h64]; omega
        have hbit : wbit b (g - n) ↔ n ∈ l := by
          rw [wbit_iff b (g - n) (by omega), hs, I.bits _ (by omega)]
          constructor
          · rintro ⟨x, hx, e⟩
            have : x = n := UInt64.toNat_inj.1 (by omega)
            exact this ▸ hx
          · intro hx; exact ⟨n, hx, by omega⟩
        constructor
        · simp only [wchk, hw, hd, false_or, ↓reduceIte, rchk, rcame, ho, Bool.not_false, Bool.and_true, Bool.or_false]
          by_cases hm : n ∈ l
          · simp [hm, hbit.2 hm]
          · simp [hm, mt hbit.1 hm]
        · simp only [wcame, hw, Bool.true_and, hd2, decide_true, rcame, ho, Bool.not_false, Bool.and_true]
          exact decide_eq_decide.2 hbit
    · have hw : wb g b n = false := by simp [wb, hn]
      have hn' : g.toNat < n.toNat := by rw [UInt64.le_iff_toNat_le] at hn; omega
      have hnl : n ∉ l := fun h => by have := h2 n h; omega
      have ho : rold l n = false := by
        have : ¬ n < g := by rw [UInt64.lt_iff_toNat_lt]; omega
        simp [rold, hg, this]
      simp [wchk, hw, wcame, rchk, rcame, ho, hnl]
def rnext (l : List UInt64) (n : UInt64) : List UInt64 := if rchk l n = 0 then l ++ [n] else l
structure CP (l : List UInt64) (n : UInt64) where
  i : Nat
  hi : i ≤ l.length
  ok : ∀ j, j < i → l.getD j 0 ≠ n
structure WP (m : Nat) where
  i : Nat
  came : List UInt64
  g : UInt64
  b : UInt64
  hi : i ≤ m
  hl : came.length ≤ i
  I : Inv came g b
end Go.Proofs.Ytklcckngmmklhaa.Wd

/- The abstract machine: a nil slice within a block, told as an empty one. -/
namespace Go.Abs
open Go
end Go.Abs

/- What functions of the program do, walked over the abstract machine. -/
namespace Go.Proofs.Ytklcckngmmklhaa
open Go Go.Abs Go.Proofs Go.Proofs.Ytklcckngmmklhaa.Ch Go.Proofs.Ytklcckngmmklhaa.Po Go.Proofs.Ytklcckngmmklhaa.Ae Go.Proofs.Ytklcckngmmklhaa.Wd
set_option maxRecDepth 20000
def pwb (n : UInt64) (s : Nat) : Nat → List UInt8
  | 0 => List.replicate s 0
  | i + 1 => (pwb n s i).set (s - 1 - i) (shr64n n (8 * i)).toUInt8
theorem pwb_len (n : UInt64) (s : Nat) : ∀ i, (pwb n s i).length = s
  | 0 => by simp [pwb]
  | i + 1 => by rw [pwb, List.length_set, pwb_len]
def gt (l : List UInt8) : UInt64 := l.foldl (fun n c => shl64n n 8 ||| c.toUInt64) 0
theorem gt_take (l : List UInt8) (k : Nat) (h : k < l.length) : gt (l.take (k + 1)) = shl64n (gt (l.take k)) 8 ||| (l.getD k 0).toUInt64 := by
  unfold gt
  rw [List.take_succ_eq_append_getElem h, List.foldl_append]
  simp [List.getD_eq_getElem?_getD, List.getElem?_eq_getElem h]
def rg (l : List UInt8) : UInt64 := l.foldl (fun n c => n * 256 + c.toUInt64) 0
theorem gt_rg (l : List UInt8) : gt l = rg l := by
  unfold gt rg
  have : (fun (n : UInt64) (c : UInt8) => shl64n n 8 ||| c.toUInt64) = fun n c => n * 256 + c.toUInt64 := by
    funext n c
    apply UInt64.toNat_inj.1
    have hc : c.toNat < 2 ^ 8 := c.toNat_lt
    have e : shl64n n 8 = n <<< 8 := by unfold shl64n; rfl
    rw [e, UInt64.toNat_or, UInt64.toNat_add, UInt64.toNat_mul]
    have h1 : (n <<< (8 : UInt64)).toNat = (n.toNat % 2 ^ 56) <<< 8 := by
      rw [UInt64.toNat_shiftLeft]
      simp only [Nat.shiftLeft_eq]
      have : n.toNat < 2 ^ 64 := n.toNat_lt
      have e8 : UInt64.toNat 8 % 64 = 8 := by decide
      rw [e8]
      omega
    rw [h1, UInt8.toNat_toUInt64, ← Nat.shiftLeft_add_eq_or_of_lt hc, Nat.shiftLeft_eq]
    have e256 : UInt64.toNat 256 = 256 := rfl
    have : n.toNat < 2 ^ 64 := n.toNat_lt
    rw [e256]
    omega
  rw [this]
def fbl (n : UInt64) : Nat → List UInt8
  | 0 => []
  | j + 1 => fbl n j ++ [(shr64n n (UInt64.ofNat (8 * (7 - j))).toNat).toUInt8]
theorem fbl_len (n : UInt64) : ∀ j, (fbl n j).length = j
  | 0 => rfl
  | j + 1 => by rw [fbl, List.length_append, fbl_len]; rfl
theorem pwb_fbl (n : UInt64) : pwb n 8 8 = fbl n 8 := rfl
def kE (k : List UInt8) : Nat → List UInt8
  | 0 => k
  | i + 1 => anext (kE k i)
theorem kE_len {k : List UInt8} (h : k.length = 32) : ∀ i, (kE k i).length = 32
  | 0 => h
  | i + 1 => anext_len _
theorem ofNat_succ (i : Nat) : UInt64.ofNat i + 1 = UInt64.ofNat (i + 1) := by simp
theorem ofNat_toNat {i : Nat} {e : UInt64} (h : i ≤ e.toNat) : (UInt64.ofNat i).toNat = i := by
  have := e.toNat_lt
  rw [UInt64.toNat_ofNat', Nat.mod_eq_of_lt (by omega)]
theorem ofNat_lt {i : Nat} {e : UInt64} (h : i ≤ e.toNat) : UInt64.ofNat i < e ↔ i < e.toNat := by rw [UInt64.lt_iff_toNat_lt, ofNat_toNat h]
def fr19 (s h : List UInt8) (n : UInt64) (c : List UInt8) : List UInt8 := fbl n 8 ++ aseal (kE s (n / 64).toNat) (anonce n) h c
theorem fr19_len {s h c : List UInt8} {n : UInt64} : (fr19 s h n c).length = 8 + (c.length + 16) := by rw [fr19, List.length_append, fbl_len, aseal_len]
theorem put (n : UInt64) (s : Nat) (h1 : 1 ≤ s) (h8 : s ≤ 8) (hf : s = 8 ∨ shr64n n (8 * s) = 0) : Good Try.prog 30 [.c (c64 n), .c (cn s)] [] (.t [.c (.slc 0 0 s 1), .c (cn 0)]) [some (u8s (pwb n s s))] := by
  refine good_frm 44 Try.func30 rfl rfl rfl rfl rfl rfl ?_
  refine awp_seq ?_
  refine rln ?_
  refine As ?_
  refine G (q_as (s := sc (cn 0)) ?_)
  refine gend ?_
  refine awp_seq ?_
  refine awp_seq ?_
  refine rln ?_
  refine Mv ?_
  refine G (q_lssn (y := 1) ?_)
  refine Mv ?_
  refine Akfd 10 (fun hb3 => ?_) ?_; rotate_left
  · omega
  refine Gg (q_mv (s := .v (.c _)) ?_)
  refine Gg (q_gtrn (y := 8) ?_)
  refine G (q_pkf ?_)
  refine Mv ?_
  refine Akfd 14 (fun hb7 => ?_) ?_; rotate_left
  · omega
  refine Gg (q_mv (s := .v (.c _)) ?_)
  refine Gg (q_lssn (y := 8) ?_)
  refine Gg (q_mv (s := .v (.c _)) ?_)
  refine Aspd 17 (fun hb10 => ?_) (fun hb10 => ?_)
  · refine Gg (q_mv (s := .v (.c _)) ?_)
    refine Gg (q_mv (s := .v (.c _)) ?_)
    refine Gg (q_muln (x := 8) ?_)
    refine Gg (q_shr64_0 ?_)
    refine Gg (q_neq64 (y := 0) ?_)
    refine Gg (q_pkt ?_)
    refine G (q_pkf ?_)
    refine gend ?_
    refine cndN (fun hc1 => ?_) ?_; rotate_left
    · exact fun hh => hf.elim (fun h => by omega) hh
    refine awp_skip ?_
    refine awp_seq ?_
    refine rln ?_
    refine Mv ?_
    refine G2 (fun _ k_ => q_mks k_) ?_
    refine As ?_
    refine gend ?_
    refine awp_seq ?_
    refine awp_seq ?_
    refine rln ?_
    refine Mv ?_
    refine G (q_mv (s := sc (cn 0)) ?_)
    refine gend ?_
    refine awp_block ?_
    refine awp_loop (fun x : {i : Nat // i ≤ s} => ⟨frm 44 [(0, sc (c64 n)), (1, sc (cn s)), (6, sc (.slc 0 0 s 1)), (27, sc (cn s)), (28, sc (cn x.1))], [some (u8s (pwb n s x.1))]⟩) (fun x => s - x.1) ⟨0, Nat.zero_le _⟩ (sle_sub ⟨rfl, rfl, rfl, rfl, rfl, trivial⟩ (congrArg (fun x => [some x]) (rep_u8 s))) fun x => ?_
    have hl := pwb_len n s x.1
    refine awp_seq ?_
    refine rln ?_
    refine G (q_lssn ?_)
    refine gend ?_
    refine awp_seq ?_
    refine cnd (fun hc2 => ?_) (fun hc2 => ?_); rotate_left
    · refine awp_exit ?_
      rw [show x.1 = s from (by have := x.2; omega)]
      refine awp_seq ?_
      refine rln ?_
      refine Mv ?_
      refine As ?_
      refine G (q_as (s := sc (cn 0)) ?_)
      refine gend ?_
      refine awp_ret ?_
      exact fn2 0
    refine awp_skip ?_
    refine awp_seq ?_
    refine awp_block ?_
    refine awp_seq ?_
    refine rln ?_
    refine Mv ?_
    refine As ?_
    refine gend ?_
    refine rln ?_
    refine Mv ?_
    refine Mv ?_
    refine G (q_subn (y := 1) ?_)
    refine Mv ?_
    refine G (q_subn ?_)
    refine Mv ?_
    refine Mv ?_
    refine G (q_muln (x := 8) ?_)
    refine G (q_shr64_0 ?_)
    refine G (q_cv64_8 ?_)
    refine G (q_ixs1 ?_)
    refine G20 (fun _ k_ => q_stm k_) ?_
    refine gend ?_
    refine rln ?_
    refine G (q_addn (y := 1) ?_)
    refine Mv ?_
    refine gend ?_
    exact ⟨⟨x.1 + 1, by omega⟩, by show s - (x.1 + 1) < s - x.1; omega, sle_sub ⟨rfl, rfl, rfl, rfl, rfl, trivial⟩ rfl⟩
  refine Gn ?_
  refine Gn ?_
  refine Gn ?_
  refine Gn ?_
  refine Gn ?_
  refine Gg (q_pkf ?_)
  refine G (q_pkf ?_)
  refine gend ?_
  refine cndF ?_
  refine awp_skip ?_
  refine awp_seq ?_
  refine rln ?_
  refine Mv ?_
  refine G2 (fun _ k_ => q_mks k_) ?_
  refine As ?_
  refine gend ?_
  refine awp_seq ?_
  refine awp_seq ?_
  refine rln ?_
  refine Mv ?_
  refine G (q_mv (s := sc (cn 0)) ?_)
  refine gend ?_
  refine awp_block ?_
  refine awp_loop (fun y : {i : Nat // i ≤ s} => ⟨frm 44 [(0, sc (c64 n)), (1, sc (cn s)), (6, sc (.slc 0 0 s 1)), (27, sc (cn s)), (28, sc (cn y.1))], [some (u8s (pwb n s y.1))]⟩) (fun y => s - y.1) ⟨0, Nat.zero_le _⟩ (sle_sub ⟨rfl, rfl, rfl, rfl, rfl, trivial⟩ (congrArg (fun x => [some x]) (rep_u8 s))) fun y => ?_
  have hl := pwb_len n s y.1
  refine awp_seq ?_
  refine rln ?_
  refine G (q_lssn ?_)
  refine gend ?_
  refine awp_seq ?_
  refine cnd (fun hc3 => ?_) (fun hc3 => ?_); rotate_left
  · refine awp_exit ?_
    rw [show y.1 = s from (by have := y.2; omega)]
    refine awp_seq ?_
    refine rln ?_
    refine Mv ?_
    refine As ?_
    refine G (q_as (s := sc (cn 0)) ?_)
    refine gend ?_
    refine awp_ret ?_
    exact fn2 0
  refine awp_skip ?_
  refine awp_seq ?_
  refine awp_block ?_
  refine awp_seq ?_
  refine rln ?_
  refine Mv ?_
  refine As ?_
  refine gend ?_
  refine rln ?_
  refine Mv ?_
  refine Mv ?_
  refine G (q_subn (y := 1) ?_)
  refine Mv ?_
  refine G (q_subn ?_)
  refine Mv ?_
  refine Mv ?_
  refine G (q_muln (x := 8) ?_)
  refine G (q_shr64_0 ?_)
  refine G (q_cv64_8 ?_)
  refine G (q_ixs1 ?_)
  refine G20 (fun _ k_ => q_stm k_) ?_
  refine gend ?_
  refine rln ?_
  refine G (q_addn (y := 1) ?_)
  refine Mv ?_
  refine gend ?_
  exact ⟨⟨y.1 + 1, by omega⟩, by show s - (y.1 + 1) < s - y.1; omega, sle_sub ⟨rfl, rfl, rfl, rfl, rfl, trivial⟩ rfl⟩
theorem get (k : Nat) (l : List UInt8) (hl : l.length = k) (h1 : 1 ≤ k) (h8 : k ≤ 8) : Good Try.prog 31 [.c (.ro k (u8s l))] [] (.t [.c (c64 (gt l)), .c (cn 0)]) [] := by
  refine good_frm 28 Try.func31 rfl rfl rfl rfl rfl rfl ?_
  refine awp_seq ?_
  refine rln ?_
  refine G (q_as (s := sc (c64 0)) ?_)
  refine G (q_as (s := sc (cn 0)) ?_)
  refine gend ?_
  refine awp_seq ?_
  refine awp_seq ?_
  refine rln ?_
  refine Mv ?_
  refine G (q_leno ?_)
  refine G (q_lssn (y := 1) ?_)
  refine Mv ?_
  refine Akfd 10 (fun hb4 => ?_) ?_; rotate_left
  · omega
  refine Gg (q_mv (s := .v (.c _)) ?_)
  refine Gg (q_leno ?_)
  refine Gg (q_gtrn (y := 8) ?_)
  refine G (q_pkf ?_)
  refine gend ?_
  refine cndN (fun hc1 => ?_) ?_; rotate_left
  · omega
  refine awp_skip ?_
  refine awp_seq ?_
  refine rln ?_
  refine G (q_as (s := sc (c64 0)) ?_)
  refine gend ?_
  refine awp_seq ?_
  refine awp_seq ?_
  refine rln ?_
  refine Mv ?_
  refine G (q_leno ?_)
  refine G (q_mv (s := sc (cn 0)) ?_)
  refine gend ?_
  refine awp_block ?_
  refine awp_loop (fun x : {i : Nat // i ≤ k} => ⟨frm 28 [(4, sc (c64 (gt (l.take x.1)))), (15, sc (.ro k (u8s l))), (16, sc (cn k)), (17, sc (cn x.1))], []⟩) (fun x => k - x.1) ⟨0, Nat.zero_le _⟩ (sle_sub ⟨rfl, rfl, rfl, rfl, trivial⟩ rfl) fun x => ?_
  refine awp_seq ?_
  refine rln ?_
  refine G (q_lssn ?_)
  refine gend ?_
  refine awp_seq ?_
  refine cnd (fun hc2 => ?_) (fun hc2 => ?_); rotate_left
  · refine awp_exit ?_
    rw [show x.1 = k from (by have := x.2; omega)]
    rw [show l.take k = l from List.take_of_length_le (by omega)]
    refine awp_seq ?_
    refine rln ?_
    refine Mv ?_
    refine As ?_
    refine G (q_as (s := sc (cn 0)) ?_)
    refine gend ?_
    refine awp_ret ?_
    exact fp2
  refine awp_skip ?_
  refine awp_seq ?_
  refine awp_block ?_
  refine awp_seq ?_
  refine rln ?_
  refine G (q_ixo1 ?_)
  refine G (q_ldrd ?_)
  refine As ?_
  refine gend ?_
  refine rln ?_
  refine Mv ?_
  refine G (q_shl64_64 (n := 8) ?_)
  refine Mv ?_
  refine G (q_cv8_64 ?_)
  refine G (q_or64 ?_)
  refine As ?_
  refine gend ?_
  refine rln ?_
  refine G (q_addn (y := 1) ?_)
  refine Mv ?_
  refine gend ?_
  exact ⟨⟨x.1 + 1, by omega⟩, by show k - (x.1 + 1) < k - x.1; omega, sle_sub ⟨congrArg (fun z => sc (c64 z)) (gt_take l x.1 (by omega)).symm, rfl, rfl, rfl, trivial⟩ rfl⟩
end Go.Proofs.Ytklcckngmmklhaa

/- What functions of the program do, walked over the abstract machine. -/
namespace Go.Proofs.Ytklcckngmmklhaa
open Go Go.Abs Go.Proofs Go.Proofs.Ytklcckngmmklhaa.Ch Go.Proofs.Ytklcckngmmklhaa.Po Go.Proofs.Ytklcckngmmklhaa.Ae Go.Proofs.Ytklcckngmmklhaa.Wd
set_option maxRecDepth 20000
abbrev rH (s r h : List UInt8) (sent : UInt64) (x : Cell) : List Cell := (u8s s ++ u8s r ++ u8s h) ++ [c64 sent, x]
end Go.Proofs.Ytklcckngmmklhaa

/- What functions of the program do, walked over the abstract machine. -/
namespace Go.Proofs.Ytklcckngmmklhaa
open Go Go.Abs Go.Proofs Go.Proofs.Ytklcckngmmklhaa.Ch Go.Proofs.Ytklcckngmmklhaa.Po Go.Proofs.Ytklcckngmmklhaa.Ae Go.Proofs.Ytklcckngmmklhaa.Wd
set_option maxRecDepth 20000
def op19 (r h : List UInt8) (l : List UInt64) (fr : List UInt8) : List UInt8 × UInt64 × Nat × List UInt64 :=
  if 4120 < fr.length then ([], 0, 3, l) else if fr.length < 24 then ([], 0, 4, l) else
  if 281474976710656 ≤ rg (fr.take 8) then ([], 0, 4, l) else
  if rg (fr.take 8) ∈ l then ([], 0, 10, l) else
  if 0 < l.length ∧ rg (fr.take 8) + 64 ≤ grl l then ([], 0, 10, l) else
  if grl l / 64 + 16 < rg (fr.take 8) / 64 then ([], 0, 9, l) else
  match aopen (kE r (rg (fr.take 8) / 64).toNat) (anonce (rg (fr.take 8))) h (fr.drop 8) with
  | none => ([], 0, 8, l)
  | some p => (p, rg (fr.take 8), 0, l ++ [rg (fr.take 8)])
theorem cut_drop {l : List UInt8} {f k : Nat} (h : l.length = f) : ((u8s l).drop (k * 1)).take ((f - k) * 1) = u8s (l.drop k) := by
  rw [Nat.mul_one, Nat.mul_one, mapc_drop, List.take_of_length_le (by rw [mapc_length, List.length_drop, h]; exact Nat.le_refl _)]
end Go.Proofs.Ytklcckngmmklhaa

/- What functions of the program do, walked over the abstract machine. -/
namespace Go.Proofs.Ytklcckngmmklhaa
open Go Go.Abs Go.Proofs Go.Proofs.Ytklcckngmmklhaa.Ch Go.Proofs.Ytklcckngmmklhaa.Po Go.Proofs.Ytklcckngmmklhaa.Ae Go.Proofs.Ytklcckngmmklhaa.Wd
set_option maxRecDepth 20000
abbrev chC (es er : UInt64) (p0 : Nat) (h1 : Bool) (p1 q0 : Nat) (h3 : Bool) (q1 : Nat) (sent : UInt64) (w : Nat) (g : UInt64) (any : Bool) (hash : List UInt8) : List Cell :=
  c64 es :: .ptr p0 0 :: kp h1 p1 :: c64 er :: .ptr q0 0 :: kp h3 q1 :: c64 sent :: .ptr w 0 :: c64 g :: .bool any :: u8s hash
theorem kp_cmm {has : Bool} {p q d : Nat} {m : CM} (h : m.fp p = some q) : cm m (d + 1) (kp has p) = kp has q := by
  cases has
  · rfl
  · simp [kp, cm, h]
theorem pt_cmm {p q d : Nat} {m : CM} (h : m.fp p = some q) : cm m (d + 1) (.ptr p 0) = .ptr q 0 := by simp [cm, h]
theorem chC_map {es er sent g : UInt64} {p0 p1 q0 q1 w p0' p1' q0' q1' w' d : Nat} {h1 h3 any : Bool} {hash : List UInt8} {m : CM} (a : m.fp p0 = some p0') (b : m.fp p1 = some p1') (c : m.fp q0 = some q0') (e : m.fp q1 = some q1') (f : m.fp w = some w') :
    (chC es er p0 h1 p1 q0 h3 q1 sent w g any hash).map (cm m (d + 1)) = chC es er p0' h1 p1' q0' h3 q1' sent w' g any hash := by
  show cm m (d + 1) (c64 es) :: cm m (d + 1) (.ptr p0 0) :: cm m (d + 1) (kp h1 p1) :: cm m (d + 1) (c64 er) :: cm m (d + 1) (.ptr q0 0) :: cm m (d + 1) (kp h3 q1) :: cm m (d + 1) (c64 sent) :: cm m (d + 1) (.ptr w 0) :: cm m (d + 1) (c64 g) :: cm m (d + 1) (.bool any) :: (u8s hash).map (cm m (d + 1)) = _
  rw [pt_cmm a, kp_cmm b, pt_cmm c, kp_cmm e, pt_cmm f, mapc_cm]; rfl
def cb (has : Bool) (p : Nat) : Option (List Cell) := bif has then some (cC (.ptr p 0) 0) else none
theorem cb_map {has : Bool} {p q d : Nat} {m : CM} (h : m.fp p = some q) : (cb has p).map (List.map (cm m (d + 1))) = cb has q := by
  cases has
  · rfl
  · show some [cm m (d + 1) (.ptr p 0), _, _] = _
    rw [pt_cmm h]; rfl
theorem ix64j {fr : List S} {i : Operand} {x : UInt64} {j : Nat} (h : ev fr i = sc (c64 x)) (hj : x.toNat = j) : Ix (ev fr i) j := hj ▸ ix64 h
def S0 (k : List UInt8) (e : Nat) : List UInt8 := kE k (e - e % 2)
def S1 (k : List UInt8) (e : Nat) : List UInt8 := kE k (if e % 2 = 1 then e else e - 1)
theorem S0_even {k : List UInt8} {e : Nat} (h : e % 2 = 0) : S0 k (e + 1) = S0 k e ∧ S1 k (e + 1) = anext (S0 k e) ∧ S0 k e = kE k e := by
  have h1 : (e + 1) % 2 = 1 := by omega
  simp [S0, S1, h, h1, kE]
theorem S1_odd {k : List UInt8} {e : Nat} (h : e % 2 = 1) : S1 k (e + 1) = S1 k e ∧ S0 k (e + 1) = anext (S1 k e) ∧ S1 k e = kE k e := by
  have h1 : (e + 1) % 2 = 0 := by omega
  simp [S0, S1, h, h1, kE]
theorem S0_len {k : List UInt8} (hk : k.length = 32) (e : Nat) : (S0 k e).length = 32 := kE_len hk _
theorem S1_len {k : List UInt8} (hk : k.length = 32) (e : Nat) : (S1 k e).length = 32 := kE_len hk _
theorem of_s0 (es er sent g : UInt64) (h1 h3 any : Bool) (hash A0 A1 B0 B1 : List UInt8) (wg wb : UInt64) (ep : UInt64) (hle : ep ≤ es) (hp : (ep % 2).toNat = 0) : Good Try.prog 28 [.c (.ptr 0 0), .c (c64 ep)] [some (chC es er 2 h1 4 6 h3 8 sent 1 g any hash), some (wcs true wg wb), some (cC (.ptr 3 0) 0), some (u8s A0), cb h1 5, kb h1 A1, some (cC (.ptr 7 0) 0), some (u8s B0), cb h3 9, kb h3 B1] (sc (.ptr 10 0)) [some (chC es er 2 h1 4 6 h3 8 sent 1 g any hash), some (wcs true wg wb), some (cC (.ptr 3 0) 0), some (u8s A0), cb h1 5, kb h1 A1, some (cC (.ptr 7 0) 0), some (u8s B0), cb h3 9, kb h3 B1, some (cC (.ptr 3 0) 0)] := by
  refine good_frm 43 Try.func28 rfl rfl rfl rfl rfl rfl ?_
  refine awp_seq ?_
  refine rln ?_
  refine As ?_
  refine gend ?_
  refine awp_seq ?_
  refine awp_seq ?_
  refine rln ?_
  refine Mv ?_
  refine Mv ?_
  refine G (q_ncp ?_)
  refine G (q_fap ?_)
  refine G (q_ldp ?_)
  refine G (q_leq64 ?_)
  refine gend ?_
  refine cndY (fun hc1 => ?_) ?_; rotate_left
  · exact hle
  refine awp_seq ?_
  refine rln ?_
  refine Mv ?_
  refine Mv ?_
  refine G (q_rem64 (y := 2) ?_ (hz := by decide))
  refine G (q_ncp ?_)
  refine G (q_fap ?_)
  refine G (q_ixp (j := 0) ?_ (hi := ix64j (et rfl) hp))
  refine G (q_ldp ?_)
  refine G2 (fun _ k_ => q_callv [2, 3] [some (cC (.ptr 1 0) 0), some (u8s A0)] [some (cC (.ptr 1 0) 0)] (copy_k A0 0) k_ (ha := (cac (et rfl) rfl ca0)) (e2 := (pl1 rfl rfl (pl1 rfl sees_m pl0))) (eL := (ml1 rfl (ml1 sees_m ml0))) (eM := (ml1 rfl ml0))) ?_
  refine As ?_
  refine gend ?_
  refine awp_ret ?_
  exact fx1 [0, 1, 2, 3, 4, 5, 6, 7, 8, 9, 10] (hm0 := rfl) (hH := (pl1 rfl (chC_map rfl rfl rfl rfl rfl) (pl1 rfl rfl (pl1 rfl rfl (pl1 rfl sees_m (plb rfl (cb_map rfl) (plb rfl kb_map (pl1 rfl rfl (pl1 rfl sees_m (plb rfl (cb_map rfl) (plb rfl kb_map (pl1 rfl rfl pl0)))))))))))) (hn := piB rfl)
theorem of_s1 (es er sent g : UInt64) (h3 any : Bool) (hash A0 A1 B0 B1 : List UInt8) (wg wb : UInt64) (ep : UInt64) (hle : ep ≤ es) (hp : (ep % 2).toNat = 1) : Good Try.prog 28 [.c (.ptr 0 0), .c (c64 ep)] [some (chC es er 2 true 4 6 h3 8 sent 1 g any hash), some (wcs true wg wb), some (cC (.ptr 3 0) 0), some (u8s A0), cb true 5, kb true A1, some (cC (.ptr 7 0) 0), some (u8s B0), cb h3 9, kb h3 B1] (sc (.ptr 10 0)) [some (chC es er 2 true 4 6 h3 8 sent 1 g any hash), some (wcs true wg wb), some (cC (.ptr 3 0) 0), some (u8s A0), cb true 5, kb true A1, some (cC (.ptr 7 0) 0), some (u8s B0), cb h3 9, kb h3 B1, some (cC (.ptr 5 0) 0)] := by
  refine good_frm 43 Try.func28 rfl rfl rfl rfl rfl rfl ?_
  refine awp_seq ?_
  refine rln ?_
  refine As ?_
  refine gend ?_
  refine awp_seq ?_
  refine awp_seq ?_
  refine rln ?_
  refine Mv ?_
  refine Mv ?_
  refine G (q_ncp ?_)
  refine G (q_fap ?_)
  refine G (q_ldp ?_)
  refine G (q_leq64 ?_)
  refine gend ?_
  refine cndY (fun hc1 => ?_) ?_; rotate_left
  · exact hle
  refine awp_seq ?_
  refine rln ?_
  refine Mv ?_
  refine Mv ?_
  refine G (q_rem64 (y := 2) ?_ (hz := by decide))
  refine G (q_ncp ?_)
  refine G (q_fap ?_)
  refine G (q_ixp (j := 1) ?_ (hi := ix64j (et rfl) hp))
  refine G (q_ldp ?_)
  refine G2 (fun _ k_ => q_callv [4, 5] [some (cC (.ptr 1 0) 0), some (u8s A1)] [some (cC (.ptr 1 0) 0)] (copy_k A1 0) k_ (ha := (cac (et rfl) rfl ca0)) (e2 := (pl1 rfl rfl (pl1 rfl sees_m pl0))) (eL := (ml1 rfl (ml1 sees_m ml0))) (eM := (ml1 rfl ml0))) ?_
  refine As ?_
  refine gend ?_
  refine awp_ret ?_
  exact fx1 [0, 1, 2, 3, 4, 5, 6, 7, 8, 9, 10] (hm0 := rfl) (hH := (pl1 rfl (chC_map rfl rfl rfl rfl rfl) (pl1 rfl rfl (pl1 rfl rfl (pl1 rfl sees_m (pl1 rfl rfl (pl1 rfl sees_m (pl1 rfl rfl (pl1 rfl sees_m (plb rfl (cb_map rfl) (plb rfl kb_map (pl1 rfl rfl pl0)))))))))))) (hn := piB rfl)
theorem of_r0 (es er sent g : UInt64) (h1 h3 any : Bool) (hash A0 A1 B0 B1 : List UInt8) (wg wb : UInt64) (ep : UInt64) (hle : ep ≤ er) (hp : (ep % 2).toNat = 0) : Good Try.prog 28 [.c (.ptr 0 3), .c (c64 ep)] [some (chC es er 2 h1 4 6 h3 8 sent 1 g any hash), some (wcs true wg wb), some (cC (.ptr 3 0) 0), some (u8s A0), cb h1 5, kb h1 A1, some (cC (.ptr 7 0) 0), some (u8s B0), cb h3 9, kb h3 B1] (sc (.ptr 10 0)) [some (chC es er 2 h1 4 6 h3 8 sent 1 g any hash), some (wcs true wg wb), some (cC (.ptr 3 0) 0), some (u8s A0), cb h1 5, kb h1 A1, some (cC (.ptr 7 0) 0), some (u8s B0), cb h3 9, kb h3 B1, some (cC (.ptr 7 0) 0)] := by
  refine good_frm 43 Try.func28 rfl rfl rfl rfl rfl rfl ?_
  refine awp_seq ?_
  refine rln ?_
  refine As ?_
  refine gend ?_
  refine awp_seq ?_
  refine awp_seq ?_
  refine rln ?_
  refine Mv ?_
  refine Mv ?_
  refine G (q_ncp ?_)
  refine G (q_fap ?_)
  refine G (q_ldp ?_)
  refine G (q_leq64 ?_)
  refine gend ?_
  refine cndY (fun hc1 => ?_) ?_; rotate_left
  · exact hle
  refine awp_seq ?_
  refine rln ?_
  refine Mv ?_
  refine Mv ?_
  refine G (q_rem64 (y := 2) ?_ (hz := by decide))
  refine G (q_ncp ?_)
  refine G (q_fap ?_)
  refine G (q_ixp (j := 0) ?_ (hi := ix64j (et rfl) hp))
  refine G (q_ldp ?_)
  refine G2 (fun _ k_ => q_callv [6, 7] [some (cC (.ptr 1 0) 0), some (u8s B0)] [some (cC (.ptr 1 0) 0)] (copy_k B0 0) k_ (ha := (cac (et rfl) rfl ca0)) (e2 := (pl1 rfl rfl (pl1 rfl sees_m pl0))) (eL := (ml1 rfl (ml1 sees_m ml0))) (eM := (ml1 rfl ml0))) ?_
  refine As ?_
  refine gend ?_
  refine awp_ret ?_
  exact fx1 [0, 1, 2, 3, 4, 5, 6, 7, 8, 9, 10] (hm0 := rfl) (hH := (pl1 rfl (chC_map rfl rfl rfl rfl rfl) (pl1 rfl rfl (pl1 rfl rfl (pl1 rfl sees_m (plb rfl (cb_map rfl) (plb rfl kb_map (pl1 rfl rfl (pl1 rfl sees_m (plb rfl (cb_map rfl) (plb rfl kb_map (pl1 rfl rfl pl0)))))))))))) (hn := piB rfl)
theorem of_r1 (es er sent g : UInt64) (h1 any : Bool) (hash A0 A1 B0 B1 : List UInt8) (wg wb : UInt64) (ep : UInt64) (hle : ep ≤ er) (hp : (ep % 2).toNat = 1) : Good Try.prog 28 [.c (.ptr 0 3), .c (c64 ep)] [some (chC es er 2 h1 4 6 true 8 sent 1 g any hash), some (wcs true wg wb), some (cC (.ptr 3 0) 0), some (u8s A0), cb h1 5, kb h1 A1, some (cC (.ptr 7 0) 0), some (u8s B0), cb true 9, kb true B1] (sc (.ptr 10 0)) [some (chC es er 2 h1 4 6 true 8 sent 1 g any hash), some (wcs true wg wb), some (cC (.ptr 3 0) 0), some (u8s A0), cb h1 5, kb h1 A1, some (cC (.ptr 7 0) 0), some (u8s B0), cb true 9, kb true B1, some (cC (.ptr 9 0) 0)] := by
  refine good_frm 43 Try.func28 rfl rfl rfl rfl rfl rfl ?_
  refine awp_seq ?_
  refine rln ?_
  refine As ?_
  refine gend ?_
  refine awp_seq ?_
  refine awp_seq ?_
  refine rln ?_
  refine Mv ?_
  refine Mv ?_
  refine G (q_ncp ?_)
  refine G (q_fap ?_)
  refine G (q_ldp ?_)
  refine G (q_leq64 ?_)
  refine gend ?_
  refine cndY (fun hc1 => ?_) ?_; rotate_left
  · exact hle
  refine awp_seq ?_
  refine rln ?_
  refine Mv ?_
  refine Mv ?_
  refine G (q_rem64 (y := 2) ?_ (hz := by decide))
  refine G (q_ncp ?_)
  refine G (q_fap ?_)
  refine G (q_ixp (j := 1) ?_ (hi := ix64j (et rfl) hp))
  refine G (q_ldp ?_)
  refine G2 (fun _ k_ => q_callv [8, 9] [some (cC (.ptr 1 0) 0), some (u8s B1)] [some (cC (.ptr 1 0) 0)] (copy_k B1 0) k_ (ha := (cac (et rfl) rfl ca0)) (e2 := (pl1 rfl rfl (pl1 rfl sees_m pl0))) (eL := (ml1 rfl (ml1 sees_m ml0))) (eM := (ml1 rfl ml0))) ?_
  refine As ?_
  refine gend ?_
  refine awp_ret ?_
  exact fx1 [0, 1, 2, 3, 4, 5, 6, 7, 8, 9, 10] (hm0 := rfl) (hH := (pl1 rfl (chC_map rfl rfl rfl rfl rfl) (pl1 rfl rfl (pl1 rfl rfl (pl1 rfl sees_m (plb rfl (cb_map rfl) (plb rfl kb_map (pl1 rfl rfl (pl1 rfl sees_m (pl1 rfl rfl (pl1 rfl sees_m (pl1 rfl rfl pl0)))))))))))) (hn := piB rfl)
end Go.Proofs.Ytklcckngmmklhaa

/- What functions of the program do, walked over the abstract machine. -/
namespace Go.Proofs.Ytklcckngmmklhaa
open Go Go.Abs Go.Proofs Go.Proofs.Ytklcckngmmklhaa.Ch Go.Proofs.Ytklcckngmmklhaa.Po Go.Proofs.Ytklcckngmmklhaa.Ae Go.Proofs.Ytklcckngmmklhaa.Wd
set_option maxRecDepth 20000
def kq : Nat → Nat → Nat
  | 0, a => a
  | _ + 1, _ => 11
def kx : Nat → List UInt8 → Option (List Cell)
  | 0, _ => none
  | i + 1, K => some (u8s (kE K (i + 1)))
theorem kq_z {i a : Nat} (h : i = 0) : kq i a = a := by subst h; rfl
theorem kq_p {i a : Nat} (h : 0 < i) : kq i a = 11 := by cases i; cases h; rfl
theorem kx_z {i : Nat} {K : List UInt8} (h : i = 0) : kx i K = none := by subst h; rfl
theorem kx_p {i : Nat} {K : List UInt8} (h : 0 < i) : kx i K = some (u8s (kE K i)) := by cases i; cases h; rfl
theorem sub_pos {a b : UInt64} (h : ¬ a ≤ b) : 0 < (a - b).toNat := by
  rw [UInt64.le_iff_toNat_le] at h
  rw [UInt64.toNat_sub_of_le _ _ (UInt64.le_iff_toNat_le.2 (by omega))]; omega
def mx (a b : UInt64) : UInt64 := if a < b then b else a
structure MS (a b : UInt64) where
  e : UInt64
  h1 : a.toNat ≤ e.toNat
  h2 : e.toNat ≤ (mx a b).toNat
theorem mx_ge (a b : UInt64) : a.toNat ≤ (mx a b).toNat := by
  unfold mx; split
  · rename_i h; rw [UInt64.lt_iff_toNat_lt] at h; omega
  · exact Nat.le_refl _
theorem MS.done {a b : UInt64} (x : MS a b) (h : ¬ x.e < b) : x.e = mx a b := by
  apply UInt64.toNat_inj.1
  have h1 := x.h1; have h2 := x.h2
  rw [UInt64.lt_iff_toNat_lt] at h
  unfold mx at h2 ⊢
  split
  · rename_i hh; rw [if_pos hh] at h2; rw [UInt64.lt_iff_toNat_lt] at hh; omega
  · rename_i hh; rw [if_neg hh] at h2; omega
theorem succ_nat {e b : UInt64} (h : e < b) : (e + 1).toNat = e.toNat + 1 := by
  have := b.toNat_lt
  rw [UInt64.lt_iff_toNat_lt] at h
  rw [UInt64.toNat_add, show (1 : UInt64).toNat = 1 from rfl, Nat.mod_eq_of_lt (by omega)]
theorem MS.next {a b : UInt64} (x : MS a b) (h : x.e < b) : a.toNat ≤ (x.e + 1).toNat ∧ (x.e + 1).toNat ≤ (mx a b).toNat := by
  have h1 := x.h1; have h2 := x.h2
  rw [succ_nat h]
  rw [UInt64.lt_iff_toNat_lt] at h
  refine ⟨by omega, ?_⟩
  unfold mx
  split
  · omega
  · rename_i hh; rw [UInt64.lt_iff_toNat_lt] at hh; omega
theorem mod2_nat (e : UInt64) : (e % 2).toNat = e.toNat % 2 := by rw [UInt64.toNat_mod]; rfl
theorem ne_zero_odd {e : UInt64} (h : e.toNat % 2 = 1) : decide (e ≠ 0) = true := by
  refine decide_eq_true (fun hh => ?_)
  rw [hh] at h; simp at h
theorem ne_zero_succ {e b : UInt64} (h : e < b) : decide (e + 1 ≠ 0) = true := by
  refine decide_eq_true (fun hh => ?_)
  have := succ_nat h
  rw [hh] at this; simp at this
set_option maxHeartbeats 1600000 in
theorem of_rf0 (es er sent g : UInt64) (h1 h3 any : Bool) (hash A0 A1 B0 B1 : List UInt8) (wg wb : UInt64) (ep : UInt64) (hle : ¬ ep ≤ er) (hp : (er % 2).toNat = 0) (hK : B0.length = 32) : Good Try.prog 28 [.c (.ptr 0 3), .c (c64 ep)] [some (chC es er 2 h1 4 6 h3 8 sent 1 g any hash), some (wcs true wg wb), some (cC (.ptr 3 0) 0), some (u8s A0), cb h1 5, kb h1 A1, some (cC (.ptr 7 0) 0), some (u8s B0), cb h3 9, kb h3 B1] (sc (.ptr 10 0)) [some (chC es er 2 h1 4 6 h3 8 sent 1 g any hash), some (wcs true wg wb), some (cC (.ptr 3 0) 0), some (u8s A0), cb h1 5, kb h1 A1, some (cC (.ptr 7 0) 0), some (u8s B0), cb h3 9, kb h3 B1, some (cC (.ptr 11 0) 0), some (u8s (kE B0 (ep - er).toNat))] := by
  refine good_frm 43 Try.func28 rfl rfl rfl rfl rfl rfl ?_
  refine awp_seq ?_
  refine rln ?_
  refine As ?_
  refine gend ?_
  refine awp_seq ?_
  refine awp_seq ?_
  refine rln ?_
  refine Mv ?_
  refine Mv ?_
  refine G (q_ncp ?_)
  refine G (q_fap ?_)
  refine G (q_ldp ?_)
  refine G (q_leq64 ?_)
  refine gend ?_
  refine cndN (fun hc1 => ?_) ?_; rotate_left
  · exact hle
  refine awp_skip ?_
  refine awp_seq ?_
  refine rdln [10] [0, 0, 0, 0, 0, 0, 0, 0, 0, 0, 0, 1] [0, 0, 0, 0, 0, 0, 0, 0, 0, 0, 1, 1] ?_
  refine Dp (fun _ => q_mv (s := .v (.c _)) ⟨rfl, rfl⟩) ?_
  refine Dp (fun _ => q_mv (s := .v (.c _)) ⟨rfl, rfl⟩) ?_
  refine Dp (fun _ => q_ncp ⟨rfl, rfl⟩) ?_
  refine Dp (fun _ => q_fap ⟨rfl, rfl⟩) ?_
  refine DLp ?_
  refine Dp (fun _ => q_rem64 (y := 2) ⟨rfl, rfl⟩ (hz := by decide)) ?_
  refine Dp (fun _ => q_ncp ⟨rfl, rfl⟩) ?_
  refine Dp (fun _ => q_fap ⟨rfl, rfl⟩) ?_
  refine Dp (fun _ => q_ixp (j := 0) ⟨rfl, rfl⟩ (hi := ix64j (et rfl) hp)) ?_
  refine DLp ?_
  refine De2 (fun _ k_ => q_callv [6, 7] [some (cC (.ptr 1 0) 0), some (u8s B0)] [some (cC (.ptr 1 0) 0)] (copy_k B0 0) k_ (ha := (cac (et rfl) rfl ca0)) (e2 := (pl1 rfl rfl (pl1 rfl sees_m pl0))) (eL := (ml1 rfl (ml1 sees_m ml0))) (eM := (ml1 rfl ml0))) ?_
  refine Dp (fun _ => q_as (s := .v (.c _)) ⟨rfl, rfl⟩) ?_
  refine dend ?_
  refine awp_seq ?_
  refine awp_seq ?_
  refine rln ?_
  refine Mv ?_
  refine Mv ?_
  refine G (q_ncp ?_)
  refine G (q_fap ?_)
  refine G (q_ldp ?_)
  refine G (q_sub64 ?_)
  refine G (q_mv (s := sc (c64 0)) ?_)
  refine gend ?_
  refine awp_block ?_
  refine awp_loop (fun x : {i : Nat // i ≤ (ep - er).toNat} => ⟨frm 43 [(5, sc (.ptr 10 0)), (36, sc (c64 (ep - er))), (37, sc (c64 (UInt64.ofNat x.1)))], [some (chC es er 2 h1 4 6 h3 8 sent 1 g any hash), some (wcs true wg wb), some (cC (.ptr 3 0) 0), some (u8s A0), cb h1 5, kb h1 A1, some (cC (.ptr 7 0) 0), some (u8s B0), cb h3 9, kb h3 B1, some (cC (.ptr (kq x.1 7) 0) 0), kx x.1 B0]⟩) (fun x => (ep - er).toNat - x.1) ⟨0, Nat.zero_le _⟩ (sle_ren [(0, true), (1, true), (2, true), (3, true), (4, true), (5, true), (6, true), (7, true), (8, true), (9, true), (10, true), (10, false)] rfl (piT rfl) ⟨rfl, rfl, rfl, trivial⟩ (Eq.symm (a := renL _ _ _) (rlT rfl (chC_map rfl rfl rfl rfl rfl) (rlT rfl rfl (rlT rfl rfl (rlT rfl sees_m (rlB rfl (cb_map rfl) (rlB rfl kb_map (rlT rfl rfl (rlT rfl sees_m (rlB rfl (cb_map rfl) (rlB rfl kb_map (rlT rfl rfl (rlF rl0)))))))))))))) fun x => ?_
  have hlt := ofNat_lt (e := ep - er) x.2
  refine awp_seq ?_
  refine rln ?_
  refine G (q_lss64 ?_)
  refine gend ?_
  refine awp_seq ?_
  refine cnd (fun hc2 => ?_) (fun hc2 => ?_); rotate_left
  · refine awp_exit ?_
    rw [show x.1 = (ep - er).toNat from (by have := x.2; have := mt hlt.2 hc2; omega)]
    refine reheap [(5, sc (.ptr 10 0))] [some (chC es er 2 h1 4 6 h3 8 sent 1 g any hash), some (wcs true wg wb), some (cC (.ptr 3 0) 0), some (u8s A0), cb h1 5, kb h1 A1, some (cC (.ptr 7 0) 0), some (u8s B0), cb h3 9, kb h3 B1, some (cC (.ptr 11 0) 0), some (u8s (kE B0 (ep - er).toNat))] ?_ ⟨rfl, trivial⟩ (by rw [kq_p (sub_pos hle), kx_p (sub_pos hle)])
    refine awp_seq ?_
    refine rln ?_
    refine Mv ?_
    refine As ?_
    refine gend ?_
    refine awp_ret ?_
    exact fx1 [0, 1, 2, 3, 4, 5, 6, 7, 8, 9, 10, 11] (hm0 := rfl) (hH := (pl1 rfl (chC_map rfl rfl rfl rfl rfl) (pl1 rfl rfl (pl1 rfl rfl (pl1 rfl sees_m (plb rfl (cb_map rfl) (plb rfl kb_map (pl1 rfl rfl (pl1 rfl sees_m (plb rfl (cb_map rfl) (plb rfl kb_map (pl1 rfl rfl (pl1 rfl sees_m pl0))))))))))))) (hn := piB rfl)
  refine awp_skip ?_
  rcases Nat.eq_zero_or_pos x.1 with h0 | h0
  · have hKl := hK
    refine reheap [(5, sc (.ptr 10 0)), (36, sc (c64 (ep - er))), (37, sc (c64 (UInt64.ofNat x.1)))] [some (chC es er 2 h1 4 6 h3 8 sent 1 g any hash), some (wcs true wg wb), some (cC (.ptr 3 0) 0), some (u8s A0), cb h1 5, kb h1 A1, some (cC (.ptr 7 0) 0), some (u8s B0), cb h3 9, kb h3 B1, some (cC (.ptr 7 0) 0), none] ?_ ⟨rfl, rfl, rfl, trivial⟩ (by rw [kq_z h0, kx_z h0])
    refine awp_seq ?_
    refine awp_block ?_
    refine rln ?_
    refine Mv ?_
    refine G2 (fun _ k_ => q_callv [10, 7] [some (cC (.ptr 2 0) 0), some (u8s B0)] [some (u8s (anext B0))] (rekey_k B0 0 hKl) k_ (ha := (cac (et rfl) rfl ca0)) (e2 := (pl1 rfl rfl (pl1 rfl sees_m pl0))) (eL := (ml1 rfl (ml1 sees_m ml0))) (eM := (ml1 sees_m ml0))) ?_
    refine gend ?_
    refine rln ?_
    refine G (q_add64 (y := 1) ?_)
    refine Mv ?_
    refine gend ?_
    exact ⟨⟨x.1 + 1, hlt.1 hc2⟩, by show (ep - er).toNat - (x.1 + 1) < (ep - er).toNat - x.1; have := hlt.1 hc2; omega, sle_ren [(0, true), (1, true), (2, true), (3, true), (4, true), (5, true), (6, true), (7, true), (8, true), (9, true), (10, true), (12, true)] rfl (piT rfl) ⟨rfl, rfl, congrArg (fun z => sc (c64 z)) (ofNat_succ x.1), trivial⟩ (Eq.symm (a := renL _ _ _) (rlT rfl (chC_map rfl rfl rfl rfl rfl) (rlT rfl rfl (rlT rfl rfl (rlT rfl sees_m (rlB rfl (cb_map rfl) (rlB rfl kb_map (rlT rfl rfl (rlT rfl sees_m (rlB rfl (cb_map rfl) (rlB rfl kb_map (rlT rfl rfl (rlT rfl (sees_m.trans (by rw [h0]; rfl)) rl0)))))))))))))⟩
  · have hKl := kE_len hK x.1
    refine reheap [(5, sc (.ptr 10 0)), (36, sc (c64 (ep - er))), (37, sc (c64 (UInt64.ofNat x.1)))] [some (chC es er 2 h1 4 6 h3 8 sent 1 g any hash), some (wcs true wg wb), some (cC (.ptr 3 0) 0), some (u8s A0), cb h1 5, kb h1 A1, some (cC (.ptr 7 0) 0), some (u8s B0), cb h3 9, kb h3 B1, some (cC (.ptr 11 0) 0), some (u8s (kE B0 x.1))] ?_ ⟨rfl, rfl, rfl, trivial⟩ (by rw [kq_p h0, kx_p h0])
    refine awp_seq ?_
    refine awp_block ?_
    refine rln ?_
    refine Mv ?_
    refine G2 (fun _ k_ => q_callv [10, 11] [some (cC (.ptr 2 0) 0), some (u8s (kE B0 x.1))] [some (u8s (anext (kE B0 x.1)))] (rekey_k (kE B0 x.1) 0 hKl) k_ (ha := (cac (et rfl) rfl ca0)) (e2 := (pl1 rfl rfl (pl1 rfl sees_m pl0))) (eL := (ml1 rfl (ml1 sees_m ml0))) (eM := (ml1 sees_m ml0))) ?_
    refine gend ?_
    refine rln ?_
    refine G (q_add64 (y := 1) ?_)
    refine Mv ?_
    refine gend ?_
    exact ⟨⟨x.1 + 1, hlt.1 hc2⟩, by show (ep - er).toNat - (x.1 + 1) < (ep - er).toNat - x.1; have := hlt.1 hc2; omega, sle_ren [(0, true), (1, true), (2, true), (3, true), (4, true), (5, true), (6, true), (7, true), (8, true), (9, true), (10, true), (12, true)] rfl (piT rfl) ⟨rfl, rfl, congrArg (fun z => sc (c64 z)) (ofNat_succ x.1), trivial⟩ (Eq.symm (a := renL _ _ _) (rlT rfl (chC_map rfl rfl rfl rfl rfl) (rlT rfl rfl (rlT rfl rfl (rlT rfl sees_m (rlB rfl (cb_map rfl) (rlB rfl kb_map (rlT rfl rfl (rlT rfl sees_m (rlB rfl (cb_map rfl) (rlB rfl kb_map (rlT rfl rfl (rlT rfl sees_m rl0)))))))))))))⟩
set_option maxHeartbeats 1600000 in
theorem of_rf1 (es er sent g : UInt64) (h1 any : Bool) (hash A0 A1 B0 B1 : List UInt8) (wg wb : UInt64) (ep : UInt64) (hle : ¬ ep ≤ er) (hp : (er % 2).toNat = 1) (hK : B1.length = 32) : Good Try.prog 28 [.c (.ptr 0 3), .c (c64 ep)] [some (chC es er 2 h1 4 6 true 8 sent 1 g any hash), some (wcs true wg wb), some (cC (.ptr 3 0) 0), some (u8s A0), cb h1 5, kb h1 A1, some (cC (.ptr 7 0) 0), some (u8s B0), cb true 9, kb true B1] (sc (.ptr 10 0)) [some (chC es er 2 h1 4 6 true 8 sent 1 g any hash), some (wcs true wg wb), some (cC (.ptr 3 0) 0), some (u8s A0), cb h1 5, kb h1 A1, some (cC (.ptr 7 0) 0), some (u8s B0), cb true 9, kb true B1, some (cC (.ptr 11 0) 0), some (u8s (kE B1 (ep - er).toNat))] := by
  refine good_frm 43 Try.func28 rfl rfl rfl rfl rfl rfl ?_
  refine awp_seq ?_
  refine rln ?_
  refine As ?_
  refine gend ?_
  refine awp_seq ?_
  refine awp_seq ?_
  refine rln ?_
  refine Mv ?_
  refine Mv ?_
  refine G (q_ncp ?_)
  refine G (q_fap ?_)
  refine G (q_ldp ?_)
  refine G (q_leq64 ?_)
  refine gend ?_
  refine cndN (fun hc1 => ?_) ?_; rotate_left
  · exact hle
  refine awp_skip ?_
  refine awp_seq ?_
  refine rdln [10] [0, 0, 0, 0, 0, 0, 0, 0, 0, 0, 0, 1] [0, 0, 0, 0, 0, 0, 0, 0, 0, 0, 1, 1] ?_
  refine Dp (fun _ => q_mv (s := .v (.c _)) ⟨rfl, rfl⟩) ?_
  refine Dp (fun _ => q_mv (s := .v (.c _)) ⟨rfl, rfl⟩) ?_
  refine Dp (fun _ => q_ncp ⟨rfl, rfl⟩) ?_
  refine Dp (fun _ => q_fap ⟨rfl, rfl⟩) ?_
  refine DLp ?_
  refine Dp (fun _ => q_rem64 (y := 2) ⟨rfl, rfl⟩ (hz := by decide)) ?_
  refine Dp (fun _ => q_ncp ⟨rfl, rfl⟩) ?_
  refine Dp (fun _ => q_fap ⟨rfl, rfl⟩) ?_
  refine Dp (fun _ => q_ixp (j := 1) ⟨rfl, rfl⟩ (hi := ix64j (et rfl) hp)) ?_
  refine DLp ?_
  refine De2 (fun _ k_ => q_callv [8, 9] [some (cC (.ptr 1 0) 0), some (u8s B1)] [some (cC (.ptr 1 0) 0)] (copy_k B1 0) k_ (ha := (cac (et rfl) rfl ca0)) (e2 := (pl1 rfl rfl (pl1 rfl sees_m pl0))) (eL := (ml1 rfl (ml1 sees_m ml0))) (eM := (ml1 rfl ml0))) ?_
  refine Dp (fun _ => q_as (s := .v (.c _)) ⟨rfl, rfl⟩) ?_
  refine dend ?_
  refine awp_seq ?_
  refine awp_seq ?_
  refine rln ?_
  refine Mv ?_
  refine Mv ?_
  refine G (q_ncp ?_)
  refine G (q_fap ?_)
  refine G (q_ldp ?_)
  refine G (q_sub64 ?_)
  refine G (q_mv (s := sc (c64 0)) ?_)
  refine gend ?_
  refine awp_block ?_
  refine awp_loop (fun x : {i : Nat // i ≤ (ep - er).toNat} => ⟨frm 43 [(5, sc (.ptr 10 0)), (36, sc (c64 (ep - er))), (37, sc (c64 (UInt64.ofNat x.1)))], [some (chC es er 2 h1 4 6 true 8 sent 1 g any hash), some (wcs true wg wb), some (cC (.ptr 3 0) 0), some (u8s A0), cb h1 5, kb h1 A1, some (cC (.ptr 7 0) 0), some (u8s B0), cb true 9, kb true B1, some (cC (.ptr (kq x.1 9) 0) 0), kx x.1 B1]⟩) (fun x => (ep - er).toNat - x.1) ⟨0, Nat.zero_le _⟩ (sle_ren [(0, true), (1, true), (2, true), (3, true), (4, true), (5, true), (6, true), (7, true), (8, true), (9, true), (10, true), (10, false)] rfl (piT rfl) ⟨rfl, rfl, rfl, trivial⟩ (Eq.symm (a := renL _ _ _) (rlT rfl (chC_map rfl rfl rfl rfl rfl) (rlT rfl rfl (rlT rfl rfl (rlT rfl sees_m (rlB rfl (cb_map rfl) (rlB rfl kb_map (rlT rfl rfl (rlT rfl sees_m (rlT rfl rfl (rlT rfl sees_m (rlT rfl rfl (rlF rl0)))))))))))))) fun x => ?_
  have hlt := ofNat_lt (e := ep - er) x.2
  refine awp_seq ?_
  refine rln ?_
  refine G (q_lss64 ?_)
  refine gend ?_
  refine awp_seq ?_
  refine cnd (fun hc2 => ?_) (fun hc2 => ?_); rotate_left
  · refine awp_exit ?_
    rw [show x.1 = (ep - er).toNat from (by have := x.2; have := mt hlt.2 hc2; omega)]
    refine reheap [(5, sc (.ptr 10 0))] [some (chC es er 2 h1 4 6 true 8 sent 1 g any hash), some (wcs true wg wb), some (cC (.ptr 3 0) 0), some (u8s A0), cb h1 5, kb h1 A1, some (cC (.ptr 7 0) 0), some (u8s B0), cb true 9, kb true B1, some (cC (.ptr 11 0) 0), some (u8s (kE B1 (ep - er).toNat))] ?_ ⟨rfl, trivial⟩ (by rw [kq_p (sub_pos hle), kx_p (sub_pos hle)])
    refine awp_seq ?_
    refine rln ?_
    refine Mv ?_
    refine As ?_
    refine gend ?_
    refine awp_ret ?_
    exact fx1 [0, 1, 2, 3, 4, 5, 6, 7, 8, 9, 10, 11] (hm0 := rfl) (hH := (pl1 rfl (chC_map rfl rfl rfl rfl rfl) (pl1 rfl rfl (pl1 rfl rfl (pl1 rfl sees_m (plb rfl (cb_map rfl) (plb rfl kb_map (pl1 rfl rfl (pl1 rfl sees_m (pl1 rfl rfl (pl1 rfl sees_m (pl1 rfl rfl (pl1 rfl sees_m pl0))))))))))))) (hn := piB rfl)
  refine awp_skip ?_
  rcases Nat.eq_zero_or_pos x.1 with h0 | h0
  · have hKl := hK
    refine reheap [(5, sc (.ptr 10 0)), (36, sc (c64 (ep - er))), (37, sc (c64 (UInt64.ofNat x.1)))] [some (chC es er 2 h1 4 6 true 8 sent 1 g any hash), some (wcs true wg wb), some (cC (.ptr 3 0) 0), some (u8s A0), cb h1 5, kb h1 A1, some (cC (.ptr 7 0) 0), some (u8s B0), cb true 9, kb true B1, some (cC (.ptr 9 0) 0), none] ?_ ⟨rfl, rfl, rfl, trivial⟩ (by rw [kq_z h0, kx_z h0])
    refine awp_seq ?_
    refine awp_block ?_
    refine rln ?_
    refine Mv ?_
    refine G2 (fun _ k_ => q_callv [10, 9] [some (cC (.ptr 2 0) 0), some (u8s B1)] [some (u8s (anext B1))] (rekey_k B1 0 hKl) k_ (ha := (cac (et rfl) rfl ca0)) (e2 := (pl1 rfl rfl (pl1 rfl sees_m pl0))) (eL := (ml1 rfl (ml1 sees_m ml0))) (eM := (ml1 sees_m ml0))) ?_
    refine gend ?_
    refine rln ?_
    refine G (q_add64 (y := 1) ?_)
    refine Mv ?_
    refine gend ?_
    exact ⟨⟨x.1 + 1, hlt.1 hc2⟩, by show (ep - er).toNat - (x.1 + 1) < (ep - er).toNat - x.1; have := hlt.1 hc2; omega, sle_ren [(0, true), (1, true), (2, true), (3, true), (4, true), (5, true), (6, true), (7, true), (8, true), (9, true), (10, true), (12, true)] rfl (piT rfl) ⟨rfl, rfl, congrArg (fun z => sc (c64 z)) (ofNat_succ x.1), trivial⟩ (Eq.symm (a := renL _ _ _) (rlT rfl (chC_map rfl rfl rfl rfl rfl) (rlT rfl rfl (rlT rfl rfl (rlT rfl sees_m (rlB rfl (cb_map rfl) (rlB rfl kb_map (rlT rfl rfl (rlT rfl sees_m (rlT rfl rfl (rlT rfl sees_m (rlT rfl rfl (rlT rfl (sees_m.trans (by rw [h0]; rfl)) rl0)))))))))))))⟩
  · have hKl := kE_len hK x.1
    refine reheap [(5, sc (.ptr 10 0)), (36, sc (c64 (ep - er))), (37, sc (c64 (UInt64.ofNat x.1)))] [some (chC es er 2 h1 4 6 true 8 sent 1 g any hash), some (wcs true wg wb), some (cC (.ptr 3 0) 0), some (u8s A0), cb h1 5, kb h1 A1, some (cC (.ptr 7 0) 0), some (u8s B0), cb true 9, kb true B1, some (cC (.ptr 11 0) 0), some (u8s (kE B1 x.1))] ?_ ⟨rfl, rfl, rfl, trivial⟩ (by rw [kq_p h0, kx_p h0])
    refine awp_seq ?_
    refine awp_block ?_
    refine rln ?_
    refine Mv ?_
    refine G2 (fun _ k_ => q_callv [10, 11] [some (cC (.ptr 2 0) 0), some (u8s (kE B1 x.1))] [some (u8s (anext (kE B1 x.1)))] (rekey_k (kE B1 x.1) 0 hKl) k_ (ha := (cac (et rfl) rfl ca0)) (e2 := (pl1 rfl rfl (pl1 rfl sees_m pl0))) (eL := (ml1 rfl (ml1 sees_m ml0))) (eM := (ml1 sees_m ml0))) ?_
    refine gend ?_
    refine rln ?_
    refine G (q_add64 (y := 1) ?_)
    refine Mv ?_
    refine gend ?_
    exact ⟨⟨x.1 + 1, hlt.1 hc2⟩, by show (ep - er).toNat - (x.1 + 1) < (ep - er).toNat - x.1; have := hlt.1 hc2; omega, sle_ren [(0, true), (1, true), (2, true), (3, true), (4, true), (5, true), (6, true), (7, true), (8, true), (9, true), (10, true), (12, true)] rfl (piT rfl) ⟨rfl, rfl, congrArg (fun z => sc (c64 z)) (ofNat_succ x.1), trivial⟩ (Eq.symm (a := renL _ _ _) (rlT rfl (chC_map rfl rfl rfl rfl rfl) (rlT rfl rfl (rlT rfl rfl (rlT rfl sees_m (rlB rfl (cb_map rfl) (rlB rfl kb_map (rlT rfl rfl (rlT rfl sees_m (rlT rfl rfl (rlT rfl sees_m (rlT rfl rfl (rlT rfl sees_m rl0)))))))))))))⟩
end Go.Proofs.Ytklcckngmmklhaa

/- What functions of the program do, walked over the abstract machine. -/
namespace Go.Proofs.Ytklcckngmmklhaa
open Go Go.Abs Go.Proofs Go.Proofs.Ytklcckngmmklhaa.Ch Go.Proofs.Ytklcckngmmklhaa.Po Go.Proofs.Ytklcckngmmklhaa.Ae Go.Proofs.Ytklcckngmmklhaa.Wd
set_option maxRecDepth 20000
set_option maxHeartbeats 1600000 in
theorem move_s (es er sent g : UInt64) (h3 any : Bool) (hash k B0 B1 : List UInt8) (wg wb : UInt64) (ep : UInt64) (hk : k.length = 32) : Good Try.prog 27 [.c (.ptr 0 0), .c (c64 ep)] [some (chC es er 2 (decide (es ≠ 0)) 4 6 h3 8 sent 1 g any hash), some (wcs true wg wb), some (cC (.ptr 3 0) 0), some (u8s (S0 k es.toNat)), cb (decide (es ≠ 0)) 5, kb (decide (es ≠ 0)) (S1 k es.toNat), some (cC (.ptr 7 0) 0), some (u8s B0), cb h3 9, kb h3 B1] (.t []) [some (chC (mx es ep) er 10 (decide ((mx es ep) ≠ 0)) 12 6 h3 8 sent 1 g any hash), some (wcs true wg wb), none, none, none, none, some (cC (.ptr 7 0) 0), some (u8s B0), cb h3 9, kb h3 B1, some (cC (.ptr 11 0) 0), some (u8s (S0 k (mx es ep).toNat)), cb (decide ((mx es ep) ≠ 0)) 13, kb (decide ((mx es ep) ≠ 0)) (S1 k (mx es ep).toNat)] := by
  refine good_frm 41 Try.func27 rfl rfl rfl rfl rfl rfl ?_
  refine awp_block ?_
  refine awp_loop (fun x : MS es ep => ⟨frm 41 [(0, sc (.ptr 0 0)), (1, sc (c64 ep))], [some (chC x.e er 10 (decide (x.e ≠ 0)) 12 6 h3 8 sent 1 g any hash), some (wcs true wg wb), none, none, none, none, some (cC (.ptr 7 0) 0), some (u8s B0), cb h3 9, kb h3 B1, some (cC (.ptr 11 0) 0), some (u8s (S0 k x.e.toNat)), cb (decide (x.e ≠ 0)) 13, kb (decide (x.e ≠ 0)) (S1 k x.e.toNat)]⟩) (fun x => ep.toNat - x.e.toNat) ⟨es, Nat.le_refl _, mx_ge _ _⟩ (sle_ren [(0, true), (1, true), (2, false), (3, false), (4, false), (5, false), (6, true), (7, true), (8, true), (9, true), (2, true), (3, true), (4, true), (5, true)] rfl (piT rfl) ⟨rfl, rfl, trivial⟩ (Eq.symm (a := renL _ _ _) (rlT rfl (chC_map rfl rfl rfl rfl rfl) (rlT rfl rfl (rlF (rlF (rlF (rlF (rlT rfl rfl (rlT rfl sees_m (rlB rfl (cb_map rfl) (rlB rfl kb_map (rlT rfl rfl (rlT rfl sees_m (rlB rfl (cb_map rfl) (rlB rfl kb_map rl0)))))))))))))))) fun x => ?_
  have hA := S0_len hk x.e.toNat
  have hB := S1_len hk x.e.toNat
  refine awp_seq ?_
  refine awp_seq ?_
  refine rln ?_
  refine Mv ?_
  refine G (q_ncp ?_)
  refine G (q_fap ?_)
  refine G (q_ldp ?_)
  refine Mv ?_
  refine G (q_lss64 ?_)
  refine gend ?_
  refine cnd (fun hc1 => ?_) (fun hc1 => ?_); rotate_left
  · refine awp_exit ?_
    rw [x.done hc1]
    exact fx0 [0, 1, 2, 3, 4, 5, 6, 7, 8, 9, 10, 11, 12, 13] (hH := (pl1 rfl (chC_map rfl rfl rfl rfl rfl) (pl1 rfl rfl (plb rfl rfl (plb rfl rfl (plb rfl rfl (plb rfl rfl (pl1 rfl rfl (pl1 rfl sees_m (plb rfl (cb_map rfl) (plb rfl kb_map (pl1 rfl rfl (pl1 rfl sees_m (plb rfl (cb_map rfl) (plb rfl kb_map pl0))))))))))))))) (hn := piB rfl)
  refine awp_skip ?_
  rcases Nat.mod_two_eq_zero_or_one x.e.toNat with he | he
  · have hv := S0_even (k := k) he
    have hbn := ne_zero_succ hc1
    have hj0 : (x.e % 2).toNat = 0 := (mod2_nat _).trans he
    have hj1 : ((x.e + 1) % 2).toNat = 1 := by rw [mod2_nat, succ_nat hc1]; omega
    refine awp_block ?_
    refine awp_seq ?_
    refine rdln [10] [0, 0, 0, 0, 0, 0, 0, 0, 0, 0, 0, 1] [0, 0, 0, 0, 0, 0, 0, 0, 0, 0, 1, 1] ?_
    refine Dp (fun _ => q_mv (s := .v (.c _)) ⟨rfl, rfl⟩) ?_
    refine Dp (fun _ => q_mv (s := .v (.c _)) ⟨rfl, rfl⟩) ?_
    refine Dp (fun _ => q_ncp ⟨rfl, rfl⟩) ?_
    refine Dp (fun _ => q_fap ⟨rfl, rfl⟩) ?_
    refine DLp ?_
    refine Dp (fun _ => q_rem64 (y := 2) ⟨rfl, rfl⟩ (hz := by decide)) ?_
    refine Dp (fun _ => q_ncp ⟨rfl, rfl⟩) ?_
    refine Dp (fun _ => q_fap ⟨rfl, rfl⟩) ?_
    refine Dp (fun _ => q_ixp  (j := 0) ⟨rfl, rfl⟩ (hi := ix64j (et rfl) hj0)) ?_
    refine DLp ?_
    refine De2 (fun _ k_ => q_callv [10, 11] [some (cC (.ptr 1 0) 0), some (u8s (S0 k x.e.toNat))] [some (cC (.ptr 1 0) 0)] (copy_k (S0 k x.e.toNat) 0) k_ (ha := (cac (et rfl) rfl ca0)) (e2 := (pl1 rfl rfl (pl1 rfl sees_m pl0))) (eL := (ml1 rfl (ml1 sees_m ml0))) (eM := (ml1 rfl ml0))) ?_
    refine Dp (fun _ => q_as (s := .v (.c _)) ⟨rfl, rfl⟩) ?_
    refine dend ?_
    refine awp_seq ?_
    refine rln ?_
    refine Mv ?_
    refine G2 (fun _ k_ => q_callv [14, 11] [some (cC (.ptr 2 0) 0), some (u8s (S0 k x.e.toNat))] [some (u8s (anext (S0 k x.e.toNat)))] (rekey_k (S0 k x.e.toNat) 0 hA) k_ (ha := (cac (et rfl) rfl ca0)) (e2 := (pl1 rfl rfl (pl1 rfl sees_m pl0))) (eL := (ml1 rfl (ml1 sees_m ml0))) (eM := (ml1 sees_m ml0))) ?_
    refine gend ?_
    refine awp_seq ?_
    refine rln ?_
    refine Mv ?_
    refine G (q_ncp ?_)
    refine G (q_fap ?_)
    refine G (q_ldp ?_)
    refine G (q_add64 (y := 1) ?_)
    refine G (q_ncp ?_)
    refine G (q_fap ?_)
    refine G20 (fun _ k_ => q_st k_) ?_
    refine gend ?_
    refine rdln [10] [] [0, 0, 0, 0, 0, 0, 0, 0, 0, 0, 1] ?_
    refine Dp (fun _ => q_mv (s := .v (.c _)) ⟨rfl, rfl⟩) ?_
    refine Dp (fun _ => q_mv (s := .v (.c _)) ⟨rfl, rfl⟩) ?_
    refine Dp (fun _ => q_ncp ⟨rfl, rfl⟩) ?_
    refine Dp (fun _ => q_fap ⟨rfl, rfl⟩) ?_
    refine DLp ?_
    refine Dp (fun _ => q_rem64 (y := 2) ⟨rfl, rfl⟩ (hz := by decide)) ?_
    refine Dp (fun _ => q_mv (s := .v (.c _)) ⟨rfl, rfl⟩) ?_
    refine Dp (fun _ => q_ncp ⟨rfl, rfl⟩) ?_
    refine Dp (fun _ => q_fap ⟨rfl, rfl⟩) ?_
    refine Dp (fun _ => q_ixp  (j := 1) ⟨rfl, rfl⟩ (hi := ix64j (et rfl) hj1)) ?_
    refine De20 (fun _ k_ => q_st k_) ?_
    refine dend ?_
    exact ⟨⟨x.e + 1, (x.next hc1).1, (x.next hc1).2⟩, by show ep.toNat - (x.e + 1).toNat < ep.toNat - x.e.toNat; have h9 := UInt64.lt_iff_toNat_lt.1 hc1; rw [succ_nat hc1]; omega, sle_ren [(0, true), (1, true), (2, false), (3, false), (4, false), (5, false), (6, true), (7, true), (8, true), (9, true), (10, true), (11, true), (14, true), (15, true)] rfl (piT rfl) ⟨rfl, rfl, trivial⟩ ((show [some (chC (x.e + 1) er 10 (decide ((x.e + 1) ≠ 0)) 12 6 h3 8 sent 1 g any hash), some (wcs true wg wb), none, none, none, none, some (cC (.ptr 7 0) 0), some (u8s B0), cb h3 9, kb h3 B1, some (cC (.ptr 11 0) 0), some (u8s (S0 k (x.e + 1).toNat)), cb (decide ((x.e + 1) ≠ 0)) 13, kb (decide ((x.e + 1) ≠ 0)) (S1 k (x.e + 1).toNat)] = [some (chC (x.e + 1) er 10 true 12 6 h3 8 sent 1 g any hash), some (wcs true wg wb), none, none, none, none, some (cC (.ptr 7 0) 0), some (u8s B0), cb h3 9, kb h3 B1, some (cC (.ptr 11 0) 0), some (u8s (S0 k x.e.toNat)), cb true 13, kb true (anext (S0 k x.e.toNat))] by rw [succ_nat hc1, hv.1, hv.2.1, hbn]).trans (Eq.symm (a := renL _ _ _) (rlT rfl (show List.map _ (chC (x.e + 1) er 10 true 14 6 h3 8 sent 1 g any hash) = _ from chC_map rfl rfl rfl rfl rfl) (rlT rfl rfl (rlF (rlF (rlF (rlF (rlT rfl rfl (rlT rfl sees_m (rlB rfl (cb_map rfl) (rlB rfl kb_map (rlT rfl rfl (rlT rfl sees_m (rlT rfl rfl (rlT rfl sees_m rl0))))))))))))))))⟩
  · have hv := S1_odd (k := k) he
    have hbn := ne_zero_succ hc1
    have hj0 : (x.e % 2).toNat = 1 := (mod2_nat _).trans he
    have hj1 : ((x.e + 1) % 2).toNat = 0 := by rw [mod2_nat, succ_nat hc1]; omega
    refine reheap [(0, sc (.ptr 0 0)), (1, sc (c64 ep))] [some (chC x.e er 10 true 12 6 h3 8 sent 1 g any hash), some (wcs true wg wb), none, none, none, none, some (cC (.ptr 7 0) 0), some (u8s B0), cb h3 9, kb h3 B1, some (cC (.ptr 11 0) 0), some (u8s (S0 k x.e.toNat)), cb true 13, kb true (S1 k x.e.toNat)] ?_ ⟨rfl, rfl, trivial⟩ (by rw [ne_zero_odd he])
    refine awp_block ?_
    refine awp_seq ?_
    refine rdln [10] [0, 0, 0, 0, 0, 0, 0, 0, 0, 0, 0, 1] [0, 0, 0, 0, 0, 0, 0, 0, 0, 0, 1, 1] ?_
    refine Dp (fun _ => q_mv (s := .v (.c _)) ⟨rfl, rfl⟩) ?_
    refine Dp (fun _ => q_mv (s := .v (.c _)) ⟨rfl, rfl⟩) ?_
    refine Dp (fun _ => q_ncp ⟨rfl, rfl⟩) ?_
    refine Dp (fun _ => q_fap ⟨rfl, rfl⟩) ?_
    refine DLp ?_
    refine Dp (fun _ => q_rem64 (y := 2) ⟨rfl, rfl⟩ (hz := by decide)) ?_
    refine Dp (fun _ => q_ncp ⟨rfl, rfl⟩) ?_
    refine Dp (fun _ => q_fap ⟨rfl, rfl⟩) ?_
    refine Dp (fun _ => q_ixp  (j := 1) ⟨rfl, rfl⟩ (hi := ix64j (et rfl) hj0)) ?_
    refine DLp ?_
    refine De2 (fun _ k_ => q_callv [12, 13] [some (cC (.ptr 1 0) 0), some (u8s (S1 k x.e.toNat))] [some (cC (.ptr 1 0) 0)] (copy_k (S1 k x.e.toNat) 0) k_ (ha := (cac (et rfl) rfl ca0)) (e2 := (pl1 rfl rfl (pl1 rfl sees_m pl0))) (eL := (ml1 rfl (ml1 sees_m ml0))) (eM := (ml1 rfl ml0))) ?_
    refine Dp (fun _ => q_as (s := .v (.c _)) ⟨rfl, rfl⟩) ?_
    refine dend ?_
    refine awp_seq ?_
    refine rln ?_
    refine Mv ?_
    refine G2 (fun _ k_ => q_callv [14, 13] [some (cC (.ptr 2 0) 0), some (u8s (S1 k x.e.toNat))] [some (u8s (anext (S1 k x.e.toNat)))] (rekey_k (S1 k x.e.toNat) 0 hB) k_ (ha := (cac (et rfl) rfl ca0)) (e2 := (pl1 rfl rfl (pl1 rfl sees_m pl0))) (eL := (ml1 rfl (ml1 sees_m ml0))) (eM := (ml1 sees_m ml0))) ?_
    refine gend ?_
    refine awp_seq ?_
    refine rln ?_
    refine Mv ?_
    refine G (q_ncp ?_)
    refine G (q_fap ?_)
    refine G (q_ldp ?_)
    refine G (q_add64 (y := 1) ?_)
    refine G (q_ncp ?_)
    refine G (q_fap ?_)
    refine G20 (fun _ k_ => q_st k_) ?_
    refine gend ?_
    refine rdln [10] [] [0, 0, 0, 0, 0, 0, 0, 0, 0, 0, 1] ?_
    refine Dp (fun _ => q_mv (s := .v (.c _)) ⟨rfl, rfl⟩) ?_
    refine Dp (fun _ => q_mv (s := .v (.c _)) ⟨rfl, rfl⟩) ?_
    refine Dp (fun _ => q_ncp ⟨rfl, rfl⟩) ?_
    refine Dp (fun _ => q_fap ⟨rfl, rfl⟩) ?_
    refine DLp ?_
    refine Dp (fun _ => q_rem64 (y := 2) ⟨rfl, rfl⟩ (hz := by decide)) ?_
    refine Dp (fun _ => q_mv (s := .v (.c _)) ⟨rfl, rfl⟩) ?_
    refine Dp (fun _ => q_ncp ⟨rfl, rfl⟩) ?_
    refine Dp (fun _ => q_fap ⟨rfl, rfl⟩) ?_
    refine Dp (fun _ => q_ixp  (j := 0) ⟨rfl, rfl⟩ (hi := ix64j (et rfl) hj1)) ?_
    refine De20 (fun _ k_ => q_st k_) ?_
    refine dend ?_
    exact ⟨⟨x.e + 1, (x.next hc1).1, (x.next hc1).2⟩, by show ep.toNat - (x.e + 1).toNat < ep.toNat - x.e.toNat; have h9 := UInt64.lt_iff_toNat_lt.1 hc1; rw [succ_nat hc1]; omega, sle_ren [(0, true), (1, true), (2, false), (3, false), (4, false), (5, false), (6, true), (7, true), (8, true), (9, true), (14, true), (15, true), (12, true), (13, true)] rfl (piT rfl) ⟨rfl, rfl, trivial⟩ ((show [some (chC (x.e + 1) er 10 (decide ((x.e + 1) ≠ 0)) 12 6 h3 8 sent 1 g any hash), some (wcs true wg wb), none, none, none, none, some (cC (.ptr 7 0) 0), some (u8s B0), cb h3 9, kb h3 B1, some (cC (.ptr 11 0) 0), some (u8s (S0 k (x.e + 1).toNat)), cb (decide ((x.e + 1) ≠ 0)) 13, kb (decide ((x.e + 1) ≠ 0)) (S1 k (x.e + 1).toNat)] = [some (chC (x.e + 1) er 10 true 12 6 h3 8 sent 1 g any hash), some (wcs true wg wb), none, none, none, none, some (cC (.ptr 7 0) 0), some (u8s B0), cb h3 9, kb h3 B1, some (cC (.ptr 11 0) 0), some (u8s (anext (S1 k x.e.toNat))), cb true 13, kb true (S1 k x.e.toNat)] by rw [succ_nat hc1, hv.1, hv.2.1, hbn]).trans (Eq.symm (a := renL _ _ _) (rlT rfl (show List.map _ (chC (x.e + 1) er 14 true 12 6 h3 8 sent 1 g any hash) = _ from chC_map rfl rfl rfl rfl rfl) (rlT rfl rfl (rlF (rlF (rlF (rlF (rlT rfl rfl (rlT rfl sees_m (rlB rfl (cb_map rfl) (rlB rfl kb_map (rlT rfl rfl (rlT rfl sees_m (rlT rfl rfl (rlT rfl sees_m rl0))))))))))))))))⟩
set_option maxHeartbeats 1600000 in
theorem move_r (es er sent g : UInt64) (h1 any : Bool) (hash k A0 A1 : List UInt8) (wg wb : UInt64) (ep : UInt64) (hk : k.length = 32) : Good Try.prog 27 [.c (.ptr 0 3), .c (c64 ep)] [some (chC es er 2 h1 4 6 (decide (er ≠ 0)) 8 sent 1 g any hash), some (wcs true wg wb), some (cC (.ptr 3 0) 0), some (u8s A0), cb h1 5, kb h1 A1, some (cC (.ptr 7 0) 0), some (u8s (S0 k er.toNat)), cb (decide (er ≠ 0)) 9, kb (decide (er ≠ 0)) (S1 k er.toNat)] (.t []) [some (chC es (mx er ep) 2 h1 4 10 (decide ((mx er ep) ≠ 0)) 12 sent 1 g any hash), some (wcs true wg wb), some (cC (.ptr 3 0) 0), some (u8s A0), cb h1 5, kb h1 A1, none, none, none, none, some (cC (.ptr 11 0) 0), some (u8s (S0 k (mx er ep).toNat)), cb (decide ((mx er ep) ≠ 0)) 13, kb (decide ((mx er ep) ≠ 0)) (S1 k (mx er ep).toNat)] := by
  refine good_frm 41 Try.func27 rfl rfl rfl rfl rfl rfl ?_
  refine awp_block ?_
  refine awp_loop (fun x : MS er ep => ⟨frm 41 [(0, sc (.ptr 0 3)), (1, sc (c64 ep))], [some (chC es x.e 2 h1 4 10 (decide (x.e ≠ 0)) 12 sent 1 g any hash), some (wcs true wg wb), some (cC (.ptr 3 0) 0), some (u8s A0), cb h1 5, kb h1 A1, none, none, none, none, some (cC (.ptr 11 0) 0), some (u8s (S0 k x.e.toNat)), cb (decide (x.e ≠ 0)) 13, kb (decide (x.e ≠ 0)) (S1 k x.e.toNat)]⟩) (fun x => ep.toNat - x.e.toNat) ⟨er, Nat.le_refl _, mx_ge _ _⟩ (sle_ren [(0, true), (1, true), (2, true), (3, true), (4, true), (5, true), (6, false), (7, false), (8, false), (9, false), (6, true), (7, true), (8, true), (9, true)] rfl (piT rfl) ⟨rfl, rfl, trivial⟩ (Eq.symm (a := renL _ _ _) (rlT rfl (chC_map rfl rfl rfl rfl rfl) (rlT rfl rfl (rlT rfl rfl (rlT rfl sees_m (rlB rfl (cb_map rfl) (rlB rfl kb_map (rlF (rlF (rlF (rlF (rlT rfl rfl (rlT rfl sees_m (rlB rfl (cb_map rfl) (rlB rfl kb_map rl0)))))))))))))))) fun x => ?_
  have hA := S0_len hk x.e.toNat
  have hB := S1_len hk x.e.toNat
  refine awp_seq ?_
  refine awp_seq ?_
  refine rln ?_
  refine Mv ?_
  refine G (q_ncp ?_)
  refine G (q_fap ?_)
  refine G (q_ldp ?_)
  refine Mv ?_
  refine G (q_lss64 ?_)
  refine gend ?_
  refine cnd (fun hc1 => ?_) (fun hc1 => ?_); rotate_left
  · refine awp_exit ?_
    rw [x.done hc1]
    exact fx0 [0, 1, 2, 3, 4, 5, 6, 7, 8, 9, 10, 11, 12, 13] (hH := (pl1 rfl (chC_map rfl rfl rfl rfl rfl) (pl1 rfl rfl (pl1 rfl rfl (pl1 rfl sees_m (plb rfl (cb_map rfl) (plb rfl kb_map (plb rfl rfl (plb rfl rfl (plb rfl rfl (plb rfl rfl (pl1 rfl rfl (pl1 rfl sees_m (plb rfl (cb_map rfl) (plb rfl kb_map pl0))))))))))))))) (hn := piB rfl)
  refine awp_skip ?_
  rcases Nat.mod_two_eq_zero_or_one x.e.toNat with he | he
  · have hv := S0_even (k := k) he
    have hbn := ne_zero_succ hc1
    have hj0 : (x.e % 2).toNat = 0 := (mod2_nat _).trans he
    have hj1 : ((x.e + 1) % 2).toNat = 1 := by rw [mod2_nat, succ_nat hc1]; omega
    refine awp_block ?_
    refine awp_seq ?_
    refine rdln [10] [0, 0, 0, 0, 0, 0, 0, 0, 0, 0, 0, 1] [0, 0, 0, 0, 0, 0, 0, 0, 0, 0, 1, 1] ?_
    refine Dp (fun _ => q_mv (s := .v (.c _)) ⟨rfl, rfl⟩) ?_
    refine Dp (fun _ => q_mv (s := .v (.c _)) ⟨rfl, rfl⟩) ?_
    refine Dp (fun _ => q_ncp ⟨rfl, rfl⟩) ?_
    refine Dp (fun _ => q_fap ⟨rfl, rfl⟩) ?_
    refine DLp ?_
    refine Dp (fun _ => q_rem64 (y := 2) ⟨rfl, rfl⟩ (hz := by decide)) ?_
    refine Dp (fun _ => q_ncp ⟨rfl, rfl⟩) ?_
    refine Dp (fun _ => q_fap ⟨rfl, rfl⟩) ?_
    refine Dp (fun _ => q_ixp  (j := 0) ⟨rfl, rfl⟩ (hi := ix64j (et rfl) hj0)) ?_
    refine DLp ?_
    refine De2 (fun _ k_ => q_callv [10, 11] [some (cC (.ptr 1 0) 0), some (u8s (S0 k x.e.toNat))] [some (cC (.ptr 1 0) 0)] (copy_k (S0 k x.e.toNat) 0) k_ (ha := (cac (et rfl) rfl ca0)) (e2 := (pl1 rfl rfl (pl1 rfl sees_m pl0))) (eL := (ml1 rfl (ml1 sees_m ml0))) (eM := (ml1 rfl ml0))) ?_
    refine Dp (fun _ => q_as (s := .v (.c _)) ⟨rfl, rfl⟩) ?_
    refine dend ?_
    refine awp_seq ?_
    refine rln ?_
    refine Mv ?_
    refine G2 (fun _ k_ => q_callv [14, 11] [some (cC (.ptr 2 0) 0), some (u8s (S0 k x.e.toNat))] [some (u8s (anext (S0 k x.e.toNat)))] (rekey_k (S0 k x.e.toNat) 0 hA) k_ (ha := (cac (et rfl) rfl ca0)) (e2 := (pl1 rfl rfl (pl1 rfl sees_m pl0))) (eL := (ml1 rfl (ml1 sees_m ml0))) (eM := (ml1 sees_m ml0))) ?_
    refine gend ?_
    refine awp_seq ?_
    refine rln ?_
    refine Mv ?_
    refine G (q_ncp ?_)
    refine G (q_fap ?_)
    refine G (q_ldp ?_)
    refine G (q_add64 (y := 1) ?_)
    refine G (q_ncp ?_)
    refine G (q_fap ?_)
    refine G20 (fun _ k_ => q_st k_) ?_
    refine gend ?_
    refine rdln [10] [] [0, 0, 0, 0, 0, 0, 0, 0, 0, 0, 1] ?_
    refine Dp (fun _ => q_mv (s := .v (.c _)) ⟨rfl, rfl⟩) ?_
    refine Dp (fun _ => q_mv (s := .v (.c _)) ⟨rfl, rfl⟩) ?_
    refine Dp (fun _ => q_ncp ⟨rfl, rfl⟩) ?_
    refine Dp (fun _ => q_fap ⟨rfl, rfl⟩) ?_
    refine DLp ?_
    refine Dp (fun _ => q_rem64 (y := 2) ⟨rfl, rfl⟩ (hz := by decide)) ?_
    refine Dp (fun _ => q_mv (s := .v (.c _)) ⟨rfl, rfl⟩) ?_
    refine Dp (fun _ => q_ncp ⟨rfl, rfl⟩) ?_
    refine Dp (fun _ => q_fap ⟨rfl, rfl⟩) ?_
    refine Dp (fun _ => q_ixp  (j := 1) ⟨rfl, rfl⟩ (hi := ix64j (et rfl) hj1)) ?_
    refine De20 (fun _ k_ => q_st k_) ?_
    refine dend ?_
    exact ⟨⟨x.e + 1, (x.next hc1).1, (x.next hc1).2⟩, by show ep.toNat - (x.e + 1).toNat < ep.toNat - x.e.toNat; have h9 := UInt64.lt_iff_toNat_lt.1 hc1; rw [succ_nat hc1]; omega, sle_ren [(0, true), (1, true), (2, true), (3, true), (4, true), (5, true), (6, false), (7, false), (8, false), (9, false), (10, true), (11, true), (14, true), (15, true)] rfl (piT rfl) ⟨rfl, rfl, trivial⟩ ((show [some (chC es (x.e + 1) 2 h1 4 10 (decide ((x.e + 1) ≠ 0)) 12 sent 1 g any hash), some (wcs true wg wb), some (cC (.ptr 3 0) 0), some (u8s A0), cb h1 5, kb h1 A1, none, none, none, none, some (cC (.ptr 11 0) 0), some (u8s (S0 k (x.e + 1).toNat)), cb (decide ((x.e + 1) ≠ 0)) 13, kb (decide ((x.e + 1) ≠ 0)) (S1 k (x.e + 1).toNat)] = [some (chC es (x.e + 1) 2 h1 4 10 true 12 sent 1 g any hash), some (wcs true wg wb), some (cC (.ptr 3 0) 0), some (u8s A0), cb h1 5, kb h1 A1, none, none, none, none, some (cC (.ptr 11 0) 0), some (u8s (S0 k x.e.toNat)), cb true 13, kb true (anext (S0 k x.e.toNat))] by rw [succ_nat hc1, hv.1, hv.2.1, hbn]).trans (Eq.symm (a := renL _ _ _) (rlT rfl (show List.map _ (chC es (x.e + 1) 2 h1 4 10 true 14 sent 1 g any hash) = _ from chC_map rfl rfl rfl rfl rfl) (rlT rfl rfl (rlT rfl rfl (rlT rfl sees_m (rlB rfl (cb_map rfl) (rlB rfl kb_map (rlF (rlF (rlF (rlF (rlT rfl rfl (rlT rfl sees_m (rlT rfl rfl (rlT rfl sees_m rl0))))))))))))))))⟩
  · have hv := S1_odd (k := k) he
    have hbn := ne_zero_succ hc1
    have hj0 : (x.e % 2).toNat = 1 := (mod2_nat _).trans he
    have hj1 : ((x.e + 1) % 2).toNat = 0 := by rw [mod2_nat, succ_nat hc1]; omega
    refine reheap [(0, sc (.ptr 0 3)), (1, sc (c64 ep))] [some (chC es x.e 2 h1 4 10 true 12 sent 1 g any hash), some (wcs true wg wb), some (cC (.ptr 3 0) 0), some (u8s A0), cb h1 5, kb h1 A1, none, none, none, none, some (cC (.ptr 11 0) 0), some (u8s (S0 k x.e.toNat)), cb true 13, kb true (S1 k x.e.toNat)] ?_ ⟨rfl, rfl, trivial⟩ (by rw [ne_zero_odd he])
    refine awp_block ?_
    refine awp_seq ?_
    refine rdln [10] [0, 0, 0, 0, 0, 0, 0, 0, 0, 0, 0, 1] [0, 0, 0, 0, 0, 0, 0, 0, 0, 0, 1, 1] ?_
    refine Dp (fun _ => q_mv (s := .v (.c _)) ⟨rfl, rfl⟩) ?_
    refine Dp (fun _ => q_mv (s := .v (.c _)) ⟨rfl, rfl⟩) ?_
    refine Dp (fun _ => q_ncp ⟨rfl, rfl⟩) ?_
    refine Dp (fun _ => q_fap ⟨rfl, rfl⟩) ?_
    refine DLp ?_
    refine Dp (fun _ => q_rem64 (y := 2) ⟨rfl, rfl⟩ (hz := by decide)) ?_
    refine Dp (fun _ => q_ncp ⟨rfl, rfl⟩) ?_
    refine Dp (fun _ => q_fap ⟨rfl, rfl⟩) ?_
    refine Dp (fun _ => q_ixp  (j := 1) ⟨rfl, rfl⟩ (hi := ix64j (et rfl) hj0)) ?_
    refine DLp ?_
    refine De2 (fun _ k_ => q_callv [12, 13] [some (cC (.ptr 1 0) 0), some (u8s (S1 k x.e.toNat))] [some (cC (.ptr 1 0) 0)] (copy_k (S1 k x.e.toNat) 0) k_ (ha := (cac (et rfl) rfl ca0)) (e2 := (pl1 rfl rfl (pl1 rfl sees_m pl0))) (eL := (ml1 rfl (ml1 sees_m ml0))) (eM := (ml1 rfl ml0))) ?_
    refine Dp (fun _ => q_as (s := .v (.c _)) ⟨rfl, rfl⟩) ?_
    refine dend ?_
    refine awp_seq ?_
    refine rln ?_
    refine Mv ?_
    refine G2 (fun _ k_ => q_callv [14, 13] [some (cC (.ptr 2 0) 0), some (u8s (S1 k x.e.toNat))] [some (u8s (anext (S1 k x.e.toNat)))] (rekey_k (S1 k x.e.toNat) 0 hB) k_ (ha := (cac (et rfl) rfl ca0)) (e2 := (pl1 rfl rfl (pl1 rfl sees_m pl0))) (eL := (ml1 rfl (ml1 sees_m ml0))) (eM := (ml1 sees_m ml0))) ?_
    refine gend ?_
    refine awp_seq ?_
    refine rln ?_
    refine Mv ?_
    refine G (q_ncp ?_)
    refine G (q_fap ?_)
    refine G (q_ldp ?_)
    refine G (q_add64 (y := 1) ?_)
    refine G (q_ncp ?_)
    refine G (q_fap ?_)
    refine G20 (fun _ k_ => q_st k_) ?_
    refine gend ?_
    refine rdln [10] [] [0, 0, 0, 0, 0, 0, 0, 0, 0, 0, 1] ?_
    refine Dp (fun _ => q_mv (s := .v (.c _)) ⟨rfl, rfl⟩) ?_
    refine Dp (fun _ => q_mv (s := .v (.c _)) ⟨rfl, rfl⟩) ?_
    refine Dp (fun _ => q_ncp ⟨rfl, rfl⟩) ?_
    refine Dp (fun _ => q_fap ⟨rfl, rfl⟩) ?_
    refine DLp ?_
    refine Dp (fun _ => q_rem64 (y := 2) ⟨rfl, rfl⟩ (hz := by decide)) ?_
    refine Dp (fun _ => q_mv (s := .v (.c _)) ⟨rfl, rfl⟩) ?_
    refine Dp (fun _ => q_ncp ⟨rfl, rfl⟩) ?_
    refine Dp (fun _ => q_fap ⟨rfl, rfl⟩) ?_
    refine Dp (fun _ => q_ixp  (j := 0) ⟨rfl, rfl⟩ (hi := ix64j (et rfl) hj1)) ?_
    refine De20 (fun _ k_ => q_st k_) ?_
    refine dend ?_
    exact ⟨⟨x.e + 1, (x.next hc1).1, (x.next hc1).2⟩, by show ep.toNat - (x.e + 1).toNat < ep.toNat - x.e.toNat; have h9 := UInt64.lt_iff_toNat_lt.1 hc1; rw [succ_nat hc1]; omega, sle_ren [(0, true), (1, true), (2, true), (3, true), (4, true), (5, true), (6, false), (7, false), (8, false), (9, false), (14, true), (15, true), (12, true), (13, true)] rfl (piT rfl) ⟨rfl, rfl, trivial⟩ ((show [some (chC es (x.e + 1) 2 h1 4 10 (decide ((x.e + 1) ≠ 0)) 12 sent 1 g any hash), some (wcs true wg wb), some (cC (.ptr 3 0) 0), some (u8s A0), cb h1 5, kb h1 A1, none, none, none, none, some (cC (.ptr 11 0) 0), some (u8s (S0 k (x.e + 1).toNat)), cb (decide ((x.e + 1) ≠ 0)) 13, kb (decide ((x.e + 1) ≠ 0)) (S1 k (x.e + 1).toNat)] = [some (chC es (x.e + 1) 2 h1 4 10 true 12 sent 1 g any hash), some (wcs true wg wb), some (cC (.ptr 3 0) 0), some (u8s A0), cb h1 5, kb h1 A1, none, none, none, none, some (cC (.ptr 11 0) 0), some (u8s (anext (S1 k x.e.toNat))), cb true 13, kb true (S1 k x.e.toNat)] by rw [succ_nat hc1, hv.1, hv.2.1, hbn]).trans (Eq.symm (a := renL _ _ _) (rlT rfl (show List.map _ (chC es (x.e + 1) 2 h1 4 14 true 12 sent 1 g any hash) = _ from chC_map rfl rfl rfl rfl rfl) (rlT rfl rfl (rlT rfl rfl (rlT rfl sees_m (rlB rfl (cb_map rfl) (rlB rfl kb_map (rlF (rlF (rlF (rlF (rlT rfl rfl (rlT rfl sees_m (rlT rfl rfl (rlT rfl sees_m rl0))))))))))))))))⟩
end Go.Proofs.Ytklcckngmmklhaa

/- What functions of the program do, walked over the abstract machine. -/
namespace Go.Proofs.Ytklcckngmmklhaa
open Go Go.Abs Go.Proofs Go.Proofs.Ytklcckngmmklhaa.Ch Go.Proofs.Ytklcckngmmklhaa.Po Go.Proofs.Ytklcckngmmklhaa.Ae Go.Proofs.Ytklcckngmmklhaa.Wd
set_option maxRecDepth 20000
abbrev chR (es er sent g : UInt64) (x0 x1 y0 y1 w : Cell) (any : Bool) (hash : List UInt8) : List Cell :=
  c64 es :: x0 :: x1 :: c64 er :: y0 :: y1 :: c64 sent :: w :: c64 g :: .bool any :: u8s hash
theorem sees_ch {H : Heap} {π : List Nat} {p w : Nat} {es er sent g wg wb : UInt64} {x0 x1 y0 y1 : Cell} {any : Bool} {hash : List UInt8} (hi : idx p π = none) (hp : H[p]? = some (some (chR es er sent g x0 x1 y0 y1 (.ptr w 0) any hash))) (hw : idx w π = none) (hW : H[w]? = some (some (wcs true wg wb))) :
    cm (cin π true H) 8 (.ptr p 0) = .rop (chR es er sent g (cm (cin π true H) 7 x0) (cm (cin π true H) 7 x1) (cm (cin π true H) 7 y0) (cm (cin π true H) 7 y1) (.rop (wcs true wg wb)) any hash) := by
  refine sees_ptr hi hp rfl ?_
  show cm _ 7 (c64 es) :: cm _ 7 x0 :: cm _ 7 x1 :: cm _ 7 (c64 er) :: cm _ 7 y0 :: cm _ 7 y1 :: cm _ 7 (c64 sent) :: cm _ 7 (.ptr w 0) :: cm _ 7 (c64 g) :: cm _ 7 (.bool any) :: (u8s hash).map (cm _ 7) = _
  rw [mapc_cm, show cm (cin π true H) 7 (.ptr w 0) = .rop (wcs true wg wb) from by simp [cm, cin, hw, joinH, hW]]
  rfl
theorem ch_spl {a b c d e f g h i j : Cell} {hash : List UInt8} (hh : hash.length = 32) : splice (a :: b :: c :: d :: e :: f :: g :: h :: i :: j :: u8s (List.replicate 32 0)) 10 (u8s hash) = a :: b :: c :: d :: e :: f :: g :: h :: i :: j :: u8s hash := by
  unfold splice
  rw [mapc_length, hh]
  show a :: b :: c :: d :: e :: f :: g :: h :: i :: j :: ([] ++ u8s hash ++ List.drop 32 (u8s (List.replicate 32 0))) = _
  rw [List.nil_append, List.drop_of_length_le (by rw [mapc_length]; decide), List.append_nil]
theorem cthere (es er sent g : UInt64) (x0 x1 y0 y1 : Cell) (any : Bool) (hash : List UInt8) (wc : List Cell) : Good Try.prog 26 [.c (.rop (chR es er sent g x0 x1 y0 y1 (.rop wc) any hash))] [] (sc (.bool true)) [] := by
  refine good_frm 12 Try.func26 rfl rfl rfl rfl rfl rfl ?_
  refine awp_seq ?_
  refine rln ?_
  refine As ?_
  refine gend ?_
  refine awp_seq ?_
  refine rln ?_
  refine Mv ?_
  refine G (q_neqp ?_)
  refine Mv ?_
  refine Gg (q_mv (s := .v (.c _)) ?_)
  refine Gg (q_ncr ?_)
  refine Gg (q_far ?_)
  refine Gg (q_ldr ?_)
  refine Gg (q_neqp ?_)
  refine G (q_pkt ?_)
  refine As ?_
  refine gend ?_
  refine awp_ret ?_
  exact fp1
end Go.Proofs.Ytklcckngmmklhaa


/- What functions of the program do, walked over the abstract machine. -/
import Derived.Test.YtedpdnicpicjdaaTi
import Derived.Test.YtedpdnicpicjdaaAbsZc
namespace Go.Proofs.Ytedpdnicpicjdaa
open Go Go.Abs Go.Proofs

/-- The bytes of a number, the highest first. -/
def pwb (n : UInt64) (s : Nat) : Nat → List UInt8
  | 0 => List.replicate s 0
  | i + 1 => (pwb n s i).set (s - 1 - i) (shr64n n (8 * i)).toUInt8
theorem pwb_len (n : UInt64) (s : Nat) : ∀ i, (pwb n s i).length = s
  | 0 => by simp [pwb]
  | i + 1 => by rw [pwb, List.length_set, pwb_len]
/-- The number of bytes. -/
def gt (l : List UInt8) : UInt64 := l.foldl (fun n c => shl64n n 8 ||| c.toUInt64) 0
theorem gt_take (l : List UInt8) (k : Nat) (h : k < l.length) : gt (l.take (k + 1)) = shl64n (gt (l.take k)) 8 ||| (l.getD k 0).toUInt64 := by
  unfold gt
  rw [List.take_succ_eq_append_getElem h, List.foldl_append]
  simp [List.getD_eq_getElem?_getD, List.getElem?_eq_getElem h]
def rn (n : UInt64) : Nat → UInt64
  | 0 => n
  | i + 1 => rn n i / 256
def rp (n : UInt64) (s : Nat) : Nat → List UInt8
  | 0 => List.replicate s 0
  | i + 1 => (rp n s i).set (s - 1 - i) (rn n i % 256).toUInt8
theorem rp_len (n : UInt64) (s : Nat) : ∀ i, (rp n s i).length = s
  | 0 => by simp [rp]
  | i + 1 => by rw [rp, List.length_set, rp_len]
def rg (l : List UInt8) : UInt64 := l.foldl (fun n c => 256 * n + c.toUInt64) 0
theorem rg_take (l : List UInt8) (k : Nat) (h : k < l.length) : rg (l.take (k + 1)) = 256 * rg (l.take k) + (l.getD k 0).toUInt64 := by
  unfold rg
  rw [List.take_succ_eq_append_getElem h, List.foldl_append]
  simp [List.getD_eq_getElem?_getD, List.getElem?_eq_getElem h]
/-- wire.Put -/
theorem put_neg (n : UInt64) (m : Int) (hm : m < 1) : Good Try.prog 8 [.c (c64 n), .c (ci m)] [] (.t [.c .nils, .c (cn 2)]) [] := by
  refine good_frm 44 Try.func8 rfl rfl rfl rfl rfl rfl ?_
  refine awp_seq ?_
  refine rl ?_
  refine As ?_
  refine G (q_as (s := sc (cn 0)) ?_)
  refine gend ?_
  refine awp_seq ?_
  refine awp_seq ?_
  refine rl ?_
  refine Mv ?_
  refine G (q_lssi (y := 1) ?_)
  refine Mv ?_
  refine Aknd 10 (fun hb3 => ?_) ?_; rotate_left
  · exact hm
  refine Gn ?_
  refine Gn ?_
  refine G (q_pkt ?_)
  refine Mv ?_
  refine Gn ?_
  refine Gn ?_
  refine Gn ?_
  refine Gu ?_
  refine Gu ?_
  refine Gu ?_
  refine Gu ?_
  refine Gu ?_
  refine Gn ?_
  refine G (q_pkt ?_)
  refine gend ?_
  refine cndT ?_
  refine awp_seq ?_
  refine rl ?_
  refine As ?_
  refine G (q_as (s := sc (cn 2)) ?_)
  refine gend ?_
  refine awp_ret ?_
  exact fp2
/-- wire.Put -/
theorem put_gt (n : UInt64) (s : Nat) (hs : 8 < s) : Good Try.prog 8 [.c (c64 n), .c (cn s)] [] (.t [.c .nils, .c (cn 2)]) [] := by
  refine good_frm 44 Try.func8 rfl rfl rfl rfl rfl rfl ?_
  refine awp_seq ?_
  refine rl ?_
  refine As ?_
  refine G (q_as (s := sc (cn 0)) ?_)
  refine gend ?_
  refine awp_seq ?_
  refine awp_seq ?_
  refine rl ?_
  refine Mv ?_
  refine G (q_lssn (y := 1) ?_)
  refine Mv ?_
  refine Akfd 10 (fun hb3 => ?_) ?_; rotate_left
  · omega
  refine Gg (q_mv (s := .v (.c _)) ?_)
  refine Gg (q_gtrn (y := 8) ?_)
  refine G (q_pkf ?_)
  refine Mv ?_
  refine Aknd 14 (fun hb7 => ?_) ?_; rotate_left
  · exact hs
  refine Gn ?_
  refine Gn ?_
  refine Gn ?_
  refine Gu ?_
  refine Gu ?_
  refine Gu ?_
  refine Gu ?_
  refine Gu ?_
  refine Gn ?_
  refine G (q_pkt ?_)
  refine gend ?_
  refine cndT ?_
  refine awp_seq ?_
  refine rl ?_
  refine As ?_
  refine G (q_as (s := sc (cn 2)) ?_)
  refine gend ?_
  refine awp_ret ?_
  exact fp2
/-- wire.Put -/
theorem put_big (n : UInt64) (s : Nat) (h1 : 1 ≤ s) (h8 : s < 8) (hf : shr64n n (8 * s) ≠ 0) : Good Try.prog 8 [.c (c64 n), .c (cn s)] [] (.t [.c .nils, .c (cn 2)]) [] := by
  refine good_frm 44 Try.func8 rfl rfl rfl rfl rfl rfl ?_
  refine awp_seq ?_
  refine rl ?_
  refine As ?_
  refine G (q_as (s := sc (cn 0)) ?_)
  refine gend ?_
  refine awp_seq ?_
  refine awp_seq ?_
  refine rl ?_
  refine Mv ?_
  refine G (q_lssn (y := 1) ?_)
  refine Mv ?_
  refine Akfd 10 (fun hb3 => ?_) ?_; rotate_left
  · omega
  refine Gg (q_mv (s := .v (.c _)) ?_)
  refine Gg (q_gtrn (y := 8) ?_)
  refine G (q_pkf ?_)
  refine Mv ?_
  refine Akfd 14 (fun hb7 => ?_) ?_; rotate_left
  · omega
  refine Gg (q_mv (s := .v (.c _)) ?_)
  refine Gg (q_lssn (y := 8) ?_)
  refine Gg (q_mv (s := .v (.c _)) ?_)
  refine Aknd 17 (fun hb10 => ?_) ?_; rotate_left
  · exact h8
  refine Gg (q_mv (s := .v (.c _)) ?_)
  refine Gg (q_mv (s := .v (.c _)) ?_)
  refine Gg (q_muln (x := 8) ?_)
  refine Gg (q_shr64_0 ?_)
  refine Gg (q_neq64 (y := 0) ?_)
  refine Gg (q_pkt ?_)
  refine G (q_pkf ?_)
  refine gend ?_
  refine cndY (fun hc1 => ?_) ?_; rotate_left
  · exact hf
  refine awp_seq ?_
  refine rl ?_
  refine As ?_
  refine G (q_as (s := sc (cn 2)) ?_)
  refine gend ?_
  refine awp_ret ?_
  exact fp2
/-- wire.Put -/
theorem put (n : UInt64) (s : Nat) (h1 : 1 ≤ s) (h8 : s ≤ 8) (hf : s = 8 ∨ shr64n n (8 * s) = 0) : Good Try.prog 8 [.c (c64 n), .c (cn s)] [] (.t [.c (.slc 0 0 s 1), .c (cn 0)]) [some (u8s (pwb n s s))] := by
  refine good_frm 44 Try.func8 rfl rfl rfl rfl rfl rfl ?_
  refine awp_seq ?_
  refine rl ?_
  refine As ?_
  refine G (q_as (s := sc (cn 0)) ?_)
  refine gend ?_
  refine awp_seq ?_
  refine awp_seq ?_
  refine rl ?_
  refine Mv ?_
  refine G (q_lssn (y := 1) ?_)
  refine Mv ?_
  refine Akfd 10 (fun hb3 => ?_) ?_; rotate_left
  · omega
  refine Gg (q_mv (s := .v (.c _)) ?_)
  refine Gg (q_gtrn (y := 8) ?_)
  refine G (q_pkf ?_)
  refine Mv ?_
  refine Akfd 14 (fun hb7 => ?_) ?_; rotate_left
  · omega
  refine Gg (q_mv (s := .v (.c _)) ?_)
  refine Gg (q_lssn (y := 8) ?_)
  refine Gg (q_mv (s := .v (.c _)) ?_)
  refine Aspd 17 (fun hb10 => ?_) (fun hb10 => ?_)
  · refine Gg (q_mv (s := .v (.c _)) ?_)
    refine Gg (q_mv (s := .v (.c _)) ?_)
    refine Gg (q_muln (x := 8) ?_)
    refine Gg (q_shr64_0 ?_)
    refine Gg (q_neq64 (y := 0) ?_)
    refine Gg (q_pkt ?_)
    refine G (q_pkf ?_)
    refine gend ?_
    refine cndN (fun hc1 => ?_) ?_; rotate_left
    · exact fun hh => hf.elim (fun h => by omega) hh
    refine awp_skip ?_
    refine awp_seq ?_
    refine rl ?_
    refine Mv ?_
    refine G (q_mks ?_)
    refine As ?_
    refine gend ?_
    refine awp_seq ?_
    refine awp_seq ?_
    refine rl ?_
    refine Mv ?_
    refine G (q_mv (s := sc (cn 0)) ?_)
    refine gend ?_
    refine awp_block ?_
    refine awp_loop (fun x : {i : Nat // i ≤ s} => ⟨frm 44 [(0, sc (c64 n)), (1, sc (cn s)), (6, sc (.slc 0 0 s 1)), (27, sc (cn s)), (28, sc (cn x.1))], [some (u8s (pwb n s x.1))]⟩) (fun x => s - x.1) ⟨0, Nat.zero_le _⟩ (sle_sub ⟨rfl, rfl, rfl, rfl, rfl, trivial⟩ (congrArg (fun x => [some x]) (rep_u8 s))) fun x => ?_   -- live: [0, 1, 6, 27, 28]
    have hl := pwb_len n s x.1
    refine awp_seq ?_
    refine rl ?_
    refine G (q_lssn ?_)
    refine gend ?_
    refine awp_seq ?_
    refine cnd (fun hc2 => ?_) (fun hc2 => ?_); rotate_left
    · refine awp_exit ?_
      rw [show x.1 = s from (by have := x.2; omega)]
      refine awp_seq ?_
      refine rl ?_
      refine Mv ?_
      refine As ?_
      refine G (q_as (s := sc (cn 0)) ?_)
      refine gend ?_
      refine awp_ret ?_
      exact fn2 0
    refine awp_skip ?_
    refine awp_seq ?_
    refine awp_block ?_
    refine awp_seq ?_
    refine rl ?_
    refine Mv ?_
    refine As ?_
    refine gend ?_
    refine rl ?_
    refine Mv ?_
    refine Mv ?_
    refine G (q_subn (y := 1) ?_)
    refine Mv ?_
    refine G (q_subn ?_)
    refine Mv ?_
    refine Mv ?_
    refine G (q_muln (x := 8) ?_)
    refine G (q_shr64_0 ?_)
    refine G (q_cv64_8 ?_)
    refine G (q_ixs1 ?_)
    refine G0 (q_stm ?_)
    refine gend ?_
    refine rl ?_
    refine G (q_addn (y := 1) ?_)
    refine Mv ?_
    refine gend ?_
    exact ⟨⟨x.1 + 1, by omega⟩, by show s - (x.1 + 1) < s - x.1; omega, sle_sub ⟨rfl, rfl, rfl, rfl, rfl, trivial⟩ rfl⟩   -- endloop 1
  refine Gn ?_
  refine Gn ?_
  refine Gn ?_
  refine Gn ?_
  refine Gn ?_
  refine Gg (q_pkf ?_)
  refine G (q_pkf ?_)
  refine gend ?_
  refine cndF ?_
  refine awp_skip ?_
  refine awp_seq ?_
  refine rl ?_
  refine Mv ?_
  refine G (q_mks ?_)
  refine As ?_
  refine gend ?_
  refine awp_seq ?_
  refine awp_seq ?_
  refine rl ?_
  refine Mv ?_
  refine G (q_mv (s := sc (cn 0)) ?_)
  refine gend ?_
  refine awp_block ?_
  refine awp_loop (fun y : {i : Nat // i ≤ s} => ⟨frm 44 [(0, sc (c64 n)), (1, sc (cn s)), (6, sc (.slc 0 0 s 1)), (27, sc (cn s)), (28, sc (cn y.1))], [some (u8s (pwb n s y.1))]⟩) (fun y => s - y.1) ⟨0, Nat.zero_le _⟩ (sle_sub ⟨rfl, rfl, rfl, rfl, rfl, trivial⟩ (congrArg (fun x => [some x]) (rep_u8 s))) fun y => ?_   -- live: [0, 1, 6, 27, 28]
  have hl := pwb_len n s y.1
  refine awp_seq ?_
  refine rl ?_
  refine G (q_lssn ?_)
  refine gend ?_
  refine awp_seq ?_
  refine cnd (fun hc3 => ?_) (fun hc3 => ?_); rotate_left
  · refine awp_exit ?_
    rw [show y.1 = s from (by have := y.2; omega)]
    refine awp_seq ?_
    refine rl ?_
    refine Mv ?_
    refine As ?_
    refine G (q_as (s := sc (cn 0)) ?_)
    refine gend ?_
    refine awp_ret ?_
    exact fn2 0
  refine awp_skip ?_
  refine awp_seq ?_
  refine awp_block ?_
  refine awp_seq ?_
  refine rl ?_
  refine Mv ?_
  refine As ?_
  refine gend ?_
  refine rl ?_
  refine Mv ?_
  refine Mv ?_
  refine G (q_subn (y := 1) ?_)
  refine Mv ?_
  refine G (q_subn ?_)
  refine Mv ?_
  refine Mv ?_
  refine G (q_muln (x := 8) ?_)
  refine G (q_shr64_0 ?_)
  refine G (q_cv64_8 ?_)
  refine G (q_ixs1 ?_)
  refine G0 (q_stm ?_)
  refine gend ?_
  refine rl ?_
  refine G (q_addn (y := 1) ?_)
  refine Mv ?_
  refine gend ?_
  exact ⟨⟨y.1 + 1, by omega⟩, by show s - (y.1 + 1) < s - y.1; omega, sle_sub ⟨rfl, rfl, rfl, rfl, rfl, trivial⟩ rfl⟩   -- endloop 2
/-- wire.Get -/
theorem get (k : Nat) (l : List UInt8) (hl : l.length = k) (h1 : 1 ≤ k) (h8 : k ≤ 8) : Good Try.prog 9 [.c (.ro k (u8s l))] [] (.t [.c (c64 (gt l)), .c (cn 0)]) [] := by
  refine good_frm 28 Try.func9 rfl rfl rfl rfl rfl rfl ?_
  refine awp_seq ?_
  refine rl ?_
  refine G (q_as (s := sc (c64 0)) ?_)
  refine G (q_as (s := sc (cn 0)) ?_)
  refine gend ?_
  refine awp_seq ?_
  refine awp_seq ?_
  refine rl ?_
  refine Mv ?_
  refine G (q_leno ?_)
  refine G (q_lssn (y := 1) ?_)
  refine Mv ?_
  refine Akfd 10 (fun hb4 => ?_) ?_; rotate_left
  · omega
  refine Gg (q_mv (s := .v (.c _)) ?_)
  refine Gg (q_leno ?_)
  refine Gg (q_gtrn (y := 8) ?_)
  refine G (q_pkf ?_)
  refine gend ?_
  refine cndN (fun hc1 => ?_) ?_; rotate_left
  · omega
  refine awp_skip ?_
  refine awp_seq ?_
  refine rl ?_
  refine G (q_as (s := sc (c64 0)) ?_)
  refine gend ?_
  refine awp_seq ?_
  refine awp_seq ?_
  refine rl ?_
  refine Mv ?_
  refine G (q_leno ?_)
  refine G (q_mv (s := sc (cn 0)) ?_)
  refine gend ?_
  refine awp_block ?_
  refine awp_loop (fun x : {i : Nat // i ≤ k} => ⟨frm 28 [(4, sc (c64 (gt (l.take x.1)))), (15, sc (.ro k (u8s l))), (16, sc (cn k)), (17, sc (cn x.1))], []⟩) (fun x => k - x.1) ⟨0, Nat.zero_le _⟩ (sle_sub ⟨rfl, rfl, rfl, rfl, trivial⟩ rfl) fun x => ?_   -- live: [4, 15, 16, 17]
  refine awp_seq ?_
  refine rl ?_
  refine G (q_lssn ?_)
  refine gend ?_
  refine awp_seq ?_
  refine cnd (fun hc2 => ?_) (fun hc2 => ?_); rotate_left
  · refine awp_exit ?_
    rw [show x.1 = k from (by have := x.2; omega)]
    rw [show l.take k = l from List.take_of_length_le (by omega)]
    refine awp_seq ?_
    refine rl ?_
    refine Mv ?_
    refine As ?_
    refine G (q_as (s := sc (cn 0)) ?_)
    refine gend ?_
    refine awp_ret ?_
    exact fp2
  refine awp_skip ?_
  refine awp_seq ?_
  refine awp_block ?_
  refine awp_seq ?_
  refine rl ?_
  refine G (q_ixo1 ?_)
  refine G (q_ldrd ?_)
  refine As ?_
  refine gend ?_
  refine rl ?_
  refine Mv ?_
  refine G (q_shl64_64 (n := 8) ?_)
  refine Mv ?_
  refine G (q_cv8_64 ?_)
  refine G (q_or64 ?_)
  refine As ?_
  refine gend ?_
  refine rl ?_
  refine G (q_addn (y := 1) ?_)
  refine Mv ?_
  refine gend ?_
  exact ⟨⟨x.1 + 1, by omega⟩, by show k - (x.1 + 1) < k - x.1; omega, sle_sub ⟨congrArg (fun z => sc (c64 z)) (gt_take l x.1 (by omega)).symm, rfl, rfl, rfl, trivial⟩ rfl⟩   -- endloop 1
/-- escutcheonref01.Fits -/
theorem fits (n : UInt64) (s : Nat) (h1 : 1 ≤ s) (h8 : s ≤ 8) : Good Try.prog 10 [.c (c64 n), .c (cn s)] [] (sc (.bool (decide (rn n s = 0)))) [] := by
  refine good_frm 21 Try.func10 rfl rfl rfl rfl rfl rfl ?_
  refine awp_seq ?_
  refine rl ?_
  refine As ?_
  refine gend ?_
  refine awp_seq ?_
  refine awp_seq ?_
  refine rl ?_
  refine Mv ?_
  refine G (q_lssn (y := 1) ?_)
  refine Mv ?_
  refine Akfd 8 (fun hb3 => ?_) ?_; rotate_left
  · omega
  refine Gg (q_mv (s := .v (.c _)) ?_)
  refine Gg (q_gtrn (y := 8) ?_)
  refine G (q_pkf ?_)
  refine gend ?_
  refine cndN (fun hc1 => ?_) ?_; rotate_left
  · omega
  refine awp_skip ?_
  refine awp_seq ?_
  refine awp_seq ?_
  refine rl ?_
  refine G (q_as (s := sc (cn 0)) ?_)
  refine gend ?_
  refine awp_block ?_
  refine awp_loop (fun x : {i : Nat // i ≤ s} => ⟨frm 21 [(0, sc (c64 (rn n x.1))), (1, sc (cn s)), (5, sc (cn x.1))], []⟩) (fun x => s - x.1) ⟨0, Nat.zero_le _⟩ (sle_sub ⟨rfl, rfl, rfl, trivial⟩ rfl) fun x => ?_   -- live: [0, 1, 5]
  refine awp_seq ?_
  refine awp_seq ?_
  refine rl ?_
  refine Mv ?_
  refine Mv ?_
  refine G (q_lssn ?_)
  refine gend ?_
  refine cnd (fun hc2 => ?_) (fun hc2 => ?_); rotate_left
  · refine awp_exit ?_
    rw [show x.1 = s from (by have := x.2; omega)]
    refine awp_seq ?_
    refine rl ?_
    refine Mv ?_
    refine G (q_eql64 (y := 0) ?_)
    refine As ?_
    refine gend ?_
    refine awp_ret ?_
    exact fp1
  refine awp_skip ?_
  refine awp_seq ?_
  refine awp_block ?_
  refine rl ?_
  refine Mv ?_
  refine G (q_quo64 (y := 256) ?_ (hz := by decide))
  refine As ?_
  refine gend ?_
  refine rl ?_
  refine Mv ?_
  refine G (q_addn (y := 1) ?_)
  refine As ?_
  refine gend ?_
  exact ⟨⟨x.1 + 1, by omega⟩, by show s - (x.1 + 1) < s - x.1; omega, sle_sub ⟨rfl, rfl, rfl, trivial⟩ rfl⟩   -- endloop 1
/-- escutcheonlaw01.num -/
theorem num (n : Nat) : Good Try.prog 11 [.c (cn n)] [] (sc (cn n)) [] := by
  refine good_frm 4 Try.func11 rfl rfl rfl rfl rfl rfl ?_
  refine awp_seq ?_
  refine rl ?_
  refine G (q_as (s := sc (cn 0)) ?_)
  refine gend ?_
  refine awp_seq ?_
  refine rl ?_
  refine Mv ?_
  refine As ?_
  refine gend ?_
  refine awp_ret ?_
  exact fp1
/-- escutcheonref01.Put -/
theorem rput (n : UInt64) (s : Nat) (h1 : 1 ≤ s) (h8 : s ≤ 8) : Good Try.prog 12 [.c (c64 n), .c (cn s)] [] (sc (.slc 0 0 s 1)) [some (u8s (rp n s s))] := by
  refine good_frm 24 Try.func12 rfl rfl rfl rfl rfl rfl ?_
  refine awp_seq ?_
  refine rl ?_
  refine As ?_
  refine gend ?_
  refine awp_seq ?_
  refine rl ?_
  refine Mv ?_
  refine G (q_mks ?_)
  refine As ?_
  refine gend ?_
  refine awp_seq ?_
  refine awp_seq ?_
  refine rl ?_
  refine Mv ?_
  refine G (q_subi (y := 1) ?_)
  refine As ?_
  refine gend ?_
  refine awp_block ?_
  refine awp_loop (fun x : {i : Nat // i ≤ s} => ⟨frm 24 [(0, sc (c64 (rn n x.1))), (5, sc (.slc 0 0 s 1)), (6, sc (ci ((s : Int) - 1 - x.1)))], [some (u8s (rp n s x.1))]⟩) (fun x => s - x.1) ⟨0, Nat.zero_le _⟩ (sle_sub ⟨rfl, rfl, congrArg (fun i => sc (ci i)) (by show (s : Int) - 1 = (s : Int) - 1 - ((0 : Nat) : Int); omega), trivial⟩ (congrArg (fun x => [some x]) (rep_u8 s))) fun x => ?_   -- live: [0, 5, 6]
  have hl := rp_len n s x.1
  refine awp_seq ?_
  refine awp_seq ?_
  refine rl ?_
  refine Mv ?_
  refine G (q_geqi (y := 0) ?_)
  refine gend ?_
  refine cnd (fun hc1 => ?_) (fun hc1 => ?_); rotate_left
  · refine awp_exit ?_
    rw [show x.1 = s from (by have := x.2; omega)]
    refine awp_seq ?_
    refine rl ?_
    refine Mv ?_
    refine As ?_
    refine gend ?_
    refine awp_ret ?_
    exact fn1 0
  refine awp_skip ?_
  refine retell [(0, sc (c64 (rn n x.1))), (5, sc (.slc 0 0 s 1)), (6, sc (cn (s - 1 - x.1)))] ?_ ⟨rfl, rfl, congrArg (fun i => sc (ci i)) (by omega), trivial⟩
  refine awp_seq ?_
  refine awp_block ?_
  refine awp_seq ?_
  refine rl ?_
  refine Mv ?_
  refine Mv ?_
  refine Mv ?_
  refine G (q_rem64 (y := 256) ?_ (hz := by decide))
  refine G (q_cv64_8 ?_)
  refine G (q_ixs1 ?_)
  refine G0 (q_stm ?_)
  refine gend ?_
  refine rl ?_
  refine Mv ?_
  refine G (q_quo64 (y := 256) ?_ (hz := by decide))
  refine As ?_
  refine gend ?_
  refine rl ?_
  refine Mv ?_
  refine G (q_subi (y := 1) ?_)
  refine As ?_
  refine gend ?_
  exact ⟨⟨x.1 + 1, by omega⟩, by show s - (x.1 + 1) < s - x.1; omega, sle_sub ⟨rfl, rfl, congrArg (fun i => sc (ci i)) (by show ((s - 1 - x.1 : Nat) : Int) - 1 = (s : Int) - 1 - ((x.1 + 1 : Nat) : Int); omega), trivial⟩ rfl⟩   -- endloop 1
/-- escutcheonref01.Get -/
theorem rget (k : Nat) (l : List UInt8) (hl : l.length = k) (hk : k ≤ 70000) : Good Try.prog 13 [.c (.ro k (u8s l))] [] (sc (c64 (rg l))) [] := by
  refine good_frm 20 Try.func13 rfl rfl rfl rfl rfl rfl ?_
  refine awp_seq ?_
  refine rl ?_
  refine G (q_as (s := sc (c64 0)) ?_)
  refine gend ?_
  refine awp_seq ?_
  refine rl ?_
  refine G (q_as (s := sc (c64 0)) ?_)
  refine gend ?_
  refine awp_seq ?_
  refine awp_seq ?_
  refine rl ?_
  refine G (q_as (s := sc (cn 0)) ?_)
  refine gend ?_
  refine awp_block ?_
  refine awp_loop (fun x : {i : Nat // i ≤ k} => ⟨frm 20 [(0, sc (.ro k (u8s l))), (3, sc (c64 (rg (l.take x.1)))), (4, sc (cn x.1))], []⟩) (fun x => k - x.1) ⟨0, Nat.zero_le _⟩ (sle_sub ⟨rfl, rfl, rfl, trivial⟩ rfl) fun x => ?_   -- live: [0, 3, 4]
  have hk9 : k ≤ 70000 := hk
  refine awp_seq ?_
  refine awp_seq ?_
  refine rl ?_
  refine Mv ?_
  refine Mv ?_
  refine G (q_leno ?_)
  refine G (q_lssn ?_)
  refine gend ?_
  refine cnd (fun hc1 => ?_) (fun hc1 => ?_); rotate_left
  · refine awp_exit ?_
    rw [show x.1 = k from (by have := x.2; omega)]
    rw [show l.take k = l from List.take_of_length_le (by omega)]
    refine awp_seq ?_
    refine rl ?_
    refine Mv ?_
    refine As ?_
    refine gend ?_
    refine awp_ret ?_
    exact fp1
  refine awp_skip ?_
  refine awp_seq ?_
  refine awp_block ?_
  refine rl ?_
  refine Mv ?_
  refine G (q_mul64 (x := 256) ?_)
  refine Mv ?_
  refine Mv ?_
  refine G (q_ixo1 ?_)
  refine G (q_ldrd ?_)
  refine G (q_cv8_64 ?_)
  refine G (q_add64 ?_)
  refine As ?_
  refine gend ?_
  refine rl ?_
  refine Mv ?_
  refine G (q_addn (y := 1) ?_)
  refine As ?_
  refine gend ?_
  exact ⟨⟨x.1 + 1, by omega⟩, by show k - (x.1 + 1) < k - x.1; omega, sle_sub ⟨rfl, congrArg (fun z => sc (c64 z)) (rg_take l x.1 (by omega)).symm, rfl, trivial⟩ rfl⟩   -- endloop 1
end Go.Proofs.Ytedpdnicpicjdaa

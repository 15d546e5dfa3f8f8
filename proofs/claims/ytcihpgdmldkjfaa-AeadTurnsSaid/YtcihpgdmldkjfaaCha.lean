/- What functions of the program do, walked over the abstract machine. -/
import Derived.Test.YtcihpgdmldkjfaaTi
import Derived.Test.YtcihpgdmldkjfaaAbsZf
namespace Go.Proofs.Ytcihpgdmldkjfaa.Ch
open Go Go.Abs Go.Proofs

/-- A word turned by so many bits. -/
def turn (x : UInt32) (n : UInt64) : UInt32 := shl32n x n.toNat ||| shr32n x (32 - n).toNat
/-- One half of a quarter round. -/
def q1 (s : List UInt32) (a b : Nat) : List UInt32 := s.set a (s.getD a 0 + s.getD b 0)
def q2 (s : List UInt32) (a d : Nat) (r : Nat) : List UInt32 := s.set d (turn (s.getD d 0 ^^^ s.getD a 0) (UInt64.ofNat r))
def qh (s : List UInt32) (a b c d : Nat) (r r' : Nat) : List UInt32 := q2 (q1 (q2 (q1 s a b) a d r) c d) c b r'
def qr (s : List UInt32) (a b c d : Nat) : List UInt32 := qh (qh s a b c d 16 12) a b c d 8 7
theorem q1_len (s : List UInt32) (a b : Nat) : (q1 s a b).length = s.length := by simp [q1]
theorem q2_len (s : List UInt32) (a d r : Nat) : (q2 s a d r).length = s.length := by simp [q2]
theorem qh_len (s : List UInt32) (a b c d r r' : Nat) : (qh s a b c d r r').length = s.length := by simp [qh, q1_len, q2_len]
theorem qr_len (s : List UInt32) (a b c d : Nat) : (qr s a b c d).length = s.length := by simp [qr, qh_len]
def qa (j : Nat) : Nat := if j = 0 then 16 else 8
def qb (j : Nat) : Nat := if j = 0 then 12 else 7
def qs (s : List UInt32) (a b c d : Nat) : Nat → List UInt32
  | 0 => s
  | j + 1 => qh (qs s a b c d j) a b c d (qa j) (qb j)
theorem qs_len (s : List UInt32) (a b c d : Nat) : ∀ j, (qs s a b c d j).length = s.length
  | 0 => rfl
  | j + 1 => by rw [qs, qh_len, qs_len]
theorem qab (j : Nat) (h : j < 2) : (([cn 16, cn 12] ++ [cn 8, cn 7]).drop (j * 2)).take 2 = [cn (qa j), cn (qb j)] := by
  match j, h with
  | 0, _ => rfl
  | 1, _ => rfl
theorem qa_le (j : Nat) : qa j ≤ 16 := by unfold qa; split <;> decide
theorem qb_le (j : Nat) : qb j ≤ 16 := by unfold qb; split <;> decide
theorem turn_mod (x : UInt32) (r : Nat) (h : r ≤ 16) : turn x (UInt64.ofNat r &&& 31) = turn x (UInt64.ofNat r) := by
  have : UInt64.ofNat r &&& 31 = UInt64.ofNat r := by
    have : ∀ r : Fin 17, UInt64.ofNat r.1 &&& 31 = UInt64.ofNat r.1 := by decide
    exact this ⟨r, by omega⟩
  rw [this]
/-- A word of four bytes. -/
def wd (l : List UInt8) : UInt32 := (l.getD 0 0).toUInt32 ||| shl32n (l.getD 1 0).toUInt32 8 ||| shl32n (l.getD 2 0).toUInt32 16 ||| shl32n (l.getD 3 0).toUInt32 24
/-- math/bits.RotateLeft32 -/
theorem rotate (x : UInt32) (r : Nat) (h : r ≤ 16) : Good Try.prog 28 [.c (c32 x), .c (cn r)] [] (sc (c32 (turn x (UInt64.ofNat r)))) [] := by
  refine good_frm 17 Try.func28 rfl rfl rfl rfl rfl rfl ?_
  refine awp_seq ?_
  refine rl ?_
  refine G (q_as (s := sc (c32 0)) ?_)
  refine gend ?_
  refine awp_seq ?_
  refine rl ?_
  refine Mv ?_
  refine G (q_cv0_64 ?_)
  refine G (q_and64 (y := 31) ?_)
  refine As ?_
  refine gend ?_
  refine awp_seq ?_
  refine rl ?_
  refine Mv ?_
  refine Mv ?_
  refine G (q_shl32_64 ?_)
  refine Mv ?_
  refine Mv ?_
  refine G (q_sub64 (x := 32) ?_)
  refine G (q_shr32_64 ?_)
  refine G (q_or32 ?_)
  refine As ?_
  refine gend ?_
  refine awp_ret ?_
  exact fp1 (hv := by rw [← turn_mod x r h]; rfl)
/-- escutcheonref08.turn -/
theorem rturn (x : UInt32) (n : UInt64) : Good Try.prog 37 [.c (c32 x), .c (c64 n)] [] (sc (c32 (turn x n))) [] := by
  refine good_frm 13 Try.func37 rfl rfl rfl rfl rfl rfl ?_
  refine awp_seq ?_
  refine rl ?_
  refine G (q_as (s := sc (c32 0)) ?_)
  refine gend ?_
  refine awp_seq ?_
  refine rl ?_
  refine Mv ?_
  refine Mv ?_
  refine G (q_shl32_64 ?_)
  refine Mv ?_
  refine Mv ?_
  refine G (q_sub64 (x := 32) ?_)
  refine G (q_shr32_64 ?_)
  refine G (q_or32 ?_)
  refine As ?_
  refine gend ?_
  refine awp_ret ?_
  exact fp1
/-- chacha.word -/
theorem word (n : Nat) (l : List UInt8) (h : 4 ≤ l.length) (hn : l.length = n) : Good Try.prog 26 [.c (.ro n (u8s l))] [] (sc (c32 (wd l))) [] := by
  refine good_frm 25 Try.func26 rfl rfl rfl rfl rfl rfl ?_
  refine awp_seq ?_
  refine rl ?_
  refine G (q_as (s := sc (c32 0)) ?_)
  refine gend ?_
  refine awp_seq ?_
  refine rdl [] [] [] ?_
  refine Dp (fun _ => q_mv (s := .v (.c _)) ⟨rfl, rfl⟩) ?_
  refine Dp (fun _ => q_ixo1 ⟨rfl, rfl⟩) ?_
  refine Dp (fun _ => q_ldrd ⟨rfl, rfl⟩) ?_
  refine Dp (fun _ => q_cv8_32 ⟨rfl, rfl⟩) ?_
  refine Dp (fun _ => q_mv (s := .v (.c _)) ⟨rfl, rfl⟩) ?_
  refine Dp (fun _ => q_ixo1 ⟨rfl, rfl⟩) ?_
  refine Dp (fun _ => q_ldrd ⟨rfl, rfl⟩) ?_
  refine Dp (fun _ => q_cv8_32 ⟨rfl, rfl⟩) ?_
  refine Dp (fun _ => q_shl32_64 (n := 8) ⟨rfl, rfl⟩) ?_
  refine Dp (fun _ => q_or32 ⟨rfl, rfl⟩) ?_
  refine Dp (fun _ => q_mv (s := .v (.c _)) ⟨rfl, rfl⟩) ?_
  refine Dp (fun _ => q_ixo1 ⟨rfl, rfl⟩) ?_
  refine Dp (fun _ => q_ldrd ⟨rfl, rfl⟩) ?_
  refine Dp (fun _ => q_cv8_32 ⟨rfl, rfl⟩) ?_
  refine Dp (fun _ => q_shl32_64 (n := 16) ⟨rfl, rfl⟩) ?_
  refine Dp (fun _ => q_or32 ⟨rfl, rfl⟩) ?_
  refine Dp (fun _ => q_mv (s := .v (.c _)) ⟨rfl, rfl⟩) ?_
  refine Dp (fun _ => q_ixo1 ⟨rfl, rfl⟩) ?_
  refine Dp (fun _ => q_ldrd ⟨rfl, rfl⟩) ?_
  refine Dp (fun _ => q_cv8_32 ⟨rfl, rfl⟩) ?_
  refine Dp (fun _ => q_shl32_64 (n := 24) ⟨rfl, rfl⟩) ?_
  refine Dp (fun _ => q_or32 ⟨rfl, rfl⟩) ?_
  refine Dp (fun _ => q_as (s := .v (.c _)) ⟨rfl, rfl⟩) ?_
  refine dend ?_
  refine awp_ret ?_
  exact fp1
/-- chacha.Block$1 -/
theorem quarter (s : List UInt32) (a b c d : Nat) (ha : a < 16) (hb : b < 16) (hc : c < 16) (hd : d < 16) (hs : s.length = 16) : Good Try.prog 27 [.c (cn a), .c (cn b), .c (cn c), .c (cn d), .c (.ptr 0 0)] [some (u32s s)] (.t []) [some (u32s (qr s a b c d))] := by
  refine good_frm 58 Try.func27 rfl rfl rfl rfl rfl rfl ?_
  refine awp_seq ?_
  refine rl ?_
  refine G (q_bla (fkc (c := cn 16) rfl rfl rfl (Nat.le_of_ble_eq_true rfl) (fkc (c := cn 12) rfl rfl rfl (Nat.le_of_ble_eq_true rfl) (fk0 ?_))))
  refine G (q_bla (fkc (c := cn 8) rfl rfl rfl (Nat.le_of_ble_eq_true rfl) (fkc (c := cn 7) rfl rfl rfl (Nat.le_of_ble_eq_true rfl) (fk0 ?_))))
  refine G (q_bla (fka rfl (et rfl) (by first | exact (mapc_length ..).trans (by with_reducible assumption) | decide +kernel | decide) (by first | decide +kernel | decide) (fka rfl (et rfl) (by first | exact (mapc_length ..).trans (by with_reducible assumption) | decide +kernel | decide) (by first | decide +kernel | decide) (fk0 ?_))))
  refine G (q_mv (s := sc (cn 0)) ?_)
  refine gend ?_
  refine awp_block ?_
  refine awp_loop (fun x : {j : Nat // j ≤ 2} => ⟨frm 58 [(0, sc (cn a)), (1, sc (cn b)), (2, sc (cn c)), (3, sc (cn d)), (4, sc (.ptr 0 0)), (13, sa ([cn 16, cn 12] ++ [cn 8, cn 7])), (14, sc (cn x.1))], [some (u32s (qs s a b c d x.1))]⟩) (fun x => 2 - x.1) ⟨0, Nat.zero_le _⟩ (sle_sub ⟨rfl, rfl, rfl, rfl, rfl, rfl, rfl, trivial⟩ rfl) fun x => ?_   -- live: [0, 1, 2, 3, 4, 13, 14]
  refine awp_seq ?_
  refine rl ?_
  refine G (q_lssn (y := 2) ?_)
  refine gend ?_
  refine awp_seq ?_
  refine cnd (fun hc1 => ?_) (fun hc1 => ?_); rotate_left
  · refine awp_exit ?_
    exact fw0 (hH := by rw [show x.1 = 2 from (by have := x.2; omega)]; rfl)
  refine awp_skip ?_
  refine awp_seq ?_
  refine awp_block ?_
  refine awp_seq ?_
  refine rl ?_
  refine G (q_ina ?_ (hy := qab x.1 hc1))
  refine G (q_al ?_)
  refine G0 (q_stw ?_)
  refine gend ?_
  refine awp_seq ?_
  have hl := (qs_len s a b c d x.1).trans hs
  refine rdl [8] [] [0, 0, 0, 0, 0, 0, 0, 0, 1] ?_
  refine Dp (fun _ => q_mv (s := .v (.c _)) ⟨rfl, rfl⟩) ?_
  refine Dp (fun _ => q_ixp1 ⟨rfl, rfl⟩) ?_
  refine DLp ?_
  refine Dp (fun _ => q_mv (s := .v (.c _)) ⟨rfl, rfl⟩) ?_
  refine Dp (fun _ => q_ixp1 ⟨rfl, rfl⟩) ?_
  refine DLp ?_
  refine Dp (fun _ => q_add32 ⟨rfl, rfl⟩) ?_
  refine Dp (fun _ => q_ixp1 ⟨rfl, rfl⟩) ?_
  refine De0 (q_stm (pw ?_))
  refine dend ?_
  refine awp_seq ?_
  refine rdl [10, 12] [0, 0, 0, 0, 0, 0, 0, 0, 0, 0, 0, 1, 1] [1, 0, 0, 0, 0, 0, 0, 0, 0, 0, 1, 1, 2] ?_
  refine Dp (fun _ => q_mv (s := .v (.c _)) ⟨rfl, rfl⟩) ?_
  refine Dp (fun _ => q_mv (s := .v (.c _)) ⟨rfl, rfl⟩) ?_
  refine Dp (fun _ => q_ixp1 ⟨rfl, rfl⟩) ?_
  refine DLp ?_
  refine Dp (fun _ => q_mv (s := .v (.c _)) ⟨rfl, rfl⟩) ?_
  refine Dp (fun _ => q_ixp1 ⟨rfl, rfl⟩) ?_
  refine DLp ?_
  refine Dp (fun _ => q_xor32 ⟨rfl, rfl⟩) ?_
  refine Dp (fun _ => q_ixp1 ⟨rfl, rfl⟩) ?_
  refine DLp ?_
  refine De (q_callp (rotate _ (qa x.1) (qa_le _)/- math/bits.RotateLeft32 -/) (pw ?_))
  refine Dp (fun _ => q_ixp1 ⟨rfl, rfl⟩) ?_
  refine De0 (q_stm (pw ?_))
  refine dend ?_
  refine awp_seq ?_
  refine rdl [8] [] [0, 0, 0, 0, 0, 0, 0, 0, 1] ?_
  refine Dp (fun _ => q_mv (s := .v (.c _)) ⟨rfl, rfl⟩) ?_
  refine Dp (fun _ => q_ixp1 ⟨rfl, rfl⟩) ?_
  refine DLp ?_
  refine Dp (fun _ => q_mv (s := .v (.c _)) ⟨rfl, rfl⟩) ?_
  refine Dp (fun _ => q_ixp1 ⟨rfl, rfl⟩) ?_
  refine DLp ?_
  refine Dp (fun _ => q_add32 ⟨rfl, rfl⟩) ?_
  refine Dp (fun _ => q_ixp1 ⟨rfl, rfl⟩) ?_
  refine De0 (q_stm (pw ?_))
  refine dend ?_
  refine rdl [10, 12] [0, 0, 0, 0, 0, 0, 0, 0, 0, 0, 0, 1, 1] [1, 0, 0, 0, 0, 0, 0, 0, 0, 0, 1, 1, 2] ?_
  refine Dp (fun _ => q_mv (s := .v (.c _)) ⟨rfl, rfl⟩) ?_
  refine Dp (fun _ => q_mv (s := .v (.c _)) ⟨rfl, rfl⟩) ?_
  refine Dp (fun _ => q_ixp1 ⟨rfl, rfl⟩) ?_
  refine DLp ?_
  refine Dp (fun _ => q_mv (s := .v (.c _)) ⟨rfl, rfl⟩) ?_
  refine Dp (fun _ => q_ixp1 ⟨rfl, rfl⟩) ?_
  refine DLp ?_
  refine Dp (fun _ => q_xor32 ⟨rfl, rfl⟩) ?_
  refine Dp (fun _ => q_ixp1 ⟨rfl, rfl⟩) ?_
  refine DLp ?_
  refine De (q_callp (rotate _ (qb x.1) (qb_le _)/- math/bits.RotateLeft32 -/) (pw ?_))
  refine Dp (fun _ => q_ixp1 ⟨rfl, rfl⟩) ?_
  refine De0 (q_stm (pw ?_))
  refine dend ?_
  refine rl ?_
  refine G (q_addn (y := 1) ?_)
  refine Mv ?_
  refine gend ?_
  exact ⟨⟨x.1 + 1, by omega⟩, by show 2 - (x.1 + 1) < 2 - x.1; omega, sle_view [0] pi0 (by decide) ⟨rfl, rfl, rfl, rfl, rfl, rfl, rfl, trivial⟩ (vh1 (pick_m rfl))⟩   -- endloop 1
def lw (s : List UInt32) (o m : Nat) (l : List UInt8) : Nat → List UInt32
  | 0 => s
  | i + 1 => (lw s o m l i).set (o + i) (wd ((l.drop (0 + 4 * i * 1)).take ((m - 4 * i) * 1)))
theorem lw_len (s : List UInt32) (o m : Nat) (l : List UInt8) : ∀ i, (lw s o m l i).length = s.length
  | 0 => rfl
  | i + 1 => by rw [lw, List.length_set, lw_len]
def cols (s : List UInt32) : Nat → List UInt32
  | 0 => s
  | i + 1 => qr (cols s i) i (4 + i) (8 + i) (12 + i)
def dias (s : List UInt32) : Nat → List UInt32
  | 0 => s
  | i + 1 => qr (dias s i) i (4 + (i + 1) % 4) (8 + (i + 2) % 4) (12 + (i + 3) % 4)
def dbl (s : List UInt32) : Nat → List UInt32
  | 0 => s
  | i + 1 => dias (cols (dbl s i) 4) 4
theorem cols_len (s : List UInt32) : ∀ i, (cols s i).length = s.length
  | 0 => rfl
  | i + 1 => by rw [cols, qr_len, cols_len]
theorem dias_len (s : List UInt32) : ∀ i, (dias s i).length = s.length
  | 0 => rfl
  | i + 1 => by rw [dias, qr_len, dias_len]
theorem dbl_len (s : List UInt32) : ∀ i, (dbl s i).length = s.length
  | 0 => rfl
  | i + 1 => by rw [dbl, dias_len, cols_len, dbl_len]
/-- The bytes of the sum of two states. -/
def ob (s t : List UInt32) : Nat → List UInt8
  | 0 => List.replicate 64 0
  | i + 1 => (ob s t i).set i (shr32n (s.getD (i / 4) 0 + t.getD (i / 4) 0) (8 * (i % 4))).toUInt8
theorem ob_len (s t : List UInt32) : ∀ i, (ob s t i).length = 64
  | 0 => by simp [ob]
  | i + 1 => by rw [ob, List.length_set, ob_len]
def ini (key : List UInt8) (ctr : UInt32) (nonce : List UInt8) : List UInt32 :=
  lw ((lw ([1634760805, 857760878, 2036477234, 1797285236] ++ List.replicate 12 0) 4 32 key 8).set 12 ctr) 13 12 nonce 3
theorem ini_len (key : List UInt8) (ctr : UInt32) (nonce : List UInt8) : (ini key ctr nonce).length = 16 := by unfold ini; rw [lw_len, List.length_set, lw_len]; rfl
/-- A block of the key stream. -/
def blk (key : List UInt8) (ctr : UInt32) (nonce : List UInt8) : List UInt8 := ob (dbl (ini key ctr nonce) 10) (ini key ctr nonce) 64
theorem blk_len (key : List UInt8) (ctr : UInt32) (nonce : List UInt8) : (blk key ctr nonce).length = 64 := ob_len _ _ _
/-- chacha.Block -/
theorem block (key : List UInt8) (ctr : UInt32) (nonce : List UInt8) (hk : key.length = 32) (hn : nonce.length = 12) : Good Try.prog 19 [.a (u8s key), .c (c32 ctr), .a (u8s nonce)] [] (sa (u8s (blk key ctr nonce))) [] := by
  refine good_frm 98 Try.func19 rfl rfl rfl rfl rfl rfl ?_
  refine awp_seq ?_
  refine rl ?_
  refine G (q_boxa ?_)
  refine G (q_boxa ?_)
  refine G (q_al ?_)
  refine gend ?_
  refine awp_seq ?_
  refine rl ?_
  refine G (q_bla (fkc (c := c32 1634760805) rfl rfl rfl (Nat.le_of_ble_eq_true rfl) (fkc (c := c32 857760878) rfl rfl rfl (Nat.le_of_ble_eq_true rfl) (fkc (c := c32 2036477234) rfl rfl rfl (Nat.le_of_ble_eq_true rfl) (fkc (c := c32 1797285236) rfl rfl rfl (Nat.le_of_ble_eq_true rfl) (fk0 ?_))))))
  refine G (q_al ?_)
  refine G0 (q_stw ?_)
  refine gend ?_
  refine awp_seq ?_
  refine awp_seq ?_
  refine rl ?_
  refine G (q_mv (s := sc (cn 0)) ?_)
  refine gend ?_
  refine awp_block ?_
  refine awp_loop (fun x : {i : Nat // i ≤ 8} => ⟨frm 98 [(1, sc (c32 ctr)), (3, sc (.ptr 0 0)), (5, sc (.ptr 1 0)), (6, sc (.ptr 2 0)), (7, sc (.ptr 3 0)), (16, sc (cn x.1))], [some (u8s key), some (u8s nonce), some (u8s (List.replicate 64 0)), some (u32s (lw ([1634760805, 857760878, 2036477234, 1797285236] ++ List.replicate 12 0) 4 32 key x.1))]⟩) (fun x => 8 - x.1) ⟨0, Nat.zero_le _⟩ (sle_sub ⟨rfl, rfl, rfl, rfl, rfl, rfl, trivial⟩ rfl) fun x => ?_   -- live: [3, 7, 16]
  refine awp_seq ?_
  refine rl ?_
  refine G (q_lssn (y := 8) ?_)
  refine gend ?_
  refine awp_seq ?_
  refine cnd (fun hc1 => ?_) (fun hc1 => ?_); rotate_left
  · refine awp_exit ?_
    rw [show x.1 = 8 from (by have := x.2; omega)]
    have hl8 : (lw ([1634760805, 857760878, 2036477234, 1797285236] ++ List.replicate 12 0) 4 32 key 8).length = 16 := (lw_len ..).trans rfl
    generalize hA : lw ([1634760805, 857760878, 2036477234, 1797285236] ++ List.replicate 12 0) 4 32 key 8 = A at hl8 ⊢
    refine awp_seq ?_
    refine rl ?_
    refine Mv ?_
    refine G (q_ixp1 ?_)
    refine G0 (q_stm ?_)
    refine gend ?_
    refine awp_seq ?_
    refine awp_seq ?_
    refine rl ?_
    refine G (q_mv (s := sc (cn 0)) ?_)
    refine gend ?_
    refine awp_block ?_
    refine awp_loop (fun y : {i : Nat // i ≤ 3} => ⟨frm 98 [(1, sc (c32 ctr)), (3, sc (.ptr 0 0)), (5, sc (.ptr 1 0)), (6, sc (.ptr 2 0)), (7, sc (.ptr 3 0)), (29, sc (cn y.1))], [some (u8s key), some (u8s nonce), some (u8s (List.replicate 64 0)), some (u32s (lw (A.set 12 ctr) 13 12 nonce y.1))]⟩) (fun y => 3 - y.1) ⟨0, Nat.zero_le _⟩ (sle_sub ⟨rfl, rfl, rfl, rfl, rfl, rfl, trivial⟩ rfl) fun y => ?_   -- live: [5, 7, 29]
    refine awp_seq ?_
    refine rl ?_
    refine G (q_lssn (y := 3) ?_)
    refine gend ?_
    refine awp_seq ?_
    refine cnd (fun hc2 => ?_) (fun hc2 => ?_); rotate_left
    · refine awp_exit ?_
      rw [show y.1 = 3 from (by have := y.2; omega)]
      have hi : (lw (A.set 12 ctr) 13 12 nonce 3).length = 16 := (lw_len ..).trans ((List.length_set ..).trans hl8)
      generalize hI : lw (A.set 12 ctr) 13 12 nonce 3 = I at hi ⊢
      refine awp_seq ?_
      refine rl ?_
      refine G (q_ldw  ?_ (hl := (mapc_length ..).trans hi))
      refine G (q_al ?_)
      refine G0 (q_stw ?_)
      refine gend ?_
      refine awp_seq ?_
      refine rl ?_
      refine G (q_mkf ?_ (caps1 (et rfl) rfl caps0))
      refine As ?_
      refine gend ?_
      refine awp_seq ?_
      refine awp_seq ?_
      refine rl ?_
      refine G (q_mv (s := sc (cn 0)) ?_)
      refine gend ?_
      refine awp_block ?_
      refine awp_loop (fun z : {i : Nat // i ≤ 10} => ⟨frm 98 [(1, sc (c32 ctr)), (3, sc (.ptr 0 0)), (5, sc (.ptr 1 0)), (6, sc (.ptr 2 0)), (7, sc (.ptr 3 0)), (10, sc (.ptr 4 0)), (11, sc (.fn 27 [.ptr 3 0])), (42, sc (cn z.1))], [some (u8s key), some (u8s nonce), some (u8s (List.replicate 64 0)), some (u32s (dbl I z.1)), some (u32s I)]⟩) (fun z => 10 - z.1) ⟨0, Nat.zero_le _⟩ (sle_sub ⟨rfl, rfl, rfl, rfl, rfl, rfl, rfl, rfl, trivial⟩ rfl) fun z => ?_   -- live: [11, 42]
      refine awp_seq ?_
      refine rl ?_
      refine G (q_lssn (y := 10) ?_)
      refine gend ?_
      refine awp_seq ?_
      refine cnd (fun hc3 => ?_) (fun hc3 => ?_); rotate_left
      · refine awp_exit ?_
        rw [show z.1 = 10 from (by have := z.2; omega)]
        have hd := (dbl_len I 10).trans hi
        generalize hD : dbl I 10 = D at hd ⊢
        refine awp_seq ?_
        refine awp_seq ?_
        refine rl ?_
        refine G (q_mv (s := sc (cn 0)) ?_)
        refine gend ?_
        refine awp_block ?_
        refine awp_loop (fun t : {i : Nat // i ≤ 64} => ⟨frm 98 [(1, sc (c32 ctr)), (3, sc (.ptr 0 0)), (5, sc (.ptr 1 0)), (6, sc (.ptr 2 0)), (7, sc (.ptr 3 0)), (10, sc (.ptr 4 0)), (77, sc (cn t.1))], [some (u8s key), some (u8s nonce), some (u8s (ob D I t.1)), some (u32s D), some (u32s I)]⟩) (fun t => 64 - t.1) ⟨0, Nat.zero_le _⟩ (sle_sub ⟨rfl, rfl, rfl, rfl, rfl, rfl, rfl, trivial⟩ rfl) fun t => ?_   -- live: [6, 7, 10, 77]
        refine awp_seq ?_
        refine rl ?_
        refine G (q_lssn (y := 64) ?_)
        refine gend ?_
        refine awp_seq ?_
        refine cnd (fun hc4 => ?_) (fun hc4 => ?_); rotate_left
        · refine awp_exit ?_
          rw [show t.1 = 64 from (by have := t.2; omega)]
          have ho := ob_len D I 64
          generalize hO : ob D I 64 = O at ho ⊢
          refine awp_seq ?_
          refine rl ?_
          refine G (q_ldw  ?_ (hl := (mapc_length ..).trans ho))
          refine G0 (q_stw ?_ (hl := (mapc_length ..).trans ho) (hc := (mapc_length ..).trans ho))
          refine gend ?_
          refine awp_ret ?_
          exact fpc (t := 46) (a := 6) (hn := by exact (mapc_length ..).trans ho) (hv := by rw [← hO, ← hD, ← hI, ← hA]; rfl)
        refine awp_skip ?_
        refine awp_seq ?_
        refine awp_block ?_
        refine awp_seq ?_
        refine rl ?_
        refine Mv ?_
        refine As ?_
        refine gend ?_
        have hot := ob_len D I t.1
        refine rdl [16] [] [0, 0, 0, 0, 0, 0, 0, 0, 0, 0, 0, 0, 0, 0, 0, 0, 1] ?_
        refine Dp (fun _ => q_mv (s := .v (.c _)) ⟨rfl, rfl⟩) ?_
        refine Dp (fun _ => q_mv (s := .v (.c _)) ⟨rfl, rfl⟩) ?_
        refine Dp (fun _ => q_quon (y := 4) ⟨rfl, rfl⟩) ?_
        refine Dp (fun _ => q_ixp1 ⟨rfl, rfl⟩) ?_
        refine DLp ?_
        refine Dp (fun _ => q_mv (s := .v (.c _)) ⟨rfl, rfl⟩) ?_
        refine Dp (fun _ => q_quon (y := 4) ⟨rfl, rfl⟩) ?_
        refine Dp (fun _ => q_ixp1 ⟨rfl, rfl⟩) ?_
        refine DLp ?_
        refine Dp (fun _ => q_add32 ⟨rfl, rfl⟩) ?_
        refine Dp (fun _ => q_mv (s := .v (.c _)) ⟨rfl, rfl⟩) ?_
        refine Dp (fun _ => q_remn (y := 4) ⟨rfl, rfl⟩) ?_
        refine Dp (fun _ => q_muln (x := 8) ⟨rfl, rfl⟩) ?_
        refine Dp (fun _ => q_shr32_0 ⟨rfl, rfl⟩) ?_
        refine Dp (fun _ => q_cv32_8 ⟨rfl, rfl⟩) ?_
        refine Dp (fun _ => q_ixp1 ⟨rfl, rfl⟩) ?_
        refine De0 (q_stm (pw ?_))
        refine dend ?_
        refine rl ?_
        refine G (q_addn (y := 1) ?_)
        refine Mv ?_
        refine gend ?_
        exact ⟨⟨t.1 + 1, by omega⟩, by show 64 - (t.1 + 1) < 64 - t.1; omega, sle_sub ⟨rfl, rfl, rfl, rfl, rfl, rfl, rfl, trivial⟩ rfl⟩   -- endloop 4
      refine awp_skip ?_
      refine awp_seq ?_
      refine awp_block ?_
      refine awp_seq ?_
      refine awp_seq ?_
      refine rl ?_
      refine G (q_mv (s := sc (cn 0)) ?_)
      refine gend ?_
      refine awp_block ?_
      refine awp_loop (fun u : {i : Nat // i ≤ 4} => ⟨frm 98 [(1, sc (c32 ctr)), (3, sc (.ptr 0 0)), (5, sc (.ptr 1 0)), (6, sc (.ptr 2 0)), (7, sc (.ptr 3 0)), (10, sc (.ptr 4 0)), (11, sc (.fn 27 [.ptr 3 0])), (42, sc (cn z.1)), (44, sc (cn u.1))], [some (u8s key), some (u8s nonce), some (u8s (List.replicate 64 0)), some (u32s (cols (dbl I z.1) u.1)), some (u32s I)]⟩) (fun u => 4 - u.1) ⟨0, Nat.zero_le _⟩ (sle_sub ⟨rfl, rfl, rfl, rfl, rfl, rfl, rfl, rfl, rfl, trivial⟩ rfl) fun u => ?_   -- live: [11, 44]
      refine awp_seq ?_
      refine rl ?_
      refine G (q_lssn (y := 4) ?_)
      refine gend ?_
      refine awp_seq ?_
      refine cnd (fun hc5 => ?_) (fun hc5 => ?_); rotate_left
      · refine awp_exit ?_
        rw [show u.1 = 4 from (by have := u.2; omega)]
        refine awp_seq ?_
        refine rl ?_
        refine G (q_mv (s := sc (cn 0)) ?_)
        refine gend ?_
        refine awp_block ?_
        refine awp_loop (fun v : {i : Nat // i ≤ 4} => ⟨frm 98 [(1, sc (c32 ctr)), (3, sc (.ptr 0 0)), (5, sc (.ptr 1 0)), (6, sc (.ptr 2 0)), (7, sc (.ptr 3 0)), (10, sc (.ptr 4 0)), (11, sc (.fn 27 [.ptr 3 0])), (42, sc (cn z.1)), (57, sc (cn v.1))], [some (u8s key), some (u8s nonce), some (u8s (List.replicate 64 0)), some (u32s (dias (cols (dbl I z.1) 4) v.1)), some (u32s I)]⟩) (fun v => 4 - v.1) ⟨0, Nat.zero_le _⟩ (sle_sub ⟨rfl, rfl, rfl, rfl, rfl, rfl, rfl, rfl, rfl, trivial⟩ rfl) fun v => ?_   -- live: [11, 57]
        refine awp_seq ?_
        refine rl ?_
        refine G (q_lssn (y := 4) ?_)
        refine gend ?_
        refine awp_seq ?_
        refine cnd (fun hc6 => ?_) (fun hc6 => ?_); rotate_left
        · refine awp_exit ?_
          rw [show v.1 = 4 from (by have := v.2; omega)]
          refine rl ?_
          refine G (q_addn (y := 1) ?_)
          refine Mv ?_
          refine gend ?_
          exact ⟨⟨z.1 + 1, by omega⟩, by show 10 - (z.1 + 1) < 10 - z.1; omega, sle_sub ⟨rfl, rfl, rfl, rfl, rfl, rfl, rfl, rfl, trivial⟩ rfl⟩   -- endloop 3
        refine awp_skip ?_
        refine awp_seq ?_
        refine awp_block ?_
        refine awp_seq ?_
        refine rl ?_
        refine Mv ?_
        refine As ?_
        refine gend ?_
        refine rl ?_
        refine Mv ?_
        refine Mv ?_
        refine Mv ?_
        refine G (q_addn (y := 1) ?_)
        refine G (q_remn (y := 4) ?_)
        refine G (q_addn (x := 4) ?_)
        refine Mv ?_
        refine G (q_addn (y := 2) ?_)
        refine G (q_remn (y := 4) ?_)
        refine G (q_addn (x := 8) ?_)
        refine Mv ?_
        refine G (q_addn (y := 3) ?_)
        refine G (q_remn (y := 4) ?_)
        refine G (q_addn (x := 12) ?_)
        have hl := (dias_len _ v.1).trans ((cols_len _ 4).trans ((dbl_len _ z.1).trans hi))
        refine G (q_callcw 3 (quarter _ v.1 (4 + (v.1 + 1) % 4) (8 + (v.1 + 2) % 4) (12 + (v.1 + 3) % 4) (by omega) (by omega) (by omega) (by omega) hl) ?_)
        refine gend ?_
        refine rl ?_
        refine G (q_addn (y := 1) ?_)
        refine Mv ?_
        refine gend ?_
        exact ⟨⟨v.1 + 1, by omega⟩, by show 4 - (v.1 + 1) < 4 - v.1; omega, sle_sub ⟨rfl, rfl, rfl, rfl, rfl, rfl, rfl, rfl, rfl, trivial⟩ rfl⟩   -- endloop 6
      refine awp_skip ?_
      refine awp_seq ?_
      refine awp_block ?_
      refine awp_seq ?_
      refine rl ?_
      refine Mv ?_
      refine As ?_
      refine gend ?_
      refine rl ?_
      refine Mv ?_
      refine Mv ?_
      refine Mv ?_
      refine G (q_addn (x := 4) ?_)
      refine Mv ?_
      refine G (q_addn (x := 8) ?_)
      refine Mv ?_
      refine G (q_addn (x := 12) ?_)
      have hl := (cols_len _ u.1).trans ((dbl_len _ z.1).trans hi)
      refine G (q_callcw 3 (quarter _ u.1 (4 + u.1) (8 + u.1) (12 + u.1) (by omega) (by omega) (by omega) (by omega) hl) ?_)
      refine gend ?_
      refine rl ?_
      refine G (q_addn (y := 1) ?_)
      refine Mv ?_
      refine gend ?_
      exact ⟨⟨u.1 + 1, by omega⟩, by show 4 - (u.1 + 1) < 4 - u.1; omega, sle_sub ⟨rfl, rfl, rfl, rfl, rfl, rfl, rfl, rfl, rfl, trivial⟩ rfl⟩   -- endloop 5
    refine awp_skip ?_
    refine awp_seq ?_
    refine awp_block ?_
    refine awp_seq ?_
    refine rl ?_
    refine Mv ?_
    refine As ?_
    refine gend ?_
    refine rl ?_
    refine Mv ?_
    refine G (q_addn (x := 13) ?_)
    refine Mv ?_
    refine G (q_muln (x := 4) ?_)
    refine G (q_slp_lo ?_)
    have hly : (lw (A.set 12 ctr) 13 12 nonce y.1).length = 16 := (lw_len ..).trans ((List.length_set ..).trans hl8)
    refine G (q_callp (word (12 - 4 * y.1) ((nonce.drop (0 + 4 * y.1 * 1)).take ((12 - 4 * y.1) * 1)) (by simp only [List.length_take, List.length_drop, hn]; omega) (by simp only [List.length_take, List.length_drop, hn]; omega)/- escutcheon/chacha.word -/) ?_)
    refine G (q_ixp1 ?_)
    refine G0 (q_stm ?_)
    refine gend ?_
    refine rl ?_
    refine G (q_addn (y := 1) ?_)
    refine Mv ?_
    refine gend ?_
    exact ⟨⟨y.1 + 1, by omega⟩, by show 3 - (y.1 + 1) < 3 - y.1; omega, sle_sub ⟨rfl, rfl, rfl, rfl, rfl, rfl, trivial⟩ rfl⟩   -- endloop 2
  refine awp_skip ?_
  refine awp_seq ?_
  refine awp_block ?_
  refine awp_seq ?_
  refine rl ?_
  refine Mv ?_
  refine As ?_
  refine gend ?_
  refine rl ?_
  refine Mv ?_
  refine G (q_addn (x := 4) ?_)
  refine Mv ?_
  refine G (q_muln (x := 4) ?_)
  refine G (q_slp_lo ?_)
  have hlx : (lw ([1634760805, 857760878, 2036477234, 1797285236] ++ List.replicate 12 0) 4 32 key x.1).length = 16 := (lw_len ..).trans rfl
  refine G (q_callp (word (32 - 4 * x.1) ((key.drop (0 + 4 * x.1 * 1)).take ((32 - 4 * x.1) * 1)) (by simp only [List.length_take, List.length_drop, hk]; omega) (by simp only [List.length_take, List.length_drop, hk]; omega)/- escutcheon/chacha.word -/) ?_)
  refine G (q_ixp1 ?_)
  refine G0 (q_stm ?_)
  refine gend ?_
  refine rl ?_
  refine G (q_addn (y := 1) ?_)
  refine Mv ?_
  refine gend ?_
  exact ⟨⟨x.1 + 1, by omega⟩, by show 8 - (x.1 + 1) < 8 - x.1; omega, sle_sub ⟨rfl, rfl, rfl, rfl, rfl, rfl, trivial⟩ rfl⟩   -- endloop 1
end Go.Proofs.Ytcihpgdmldkjfaa.Ch

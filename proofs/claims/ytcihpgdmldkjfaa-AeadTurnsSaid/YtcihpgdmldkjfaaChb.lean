/- What functions of the program do, walked over the abstract machine. -/
import Derived.Test.YtcihpgdmldkjfaaCha
namespace Go.Proofs.Ytcihpgdmldkjfaa.Ch
open Go Go.Abs Go.Proofs

/-- escutcheonref08.round -/
theorem round (s : List UInt32) (a b c d : Nat) (ha : a < 16) (hb : b < 16) (hc : c < 16) (hd : d < 16) (hs : s.length = 16) : Good Try.prog 33 [.a (u32s s), .c (cn a), .c (cn b), .c (cn c), .c (cn d)] [] (sa (u32s (qr s a b c d))) [] := by
  refine good_frm 88 Try.func33 rfl rfl rfl rfl rfl rfl ?_
  refine awp_seq ?_
  refine rl ?_
  refine G (q_boxa ?_)
  refine G (q_al ?_)
  refine gend ?_
  refine awp_seq ?_
  refine rdl [9] [] [0, 0, 0, 0, 0, 0, 0, 0, 0, 1] ?_
  refine Dp (fun _ => q_mv (s := .v (.c _)) ⟨rfl, rfl⟩) ?_
  refine Dp (fun _ => q_mv (s := .v (.c _)) ⟨rfl, rfl⟩) ?_
  refine Dp (fun _ => q_ixp1 ⟨rfl, rfl⟩) ?_
  refine DLp ?_
  refine Dp (fun _ => q_mv (s := .v (.c _)) ⟨rfl, rfl⟩) ?_
  refine Dp (fun _ => q_ixp1 ⟨rfl, rfl⟩) ?_
  refine DLp ?_
  refine Dp (fun _ => q_add32 ⟨rfl, rfl⟩) ?_
  refine Dp (fun _ => q_ixp1 ⟨rfl, rfl⟩) ?_
  refine De0 (q_stm (pw ?_))
  refine dend ?_
  refine awp_seq ?_
  refine rdl [8, 10] [0, 0, 0, 0, 0, 0, 0, 0, 0, 1, 1] [1, 0, 0, 0, 0, 0, 0, 0, 1, 1, 2] ?_
  refine Dp (fun _ => q_mv (s := .v (.c _)) ⟨rfl, rfl⟩) ?_
  refine Dp (fun _ => q_mv (s := .v (.c _)) ⟨rfl, rfl⟩) ?_
  refine Dp (fun _ => q_ixp1 ⟨rfl, rfl⟩) ?_
  refine DLp ?_
  refine Dp (fun _ => q_mv (s := .v (.c _)) ⟨rfl, rfl⟩) ?_
  refine Dp (fun _ => q_ixp1 ⟨rfl, rfl⟩) ?_
  refine DLp ?_
  refine Dp (fun _ => q_xor32 ⟨rfl, rfl⟩) ?_
  refine De (q_callp (rturn _ 16/- escutcheon/escutcheonref08.turn -/) (pw ?_))
  refine Dp (fun _ => q_ixp1 ⟨rfl, rfl⟩) ?_
  refine De0 (q_stm (pw ?_))
  refine dend ?_
  refine awp_seq ?_
  refine rdl [9] [] [0, 0, 0, 0, 0, 0, 0, 0, 0, 1] ?_
  refine Dp (fun _ => q_mv (s := .v (.c _)) ⟨rfl, rfl⟩) ?_
  refine Dp (fun _ => q_mv (s := .v (.c _)) ⟨rfl, rfl⟩) ?_
  refine Dp (fun _ => q_ixp1 ⟨rfl, rfl⟩) ?_
  refine DLp ?_
  refine Dp (fun _ => q_mv (s := .v (.c _)) ⟨rfl, rfl⟩) ?_
  refine Dp (fun _ => q_ixp1 ⟨rfl, rfl⟩) ?_
  refine DLp ?_
  refine Dp (fun _ => q_add32 ⟨rfl, rfl⟩) ?_
  refine Dp (fun _ => q_ixp1 ⟨rfl, rfl⟩) ?_
  refine De0 (q_stm (pw ?_))
  refine dend ?_
  refine awp_seq ?_
  refine rdl [8, 10] [0, 0, 0, 0, 0, 0, 0, 0, 0, 1, 1] [1, 0, 0, 0, 0, 0, 0, 0, 1, 1, 2] ?_
  refine Dp (fun _ => q_mv (s := .v (.c _)) ⟨rfl, rfl⟩) ?_
  refine Dp (fun _ => q_mv (s := .v (.c _)) ⟨rfl, rfl⟩) ?_
  refine Dp (fun _ => q_ixp1 ⟨rfl, rfl⟩) ?_
  refine DLp ?_
  refine Dp (fun _ => q_mv (s := .v (.c _)) ⟨rfl, rfl⟩) ?_
  refine Dp (fun _ => q_ixp1 ⟨rfl, rfl⟩) ?_
  refine DLp ?_
  refine Dp (fun _ => q_xor32 ⟨rfl, rfl⟩) ?_
  refine De (q_callp (rturn _ 12/- escutcheon/escutcheonref08.turn -/) (pw ?_))
  refine Dp (fun _ => q_ixp1 ⟨rfl, rfl⟩) ?_
  refine De0 (q_stm (pw ?_))
  refine dend ?_
  refine awp_seq ?_
  refine rdl [9] [] [0, 0, 0, 0, 0, 0, 0, 0, 0, 1] ?_
  refine Dp (fun _ => q_mv (s := .v (.c _)) ⟨rfl, rfl⟩) ?_
  refine Dp (fun _ => q_mv (s := .v (.c _)) ⟨rfl, rfl⟩) ?_
  refine Dp (fun _ => q_ixp1 ⟨rfl, rfl⟩) ?_
  refine DLp ?_
  refine Dp (fun _ => q_mv (s := .v (.c _)) ⟨rfl, rfl⟩) ?_
  refine Dp (fun _ => q_ixp1 ⟨rfl, rfl⟩) ?_
  refine DLp ?_
  refine Dp (fun _ => q_add32 ⟨rfl, rfl⟩) ?_
  refine Dp (fun _ => q_ixp1 ⟨rfl, rfl⟩) ?_
  refine De0 (q_stm (pw ?_))
  refine dend ?_
  refine awp_seq ?_
  refine rdl [8, 10] [0, 0, 0, 0, 0, 0, 0, 0, 0, 1, 1] [1, 0, 0, 0, 0, 0, 0, 0, 1, 1, 2] ?_
  refine Dp (fun _ => q_mv (s := .v (.c _)) ⟨rfl, rfl⟩) ?_
  refine Dp (fun _ => q_mv (s := .v (.c _)) ⟨rfl, rfl⟩) ?_
  refine Dp (fun _ => q_ixp1 ⟨rfl, rfl⟩) ?_
  refine DLp ?_
  refine Dp (fun _ => q_mv (s := .v (.c _)) ⟨rfl, rfl⟩) ?_
  refine Dp (fun _ => q_ixp1 ⟨rfl, rfl⟩) ?_
  refine DLp ?_
  refine Dp (fun _ => q_xor32 ⟨rfl, rfl⟩) ?_
  refine De (q_callp (rturn _ 8/- escutcheon/escutcheonref08.turn -/) (pw ?_))
  refine Dp (fun _ => q_ixp1 ⟨rfl, rfl⟩) ?_
  refine De0 (q_stm (pw ?_))
  refine dend ?_
  refine awp_seq ?_
  refine rdl [9] [] [0, 0, 0, 0, 0, 0, 0, 0, 0, 1] ?_
  refine Dp (fun _ => q_mv (s := .v (.c _)) ⟨rfl, rfl⟩) ?_
  refine Dp (fun _ => q_mv (s := .v (.c _)) ⟨rfl, rfl⟩) ?_
  refine Dp (fun _ => q_ixp1 ⟨rfl, rfl⟩) ?_
  refine DLp ?_
  refine Dp (fun _ => q_mv (s := .v (.c _)) ⟨rfl, rfl⟩) ?_
  refine Dp (fun _ => q_ixp1 ⟨rfl, rfl⟩) ?_
  refine DLp ?_
  refine Dp (fun _ => q_add32 ⟨rfl, rfl⟩) ?_
  refine Dp (fun _ => q_ixp1 ⟨rfl, rfl⟩) ?_
  refine De0 (q_stm (pw ?_))
  refine dend ?_
  refine awp_seq ?_
  refine rdl [8, 10] [0, 0, 0, 0, 0, 0, 0, 0, 0, 1, 1] [1, 0, 0, 0, 0, 0, 0, 0, 1, 1, 2] ?_
  refine Dp (fun _ => q_mv (s := .v (.c _)) ⟨rfl, rfl⟩) ?_
  refine Dp (fun _ => q_mv (s := .v (.c _)) ⟨rfl, rfl⟩) ?_
  refine Dp (fun _ => q_ixp1 ⟨rfl, rfl⟩) ?_
  refine DLp ?_
  refine Dp (fun _ => q_mv (s := .v (.c _)) ⟨rfl, rfl⟩) ?_
  refine Dp (fun _ => q_ixp1 ⟨rfl, rfl⟩) ?_
  refine DLp ?_
  refine Dp (fun _ => q_xor32 ⟨rfl, rfl⟩) ?_
  refine De (q_callp (rturn _ 7/- escutcheon/escutcheonref08.turn -/) (pw ?_))
  refine Dp (fun _ => q_ixp1 ⟨rfl, rfl⟩) ?_
  refine De0 (q_stm (pw ?_))
  refine dend ?_
  refine awp_seq ?_
  refine rl ?_
  refine G (q_ldw ?_)
  refine G0 (q_stw ?_)
  refine gend ?_
  refine awp_ret ?_
  exact fpc (t := 52) (a := 10) (hn := by simp only [mapc_length, List.length_set]; exact hs)
/-- The text of which the reference takes its words. -/
def txt (key : List UInt8) (ctr : UInt32) (nonce : List UInt8) : List UInt8 :=
  (([101, 120, 112, 97, 110, 100, 32, 51, 50, 45, 98, 121, 116, 101, 32, 107] ++ key) ++ [ctr.toUInt8, (shr32n ctr 8).toUInt8, (shr32n ctr 16).toUInt8, (shr32n ctr 24).toUInt8]) ++ nonce
theorem txt_len (key : List UInt8) (ctr : UInt32) (nonce : List UInt8) (hk : key.length = 32) (hn : nonce.length = 12) : (txt key ctr nonce).length = 64 := by simp [txt, hk, hn]
def rst (T : List UInt8) : Nat → List UInt32
  | 0 => List.replicate 16 0
  | k + 1 => (rst T k).set ((63 - k) / 4) ((rst T k).getD ((63 - k) / 4) 0 * 256 + (T.getD (63 - k) 0).toUInt32)
theorem rst_len (T : List UInt8) : ∀ k, (rst T k).length = 16
  | 0 => by simp [rst]
  | k + 1 => by rw [rst, List.length_set, rst_len]
set_option maxHeartbeats 1000000 in
/-- escutcheonref08.Block -/
theorem rblock (key : List UInt8) (ctr : UInt32) (nonce : List UInt8) (hk : key.length = 32) (hn : nonce.length = 12) : Good Try.prog 22 [.a (u8s key), .c (c32 ctr), .a (u8s nonce)] [] (sa (u8s (ob (dbl (rst (txt key ctr nonce) 64) 10) (rst (txt key ctr nonce) 64) 64))) [] := by
  refine good_frm 98 Try.func22 rfl rfl rfl rfl rfl rfl ?_
  refine awp_seq ?_
  refine rl ?_
  refine G (q_boxa ?_)
  refine G (q_boxa ?_)
  refine G (q_al ?_)
  refine gend ?_
  refine awp_seq ?_
  refine rl ?_
  refine G (q_al ?_)
  refine gend ?_
  refine awp_seq ?_
  refine rl ?_
  refine As ?_
  refine gend ?_
  refine awp_seq ?_
  refine rl ?_
  refine As ?_
  refine gend ?_
  refine awp_seq ?_
  refine rdl [2, 4] [0, 0, 0, 0, 1, 2] [0, 0, 1, 1, 2, 2] ?_
  refine Dp (fun _ => q_mv (s := .v (.c _)) ⟨rfl, rfl⟩) ?_
  refine Dp (fun _ => q_mv (s := .v (.c _)) ⟨rfl, rfl⟩) ?_
  refine De (q_app (m := 16) (pw ?_))
  refine DSp 0 rfl (fun _ hv => q_slp_no ⟨rfl, rfl⟩ (hp := hv)) ?_
  refine De (q_app (pw ?_))
  refine Dp (fun _ => q_as (s := .v (.c _)) ⟨rfl, rfl⟩) ?_
  refine dend ?_
  refine awp_seq ?_
  refine rl ?_
  refine Mv ?_
  refine Mv ?_
  refine G (q_cv32_8 ?_)
  refine Mv ?_
  refine G (q_shr32_64 (n := 8) ?_)
  refine G (q_cv32_8 ?_)
  refine Mv ?_
  refine G (q_shr32_64 (n := 16) ?_)
  refine G (q_cv32_8 ?_)
  refine Mv ?_
  refine G (q_shr32_64 (n := 24) ?_)
  refine G (q_cv32_8 ?_)
  refine G (q_bsl (fkc rfl (et rfl) rfl (Nat.le_of_ble_eq_true rfl) (fkc rfl (et rfl) rfl (Nat.le_of_ble_eq_true rfl) (fkc rfl (et rfl) rfl (Nat.le_of_ble_eq_true rfl) (fkc rfl (et rfl) rfl (Nat.le_of_ble_eq_true rfl) (fk0 ?_))))))
  refine G (q_app  ?_ (eB := by exact el_slc (xs := u8s [ctr.toUInt8, (shr32n ctr 8).toUInt8, (shr32n ctr 16).toUInt8, (shr32n ctr 24).toUInt8]) (by exact rfl) (by simp [rep]) (by exact rfl)))
  refine As ?_
  refine gend ?_
  refine awp_seq ?_
  refine rl ?_
  refine Mv ?_
  refine G (q_slp_no ?_)
  refine G (q_app ?_)
  refine As ?_
  refine gend ?_
  refine awp_seq ?_
  refine awp_seq ?_
  refine rl ?_
  refine G (q_as (s := sc (cn 63)) ?_)
  refine gend ?_
  refine awp_block ?_
  refine awp_loop (fun x : {i : Nat // i ≤ 64} => ⟨frm 98 [(6, sc (.ptr 2 0)), (7, sc (.ptr 3 0)), (9, sc (.slc 4 0 64 1)), (10, sc (ci (63 - (x.1 : Int))))], [some (u8s key), some (u8s nonce), some (u8s (List.replicate 64 0)), some (u32s (rst (txt key ctr nonce) x.1)), some (u8s (txt key ctr nonce))]⟩) (fun x => 64 - x.1) ⟨0, Nat.zero_le _⟩ (sle_view [0, 1, 2, 3, 8] (fun p h => absurd h (Nat.not_lt_zero _)) (by decide) ⟨rfl, rfl, rfl, rfl, trivial⟩ (vh5 (pick_m rfl) (pick_m rfl) (pick_m rfl) (pick_m rfl) (pick_m (by show some (some _) = some (some _); simp [txt, mapc, hk, hn, List.take_of_length_le])))) fun x => ?_   -- live: [7, 9, 10]
  refine awp_seq ?_
  refine awp_seq ?_
  refine rl ?_
  refine Mv ?_
  refine G (q_geqi (y := 0) ?_)
  refine gend ?_
  refine cnd (fun hc1 => ?_) (fun hc1 => ?_); rotate_left
  · refine awp_exit ?_
    rw [show x.1 = 64 from (by have := x.2; omega)]
    have hi := rst_len (txt key ctr nonce) 64
    generalize hI : rst (txt key ctr nonce) 64 = I at hi ⊢
    refine awp_seq ?_
    refine rl ?_
    refine G (q_ldw  ?_ (hl := (mapc_length ..).trans hi))
    refine G (q_al ?_)
    refine G0 (q_stw  ?_ (hl := (mapc_length ..).trans hi) (hc := rfl))
    refine gend ?_
    refine awp_seq ?_
    refine awp_seq ?_
    refine rl ?_
    refine G (q_as (s := sc (cn 0)) ?_)
    refine gend ?_
    refine awp_block ?_
    refine awp_loop (fun y : {i : Nat // i ≤ 10} => ⟨frm 98 [(6, sc (.ptr 2 0)), (7, sc (.ptr 3 0)), (11, sc (.ptr 5 0)), (12, sc (cn y.1))], [some (u8s key), some (u8s nonce), some (u8s (List.replicate 64 0)), some (u32s I), some (u8s (txt key ctr nonce)), some (u32s (dbl I y.1))]⟩) (fun y => 10 - y.1) ⟨0, Nat.zero_le _⟩ (sle_sub ⟨rfl, rfl, rfl, rfl, trivial⟩ rfl) fun y => ?_   -- live: [11, 12]
    refine awp_seq ?_
    refine awp_seq ?_
    refine rl ?_
    refine Mv ?_
    refine G (q_lssn (y := 10) ?_)
    refine gend ?_
    refine cnd (fun hc2 => ?_) (fun hc2 => ?_); rotate_left
    · refine awp_exit ?_
      rw [show y.1 = 10 from (by have := y.2; omega)]
      have hd := (dbl_len I 10).trans hi
      generalize hD : dbl I 10 = D at hd ⊢
      refine awp_seq ?_
      refine rl ?_
      refine G (q_al ?_)
      refine gend ?_
      refine awp_seq ?_
      refine awp_seq ?_
      refine rl ?_
      refine G (q_as (s := sc (cn 0)) ?_)
      refine gend ?_
      refine awp_block ?_
      refine awp_loop (fun t : {i : Nat // i ≤ 64} => ⟨frm 98 [(6, sc (.ptr 2 0)), (7, sc (.ptr 3 0)), (11, sc (.ptr 5 0)), (13, sc (.ptr 6 0)), (14, sc (cn t.1))], [some (u8s key), some (u8s nonce), some (u8s (List.replicate 64 0)), some (u32s I), some (u8s (txt key ctr nonce)), some (u32s D), some (u8s (ob D I t.1))]⟩) (fun t => 64 - t.1) ⟨0, Nat.zero_le _⟩ (sle_sub ⟨rfl, rfl, rfl, rfl, rfl, trivial⟩ rfl) fun t => ?_   -- live: [7, 11, 13, 14]
      refine awp_seq ?_
      refine awp_seq ?_
      refine rl ?_
      refine Mv ?_
      refine G (q_lssn (y := 64) ?_)
      refine gend ?_
      refine cnd (fun hc3 => ?_) (fun hc3 => ?_); rotate_left
      · refine awp_exit ?_
        rw [show t.1 = 64 from (by have := t.2; omega)]
        have ho := ob_len D I 64
        generalize hO : ob D I 64 = O at ho ⊢
        refine awp_seq ?_
        refine rl ?_
        refine G (q_ldw  ?_ (hl := (mapc_length ..).trans ho))
        refine G0 (q_stw  ?_ (hl := (mapc_length ..).trans ho) (hc := rfl))
        refine gend ?_
        refine awp_ret ?_
        exact fpc (t := 46) (a := 6) (hn := by exact (mapc_length ..).trans ho) (hv := by rw [← hO, ← hD, ← hI])
      refine awp_skip ?_
      refine awp_seq ?_
      refine awp_block ?_
      have hot := ob_len D I t.1
      refine rdl [17] [] [0, 0, 0, 0, 0, 0, 0, 0, 0, 0, 0, 0, 0, 0, 0, 0, 0, 1] ?_
      refine Dp (fun _ => q_mv (s := .v (.c _)) ⟨rfl, rfl⟩) ?_
      refine Dp (fun _ => q_mv (s := .v (.c _)) ⟨rfl, rfl⟩) ?_
      refine Dp (fun _ => q_quon (y := 4) ⟨rfl, rfl⟩) ?_
      refine Dp (fun _ => q_ixp1 ⟨rfl, rfl⟩) ?_
      refine DLp ?_
      refine Dp (fun _ => q_mv (s := .v (.c _)) ⟨rfl, rfl⟩) ?_
      refine Dp (fun _ => q_quon (y := 4) ⟨rfl, rfl⟩) ?_
      refine Dp (fun _ => q_ixp1 ⟨rfl, rfl⟩) ?_
      refine DLp ?_
      refine Dp (fun _ => q_add32 ⟨rfl, rfl⟩) ?_
      refine Dp (fun _ => q_mv (s := .v (.c _)) ⟨rfl, rfl⟩) ?_
      refine Dp (fun _ => q_remn (y := 4) ⟨rfl, rfl⟩) ?_
      refine Dp (fun _ => q_muln (x := 8) ⟨rfl, rfl⟩) ?_
      refine Dp (fun _ => q_cv0_64 ⟨rfl, rfl⟩) ?_
      refine Dp (fun _ => q_shr32_64 ⟨rfl, rfl⟩) ?_
      refine Dp (fun _ => q_cv32_8 ⟨rfl, rfl⟩) ?_
      refine Dp (fun _ => q_ixp1 ⟨rfl, rfl⟩) ?_
      refine De0 (q_stm (pw ?_))
      refine dend ?_
      refine rl ?_
      refine Mv ?_
      refine G (q_addn (y := 1) ?_)
      refine As ?_
      refine gend ?_
      exact ⟨⟨t.1 + 1, by omega⟩, by show 64 - (t.1 + 1) < 64 - t.1; omega, sle_sub ⟨rfl, rfl, rfl, rfl, rfl, trivial⟩ (by rw [ob, UInt32.add_comm (D.getD _ 0), show (UInt64.ofNat (8 * (t.1 % 4))).toNat = 8 * (t.1 % 4) from (by rw [UInt64.toNat_ofNat']; exact Nat.mod_eq_of_lt (by omega))]; rfl)⟩   -- endloop 3
    refine awp_skip ?_
    refine awp_seq ?_
    refine awp_block ?_
    refine awp_seq ?_
    refine rl ?_
    have hz := (dbl_len I y.1).trans hi
    refine G (q_ldw  ?_ (hl := by simp only [mapc_length, qr_len]; exact hz))
    refine G (q_callp (round _ 0 4 8 12 (by decide) (by decide) (by decide) (by decide) (hz)/- escutcheon/escutcheonref08.round -/) ?_)
    refine G0 (q_stw  ?_ (hl := by simp only [mapc_length, qr_len]; exact hz) (hc := by simp only [mapc_length, qr_len]; exact hz))
    refine gend ?_
    refine awp_seq ?_
    refine rl ?_
    refine G (q_ldw  ?_ (hl := by simp only [mapc_length, qr_len]; exact hz))
    refine G (q_callp (round _ 1 5 9 13 (by decide) (by decide) (by decide) (by decide) ((qr_len ..).trans (hz))/- escutcheon/escutcheonref08.round -/) ?_)
    refine G0 (q_stw  ?_ (hl := by simp only [mapc_length, qr_len]; exact hz) (hc := by simp only [mapc_length, qr_len]; exact hz))
    refine gend ?_
    refine awp_seq ?_
    refine rl ?_
    refine G (q_ldw  ?_ (hl := by simp only [mapc_length, qr_len]; exact hz))
    refine G (q_callp (round _ 2 6 10 14 (by decide) (by decide) (by decide) (by decide) ((qr_len ..).trans ((qr_len ..).trans (hz)))/- escutcheon/escutcheonref08.round -/) ?_)
    refine G0 (q_stw  ?_ (hl := by simp only [mapc_length, qr_len]; exact hz) (hc := by simp only [mapc_length, qr_len]; exact hz))
    refine gend ?_
    refine awp_seq ?_
    refine rl ?_
    refine G (q_ldw  ?_ (hl := by simp only [mapc_length, qr_len]; exact hz))
    refine G (q_callp (round _ 3 7 11 15 (by decide) (by decide) (by decide) (by decide) ((qr_len ..).trans ((qr_len ..).trans ((qr_len ..).trans (hz))))/- escutcheon/escutcheonref08.round -/) ?_)
    refine G0 (q_stw  ?_ (hl := by simp only [mapc_length, qr_len]; exact hz) (hc := by simp only [mapc_length, qr_len]; exact hz))
    refine gend ?_
    refine awp_seq ?_
    refine rl ?_
    refine G (q_ldw  ?_ (hl := by simp only [mapc_length, qr_len]; exact hz))
    refine G (q_callp (round _ 0 5 10 15 (by decide) (by decide) (by decide) (by decide) ((qr_len ..).trans ((qr_len ..).trans ((qr_len ..).trans ((qr_len ..).trans (hz)))))/- escutcheon/escutcheonref08.round -/) ?_)
    refine G0 (q_stw  ?_ (hl := by simp only [mapc_length, qr_len]; exact hz) (hc := by simp only [mapc_length, qr_len]; exact hz))
    refine gend ?_
    refine awp_seq ?_
    refine rl ?_
    refine G (q_ldw  ?_ (hl := by simp only [mapc_length, qr_len]; exact hz))
    refine G (q_callp (round _ 1 6 11 12 (by decide) (by decide) (by decide) (by decide) ((qr_len ..).trans ((qr_len ..).trans ((qr_len ..).trans ((qr_len ..).trans ((qr_len ..).trans (hz))))))/- escutcheon/escutcheonref08.round -/) ?_)
    refine G0 (q_stw  ?_ (hl := by simp only [mapc_length, qr_len]; exact hz) (hc := by simp only [mapc_length, qr_len]; exact hz))
    refine gend ?_
    refine awp_seq ?_
    refine rl ?_
    refine G (q_ldw  ?_ (hl := by simp only [mapc_length, qr_len]; exact hz))
    refine G (q_callp (round _ 2 7 8 13 (by decide) (by decide) (by decide) (by decide) ((qr_len ..).trans ((qr_len ..).trans ((qr_len ..).trans ((qr_len ..).trans ((qr_len ..).trans ((qr_len ..).trans (hz)))))))/- escutcheon/escutcheonref08.round -/) ?_)
    refine G0 (q_stw  ?_ (hl := by simp only [mapc_length, qr_len]; exact hz) (hc := by simp only [mapc_length, qr_len]; exact hz))
    refine gend ?_
    refine rl ?_
    refine G (q_ldw  ?_ (hl := by simp only [mapc_length, qr_len]; exact hz))
    refine G (q_callp (round _ 3 4 9 14 (by decide) (by decide) (by decide) (by decide) ((qr_len ..).trans ((qr_len ..).trans ((qr_len ..).trans ((qr_len ..).trans ((qr_len ..).trans ((qr_len ..).trans ((qr_len ..).trans (hz))))))))/- escutcheon/escutcheonref08.round -/) ?_)
    refine G0 (q_stw  ?_ (hl := by simp only [mapc_length, qr_len]; exact hz) (hc := by simp only [mapc_length, qr_len]; exact hz))
    refine gend ?_
    refine rl ?_
    refine Mv ?_
    refine G (q_addn (y := 1) ?_)
    refine As ?_
    refine gend ?_
    exact ⟨⟨y.1 + 1, by omega⟩, by show 10 - (y.1 + 1) < 10 - y.1; omega, sle_sub ⟨rfl, rfl, rfl, rfl, trivial⟩ rfl⟩   -- endloop 2
  refine awp_skip ?_
  refine awp_seq ?_
  refine awp_block ?_
  have hr := rst_len (txt key ctr nonce) x.1
  have hT := txt_len key ctr nonce hk hn
  refine retell [(6, sc (.ptr 2 0)), (7, sc (.ptr 3 0)), (9, sc (.slc 4 0 64 1)), (10, sc (cn (63 - x.1)))] ?_ ⟨rfl, rfl, rfl, congrArg (fun i => sc (ci i)) (by omega), trivial⟩
  refine rdl [14] [] [0, 0, 0, 0, 0, 0, 0, 0, 0, 0, 0, 0, 0, 0, 1] ?_
  refine Dp (fun _ => q_mv (s := .v (.c _)) ⟨rfl, rfl⟩) ?_
  refine Dp (fun _ => q_quon (y := 4) ⟨rfl, rfl⟩) ?_
  refine Dp (fun _ => q_mv (s := .v (.c _)) ⟨rfl, rfl⟩) ?_
  refine Dp (fun _ => q_quon (y := 4) ⟨rfl, rfl⟩) ?_
  refine Dp (fun _ => q_ixp1 ⟨rfl, rfl⟩) ?_
  refine DLp ?_
  refine Dp (fun _ => q_mul32 (y := 256) ⟨rfl, rfl⟩) ?_
  refine Dp (fun _ => q_mv (s := .v (.c _)) ⟨rfl, rfl⟩) ?_
  refine Dp (fun _ => q_mv (s := .v (.c _)) ⟨rfl, rfl⟩) ?_
  refine Dp (fun _ => q_ixs1 ⟨rfl, rfl⟩) ?_
  refine DLp ?_
  refine Dp (fun _ => q_cv8_32 ⟨rfl, rfl⟩) ?_
  refine Dp (fun _ => q_add32 ⟨rfl, rfl⟩) ?_
  refine Dp (fun _ => q_ixp1 ⟨rfl, rfl⟩) ?_
  refine De0 (q_stm (pw ?_))
  refine dend ?_
  refine rl ?_
  refine Mv ?_
  refine G (q_subi (y := 1) ?_)
  refine As ?_
  refine gend ?_
  exact ⟨⟨x.1 + 1, by omega⟩, by show 64 - (x.1 + 1) < 64 - x.1; omega, sle_sub ⟨rfl, rfl, rfl, congrArg (fun i => sc (ci i)) (by show (((63 - x.1 : Nat) : Int) - 1) = 63 - ((x.1 + 1 : Nat) : Int); omega), trivial⟩ rfl⟩   -- endloop 1
end Go.Proofs.Ytcihpgdmldkjfaa.Ch

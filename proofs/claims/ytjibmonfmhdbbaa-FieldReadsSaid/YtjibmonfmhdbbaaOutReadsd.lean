/- Texts that the proof stands on, put together: the abstract machine, and what functions do over it. -/
import Derived.Test.YtjibmonfmhdbbaaOutReadsc
/- What functions of the program do, walked over the abstract machine. -/
namespace Go.Proofs.Ytjibmonfmhdbbaa.Rn
open Go Go.Abs Go.Proofs

open Go.Nt Fd
/-- escutcheonref02.all -/
theorem all_ (l : List UInt64) (hl : l.length = 16) : Good Try.prog 49 [.a (u64s l)] [] (sc (.slc 0 0 16 1)) [some (u64s l)] := by
  refine good_frm 5 Try.func49 rfl rfl rfl rfl rfl rfl ?_
  refine awp_seq ?_
  refine rln ?_
  refine G2 (fun _ k_ => q_boxa k_) ?_
  refine As ?_
  refine gend ?_
  refine awp_seq ?_
  refine rln ?_
  refine G (q_slp_no ?_)
  refine G2 (fun _ k_ => q_app  k_ (eB := el_slc (xs := u64s l) rfl (by rw [mapc_length, hl]; decide) (cut_h hl))) ?_
  refine As ?_
  refine gend ?_
  refine awp_ret ?_
  exact fx1 [1] (hm0 := rfl) (hH := (vh1 (pick_m rfl)).symm)
/-- escutcheonref02.Of -/
theorem of_ (b : List UInt8) (hb : b.length = 32) : Good Try.prog 30 [.a (u8s b)] [] (sa (u64s (dg (bv b)))) [] := by
  rw [← ofd_dg]
  refine good_frm 25 Try.func30 rfl rfl rfl rfl rfl rfl ?_
  refine awp_seq ?_
  refine rln ?_
  refine G2 (fun _ k_ => q_boxa k_) ?_
  refine G2 (fun _ k_ => q_al k_) ?_
  refine gend ?_
  refine awp_seq ?_
  refine rln ?_
  refine G2 (fun _ k_ => q_al k_) ?_
  refine gend ?_
  refine awp_seq ?_
  refine awp_seq ?_
  refine rln ?_
  refine G (q_as (s := sc (cn 0)) ?_)
  refine gend ?_
  refine awp_block ?_
  refine awp_loop (fun x : {i : Nat // i ≤ 16} => ⟨frm 25 [(1, sc (.ptr 0 0)), (2, sc (.ptr 1 0)), (3, sc (.ptr 2 0)), (4, sc (cn x.1))], [some (u8s b), some (u64s (List.replicate 16 0)), some (u64s (ofd b x.1))]⟩) (fun x => 16 - x.1) ⟨0, Nat.zero_le _⟩ (sle_sub ⟨rfl, rfl, rfl, rfl, trivial⟩ rfl) fun x => ?_   -- live: [1, 3, 4]
  have hl := ofd_len b x.1
  refine awp_seq ?_
  refine awp_seq ?_
  refine rln ?_
  refine Mv ?_
  refine G (q_lssn (y := 16) ?_)
  refine gend ?_
  refine cnd (fun hc1 => ?_) (fun hc1 => ?_); rotate_left
  · refine awp_exit ?_
    rw [show x.1 = 16 from (by have := x.2; omega)]
    have hl := ofd_len b 16
    refine awp_seq ?_
    refine rln ?_
    refine G (q_ldw ?_)
    refine G20 (fun _ k_ => q_stw k_) ?_
    refine gend ?_
    refine awp_ret ?_
    exact fpc (t := 30) (a := 2) (hn := by exact (mapc_length ..).trans hl)
  refine awp_skip ?_
  refine awp_seq ?_
  refine awp_block ?_
  refine rdln [15] [] [0, 0, 0, 0, 0, 0, 0, 0, 0, 0, 0, 0, 0, 0, 0, 1] ?_
  refine Dp (fun _ => q_mv (s := .v (.c _)) ⟨rfl, rfl⟩) ?_
  refine Dp (fun _ => q_mv (s := .v (.c _)) ⟨rfl, rfl⟩) ?_
  refine Dp (fun _ => q_muln (x := 2) ⟨rfl, rfl⟩) ?_
  refine Dp (fun _ => q_ixp1 ⟨rfl, rfl⟩) ?_
  refine DLp ?_
  refine Dp (fun _ => q_cv8_64 ⟨rfl, rfl⟩) ?_
  refine Dp (fun _ => q_mv (s := .v (.c _)) ⟨rfl, rfl⟩) ?_
  refine Dp (fun _ => q_muln (x := 2) ⟨rfl, rfl⟩) ?_
  refine Dp (fun _ => q_addn (y := 1) ⟨rfl, rfl⟩) ?_
  refine Dp (fun _ => q_ixp1 ⟨rfl, rfl⟩) ?_
  refine DLp ?_
  refine Dp (fun _ => q_cv8_64 ⟨rfl, rfl⟩) ?_
  refine Dp (fun _ => q_mul64 (x := 256) ⟨rfl, rfl⟩) ?_
  refine Dp (fun _ => q_add64 ⟨rfl, rfl⟩) ?_
  refine Dp (fun _ => q_ixp1 ⟨rfl, rfl⟩) ?_
  refine De20 (fun _ k_ => q_stm k_) ?_
  refine dend ?_
  refine rln ?_
  refine Mv ?_
  refine G (q_addn (y := 1) ?_)
  refine As ?_
  refine gend ?_
  exact ⟨⟨x.1 + 1, by omega⟩, by show 16 - (x.1 + 1) < 16 - x.1; omega, sle_sub ⟨rfl, rfl, rfl, rfl, trivial⟩ rfl⟩   -- endloop 1
/-- escutcheonref02.Bytes -/
theorem bytes_l (L : List UInt64) (hn : L.length = 16) : Good Try.prog 41 [.a (u64s L)] [] (sa (u8s (byd L 16))) [] := by
  refine good_frm 26 Try.func41 rfl rfl rfl rfl rfl rfl ?_
  refine awp_seq ?_
  refine rln ?_
  refine G2 (fun _ k_ => q_boxa k_) ?_
  refine G2 (fun _ k_ => q_al k_) ?_
  refine gend ?_
  refine awp_seq ?_
  refine rln ?_
  refine G2 (fun _ k_ => q_al k_) ?_
  refine gend ?_
  refine awp_seq ?_
  refine awp_seq ?_
  refine rln ?_
  refine G (q_as (s := sc (cn 0)) ?_)
  refine gend ?_
  refine awp_block ?_
  refine awp_loop (fun x : {i : Nat // i ≤ 16} => ⟨frm 26 [(1, sc (.ptr 0 0)), (2, sc (.ptr 1 0)), (3, sc (.ptr 2 0)), (4, sc (cn x.1))], [some (u64s L), some (u8s (List.replicate 32 0)), some (u8s (byd L x.1))]⟩) (fun x => 16 - x.1) ⟨0, Nat.zero_le _⟩ (sle_sub ⟨rfl, rfl, rfl, rfl, trivial⟩ rfl) fun x => ?_   -- live: [1, 3, 4]
  have hl := byd_len L x.1
  refine awp_seq ?_
  refine awp_seq ?_
  refine rln ?_
  refine Mv ?_
  refine G (q_lssn (y := 16) ?_)
  refine gend ?_
  refine cnd (fun hc1 => ?_) (fun hc1 => ?_); rotate_left
  · refine awp_exit ?_
    rw [show x.1 = 16 from (by have := x.2; omega)]
    have hl := byd_len L 16
    refine awp_seq ?_
    refine rln ?_
    refine G (q_ldw ?_)
    refine G20 (fun _ k_ => q_stw k_) ?_
    refine gend ?_
    refine awp_ret ?_
    exact fpc (t := 23) (a := 2) (hn := by exact (mapc_length ..).trans hl)
  refine awp_skip ?_
  refine awp_seq ?_
  refine awp_block ?_
  refine rdln [15, 17] [0, 0, 0, 0, 0, 0, 0, 0, 0, 0, 0, 0, 0, 0, 0, 0, 1, 1] [0, 0, 1, 1, 1, 0, 0, 0, 0, 1, 1, 1, 1, 1, 0, 1, 1, 2] ?_
  refine Dp (fun _ => q_mv (s := .v (.c _)) ⟨rfl, rfl⟩) ?_
  refine Dp (fun _ => q_muln (x := 2) ⟨rfl, rfl⟩) ?_
  refine Dp (fun _ => q_mv (s := .v (.c _)) ⟨rfl, rfl⟩) ?_
  refine Dp (fun _ => q_muln (x := 2) ⟨rfl, rfl⟩) ?_
  refine Dp (fun _ => q_addn (y := 1) ⟨rfl, rfl⟩) ?_
  refine Dp (fun _ => q_mv (s := .v (.c _)) ⟨rfl, rfl⟩) ?_
  refine Dp (fun _ => q_ixp1 ⟨rfl, rfl⟩) ?_
  refine DLp ?_
  refine Dp (fun _ => q_cv64_8 ⟨rfl, rfl⟩) ?_
  refine Dp (fun _ => q_mv (s := .v (.c _)) ⟨rfl, rfl⟩) ?_
  refine Dp (fun _ => q_ixp1 ⟨rfl, rfl⟩) ?_
  refine DLp ?_
  refine Dp (fun _ => q_shr64_64 (n := 8) ⟨rfl, rfl⟩) ?_
  refine Dp (fun _ => q_cv64_8 ⟨rfl, rfl⟩) ?_
  refine Dp (fun _ => q_ixp1 ⟨rfl, rfl⟩) ?_
  refine De20 (fun _ k_ => q_stm k_) ?_
  refine Dp (fun _ => q_ixp1 ⟨rfl, rfl⟩) ?_
  refine De20 (fun _ k_ => q_stm k_) ?_
  refine dend ?_
  refine rln ?_
  refine Mv ?_
  refine G (q_addn (y := 1) ?_)
  refine As ?_
  refine gend ?_
  exact ⟨⟨x.1 + 1, by omega⟩, by show 16 - (x.1 + 1) < 16 - x.1; omega, sle_sub ⟨rfl, rfl, rfl, rfl, trivial⟩ rfl⟩   -- endloop 1
theorem bytes_ (n : Nat) : Good Try.prog 41 [.a (u64s (dg n))] [] (sa (u8s (by32 n))) [] := by
  have := bytes_l (dg n) (dg_len n)
  rwa [byd_by] at this
/-- escutcheonref02.Small -/
theorem small_ (x : UInt64) : Good Try.prog 32 [.c (c64 x)] [] (sa (u64s (dg x.toNat))) [] := by
  rw [← smd_dg]
  refine good_frm 18 Try.func32 rfl rfl rfl rfl rfl rfl ?_
  refine awp_seq ?_
  refine rln ?_
  refine G2 (fun _ k_ => q_al k_) ?_
  refine gend ?_
  refine awp_seq ?_
  refine rln ?_
  refine G2 (fun _ k_ => q_al k_) ?_
  refine gend ?_
  refine awp_seq ?_
  refine awp_seq ?_
  refine rln ?_
  refine G (q_as (s := sc (cn 0)) ?_)
  refine gend ?_
  refine awp_block ?_
  refine awp_loop (fun i : {i : Nat // i ≤ 4} => ⟨frm 18 [(0, sc (c64 x)), (2, sc (.ptr 0 0)), (3, sc (.ptr 1 0)), (4, sc (cn i.1))], [some (u64s (List.replicate 16 0)), some (u64s (smd x i.1))]⟩) (fun i => 4 - i.1) ⟨0, Nat.zero_le _⟩ (sle_sub ⟨rfl, rfl, rfl, rfl, trivial⟩ rfl) fun i => ?_   -- live: [0, 3, 4]
  have hl := smd_len x i.1
  refine awp_seq ?_
  refine awp_seq ?_
  refine rln ?_
  refine Mv ?_
  refine G (q_lssn (y := 4) ?_)
  refine gend ?_
  refine cnd (fun hc1 => ?_) (fun hc1 => ?_); rotate_left
  · refine awp_exit ?_
    rw [show i.1 = 4 from (by have := i.2; omega)]
    have hl := smd_len x 4
    refine awp_seq ?_
    refine rln ?_
    refine G (q_ldw ?_)
    refine G20 (fun _ k_ => q_stw k_) ?_
    refine gend ?_
    refine awp_ret ?_
    exact fpc (t := 30) (a := 2) (hn := by exact (mapc_length ..).trans hl)
  refine awp_skip ?_
  refine awp_seq ?_
  refine awp_block ?_
  refine rln ?_
  refine Mv ?_
  refine Mv ?_
  refine Mv ?_
  refine G (q_muln (x := 16) ?_)
  refine G (q_cv0_64 ?_)
  refine G (q_shr64_64 ?_)
  refine G (q_and64 (y := 65535) ?_)
  refine G (q_ixp1 ?_)
  refine G20 (fun _ k_ => q_stm k_) ?_
  refine gend ?_
  refine rln ?_
  refine Mv ?_
  refine G (q_addn (y := 1) ?_)
  refine As ?_
  refine gend ?_
  exact ⟨⟨i.1 + 1, by omega⟩, by show 4 - (i.1 + 1) < 4 - i.1; omega, sle_sub ⟨rfl, rfl, rfl, rfl, trivial⟩ rfl⟩   -- endloop 1
set_option maxHeartbeats 800000 in
/-- escutcheonref02.Add -/
theorem add_ (m n : Nat) (hm : m < 115792089237316195423570985008687907853269984665640564039457584007913129639936) (hn : n < 115792089237316195423570985008687907853269984665640564039457584007913129639936) : Good Try.prog 14 [.a (u64s (dg m)), .a (u64s (dg n))] [] (sa (u64s (dg ((m + n) % P)))) [] := by
  obtain ⟨b1, b2⟩ := sml_spec (dgk_bd 16 m) (dgk_bd 16 n)
  rw [dg_v m hm, dg_v n hn] at b2
  have gM := mod16_ (sml (dg m) (dg n) 16) (sml_len ..) (b1.mono (by decide)) (by rw [b2, show (65536 : Nat) ^ 17 = 65536 * 115792089237316195423570985008687907853269984665640564039457584007913129639936 by decide]; omega)
  rw [b2] at gM
  have hA := dg_len m
  have hB := dg_len n
  have hR := dg_len ((m + n) % P)
  generalize dg ((m + n) % P) = R at gM hR ⊢
  generalize dg m = A at hA gM ⊢
  generalize dg n = B at hB gM ⊢
  refine good_frm 23 Try.func14 rfl rfl rfl rfl rfl rfl ?_
  refine awp_seq ?_
  refine rln ?_
  refine G2 (fun _ k_ => q_boxa k_) ?_
  refine G2 (fun _ k_ => q_boxa k_) ?_
  refine G2 (fun _ k_ => q_al k_) ?_
  refine gend ?_
  refine awp_seq ?_
  refine rln ?_
  refine As ?_
  refine gend ?_
  refine awp_seq ?_
  refine awp_seq ?_
  refine rln ?_
  refine G (q_as (s := sc (cn 0)) ?_)
  refine gend ?_
  refine awp_block ?_
  refine awp_loop (fun i : {i : Nat // i ≤ 16} => ⟨frm 23 [(2, sc (.ptr 0 0)), (3, sc (.ptr 1 0)), (4, sc (.ptr 2 0)), (5, sc (.slc 3 0 i.1 1)), (6, sc (cn i.1))], [some (u64s A), some (u64s B), some (u64s (List.replicate 16 0)), some (u64s (sml A B i.1))]⟩) (fun i => 16 - i.1) ⟨0, Nat.zero_le _⟩ (sle_empty 1 (Nat.zero_le _) ⟨.inl rfl, .inl rfl, .inl rfl, .inr ⟨rfl, rfl⟩, .inl rfl, trivial⟩) fun i => ?_   -- live: [2, 3, 5, 6]
  have hl := sml_len A B i.1
  refine awp_seq ?_
  refine awp_seq ?_
  refine rln ?_
  refine Mv ?_
  refine G (q_lssn (y := 16) ?_)
  refine gend ?_
  refine cnd (fun hc1 => ?_) (fun hc1 => ?_); rotate_left
  · refine awp_exit ?_
    rw [show i.1 = 16 from (by have := i.2; omega)]
    have hl := sml_len A B 16
    refine awp_seq ?_
    refine rln ?_
    refine Mv ?_
    refine G2 (fun _ k_ => q_callp (gM) k_ (ha := (cac (et rfl) (sees_slc rfl rfl (cut_h hl)) ca0))) ?_
    refine G20 (fun _ k_ => q_stw k_) ?_
    refine gend ?_
    refine awp_ret ?_
    exact fpc (t := 30) (a := 4) (hn := by exact (mapc_length ..).trans hR)
  refine awp_skip ?_
  refine awp_seq ?_
  refine awp_block ?_
  refine rdln [8, 9] [0, 0, 0, 0, 0, 0, 0, 0, 0, 1, 2] [1, 0, 0, 0, 0, 0, 0, 0, 1, 2, 2] ?_
  refine Dp (fun _ => q_mv (s := .v (.c _)) ⟨rfl, rfl⟩) ?_
  refine Dp (fun _ => q_mv (s := .v (.c _)) ⟨rfl, rfl⟩) ?_
  refine Dp (fun _ => q_ixp1 ⟨rfl, rfl⟩) ?_
  refine DLp ?_
  refine Dp (fun _ => q_mv (s := .v (.c _)) ⟨rfl, rfl⟩) ?_
  refine Dp (fun _ => q_ixp1 ⟨rfl, rfl⟩) ?_
  refine DLp ?_
  refine Dp (fun _ => q_add64 ⟨rfl, rfl⟩) ?_
  refine De2 (fun _ k_ => q_bsl (fkc rfl (et rfl) rfl (Nat.le_of_ble_eq_true rfl) (fk0 k_))) ?_
  refine De2 (fun _ k_ => q_app  k_ (eA := el_slc (xs := u64s (sml A B i.1)) rfl (by rw [mapc_length]; omega) (cut_h hl)) (eB := el_slc (xs := [_]) rfl (Nat.le_refl 1) rfl)) ?_
  refine Dp (fun _ => q_as (s := .v (.c _)) ⟨rfl, rfl⟩) ?_
  refine dend ?_
  refine rln ?_
  refine Mv ?_
  refine G (q_addn (y := 1) ?_)
  refine As ?_
  refine gend ?_
  exact ⟨⟨i.1 + 1, by omega⟩, by show 16 - (i.1 + 1) < 16 - i.1; omega, sle_view [0, 1, 2, 5] (fun p h => absurd h (Nat.not_lt_zero _)) (by decide) ⟨rfl, rfl, rfl, rfl, rfl, trivial⟩ (vh4 (pick_m rfl) (pick_m rfl) (pick_m rfl) (pick_m (congrArg (fun z => some (some z)) ((app1 _ _).trans (congrArg u64s (sml_succ A B i.1))))))⟩   -- endloop 1
set_option maxHeartbeats 800000 in
/-- escutcheonref02.Neg -/
theorem neg_ (x : F) : Good Try.prog 21 [.a (u64s (de x))] [] (sa (u64s (de (-x)))) [] := by
  have hx := F_lt x
  have hv := dg_v x.val (F_q x)
  have bx : Bd (dg x.val) 9223372036854775808 := (dgk_bd 16 x.val).mono (by decide)
  have g1 := mod16_ (dg x.val) (dg_len _) bx (by rw [hv, show (65536 : Nat) ^ 17 = 65536 * 115792089237316195423570985008687907853269984665640564039457584007913129639936 by decide]; omega)
  rw [hv, Nat.mod_eq_of_lt x.isLt] at g1
  have g2 := minus_ P x.val (by decide) (Nat.le_of_lt x.isLt)
  have g3 := all_ (dg (P - x.val)) (dg_len _)
  have hP := P_val
  have hv2 := dg_v (P - x.val) (by omega)
  have g4 := mod16_ (dg (P - x.val)) (dg_len _) ((dgk_bd 16 _).mono (by decide)) (by rw [hv2, show (65536 : Nat) ^ 17 = 65536 * 115792089237316195423570985008687907853269984665640564039457584007913129639936 by decide]; omega)
  rw [hv2] at g4
  rw [show de (-x) = dg ((P - x.val) % P) from rfl]
  have hA : (dg x.val).length = 16 := dg_len _
  have hB := dg_len (P - x.val)
  have hC := dg_len ((P - x.val) % P)
  generalize dg ((P - x.val) % P) = C at g4 hC ⊢
  generalize dg (P - x.val) = B at g2 g3 g4 hB
  have hA' : (de x).length = 16 := hA
  refine good_frm 10 Try.func21 rfl rfl rfl rfl rfl rfl ?_
  refine awp_seq ?_
  refine rln ?_
  refine G2 (fun _ k_ => q_boxa k_) ?_
  refine G2 (fun _ k_ => q_al k_) ?_
  refine gend ?_
  refine awp_seq ?_
  refine rln ?_
  refine G (q_slp_no ?_)
  refine G2 (fun _ k_ => q_callp (g1) k_ (ha := (cac (et rfl) (sees_slc rfl rfl (cut_h hA)) ca0))) ?_
  refine G20 (fun _ k_ => q_stw k_) ?_
  refine gend ?_
  refine awp_seq ?_
  refine rdln [0, 2, 3, 4, 5] [0, 0, 1, 2, 3, 4] [1, 1, 2, 3, 4, 5] ?_
  refine De2 (fun _ k_ => q_callp (prime_) k_) ?_
  refine DLw ?_
  refine De2 (fun _ k_ => q_callp (g2) k_) ?_
  refine De2 (fun _ k_ => q_calln g3 k_) ?_
  refine De2 (fun _ k_ => q_callp (g4) k_ (ha := (cac (et rfl) (sees_slc rfl rfl (cut_h hB)) ca0))) ?_
  refine De20 (fun _ k_ => q_stw k_) ?_
  refine dend ?_
  refine awp_ret ?_
  exact fpc (t := 30) (a := 2) (hn := by exact (mapc_length ..).trans hC)
theorem add_e (x y : F) : Good Try.prog 14 [.a (u64s (de x)), .a (u64s (de y))] [] (sa (u64s (de (x + y)))) [] := by
  have := add_ x.val y.val (F_q x) (F_q y)
  rwa [← Fin.val_add] at this
/-- escutcheonref02.Sub -/
theorem sub_e (x y : F) : Good Try.prog 16 [.a (u64s (de x)), .a (u64s (de y))] [] (sa (u64s (de (x - y)))) [] := by
  rw [show x - y = x + -y by grind]
  have hx := de_len x
  have hy := de_len y
  have hz := de_len (x + -y)
  refine good_frm 9 Try.func16 rfl rfl rfl rfl rfl rfl ?_
  refine awp_seq ?_
  refine rln ?_
  refine G2 (fun _ k_ => q_boxa k_) ?_
  refine G2 (fun _ k_ => q_boxa k_) ?_
  refine G2 (fun _ k_ => q_al k_) ?_
  refine gend ?_
  refine awp_seq ?_
  refine rdln [2, 3, 4] [0, 0, 0, 1, 2] [1, 0, 1, 2, 3] ?_
  refine DLw ?_
  refine DLw ?_
  refine De2 (fun _ k_ => q_callp (neg_ y) k_) ?_
  refine De2 (fun _ k_ => q_callp (add_e x (-y)) k_) ?_
  refine De20 (fun _ k_ => q_stw k_) ?_
  refine dend ?_
  refine awp_ret ?_
  exact fpc (t := 30) (a := 4) (hn := by exact (mapc_length ..).trans hz)
set_option maxHeartbeats 800000 in
/-- escutcheonref02.Mul -/
theorem mul_ (m n : Nat) (hm : m < 115792089237316195423570985008687907853269984665640564039457584007913129639936) (hn : n < 115792089237316195423570985008687907853269984665640564039457584007913129639936) : Good Try.prog 18 [.a (u64s (dg m)), .a (u64s (dg n))] [] (sa (u64s (dg (m * n % P)))) [] := by
  obtain ⟨p1, p2, p3, p4, p5⟩ := prod_ok hm hn
  have gC := car_ (pout (dg m) (dg n) 16) 31 (pout_len ..) (by decide) p1 p2
  have gM := modL_ (carL (pout (dg m) (dg n) 16)) (m * n % P) p3 p4 (by rw [p5])
  have hA := dg_len m
  have hB := dg_len n
  have hbA : Bd (dg m) 65535 := dgk_bd 16 m
  have hR := dg_len (m * n % P)
  generalize dg (m * n % P) = R at gM hR ⊢
  generalize dg m = A at hA gM gC p4 ⊢
  generalize dg n = B at hB gM gC p4 ⊢
  refine good_frm 39 Try.func18 rfl rfl rfl rfl rfl rfl ?_
  refine awp_seq ?_
  refine rln ?_
  refine G2 (fun _ k_ => q_boxa k_) ?_
  refine G2 (fun _ k_ => q_boxa k_) ?_
  refine G2 (fun _ k_ => q_al k_) ?_
  refine gend ?_
  refine awp_seq ?_
  refine rln ?_
  refine G2 (fun _ k_ => q_mks k_) ?_
  refine As ?_
  refine gend ?_
  refine awp_seq ?_
  refine awp_seq ?_
  refine rln ?_
  refine G (q_as (s := sc (cn 0)) ?_)
  refine gend ?_
  refine awp_block ?_
  refine awp_loop (fun i : {i : Nat // i ≤ 16} => ⟨frm 39 [(2, sc (.ptr 0 0)), (3, sc (.ptr 1 0)), (4, sc (.ptr 2 0)), (5, sc (.slc 3 0 31 1)), (6, sc (cn i.1))], [some (u64s A), some (u64s B), some (u64s (List.replicate 16 0)), some (u64s (pout A B i.1))]⟩) (fun i => 16 - i.1) ⟨0, Nat.zero_le _⟩ (sle_sub ⟨rfl, rfl, rfl, rfl, rfl, trivial⟩ (by rw [show pout A B 0 = List.replicate 31 0 from rfl, ← rep31])) fun i => ?_   -- live: [2, 3, 5, 6]
  have hl := pout_len A B i.1
  refine awp_seq ?_
  refine awp_seq ?_
  refine rln ?_
  refine Mv ?_
  refine G (q_lssn (y := 16) ?_)
  refine gend ?_
  refine cnd (fun hc1 => ?_) (fun hc1 => ?_); rotate_left
  · refine awp_exit ?_
    rw [show i.1 = 16 from (by have := i.2; omega)]
    have hl := pout_len A B 16
    generalize hW : pout A B 16 = W at hl gC gM p4 ⊢
    generalize hC : carL W = C at gC gM p4
    refine awp_seq ?_
    refine rln ?_
    refine Mv ?_
    refine G2 (fun _ k_ => q_callv [3] [none] [some (u64s C)] (gC) k_ (ha := (cac (et rfl) rfl ca0)) (e2 := pl1 rfl sees_m pl0) (eL := mln ml0) (eM := (ml1 sees_m ml0)) (e3 := rfl)) ?_
    refine G2 (fun _ k_ => q_callv [4] [none] [] (gM) k_ (ha := (cac (et rfl) rfl ca0)) (e2 := pl1 rfl sees_m pl0) (eL := mln ml0) (eM := ml0) (e3 := rs_m)) ?_
    refine G20 (fun _ k_ => q_stw k_) ?_
    refine gend ?_
    refine awp_ret ?_
    exact fpc (t := 30) (a := 4) (hn := by exact (mapc_length ..).trans hR)
  refine awp_skip ?_
  refine awp_seq ?_
  refine awp_block ?_
  refine awp_seq ?_
  refine rln ?_
  refine G (q_as (s := sc (cn 0)) ?_)
  refine gend ?_
  refine awp_block ?_
  refine awp_loop (fun k : {i : Nat // i ≤ 16} => ⟨frm 39 [(2, sc (.ptr 0 0)), (3, sc (.ptr 1 0)), (4, sc (.ptr 2 0)), (5, sc (.slc 3 0 31 1)), (6, sc (cn i.1)), (7, sc (cn k.1))], [some (u64s A), some (u64s B), some (u64s (List.replicate 16 0)), some (u64s (pin A B i.1 (pout A B i.1) k.1))]⟩) (fun k => 16 - k.1) ⟨0, Nat.zero_le _⟩ (sle_sub ⟨rfl, rfl, rfl, rfl, rfl, rfl, trivial⟩ rfl) fun k => ?_   -- live: [2, 3, 5, 6, 7]
  have hl2 := (pin_len A B i.1 (pout A B i.1) k.1).trans hl
  refine awp_seq ?_
  refine awp_seq ?_
  refine rln ?_
  refine Mv ?_
  refine G (q_lssn (y := 16) ?_)
  refine gend ?_
  refine cnd (fun hc2 => ?_) (fun hc2 => ?_); rotate_left
  · refine awp_exit ?_
    rw [show k.1 = 16 from (by have := k.2; omega)]
    refine rln ?_
    refine Mv ?_
    refine G (q_addn (y := 1) ?_)
    refine As ?_
    refine gend ?_
    exact ⟨⟨i.1 + 1, by omega⟩, by show 16 - (i.1 + 1) < 16 - i.1; omega, sle_sub ⟨rfl, rfl, rfl, rfl, rfl, trivial⟩ rfl⟩   -- endloop 1
  refine awp_skip ?_
  refine awp_seq ?_
  refine awp_block ?_
  refine rdln [19] [] [0, 0, 0, 0, 0, 0, 0, 0, 0, 0, 0, 0, 0, 0, 0, 0, 0, 0, 0, 1] ?_
  refine Dp (fun _ => q_mv (s := .v (.c _)) ⟨rfl, rfl⟩) ?_
  refine Dp (fun _ => q_mv (s := .v (.c _)) ⟨rfl, rfl⟩) ?_
  refine Dp (fun _ => q_mv (s := .v (.c _)) ⟨rfl, rfl⟩) ?_
  refine Dp (fun _ => q_addn ⟨rfl, rfl⟩) ?_
  refine Dp (fun _ => q_mv (s := .v (.c _)) ⟨rfl, rfl⟩) ?_
  refine Dp (fun _ => q_mv (s := .v (.c _)) ⟨rfl, rfl⟩) ?_
  refine Dp (fun _ => q_mv (s := .v (.c _)) ⟨rfl, rfl⟩) ?_
  refine Dp (fun _ => q_addn ⟨rfl, rfl⟩) ?_
  refine Dp (fun _ => q_ixs1 ⟨rfl, rfl⟩) ?_
  refine DLp ?_
  refine Dp (fun _ => q_mv (s := .v (.c _)) ⟨rfl, rfl⟩) ?_
  refine Dp (fun _ => q_ixp1 ⟨rfl, rfl⟩) ?_
  refine DLp ?_
  refine Dp (fun _ => q_mv (s := .v (.c _)) ⟨rfl, rfl⟩) ?_
  refine Dp (fun _ => q_ixp1 ⟨rfl, rfl⟩) ?_
  refine DLp ?_
  refine Dp (fun _ => q_mul64 ⟨rfl, rfl⟩) ?_
  refine Dp (fun _ => q_add64 ⟨rfl, rfl⟩) ?_
  refine Dp (fun _ => q_ixs1 ⟨rfl, rfl⟩) ?_
  refine De20 (fun _ k_ => q_stm k_) ?_
  refine dend ?_
  refine rln ?_
  refine Mv ?_
  refine G (q_addn (y := 1) ?_)
  refine As ?_
  refine gend ?_
  exact ⟨⟨k.1 + 1, by omega⟩, by show 16 - (k.1 + 1) < 16 - k.1; omega, sle_sub ⟨rfl, rfl, rfl, rfl, rfl, rfl, trivial⟩ rfl⟩   -- endloop 2
theorem mul_e (x y : F) : Good Try.prog 18 [.a (u64s (de x)), .a (u64s (de y))] [] (sa (u64s (de (x * y)))) [] := by
  have := mul_ x.val y.val (F_q x) (F_q y)
  rwa [← Fin.val_mul] at this
theorem small_1 : Good Try.prog 32 [.c (c64 1)] [] (sa (u64s (de 1))) [] := small_ 1
theorem small_2 : Good Try.prog 32 [.c (c64 2)] [] (sa (u64s (de 2))) [] := small_ 2
end Go.Proofs.Ytjibmonfmhdbbaa.Rn

/- What functions of the program do, walked over the abstract machine. -/
namespace Go.Proofs.Ytjibmonfmhdbbaa.Fl
open Go Go.Abs Go.Proofs Go.Proofs.Ytjibmonfmhdbbaa.Fd Go.Proofs.Ytjibmonfmhdbbaa.Rn

open Go.Nt Fd Rn
/-- escutcheonlaw02.num -/
theorem num_ (b : List UInt8) (hb : b.length = 32) : Good Try.prog 11 [.a (u8s b)] [] (sa (u64s (de (fb b)))) [] := by
  have hq : bv (b.set 31 (b.getD 31 0 % 128)) = bv b % 57896044618658097711785492504343953926634992332820282019728792003956564819968 := num_fb b hb
  have hs : (b.set 31 (b.getD 31 0 % 128)).length = 32 := List.length_set.trans hb
  have g1 := Rn.of_ (b.set 31 (b.getD 31 0 % 128)) hs
  have hlt : bv b % 57896044618658097711785492504343953926634992332820282019728792003956564819968 < 57896044618658097711785492504343953926634992332820282019728792003956564819968 := Nat.mod_lt _ (by decide)
  have g2 := Rn.add_ (bv b % 57896044618658097711785492504343953926634992332820282019728792003956564819968) 0 (by omega) (by decide)
  rw [Nat.add_zero] at g2
  rw [hq] at g1
  have hA := dg_len (bv b % 57896044618658097711785492504343953926634992332820282019728792003956564819968)
  rw [show de (fb b) = dg (bv b % 57896044618658097711785492504343953926634992332820282019728792003956564819968 % P) from rfl]
  have hB := dg_len (bv b % 57896044618658097711785492504343953926634992332820282019728792003956564819968 % P)
  generalize dg (bv b % 57896044618658097711785492504343953926634992332820282019728792003956564819968 % P) = B at g2 hB ⊢
  generalize dg (bv b % 57896044618658097711785492504343953926634992332820282019728792003956564819968) = A at g1 g2 hA
  refine good_frm 11 Try.func11 rfl rfl rfl rfl rfl rfl ?_
  refine awp_seq ?_
  refine rln ?_
  refine G2 (fun _ k_ => q_boxa k_) ?_
  refine G2 (fun _ k_ => q_al k_) ?_
  refine gend ?_
  refine awp_seq ?_
  refine rln ?_
  refine G (q_ixp1 ?_)
  refine G (q_ldp ?_)
  refine G (q_rem8 (y := 128) ?_ (hz := by decide))
  refine G (q_ixp1 ?_)
  refine G20 (fun _ k_ => q_stm k_) ?_
  refine gend ?_
  refine awp_seq ?_
  refine rln ?_
  refine G (q_ldw ?_)
  refine G2 (fun _ k_ => q_callp (g1) k_) ?_
  rw [show u64s (List.replicate 16 0) = u64s (dg 0) from congrArg u64s rep_de]
  refine G (q_bla (fk0 ?_))
  refine G2 (fun _ k_ => q_callp (g2) k_) ?_
  refine G20 (fun _ k_ => q_stw k_) ?_
  refine gend ?_
  refine awp_ret ?_
  exact fpc (t := 30) (a := 2) (hn := by exact (mapc_length ..).trans hB)
/-- escutcheonlaw02.is -/
theorem is_ (x y : F) : Good Try.prog 12 [.a (u64s (el x)), .a (u64s (de y))] [] (sc (.bool (decide (x = y)))) [] := by
  have hx := by32_len x.val
  have hy := by32_len y.val
  refine good_frm 10 Try.func12 rfl rfl rfl rfl rfl rfl ?_
  refine awp_seq ?_
  refine rln ?_
  refine G2 (fun _ k_ => q_boxa k_) ?_
  refine G2 (fun _ k_ => q_boxa k_) ?_
  refine As ?_
  refine gend ?_
  refine awp_seq ?_
  refine rdln [1, 3] [0, 0, 0, 1, 2, 2] [0, 1, 1, 2, 2, 2] ?_
  refine DLw ?_
  refine De2 (fun _ k_ => q_callp (bytes_e x) k_) ?_
  refine DLw ?_
  refine De2 (fun _ k_ => q_callp (Rn.bytes_ y.val) k_) ?_
  refine Dp (fun _ => q_eqa8 ⟨rfl, rfl⟩) ?_
  refine Dp (fun _ => q_as (s := .v (.c _)) ⟨rfl, rfl⟩) ?_
  refine dend ?_
  refine awp_ret ?_
  exact fp1 (hv := congrArg (fun b => sc (.bool b)) (decide_eq_decide.2 ⟨fun h => h ▸ rfl, fun h => bye_inj h⟩))
theorem is_t (x y : F) (h : x = y) : Good Try.prog 12 [.a (u64s (el x)), .a (u64s (de y))] [] (sc (.bool true)) [] := by
  have := is_ x y
  rwa [decide_eq_true h] at this
theorem eq_t (x y : F) (h : x = y) : Good Try.prog 28 [.a (u64s (el x)), .a (u64s (el y))] [] (sc (.bool true)) [] := by
  have := equal_e x y
  rwa [decide_eq_true h] at this
theorem eq_f (x y : F) (h : x ≠ y) : Good Try.prog 28 [.a (u64s (el x)), .a (u64s (el y))] [] (sc (.bool false)) [] := by
  have := equal_e x y
  rwa [decide_eq_false h] at this
theorem kn1 : (2 : F) ≠ 0 := by decide
theorem kn_2 : inv 2 * 4 = 2 := by
  have h := mul_inv kn1
  grind
theorem kb : bye (0 - 1 : F) = 236 :: (List.replicate 30 255 ++ [127]) := by decide +kernel
theorem small_4 : Good Try.prog 27 [.c (c64 4)] [] (sa (u64s (el 4))) [] := small_e 4
set_option maxHeartbeats 800000 in
/-- escutcheonlaw02.known -/
theorem known_ : Good Try.prog 22 [] [] (sc (.bool true)) [] := by
  have hk2 := kn_2
  have hkb := kb
  have gB := bytes_e (0 - 1)
  rw [hkb] at gB
  refine good_frm 32 Try.func22 rfl rfl rfl rfl rfl rfl ?_
  refine awp_seq ?_
  refine rln ?_
  refine As ?_
  refine gend ?_
  refine awp_seq ?_
  refine rln ?_
  refine G2 (fun _ k_ => q_callp (small_0) k_ (ha := (cac rfl cm_int ca0))) ?_
  refine G2 (fun _ k_ => q_callp (small_1) k_ (ha := (cac rfl cm_int ca0))) ?_
  refine G2 (fun _ k_ => q_callp (sub_e 0 1) k_) ?_
  refine G2 (fun _ k_ => q_callp (gB) k_) ?_
  refine G2 (fun _ k_ => q_al k_) ?_
  refine G20 (fun _ k_ => q_stw k_) ?_
  refine gend ?_
  refine awp_seq ?_
  refine rln ?_
  refine G2 (fun _ k_ => q_callp (small_2) k_ (ha := (cac rfl cm_int ca0))) ?_
  refine G2 (fun _ k_ => q_callp (inv_e 2) k_) ?_
  refine G2 (fun _ k_ => q_callp (small_4) k_ (ha := (cac rfl cm_int ca0))) ?_
  refine G2 (fun _ k_ => q_callp (mul_e (inv 2) 4) k_) ?_
  refine G2 (fun _ k_ => q_callp (small_2) k_ (ha := (cac rfl cm_int ca0))) ?_
  refine G2 (fun _ k_ => q_callp (eq_t _ _ hk2) k_) ?_
  refine Mv ?_
  refine Gg (q_ixp1 ?_)
  refine Gg (q_ldp ?_)
  refine Gg (q_eql8 (y := 236) ?_)
  refine G (q_pkt ?_)
  refine Mv ?_
  refine Aknd 17 (fun hb12 => ?_) ?_; rotate_left
  · exact rfl
  refine Gg (q_ixp1 ?_)
  refine Gg (q_ldp ?_)
  refine Gg (q_eql8 (y := 255) ?_)
  refine G (q_pkt ?_)
  refine Mv ?_
  refine Aknd 22 (fun hb17 => ?_) ?_; rotate_left
  · exact rfl
  refine Gg (q_ixp1 ?_)
  refine Gg (q_ldp ?_)
  refine Gg (q_eql8 (y := 255) ?_)
  refine G (q_pkt ?_)
  refine Mv ?_
  refine Aknd 27 (fun hb22 => ?_) ?_; rotate_left
  · exact rfl
  refine Gg (q_ixp1 ?_)
  refine Gg (q_ldp ?_)
  refine Gg (q_eql8 (y := 127) ?_)
  refine G (q_pkt ?_)
  refine As ?_
  refine gend ?_
  refine awp_ret ?_
  exact fp1
end Go.Proofs.Ytjibmonfmhdbbaa.Fl

/- What functions of the program do, walked over the abstract machine. -/
namespace Go.Proofs.Ytjibmonfmhdbbaa.Rn
open Go Go.Abs Go.Proofs

open Go.Nt Fd
end Go.Proofs.Ytjibmonfmhdbbaa.Rn

/- What functions of the program do, walked over the abstract machine. -/
namespace Go.Proofs.Ytjibmonfmhdbbaa.Fd
open Go Go.Abs Go.Proofs

open Go.Nt
/-- The even one of two opposite numbers. -/
def evn (x : F) : F := if decide (x.val % 2 = 1) then -x else x
theorem eq_t (x y : F) (h : x = y) : Good Try.prog 28 [.a (u64s (el x)), .a (u64s (el y))] [] (sc (.bool true)) [] := by
  have := equal_e x y
  rwa [decide_eq_true h] at this
theorem eq_f (x y : F) (h : x ≠ y) : Good Try.prog 28 [.a (u64s (el x)), .a (u64s (el y))] [] (sc (.bool false)) [] := by
  have := equal_e x y
  rwa [decide_eq_false h] at this
/-- field.Canonical -/
theorem canonical_ (b : List UInt8) (hb : b.length = 32) : Good Try.prog 33 [.a (u8s b)] [] (sc (.bool (decide (bye (fb b) = b)))) [] := by
  have hl := by32_len (fb b).val
  refine good_frm 8 Try.func33 rfl rfl rfl rfl rfl rfl ?_
  refine awp_seq ?_
  refine rln ?_
  refine G2 (fun _ k_ => q_boxa k_) ?_
  refine As ?_
  refine gend ?_
  refine awp_seq ?_
  refine rdln [1, 2] [0, 0, 1, 0, 2, 2] [0, 1, 2, 2, 2, 2] ?_
  refine DLw ?_
  refine De2 (fun _ k_ => q_callp (of_e b hb) k_) ?_
  refine De2 (fun _ k_ => q_callp (bytes_e (fb b)) k_) ?_
  refine DLw ?_
  refine Dp (fun _ => q_eqa8 ⟨rfl, rfl⟩) ?_
  refine Dp (fun _ => q_as (s := .v (.c _)) ⟨rfl, rfl⟩) ?_
  refine dend ?_
  refine awp_ret ?_
  exact fp1
end Go.Proofs.Ytjibmonfmhdbbaa.Fd

/- What functions of the program do, walked over the abstract machine. -/
namespace Go.Proofs.Ytjibmonfmhdbbaa.Fl
open Go Go.Abs Go.Proofs Go.Proofs.Ytjibmonfmhdbbaa.Fd Go.Proofs.Ytjibmonfmhdbbaa.Rn

open Go.Nt Fd Rn
theorem fb_high (b : List UInt8) (hb : b.length = 32) : fb (b.set 31 (b.getD 31 0 % 128)) = fb b := by
  apply Fin.ext
  show bv (b.set 31 (b.getD 31 0 % 128)) % 57896044618658097711785492504343953926634992332820282019728792003956564819968 % P = bv b % 57896044618658097711785492504343953926634992332820282019728792003956564819968 % P
  rw [num_fb b hb, Nat.mod_mod]
theorem canon_eq (b : List UInt8) (hb : b.length = 32) : decide (bye (fb b) = b) = decide (bv b < P) := by
  rw [decide_eq_decide]
  have hlt := F_lt (fb b)
  constructor
  · intro h
    have e : bv b = (fb b).val := by
      have := congrArg bv h
      rw [bv_by32 _ (by omega)] at this; exact this.symm
    rw [e]; exact (fb b).isLt
  · intro h
    have hp := P_val
    have e : (fb b).val = bv b := by
      show bv b % 57896044618658097711785492504343953926634992332820282019728792003956564819968 % P = bv b
      rw [Nat.mod_eq_of_lt (a := bv b) (b := 57896044618658097711785492504343953926634992332820282019728792003956564819968) (by omega), Nat.mod_eq_of_lt h]
    show by32 (fb b).val = b
    rw [e, by32_bv b hb]
set_option maxHeartbeats 1600000 in
/-- escutcheonlaw02.FieldReads -/
theorem reads_ (b : List UInt8) (n : UInt64) (hb : b.length = 32) : Good Try.prog 6 [.a (u8s b), .c (c64 n)] [] (sc (.bool true)) [] := by
  have hbl : (b.set 31 (b.getD 31 0 % 128)).length = 32 := List.length_set.trans hb
  have g1 := Rn.of_ b hb
  have g2 := Rn.less_ (bv b) P (bv_lt b) (by decide)
  have g3 := canonical_ b hb
  rw [canon_eq b hb] at g3
  have g4 := Rn.small_ n
  have hn : n.toNat = (Fin.ofNat P n.toNat : F).val := by
    have := n.toNat_lt
    show _ = n.toNat % P
    rw [Nat.mod_eq_of_lt (by have := P_val; omega)]
  rw [show dg n.toNat = de (Fin.ofNat P n.toNat) from congrArg dg hn] at g4
  have hdl := dg_len (bv b)
  refine good_frm 44 Try.func6 rfl rfl rfl rfl rfl rfl ?_
  refine awp_seq ?_
  refine rln ?_
  refine G2 (fun _ k_ => q_boxa k_) ?_
  refine As ?_
  refine gend ?_
  refine awp_seq ?_
  refine rln ?_
  refine G (q_ldw ?_)
  refine G2 (fun _ k_ => q_al k_) ?_
  refine G20 (fun _ k_ => q_stw k_) ?_
  refine gend ?_
  refine awp_seq ?_
  refine rln ?_
  refine G (q_ixp1 ?_)
  refine G (q_ldp ?_)
  refine G (q_rem8 (y := 128) ?_ (hz := by decide))
  refine G (q_ixp1 ?_)
  refine G20 (fun _ k_ => q_stm k_) ?_
  refine gend ?_
  refine awp_seq ?_
  refine rln ?_
  refine G (q_ldw ?_)
  refine G2 (fun _ k_ => q_callp (g1) k_) ?_
  refine G2 (fun _ k_ => q_callp (Rn.prime_) k_) ?_
  refine G2 (fun _ k_ => q_callp (g2) k_) ?_
  refine As ?_
  refine gend ?_
  refine awp_seq ?_
  refine rdln [1, 3, 4, 7, 9, 10, 14, 16, 17, 21, 26] [0, 0, 0, 1, 2, 3, 3, 3, 3, 4, 5, 6, 6, 6, 6, 6, 7, 8, 9, 9, 9, 9, 9, 10, 10, 10, 10, 11, 11] [0, 1, 1, 2, 3, 3, 3, 4, 4, 5, 6, 6, 6, 6, 7, 7, 8, 9, 9, 9, 9, 10, 10, 10, 10, 10, 11, 11, 11] ?_
  refine DLw ?_
  refine De2 (fun _ k_ => q_callp (of_e b hb) k_) ?_
  refine DLw ?_
  refine De2 (fun _ k_ => q_callp (num_ b hb) k_) ?_
  refine De2 (fun _ k_ => q_callp (is_t _ _ rfl) k_) ?_
  refine Dp (fun _ => q_mv (s := .v (.c _)) ⟨rfl, rfl⟩) ?_
  refine DLwg ?_
  refine De2g (fun _ k_ => q_callp (of_e b hb) k_) ?_
  refine DLwg ?_
  refine De2g (fun _ k_ => q_callp (of_e _ hbl) k_) ?_
  refine De2g (fun _ k_ => q_callp (eq_t _ _ (fb_high b hb).symm) k_) ?_
  refine Dp (fun _ => q_pkt ⟨rfl, rfl⟩) ?_
  refine Dp (fun _ => q_mv (s := .v (.c _)) ⟨rfl, rfl⟩) ?_
  refine Dpg (fun _ => q_mv (s := .v (.c _)) ⟨rfl, rfl⟩) ?_
  refine De2g (fun _ k_ => q_callp (small_e n) k_) ?_
  refine Dpg (fun _ => q_mv (s := .v (.c _)) ⟨rfl, rfl⟩) ?_
  refine De2g (fun _ k_ => q_callp (g4) k_) ?_
  refine De2g (fun _ k_ => q_callp (is_t _ _ rfl) k_) ?_
  refine Dp (fun _ => q_pkt ⟨rfl, rfl⟩) ?_
  refine Dp (fun _ => q_mv (s := .v (.c _)) ⟨rfl, rfl⟩) ?_
  refine DLwg ?_
  refine De2g (fun _ k_ => q_callp (g3) k_) ?_
  refine Dpg (fun _ => q_mv (s := .v (.c _)) ⟨rfl, rfl⟩) ?_
  refine Dpg (fun _ => q_eqlb ⟨rfl, rfl⟩) ?_
  refine Dp (fun _ => q_pkt ⟨rfl, rfl⟩) ?_
  refine Dp (fun _ => q_mv (s := .v (.c _)) ⟨rfl, rfl⟩) ?_
  refine Dkn 41 (fun hb26 => ?_) ?_; rotate_left
  · first | exact rfl | (simp; done)
  refine De2g (fun _ k_ => q_callp (known_) k_) ?_
  refine Dp (fun _ => q_pkt ⟨rfl, rfl⟩) ?_
  refine Dp (fun _ => q_as (s := .v (.c _)) ⟨rfl, rfl⟩) ?_
  refine dend ?_
  refine awp_ret ?_
  exact fp1
end Go.Proofs.Ytjibmonfmhdbbaa.Fl


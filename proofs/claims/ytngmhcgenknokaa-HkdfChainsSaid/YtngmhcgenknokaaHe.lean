/- What functions of the program do, walked over the abstract machine. -/
import Derived.Test.YtngmhcgenknokaaHd
namespace Go.Proofs.Ytngmhcgenknokaa
open Go Go.Abs Go.Proofs

theorem known_ne : h3x (1 :: List.replicate 31 0) [2] ≠ h3y (1 :: List.replicate 31 0) [2] ∧ h3z (1 :: List.replicate 31 0) [2] ≠ h3x (1 :: List.replicate 31 0) [2] := by decide +kernel
set_option maxHeartbeats 800000 in
/-- escutcheonlaw12.known -/
theorem known : Good Try.prog 7 [] [] (sc (.bool true)) [] := by
  have g1 := two_ (1 :: List.replicate 31 0) [2] 1 (by decide) rfl (by decide)
  have g2 := three_ (1 :: List.replicate 31 0) [2] 1 (by decide) rfl (by decide)
  obtain ⟨hne1, hne2⟩ := known_ne
  obtain ⟨X, hX⟩ : ∃ z, h3x (1 :: List.replicate 31 0) [2] = z := ⟨_, rfl⟩
  have hXl : X.length = 32 := by rw [← hX]; exact h3x_len _ _
  obtain ⟨Y, hY⟩ : ∃ z, h3y (1 :: List.replicate 31 0) [2] = z := ⟨_, rfl⟩
  have hYl : Y.length = 32 := by rw [← hY]; exact h3y_len _ _
  obtain ⟨Z, hZ⟩ : ∃ z, h3z (1 :: List.replicate 31 0) [2] = z := ⟨_, rfl⟩
  have hZl : Z.length = 32 := by rw [← hZ]; exact h3z_len _ _
  rw [hX, hY] at g1 hne1
  rw [hX, hY, hZ] at g2
  rw [hX, hZ] at hne2
  refine good_frm 37 Try.func7 rfl rfl rfl rfl rfl rfl ?_
  refine awp_seq ?_
  refine rln ?_
  refine As ?_
  refine gend ?_
  refine awp_seq ?_
  refine rln ?_
  refine G (q_bla (fkc (c := c8 1) rfl rfl rfl (Nat.le_of_ble_eq_true rfl) (fk0 ?_)))
  refine G2 (fun _ k_ => q_bsl (fkc (c := c8 2) rfl rfl rfl (Nat.le_of_ble_eq_true rfl) (fk0 k_))) ?_
  refine G2 (fun _ k_ => q_callp g1 k_ (ha := (caa (et rfl) rfl (cac (et rfl) (sees_slc rfl rfl rfl) ca0)))) ?_
  refine G (q_mv (s := .t _) ?_)
  refine G (q_ext (y := .a _) ?_)
  refine G (q_ext (y := .a _) ?_)
  refine G2 (fun _ k_ => q_al k_) ?_
  refine G2 (fun _ k_ => q_al k_) ?_
  refine G20 (fun _ k_ => q_stw k_) ?_
  refine G20 (fun _ k_ => q_stw k_) ?_
  refine gend ?_
  refine awp_seq ?_
  refine rln ?_
  refine G (q_bla (fkc (c := c8 1) rfl rfl rfl (Nat.le_of_ble_eq_true rfl) (fk0 ?_)))
  refine G2 (fun _ k_ => q_bsl (fkc (c := c8 2) rfl rfl rfl (Nat.le_of_ble_eq_true rfl) (fk0 k_))) ?_
  refine G2 (fun _ k_ => q_callp g2 k_ (ha := (caa (et rfl) rfl (cac (et rfl) (sees_slc rfl rfl rfl) ca0)))) ?_
  refine G (q_mv (s := .t _) ?_)
  refine G (q_ext (y := .a _) ?_)
  refine G (q_ext (y := .a _) ?_)
  refine G (q_ext (y := .a _) ?_)
  refine G2 (fun _ k_ => q_al k_) ?_
  refine G2 (fun _ k_ => q_al k_) ?_
  refine G2 (fun _ k_ => q_al k_) ?_
  refine G20 (fun _ k_ => q_stw k_) ?_
  refine G20 (fun _ k_ => q_stw k_) ?_
  refine G20 (fun _ k_ => q_stw k_) ?_
  refine gend ?_
  refine awp_seq ?_
  refine rln ?_
  refine G (q_ldw ?_)
  refine G (q_ldw ?_)
  refine G (q_eqa8 ?_)
  refine Mv ?_
  refine Aknd 22 (fun hb4 => ?_) ?_; rotate_left
  · exact rfl
  refine Gg (q_ldw ?_)
  refine Gg (q_ldw ?_)
  refine Gg (q_eqa8 ?_)
  refine G (q_pkt ?_)
  refine Mv ?_
  refine Aknd 27 (fun hb9 => ?_) ?_; rotate_left
  · exact rfl
  refine Gg (q_ldw ?_)
  refine Gg (q_ldw ?_)
  refine Gg (q_nea8 ?_)
  refine G (q_pkt ?_)
  refine Mv ?_
  refine Akn 32 (fun hb14 => ?_) ?_; rotate_left
  · simpa using hne1
  refine Gg (q_ldw ?_)
  refine Gg (q_ldw ?_)
  refine Gg (q_nea8 ?_)
  refine G (q_pkt ?_)
  refine As ?_
  refine gend ?_
  refine awp_ret ?_
  exact fp1 (hv := by rw [decide_eq_false hne2]; rfl)
set_option maxHeartbeats 1600000 in
/-- escutcheonlaw12.HkdfMacs -/
theorem macs_ (key m : List UInt8) (n k : Nat) (a : Int) (hn : key.length = n) (hn9 : n ≤ 140737488351232) (hk : m.length = k) (hk9 : k ≤ 140737488351232) : Good Try.prog 3 [.c (.ro n (u8s key)), .c (.ro k (u8s m)), .c (ci a)] [] (sc (.bool true)) [] := by
  refine good_frm 56 Try.func3 rfl rfl rfl rfl rfl rfl ?_
  refine awp_seq ?_
  refine rln ?_
  refine As ?_
  refine gend ?_
  refine awp_seq ?_
  refine awp_seq ?_
  refine rln ?_
  refine Mv ?_
  refine G (q_leno ?_)
  refine G (q_gtrn (y := 300) ?_)
  refine Mv ?_
  refine Aspd 12 (fun hb4 => ?_) (fun hb4 => ?_)
  · refine Gn ?_
    refine Gn ?_
    refine Gn ?_
    refine G (q_pkt ?_)
    refine gend ?_
    refine cndT ?_
    refine awp_seq ?_
    refine rln ?_
    refine G2 (fun _ k_ => q_callp (known/- escutcheon/escutcheonlaw12.known -/) k_) ?_
    refine As ?_
    refine gend ?_
    refine awp_ret ?_
    exact fp1
  refine Gg (q_mv (s := .v (.c _)) ?_)
  refine Gg (q_leno ?_)
  refine Gg (q_gtrn (y := 300) ?_)
  refine G (q_pkf ?_)
  refine gend ?_
  refine cnd (fun hc1 => ?_) (fun hc1 => ?_)
  · refine awp_seq ?_
    refine rln ?_
    refine G2 (fun _ k_ => q_callp (known/- escutcheon/escutcheonlaw12.known -/) k_) ?_
    refine As ?_
    refine gend ?_
    refine awp_ret ?_
    exact fp1
  obtain ⟨W, hW⟩ : ∃ W, hmac key m = W := ⟨_, rfl⟩
  have hWl : W.length = 32 := by rw [← hW]; exact hmac_len _ _
  have hta := tmod_le a k
  obtain ⟨c, hc, hac⟩ := cut_at a k
  have gw := rmac_ key m n k hn (by omega) hk (by omega)
  have g1 := mac1 key m n k hn (by omega) hk (by omega)
  have g2 := mac_ key m [m.take c, m.drop c] n 2 hn (by omega) rfl (by decide) (by simp) (by omega)
  rw [hW] at gw g1 g2
  have ht1 : (m.take c).length = c := by rw [List.length_take]; omega
  have ht2 : (m.drop c).length = k - c := by rw [List.length_drop]; omega
  refine awp_skip ?_
  refine awp_mid ⟨frm 56 [(0, sc (.ro n (u8s key))), (1, sc (.ro k (u8s m))), (7, sc (cn c))], []⟩ ?_ ?_
  · refine rln ?_
    refine Mv ?_
    refine Mv ?_
    refine G (q_leno ?_)
    refine G (q_addn  (y := 1) ?_)
    refine G (q_remi ?_)
    refine Mv ?_
    refine G (q_leno ?_)
    refine G (q_addi ?_)
    refine G (q_addi (y := 1) ?_)
    refine Mv ?_
    refine G (q_leno ?_)
    refine G (q_addn (y := 1) ?_)
    refine G (q_remi ?_)
    refine As ?_
    refine gend ?_
    exact sle_sub ⟨rfl, rfl, congrArg (fun i => sc (ci i)) hac, trivial⟩ rfl
  refine awp_seq ?_
  refine rln ?_
  refine Mv ?_
  refine Mv ?_
  refine G2 (fun _ k_ => q_callp gw k_ (ha := (cac (et rfl) sees_ro (cac (et rfl) sees_ro ca0)))) ?_
  refine G2 (fun _ k_ => q_al k_) ?_
  refine G20 (fun _ k_ => q_stw k_) ?_
  refine gend ?_
  refine awp_seq ?_
  refine rdln [2, 3, 14, 15, 20] [0, 0, 0, 1, 0, 2, 2, 2, 2, 2, 2, 2, 2, 2, 2, 3, 2, 4, 4, 4, 4, 5, 5] [1, 0, 1, 2, 2, 2, 2, 3, 2, 2, 2, 2, 2, 2, 3, 4, 4, 4, 4, 4, 5, 5, 5] ?_
  refine Dp (fun _ => q_mv (s := .v (.c _)) ⟨rfl, rfl⟩) ?_
  refine Dp (fun _ => q_mv (s := .v (.c _)) ⟨rfl, rfl⟩) ?_
  refine De2 (fun _ k_ => q_bsl (fkc rfl (et rfl) rfl (Nat.le_of_ble_eq_true rfl) (fk0 k_))) ?_
  refine De2 (fun _ k_ => q_callp g1 k_ (ha := (cac (et rfl) sees_ro (cac (et rfl) (sees_parts rfl rfl (pq_ro hk pq0)) ca0)))) ?_
  refine DLw ?_
  refine Dp (fun _ => q_eqa8 ⟨rfl, rfl⟩) ?_
  refine Dp (fun _ => q_mv (s := .v (.c _)) ⟨rfl, rfl⟩) ?_
  refine Dknd 40 (fun hb7 => ?_) ?_; rotate_left
  · exact rfl
  refine Dpg (fun _ => q_mv (s := .v (.c _)) ⟨rfl, rfl⟩) ?_
  refine Dpg (fun _ => q_mv (s := .v (.c _)) ⟨rfl, rfl⟩) ?_
  refine Dpg (fun _ => q_mv (s := .v (.c _)) ⟨rfl, rfl⟩) ?_
  refine Dpg (fun _ => q_slo_hi  ⟨rfl, rfl⟩ (hc := take0_m)) ?_
  refine Dpg (fun _ => q_mv (s := .v (.c _)) ⟨rfl, rfl⟩) ?_
  refine Dpg (fun _ => q_mv (s := .v (.c _)) ⟨rfl, rfl⟩) ?_
  refine Dpg (fun _ => q_slo_lo  ⟨rfl, rfl⟩ (hc := drop_m hk)) ?_
  refine De2g (fun _ k_ => q_bsl (fkc rfl (et rfl) rfl (Nat.le_of_ble_eq_true rfl) (fkc rfl (et rfl) rfl (Nat.le_of_ble_eq_true rfl) (fk0 k_)))) ?_
  refine De2g (fun _ k_ => q_callp g2 k_ (ha := (cac (et rfl) sees_ro (cac (et rfl) (sees_parts rfl rfl (pq_ro ht1 (pq_ro ht2 pq0))) ca0)))) ?_
  refine DLwg ?_
  refine Dpg (fun _ => q_eqa8 ⟨rfl, rfl⟩) ?_
  refine Dp (fun _ => q_pkt ⟨rfl, rfl⟩) ?_
  refine Dp (fun _ => q_mv (s := .v (.c _)) ⟨rfl, rfl⟩) ?_
  refine Dknd 53 (fun hb20 => ?_) ?_; rotate_left
  · exact rfl
  refine De2g (fun _ k_ => q_callp (known/- escutcheon/escutcheonlaw12.known -/) k_) ?_
  refine Dp (fun _ => q_pkt ⟨rfl, rfl⟩) ?_
  refine Dp (fun _ => q_as (s := .v (.c _)) ⟨rfl, rfl⟩) ?_
  refine dend ?_
  refine awp_ret ?_
  exact fp1
set_option maxHeartbeats 3200000 in
/-- escutcheonlaw12.HkdfOutputs -/
theorem outputs_ (c m : List UInt8) (n : Nat) (hcl : c.length = 32) (hm : m.length = n) (hn9 : n ≤ 140737488351232) (s : List UInt8) (hs9 : s.length ≤ 140737488351232) : Good Try.prog 5 [.a (u8s c), .c (.ro n (u8s m)), .c (.str ⟨s.toArray⟩)] [] (sc (.bool true)) [] := by
  refine good_frm 84 Try.func5 rfl rfl rfl rfl rfl rfl ?_
  refine awp_seq ?_
  refine rln ?_
  refine G2 (fun _ k_ => q_boxa k_) ?_
  refine As ?_
  refine gend ?_
  refine awp_seq ?_
  refine awp_seq ?_
  refine rln ?_
  refine Mv ?_
  refine G (q_leno ?_)
  refine G (q_gtrn (y := 300) ?_)
  refine Mv ?_
  refine Aspd 16 (fun hb4 => ?_) (fun hb4 => ?_)
  · refine Gn ?_
    refine Gn ?_
    refine Gn ?_
    refine G (q_pkt ?_)
    refine gend ?_
    refine cndT ?_
    refine awp_seq ?_
    refine rln ?_
    refine G2 (fun _ k_ => q_callp (known/- escutcheon/escutcheonlaw12.known -/) k_) ?_
    refine As ?_
    refine gend ?_
    refine awp_ret ?_
    exact fp1
  refine Gg (q_mv (s := .v (.c _)) ?_)
  refine Gg (q_lens ?_)
  refine Gg (q_gtrn (y := 300) ?_)
  refine G (q_pkf ?_)
  refine gend ?_
  refine cnd (fun hc1 => ?_) (fun hc1 => ?_)
  · refine awp_seq ?_
    refine rln ?_
    refine G2 (fun _ k_ => q_callp (known/- escutcheon/escutcheonlaw12.known -/) k_) ?_
    refine As ?_
    refine gend ?_
    refine awp_ret ?_
    exact fp1
  have hs : s.length ≤ 300 := Nat.le_of_not_lt hc1
  have g0 := outs_ c m n 3 hcl hm (by omega) (by decide)
  rw [allb_3] at g0
  have g1 := two_ c m n hcl hm (by omega)
  have g2 := three_ c m n hcl hm (by omega)
  have g3 := named_ c s hcl (by omega)
  have g4 := rmac_ c s 32 s.length hcl (by decide) rfl (by omega)
  obtain ⟨T, hT⟩ : ∃ z, hmac c m = z := ⟨_, rfl⟩
  have hTl : T.length = 32 := by rw [← hT]; exact hmac_len _ _
  obtain ⟨X, hX⟩ : ∃ z, h3x c m = z := ⟨_, rfl⟩
  have hXl : X.length = 32 := by rw [← hX]; exact hmac_len _ _
  obtain ⟨Y, hY⟩ : ∃ z, h3y c m = z := ⟨_, rfl⟩
  have hYl : Y.length = 32 := by rw [← hY]; exact hmac_len _ _
  obtain ⟨Z, hZ⟩ : ∃ z, h3z c m = z := ⟨_, rfl⟩
  have hZl : Z.length = 32 := by rw [← hZ]; exact hmac_len _ _
  obtain ⟨W, hW⟩ : ∃ z, hmac c s = z := ⟨_, rfl⟩
  have hWl : W.length = 32 := by rw [← hW]; exact hmac_len _ _
  rw [hX, hY, hZ] at g0 g2
  rw [hX, hY] at g1
  rw [hW] at g3 g4
  refine awp_skip ?_
  refine awp_seq ?_
  refine rln ?_
  refine G (q_ldw ?_)
  refine Mv ?_
  refine G2 (fun _ k_ => q_calln g0 k_ (ha := (caa (et rfl) sees_m (cac (et rfl) sees_ro (cac rfl cm_int ca0))))) ?_
  refine As ?_
  refine gend ?_
  refine awp_seq ?_
  refine rln ?_
  refine G (q_ldw ?_)
  refine Mv ?_
  refine G2 (fun _ k_ => q_callp g1 k_ (ha := (caa (et rfl) sees_m (cac (et rfl) sees_ro ca0)))) ?_
  refine G (q_mv (s := .t _) ?_)
  refine G (q_ext (y := .a _) ?_)
  refine G (q_ext (y := .a _) ?_)
  refine G2 (fun _ k_ => q_al k_) ?_
  refine G2 (fun _ k_ => q_al k_) ?_
  refine G20 (fun _ k_ => q_stw k_) ?_
  refine G20 (fun _ k_ => q_stw k_) ?_
  refine gend ?_
  refine awp_seq ?_
  refine rln ?_
  refine G (q_ldw ?_)
  refine Mv ?_
  refine G2 (fun _ k_ => q_callp g2 k_ (ha := (caa (et rfl) sees_m (cac (et rfl) sees_ro ca0)))) ?_
  refine G (q_mv (s := .t _) ?_)
  refine G (q_ext (y := .a _) ?_)
  refine G (q_ext (y := .a _) ?_)
  refine G (q_ext (y := .a _) ?_)
  refine G2 (fun _ k_ => q_al k_) ?_
  refine G2 (fun _ k_ => q_al k_) ?_
  refine G2 (fun _ k_ => q_al k_) ?_
  refine G20 (fun _ k_ => q_stw k_) ?_
  refine G20 (fun _ k_ => q_stw k_) ?_
  refine G20 (fun _ k_ => q_stw k_) ?_
  refine gend ?_
  refine awp_seq ?_
  refine rdm [36, 39, 40, 44] [⟨[0, 1, 2, 3, 4, 5, 6, 7, 8, 9, 10, 11, 12, 13, 14, 15, 16, 17, 18, 19, 20, 21, 22, 23, 24, 25, 26, 27, 28, 29, 30, 31, 32, 33, 34, 35, 36, 37, 38, 39, 40, 41, 42, 43, 44, 45, 46], [36, 39, 40, 44], [36, 39, 40, 44], [0, 0, 0, 0, 0, 0, 0, 0, 0, 0, 0, 0, 0, 0, 0, 0, 0, 0, 0, 0, 0, 0, 0, 0, 0, 0, 0, 0, 0, 0, 0, 0, 0, 0, 0, 0, 0, 0, 0, 1, 2, 3, 3, 3, 3, 4, 4], [0, 0, 0, 0, 0, 0, 0, 0, 0, 0, 0, 0, 0, 0, 0, 0, 0, 0, 0, 0, 0, 0, 0, 0, 0, 0, 0, 0, 0, 0, 0, 0, 0, 0, 0, 0, 1, 2, 1, 2, 3, 3, 3, 3, 4, 4, 4]⟩, ⟨[0, 1, 2, 3, 4, 5, 6, 7, 8, 9, 10, 11, 12, 13, 14, 15, 16, 17, 18, 19, 20, 21, 22, 23, 24, 25, 26, 27, 28, 29, 30, 31, 32, 33, 34, 35, 37, 38, 39, 36, 40, 41, 42, 43, 44, 45, 46], [39, 36, 40, 44], [38, 39, 40, 44], [0, 0, 0, 0, 0, 0, 0, 0, 0, 0, 0, 0, 0, 0, 0, 0, 0, 0, 0, 0, 0, 0, 0, 0, 0, 0, 0, 0, 0, 0, 0, 0, 0, 0, 0, 0, 0, 0, 0, 1, 2, 3, 3, 3, 3, 4, 4], [0, 0, 0, 0, 0, 0, 0, 0, 0, 0, 0, 0, 0, 0, 0, 0, 0, 0, 0, 0, 0, 0, 0, 0, 0, 0, 0, 0, 0, 0, 0, 0, 0, 0, 1, 1, 2, 0, 1, 2, 3, 3, 3, 3, 4, 4, 4]⟩] ⟨?_, ?_, trivial⟩   -- region 6
  · refine DLw ?_
    refine Dp (fun _ => q_mv (s := .v (.c _)) ⟨rfl, rfl⟩) ?_
    refine Dp (fun _ => q_ixs ⟨rfl, rfl⟩) ?_
    refine DLa  ?_ (hc := key_0 hXl)
    refine Dp (fun _ => q_eqa8 ⟨rfl, rfl⟩) ?_
    refine Dp (fun _ => q_mv (s := .v (.c _)) ⟨rfl, rfl⟩) ?_
    refine Dknd 43 (fun hb6 => ?_) ?_; rotate_left
    · exact rfl
    refine DLwg ?_
    refine Dpg (fun _ => q_mv (s := .v (.c _)) ⟨rfl, rfl⟩) ?_
    refine Dpg (fun _ => q_ixs ⟨rfl, rfl⟩) ?_
    refine DLag  ?_ (hc := key_1 hXl hYl)
    refine Dpg (fun _ => q_eqa8 ⟨rfl, rfl⟩) ?_
    refine Dp (fun _ => q_pkt ⟨rfl, rfl⟩) ?_
    refine Dp (fun _ => q_mv (s := .v (.c _)) ⟨rfl, rfl⟩) ?_
    refine Dknd 50 (fun hb13 => ?_) ?_; rotate_left
    · exact rfl
    refine DLwg ?_
    refine Dpg (fun _ => q_mv (s := .v (.c _)) ⟨rfl, rfl⟩) ?_
    refine Dpg (fun _ => q_ixs ⟨rfl, rfl⟩) ?_
    refine DLag  ?_ (hc := key_0 hXl)
    refine Dpg (fun _ => q_eqa8 ⟨rfl, rfl⟩) ?_
    refine Dp (fun _ => q_pkt ⟨rfl, rfl⟩) ?_
    refine Dp (fun _ => q_mv (s := .v (.c _)) ⟨rfl, rfl⟩) ?_
    refine Dknd 57 (fun hb20 => ?_) ?_; rotate_left
    · exact rfl
    refine DLwg ?_
    refine Dpg (fun _ => q_mv (s := .v (.c _)) ⟨rfl, rfl⟩) ?_
    refine Dpg (fun _ => q_ixs ⟨rfl, rfl⟩) ?_
    refine DLag  ?_ (hc := key_1 hXl hYl)
    refine Dpg (fun _ => q_eqa8 ⟨rfl, rfl⟩) ?_
    refine Dp (fun _ => q_pkt ⟨rfl, rfl⟩) ?_
    refine Dp (fun _ => q_mv (s := .v (.c _)) ⟨rfl, rfl⟩) ?_
    refine Dknd 64 (fun hb27 => ?_) ?_; rotate_left
    · exact rfl
    refine DLwg ?_
    refine Dpg (fun _ => q_mv (s := .v (.c _)) ⟨rfl, rfl⟩) ?_
    refine Dpg (fun _ => q_ixs ⟨rfl, rfl⟩) ?_
    refine DLag  ?_ (hc := key_2 hXl hYl hZl)
    refine Dpg (fun _ => q_eqa8 ⟨rfl, rfl⟩) ?_
    refine Dp (fun _ => q_pkt ⟨rfl, rfl⟩) ?_
    refine Dp (fun _ => q_mv (s := .v (.c _)) ⟨rfl, rfl⟩) ?_
    refine Dknd 71 (fun hb34 => ?_) ?_; rotate_left
    · exact rfl
    refine DLwg ?_
    refine Dpg (fun _ => q_mv (s := .v (.c _)) ⟨rfl, rfl⟩) ?_
    refine De2g (fun _ k_ => q_callp g3 k_ (ha := (caa (et rfl) sees_m (cac (et rfl) cm_str ca0)))) ?_
    refine DSpg 0 rfl (fun _ hv => q_slp_no ⟨rfl, rfl⟩ (hp := hv)) ?_
    refine Dpg (fun _ => q_mv (s := .v (.c _)) ⟨rfl, rfl⟩) ?_
    refine De2g (fun _ k_ => q_ctb k_) ?_
    refine De2g (fun _ k_ => q_callp g4 k_ (ha := (cac (et rfl) (sees_slc rfl rfl (cut_h hcl)) (cac (et rfl) (sees_slc rfl rfl (cut_h rfl)) ca0)))) ?_
    refine Dpg (fun _ => q_eqa8 ⟨rfl, rfl⟩) ?_
    refine Dp (fun _ => q_pkt ⟨rfl, rfl⟩) ?_
    refine Dp (fun _ => q_mv (s := .v (.c _)) ⟨rfl, rfl⟩) ?_
    refine Dknd 81 (fun hb44 => ?_) ?_; rotate_left
    · exact rfl
    refine De2g (fun _ k_ => q_callp (known/- escutcheon/escutcheonlaw12.known -/) k_) ?_
    refine Dp (fun _ => q_pkt ⟨rfl, rfl⟩) ?_
    refine Dp (fun _ => q_as (s := .v (.c _)) ⟨rfl, rfl⟩) ?_
    refine dend ?_
    refine awp_ret ?_
    exact fp1
  refine DLw ?_
  refine Dp (fun _ => q_mv (s := .v (.c _)) ⟨rfl, rfl⟩) ?_
  refine Dp (fun _ => q_ixs ⟨rfl, rfl⟩) ?_
  refine DLa  ?_ (hc := key_0 hXl)
  refine Dp (fun _ => q_eqa8 ⟨rfl, rfl⟩) ?_
  refine Dp (fun _ => q_mv (s := .v (.c _)) ⟨rfl, rfl⟩) ?_
  refine Dknd 43 (fun hb6 => ?_) ?_; rotate_left
  · exact rfl
  refine DLwg ?_
  refine Dpg (fun _ => q_mv (s := .v (.c _)) ⟨rfl, rfl⟩) ?_
  refine Dpg (fun _ => q_ixs ⟨rfl, rfl⟩) ?_
  refine DLag  ?_ (hc := key_1 hXl hYl)
  refine Dpg (fun _ => q_eqa8 ⟨rfl, rfl⟩) ?_
  refine Dp (fun _ => q_pkt ⟨rfl, rfl⟩) ?_
  refine Dp (fun _ => q_mv (s := .v (.c _)) ⟨rfl, rfl⟩) ?_
  refine Dknd 50 (fun hb13 => ?_) ?_; rotate_left
  · exact rfl
  refine DLwg ?_
  refine Dpg (fun _ => q_mv (s := .v (.c _)) ⟨rfl, rfl⟩) ?_
  refine Dpg (fun _ => q_ixs ⟨rfl, rfl⟩) ?_
  refine DLag  ?_ (hc := key_0 hXl)
  refine Dpg (fun _ => q_eqa8 ⟨rfl, rfl⟩) ?_
  refine Dp (fun _ => q_pkt ⟨rfl, rfl⟩) ?_
  refine Dp (fun _ => q_mv (s := .v (.c _)) ⟨rfl, rfl⟩) ?_
  refine Dknd 57 (fun hb20 => ?_) ?_; rotate_left
  · exact rfl
  refine DLwg ?_
  refine Dpg (fun _ => q_mv (s := .v (.c _)) ⟨rfl, rfl⟩) ?_
  refine Dpg (fun _ => q_ixs ⟨rfl, rfl⟩) ?_
  refine DLag  ?_ (hc := key_1 hXl hYl)
  refine Dpg (fun _ => q_eqa8 ⟨rfl, rfl⟩) ?_
  refine Dp (fun _ => q_pkt ⟨rfl, rfl⟩) ?_
  refine Dp (fun _ => q_mv (s := .v (.c _)) ⟨rfl, rfl⟩) ?_
  refine Dknd 64 (fun hb27 => ?_) ?_; rotate_left
  · exact rfl
  refine DLwg ?_
  refine Dpg (fun _ => q_mv (s := .v (.c _)) ⟨rfl, rfl⟩) ?_
  refine Dpg (fun _ => q_ixs ⟨rfl, rfl⟩) ?_
  refine DLag  ?_ (hc := key_2 hXl hYl hZl)
  refine Dpg (fun _ => q_eqa8 ⟨rfl, rfl⟩) ?_
  refine Dp (fun _ => q_pkt ⟨rfl, rfl⟩) ?_
  refine Dp (fun _ => q_mv (s := .v (.c _)) ⟨rfl, rfl⟩) ?_
  refine Dknd 71 (fun hb34 => ?_) ?_; rotate_left
  · exact rfl
  refine DLwg ?_
  refine Dpg (fun _ => q_mv (s := .v (.c _)) ⟨rfl, rfl⟩) ?_
  refine DSpg 0 rfl (fun _ hv => q_slp_no ⟨rfl, rfl⟩ (hp := hv)) ?_
  refine Dpg (fun _ => q_mv (s := .v (.c _)) ⟨rfl, rfl⟩) ?_
  refine De2g (fun _ k_ => q_ctb k_) ?_
  refine De2g (fun _ k_ => q_callp g3 k_ (ha := (caa (et rfl) sees_m (cac (et rfl) cm_str ca0)))) ?_
  refine De2g (fun _ k_ => q_callp g4 k_ (ha := (cac (et rfl) (sees_slc rfl rfl (cut_h hcl)) (cac (et rfl) (sees_slc rfl rfl (cut_h rfl)) ca0)))) ?_
  refine Dpg (fun _ => q_eqa8 ⟨rfl, rfl⟩) ?_
  refine Dp (fun _ => q_pkt ⟨rfl, rfl⟩) ?_
  refine Dp (fun _ => q_mv (s := .v (.c _)) ⟨rfl, rfl⟩) ?_
  refine Dknd 81 (fun hb44 => ?_) ?_; rotate_left
  · exact rfl
  refine De2g (fun _ k_ => q_callp (known/- escutcheon/escutcheonlaw12.known -/) k_) ?_
  refine Dp (fun _ => q_pkt ⟨rfl, rfl⟩) ?_
  refine Dp (fun _ => q_as (s := .v (.c _)) ⟨rfl, rfl⟩) ?_
  refine dend ?_
  refine awp_ret ?_
  exact fp1
end Go.Proofs.Ytngmhcgenknokaa

/- What functions of the program do, walked over the abstract machine. -/
import Derived.Test.YtngmhcgenknokaaHe
namespace Go.Proofs.Ytngmhcgenknokaa
open Go Go.Abs Go.Proofs

set_option maxHeartbeats 3200000 in
/-- escutcheonlaw12.HkdfChains -/
theorem chains_ (c m : List UInt8) (n : Nat) (hcl : c.length = 32) (hm : m.length = n) (hn9 : n ≤ 140737488351232) : Good Try.prog 6 [.a (u8s c), .c (.ro n (u8s m))] [] (sc (.bool true)) [] := by
  refine good_frm 61 Try.func6 rfl rfl rfl rfl rfl rfl ?_
  refine awp_seq ?_
  refine rln ?_
  refine G2 (fun _ k_ => q_boxa k_) ?_
  refine As ?_
  refine gend ?_
  refine awp_seq ?_
  refine awp_seq ?_
  refine rln ?_
  refine Mv ?_
  refine G (q_leno ?_)
  refine G (q_gtrn (y := 200) ?_)
  refine gend ?_
  refine cnd (fun hc1 => ?_) (fun hc1 => ?_)
  · refine awp_seq ?_
    refine rln ?_
    refine G2 (fun _ k_ => q_callp (known/- escutcheon/escutcheonlaw12.known -/) k_) ?_
    refine As ?_
    refine gend ?_
    refine awp_ret ?_
    exact fp1
  have g0 := mac1 c m 32 n hcl (by decide) hm (by omega)
  have g2 := three_ c m n hcl hm (by omega)
  have g3 := named_ c m hcl (by omega)
  obtain ⟨T, hT⟩ : ∃ z, hmac c m = z := ⟨_, rfl⟩
  have hTl : T.length = 32 := by rw [← hT]; exact hmac_len _ _
  obtain ⟨X, hX⟩ : ∃ z, h3x c m = z := ⟨_, rfl⟩
  have hXl : X.length = 32 := by rw [← hX]; exact hmac_len _ _
  obtain ⟨Y, hY⟩ : ∃ z, h3y c m = z := ⟨_, rfl⟩
  have hYl : Y.length = 32 := by rw [← hY]; exact hmac_len _ _
  obtain ⟨Z, hZ⟩ : ∃ z, h3z c m = z := ⟨_, rfl⟩
  have hZl : Z.length = 32 := by rw [← hZ]; exact hmac_len _ _
  have h1 := mac1 T [1] 32 1 hTl (by decide) rfl (by decide)
  have h2 := mac_ T (X ++ [2]) [X, [2]] 32 2 hTl (by decide) rfl (by decide) (by simp) (by rw [List.length_append, hXl]; decide)
  have h3 := mac_ T (Y ++ [3]) [Y ++ [3]] 32 1 hTl (by decide) rfl (by decide) (by simp) (by rw [List.length_append, hYl]; decide)
  rw [show hmac T [1] = X by rw [← hX, ← hT]; rfl] at h1
  rw [show hmac T (X ++ [2]) = Y by rw [← hY, ← hX, ← hT]; rfl] at h2
  rw [show hmac T (Y ++ [3]) = Z by rw [← hZ, ← hY, ← hT]; rfl] at h3
  have hY0 : Y.length = 0 + 32 := hYl
  have hY3 : (Y ++ [3]).length = 0 + 32 + 1 := by simp [hYl]
  rw [hT] at g0 g3
  rw [hX, hY, hZ] at g2
  refine awp_skip ?_
  refine awp_seq ?_
  refine rln ?_
  refine G (q_slp_no ?_)
  refine Mv ?_
  refine G2 (fun _ k_ => q_bsl (fkc rfl (et rfl) rfl (Nat.le_of_ble_eq_true rfl) (fk0 k_))) ?_
  refine G2 (fun _ k_ => q_callp g0 k_ (ha := (cac (et rfl) (sees_slc rfl rfl (cut_h hcl)) (cac (et rfl) (sees_parts rfl rfl (pq_ro hm pq0)) ca0)))) ?_
  refine G2 (fun _ k_ => q_al k_) ?_
  refine G20 (fun _ k_ => q_stw k_) ?_
  refine gend ?_
  refine awp_seq ?_
  refine rln ?_
  refine G (q_ldw ?_)
  refine Mv ?_
  refine G2 (fun _ k_ => q_callp g2 k_ (ha := (caa (et rfl) sees_m (cac (et rfl) sees_ro ca0)))) ?_
  refine G (q_mv (s := .t _) ?_)
  refine G (q_ext (y := .a _) ?_)
  refine G (q_ext (y := .a _) ?_)
  refine G (q_ext (y := .a _) ?_)
  refine G2 (fun _ k_ => q_al k_) ?_
  refine G2 (fun _ k_ => q_al k_) ?_
  refine G2 (fun _ k_ => q_al k_) ?_
  refine G20 (fun _ k_ => q_stw k_) ?_
  refine G20 (fun _ k_ => q_stw k_) ?_
  refine G20 (fun _ k_ => q_stw k_) ?_
  refine gend ?_
  refine awp_seq ?_
  refine rdm [2, 3, 4, 10, 11, 12, 19, 20, 21, 22, 23, 30, 35] [⟨[0, 1, 2, 3, 4, 5, 6, 7, 8, 9, 10, 11, 12, 13, 14, 15, 16, 17, 18, 19, 20, 21, 22, 23, 24, 25, 26, 27, 28, 29, 30, 31, 32, 33, 34, 35, 36, 37], [2, 3, 4, 10, 11, 12, 19, 20, 21, 22, 23, 30, 35], [2, 3, 4, 10, 11, 12, 19, 20, 21, 22, 23, 30, 35], [0, 0, 0, 1, 2, 3, 3, 3, 3, 3, 3, 4, 5, 6, 6, 6, 6, 6, 6, 6, 7, 8, 9, 10, 11, 11, 11, 11, 11, 11, 11, 11, 12, 12, 12, 12, 13, 13], [3, 2, 1, 2, 3, 3, 3, 6, 5, 4, 4, 5, 6, 6, 6, 6, 11, 10, 6, 7, 8, 9, 10, 11, 11, 11, 11, 11, 11, 11, 12, 12, 12, 12, 12, 13, 13, 13]⟩, ⟨[0, 1, 2, 3, 4, 5, 6, 7, 8, 9, 10, 11, 12, 13, 14, 15, 16, 17, 18, 20, 19, 21, 22, 23, 24, 25, 26, 27, 28, 29, 30, 31, 32, 33, 34, 35, 36, 37], [2, 3, 4, 10, 11, 12, 20, 19, 21, 22, 23, 30, 35], [2, 3, 4, 10, 11, 12, 19, 20, 21, 22, 23, 30, 35], [0, 0, 0, 1, 2, 3, 3, 3, 3, 3, 3, 4, 5, 6, 6, 6, 6, 6, 6, 6, 7, 8, 9, 10, 11, 11, 11, 11, 11, 11, 11, 11, 12, 12, 12, 12, 13, 13], [3, 2, 1, 2, 3, 3, 3, 6, 5, 4, 4, 5, 6, 6, 6, 6, 11, 10, 7, 7, 8, 9, 10, 11, 11, 11, 11, 11, 11, 11, 12, 12, 12, 12, 12, 13, 13, 13]⟩] ⟨?_, ?_, trivial⟩   -- region 5
  · refine DLw ?_
    refine DSp 2 rfl (fun _ hv => q_slp_no ⟨rfl, rfl⟩ (hp := hv)) ?_
    refine De2 (fun _ k_ => q_bsl (fkc (c := c8 1) rfl rfl rfl (Nat.le_of_ble_eq_true rfl) (fk0 k_))) ?_
    refine De2 (fun _ k_ => q_bsl (fkc rfl (et rfl) rfl (Nat.le_of_ble_eq_true rfl) (fk0 k_))) ?_
    refine De2 (fun _ k_ => q_callp h1 k_ (ha := (cac (et rfl) (sees_slc rfl rfl (cut_h hTl)) (cac (et rfl) (sees_parts rfl rfl (pq_slc rfl rfl rfl rfl pq0)) ca0)))) ?_
    refine Dp (fun _ => q_eqa8 ⟨rfl, rfl⟩) ?_
    refine Dp (fun _ => q_mv (s := .v (.c _)) ⟨rfl, rfl⟩) ?_
    refine Dknd 30 (fun hb7 => ?_) ?_; rotate_left
    · exact rfl
    refine DLwg ?_
    refine DSpg 2 rfl (fun _ hv => q_slp_no ⟨rfl, rfl⟩ (hp := hv)) ?_
    refine DSpg 3 rfl (fun _ hv => q_slp_no ⟨rfl, rfl⟩ (hp := hv)) ?_
    refine De2g (fun _ k_ => q_bsl (fkc (c := c8 2) rfl rfl rfl (Nat.le_of_ble_eq_true rfl) (fk0 k_))) ?_
    refine De2g (fun _ k_ => q_bsl (fkc rfl (et rfl) rfl (Nat.le_of_ble_eq_true rfl) (fkc rfl (et rfl) rfl (Nat.le_of_ble_eq_true rfl) (fk0 k_)))) ?_
    refine De2g (fun _ k_ => q_callp h2 k_ (ha := (cac (et rfl) (sees_slc rfl rfl (cut_h hTl)) (cac (et rfl) (sees_parts rfl rfl (pq_slc rfl rfl (cut_h hXl) hXl (pq_slc rfl rfl rfl rfl pq0))) ca0)))) ?_
    refine Dpg (fun _ => q_eqa8 ⟨rfl, rfl⟩) ?_
    refine Dp (fun _ => q_pkt ⟨rfl, rfl⟩) ?_
    refine Dp (fun _ => q_mv (s := .v (.c _)) ⟨rfl, rfl⟩) ?_
    refine Dknd 39 (fun hb16 => ?_) ?_; rotate_left
    · exact rfl
    refine DLwg ?_
    refine DSpg 2 rfl (fun _ hv => q_slp_no ⟨rfl, rfl⟩ (hp := hv)) ?_
    refine DSpg 4 rfl (fun _ hv => q_slp_no ⟨rfl, rfl⟩ (hp := hv)) ?_
    refine De2g (fun _ k_ => q_app k_) ?_
    refine De2g (fun _ k_ => q_bsl (fkc (c := c8 3) rfl rfl rfl (Nat.le_of_ble_eq_true rfl) (fk0 k_))) ?_
    refine De2g (fun _ k_ => q_app k_) ?_
    refine De2g (fun _ k_ => q_bsl (fkc rfl (et rfl) rfl (Nat.le_of_ble_eq_true rfl) (fk0 k_))) ?_
    refine De2g (fun _ k_ => q_callp h3 k_ (ha := (cac (et rfl) (sees_slc rfl rfl (cut_h hTl)) (cac (et rfl) (sees_parts rfl rfl (pq_slc rfl rfl (app1_cut hYl) hY3 pq0)) ca0)))) ?_
    refine Dpg (fun _ => q_eqa8 ⟨rfl, rfl⟩) ?_
    refine Dp (fun _ => q_pkt ⟨rfl, rfl⟩) ?_
    refine Dp (fun _ => q_mv (s := .v (.c _)) ⟨rfl, rfl⟩) ?_
    refine Dknd 50 (fun hb27 => ?_) ?_; rotate_left
    · exact rfl
    refine DLwg ?_
    refine Dpg (fun _ => q_mv (s := .v (.c _)) ⟨rfl, rfl⟩) ?_
    refine Dpg (fun _ => q_cso ⟨rfl, rfl⟩) ?_
    refine De2g (fun _ k_ => q_callp g3 k_ (ha := (caa (et rfl) sees_m (cac (et rfl) cm_str ca0)))) ?_
    refine DLwg ?_
    refine Dpg (fun _ => q_eqa8 ⟨rfl, rfl⟩) ?_
    refine Dp (fun _ => q_pkt ⟨rfl, rfl⟩) ?_
    refine Dp (fun _ => q_mv (s := .v (.c _)) ⟨rfl, rfl⟩) ?_
    refine Dknd 58 (fun hb35 => ?_) ?_; rotate_left
    · exact rfl
    refine De2g (fun _ k_ => q_callp (known/- escutcheon/escutcheonlaw12.known -/) k_) ?_
    refine Dp (fun _ => q_pkt ⟨rfl, rfl⟩) ?_
    refine Dp (fun _ => q_as (s := .v (.c _)) ⟨rfl, rfl⟩) ?_
    refine dend ?_
    refine awp_ret ?_
    exact fp1
  refine DLw ?_
  refine DSp 2 rfl (fun _ hv => q_slp_no ⟨rfl, rfl⟩ (hp := hv)) ?_
  refine De2 (fun _ k_ => q_bsl (fkc (c := c8 1) rfl rfl rfl (Nat.le_of_ble_eq_true rfl) (fk0 k_))) ?_
  refine De2 (fun _ k_ => q_bsl (fkc rfl (et rfl) rfl (Nat.le_of_ble_eq_true rfl) (fk0 k_))) ?_
  refine De2 (fun _ k_ => q_callp h1 k_ (ha := (cac (et rfl) (sees_slc rfl rfl (cut_h hTl)) (cac (et rfl) (sees_parts rfl rfl (pq_slc rfl rfl rfl rfl pq0)) ca0)))) ?_
  refine Dp (fun _ => q_eqa8 ⟨rfl, rfl⟩) ?_
  refine Dp (fun _ => q_mv (s := .v (.c _)) ⟨rfl, rfl⟩) ?_
  refine Dknd 30 (fun hb7 => ?_) ?_; rotate_left
  · exact rfl
  refine DLwg ?_
  refine DSpg 2 rfl (fun _ hv => q_slp_no ⟨rfl, rfl⟩ (hp := hv)) ?_
  refine DSpg 3 rfl (fun _ hv => q_slp_no ⟨rfl, rfl⟩ (hp := hv)) ?_
  refine De2g (fun _ k_ => q_bsl (fkc (c := c8 2) rfl rfl rfl (Nat.le_of_ble_eq_true rfl) (fk0 k_))) ?_
  refine De2g (fun _ k_ => q_bsl (fkc rfl (et rfl) rfl (Nat.le_of_ble_eq_true rfl) (fkc rfl (et rfl) rfl (Nat.le_of_ble_eq_true rfl) (fk0 k_)))) ?_
  refine De2g (fun _ k_ => q_callp h2 k_ (ha := (cac (et rfl) (sees_slc rfl rfl (cut_h hTl)) (cac (et rfl) (sees_parts rfl rfl (pq_slc rfl rfl (cut_h hXl) hXl (pq_slc rfl rfl rfl rfl pq0))) ca0)))) ?_
  refine Dpg (fun _ => q_eqa8 ⟨rfl, rfl⟩) ?_
  refine Dp (fun _ => q_pkt ⟨rfl, rfl⟩) ?_
  refine Dp (fun _ => q_mv (s := .v (.c _)) ⟨rfl, rfl⟩) ?_
  refine Dknd 39 (fun hb16 => ?_) ?_; rotate_left
  · exact rfl
  refine DLwg ?_
  refine DSpg 2 rfl (fun _ hv => q_slp_no ⟨rfl, rfl⟩ (hp := hv)) ?_
  refine DSpg 4 rfl (fun _ hv => q_slp_no ⟨rfl, rfl⟩ (hp := hv)) ?_
  refine De2g (fun _ k_ => q_bsl (fkc (c := c8 3) rfl rfl rfl (Nat.le_of_ble_eq_true rfl) (fk0 k_))) ?_
  refine De2g (fun _ k_ => q_app k_) ?_
  refine De2g (fun _ k_ => q_app k_) ?_
  refine De2g (fun _ k_ => q_bsl (fkc rfl (et rfl) rfl (Nat.le_of_ble_eq_true rfl) (fk0 k_))) ?_
  refine De2g (fun _ k_ => q_callp h3 k_ (ha := (cac (et rfl) (sees_slc rfl rfl (cut_h hTl)) (cac (et rfl) (sees_parts rfl rfl (pq_slc rfl rfl (app1_cut hYl) hY3 pq0)) ca0)))) ?_
  refine Dpg (fun _ => q_eqa8 ⟨rfl, rfl⟩) ?_
  refine Dp (fun _ => q_pkt ⟨rfl, rfl⟩) ?_
  refine Dp (fun _ => q_mv (s := .v (.c _)) ⟨rfl, rfl⟩) ?_
  refine Dknd 50 (fun hb27 => ?_) ?_; rotate_left
  · exact rfl
  refine DLwg ?_
  refine Dpg (fun _ => q_mv (s := .v (.c _)) ⟨rfl, rfl⟩) ?_
  refine Dpg (fun _ => q_cso ⟨rfl, rfl⟩) ?_
  refine De2g (fun _ k_ => q_callp g3 k_ (ha := (caa (et rfl) sees_m (cac (et rfl) cm_str ca0)))) ?_
  refine DLwg ?_
  refine Dpg (fun _ => q_eqa8 ⟨rfl, rfl⟩) ?_
  refine Dp (fun _ => q_pkt ⟨rfl, rfl⟩) ?_
  refine Dp (fun _ => q_mv (s := .v (.c _)) ⟨rfl, rfl⟩) ?_
  refine Dknd 58 (fun hb35 => ?_) ?_; rotate_left
  · exact rfl
  refine De2g (fun _ k_ => q_callp (known/- escutcheon/escutcheonlaw12.known -/) k_) ?_
  refine Dp (fun _ => q_pkt ⟨rfl, rfl⟩) ?_
  refine Dp (fun _ => q_as (s := .v (.c _)) ⟨rfl, rfl⟩) ?_
  refine dend ?_
  refine awp_ret ?_
  exact fp1
end Go.Proofs.Ytngmhcgenknokaa

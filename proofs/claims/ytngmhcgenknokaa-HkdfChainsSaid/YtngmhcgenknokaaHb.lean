/- What functions of the program do, walked over the abstract machine. -/
import Derived.Test.YtngmhcgenknokaaHa
import Derived.Test.YtngmhcgenknokaaAbsZf
namespace Go.Proofs.Ytngmhcgenknokaa
open Go Go.Abs Go.Proofs

def h3t (c m : List UInt8) : List UInt8 := hmac c m
def h3x (c m : List UInt8) : List UInt8 := hmac (hmac c m) [1]
def h3y (c m : List UInt8) : List UInt8 := hmac (hmac c m) (h3x c m ++ [2])
def h3z (c m : List UInt8) : List UInt8 := hmac (hmac c m) (h3y c m ++ [3])
theorem h3x_len (c m : List UInt8) : (h3x c m).length = 32 := hmac_len _ _
theorem h3y_len (c m : List UInt8) : (h3y c m).length = 32 := hmac_len _ _
theorem h3z_len (c m : List UInt8) : (h3z c m).length = 32 := hmac_len _ _
theorem mac_ (key m : List UInt8) (ps : List (List UInt8)) (n k : Nat) (hn : key.length = n) (hn9 : n ≤ 10000) (hk : ps.length = k) (hk9 : k ≤ 1000) (hps : ps.flatten = m) (hm : m.length ≤ 10000) : Good Try.prog 9 [.c (.ro n (u8s key)), .c (.ro k (pcs ps))] [] (sa (u8s (hmac key m))) [] := by
  rcases Nat.lt_or_ge 64 n with h | h
  · exact mac_long key m ps n k hn hn9 h hk hk9 hps hm
  · exact mac_short key m ps n k hn hn9 h hk hk9 hps hm
theorem mac1 (key m : List UInt8) (n k : Nat) (hn : key.length = n) (hn9 : n ≤ 10000) (hk : m.length = k) (hm : k ≤ 10000) : Good Try.prog 9 [.c (.ro n (u8s key)), .c (.ro 1 (pcs [m]))] [] (sa (u8s (hmac key m))) [] :=
  mac_ key m [m] n 1 hn hn9 rfl (by decide) (by simp) (by omega)
set_option maxHeartbeats 800000 in
/-- hkdf.Three -/
theorem three_ (c m : List UInt8) (n : Nat) (hcl : c.length = 32) (hm : m.length = n) (hn : n ≤ 10000) : Good Try.prog 13 [.a (u8s c), .c (.ro n (u8s m))] [] (.t [.a (u8s (h3x c m)), .a (u8s (h3y c m)), .a (u8s (h3z c m))]) [] := by
  have g1 := mac1 c m 32 n hcl (by decide) hm hn
  obtain ⟨T, hT⟩ : ∃ z, hmac c m = z := ⟨_, rfl⟩
  have hTl : T.length = 32 := by rw [← hT]; exact hmac_len _ _
  obtain ⟨X, hX⟩ : ∃ z, h3x c m = z := ⟨_, rfl⟩
  have hXl : X.length = 32 := by rw [← hX]; exact h3x_len _ _
  obtain ⟨Y, hY⟩ : ∃ z, h3y c m = z := ⟨_, rfl⟩
  have hYl : Y.length = 32 := by rw [← hY]; exact h3y_len _ _
  obtain ⟨Z, hZ⟩ : ∃ z, h3z c m = z := ⟨_, rfl⟩
  have hZl : Z.length = 32 := by rw [← hZ]; exact h3z_len _ _
  have g2 := mac1 T [1] 32 1 hTl (by decide) rfl (by decide)
  have g3 := mac_ T (X ++ [2]) [X, [2]] 32 2 hTl (by decide) rfl (by decide) (by simp) (by rw [List.length_append, hXl]; decide)
  have g4 := mac_ T (Y ++ [3]) [Y, [3]] 32 2 hTl (by decide) rfl (by decide) (by simp) (by rw [List.length_append, hYl]; decide)
  rw [show hmac T [1] = X by rw [← hX, ← hT]; rfl] at g2
  rw [show hmac T (X ++ [2]) = Y by rw [← hY, ← hX, ← hT]; rfl] at g3
  rw [show hmac T (Y ++ [3]) = Z by rw [← hZ, ← hY, ← hT]; rfl] at g4
  rw [hX, hY, hZ]
  rw [hT] at g1
  refine good_frm 28 Try.func13 rfl rfl rfl rfl rfl rfl ?_
  refine awp_seq ?_
  refine rln ?_
  refine G2 (fun _ k_ => q_boxa k_) ?_
  refine G2 (fun _ k_ => q_al k_) ?_
  refine G2 (fun _ k_ => q_al k_) ?_
  refine G2 (fun _ k_ => q_al k_) ?_
  refine gend ?_
  refine awp_seq ?_
  refine rln ?_
  refine G (q_slp_no ?_)
  refine Mv ?_
  refine G2 (fun _ k_ => q_bsl (fkc rfl (et rfl) rfl (Nat.le_of_ble_eq_true rfl) (fk0 k_))) ?_
  refine G2 (fun _ k_ => q_callp g1 k_ (ha := (cac (et rfl) (sees_slc rfl rfl (cut_h hcl)) (cac (et rfl) (sees_parts rfl rfl (pq_ro hm pq0)) ca0)))) ?_
  refine G2 (fun _ k_ => q_al k_) ?_
  refine G20 (fun _ k_ => q_stw k_) ?_
  refine gend ?_
  refine awp_seq ?_
  refine rln ?_
  refine G (q_slp_no ?_)
  refine G2 (fun _ k_ => q_bsl (fkc (c := c8 1) rfl rfl rfl (Nat.le_of_ble_eq_true rfl) (fk0 k_))) ?_
  refine G2 (fun _ k_ => q_bsl (fkc rfl (et rfl) rfl (Nat.le_of_ble_eq_true rfl) (fk0 k_))) ?_
  refine G2 (fun _ k_ => q_callp g2 k_ (ha := (cac (et rfl) (sees_slc rfl rfl (cut_h hTl)) (cac (et rfl) (sees_parts rfl rfl (pq_slc rfl rfl rfl rfl pq0)) ca0)))) ?_
  refine G20 (fun _ k_ => q_stw k_) ?_
  refine gend ?_
  refine awp_seq ?_
  refine rdln [2, 3, 4, 5] [0, 0, 0, 1, 2, 3] [2, 1, 1, 2, 3, 4] ?_
  refine DSp 5 rfl (fun _ hv => q_slp_no ⟨rfl, rfl⟩ (hp := hv)) ?_
  refine DSp 1 rfl (fun _ hv => q_slp_no ⟨rfl, rfl⟩ (hp := hv)) ?_
  refine De2 (fun _ k_ => q_bsl (fkc (c := c8 2) rfl rfl rfl (Nat.le_of_ble_eq_true rfl) (fk0 k_))) ?_
  refine De2 (fun _ k_ => q_bsl (fkc rfl (et rfl) rfl (Nat.le_of_ble_eq_true rfl) (fkc rfl (et rfl) rfl (Nat.le_of_ble_eq_true rfl) (fk0 k_)))) ?_
  refine De2 (fun _ k_ => q_callp g3 k_ (ha := (cac (et rfl) (sees_slc rfl rfl (cut_h hTl)) (cac (et rfl) (sees_parts rfl rfl (pq_slc rfl rfl (cut_h hXl) hXl (pq_slc rfl rfl rfl rfl pq0))) ca0)))) ?_
  refine De20 (fun _ k_ => q_stw k_) ?_
  refine dend ?_
  refine awp_seq ?_
  refine rdln [4, 5, 6, 7, 8, 9] [0, 0, 0, 0, 0, 1, 2, 3, 4, 5] [3, 3, 2, 1, 1, 2, 3, 4, 5, 6] ?_
  refine DLw ?_
  refine DLw ?_
  refine DSp 5 rfl (fun _ hv => q_slp_no ⟨rfl, rfl⟩ (hp := hv)) ?_
  refine DSp 2 rfl (fun _ hv => q_slp_no ⟨rfl, rfl⟩ (hp := hv)) ?_
  refine De2 (fun _ k_ => q_bsl (fkc (c := c8 3) rfl rfl rfl (Nat.le_of_ble_eq_true rfl) (fk0 k_))) ?_
  refine De2 (fun _ k_ => q_bsl (fkc rfl (et rfl) rfl (Nat.le_of_ble_eq_true rfl) (fkc rfl (et rfl) rfl (Nat.le_of_ble_eq_true rfl) (fk0 k_)))) ?_
  refine De2 (fun _ k_ => q_callp g4 k_ (ha := (cac (et rfl) (sees_slc rfl rfl (cut_h hTl)) (cac (et rfl) (sees_parts rfl rfl (pq_slc rfl rfl (cut_h hYl) hYl (pq_slc rfl rfl rfl rfl pq0))) ca0)))) ?_
  refine De20 (fun _ k_ => q_stw k_) ?_
  refine De20 (fun _ k_ => q_stw k_) ?_
  refine De20 (fun _ k_ => q_stw k_) ?_
  refine dend ?_
  refine awp_ret ?_
  exact fpc3 (a0 := 4) (t0 := 25) (a1 := 5) (t1 := 25) (a2 := 6) (t2 := 25)
set_option maxHeartbeats 800000 in
/-- hkdf.Two -/
theorem two_ (c m : List UInt8) (n : Nat) (hcl : c.length = 32) (hm : m.length = n) (hn : n ≤ 10000) : Good Try.prog 12 [.a (u8s c), .c (.ro n (u8s m))] [] (.t [.a (u8s (h3x c m)), .a (u8s (h3y c m))]) [] := by
  have g1 := three_ c m n hcl hm hn
  obtain ⟨X, hX⟩ : ∃ z, h3x c m = z := ⟨_, rfl⟩
  have hXl : X.length = 32 := by rw [← hX]; exact h3x_len _ _
  obtain ⟨Y, hY⟩ : ∃ z, h3y c m = z := ⟨_, rfl⟩
  have hYl : Y.length = 32 := by rw [← hY]; exact h3y_len _ _
  obtain ⟨Z, hZ⟩ : ∃ z, h3z c m = z := ⟨_, rfl⟩
  have hZl : Z.length = 32 := by rw [← hZ]; exact h3z_len _ _
  rw [hX, hY, hZ] at g1
  rw [hX, hY]
  refine good_frm 18 Try.func12 rfl rfl rfl rfl rfl rfl ?_
  refine awp_seq ?_
  refine rln ?_
  refine G2 (fun _ k_ => q_boxa k_) ?_
  refine G2 (fun _ k_ => q_al k_) ?_
  refine G2 (fun _ k_ => q_al k_) ?_
  refine gend ?_
  refine awp_seq ?_
  refine rln ?_
  refine G (q_ldw ?_)
  refine Mv ?_
  refine G2 (fun _ k_ => q_callp g1 k_ (ha := (caa (et rfl) sees_m (cac (et rfl) sees_ro ca0)))) ?_
  refine G (q_mv (s := .t _) ?_)
  refine G (q_ext (y := .a _) ?_)
  refine G (q_ext (y := .a _) ?_)
  refine G (q_ext (y := .a _) ?_)
  refine G2 (fun _ k_ => q_al k_) ?_
  refine G2 (fun _ k_ => q_al k_) ?_
  refine G2 (fun _ k_ => q_al k_) ?_
  refine G20 (fun _ k_ => q_stw k_) ?_
  refine G20 (fun _ k_ => q_stw k_) ?_
  refine G20 (fun _ k_ => q_stw k_) ?_
  refine gend ?_
  refine awp_seq ?_
  refine rdln [2, 3] [0, 0, 0, 1] [0, 1, 1, 2] ?_
  refine DLw ?_
  refine DLw ?_
  refine De20 (fun _ k_ => q_stw k_) ?_
  refine De20 (fun _ k_ => q_stw k_) ?_
  refine dend ?_
  refine awp_ret ?_
  exact fpc2 (a0 := 4) (t0 := 25) (a1 := 5) (t1 := 25)
set_option maxHeartbeats 800000 in
/-- hkdf.Named -/
theorem named_ (c m : List UInt8) (hcl : c.length = 32) (hn : m.length ≤ 10000) : Good Try.prog 14 [.a (u8s c), .c (.str ⟨m.toArray⟩)] [] (sa (u8s (hmac c m))) [] := by
  have g1 := mac1 c m 32 m.length hcl (by decide) rfl hn
  obtain ⟨T, hT⟩ : ∃ z, hmac c m = z := ⟨_, rfl⟩
  have hTl : T.length = 32 := by rw [← hT]; exact hmac_len _ _
  rw [hT] at g1 ⊢
  refine good_frm 10 Try.func14 rfl rfl rfl rfl rfl rfl ?_
  refine awp_seq ?_
  refine rln ?_
  refine G2 (fun _ k_ => q_boxa k_) ?_
  refine G2 (fun _ k_ => q_al k_) ?_
  refine gend ?_
  refine awp_seq ?_
  refine rln ?_
  refine G (q_slp_no ?_)
  refine Mv ?_
  refine G2 (fun _ k_ => q_ctb k_) ?_
  refine G2 (fun _ k_ => q_bsl (fkc rfl (et rfl) rfl (Nat.le_of_ble_eq_true rfl) (fk0 k_))) ?_
  refine G2 (fun _ k_ => q_callp g1 k_ (ha := (cac (et rfl) (sees_slc rfl rfl (cut_h hcl)) (cac (et rfl) (sees_parts rfl rfl (pq_slc rfl rfl (cut_h rfl) rfl pq0)) ca0)))) ?_
  refine G20 (fun _ k_ => q_stw k_) ?_
  refine gend ?_
  refine awp_ret ?_
  exact fpc (t := 25) (a := 4) (hn := (mapc_length ..).trans hTl)
end Go.Proofs.Ytngmhcgenknokaa

/- What functions of the program do, walked over the abstract machine. -/
import Derived.Test.YtngmhcgenknokaaBd
namespace Go.Proofs.Ytngmhcgenknokaa
open Go Go.Abs Go.Proofs

def rorn (x : UInt32) (n : UInt64) : UInt32 := shr32n x n.toNat ||| shl32n x (32 - n).toNat
theorem rorn_16 (x : UInt32) : rorn x 16 = rotr x 16 := by rw [rorn, rotr, UInt32.or_comm]; rfl
theorem rorn_12 (x : UInt32) : rorn x 12 = rotr x 12 := by rw [rorn, rotr, UInt32.or_comm]; rfl
theorem rorn_8 (x : UInt32) : rorn x 8 = rotr x 8 := by rw [rorn, rotr, UInt32.or_comm]; rfl
theorem rorn_7 (x : UInt32) : rorn x 7 = rotr x 7 := by rw [rorn, rotr, UInt32.or_comm]; rfl
def RC : List Cell := [.slc 0 0 16 1, .slc 1 0 16 1, .slc 2 0 16 1, .slc 3 0 16 1, .slc 4 0 16 1, .slc 5 0 16 1, .slc 6 0 16 1, .slc 7 0 16 1, .slc 8 0 16 1, .slc 9 0 16 1]
theorem rc_at (i : Nat) (h : i < 10) : RC[i]? = some (.slc i 0 16 1) := by
  have e : i = 0 ∨ i = 1 ∨ i = 2 ∨ i = 3 ∨ i = 4 ∨ i = 5 ∨ i = 6 ∨ i = 7 ∨ i = 8 ∨ i = 9 := by omega
  rcases e with rfl | rfl | rfl | rfl | rfl | rfl | rfl | rfl | rfl | rfl <;> rfl
theorem rh_at {T : Heap} (i : Nat) (h : i < 10) : (some (i64s (row 0)) :: some (i64s (row 1)) :: some (i64s (row 2)) :: some (i64s (row 3)) :: some (i64s (row 4)) :: some (i64s (row 5)) :: some (i64s (row 6)) :: some (i64s (row 7)) :: some (i64s (row 8)) :: some (i64s (row 9)) :: T : Heap)[i]? = some (some (i64s (row i))) := by
  have e : i = 0 ∨ i = 1 ∨ i = 2 ∨ i = 3 ∨ i = 4 ∨ i = 5 ∨ i = 6 ∨ i = 7 ∨ i = 8 ∨ i = 9 := by omega
  rcases e with rfl | rfl | rfl | rfl | rfl | rfl | rfl | rfl | rfl | rfl <;> rfl
theorem row_at (i j : Nat) (hi : i < 10) (hj : j < 16) : (i64s (row i))[j]? = some (cn (ords.getD (16 * i + j) 0)) := by
  have e : i64s (row i) = ((i64s ordz).drop (16 * i)).take 16 := by simp [row, mapc, List.map_take, List.map_drop]
  rw [e, List.getElem?_take, if_pos hj]
  exact ords_at2 _ _ (by omega)
theorem row_len (i : Nat) (h : i < 10) : (row i).length = 16 := by
  have : ∀ i : Fin 10, (row i.1).length = 16 := by decide +kernel
  exact this ⟨i, h⟩
/-- escutcheonref11.ror -/
theorem ror_ (x : UInt32) (n : UInt64) : Good Try.prog 22 [.c (c32 x), .c (c64 n)] [] (sc (c32 (rorn x n))) [] := by
  refine good_frm 13 Try.func22 rfl rfl rfl rfl rfl rfl ?_
  refine awp_seq ?_
  refine rl ?_
  refine G (q_as (s := sc (c32 0)) ?_)
  refine gend ?_
  refine awp_seq ?_
  refine rl ?_
  refine Mv ?_
  refine Mv ?_
  refine G (q_shr32_64 ?_)
  refine Mv ?_
  refine Mv ?_
  refine G (q_sub64 (x := 32) ?_)
  refine G (q_shl32_64 ?_)
  refine G (q_or32 ?_)
  refine As ?_
  refine gend ?_
  refine awp_ret ?_
  exact fp1
set_option maxHeartbeats 1600000 in
/-- escutcheonref11.mix -/
theorem rmix (v : List UInt32) (a b c d : Nat) (x y : UInt32) (ha : a < 16) (hb : b < 16) (hc : c < 16) (hd : d < 16) (hv : v.length = 16) : Good Try.prog 18 [.a (u32s v), .c (cn a), .c (cn b), .c (cn c), .c (cn d), .c (c32 x), .c (c32 y)] [] (sa (u32s (gmix v a b c d x y))) [] := by
  refine good_frm 96 Try.func18 rfl rfl rfl rfl rfl rfl ?_
  refine awp_seq ?_
  refine rl ?_
  refine G (q_boxa ?_)
  refine G (q_al ?_)
  refine gend ?_
  refine awp_seq ?_
  refine rdl [11] [] [0, 0, 0, 0, 0, 0, 0, 0, 0, 0, 0, 1] ?_
  refine Dp (fun _ => q_mv (s := .v (.c _)) ⟨rfl, rfl⟩) ?_
  refine Dp (fun _ => q_mv (s := .v (.c _)) ⟨rfl, rfl⟩) ?_
  refine Dp (fun _ => q_ixp1 ⟨rfl, rfl⟩) ?_
  refine DLp ?_
  refine Dp (fun _ => q_mv (s := .v (.c _)) ⟨rfl, rfl⟩) ?_
  refine Dp (fun _ => q_ixp1 ⟨rfl, rfl⟩) ?_
  refine DLp ?_
  refine Dp (fun _ => q_add32 ⟨rfl, rfl⟩) ?_
  refine Dp (fun _ => q_mv (s := .v (.c _)) ⟨rfl, rfl⟩) ?_
  refine Dp (fun _ => q_add32 ⟨rfl, rfl⟩) ?_
  refine Dp (fun _ => q_ixp1 ⟨rfl, rfl⟩) ?_
  refine De0 (q_stm (pw ?_))
  refine dend ?_
  refine awp_seq ?_
  refine rdl [10] [] [0, 0, 0, 0, 0, 0, 0, 0, 0, 0, 1] ?_
  refine Dp (fun _ => q_mv (s := .v (.c _)) ⟨rfl, rfl⟩) ?_
  refine Dp (fun _ => q_mv (s := .v (.c _)) ⟨rfl, rfl⟩) ?_
  refine Dp (fun _ => q_ixp1 ⟨rfl, rfl⟩) ?_
  refine DLp ?_
  refine Dp (fun _ => q_mv (s := .v (.c _)) ⟨rfl, rfl⟩) ?_
  refine Dp (fun _ => q_ixp1 ⟨rfl, rfl⟩) ?_
  refine DLp ?_
  refine Dp (fun _ => q_xor32 ⟨rfl, rfl⟩) ?_
  refine Dp (fun _ => q_callp (ror_ _ 16/- escutcheon/escutcheonref11.ror -/) ⟨rfl, rfl⟩) ?_
  refine Dp (fun _ => q_ixp1 ⟨rfl, rfl⟩) ?_
  refine De0 (q_stm (pw ?_))
  refine dend ?_
  refine awp_seq ?_
  refine rdl [9] [] [0, 0, 0, 0, 0, 0, 0, 0, 0, 1] ?_
  refine Dp (fun _ => q_mv (s := .v (.c _)) ⟨rfl, rfl⟩) ?_
  refine Dp (fun _ => q_mv (s := .v (.c _)) ⟨rfl, rfl⟩) ?_
  refine Dp (fun _ => q_ixp1 ⟨rfl, rfl⟩) ?_
  refine DLp ?_
  refine Dp (fun _ => q_mv (s := .v (.c _)) ⟨rfl, rfl⟩) ?_
  refine Dp (fun _ => q_ixp1 ⟨rfl, rfl⟩) ?_
  refine DLp ?_
  refine Dp (fun _ => q_add32 ⟨rfl, rfl⟩) ?_
  refine Dp (fun _ => q_ixp1 ⟨rfl, rfl⟩) ?_
  refine De0 (q_stm (pw ?_))
  refine dend ?_
  refine awp_seq ?_
  refine rdl [10] [] [0, 0, 0, 0, 0, 0, 0, 0, 0, 0, 1] ?_
  refine Dp (fun _ => q_mv (s := .v (.c _)) ⟨rfl, rfl⟩) ?_
  refine Dp (fun _ => q_mv (s := .v (.c _)) ⟨rfl, rfl⟩) ?_
  refine Dp (fun _ => q_ixp1 ⟨rfl, rfl⟩) ?_
  refine DLp ?_
  refine Dp (fun _ => q_mv (s := .v (.c _)) ⟨rfl, rfl⟩) ?_
  refine Dp (fun _ => q_ixp1 ⟨rfl, rfl⟩) ?_
  refine DLp ?_
  refine Dp (fun _ => q_xor32 ⟨rfl, rfl⟩) ?_
  refine Dp (fun _ => q_callp (ror_ _ 12/- escutcheon/escutcheonref11.ror -/) ⟨rfl, rfl⟩) ?_
  refine Dp (fun _ => q_ixp1 ⟨rfl, rfl⟩) ?_
  refine De0 (q_stm (pw ?_))
  refine dend ?_
  refine awp_seq ?_
  refine rdl [11] [] [0, 0, 0, 0, 0, 0, 0, 0, 0, 0, 0, 1] ?_
  refine Dp (fun _ => q_mv (s := .v (.c _)) ⟨rfl, rfl⟩) ?_
  refine Dp (fun _ => q_mv (s := .v (.c _)) ⟨rfl, rfl⟩) ?_
  refine Dp (fun _ => q_ixp1 ⟨rfl, rfl⟩) ?_
  refine DLp ?_
  refine Dp (fun _ => q_mv (s := .v (.c _)) ⟨rfl, rfl⟩) ?_
  refine Dp (fun _ => q_ixp1 ⟨rfl, rfl⟩) ?_
  refine DLp ?_
  refine Dp (fun _ => q_add32 ⟨rfl, rfl⟩) ?_
  refine Dp (fun _ => q_mv (s := .v (.c _)) ⟨rfl, rfl⟩) ?_
  refine Dp (fun _ => q_add32 ⟨rfl, rfl⟩) ?_
  refine Dp (fun _ => q_ixp1 ⟨rfl, rfl⟩) ?_
  refine De0 (q_stm (pw ?_))
  refine dend ?_
  refine awp_seq ?_
  refine rdl [10] [] [0, 0, 0, 0, 0, 0, 0, 0, 0, 0, 1] ?_
  refine Dp (fun _ => q_mv (s := .v (.c _)) ⟨rfl, rfl⟩) ?_
  refine Dp (fun _ => q_mv (s := .v (.c _)) ⟨rfl, rfl⟩) ?_
  refine Dp (fun _ => q_ixp1 ⟨rfl, rfl⟩) ?_
  refine DLp ?_
  refine Dp (fun _ => q_mv (s := .v (.c _)) ⟨rfl, rfl⟩) ?_
  refine Dp (fun _ => q_ixp1 ⟨rfl, rfl⟩) ?_
  refine DLp ?_
  refine Dp (fun _ => q_xor32 ⟨rfl, rfl⟩) ?_
  refine Dp (fun _ => q_callp (ror_ _ 8/- escutcheon/escutcheonref11.ror -/) ⟨rfl, rfl⟩) ?_
  refine Dp (fun _ => q_ixp1 ⟨rfl, rfl⟩) ?_
  refine De0 (q_stm (pw ?_))
  refine dend ?_
  refine awp_seq ?_
  refine rdl [9] [] [0, 0, 0, 0, 0, 0, 0, 0, 0, 1] ?_
  refine Dp (fun _ => q_mv (s := .v (.c _)) ⟨rfl, rfl⟩) ?_
  refine Dp (fun _ => q_mv (s := .v (.c _)) ⟨rfl, rfl⟩) ?_
  refine Dp (fun _ => q_ixp1 ⟨rfl, rfl⟩) ?_
  refine DLp ?_
  refine Dp (fun _ => q_mv (s := .v (.c _)) ⟨rfl, rfl⟩) ?_
  refine Dp (fun _ => q_ixp1 ⟨rfl, rfl⟩) ?_
  refine DLp ?_
  refine Dp (fun _ => q_add32 ⟨rfl, rfl⟩) ?_
  refine Dp (fun _ => q_ixp1 ⟨rfl, rfl⟩) ?_
  refine De0 (q_stm (pw ?_))
  refine dend ?_
  refine awp_seq ?_
  refine rdl [10] [] [0, 0, 0, 0, 0, 0, 0, 0, 0, 0, 1] ?_
  refine Dp (fun _ => q_mv (s := .v (.c _)) ⟨rfl, rfl⟩) ?_
  refine Dp (fun _ => q_mv (s := .v (.c _)) ⟨rfl, rfl⟩) ?_
  refine Dp (fun _ => q_ixp1 ⟨rfl, rfl⟩) ?_
  refine DLp ?_
  refine Dp (fun _ => q_mv (s := .v (.c _)) ⟨rfl, rfl⟩) ?_
  refine Dp (fun _ => q_ixp1 ⟨rfl, rfl⟩) ?_
  refine DLp ?_
  refine Dp (fun _ => q_xor32 ⟨rfl, rfl⟩) ?_
  refine Dp (fun _ => q_callp (ror_ _ 7/- escutcheon/escutcheonref11.ror -/) ⟨rfl, rfl⟩) ?_
  refine Dp (fun _ => q_ixp1 ⟨rfl, rfl⟩) ?_
  refine De0 (q_stm (pw ?_))
  refine dend ?_
  refine awp_seq ?_
  refine rl ?_
  refine G (q_ldw ?_)
  refine G0 (q_stw ?_)
  refine gend ?_
  refine awp_ret ?_
  exact fpc (t := 48) (a := 14) (hn := by exact (mapc_length ..).trans (by simp only [List.length_set]; exact hv)) (hv := by simp only [rorn_16, rorn_12, rorn_8, rorn_7, UInt32.add_assoc]; rfl)
/-- escutcheonref11.Orders -/
theorem orders_r : Good Try.prog 17 [] [] (sc (.slc 10 0 10 1)) [some (i64s (row 0)), some (i64s (row 1)), some (i64s (row 2)), some (i64s (row 3)), some (i64s (row 4)), some (i64s (row 5)), some (i64s (row 6)), some (i64s (row 7)), some (i64s (row 8)), some (i64s (row 9)), some RC] := by
  refine good_frm 12 Try.func17 rfl rfl rfl rfl rfl rfl ?_
  refine awp_seq ?_
  refine rl ?_
  refine As ?_
  refine gend ?_
  refine awp_seq ?_
  refine rl ?_
  refine G (q_bsl (fkC (out := i64s [0, 1, 2, 3, 4, 5, 6, 7, 8, 9, 10, 11, 12, 13, 14, 15]) ?_))
  refine G (q_bsl (fkC (out := i64s [14, 10, 4, 8, 9, 15, 13, 6, 1, 12, 0, 2, 11, 7, 5, 3]) ?_))
  refine G (q_bsl (fkC (out := i64s [11, 8, 12, 0, 5, 2, 15, 13, 10, 14, 3, 6, 7, 1, 9, 4]) ?_))
  refine G (q_bsl (fkC (out := i64s [7, 9, 3, 1, 13, 12, 11, 14, 2, 6, 5, 10, 4, 0, 15, 8]) ?_))
  refine G (q_bsl (fkC (out := i64s [9, 0, 5, 7, 2, 4, 10, 15, 14, 1, 11, 12, 6, 8, 3, 13]) ?_))
  refine G (q_bsl (fkC (out := i64s [2, 12, 6, 10, 0, 11, 8, 3, 4, 13, 7, 5, 15, 14, 1, 9]) ?_))
  refine G (q_bsl (fkC (out := i64s [12, 5, 1, 15, 14, 13, 4, 10, 0, 7, 6, 3, 9, 2, 8, 11]) ?_))
  refine G (q_bsl (fkC (out := i64s [13, 11, 7, 14, 12, 1, 3, 9, 5, 0, 15, 4, 8, 6, 2, 10]) ?_))
  refine G (q_bsl (fkC (out := i64s [6, 15, 14, 9, 11, 3, 0, 8, 12, 2, 13, 7, 1, 4, 10, 5]) ?_))
  refine G (q_bsl (fkC (out := i64s [10, 2, 8, 4, 7, 6, 1, 5, 15, 11, 9, 14, 3, 12, 13, 0]) ?_))
  refine G (q_bsl (fkc rfl (et rfl) rfl (Nat.le_of_ble_eq_true rfl) (fkc rfl (et rfl) rfl (Nat.le_of_ble_eq_true rfl) (fkc rfl (et rfl) rfl (Nat.le_of_ble_eq_true rfl) (fkc rfl (et rfl) rfl (Nat.le_of_ble_eq_true rfl) (fkc rfl (et rfl) rfl (Nat.le_of_ble_eq_true rfl) (fkc rfl (et rfl) rfl (Nat.le_of_ble_eq_true rfl) (fkc rfl (et rfl) rfl (Nat.le_of_ble_eq_true rfl) (fkc rfl (et rfl) rfl (Nat.le_of_ble_eq_true rfl) (fkc rfl (et rfl) rfl (Nat.le_of_ble_eq_true rfl) (fkc rfl (et rfl) rfl (Nat.le_of_ble_eq_true rfl) (fk0 ?_))))))))))))
  refine As ?_
  refine gend ?_
  refine awp_ret ?_
  exact fx1 [0, 1, 2, 3, 4, 5, 6, 7, 8, 9, 10] (hH := by kernel_rfl)
end Go.Proofs.Ytngmhcgenknokaa

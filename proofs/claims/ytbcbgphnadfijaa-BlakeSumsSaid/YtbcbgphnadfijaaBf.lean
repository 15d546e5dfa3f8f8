/- What functions of the program do, walked over the abstract machine. -/
import Derived.Test.YtbcbgphnadfijaaBe
namespace Go.Proofs.Ytbcbgphnadfijaa
open Go Go.Abs Go.Proofs

theorem row_cut (i : Nat) : ((i64s ordz).drop (i * 16)).take 16 = i64s (row i) := by simp [row, mapc, List.map_take, List.map_drop, Nat.mul_comm]
def seenf (i : Nat) : Nat → List Bool
  | 0 => List.replicate 16 false
  | j + 1 => (seenf i j).set (ords.getD (16 * i + j) 0) true
theorem seen_at (i j : Nat) (hi : i < 10) (hj : j < 16) : ((seenf i j).map Cell.bool)[ords.getD (16 * i + j) 0]? = some (.bool false) := by
  have : ∀ i : Fin 10, ∀ j : Fin 16, (seenf i.1 j.1)[ords.getD (16 * i.1 + j.1) 0]? = some false := by decide +kernel
  rw [List.getElem?_map, this ⟨i, hi⟩ ⟨j, hj⟩]; rfl
theorem seen_len (i : Nat) : ∀ j, (seenf i j).length = 16
  | 0 => by simp [seenf]
  | j + 1 => by rw [seenf, List.length_set, seen_len]
theorem abc_hash : (bsum [97, 98, 99]).getD 0 0 = 80 ∧ (bsum [97, 98, 99]).getD 1 0 = 140 ∧ (bsum [97, 98, 99]).getD 2 0 = 94 ∧ (bsum [97, 98, 99]).getD 3 0 = 140 := by decide +kernel
/-- blake.Order -/
theorem order_in (i : Nat) (hi : i < 10) : Good Try.prog 9 [.c (cn i)] [] (sa (i64s (row i))) [] := by
  refine good_frm 13 Try.func9 rfl rfl rfl rfl rfl rfl ?_
  refine awp_seq ?_
  refine rl ?_
  refine G (q_al ?_)
  refine gend ?_
  refine awp_seq ?_
  refine awp_seq ?_
  refine rl ?_
  refine Mv ?_
  refine G (q_lssn (y := 0) ?_)
  refine Mv ?_
  refine Akfd 5 (fun hb3 => ?_) ?_; rotate_left
  · omega
  refine Gg (q_mv (s := .v (.c _)) ?_)
  refine Gg (q_geqn (y := 10) ?_)
  refine G (q_pkf ?_)
  refine gend ?_
  refine cndN (fun hc1 => ?_) ?_; rotate_left
  · omega
  refine awp_skip ?_
  refine awp_seq ?_
  refine rl ?_
  refine G (q_callp (orders/- escutcheon/blake.orders -/) ?_)
  refine Mv ?_
  refine G (q_ina  ?_ (hy := row_cut i))
  refine G0 (q_stw  ?_ (hl := (mapc_length ..).trans (row_len i hi)))
  refine gend ?_
  refine awp_ret ?_
  exact fpc (t := 33) (a := 2) (hn := (mapc_length ..).trans (row_len i hi))
/-- blake.Order -/
theorem order_out (i : Int) (hi : i < 0 ∨ 10 ≤ i) : Good Try.prog 9 [.c (ci i)] [] (sa (i64s (List.replicate 16 0))) [] := by
  refine good_frm 13 Try.func9 rfl rfl rfl rfl rfl rfl ?_
  refine awp_seq ?_
  refine rl ?_
  refine G (q_al ?_)
  refine gend ?_
  refine awp_seq ?_
  refine awp_seq ?_
  refine rl ?_
  refine Mv ?_
  refine G (q_lssi (y := 0) ?_)
  refine Mv ?_
  refine Aspd 5 (fun hb3 => ?_) (fun hb3 => ?_)
  · refine Gn ?_
    refine Gn ?_
    refine G (q_pkt ?_)
    refine gend ?_
    refine cndT ?_
    refine awp_seq ?_
    refine rl ?_
    refine G (q_bla (fk0 ?_))
    refine G0 (q_stw ?_)
    refine gend ?_
    refine awp_ret ?_
    exact fpc (t := 33) (a := 2) (hn := by kernel_rfl) (hv := by kernel_rfl)
  refine Gg (q_mv (s := .v (.c _)) ?_)
  refine Gg (q_geqi (y := 10) ?_)
  refine G (q_pkf ?_)
  refine gend ?_
  refine cndY (fun hc1 => ?_) ?_; rotate_left
  · omega
  refine awp_seq ?_
  refine rl ?_
  refine G (q_bla (fk0 ?_))
  refine G0 (q_stw ?_)
  refine gend ?_
  refine awp_ret ?_
  exact fpc (t := 33) (a := 2) (hn := by kernel_rfl) (hv := by kernel_rfl)
/-- blake.Start -/
theorem start_in (i : Nat) (hi : i < 8) : Good Try.prog 10 [.c (cn i)] [] (sc (c32 (fst8.getD i 0))) [] := by
  refine good_frm 12 Try.func10 rfl rfl rfl rfl rfl rfl ?_
  refine awp_seq ?_
  refine rl ?_
  refine G (q_as (s := sc (c32 0)) ?_)
  refine gend ?_
  refine awp_seq ?_
  refine awp_seq ?_
  refine rl ?_
  refine Mv ?_
  refine G (q_lssn (y := 0) ?_)
  refine Mv ?_
  refine Akfd 5 (fun hb3 => ?_) ?_; rotate_left
  · omega
  refine Gg (q_mv (s := .v (.c _)) ?_)
  refine Gg (q_geqn (y := 8) ?_)
  refine G (q_pkf ?_)
  refine gend ?_
  refine cndN (fun hc1 => ?_) ?_; rotate_left
  · omega
  refine awp_skip ?_
  refine awp_seq ?_
  refine rl ?_
  refine G (q_callp (start/- escutcheon/blake.start -/) ?_)
  refine Mv ?_
  refine G (q_inc ?_)
  refine As ?_
  refine gend ?_
  refine awp_ret ?_
  exact fp1
/-- blake.Start -/
theorem start_out (i : Int) (hi : i < 0 ∨ 8 ≤ i) : Good Try.prog 10 [.c (ci i)] [] (sc (c32 0)) [] := by
  refine good_frm 12 Try.func10 rfl rfl rfl rfl rfl rfl ?_
  refine awp_seq ?_
  refine rl ?_
  refine G (q_as (s := sc (c32 0)) ?_)
  refine gend ?_
  refine awp_seq ?_
  refine awp_seq ?_
  refine rl ?_
  refine Mv ?_
  refine G (q_lssi (y := 0) ?_)
  refine Mv ?_
  refine Aspd 5 (fun hb3 => ?_) (fun hb3 => ?_)
  · refine Gn ?_
    refine Gn ?_
    refine G (q_pkt ?_)
    refine gend ?_
    refine cndT ?_
    refine awp_seq ?_
    refine rl ?_
    refine G (q_as (s := sc (c32 0)) ?_)
    refine gend ?_
    refine awp_ret ?_
    exact fp1
  refine Gg (q_mv (s := .v (.c _)) ?_)
  refine Gg (q_geqi (y := 8) ?_)
  refine G (q_pkf ?_)
  refine gend ?_
  refine cndY (fun hc1 => ?_) ?_; rotate_left
  · omega
  refine awp_seq ?_
  refine rl ?_
  refine G (q_as (s := sc (c32 0)) ?_)
  refine gend ?_
  refine awp_ret ?_
  exact fp1
/-- escutcheonlaw11.known -/
theorem known : Good Try.prog 5 [] [] (sc (.bool true)) [] := by
  have gS := sum_ [[97, 98, 99]] 1 rfl (by decide) (by decide)
  have hS : [[97, 98, 99]].flatten = ([97, 98, 99] : List UInt8) := rfl
  rw [hS] at gS
  have hb := bsum_len [97, 98, 99]
  obtain ⟨h0, h1, h2, h3⟩ := abc_hash
  generalize bsum [97, 98, 99] = B at gS hb h0 h1 h2 h3
  refine good_frm 24 Try.func5 rfl rfl rfl rfl rfl rfl ?_
  refine awp_seq ?_
  refine rl ?_
  refine As ?_
  refine gend ?_
  refine awp_seq ?_
  refine rl ?_
  refine G (q_bsl (fkc (c := c8 97) rfl rfl rfl (Nat.le_of_ble_eq_true rfl) (fkc (c := c8 98) rfl rfl rfl (Nat.le_of_ble_eq_true rfl) (fkc (c := c8 99) rfl rfl rfl (Nat.le_of_ble_eq_true rfl) (fk0 ?_)))))
  refine G (q_css ?_)
  refine G (q_bsl (fkc rfl (et rfl) rfl (Nat.le_of_ble_eq_true rfl) (fk0 ?_)))
  refine G (q_callp (gS/- escutcheon/blake.Sum -/) ?_)
  refine G (q_al ?_)
  refine G0 (q_stw  ?_ (hl := (mapc_length ..).trans hb))
  refine gend ?_
  refine awp_seq ?_
  refine rl ?_
  refine G (q_ixp1 ?_)
  refine G (q_ldp ?_)
  refine G (q_eql8 (y := 80) ?_)
  refine Mv ?_
  refine Aknd 9 (fun hb4 => ?_) ?_; rotate_left
  · exact h0
  refine Gg (q_ixp1 ?_)
  refine Gg (q_ldp ?_)
  refine Gg (q_eql8 (y := 140) ?_)
  refine G (q_pkt ?_)
  refine Mv ?_
  refine Aknd 14 (fun hb9 => ?_) ?_; rotate_left
  · exact h1
  refine Gg (q_ixp1 ?_)
  refine Gg (q_ldp ?_)
  refine Gg (q_eql8 (y := 94) ?_)
  refine G (q_pkt ?_)
  refine Mv ?_
  refine Aknd 19 (fun hb14 => ?_) ?_; rotate_left
  · exact h2
  refine Gg (q_ixp1 ?_)
  refine Gg (q_ldp ?_)
  refine Gg (q_eql8 (y := 140) ?_)
  refine G (q_pkt ?_)
  refine As ?_
  refine gend ?_
  refine awp_ret ?_
  exact fp1 (hv := by rw [decide_eq_true h3])
set_option maxHeartbeats 800000 in
/-- escutcheonlaw11.BlakeTables -/
theorem tables (i : Int) : Good Try.prog 4 [.c (ci i)] [] (sc (.bool true)) [] := by
  refine good_frm 79 Try.func4 rfl rfl rfl rfl rfl rfl ?_
  refine awp_seq ?_
  refine rl ?_
  refine As ?_
  refine gend ?_
  refine awp_seq ?_
  refine rl ?_
  refine G (q_callv [] [] [some (i64s (row 0)), some (i64s (row 1)), some (i64s (row 2)), some (i64s (row 3)), some (i64s (row 4)), some (i64s (row 5)), some (i64s (row 6)), some (i64s (row 7)), some (i64s (row 8)), some (i64s (row 9)), some RC] orders_r ?_ (eM := ml1 sees_m (ml1 sees_m (ml1 sees_m (ml1 sees_m (ml1 sees_m (ml1 sees_m (ml1 sees_m (ml1 sees_m (ml1 sees_m (ml1 sees_m (ml1 rfl ml0))))))))))))
  refine As ?_
  refine gend ?_
  refine awp_seq ?_
  refine awp_seq ?_
  refine rl ?_
  refine G (q_as (s := sc (cn 0)) ?_)
  refine gend ?_
  refine awp_block ?_
  refine awp_loop (fun x : {i : Nat // i ≤ 10} => ⟨frm 79 [(0, sc (ci i)), (3, sc (.slc 10 0 10 1)), (4, sc (cn x.1))], [some (i64s (row 0)), some (i64s (row 1)), some (i64s (row 2)), some (i64s (row 3)), some (i64s (row 4)), some (i64s (row 5)), some (i64s (row 6)), some (i64s (row 7)), some (i64s (row 8)), some (i64s (row 9)), some RC]⟩) (fun x => 10 - x.1) ⟨0, Nat.zero_le _⟩ (sle_sub ⟨rfl, rfl, rfl, trivial⟩ rfl) fun x => ?_   -- live: [3, 4]
  refine awp_seq ?_
  refine awp_seq ?_
  refine rl ?_
  refine Mv ?_
  refine G (q_lssn (y := 10) ?_)
  refine gend ?_
  refine cnd (fun hc1 => ?_) (fun hc1 => ?_); rotate_left
  · refine awp_exit ?_
    rw [show x.1 = 10 from (by have := x.2; omega)]
    refine awp_seq ?_
    refine awp_seq ?_
    refine rl ?_
    refine G (q_as (s := sc (cn 0)) ?_)
    refine gend ?_
    refine awp_block ?_
    refine awp_loop (fun y : {i : Nat // i ≤ 8} => ⟨frm 79 [(0, sc (ci i)), (8, sc (cn y.1))], [some (i64s (row 0)), some (i64s (row 1)), some (i64s (row 2)), some (i64s (row 3)), some (i64s (row 4)), some (i64s (row 5)), some (i64s (row 6)), some (i64s (row 7)), some (i64s (row 8)), some (i64s (row 9)), some RC]⟩) (fun y => 8 - y.1) ⟨0, Nat.zero_le _⟩ (sle_sub ⟨rfl, rfl, trivial⟩ rfl) fun y => ?_   -- live: [8]
    refine awp_seq ?_
    refine awp_seq ?_
    refine rl ?_
    refine Mv ?_
    refine G (q_lssn (y := 8) ?_)
    refine gend ?_
    refine cnd (fun hc2 => ?_) (fun hc2 => ?_); rotate_left
    · refine awp_exit ?_
      rw [show y.1 = 8 from (by have := y.2; omega)]
      refine awp_seq ?_
      refine rl ?_
      refine Mv ?_
      refine G (q_geqi (y := 0) ?_)
      refine Mv ?_
      refine Aspd 53 (fun hb3 => ?_) (fun hb3 => ?_)
      · refine Gg (q_mv (s := .v (.c _)) ?_)
        refine Gg (q_lssi (y := 10) ?_)
        refine G (q_pkt ?_)
        refine Mv ?_
        refine Aspd 57 (fun hb7 => ?_) (fun hb7 => ?_)
        · refine Gn ?_
          refine Gn ?_
          refine Gn ?_
          refine Gn ?_
          refine G (q_pkt ?_)
          refine Mv ?_
          refine Gg (q_mv (s := .v (.c _)) ?_)
          refine Gg (q_geqi (y := 0) ?_)
          refine Gg (q_mv (s := .v (.c _)) ?_)
          refine Aspd 66 (fun hb16 => ?_) (fun hb16 => ?_)
          · refine Gg (q_mv (s := .v (.c _)) ?_)
            refine Gg (q_lssi (y := 8) ?_)
            refine Gg (q_pkt ?_)
            refine Gg (q_mv (s := .v (.c _)) ?_)
            refine Aspd 70 (fun hb20 => ?_) (fun hb20 => ?_)
            · refine Gn ?_
              refine Gn ?_
              refine Gn ?_
              refine Gg (q_pkt ?_)
              refine G (q_pkt ?_)
              refine Mv ?_
              refine Gg (q_callp (known/- escutcheon/escutcheonlaw11.known -/) ?_)
              refine G (q_pkt ?_)
              refine As ?_
              refine gend ?_
              refine awp_ret ?_
              exact fp1
            refine Gg (q_mv (s := .v (.c _)) ?_)
            refine Gg (q_callp (start_out i (by omega)/- escutcheon/blake.Start -/) ?_)
            refine Gg (q_eql32 (y := 0) ?_)
            refine Gg (q_pkf ?_)
            refine G (q_pkt ?_)
            refine Mv ?_
            refine Aknd 76 (fun hb26 => ?_) ?_; rotate_left
            · first | rfl | (simp [*]; done) | assumption
            refine Gg (q_callp (known/- escutcheon/escutcheonlaw11.known -/) ?_)
            refine G (q_pkt ?_)
            refine As ?_
            refine gend ?_
            refine awp_ret ?_
            exact fp1
          refine Gn ?_
          refine Gn ?_
          refine Gg (q_pkf ?_)
          refine Gg (q_mv (s := .v (.c _)) ?_)
          refine Gg (q_mv (s := .v (.c _)) ?_)
          refine Gg (q_callp (start_out i (by omega)/- escutcheon/blake.Start -/) ?_)
          refine Gg (q_eql32 (y := 0) ?_)
          refine Gg (q_pkf ?_)
          refine G (q_pkt ?_)
          refine Mv ?_
          refine Aknd 76 (fun hb26 => ?_) ?_; rotate_left
          · first | rfl | (simp [*]; done) | assumption
          refine Gg (q_callp (known/- escutcheon/escutcheonlaw11.known -/) ?_)
          refine G (q_pkt ?_)
          refine As ?_
          refine gend ?_
          refine awp_ret ?_
          exact fp1
        refine Gg (q_mv (s := .v (.c _)) ?_)
        refine Gg (q_callp (order_out i (by omega)/- escutcheon/blake.Order -/) ?_)
        refine Gg (q_bla (fk0 ?_))
        refine Gg (q_eqa0 ?_)
        refine G (q_pkf ?_)
        refine Mv ?_
        refine Aknd 63 (fun hb13 => ?_) ?_; rotate_left
        · first | rfl | (simp; done) | assumption
        refine Gg (q_mv (s := .v (.c _)) ?_)
        refine Gg (q_geqi (y := 0) ?_)
        refine Gg (q_mv (s := .v (.c _)) ?_)
        refine Aspd 66 (fun hb16 => ?_) (fun hb16 => ?_)
        · refine Gg (q_mv (s := .v (.c _)) ?_)
          refine Gg (q_lssi (y := 8) ?_)
          refine Gg (q_pkt ?_)
          refine Gg (q_mv (s := .v (.c _)) ?_)
          refine Aspd 70 (fun hb20 => ?_) (fun hb20 => ?_)
          · refine Gn ?_
            refine Gn ?_
            refine Gn ?_
            refine Gg (q_pkt ?_)
            refine G (q_pkt ?_)
            refine Mv ?_
            refine Gg (q_callp (known/- escutcheon/escutcheonlaw11.known -/) ?_)
            refine G (q_pkt ?_)
            refine As ?_
            refine gend ?_
            refine awp_ret ?_
            exact fp1
          refine Gg (q_mv (s := .v (.c _)) ?_)
          refine Gg (q_callp (start_out i (by omega)/- escutcheon/blake.Start -/) ?_)
          refine Gg (q_eql32 (y := 0) ?_)
          refine Gg (q_pkf ?_)
          refine G (q_pkt ?_)
          refine Mv ?_
          refine Aknd 76 (fun hb26 => ?_) ?_; rotate_left
          · first | rfl | (simp [*]; done) | assumption
          refine Gg (q_callp (known/- escutcheon/escutcheonlaw11.known -/) ?_)
          refine G (q_pkt ?_)
          refine As ?_
          refine gend ?_
          refine awp_ret ?_
          exact fp1
        refine Gn ?_
        refine Gn ?_
        refine Gg (q_pkf ?_)
        refine Gg (q_mv (s := .v (.c _)) ?_)
        refine Gg (q_mv (s := .v (.c _)) ?_)
        refine Gg (q_callp (start_out i (by omega)/- escutcheon/blake.Start -/) ?_)
        refine Gg (q_eql32 (y := 0) ?_)
        refine Gg (q_pkf ?_)
        refine G (q_pkt ?_)
        refine Mv ?_
        refine Aknd 76 (fun hb26 => ?_) ?_; rotate_left
        · first | rfl | (simp [*]; done) | assumption
        refine Gg (q_callp (known/- escutcheon/escutcheonlaw11.known -/) ?_)
        refine G (q_pkt ?_)
        refine As ?_
        refine gend ?_
        refine awp_ret ?_
        exact fp1
      refine Gn ?_
      refine Gn ?_
      refine G (q_pkf ?_)
      refine Mv ?_
      refine Gg (q_mv (s := .v (.c _)) ?_)
      refine Gg (q_callp (order_out i (by omega)/- escutcheon/blake.Order -/) ?_)
      refine Gg (q_bla (fk0 ?_))
      refine Gg (q_eqa0 ?_)
      refine G (q_pkf ?_)
      refine Mv ?_
      refine Aknd 63 (fun hb13 => ?_) ?_; rotate_left
      · first | rfl | (simp; done) | assumption
      refine Gg (q_mv (s := .v (.c _)) ?_)
      refine Gg (q_geqi (y := 0) ?_)
      refine Gg (q_mv (s := .v (.c _)) ?_)
      refine Aspd 66 (fun hb16 => ?_) (fun hb16 => ?_)
      · refine Gg (q_mv (s := .v (.c _)) ?_)
        refine Gg (q_lssi (y := 8) ?_)
        refine Gg (q_pkt ?_)
        refine Gg (q_mv (s := .v (.c _)) ?_)
        refine Aspd 70 (fun hb20 => ?_) (fun hb20 => ?_)
        · refine Gn ?_
          refine Gn ?_
          refine Gn ?_
          refine Gg (q_pkt ?_)
          refine G (q_pkt ?_)
          refine Mv ?_
          refine Gg (q_callp (known/- escutcheon/escutcheonlaw11.known -/) ?_)
          refine G (q_pkt ?_)
          refine As ?_
          refine gend ?_
          refine awp_ret ?_
          exact fp1
        refine Gg (q_mv (s := .v (.c _)) ?_)
        refine Gg (q_callp (start_out i (by omega)/- escutcheon/blake.Start -/) ?_)
        refine Gg (q_eql32 (y := 0) ?_)
        refine Gg (q_pkf ?_)
        refine G (q_pkt ?_)
        refine Mv ?_
        refine Aknd 76 (fun hb26 => ?_) ?_; rotate_left
        · first | rfl | (simp [*]; done) | assumption
        refine Gg (q_callp (known/- escutcheon/escutcheonlaw11.known -/) ?_)
        refine G (q_pkt ?_)
        refine As ?_
        refine gend ?_
        refine awp_ret ?_
        exact fp1
      refine Gn ?_
      refine Gn ?_
      refine Gg (q_pkf ?_)
      refine Gg (q_mv (s := .v (.c _)) ?_)
      refine Gg (q_mv (s := .v (.c _)) ?_)
      refine Gg (q_callp (start_out i (by omega)/- escutcheon/blake.Start -/) ?_)
      refine Gg (q_eql32 (y := 0) ?_)
      refine Gg (q_pkf ?_)
      refine G (q_pkt ?_)
      refine Mv ?_
      refine Aknd 76 (fun hb26 => ?_) ?_; rotate_left
      · first | rfl | (simp [*]; done) | assumption
      refine Gg (q_callp (known/- escutcheon/escutcheonlaw11.known -/) ?_)
      refine G (q_pkt ?_)
      refine As ?_
      refine gend ?_
      refine awp_ret ?_
      exact fp1
    refine awp_skip ?_
    refine awp_seq ?_
    refine awp_block ?_
    refine awp_seq ?_
    refine rl ?_
    refine Mv ?_
    refine G (q_callp (start_in y.1 (by omega)/- escutcheon/blake.Start -/) ?_)
    refine Mv ?_
    refine G (q_callp (rstart_ y.1 (by omega)/- escutcheon/escutcheonref11.Start -/) ?_)
    refine G (q_neq32 ?_)
    refine gend ?_
    refine cndN (fun hc3 => ?_) ?_; rotate_left
    · exact fun h => h (rstart_eq y.1 (by omega)).symm
    refine awp_skip ?_
    refine rl ?_
    refine Mv ?_
    refine G (q_addn (y := 1) ?_)
    refine As ?_
    refine gend ?_
    exact ⟨⟨y.1 + 1, by omega⟩, by show 8 - (y.1 + 1) < 8 - y.1; omega, sle_sub ⟨rfl, rfl, trivial⟩ rfl⟩   -- endloop 2
  refine awp_skip ?_
  refine awp_seq ?_
  refine awp_block ?_
  refine awp_seq ?_
  refine rl ?_
  refine Mv ?_
  refine G (q_callp (order_in x.1 (by omega)/- escutcheon/blake.Order -/) ?_)
  refine G (q_al ?_)
  refine G0 (q_stw  ?_ (hl := (mapc_length ..).trans (row_len _ (by omega))) (hc := (mapc_length ..).trans (List.length_replicate ..)))
  refine gend ?_
  refine awp_seq ?_
  refine rl ?_
  refine G (q_al ?_)
  refine gend ?_
  refine awp_seq ?_
  refine rl ?_
  refine G (q_as (s := sc (cn 0)) ?_)
  refine gend ?_
  refine awp_block ?_
  refine awp_loop (fun j : {i : Nat // i ≤ 16} => ⟨frm 79 [(0, sc (ci i)), (3, sc (.slc 10 0 10 1)), (4, sc (cn x.1)), (5, sc (.ptr 11 0)), (6, sc (.ptr 12 0)), (7, sc (cn j.1))], [some (i64s (row 0)), some (i64s (row 1)), some (i64s (row 2)), some (i64s (row 3)), some (i64s (row 4)), some (i64s (row 5)), some (i64s (row 6)), some (i64s (row 7)), some (i64s (row 8)), some (i64s (row 9)), some RC, some (i64s (row x.1)), some ((seenf x.1 j.1).map Cell.bool)]⟩) (fun j => 16 - j.1) ⟨0, Nat.zero_le _⟩ (sle_sub ⟨rfl, rfl, rfl, rfl, rfl, rfl, trivial⟩ rfl) fun j => ?_   -- live: [3, 4, 5, 6, 7]
  refine awp_seq ?_
  refine awp_seq ?_
  refine rl ?_
  refine Mv ?_
  refine G (q_lssn (y := 16) ?_)
  refine gend ?_
  refine cnd (fun hc4 => ?_) (fun hc4 => ?_); rotate_left
  · refine awp_exit ?_
    rw [show j.1 = 16 from (by have := j.2; omega)]
    refine rl ?_
    refine Mv ?_
    refine G (q_addn (y := 1) ?_)
    refine As ?_
    refine gend ?_
    exact ⟨⟨x.1 + 1, by omega⟩, by show 10 - (x.1 + 1) < 10 - x.1; omega, sle_view [0, 1, 2, 3, 4, 5, 6, 7, 8, 9, 10] (fun p h => absurd h (Nat.not_lt_zero _)) (by decide) ⟨rfl, rfl, rfl, trivial⟩ (Eq.symm (pl1 rfl sees_m (pl1 rfl sees_m (pl1 rfl sees_m (pl1 rfl sees_m (pl1 rfl sees_m (pl1 rfl sees_m (pl1 rfl sees_m (pl1 rfl sees_m (pl1 rfl sees_m (pl1 rfl sees_m (pl1 rfl rfl pl0))))))))))))⟩   -- endloop 1
  refine awp_skip ?_
  refine awp_seq ?_
  refine awp_block ?_
  refine awp_seq ?_
  refine awp_seq ?_
  have ho := ords_lt (16 * x.1 + j.1)
  have h1 := row_at x.1 j.1 (by omega) (by omega)
  have hs := seen_at x.1 j.1 (by omega) (by omega)
  have hsl := seen_len x.1 j.1
  obtain ⟨p, hp⟩ : ∃ p, ords.getD (16 * x.1 + j.1) 0 = p := ⟨_, rfl⟩
  have hse : seenf x.1 (j.1 + 1) = (seenf x.1 j.1).set p true := by rw [seenf, hp]
  rw [hp] at ho h1 hs
  refine rdl [] [] [] ?_
  refine Dp (fun _ => q_mv (s := .v (.c _)) ⟨rfl, rfl⟩) ?_
  refine Dp (fun _ => q_ixp1 ⟨rfl, rfl⟩) ?_
  refine DLp  ?_ (hc := h1)
  refine Dp (fun _ => q_mv (s := .v (.c _)) ⟨rfl, rfl⟩) ?_
  refine Dp (fun _ => q_mv (s := .v (.c _)) ⟨rfl, rfl⟩) ?_
  refine Dp (fun _ => q_ixs1 ⟨rfl, rfl⟩) ?_
  refine DLp  ?_ (hc := rc_at _ (by omega))
  refine Dp (fun _ => q_mv (s := .v (.c _)) ⟨rfl, rfl⟩) ?_
  refine Dp (fun _ => q_ixs1 ⟨rfl, rfl⟩) ?_
  refine DLp  ?_ (_hp := rh_at _ (by omega)) (hc := h1) (hs := by repeat' (first | exact trivial | exact sub_one (rh_at _ (by omega)) | refine And.intro ?_ ?_))
  refine Dp (fun _ => q_neqn ⟨rfl, rfl⟩) ?_
  refine Dp (fun _ => q_mv (s := .v (.c _)) ⟨rfl, rfl⟩) ?_
  refine Dkfd 31 (fun hb12 => ?_) ?_; rotate_left
  · exact fun h => h rfl
  refine Dpg (fun _ => q_mv (s := .v (.c _)) ⟨rfl, rfl⟩) ?_
  refine Dpg (fun _ => q_ixp1 ⟨rfl, rfl⟩) ?_
  refine DLpg  ?_ (hc := h1)
  refine Dpg (fun _ => q_ixp1 ⟨rfl, rfl⟩) ?_
  refine DLpg  ?_ (hc := hs)
  refine Dp (fun _ => q_pkf ⟨rfl, rfl⟩) ?_
  refine dend ?_
  refine cndbN (fun hc5 => ?_) ?_; rotate_left
  · rfl
  refine awp_skip ?_
  refine rl ?_
  refine Mv ?_
  refine G (q_ixp1 ?_)
  refine G (q_ldp  ?_ (hc := h1))
  refine G (q_ixp1 ?_)
  refine G0 (q_st (c := .bool true) ?_)
  refine gend ?_
  refine rl ?_
  refine Mv ?_
  refine G (q_addn (y := 1) ?_)
  refine As ?_
  refine gend ?_
  exact ⟨⟨j.1 + 1, by omega⟩, by show 16 - (j.1 + 1) < 16 - j.1; omega, sle_sub ⟨rfl, rfl, rfl, rfl, rfl, rfl, trivial⟩ (by show _ = [some (i64s (row 0)), some (i64s (row 1)), some (i64s (row 2)), some (i64s (row 3)), some (i64s (row 4)), some (i64s (row 5)), some (i64s (row 6)), some (i64s (row 7)), some (i64s (row 8)), some (i64s (row 9)), some RC, some (i64s (row x.1)), some ((seenf x.1 (j.1 + 1)).map Cell.bool)]; rw [hse, List.map_set]; rfl)⟩   -- endloop 3
end Go.Proofs.Ytbcbgphnadfijaa

/- What functions of the program do, walked over the abstract machine. -/
import Derived.Test.YtngmhcgenknokaaHc
import Derived.Test.YtngmhcgenknokaaHb
import Derived.Test.YtngmhcgenknokaaAbsZf
namespace Go.Proofs.Ytngmhcgenknokaa
open Go Go.Abs Go.Proofs

/-- Output by output. -/
def lastb (t : List UInt8) : Nat → List UInt8
  | 0 => []
  | i + 1 => hmac t (lastb t i ++ [UInt8.ofNat (i + 1)])
def allb (t : List UInt8) : Nat → List UInt8
  | 0 => []
  | i + 1 => allb t i ++ lastb t (i + 1)
theorem lastb_le (t : List UInt8) : ∀ i, (lastb t i).length ≤ 32
  | 0 => Nat.zero_le _
  | i + 1 => by rw [lastb, hmac_len]; decide
theorem allb_len (t : List UInt8) : ∀ i, (allb t i).length = i * 32
  | 0 => rfl
  | i + 1 => by rw [allb, List.length_append, allb_len t i, lastb, hmac_len]; omega
theorem one_key {X : List UInt8} (h : X.length = 32) : splice (rep 1 (u8s (List.replicate 32 0))) (0 * 32) (u8s X) = u8s X := by
  rw [Nat.zero_mul]; exact splice_whole (by rw [mapc_length, h]; exact rfl)
theorem app1_cut {l : List UInt8} {b : UInt8} {n : Nat} (hn : l.length = n) : ((([] ++ u8s l) ++ [c8 b]).drop 0).take ((0 + n + 1) * 1) = u8s (l ++ [b]) := by
  rw [List.nil_append, show [c8 b] = u8s [b] from rfl, mapc_append]; exact cut_h (by simp [hn])
theorem cut_all {l : List UInt8} {n : Nat} (h : l.length = n) : ((u8s l).drop 0).take n = u8s l := by
  subst h; rw [List.drop_zero, List.take_of_length_le (by rw [mapc_length]; exact Nat.le_refl _)]
theorem lastb_3 (c m : List UInt8) : lastb (hmac c m) 1 = h3x c m ∧ lastb (hmac c m) 2 = h3y c m ∧ lastb (hmac c m) 3 = h3z c m := ⟨rfl, rfl, rfl⟩
theorem allb_3 (c m : List UInt8) : allb (hmac c m) 3 = h3x c m ++ (h3y c m ++ h3z c m) := by
  show (([] ++ lastb (hmac c m) 1) ++ lastb (hmac c m) 2) ++ lastb (hmac c m) 3 = _
  rw [(lastb_3 c m).1, (lastb_3 c m).2.1, (lastb_3 c m).2.2, List.nil_append, List.append_assoc]
theorem allb_2 (c m : List UInt8) : allb (hmac c m) 2 = h3x c m ++ h3y c m := by
  show ([] ++ lastb (hmac c m) 1) ++ lastb (hmac c m) 2 = _
  rw [(lastb_3 c m).1, (lastb_3 c m).2.1, List.nil_append]
theorem key_0 {X Y : List UInt8} (h : X.length = 32) : ((u8s (X ++ Y)).drop (0 + 0 * 32)).take 32 = u8s X := by
  rw [cut_m]; simp [← h]
theorem key_1 {X Y Z : List UInt8} (h : X.length = 32) (h2 : Y.length = 32) : ((u8s (X ++ (Y ++ Z))).drop (0 + 1 * 32)).take 32 = u8s Y := by
  rw [cut_m, List.drop_append_of_le_length (by omega), List.drop_of_length_le (by omega)]; simp [← h2]
theorem key_2 {X Y Z : List UInt8} (h : X.length = 32) (h2 : Y.length = 32) (h3 : Z.length = 32) : ((u8s (X ++ (Y ++ Z))).drop (0 + 2 * 32)).take 32 = u8s Z := by
  rw [cut_m, ← List.append_assoc, List.drop_append_of_le_length (by simp; omega), List.drop_of_length_le (by simp; omega)]; simp [← h3]
set_option maxHeartbeats 800000 in
/-- escutcheonref12.Outputs -/
theorem outs_ (c m : List UInt8) (n k : Nat) (hcl : c.length = 32) (hm : m.length = n) (hn : n ≤ 10000) (hk : k ≤ 200) : Good Try.prog 11 [.a (u8s c), .c (.ro n (u8s m)), .c (cn k)] [] (sc (.slc 0 0 k 32)) [some (u8s (allb (hmac c m) k))] := by
  have g0 := rmac_ c m 32 n hcl (by decide) hm hn
  obtain ⟨T, hT⟩ : ∃ z, hmac c m = z := ⟨_, rfl⟩
  have hTl : T.length = 32 := by rw [← hT]; exact hmac_len _ _
  rw [hT] at g0 ⊢
  refine good_frm 34 Try.func11 rfl rfl rfl rfl rfl rfl ?_
  refine awp_seq ?_
  refine rln ?_
  refine G2 (fun _ k_ => q_boxa k_) ?_
  refine As ?_
  refine gend ?_
  refine awp_seq ?_
  refine rln ?_
  refine G (q_slp_no ?_)
  refine Mv ?_
  refine G2 (fun _ k_ => q_callp g0 k_ (ha := (cac (et rfl) (sees_slc rfl rfl (cut_h hcl)) (cac (et rfl) sees_ro ca0)))) ?_
  refine G2 (fun _ k_ => q_al k_) ?_
  refine G20 (fun _ k_ => q_stw k_) ?_
  refine gend ?_
  refine awp_seq ?_
  refine rln ?_
  refine As ?_
  refine gend ?_
  refine awp_seq ?_
  refine rln ?_
  refine As ?_
  refine gend ?_
  refine awp_seq ?_
  refine awp_seq ?_
  refine rln ?_
  refine G (q_as (s := sc (cn 1)) ?_)
  refine gend ?_
  refine awp_le (sle_empty (al' := [(2, sc (cn k)), (7, sc (.ptr 1 0)), (8, sc (.slc 2 0 0 32)), (9, sc .nils), (10, sc (cn 1))]) 32 (Nat.zero_le _) ⟨.inl rfl, .inl rfl, .inr ⟨rfl, rfl⟩, .inl rfl, .inl rfl, trivial⟩) ?_
  refine awp_block ?_
  refine awp_loop (fun x : {i : Nat // i ≤ k} => ⟨frm 34 [(2, sc (cn k)), (7, sc (.ptr 1 0)), (8, sc (.slc 2 0 x.1 32)), (9, sc (.slc 3 0 (lastb T x.1).length 1)), (10, sc (cn (x.1 + 1)))], [some (u8s c), some (u8s T), some (u8s (allb T x.1)), some (u8s (lastb T x.1))]⟩) (fun x => k - x.1) ⟨0, Nat.zero_le _⟩ (sle_empty 1 (Nat.zero_le _) ⟨.inl rfl, .inl rfl, .inl rfl, .inr ⟨rfl, rfl⟩, .inl rfl, trivial⟩) fun x => ?_   -- live: [2, 7, 8, 9, 10]
  have hle := lastb_le T x.1
  have hlw : (lastb T x.1).length = (lastb T x.1).length := rfl
  have hl0 : (lastb T x.1).length = 0 + (lastb T x.1).length := by omega
  have hal := allb_len T x.1
  have hll : (lastb T x.1 ++ [UInt8.ofNat (x.1 + 1)]).length = 0 + (lastb T x.1).length + 1 := by simp
  have g1 := rmac_ T (lastb T x.1 ++ [UInt8.ofNat (x.1 + 1)]) 32 (0 + (lastb T x.1).length + 1) hTl (by decide) hll (by omega)
  obtain ⟨L, hL⟩ : ∃ L, lastb T (x.1 + 1) = L := ⟨_, rfl⟩
  have hLl : L.length = 32 := by rw [← hL]; exact hmac_len _ _
  rw [show hmac T (lastb T x.1 ++ [UInt8.ofNat (x.1 + 1)]) = L from hL] at g1
  refine awp_seq ?_
  refine awp_seq ?_
  refine rln ?_
  refine Mv ?_
  refine Mv ?_
  refine G (q_leqn ?_)
  refine gend ?_
  refine cnd (fun hc1 => ?_) (fun hc1 => ?_); rotate_left
  · refine awp_exit ?_
    rw [show x.1 = k from (by have := x.2; omega)]
    refine awp_seq ?_
    refine rln ?_
    refine Mv ?_
    refine As ?_
    refine gend ?_
    refine awp_ret ?_
    exact fx1 [2] (hm0 := rfl) (hH := pl1 rfl sees_m pl0)
  refine awp_skip ?_
  refine awp_seq ?_
  refine awp_block ?_
  refine awp_mid ⟨frm 34 [(2, sc (cn k)), (7, sc (.ptr 1 0)), (8, sc (.slc 2 0 x.1 32)), (10, sc (cn (x.1 + 1))), (11, sc (.ptr 3 0))], [some (u8s c), some (u8s T), some (u8s (allb T x.1)), some (u8s L)]⟩ ?_ ?_
  · refine rdm [2, 5, 6, 7, 8, 9] [⟨[0, 1, 2, 3, 4, 5, 6, 7, 8, 9], [2, 5, 6, 7, 8, 9], [2, 5, 6, 7, 8, 9], [0, 0, 0, 0, 0, 1, 2, 3, 4, 5], [3, 0, 1, 1, 1, 2, 3, 4, 5, 6]⟩, ⟨[0, 1, 2, 3, 4, 5, 6, 8, 7, 9], [2, 5, 6, 8, 7, 9], [2, 5, 6, 7, 8, 9], [0, 0, 0, 0, 0, 1, 2, 3, 4, 5], [4, 0, 1, 1, 1, 2, 3, 4, 5, 6]⟩, ⟨[0, 1, 2, 3, 4, 5, 8, 6, 7, 9], [2, 5, 8, 6, 7, 9], [2, 5, 6, 7, 8, 9], [0, 0, 0, 0, 0, 1, 2, 3, 4, 5], [4, 0, 1, 1, 1, 2, 3, 4, 5, 6]⟩, ⟨[0, 1, 2, 3, 4, 8, 5, 6, 7, 9], [2, 8, 5, 6, 7, 9], [2, 5, 6, 7, 8, 9], [0, 0, 0, 0, 0, 1, 2, 3, 4, 5], [4, 0, 1, 2, 2, 2, 3, 4, 5, 6]⟩, ⟨[0, 1, 3, 4, 5, 2, 6, 7, 8, 9], [5, 2, 6, 7, 8, 9], [4, 5, 6, 7, 8, 9], [0, 0, 0, 0, 0, 1, 2, 3, 4, 5], [3, 1, 0, 0, 1, 2, 3, 4, 5, 6]⟩, ⟨[0, 1, 3, 4, 5, 2, 6, 8, 7, 9], [5, 2, 6, 8, 7, 9], [4, 5, 6, 7, 8, 9], [0, 0, 0, 0, 0, 1, 2, 3, 4, 5], [4, 1, 0, 0, 1, 2, 3, 4, 5, 6]⟩, ⟨[0, 1, 3, 4, 5, 2, 8, 6, 7, 9], [5, 2, 8, 6, 7, 9], [4, 5, 6, 7, 8, 9], [0, 0, 0, 0, 0, 1, 2, 3, 4, 5], [4, 1, 0, 0, 1, 2, 3, 4, 5, 6]⟩, ⟨[0, 1, 3, 4, 5, 8, 2, 6, 7, 9], [5, 8, 2, 6, 7, 9], [4, 5, 6, 7, 8, 9], [0, 0, 0, 0, 0, 1, 2, 3, 4, 5], [4, 2, 0, 0, 1, 2, 3, 4, 5, 6]⟩, ⟨[0, 1, 3, 4, 8, 2, 5, 6, 7, 9], [8, 2, 5, 6, 7, 9], [4, 5, 6, 7, 8, 9], [0, 0, 0, 0, 0, 1, 2, 3, 4, 5], [4, 1, 2, 2, 1, 2, 3, 4, 5, 6]⟩, ⟨[0, 1, 3, 4, 8, 5, 2, 6, 7, 9], [8, 5, 2, 6, 7, 9], [4, 5, 6, 7, 8, 9], [0, 0, 0, 0, 0, 1, 2, 3, 4, 5], [4, 2, 1, 1, 1, 2, 3, 4, 5, 6]⟩] ⟨?_, ?_, ?_, ?_, ?_, ?_, ?_, ?_, ?_, ?_, trivial⟩   -- region 7
    · refine DSp 1 rfl (fun _ hv => q_slp_no ⟨rfl, rfl⟩ (hp := hv)) ?_
      refine Dp (fun _ => q_mv (s := .v (.c _)) ⟨rfl, rfl⟩) ?_
      refine De2 (fun _ k_ => q_app k_) ?_
      refine Dp (fun _ => q_mv (s := .v (.c _)) ⟨rfl, rfl⟩) ?_
      refine Dp (fun _ => q_cv0_8 ⟨rfl, rfl⟩) ?_
      refine De2 (fun _ k_ => q_bsl (fkc rfl (et rfl) rfl (Nat.le_of_ble_eq_true rfl) (fk0 k_))) ?_
      refine De2 (fun _ k_ => q_app k_) ?_
      refine De2 (fun _ k_ => q_callp g1 k_ (ha := (cac (et rfl) (sees_slc rfl rfl (cut_h hTl)) (cac (et rfl) (sees_slc rfl rfl (app1_cut rfl)) ca0)))) ?_
      refine De2 (fun _ k_ => q_al k_) ?_
      refine De20 (fun _ k_ => q_stw k_) ?_
      refine dend ?_
      exact sle_view [0, 1, 2, 7] (fun p h => absurd h (Nat.not_lt_zero _)) (by decide) ⟨rfl, rfl, rfl, rfl, rfl, trivial⟩ (vh4 (pick_m rfl) (pick_m rfl) (pick_m rfl) (pick_m rfl))
    · refine DSp 1 rfl (fun _ hv => q_slp_no ⟨rfl, rfl⟩ (hp := hv)) ?_
      refine Dp (fun _ => q_mv (s := .v (.c _)) ⟨rfl, rfl⟩) ?_
      refine De2 (fun _ k_ => q_app k_) ?_
      refine Dp (fun _ => q_mv (s := .v (.c _)) ⟨rfl, rfl⟩) ?_
      refine Dp (fun _ => q_cv0_8 ⟨rfl, rfl⟩) ?_
      refine De2 (fun _ k_ => q_bsl (fkc rfl (et rfl) rfl (Nat.le_of_ble_eq_true rfl) (fk0 k_))) ?_
      refine De2 (fun _ k_ => q_app k_) ?_
      refine De2 (fun _ k_ => q_al k_) ?_
      refine De2 (fun _ k_ => q_callp g1 k_ (ha := (cac (et rfl) (sees_slc rfl rfl (cut_h hTl)) (cac (et rfl) (sees_slc rfl rfl (app1_cut rfl)) ca0)))) ?_
      refine De20 (fun _ k_ => q_stw k_) ?_
      refine dend ?_
      exact sle_view [0, 1, 2, 7] (fun p h => absurd h (Nat.not_lt_zero _)) (by decide) ⟨rfl, rfl, rfl, rfl, rfl, trivial⟩ (vh4 (pick_m rfl) (pick_m rfl) (pick_m rfl) (pick_m rfl))
    · refine DSp 1 rfl (fun _ hv => q_slp_no ⟨rfl, rfl⟩ (hp := hv)) ?_
      refine Dp (fun _ => q_mv (s := .v (.c _)) ⟨rfl, rfl⟩) ?_
      refine De2 (fun _ k_ => q_app k_) ?_
      refine Dp (fun _ => q_mv (s := .v (.c _)) ⟨rfl, rfl⟩) ?_
      refine Dp (fun _ => q_cv0_8 ⟨rfl, rfl⟩) ?_
      refine De2 (fun _ k_ => q_bsl (fkc rfl (et rfl) rfl (Nat.le_of_ble_eq_true rfl) (fk0 k_))) ?_
      refine De2 (fun _ k_ => q_al k_) ?_
      refine De2 (fun _ k_ => q_app k_) ?_
      refine De2 (fun _ k_ => q_callp g1 k_ (ha := (cac (et rfl) (sees_slc rfl rfl (cut_h hTl)) (cac (et rfl) (sees_slc rfl rfl (app1_cut rfl)) ca0)))) ?_
      refine De20 (fun _ k_ => q_stw k_) ?_
      refine dend ?_
      exact sle_view [0, 1, 2, 6] (fun p h => absurd h (Nat.not_lt_zero _)) (by decide) ⟨rfl, rfl, rfl, rfl, rfl, trivial⟩ (vh4 (pick_m rfl) (pick_m rfl) (pick_m rfl) (pick_m rfl))
    · refine DSp 1 rfl (fun _ hv => q_slp_no ⟨rfl, rfl⟩ (hp := hv)) ?_
      refine Dp (fun _ => q_mv (s := .v (.c _)) ⟨rfl, rfl⟩) ?_
      refine De2 (fun _ k_ => q_app k_) ?_
      refine Dp (fun _ => q_mv (s := .v (.c _)) ⟨rfl, rfl⟩) ?_
      refine Dp (fun _ => q_cv0_8 ⟨rfl, rfl⟩) ?_
      refine De2 (fun _ k_ => q_al k_) ?_
      refine De2 (fun _ k_ => q_bsl (fkc rfl (et rfl) rfl (Nat.le_of_ble_eq_true rfl) (fk0 k_))) ?_
      refine De2 (fun _ k_ => q_app k_) ?_
      refine De2 (fun _ k_ => q_callp g1 k_ (ha := (cac (et rfl) (sees_slc rfl rfl (cut_h hTl)) (cac (et rfl) (sees_slc rfl rfl (app1_cut rfl)) ca0)))) ?_
      refine De20 (fun _ k_ => q_stw k_) ?_
      refine dend ?_
      exact sle_view [0, 1, 2, 5] (fun p h => absurd h (Nat.not_lt_zero _)) (by decide) ⟨rfl, rfl, rfl, rfl, rfl, trivial⟩ (vh4 (pick_m rfl) (pick_m rfl) (pick_m rfl) (pick_m rfl))
    · refine DSp 1 rfl (fun _ hv => q_slp_no ⟨rfl, rfl⟩ (hp := hv)) ?_
      refine Dp (fun _ => q_mv (s := .v (.c _)) ⟨rfl, rfl⟩) ?_
      refine Dp (fun _ => q_mv (s := .v (.c _)) ⟨rfl, rfl⟩) ?_
      refine Dp (fun _ => q_cv0_8 ⟨rfl, rfl⟩) ?_
      refine De2 (fun _ k_ => q_bsl (fkc rfl (et rfl) rfl (Nat.le_of_ble_eq_true rfl) (fk0 k_))) ?_
      refine De2 (fun _ k_ => q_app k_) ?_
      refine De2 (fun _ k_ => q_app k_) ?_
      refine De2 (fun _ k_ => q_callp g1 k_ (ha := (cac (et rfl) (sees_slc rfl rfl (cut_h hTl)) (cac (et rfl) (sees_slc rfl rfl (app1_cut rfl)) ca0)))) ?_
      refine De2 (fun _ k_ => q_al k_) ?_
      refine De20 (fun _ k_ => q_stw k_) ?_
      refine dend ?_
      exact sle_view [0, 1, 2, 7] (fun p h => absurd h (Nat.not_lt_zero _)) (by decide) ⟨rfl, rfl, rfl, rfl, rfl, trivial⟩ (vh4 (pick_m rfl) (pick_m rfl) (pick_m rfl) (pick_m rfl))
    · refine DSp 1 rfl (fun _ hv => q_slp_no ⟨rfl, rfl⟩ (hp := hv)) ?_
      refine Dp (fun _ => q_mv (s := .v (.c _)) ⟨rfl, rfl⟩) ?_
      refine Dp (fun _ => q_mv (s := .v (.c _)) ⟨rfl, rfl⟩) ?_
      refine Dp (fun _ => q_cv0_8 ⟨rfl, rfl⟩) ?_
      refine De2 (fun _ k_ => q_bsl (fkc rfl (et rfl) rfl (Nat.le_of_ble_eq_true rfl) (fk0 k_))) ?_
      refine De2 (fun _ k_ => q_app k_) ?_
      refine De2 (fun _ k_ => q_app k_) ?_
      refine De2 (fun _ k_ => q_al k_) ?_
      refine De2 (fun _ k_ => q_callp g1 k_ (ha := (cac (et rfl) (sees_slc rfl rfl (cut_h hTl)) (cac (et rfl) (sees_slc rfl rfl (app1_cut rfl)) ca0)))) ?_
      refine De20 (fun _ k_ => q_stw k_) ?_
      refine dend ?_
      exact sle_view [0, 1, 2, 7] (fun p h => absurd h (Nat.not_lt_zero _)) (by decide) ⟨rfl, rfl, rfl, rfl, rfl, trivial⟩ (vh4 (pick_m rfl) (pick_m rfl) (pick_m rfl) (pick_m rfl))
    · refine DSp 1 rfl (fun _ hv => q_slp_no ⟨rfl, rfl⟩ (hp := hv)) ?_
      refine Dp (fun _ => q_mv (s := .v (.c _)) ⟨rfl, rfl⟩) ?_
      refine Dp (fun _ => q_mv (s := .v (.c _)) ⟨rfl, rfl⟩) ?_
      refine Dp (fun _ => q_cv0_8 ⟨rfl, rfl⟩) ?_
      refine De2 (fun _ k_ => q_bsl (fkc rfl (et rfl) rfl (Nat.le_of_ble_eq_true rfl) (fk0 k_))) ?_
      refine De2 (fun _ k_ => q_app k_) ?_
      refine De2 (fun _ k_ => q_al k_) ?_
      refine De2 (fun _ k_ => q_app k_) ?_
      refine De2 (fun _ k_ => q_callp g1 k_ (ha := (cac (et rfl) (sees_slc rfl rfl (cut_h hTl)) (cac (et rfl) (sees_slc rfl rfl (app1_cut rfl)) ca0)))) ?_
      refine De20 (fun _ k_ => q_stw k_) ?_
      refine dend ?_
      exact sle_view [0, 1, 2, 6] (fun p h => absurd h (Nat.not_lt_zero _)) (by decide) ⟨rfl, rfl, rfl, rfl, rfl, trivial⟩ (vh4 (pick_m rfl) (pick_m rfl) (pick_m rfl) (pick_m rfl))
    · refine DSp 1 rfl (fun _ hv => q_slp_no ⟨rfl, rfl⟩ (hp := hv)) ?_
      refine Dp (fun _ => q_mv (s := .v (.c _)) ⟨rfl, rfl⟩) ?_
      refine Dp (fun _ => q_mv (s := .v (.c _)) ⟨rfl, rfl⟩) ?_
      refine Dp (fun _ => q_cv0_8 ⟨rfl, rfl⟩) ?_
      refine De2 (fun _ k_ => q_bsl (fkc rfl (et rfl) rfl (Nat.le_of_ble_eq_true rfl) (fk0 k_))) ?_
      refine De2 (fun _ k_ => q_al k_) ?_
      refine De2 (fun _ k_ => q_app k_) ?_
      refine De2 (fun _ k_ => q_app k_) ?_
      refine De2 (fun _ k_ => q_callp g1 k_ (ha := (cac (et rfl) (sees_slc rfl rfl (cut_h hTl)) (cac (et rfl) (sees_slc rfl rfl (app1_cut rfl)) ca0)))) ?_
      refine De20 (fun _ k_ => q_stw k_) ?_
      refine dend ?_
      exact sle_view [0, 1, 2, 5] (fun p h => absurd h (Nat.not_lt_zero _)) (by decide) ⟨rfl, rfl, rfl, rfl, rfl, trivial⟩ (vh4 (pick_m rfl) (pick_m rfl) (pick_m rfl) (pick_m rfl))
    · refine DSp 1 rfl (fun _ hv => q_slp_no ⟨rfl, rfl⟩ (hp := hv)) ?_
      refine Dp (fun _ => q_mv (s := .v (.c _)) ⟨rfl, rfl⟩) ?_
      refine Dp (fun _ => q_mv (s := .v (.c _)) ⟨rfl, rfl⟩) ?_
      refine Dp (fun _ => q_cv0_8 ⟨rfl, rfl⟩) ?_
      refine De2 (fun _ k_ => q_al k_) ?_
      refine De2 (fun _ k_ => q_app k_) ?_
      refine De2 (fun _ k_ => q_bsl (fkc rfl (et rfl) rfl (Nat.le_of_ble_eq_true rfl) (fk0 k_))) ?_
      refine De2 (fun _ k_ => q_app k_) ?_
      refine De2 (fun _ k_ => q_callp g1 k_ (ha := (cac (et rfl) (sees_slc rfl rfl (cut_h hTl)) (cac (et rfl) (sees_slc rfl rfl (app1_cut rfl)) ca0)))) ?_
      refine De20 (fun _ k_ => q_stw k_) ?_
      refine dend ?_
      exact sle_view [0, 1, 2, 4] (fun p h => absurd h (Nat.not_lt_zero _)) (by decide) ⟨rfl, rfl, rfl, rfl, rfl, trivial⟩ (vh4 (pick_m rfl) (pick_m rfl) (pick_m rfl) (pick_m rfl))
    refine DSp 1 rfl (fun _ hv => q_slp_no ⟨rfl, rfl⟩ (hp := hv)) ?_
    refine Dp (fun _ => q_mv (s := .v (.c _)) ⟨rfl, rfl⟩) ?_
    refine Dp (fun _ => q_mv (s := .v (.c _)) ⟨rfl, rfl⟩) ?_
    refine Dp (fun _ => q_cv0_8 ⟨rfl, rfl⟩) ?_
    refine De2 (fun _ k_ => q_al k_) ?_
    refine De2 (fun _ k_ => q_bsl (fkc rfl (et rfl) rfl (Nat.le_of_ble_eq_true rfl) (fk0 k_))) ?_
    refine De2 (fun _ k_ => q_app k_) ?_
    refine De2 (fun _ k_ => q_app k_) ?_
    refine De2 (fun _ k_ => q_callp g1 k_ (ha := (cac (et rfl) (sees_slc rfl rfl (cut_h hTl)) (cac (et rfl) (sees_slc rfl rfl (app1_cut rfl)) ca0)))) ?_
    refine De20 (fun _ k_ => q_stw k_) ?_
    refine dend ?_
    exact sle_view [0, 1, 2, 4] (fun p h => absurd h (Nat.not_lt_zero _)) (by decide) ⟨rfl, rfl, rfl, rfl, rfl, trivial⟩ (vh4 (pick_m rfl) (pick_m rfl) (pick_m rfl) (pick_m rfl))
  refine awp_seq ?_
  refine rln ?_
  refine Mv ?_
  refine G (q_ldw ?_)
  refine G2 (fun _ k_ => q_bsl (fka rfl (et rfl) (by first | exact (mapc_length ..).trans (by with_reducible assumption) | decide +kernel | decide) (by first | decide +kernel | decide) (fk0 k_))) ?_
  refine G2 (fun _ k_ => q_app k_ (eA := el_slc (xs := u8s (allb T x.1)) rfl (by rw [mapc_length, hal]; omega) (by exact cut_all hal)) (eB := el_slc (xs := u8s L) rfl (by rw [one_key hLl, mapc_length]; omega) (by rw [one_key hLl]; exact cut_all hLl))) ?_
  refine As ?_
  refine gend ?_
  refine rln ?_
  refine G (q_slp_no ?_)
  refine As ?_
  refine gend ?_
  refine rln ?_
  refine Mv ?_
  refine G (q_addn (y := 1) ?_)
  refine As ?_
  refine gend ?_
  exact ⟨⟨x.1 + 1, by omega⟩, by show k - (x.1 + 1) < k - x.1; omega, sle_view [0, 1, 5, 3] (fun p h => absurd h (Nat.not_lt_zero _)) (by decide) ⟨rfl, rfl, rfl, by rw [hL, hLl]; rfl, rfl, trivial⟩ (vh4 (pick_m rfl) (pick_m rfl) (pick_m (by rw [allb, hL, ← mapc_append]; rfl)) (pick_m (by rw [hL]; rfl)))⟩   -- endloop 1
end Go.Proofs.Ytngmhcgenknokaa

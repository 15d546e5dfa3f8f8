/- What functions of the program do, walked over the abstract machine. -/
import Derived.Test.YtbcbgphnadfijaaBh
namespace Go.Proofs.Ytbcbgphnadfijaa
open Go Go.Abs Go.Proofs

theorem pq_roc {π : List Nat} {H : Heap} {d n : Nat} {l : List UInt8} {c cs : List Cell} {ps : List (List UInt8)} (hc : c = u8s l) (hn : l.length = n) (h : cs.map (cm (cin π true H) (d + 1)) = pcs ps) : (.ro n c :: cs).map (cm (cin π true H) (d + 1)) = pcs (l :: ps) := by
  subst hc; exact pq_ro hn h
theorem take_m {l : List UInt8} {c : Nat} : (u8s l).take (c * 1) = u8s (l.take c) := by rw [Nat.mul_one]; simp [mapc, List.map_take]
theorem take0_m {l : List UInt8} {c : Nat} : ((u8s l).drop (0 * 1)).take (c * 1) = u8s (l.take c) := by rw [Nat.mul_one, Nat.mul_one, cut_m]; rfl
theorem drop_m {l : List UInt8} {c n : Nat} (h : l.length = n) : ((u8s l).drop (c * 1)).take ((n - c) * 1) = u8s (l.drop c) := by
  rw [Nat.mul_one, Nat.mul_one, cut_m, List.take_of_length_le (by rw [List.length_drop]; omega)]
theorem tmod_le (a : Int) (n : Nat) : -(n : Int) ≤ a.tmod ((n + 1 : Nat) : Int) ∧ a.tmod ((n + 1 : Nat) : Int) ≤ n := by
  cases a with
  | ofNat m =>
    have := Nat.mod_lt m (y := n + 1) (by omega)
    show -(n : Int) ≤ ((m % (n + 1) : Nat) : Int) ∧ ((m % (n + 1) : Nat) : Int) ≤ n
    omega
  | negSucc m =>
    have := Nat.mod_lt (m + 1) (y := n + 1) (by omega)
    show -(n : Int) ≤ -(((m + 1) % (n + 1) : Nat) : Int) ∧ -(((m + 1) % (n + 1) : Nat) : Int) ≤ n
    omega
/-- Where a list is cut. -/
theorem cut_at (a : Int) (n : Nat) : ∃ c : Nat, c ≤ n ∧ (a.tmod ((n + 1 : Nat) : Int) + (n : Int) + 1).tmod ((n + 1 : Nat) : Int) = (c : Int) := by
  obtain ⟨h1, h2⟩ := tmod_le a n
  obtain ⟨k, hk⟩ : ∃ k : Nat, a.tmod ((n + 1 : Nat) : Int) + (n : Int) + 1 = k := ⟨(a.tmod ((n + 1 : Nat) : Int) + (n : Int) + 1).toNat, by omega⟩
  rw [hk]
  have := Nat.mod_lt k (y := n + 1) (by omega)
  exact ⟨k % (n + 1), by omega, rfl⟩
theorem pcs_cut {ps : List (List UInt8)} {n : Nat} (h : ps.length = n) : ((pcs ps).drop 0).take (n * 1) = pcs ps := by
  rw [List.drop_zero, Nat.mul_one, List.take_of_length_le (by simp [pcs]; omega)]
theorem pcs_len {ps : List (List UInt8)} : (pcs ps).length = ps.length := by simp [pcs]
theorem pcs_snoc {ps : List (List UInt8)} {l : List UInt8} {c : Nat} {X : List Cell} (h : l.length = c) (hX : X = u8s l) : pcs ps ++ [Cell.ro c X] = pcs (ps ++ [l]) := by
  subst hX h; simp [pcs]
theorem pcs_map {ps : List (List UInt8)} {f : Nat → Option Nat} {x : Nat → Option (List Cell)} {b : Bool} {d : Nat} : (pcs ps).map (cm ⟨f, x, true, b⟩ (d + 1)) = pcs ps := by
  simp only [pcs, List.map_map]
  apply List.map_congr_left
  intro l _
  show Cell.ro l.length ((u8s l).map (cm ⟨f, x, true, b⟩ d)) = _
  rw [mapc_cm]
theorem pcs_pick {H : Heap} {cs : List Cell} {qs : List (List UInt8)} {p : Nat} {f : Nat → Option Nat} {x : Nat → Option (List Cell)} {b : Bool} (h : H[p]? = some (some cs)) (hc : cs = pcs qs) : pick H (cm ⟨f, x, true, b⟩ 8) p = some (pcs qs) := by
  subst hc; exact pick_c h pcs_map
theorem pcs_sees {π : List Nat} {H : Heap} {qs : List (List UInt8)} {n : Nat} (h : qs.length = n) : (((pcs qs).drop 0).take (n * 1)).map (cm (cin π true H) 7) = pcs qs := by
  rw [pcs_cut h]; exact pcs_map
theorem ro_drop {l : List UInt8} {c n : Nat} {f : Nat → Option Nat} {x : Nat → Option (List Cell)} {b : Bool} (h : l.length = n) : sm (cm ⟨f, x, true, b⟩ 8) (sc (.ro (n - c) (((u8s l).drop (c * 1)).take ((n - c) * 1)))) = sc (.ro (l.drop c).length (u8s (l.drop c))) := by
  rw [drop_m h, List.length_drop, h]; exact rs_ro
set_option maxHeartbeats 1600000 in
/-- escutcheonlaw11.BlakeSums -/
theorem sums_ (m B : List UInt8) (n : Nat) (cs : List Int) (k : Nat) (hm : m.length = n) (hn : n ≤ 1000) (hk : cs.length = k) (hk2 : k ≤ 20) (hB : bsum m = B) : Good Try.prog 3 [.c (.ro n (u8s m)), .c (.ro k (i64s cs))] [] (sc (.bool true)) [] := by
  have hBl : B.length = 32 := by rw [← hB]; exact bsum_len _
  have g1 := sum_ [m] 1 rfl (by decide) (by simp; omega)
  rw [show ([m] : List (List UInt8)).flatten = m by simp, hB] at g1
  have g2 := rsum_ m n hm (by omega)
  rw [rsum_bsum, hB] at g2
  refine good_frm 71 Try.func3 rfl rfl rfl rfl rfl rfl ?_
  refine awp_seq ?_
  refine rl ?_
  refine As ?_
  refine gend ?_
  refine awp_seq ?_
  refine awp_seq ?_
  refine rl ?_
  refine Mv ?_
  refine G (q_leno ?_)
  refine G (q_gtrn (y := 1000) ?_)
  refine Mv ?_
  refine Akfd 12 (fun hb4 => ?_) ?_; rotate_left
  · omega
  refine Gg (q_mv (s := .v (.c _)) ?_)
  refine Gg (q_leno ?_)
  refine Gg (q_gtrn (y := 20) ?_)
  refine G (q_pkf ?_)
  refine gend ?_
  refine cndN (fun hc1 => ?_) ?_; rotate_left
  · omega
  refine awp_skip ?_
  refine awp_seq ?_
  refine rl ?_
  refine As ?_
  refine gend ?_
  refine awp_seq ?_
  refine rl ?_
  refine Mv ?_
  refine As ?_
  refine gend ?_
  refine awp_seq ?_
  refine awp_seq ?_
  refine rl ?_
  refine G (q_as (s := sc (cn 0)) ?_)
  refine gend ?_
  refine awp_block ?_
  refine awp_loop (fun x : {s : Nat × List (List UInt8) × List UInt8 // s.1 ≤ k ∧ s.2.1.length = s.1 ∧ s.2.1.flatten ++ s.2.2 = m} => ⟨frm 71 [(0, sc (.ro n (u8s m))), (1, sc (.ro k (i64s cs))), (5, sc (.slc 0 0 x.1.1 1)), (6, sc (.ro x.1.2.2.length (u8s x.1.2.2))), (7, sc (cn x.1.1))], [some (pcs x.1.2.1)]⟩) (fun x => k - x.1.1) ⟨(0, [], m), Nat.zero_le _, rfl, by simp⟩ (by rw [← hm]; exact sle_empty 1 (Nat.zero_le _) ⟨.inl rfl, .inl rfl, .inr ⟨rfl, rfl⟩, .inl rfl, .inl rfl, trivial⟩) fun x => ?_
  have h1 := x.2.1
  have hpl := x.2.2.1
  have hfl := x.2.2.2
  obtain ⟨R, hR⟩ : ∃ R, x.1.2.2 = R := ⟨_, rfl⟩
  rw [hR] at hfl ⊢
  have hrl : R.length ≤ n := by have := congrArg List.length hfl; rw [List.length_append] at this; omega
  refine awp_seq ?_
  refine awp_seq ?_
  refine rl ?_
  refine Mv ?_
  refine Mv ?_
  refine G (q_leno ?_)
  refine G (q_lssn ?_)
  refine gend ?_
  refine cnd (fun hc2 => ?_) (fun hc2 => ?_); rotate_left
  · refine awp_exit ?_
    have hxk : x.1.1 = k := by omega
    obtain ⟨qs, hqs⟩ : ∃ qs, x.1.2.1 ++ [R] = qs := ⟨_, rfl⟩
    have hql : qs.length = k + 1 := by rw [← hqs, List.length_append, hpl, hxk]; rfl
    have hqf : qs.flatten = m := by rw [← hqs, List.flatten_append]; simpa using hfl
    have g3 := sum_ qs (k + 1) hql (by omega) (by rw [hqf, hm]; omega)
    rw [hqf, hB] at g3
    rw [hxk] at hpl ⊢
    refine awp_mid ⟨frm 71 [(0, sc (.ro n (u8s m))), (5, sc (.slc 0 0 (k + 1) 1))], [some (pcs qs)]⟩ ?_ ?_
    · refine rl ?_
      refine Mv ?_
      refine Mv ?_
      refine G (q_bsl (fkc rfl (et rfl) rfl (Nat.le_of_ble_eq_true rfl) (fk0 ?_)))
      refine G (q_app  ?_ (eA := el_slc rfl (by rw [pcs_len, hpl]; omega) (pcs_cut hpl)) (eB := el_slc (xs := [_]) rfl (Nat.le_refl 1) rfl))
      refine As ?_
      refine gend ?_
      exact sle_view [2] (fun p h => absurd h (Nat.not_lt_zero _)) (by decide) ⟨rs_ro, rfl, trivial⟩ (vh1 (pcs_pick rfl ((pcs_snoc rfl rfl).trans (by rw [hqs]))))
    refine awp_seq ?_
    refine rl ?_
    refine Mv ?_
    refine G (q_bsl (fkc rfl (et rfl) rfl (Nat.le_of_ble_eq_true rfl) (fk0 ?_)))
    refine G (q_callp g1 ?_ (ha := cac (et rfl) (sees_parts rfl rfl (pq_ro hm pq0)) ca0))
    refine Mv ?_
    refine G (q_callp (g2/- escutcheon/escutcheonref11.Sum -/) ?_)
    refine G (q_eqa8 ?_)
    refine Mv ?_
    refine Aknd 60 (fun hb7 => ?_) ?_; rotate_left
    · exact rfl
    refine Gg (q_mv (s := .v (.c _)) ?_)
    refine Gg (q_callp g3 ?_ (ha := cac (et rfl) (sees_parts rfl rfl (pcs_sees hql)) ca0))
    refine Gg (q_mv (s := .v (.c _)) ?_)
    refine Gg (q_bsl (fkc rfl (et rfl) rfl (Nat.le_of_ble_eq_true rfl) (fk0 ?_)))
    refine Gg (q_callp g1 ?_ (ha := cac (et rfl) (sees_parts rfl rfl (pq_ro hm pq0)) ca0))
    refine Gg (q_eqa8 ?_)
    refine G (q_pkt ?_)
    refine Mv ?_
    refine Aknd 68 (fun hb15 => ?_) ?_; rotate_left
    · exact rfl
    refine Gg (q_callp (known/- escutcheon/escutcheonlaw11.known -/) ?_)
    refine G (q_pkt ?_)
    refine As ?_
    refine gend ?_
    refine awp_ret ?_
    exact fp1
  refine awp_skip ?_
  refine awp_seq ?_
  refine awp_block ?_
  have hb1 := tmod_le (cs.getD x.1.1 0) R.length
  obtain ⟨c, hcl, hac⟩ := cut_at (cs.getD x.1.1 0) R.length
  refine awp_mid ⟨frm 71 [(0, sc (.ro n (u8s m))), (1, sc (.ro k (i64s cs))), (5, sc (.slc 0 0 x.1.1 1)), (6, sc (.ro R.length (u8s R))), (7, sc (cn x.1.1)), (8, sc (cn c))], [some (pcs x.1.2.1)]⟩ ?_ ?_
  · refine rl ?_
    refine Mv ?_
    refine Mv ?_
    refine G (q_ixo1 ?_)
    refine G (q_ldrd ?_)
    refine Mv ?_
    refine G (q_leno ?_)
    refine G (q_addn  (y := 1) ?_)
    refine G (q_remi ?_)
    refine Mv ?_
    refine G (q_leno ?_)
    refine G (q_addi ?_)
    refine G (q_addi (y := 1) ?_)
    refine Mv ?_
    refine G (q_leno ?_)
    refine G (q_addn (y := 1) ?_)
    refine G (q_remi ?_)
    refine As ?_
    refine gend ?_
    exact sle_sub ⟨rfl, rfl, rfl, rfl, rfl, congrArg (fun i => sc (ci i)) hac, trivial⟩ rfl
  refine awp_seq ?_
  refine rl ?_
  refine Mv ?_
  refine Mv ?_
  refine Mv ?_
  refine G (q_slo_hi  ?_ (hc := take0_m))
  refine G (q_bsl (fkc rfl (et rfl) rfl (Nat.le_of_ble_eq_true rfl) (fk0 ?_)))
  refine G (q_app  ?_ (eA := el_slc rfl (by rw [pcs_len, hpl]; omega) (pcs_cut hpl)) (eB := el_slc (xs := [_]) rfl (Nat.le_refl 1) rfl))
  refine As ?_
  refine gend ?_
  refine rl ?_
  refine Mv ?_
  refine Mv ?_
  refine G (q_slo_lo  ?_ (hc := drop_m rfl))
  refine As ?_
  refine gend ?_
  refine rl ?_
  refine Mv ?_
  refine G (q_addn (y := 1) ?_)
  refine As ?_
  refine gend ?_
  exact ⟨⟨(x.1.1 + 1, x.1.2.1 ++ [R.take c], R.drop c), by omega, by rw [List.length_append, hpl]; rfl, by rw [List.flatten_append, List.append_assoc]; simpa using hfl⟩, by show k - (x.1.1 + 1) < k - x.1.1; omega, sle_view [2] (fun p h => absurd h (Nat.not_lt_zero _)) (by decide) ⟨rs_ro, rs_ro, rfl, by rw [List.length_drop]; exact rs_ro, rfl, trivial⟩ (vh1 (pcs_pick rfl (pcs_snoc (by simp; omega) rfl)))⟩   -- endloop 1
/-- escutcheonlaw11.BlakeSums -/
theorem sums_l1 (m : List UInt8) (n : Nat) (cs : List Int) (k : Nat) (hn : n ≤ 140737488351232) (h : 1000 < n) : Good Try.prog 3 [.c (.ro n (u8s m)), .c (.ro k (i64s cs))] [] (sc (.bool true)) [] := by
  refine good_frm 71 Try.func3 rfl rfl rfl rfl rfl rfl ?_
  refine awp_seq ?_
  refine rl ?_
  refine As ?_
  refine gend ?_
  refine awp_seq ?_
  refine awp_seq ?_
  refine rl ?_
  refine Mv ?_
  refine G (q_leno ?_)
  refine G (q_gtrn (y := 1000) ?_)
  refine Mv ?_
  refine Aknd 12 (fun hb4 => ?_) ?_; rotate_left
  · exact h
  refine Gn ?_
  refine Gn ?_
  refine Gn ?_
  refine G (q_pkt ?_)
  refine gend ?_
  refine cndT ?_
  refine awp_seq ?_
  refine rl ?_
  refine G (q_callp (known/- escutcheon/escutcheonlaw11.known -/) ?_)
  refine As ?_
  refine gend ?_
  refine awp_ret ?_
  exact fp1
/-- escutcheonlaw11.BlakeSums -/
theorem sums_l2 (m : List UInt8) (n : Nat) (cs : List Int) (k : Nat) (hn : n ≤ 1000) (hk : k ≤ 140737488351232) (h : 20 < k) : Good Try.prog 3 [.c (.ro n (u8s m)), .c (.ro k (i64s cs))] [] (sc (.bool true)) [] := by
  refine good_frm 71 Try.func3 rfl rfl rfl rfl rfl rfl ?_
  refine awp_seq ?_
  refine rl ?_
  refine As ?_
  refine gend ?_
  refine awp_seq ?_
  refine awp_seq ?_
  refine rl ?_
  refine Mv ?_
  refine G (q_leno ?_)
  refine G (q_gtrn (y := 1000) ?_)
  refine Mv ?_
  refine Akfd 12 (fun hb4 => ?_) ?_; rotate_left
  · omega
  refine Gg (q_mv (s := .v (.c _)) ?_)
  refine Gg (q_leno ?_)
  refine Gg (q_gtrn (y := 20) ?_)
  refine G (q_pkf ?_)
  refine gend ?_
  refine cndY (fun hc1 => ?_) ?_; rotate_left
  · exact h
  refine awp_seq ?_
  refine rl ?_
  refine G (q_callp (known/- escutcheon/escutcheonlaw11.known -/) ?_)
  refine As ?_
  refine gend ?_
  refine awp_ret ?_
  exact fp1
end Go.Proofs.Ytbcbgphnadfijaa

/- What functions of the program do, walked over the abstract machine. -/
import Derived.Test.YthompdmdlackoaaRz
namespace Go.Proofs.Ythompdmdlackoaa
open Go Go.Abs Go.Proofs

theorem pq_roc {π : List Nat} {H : Heap} {d n : Nat} {l : List UInt8} {c cs : List Cell} {ps : List (List UInt8)} (hc : c = u8s l) (hn : l.length = n) (h : cs.map (cm (cin π true H) (d + 1)) = pcs ps) : (.ro n c :: cs).map (cm (cin π true H) (d + 1)) = pcs (l :: ps) := by
  subst hc; exact pq_ro hn h
theorem take_m {l : List UInt8} {c : Nat} : (u8s l).take (c * 1) = u8s (l.take c) := by rw [Nat.mul_one]; simp [mapc, List.map_take]
theorem drop_m {l : List UInt8} {c n : Nat} (h : l.length = n) : ((u8s l).drop (c * 1)).take ((n - c) * 1) = u8s (l.drop c) := by
  rw [Nat.mul_one, Nat.mul_one, cut_m, List.take_of_length_le (by rw [List.length_drop]; omega)]
theorem tmod_le (a : Int) (n : Nat) : -(n : Int) ≤ a.tmod ((n + 1 : Nat) : Int) ∧ a.tmod ((n + 1 : Nat) : Int) ≤ n := by
  cases a with
  | ofNat m =>
    have := Nat.mod_lt m (y := n + 1) (by omega)
    show -(n : Int) ≤ ((m % (n + 1) : Nat) : Int) ∧ ((m % (n + 1) : Nat) : Int) ≤ n
    omega
  | negSucc m =>
    have := Nat.mod_lt (m + 1) (y := n + 1) (by omega)
    show -(n : Int) ≤ -(((m + 1) % (n + 1) : Nat) : Int) ∧ -(((m + 1) % (n + 1) : Nat) : Int) ≤ n
    omega
/-- Where a list is cut. -/
theorem cut_at (a : Int) (n : Nat) : ∃ c : Nat, c ≤ n ∧ (a.tmod ((n + 1 : Nat) : Int) + (n : Int) + 1).tmod ((n + 1 : Nat) : Int) = (c : Int) := by
  obtain ⟨h1, h2⟩ := tmod_le a n
  obtain ⟨k, hk⟩ : ∃ k : Nat, a.tmod ((n + 1 : Nat) : Int) + (n : Int) + 1 = k := ⟨(a.tmod ((n + 1 : Nat) : Int) + (n : Int) + 1).toNat, by omega⟩
  rw [hk]
  have := Nat.mod_lt k (y := n + 1) (by omega)
  exact ⟨k % (n + 1), by omega, rfl⟩
/-- escutcheonlaw09.PolyTags -/
theorem tags_long (key l : List UInt8) (a : Int) (n : Nat) (hn : n ≤ 140737488351232) (h : 600 < n) : Good Try.prog 3 [.a (u8s key), .c (.ro n (u8s l)), .c (ci a)] [] (sc (.bool true)) [] := by
  refine good_frm 51 Try.func3 rfl rfl rfl rfl rfl rfl ?_
  refine awp_seq ?_
  refine rl ?_
  refine G (q_boxa ?_)
  refine As ?_
  refine gend ?_
  refine awp_seq ?_
  refine awp_seq ?_
  refine rl ?_
  refine Mv ?_
  refine G (q_leno ?_)
  refine G (q_gtrn (y := 600) ?_)
  refine gend ?_
  refine cndY (fun hc1 => ?_) ?_; rotate_left
  · exact h
  refine awp_seq ?_
  refine rl ?_
  refine G (q_callp (known/- escutcheon/escutcheonlaw09.known -/) ?_)
  refine As ?_
  refine gend ?_
  refine awp_ret ?_
  exact fp1
set_option maxHeartbeats 800000 in
/-- escutcheonlaw09.PolyTags -/
theorem tags_ (key l T : List UInt8) (a : Int) (n c : Nat) (hkey : key.length = 32) (hl : l.length = n) (h6 : n ≤ 600) (hc : c ≤ n) (hac : (a.tmod ((n + 1 : Nat) : Int) + (n : Int) + 1).tmod ((n + 1 : Nat) : Int) = (c : Int)) (hT : tag key l = T) : Good Try.prog 3 [.a (u8s key), .c (.ro n (u8s l)), .c (ci a)] [] (sc (.bool true)) [] := by
  have hTl : T.length = 16 := by rw [← hT]; exact tag_len _ _
  have hta := tmod_le a n
  have g0 := rtag_ key l n hkey hl (by omega)
  rw [← tag_rtag, hT] at g0
  have g1 := tag_ key [l] 1 hkey rfl (by decide) (by simp; omega)
  rw [show ([l] : List (List UInt8)).flatten = l by simp, hT] at g1
  have g3 := tag_ key [l.take c, [], l.drop c] 3 hkey rfl (by decide) (by simp; omega)
  rw [show ([l.take c, [], l.drop c] : List (List UInt8)).flatten = l by simp, hT] at g3
  have ht1 : (l.take c).length = c := by rw [List.length_take]; omega
  have ht2 : (l.drop c).length = n - c := by rw [List.length_drop]; omega
  refine good_frm 51 Try.func3 rfl rfl rfl rfl rfl rfl ?_
  refine awp_seq ?_
  refine rl ?_
  refine G (q_boxa ?_)
  refine As ?_
  refine gend ?_
  refine awp_seq ?_
  refine awp_seq ?_
  refine rl ?_
  refine Mv ?_
  refine G (q_leno ?_)
  refine G (q_gtrn (y := 600) ?_)
  refine gend ?_
  refine cndN (fun hc1 => ?_) ?_; rotate_left
  · omega
  refine awp_skip ?_
  refine awp_mid ⟨frm 51 [(1, sc (.ro n (u8s l))), (3, sc (.ptr 0 0)), (7, sc (cn c))], [some (u8s key)]⟩ ?_ ?_
  · refine rl ?_
    refine Mv ?_
    refine Mv ?_
    refine G (q_leno ?_)
    refine G (q_addn  (y := 1) ?_)
    refine G (q_remi ?_)
    refine Mv ?_
    refine G (q_leno ?_)
    refine G (q_addi ?_)
    refine G (q_addi (y := 1) ?_)
    refine Mv ?_
    refine G (q_leno ?_)
    refine G (q_addn (y := 1) ?_)
    refine G (q_remi ?_)
    refine As ?_
    refine gend ?_
    exact sle_sub ⟨rfl, rfl, congrArg (fun i => sc (ci i)) hac, trivial⟩ rfl
  refine awp_seq ?_
  refine rl ?_
  refine G (q_ldw  ?_ (hl := (mapc_length ..).trans hkey))
  refine Mv ?_
  refine G (q_callp (g0/- escutcheon/escutcheonref09.Tag -/) ?_)
  refine G (q_al ?_)
  refine G0 (q_stw  ?_ (hl := (mapc_length ..).trans hTl) (hc := (mapc_length ..).trans (List.length_replicate ..)))
  refine gend ?_
  refine awp_seq ?_
  refine rdl [2, 3, 14, 15, 20] [0, 0, 0, 1, 0, 2, 2, 2, 2, 2, 2, 2, 2, 2, 2, 3, 2, 4, 4, 4, 4, 5, 5] [1, 0, 1, 2, 2, 2, 2, 3, 2, 2, 2, 2, 2, 2, 3, 4, 4, 4, 4, 4, 5, 5, 5] ?_
  refine DLw  ?_ (hl := (mapc_length ..).trans hkey)
  refine Dp (fun _ => q_mv (s := .v (.c _)) ⟨rfl, rfl⟩) ?_
  refine De (q_bsl (fkc rfl (et rfl) rfl (Nat.le_of_ble_eq_true rfl) (fk0 (pw ?_))))
  refine De (q_callp (g1) (pw ?_) (ha := caa (et rfl) sees_m (cac (et rfl) (sees_parts rfl rfl (pq_ro hl pq0)) ca0)))
  refine DLw  ?_ (hl := (mapc_length ..).trans hTl)
  refine Dp (fun _ => q_eqa8 ⟨rfl, rfl⟩) ?_
  refine Dp (fun _ => q_mv (s := .v (.c _)) ⟨rfl, rfl⟩) ?_
  refine Dknd 35 (fun hb7 => ?_) ?_; rotate_left
  · exact rfl
  refine DLwg  ?_ (hl := (mapc_length ..).trans hkey)
  refine Dpg (fun _ => q_mv (s := .v (.c _)) ⟨rfl, rfl⟩) ?_
  refine Dpg (fun _ => q_mv (s := .v (.c _)) ⟨rfl, rfl⟩) ?_
  refine Dpg (fun _ => q_slo_hi ⟨rfl, rfl⟩) ?_
  refine Dpg (fun _ => q_mv (s := .v (.c _)) ⟨rfl, rfl⟩) ?_
  refine Dpg (fun _ => q_mv (s := .v (.c _)) ⟨rfl, rfl⟩) ?_
  refine Dpg (fun _ => q_slo_lo ⟨rfl, rfl⟩) ?_
  refine Deg (q_bsl (fkc rfl (et rfl) rfl (Nat.le_of_ble_eq_true rfl) (fkc rfl rfl rfl (Nat.le_of_ble_eq_true rfl) (fkc rfl (et rfl) rfl (Nat.le_of_ble_eq_true rfl) (fk0 (pw ?_))))))
  refine Deg (q_callp (g3) (pw ?_) (ha := caa (et rfl) sees_m (cac (et rfl) (sees_parts rfl rfl (pq_roc take_m ht1 (pq_nil (pq_roc (drop_m hl) ht2 pq0)))) ca0)))
  refine DLwg  ?_ (hl := (mapc_length ..).trans hTl)
  refine Dpg (fun _ => q_eqa8 ⟨rfl, rfl⟩) ?_
  refine Dp (fun _ => q_pkt ⟨rfl, rfl⟩) ?_
  refine Dp (fun _ => q_mv (s := .v (.c _)) ⟨rfl, rfl⟩) ?_
  refine Dknd 48 (fun hb20 => ?_) ?_; rotate_left
  · exact rfl
  refine Deg (q_callp (known/- escutcheon/escutcheonlaw09.known -/) (pw ?_))
  refine Dp (fun _ => q_pkt ⟨rfl, rfl⟩) ?_
  refine Dp (fun _ => q_as (s := .v (.c _)) ⟨rfl, rfl⟩) ?_
  refine dend ?_
  refine awp_ret ?_
  exact fp1
end Go.Proofs.Ythompdmdlackoaa

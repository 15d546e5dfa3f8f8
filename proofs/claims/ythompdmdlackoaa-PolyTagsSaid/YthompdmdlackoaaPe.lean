/- What functions of the program do, walked over the abstract machine. -/
import Derived.Test.YthompdmdlackoaaPt
namespace Go.Proofs.Ythompdmdlackoaa
open Go Go.Abs Go.Proofs

theorem tag_len (key m : List UInt8) : (tag key m).length = 16 := by unfold tag fin2; exact outb_len _ _ _
def kb : Nat → List UInt8
  | 0 => List.replicate 32 0
  | j + 1 => (kb j).set (16 + j) (UInt8.ofNat (16 + j))
theorem kb_len : ∀ j, (kb j).length = 32
  | 0 => by simp [kb]
  | j + 1 => by rw [kb, List.length_set, kb_len]
theorem kb_0 : (tag (kb 16) [97, 110, 121]).getD 0 0 = 16 := by decide +kernel
theorem kb_15 : (tag (kb 16) [97, 110, 121]).getD 15 0 = 31 := by decide +kernel
/-- escutcheonlaw09.known -/
theorem known : Good Try.prog 7 [] [] (sc (.bool true)) [] := by
  refine good_frm 26 Try.func7 rfl rfl rfl rfl rfl rfl ?_
  refine awp_seq ?_
  refine rl ?_
  refine As ?_
  refine gend ?_
  refine awp_seq ?_
  refine rl ?_
  refine G (q_bla (fk0 ?_))
  refine G (q_al ?_)
  refine G0 (q_stw ?_)
  refine gend ?_
  refine awp_seq ?_
  refine awp_seq ?_
  refine rl ?_
  refine G (q_as (s := sc (cn 16)) ?_)
  refine gend ?_
  refine awp_block ?_
  refine awp_loop (fun x : {i : Nat // i ≤ 16} => ⟨frm 26 [(1, sc (.ptr 0 0)), (2, sc (cn (16 + x.1)))], [some (u8s (kb x.1))]⟩) (fun x => 16 - x.1) ⟨0, Nat.zero_le _⟩ (sle_sub ⟨rfl, rfl, trivial⟩ rfl) fun x => ?_   -- live: [1, 2]
  have hl := kb_len x.1
  refine awp_seq ?_
  refine awp_seq ?_
  refine rl ?_
  refine Mv ?_
  refine G (q_lssn (y := 32) ?_)
  refine gend ?_
  refine cnd (fun hc1 => ?_) (fun hc1 => ?_); rotate_left
  · refine awp_exit ?_
    rw [show x.1 = 16 from (by have := x.2; omega)]
    have hl := kb_len 16
    have h0 := kb_0
    have h15 := kb_15
    have gT := tag_ (kb 16) [[97, 110, 121]] 1 hl rfl (by decide) (by decide)
    have hTl := tag_len (kb 16) [97, 110, 121]
    rw [show ([[97, 110, 121]] : List (List UInt8)).flatten = [97, 110, 121] from rfl] at gT
    generalize tag (kb 16) [97, 110, 121] = T at gT hTl h0 h15
    generalize kb 16 = K at gT hl ⊢
    refine awp_seq ?_
    refine rl ?_
    refine G (q_ldw  ?_ (hl := (mapc_length ..).trans hl))
    refine G (q_bsl (fkc (c := c8 97) rfl rfl rfl (Nat.le_of_ble_eq_true rfl) (fkc (c := c8 110) rfl rfl rfl (Nat.le_of_ble_eq_true rfl) (fkc (c := c8 121) rfl rfl rfl (Nat.le_of_ble_eq_true rfl) (fk0 ?_)))))
    refine G (q_css ?_)
    refine G (q_bsl (fkc rfl (et rfl) rfl (Nat.le_of_ble_eq_true rfl) (fk0 ?_)))
    refine G (q_callp (gT/- escutcheon/poly.Tag -/) ?_)
    refine G (q_al ?_)
    refine G0 (q_stw  ?_ (hl := (mapc_length ..).trans hTl))
    refine gend ?_
    refine awp_seq ?_
    refine rl ?_
    refine G (q_ixp1 ?_)
    refine G (q_ldp ?_)
    refine G (q_eql8 (y := 16) ?_)
    refine Mv ?_
    refine Aknd 21 (fun hb4 => ?_) ?_; rotate_left
    · exact h0
    refine Gg (q_ixp1 ?_)
    refine Gg (q_ldp ?_)
    refine Gg (q_eql8 (y := 31) ?_)
    refine G (q_pkt ?_)
    refine As ?_
    refine gend ?_
    refine awp_ret ?_
    exact fp1 (hv := by rw [decide_eq_true h15])
  refine awp_skip ?_
  refine awp_seq ?_
  refine awp_block ?_
  refine rl ?_
  refine Mv ?_
  refine Mv ?_
  refine G (q_cv0_8 ?_)
  refine G (q_ixp1 ?_)
  refine G0 (q_stm ?_)
  refine gend ?_
  refine rl ?_
  refine Mv ?_
  refine G (q_addn (y := 1) ?_)
  refine As ?_
  refine gend ?_
  exact ⟨⟨x.1 + 1, by omega⟩, by show 16 - (x.1 + 1) < 16 - x.1; omega, sle_sub ⟨rfl, rfl, trivial⟩ rfl⟩   -- endloop 1
/-- escutcheonlaw09.PolyEqual -/
theorem equals (a b : List UInt8) (ha : a.length = 16) (hb : b.length = 16) : Good Try.prog 6 [.a (u8s a), .a (u8s b)] [] (sc (.bool true)) [] := by
  refine good_frm 20 Try.func6 rfl rfl rfl rfl rfl rfl ?_
  refine awp_seq ?_
  refine rl ?_
  refine G (q_boxa ?_)
  refine G (q_boxa ?_)
  refine As ?_
  refine gend ?_
  refine awp_seq ?_
  refine rdl [2, 10, 13] [0, 0, 0, 0, 0, 0, 1, 1, 1, 1, 1, 2, 2, 2, 3, 3] [0, 0, 1, 1, 1, 1, 1, 1, 1, 1, 2, 2, 2, 3, 3, 3] ?_
  refine DLw ?_
  refine DLw ?_
  refine De (q_callp (equal a b ha hb/- escutcheon/poly.Equal -/) (pw ?_))
  refine DLw ?_
  refine DLw ?_
  refine Dp (fun _ => q_eqa8 ⟨rfl, rfl⟩) ?_
  refine Dp (fun _ => q_eqlb ⟨rfl, rfl⟩) ?_
  refine Dp (fun _ => q_mv (s := .v (.c _)) ⟨rfl, rfl⟩) ?_
  refine Dkn 12 (fun hb8 => ?_) ?_; rotate_left
  · first | exact rfl | simp
  refine DLwg ?_
  refine DLwg ?_
  refine Deg (q_callp (equal a a ha ha/- escutcheon/poly.Equal -/) (pw ?_))
  refine Dp (fun _ => q_pkt ⟨rfl, rfl⟩) ?_
  refine Dp (fun _ => q_mv (s := .v (.c _)) ⟨rfl, rfl⟩) ?_
  refine Dkn 17 (fun hb13 => ?_) ?_; rotate_left
  · first | exact rfl | simp
  refine Deg (q_callp (known/- escutcheon/escutcheonlaw09.known -/) (pw ?_))
  refine Dp (fun _ => q_pkt ⟨rfl, rfl⟩) ?_
  refine Dp (fun _ => q_as (s := .v (.c _)) ⟨rfl, rfl⟩) ?_
  refine dend ?_
  refine awp_ret ?_
  exact fp1
end Go.Proofs.Ythompdmdlackoaa

/- Texts that the proof stands on, put together: the abstract machine, and what functions do over it. -/
import Derived.Test.YtjibmonfmhdbbaaOutReckonsc
/- What functions of the program do, walked over the abstract machine. -/
namespace Go.Proofs.Ytjibmonfmhdbbaa.Fl
open Go Go.Abs Go.Proofs Go.Proofs.Ytjibmonfmhdbbaa.Fd Go.Proofs.Ytjibmonfmhdbbaa.Rn

open Go.Nt Fd Rn
/-- escutcheonlaw02.num -/
theorem num_ (b : List UInt8) (hb : b.length = 32) : Good Try.prog 11 [.a (u8s b)] [] (sa (u64s (de (fb b)))) [] := by
  have hq : bv (b.set 31 (b.getD 31 0 % 128)) = bv b % 57896044618658097711785492504343953926634992332820282019728792003956564819968 := num_fb b hb
  have hs : (b.set 31 (b.getD 31 0 % 128)).length = 32 := List.length_set.trans hb
  have g1 := Rn.of_ (b.set 31 (b.getD 31 0 % 128)) hs
  have hlt : bv b % 57896044618658097711785492504343953926634992332820282019728792003956564819968 < 57896044618658097711785492504343953926634992332820282019728792003956564819968 := Nat.mod_lt _ (by decide)
  have g2 := Rn.add_ (bv b % 57896044618658097711785492504343953926634992332820282019728792003956564819968) 0 (by omega) (by decide)
  rw [Nat.add_zero] at g2
  rw [hq] at g1
  have hA := dg_len (bv b % 57896044618658097711785492504343953926634992332820282019728792003956564819968)
  rw [show de (fb b) = dg (bv b % 57896044618658097711785492504343953926634992332820282019728792003956564819968 % P) from rfl]
  have hB := dg_len (bv b % 57896044618658097711785492504343953926634992332820282019728792003956564819968 % P)
  generalize dg (bv b % 57896044618658097711785492504343953926634992332820282019728792003956564819968 % P) = B at g2 hB ⊢
  generalize dg (bv b % 57896044618658097711785492504343953926634992332820282019728792003956564819968) = A at g1 g2 hA
  refine good_frm 11 Try.func11 rfl rfl rfl rfl rfl rfl ?_
  refine awp_seq ?_
  refine rln ?_
  refine G2 (fun _ k_ => q_boxa k_) ?_
  refine G2 (fun _ k_ => q_al k_) ?_
  refine gend ?_
  refine awp_seq ?_
  refine rln ?_
  refine G (q_ixp1 ?_)
  refine G (q_ldp ?_)
  refine G (q_rem8 (y := 128) ?_ (hz := by decide))
  refine G (q_ixp1 ?_)
  refine G20 (fun _ k_ => q_stm k_) ?_
  refine gend ?_
  refine awp_seq ?_
  refine rln ?_
  refine G (q_ldw ?_)
  refine G2 (fun _ k_ => q_callp (g1) k_) ?_
  rw [show u64s (List.replicate 16 0) = u64s (dg 0) from congrArg u64s rep_de]
  refine G (q_bla (fk0 ?_))
  refine G2 (fun _ k_ => q_callp (g2) k_) ?_
  refine G20 (fun _ k_ => q_stw k_) ?_
  refine gend ?_
  refine awp_ret ?_
  exact fpc (t := 30) (a := 2) (hn := by exact (mapc_length ..).trans hB)
/-- escutcheonlaw02.is -/
theorem is_ (x y : F) : Good Try.prog 12 [.a (u64s (el x)), .a (u64s (de y))] [] (sc (.bool (decide (x = y)))) [] := by
  have hx := by32_len x.val
  have hy := by32_len y.val
  refine good_frm 10 Try.func12 rfl rfl rfl rfl rfl rfl ?_
  refine awp_seq ?_
  refine rln ?_
  refine G2 (fun _ k_ => q_boxa k_) ?_
  refine G2 (fun _ k_ => q_boxa k_) ?_
  refine As ?_
  refine gend ?_
  refine awp_seq ?_
  refine rdln [1, 3] [0, 0, 0, 1, 2, 2] [0, 1, 1, 2, 2, 2] ?_
  refine DLw ?_
  refine De2 (fun _ k_ => q_callp (bytes_e x) k_) ?_
  refine DLw ?_
  refine De2 (fun _ k_ => q_callp (Rn.bytes_ y.val) k_) ?_
  refine Dp (fun _ => q_eqa8 ⟨rfl, rfl⟩) ?_
  refine Dp (fun _ => q_as (s := .v (.c _)) ⟨rfl, rfl⟩) ?_
  refine dend ?_
  refine awp_ret ?_
  exact fp1 (hv := congrArg (fun b => sc (.bool b)) (decide_eq_decide.2 ⟨fun h => h ▸ rfl, fun h => bye_inj h⟩))
theorem is_t (x y : F) (h : x = y) : Good Try.prog 12 [.a (u64s (el x)), .a (u64s (de y))] [] (sc (.bool true)) [] := by
  have := is_ x y
  rwa [decide_eq_true h] at this
theorem eq_t (x y : F) (h : x = y) : Good Try.prog 28 [.a (u64s (el x)), .a (u64s (el y))] [] (sc (.bool true)) [] := by
  have := equal_e x y
  rwa [decide_eq_true h] at this
theorem kn1 : (2 : F) ≠ 0 := by decide
theorem kn_2 : inv 2 * 4 = 2 := by
  have h := mul_inv kn1
  grind
theorem kb : bye (0 - 1 : F) = 236 :: (List.replicate 30 255 ++ [127]) := by decide +kernel
theorem small_4 : Good Try.prog 27 [.c (c64 4)] [] (sa (u64s (el 4))) [] := small_e 4
set_option maxHeartbeats 800000 in
/-- escutcheonlaw02.known -/
theorem known_ : Good Try.prog 22 [] [] (sc (.bool true)) [] := by
  have hk2 := kn_2
  have hkb := kb
  have gB := bytes_e (0 - 1)
  rw [hkb] at gB
  refine good_frm 32 Try.func22 rfl rfl rfl rfl rfl rfl ?_
  refine awp_seq ?_
  refine rln ?_
  refine As ?_
  refine gend ?_
  refine awp_seq ?_
  refine rln ?_
  refine G2 (fun _ k_ => q_callp (small_0) k_ (ha := (cac rfl cm_int ca0))) ?_
  refine G2 (fun _ k_ => q_callp (small_1) k_ (ha := (cac rfl cm_int ca0))) ?_
  refine G2 (fun _ k_ => q_callp (sub_e 0 1) k_) ?_
  refine G2 (fun _ k_ => q_callp (gB) k_) ?_
  refine G2 (fun _ k_ => q_al k_) ?_
  refine G20 (fun _ k_ => q_stw k_) ?_
  refine gend ?_
  refine awp_seq ?_
  refine rln ?_
  refine G2 (fun _ k_ => q_callp (small_2) k_ (ha := (cac rfl cm_int ca0))) ?_
  refine G2 (fun _ k_ => q_callp (inv_e 2) k_) ?_
  refine G2 (fun _ k_ => q_callp (small_4) k_ (ha := (cac rfl cm_int ca0))) ?_
  refine G2 (fun _ k_ => q_callp (mul_e (inv 2) 4) k_) ?_
  refine G2 (fun _ k_ => q_callp (small_2) k_ (ha := (cac rfl cm_int ca0))) ?_
  refine G2 (fun _ k_ => q_callp (eq_t _ _ hk2) k_) ?_
  refine Mv ?_
  refine Gg (q_ixp1 ?_)
  refine Gg (q_ldp ?_)
  refine Gg (q_eql8 (y := 236) ?_)
  refine G (q_pkt ?_)
  refine Mv ?_
  refine Aknd 17 (fun hb12 => ?_) ?_; rotate_left
  · exact rfl
  refine Gg (q_ixp1 ?_)
  refine Gg (q_ldp ?_)
  refine Gg (q_eql8 (y := 255) ?_)
  refine G (q_pkt ?_)
  refine Mv ?_
  refine Aknd 22 (fun hb17 => ?_) ?_; rotate_left
  · exact rfl
  refine Gg (q_ixp1 ?_)
  refine Gg (q_ldp ?_)
  refine Gg (q_eql8 (y := 255) ?_)
  refine G (q_pkt ?_)
  refine Mv ?_
  refine Aknd 27 (fun hb22 => ?_) ?_; rotate_left
  · exact rfl
  refine Gg (q_ixp1 ?_)
  refine Gg (q_ldp ?_)
  refine Gg (q_eql8 (y := 127) ?_)
  refine G (q_pkt ?_)
  refine As ?_
  refine gend ?_
  refine awp_ret ?_
  exact fp1
end Go.Proofs.Ytjibmonfmhdbbaa.Fl

/- What functions of the program do, walked over the abstract machine. -/
namespace Go.Proofs.Ytjibmonfmhdbbaa.Fl
open Go Go.Abs Go.Proofs Go.Proofs.Ytjibmonfmhdbbaa.Fd Go.Proofs.Ytjibmonfmhdbbaa.Rn

open Go.Nt Fd Rn
set_option maxHeartbeats 1600000 in
/-- escutcheonlaw02.FieldReckons -/
theorem reckons_ (a b : List UInt8) (ha : a.length = 32) (hb : b.length = 32) : Good Try.prog 3 [.a (u8s a), .a (u8s b)] [] (sc (.bool true)) [] := by
  have ga := of_e a ha
  have gb := of_e b hb
  have na := num_ a ha
  have nb := num_ b hb
  generalize fb a = x at ga na
  generalize fb b = y at gb nb
  have dx := de_len x
  have dy := de_len y
  refine good_frm 60 Try.func3 rfl rfl rfl rfl rfl rfl ?_
  refine awp_seq ?_
  refine rln ?_
  refine G2 (fun _ k_ => q_boxa k_) ?_
  refine G2 (fun _ k_ => q_boxa k_) ?_
  refine As ?_
  refine gend ?_
  refine awp_mid ⟨frm 60 [(2, sc (.ptr 0 0)), (3, sc (.ptr 1 0)), (5, sc (.ptr 2 0)), (6, sc (.ptr 3 0))], [some (u8s a), some (u8s b), some (u64s (el x)), some (u64s (el y))]⟩ ?_ ?_
  · refine rdm [1, 3, 4, 5, 6, 7] [⟨[0, 1, 2, 3, 4, 5, 6, 7], [1, 3, 4, 5, 6, 7], [1, 3, 4, 5, 6, 7], [0, 0, 0, 1, 2, 3, 4, 5], [0, 1, 1, 2, 3, 4, 5, 6]⟩, ⟨[0, 1, 2, 3, 5, 4, 6, 7], [1, 3, 5, 4, 6, 7], [1, 3, 4, 5, 6, 7], [0, 0, 0, 1, 2, 3, 4, 5], [0, 1, 1, 2, 3, 4, 5, 6]⟩, ⟨[0, 1, 2, 4, 3, 5, 6, 7], [1, 4, 3, 5, 6, 7], [1, 3, 4, 5, 6, 7], [0, 0, 0, 1, 2, 3, 4, 5], [0, 1, 2, 2, 3, 4, 5, 6]⟩, ⟨[0, 1, 2, 4, 5, 3, 6, 7], [1, 4, 5, 3, 6, 7], [1, 3, 4, 5, 6, 7], [0, 0, 0, 1, 2, 3, 4, 5], [0, 1, 3, 2, 3, 4, 5, 6]⟩, ⟨[0, 1, 2, 5, 3, 4, 6, 7], [1, 5, 3, 4, 6, 7], [1, 3, 4, 5, 6, 7], [0, 0, 0, 1, 2, 3, 4, 5], [0, 1, 2, 2, 3, 4, 5, 6]⟩, ⟨[0, 1, 2, 5, 4, 3, 6, 7], [1, 5, 4, 3, 6, 7], [1, 3, 4, 5, 6, 7], [0, 0, 0, 1, 2, 3, 4, 5], [0, 1, 3, 2, 3, 4, 5, 6]⟩, ⟨[0, 2, 4, 1, 3, 5, 6, 7], [4, 1, 3, 5, 6, 7], [2, 3, 4, 5, 6, 7], [0, 0, 0, 1, 2, 3, 4, 5], [1, 2, 1, 2, 3, 4, 5, 6]⟩, ⟨[0, 2, 4, 1, 5, 3, 6, 7], [4, 1, 5, 3, 6, 7], [2, 3, 4, 5, 6, 7], [0, 0, 0, 1, 2, 3, 4, 5], [1, 3, 1, 2, 3, 4, 5, 6]⟩, ⟨[0, 2, 4, 5, 1, 3, 6, 7], [4, 5, 1, 3, 6, 7], [2, 3, 4, 5, 6, 7], [0, 0, 0, 1, 2, 3, 4, 5], [2, 3, 1, 2, 3, 4, 5, 6]⟩, ⟨[0, 2, 5, 1, 3, 4, 6, 7], [5, 1, 3, 4, 6, 7], [2, 3, 4, 5, 6, 7], [0, 0, 0, 1, 2, 3, 4, 5], [1, 2, 1, 2, 3, 4, 5, 6]⟩, ⟨[0, 2, 5, 1, 4, 3, 6, 7], [5, 1, 4, 3, 6, 7], [2, 3, 4, 5, 6, 7], [0, 0, 0, 1, 2, 3, 4, 5], [1, 3, 1, 2, 3, 4, 5, 6]⟩, ⟨[0, 2, 5, 4, 1, 3, 6, 7], [5, 4, 1, 3, 6, 7], [2, 3, 4, 5, 6, 7], [0, 0, 0, 1, 2, 3, 4, 5], [2, 3, 1, 2, 3, 4, 5, 6]⟩] ⟨?_, ?_, ?_, ?_, ?_, ?_, ?_, ?_, ?_, ?_, ?_, ?_, trivial⟩   -- region 1
    · refine DLw ?_
      refine De2 (fun _ k_ => q_callp (ga) k_) ?_
      refine DLw ?_
      refine De2 (fun _ k_ => q_callp (gb) k_) ?_
      refine De2 (fun _ k_ => q_al k_) ?_
      refine De2 (fun _ k_ => q_al k_) ?_
      refine De20 (fun _ k_ => q_stw k_) ?_
      refine De20 (fun _ k_ => q_stw k_) ?_
      refine dend ?_
      exact sle_sub ⟨rfl, rfl, rfl, rfl, trivial⟩ rfl
    · refine DLw ?_
      refine De2 (fun _ k_ => q_callp (ga) k_) ?_
      refine DLw ?_
      refine De2 (fun _ k_ => q_callp (gb) k_) ?_
      refine De2 (fun _ k_ => q_al k_) ?_
      refine De2 (fun _ k_ => q_al k_) ?_
      refine De20 (fun _ k_ => q_stw k_) ?_
      refine De20 (fun _ k_ => q_stw k_) ?_
      refine dend ?_
      exact sle_view [0, 1, 3, 2] (fun p h => absurd h (Nat.not_lt_zero _)) (by decide) ⟨rfl, rfl, rfl, rfl, trivial⟩ (Eq.symm (pl1 rfl sees_m (pl1 rfl sees_m (pl1 rfl sees_m (pl1 rfl sees_m pl0)))))
    · refine DLw ?_
      refine De2 (fun _ k_ => q_callp (ga) k_) ?_
      refine DLw ?_
      refine De2 (fun _ k_ => q_al k_) ?_
      refine De2 (fun _ k_ => q_callp (gb) k_) ?_
      refine De2 (fun _ k_ => q_al k_) ?_
      refine De20 (fun _ k_ => q_stw k_) ?_
      refine De20 (fun _ k_ => q_stw k_) ?_
      refine dend ?_
      exact sle_sub ⟨rfl, rfl, rfl, rfl, trivial⟩ rfl
    · refine DLw ?_
      refine De2 (fun _ k_ => q_callp (ga) k_) ?_
      refine DLw ?_
      refine De2 (fun _ k_ => q_al k_) ?_
      refine De2 (fun _ k_ => q_al k_) ?_
      refine De2 (fun _ k_ => q_callp (gb) k_) ?_
      refine De20 (fun _ k_ => q_stw k_) ?_
      refine De20 (fun _ k_ => q_stw k_) ?_
      refine dend ?_
      exact sle_sub ⟨rfl, rfl, rfl, rfl, trivial⟩ rfl
    · refine DLw ?_
      refine De2 (fun _ k_ => q_callp (ga) k_) ?_
      refine DLw ?_
      refine De2 (fun _ k_ => q_al k_) ?_
      refine De2 (fun _ k_ => q_callp (gb) k_) ?_
      refine De2 (fun _ k_ => q_al k_) ?_
      refine De20 (fun _ k_ => q_stw k_) ?_
      refine De20 (fun _ k_ => q_stw k_) ?_
      refine dend ?_
      exact sle_view [0, 1, 3, 2] (fun p h => absurd h (Nat.not_lt_zero _)) (by decide) ⟨rfl, rfl, rfl, rfl, trivial⟩ (Eq.symm (pl1 rfl sees_m (pl1 rfl sees_m (pl1 rfl sees_m (pl1 rfl sees_m pl0)))))
    · refine DLw ?_
      refine De2 (fun _ k_ => q_callp (ga) k_) ?_
      refine DLw ?_
      refine De2 (fun _ k_ => q_al k_) ?_
      refine De2 (fun _ k_ => q_al k_) ?_
      refine De2 (fun _ k_ => q_callp (gb) k_) ?_
      refine De20 (fun _ k_ => q_stw k_) ?_
      refine De20 (fun _ k_ => q_stw k_) ?_
      refine dend ?_
      exact sle_view [0, 1, 3, 2] (fun p h => absurd h (Nat.not_lt_zero _)) (by decide) ⟨rfl, rfl, rfl, rfl, trivial⟩ (Eq.symm (pl1 rfl sees_m (pl1 rfl sees_m (pl1 rfl sees_m (pl1 rfl sees_m pl0)))))
    · refine DLw ?_
      refine DLw ?_
      refine De2 (fun _ k_ => q_al k_) ?_
      refine De2 (fun _ k_ => q_callp (ga) k_) ?_
      refine De2 (fun _ k_ => q_callp (gb) k_) ?_
      refine De2 (fun _ k_ => q_al k_) ?_
      refine De20 (fun _ k_ => q_stw k_) ?_
      refine De20 (fun _ k_ => q_stw k_) ?_
      refine dend ?_
      exact sle_sub ⟨rfl, rfl, rfl, rfl, trivial⟩ rfl
    · refine DLw ?_
      refine DLw ?_
      refine De2 (fun _ k_ => q_al k_) ?_
      refine De2 (fun _ k_ => q_callp (ga) k_) ?_
      refine De2 (fun _ k_ => q_al k_) ?_
      refine De2 (fun _ k_ => q_callp (gb) k_) ?_
      refine De20 (fun _ k_ => q_stw k_) ?_
      refine De20 (fun _ k_ => q_stw k_) ?_
      refine dend ?_
      exact sle_sub ⟨rfl, rfl, rfl, rfl, trivial⟩ rfl
    · refine DLw ?_
      refine DLw ?_
      refine De2 (fun _ k_ => q_al k_) ?_
      refine De2 (fun _ k_ => q_al k_) ?_
      refine De2 (fun _ k_ => q_callp (ga) k_) ?_
      refine De2 (fun _ k_ => q_callp (gb) k_) ?_
      refine De20 (fun _ k_ => q_stw k_) ?_
      refine De20 (fun _ k_ => q_stw k_) ?_
      refine dend ?_
      exact sle_sub ⟨rfl, rfl, rfl, rfl, trivial⟩ rfl
    · refine DLw ?_
      refine DLw ?_
      refine De2 (fun _ k_ => q_al k_) ?_
      refine De2 (fun _ k_ => q_callp (ga) k_) ?_
      refine De2 (fun _ k_ => q_callp (gb) k_) ?_
      refine De2 (fun _ k_ => q_al k_) ?_
      refine De20 (fun _ k_ => q_stw k_) ?_
      refine De20 (fun _ k_ => q_stw k_) ?_
      refine dend ?_
      exact sle_view [0, 1, 3, 2] (fun p h => absurd h (Nat.not_lt_zero _)) (by decide) ⟨rfl, rfl, rfl, rfl, trivial⟩ (Eq.symm (pl1 rfl sees_m (pl1 rfl sees_m (pl1 rfl sees_m (pl1 rfl sees_m pl0)))))
    · refine DLw ?_
      refine DLw ?_
      refine De2 (fun _ k_ => q_al k_) ?_
      refine De2 (fun _ k_ => q_callp (ga) k_) ?_
      refine De2 (fun _ k_ => q_al k_) ?_
      refine De2 (fun _ k_ => q_callp (gb) k_) ?_
      refine De20 (fun _ k_ => q_stw k_) ?_
      refine De20 (fun _ k_ => q_stw k_) ?_
      refine dend ?_
      exact sle_view [0, 1, 3, 2] (fun p h => absurd h (Nat.not_lt_zero _)) (by decide) ⟨rfl, rfl, rfl, rfl, trivial⟩ (Eq.symm (pl1 rfl sees_m (pl1 rfl sees_m (pl1 rfl sees_m (pl1 rfl sees_m pl0)))))
    refine DLw ?_
    refine DLw ?_
    refine De2 (fun _ k_ => q_al k_) ?_
    refine De2 (fun _ k_ => q_al k_) ?_
    refine De2 (fun _ k_ => q_callp (ga) k_) ?_
    refine De2 (fun _ k_ => q_callp (gb) k_) ?_
    refine De20 (fun _ k_ => q_stw k_) ?_
    refine De20 (fun _ k_ => q_stw k_) ?_
    refine dend ?_
    exact sle_view [0, 1, 3, 2] (fun p h => absurd h (Nat.not_lt_zero _)) (by decide) ⟨rfl, rfl, rfl, rfl, trivial⟩ (Eq.symm (pl1 rfl sees_m (pl1 rfl sees_m (pl1 rfl sees_m (pl1 rfl sees_m pl0)))))
  refine awp_mid ⟨frm 60 [(5, sc (.ptr 2 0)), (6, sc (.ptr 3 0)), (7, sc (.ptr 4 0)), (8, sc (.ptr 5 0))], [some (u8s a), some (u8s b), some (u64s (el x)), some (u64s (el y)), some (u64s (de x)), some (u64s (de y))]⟩ ?_ ?_
  · refine rdm [1, 3, 4, 5, 6, 7] [⟨[0, 1, 2, 3, 4, 5, 6, 7], [1, 3, 4, 5, 6, 7], [1, 3, 4, 5, 6, 7], [0, 0, 0, 1, 2, 3, 4, 5], [0, 1, 1, 2, 3, 4, 5, 6]⟩, ⟨[0, 1, 2, 3, 5, 4, 6, 7], [1, 3, 5, 4, 6, 7], [1, 3, 4, 5, 6, 7], [0, 0, 0, 1, 2, 3, 4, 5], [0, 1, 1, 2, 3, 4, 5, 6]⟩, ⟨[0, 1, 2, 4, 3, 5, 6, 7], [1, 4, 3, 5, 6, 7], [1, 3, 4, 5, 6, 7], [0, 0, 0, 1, 2, 3, 4, 5], [0, 1, 2, 2, 3, 4, 5, 6]⟩, ⟨[0, 1, 2, 4, 5, 3, 6, 7], [1, 4, 5, 3, 6, 7], [1, 3, 4, 5, 6, 7], [0, 0, 0, 1, 2, 3, 4, 5], [0, 1, 3, 2, 3, 4, 5, 6]⟩, ⟨[0, 1, 2, 5, 3, 4, 6, 7], [1, 5, 3, 4, 6, 7], [1, 3, 4, 5, 6, 7], [0, 0, 0, 1, 2, 3, 4, 5], [0, 1, 2, 2, 3, 4, 5, 6]⟩, ⟨[0, 1, 2, 5, 4, 3, 6, 7], [1, 5, 4, 3, 6, 7], [1, 3, 4, 5, 6, 7], [0, 0, 0, 1, 2, 3, 4, 5], [0, 1, 3, 2, 3, 4, 5, 6]⟩, ⟨[0, 2, 4, 1, 3, 5, 6, 7], [4, 1, 3, 5, 6, 7], [2, 3, 4, 5, 6, 7], [0, 0, 0, 1, 2, 3, 4, 5], [1, 2, 1, 2, 3, 4, 5, 6]⟩, ⟨[0, 2, 4, 1, 5, 3, 6, 7], [4, 1, 5, 3, 6, 7], [2, 3, 4, 5, 6, 7], [0, 0, 0, 1, 2, 3, 4, 5], [1, 3, 1, 2, 3, 4, 5, 6]⟩, ⟨[0, 2, 4, 5, 1, 3, 6, 7], [4, 5, 1, 3, 6, 7], [2, 3, 4, 5, 6, 7], [0, 0, 0, 1, 2, 3, 4, 5], [2, 3, 1, 2, 3, 4, 5, 6]⟩, ⟨[0, 2, 5, 1, 3, 4, 6, 7], [5, 1, 3, 4, 6, 7], [2, 3, 4, 5, 6, 7], [0, 0, 0, 1, 2, 3, 4, 5], [1, 2, 1, 2, 3, 4, 5, 6]⟩, ⟨[0, 2, 5, 1, 4, 3, 6, 7], [5, 1, 4, 3, 6, 7], [2, 3, 4, 5, 6, 7], [0, 0, 0, 1, 2, 3, 4, 5], [1, 3, 1, 2, 3, 4, 5, 6]⟩, ⟨[0, 2, 5, 4, 1, 3, 6, 7], [5, 4, 1, 3, 6, 7], [2, 3, 4, 5, 6, 7], [0, 0, 0, 1, 2, 3, 4, 5], [2, 3, 1, 2, 3, 4, 5, 6]⟩] ⟨?_, ?_, ?_, ?_, ?_, ?_, ?_, ?_, ?_, ?_, ?_, ?_, trivial⟩   -- region 2
    · refine DLw ?_
      refine De2 (fun _ k_ => q_callp (na) k_) ?_
      refine DLw ?_
      refine De2 (fun _ k_ => q_callp (nb) k_) ?_
      refine De2 (fun _ k_ => q_al k_) ?_
      refine De2 (fun _ k_ => q_al k_) ?_
      refine De20 (fun _ k_ => q_stw k_) ?_
      refine De20 (fun _ k_ => q_stw k_) ?_
      refine dend ?_
      exact sle_sub ⟨rfl, rfl, rfl, rfl, trivial⟩ rfl
    · refine DLw ?_
      refine De2 (fun _ k_ => q_callp (na) k_) ?_
      refine DLw ?_
      refine De2 (fun _ k_ => q_callp (nb) k_) ?_
      refine De2 (fun _ k_ => q_al k_) ?_
      refine De2 (fun _ k_ => q_al k_) ?_
      refine De20 (fun _ k_ => q_stw k_) ?_
      refine De20 (fun _ k_ => q_stw k_) ?_
      refine dend ?_
      exact sle_view [0, 1, 2, 3, 5, 4] (fun p h => absurd h (Nat.not_lt_zero _)) (by decide) ⟨rfl, rfl, rfl, rfl, trivial⟩ (Eq.symm (pl1 rfl sees_m (pl1 rfl sees_m (pl1 rfl sees_m (pl1 rfl sees_m (pl1 rfl sees_m (pl1 rfl sees_m pl0)))))))
    · refine DLw ?_
      refine De2 (fun _ k_ => q_callp (na) k_) ?_
      refine DLw ?_
      refine De2 (fun _ k_ => q_al k_) ?_
      refine De2 (fun _ k_ => q_callp (nb) k_) ?_
      refine De2 (fun _ k_ => q_al k_) ?_
      refine De20 (fun _ k_ => q_stw k_) ?_
      refine De20 (fun _ k_ => q_stw k_) ?_
      refine dend ?_
      exact sle_sub ⟨rfl, rfl, rfl, rfl, trivial⟩ rfl
    · refine DLw ?_
      refine De2 (fun _ k_ => q_callp (na) k_) ?_
      refine DLw ?_
      refine De2 (fun _ k_ => q_al k_) ?_
      refine De2 (fun _ k_ => q_al k_) ?_
      refine De2 (fun _ k_ => q_callp (nb) k_) ?_
      refine De20 (fun _ k_ => q_stw k_) ?_
      refine De20 (fun _ k_ => q_stw k_) ?_
      refine dend ?_
      exact sle_sub ⟨rfl, rfl, rfl, rfl, trivial⟩ rfl
    · refine DLw ?_
      refine De2 (fun _ k_ => q_callp (na) k_) ?_
      refine DLw ?_
      refine De2 (fun _ k_ => q_al k_) ?_
      refine De2 (fun _ k_ => q_callp (nb) k_) ?_
      refine De2 (fun _ k_ => q_al k_) ?_
      refine De20 (fun _ k_ => q_stw k_) ?_
      refine De20 (fun _ k_ => q_stw k_) ?_
      refine dend ?_
      exact sle_view [0, 1, 2, 3, 5, 4] (fun p h => absurd h (Nat.not_lt_zero _)) (by decide) ⟨rfl, rfl, rfl, rfl, trivial⟩ (Eq.symm (pl1 rfl sees_m (pl1 rfl sees_m (pl1 rfl sees_m (pl1 rfl sees_m (pl1 rfl sees_m (pl1 rfl sees_m pl0)))))))
    · refine DLw ?_
      refine De2 (fun _ k_ => q_callp (na) k_) ?_
      refine DLw ?_
      refine De2 (fun _ k_ => q_al k_) ?_
      refine De2 (fun _ k_ => q_al k_) ?_
      refine De2 (fun _ k_ => q_callp (nb) k_) ?_
      refine De20 (fun _ k_ => q_stw k_) ?_
      refine De20 (fun _ k_ => q_stw k_) ?_
      refine dend ?_
      exact sle_view [0, 1, 2, 3, 5, 4] (fun p h => absurd h (Nat.not_lt_zero _)) (by decide) ⟨rfl, rfl, rfl, rfl, trivial⟩ (Eq.symm (pl1 rfl sees_m (pl1 rfl sees_m (pl1 rfl sees_m (pl1 rfl sees_m (pl1 rfl sees_m (pl1 rfl sees_m pl0)))))))
    · refine DLw ?_
      refine DLw ?_
      refine De2 (fun _ k_ => q_al k_) ?_
      refine De2 (fun _ k_ => q_callp (na) k_) ?_
      refine De2 (fun _ k_ => q_callp (nb) k_) ?_
      refine De2 (fun _ k_ => q_al k_) ?_
      refine De20 (fun _ k_ => q_stw k_) ?_
      refine De20 (fun _ k_ => q_stw k_) ?_
      refine dend ?_
      exact sle_sub ⟨rfl, rfl, rfl, rfl, trivial⟩ rfl
    · refine DLw ?_
      refine DLw ?_
      refine De2 (fun _ k_ => q_al k_) ?_
      refine De2 (fun _ k_ => q_callp (na) k_) ?_
      refine De2 (fun _ k_ => q_al k_) ?_
      refine De2 (fun _ k_ => q_callp (nb) k_) ?_
      refine De20 (fun _ k_ => q_stw k_) ?_
      refine De20 (fun _ k_ => q_stw k_) ?_
      refine dend ?_
      exact sle_sub ⟨rfl, rfl, rfl, rfl, trivial⟩ rfl
    · refine DLw ?_
      refine DLw ?_
      refine De2 (fun _ k_ => q_al k_) ?_
      refine De2 (fun _ k_ => q_al k_) ?_
      refine De2 (fun _ k_ => q_callp (na) k_) ?_
      refine De2 (fun _ k_ => q_callp (nb) k_) ?_
      refine De20 (fun _ k_ => q_stw k_) ?_
      refine De20 (fun _ k_ => q_stw k_) ?_
      refine dend ?_
      exact sle_sub ⟨rfl, rfl, rfl, rfl, trivial⟩ rfl
    · refine DLw ?_
      refine DLw ?_
      refine De2 (fun _ k_ => q_al k_) ?_
      refine De2 (fun _ k_ => q_callp (na) k_) ?_
      refine De2 (fun _ k_ => q_callp (nb) k_) ?_
      refine De2 (fun _ k_ => q_al k_) ?_
      refine De20 (fun _ k_ => q_stw k_) ?_
      refine De20 (fun _ k_ => q_stw k_) ?_
      refine dend ?_
      exact sle_view [0, 1, 2, 3, 5, 4] (fun p h => absurd h (Nat.not_lt_zero _)) (by decide) ⟨rfl, rfl, rfl, rfl, trivial⟩ (Eq.symm (pl1 rfl sees_m (pl1 rfl sees_m (pl1 rfl sees_m (pl1 rfl sees_m (pl1 rfl sees_m (pl1 rfl sees_m pl0)))))))
    · refine DLw ?_
      refine DLw ?_
      refine De2 (fun _ k_ => q_al k_) ?_
      refine De2 (fun _ k_ => q_callp (na) k_) ?_
      refine De2 (fun _ k_ => q_al k_) ?_
      refine De2 (fun _ k_ => q_callp (nb) k_) ?_
      refine De20 (fun _ k_ => q_stw k_) ?_
      refine De20 (fun _ k_ => q_stw k_) ?_
      refine dend ?_
      exact sle_view [0, 1, 2, 3, 5, 4] (fun p h => absurd h (Nat.not_lt_zero _)) (by decide) ⟨rfl, rfl, rfl, rfl, trivial⟩ (Eq.symm (pl1 rfl sees_m (pl1 rfl sees_m (pl1 rfl sees_m (pl1 rfl sees_m (pl1 rfl sees_m (pl1 rfl sees_m pl0)))))))
    refine DLw ?_
    refine DLw ?_
    refine De2 (fun _ k_ => q_al k_) ?_
    refine De2 (fun _ k_ => q_al k_) ?_
    refine De2 (fun _ k_ => q_callp (na) k_) ?_
    refine De2 (fun _ k_ => q_callp (nb) k_) ?_
    refine De20 (fun _ k_ => q_stw k_) ?_
    refine De20 (fun _ k_ => q_stw k_) ?_
    refine dend ?_
    exact sle_view [0, 1, 2, 3, 5, 4] (fun p h => absurd h (Nat.not_lt_zero _)) (by decide) ⟨rfl, rfl, rfl, rfl, trivial⟩ (Eq.symm (pl1 rfl sees_m (pl1 rfl sees_m (pl1 rfl sees_m (pl1 rfl sees_m (pl1 rfl sees_m (pl1 rfl sees_m pl0)))))))
  refine awp_seq ?_
  refine rdln [2, 5, 6, 10, 13, 14, 19, 22, 23, 27, 30, 31, 35, 37, 38, 41] [0, 0, 0, 0, 0, 1, 2, 3, 3, 3, 3, 3, 3, 4, 5, 6, 6, 6, 6, 6, 6, 6, 7, 8, 9, 9, 9, 9, 9, 9, 10, 11, 12, 12, 12, 12, 12, 13, 14, 15, 15, 15, 16, 16] [0, 0, 1, 1, 1, 2, 3, 3, 3, 3, 4, 4, 4, 5, 6, 6, 6, 6, 6, 7, 7, 7, 8, 9, 9, 9, 9, 10, 10, 10, 11, 12, 12, 12, 12, 13, 13, 14, 15, 15, 15, 16, 16, 16] ?_
  refine DLw ?_
  refine DLw ?_
  refine De2 (fun _ k_ => q_callp (add_e x y) k_) ?_
  refine DLw ?_
  refine DLw ?_
  refine De2 (fun _ k_ => q_callp (Rn.add_e x y) k_) ?_
  refine De2 (fun _ k_ => q_callp (is_t _ _ rfl) k_) ?_
  refine Dp (fun _ => q_mv (s := .v (.c _)) ⟨rfl, rfl⟩) ?_
  refine DLwg ?_
  refine DLwg ?_
  refine De2g (fun _ k_ => q_callp (sub_e x y) k_) ?_
  refine DLwg ?_
  refine DLwg ?_
  refine De2g (fun _ k_ => q_callp (Rn.sub_e x y) k_) ?_
  refine De2g (fun _ k_ => q_callp (is_t _ _ rfl) k_) ?_
  refine Dp (fun _ => q_pkt ⟨rfl, rfl⟩) ?_
  refine Dp (fun _ => q_mv (s := .v (.c _)) ⟨rfl, rfl⟩) ?_
  refine DLwg ?_
  refine DLwg ?_
  refine De2g (fun _ k_ => q_callp (mul_e x y) k_) ?_
  refine DLwg ?_
  refine DLwg ?_
  refine De2g (fun _ k_ => q_callp (Rn.mul_e x y) k_) ?_
  refine De2g (fun _ k_ => q_callp (is_t _ _ rfl) k_) ?_
  refine Dp (fun _ => q_pkt ⟨rfl, rfl⟩) ?_
  refine Dp (fun _ => q_mv (s := .v (.c _)) ⟨rfl, rfl⟩) ?_
  refine DLwg ?_
  refine De2g (fun _ k_ => q_callp (square_e x) k_) ?_
  refine DLwg ?_
  refine DLwg ?_
  refine De2g (fun _ k_ => q_callp (Rn.mul_e x x) k_) ?_
  refine De2g (fun _ k_ => q_callp (is_t _ _ rfl) k_) ?_
  refine Dp (fun _ => q_pkt ⟨rfl, rfl⟩) ?_
  refine Dp (fun _ => q_mv (s := .v (.c _)) ⟨rfl, rfl⟩) ?_
  refine DLwg ?_
  refine De2g (fun _ k_ => q_callp (neg_e x) k_) ?_
  refine DLwg ?_
  refine De2g (fun _ k_ => q_callp (Rn.neg_ x) k_) ?_
  refine De2g (fun _ k_ => q_callp (is_t _ _ rfl) k_) ?_
  refine Dp (fun _ => q_pkt ⟨rfl, rfl⟩) ?_
  refine Dp (fun _ => q_mv (s := .v (.c _)) ⟨rfl, rfl⟩) ?_
  refine De2g (fun _ k_ => q_callp (known_) k_) ?_
  refine Dp (fun _ => q_pkt ⟨rfl, rfl⟩) ?_
  refine Dp (fun _ => q_as (s := .v (.c _)) ⟨rfl, rfl⟩) ?_
  refine dend ?_
  refine awp_ret ?_
  exact fp1
end Go.Proofs.Ytjibmonfmhdbbaa.Fl


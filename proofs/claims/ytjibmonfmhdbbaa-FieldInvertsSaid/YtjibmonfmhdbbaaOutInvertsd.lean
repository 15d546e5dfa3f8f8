/- Texts that the proof stands on, put together: the abstract machine, and what functions do over it. -/
import Derived.Test.YtjibmonfmhdbbaaOutInvertsc
/- What functions of the program do, walked over the abstract machine. -/
namespace Go.Proofs.Ytjibmonfmhdbbaa.Rn
open Go Go.Abs Go.Proofs

open Go.Nt Fd
set_option maxHeartbeats 1600000 in
/-- escutcheonref02.Mod -/
theorem modL_ (d : List UInt64) (V : Nat) (hd : Mi d) (hL : 16 < d.length) (hV : nv d % P = V) : Good Try.prog 43 [.c (.slc 0 0 d.length 1)] [some (u64s d)] (sa (u64s (dg V))) [none] := by
  refine good_frm 93 Try.func43 rfl rfl rfl rfl rfl rfl ?_
  refine awp_seq ?_
  refine rln ?_
  refine G2 (fun _ k_ => q_al k_) ?_
  refine gend ?_
  refine awp_seq ?_
  refine awp_block ?_
  refine awp_loop (fun x : {d : List UInt64 // Mi d ∧ nv d % P = V} => ⟨frm 93 [(0, sc (.slc 2 0 x.1.length 1)), (2, sc (.ptr 1 0))], [none, some (u64s (List.replicate 16 0)), some (u64s x.1)]⟩) (fun x => mea x.1) ⟨d, hd, hV⟩ (sle_mv 0 rfl (Nat.le_of_ble_eq_true rfl) ⟨.inr (.inl ⟨_, _, _, rfl, rfl⟩), .inl rfl, trivial⟩ rfl) fun x => ?_
  have hx1 := x.2.1.1
  have hx2 := x.2.1.2.1
  have hx3 := x.2.1.2.2
  refine awp_seq ?_
  refine awp_seq ?_
  refine rln ?_
  refine Mv ?_
  refine G (q_lenc ?_)
  refine G (q_gtrn (y := 16) ?_)
  refine gend ?_
  refine cnd (fun hc1 => ?_) (fun hc1 => ?_); rotate_left
  · refine awp_exit ?_
    have hx16 : x.1.length = 16 := by omega
    have gD := car_ x.1 16 hx16 (by decide) (hx3.mono (by decide)) (Nat.lt_trans (hx3.lt 16) (by decide))
    rw [carL_id hx3, hx16] at gD
    obtain ⟨D, hD⟩ : ∃ D, x.1 = D := ⟨_, rfl⟩
    have hDl := hD ▸ hx16
    have hDb := hD ▸ hx3
    have hDv : Dv D 16 % P = V := by have := x.2.2; rw [← hDl, ← hD]; exact this
    rw [hD] at gD hx16 ⊢
    rw [hDl]
    refine awp_seq ?_
    refine rln ?_
    refine Mv ?_
    refine G2 (fun _ k_ => q_app  k_ (eB := el_slc (xs := u64s D) rfl (by rw [mapc_length, hDl]; decide) (cut_h hDl))) ?_
    refine G2 (fun _ k_ => q_callv [3] [none] [some (u64s D)] (gD) k_ (ha := (cac (et rfl) rfl ca0)) (e2 := pl1 rfl sees_m pl0) (eL := mln ml0) (eM := (ml1 sees_m ml0)) (e3 := rfl)) ?_
    refine As ?_
    refine gend ?_
    refine awp_seq ?_
    refine awp_block ?_
    refine awp_loop (fun _ : Unit => ⟨frm 93 [(0, sc (.slc 4 0 16 1)), (2, sc (.ptr 1 0))], [none, some (u64s (List.replicate 16 0)), some (u64s D), none, some (u64s D)]⟩) (fun _ => 0) () (sle_sub ⟨rfl, rfl, trivial⟩ rfl) fun _ => ?_   -- live: [0, 2]
    refine awp_seq ?_
    refine awp_seq ?_
    refine rln ?_
    refine Mv ?_
    refine G (q_lenc ?_)
    refine G (q_gtrn (y := 16) ?_)
    refine gend ?_
    refine cndN (fun hc2 => ?_) ?_; rotate_left
    · decide
    refine awp_exit ?_
    refine awp_seq ?_
    refine rln ?_
    refine G2 (fun _ k_ => q_al k_) ?_
    refine gend ?_
    refine awp_seq ?_
    refine rln ?_
    refine G (q_slp_no ?_)
    refine Mv ?_
    refine G2 (fun _ k_ => q_cpy  k_ (eB := el_slc (xs := u64s D) rfl (by rw [mapc_length, hDl]; decide) (cut_h hDl))) ?_
    rw [cp16 (List.length_replicate ..) hDl]
    refine gend ?_
    refine awp_seq ?_
    refine awp_block ?_
    refine awp_loop (fun y : {l : List UInt64 // l.length = 16 ∧ Bd l 65535 ∧ Dv l 16 % P = V} => ⟨frm 93 [(2, sc (.ptr 1 0)), (5, sc (.ptr 2 0))], [none, some (u64s (List.replicate 16 0)), some (u64s y.1)]⟩) (fun y => Dv y.1 16) ⟨D, hDl, hDb, hDv⟩ (sle_view [0, 1, 5] pi1 (by decide) ⟨rfl, rfl, trivial⟩ (vh3 rfl (pick_m rfl) (pick_m rfl))) fun y => ?_
    have hyl := y.2.1
    have hyb := y.2.2.1
    have hyv := y.2.2.2
    refine awp_seq ?_
    refine awp_seq ?_
    refine rln ?_
    refine G (q_ixp1 ?_)
    refine G (q_ldp ?_)
    refine G (q_gtr64 (y := 32767) ?_)
    refine gend ?_
    refine cnd (fun hc3 => ?_) (fun hc3 => ?_); rotate_left
    · refine awp_exit ?_
      have hm := low255 hyb hc3
      obtain ⟨m, hmE⟩ : ∃ m, Dv y.1 16 = m := ⟨_, rfl⟩
      have hyd := dg_of hyl hyb hmE
      rw [hmE] at hm hyv
      rw [hyd]
      refine awp_seq ?_
      refine awp_seq ?_
      refine rdln [1, 2] [0, 0, 1, 2] [1, 1, 2, 2] ?_
      refine DLw ?_
      refine De2 (fun _ k_ => q_callp (prime_) k_) ?_
      refine De2 (fun _ k_ => q_callp (less_ m P (by omega) (by decide)) k_) ?_
      refine Dp (fun _ => q_notb ⟨rfl, rfl⟩) ?_
      refine dend ?_
      refine cndbn (fun hc4 => ?_) (fun hc4 => ?_)
      · refine rdln [1, 2, 3] [0, 0, 1, 2] [1, 1, 2, 3] ?_
        refine DLw ?_
        refine De2 (fun _ k_ => q_callp (prime_) k_) ?_
        refine De2 (fun _ k_ => q_callp (minus_ m P (by omega) (Nat.le_of_not_lt (of_decide_eq_false hc4))) k_) ?_
        refine De20 (fun _ k_ => q_stw k_) ?_
        refine dend ?_
        refine awp_seq ?_
        refine rln ?_
        refine G (q_ldw ?_)
        refine G20 (fun _ k_ => q_stw k_) ?_
        refine gend ?_
        refine awp_ret ?_
        exact fxc (t := 30) (a := 2) [0] (hd := by exact (mapc_length ..).trans (dg_len _)) (hv := by rw [show V = m - P by rw [← hyv, Nat.mod_eq_sub_mod (Nat.le_of_not_lt (of_decide_eq_false hc4)), Nat.mod_eq_of_lt (by have hp := P_val; omega)]])
      refine awp_skip ?_
      refine awp_seq ?_
      refine rln ?_
      refine G (q_ldw ?_)
      refine G20 (fun _ k_ => q_stw k_) ?_
      refine gend ?_
      refine awp_ret ?_
      exact fxc (t := 30) (a := 2) [0] (hd := by exact (mapc_length ..).trans (dg_len _)) (hv := by rw [show V = m by rw [← hyv]; exact Nat.mod_eq_of_lt (of_decide_eq_true hc4)])
    refine awp_skip ?_
    refine awp_block ?_
    refine awp_seq ?_
    refine rln ?_
    refine G (q_ixp1 ?_)
    refine G (q_ldp ?_)
    obtain ⟨ht3, hb3, hv3, hm3⟩ := t3_spec hyl hyb hc3
    obtain ⟨he1, he2, _⟩ := t3e_spec hyl hyb
    have g3 := car_ (t3e y.1) 16 he1 (by decide) (he2.mono (by decide)) (Nat.lt_trans (t3e_lt hyl hyb) (by decide))
    rw [show carL (t3e y.1) = t3 y.1 from rfl, ht3] at g3
    refine G (q_quo64 (y := 32768) ?_ (hz := by decide))
    refine As ?_
    refine gend ?_
    refine awp_seq ?_
    refine rln ?_
    refine G (q_ixp1 ?_)
    refine G (q_ldp ?_)
    refine G (q_rem64 (y := 32768) ?_ (hz := by decide))
    refine G (q_ixp1 ?_)
    refine G20 (fun _ k_ => q_stm k_) ?_
    refine gend ?_
    refine awp_seq ?_
    refine rln ?_
    refine As ?_
    refine gend ?_
    refine awp_seq ?_
    refine rln ?_
    refine Mv ?_
    refine G (q_slp_no ?_)
    refine G2 (fun _ k_ => q_app  k_ (eB := el_slc (xs := u64s (y.1.set 15 (y.1.getD 15 0 % 32768))) rfl (by rw [mapc_length, List.length_set, hyl]; decide) (cut_h (List.length_set.trans hyl)))) ?_
    refine As ?_
    refine gend ?_
    refine awp_seq ?_
    refine rln ?_
    refine Mv ?_
    refine Mv ?_
    refine G (q_ixs1 ?_)
    refine G (q_ldp ?_)
    refine Mv ?_
    refine G (q_mul64 (x := 19) ?_)
    refine G (q_add64 ?_)
    refine G (q_ixs1 ?_)
    refine G20 (fun _ k_ => q_stm k_) ?_
    refine gend ?_
    refine rdln [2, 3] [0, 0, 0, 1] [1, 0, 1, 2] ?_
    refine DSp 2 rfl (fun _ hv => q_slp_no ⟨rfl, rfl⟩ (hp := hv)) ?_
    refine Dp (fun _ => q_mv (s := .v (.c _)) ⟨rfl, rfl⟩) ?_
    refine De2 (fun _ k_ => q_callv [3] [none] [some (u64s (t3 y.1))] (g3) k_ (ha := (cac (et rfl) rfl ca0)) (e2 := pl1 rfl sees_m pl0) (eL := mln ml0) (eM := (ml1 sees_m ml0)) (e3 := rfl)) ?_
    refine De2 (fun _ k_ => q_cpy  k_ (eB := el_slc (xs := u64s (t3 y.1)) rfl (by rw [mapc_length, ht3]; decide) (cut_h ht3))) ?_
    refine dend ?_
    exact ⟨⟨t3 y.1, ht3, hb3, hv3.trans hyv⟩, hm3, sle_view [0, 1, 2] pi1 (by decide) ⟨rfl, rfl, trivial⟩ (vh3 rfl (pick_m rfl) (pick_m (congrArg (fun z => some (some z)) (cp16 (List.length_set.trans hyl) ht3))))⟩   -- endloop 3
  refine awp_skip ?_
  refine awp_block ?_
  refine awp_seq ?_
  refine rln ?_
  refine As ?_
  refine gend ?_
  refine awp_seq ?_
  refine rln ?_
  refine Mv ?_
  refine Mv ?_
  obtain ⟨f1, f2, f3, _⟩ := fl38_ok x.2.1 hc1
  obtain ⟨r1, r2, r3⟩ := rnd_spec x.2.1 hc1
  refine G (q_sls_hi (k := 16) ?_)
  refine G2 (fun _ k_ => q_app  k_ (eB := el_slc (xs := u64s (x.1.take 16)) rfl (by rw [mapc_length]; omega) tk16)) ?_
  refine As ?_
  refine gend ?_
  refine awp_seq ?_
  refine awp_seq ?_
  refine rln ?_
  refine G (q_as (s := sc (cn 16)) ?_)
  refine gend ?_
  refine awp_block ?_
  refine awp_loop (fun j : {i : Nat // i ≤ (x.1.length - 16)} => ⟨frm 93 [(0, sc (.slc 2 0 x.1.length 1)), (2, sc (.ptr 1 0)), (3, sc (.slc 3 0 16 1)), (4, sc (cn (16 + j.1)))], [none, some (u64s (List.replicate 16 0)), some (u64s x.1), some (u64s (fl38 x.1 j.1))]⟩) (fun j => (x.1.length - 16) - j.1) ⟨0, Nat.zero_le _⟩ (sle_sub ⟨rfl, rfl, rfl, rfl, trivial⟩ rfl) fun j => ?_   -- live: [0, 3, 4]
  have hfl := fl38_len x.1 hx1 j.1
  refine awp_seq ?_
  refine awp_seq ?_
  refine rln ?_
  refine Mv ?_
  refine Mv ?_
  refine G (q_lenc ?_)
  refine G (q_lssn ?_)
  refine gend ?_
  refine cnd (fun hc5 => ?_) (fun hc5 => ?_); rotate_left
  · refine awp_exit ?_
    rw [show j.1 = (x.1.length - 16) from (by have := j.2; omega)]
    have g1 := car_ (fl38 x.1 (x.1.length - 16)) 16 f1 (by decide) (f2.mono (by decide)) f3
    rw [show carL (fl38 x.1 (x.1.length - 16)) = rnd x.1 from rfl] at g1
    refine rln ?_
    refine Mv ?_
    refine G2 (fun _ k_ => q_callv [3] [none] [some (u64s (rnd x.1))] (g1) k_ (ha := (cac (et rfl) rfl ca0)) (e2 := pl1 rfl sees_m pl0) (eL := mln ml0) (eM := (ml1 sees_m ml0)) (e3 := rfl)) ?_
    refine As ?_
    refine gend ?_
    exact ⟨⟨rnd x.1, r1, r2.trans x.2.2⟩, r3, sle_view [0, 1, 4] pi1 (by decide) ⟨rfl, rfl, trivial⟩ (vh3 rfl (pick_m rfl) (pick_m rfl))⟩   -- endloop 1
  refine awp_skip ?_
  refine awp_seq ?_
  refine awp_block ?_
  refine awp_seq ?_
  refine rln ?_
  refine Mv ?_
  refine G (q_subn (y := 16) ?_)
  refine G (q_lssn (y := 16) ?_)
  refine gend ?_
  refine cndY (fun hc6 => ?_) ?_; rotate_left
  · omega
  refine rdln [15] [] [0, 0, 0, 0, 0, 0, 0, 0, 0, 0, 0, 0, 0, 0, 0, 1] ?_
  refine Dp (fun _ => q_mv (s := .v (.c _)) ⟨rfl, rfl⟩) ?_
  refine Dp (fun _ => q_mv (s := .v (.c _)) ⟨rfl, rfl⟩) ?_
  refine Dp (fun _ => q_subn (y := 16) ⟨rfl, rfl⟩) ?_
  refine Dp (fun _ => q_mv (s := .v (.c _)) ⟨rfl, rfl⟩) ?_
  refine Dp (fun _ => q_mv (s := .v (.c _)) ⟨rfl, rfl⟩) ?_
  refine Dp (fun _ => q_subn (y := 16) ⟨rfl, rfl⟩) ?_
  refine Dp (fun _ => q_ixs1 ⟨rfl, rfl⟩) ?_
  refine DLp ?_
  refine Dp (fun _ => q_mv (s := .v (.c _)) ⟨rfl, rfl⟩) ?_
  refine Dp (fun _ => q_mv (s := .v (.c _)) ⟨rfl, rfl⟩) ?_
  refine Dp (fun _ => q_ixs1 ⟨rfl, rfl⟩) ?_
  refine DLp ?_
  refine Dp (fun _ => q_mul64 (x := 38) ⟨rfl, rfl⟩) ?_
  refine Dp (fun _ => q_add64 ⟨rfl, rfl⟩) ?_
  refine Dp (fun _ => q_ixs1 ⟨rfl, rfl⟩) ?_
  refine De20 (fun _ k_ => q_stm k_) ?_
  refine dend ?_
  refine rln ?_
  refine Mv ?_
  refine G (q_addn (y := 1) ?_)
  refine As ?_
  refine gend ?_
  exact ⟨⟨j.1 + 1, by omega⟩, by show (x.1.length - 16) - (j.1 + 1) < (x.1.length - 16) - j.1; omega, sle_sub ⟨rfl, rfl, rfl, rfl, trivial⟩ rfl⟩   -- endloop 4
set_option maxHeartbeats 1600000 in
/-- escutcheonref02.Mod -/
theorem mod16a_ (d : List UInt64) (V : Nat) (hd16 : d.length = 16) (hb : Bd d 9223372036854775808) (hlt : Dv d 16 < 115792089237316195423570985008687907853269984665640564039457584007913129639936) (hV : Dv d 16 % P = V) : Good Try.prog 43 [.c (.ro 16 (u64s d))] [] (sa (u64s (dg V))) [] := by
  obtain ⟨c1, c2, c3, c4⟩ := carL_spec hd16 hb (Nat.lt_trans hlt (by decide))
  have gD := car_ d 16 hd16 (by decide) hb (Nat.lt_trans hlt (by decide))
  have hDl := c4 (by rw [q16]; exact hlt)
  rw [hDl] at c2 gD
  have hDb := c1
  have hDv : Dv (carL d) 16 % P = V := by rw [c2, hV]
  generalize carL d = D at gD hDl hDb hDv
  refine good_frm 93 Try.func43 rfl rfl rfl rfl rfl rfl ?_
  refine awp_seq ?_
  refine rln ?_
  refine G2 (fun _ k_ => q_al k_) ?_
  refine gend ?_
  refine awp_seq ?_
  refine awp_block ?_
  refine awp_loop (fun _ : Unit => ⟨frm 93 [(0, sc (.ro 16 (u64s d))), (2, sc (.ptr 0 0))], [some (u64s (List.replicate 16 0))]⟩) (fun _ => 0) () (sle_sub ⟨rfl, rfl, trivial⟩ rfl) fun _ => ?_   -- live: [0]
  refine awp_seq ?_
  refine awp_seq ?_
  refine rln ?_
  refine Mv ?_
  refine G (q_leno ?_)
  refine G (q_gtrn (y := 16) ?_)
  refine gend ?_
  refine cndN (fun hc1 => ?_) ?_; rotate_left
  · decide
  refine awp_exit ?_
  refine awp_seq ?_
  refine rln ?_
  refine Mv ?_
  refine G2 (fun _ k_ => q_app  k_ (eB := el_ro (by rw [mapc_length, hd16]))) ?_
  refine G2 (fun _ k_ => q_callv [1] [none] [some (u64s D)] (gD) k_ (ha := (cac (et rfl) rfl ca0)) (e2 := pl1 rfl sees_m pl0) (eL := mln ml0) (eM := (ml1 sees_m ml0)) (e3 := rfl)) ?_
  refine As ?_
  refine gend ?_
  refine awp_seq ?_
  refine awp_block ?_
  refine awp_loop (fun _ : Unit => ⟨frm 93 [(0, sc (.slc 2 0 16 1)), (2, sc (.ptr 0 0))], [some (u64s (List.replicate 16 0)), none, some (u64s D)]⟩) (fun _ => 0) () (sle_sub ⟨rfl, rfl, trivial⟩ rfl) fun _ => ?_   -- live: [0, 2]
  refine awp_seq ?_
  refine awp_seq ?_
  refine rln ?_
  refine Mv ?_
  refine G (q_lenc ?_)
  refine G (q_gtrn (y := 16) ?_)
  refine gend ?_
  refine cndN (fun hc2 => ?_) ?_; rotate_left
  · decide
  refine awp_exit ?_
  refine awp_seq ?_
  refine rln ?_
  refine G2 (fun _ k_ => q_al k_) ?_
  refine gend ?_
  refine awp_seq ?_
  refine rln ?_
  refine G (q_slp_no ?_)
  refine Mv ?_
  refine G2 (fun _ k_ => q_cpy  k_ (eB := el_slc (xs := u64s D) rfl (by rw [mapc_length, hDl]; decide) (cut_h hDl))) ?_
  rw [cp16 (List.length_replicate ..) hDl]
  refine gend ?_
  refine awp_seq ?_
  refine awp_block ?_
  refine awp_loop (fun y : {l : List UInt64 // l.length = 16 ∧ Bd l 65535 ∧ Dv l 16 % P = V} => ⟨frm 93 [(2, sc (.ptr 0 0)), (5, sc (.ptr 1 0))], [some (u64s (List.replicate 16 0)), some (u64s y.1)]⟩) (fun y => Dv y.1 16) ⟨D, hDl, hDb, hDv⟩ (sle_view [0, 3] (fun p h => absurd h (Nat.not_lt_zero _)) (by decide) ⟨rfl, rfl, trivial⟩ (vh2 (pick_m rfl) (pick_m rfl))) fun y => ?_
  have hyl := y.2.1
  have hyb := y.2.2.1
  have hyv := y.2.2.2
  refine awp_seq ?_
  refine awp_seq ?_
  refine rln ?_
  refine G (q_ixp1 ?_)
  refine G (q_ldp ?_)
  refine G (q_gtr64 (y := 32767) ?_)
  refine gend ?_
  refine cnd (fun hc3 => ?_) (fun hc3 => ?_); rotate_left
  · refine awp_exit ?_
    have hm := low255 hyb hc3
    obtain ⟨m, hmE⟩ : ∃ m, Dv y.1 16 = m := ⟨_, rfl⟩
    have hyd := dg_of hyl hyb hmE
    rw [hmE] at hm hyv
    rw [hyd]
    refine awp_seq ?_
    refine awp_seq ?_
    refine rdln [1, 2] [0, 0, 1, 2] [1, 1, 2, 2] ?_
    refine DLw ?_
    refine De2 (fun _ k_ => q_callp (prime_) k_) ?_
    refine De2 (fun _ k_ => q_callp (less_ m P (by omega) (by decide)) k_) ?_
    refine Dp (fun _ => q_notb ⟨rfl, rfl⟩) ?_
    refine dend ?_
    refine cndbn (fun hc4 => ?_) (fun hc4 => ?_)
    · refine rdln [1, 2, 3] [0, 0, 1, 2] [1, 1, 2, 3] ?_
      refine DLw ?_
      refine De2 (fun _ k_ => q_callp (prime_) k_) ?_
      refine De2 (fun _ k_ => q_callp (minus_ m P (by omega) (Nat.le_of_not_lt (of_decide_eq_false hc4))) k_) ?_
      refine De20 (fun _ k_ => q_stw k_) ?_
      refine dend ?_
      refine awp_seq ?_
      refine rln ?_
      refine G (q_ldw ?_)
      refine G20 (fun _ k_ => q_stw k_) ?_
      refine gend ?_
      refine awp_ret ?_
      exact fpc (t := 30) (a := 2) (hn := by exact (mapc_length ..).trans (dg_len _)) (hv := by rw [show V = m - P by rw [← hyv, Nat.mod_eq_sub_mod (Nat.le_of_not_lt (of_decide_eq_false hc4)), Nat.mod_eq_of_lt (by have hp := P_val; omega)]])
    refine awp_skip ?_
    refine awp_seq ?_
    refine rln ?_
    refine G (q_ldw ?_)
    refine G20 (fun _ k_ => q_stw k_) ?_
    refine gend ?_
    refine awp_ret ?_
    exact fpc (t := 30) (a := 2) (hn := by exact (mapc_length ..).trans (dg_len _)) (hv := by rw [show V = m by rw [← hyv]; exact Nat.mod_eq_of_lt (of_decide_eq_true hc4)])
  refine awp_skip ?_
  refine awp_block ?_
  refine awp_seq ?_
  refine rln ?_
  refine G (q_ixp1 ?_)
  refine G (q_ldp ?_)
  obtain ⟨ht3, hb3, hv3, hm3⟩ := t3_spec hyl hyb hc3
  obtain ⟨he1, he2, _⟩ := t3e_spec hyl hyb
  have g3 := car_ (t3e y.1) 16 he1 (by decide) (he2.mono (by decide)) (Nat.lt_trans (t3e_lt hyl hyb) (by decide))
  rw [show carL (t3e y.1) = t3 y.1 from rfl, ht3] at g3
  refine G (q_quo64 (y := 32768) ?_ (hz := by decide))
  refine As ?_
  refine gend ?_
  refine awp_seq ?_
  refine rln ?_
  refine G (q_ixp1 ?_)
  refine G (q_ldp ?_)
  refine G (q_rem64 (y := 32768) ?_ (hz := by decide))
  refine G (q_ixp1 ?_)
  refine G20 (fun _ k_ => q_stm k_) ?_
  refine gend ?_
  refine awp_seq ?_
  refine rln ?_
  refine As ?_
  refine gend ?_
  refine awp_seq ?_
  refine rln ?_
  refine Mv ?_
  refine G (q_slp_no ?_)
  refine G2 (fun _ k_ => q_app  k_ (eB := el_slc (xs := u64s (y.1.set 15 (y.1.getD 15 0 % 32768))) rfl (by rw [mapc_length, List.length_set, hyl]; decide) (cut_h (List.length_set.trans hyl)))) ?_
  refine As ?_
  refine gend ?_
  refine awp_seq ?_
  refine rln ?_
  refine Mv ?_
  refine Mv ?_
  refine G (q_ixs1 ?_)
  refine G (q_ldp ?_)
  refine Mv ?_
  refine G (q_mul64 (x := 19) ?_)
  refine G (q_add64 ?_)
  refine G (q_ixs1 ?_)
  refine G20 (fun _ k_ => q_stm k_) ?_
  refine gend ?_
  refine rdln [2, 3] [0, 0, 0, 1] [1, 0, 1, 2] ?_
  refine DSp 1 rfl (fun _ hv => q_slp_no ⟨rfl, rfl⟩ (hp := hv)) ?_
  refine Dp (fun _ => q_mv (s := .v (.c _)) ⟨rfl, rfl⟩) ?_
  refine De2 (fun _ k_ => q_callv [2] [none] [some (u64s (t3 y.1))] (g3) k_ (ha := (cac (et rfl) rfl ca0)) (e2 := pl1 rfl sees_m pl0) (eL := mln ml0) (eM := (ml1 sees_m ml0)) (e3 := rfl)) ?_
  refine De2 (fun _ k_ => q_cpy  k_ (eB := el_slc (xs := u64s (t3 y.1)) rfl (by rw [mapc_length, ht3]; decide) (cut_h ht3))) ?_
  refine dend ?_
  exact ⟨⟨t3 y.1, ht3, hb3, hv3.trans hyv⟩, hm3, sle_view [0, 1] (fun p h => absurd h (Nat.not_lt_zero _)) (by decide) ⟨rfl, rfl, trivial⟩ (vh2 (pick_m rfl) (pick_m (congrArg (fun z => some (some z)) (cp16 (List.length_set.trans hyl) ht3))))⟩   -- endloop 3
set_option maxHeartbeats 1600000 in
/-- escutcheonref02.Mod -/
theorem mod16b_ (d : List UInt64) (V : Nat) (hd16 : d.length = 16) (hb : Bd d 9223372036854775808) (hlt : Dv d 16 < 65536 ^ 17) (hge : 115792089237316195423570985008687907853269984665640564039457584007913129639936 ≤ Dv d 16) (hV : Dv d 16 % P = V) : Good Try.prog 43 [.c (.ro 16 (u64s d))] [] (sa (u64s (dg V))) [] := by
  obtain ⟨c1, c2, c3, c4⟩ := carL_spec hd16 hb hlt
  have gD := car_ d 16 hd16 (by decide) hb hlt
  have hDl : 16 < (carL d).length := by
    rcases c3 with h | h
    · exfalso
      rw [h] at c2
      have := c1.lt 16
      rw [q16] at this
      omega
    · omega
  have gM := modL_ (carL d) V ⟨by omega, by omega, c1⟩ hDl (by rw [show nv (carL d) = Dv (carL d) (carL d).length from rfl, c2, hV])
  have hV16 : (dg V).length = 16 := dg_len V
  generalize carL d = D at gD hDl gM
  refine good_frm 93 Try.func43 rfl rfl rfl rfl rfl rfl ?_
  refine awp_seq ?_
  refine rln ?_
  refine G2 (fun _ k_ => q_al k_) ?_
  refine gend ?_
  refine awp_seq ?_
  refine awp_block ?_
  refine awp_loop (fun _ : Unit => ⟨frm 93 [(0, sc (.ro 16 (u64s d))), (2, sc (.ptr 0 0))], [some (u64s (List.replicate 16 0))]⟩) (fun _ => 0) () (sle_sub ⟨rfl, rfl, trivial⟩ rfl) fun _ => ?_   -- live: [0]
  refine awp_seq ?_
  refine awp_seq ?_
  refine rln ?_
  refine Mv ?_
  refine G (q_leno ?_)
  refine G (q_gtrn (y := 16) ?_)
  refine gend ?_
  refine cndN (fun hc1 => ?_) ?_; rotate_left
  · decide
  refine awp_exit ?_
  refine awp_seq ?_
  refine rln ?_
  refine Mv ?_
  refine G2 (fun _ k_ => q_app  k_ (eB := el_ro (by rw [mapc_length, hd16]))) ?_
  refine G2 (fun _ k_ => q_callv [1] [none] [some (u64s D)] (gD) k_ (ha := (cac (et rfl) rfl ca0)) (e2 := pl1 rfl sees_m pl0) (eL := mln ml0) (eM := (ml1 sees_m ml0)) (e3 := rfl)) ?_
  refine As ?_
  refine gend ?_
  refine awp_seq ?_
  refine awp_block ?_
  refine awp_loop (fun _ : Unit => ⟨frm 93 [(0, sc (.slc 2 0 D.length 1)), (2, sc (.ptr 0 0))], [some (u64s (List.replicate 16 0)), none, some (u64s D)]⟩) (fun _ => 0) () (sle_sub ⟨rfl, rfl, trivial⟩ rfl) fun _ => ?_   -- live: [0, 2]
  refine awp_seq ?_
  refine awp_seq ?_
  refine rln ?_
  refine Mv ?_
  refine G (q_lenc ?_)
  refine G (q_gtrn (y := 16) ?_)
  refine gend ?_
  refine cndY (fun hc2 => ?_) ?_; rotate_left
  · omega
  refine awp_skip ?_
  refine awp_block ?_
  refine awp_seq ?_
  refine rln ?_
  refine Mv ?_
  refine G2 (fun _ k_ => q_callv [2] [none] [] (gM) k_ (ha := (cac (et rfl) rfl ca0)) (e2 := pl1 rfl sees_m pl0) (eL := mln ml0) (eM := ml0) (e3 := rs_m)) ?_
  refine G20 (fun _ k_ => q_stw k_) ?_
  refine gend ?_
  refine awp_ret ?_
  exact fpc (t := 30) (a := 2) (hn := by exact (mapc_length ..).trans hV16)
theorem mod16_ (d : List UInt64) (hd16 : d.length = 16) (hb : Bd d 9223372036854775808) (hlt : Dv d 16 < 65536 ^ 17) : Good Try.prog 43 [.c (.ro 16 (u64s d))] [] (sa (u64s (dg (Dv d 16 % P)))) [] := by
  rcases Nat.lt_or_ge (Dv d 16) 115792089237316195423570985008687907853269984665640564039457584007913129639936 with h | h
  · exact mod16a_ d _ hd16 hb h rfl
  · exact mod16b_ d _ hd16 hb hlt h rfl
end Go.Proofs.Ytjibmonfmhdbbaa.Rn

/- What functions of the program do, walked over the abstract machine. -/
namespace Go.Proofs.Ytjibmonfmhdbbaa.Rn
open Go Go.Abs Go.Proofs

open Go.Nt Fd
/-- The digits of an element. -/
abbrev de (x : F) : List UInt64 := dg x.val
theorem de_len (x : F) : (de x).length = 16 := dg_len _
theorem F_q (x : F) : x.val < 115792089237316195423570985008687907853269984665640564039457584007913129639936 := by have := F_lt x; omega
theorem de_inj {x y : F} (h : de x = de y) : x = y := by
  have h1 := dg_v x.val (F_q x)
  have h2 := dg_v y.val (F_q y)
  have h3 : Dv (dg x.val) 16 = Dv (dg y.val) 16 := congrArg (fun l => Dv l 16) h
  exact Fin.ext (by rw [← h1, ← h2, h3])
theorem deq (x y : F) : decide (de x = de y) = decide (x = y) := decide_eq_decide.2 ⟨de_inj, fun h => h ▸ rfl⟩
/-- Bytes into digits. -/
def ofd (b : List UInt8) : Nat → List UInt64
  | 0 => List.replicate 16 0
  | i + 1 => (ofd b i).set i ((b.getD (2 * i) 0).toUInt64 + 256 * (b.getD (2 * i + 1) 0).toUInt64)
theorem ofd_len (b : List UInt8) : ∀ i, (ofd b i).length = 16
  | 0 => by simp [ofd]
  | i + 1 => by rw [ofd, List.length_set, ofd_len]
theorem two_bytes (x y : UInt8) : (x.toUInt64 + 256 * y.toUInt64).toNat = x.toNat + 256 * y.toNat := by
  have := x.toNat_lt
  have := y.toNat_lt
  rw [UInt64.toNat_add, UInt64.toNat_mul, UInt8.toNat_toUInt64, UInt8.toNat_toUInt64, show UInt64.toNat 256 = 256 from rfl]; omega
theorem ofd_spec (b : List UInt8) : ∀ i, i ≤ 16 → Bd (ofd b i) 65535 ∧ Dv (ofd b i) i = Fv (fun j => b.getD j 0) (2 * i)
  | 0, _ => ⟨fun i => by rw [ofd, rep_get]; decide, rfl⟩
  | i + 1, h => by
    obtain ⟨h1, h2⟩ := ofd_spec b i (by omega)
    have hl := ofd_len b i
    have e := two_bytes (b.getD (2 * i) 0) (b.getD (2 * i + 1) 0)
    have := (b.getD (2 * i) 0).toNat_lt
    have := (b.getD (2 * i + 1) 0).toNat_lt
    refine ⟨fun j => ?_, ?_⟩
    · rw [ofd, getD_set _ _ _ _ (by omega)]
      split
      · rw [e]; omega
      · exact h1 j
    · have hD : Dv (ofd b (i + 1)) (i + 1) = Dv (ofd b (i + 1)) i + 65536 ^ i * ((ofd b (i + 1)).getD i 0).toNat := rfl
      have hF : Fv (fun j => b.getD j 0) (2 * (i + 1)) = Fv (fun j => b.getD j 0) (2 * i) + 256 ^ (2 * i) * (b.getD (2 * i) 0).toNat + 256 ^ (2 * i + 1) * (b.getD (2 * i + 1) 0).toNat := rfl
      have g1 : (ofd b (i + 1)).getD i 0 = (b.getD (2 * i) 0).toUInt64 + 256 * (b.getD (2 * i + 1) 0).toUInt64 := by rw [ofd, getD_set _ _ _ _ (by omega), if_pos rfl]
      have g2 : Dv (ofd b (i + 1)) i = Dv (ofd b i) i := Dv_congr i fun j hj => by rw [ofd, getD_set _ _ _ _ (by omega), if_neg (by omega)]
      rw [hD, hF, g1, g2, h2, e, Nat.pow_succ, Nat.pow_mul, show (256 : Nat) ^ 2 = 65536 from rfl, Nat.mul_add, Nat.mul_assoc]
      omega
theorem ofd_dg (b : List UInt8) : ofd b 16 = dg (bv b) := by
  obtain ⟨h1, h2⟩ := ofd_spec b 16 (by decide)
  exact dg_of (ofd_len b 16) h1 h2
/-- Digits into bytes. -/
def byd (l : List UInt64) : Nat → List UInt8
  | 0 => List.replicate 32 0
  | i + 1 => ((byd l i).set (2 * i) (l.getD i 0).toUInt8).set (2 * i + 1) (shr64n (l.getD i 0) 8).toUInt8
theorem byd_len (l : List UInt64) : ∀ i, (byd l i).length = 32
  | 0 => by simp [byd]
  | i + 1 => by rw [byd, List.length_set, List.length_set, byd_len]
theorem byd_get (n : Nat) : ∀ k, k ≤ 16 → ∀ i, i < 2 * k → (byd (dg n) k).getD i 0 = UInt8.ofNat (n / 256 ^ i)
  | 0, _, i, h => by omega
  | k + 1, hk, i, h => by
    have hl := byd_len (dg n) k
    have hg := dgk_get 16 n k (by omega)
    have gs : ∀ (m : List UInt8) (a j : Nat) (x : UInt8), a < m.length → (m.set a x).getD j 0 = if a = j then x else m.getD j 0 := by
      intro m a j x ha
      simp only [List.getD_eq_getElem?_getD, List.getElem?_set]
      by_cases e : a = j
      · subst e; simp [ha]
      · simp [e]
    have e16 : (65536 : Nat) ^ k = 256 ^ (2 * k) := by rw [Nat.pow_mul]
    rw [byd, gs _ _ _ _ (by rw [List.length_set]; omega), gs _ _ _ _ (by omega)]
    split
    · rename_i e
      subst e
      apply UInt8.toNat_inj.1
      rw [UInt64.toNat_toUInt8, shr_nat _ _ (by decide), hg, UInt64.toNat_ofNat', UInt8.toNat_ofNat', show (256 : Nat) ^ (2 * k + 1) = 256 ^ (2 * k) * 256 from Nat.pow_succ .., ← Nat.div_div_eq_div_mul, e16]
      omega
    · split
      · rename_i e
        subst e
        apply UInt8.toNat_inj.1
        rw [UInt64.toNat_toUInt8, hg, UInt64.toNat_ofNat', UInt8.toNat_ofNat', e16]
        omega
      · exact byd_get n k (by omega) i (by omega)
theorem byd_by (n : Nat) : byd (dg n) 16 = by32 n := ext32 (byd_len _ _) (by32_len _) fun i hi => by rw [byd_get n 16 (by decide) i (by omega), by32_get _ _ hi]
def smd (x : UInt64) : Nat → List UInt64
  | 0 => List.replicate 16 0
  | i + 1 => (smd x i).set i (shr64n x (UInt64.ofNat (16 * i)).toNat &&& 65535)
theorem smd_len (x : UInt64) : ∀ i, (smd x i).length = 16
  | 0 => by simp [smd]
  | i + 1 => by rw [smd, List.length_set, smd_len]
theorem smd_spec (x : UInt64) : ∀ i, i ≤ 4 → Bd (smd x i) 65535 ∧ (∀ k, i ≤ k → (smd x i).getD k 0 = 0) ∧ Dv (smd x i) i = x.toNat % 65536 ^ i
  | 0, _ => ⟨fun i => by rw [smd, rep_get]; decide, fun k _ => by rw [smd, rep_get], by simp [Dv, Nat.mod_one]⟩
  | i + 1, h => by
    obtain ⟨h1, h2, h3⟩ := smd_spec x i (by omega)
    have hl := smd_len x i
    have e : (shr64n x (UInt64.ofNat (16 * i)).toNat &&& 65535).toNat = x.toNat / 65536 ^ i % 65536 := by
      rw [UInt64.toNat_and, show UInt64.toNat 65535 = 2 ^ 16 - 1 from rfl, Nat.and_two_pow_sub_one_eq_mod, UInt64.toNat_ofNat', Nat.mod_eq_of_lt (b := 2 ^ 64) (by omega), shr_nat _ _ (by omega), Nat.pow_mul]
    refine ⟨fun j => ?_, fun k hk => ?_, ?_⟩
    · rw [smd, getD_set _ _ _ _ (by omega)]
      split
      · rw [e]; omega
      · exact h1 j
    · rw [smd, getD_set _ _ _ _ (by omega), if_neg (by omega)]; exact h2 k (by omega)
    · have hD : Dv (smd x (i + 1)) (i + 1) = Dv (smd x (i + 1)) i + 65536 ^ i * ((smd x (i + 1)).getD i 0).toNat := rfl
      have g1 : (smd x (i + 1)).getD i 0 = shr64n x (UInt64.ofNat (16 * i)).toNat &&& 65535 := by rw [smd, getD_set _ _ _ _ (by omega), if_pos rfl]
      have g2 : Dv (smd x (i + 1)) i = Dv (smd x i) i := Dv_congr i fun j hj => by rw [smd, getD_set _ _ _ _ (by omega), if_neg (by omega)]
      rw [hD, g1, g2, h3, e, Nat.mod_pow_succ]
theorem smd_dg (x : UInt64) : smd x 4 = dg x.toNat := by
  obtain ⟨h1, h2, h3⟩ := smd_spec x 4 (by decide)
  refine dg_of (smd_len x 4) h1 ?_
  have hx := x.toNat_lt
  have : ∀ n, Dv (smd x 4) (4 + n) = Dv (smd x 4) 4 := by
    intro n
    induction n with
    | zero => rfl
    | succ n ih => rw [← Nat.add_assoc, Dv, ih, h2 _ (by omega)]; rfl
  rw [show (16 : Nat) = 4 + 12 from rfl, this 12, h3, Nat.mod_eq_of_lt (by rw [show (65536 : Nat) ^ 4 = 2 ^ 64 by decide]; exact hx)]
/-- p less a small number, shifted. -/
def mri (n : List UInt64) : Nat → List UInt64
  | 0 => n
  | i + 1 => if i < 15 then ((mri n i).set i ((mri n i).getD i 0 / 2)).set i (((mri n i).set i ((mri n i).getD i 0 / 2)).getD i 0 + ((mri n i).set i ((mri n i).getD i 0 / 2)).getD (i + 1) 0 % 2 * 32768) else (mri n i).set i ((mri n i).getD i 0 / 2)
def mrs (n : List UInt64) : Nat → List UInt64
  | 0 => n
  | k + 1 => mri (mrs n k) 16
def mr0 (x : UInt64) : List UInt64 := (dg P).set 0 ((dg P).getD 0 0 - x)
end Go.Proofs.Ytjibmonfmhdbbaa.Rn

/- What functions of the program do, walked over the abstract machine. -/
namespace Go.Proofs.Ytjibmonfmhdbbaa.Rn
open Go Go.Abs Go.Proofs

open Go.Nt Fd
/-- escutcheonref02.all -/
theorem all_ (l : List UInt64) (hl : l.length = 16) : Good Try.prog 49 [.a (u64s l)] [] (sc (.slc 0 0 16 1)) [some (u64s l)] := by
  refine good_frm 5 Try.func49 rfl rfl rfl rfl rfl rfl ?_
  refine awp_seq ?_
  refine rln ?_
  refine G2 (fun _ k_ => q_boxa k_) ?_
  refine As ?_
  refine gend ?_
  refine awp_seq ?_
  refine rln ?_
  refine G (q_slp_no ?_)
  refine G2 (fun _ k_ => q_app  k_ (eB := el_slc (xs := u64s l) rfl (by rw [mapc_length, hl]; decide) (cut_h hl))) ?_
  refine As ?_
  refine gend ?_
  refine awp_ret ?_
  exact fx1 [1] (hm0 := rfl) (hH := (vh1 (pick_m rfl)).symm)
/-- escutcheonref02.Of -/
theorem of_ (b : List UInt8) (hb : b.length = 32) : Good Try.prog 30 [.a (u8s b)] [] (sa (u64s (dg (bv b)))) [] := by
  rw [← ofd_dg]
  refine good_frm 25 Try.func30 rfl rfl rfl rfl rfl rfl ?_
  refine awp_seq ?_
  refine rln ?_
  refine G2 (fun _ k_ => q_boxa k_) ?_
  refine G2 (fun _ k_ => q_al k_) ?_
  refine gend ?_
  refine awp_seq ?_
  refine rln ?_
  refine G2 (fun _ k_ => q_al k_) ?_
  refine gend ?_
  refine awp_seq ?_
  refine awp_seq ?_
  refine rln ?_
  refine G (q_as (s := sc (cn 0)) ?_)
  refine gend ?_
  refine awp_block ?_
  refine awp_loop (fun x : {i : Nat // i ≤ 16} => ⟨frm 25 [(1, sc (.ptr 0 0)), (2, sc (.ptr 1 0)), (3, sc (.ptr 2 0)), (4, sc (cn x.1))], [some (u8s b), some (u64s (List.replicate 16 0)), some (u64s (ofd b x.1))]⟩) (fun x => 16 - x.1) ⟨0, Nat.zero_le _⟩ (sle_sub ⟨rfl, rfl, rfl, rfl, trivial⟩ rfl) fun x => ?_   -- live: [1, 3, 4]
  have hl := ofd_len b x.1
  refine awp_seq ?_
  refine awp_seq ?_
  refine rln ?_
  refine Mv ?_
  refine G (q_lssn (y := 16) ?_)
  refine gend ?_
  refine cnd (fun hc1 => ?_) (fun hc1 => ?_); rotate_left
  · refine awp_exit ?_
    rw [show x.1 = 16 from (by have := x.2; omega)]
    have hl := ofd_len b 16
    refine awp_seq ?_
    refine rln ?_
    refine G (q_ldw ?_)
    refine G20 (fun _ k_ => q_stw k_) ?_
    refine gend ?_
    refine awp_ret ?_
    exact fpc (t := 30) (a := 2) (hn := by exact (mapc_length ..).trans hl)
  refine awp_skip ?_
  refine awp_seq ?_
  refine awp_block ?_
  refine rdln [15] [] [0, 0, 0, 0, 0, 0, 0, 0, 0, 0, 0, 0, 0, 0, 0, 1] ?_
  refine Dp (fun _ => q_mv (s := .v (.c _)) ⟨rfl, rfl⟩) ?_
  refine Dp (fun _ => q_mv (s := .v (.c _)) ⟨rfl, rfl⟩) ?_
  refine Dp (fun _ => q_muln (x := 2) ⟨rfl, rfl⟩) ?_
  refine Dp (fun _ => q_ixp1 ⟨rfl, rfl⟩) ?_
  refine DLp ?_
  refine Dp (fun _ => q_cv8_64 ⟨rfl, rfl⟩) ?_
  refine Dp (fun _ => q_mv (s := .v (.c _)) ⟨rfl, rfl⟩) ?_
  refine Dp (fun _ => q_muln (x := 2) ⟨rfl, rfl⟩) ?_
  refine Dp (fun _ => q_addn (y := 1) ⟨rfl, rfl⟩) ?_
  refine Dp (fun _ => q_ixp1 ⟨rfl, rfl⟩) ?_
  refine DLp ?_
  refine Dp (fun _ => q_cv8_64 ⟨rfl, rfl⟩) ?_
  refine Dp (fun _ => q_mul64 (x := 256) ⟨rfl, rfl⟩) ?_
  refine Dp (fun _ => q_add64 ⟨rfl, rfl⟩) ?_
  refine Dp (fun _ => q_ixp1 ⟨rfl, rfl⟩) ?_
  refine De20 (fun _ k_ => q_stm k_) ?_
  refine dend ?_
  refine rln ?_
  refine Mv ?_
  refine G (q_addn (y := 1) ?_)
  refine As ?_
  refine gend ?_
  exact ⟨⟨x.1 + 1, by omega⟩, by show 16 - (x.1 + 1) < 16 - x.1; omega, sle_sub ⟨rfl, rfl, rfl, rfl, trivial⟩ rfl⟩   -- endloop 1
/-- escutcheonref02.Bytes -/
theorem bytes_l (L : List UInt64) (hn : L.length = 16) : Good Try.prog 41 [.a (u64s L)] [] (sa (u8s (byd L 16))) [] := by
  refine good_frm 26 Try.func41 rfl rfl rfl rfl rfl rfl ?_
  refine awp_seq ?_
  refine rln ?_
  refine G2 (fun _ k_ => q_boxa k_) ?_
  refine G2 (fun _ k_ => q_al k_) ?_
  refine gend ?_
  refine awp_seq ?_
  refine rln ?_
  refine G2 (fun _ k_ => q_al k_) ?_
  refine gend ?_
  refine awp_seq ?_
  refine awp_seq ?_
  refine rln ?_
  refine G (q_as (s := sc (cn 0)) ?_)
  refine gend ?_
  refine awp_block ?_
  refine awp_loop (fun x : {i : Nat // i ≤ 16} => ⟨frm 26 [(1, sc (.ptr 0 0)), (2, sc (.ptr 1 0)), (3, sc (.ptr 2 0)), (4, sc (cn x.1))], [some (u64s L), some (u8s (List.replicate 32 0)), some (u8s (byd L x.1))]⟩) (fun x => 16 - x.1) ⟨0, Nat.zero_le _⟩ (sle_sub ⟨rfl, rfl, rfl, rfl, trivial⟩ rfl) fun x => ?_   -- live: [1, 3, 4]
  have hl := byd_len L x.1
  refine awp_seq ?_
  refine awp_seq ?_
  refine rln ?_
  refine Mv ?_
  refine G (q_lssn (y := 16) ?_)
  refine gend ?_
  refine cnd (fun hc1 => ?_) (fun hc1 => ?_); rotate_left
  · refine awp_exit ?_
    rw [show x.1 = 16 from (by have := x.2; omega)]
    have hl := byd_len L 16
    refine awp_seq ?_
    refine rln ?_
    refine G (q_ldw ?_)
    refine G20 (fun _ k_ => q_stw k_) ?_
    refine gend ?_
    refine awp_ret ?_
    exact fpc (t := 23) (a := 2) (hn := by exact (mapc_length ..).trans hl)
  refine awp_skip ?_
  refine awp_seq ?_
  refine awp_block ?_
  refine rdln [15, 17] [0, 0, 0, 0, 0, 0, 0, 0, 0, 0, 0, 0, 0, 0, 0, 0, 1, 1] [0, 0, 1, 1, 1, 0, 0, 0, 0, 1, 1, 1, 1, 1, 0, 1, 1, 2] ?_
  refine Dp (fun _ => q_mv (s := .v (.c _)) ⟨rfl, rfl⟩) ?_
  refine Dp (fun _ => q_muln (x := 2) ⟨rfl, rfl⟩) ?_
  refine Dp (fun _ => q_mv (s := .v (.c _)) ⟨rfl, rfl⟩) ?_
  refine Dp (fun _ => q_muln (x := 2) ⟨rfl, rfl⟩) ?_
  refine Dp (fun _ => q_addn (y := 1) ⟨rfl, rfl⟩) ?_
  refine Dp (fun _ => q_mv (s := .v (.c _)) ⟨rfl, rfl⟩) ?_
  refine Dp (fun _ => q_ixp1 ⟨rfl, rfl⟩) ?_
  refine DLp ?_
  refine Dp (fun _ => q_cv64_8 ⟨rfl, rfl⟩) ?_
  refine Dp (fun _ => q_mv (s := .v (.c _)) ⟨rfl, rfl⟩) ?_
  refine Dp (fun _ => q_ixp1 ⟨rfl, rfl⟩) ?_
  refine DLp ?_
  refine Dp (fun _ => q_shr64_64 (n := 8) ⟨rfl, rfl⟩) ?_
  refine Dp (fun _ => q_cv64_8 ⟨rfl, rfl⟩) ?_
  refine Dp (fun _ => q_ixp1 ⟨rfl, rfl⟩) ?_
  refine De20 (fun _ k_ => q_stm k_) ?_
  refine Dp (fun _ => q_ixp1 ⟨rfl, rfl⟩) ?_
  refine De20 (fun _ k_ => q_stm k_) ?_
  refine dend ?_
  refine rln ?_
  refine Mv ?_
  refine G (q_addn (y := 1) ?_)
  refine As ?_
  refine gend ?_
  exact ⟨⟨x.1 + 1, by omega⟩, by show 16 - (x.1 + 1) < 16 - x.1; omega, sle_sub ⟨rfl, rfl, rfl, rfl, trivial⟩ rfl⟩   -- endloop 1
theorem bytes_ (n : Nat) : Good Try.prog 41 [.a (u64s (dg n))] [] (sa (u8s (by32 n))) [] := by
  have := bytes_l (dg n) (dg_len n)
  rwa [byd_by] at this
/-- escutcheonref02.Small -/
theorem small_ (x : UInt64) : Good Try.prog 32 [.c (c64 x)] [] (sa (u64s (dg x.toNat))) [] := by
  rw [← smd_dg]
  refine good_frm 18 Try.func32 rfl rfl rfl rfl rfl rfl ?_
  refine awp_seq ?_
  refine rln ?_
  refine G2 (fun _ k_ => q_al k_) ?_
  refine gend ?_
  refine awp_seq ?_
  refine rln ?_
  refine G2 (fun _ k_ => q_al k_) ?_
  refine gend ?_
  refine awp_seq ?_
  refine awp_seq ?_
  refine rln ?_
  refine G (q_as (s := sc (cn 0)) ?_)
  refine gend ?_
  refine awp_block ?_
  refine awp_loop (fun i : {i : Nat // i ≤ 4} => ⟨frm 18 [(0, sc (c64 x)), (2, sc (.ptr 0 0)), (3, sc (.ptr 1 0)), (4, sc (cn i.1))], [some (u64s (List.replicate 16 0)), some (u64s (smd x i.1))]⟩) (fun i => 4 - i.1) ⟨0, Nat.zero_le _⟩ (sle_sub ⟨rfl, rfl, rfl, rfl, trivial⟩ rfl) fun i => ?_   -- live: [0, 3, 4]
  have hl := smd_len x i.1
  refine awp_seq ?_
  refine awp_seq ?_
  refine rln ?_
  refine Mv ?_
  refine G (q_lssn (y := 4) ?_)
  refine gend ?_
  refine cnd (fun hc1 => ?_) (fun hc1 => ?_); rotate_left
  · refine awp_exit ?_
    rw [show i.1 = 4 from (by have := i.2; omega)]
    have hl := smd_len x 4
    refine awp_seq ?_
    refine rln ?_
    refine G (q_ldw ?_)
    refine G20 (fun _ k_ => q_stw k_) ?_
    refine gend ?_
    refine awp_ret ?_
    exact fpc (t := 30) (a := 2) (hn := by exact (mapc_length ..).trans hl)
  refine awp_skip ?_
  refine awp_seq ?_
  refine awp_block ?_
  refine rln ?_
  refine Mv ?_
  refine Mv ?_
  refine Mv ?_
  refine G (q_muln (x := 16) ?_)
  refine G (q_cv0_64 ?_)
  refine G (q_shr64_64 ?_)
  refine G (q_and64 (y := 65535) ?_)
  refine G (q_ixp1 ?_)
  refine G20 (fun _ k_ => q_stm k_) ?_
  refine gend ?_
  refine rln ?_
  refine Mv ?_
  refine G (q_addn (y := 1) ?_)
  refine As ?_
  refine gend ?_
  exact ⟨⟨i.1 + 1, by omega⟩, by show 4 - (i.1 + 1) < 4 - i.1; omega, sle_sub ⟨rfl, rfl, rfl, rfl, trivial⟩ rfl⟩   -- endloop 1
set_option maxHeartbeats 800000 in
/-- escutcheonref02.Add -/
theorem add_ (m n : Nat) (hm : m < 115792089237316195423570985008687907853269984665640564039457584007913129639936) (hn : n < 115792089237316195423570985008687907853269984665640564039457584007913129639936) : Good Try.prog 14 [.a (u64s (dg m)), .a (u64s (dg n))] [] (sa (u64s (dg ((m + n) % P)))) [] := by
  obtain ⟨b1, b2⟩ := sml_spec (dgk_bd 16 m) (dgk_bd 16 n)
  rw [dg_v m hm, dg_v n hn] at b2
  have gM := mod16_ (sml (dg m) (dg n) 16) (sml_len ..) (b1.mono (by decide)) (by rw [b2, show (65536 : Nat) ^ 17 = 65536 * 115792089237316195423570985008687907853269984665640564039457584007913129639936 by decide]; omega)
  rw [b2] at gM
  have hA := dg_len m
  have hB := dg_len n
  have hR := dg_len ((m + n) % P)
  generalize dg ((m + n) % P) = R at gM hR ⊢
  generalize dg m = A at hA gM ⊢
  generalize dg n = B at hB gM ⊢
  refine good_frm 23 Try.func14 rfl rfl rfl rfl rfl rfl ?_
  refine awp_seq ?_
  refine rln ?_
  refine G2 (fun _ k_ => q_boxa k_) ?_
  refine G2 (fun _ k_ => q_boxa k_) ?_
  refine G2 (fun _ k_ => q_al k_) ?_
  refine gend ?_
  refine awp_seq ?_
  refine rln ?_
  refine As ?_
  refine gend ?_
  refine awp_seq ?_
  refine awp_seq ?_
  refine rln ?_
  refine G (q_as (s := sc (cn 0)) ?_)
  refine gend ?_
  refine awp_block ?_
  refine awp_loop (fun i : {i : Nat // i ≤ 16} => ⟨frm 23 [(2, sc (.ptr 0 0)), (3, sc (.ptr 1 0)), (4, sc (.ptr 2 0)), (5, sc (.slc 3 0 i.1 1)), (6, sc (cn i.1))], [some (u64s A), some (u64s B), some (u64s (List.replicate 16 0)), some (u64s (sml A B i.1))]⟩) (fun i => 16 - i.1) ⟨0, Nat.zero_le _⟩ (sle_empty 1 (Nat.zero_le _) ⟨.inl rfl, .inl rfl, .inl rfl, .inr ⟨rfl, rfl⟩, .inl rfl, trivial⟩) fun i => ?_   -- live: [2, 3, 5, 6]
  have hl := sml_len A B i.1
  refine awp_seq ?_
  refine awp_seq ?_
  refine rln ?_
  refine Mv ?_
  refine G (q_lssn (y := 16) ?_)
  refine gend ?_
  refine cnd (fun hc1 => ?_) (fun hc1 => ?_); rotate_left
  · refine awp_exit ?_
    rw [show i.1 = 16 from (by have := i.2; omega)]
    have hl := sml_len A B 16
    refine awp_seq ?_
    refine rln ?_
    refine Mv ?_
    refine G2 (fun _ k_ => q_callp (gM) k_ (ha := (cac (et rfl) (sees_slc rfl rfl (cut_h hl)) ca0))) ?_
    refine G20 (fun _ k_ => q_stw k_) ?_
    refine gend ?_
    refine awp_ret ?_
    exact fpc (t := 30) (a := 4) (hn := by exact (mapc_length ..).trans hR)
  refine awp_skip ?_
  refine awp_seq ?_
  refine awp_block ?_
  refine rdln [8, 9] [0, 0, 0, 0, 0, 0, 0, 0, 0, 1, 2] [1, 0, 0, 0, 0, 0, 0, 0, 1, 2, 2] ?_
  refine Dp (fun _ => q_mv (s := .v (.c _)) ⟨rfl, rfl⟩) ?_
  refine Dp (fun _ => q_mv (s := .v (.c _)) ⟨rfl, rfl⟩) ?_
  refine Dp (fun _ => q_ixp1 ⟨rfl, rfl⟩) ?_
  refine DLp ?_
  refine Dp (fun _ => q_mv (s := .v (.c _)) ⟨rfl, rfl⟩) ?_
  refine Dp (fun _ => q_ixp1 ⟨rfl, rfl⟩) ?_
  refine DLp ?_
  refine Dp (fun _ => q_add64 ⟨rfl, rfl⟩) ?_
  refine De2 (fun _ k_ => q_bsl (fkc rfl (et rfl) rfl (Nat.le_of_ble_eq_true rfl) (fk0 k_))) ?_
  refine De2 (fun _ k_ => q_app  k_ (eA := el_slc (xs := u64s (sml A B i.1)) rfl (by rw [mapc_length]; omega) (cut_h hl)) (eB := el_slc (xs := [_]) rfl (Nat.le_refl 1) rfl)) ?_
  refine Dp (fun _ => q_as (s := .v (.c _)) ⟨rfl, rfl⟩) ?_
  refine dend ?_
  refine rln ?_
  refine Mv ?_
  refine G (q_addn (y := 1) ?_)
  refine As ?_
  refine gend ?_
  exact ⟨⟨i.1 + 1, by omega⟩, by show 16 - (i.1 + 1) < 16 - i.1; omega, sle_view [0, 1, 2, 5] (fun p h => absurd h (Nat.not_lt_zero _)) (by decide) ⟨rfl, rfl, rfl, rfl, rfl, trivial⟩ (vh4 (pick_m rfl) (pick_m rfl) (pick_m rfl) (pick_m (congrArg (fun z => some (some z)) ((app1 _ _).trans (congrArg u64s (sml_succ A B i.1))))))⟩   -- endloop 1
set_option maxHeartbeats 800000 in
/-- escutcheonref02.Neg -/
theorem neg_ (x : F) : Good Try.prog 21 [.a (u64s (de x))] [] (sa (u64s (de (-x)))) [] := by
  have hx := F_lt x
  have hv := dg_v x.val (F_q x)
  have bx : Bd (dg x.val) 9223372036854775808 := (dgk_bd 16 x.val).mono (by decide)
  have g1 := mod16_ (dg x.val) (dg_len _) bx (by rw [hv, show (65536 : Nat) ^ 17 = 65536 * 115792089237316195423570985008687907853269984665640564039457584007913129639936 by decide]; omega)
  rw [hv, Nat.mod_eq_of_lt x.isLt] at g1
  have g2 := minus_ P x.val (by decide) (Nat.le_of_lt x.isLt)
  have g3 := all_ (dg (P - x.val)) (dg_len _)
  have hP := P_val
  have hv2 := dg_v (P - x.val) (by omega)
  have g4 := mod16_ (dg (P - x.val)) (dg_len _) ((dgk_bd 16 _).mono (by decide)) (by rw [hv2, show (65536 : Nat) ^ 17 = 65536 * 115792089237316195423570985008687907853269984665640564039457584007913129639936 by decide]; omega)
  rw [hv2] at g4
  rw [show de (-x) = dg ((P - x.val) % P) from rfl]
  have hA : (dg x.val).length = 16 := dg_len _
  have hB := dg_len (P - x.val)
  have hC := dg_len ((P - x.val) % P)
  generalize dg ((P - x.val) % P) = C at g4 hC ⊢
  generalize dg (P - x.val) = B at g2 g3 g4 hB
  have hA' : (de x).length = 16 := hA
  refine good_frm 10 Try.func21 rfl rfl rfl rfl rfl rfl ?_
  refine awp_seq ?_
  refine rln ?_
  refine G2 (fun _ k_ => q_boxa k_) ?_
  refine G2 (fun _ k_ => q_al k_) ?_
  refine gend ?_
  refine awp_seq ?_
  refine rln ?_
  refine G (q_slp_no ?_)
  refine G2 (fun _ k_ => q_callp (g1) k_ (ha := (cac (et rfl) (sees_slc rfl rfl (cut_h hA)) ca0))) ?_
  refine G20 (fun _ k_ => q_stw k_) ?_
  refine gend ?_
  refine awp_seq ?_
  refine rdln [0, 2, 3, 4, 5] [0, 0, 1, 2, 3, 4] [1, 1, 2, 3, 4, 5] ?_
  refine De2 (fun _ k_ => q_callp (prime_) k_) ?_
  refine DLw ?_
  refine De2 (fun _ k_ => q_callp (g2) k_) ?_
  refine De2 (fun _ k_ => q_calln g3 k_) ?_
  refine De2 (fun _ k_ => q_callp (g4) k_ (ha := (cac (et rfl) (sees_slc rfl rfl (cut_h hB)) ca0))) ?_
  refine De20 (fun _ k_ => q_stw k_) ?_
  refine dend ?_
  refine awp_ret ?_
  exact fpc (t := 30) (a := 2) (hn := by exact (mapc_length ..).trans hC)
theorem add_e (x y : F) : Good Try.prog 14 [.a (u64s (de x)), .a (u64s (de y))] [] (sa (u64s (de (x + y)))) [] := by
  have := add_ x.val y.val (F_q x) (F_q y)
  rwa [← Fin.val_add] at this
/-- escutcheonref02.Sub -/
theorem sub_e (x y : F) : Good Try.prog 16 [.a (u64s (de x)), .a (u64s (de y))] [] (sa (u64s (de (x - y)))) [] := by
  rw [show x - y = x + -y by grind]
  have hx := de_len x
  have hy := de_len y
  have hz := de_len (x + -y)
  refine good_frm 9 Try.func16 rfl rfl rfl rfl rfl rfl ?_
  refine awp_seq ?_
  refine rln ?_
  refine G2 (fun _ k_ => q_boxa k_) ?_
  refine G2 (fun _ k_ => q_boxa k_) ?_
  refine G2 (fun _ k_ => q_al k_) ?_
  refine gend ?_
  refine awp_seq ?_
  refine rdln [2, 3, 4] [0, 0, 0, 1, 2] [1, 0, 1, 2, 3] ?_
  refine DLw ?_
  refine DLw ?_
  refine De2 (fun _ k_ => q_callp (neg_ y) k_) ?_
  refine De2 (fun _ k_ => q_callp (add_e x (-y)) k_) ?_
  refine De20 (fun _ k_ => q_stw k_) ?_
  refine dend ?_
  refine awp_ret ?_
  exact fpc (t := 30) (a := 4) (hn := by exact (mapc_length ..).trans hz)
set_option maxHeartbeats 800000 in
/-- escutcheonref02.Mul -/
theorem mul_ (m n : Nat) (hm : m < 115792089237316195423570985008687907853269984665640564039457584007913129639936) (hn : n < 115792089237316195423570985008687907853269984665640564039457584007913129639936) : Good Try.prog 18 [.a (u64s (dg m)), .a (u64s (dg n))] [] (sa (u64s (dg (m * n % P)))) [] := by
  obtain ⟨p1, p2, p3, p4, p5⟩ := prod_ok hm hn
  have gC := car_ (pout (dg m) (dg n) 16) 31 (pout_len ..) (by decide) p1 p2
  have gM := modL_ (carL (pout (dg m) (dg n) 16)) (m * n % P) p3 p4 (by rw [p5])
  have hA := dg_len m
  have hB := dg_len n
  have hbA : Bd (dg m) 65535 := dgk_bd 16 m
  have hR := dg_len (m * n % P)
  generalize dg (m * n % P) = R at gM hR ⊢
  generalize dg m = A at hA gM gC p4 ⊢
  generalize dg n = B at hB gM gC p4 ⊢
  refine good_frm 39 Try.func18 rfl rfl rfl rfl rfl rfl ?_
  refine awp_seq ?_
  refine rln ?_
  refine G2 (fun _ k_ => q_boxa k_) ?_
  refine G2 (fun _ k_ => q_boxa k_) ?_
  refine G2 (fun _ k_ => q_al k_) ?_
  refine gend ?_
  refine awp_seq ?_
  refine rln ?_
  refine G2 (fun _ k_ => q_mks k_) ?_
  refine As ?_
  refine gend ?_
  refine awp_seq ?_
  refine awp_seq ?_
  refine rln ?_
  refine G (q_as (s := sc (cn 0)) ?_)
  refine gend ?_
  refine awp_block ?_
  refine awp_loop (fun i : {i : Nat // i ≤ 16} => ⟨frm 39 [(2, sc (.ptr 0 0)), (3, sc (.ptr 1 0)), (4, sc (.ptr 2 0)), (5, sc (.slc 3 0 31 1)), (6, sc (cn i.1))], [some (u64s A), some (u64s B), some (u64s (List.replicate 16 0)), some (u64s (pout A B i.1))]⟩) (fun i => 16 - i.1) ⟨0, Nat.zero_le _⟩ (sle_sub ⟨rfl, rfl, rfl, rfl, rfl, trivial⟩ (by rw [show pout A B 0 = List.replicate 31 0 from rfl, ← rep31])) fun i => ?_   -- live: [2, 3, 5, 6]
  have hl := pout_len A B i.1
  refine awp_seq ?_
  refine awp_seq ?_
  refine rln ?_
  refine Mv ?_
  refine G (q_lssn (y := 16) ?_)
  refine gend ?_
  refine cnd (fun hc1 => ?_) (fun hc1 => ?_); rotate_left
  · refine awp_exit ?_
    rw [show i.1 = 16 from (by have := i.2; omega)]
    have hl := pout_len A B 16
    generalize hW : pout A B 16 = W at hl gC gM p4 ⊢
    generalize hC : carL W = C at gC gM p4
    refine awp_seq ?_
    refine rln ?_
    refine Mv ?_
    refine G2 (fun _ k_ => q_callv [3] [none] [some (u64s C)] (gC) k_ (ha := (cac (et rfl) rfl ca0)) (e2 := pl1 rfl sees_m pl0) (eL := mln ml0) (eM := (ml1 sees_m ml0)) (e3 := rfl)) ?_
    refine G2 (fun _ k_ => q_callv [4] [none] [] (gM) k_ (ha := (cac (et rfl) rfl ca0)) (e2 := pl1 rfl sees_m pl0) (eL := mln ml0) (eM := ml0) (e3 := rs_m)) ?_
    refine G20 (fun _ k_ => q_stw k_) ?_
    refine gend ?_
    refine awp_ret ?_
    exact fpc (t := 30) (a := 4) (hn := by exact (mapc_length ..).trans hR)
  refine awp_skip ?_
  refine awp_seq ?_
  refine awp_block ?_
  refine awp_seq ?_
  refine rln ?_
  refine G (q_as (s := sc (cn 0)) ?_)
  refine gend ?_
  refine awp_block ?_
  refine awp_loop (fun k : {i : Nat // i ≤ 16} => ⟨frm 39 [(2, sc (.ptr 0 0)), (3, sc (.ptr 1 0)), (4, sc (.ptr 2 0)), (5, sc (.slc 3 0 31 1)), (6, sc (cn i.1)), (7, sc (cn k.1))], [some (u64s A), some (u64s B), some (u64s (List.replicate 16 0)), some (u64s (pin A B i.1 (pout A B i.1) k.1))]⟩) (fun k => 16 - k.1) ⟨0, Nat.zero_le _⟩ (sle_sub ⟨rfl, rfl, rfl, rfl, rfl, rfl, trivial⟩ rfl) fun k => ?_   -- live: [2, 3, 5, 6, 7]
  have hl2 := (pin_len A B i.1 (pout A B i.1) k.1).trans hl
  refine awp_seq ?_
  refine awp_seq ?_
  refine rln ?_
  refine Mv ?_
  refine G (q_lssn (y := 16) ?_)
  refine gend ?_
  refine cnd (fun hc2 => ?_) (fun hc2 => ?_); rotate_left
  · refine awp_exit ?_
    rw [show k.1 = 16 from (by have := k.2; omega)]
    refine rln ?_
    refine Mv ?_
    refine G (q_addn (y := 1) ?_)
    refine As ?_
    refine gend ?_
    exact ⟨⟨i.1 + 1, by omega⟩, by show 16 - (i.1 + 1) < 16 - i.1; omega, sle_sub ⟨rfl, rfl, rfl, rfl, rfl, trivial⟩ rfl⟩   -- endloop 1
  refine awp_skip ?_
  refine awp_seq ?_
  refine awp_block ?_
  refine rdln [19] [] [0, 0, 0, 0, 0, 0, 0, 0, 0, 0, 0, 0, 0, 0, 0, 0, 0, 0, 0, 1] ?_
  refine Dp (fun _ => q_mv (s := .v (.c _)) ⟨rfl, rfl⟩) ?_
  refine Dp (fun _ => q_mv (s := .v (.c _)) ⟨rfl, rfl⟩) ?_
  refine Dp (fun _ => q_mv (s := .v (.c _)) ⟨rfl, rfl⟩) ?_
  refine Dp (fun _ => q_addn ⟨rfl, rfl⟩) ?_
  refine Dp (fun _ => q_mv (s := .v (.c _)) ⟨rfl, rfl⟩) ?_
  refine Dp (fun _ => q_mv (s := .v (.c _)) ⟨rfl, rfl⟩) ?_
  refine Dp (fun _ => q_mv (s := .v (.c _)) ⟨rfl, rfl⟩) ?_
  refine Dp (fun _ => q_addn ⟨rfl, rfl⟩) ?_
  refine Dp (fun _ => q_ixs1 ⟨rfl, rfl⟩) ?_
  refine DLp ?_
  refine Dp (fun _ => q_mv (s := .v (.c _)) ⟨rfl, rfl⟩) ?_
  refine Dp (fun _ => q_ixp1 ⟨rfl, rfl⟩) ?_
  refine DLp ?_
  refine Dp (fun _ => q_mv (s := .v (.c _)) ⟨rfl, rfl⟩) ?_
  refine Dp (fun _ => q_ixp1 ⟨rfl, rfl⟩) ?_
  refine DLp ?_
  refine Dp (fun _ => q_mul64 ⟨rfl, rfl⟩) ?_
  refine Dp (fun _ => q_add64 ⟨rfl, rfl⟩) ?_
  refine Dp (fun _ => q_ixs1 ⟨rfl, rfl⟩) ?_
  refine De20 (fun _ k_ => q_stm k_) ?_
  refine dend ?_
  refine rln ?_
  refine Mv ?_
  refine G (q_addn (y := 1) ?_)
  refine As ?_
  refine gend ?_
  exact ⟨⟨k.1 + 1, by omega⟩, by show 16 - (k.1 + 1) < 16 - k.1; omega, sle_sub ⟨rfl, rfl, rfl, rfl, rfl, rfl, trivial⟩ rfl⟩   -- endloop 2
theorem mul_e (x y : F) : Good Try.prog 18 [.a (u64s (de x)), .a (u64s (de y))] [] (sa (u64s (de (x * y)))) [] := by
  have := mul_ x.val y.val (F_q x) (F_q y)
  rwa [← Fin.val_mul] at this
theorem small_1 : Good Try.prog 32 [.c (c64 1)] [] (sa (u64s (de 1))) [] := small_ 1
theorem small_2 : Good Try.prog 32 [.c (c64 2)] [] (sa (u64s (de 2))) [] := small_ 2
end Go.Proofs.Ytjibmonfmhdbbaa.Rn

/- What functions of the program do, walked over the abstract machine. -/
namespace Go.Proofs.Ytjibmonfmhdbbaa.Fl
open Go Go.Abs Go.Proofs Go.Proofs.Ytjibmonfmhdbbaa.Fd Go.Proofs.Ytjibmonfmhdbbaa.Rn

open Go.Nt Fd Rn
/-- escutcheonlaw02.is -/
theorem is_ (x y : F) : Good Try.prog 12 [.a (u64s (el x)), .a (u64s (de y))] [] (sc (.bool (decide (x = y)))) [] := by
  have hx := by32_len x.val
  have hy := by32_len y.val
  refine good_frm 10 Try.func12 rfl rfl rfl rfl rfl rfl ?_
  refine awp_seq ?_
  refine rln ?_
  refine G2 (fun _ k_ => q_boxa k_) ?_
  refine G2 (fun _ k_ => q_boxa k_) ?_
  refine As ?_
  refine gend ?_
  refine awp_seq ?_
  refine rdln [1, 3] [0, 0, 0, 1, 2, 2] [0, 1, 1, 2, 2, 2] ?_
  refine DLw ?_
  refine De2 (fun _ k_ => q_callp (bytes_e x) k_) ?_
  refine DLw ?_
  refine De2 (fun _ k_ => q_callp (Rn.bytes_ y.val) k_) ?_
  refine Dp (fun _ => q_eqa8 ⟨rfl, rfl⟩) ?_
  refine Dp (fun _ => q_as (s := .v (.c _)) ⟨rfl, rfl⟩) ?_
  refine dend ?_
  refine awp_ret ?_
  exact fp1 (hv := congrArg (fun b => sc (.bool b)) (decide_eq_decide.2 ⟨fun h => h ▸ rfl, fun h => bye_inj h⟩))
theorem eq_t (x y : F) (h : x = y) : Good Try.prog 28 [.a (u64s (el x)), .a (u64s (el y))] [] (sc (.bool true)) [] := by
  have := equal_e x y
  rwa [decide_eq_true h] at this
theorem eq_f (x y : F) (h : x ≠ y) : Good Try.prog 28 [.a (u64s (el x)), .a (u64s (el y))] [] (sc (.bool false)) [] := by
  have := equal_e x y
  rwa [decide_eq_false h] at this
theorem kn1 : (2 : F) ≠ 0 := by decide
theorem kn_2 : inv 2 * 4 = 2 := by
  have h := mul_inv kn1
  grind
theorem kb : bye (0 - 1 : F) = 236 :: (List.replicate 30 255 ++ [127]) := by decide +kernel
theorem small_4 : Good Try.prog 27 [.c (c64 4)] [] (sa (u64s (el 4))) [] := small_e 4
set_option maxHeartbeats 800000 in
/-- escutcheonlaw02.known -/
theorem known_ : Good Try.prog 22 [] [] (sc (.bool true)) [] := by
  have hk2 := kn_2
  have hkb := kb
  have gB := bytes_e (0 - 1)
  rw [hkb] at gB
  refine good_frm 32 Try.func22 rfl rfl rfl rfl rfl rfl ?_
  refine awp_seq ?_
  refine rln ?_
  refine As ?_
  refine gend ?_
  refine awp_seq ?_
  refine rln ?_
  refine G2 (fun _ k_ => q_callp (small_0) k_ (ha := (cac rfl cm_int ca0))) ?_
  refine G2 (fun _ k_ => q_callp (small_1) k_ (ha := (cac rfl cm_int ca0))) ?_
  refine G2 (fun _ k_ => q_callp (sub_e 0 1) k_) ?_
  refine G2 (fun _ k_ => q_callp (gB) k_) ?_
  refine G2 (fun _ k_ => q_al k_) ?_
  refine G20 (fun _ k_ => q_stw k_) ?_
  refine gend ?_
  refine awp_seq ?_
  refine rln ?_
  refine G2 (fun _ k_ => q_callp (small_2) k_ (ha := (cac rfl cm_int ca0))) ?_
  refine G2 (fun _ k_ => q_callp (inv_e 2) k_) ?_
  refine G2 (fun _ k_ => q_callp (small_4) k_ (ha := (cac rfl cm_int ca0))) ?_
  refine G2 (fun _ k_ => q_callp (mul_e (inv 2) 4) k_) ?_
  refine G2 (fun _ k_ => q_callp (small_2) k_ (ha := (cac rfl cm_int ca0))) ?_
  refine G2 (fun _ k_ => q_callp (eq_t _ _ hk2) k_) ?_
  refine Mv ?_
  refine Gg (q_ixp1 ?_)
  refine Gg (q_ldp ?_)
  refine Gg (q_eql8 (y := 236) ?_)
  refine G (q_pkt ?_)
  refine Mv ?_
  refine Aknd 17 (fun hb12 => ?_) ?_; rotate_left
  · exact rfl
  refine Gg (q_ixp1 ?_)
  refine Gg (q_ldp ?_)
  refine Gg (q_eql8 (y := 255) ?_)
  refine G (q_pkt ?_)
  refine Mv ?_
  refine Aknd 22 (fun hb17 => ?_) ?_; rotate_left
  · exact rfl
  refine Gg (q_ixp1 ?_)
  refine Gg (q_ldp ?_)
  refine Gg (q_eql8 (y := 255) ?_)
  refine G (q_pkt ?_)
  refine Mv ?_
  refine Aknd 27 (fun hb22 => ?_) ?_; rotate_left
  · exact rfl
  refine Gg (q_ixp1 ?_)
  refine Gg (q_ldp ?_)
  refine Gg (q_eql8 (y := 127) ?_)
  refine G (q_pkt ?_)
  refine As ?_
  refine gend ?_
  refine awp_ret ?_
  exact fp1
end Go.Proofs.Ytjibmonfmhdbbaa.Fl

/- What functions of the program do, walked over the abstract machine. -/
namespace Go.Proofs.Ytjibmonfmhdbbaa.Rn
open Go Go.Abs Go.Proofs

open Go.Nt Fd
end Go.Proofs.Ytjibmonfmhdbbaa.Rn

/- What functions of the program do, walked over the abstract machine. -/
namespace Go.Proofs.Ytjibmonfmhdbbaa.Fd
open Go Go.Abs Go.Proofs

open Go.Nt
/-- The even one of two opposite numbers. -/
def evn (x : F) : F := if decide (x.val % 2 = 1) then -x else x
theorem evn_sq (x : F) : evn x * evn x = x * x := by
  unfold evn; split
  · grind
  · rfl
theorem evn_zero : evn 0 = 0 := by decide
theorem exp_r : Good Try.prog 51 [.c (ci 3), .c (cn 3)] [] (sa (u8s (by32 ((P + 3) / 8)))) [] := by
  have := exponent_ 3 3 (by decide)
  rwa [show byl (xsh (xp 3) 3) 32 = by32 ((P + 3) / 8) by decide +kernel] at this
theorem exp_i : Good Try.prog 51 [.c (ci (-1)), .c (cn 2)] [] (sa (u8s (by32 ((P - 1) / 4)))) [] := by
  have := exponent_ (-1) 2 (by decide)
  rwa [show byl (xsh (xp (-1)) 2) 32 = by32 ((P - 1) / 4) by decide +kernel] at this
theorem pow_r (q : F) : Good Try.prog 25 [.a (u64s (el q)), .a (u8s (by32 ((P + 3) / 8)))] [] (sa (u64s (el (cand q)))) [] := by
  have := power_e q (by32 ((P + 3) / 8)) (by32_len _)
  rwa [bv_by32 _ (by decide +kernel)] at this
theorem pow_i : Good Try.prog 25 [.a (u64s (el 2)), .a (u8s (by32 ((P - 1) / 4)))] [] (sa (u64s (el im))) [] := by
  have := power_e 2 (by32 ((P - 1) / 4)) (by32_len _)
  rwa [bv_by32 _ (by decide +kernel)] at this
theorem eq_t (x y : F) (h : x = y) : Good Try.prog 28 [.a (u64s (el x)), .a (u64s (el y))] [] (sc (.bool true)) [] := by
  have := equal_e x y
  rwa [decide_eq_true h] at this
theorem eq_f (x y : F) (h : x ≠ y) : Good Try.prog 28 [.a (u64s (el x)), .a (u64s (el y))] [] (sc (.bool false)) [] := by
  have := equal_e x y
  rwa [decide_eq_false h] at this
set_option maxHeartbeats 1600000 in
/-- field.Root -/
theorem root_a (u v q x : F) (hq : u * inv v = q) (hx : cand q = x) (h : v * (x * x) = u) : Good Try.prog 38 [.a (u64s (el u)), .a (u64s (el v))] [] (.t [.a (u64s (el (evn x))), .c (.bool true)]) [] := by
  have gE := exp_r
  have gP := pow_r q
  rw [hx] at gP
  have hEl := by32_len ((P + 3) / 8)
  generalize by32 ((P + 3) / 8) = E at gE gP hEl
  have gI := exp_i
  have gQ := pow_i
  have hIl := by32_len ((P - 1) / 4)
  generalize by32 ((P - 1) / 4) = I at gI gQ hIl
  refine good_frm 41 Try.func38 rfl rfl rfl rfl rfl rfl ?_
  refine awp_seq ?_
  refine rln ?_
  refine G2 (fun _ k_ => q_boxa k_) ?_
  refine G2 (fun _ k_ => q_boxa k_) ?_
  refine G2 (fun _ k_ => q_al k_) ?_
  refine As ?_
  refine gend ?_
  refine awp_mid ⟨frm 41 [(2, sc (.ptr 0 0)), (3, sc (.ptr 1 0)), (4, sc (.ptr 2 0)), (6, sc (.ptr 3 0))], [some (u64s (el u)), some (u64s (el v)), some (u64s (List.replicate 4 0)), some (u64s (el q))]⟩ ?_ ?_
  · refine rdm [2, 3, 4, 5] [⟨[0, 1, 2, 3, 4, 5], [2, 3, 4, 5], [2, 3, 4, 5], [0, 0, 0, 1, 2, 3], [1, 0, 1, 2, 3, 4]⟩, ⟨[0, 1, 2, 4, 3, 5], [2, 4, 3, 5], [2, 3, 4, 5], [0, 0, 0, 1, 2, 3], [2, 0, 1, 2, 3, 4]⟩, ⟨[0, 1, 4, 2, 3, 5], [4, 2, 3, 5], [2, 3, 4, 5], [0, 0, 0, 1, 2, 3], [2, 1, 1, 2, 3, 4]⟩] ⟨?_, ?_, ?_, trivial⟩   -- region 1
    · refine DLw ?_
      refine DLw ?_
      refine De2 (fun _ k_ => q_callp (inv_e v) k_) ?_
      refine De2 (fun _ k_ => q_callp (hq ▸ mul_e u (inv v)) k_) ?_
      refine De2 (fun _ k_ => q_al k_) ?_
      refine De20 (fun _ k_ => q_stw k_) ?_
      refine dend ?_
      exact sle_sub ⟨rfl, rfl, rfl, rfl, trivial⟩ rfl
    · refine DLw ?_
      refine DLw ?_
      refine De2 (fun _ k_ => q_callp (inv_e v) k_) ?_
      refine De2 (fun _ k_ => q_al k_) ?_
      refine De2 (fun _ k_ => q_callp (hq ▸ mul_e u (inv v)) k_) ?_
      refine De20 (fun _ k_ => q_stw k_) ?_
      refine dend ?_
      exact sle_sub ⟨rfl, rfl, rfl, rfl, trivial⟩ rfl
    refine DLw ?_
    refine DLw ?_
    refine De2 (fun _ k_ => q_al k_) ?_
    refine De2 (fun _ k_ => q_callp (inv_e v) k_) ?_
    refine De2 (fun _ k_ => q_callp (hq ▸ mul_e u (inv v)) k_) ?_
    refine De20 (fun _ k_ => q_stw k_) ?_
    refine dend ?_
    exact sle_sub ⟨rfl, rfl, rfl, rfl, trivial⟩ rfl
  refine awp_mid ⟨frm 41 [(2, sc (.ptr 0 0)), (3, sc (.ptr 1 0)), (4, sc (.ptr 2 0)), (7, sc (.ptr 4 0))], [some (u64s (el u)), some (u64s (el v)), some (u64s (List.replicate 4 0)), some (u64s (el q)), some (u64s (el x))]⟩ ?_ ?_
  · refine rdm [1, 2, 3, 4] [⟨[0, 1, 2, 3, 4], [1, 2, 3, 4], [1, 2, 3, 4], [0, 0, 1, 2, 3], [1, 1, 2, 3, 4]⟩, ⟨[0, 1, 3, 2, 4], [1, 3, 2, 4], [1, 2, 3, 4], [0, 0, 1, 2, 3], [2, 1, 2, 3, 4]⟩, ⟨[0, 3, 1, 2, 4], [3, 1, 2, 4], [1, 2, 3, 4], [0, 0, 1, 2, 3], [2, 1, 2, 3, 4]⟩] ⟨?_, ?_, ?_, trivial⟩   -- region 2
    · refine DLw ?_
      refine De2 (fun _ k_ => q_callp (gE) k_ (ha := (cac rfl cm_int (cac rfl cm_int ca0)))) ?_
      refine De2 (fun _ k_ => q_callp (gP) k_) ?_
      refine De2 (fun _ k_ => q_al k_) ?_
      refine De20 (fun _ k_ => q_stw k_) ?_
      refine dend ?_
      exact sle_sub ⟨rfl, rfl, rfl, rfl, trivial⟩ rfl
    · refine DLw ?_
      refine De2 (fun _ k_ => q_callp (gE) k_ (ha := (cac rfl cm_int (cac rfl cm_int ca0)))) ?_
      refine De2 (fun _ k_ => q_al k_) ?_
      refine De2 (fun _ k_ => q_callp (gP) k_) ?_
      refine De20 (fun _ k_ => q_stw k_) ?_
      refine dend ?_
      exact sle_sub ⟨rfl, rfl, rfl, rfl, trivial⟩ rfl
    refine DLw ?_
    refine De2 (fun _ k_ => q_al k_) ?_
    refine De2 (fun _ k_ => q_callp (gE) k_ (ha := (cac rfl cm_int (cac rfl cm_int ca0)))) ?_
    refine De2 (fun _ k_ => q_callp (gP) k_) ?_
    refine De20 (fun _ k_ => q_stw k_) ?_
    refine dend ?_
    exact sle_sub ⟨rfl, rfl, rfl, rfl, trivial⟩ rfl
  refine awp_seq ?_
  refine awp_seq ?_
  refine rdln [2, 3, 5] [0, 0, 0, 1, 0, 2, 3] [1, 0, 1, 2, 2, 3, 3] ?_
  refine DLw ?_
  refine DLw ?_
  refine De2 (fun _ k_ => q_callp (square_e x) k_) ?_
  refine De2 (fun _ k_ => q_callp (mul_e v (x * x)) k_) ?_
  refine DLw ?_
  refine De2 (fun _ k_ => q_callp (eq_t _ _ h) k_) ?_
  refine Dp (fun _ => q_notb ⟨rfl, rfl⟩) ?_
  refine dend ?_
  refine cndbnN (fun hc1 => ?_) ?_; rotate_left
  · rfl
  refine awp_skip ?_
  refine awp_seq ?_
  refine awp_seq ?_
  refine rdln [2, 3, 5] [0, 0, 0, 1, 0, 2, 3] [1, 0, 1, 2, 2, 3, 3] ?_
  refine DLw ?_
  refine DLw ?_
  refine De2 (fun _ k_ => q_callp (square_e x) k_) ?_
  refine De2 (fun _ k_ => q_callp (mul_e v (x * x)) k_) ?_
  refine DLw ?_
  refine De2 (fun _ k_ => q_callp (eq_t _ _ h) k_) ?_
  refine Dp (fun _ => q_notb ⟨rfl, rfl⟩) ?_
  refine dend ?_
  refine cndbnN (fun hc2 => ?_) ?_; rotate_left
  · rfl
  refine awp_skip ?_
  refine awp_seq ?_
  refine rdln [2, 4, 5, 6] [0, 0, 0, 0, 1, 2, 3, 4] [2, 0, 1, 1, 2, 3, 4, 4] ?_
  refine DLw ?_
  refine DLw ?_
  refine De2 (fun _ k_ => q_callp (neg_e x) k_) ?_
  refine DLw ?_
  refine De2 (fun _ k_ => q_callp (odd_e x) k_) ?_
  refine De2 (fun _ k_ => q_callp (select_e x (-x) (decide (x.val % 2 = 1))) k_) ?_
  refine De20 (fun _ k_ => q_stw k_) ?_
  refine Dp (fun _ => q_as (s := .v (.c _)) ⟨rfl, rfl⟩) ?_
  refine dend ?_
  refine awp_ret ?_
  exact fpct (t := 27) (a := 4)
set_option maxHeartbeats 1600000 in
/-- field.Root -/
theorem root_b (u v q x : F) (hq : u * inv v = q) (hx : cand q = x) (h : v * (x * x) ≠ u) (h2 : v * (x * im * (x * im)) = u) : Good Try.prog 38 [.a (u64s (el u)), .a (u64s (el v))] [] (.t [.a (u64s (el (evn (x * im)))), .c (.bool true)]) [] := by
  have gE := exp_r
  have gP := pow_r q
  rw [hx] at gP
  have hEl := by32_len ((P + 3) / 8)
  generalize by32 ((P + 3) / 8) = E at gE gP hEl
  have gI := exp_i
  have gQ := pow_i
  have hIl := by32_len ((P - 1) / 4)
  generalize by32 ((P - 1) / 4) = I at gI gQ hIl
  refine good_frm 41 Try.func38 rfl rfl rfl rfl rfl rfl ?_
  refine awp_seq ?_
  refine rln ?_
  refine G2 (fun _ k_ => q_boxa k_) ?_
  refine G2 (fun _ k_ => q_boxa k_) ?_
  refine G2 (fun _ k_ => q_al k_) ?_
  refine As ?_
  refine gend ?_
  refine awp_mid ⟨frm 41 [(2, sc (.ptr 0 0)), (3, sc (.ptr 1 0)), (4, sc (.ptr 2 0)), (6, sc (.ptr 3 0))], [some (u64s (el u)), some (u64s (el v)), some (u64s (List.replicate 4 0)), some (u64s (el q))]⟩ ?_ ?_
  · refine rdm [2, 3, 4, 5] [⟨[0, 1, 2, 3, 4, 5], [2, 3, 4, 5], [2, 3, 4, 5], [0, 0, 0, 1, 2, 3], [1, 0, 1, 2, 3, 4]⟩, ⟨[0, 1, 2, 4, 3, 5], [2, 4, 3, 5], [2, 3, 4, 5], [0, 0, 0, 1, 2, 3], [2, 0, 1, 2, 3, 4]⟩, ⟨[0, 1, 4, 2, 3, 5], [4, 2, 3, 5], [2, 3, 4, 5], [0, 0, 0, 1, 2, 3], [2, 1, 1, 2, 3, 4]⟩] ⟨?_, ?_, ?_, trivial⟩   -- region 1
    · refine DLw ?_
      refine DLw ?_
      refine De2 (fun _ k_ => q_callp (inv_e v) k_) ?_
      refine De2 (fun _ k_ => q_callp (hq ▸ mul_e u (inv v)) k_) ?_
      refine De2 (fun _ k_ => q_al k_) ?_
      refine De20 (fun _ k_ => q_stw k_) ?_
      refine dend ?_
      exact sle_sub ⟨rfl, rfl, rfl, rfl, trivial⟩ rfl
    · refine DLw ?_
      refine DLw ?_
      refine De2 (fun _ k_ => q_callp (inv_e v) k_) ?_
      refine De2 (fun _ k_ => q_al k_) ?_
      refine De2 (fun _ k_ => q_callp (hq ▸ mul_e u (inv v)) k_) ?_
      refine De20 (fun _ k_ => q_stw k_) ?_
      refine dend ?_
      exact sle_sub ⟨rfl, rfl, rfl, rfl, trivial⟩ rfl
    refine DLw ?_
    refine DLw ?_
    refine De2 (fun _ k_ => q_al k_) ?_
    refine De2 (fun _ k_ => q_callp (inv_e v) k_) ?_
    refine De2 (fun _ k_ => q_callp (hq ▸ mul_e u (inv v)) k_) ?_
    refine De20 (fun _ k_ => q_stw k_) ?_
    refine dend ?_
    exact sle_sub ⟨rfl, rfl, rfl, rfl, trivial⟩ rfl
  refine awp_mid ⟨frm 41 [(2, sc (.ptr 0 0)), (3, sc (.ptr 1 0)), (4, sc (.ptr 2 0)), (7, sc (.ptr 4 0))], [some (u64s (el u)), some (u64s (el v)), some (u64s (List.replicate 4 0)), some (u64s (el q)), some (u64s (el x))]⟩ ?_ ?_
  · refine rdm [1, 2, 3, 4] [⟨[0, 1, 2, 3, 4], [1, 2, 3, 4], [1, 2, 3, 4], [0, 0, 1, 2, 3], [1, 1, 2, 3, 4]⟩, ⟨[0, 1, 3, 2, 4], [1, 3, 2, 4], [1, 2, 3, 4], [0, 0, 1, 2, 3], [2, 1, 2, 3, 4]⟩, ⟨[0, 3, 1, 2, 4], [3, 1, 2, 4], [1, 2, 3, 4], [0, 0, 1, 2, 3], [2, 1, 2, 3, 4]⟩] ⟨?_, ?_, ?_, trivial⟩   -- region 2
    · refine DLw ?_
      refine De2 (fun _ k_ => q_callp (gE) k_ (ha := (cac rfl cm_int (cac rfl cm_int ca0)))) ?_
      refine De2 (fun _ k_ => q_callp (gP) k_) ?_
      refine De2 (fun _ k_ => q_al k_) ?_
      refine De20 (fun _ k_ => q_stw k_) ?_
      refine dend ?_
      exact sle_sub ⟨rfl, rfl, rfl, rfl, trivial⟩ rfl
    · refine DLw ?_
      refine De2 (fun _ k_ => q_callp (gE) k_ (ha := (cac rfl cm_int (cac rfl cm_int ca0)))) ?_
      refine De2 (fun _ k_ => q_al k_) ?_
      refine De2 (fun _ k_ => q_callp (gP) k_) ?_
      refine De20 (fun _ k_ => q_stw k_) ?_
      refine dend ?_
      exact sle_sub ⟨rfl, rfl, rfl, rfl, trivial⟩ rfl
    refine DLw ?_
    refine De2 (fun _ k_ => q_al k_) ?_
    refine De2 (fun _ k_ => q_callp (gE) k_ (ha := (cac rfl cm_int (cac rfl cm_int ca0)))) ?_
    refine De2 (fun _ k_ => q_callp (gP) k_) ?_
    refine De20 (fun _ k_ => q_stw k_) ?_
    refine dend ?_
    exact sle_sub ⟨rfl, rfl, rfl, rfl, trivial⟩ rfl
  refine awp_seq ?_
  refine awp_seq ?_
  refine rdln [2, 3, 5] [0, 0, 0, 1, 0, 2, 3] [1, 0, 1, 2, 2, 3, 3] ?_
  refine DLw ?_
  refine DLw ?_
  refine De2 (fun _ k_ => q_callp (square_e x) k_) ?_
  refine De2 (fun _ k_ => q_callp (mul_e v (x * x)) k_) ?_
  refine DLw ?_
  refine De2 (fun _ k_ => q_callp (eq_f _ _ h) k_) ?_
  refine Dp (fun _ => q_notb ⟨rfl, rfl⟩) ?_
  refine dend ?_
  refine cndbnY (fun hc1 => ?_) ?_; rotate_left
  · rfl
  refine rdln [1, 2, 3, 4, 5] [0, 0, 1, 2, 3, 4] [3, 1, 2, 3, 4, 5] ?_
  refine DLw ?_
  refine De2 (fun _ k_ => q_callp (small_2) k_ (ha := (cac rfl cm_int ca0))) ?_
  refine De2 (fun _ k_ => q_callp (gI) k_ (ha := (cac rfl cm_int (cac rfl cm_int ca0)))) ?_
  refine De2 (fun _ k_ => q_callp (gQ) k_) ?_
  refine De2 (fun _ k_ => q_callp (mul_e x im) k_) ?_
  refine De20 (fun _ k_ => q_stw k_) ?_
  refine dend ?_
  refine awp_seq ?_
  refine awp_seq ?_
  refine rdln [2, 3, 5] [0, 0, 0, 1, 0, 2, 3] [1, 0, 1, 2, 2, 3, 3] ?_
  refine DLw ?_
  refine DLw ?_
  refine De2 (fun _ k_ => q_callp (square_e (x * im)) k_) ?_
  refine De2 (fun _ k_ => q_callp (mul_e v ((x * im) * (x * im))) k_) ?_
  refine DLw ?_
  refine De2 (fun _ k_ => q_callp (eq_t _ _ h2) k_) ?_
  refine Dp (fun _ => q_notb ⟨rfl, rfl⟩) ?_
  refine dend ?_
  refine cndbnN (fun hc2 => ?_) ?_; rotate_left
  · rfl
  refine awp_skip ?_
  refine awp_seq ?_
  refine rdln [2, 4, 5, 6] [0, 0, 0, 0, 1, 2, 3, 4] [2, 0, 1, 1, 2, 3, 4, 4] ?_
  refine DLw ?_
  refine DLw ?_
  refine De2 (fun _ k_ => q_callp (neg_e (x * im)) k_) ?_
  refine DLw ?_
  refine De2 (fun _ k_ => q_callp (odd_e (x * im)) k_) ?_
  refine De2 (fun _ k_ => q_callp (select_e (x * im) (-(x * im)) (decide ((x * im).val % 2 = 1))) k_) ?_
  refine De20 (fun _ k_ => q_stw k_) ?_
  refine Dp (fun _ => q_as (s := .v (.c _)) ⟨rfl, rfl⟩) ?_
  refine dend ?_
  refine awp_ret ?_
  exact fpct (t := 27) (a := 4)
set_option maxHeartbeats 1600000 in
/-- field.Root -/
theorem root_c (u v q x : F) (hq : u * inv v = q) (hx : cand q = x) (h : v * (x * x) ≠ u) (h2 : v * (x * im * (x * im)) ≠ u) : Good Try.prog 38 [.a (u64s (el u)), .a (u64s (el v))] [] (.t [.a (u64s (el 0)), .c (.bool false)]) [] := by
  have gE := exp_r
  have gP := pow_r q
  rw [hx] at gP
  have hEl := by32_len ((P + 3) / 8)
  generalize by32 ((P + 3) / 8) = E at gE gP hEl
  have gI := exp_i
  have gQ := pow_i
  have hIl := by32_len ((P - 1) / 4)
  generalize by32 ((P - 1) / 4) = I at gI gQ hIl
  refine good_frm 41 Try.func38 rfl rfl rfl rfl rfl rfl ?_
  refine awp_seq ?_
  refine rln ?_
  refine G2 (fun _ k_ => q_boxa k_) ?_
  refine G2 (fun _ k_ => q_boxa k_) ?_
  refine G2 (fun _ k_ => q_al k_) ?_
  refine As ?_
  refine gend ?_
  refine awp_mid ⟨frm 41 [(2, sc (.ptr 0 0)), (3, sc (.ptr 1 0)), (4, sc (.ptr 2 0)), (6, sc (.ptr 3 0))], [some (u64s (el u)), some (u64s (el v)), some (u64s (List.replicate 4 0)), some (u64s (el q))]⟩ ?_ ?_
  · refine rdm [2, 3, 4, 5] [⟨[0, 1, 2, 3, 4, 5], [2, 3, 4, 5], [2, 3, 4, 5], [0, 0, 0, 1, 2, 3], [1, 0, 1, 2, 3, 4]⟩, ⟨[0, 1, 2, 4, 3, 5], [2, 4, 3, 5], [2, 3, 4, 5], [0, 0, 0, 1, 2, 3], [2, 0, 1, 2, 3, 4]⟩, ⟨[0, 1, 4, 2, 3, 5], [4, 2, 3, 5], [2, 3, 4, 5], [0, 0, 0, 1, 2, 3], [2, 1, 1, 2, 3, 4]⟩] ⟨?_, ?_, ?_, trivial⟩   -- region 1
    · refine DLw ?_
      refine DLw ?_
      refine De2 (fun _ k_ => q_callp (inv_e v) k_) ?_
      refine De2 (fun _ k_ => q_callp (hq ▸ mul_e u (inv v)) k_) ?_
      refine De2 (fun _ k_ => q_al k_) ?_
      refine De20 (fun _ k_ => q_stw k_) ?_
      refine dend ?_
      exact sle_sub ⟨rfl, rfl, rfl, rfl, trivial⟩ rfl
    · refine DLw ?_
      refine DLw ?_
      refine De2 (fun _ k_ => q_callp (inv_e v) k_) ?_
      refine De2 (fun _ k_ => q_al k_) ?_
      refine De2 (fun _ k_ => q_callp (hq ▸ mul_e u (inv v)) k_) ?_
      refine De20 (fun _ k_ => q_stw k_) ?_
      refine dend ?_
      exact sle_sub ⟨rfl, rfl, rfl, rfl, trivial⟩ rfl
    refine DLw ?_
    refine DLw ?_
    refine De2 (fun _ k_ => q_al k_) ?_
    refine De2 (fun _ k_ => q_callp (inv_e v) k_) ?_
    refine De2 (fun _ k_ => q_callp (hq ▸ mul_e u (inv v)) k_) ?_
    refine De20 (fun _ k_ => q_stw k_) ?_
    refine dend ?_
    exact sle_sub ⟨rfl, rfl, rfl, rfl, trivial⟩ rfl
  refine awp_mid ⟨frm 41 [(2, sc (.ptr 0 0)), (3, sc (.ptr 1 0)), (4, sc (.ptr 2 0)), (7, sc (.ptr 4 0))], [some (u64s (el u)), some (u64s (el v)), some (u64s (List.replicate 4 0)), some (u64s (el q)), some (u64s (el x))]⟩ ?_ ?_
  · refine rdm [1, 2, 3, 4] [⟨[0, 1, 2, 3, 4], [1, 2, 3, 4], [1, 2, 3, 4], [0, 0, 1, 2, 3], [1, 1, 2, 3, 4]⟩, ⟨[0, 1, 3, 2, 4], [1, 3, 2, 4], [1, 2, 3, 4], [0, 0, 1, 2, 3], [2, 1, 2, 3, 4]⟩, ⟨[0, 3, 1, 2, 4], [3, 1, 2, 4], [1, 2, 3, 4], [0, 0, 1, 2, 3], [2, 1, 2, 3, 4]⟩] ⟨?_, ?_, ?_, trivial⟩   -- region 2
    · refine DLw ?_
      refine De2 (fun _ k_ => q_callp (gE) k_ (ha := (cac rfl cm_int (cac rfl cm_int ca0)))) ?_
      refine De2 (fun _ k_ => q_callp (gP) k_) ?_
      refine De2 (fun _ k_ => q_al k_) ?_
      refine De20 (fun _ k_ => q_stw k_) ?_
      refine dend ?_
      exact sle_sub ⟨rfl, rfl, rfl, rfl, trivial⟩ rfl
    · refine DLw ?_
      refine De2 (fun _ k_ => q_callp (gE) k_ (ha := (cac rfl cm_int (cac rfl cm_int ca0)))) ?_
      refine De2 (fun _ k_ => q_al k_) ?_
      refine De2 (fun _ k_ => q_callp (gP) k_) ?_
      refine De20 (fun _ k_ => q_stw k_) ?_
      refine dend ?_
      exact sle_sub ⟨rfl, rfl, rfl, rfl, trivial⟩ rfl
    refine DLw ?_
    refine De2 (fun _ k_ => q_al k_) ?_
    refine De2 (fun _ k_ => q_callp (gE) k_ (ha := (cac rfl cm_int (cac rfl cm_int ca0)))) ?_
    refine De2 (fun _ k_ => q_callp (gP) k_) ?_
    refine De20 (fun _ k_ => q_stw k_) ?_
    refine dend ?_
    exact sle_sub ⟨rfl, rfl, rfl, rfl, trivial⟩ rfl
  refine awp_seq ?_
  refine awp_seq ?_
  refine rdln [2, 3, 5] [0, 0, 0, 1, 0, 2, 3] [1, 0, 1, 2, 2, 3, 3] ?_
  refine DLw ?_
  refine DLw ?_
  refine De2 (fun _ k_ => q_callp (square_e x) k_) ?_
  refine De2 (fun _ k_ => q_callp (mul_e v (x * x)) k_) ?_
  refine DLw ?_
  refine De2 (fun _ k_ => q_callp (eq_f _ _ h) k_) ?_
  refine Dp (fun _ => q_notb ⟨rfl, rfl⟩) ?_
  refine dend ?_
  refine cndbnY (fun hc1 => ?_) ?_; rotate_left
  · rfl
  refine rdln [1, 2, 3, 4, 5] [0, 0, 1, 2, 3, 4] [3, 1, 2, 3, 4, 5] ?_
  refine DLw ?_
  refine De2 (fun _ k_ => q_callp (small_2) k_ (ha := (cac rfl cm_int ca0))) ?_
  refine De2 (fun _ k_ => q_callp (gI) k_ (ha := (cac rfl cm_int (cac rfl cm_int ca0)))) ?_
  refine De2 (fun _ k_ => q_callp (gQ) k_) ?_
  refine De2 (fun _ k_ => q_callp (mul_e x im) k_) ?_
  refine De20 (fun _ k_ => q_stw k_) ?_
  refine dend ?_
  refine awp_seq ?_
  refine awp_seq ?_
  refine rdln [2, 3, 5] [0, 0, 0, 1, 0, 2, 3] [1, 0, 1, 2, 2, 3, 3] ?_
  refine DLw ?_
  refine DLw ?_
  refine De2 (fun _ k_ => q_callp (square_e (x * im)) k_) ?_
  refine De2 (fun _ k_ => q_callp (mul_e v ((x * im) * (x * im))) k_) ?_
  refine DLw ?_
  refine De2 (fun _ k_ => q_callp (eq_f _ _ h2) k_) ?_
  refine Dp (fun _ => q_notb ⟨rfl, rfl⟩) ?_
  refine dend ?_
  refine cndbnY (fun hc2 => ?_) ?_; rotate_left
  · rfl
  refine awp_seq ?_
  refine rln ?_
  refine G (q_bls (fk0 ?_))
  refine G20 (fun _ k_ => q_stw k_) ?_
  refine As ?_
  refine gend ?_
  refine awp_ret ?_
  exact fpct (t := 27) (a := 4)
end Go.Proofs.Ytjibmonfmhdbbaa.Fd

/- What functions of the program do, walked over the abstract machine. -/
namespace Go.Proofs.Ytjibmonfmhdbbaa.Fl
open Go Go.Abs Go.Proofs Go.Proofs.Ytjibmonfmhdbbaa.Fd Go.Proofs.Ytjibmonfmhdbbaa.Rn

open Go.Nt Fd Rn
/-- Whether a fraction has a root, and the even one. -/
def rtq (q : F) : F := if cand q * cand q = q then evn (cand q) else evn (cand q * im)
def rOk (u v : F) : Bool := if v = 0 then decide (u = 0) else decide (u * inv v = 0) || decide (eul (u * inv v) = 1)
def rRt (u v : F) : F := if rOk u v then (if v = 0 then 0 else rtq (u * inv v)) else 0
theorem cand_zero : cand 0 = 0 := zero_pw _ (by decide +kernel)
theorem rtq_zero : rtq 0 = 0 := by unfold rtq; rw [cand_zero, if_pos (by grind)]; exact evn_zero
theorem div_eq {u v y : F} (hv : v ≠ 0) : v * y = u ↔ y = u * inv v := by
  have h := mul_inv hv
  constructor
  · intro e; rw [← e]; grind
  · intro e; rw [e]; grind
theorem eul_iff {q : F} (hq : q ≠ 0) : eul q = 1 ↔ (cand q * cand q = q ∨ cand q * im * (cand q * im) = q) :=
  ⟨root_of, fun h => h.elim (fun e => no_root hq e) (fun e => no_root hq e)⟩
theorem rtq_sq {q : F} (h : eul q = 1) : rtq q * rtq q = q := by
  unfold rtq
  split
  · rename_i e; rw [evn_sq, e]
  · rename_i e; rw [evn_sq]; exact (root_of h).resolve_left e
theorem rRt_sq {u v : F} (h : rOk u v = true) : v * (rRt u v * rRt u v) = u := by
  unfold rRt; rw [h, if_pos rfl]
  unfold rOk at h
  by_cases hv : v = 0
  · rw [if_pos hv] at h ⊢; have := of_decide_eq_true h; subst this hv; grind
  · rw [if_neg hv] at h ⊢
    rw [div_eq hv]
    rcases Bool.or_eq_true_iff.1 h with h | h
    · rw [of_decide_eq_true h, rtq_zero]; grind
    · exact rtq_sq (of_decide_eq_true h)
theorem root_e (u v : F) : Good Try.prog 38 [.a (u64s (el u)), .a (u64s (el v))] [] (.t [.a (u64s (el (rRt u v))), .c (.bool (rOk u v))]) [] := by
  by_cases hv : v = 0
  · subst hv
    have hq : u * inv 0 = 0 := by rw [inv_zero]; grind
    by_cases hu : u = 0
    · subst hu
      have := root_a 0 0 0 0 hq cand_zero (by grind)
      rw [evn_zero] at this
      rwa [show rRt 0 0 = 0 by unfold rRt; simp, show rOk 0 0 = true by unfold rOk; simp]
    · have e : ∀ y : F, (0 : F) * y ≠ u := fun y h => hu (by rw [← h]; grind)
      have := root_c u 0 0 0 hq cand_zero (e _) (e _)
      have ho : rOk u 0 = false := by unfold rOk; simp [hu]
      rwa [show rRt u 0 = 0 by unfold rRt; simp [ho], ho]
  · obtain ⟨q, hq⟩ : ∃ q, u * inv v = q := ⟨_, rfl⟩
    by_cases h1 : cand q * cand q = q
    · have := root_a u v q _ hq rfl ((div_eq hv).2 (h1.trans hq.symm))
      have ho : rOk u v = true := by
        unfold rOk; rw [if_neg hv, hq]
        by_cases h0 : q = 0
        · simp [h0]
        · rw [decide_eq_true ((eul_iff h0).2 (.inl h1))]; simp
      rwa [show rRt u v = evn (cand q) by unfold rRt; rw [ho, if_pos rfl, if_neg hv, hq]; exact if_pos h1, ho]
    · have h0 : q ≠ 0 := by rintro rfl; apply h1; rw [cand_zero]; grind
      have n1 : v * (cand q * cand q) ≠ u := fun e => h1 (((div_eq hv).1 e).trans hq)
      by_cases h2 : cand q * im * (cand q * im) = q
      · have := root_b u v q _ hq rfl n1 ((div_eq hv).2 (h2.trans hq.symm))
        have ho : rOk u v = true := by unfold rOk; rw [if_neg hv, hq, decide_eq_true ((eul_iff h0).2 (.inr h2))]; simp
        rwa [show rRt u v = evn (cand q * im) by unfold rRt; rw [ho, if_pos rfl, if_neg hv, hq]; exact if_neg h1, ho]
      · have := root_c u v q _ hq rfl n1 (fun e => h2 (((div_eq hv).1 e).trans hq))
        have ho : rOk u v = false := by
          unfold rOk; rw [if_neg hv, hq, decide_eq_false h0, decide_eq_false fun e => ((eul_iff h0).1 e).elim h1 h2]; rfl
        rwa [show rRt u v = 0 by unfold rRt; rw [ho]; rfl, ho]
end Go.Proofs.Ytjibmonfmhdbbaa.Fl

/- What functions of the program do, walked over the abstract machine. -/
namespace Go.Proofs.Ytjibmonfmhdbbaa.Fl
open Go Go.Abs Go.Proofs Go.Proofs.Ytjibmonfmhdbbaa.Fd Go.Proofs.Ytjibmonfmhdbbaa.Rn

open Go.Nt Fd Rn
/-- Whether there is a root. -/
abbrev ok1 (x : F) : Bool := rOk x 1
theorem ok1_eq (x : F) : ok1 x = (decide (x = 0) || decide (eul x = 1)) := by
  unfold ok1 rOk
  have e : x * inv 1 = x := by
    have := mul_inv one_ne
    grind
  rw [if_neg one_ne, e]
theorem eul_neg (x : F) : eul (-x) = eul x := by
  have h : eul (-1 : F) = 1 := no_root (by decide) im_sq
  rw [show -x = -1 * x by grind, eul_mul, h]; grind
theorem ok1_neg (x : F) : ok1 (-x) = ok1 x := by
  rw [ok1_eq, ok1_eq, eul_neg]
  congr 1
  refine decide_eq_decide.2 ⟨fun h => ?_, fun h => ?_⟩
  · grind
  · rw [h]; grind
theorem ok1_sq {x : F} (h : ok1 x = true) : rRt x 1 * rRt x 1 = x := by
  have := rRt_sq h
  grind
theorem ok1_mul_t {x y : F} (hx : ok1 x = true) (hy : ok1 y = true) : ok1 (x * y) = true := by
  have h1 := ok1_sq hx
  have h2 := ok1_sq hy
  rw [ok1_eq]
  by_cases h0 : x * y = 0
  · rw [decide_eq_true h0]; rfl
  · have : rRt x 1 * rRt y 1 * (rRt x 1 * rRt y 1) = x * y := by grind
    rw [decide_eq_true (no_root h0 this)]; exact Bool.or_true _
theorem ok1_f {x : F} (h : ok1 x = false) : x ≠ 0 ∧ eul x = -1 := by
  rw [ok1_eq] at h
  have h' := Bool.or_eq_false_iff.1 h
  have h0 : x ≠ 0 := of_decide_eq_false h'.1
  exact ⟨h0, (eul_sq h0).resolve_left (of_decide_eq_false h'.2)⟩
theorem ok1_mul_f {x y : F} (hx : ok1 x = false) (hy : ok1 y = false) : ok1 (x * y) = true := by
  have h1 := (ok1_f hx).2
  have h2 := (ok1_f hy).2
  rw [ok1_eq, decide_eq_true (show eul (x * y) = 1 by rw [eul_mul, h1, h2]; grind)]; exact Bool.or_true _
theorem ok1_mul_m {x y : F} (h : ok1 (x * y) = true) (hne : ok1 x ≠ ok1 y) : x * y = 0 := by
  rw [ok1_eq] at h
  rcases Bool.or_eq_true_iff.1 h with h | h
  · exact of_decide_eq_true h
  · exfalso
    have he := of_decide_eq_true h
    rw [eul_mul] at he
    have key : ∀ a b : F, ok1 a = true → ok1 b = false → ¬ eul a * eul b = 1 := by
      intro a b ha hb hab
      have hb' := (ok1_f hb).2
      rw [ok1_eq] at ha
      rcases Bool.or_eq_true_iff.1 ha with ha | ha
      · rw [of_decide_eq_true ha, show eul 0 = 0 from zero_pw _ (by decide +kernel)] at hab
        apply one_ne
        grind
      · rw [of_decide_eq_true ha, hb'] at hab
        apply one_ne_neg
        grind
    cases hx : ok1 x <;> cases hy : ok1 y
    · exact hne (hx.trans hy.symm)
    · exact key y x hy hx (by rw [← he]; grind)
    · exact key x y hx hy he
    · exact hne (hx.trans hy.symm)
set_option maxHeartbeats 3200000 in
/-- escutcheonlaw02.FieldInverts -/
theorem inverts_ttt (a b : List UInt8) (ha : a.length = 32) (hb : b.length = 32) (h1 : ok1 (fb a) = true) (h2 : ok1 (fb b) = true) (h3 : ok1 (fb a * fb b) = true) : Good Try.prog 9 [.a (u8s a), .a (u8s b)] [] (sc (.bool true)) [] := by
  have ga := of_e a ha
  have gb := of_e b hb
  generalize fb a = x at ga h1 h3
  generalize fb b = y at gb h2 h3
  have hn := (ok1_neg x).trans h1
  have gR := root_e x 1
  have gS := root_e (-x) 1
  have gT := root_e (x * y) 1
  have gO := root_e y 1
  rw [show rOk x 1 = _ from h1] at gR
  rw [show rOk (-x) 1 = _ from hn] at gS
  rw [show rOk (x * y) 1 = _ from h3] at gT
  rw [show rOk y 1 = _ from h2] at gO
  have q1 := ok1_sq h1
  have q2 := ok1_sq hn
  have q3 := ok1_sq h3
  generalize rRt x 1 = r at gR q1
  generalize rRt (-x) 1 = s at gS q2
  generalize rRt (x * y) 1 = t at gT q3
  generalize rRt y 1 = o at gO
  refine good_frm 134 Try.func9 rfl rfl rfl rfl rfl rfl ?_
  refine awp_seq ?_
  refine rln ?_
  refine G2 (fun _ k_ => q_boxa k_) ?_
  refine G2 (fun _ k_ => q_boxa k_) ?_
  refine As ?_
  refine gend ?_
  refine awp_mid ⟨frm 134 [(2, sc (.ptr 0 0)), (3, sc (.ptr 1 0)), (5, sc (.ptr 2 0)), (6, sc (.ptr 3 0))], [some (u8s a), some (u8s b), some (u64s (el x)), some (u64s (el y))]⟩ ?_ ?_
  · refine rdm [1, 3, 4, 5, 6, 7] [⟨[0, 1, 2, 3, 4, 5, 6, 7], [1, 3, 4, 5, 6, 7], [1, 3, 4, 5, 6, 7], [0, 0, 0, 1, 2, 3, 4, 5], [0, 1, 1, 2, 3, 4, 5, 6]⟩, ⟨[0, 1, 2, 3, 5, 4, 6, 7], [1, 3, 5, 4, 6, 7], [1, 3, 4, 5, 6, 7], [0, 0, 0, 1, 2, 3, 4, 5], [0, 1, 1, 2, 3, 4, 5, 6]⟩, ⟨[0, 1, 2, 4, 3, 5, 6, 7], [1, 4, 3, 5, 6, 7], [1, 3, 4, 5, 6, 7], [0, 0, 0, 1, 2, 3, 4, 5], [0, 1, 2, 2, 3, 4, 5, 6]⟩, ⟨[0, 1, 2, 4, 5, 3, 6, 7], [1, 4, 5, 3, 6, 7], [1, 3, 4, 5, 6, 7], [0, 0, 0, 1, 2, 3, 4, 5], [0, 1, 3, 2, 3, 4, 5, 6]⟩, ⟨[0, 1, 2, 5, 3, 4, 6, 7], [1, 5, 3, 4, 6, 7], [1, 3, 4, 5, 6, 7], [0, 0, 0, 1, 2, 3, 4, 5], [0, 1, 2, 2, 3, 4, 5, 6]⟩, ⟨[0, 1, 2, 5, 4, 3, 6, 7], [1, 5, 4, 3, 6, 7], [1, 3, 4, 5, 6, 7], [0, 0, 0, 1, 2, 3, 4, 5], [0, 1, 3, 2, 3, 4, 5, 6]⟩, ⟨[0, 2, 4, 1, 3, 5, 6, 7], [4, 1, 3, 5, 6, 7], [2, 3, 4, 5, 6, 7], [0, 0, 0, 1, 2, 3, 4, 5], [1, 2, 1, 2, 3, 4, 5, 6]⟩, ⟨[0, 2, 4, 1, 5, 3, 6, 7], [4, 1, 5, 3, 6, 7], [2, 3, 4, 5, 6, 7], [0, 0, 0, 1, 2, 3, 4, 5], [1, 3, 1, 2, 3, 4, 5, 6]⟩, ⟨[0, 2, 4, 5, 1, 3, 6, 7], [4, 5, 1, 3, 6, 7], [2, 3, 4, 5, 6, 7], [0, 0, 0, 1, 2, 3, 4, 5], [2, 3, 1, 2, 3, 4, 5, 6]⟩, ⟨[0, 2, 5, 1, 3, 4, 6, 7], [5, 1, 3, 4, 6, 7], [2, 3, 4, 5, 6, 7], [0, 0, 0, 1, 2, 3, 4, 5], [1, 2, 1, 2, 3, 4, 5, 6]⟩, ⟨[0, 2, 5, 1, 4, 3, 6, 7], [5, 1, 4, 3, 6, 7], [2, 3, 4, 5, 6, 7], [0, 0, 0, 1, 2, 3, 4, 5], [1, 3, 1, 2, 3, 4, 5, 6]⟩, ⟨[0, 2, 5, 4, 1, 3, 6, 7], [5, 4, 1, 3, 6, 7], [2, 3, 4, 5, 6, 7], [0, 0, 0, 1, 2, 3, 4, 5], [2, 3, 1, 2, 3, 4, 5, 6]⟩] ⟨?_, ?_, ?_, ?_, ?_, ?_, ?_, ?_, ?_, ?_, ?_, ?_, trivial⟩   -- region 1
    · refine DLw ?_
      refine De2 (fun _ k_ => q_callp (ga) k_) ?_
      refine DLw ?_
      refine De2 (fun _ k_ => q_callp (gb) k_) ?_
      refine De2 (fun _ k_ => q_al k_) ?_
      refine De2 (fun _ k_ => q_al k_) ?_
      refine De20 (fun _ k_ => q_stw k_) ?_
      refine De20 (fun _ k_ => q_stw k_) ?_
      refine dend ?_
      exact sle_sub ⟨rfl, rfl, rfl, rfl, trivial⟩ rfl
    · refine DLw ?_
      refine De2 (fun _ k_ => q_callp (ga) k_) ?_
      refine DLw ?_
      refine De2 (fun _ k_ => q_callp (gb) k_) ?_
      refine De2 (fun _ k_ => q_al k_) ?_
      refine De2 (fun _ k_ => q_al k_) ?_
      refine De20 (fun _ k_ => q_stw k_) ?_
      refine De20 (fun _ k_ => q_stw k_) ?_
      refine dend ?_
      exact sle_view [0, 1, 3, 2] (fun p h => absurd h (Nat.not_lt_zero _)) (by decide) ⟨rfl, rfl, rfl, rfl, trivial⟩ (Eq.symm (pl1 rfl sees_m (pl1 rfl sees_m (pl1 rfl sees_m (pl1 rfl sees_m pl0)))))
    · refine DLw ?_
      refine De2 (fun _ k_ => q_callp (ga) k_) ?_
      refine DLw ?_
      refine De2 (fun _ k_ => q_al k_) ?_
      refine De2 (fun _ k_ => q_callp (gb) k_) ?_
      refine De2 (fun _ k_ => q_al k_) ?_
      refine De20 (fun _ k_ => q_stw k_) ?_
      refine De20 (fun _ k_ => q_stw k_) ?_
      refine dend ?_
      exact sle_sub ⟨rfl, rfl, rfl, rfl, trivial⟩ rfl
    · refine DLw ?_
      refine De2 (fun _ k_ => q_callp (ga) k_) ?_
      refine DLw ?_
      refine De2 (fun _ k_ => q_al k_) ?_
      refine De2 (fun _ k_ => q_al k_) ?_
      refine De2 (fun _ k_ => q_callp (gb) k_) ?_
      refine De20 (fun _ k_ => q_stw k_) ?_
      refine De20 (fun _ k_ => q_stw k_) ?_
      refine dend ?_
      exact sle_sub ⟨rfl, rfl, rfl, rfl, trivial⟩ rfl
    · refine DLw ?_
      refine De2 (fun _ k_ => q_callp (ga) k_) ?_
      refine DLw ?_
      refine De2 (fun _ k_ => q_al k_) ?_
      refine De2 (fun _ k_ => q_callp (gb) k_) ?_
      refine De2 (fun _ k_ => q_al k_) ?_
      refine De20 (fun _ k_ => q_stw k_) ?_
      refine De20 (fun _ k_ => q_stw k_) ?_
      refine dend ?_
      exact sle_view [0, 1, 3, 2] (fun p h => absurd h (Nat.not_lt_zero _)) (by decide) ⟨rfl, rfl, rfl, rfl, trivial⟩ (Eq.symm (pl1 rfl sees_m (pl1 rfl sees_m (pl1 rfl sees_m (pl1 rfl sees_m pl0)))))
    · refine DLw ?_
      refine De2 (fun _ k_ => q_callp (ga) k_) ?_
      refine DLw ?_
      refine De2 (fun _ k_ => q_al k_) ?_
      refine De2 (fun _ k_ => q_al k_) ?_
      refine De2 (fun _ k_ => q_callp (gb) k_) ?_
      refine De20 (fun _ k_ => q_stw k_) ?_
      refine De20 (fun _ k_ => q_stw k_) ?_
      refine dend ?_
      exact sle_view [0, 1, 3, 2] (fun p h => absurd h (Nat.not_lt_zero _)) (by decide) ⟨rfl, rfl, rfl, rfl, trivial⟩ (Eq.symm (pl1 rfl sees_m (pl1 rfl sees_m (pl1 rfl sees_m (pl1 rfl sees_m pl0)))))
    · refine DLw ?_
      refine DLw ?_
      refine De2 (fun _ k_ => q_al k_) ?_
      refine De2 (fun _ k_ => q_callp (ga) k_) ?_
      refine De2 (fun _ k_ => q_callp (gb) k_) ?_
      refine De2 (fun _ k_ => q_al k_) ?_
      refine De20 (fun _ k_ => q_stw k_) ?_
      refine De20 (fun _ k_ => q_stw k_) ?_
      refine dend ?_
      exact sle_sub ⟨rfl, rfl, rfl, rfl, trivial⟩ rfl
    · refine DLw ?_
      refine DLw ?_
      refine De2 (fun _ k_ => q_al k_) ?_
      refine De2 (fun _ k_ => q_callp (ga) k_) ?_
      refine De2 (fun _ k_ => q_al k_) ?_
      refine De2 (fun _ k_ => q_callp (gb) k_) ?_
      refine De20 (fun _ k_ => q_stw k_) ?_
      refine De20 (fun _ k_ => q_stw k_) ?_
      refine dend ?_
      exact sle_sub ⟨rfl, rfl, rfl, rfl, trivial⟩ rfl
    · refine DLw ?_
      refine DLw ?_
      refine De2 (fun _ k_ => q_al k_) ?_
      refine De2 (fun _ k_ => q_al k_) ?_
      refine De2 (fun _ k_ => q_callp (ga) k_) ?_
      refine De2 (fun _ k_ => q_callp (gb) k_) ?_
      refine De20 (fun _ k_ => q_stw k_) ?_
      refine De20 (fun _ k_ => q_stw k_) ?_
      refine dend ?_
      exact sle_sub ⟨rfl, rfl, rfl, rfl, trivial⟩ rfl
    · refine DLw ?_
      refine DLw ?_
      refine De2 (fun _ k_ => q_al k_) ?_
      refine De2 (fun _ k_ => q_callp (ga) k_) ?_
      refine De2 (fun _ k_ => q_callp (gb) k_) ?_
      refine De2 (fun _ k_ => q_al k_) ?_
      refine De20 (fun _ k_ => q_stw k_) ?_
      refine De20 (fun _ k_ => q_stw k_) ?_
      refine dend ?_
      exact sle_view [0, 1, 3, 2] (fun p h => absurd h (Nat.not_lt_zero _)) (by decide) ⟨rfl, rfl, rfl, rfl, trivial⟩ (Eq.symm (pl1 rfl sees_m (pl1 rfl sees_m (pl1 rfl sees_m (pl1 rfl sees_m pl0)))))
    · refine DLw ?_
      refine DLw ?_
      refine De2 (fun _ k_ => q_al k_) ?_
      refine De2 (fun _ k_ => q_callp (ga) k_) ?_
      refine De2 (fun _ k_ => q_al k_) ?_
      refine De2 (fun _ k_ => q_callp (gb) k_) ?_
      refine De20 (fun _ k_ => q_stw k_) ?_
      refine De20 (fun _ k_ => q_stw k_) ?_
      refine dend ?_
      exact sle_view [0, 1, 3, 2] (fun p h => absurd h (Nat.not_lt_zero _)) (by decide) ⟨rfl, rfl, rfl, rfl, trivial⟩ (Eq.symm (pl1 rfl sees_m (pl1 rfl sees_m (pl1 rfl sees_m (pl1 rfl sees_m pl0)))))
    refine DLw ?_
    refine DLw ?_
    refine De2 (fun _ k_ => q_al k_) ?_
    refine De2 (fun _ k_ => q_al k_) ?_
    refine De2 (fun _ k_ => q_callp (ga) k_) ?_
    refine De2 (fun _ k_ => q_callp (gb) k_) ?_
    refine De20 (fun _ k_ => q_stw k_) ?_
    refine De20 (fun _ k_ => q_stw k_) ?_
    refine dend ?_
    exact sle_view [0, 1, 3, 2] (fun p h => absurd h (Nat.not_lt_zero _)) (by decide) ⟨rfl, rfl, rfl, rfl, trivial⟩ (Eq.symm (pl1 rfl sees_m (pl1 rfl sees_m (pl1 rfl sees_m (pl1 rfl sees_m pl0)))))
  refine awp_seq ?_
  refine awp_seq ?_
  refine rdln [2, 3, 5, 7, 8, 9, 13, 14, 16, 21, 22, 24, 25, 26] [0, 0, 0, 1, 0, 2, 0, 3, 4, 5, 6, 6, 6, 6, 7, 6, 8, 9, 9, 9, 9, 9, 10, 9, 11, 12, 13, 14, 14] [0, 0, 1, 2, 2, 3, 3, 4, 5, 6, 6, 6, 6, 7, 8, 8, 9, 9, 9, 9, 9, 10, 11, 11, 12, 13, 14, 14, 14] ?_
  refine DLw ?_
  refine DLw ?_
  refine De2 (fun _ k_ => q_callp (Fd.mul_e x y) k_) ?_
  refine De2 (fun _ k_ => q_callp (inv_e (x * y)) k_) ?_
  refine DLw ?_
  refine De2 (fun _ k_ => q_callp (inv_e x) k_) ?_
  refine DLw ?_
  refine De2 (fun _ k_ => q_callp (inv_e y) k_) ?_
  refine De2 (fun _ k_ => q_callp (Fd.mul_e (inv x) (inv y)) k_) ?_
  refine De2 (fun _ k_ => q_callp (eq_t _ _ (inv_mul x y)) k_) ?_
  refine Dp (fun _ => q_notb ⟨rfl, rfl⟩) ?_
  refine Dp (fun _ => q_mv (s := .v (.c _)) ⟨rfl, rfl⟩) ?_
  refine DLwg ?_
  refine De2g (fun _ k_ => q_callp (inv_e x) k_) ?_
  refine De2g (fun _ k_ => q_callp (inv_e (inv x)) k_) ?_
  refine DLwg ?_
  refine De2g (fun _ k_ => q_callp (eq_t _ _ (inv_inv x)) k_) ?_
  refine Dpg (fun _ => q_notb ⟨rfl, rfl⟩) ?_
  refine Dp (fun _ => q_pkf ⟨rfl, rfl⟩) ?_
  refine Dp (fun _ => q_mv (s := .v (.c _)) ⟨rfl, rfl⟩) ?_
  refine DLwg ?_
  refine De2g (fun _ k_ => q_callp (Fd.neg_e x) k_) ?_
  refine De2g (fun _ k_ => q_callp (inv_e (-x)) k_) ?_
  refine DLwg ?_
  refine De2g (fun _ k_ => q_callp (inv_e x) k_) ?_
  refine De2g (fun _ k_ => q_callp (Fd.neg_e (inv x)) k_) ?_
  refine De2g (fun _ k_ => q_callp (eq_t _ _ (inv_neg x)) k_) ?_
  refine Dpg (fun _ => q_notb ⟨rfl, rfl⟩) ?_
  refine Dp (fun _ => q_pkf ⟨rfl, rfl⟩) ?_
  refine dend ?_
  refine cndF ?_
  refine awp_skip ?_
  refine awp_seq ?_
  refine rln ?_
  refine G2 (fun _ k_ => q_callp (small_1) k_ (ha := (cac rfl cm_int ca0))) ?_
  refine G2 (fun _ k_ => q_al k_) ?_
  refine G20 (fun _ k_ => q_stw k_) ?_
  refine gend ?_
  refine awp_seq ?_
  refine rln ?_
  refine G (q_ldw ?_)
  refine G (q_ldw ?_)
  refine G2 (fun _ k_ => q_callp (gR) k_) ?_
  refine G (q_mv (s := .t _) ?_)
  refine G (q_ext (y := .a _) ?_)
  refine G (q_ext (y := .c _) ?_)
  refine G2 (fun _ k_ => q_al k_) ?_
  refine G20 (fun _ k_ => q_stw k_) ?_
  refine As ?_
  refine gend ?_
  refine awp_mid ⟨frm 134 [(5, sc (.ptr 2 0)), (6, sc (.ptr 3 0)), (7, sc (.ptr 4 0)), (8, sc (.ptr 5 0)), (9, sc (.bool true)), (10, sc (.ptr 6 0)), (11, sc (.bool true))], [some (u8s a), some (u8s b), some (u64s (el x)), some (u64s (el y)), some (u64s (el 1)), some (u64s (el r)), some (u64s (el s))]⟩ ?_ ?_
  · refine rdm [1, 3, 7, 8] [⟨[0, 1, 2, 3, 4, 5, 6, 7, 8, 9], [1, 3, 7, 8], [1, 3, 7, 8], [0, 0, 0, 1, 2, 2, 2, 2, 3, 4], [0, 1, 1, 2, 3, 3, 4, 3, 4, 4]⟩, ⟨[0, 1, 2, 7, 3, 4, 5, 6, 8, 9], [1, 7, 3, 8], [1, 3, 4, 8], [0, 0, 0, 1, 2, 3, 3, 3, 3, 4], [0, 1, 2, 2, 3, 3, 3, 4, 4, 4]⟩, ⟨[0, 2, 7, 1, 3, 4, 5, 6, 8, 9], [7, 1, 3, 8], [2, 3, 4, 8], [0, 0, 0, 1, 2, 3, 3, 3, 3, 4], [1, 2, 1, 2, 3, 3, 3, 4, 4, 4]⟩] ⟨?_, ?_, ?_, trivial⟩   -- region 6
    · refine DLw ?_
      refine De2 (fun _ k_ => q_callp (Fd.neg_e x) k_) ?_
      refine DLw ?_
      refine De2 (fun _ k_ => q_callp (gS) k_) ?_
      refine Dp (fun _ => q_mv (s := .t _) ⟨rfl, rfl⟩) ?_
      refine Dp (fun _ => q_ext (y := .a _) ⟨rfl, rfl⟩) ?_
      refine Dp (fun _ => q_ext (y := .c _) ⟨rfl, rfl⟩) ?_
      refine De2 (fun _ k_ => q_al k_) ?_
      refine De20 (fun _ k_ => q_stw k_) ?_
      refine Dp (fun _ => q_as (s := .v (.c _)) ⟨rfl, rfl⟩) ?_
      refine dend ?_
      exact sle_sub ⟨rfl, rfl, rfl, rfl, rfl, rfl, rfl, trivial⟩ rfl
    · refine DLw ?_
      refine De2 (fun _ k_ => q_callp (Fd.neg_e x) k_) ?_
      refine DLw ?_
      refine De2 (fun _ k_ => q_al k_) ?_
      refine De2 (fun _ k_ => q_callp (gS) k_) ?_
      refine Dp (fun _ => q_mv (s := .t _) ⟨rfl, rfl⟩) ?_
      refine Dp (fun _ => q_ext (y := .a _) ⟨rfl, rfl⟩) ?_
      refine Dp (fun _ => q_ext (y := .c _) ⟨rfl, rfl⟩) ?_
      refine De20 (fun _ k_ => q_stw k_) ?_
      refine Dp (fun _ => q_as (s := .v (.c _)) ⟨rfl, rfl⟩) ?_
      refine dend ?_
      exact sle_sub ⟨rfl, rfl, rfl, rfl, rfl, rfl, rfl, trivial⟩ rfl
    refine DLw ?_
    refine DLw ?_
    refine De2 (fun _ k_ => q_al k_) ?_
    refine De2 (fun _ k_ => q_callp (Fd.neg_e x) k_) ?_
    refine De2 (fun _ k_ => q_callp (gS) k_) ?_
    refine Dp (fun _ => q_mv (s := .t _) ⟨rfl, rfl⟩) ?_
    refine Dp (fun _ => q_ext (y := .a _) ⟨rfl, rfl⟩) ?_
    refine Dp (fun _ => q_ext (y := .c _) ⟨rfl, rfl⟩) ?_
    refine De20 (fun _ k_ => q_stw k_) ?_
    refine Dp (fun _ => q_as (s := .v (.c _)) ⟨rfl, rfl⟩) ?_
    refine dend ?_
    exact sle_sub ⟨rfl, rfl, rfl, rfl, rfl, rfl, rfl, trivial⟩ rfl
  refine awp_seq ?_
  refine awp_seq ?_
  refine rdln [7, 9, 13, 15, 16] [0, 0, 0, 0, 0, 0, 0, 0, 0, 1, 2, 2, 2, 2, 2, 3, 4, 5, 5, 5, 5] [0, 0, 0, 0, 0, 0, 0, 1, 1, 2, 2, 2, 2, 3, 3, 4, 5, 5, 5, 5, 5] ?_
  refine Dp (fun _ => q_mv (s := .v (.c _)) ⟨rfl, rfl⟩) ?_
  refine Dp (fun _ => q_mv (s := .v (.c _)) ⟨rfl, rfl⟩) ?_
  refine Dp (fun _ => q_neqb ⟨rfl, rfl⟩) ?_
  refine Dp (fun _ => q_mv (s := .v (.c _)) ⟨rfl, rfl⟩) ?_
  refine Dkf 66 (fun hb4 => ?_) ?_; rotate_left
  · rfl
  refine Dpg (fun _ => q_mv (s := .v (.c _)) ⟨rfl, rfl⟩) ?_
  refine Dpg (fun _ => q_mv (s := .v (.c _)) ⟨rfl, rfl⟩) ?_
  refine Dkn 68 (fun hb6 => ?_) ?_; rotate_left
  · rfl
  refine DLwg ?_
  refine De2g (fun _ k_ => q_callp (square_e r) k_) ?_
  refine DLwg ?_
  refine De2g (fun _ k_ => q_callp (eq_t _ _ q1) k_) ?_
  refine Dpg (fun _ => q_notb ⟨rfl, rfl⟩) ?_
  refine Dpg (fun _ => q_mv (s := .v (.c _)) ⟨rfl, rfl⟩) ?_
  refine DLwg ?_
  refine De2g (fun _ k_ => q_callp (square_e s) k_) ?_
  refine DLwg ?_
  refine De2g (fun _ k_ => q_callp (Fd.neg_e x) k_) ?_
  refine De2g (fun _ k_ => q_callp (eq_t _ _ q2) k_) ?_
  refine Dpg (fun _ => q_notb ⟨rfl, rfl⟩) ?_
  refine Dpg (fun _ => q_pkf ⟨rfl, rfl⟩) ?_
  refine Dpg (fun _ => q_pkt ⟨rfl, rfl⟩) ?_
  refine Dp (fun _ => q_pkf ⟨rfl, rfl⟩) ?_
  refine dend ?_
  refine cndF ?_
  refine awp_skip ?_
  refine awp_mid ⟨frm 134 [(5, sc (.ptr 2 0)), (6, sc (.ptr 3 0)), (7, sc (.ptr 4 0)), (9, sc (.bool true)), (12, sc (.ptr 7 0)), (13, sc (.bool true))], [some (u8s a), some (u8s b), some (u64s (el x)), some (u64s (el y)), some (u64s (el 1)), some (u64s (el r)), some (u64s (el s)), some (u64s (el t))]⟩ ?_ ?_
  · refine rdm [2, 4, 8, 9] [⟨[0, 1, 2, 3, 4, 5, 6, 7, 8, 9, 10], [2, 4, 8, 9], [2, 4, 8, 9], [0, 0, 0, 0, 1, 2, 2, 2, 2, 3, 4], [0, 0, 1, 1, 2, 3, 3, 4, 3, 4, 4]⟩, ⟨[0, 1, 2, 3, 8, 4, 5, 6, 7, 9, 10], [2, 8, 4, 9], [2, 4, 5, 9], [0, 0, 0, 0, 1, 2, 3, 3, 3, 3, 4], [0, 0, 1, 2, 2, 3, 3, 3, 4, 4, 4]⟩, ⟨[0, 1, 3, 8, 2, 4, 5, 6, 7, 9, 10], [8, 2, 4, 9], [3, 4, 5, 9], [0, 0, 0, 0, 1, 2, 3, 3, 3, 3, 4], [1, 1, 2, 1, 2, 3, 3, 3, 4, 4, 4]⟩] ⟨?_, ?_, ?_, trivial⟩   -- region 9
    · refine DLw ?_
      refine DLw ?_
      refine De2 (fun _ k_ => q_callp (Fd.mul_e x y) k_) ?_
      refine DLw ?_
      refine De2 (fun _ k_ => q_callp (gT) k_) ?_
      refine Dp (fun _ => q_mv (s := .t _) ⟨rfl, rfl⟩) ?_
      refine Dp (fun _ => q_ext (y := .a _) ⟨rfl, rfl⟩) ?_
      refine Dp (fun _ => q_ext (y := .c _) ⟨rfl, rfl⟩) ?_
      refine De2 (fun _ k_ => q_al k_) ?_
      refine De20 (fun _ k_ => q_stw k_) ?_
      refine Dp (fun _ => q_as (s := .v (.c _)) ⟨rfl, rfl⟩) ?_
      refine dend ?_
      exact sle_sub ⟨rfl, rfl, rfl, rfl, rfl, rfl, trivial⟩ rfl
    · refine DLw ?_
      refine DLw ?_
      refine De2 (fun _ k_ => q_callp (Fd.mul_e x y) k_) ?_
      refine DLw ?_
      refine De2 (fun _ k_ => q_al k_) ?_
      refine De2 (fun _ k_ => q_callp (gT) k_) ?_
      refine Dp (fun _ => q_mv (s := .t _) ⟨rfl, rfl⟩) ?_
      refine Dp (fun _ => q_ext (y := .a _) ⟨rfl, rfl⟩) ?_
      refine Dp (fun _ => q_ext (y := .c _) ⟨rfl, rfl⟩) ?_
      refine De20 (fun _ k_ => q_stw k_) ?_
      refine Dp (fun _ => q_as (s := .v (.c _)) ⟨rfl, rfl⟩) ?_
      refine dend ?_
      exact sle_sub ⟨rfl, rfl, rfl, rfl, rfl, rfl, trivial⟩ rfl
    refine DLw ?_
    refine DLw ?_
    refine DLw ?_
    refine De2 (fun _ k_ => q_al k_) ?_
    refine De2 (fun _ k_ => q_callp (Fd.mul_e x y) k_) ?_
    refine De2 (fun _ k_ => q_callp (gT) k_) ?_
    refine Dp (fun _ => q_mv (s := .t _) ⟨rfl, rfl⟩) ?_
    refine Dp (fun _ => q_ext (y := .a _) ⟨rfl, rfl⟩) ?_
    refine Dp (fun _ => q_ext (y := .c _) ⟨rfl, rfl⟩) ?_
    refine De20 (fun _ k_ => q_stw k_) ?_
    refine Dp (fun _ => q_as (s := .v (.c _)) ⟨rfl, rfl⟩) ?_
    refine dend ?_
    exact sle_sub ⟨rfl, rfl, rfl, rfl, rfl, rfl, trivial⟩ rfl
  refine awp_seq ?_
  refine rln ?_
  refine G (q_ldw ?_)
  refine G (q_ldw ?_)
  refine G2 (fun _ k_ => q_callp (gO) k_) ?_
  refine G (q_mv (s := .t _) ?_)
  refine G (q_ext (y := .a _) ?_)
  refine G (q_ext (y := .c _) ?_)
  refine G2 (fun _ k_ => q_al k_) ?_
  refine G20 (fun _ k_ => q_stw k_) ?_
  refine As ?_
  refine gend ?_
  refine awp_seq ?_
  refine awp_seq ?_
  refine rln ?_
  refine Mv ?_
  refine Mv ?_
  refine Akn 99 (fun hb2 => ?_) ?_; rotate_left
  · rfl
  refine Gg (q_mv (s := .v (.c _)) ?_)
  refine G (q_pkt ?_)
  refine Mv ?_
  refine Akn 102 (fun hb5 => ?_) ?_; rotate_left
  · rfl
  refine Gn ?_
  refine Gn ?_
  refine Gn ?_
  refine Gu ?_
  refine Gu ?_
  refine Gn ?_
  refine G (q_pkt ?_)
  refine gend ?_
  refine cndT ?_
  refine awp_seq ?_
  refine rdln [3, 6, 7, 10] [0, 0, 0, 0, 0, 0, 1, 2, 3, 3, 3, 4, 4] [0, 0, 0, 1, 1, 1, 2, 3, 3, 3, 4, 4, 4] ?_
  refine Dp (fun _ => q_mv (s := .v (.c _)) ⟨rfl, rfl⟩) ?_
  refine Dp (fun _ => q_mv (s := .v (.c _)) ⟨rfl, rfl⟩) ?_
  refine Dkn 111 (fun hb2 => ?_) ?_; rotate_left
  · rfl
  refine DLwg ?_
  refine De2g (fun _ k_ => q_callp (square_e t) k_) ?_
  refine DLwg ?_
  refine DLwg ?_
  refine De2g (fun _ k_ => q_callp (Fd.mul_e x y) k_) ?_
  refine De2g (fun _ k_ => q_callp (eq_t _ _ q3) k_) ?_
  refine Dp (fun _ => q_pkt ⟨rfl, rfl⟩) ?_
  refine Dp (fun _ => q_mv (s := .v (.c _)) ⟨rfl, rfl⟩) ?_
  refine De2g (fun _ k_ => q_callp (known_) k_) ?_
  refine Dp (fun _ => q_pkt ⟨rfl, rfl⟩) ?_
  refine Dp (fun _ => q_as (s := .v (.c _)) ⟨rfl, rfl⟩) ?_
  refine dend ?_
  refine awp_ret ?_
  exact fp1
set_option maxHeartbeats 3200000 in
/-- escutcheonlaw02.FieldInverts -/
theorem inverts_fft (a b : List UInt8) (ha : a.length = 32) (hb : b.length = 32) (h1 : ok1 (fb a) = false) (h2 : ok1 (fb b) = false) (h3 : ok1 (fb a * fb b) = true) : Good Try.prog 9 [.a (u8s a), .a (u8s b)] [] (sc (.bool true)) [] := by
  have ga := of_e a ha
  have gb := of_e b hb
  generalize fb a = x at ga h1 h3
  generalize fb b = y at gb h2 h3
  have hn := (ok1_neg x).trans h1
  have gR := root_e x 1
  have gS := root_e (-x) 1
  have gT := root_e (x * y) 1
  have gO := root_e y 1
  rw [show rOk x 1 = _ from h1] at gR
  rw [show rOk (-x) 1 = _ from hn] at gS
  rw [show rOk (x * y) 1 = _ from h3] at gT
  rw [show rOk y 1 = _ from h2] at gO
  have q3 := ok1_sq h3
  generalize rRt x 1 = r at gR
  generalize rRt (-x) 1 = s at gS
  generalize rRt (x * y) 1 = t at gT q3
  generalize rRt y 1 = o at gO
  refine good_frm 134 Try.func9 rfl rfl rfl rfl rfl rfl ?_
  refine awp_seq ?_
  refine rln ?_
  refine G2 (fun _ k_ => q_boxa k_) ?_
  refine G2 (fun _ k_ => q_boxa k_) ?_
  refine As ?_
  refine gend ?_
  refine awp_mid ⟨frm 134 [(2, sc (.ptr 0 0)), (3, sc (.ptr 1 0)), (5, sc (.ptr 2 0)), (6, sc (.ptr 3 0))], [some (u8s a), some (u8s b), some (u64s (el x)), some (u64s (el y))]⟩ ?_ ?_
  · refine rdm [1, 3, 4, 5, 6, 7] [⟨[0, 1, 2, 3, 4, 5, 6, 7], [1, 3, 4, 5, 6, 7], [1, 3, 4, 5, 6, 7], [0, 0, 0, 1, 2, 3, 4, 5], [0, 1, 1, 2, 3, 4, 5, 6]⟩, ⟨[0, 1, 2, 3, 5, 4, 6, 7], [1, 3, 5, 4, 6, 7], [1, 3, 4, 5, 6, 7], [0, 0, 0, 1, 2, 3, 4, 5], [0, 1, 1, 2, 3, 4, 5, 6]⟩, ⟨[0, 1, 2, 4, 3, 5, 6, 7], [1, 4, 3, 5, 6, 7], [1, 3, 4, 5, 6, 7], [0, 0, 0, 1, 2, 3, 4, 5], [0, 1, 2, 2, 3, 4, 5, 6]⟩, ⟨[0, 1, 2, 4, 5, 3, 6, 7], [1, 4, 5, 3, 6, 7], [1, 3, 4, 5, 6, 7], [0, 0, 0, 1, 2, 3, 4, 5], [0, 1, 3, 2, 3, 4, 5, 6]⟩, ⟨[0, 1, 2, 5, 3, 4, 6, 7], [1, 5, 3, 4, 6, 7], [1, 3, 4, 5, 6, 7], [0, 0, 0, 1, 2, 3, 4, 5], [0, 1, 2, 2, 3, 4, 5, 6]⟩, ⟨[0, 1, 2, 5, 4, 3, 6, 7], [1, 5, 4, 3, 6, 7], [1, 3, 4, 5, 6, 7], [0, 0, 0, 1, 2, 3, 4, 5], [0, 1, 3, 2, 3, 4, 5, 6]⟩, ⟨[0, 2, 4, 1, 3, 5, 6, 7], [4, 1, 3, 5, 6, 7], [2, 3, 4, 5, 6, 7], [0, 0, 0, 1, 2, 3, 4, 5], [1, 2, 1, 2, 3, 4, 5, 6]⟩, ⟨[0, 2, 4, 1, 5, 3, 6, 7], [4, 1, 5, 3, 6, 7], [2, 3, 4, 5, 6, 7], [0, 0, 0, 1, 2, 3, 4, 5], [1, 3, 1, 2, 3, 4, 5, 6]⟩, ⟨[0, 2, 4, 5, 1, 3, 6, 7], [4, 5, 1, 3, 6, 7], [2, 3, 4, 5, 6, 7], [0, 0, 0, 1, 2, 3, 4, 5], [2, 3, 1, 2, 3, 4, 5, 6]⟩, ⟨[0, 2, 5, 1, 3, 4, 6, 7], [5, 1, 3, 4, 6, 7], [2, 3, 4, 5, 6, 7], [0, 0, 0, 1, 2, 3, 4, 5], [1, 2, 1, 2, 3, 4, 5, 6]⟩, ⟨[0, 2, 5, 1, 4, 3, 6, 7], [5, 1, 4, 3, 6, 7], [2, 3, 4, 5, 6, 7], [0, 0, 0, 1, 2, 3, 4, 5], [1, 3, 1, 2, 3, 4, 5, 6]⟩, ⟨[0, 2, 5, 4, 1, 3, 6, 7], [5, 4, 1, 3, 6, 7], [2, 3, 4, 5, 6, 7], [0, 0, 0, 1, 2, 3, 4, 5], [2, 3, 1, 2, 3, 4, 5, 6]⟩] ⟨?_, ?_, ?_, ?_, ?_, ?_, ?_, ?_, ?_, ?_, ?_, ?_, trivial⟩   -- region 1
    · refine DLw ?_
      refine De2 (fun _ k_ => q_callp (ga) k_) ?_
      refine DLw ?_
      refine De2 (fun _ k_ => q_callp (gb) k_) ?_
      refine De2 (fun _ k_ => q_al k_) ?_
      refine De2 (fun _ k_ => q_al k_) ?_
      refine De20 (fun _ k_ => q_stw k_) ?_
      refine De20 (fun _ k_ => q_stw k_) ?_
      refine dend ?_
      exact sle_sub ⟨rfl, rfl, rfl, rfl, trivial⟩ rfl
    · refine DLw ?_
      refine De2 (fun _ k_ => q_callp (ga) k_) ?_
      refine DLw ?_
      refine De2 (fun _ k_ => q_callp (gb) k_) ?_
      refine De2 (fun _ k_ => q_al k_) ?_
      refine De2 (fun _ k_ => q_al k_) ?_
      refine De20 (fun _ k_ => q_stw k_) ?_
      refine De20 (fun _ k_ => q_stw k_) ?_
      refine dend ?_
      exact sle_view [0, 1, 3, 2] (fun p h => absurd h (Nat.not_lt_zero _)) (by decide) ⟨rfl, rfl, rfl, rfl, trivial⟩ (Eq.symm (pl1 rfl sees_m (pl1 rfl sees_m (pl1 rfl sees_m (pl1 rfl sees_m pl0)))))
    · refine DLw ?_
      refine De2 (fun _ k_ => q_callp (ga) k_) ?_
      refine DLw ?_
      refine De2 (fun _ k_ => q_al k_) ?_
      refine De2 (fun _ k_ => q_callp (gb) k_) ?_
      refine De2 (fun _ k_ => q_al k_) ?_
      refine De20 (fun _ k_ => q_stw k_) ?_
      refine De20 (fun _ k_ => q_stw k_) ?_
      refine dend ?_
      exact sle_sub ⟨rfl, rfl, rfl, rfl, trivial⟩ rfl
    · refine DLw ?_
      refine De2 (fun _ k_ => q_callp (ga) k_) ?_
      refine DLw ?_
      refine De2 (fun _ k_ => q_al k_) ?_
      refine De2 (fun _ k_ => q_al k_) ?_
      refine De2 (fun _ k_ => q_callp (gb) k_) ?_
      refine De20 (fun _ k_ => q_stw k_) ?_
      refine De20 (fun _ k_ => q_stw k_) ?_
      refine dend ?_
      exact sle_sub ⟨rfl, rfl, rfl, rfl, trivial⟩ rfl
    · refine DLw ?_
      refine De2 (fun _ k_ => q_callp (ga) k_) ?_
      refine DLw ?_
      refine De2 (fun _ k_ => q_al k_) ?_
      refine De2 (fun _ k_ => q_callp (gb) k_) ?_
      refine De2 (fun _ k_ => q_al k_) ?_
      refine De20 (fun _ k_ => q_stw k_) ?_
      refine De20 (fun _ k_ => q_stw k_) ?_
      refine dend ?_
      exact sle_view [0, 1, 3, 2] (fun p h => absurd h (Nat.not_lt_zero _)) (by decide) ⟨rfl, rfl, rfl, rfl, trivial⟩ (Eq.symm (pl1 rfl sees_m (pl1 rfl sees_m (pl1 rfl sees_m (pl1 rfl sees_m pl0)))))
    · refine DLw ?_
      refine De2 (fun _ k_ => q_callp (ga) k_) ?_
      refine DLw ?_
      refine De2 (fun _ k_ => q_al k_) ?_
      refine De2 (fun _ k_ => q_al k_) ?_
      refine De2 (fun _ k_ => q_callp (gb) k_) ?_
      refine De20 (fun _ k_ => q_stw k_) ?_
      refine De20 (fun _ k_ => q_stw k_) ?_
      refine dend ?_
      exact sle_view [0, 1, 3, 2] (fun p h => absurd h (Nat.not_lt_zero _)) (by decide) ⟨rfl, rfl, rfl, rfl, trivial⟩ (Eq.symm (pl1 rfl sees_m (pl1 rfl sees_m (pl1 rfl sees_m (pl1 rfl sees_m pl0)))))
    · refine DLw ?_
      refine DLw ?_
      refine De2 (fun _ k_ => q_al k_) ?_
      refine De2 (fun _ k_ => q_callp (ga) k_) ?_
      refine De2 (fun _ k_ => q_callp (gb) k_) ?_
      refine De2 (fun _ k_ => q_al k_) ?_
      refine De20 (fun _ k_ => q_stw k_) ?_
      refine De20 (fun _ k_ => q_stw k_) ?_
      refine dend ?_
      exact sle_sub ⟨rfl, rfl, rfl, rfl, trivial⟩ rfl
    · refine DLw ?_
      refine DLw ?_
      refine De2 (fun _ k_ => q_al k_) ?_
      refine De2 (fun _ k_ => q_callp (ga) k_) ?_
      refine De2 (fun _ k_ => q_al k_) ?_
      refine De2 (fun _ k_ => q_callp (gb) k_) ?_
      refine De20 (fun _ k_ => q_stw k_) ?_
      refine De20 (fun _ k_ => q_stw k_) ?_
      refine dend ?_
      exact sle_sub ⟨rfl, rfl, rfl, rfl, trivial⟩ rfl
    · refine DLw ?_
      refine DLw ?_
      refine De2 (fun _ k_ => q_al k_) ?_
      refine De2 (fun _ k_ => q_al k_) ?_
      refine De2 (fun _ k_ => q_callp (ga) k_) ?_
      refine De2 (fun _ k_ => q_callp (gb) k_) ?_
      refine De20 (fun _ k_ => q_stw k_) ?_
      refine De20 (fun _ k_ => q_stw k_) ?_
      refine dend ?_
      exact sle_sub ⟨rfl, rfl, rfl, rfl, trivial⟩ rfl
    · refine DLw ?_
      refine DLw ?_
      refine De2 (fun _ k_ => q_al k_) ?_
      refine De2 (fun _ k_ => q_callp (ga) k_) ?_
      refine De2 (fun _ k_ => q_callp (gb) k_) ?_
      refine De2 (fun _ k_ => q_al k_) ?_
      refine De20 (fun _ k_ => q_stw k_) ?_
      refine De20 (fun _ k_ => q_stw k_) ?_
      refine dend ?_
      exact sle_view [0, 1, 3, 2] (fun p h => absurd h (Nat.not_lt_zero _)) (by decide) ⟨rfl, rfl, rfl, rfl, trivial⟩ (Eq.symm (pl1 rfl sees_m (pl1 rfl sees_m (pl1 rfl sees_m (pl1 rfl sees_m pl0)))))
    · refine DLw ?_
      refine DLw ?_
      refine De2 (fun _ k_ => q_al k_) ?_
      refine De2 (fun _ k_ => q_callp (ga) k_) ?_
      refine De2 (fun _ k_ => q_al k_) ?_
      refine De2 (fun _ k_ => q_callp (gb) k_) ?_
      refine De20 (fun _ k_ => q_stw k_) ?_
      refine De20 (fun _ k_ => q_stw k_) ?_
      refine dend ?_
      exact sle_view [0, 1, 3, 2] (fun p h => absurd h (Nat.not_lt_zero _)) (by decide) ⟨rfl, rfl, rfl, rfl, trivial⟩ (Eq.symm (pl1 rfl sees_m (pl1 rfl sees_m (pl1 rfl sees_m (pl1 rfl sees_m pl0)))))
    refine DLw ?_
    refine DLw ?_
    refine De2 (fun _ k_ => q_al k_) ?_
    refine De2 (fun _ k_ => q_al k_) ?_
    refine De2 (fun _ k_ => q_callp (ga) k_) ?_
    refine De2 (fun _ k_ => q_callp (gb) k_) ?_
    refine De20 (fun _ k_ => q_stw k_) ?_
    refine De20 (fun _ k_ => q_stw k_) ?_
    refine dend ?_
    exact sle_view [0, 1, 3, 2] (fun p h => absurd h (Nat.not_lt_zero _)) (by decide) ⟨rfl, rfl, rfl, rfl, trivial⟩ (Eq.symm (pl1 rfl sees_m (pl1 rfl sees_m (pl1 rfl sees_m (pl1 rfl sees_m pl0)))))
  refine awp_seq ?_
  refine awp_seq ?_
  refine rdln [2, 3, 5, 7, 8, 9, 13, 14, 16, 21, 22, 24, 25, 26] [0, 0, 0, 1, 0, 2, 0, 3, 4, 5, 6, 6, 6, 6, 7, 6, 8, 9, 9, 9, 9, 9, 10, 9, 11, 12, 13, 14, 14] [0, 0, 1, 2, 2, 3, 3, 4, 5, 6, 6, 6, 6, 7, 8, 8, 9, 9, 9, 9, 9, 10, 11, 11, 12, 13, 14, 14, 14] ?_
  refine DLw ?_
  refine DLw ?_
  refine De2 (fun _ k_ => q_callp (Fd.mul_e x y) k_) ?_
  refine De2 (fun _ k_ => q_callp (inv_e (x * y)) k_) ?_
  refine DLw ?_
  refine De2 (fun _ k_ => q_callp (inv_e x) k_) ?_
  refine DLw ?_
  refine De2 (fun _ k_ => q_callp (inv_e y) k_) ?_
  refine De2 (fun _ k_ => q_callp (Fd.mul_e (inv x) (inv y)) k_) ?_
  refine De2 (fun _ k_ => q_callp (eq_t _ _ (inv_mul x y)) k_) ?_
  refine Dp (fun _ => q_notb ⟨rfl, rfl⟩) ?_
  refine Dp (fun _ => q_mv (s := .v (.c _)) ⟨rfl, rfl⟩) ?_
  refine DLwg ?_
  refine De2g (fun _ k_ => q_callp (inv_e x) k_) ?_
  refine De2g (fun _ k_ => q_callp (inv_e (inv x)) k_) ?_
  refine DLwg ?_
  refine De2g (fun _ k_ => q_callp (eq_t _ _ (inv_inv x)) k_) ?_
  refine Dpg (fun _ => q_notb ⟨rfl, rfl⟩) ?_
  refine Dp (fun _ => q_pkf ⟨rfl, rfl⟩) ?_
  refine Dp (fun _ => q_mv (s := .v (.c _)) ⟨rfl, rfl⟩) ?_
  refine DLwg ?_
  refine De2g (fun _ k_ => q_callp (Fd.neg_e x) k_) ?_
  refine De2g (fun _ k_ => q_callp (inv_e (-x)) k_) ?_
  refine DLwg ?_
  refine De2g (fun _ k_ => q_callp (inv_e x) k_) ?_
  refine De2g (fun _ k_ => q_callp (Fd.neg_e (inv x)) k_) ?_
  refine De2g (fun _ k_ => q_callp (eq_t _ _ (inv_neg x)) k_) ?_
  refine Dpg (fun _ => q_notb ⟨rfl, rfl⟩) ?_
  refine Dp (fun _ => q_pkf ⟨rfl, rfl⟩) ?_
  refine dend ?_
  refine cndF ?_
  refine awp_skip ?_
  refine awp_seq ?_
  refine rln ?_
  refine G2 (fun _ k_ => q_callp (small_1) k_ (ha := (cac rfl cm_int ca0))) ?_
  refine G2 (fun _ k_ => q_al k_) ?_
  refine G20 (fun _ k_ => q_stw k_) ?_
  refine gend ?_
  refine awp_seq ?_
  refine rln ?_
  refine G (q_ldw ?_)
  refine G (q_ldw ?_)
  refine G2 (fun _ k_ => q_callp (gR) k_) ?_
  refine G (q_mv (s := .t _) ?_)
  refine G (q_ext (y := .a _) ?_)
  refine G (q_ext (y := .c _) ?_)
  refine G2 (fun _ k_ => q_al k_) ?_
  refine G20 (fun _ k_ => q_stw k_) ?_
  refine As ?_
  refine gend ?_
  refine awp_mid ⟨frm 134 [(5, sc (.ptr 2 0)), (6, sc (.ptr 3 0)), (7, sc (.ptr 4 0)), (8, sc (.ptr 5 0)), (9, sc (.bool false)), (10, sc (.ptr 6 0)), (11, sc (.bool false))], [some (u8s a), some (u8s b), some (u64s (el x)), some (u64s (el y)), some (u64s (el 1)), some (u64s (el r)), some (u64s (el s))]⟩ ?_ ?_
  · refine rdm [1, 3, 7, 8] [⟨[0, 1, 2, 3, 4, 5, 6, 7, 8, 9], [1, 3, 7, 8], [1, 3, 7, 8], [0, 0, 0, 1, 2, 2, 2, 2, 3, 4], [0, 1, 1, 2, 3, 3, 4, 3, 4, 4]⟩, ⟨[0, 1, 2, 7, 3, 4, 5, 6, 8, 9], [1, 7, 3, 8], [1, 3, 4, 8], [0, 0, 0, 1, 2, 3, 3, 3, 3, 4], [0, 1, 2, 2, 3, 3, 3, 4, 4, 4]⟩, ⟨[0, 2, 7, 1, 3, 4, 5, 6, 8, 9], [7, 1, 3, 8], [2, 3, 4, 8], [0, 0, 0, 1, 2, 3, 3, 3, 3, 4], [1, 2, 1, 2, 3, 3, 3, 4, 4, 4]⟩] ⟨?_, ?_, ?_, trivial⟩   -- region 6
    · refine DLw ?_
      refine De2 (fun _ k_ => q_callp (Fd.neg_e x) k_) ?_
      refine DLw ?_
      refine De2 (fun _ k_ => q_callp (gS) k_) ?_
      refine Dp (fun _ => q_mv (s := .t _) ⟨rfl, rfl⟩) ?_
      refine Dp (fun _ => q_ext (y := .a _) ⟨rfl, rfl⟩) ?_
      refine Dp (fun _ => q_ext (y := .c _) ⟨rfl, rfl⟩) ?_
      refine De2 (fun _ k_ => q_al k_) ?_
      refine De20 (fun _ k_ => q_stw k_) ?_
      refine Dp (fun _ => q_as (s := .v (.c _)) ⟨rfl, rfl⟩) ?_
      refine dend ?_
      exact sle_sub ⟨rfl, rfl, rfl, rfl, rfl, rfl, rfl, trivial⟩ rfl
    · refine DLw ?_
      refine De2 (fun _ k_ => q_callp (Fd.neg_e x) k_) ?_
      refine DLw ?_
      refine De2 (fun _ k_ => q_al k_) ?_
      refine De2 (fun _ k_ => q_callp (gS) k_) ?_
      refine Dp (fun _ => q_mv (s := .t _) ⟨rfl, rfl⟩) ?_
      refine Dp (fun _ => q_ext (y := .a _) ⟨rfl, rfl⟩) ?_
      refine Dp (fun _ => q_ext (y := .c _) ⟨rfl, rfl⟩) ?_
      refine De20 (fun _ k_ => q_stw k_) ?_
      refine Dp (fun _ => q_as (s := .v (.c _)) ⟨rfl, rfl⟩) ?_
      refine dend ?_
      exact sle_sub ⟨rfl, rfl, rfl, rfl, rfl, rfl, rfl, trivial⟩ rfl
    refine DLw ?_
    refine DLw ?_
    refine De2 (fun _ k_ => q_al k_) ?_
    refine De2 (fun _ k_ => q_callp (Fd.neg_e x) k_) ?_
    refine De2 (fun _ k_ => q_callp (gS) k_) ?_
    refine Dp (fun _ => q_mv (s := .t _) ⟨rfl, rfl⟩) ?_
    refine Dp (fun _ => q_ext (y := .a _) ⟨rfl, rfl⟩) ?_
    refine Dp (fun _ => q_ext (y := .c _) ⟨rfl, rfl⟩) ?_
    refine De20 (fun _ k_ => q_stw k_) ?_
    refine Dp (fun _ => q_as (s := .v (.c _)) ⟨rfl, rfl⟩) ?_
    refine dend ?_
    exact sle_sub ⟨rfl, rfl, rfl, rfl, rfl, rfl, rfl, trivial⟩ rfl
  refine awp_seq ?_
  refine awp_seq ?_
  refine rdln [7, 9, 13, 15, 16] [0, 0, 0, 0, 0, 0, 0, 0, 0, 1, 2, 2, 2, 2, 2, 3, 4, 5, 5, 5, 5] [0, 0, 0, 0, 0, 0, 0, 1, 1, 2, 2, 2, 2, 3, 3, 4, 5, 5, 5, 5, 5] ?_
  refine Dp (fun _ => q_mv (s := .v (.c _)) ⟨rfl, rfl⟩) ?_
  refine Dp (fun _ => q_mv (s := .v (.c _)) ⟨rfl, rfl⟩) ?_
  refine Dp (fun _ => q_neqb ⟨rfl, rfl⟩) ?_
  refine Dp (fun _ => q_mv (s := .v (.c _)) ⟨rfl, rfl⟩) ?_
  refine Dkf 66 (fun hb4 => ?_) ?_; rotate_left
  · rfl
  refine Dpg (fun _ => q_mv (s := .v (.c _)) ⟨rfl, rfl⟩) ?_
  refine Dpg (fun _ => q_mv (s := .v (.c _)) ⟨rfl, rfl⟩) ?_
  refine Dkf 68 (fun hb6 => ?_) ?_; rotate_left
  · rfl
  refine Dn ?_
  refine Dm ?_
  refine Dn ?_
  refine Dm ?_
  refine Dn ?_
  refine Dn ?_
  refine Du ?_
  refine Dmu ?_
  refine Du ?_
  refine Dmu ?_
  refine Dmu ?_
  refine Du ?_
  refine Dn ?_
  refine Dpg (fun _ => q_pkf ⟨rfl, rfl⟩) ?_
  refine Dp (fun _ => q_pkf ⟨rfl, rfl⟩) ?_
  refine dend ?_
  refine cndF ?_
  refine awp_skip ?_
  refine awp_mid ⟨frm 134 [(5, sc (.ptr 2 0)), (6, sc (.ptr 3 0)), (7, sc (.ptr 4 0)), (9, sc (.bool false)), (12, sc (.ptr 7 0)), (13, sc (.bool true))], [some (u8s a), some (u8s b), some (u64s (el x)), some (u64s (el y)), some (u64s (el 1)), some (u64s (el r)), some (u64s (el s)), some (u64s (el t))]⟩ ?_ ?_
  · refine rdm [2, 4, 8, 9] [⟨[0, 1, 2, 3, 4, 5, 6, 7, 8, 9, 10], [2, 4, 8, 9], [2, 4, 8, 9], [0, 0, 0, 0, 1, 2, 2, 2, 2, 3, 4], [0, 0, 1, 1, 2, 3, 3, 4, 3, 4, 4]⟩, ⟨[0, 1, 2, 3, 8, 4, 5, 6, 7, 9, 10], [2, 8, 4, 9], [2, 4, 5, 9], [0, 0, 0, 0, 1, 2, 3, 3, 3, 3, 4], [0, 0, 1, 2, 2, 3, 3, 3, 4, 4, 4]⟩, ⟨[0, 1, 3, 8, 2, 4, 5, 6, 7, 9, 10], [8, 2, 4, 9], [3, 4, 5, 9], [0, 0, 0, 0, 1, 2, 3, 3, 3, 3, 4], [1, 1, 2, 1, 2, 3, 3, 3, 4, 4, 4]⟩] ⟨?_, ?_, ?_, trivial⟩   -- region 9
    · refine DLw ?_
      refine DLw ?_
      refine De2 (fun _ k_ => q_callp (Fd.mul_e x y) k_) ?_
      refine DLw ?_
      refine De2 (fun _ k_ => q_callp (gT) k_) ?_
      refine Dp (fun _ => q_mv (s := .t _) ⟨rfl, rfl⟩) ?_
      refine Dp (fun _ => q_ext (y := .a _) ⟨rfl, rfl⟩) ?_
      refine Dp (fun _ => q_ext (y := .c _) ⟨rfl, rfl⟩) ?_
      refine De2 (fun _ k_ => q_al k_) ?_
      refine De20 (fun _ k_ => q_stw k_) ?_
      refine Dp (fun _ => q_as (s := .v (.c _)) ⟨rfl, rfl⟩) ?_
      refine dend ?_
      exact sle_sub ⟨rfl, rfl, rfl, rfl, rfl, rfl, trivial⟩ rfl
    · refine DLw ?_
      refine DLw ?_
      refine De2 (fun _ k_ => q_callp (Fd.mul_e x y) k_) ?_
      refine DLw ?_
      refine De2 (fun _ k_ => q_al k_) ?_
      refine De2 (fun _ k_ => q_callp (gT) k_) ?_
      refine Dp (fun _ => q_mv (s := .t _) ⟨rfl, rfl⟩) ?_
      refine Dp (fun _ => q_ext (y := .a _) ⟨rfl, rfl⟩) ?_
      refine Dp (fun _ => q_ext (y := .c _) ⟨rfl, rfl⟩) ?_
      refine De20 (fun _ k_ => q_stw k_) ?_
      refine Dp (fun _ => q_as (s := .v (.c _)) ⟨rfl, rfl⟩) ?_
      refine dend ?_
      exact sle_sub ⟨rfl, rfl, rfl, rfl, rfl, rfl, trivial⟩ rfl
    refine DLw ?_
    refine DLw ?_
    refine DLw ?_
    refine De2 (fun _ k_ => q_al k_) ?_
    refine De2 (fun _ k_ => q_callp (Fd.mul_e x y) k_) ?_
    refine De2 (fun _ k_ => q_callp (gT) k_) ?_
    refine Dp (fun _ => q_mv (s := .t _) ⟨rfl, rfl⟩) ?_
    refine Dp (fun _ => q_ext (y := .a _) ⟨rfl, rfl⟩) ?_
    refine Dp (fun _ => q_ext (y := .c _) ⟨rfl, rfl⟩) ?_
    refine De20 (fun _ k_ => q_stw k_) ?_
    refine Dp (fun _ => q_as (s := .v (.c _)) ⟨rfl, rfl⟩) ?_
    refine dend ?_
    exact sle_sub ⟨rfl, rfl, rfl, rfl, rfl, rfl, trivial⟩ rfl
  refine awp_seq ?_
  refine rln ?_
  refine G (q_ldw ?_)
  refine G (q_ldw ?_)
  refine G2 (fun _ k_ => q_callp (gO) k_) ?_
  refine G (q_mv (s := .t _) ?_)
  refine G (q_ext (y := .a _) ?_)
  refine G (q_ext (y := .c _) ?_)
  refine G2 (fun _ k_ => q_al k_) ?_
  refine G20 (fun _ k_ => q_stw k_) ?_
  refine As ?_
  refine gend ?_
  refine awp_seq ?_
  refine awp_seq ?_
  refine rln ?_
  refine Mv ?_
  refine Mv ?_
  refine Akf 99 (fun hb2 => ?_) ?_; rotate_left
  · rfl
  refine Gn ?_
  refine G (q_pkf ?_)
  refine Mv ?_
  refine Gg (q_mv (s := .v (.c _)) ?_)
  refine Gg (q_notb ?_)
  refine Gg (q_mv (s := .v (.c _)) ?_)
  refine Gg (q_mv (s := .v (.c _)) ?_)
  refine Gg (q_notb ?_)
  refine Gg (q_pkt ?_)
  refine G (q_pkf ?_)
  refine gend ?_
  refine cndbnY (fun hc1 => ?_) ?_; rotate_left
  · rfl
  refine awp_seq ?_
  refine rdln [3, 6, 7, 10] [0, 0, 0, 0, 0, 0, 1, 2, 3, 3, 3, 4, 4] [0, 0, 0, 1, 1, 1, 2, 3, 3, 3, 4, 4, 4] ?_
  refine Dp (fun _ => q_mv (s := .v (.c _)) ⟨rfl, rfl⟩) ?_
  refine Dp (fun _ => q_mv (s := .v (.c _)) ⟨rfl, rfl⟩) ?_
  refine Dkn 111 (fun hb2 => ?_) ?_; rotate_left
  · rfl
  refine DLwg ?_
  refine De2g (fun _ k_ => q_callp (square_e t) k_) ?_
  refine DLwg ?_
  refine DLwg ?_
  refine De2g (fun _ k_ => q_callp (Fd.mul_e x y) k_) ?_
  refine De2g (fun _ k_ => q_callp (eq_t _ _ q3) k_) ?_
  refine Dp (fun _ => q_pkt ⟨rfl, rfl⟩) ?_
  refine Dp (fun _ => q_mv (s := .v (.c _)) ⟨rfl, rfl⟩) ?_
  refine De2g (fun _ k_ => q_callp (known_) k_) ?_
  refine Dp (fun _ => q_pkt ⟨rfl, rfl⟩) ?_
  refine Dp (fun _ => q_as (s := .v (.c _)) ⟨rfl, rfl⟩) ?_
  refine dend ?_
  refine awp_ret ?_
  exact fp1
set_option maxHeartbeats 3200000 in
/-- escutcheonlaw02.FieldInverts -/
theorem inverts_tft (a b : List UInt8) (ha : a.length = 32) (hb : b.length = 32) (h1 : ok1 (fb a) = true) (h2 : ok1 (fb b) = false) (h3 : ok1 (fb a * fb b) = true) : Good Try.prog 9 [.a (u8s a), .a (u8s b)] [] (sc (.bool true)) [] := by
  have ga := of_e a ha
  have gb := of_e b hb
  generalize fb a = x at ga h1 h3
  generalize fb b = y at gb h2 h3
  have hn := (ok1_neg x).trans h1
  have gR := root_e x 1
  have gS := root_e (-x) 1
  have gT := root_e (x * y) 1
  have gO := root_e y 1
  rw [show rOk x 1 = _ from h1] at gR
  rw [show rOk (-x) 1 = _ from hn] at gS
  rw [show rOk (x * y) 1 = _ from h3] at gT
  rw [show rOk y 1 = _ from h2] at gO
  have q1 := ok1_sq h1
  have q2 := ok1_sq hn
  have q3 := ok1_mul_m h3 (by rw [h1, h2]; decide)
  generalize rRt x 1 = r at gR q1
  generalize rRt (-x) 1 = s at gS q2
  generalize rRt (x * y) 1 = t at gT
  generalize rRt y 1 = o at gO
  refine good_frm 134 Try.func9 rfl rfl rfl rfl rfl rfl ?_
  refine awp_seq ?_
  refine rln ?_
  refine G2 (fun _ k_ => q_boxa k_) ?_
  refine G2 (fun _ k_ => q_boxa k_) ?_
  refine As ?_
  refine gend ?_
  refine awp_mid ⟨frm 134 [(2, sc (.ptr 0 0)), (3, sc (.ptr 1 0)), (5, sc (.ptr 2 0)), (6, sc (.ptr 3 0))], [some (u8s a), some (u8s b), some (u64s (el x)), some (u64s (el y))]⟩ ?_ ?_
  · refine rdm [1, 3, 4, 5, 6, 7] [⟨[0, 1, 2, 3, 4, 5, 6, 7], [1, 3, 4, 5, 6, 7], [1, 3, 4, 5, 6, 7], [0, 0, 0, 1, 2, 3, 4, 5], [0, 1, 1, 2, 3, 4, 5, 6]⟩, ⟨[0, 1, 2, 3, 5, 4, 6, 7], [1, 3, 5, 4, 6, 7], [1, 3, 4, 5, 6, 7], [0, 0, 0, 1, 2, 3, 4, 5], [0, 1, 1, 2, 3, 4, 5, 6]⟩, ⟨[0, 1, 2, 4, 3, 5, 6, 7], [1, 4, 3, 5, 6, 7], [1, 3, 4, 5, 6, 7], [0, 0, 0, 1, 2, 3, 4, 5], [0, 1, 2, 2, 3, 4, 5, 6]⟩, ⟨[0, 1, 2, 4, 5, 3, 6, 7], [1, 4, 5, 3, 6, 7], [1, 3, 4, 5, 6, 7], [0, 0, 0, 1, 2, 3, 4, 5], [0, 1, 3, 2, 3, 4, 5, 6]⟩, ⟨[0, 1, 2, 5, 3, 4, 6, 7], [1, 5, 3, 4, 6, 7], [1, 3, 4, 5, 6, 7], [0, 0, 0, 1, 2, 3, 4, 5], [0, 1, 2, 2, 3, 4, 5, 6]⟩, ⟨[0, 1, 2, 5, 4, 3, 6, 7], [1, 5, 4, 3, 6, 7], [1, 3, 4, 5, 6, 7], [0, 0, 0, 1, 2, 3, 4, 5], [0, 1, 3, 2, 3, 4, 5, 6]⟩, ⟨[0, 2, 4, 1, 3, 5, 6, 7], [4, 1, 3, 5, 6, 7], [2, 3, 4, 5, 6, 7], [0, 0, 0, 1, 2, 3, 4, 5], [1, 2, 1, 2, 3, 4, 5, 6]⟩, ⟨[0, 2, 4, 1, 5, 3, 6, 7], [4, 1, 5, 3, 6, 7], [2, 3, 4, 5, 6, 7], [0, 0, 0, 1, 2, 3, 4, 5], [1, 3, 1, 2, 3, 4, 5, 6]⟩, ⟨[0, 2, 4, 5, 1, 3, 6, 7], [4, 5, 1, 3, 6, 7], [2, 3, 4, 5, 6, 7], [0, 0, 0, 1, 2, 3, 4, 5], [2, 3, 1, 2, 3, 4, 5, 6]⟩, ⟨[0, 2, 5, 1, 3, 4, 6, 7], [5, 1, 3, 4, 6, 7], [2, 3, 4, 5, 6, 7], [0, 0, 0, 1, 2, 3, 4, 5], [1, 2, 1, 2, 3, 4, 5, 6]⟩, ⟨[0, 2, 5, 1, 4, 3, 6, 7], [5, 1, 4, 3, 6, 7], [2, 3, 4, 5, 6, 7], [0, 0, 0, 1, 2, 3, 4, 5], [1, 3, 1, 2, 3, 4, 5, 6]⟩, ⟨[0, 2, 5, 4, 1, 3, 6, 7], [5, 4, 1, 3, 6, 7], [2, 3, 4, 5, 6, 7], [0, 0, 0, 1, 2, 3, 4, 5], [2, 3, 1, 2, 3, 4, 5, 6]⟩] ⟨?_, ?_, ?_, ?_, ?_, ?_, ?_, ?_, ?_, ?_, ?_, ?_, trivial⟩   -- region 1
    · refine DLw ?_
      refine De2 (fun _ k_ => q_callp (ga) k_) ?_
      refine DLw ?_
      refine De2 (fun _ k_ => q_callp (gb) k_) ?_
      refine De2 (fun _ k_ => q_al k_) ?_
      refine De2 (fun _ k_ => q_al k_) ?_
      refine De20 (fun _ k_ => q_stw k_) ?_
      refine De20 (fun _ k_ => q_stw k_) ?_
      refine dend ?_
      exact sle_sub ⟨rfl, rfl, rfl, rfl, trivial⟩ rfl
    · refine DLw ?_
      refine De2 (fun _ k_ => q_callp (ga) k_) ?_
      refine DLw ?_
      refine De2 (fun _ k_ => q_callp (gb) k_) ?_
      refine De2 (fun _ k_ => q_al k_) ?_
      refine De2 (fun _ k_ => q_al k_) ?_
      refine De20 (fun _ k_ => q_stw k_) ?_
      refine De20 (fun _ k_ => q_stw k_) ?_
      refine dend ?_
      exact sle_view [0, 1, 3, 2] (fun p h => absurd h (Nat.not_lt_zero _)) (by decide) ⟨rfl, rfl, rfl, rfl, trivial⟩ (Eq.symm (pl1 rfl sees_m (pl1 rfl sees_m (pl1 rfl sees_m (pl1 rfl sees_m pl0)))))
    · refine DLw ?_
      refine De2 (fun _ k_ => q_callp (ga) k_) ?_
      refine DLw ?_
      refine De2 (fun _ k_ => q_al k_) ?_
      refine De2 (fun _ k_ => q_callp (gb) k_) ?_
      refine De2 (fun _ k_ => q_al k_) ?_
      refine De20 (fun _ k_ => q_stw k_) ?_
      refine De20 (fun _ k_ => q_stw k_) ?_
      refine dend ?_
      exact sle_sub ⟨rfl, rfl, rfl, rfl, trivial⟩ rfl
    · refine DLw ?_
      refine De2 (fun _ k_ => q_callp (ga) k_) ?_
      refine DLw ?_
      refine De2 (fun _ k_ => q_al k_) ?_
      refine De2 (fun _ k_ => q_al k_) ?_
      refine De2 (fun _ k_ => q_callp (gb) k_) ?_
      refine De20 (fun _ k_ => q_stw k_) ?_
      refine De20 (fun _ k_ => q_stw k_) ?_
      refine dend ?_
      exact sle_sub ⟨rfl, rfl, rfl, rfl, trivial⟩ rfl
    · refine DLw ?_
      refine De2 (fun _ k_ => q_callp (ga) k_) ?_
      refine DLw ?_
      refine De2 (fun _ k_ => q_al k_) ?_
      refine De2 (fun _ k_ => q_callp (gb) k_) ?_
      refine De2 (fun _ k_ => q_al k_) ?_
      refine De20 (fun _ k_ => q_stw k_) ?_
      refine De20 (fun _ k_ => q_stw k_) ?_
      refine dend ?_
      exact sle_view [0, 1, 3, 2] (fun p h => absurd h (Nat.not_lt_zero _)) (by decide) ⟨rfl, rfl, rfl, rfl, trivial⟩ (Eq.symm (pl1 rfl sees_m (pl1 rfl sees_m (pl1 rfl sees_m (pl1 rfl sees_m pl0)))))
    · refine DLw ?_
      refine De2 (fun _ k_ => q_callp (ga) k_) ?_
      refine DLw ?_
      refine De2 (fun _ k_ => q_al k_) ?_
      refine De2 (fun _ k_ => q_al k_) ?_
      refine De2 (fun _ k_ => q_callp (gb) k_) ?_
      refine De20 (fun _ k_ => q_stw k_) ?_
      refine De20 (fun _ k_ => q_stw k_) ?_
      refine dend ?_
      exact sle_view [0, 1, 3, 2] (fun p h => absurd h (Nat.not_lt_zero _)) (by decide) ⟨rfl, rfl, rfl, rfl, trivial⟩ (Eq.symm (pl1 rfl sees_m (pl1 rfl sees_m (pl1 rfl sees_m (pl1 rfl sees_m pl0)))))
    · refine DLw ?_
      refine DLw ?_
      refine De2 (fun _ k_ => q_al k_) ?_
      refine De2 (fun _ k_ => q_callp (ga) k_) ?_
      refine De2 (fun _ k_ => q_callp (gb) k_) ?_
      refine De2 (fun _ k_ => q_al k_) ?_
      refine De20 (fun _ k_ => q_stw k_) ?_
      refine De20 (fun _ k_ => q_stw k_) ?_
      refine dend ?_
      exact sle_sub ⟨rfl, rfl, rfl, rfl, trivial⟩ rfl
    · refine DLw ?_
      refine DLw ?_
      refine De2 (fun _ k_ => q_al k_) ?_
      refine De2 (fun _ k_ => q_callp (ga) k_) ?_
      refine De2 (fun _ k_ => q_al k_) ?_
      refine De2 (fun _ k_ => q_callp (gb) k_) ?_
      refine De20 (fun _ k_ => q_stw k_) ?_
      refine De20 (fun _ k_ => q_stw k_) ?_
      refine dend ?_
      exact sle_sub ⟨rfl, rfl, rfl, rfl, trivial⟩ rfl
    · refine DLw ?_
      refine DLw ?_
      refine De2 (fun _ k_ => q_al k_) ?_
      refine De2 (fun _ k_ => q_al k_) ?_
      refine De2 (fun _ k_ => q_callp (ga) k_) ?_
      refine De2 (fun _ k_ => q_callp (gb) k_) ?_
      refine De20 (fun _ k_ => q_stw k_) ?_
      refine De20 (fun _ k_ => q_stw k_) ?_
      refine dend ?_
      exact sle_sub ⟨rfl, rfl, rfl, rfl, trivial⟩ rfl
    · refine DLw ?_
      refine DLw ?_
      refine De2 (fun _ k_ => q_al k_) ?_
      refine De2 (fun _ k_ => q_callp (ga) k_) ?_
      refine De2 (fun _ k_ => q_callp (gb) k_) ?_
      refine De2 (fun _ k_ => q_al k_) ?_
      refine De20 (fun _ k_ => q_stw k_) ?_
      refine De20 (fun _ k_ => q_stw k_) ?_
      refine dend ?_
      exact sle_view [0, 1, 3, 2] (fun p h => absurd h (Nat.not_lt_zero _)) (by decide) ⟨rfl, rfl, rfl, rfl, trivial⟩ (Eq.symm (pl1 rfl sees_m (pl1 rfl sees_m (pl1 rfl sees_m (pl1 rfl sees_m pl0)))))
    · refine DLw ?_
      refine DLw ?_
      refine De2 (fun _ k_ => q_al k_) ?_
      refine De2 (fun _ k_ => q_callp (ga) k_) ?_
      refine De2 (fun _ k_ => q_al k_) ?_
      refine De2 (fun _ k_ => q_callp (gb) k_) ?_
      refine De20 (fun _ k_ => q_stw k_) ?_
      refine De20 (fun _ k_ => q_stw k_) ?_
      refine dend ?_
      exact sle_view [0, 1, 3, 2] (fun p h => absurd h (Nat.not_lt_zero _)) (by decide) ⟨rfl, rfl, rfl, rfl, trivial⟩ (Eq.symm (pl1 rfl sees_m (pl1 rfl sees_m (pl1 rfl sees_m (pl1 rfl sees_m pl0)))))
    refine DLw ?_
    refine DLw ?_
    refine De2 (fun _ k_ => q_al k_) ?_
    refine De2 (fun _ k_ => q_al k_) ?_
    refine De2 (fun _ k_ => q_callp (ga) k_) ?_
    refine De2 (fun _ k_ => q_callp (gb) k_) ?_
    refine De20 (fun _ k_ => q_stw k_) ?_
    refine De20 (fun _ k_ => q_stw k_) ?_
    refine dend ?_
    exact sle_view [0, 1, 3, 2] (fun p h => absurd h (Nat.not_lt_zero _)) (by decide) ⟨rfl, rfl, rfl, rfl, trivial⟩ (Eq.symm (pl1 rfl sees_m (pl1 rfl sees_m (pl1 rfl sees_m (pl1 rfl sees_m pl0)))))
  refine awp_seq ?_
  refine awp_seq ?_
  refine rdln [2, 3, 5, 7, 8, 9, 13, 14, 16, 21, 22, 24, 25, 26] [0, 0, 0, 1, 0, 2, 0, 3, 4, 5, 6, 6, 6, 6, 7, 6, 8, 9, 9, 9, 9, 9, 10, 9, 11, 12, 13, 14, 14] [0, 0, 1, 2, 2, 3, 3, 4, 5, 6, 6, 6, 6, 7, 8, 8, 9, 9, 9, 9, 9, 10, 11, 11, 12, 13, 14, 14, 14] ?_
  refine DLw ?_
  refine DLw ?_
  refine De2 (fun _ k_ => q_callp (Fd.mul_e x y) k_) ?_
  refine De2 (fun _ k_ => q_callp (inv_e (x * y)) k_) ?_
  refine DLw ?_
  refine De2 (fun _ k_ => q_callp (inv_e x) k_) ?_
  refine DLw ?_
  refine De2 (fun _ k_ => q_callp (inv_e y) k_) ?_
  refine De2 (fun _ k_ => q_callp (Fd.mul_e (inv x) (inv y)) k_) ?_
  refine De2 (fun _ k_ => q_callp (eq_t _ _ (inv_mul x y)) k_) ?_
  refine Dp (fun _ => q_notb ⟨rfl, rfl⟩) ?_
  refine Dp (fun _ => q_mv (s := .v (.c _)) ⟨rfl, rfl⟩) ?_
  refine DLwg ?_
  refine De2g (fun _ k_ => q_callp (inv_e x) k_) ?_
  refine De2g (fun _ k_ => q_callp (inv_e (inv x)) k_) ?_
  refine DLwg ?_
  refine De2g (fun _ k_ => q_callp (eq_t _ _ (inv_inv x)) k_) ?_
  refine Dpg (fun _ => q_notb ⟨rfl, rfl⟩) ?_
  refine Dp (fun _ => q_pkf ⟨rfl, rfl⟩) ?_
  refine Dp (fun _ => q_mv (s := .v (.c _)) ⟨rfl, rfl⟩) ?_
  refine DLwg ?_
  refine De2g (fun _ k_ => q_callp (Fd.neg_e x) k_) ?_
  refine De2g (fun _ k_ => q_callp (inv_e (-x)) k_) ?_
  refine DLwg ?_
  refine De2g (fun _ k_ => q_callp (inv_e x) k_) ?_
  refine De2g (fun _ k_ => q_callp (Fd.neg_e (inv x)) k_) ?_
  refine De2g (fun _ k_ => q_callp (eq_t _ _ (inv_neg x)) k_) ?_
  refine Dpg (fun _ => q_notb ⟨rfl, rfl⟩) ?_
  refine Dp (fun _ => q_pkf ⟨rfl, rfl⟩) ?_
  refine dend ?_
  refine cndF ?_
  refine awp_skip ?_
  refine awp_seq ?_
  refine rln ?_
  refine G2 (fun _ k_ => q_callp (small_1) k_ (ha := (cac rfl cm_int ca0))) ?_
  refine G2 (fun _ k_ => q_al k_) ?_
  refine G20 (fun _ k_ => q_stw k_) ?_
  refine gend ?_
  refine awp_seq ?_
  refine rln ?_
  refine G (q_ldw ?_)
  refine G (q_ldw ?_)
  refine G2 (fun _ k_ => q_callp (gR) k_) ?_
  refine G (q_mv (s := .t _) ?_)
  refine G (q_ext (y := .a _) ?_)
  refine G (q_ext (y := .c _) ?_)
  refine G2 (fun _ k_ => q_al k_) ?_
  refine G20 (fun _ k_ => q_stw k_) ?_
  refine As ?_
  refine gend ?_
  refine awp_mid ⟨frm 134 [(5, sc (.ptr 2 0)), (6, sc (.ptr 3 0)), (7, sc (.ptr 4 0)), (8, sc (.ptr 5 0)), (9, sc (.bool true)), (10, sc (.ptr 6 0)), (11, sc (.bool true))], [some (u8s a), some (u8s b), some (u64s (el x)), some (u64s (el y)), some (u64s (el 1)), some (u64s (el r)), some (u64s (el s))]⟩ ?_ ?_
  · refine rdm [1, 3, 7, 8] [⟨[0, 1, 2, 3, 4, 5, 6, 7, 8, 9], [1, 3, 7, 8], [1, 3, 7, 8], [0, 0, 0, 1, 2, 2, 2, 2, 3, 4], [0, 1, 1, 2, 3, 3, 4, 3, 4, 4]⟩, ⟨[0, 1, 2, 7, 3, 4, 5, 6, 8, 9], [1, 7, 3, 8], [1, 3, 4, 8], [0, 0, 0, 1, 2, 3, 3, 3, 3, 4], [0, 1, 2, 2, 3, 3, 3, 4, 4, 4]⟩, ⟨[0, 2, 7, 1, 3, 4, 5, 6, 8, 9], [7, 1, 3, 8], [2, 3, 4, 8], [0, 0, 0, 1, 2, 3, 3, 3, 3, 4], [1, 2, 1, 2, 3, 3, 3, 4, 4, 4]⟩] ⟨?_, ?_, ?_, trivial⟩   -- region 6
    · refine DLw ?_
      refine De2 (fun _ k_ => q_callp (Fd.neg_e x) k_) ?_
      refine DLw ?_
      refine De2 (fun _ k_ => q_callp (gS) k_) ?_
      refine Dp (fun _ => q_mv (s := .t _) ⟨rfl, rfl⟩) ?_
      refine Dp (fun _ => q_ext (y := .a _) ⟨rfl, rfl⟩) ?_
      refine Dp (fun _ => q_ext (y := .c _) ⟨rfl, rfl⟩) ?_
      refine De2 (fun _ k_ => q_al k_) ?_
      refine De20 (fun _ k_ => q_stw k_) ?_
      refine Dp (fun _ => q_as (s := .v (.c _)) ⟨rfl, rfl⟩) ?_
      refine dend ?_
      exact sle_sub ⟨rfl, rfl, rfl, rfl, rfl, rfl, rfl, trivial⟩ rfl
    · refine DLw ?_
      refine De2 (fun _ k_ => q_callp (Fd.neg_e x) k_) ?_
      refine DLw ?_
      refine De2 (fun _ k_ => q_al k_) ?_
      refine De2 (fun _ k_ => q_callp (gS) k_) ?_
      refine Dp (fun _ => q_mv (s := .t _) ⟨rfl, rfl⟩) ?_
      refine Dp (fun _ => q_ext (y := .a _) ⟨rfl, rfl⟩) ?_
      refine Dp (fun _ => q_ext (y := .c _) ⟨rfl, rfl⟩) ?_
      refine De20 (fun _ k_ => q_stw k_) ?_
      refine Dp (fun _ => q_as (s := .v (.c _)) ⟨rfl, rfl⟩) ?_
      refine dend ?_
      exact sle_sub ⟨rfl, rfl, rfl, rfl, rfl, rfl, rfl, trivial⟩ rfl
    refine DLw ?_
    refine DLw ?_
    refine De2 (fun _ k_ => q_al k_) ?_
    refine De2 (fun _ k_ => q_callp (Fd.neg_e x) k_) ?_
    refine De2 (fun _ k_ => q_callp (gS) k_) ?_
    refine Dp (fun _ => q_mv (s := .t _) ⟨rfl, rfl⟩) ?_
    refine Dp (fun _ => q_ext (y := .a _) ⟨rfl, rfl⟩) ?_
    refine Dp (fun _ => q_ext (y := .c _) ⟨rfl, rfl⟩) ?_
    refine De20 (fun _ k_ => q_stw k_) ?_
    refine Dp (fun _ => q_as (s := .v (.c _)) ⟨rfl, rfl⟩) ?_
    refine dend ?_
    exact sle_sub ⟨rfl, rfl, rfl, rfl, rfl, rfl, rfl, trivial⟩ rfl
  refine awp_seq ?_
  refine awp_seq ?_
  refine rdln [7, 9, 13, 15, 16] [0, 0, 0, 0, 0, 0, 0, 0, 0, 1, 2, 2, 2, 2, 2, 3, 4, 5, 5, 5, 5] [0, 0, 0, 0, 0, 0, 0, 1, 1, 2, 2, 2, 2, 3, 3, 4, 5, 5, 5, 5, 5] ?_
  refine Dp (fun _ => q_mv (s := .v (.c _)) ⟨rfl, rfl⟩) ?_
  refine Dp (fun _ => q_mv (s := .v (.c _)) ⟨rfl, rfl⟩) ?_
  refine Dp (fun _ => q_neqb ⟨rfl, rfl⟩) ?_
  refine Dp (fun _ => q_mv (s := .v (.c _)) ⟨rfl, rfl⟩) ?_
  refine Dkf 66 (fun hb4 => ?_) ?_; rotate_left
  · rfl
  refine Dpg (fun _ => q_mv (s := .v (.c _)) ⟨rfl, rfl⟩) ?_
  refine Dpg (fun _ => q_mv (s := .v (.c _)) ⟨rfl, rfl⟩) ?_
  refine Dkn 68 (fun hb6 => ?_) ?_; rotate_left
  · rfl
  refine DLwg ?_
  refine De2g (fun _ k_ => q_callp (square_e r) k_) ?_
  refine DLwg ?_
  refine De2g (fun _ k_ => q_callp (eq_t _ _ q1) k_) ?_
  refine Dpg (fun _ => q_notb ⟨rfl, rfl⟩) ?_
  refine Dpg (fun _ => q_mv (s := .v (.c _)) ⟨rfl, rfl⟩) ?_
  refine DLwg ?_
  refine De2g (fun _ k_ => q_callp (square_e s) k_) ?_
  refine DLwg ?_
  refine De2g (fun _ k_ => q_callp (Fd.neg_e x) k_) ?_
  refine De2g (fun _ k_ => q_callp (eq_t _ _ q2) k_) ?_
  refine Dpg (fun _ => q_notb ⟨rfl, rfl⟩) ?_
  refine Dpg (fun _ => q_pkf ⟨rfl, rfl⟩) ?_
  refine Dpg (fun _ => q_pkt ⟨rfl, rfl⟩) ?_
  refine Dp (fun _ => q_pkf ⟨rfl, rfl⟩) ?_
  refine dend ?_
  refine cndF ?_
  refine awp_skip ?_
  refine awp_mid ⟨frm 134 [(5, sc (.ptr 2 0)), (6, sc (.ptr 3 0)), (7, sc (.ptr 4 0)), (9, sc (.bool true)), (12, sc (.ptr 7 0)), (13, sc (.bool true))], [some (u8s a), some (u8s b), some (u64s (el x)), some (u64s (el y)), some (u64s (el 1)), some (u64s (el r)), some (u64s (el s)), some (u64s (el t))]⟩ ?_ ?_
  · refine rdm [2, 4, 8, 9] [⟨[0, 1, 2, 3, 4, 5, 6, 7, 8, 9, 10], [2, 4, 8, 9], [2, 4, 8, 9], [0, 0, 0, 0, 1, 2, 2, 2, 2, 3, 4], [0, 0, 1, 1, 2, 3, 3, 4, 3, 4, 4]⟩, ⟨[0, 1, 2, 3, 8, 4, 5, 6, 7, 9, 10], [2, 8, 4, 9], [2, 4, 5, 9], [0, 0, 0, 0, 1, 2, 3, 3, 3, 3, 4], [0, 0, 1, 2, 2, 3, 3, 3, 4, 4, 4]⟩, ⟨[0, 1, 3, 8, 2, 4, 5, 6, 7, 9, 10], [8, 2, 4, 9], [3, 4, 5, 9], [0, 0, 0, 0, 1, 2, 3, 3, 3, 3, 4], [1, 1, 2, 1, 2, 3, 3, 3, 4, 4, 4]⟩] ⟨?_, ?_, ?_, trivial⟩   -- region 9
    · refine DLw ?_
      refine DLw ?_
      refine De2 (fun _ k_ => q_callp (Fd.mul_e x y) k_) ?_
      refine DLw ?_
      refine De2 (fun _ k_ => q_callp (gT) k_) ?_
      refine Dp (fun _ => q_mv (s := .t _) ⟨rfl, rfl⟩) ?_
      refine Dp (fun _ => q_ext (y := .a _) ⟨rfl, rfl⟩) ?_
      refine Dp (fun _ => q_ext (y := .c _) ⟨rfl, rfl⟩) ?_
      refine De2 (fun _ k_ => q_al k_) ?_
      refine De20 (fun _ k_ => q_stw k_) ?_
      refine Dp (fun _ => q_as (s := .v (.c _)) ⟨rfl, rfl⟩) ?_
      refine dend ?_
      exact sle_sub ⟨rfl, rfl, rfl, rfl, rfl, rfl, trivial⟩ rfl
    · refine DLw ?_
      refine DLw ?_
      refine De2 (fun _ k_ => q_callp (Fd.mul_e x y) k_) ?_
      refine DLw ?_
      refine De2 (fun _ k_ => q_al k_) ?_
      refine De2 (fun _ k_ => q_callp (gT) k_) ?_
      refine Dp (fun _ => q_mv (s := .t _) ⟨rfl, rfl⟩) ?_
      refine Dp (fun _ => q_ext (y := .a _) ⟨rfl, rfl⟩) ?_
      refine Dp (fun _ => q_ext (y := .c _) ⟨rfl, rfl⟩) ?_
      refine De20 (fun _ k_ => q_stw k_) ?_
      refine Dp (fun _ => q_as (s := .v (.c _)) ⟨rfl, rfl⟩) ?_
      refine dend ?_
      exact sle_sub ⟨rfl, rfl, rfl, rfl, rfl, rfl, trivial⟩ rfl
    refine DLw ?_
    refine DLw ?_
    refine DLw ?_
    refine De2 (fun _ k_ => q_al k_) ?_
    refine De2 (fun _ k_ => q_callp (Fd.mul_e x y) k_) ?_
    refine De2 (fun _ k_ => q_callp (gT) k_) ?_
    refine Dp (fun _ => q_mv (s := .t _) ⟨rfl, rfl⟩) ?_
    refine Dp (fun _ => q_ext (y := .a _) ⟨rfl, rfl⟩) ?_
    refine Dp (fun _ => q_ext (y := .c _) ⟨rfl, rfl⟩) ?_
    refine De20 (fun _ k_ => q_stw k_) ?_
    refine Dp (fun _ => q_as (s := .v (.c _)) ⟨rfl, rfl⟩) ?_
    refine dend ?_
    exact sle_sub ⟨rfl, rfl, rfl, rfl, rfl, rfl, trivial⟩ rfl
  refine awp_seq ?_
  refine rln ?_
  refine G (q_ldw ?_)
  refine G (q_ldw ?_)
  refine G2 (fun _ k_ => q_callp (gO) k_) ?_
  refine G (q_mv (s := .t _) ?_)
  refine G (q_ext (y := .a _) ?_)
  refine G (q_ext (y := .c _) ?_)
  refine G2 (fun _ k_ => q_al k_) ?_
  refine G20 (fun _ k_ => q_stw k_) ?_
  refine As ?_
  refine gend ?_
  refine awp_seq ?_
  refine awp_seq ?_
  refine rln ?_
  refine Mv ?_
  refine Mv ?_
  refine Akn 99 (fun hb2 => ?_) ?_; rotate_left
  · rfl
  refine Gg (q_mv (s := .v (.c _)) ?_)
  refine G (q_pkt ?_)
  refine Mv ?_
  refine Akf 102 (fun hb5 => ?_) ?_; rotate_left
  · rfl
  refine Gg (q_mv (s := .v (.c _)) ?_)
  refine Gg (q_notb ?_)
  refine Gg (q_mv (s := .v (.c _)) ?_)
  refine Gn ?_
  refine Gn ?_
  refine Gg (q_pkf ?_)
  refine G (q_pkf ?_)
  refine gend ?_
  refine cndF ?_
  refine awp_skip ?_
  refine awp_seq ?_
  refine rln ?_
  refine Mv ?_
  refine G (q_notb ?_)
  refine Mv ?_
  refine Akf 124 (fun hb3 => ?_) ?_; rotate_left
  · rfl
  refine Gg (q_ldw ?_)
  refine Gg (q_ldw ?_)
  refine G2g (fun _ k_ => q_callp (Fd.mul_e x y) k_) ?_
  refine G2g (fun _ k_ => q_callp (small_0) k_ (ha := (cac rfl cm_int ca0))) ?_
  refine G2g (fun _ k_ => q_callp (eq_t _ _ q3) k_) ?_
  refine G (q_pkf ?_)
  refine Mv ?_
  refine G2g (fun _ k_ => q_callp (known_) k_) ?_
  refine G (q_pkt ?_)
  refine As ?_
  refine gend ?_
  refine awp_ret ?_
  exact fp1
set_option maxHeartbeats 3200000 in
/-- escutcheonlaw02.FieldInverts -/
theorem inverts_tff (a b : List UInt8) (ha : a.length = 32) (hb : b.length = 32) (h1 : ok1 (fb a) = true) (h2 : ok1 (fb b) = false) (h3 : ok1 (fb a * fb b) = false) : Good Try.prog 9 [.a (u8s a), .a (u8s b)] [] (sc (.bool true)) [] := by
  have ga := of_e a ha
  have gb := of_e b hb
  generalize fb a = x at ga h1 h3
  generalize fb b = y at gb h2 h3
  have hn := (ok1_neg x).trans h1
  have gR := root_e x 1
  have gS := root_e (-x) 1
  have gT := root_e (x * y) 1
  have gO := root_e y 1
  rw [show rOk x 1 = _ from h1] at gR
  rw [show rOk (-x) 1 = _ from hn] at gS
  rw [show rOk (x * y) 1 = _ from h3] at gT
  rw [show rOk y 1 = _ from h2] at gO
  have q1 := ok1_sq h1
  have q2 := ok1_sq hn
  generalize rRt x 1 = r at gR q1
  generalize rRt (-x) 1 = s at gS q2
  generalize rRt (x * y) 1 = t at gT
  generalize rRt y 1 = o at gO
  refine good_frm 134 Try.func9 rfl rfl rfl rfl rfl rfl ?_
  refine awp_seq ?_
  refine rln ?_
  refine G2 (fun _ k_ => q_boxa k_) ?_
  refine G2 (fun _ k_ => q_boxa k_) ?_
  refine As ?_
  refine gend ?_
  refine awp_mid ⟨frm 134 [(2, sc (.ptr 0 0)), (3, sc (.ptr 1 0)), (5, sc (.ptr 2 0)), (6, sc (.ptr 3 0))], [some (u8s a), some (u8s b), some (u64s (el x)), some (u64s (el y))]⟩ ?_ ?_
  · refine rdm [1, 3, 4, 5, 6, 7] [⟨[0, 1, 2, 3, 4, 5, 6, 7], [1, 3, 4, 5, 6, 7], [1, 3, 4, 5, 6, 7], [0, 0, 0, 1, 2, 3, 4, 5], [0, 1, 1, 2, 3, 4, 5, 6]⟩, ⟨[0, 1, 2, 3, 5, 4, 6, 7], [1, 3, 5, 4, 6, 7], [1, 3, 4, 5, 6, 7], [0, 0, 0, 1, 2, 3, 4, 5], [0, 1, 1, 2, 3, 4, 5, 6]⟩, ⟨[0, 1, 2, 4, 3, 5, 6, 7], [1, 4, 3, 5, 6, 7], [1, 3, 4, 5, 6, 7], [0, 0, 0, 1, 2, 3, 4, 5], [0, 1, 2, 2, 3, 4, 5, 6]⟩, ⟨[0, 1, 2, 4, 5, 3, 6, 7], [1, 4, 5, 3, 6, 7], [1, 3, 4, 5, 6, 7], [0, 0, 0, 1, 2, 3, 4, 5], [0, 1, 3, 2, 3, 4, 5, 6]⟩, ⟨[0, 1, 2, 5, 3, 4, 6, 7], [1, 5, 3, 4, 6, 7], [1, 3, 4, 5, 6, 7], [0, 0, 0, 1, 2, 3, 4, 5], [0, 1, 2, 2, 3, 4, 5, 6]⟩, ⟨[0, 1, 2, 5, 4, 3, 6, 7], [1, 5, 4, 3, 6, 7], [1, 3, 4, 5, 6, 7], [0, 0, 0, 1, 2, 3, 4, 5], [0, 1, 3, 2, 3, 4, 5, 6]⟩, ⟨[0, 2, 4, 1, 3, 5, 6, 7], [4, 1, 3, 5, 6, 7], [2, 3, 4, 5, 6, 7], [0, 0, 0, 1, 2, 3, 4, 5], [1, 2, 1, 2, 3, 4, 5, 6]⟩, ⟨[0, 2, 4, 1, 5, 3, 6, 7], [4, 1, 5, 3, 6, 7], [2, 3, 4, 5, 6, 7], [0, 0, 0, 1, 2, 3, 4, 5], [1, 3, 1, 2, 3, 4, 5, 6]⟩, ⟨[0, 2, 4, 5, 1, 3, 6, 7], [4, 5, 1, 3, 6, 7], [2, 3, 4, 5, 6, 7], [0, 0, 0, 1, 2, 3, 4, 5], [2, 3, 1, 2, 3, 4, 5, 6]⟩, ⟨[0, 2, 5, 1, 3, 4, 6, 7], [5, 1, 3, 4, 6, 7], [2, 3, 4, 5, 6, 7], [0, 0, 0, 1, 2, 3, 4, 5], [1, 2, 1, 2, 3, 4, 5, 6]⟩, ⟨[0, 2, 5, 1, 4, 3, 6, 7], [5, 1, 4, 3, 6, 7], [2, 3, 4, 5, 6, 7], [0, 0, 0, 1, 2, 3, 4, 5], [1, 3, 1, 2, 3, 4, 5, 6]⟩, ⟨[0, 2, 5, 4, 1, 3, 6, 7], [5, 4, 1, 3, 6, 7], [2, 3, 4, 5, 6, 7], [0, 0, 0, 1, 2, 3, 4, 5], [2, 3, 1, 2, 3, 4, 5, 6]⟩] ⟨?_, ?_, ?_, ?_, ?_, ?_, ?_, ?_, ?_, ?_, ?_, ?_, trivial⟩   -- region 1
    · refine DLw ?_
      refine De2 (fun _ k_ => q_callp (ga) k_) ?_
      refine DLw ?_
      refine De2 (fun _ k_ => q_callp (gb) k_) ?_
      refine De2 (fun _ k_ => q_al k_) ?_
      refine De2 (fun _ k_ => q_al k_) ?_
      refine De20 (fun _ k_ => q_stw k_) ?_
      refine De20 (fun _ k_ => q_stw k_) ?_
      refine dend ?_
      exact sle_sub ⟨rfl, rfl, rfl, rfl, trivial⟩ rfl
    · refine DLw ?_
      refine De2 (fun _ k_ => q_callp (ga) k_) ?_
      refine DLw ?_
      refine De2 (fun _ k_ => q_callp (gb) k_) ?_
      refine De2 (fun _ k_ => q_al k_) ?_
      refine De2 (fun _ k_ => q_al k_) ?_
      refine De20 (fun _ k_ => q_stw k_) ?_
      refine De20 (fun _ k_ => q_stw k_) ?_
      refine dend ?_
      exact sle_view [0, 1, 3, 2] (fun p h => absurd h (Nat.not_lt_zero _)) (by decide) ⟨rfl, rfl, rfl, rfl, trivial⟩ (Eq.symm (pl1 rfl sees_m (pl1 rfl sees_m (pl1 rfl sees_m (pl1 rfl sees_m pl0)))))
    · refine DLw ?_
      refine De2 (fun _ k_ => q_callp (ga) k_) ?_
      refine DLw ?_
      refine De2 (fun _ k_ => q_al k_) ?_
      refine De2 (fun _ k_ => q_callp (gb) k_) ?_
      refine De2 (fun _ k_ => q_al k_) ?_
      refine De20 (fun _ k_ => q_stw k_) ?_
      refine De20 (fun _ k_ => q_stw k_) ?_
      refine dend ?_
      exact sle_sub ⟨rfl, rfl, rfl, rfl, trivial⟩ rfl
    · refine DLw ?_
      refine De2 (fun _ k_ => q_callp (ga) k_) ?_
      refine DLw ?_
      refine De2 (fun _ k_ => q_al k_) ?_
      refine De2 (fun _ k_ => q_al k_) ?_
      refine De2 (fun _ k_ => q_callp (gb) k_) ?_
      refine De20 (fun _ k_ => q_stw k_) ?_
      refine De20 (fun _ k_ => q_stw k_) ?_
      refine dend ?_
      exact sle_sub ⟨rfl, rfl, rfl, rfl, trivial⟩ rfl
    · refine DLw ?_
      refine De2 (fun _ k_ => q_callp (ga) k_) ?_
      refine DLw ?_
      refine De2 (fun _ k_ => q_al k_) ?_
      refine De2 (fun _ k_ => q_callp (gb) k_) ?_
      refine De2 (fun _ k_ => q_al k_) ?_
      refine De20 (fun _ k_ => q_stw k_) ?_
      refine De20 (fun _ k_ => q_stw k_) ?_
      refine dend ?_
      exact sle_view [0, 1, 3, 2] (fun p h => absurd h (Nat.not_lt_zero _)) (by decide) ⟨rfl, rfl, rfl, rfl, trivial⟩ (Eq.symm (pl1 rfl sees_m (pl1 rfl sees_m (pl1 rfl sees_m (pl1 rfl sees_m pl0)))))
    · refine DLw ?_
      refine De2 (fun _ k_ => q_callp (ga) k_) ?_
      refine DLw ?_
      refine De2 (fun _ k_ => q_al k_) ?_
      refine De2 (fun _ k_ => q_al k_) ?_
      refine De2 (fun _ k_ => q_callp (gb) k_) ?_
      refine De20 (fun _ k_ => q_stw k_) ?_
      refine De20 (fun _ k_ => q_stw k_) ?_
      refine dend ?_
      exact sle_view [0, 1, 3, 2] (fun p h => absurd h (Nat.not_lt_zero _)) (by decide) ⟨rfl, rfl, rfl, rfl, trivial⟩ (Eq.symm (pl1 rfl sees_m (pl1 rfl sees_m (pl1 rfl sees_m (pl1 rfl sees_m pl0)))))
    · refine DLw ?_
      refine DLw ?_
      refine De2 (fun _ k_ => q_al k_) ?_
      refine De2 (fun _ k_ => q_callp (ga) k_) ?_
      refine De2 (fun _ k_ => q_callp (gb) k_) ?_
      refine De2 (fun _ k_ => q_al k_) ?_
      refine De20 (fun _ k_ => q_stw k_) ?_
      refine De20 (fun _ k_ => q_stw k_) ?_
      refine dend ?_
      exact sle_sub ⟨rfl, rfl, rfl, rfl, trivial⟩ rfl
    · refine DLw ?_
      refine DLw ?_
      refine De2 (fun _ k_ => q_al k_) ?_
      refine De2 (fun _ k_ => q_callp (ga) k_) ?_
      refine De2 (fun _ k_ => q_al k_) ?_
      refine De2 (fun _ k_ => q_callp (gb) k_) ?_
      refine De20 (fun _ k_ => q_stw k_) ?_
      refine De20 (fun _ k_ => q_stw k_) ?_
      refine dend ?_
      exact sle_sub ⟨rfl, rfl, rfl, rfl, trivial⟩ rfl
    · refine DLw ?_
      refine DLw ?_
      refine De2 (fun _ k_ => q_al k_) ?_
      refine De2 (fun _ k_ => q_al k_) ?_
      refine De2 (fun _ k_ => q_callp (ga) k_) ?_
      refine De2 (fun _ k_ => q_callp (gb) k_) ?_
      refine De20 (fun _ k_ => q_stw k_) ?_
      refine De20 (fun _ k_ => q_stw k_) ?_
      refine dend ?_
      exact sle_sub ⟨rfl, rfl, rfl, rfl, trivial⟩ rfl
    · refine DLw ?_
      refine DLw ?_
      refine De2 (fun _ k_ => q_al k_) ?_
      refine De2 (fun _ k_ => q_callp (ga) k_) ?_
      refine De2 (fun _ k_ => q_callp (gb) k_) ?_
      refine De2 (fun _ k_ => q_al k_) ?_
      refine De20 (fun _ k_ => q_stw k_) ?_
      refine De20 (fun _ k_ => q_stw k_) ?_
      refine dend ?_
      exact sle_view [0, 1, 3, 2] (fun p h => absurd h (Nat.not_lt_zero _)) (by decide) ⟨rfl, rfl, rfl, rfl, trivial⟩ (Eq.symm (pl1 rfl sees_m (pl1 rfl sees_m (pl1 rfl sees_m (pl1 rfl sees_m pl0)))))
    · refine DLw ?_
      refine DLw ?_
      refine De2 (fun _ k_ => q_al k_) ?_
      refine De2 (fun _ k_ => q_callp (ga) k_) ?_
      refine De2 (fun _ k_ => q_al k_) ?_
      refine De2 (fun _ k_ => q_callp (gb) k_) ?_
      refine De20 (fun _ k_ => q_stw k_) ?_
      refine De20 (fun _ k_ => q_stw k_) ?_
      refine dend ?_
      exact sle_view [0, 1, 3, 2] (fun p h => absurd h (Nat.not_lt_zero _)) (by decide) ⟨rfl, rfl, rfl, rfl, trivial⟩ (Eq.symm (pl1 rfl sees_m (pl1 rfl sees_m (pl1 rfl sees_m (pl1 rfl sees_m pl0)))))
    refine DLw ?_
    refine DLw ?_
    refine De2 (fun _ k_ => q_al k_) ?_
    refine De2 (fun _ k_ => q_al k_) ?_
    refine De2 (fun _ k_ => q_callp (ga) k_) ?_
    refine De2 (fun _ k_ => q_callp (gb) k_) ?_
    refine De20 (fun _ k_ => q_stw k_) ?_
    refine De20 (fun _ k_ => q_stw k_) ?_
    refine dend ?_
    exact sle_view [0, 1, 3, 2] (fun p h => absurd h (Nat.not_lt_zero _)) (by decide) ⟨rfl, rfl, rfl, rfl, trivial⟩ (Eq.symm (pl1 rfl sees_m (pl1 rfl sees_m (pl1 rfl sees_m (pl1 rfl sees_m pl0)))))
  refine awp_seq ?_
  refine awp_seq ?_
  refine rdln [2, 3, 5, 7, 8, 9, 13, 14, 16, 21, 22, 24, 25, 26] [0, 0, 0, 1, 0, 2, 0, 3, 4, 5, 6, 6, 6, 6, 7, 6, 8, 9, 9, 9, 9, 9, 10, 9, 11, 12, 13, 14, 14] [0, 0, 1, 2, 2, 3, 3, 4, 5, 6, 6, 6, 6, 7, 8, 8, 9, 9, 9, 9, 9, 10, 11, 11, 12, 13, 14, 14, 14] ?_
  refine DLw ?_
  refine DLw ?_
  refine De2 (fun _ k_ => q_callp (Fd.mul_e x y) k_) ?_
  refine De2 (fun _ k_ => q_callp (inv_e (x * y)) k_) ?_
  refine DLw ?_
  refine De2 (fun _ k_ => q_callp (inv_e x) k_) ?_
  refine DLw ?_
  refine De2 (fun _ k_ => q_callp (inv_e y) k_) ?_
  refine De2 (fun _ k_ => q_callp (Fd.mul_e (inv x) (inv y)) k_) ?_
  refine De2 (fun _ k_ => q_callp (eq_t _ _ (inv_mul x y)) k_) ?_
  refine Dp (fun _ => q_notb ⟨rfl, rfl⟩) ?_
  refine Dp (fun _ => q_mv (s := .v (.c _)) ⟨rfl, rfl⟩) ?_
  refine DLwg ?_
  refine De2g (fun _ k_ => q_callp (inv_e x) k_) ?_
  refine De2g (fun _ k_ => q_callp (inv_e (inv x)) k_) ?_
  refine DLwg ?_
  refine De2g (fun _ k_ => q_callp (eq_t _ _ (inv_inv x)) k_) ?_
  refine Dpg (fun _ => q_notb ⟨rfl, rfl⟩) ?_
  refine Dp (fun _ => q_pkf ⟨rfl, rfl⟩) ?_
  refine Dp (fun _ => q_mv (s := .v (.c _)) ⟨rfl, rfl⟩) ?_
  refine DLwg ?_
  refine De2g (fun _ k_ => q_callp (Fd.neg_e x) k_) ?_
  refine De2g (fun _ k_ => q_callp (inv_e (-x)) k_) ?_
  refine DLwg ?_
  refine De2g (fun _ k_ => q_callp (inv_e x) k_) ?_
  refine De2g (fun _ k_ => q_callp (Fd.neg_e (inv x)) k_) ?_
  refine De2g (fun _ k_ => q_callp (eq_t _ _ (inv_neg x)) k_) ?_
  refine Dpg (fun _ => q_notb ⟨rfl, rfl⟩) ?_
  refine Dp (fun _ => q_pkf ⟨rfl, rfl⟩) ?_
  refine dend ?_
  refine cndF ?_
  refine awp_skip ?_
  refine awp_seq ?_
  refine rln ?_
  refine G2 (fun _ k_ => q_callp (small_1) k_ (ha := (cac rfl cm_int ca0))) ?_
  refine G2 (fun _ k_ => q_al k_) ?_
  refine G20 (fun _ k_ => q_stw k_) ?_
  refine gend ?_
  refine awp_seq ?_
  refine rln ?_
  refine G (q_ldw ?_)
  refine G (q_ldw ?_)
  refine G2 (fun _ k_ => q_callp (gR) k_) ?_
  refine G (q_mv (s := .t _) ?_)
  refine G (q_ext (y := .a _) ?_)
  refine G (q_ext (y := .c _) ?_)
  refine G2 (fun _ k_ => q_al k_) ?_
  refine G20 (fun _ k_ => q_stw k_) ?_
  refine As ?_
  refine gend ?_
  refine awp_mid ⟨frm 134 [(5, sc (.ptr 2 0)), (6, sc (.ptr 3 0)), (7, sc (.ptr 4 0)), (8, sc (.ptr 5 0)), (9, sc (.bool true)), (10, sc (.ptr 6 0)), (11, sc (.bool true))], [some (u8s a), some (u8s b), some (u64s (el x)), some (u64s (el y)), some (u64s (el 1)), some (u64s (el r)), some (u64s (el s))]⟩ ?_ ?_
  · refine rdm [1, 3, 7, 8] [⟨[0, 1, 2, 3, 4, 5, 6, 7, 8, 9], [1, 3, 7, 8], [1, 3, 7, 8], [0, 0, 0, 1, 2, 2, 2, 2, 3, 4], [0, 1, 1, 2, 3, 3, 4, 3, 4, 4]⟩, ⟨[0, 1, 2, 7, 3, 4, 5, 6, 8, 9], [1, 7, 3, 8], [1, 3, 4, 8], [0, 0, 0, 1, 2, 3, 3, 3, 3, 4], [0, 1, 2, 2, 3, 3, 3, 4, 4, 4]⟩, ⟨[0, 2, 7, 1, 3, 4, 5, 6, 8, 9], [7, 1, 3, 8], [2, 3, 4, 8], [0, 0, 0, 1, 2, 3, 3, 3, 3, 4], [1, 2, 1, 2, 3, 3, 3, 4, 4, 4]⟩] ⟨?_, ?_, ?_, trivial⟩   -- region 6
    · refine DLw ?_
      refine De2 (fun _ k_ => q_callp (Fd.neg_e x) k_) ?_
      refine DLw ?_
      refine De2 (fun _ k_ => q_callp (gS) k_) ?_
      refine Dp (fun _ => q_mv (s := .t _) ⟨rfl, rfl⟩) ?_
      refine Dp (fun _ => q_ext (y := .a _) ⟨rfl, rfl⟩) ?_
      refine Dp (fun _ => q_ext (y := .c _) ⟨rfl, rfl⟩) ?_
      refine De2 (fun _ k_ => q_al k_) ?_
      refine De20 (fun _ k_ => q_stw k_) ?_
      refine Dp (fun _ => q_as (s := .v (.c _)) ⟨rfl, rfl⟩) ?_
      refine dend ?_
      exact sle_sub ⟨rfl, rfl, rfl, rfl, rfl, rfl, rfl, trivial⟩ rfl
    · refine DLw ?_
      refine De2 (fun _ k_ => q_callp (Fd.neg_e x) k_) ?_
      refine DLw ?_
      refine De2 (fun _ k_ => q_al k_) ?_
      refine De2 (fun _ k_ => q_callp (gS) k_) ?_
      refine Dp (fun _ => q_mv (s := .t _) ⟨rfl, rfl⟩) ?_
      refine Dp (fun _ => q_ext (y := .a _) ⟨rfl, rfl⟩) ?_
      refine Dp (fun _ => q_ext (y := .c _) ⟨rfl, rfl⟩) ?_
      refine De20 (fun _ k_ => q_stw k_) ?_
      refine Dp (fun _ => q_as (s := .v (.c _)) ⟨rfl, rfl⟩) ?_
      refine dend ?_
      exact sle_sub ⟨rfl, rfl, rfl, rfl, rfl, rfl, rfl, trivial⟩ rfl
    refine DLw ?_
    refine DLw ?_
    refine De2 (fun _ k_ => q_al k_) ?_
    refine De2 (fun _ k_ => q_callp (Fd.neg_e x) k_) ?_
    refine De2 (fun _ k_ => q_callp (gS) k_) ?_
    refine Dp (fun _ => q_mv (s := .t _) ⟨rfl, rfl⟩) ?_
    refine Dp (fun _ => q_ext (y := .a _) ⟨rfl, rfl⟩) ?_
    refine Dp (fun _ => q_ext (y := .c _) ⟨rfl, rfl⟩) ?_
    refine De20 (fun _ k_ => q_stw k_) ?_
    refine Dp (fun _ => q_as (s := .v (.c _)) ⟨rfl, rfl⟩) ?_
    refine dend ?_
    exact sle_sub ⟨rfl, rfl, rfl, rfl, rfl, rfl, rfl, trivial⟩ rfl
  refine awp_seq ?_
  refine awp_seq ?_
  refine rdln [7, 9, 13, 15, 16] [0, 0, 0, 0, 0, 0, 0, 0, 0, 1, 2, 2, 2, 2, 2, 3, 4, 5, 5, 5, 5] [0, 0, 0, 0, 0, 0, 0, 1, 1, 2, 2, 2, 2, 3, 3, 4, 5, 5, 5, 5, 5] ?_
  refine Dp (fun _ => q_mv (s := .v (.c _)) ⟨rfl, rfl⟩) ?_
  refine Dp (fun _ => q_mv (s := .v (.c _)) ⟨rfl, rfl⟩) ?_
  refine Dp (fun _ => q_neqb ⟨rfl, rfl⟩) ?_
  refine Dp (fun _ => q_mv (s := .v (.c _)) ⟨rfl, rfl⟩) ?_
  refine Dkf 66 (fun hb4 => ?_) ?_; rotate_left
  · rfl
  refine Dpg (fun _ => q_mv (s := .v (.c _)) ⟨rfl, rfl⟩) ?_
  refine Dpg (fun _ => q_mv (s := .v (.c _)) ⟨rfl, rfl⟩) ?_
  refine Dkn 68 (fun hb6 => ?_) ?_; rotate_left
  · rfl
  refine DLwg ?_
  refine De2g (fun _ k_ => q_callp (square_e r) k_) ?_
  refine DLwg ?_
  refine De2g (fun _ k_ => q_callp (eq_t _ _ q1) k_) ?_
  refine Dpg (fun _ => q_notb ⟨rfl, rfl⟩) ?_
  refine Dpg (fun _ => q_mv (s := .v (.c _)) ⟨rfl, rfl⟩) ?_
  refine DLwg ?_
  refine De2g (fun _ k_ => q_callp (square_e s) k_) ?_
  refine DLwg ?_
  refine De2g (fun _ k_ => q_callp (Fd.neg_e x) k_) ?_
  refine De2g (fun _ k_ => q_callp (eq_t _ _ q2) k_) ?_
  refine Dpg (fun _ => q_notb ⟨rfl, rfl⟩) ?_
  refine Dpg (fun _ => q_pkf ⟨rfl, rfl⟩) ?_
  refine Dpg (fun _ => q_pkt ⟨rfl, rfl⟩) ?_
  refine Dp (fun _ => q_pkf ⟨rfl, rfl⟩) ?_
  refine dend ?_
  refine cndF ?_
  refine awp_skip ?_
  refine awp_mid ⟨frm 134 [(5, sc (.ptr 2 0)), (6, sc (.ptr 3 0)), (7, sc (.ptr 4 0)), (9, sc (.bool true)), (12, sc (.ptr 7 0)), (13, sc (.bool false))], [some (u8s a), some (u8s b), some (u64s (el x)), some (u64s (el y)), some (u64s (el 1)), some (u64s (el r)), some (u64s (el s)), some (u64s (el t))]⟩ ?_ ?_
  · refine rdm [2, 4, 8, 9] [⟨[0, 1, 2, 3, 4, 5, 6, 7, 8, 9, 10], [2, 4, 8, 9], [2, 4, 8, 9], [0, 0, 0, 0, 1, 2, 2, 2, 2, 3, 4], [0, 0, 1, 1, 2, 3, 3, 4, 3, 4, 4]⟩, ⟨[0, 1, 2, 3, 8, 4, 5, 6, 7, 9, 10], [2, 8, 4, 9], [2, 4, 5, 9], [0, 0, 0, 0, 1, 2, 3, 3, 3, 3, 4], [0, 0, 1, 2, 2, 3, 3, 3, 4, 4, 4]⟩, ⟨[0, 1, 3, 8, 2, 4, 5, 6, 7, 9, 10], [8, 2, 4, 9], [3, 4, 5, 9], [0, 0, 0, 0, 1, 2, 3, 3, 3, 3, 4], [1, 1, 2, 1, 2, 3, 3, 3, 4, 4, 4]⟩] ⟨?_, ?_, ?_, trivial⟩   -- region 9
    · refine DLw ?_
      refine DLw ?_
      refine De2 (fun _ k_ => q_callp (Fd.mul_e x y) k_) ?_
      refine DLw ?_
      refine De2 (fun _ k_ => q_callp (gT) k_) ?_
      refine Dp (fun _ => q_mv (s := .t _) ⟨rfl, rfl⟩) ?_
      refine Dp (fun _ => q_ext (y := .a _) ⟨rfl, rfl⟩) ?_
      refine Dp (fun _ => q_ext (y := .c _) ⟨rfl, rfl⟩) ?_
      refine De2 (fun _ k_ => q_al k_) ?_
      refine De20 (fun _ k_ => q_stw k_) ?_
      refine Dp (fun _ => q_as (s := .v (.c _)) ⟨rfl, rfl⟩) ?_
      refine dend ?_
      exact sle_sub ⟨rfl, rfl, rfl, rfl, rfl, rfl, trivial⟩ rfl
    · refine DLw ?_
      refine DLw ?_
      refine De2 (fun _ k_ => q_callp (Fd.mul_e x y) k_) ?_
      refine DLw ?_
      refine De2 (fun _ k_ => q_al k_) ?_
      refine De2 (fun _ k_ => q_callp (gT) k_) ?_
      refine Dp (fun _ => q_mv (s := .t _) ⟨rfl, rfl⟩) ?_
      refine Dp (fun _ => q_ext (y := .a _) ⟨rfl, rfl⟩) ?_
      refine Dp (fun _ => q_ext (y := .c _) ⟨rfl, rfl⟩) ?_
      refine De20 (fun _ k_ => q_stw k_) ?_
      refine Dp (fun _ => q_as (s := .v (.c _)) ⟨rfl, rfl⟩) ?_
      refine dend ?_
      exact sle_sub ⟨rfl, rfl, rfl, rfl, rfl, rfl, trivial⟩ rfl
    refine DLw ?_
    refine DLw ?_
    refine DLw ?_
    refine De2 (fun _ k_ => q_al k_) ?_
    refine De2 (fun _ k_ => q_callp (Fd.mul_e x y) k_) ?_
    refine De2 (fun _ k_ => q_callp (gT) k_) ?_
    refine Dp (fun _ => q_mv (s := .t _) ⟨rfl, rfl⟩) ?_
    refine Dp (fun _ => q_ext (y := .a _) ⟨rfl, rfl⟩) ?_
    refine Dp (fun _ => q_ext (y := .c _) ⟨rfl, rfl⟩) ?_
    refine De20 (fun _ k_ => q_stw k_) ?_
    refine Dp (fun _ => q_as (s := .v (.c _)) ⟨rfl, rfl⟩) ?_
    refine dend ?_
    exact sle_sub ⟨rfl, rfl, rfl, rfl, rfl, rfl, trivial⟩ rfl
  refine awp_seq ?_
  refine rln ?_
  refine G (q_ldw ?_)
  refine G (q_ldw ?_)
  refine G2 (fun _ k_ => q_callp (gO) k_) ?_
  refine G (q_mv (s := .t _) ?_)
  refine G (q_ext (y := .a _) ?_)
  refine G (q_ext (y := .c _) ?_)
  refine G2 (fun _ k_ => q_al k_) ?_
  refine G20 (fun _ k_ => q_stw k_) ?_
  refine As ?_
  refine gend ?_
  refine awp_seq ?_
  refine awp_seq ?_
  refine rln ?_
  refine Mv ?_
  refine Mv ?_
  refine Akn 99 (fun hb2 => ?_) ?_; rotate_left
  · rfl
  refine Gg (q_mv (s := .v (.c _)) ?_)
  refine G (q_pkt ?_)
  refine Mv ?_
  refine Akf 102 (fun hb5 => ?_) ?_; rotate_left
  · rfl
  refine Gg (q_mv (s := .v (.c _)) ?_)
  refine Gg (q_notb ?_)
  refine Gg (q_mv (s := .v (.c _)) ?_)
  refine Gn ?_
  refine Gn ?_
  refine Gg (q_pkf ?_)
  refine G (q_pkf ?_)
  refine gend ?_
  refine cndF ?_
  refine awp_skip ?_
  refine awp_seq ?_
  refine rln ?_
  refine Mv ?_
  refine G (q_notb ?_)
  refine Mv ?_
  refine Akn 124 (fun hb3 => ?_) ?_; rotate_left
  · rfl
  refine Gn ?_
  refine Gn ?_
  refine Gn ?_
  refine Gn ?_
  refine Gn ?_
  refine G (q_pkt ?_)
  refine Mv ?_
  refine G2g (fun _ k_ => q_callp (known_) k_) ?_
  refine G (q_pkt ?_)
  refine As ?_
  refine gend ?_
  refine awp_ret ?_
  exact fp1
set_option maxHeartbeats 3200000 in
/-- escutcheonlaw02.FieldInverts -/
theorem inverts_ftt (a b : List UInt8) (ha : a.length = 32) (hb : b.length = 32) (h1 : ok1 (fb a) = false) (h2 : ok1 (fb b) = true) (h3 : ok1 (fb a * fb b) = true) : Good Try.prog 9 [.a (u8s a), .a (u8s b)] [] (sc (.bool true)) [] := by
  have ga := of_e a ha
  have gb := of_e b hb
  generalize fb a = x at ga h1 h3
  generalize fb b = y at gb h2 h3
  have hn := (ok1_neg x).trans h1
  have gR := root_e x 1
  have gS := root_e (-x) 1
  have gT := root_e (x * y) 1
  have gO := root_e y 1
  rw [show rOk x 1 = _ from h1] at gR
  rw [show rOk (-x) 1 = _ from hn] at gS
  rw [show rOk (x * y) 1 = _ from h3] at gT
  rw [show rOk y 1 = _ from h2] at gO
  have q3 := ok1_mul_m h3 (by rw [h1, h2]; decide)
  generalize rRt x 1 = r at gR
  generalize rRt (-x) 1 = s at gS
  generalize rRt (x * y) 1 = t at gT
  generalize rRt y 1 = o at gO
  refine good_frm 134 Try.func9 rfl rfl rfl rfl rfl rfl ?_
  refine awp_seq ?_
  refine rln ?_
  refine G2 (fun _ k_ => q_boxa k_) ?_
  refine G2 (fun _ k_ => q_boxa k_) ?_
  refine As ?_
  refine gend ?_
  refine awp_mid ⟨frm 134 [(2, sc (.ptr 0 0)), (3, sc (.ptr 1 0)), (5, sc (.ptr 2 0)), (6, sc (.ptr 3 0))], [some (u8s a), some (u8s b), some (u64s (el x)), some (u64s (el y))]⟩ ?_ ?_
  · refine rdm [1, 3, 4, 5, 6, 7] [⟨[0, 1, 2, 3, 4, 5, 6, 7], [1, 3, 4, 5, 6, 7], [1, 3, 4, 5, 6, 7], [0, 0, 0, 1, 2, 3, 4, 5], [0, 1, 1, 2, 3, 4, 5, 6]⟩, ⟨[0, 1, 2, 3, 5, 4, 6, 7], [1, 3, 5, 4, 6, 7], [1, 3, 4, 5, 6, 7], [0, 0, 0, 1, 2, 3, 4, 5], [0, 1, 1, 2, 3, 4, 5, 6]⟩, ⟨[0, 1, 2, 4, 3, 5, 6, 7], [1, 4, 3, 5, 6, 7], [1, 3, 4, 5, 6, 7], [0, 0, 0, 1, 2, 3, 4, 5], [0, 1, 2, 2, 3, 4, 5, 6]⟩, ⟨[0, 1, 2, 4, 5, 3, 6, 7], [1, 4, 5, 3, 6, 7], [1, 3, 4, 5, 6, 7], [0, 0, 0, 1, 2, 3, 4, 5], [0, 1, 3, 2, 3, 4, 5, 6]⟩, ⟨[0, 1, 2, 5, 3, 4, 6, 7], [1, 5, 3, 4, 6, 7], [1, 3, 4, 5, 6, 7], [0, 0, 0, 1, 2, 3, 4, 5], [0, 1, 2, 2, 3, 4, 5, 6]⟩, ⟨[0, 1, 2, 5, 4, 3, 6, 7], [1, 5, 4, 3, 6, 7], [1, 3, 4, 5, 6, 7], [0, 0, 0, 1, 2, 3, 4, 5], [0, 1, 3, 2, 3, 4, 5, 6]⟩, ⟨[0, 2, 4, 1, 3, 5, 6, 7], [4, 1, 3, 5, 6, 7], [2, 3, 4, 5, 6, 7], [0, 0, 0, 1, 2, 3, 4, 5], [1, 2, 1, 2, 3, 4, 5, 6]⟩, ⟨[0, 2, 4, 1, 5, 3, 6, 7], [4, 1, 5, 3, 6, 7], [2, 3, 4, 5, 6, 7], [0, 0, 0, 1, 2, 3, 4, 5], [1, 3, 1, 2, 3, 4, 5, 6]⟩, ⟨[0, 2, 4, 5, 1, 3, 6, 7], [4, 5, 1, 3, 6, 7], [2, 3, 4, 5, 6, 7], [0, 0, 0, 1, 2, 3, 4, 5], [2, 3, 1, 2, 3, 4, 5, 6]⟩, ⟨[0, 2, 5, 1, 3, 4, 6, 7], [5, 1, 3, 4, 6, 7], [2, 3, 4, 5, 6, 7], [0, 0, 0, 1, 2, 3, 4, 5], [1, 2, 1, 2, 3, 4, 5, 6]⟩, ⟨[0, 2, 5, 1, 4, 3, 6, 7], [5, 1, 4, 3, 6, 7], [2, 3, 4, 5, 6, 7], [0, 0, 0, 1, 2, 3, 4, 5], [1, 3, 1, 2, 3, 4, 5, 6]⟩, ⟨[0, 2, 5, 4, 1, 3, 6, 7], [5, 4, 1, 3, 6, 7], [2, 3, 4, 5, 6, 7], [0, 0, 0, 1, 2, 3, 4, 5], [2, 3, 1, 2, 3, 4, 5, 6]⟩] ⟨?_, ?_, ?_, ?_, ?_, ?_, ?_, ?_, ?_, ?_, ?_, ?_, trivial⟩   -- region 1
    · refine DLw ?_
      refine De2 (fun _ k_ => q_callp (ga) k_) ?_
      refine DLw ?_
      refine De2 (fun _ k_ => q_callp (gb) k_) ?_
      refine De2 (fun _ k_ => q_al k_) ?_
      refine De2 (fun _ k_ => q_al k_) ?_
      refine De20 (fun _ k_ => q_stw k_) ?_
      refine De20 (fun _ k_ => q_stw k_) ?_
      refine dend ?_
      exact sle_sub ⟨rfl, rfl, rfl, rfl, trivial⟩ rfl
    · refine DLw ?_
      refine De2 (fun _ k_ => q_callp (ga) k_) ?_
      refine DLw ?_
      refine De2 (fun _ k_ => q_callp (gb) k_) ?_
      refine De2 (fun _ k_ => q_al k_) ?_
      refine De2 (fun _ k_ => q_al k_) ?_
      refine De20 (fun _ k_ => q_stw k_) ?_
      refine De20 (fun _ k_ => q_stw k_) ?_
      refine dend ?_
      exact sle_view [0, 1, 3, 2] (fun p h => absurd h (Nat.not_lt_zero _)) (by decide) ⟨rfl, rfl, rfl, rfl, trivial⟩ (Eq.symm (pl1 rfl sees_m (pl1 rfl sees_m (pl1 rfl sees_m (pl1 rfl sees_m pl0)))))
    · refine DLw ?_
      refine De2 (fun _ k_ => q_callp (ga) k_) ?_
      refine DLw ?_
      refine De2 (fun _ k_ => q_al k_) ?_
      refine De2 (fun _ k_ => q_callp (gb) k_) ?_
      refine De2 (fun _ k_ => q_al k_) ?_
      refine De20 (fun _ k_ => q_stw k_) ?_
      refine De20 (fun _ k_ => q_stw k_) ?_
      refine dend ?_
      exact sle_sub ⟨rfl, rfl, rfl, rfl, trivial⟩ rfl
    · refine DLw ?_
      refine De2 (fun _ k_ => q_callp (ga) k_) ?_
      refine DLw ?_
      refine De2 (fun _ k_ => q_al k_) ?_
      refine De2 (fun _ k_ => q_al k_) ?_
      refine De2 (fun _ k_ => q_callp (gb) k_) ?_
      refine De20 (fun _ k_ => q_stw k_) ?_
      refine De20 (fun _ k_ => q_stw k_) ?_
      refine dend ?_
      exact sle_sub ⟨rfl, rfl, rfl, rfl, trivial⟩ rfl
    · refine DLw ?_
      refine De2 (fun _ k_ => q_callp (ga) k_) ?_
      refine DLw ?_
      refine De2 (fun _ k_ => q_al k_) ?_
      refine De2 (fun _ k_ => q_callp (gb) k_) ?_
      refine De2 (fun _ k_ => q_al k_) ?_
      refine De20 (fun _ k_ => q_stw k_) ?_
      refine De20 (fun _ k_ => q_stw k_) ?_
      refine dend ?_
      exact sle_view [0, 1, 3, 2] (fun p h => absurd h (Nat.not_lt_zero _)) (by decide) ⟨rfl, rfl, rfl, rfl, trivial⟩ (Eq.symm (pl1 rfl sees_m (pl1 rfl sees_m (pl1 rfl sees_m (pl1 rfl sees_m pl0)))))
    · refine DLw ?_
      refine De2 (fun _ k_ => q_callp (ga) k_) ?_
      refine DLw ?_
      refine De2 (fun _ k_ => q_al k_) ?_
      refine De2 (fun _ k_ => q_al k_) ?_
      refine De2 (fun _ k_ => q_callp (gb) k_) ?_
      refine De20 (fun _ k_ => q_stw k_) ?_
      refine De20 (fun _ k_ => q_stw k_) ?_
      refine dend ?_
      exact sle_view [0, 1, 3, 2] (fun p h => absurd h (Nat.not_lt_zero _)) (by decide) ⟨rfl, rfl, rfl, rfl, trivial⟩ (Eq.symm (pl1 rfl sees_m (pl1 rfl sees_m (pl1 rfl sees_m (pl1 rfl sees_m pl0)))))
    · refine DLw ?_
      refine DLw ?_
      refine De2 (fun _ k_ => q_al k_) ?_
      refine De2 (fun _ k_ => q_callp (ga) k_) ?_
      refine De2 (fun _ k_ => q_callp (gb) k_) ?_
      refine De2 (fun _ k_ => q_al k_) ?_
      refine De20 (fun _ k_ => q_stw k_) ?_
      refine De20 (fun _ k_ => q_stw k_) ?_
      refine dend ?_
      exact sle_sub ⟨rfl, rfl, rfl, rfl, trivial⟩ rfl
    · refine DLw ?_
      refine DLw ?_
      refine De2 (fun _ k_ => q_al k_) ?_
      refine De2 (fun _ k_ => q_callp (ga) k_) ?_
      refine De2 (fun _ k_ => q_al k_) ?_
      refine De2 (fun _ k_ => q_callp (gb) k_) ?_
      refine De20 (fun _ k_ => q_stw k_) ?_
      refine De20 (fun _ k_ => q_stw k_) ?_
      refine dend ?_
      exact sle_sub ⟨rfl, rfl, rfl, rfl, trivial⟩ rfl
    · refine DLw ?_
      refine DLw ?_
      refine De2 (fun _ k_ => q_al k_) ?_
      refine De2 (fun _ k_ => q_al k_) ?_
      refine De2 (fun _ k_ => q_callp (ga) k_) ?_
      refine De2 (fun _ k_ => q_callp (gb) k_) ?_
      refine De20 (fun _ k_ => q_stw k_) ?_
      refine De20 (fun _ k_ => q_stw k_) ?_
      refine dend ?_
      exact sle_sub ⟨rfl, rfl, rfl, rfl, trivial⟩ rfl
    · refine DLw ?_
      refine DLw ?_
      refine De2 (fun _ k_ => q_al k_) ?_
      refine De2 (fun _ k_ => q_callp (ga) k_) ?_
      refine De2 (fun _ k_ => q_callp (gb) k_) ?_
      refine De2 (fun _ k_ => q_al k_) ?_
      refine De20 (fun _ k_ => q_stw k_) ?_
      refine De20 (fun _ k_ => q_stw k_) ?_
      refine dend ?_
      exact sle_view [0, 1, 3, 2] (fun p h => absurd h (Nat.not_lt_zero _)) (by decide) ⟨rfl, rfl, rfl, rfl, trivial⟩ (Eq.symm (pl1 rfl sees_m (pl1 rfl sees_m (pl1 rfl sees_m (pl1 rfl sees_m pl0)))))
    · refine DLw ?_
      refine DLw ?_
      refine De2 (fun _ k_ => q_al k_) ?_
      refine De2 (fun _ k_ => q_callp (ga) k_) ?_
      refine De2 (fun _ k_ => q_al k_) ?_
      refine De2 (fun _ k_ => q_callp (gb) k_) ?_
      refine De20 (fun _ k_ => q_stw k_) ?_
      refine De20 (fun _ k_ => q_stw k_) ?_
      refine dend ?_
      exact sle_view [0, 1, 3, 2] (fun p h => absurd h (Nat.not_lt_zero _)) (by decide) ⟨rfl, rfl, rfl, rfl, trivial⟩ (Eq.symm (pl1 rfl sees_m (pl1 rfl sees_m (pl1 rfl sees_m (pl1 rfl sees_m pl0)))))
    refine DLw ?_
    refine DLw ?_
    refine De2 (fun _ k_ => q_al k_) ?_
    refine De2 (fun _ k_ => q_al k_) ?_
    refine De2 (fun _ k_ => q_callp (ga) k_) ?_
    refine De2 (fun _ k_ => q_callp (gb) k_) ?_
    refine De20 (fun _ k_ => q_stw k_) ?_
    refine De20 (fun _ k_ => q_stw k_) ?_
    refine dend ?_
    exact sle_view [0, 1, 3, 2] (fun p h => absurd h (Nat.not_lt_zero _)) (by decide) ⟨rfl, rfl, rfl, rfl, trivial⟩ (Eq.symm (pl1 rfl sees_m (pl1 rfl sees_m (pl1 rfl sees_m (pl1 rfl sees_m pl0)))))
  refine awp_seq ?_
  refine awp_seq ?_
  refine rdln [2, 3, 5, 7, 8, 9, 13, 14, 16, 21, 22, 24, 25, 26] [0, 0, 0, 1, 0, 2, 0, 3, 4, 5, 6, 6, 6, 6, 7, 6, 8, 9, 9, 9, 9, 9, 10, 9, 11, 12, 13, 14, 14] [0, 0, 1, 2, 2, 3, 3, 4, 5, 6, 6, 6, 6, 7, 8, 8, 9, 9, 9, 9, 9, 10, 11, 11, 12, 13, 14, 14, 14] ?_
  refine DLw ?_
  refine DLw ?_
  refine De2 (fun _ k_ => q_callp (Fd.mul_e x y) k_) ?_
  refine De2 (fun _ k_ => q_callp (inv_e (x * y)) k_) ?_
  refine DLw ?_
  refine De2 (fun _ k_ => q_callp (inv_e x) k_) ?_
  refine DLw ?_
  refine De2 (fun _ k_ => q_callp (inv_e y) k_) ?_
  refine De2 (fun _ k_ => q_callp (Fd.mul_e (inv x) (inv y)) k_) ?_
  refine De2 (fun _ k_ => q_callp (eq_t _ _ (inv_mul x y)) k_) ?_
  refine Dp (fun _ => q_notb ⟨rfl, rfl⟩) ?_
  refine Dp (fun _ => q_mv (s := .v (.c _)) ⟨rfl, rfl⟩) ?_
  refine DLwg ?_
  refine De2g (fun _ k_ => q_callp (inv_e x) k_) ?_
  refine De2g (fun _ k_ => q_callp (inv_e (inv x)) k_) ?_
  refine DLwg ?_
  refine De2g (fun _ k_ => q_callp (eq_t _ _ (inv_inv x)) k_) ?_
  refine Dpg (fun _ => q_notb ⟨rfl, rfl⟩) ?_
  refine Dp (fun _ => q_pkf ⟨rfl, rfl⟩) ?_
  refine Dp (fun _ => q_mv (s := .v (.c _)) ⟨rfl, rfl⟩) ?_
  refine DLwg ?_
  refine De2g (fun _ k_ => q_callp (Fd.neg_e x) k_) ?_
  refine De2g (fun _ k_ => q_callp (inv_e (-x)) k_) ?_
  refine DLwg ?_
  refine De2g (fun _ k_ => q_callp (inv_e x) k_) ?_
  refine De2g (fun _ k_ => q_callp (Fd.neg_e (inv x)) k_) ?_
  refine De2g (fun _ k_ => q_callp (eq_t _ _ (inv_neg x)) k_) ?_
  refine Dpg (fun _ => q_notb ⟨rfl, rfl⟩) ?_
  refine Dp (fun _ => q_pkf ⟨rfl, rfl⟩) ?_
  refine dend ?_
  refine cndF ?_
  refine awp_skip ?_
  refine awp_seq ?_
  refine rln ?_
  refine G2 (fun _ k_ => q_callp (small_1) k_ (ha := (cac rfl cm_int ca0))) ?_
  refine G2 (fun _ k_ => q_al k_) ?_
  refine G20 (fun _ k_ => q_stw k_) ?_
  refine gend ?_
  refine awp_seq ?_
  refine rln ?_
  refine G (q_ldw ?_)
  refine G (q_ldw ?_)
  refine G2 (fun _ k_ => q_callp (gR) k_) ?_
  refine G (q_mv (s := .t _) ?_)
  refine G (q_ext (y := .a _) ?_)
  refine G (q_ext (y := .c _) ?_)
  refine G2 (fun _ k_ => q_al k_) ?_
  refine G20 (fun _ k_ => q_stw k_) ?_
  refine As ?_
  refine gend ?_
  refine awp_mid ⟨frm 134 [(5, sc (.ptr 2 0)), (6, sc (.ptr 3 0)), (7, sc (.ptr 4 0)), (8, sc (.ptr 5 0)), (9, sc (.bool false)), (10, sc (.ptr 6 0)), (11, sc (.bool false))], [some (u8s a), some (u8s b), some (u64s (el x)), some (u64s (el y)), some (u64s (el 1)), some (u64s (el r)), some (u64s (el s))]⟩ ?_ ?_
  · refine rdm [1, 3, 7, 8] [⟨[0, 1, 2, 3, 4, 5, 6, 7, 8, 9], [1, 3, 7, 8], [1, 3, 7, 8], [0, 0, 0, 1, 2, 2, 2, 2, 3, 4], [0, 1, 1, 2, 3, 3, 4, 3, 4, 4]⟩, ⟨[0, 1, 2, 7, 3, 4, 5, 6, 8, 9], [1, 7, 3, 8], [1, 3, 4, 8], [0, 0, 0, 1, 2, 3, 3, 3, 3, 4], [0, 1, 2, 2, 3, 3, 3, 4, 4, 4]⟩, ⟨[0, 2, 7, 1, 3, 4, 5, 6, 8, 9], [7, 1, 3, 8], [2, 3, 4, 8], [0, 0, 0, 1, 2, 3, 3, 3, 3, 4], [1, 2, 1, 2, 3, 3, 3, 4, 4, 4]⟩] ⟨?_, ?_, ?_, trivial⟩   -- region 6
    · refine DLw ?_
      refine De2 (fun _ k_ => q_callp (Fd.neg_e x) k_) ?_
      refine DLw ?_
      refine De2 (fun _ k_ => q_callp (gS) k_) ?_
      refine Dp (fun _ => q_mv (s := .t _) ⟨rfl, rfl⟩) ?_
      refine Dp (fun _ => q_ext (y := .a _) ⟨rfl, rfl⟩) ?_
      refine Dp (fun _ => q_ext (y := .c _) ⟨rfl, rfl⟩) ?_
      refine De2 (fun _ k_ => q_al k_) ?_
      refine De20 (fun _ k_ => q_stw k_) ?_
      refine Dp (fun _ => q_as (s := .v (.c _)) ⟨rfl, rfl⟩) ?_
      refine dend ?_
      exact sle_sub ⟨rfl, rfl, rfl, rfl, rfl, rfl, rfl, trivial⟩ rfl
    · refine DLw ?_
      refine De2 (fun _ k_ => q_callp (Fd.neg_e x) k_) ?_
      refine DLw ?_
      refine De2 (fun _ k_ => q_al k_) ?_
      refine De2 (fun _ k_ => q_callp (gS) k_) ?_
      refine Dp (fun _ => q_mv (s := .t _) ⟨rfl, rfl⟩) ?_
      refine Dp (fun _ => q_ext (y := .a _) ⟨rfl, rfl⟩) ?_
      refine Dp (fun _ => q_ext (y := .c _) ⟨rfl, rfl⟩) ?_
      refine De20 (fun _ k_ => q_stw k_) ?_
      refine Dp (fun _ => q_as (s := .v (.c _)) ⟨rfl, rfl⟩) ?_
      refine dend ?_
      exact sle_sub ⟨rfl, rfl, rfl, rfl, rfl, rfl, rfl, trivial⟩ rfl
    refine DLw ?_
    refine DLw ?_
    refine De2 (fun _ k_ => q_al k_) ?_
    refine De2 (fun _ k_ => q_callp (Fd.neg_e x) k_) ?_
    refine De2 (fun _ k_ => q_callp (gS) k_) ?_
    refine Dp (fun _ => q_mv (s := .t _) ⟨rfl, rfl⟩) ?_
    refine Dp (fun _ => q_ext (y := .a _) ⟨rfl, rfl⟩) ?_
    refine Dp (fun _ => q_ext (y := .c _) ⟨rfl, rfl⟩) ?_
    refine De20 (fun _ k_ => q_stw k_) ?_
    refine Dp (fun _ => q_as (s := .v (.c _)) ⟨rfl, rfl⟩) ?_
    refine dend ?_
    exact sle_sub ⟨rfl, rfl, rfl, rfl, rfl, rfl, rfl, trivial⟩ rfl
  refine awp_seq ?_
  refine awp_seq ?_
  refine rdln [7, 9, 13, 15, 16] [0, 0, 0, 0, 0, 0, 0, 0, 0, 1, 2, 2, 2, 2, 2, 3, 4, 5, 5, 5, 5] [0, 0, 0, 0, 0, 0, 0, 1, 1, 2, 2, 2, 2, 3, 3, 4, 5, 5, 5, 5, 5] ?_
  refine Dp (fun _ => q_mv (s := .v (.c _)) ⟨rfl, rfl⟩) ?_
  refine Dp (fun _ => q_mv (s := .v (.c _)) ⟨rfl, rfl⟩) ?_
  refine Dp (fun _ => q_neqb ⟨rfl, rfl⟩) ?_
  refine Dp (fun _ => q_mv (s := .v (.c _)) ⟨rfl, rfl⟩) ?_
  refine Dkf 66 (fun hb4 => ?_) ?_; rotate_left
  · rfl
  refine Dpg (fun _ => q_mv (s := .v (.c _)) ⟨rfl, rfl⟩) ?_
  refine Dpg (fun _ => q_mv (s := .v (.c _)) ⟨rfl, rfl⟩) ?_
  refine Dkf 68 (fun hb6 => ?_) ?_; rotate_left
  · rfl
  refine Dn ?_
  refine Dm ?_
  refine Dn ?_
  refine Dm ?_
  refine Dn ?_
  refine Dn ?_
  refine Du ?_
  refine Dmu ?_
  refine Du ?_
  refine Dmu ?_
  refine Dmu ?_
  refine Du ?_
  refine Dn ?_
  refine Dpg (fun _ => q_pkf ⟨rfl, rfl⟩) ?_
  refine Dp (fun _ => q_pkf ⟨rfl, rfl⟩) ?_
  refine dend ?_
  refine cndF ?_
  refine awp_skip ?_
  refine awp_mid ⟨frm 134 [(5, sc (.ptr 2 0)), (6, sc (.ptr 3 0)), (7, sc (.ptr 4 0)), (9, sc (.bool false)), (12, sc (.ptr 7 0)), (13, sc (.bool true))], [some (u8s a), some (u8s b), some (u64s (el x)), some (u64s (el y)), some (u64s (el 1)), some (u64s (el r)), some (u64s (el s)), some (u64s (el t))]⟩ ?_ ?_
  · refine rdm [2, 4, 8, 9] [⟨[0, 1, 2, 3, 4, 5, 6, 7, 8, 9, 10], [2, 4, 8, 9], [2, 4, 8, 9], [0, 0, 0, 0, 1, 2, 2, 2, 2, 3, 4], [0, 0, 1, 1, 2, 3, 3, 4, 3, 4, 4]⟩, ⟨[0, 1, 2, 3, 8, 4, 5, 6, 7, 9, 10], [2, 8, 4, 9], [2, 4, 5, 9], [0, 0, 0, 0, 1, 2, 3, 3, 3, 3, 4], [0, 0, 1, 2, 2, 3, 3, 3, 4, 4, 4]⟩, ⟨[0, 1, 3, 8, 2, 4, 5, 6, 7, 9, 10], [8, 2, 4, 9], [3, 4, 5, 9], [0, 0, 0, 0, 1, 2, 3, 3, 3, 3, 4], [1, 1, 2, 1, 2, 3, 3, 3, 4, 4, 4]⟩] ⟨?_, ?_, ?_, trivial⟩   -- region 9
    · refine DLw ?_
      refine DLw ?_
      refine De2 (fun _ k_ => q_callp (Fd.mul_e x y) k_) ?_
      refine DLw ?_
      refine De2 (fun _ k_ => q_callp (gT) k_) ?_
      refine Dp (fun _ => q_mv (s := .t _) ⟨rfl, rfl⟩) ?_
      refine Dp (fun _ => q_ext (y := .a _) ⟨rfl, rfl⟩) ?_
      refine Dp (fun _ => q_ext (y := .c _) ⟨rfl, rfl⟩) ?_
      refine De2 (fun _ k_ => q_al k_) ?_
      refine De20 (fun _ k_ => q_stw k_) ?_
      refine Dp (fun _ => q_as (s := .v (.c _)) ⟨rfl, rfl⟩) ?_
      refine dend ?_
      exact sle_sub ⟨rfl, rfl, rfl, rfl, rfl, rfl, trivial⟩ rfl
    · refine DLw ?_
      refine DLw ?_
      refine De2 (fun _ k_ => q_callp (Fd.mul_e x y) k_) ?_
      refine DLw ?_
      refine De2 (fun _ k_ => q_al k_) ?_
      refine De2 (fun _ k_ => q_callp (gT) k_) ?_
      refine Dp (fun _ => q_mv (s := .t _) ⟨rfl, rfl⟩) ?_
      refine Dp (fun _ => q_ext (y := .a _) ⟨rfl, rfl⟩) ?_
      refine Dp (fun _ => q_ext (y := .c _) ⟨rfl, rfl⟩) ?_
      refine De20 (fun _ k_ => q_stw k_) ?_
      refine Dp (fun _ => q_as (s := .v (.c _)) ⟨rfl, rfl⟩) ?_
      refine dend ?_
      exact sle_sub ⟨rfl, rfl, rfl, rfl, rfl, rfl, trivial⟩ rfl
    refine DLw ?_
    refine DLw ?_
    refine DLw ?_
    refine De2 (fun _ k_ => q_al k_) ?_
    refine De2 (fun _ k_ => q_callp (Fd.mul_e x y) k_) ?_
    refine De2 (fun _ k_ => q_callp (gT) k_) ?_
    refine Dp (fun _ => q_mv (s := .t _) ⟨rfl, rfl⟩) ?_
    refine Dp (fun _ => q_ext (y := .a _) ⟨rfl, rfl⟩) ?_
    refine Dp (fun _ => q_ext (y := .c _) ⟨rfl, rfl⟩) ?_
    refine De20 (fun _ k_ => q_stw k_) ?_
    refine Dp (fun _ => q_as (s := .v (.c _)) ⟨rfl, rfl⟩) ?_
    refine dend ?_
    exact sle_sub ⟨rfl, rfl, rfl, rfl, rfl, rfl, trivial⟩ rfl
  refine awp_seq ?_
  refine rln ?_
  refine G (q_ldw ?_)
  refine G (q_ldw ?_)
  refine G2 (fun _ k_ => q_callp (gO) k_) ?_
  refine G (q_mv (s := .t _) ?_)
  refine G (q_ext (y := .a _) ?_)
  refine G (q_ext (y := .c _) ?_)
  refine G2 (fun _ k_ => q_al k_) ?_
  refine G20 (fun _ k_ => q_stw k_) ?_
  refine As ?_
  refine gend ?_
  refine awp_seq ?_
  refine awp_seq ?_
  refine rln ?_
  refine Mv ?_
  refine Mv ?_
  refine Akf 99 (fun hb2 => ?_) ?_; rotate_left
  · rfl
  refine Gn ?_
  refine G (q_pkf ?_)
  refine Mv ?_
  refine Gg (q_mv (s := .v (.c _)) ?_)
  refine Gg (q_notb ?_)
  refine Gg (q_mv (s := .v (.c _)) ?_)
  refine Gg (q_mv (s := .v (.c _)) ?_)
  refine Gg (q_notb ?_)
  refine Gg (q_pkt ?_)
  refine G (q_pkf ?_)
  refine gend ?_
  refine cndbnN (fun hc1 => ?_) ?_; rotate_left
  · rfl
  refine awp_skip ?_
  refine awp_seq ?_
  refine rln ?_
  refine Mv ?_
  refine G (q_notb ?_)
  refine Mv ?_
  refine Akf 124 (fun hb3 => ?_) ?_; rotate_left
  · rfl
  refine Gg (q_ldw ?_)
  refine Gg (q_ldw ?_)
  refine G2g (fun _ k_ => q_callp (Fd.mul_e x y) k_) ?_
  refine G2g (fun _ k_ => q_callp (small_0) k_ (ha := (cac rfl cm_int ca0))) ?_
  refine G2g (fun _ k_ => q_callp (eq_t _ _ q3) k_) ?_
  refine G (q_pkf ?_)
  refine Mv ?_
  refine G2g (fun _ k_ => q_callp (known_) k_) ?_
  refine G (q_pkt ?_)
  refine As ?_
  refine gend ?_
  refine awp_ret ?_
  exact fp1
set_option maxHeartbeats 3200000 in
/-- escutcheonlaw02.FieldInverts -/
theorem inverts_ftf (a b : List UInt8) (ha : a.length = 32) (hb : b.length = 32) (h1 : ok1 (fb a) = false) (h2 : ok1 (fb b) = true) (h3 : ok1 (fb a * fb b) = false) : Good Try.prog 9 [.a (u8s a), .a (u8s b)] [] (sc (.bool true)) [] := by
  have ga := of_e a ha
  have gb := of_e b hb
  generalize fb a = x at ga h1 h3
  generalize fb b = y at gb h2 h3
  have hn := (ok1_neg x).trans h1
  have gR := root_e x 1
  have gS := root_e (-x) 1
  have gT := root_e (x * y) 1
  have gO := root_e y 1
  rw [show rOk x 1 = _ from h1] at gR
  rw [show rOk (-x) 1 = _ from hn] at gS
  rw [show rOk (x * y) 1 = _ from h3] at gT
  rw [show rOk y 1 = _ from h2] at gO
  generalize rRt x 1 = r at gR
  generalize rRt (-x) 1 = s at gS
  generalize rRt (x * y) 1 = t at gT
  generalize rRt y 1 = o at gO
  refine good_frm 134 Try.func9 rfl rfl rfl rfl rfl rfl ?_
  refine awp_seq ?_
  refine rln ?_
  refine G2 (fun _ k_ => q_boxa k_) ?_
  refine G2 (fun _ k_ => q_boxa k_) ?_
  refine As ?_
  refine gend ?_
  refine awp_mid ⟨frm 134 [(2, sc (.ptr 0 0)), (3, sc (.ptr 1 0)), (5, sc (.ptr 2 0)), (6, sc (.ptr 3 0))], [some (u8s a), some (u8s b), some (u64s (el x)), some (u64s (el y))]⟩ ?_ ?_
  · refine rdm [1, 3, 4, 5, 6, 7] [⟨[0, 1, 2, 3, 4, 5, 6, 7], [1, 3, 4, 5, 6, 7], [1, 3, 4, 5, 6, 7], [0, 0, 0, 1, 2, 3, 4, 5], [0, 1, 1, 2, 3, 4, 5, 6]⟩, ⟨[0, 1, 2, 3, 5, 4, 6, 7], [1, 3, 5, 4, 6, 7], [1, 3, 4, 5, 6, 7], [0, 0, 0, 1, 2, 3, 4, 5], [0, 1, 1, 2, 3, 4, 5, 6]⟩, ⟨[0, 1, 2, 4, 3, 5, 6, 7], [1, 4, 3, 5, 6, 7], [1, 3, 4, 5, 6, 7], [0, 0, 0, 1, 2, 3, 4, 5], [0, 1, 2, 2, 3, 4, 5, 6]⟩, ⟨[0, 1, 2, 4, 5, 3, 6, 7], [1, 4, 5, 3, 6, 7], [1, 3, 4, 5, 6, 7], [0, 0, 0, 1, 2, 3, 4, 5], [0, 1, 3, 2, 3, 4, 5, 6]⟩, ⟨[0, 1, 2, 5, 3, 4, 6, 7], [1, 5, 3, 4, 6, 7], [1, 3, 4, 5, 6, 7], [0, 0, 0, 1, 2, 3, 4, 5], [0, 1, 2, 2, 3, 4, 5, 6]⟩, ⟨[0, 1, 2, 5, 4, 3, 6, 7], [1, 5, 4, 3, 6, 7], [1, 3, 4, 5, 6, 7], [0, 0, 0, 1, 2, 3, 4, 5], [0, 1, 3, 2, 3, 4, 5, 6]⟩, ⟨[0, 2, 4, 1, 3, 5, 6, 7], [4, 1, 3, 5, 6, 7], [2, 3, 4, 5, 6, 7], [0, 0, 0, 1, 2, 3, 4, 5], [1, 2, 1, 2, 3, 4, 5, 6]⟩, ⟨[0, 2, 4, 1, 5, 3, 6, 7], [4, 1, 5, 3, 6, 7], [2, 3, 4, 5, 6, 7], [0, 0, 0, 1, 2, 3, 4, 5], [1, 3, 1, 2, 3, 4, 5, 6]⟩, ⟨[0, 2, 4, 5, 1, 3, 6, 7], [4, 5, 1, 3, 6, 7], [2, 3, 4, 5, 6, 7], [0, 0, 0, 1, 2, 3, 4, 5], [2, 3, 1, 2, 3, 4, 5, 6]⟩, ⟨[0, 2, 5, 1, 3, 4, 6, 7], [5, 1, 3, 4, 6, 7], [2, 3, 4, 5, 6, 7], [0, 0, 0, 1, 2, 3, 4, 5], [1, 2, 1, 2, 3, 4, 5, 6]⟩, ⟨[0, 2, 5, 1, 4, 3, 6, 7], [5, 1, 4, 3, 6, 7], [2, 3, 4, 5, 6, 7], [0, 0, 0, 1, 2, 3, 4, 5], [1, 3, 1, 2, 3, 4, 5, 6]⟩, ⟨[0, 2, 5, 4, 1, 3, 6, 7], [5, 4, 1, 3, 6, 7], [2, 3, 4, 5, 6, 7], [0, 0, 0, 1, 2, 3, 4, 5], [2, 3, 1, 2, 3, 4, 5, 6]⟩] ⟨?_, ?_, ?_, ?_, ?_, ?_, ?_, ?_, ?_, ?_, ?_, ?_, trivial⟩   -- region 1
    · refine DLw ?_
      refine De2 (fun _ k_ => q_callp (ga) k_) ?_
      refine DLw ?_
      refine De2 (fun _ k_ => q_callp (gb) k_) ?_
      refine De2 (fun _ k_ => q_al k_) ?_
      refine De2 (fun _ k_ => q_al k_) ?_
      refine De20 (fun _ k_ => q_stw k_) ?_
      refine De20 (fun _ k_ => q_stw k_) ?_
      refine dend ?_
      exact sle_sub ⟨rfl, rfl, rfl, rfl, trivial⟩ rfl
    · refine DLw ?_
      refine De2 (fun _ k_ => q_callp (ga) k_) ?_
      refine DLw ?_
      refine De2 (fun _ k_ => q_callp (gb) k_) ?_
      refine De2 (fun _ k_ => q_al k_) ?_
      refine De2 (fun _ k_ => q_al k_) ?_
      refine De20 (fun _ k_ => q_stw k_) ?_
      refine De20 (fun _ k_ => q_stw k_) ?_
      refine dend ?_
      exact sle_view [0, 1, 3, 2] (fun p h => absurd h (Nat.not_lt_zero _)) (by decide) ⟨rfl, rfl, rfl, rfl, trivial⟩ (Eq.symm (pl1 rfl sees_m (pl1 rfl sees_m (pl1 rfl sees_m (pl1 rfl sees_m pl0)))))
    · refine DLw ?_
      refine De2 (fun _ k_ => q_callp (ga) k_) ?_
      refine DLw ?_
      refine De2 (fun _ k_ => q_al k_) ?_
      refine De2 (fun _ k_ => q_callp (gb) k_) ?_
      refine De2 (fun _ k_ => q_al k_) ?_
      refine De20 (fun _ k_ => q_stw k_) ?_
      refine De20 (fun _ k_ => q_stw k_) ?_
      refine dend ?_
      exact sle_sub ⟨rfl, rfl, rfl, rfl, trivial⟩ rfl
    · refine DLw ?_
      refine De2 (fun _ k_ => q_callp (ga) k_) ?_
      refine DLw ?_
      refine De2 (fun _ k_ => q_al k_) ?_
      refine De2 (fun _ k_ => q_al k_) ?_
      refine De2 (fun _ k_ => q_callp (gb) k_) ?_
      refine De20 (fun _ k_ => q_stw k_) ?_
      refine De20 (fun _ k_ => q_stw k_) ?_
      refine dend ?_
      exact sle_sub ⟨rfl, rfl, rfl, rfl, trivial⟩ rfl
    · refine DLw ?_
      refine De2 (fun _ k_ => q_callp (ga) k_) ?_
      refine DLw ?_
      refine De2 (fun _ k_ => q_al k_) ?_
      refine De2 (fun _ k_ => q_callp (gb) k_) ?_
      refine De2 (fun _ k_ => q_al k_) ?_
      refine De20 (fun _ k_ => q_stw k_) ?_
      refine De20 (fun _ k_ => q_stw k_) ?_
      refine dend ?_
      exact sle_view [0, 1, 3, 2] (fun p h => absurd h (Nat.not_lt_zero _)) (by decide) ⟨rfl, rfl, rfl, rfl, trivial⟩ (Eq.symm (pl1 rfl sees_m (pl1 rfl sees_m (pl1 rfl sees_m (pl1 rfl sees_m pl0)))))
    · refine DLw ?_
      refine De2 (fun _ k_ => q_callp (ga) k_) ?_
      refine DLw ?_
      refine De2 (fun _ k_ => q_al k_) ?_
      refine De2 (fun _ k_ => q_al k_) ?_
      refine De2 (fun _ k_ => q_callp (gb) k_) ?_
      refine De20 (fun _ k_ => q_stw k_) ?_
      refine De20 (fun _ k_ => q_stw k_) ?_
      refine dend ?_
      exact sle_view [0, 1, 3, 2] (fun p h => absurd h (Nat.not_lt_zero _)) (by decide) ⟨rfl, rfl, rfl, rfl, trivial⟩ (Eq.symm (pl1 rfl sees_m (pl1 rfl sees_m (pl1 rfl sees_m (pl1 rfl sees_m pl0)))))
    · refine DLw ?_
      refine DLw ?_
      refine De2 (fun _ k_ => q_al k_) ?_
      refine De2 (fun _ k_ => q_callp (ga) k_) ?_
      refine De2 (fun _ k_ => q_callp (gb) k_) ?_
      refine De2 (fun _ k_ => q_al k_) ?_
      refine De20 (fun _ k_ => q_stw k_) ?_
      refine De20 (fun _ k_ => q_stw k_) ?_
      refine dend ?_
      exact sle_sub ⟨rfl, rfl, rfl, rfl, trivial⟩ rfl
    · refine DLw ?_
      refine DLw ?_
      refine De2 (fun _ k_ => q_al k_) ?_
      refine De2 (fun _ k_ => q_callp (ga) k_) ?_
      refine De2 (fun _ k_ => q_al k_) ?_
      refine De2 (fun _ k_ => q_callp (gb) k_) ?_
      refine De20 (fun _ k_ => q_stw k_) ?_
      refine De20 (fun _ k_ => q_stw k_) ?_
      refine dend ?_
      exact sle_sub ⟨rfl, rfl, rfl, rfl, trivial⟩ rfl
    · refine DLw ?_
      refine DLw ?_
      refine De2 (fun _ k_ => q_al k_) ?_
      refine De2 (fun _ k_ => q_al k_) ?_
      refine De2 (fun _ k_ => q_callp (ga) k_) ?_
      refine De2 (fun _ k_ => q_callp (gb) k_) ?_
      refine De20 (fun _ k_ => q_stw k_) ?_
      refine De20 (fun _ k_ => q_stw k_) ?_
      refine dend ?_
      exact sle_sub ⟨rfl, rfl, rfl, rfl, trivial⟩ rfl
    · refine DLw ?_
      refine DLw ?_
      refine De2 (fun _ k_ => q_al k_) ?_
      refine De2 (fun _ k_ => q_callp (ga) k_) ?_
      refine De2 (fun _ k_ => q_callp (gb) k_) ?_
      refine De2 (fun _ k_ => q_al k_) ?_
      refine De20 (fun _ k_ => q_stw k_) ?_
      refine De20 (fun _ k_ => q_stw k_) ?_
      refine dend ?_
      exact sle_view [0, 1, 3, 2] (fun p h => absurd h (Nat.not_lt_zero _)) (by decide) ⟨rfl, rfl, rfl, rfl, trivial⟩ (Eq.symm (pl1 rfl sees_m (pl1 rfl sees_m (pl1 rfl sees_m (pl1 rfl sees_m pl0)))))
    · refine DLw ?_
      refine DLw ?_
      refine De2 (fun _ k_ => q_al k_) ?_
      refine De2 (fun _ k_ => q_callp (ga) k_) ?_
      refine De2 (fun _ k_ => q_al k_) ?_
      refine De2 (fun _ k_ => q_callp (gb) k_) ?_
      refine De20 (fun _ k_ => q_stw k_) ?_
      refine De20 (fun _ k_ => q_stw k_) ?_
      refine dend ?_
      exact sle_view [0, 1, 3, 2] (fun p h => absurd h (Nat.not_lt_zero _)) (by decide) ⟨rfl, rfl, rfl, rfl, trivial⟩ (Eq.symm (pl1 rfl sees_m (pl1 rfl sees_m (pl1 rfl sees_m (pl1 rfl sees_m pl0)))))
    refine DLw ?_
    refine DLw ?_
    refine De2 (fun _ k_ => q_al k_) ?_
    refine De2 (fun _ k_ => q_al k_) ?_
    refine De2 (fun _ k_ => q_callp (ga) k_) ?_
    refine De2 (fun _ k_ => q_callp (gb) k_) ?_
    refine De20 (fun _ k_ => q_stw k_) ?_
    refine De20 (fun _ k_ => q_stw k_) ?_
    refine dend ?_
    exact sle_view [0, 1, 3, 2] (fun p h => absurd h (Nat.not_lt_zero _)) (by decide) ⟨rfl, rfl, rfl, rfl, trivial⟩ (Eq.symm (pl1 rfl sees_m (pl1 rfl sees_m (pl1 rfl sees_m (pl1 rfl sees_m pl0)))))
  refine awp_seq ?_
  refine awp_seq ?_
  refine rdln [2, 3, 5, 7, 8, 9, 13, 14, 16, 21, 22, 24, 25, 26] [0, 0, 0, 1, 0, 2, 0, 3, 4, 5, 6, 6, 6, 6, 7, 6, 8, 9, 9, 9, 9, 9, 10, 9, 11, 12, 13, 14, 14] [0, 0, 1, 2, 2, 3, 3, 4, 5, 6, 6, 6, 6, 7, 8, 8, 9, 9, 9, 9, 9, 10, 11, 11, 12, 13, 14, 14, 14] ?_
  refine DLw ?_
  refine DLw ?_
  refine De2 (fun _ k_ => q_callp (Fd.mul_e x y) k_) ?_
  refine De2 (fun _ k_ => q_callp (inv_e (x * y)) k_) ?_
  refine DLw ?_
  refine De2 (fun _ k_ => q_callp (inv_e x) k_) ?_
  refine DLw ?_
  refine De2 (fun _ k_ => q_callp (inv_e y) k_) ?_
  refine De2 (fun _ k_ => q_callp (Fd.mul_e (inv x) (inv y)) k_) ?_
  refine De2 (fun _ k_ => q_callp (eq_t _ _ (inv_mul x y)) k_) ?_
  refine Dp (fun _ => q_notb ⟨rfl, rfl⟩) ?_
  refine Dp (fun _ => q_mv (s := .v (.c _)) ⟨rfl, rfl⟩) ?_
  refine DLwg ?_
  refine De2g (fun _ k_ => q_callp (inv_e x) k_) ?_
  refine De2g (fun _ k_ => q_callp (inv_e (inv x)) k_) ?_
  refine DLwg ?_
  refine De2g (fun _ k_ => q_callp (eq_t _ _ (inv_inv x)) k_) ?_
  refine Dpg (fun _ => q_notb ⟨rfl, rfl⟩) ?_
  refine Dp (fun _ => q_pkf ⟨rfl, rfl⟩) ?_
  refine Dp (fun _ => q_mv (s := .v (.c _)) ⟨rfl, rfl⟩) ?_
  refine DLwg ?_
  refine De2g (fun _ k_ => q_callp (Fd.neg_e x) k_) ?_
  refine De2g (fun _ k_ => q_callp (inv_e (-x)) k_) ?_
  refine DLwg ?_
  refine De2g (fun _ k_ => q_callp (inv_e x) k_) ?_
  refine De2g (fun _ k_ => q_callp (Fd.neg_e (inv x)) k_) ?_
  refine De2g (fun _ k_ => q_callp (eq_t _ _ (inv_neg x)) k_) ?_
  refine Dpg (fun _ => q_notb ⟨rfl, rfl⟩) ?_
  refine Dp (fun _ => q_pkf ⟨rfl, rfl⟩) ?_
  refine dend ?_
  refine cndF ?_
  refine awp_skip ?_
  refine awp_seq ?_
  refine rln ?_
  refine G2 (fun _ k_ => q_callp (small_1) k_ (ha := (cac rfl cm_int ca0))) ?_
  refine G2 (fun _ k_ => q_al k_) ?_
  refine G20 (fun _ k_ => q_stw k_) ?_
  refine gend ?_
  refine awp_seq ?_
  refine rln ?_
  refine G (q_ldw ?_)
  refine G (q_ldw ?_)
  refine G2 (fun _ k_ => q_callp (gR) k_) ?_
  refine G (q_mv (s := .t _) ?_)
  refine G (q_ext (y := .a _) ?_)
  refine G (q_ext (y := .c _) ?_)
  refine G2 (fun _ k_ => q_al k_) ?_
  refine G20 (fun _ k_ => q_stw k_) ?_
  refine As ?_
  refine gend ?_
  refine awp_mid ⟨frm 134 [(5, sc (.ptr 2 0)), (6, sc (.ptr 3 0)), (7, sc (.ptr 4 0)), (8, sc (.ptr 5 0)), (9, sc (.bool false)), (10, sc (.ptr 6 0)), (11, sc (.bool false))], [some (u8s a), some (u8s b), some (u64s (el x)), some (u64s (el y)), some (u64s (el 1)), some (u64s (el r)), some (u64s (el s))]⟩ ?_ ?_
  · refine rdm [1, 3, 7, 8] [⟨[0, 1, 2, 3, 4, 5, 6, 7, 8, 9], [1, 3, 7, 8], [1, 3, 7, 8], [0, 0, 0, 1, 2, 2, 2, 2, 3, 4], [0, 1, 1, 2, 3, 3, 4, 3, 4, 4]⟩, ⟨[0, 1, 2, 7, 3, 4, 5, 6, 8, 9], [1, 7, 3, 8], [1, 3, 4, 8], [0, 0, 0, 1, 2, 3, 3, 3, 3, 4], [0, 1, 2, 2, 3, 3, 3, 4, 4, 4]⟩, ⟨[0, 2, 7, 1, 3, 4, 5, 6, 8, 9], [7, 1, 3, 8], [2, 3, 4, 8], [0, 0, 0, 1, 2, 3, 3, 3, 3, 4], [1, 2, 1, 2, 3, 3, 3, 4, 4, 4]⟩] ⟨?_, ?_, ?_, trivial⟩   -- region 6
    · refine DLw ?_
      refine De2 (fun _ k_ => q_callp (Fd.neg_e x) k_) ?_
      refine DLw ?_
      refine De2 (fun _ k_ => q_callp (gS) k_) ?_
      refine Dp (fun _ => q_mv (s := .t _) ⟨rfl, rfl⟩) ?_
      refine Dp (fun _ => q_ext (y := .a _) ⟨rfl, rfl⟩) ?_
      refine Dp (fun _ => q_ext (y := .c _) ⟨rfl, rfl⟩) ?_
      refine De2 (fun _ k_ => q_al k_) ?_
      refine De20 (fun _ k_ => q_stw k_) ?_
      refine Dp (fun _ => q_as (s := .v (.c _)) ⟨rfl, rfl⟩) ?_
      refine dend ?_
      exact sle_sub ⟨rfl, rfl, rfl, rfl, rfl, rfl, rfl, trivial⟩ rfl
    · refine DLw ?_
      refine De2 (fun _ k_ => q_callp (Fd.neg_e x) k_) ?_
      refine DLw ?_
      refine De2 (fun _ k_ => q_al k_) ?_
      refine De2 (fun _ k_ => q_callp (gS) k_) ?_
      refine Dp (fun _ => q_mv (s := .t _) ⟨rfl, rfl⟩) ?_
      refine Dp (fun _ => q_ext (y := .a _) ⟨rfl, rfl⟩) ?_
      refine Dp (fun _ => q_ext (y := .c _) ⟨rfl, rfl⟩) ?_
      refine De20 (fun _ k_ => q_stw k_) ?_
      refine Dp (fun _ => q_as (s := .v (.c _)) ⟨rfl, rfl⟩) ?_
      refine dend ?_
      exact sle_sub ⟨rfl, rfl, rfl, rfl, rfl, rfl, rfl, trivial⟩ rfl
    refine DLw ?_
    refine DLw ?_
    refine De2 (fun _ k_ => q_al k_) ?_
    refine De2 (fun _ k_ => q_callp (Fd.neg_e x) k_) ?_
    refine De2 (fun _ k_ => q_callp (gS) k_) ?_
    refine Dp (fun _ => q_mv (s := .t _) ⟨rfl, rfl⟩) ?_
    refine Dp (fun _ => q_ext (y := .a _) ⟨rfl, rfl⟩) ?_
    refine Dp (fun _ => q_ext (y := .c _) ⟨rfl, rfl⟩) ?_
    refine De20 (fun _ k_ => q_stw k_) ?_
    refine Dp (fun _ => q_as (s := .v (.c _)) ⟨rfl, rfl⟩) ?_
    refine dend ?_
    exact sle_sub ⟨rfl, rfl, rfl, rfl, rfl, rfl, rfl, trivial⟩ rfl
  refine awp_seq ?_
  refine awp_seq ?_
  refine rdln [7, 9, 13, 15, 16] [0, 0, 0, 0, 0, 0, 0, 0, 0, 1, 2, 2, 2, 2, 2, 3, 4, 5, 5, 5, 5] [0, 0, 0, 0, 0, 0, 0, 1, 1, 2, 2, 2, 2, 3, 3, 4, 5, 5, 5, 5, 5] ?_
  refine Dp (fun _ => q_mv (s := .v (.c _)) ⟨rfl, rfl⟩) ?_
  refine Dp (fun _ => q_mv (s := .v (.c _)) ⟨rfl, rfl⟩) ?_
  refine Dp (fun _ => q_neqb ⟨rfl, rfl⟩) ?_
  refine Dp (fun _ => q_mv (s := .v (.c _)) ⟨rfl, rfl⟩) ?_
  refine Dkf 66 (fun hb4 => ?_) ?_; rotate_left
  · rfl
  refine Dpg (fun _ => q_mv (s := .v (.c _)) ⟨rfl, rfl⟩) ?_
  refine Dpg (fun _ => q_mv (s := .v (.c _)) ⟨rfl, rfl⟩) ?_
  refine Dkf 68 (fun hb6 => ?_) ?_; rotate_left
  · rfl
  refine Dn ?_
  refine Dm ?_
  refine Dn ?_
  refine Dm ?_
  refine Dn ?_
  refine Dn ?_
  refine Du ?_
  refine Dmu ?_
  refine Du ?_
  refine Dmu ?_
  refine Dmu ?_
  refine Du ?_
  refine Dn ?_
  refine Dpg (fun _ => q_pkf ⟨rfl, rfl⟩) ?_
  refine Dp (fun _ => q_pkf ⟨rfl, rfl⟩) ?_
  refine dend ?_
  refine cndF ?_
  refine awp_skip ?_
  refine awp_mid ⟨frm 134 [(5, sc (.ptr 2 0)), (6, sc (.ptr 3 0)), (7, sc (.ptr 4 0)), (9, sc (.bool false)), (12, sc (.ptr 7 0)), (13, sc (.bool false))], [some (u8s a), some (u8s b), some (u64s (el x)), some (u64s (el y)), some (u64s (el 1)), some (u64s (el r)), some (u64s (el s)), some (u64s (el t))]⟩ ?_ ?_
  · refine rdm [2, 4, 8, 9] [⟨[0, 1, 2, 3, 4, 5, 6, 7, 8, 9, 10], [2, 4, 8, 9], [2, 4, 8, 9], [0, 0, 0, 0, 1, 2, 2, 2, 2, 3, 4], [0, 0, 1, 1, 2, 3, 3, 4, 3, 4, 4]⟩, ⟨[0, 1, 2, 3, 8, 4, 5, 6, 7, 9, 10], [2, 8, 4, 9], [2, 4, 5, 9], [0, 0, 0, 0, 1, 2, 3, 3, 3, 3, 4], [0, 0, 1, 2, 2, 3, 3, 3, 4, 4, 4]⟩, ⟨[0, 1, 3, 8, 2, 4, 5, 6, 7, 9, 10], [8, 2, 4, 9], [3, 4, 5, 9], [0, 0, 0, 0, 1, 2, 3, 3, 3, 3, 4], [1, 1, 2, 1, 2, 3, 3, 3, 4, 4, 4]⟩] ⟨?_, ?_, ?_, trivial⟩   -- region 9
    · refine DLw ?_
      refine DLw ?_
      refine De2 (fun _ k_ => q_callp (Fd.mul_e x y) k_) ?_
      refine DLw ?_
      refine De2 (fun _ k_ => q_callp (gT) k_) ?_
      refine Dp (fun _ => q_mv (s := .t _) ⟨rfl, rfl⟩) ?_
      refine Dp (fun _ => q_ext (y := .a _) ⟨rfl, rfl⟩) ?_
      refine Dp (fun _ => q_ext (y := .c _) ⟨rfl, rfl⟩) ?_
      refine De2 (fun _ k_ => q_al k_) ?_
      refine De20 (fun _ k_ => q_stw k_) ?_
      refine Dp (fun _ => q_as (s := .v (.c _)) ⟨rfl, rfl⟩) ?_
      refine dend ?_
      exact sle_sub ⟨rfl, rfl, rfl, rfl, rfl, rfl, trivial⟩ rfl
    · refine DLw ?_
      refine DLw ?_
      refine De2 (fun _ k_ => q_callp (Fd.mul_e x y) k_) ?_
      refine DLw ?_
      refine De2 (fun _ k_ => q_al k_) ?_
      refine De2 (fun _ k_ => q_callp (gT) k_) ?_
      refine Dp (fun _ => q_mv (s := .t _) ⟨rfl, rfl⟩) ?_
      refine Dp (fun _ => q_ext (y := .a _) ⟨rfl, rfl⟩) ?_
      refine Dp (fun _ => q_ext (y := .c _) ⟨rfl, rfl⟩) ?_
      refine De20 (fun _ k_ => q_stw k_) ?_
      refine Dp (fun _ => q_as (s := .v (.c _)) ⟨rfl, rfl⟩) ?_
      refine dend ?_
      exact sle_sub ⟨rfl, rfl, rfl, rfl, rfl, rfl, trivial⟩ rfl
    refine DLw ?_
    refine DLw ?_
    refine DLw ?_
    refine De2 (fun _ k_ => q_al k_) ?_
    refine De2 (fun _ k_ => q_callp (Fd.mul_e x y) k_) ?_
    refine De2 (fun _ k_ => q_callp (gT) k_) ?_
    refine Dp (fun _ => q_mv (s := .t _) ⟨rfl, rfl⟩) ?_
    refine Dp (fun _ => q_ext (y := .a _) ⟨rfl, rfl⟩) ?_
    refine Dp (fun _ => q_ext (y := .c _) ⟨rfl, rfl⟩) ?_
    refine De20 (fun _ k_ => q_stw k_) ?_
    refine Dp (fun _ => q_as (s := .v (.c _)) ⟨rfl, rfl⟩) ?_
    refine dend ?_
    exact sle_sub ⟨rfl, rfl, rfl, rfl, rfl, rfl, trivial⟩ rfl
  refine awp_seq ?_
  refine rln ?_
  refine G (q_ldw ?_)
  refine G (q_ldw ?_)
  refine G2 (fun _ k_ => q_callp (gO) k_) ?_
  refine G (q_mv (s := .t _) ?_)
  refine G (q_ext (y := .a _) ?_)
  refine G (q_ext (y := .c _) ?_)
  refine G2 (fun _ k_ => q_al k_) ?_
  refine G20 (fun _ k_ => q_stw k_) ?_
  refine As ?_
  refine gend ?_
  refine awp_seq ?_
  refine awp_seq ?_
  refine rln ?_
  refine Mv ?_
  refine Mv ?_
  refine Akf 99 (fun hb2 => ?_) ?_; rotate_left
  · rfl
  refine Gn ?_
  refine G (q_pkf ?_)
  refine Mv ?_
  refine Gg (q_mv (s := .v (.c _)) ?_)
  refine Gg (q_notb ?_)
  refine Gg (q_mv (s := .v (.c _)) ?_)
  refine Gg (q_mv (s := .v (.c _)) ?_)
  refine Gg (q_notb ?_)
  refine Gg (q_pkt ?_)
  refine G (q_pkf ?_)
  refine gend ?_
  refine cndbnN (fun hc1 => ?_) ?_; rotate_left
  · rfl
  refine awp_skip ?_
  refine awp_seq ?_
  refine rln ?_
  refine Mv ?_
  refine G (q_notb ?_)
  refine Mv ?_
  refine Akn 124 (fun hb3 => ?_) ?_; rotate_left
  · rfl
  refine Gn ?_
  refine Gn ?_
  refine Gn ?_
  refine Gn ?_
  refine Gn ?_
  refine G (q_pkt ?_)
  refine Mv ?_
  refine G2g (fun _ k_ => q_callp (known_) k_) ?_
  refine G (q_pkt ?_)
  refine As ?_
  refine gend ?_
  refine awp_ret ?_
  exact fp1
theorem inverts_ (a b : List UInt8) (ha : a.length = 32) (hb : b.length = 32) : Good Try.prog 9 [.a (u8s a), .a (u8s b)] [] (sc (.bool true)) [] := by
  cases h1 : ok1 (fb a) <;> cases h2 : ok1 (fb b)
  · exact inverts_fft a b ha hb h1 h2 (ok1_mul_f h1 h2)
  · cases h3 : ok1 (fb a * fb b)
    · exact inverts_ftf a b ha hb h1 h2 h3
    · exact inverts_ftt a b ha hb h1 h2 h3
  · cases h3 : ok1 (fb a * fb b)
    · exact inverts_tff a b ha hb h1 h2 h3
    · exact inverts_tft a b ha hb h1 h2 h3
  · exact inverts_ttt a b ha hb h1 h2 (ok1_mul_t h1 h2)
end Go.Proofs.Ytjibmonfmhdbbaa.Fl


/- Texts that the proof stands on, put together: the abstract machine, and what functions do over it. -/
import Derived.Test.YtjibmonfmhdbbaaOutRootsc
/- What functions of the program do, walked over the abstract machine. -/
namespace Go.Proofs.Ytjibmonfmhdbbaa.Rn
open Go Go.Abs Go.Proofs

open Go.Nt Fd
set_option maxHeartbeats 1600000 in
/-- escutcheonref02.Mod -/
theorem modL_ (d : List UInt64) (V : Nat) (hd : Mi d) (hL : 16 < d.length) (hV : nv d % P = V) : Good Try.prog 43 [.c (.slc 0 0 d.length 1)] [some (u64s d)] (sa (u64s (dg V))) [none] := by
  refine good_frm 93 Try.func43 rfl rfl rfl rfl rfl rfl ?_
  refine awp_seq ?_
  refine rln ?_
  refine G2 (fun _ k_ => q_al k_) ?_
  refine gend ?_
  refine awp_seq ?_
  refine awp_block ?_
  refine awp_loop (fun x : {d : List UInt64 // Mi d ∧ nv d % P = V} => ⟨frm 93 [(0, sc (.slc 2 0 x.1.length 1)), (2, sc (.ptr 1 0))], [none, some (u64s (List.replicate 16 0)), some (u64s x.1)]⟩) (fun x => mea x.1) ⟨d, hd, hV⟩ (sle_mv 0 rfl (Nat.le_of_ble_eq_true rfl) ⟨.inr (.inl ⟨_, _, _, rfl, rfl⟩), .inl rfl, trivial⟩ rfl) fun x => ?_
  have hx1 := x.2.1.1
  have hx2 := x.2.1.2.1
  have hx3 := x.2.1.2.2
  refine awp_seq ?_
  refine awp_seq ?_
  refine rln ?_
  refine Mv ?_
  refine G (q_lenc ?_)
  refine G (q_gtrn (y := 16) ?_)
  refine gend ?_
  refine cnd (fun hc1 => ?_) (fun hc1 => ?_); rotate_left
  · refine awp_exit ?_
    have hx16 : x.1.length = 16 := by omega
    have gD := car_ x.1 16 hx16 (by decide) (hx3.mono (by decide)) (Nat.lt_trans (hx3.lt 16) (by decide))
    rw [carL_id hx3, hx16] at gD
    obtain ⟨D, hD⟩ : ∃ D, x.1 = D := ⟨_, rfl⟩
    have hDl := hD ▸ hx16
    have hDb := hD ▸ hx3
    have hDv : Dv D 16 % P = V := by have := x.2.2; rw [← hDl, ← hD]; exact this
    rw [hD] at gD hx16 ⊢
    rw [hDl]
    refine awp_seq ?_
    refine rln ?_
    refine Mv ?_
    refine G2 (fun _ k_ => q_app  k_ (eB := el_slc (xs := u64s D) rfl (by rw [mapc_length, hDl]; decide) (cut_h hDl))) ?_
    refine G2 (fun _ k_ => q_callv [3] [none] [some (u64s D)] (gD) k_ (ha := (cac (et rfl) rfl ca0)) (e2 := pl1 rfl sees_m pl0) (eL := mln ml0) (eM := (ml1 sees_m ml0)) (e3 := rfl)) ?_
    refine As ?_
    refine gend ?_
    refine awp_seq ?_
    refine awp_block ?_
    refine awp_loop (fun _ : Unit => ⟨frm 93 [(0, sc (.slc 4 0 16 1)), (2, sc (.ptr 1 0))], [none, some (u64s (List.replicate 16 0)), some (u64s D), none, some (u64s D)]⟩) (fun _ => 0) () (sle_sub ⟨rfl, rfl, trivial⟩ rfl) fun _ => ?_   -- live: [0, 2]
    refine awp_seq ?_
    refine awp_seq ?_
    refine rln ?_
    refine Mv ?_
    refine G (q_lenc ?_)
    refine G (q_gtrn (y := 16) ?_)
    refine gend ?_
    refine cndN (fun hc2 => ?_) ?_; rotate_left
    · decide
    refine awp_exit ?_
    refine awp_seq ?_
    refine rln ?_
    refine G2 (fun _ k_ => q_al k_) ?_
    refine gend ?_
    refine awp_seq ?_
    refine rln ?_
    refine G (q_slp_no ?_)
    refine Mv ?_
    refine G2 (fun _ k_ => q_cpy  k_ (eB := el_slc (xs := u64s D) rfl (by rw [mapc_length, hDl]; decide) (cut_h hDl))) ?_
    rw [cp16 (List.length_replicate ..) hDl]
    refine gend ?_
    refine awp_seq ?_
    refine awp_block ?_
    refine awp_loop (fun y : {l : List UInt64 // l.length = 16 ∧ Bd l 65535 ∧ Dv l 16 % P = V} => ⟨frm 93 [(2, sc (.ptr 1 0)), (5, sc (.ptr 2 0))], [none, some (u64s (List.replicate 16 0)), some (u64s y.1)]⟩) (fun y => Dv y.1 16) ⟨D, hDl, hDb, hDv⟩ (sle_view [0, 1, 5] pi1 (by decide) ⟨rfl, rfl, trivial⟩ (vh3 rfl (pick_m rfl) (pick_m rfl))) fun y => ?_
    have hyl := y.2.1
    have hyb := y.2.2.1
    have hyv := y.2.2.2
    refine awp_seq ?_
    refine awp_seq ?_
    refine rln ?_
    refine G (q_ixp1 ?_)
    refine G (q_ldp ?_)
    refine G (q_gtr64 (y := 32767) ?_)
    refine gend ?_
    refine cnd (fun hc3 => ?_) (fun hc3 => ?_); rotate_left
    · refine awp_exit ?_
      have hm := low255 hyb hc3
      obtain ⟨m, hmE⟩ : ∃ m, Dv y.1 16 = m := ⟨_, rfl⟩
      have hyd := dg_of hyl hyb hmE
      rw [hmE] at hm hyv
      rw [hyd]
      refine awp_seq ?_
      refine awp_seq ?_
      refine rdln [1, 2] [0, 0, 1, 2] [1, 1, 2, 2] ?_
      refine DLw ?_
      refine De2 (fun _ k_ => q_callp (prime_) k_) ?_
      refine De2 (fun _ k_ => q_callp (less_ m P (by omega) (by decide)) k_) ?_
      refine Dp (fun _ => q_notb ⟨rfl, rfl⟩) ?_
      refine dend ?_
      refine cndbn (fun hc4 => ?_) (fun hc4 => ?_)
      · refine rdln [1, 2, 3] [0, 0, 1, 2] [1, 1, 2, 3] ?_
        refine DLw ?_
        refine De2 (fun _ k_ => q_callp (prime_) k_) ?_
        refine De2 (fun _ k_ => q_callp (minus_ m P (by omega) (Nat.le_of_not_lt (of_decide_eq_false hc4))) k_) ?_
        refine De20 (fun _ k_ => q_stw k_) ?_
        refine dend ?_
        refine awp_seq ?_
        refine rln ?_
        refine G (q_ldw ?_)
        refine G20 (fun _ k_ => q_stw k_) ?_
        refine gend ?_
        refine awp_ret ?_
        exact fxc (t := 30) (a := 2) [0] (hd := by exact (mapc_length ..).trans (dg_len _)) (hv := by rw [show V = m - P by rw [← hyv, Nat.mod_eq_sub_mod (Nat.le_of_not_lt (of_decide_eq_false hc4)), Nat.mod_eq_of_lt (by have hp := P_val; omega)]])
      refine awp_skip ?_
      refine awp_seq ?_
      refine rln ?_
      refine G (q_ldw ?_)
      refine G20 (fun _ k_ => q_stw k_) ?_
      refine gend ?_
      refine awp_ret ?_
      exact fxc (t := 30) (a := 2) [0] (hd := by exact (mapc_length ..).trans (dg_len _)) (hv := by rw [show V = m by rw [← hyv]; exact Nat.mod_eq_of_lt (of_decide_eq_true hc4)])
    refine awp_skip ?_
    refine awp_block ?_
    refine awp_seq ?_
    refine rln ?_
    refine G (q_ixp1 ?_)
    refine G (q_ldp ?_)
    obtain ⟨ht3, hb3, hv3, hm3⟩ := t3_spec hyl hyb hc3
    obtain ⟨he1, he2, _⟩ := t3e_spec hyl hyb
    have g3 := car_ (t3e y.1) 16 he1 (by decide) (he2.mono (by decide)) (Nat.lt_trans (t3e_lt hyl hyb) (by decide))
    rw [show carL (t3e y.1) = t3 y.1 from rfl, ht3] at g3
    refine G (q_quo64 (y := 32768) ?_ (hz := by decide))
    refine As ?_
    refine gend ?_
    refine awp_seq ?_
    refine rln ?_
    refine G (q_ixp1 ?_)
    refine G (q_ldp ?_)
    refine G (q_rem64 (y := 32768) ?_ (hz := by decide))
    refine G (q_ixp1 ?_)
    refine G20 (fun _ k_ => q_stm k_) ?_
    refine gend ?_
    refine awp_seq ?_
    refine rln ?_
    refine As ?_
    refine gend ?_
    refine awp_seq ?_
    refine rln ?_
    refine Mv ?_
    refine G (q_slp_no ?_)
    refine G2 (fun _ k_ => q_app  k_ (eB := el_slc (xs := u64s (y.1.set 15 (y.1.getD 15 0 % 32768))) rfl (by rw [mapc_length, List.length_set, hyl]; decide) (cut_h (List.length_set.trans hyl)))) ?_
    refine As ?_
    refine gend ?_
    refine awp_seq ?_
    refine rln ?_
    refine Mv ?_
    refine Mv ?_
    refine G (q_ixs1 ?_)
    refine G (q_ldp ?_)
    refine Mv ?_
    refine G (q_mul64 (x := 19) ?_)
    refine G (q_add64 ?_)
    refine G (q_ixs1 ?_)
    refine G20 (fun _ k_ => q_stm k_) ?_
    refine gend ?_
    refine rdln [2, 3] [0, 0, 0, 1] [1, 0, 1, 2] ?_
    refine DSp 2 rfl (fun _ hv => q_slp_no ⟨rfl, rfl⟩ (hp := hv)) ?_
    refine Dp (fun _ => q_mv (s := .v (.c _)) ⟨rfl, rfl⟩) ?_
    refine De2 (fun _ k_ => q_callv [3] [none] [some (u64s (t3 y.1))] (g3) k_ (ha := (cac (et rfl) rfl ca0)) (e2 := pl1 rfl sees_m pl0) (eL := mln ml0) (eM := (ml1 sees_m ml0)) (e3 := rfl)) ?_
    refine De2 (fun _ k_ => q_cpy  k_ (eB := el_slc (xs := u64s (t3 y.1)) rfl (by rw [mapc_length, ht3]; decide) (cut_h ht3))) ?_
    refine dend ?_
    exact ⟨⟨t3 y.1, ht3, hb3, hv3.trans hyv⟩, hm3, sle_view [0, 1, 2] pi1 (by decide) ⟨rfl, rfl, trivial⟩ (vh3 rfl (pick_m rfl) (pick_m (congrArg (fun z => some (some z)) (cp16 (List.length_set.trans hyl) ht3))))⟩   -- endloop 3
  refine awp_skip ?_
  refine awp_block ?_
  refine awp_seq ?_
  refine rln ?_
  refine As ?_
  refine gend ?_
  refine awp_seq ?_
  refine rln ?_
  refine Mv ?_
  refine Mv ?_
  obtain ⟨f1, f2, f3, _⟩ := fl38_ok x.2.1 hc1
  obtain ⟨r1, r2, r3⟩ := rnd_spec x.2.1 hc1
  refine G (q_sls_hi (k := 16) ?_)
  refine G2 (fun _ k_ => q_app  k_ (eB := el_slc (xs := u64s (x.1.take 16)) rfl (by rw [mapc_length]; omega) tk16)) ?_
  refine As ?_
  refine gend ?_
  refine awp_seq ?_
  refine awp_seq ?_
  refine rln ?_
  refine G (q_as (s := sc (cn 16)) ?_)
  refine gend ?_
  refine awp_block ?_
  refine awp_loop (fun j : {i : Nat // i ≤ (x.1.length - 16)} => ⟨frm 93 [(0, sc (.slc 2 0 x.1.length 1)), (2, sc (.ptr 1 0)), (3, sc (.slc 3 0 16 1)), (4, sc (cn (16 + j.1)))], [none, some (u64s (List.replicate 16 0)), some (u64s x.1), some (u64s (fl38 x.1 j.1))]⟩) (fun j => (x.1.length - 16) - j.1) ⟨0, Nat.zero_le _⟩ (sle_sub ⟨rfl, rfl, rfl, rfl, trivial⟩ rfl) fun j => ?_   -- live: [0, 3, 4]
  have hfl := fl38_len x.1 hx1 j.1
  refine awp_seq ?_
  refine awp_seq ?_
  refine rln ?_
  refine Mv ?_
  refine Mv ?_
  refine G (q_lenc ?_)
  refine G (q_lssn ?_)
  refine gend ?_
  refine cnd (fun hc5 => ?_) (fun hc5 => ?_); rotate_left
  · refine awp_exit ?_
    rw [show j.1 = (x.1.length - 16) from (by have := j.2; omega)]
    have g1 := car_ (fl38 x.1 (x.1.length - 16)) 16 f1 (by decide) (f2.mono (by decide)) f3
    rw [show carL (fl38 x.1 (x.1.length - 16)) = rnd x.1 from rfl] at g1
    refine rln ?_
    refine Mv ?_
    refine G2 (fun _ k_ => q_callv [3] [none] [some (u64s (rnd x.1))] (g1) k_ (ha := (cac (et rfl) rfl ca0)) (e2 := pl1 rfl sees_m pl0) (eL := mln ml0) (eM := (ml1 sees_m ml0)) (e3 := rfl)) ?_
    refine As ?_
    refine gend ?_
    exact ⟨⟨rnd x.1, r1, r2.trans x.2.2⟩, r3, sle_view [0, 1, 4] pi1 (by decide) ⟨rfl, rfl, trivial⟩ (vh3 rfl (pick_m rfl) (pick_m rfl))⟩   -- endloop 1
  refine awp_skip ?_
  refine awp_seq ?_
  refine awp_block ?_
  refine awp_seq ?_
  refine rln ?_
  refine Mv ?_
  refine G (q_subn (y := 16) ?_)
  refine G (q_lssn (y := 16) ?_)
  refine gend ?_
  refine cndY (fun hc6 => ?_) ?_; rotate_left
  · omega
  refine rdln [15] [] [0, 0, 0, 0, 0, 0, 0, 0, 0, 0, 0, 0, 0, 0, 0, 1] ?_
  refine Dp (fun _ => q_mv (s := .v (.c _)) ⟨rfl, rfl⟩) ?_
  refine Dp (fun _ => q_mv (s := .v (.c _)) ⟨rfl, rfl⟩) ?_
  refine Dp (fun _ => q_subn (y := 16) ⟨rfl, rfl⟩) ?_
  refine Dp (fun _ => q_mv (s := .v (.c _)) ⟨rfl, rfl⟩) ?_
  refine Dp (fun _ => q_mv (s := .v (.c _)) ⟨rfl, rfl⟩) ?_
  refine Dp (fun _ => q_subn (y := 16) ⟨rfl, rfl⟩) ?_
  refine Dp (fun _ => q_ixs1 ⟨rfl, rfl⟩) ?_
  refine DLp ?_
  refine Dp (fun _ => q_mv (s := .v (.c _)) ⟨rfl, rfl⟩) ?_
  refine Dp (fun _ => q_mv (s := .v (.c _)) ⟨rfl, rfl⟩) ?_
  refine Dp (fun _ => q_ixs1 ⟨rfl, rfl⟩) ?_
  refine DLp ?_
  refine Dp (fun _ => q_mul64 (x := 38) ⟨rfl, rfl⟩) ?_
  refine Dp (fun _ => q_add64 ⟨rfl, rfl⟩) ?_
  refine Dp (fun _ => q_ixs1 ⟨rfl, rfl⟩) ?_
  refine De20 (fun _ k_ => q_stm k_) ?_
  refine dend ?_
  refine rln ?_
  refine Mv ?_
  refine G (q_addn (y := 1) ?_)
  refine As ?_
  refine gend ?_
  exact ⟨⟨j.1 + 1, by omega⟩, by show (x.1.length - 16) - (j.1 + 1) < (x.1.length - 16) - j.1; omega, sle_sub ⟨rfl, rfl, rfl, rfl, trivial⟩ rfl⟩   -- endloop 4
set_option maxHeartbeats 1600000 in
/-- escutcheonref02.Mod -/
theorem mod16a_ (d : List UInt64) (V : Nat) (hd16 : d.length = 16) (hb : Bd d 9223372036854775808) (hlt : Dv d 16 < 115792089237316195423570985008687907853269984665640564039457584007913129639936) (hV : Dv d 16 % P = V) : Good Try.prog 43 [.c (.ro 16 (u64s d))] [] (sa (u64s (dg V))) [] := by
  obtain ⟨c1, c2, c3, c4⟩ := carL_spec hd16 hb (Nat.lt_trans hlt (by decide))
  have gD := car_ d 16 hd16 (by decide) hb (Nat.lt_trans hlt (by decide))
  have hDl := c4 (by rw [q16]; exact hlt)
  rw [hDl] at c2 gD
  have hDb := c1
  have hDv : Dv (carL d) 16 % P = V := by rw [c2, hV]
  generalize carL d = D at gD hDl hDb hDv
  refine good_frm 93 Try.func43 rfl rfl rfl rfl rfl rfl ?_
  refine awp_seq ?_
  refine rln ?_
  refine G2 (fun _ k_ => q_al k_) ?_
  refine gend ?_
  refine awp_seq ?_
  refine awp_block ?_
  refine awp_loop (fun _ : Unit => ⟨frm 93 [(0, sc (.ro 16 (u64s d))), (2, sc (.ptr 0 0))], [some (u64s (List.replicate 16 0))]⟩) (fun _ => 0) () (sle_sub ⟨rfl, rfl, trivial⟩ rfl) fun _ => ?_   -- live: [0]
  refine awp_seq ?_
  refine awp_seq ?_
  refine rln ?_
  refine Mv ?_
  refine G (q_leno ?_)
  refine G (q_gtrn (y := 16) ?_)
  refine gend ?_
  refine cndN (fun hc1 => ?_) ?_; rotate_left
  · decide
  refine awp_exit ?_
  refine awp_seq ?_
  refine rln ?_
  refine Mv ?_
  refine G2 (fun _ k_ => q_app  k_ (eB := el_ro (by rw [mapc_length, hd16]))) ?_
  refine G2 (fun _ k_ => q_callv [1] [none] [some (u64s D)] (gD) k_ (ha := (cac (et rfl) rfl ca0)) (e2 := pl1 rfl sees_m pl0) (eL := mln ml0) (eM := (ml1 sees_m ml0)) (e3 := rfl)) ?_
  refine As ?_
  refine gend ?_
  refine awp_seq ?_
  refine awp_block ?_
  refine awp_loop (fun _ : Unit => ⟨frm 93 [(0, sc (.slc 2 0 16 1)), (2, sc (.ptr 0 0))], [some (u64s (List.replicate 16 0)), none, some (u64s D)]⟩) (fun _ => 0) () (sle_sub ⟨rfl, rfl, trivial⟩ rfl) fun _ => ?_   -- live: [0, 2]
  refine awp_seq ?_
  refine awp_seq ?_
  refine rln ?_
  refine Mv ?_
  refine G (q_lenc ?_)
  refine G (q_gtrn (y := 16) ?_)
  refine gend ?_
  refine cndN (fun hc2 => ?_) ?_; rotate_left
  · decide
  refine awp_exit ?_
  refine awp_seq ?_
  refine rln ?_
  refine G2 (fun _ k_ => q_al k_) ?_
  refine gend ?_
  refine awp_seq ?_
  refine rln ?_
  refine G (q_slp_no ?_)
  refine Mv ?_
  refine G2 (fun _ k_ => q_cpy  k_ (eB := el_slc (xs := u64s D) rfl (by rw [mapc_length, hDl]; decide) (cut_h hDl))) ?_
  rw [cp16 (List.length_replicate ..) hDl]
  refine gend ?_
  refine awp_seq ?_
  refine awp_block ?_
  refine awp_loop (fun y : {l : List UInt64 // l.length = 16 ∧ Bd l 65535 ∧ Dv l 16 % P = V} => ⟨frm 93 [(2, sc (.ptr 0 0)), (5, sc (.ptr 1 0))], [some (u64s (List.replicate 16 0)), some (u64s y.1)]⟩) (fun y => Dv y.1 16) ⟨D, hDl, hDb, hDv⟩ (sle_view [0, 3] (fun p h => absurd h (Nat.not_lt_zero _)) (by decide) ⟨rfl, rfl, trivial⟩ (vh2 (pick_m rfl) (pick_m rfl))) fun y => ?_
  have hyl := y.2.1
  have hyb := y.2.2.1
  have hyv := y.2.2.2
  refine awp_seq ?_
  refine awp_seq ?_
  refine rln ?_
  refine G (q_ixp1 ?_)
  refine G (q_ldp ?_)
  refine G (q_gtr64 (y := 32767) ?_)
  refine gend ?_
  refine cnd (fun hc3 => ?_) (fun hc3 => ?_); rotate_left
  · refine awp_exit ?_
    have hm := low255 hyb hc3
    obtain ⟨m, hmE⟩ : ∃ m, Dv y.1 16 = m := ⟨_, rfl⟩
    have hyd := dg_of hyl hyb hmE
    rw [hmE] at hm hyv
    rw [hyd]
    refine awp_seq ?_
    refine awp_seq ?_
    refine rdln [1, 2] [0, 0, 1, 2] [1, 1, 2, 2] ?_
    refine DLw ?_
    refine De2 (fun _ k_ => q_callp (prime_) k_) ?_
    refine De2 (fun _ k_ => q_callp (less_ m P (by omega) (by decide)) k_) ?_
    refine Dp (fun _ => q_notb ⟨rfl, rfl⟩) ?_
    refine dend ?_
    refine cndbn (fun hc4 => ?_) (fun hc4 => ?_)
    · refine rdln [1, 2, 3] [0, 0, 1, 2] [1, 1, 2, 3] ?_
      refine DLw ?_
      refine De2 (fun _ k_ => q_callp (prime_) k_) ?_
      refine De2 (fun _ k_ => q_callp (minus_ m P (by omega) (Nat.le_of_not_lt (of_decide_eq_false hc4))) k_) ?_
      refine De20 (fun _ k_ => q_stw k_) ?_
      refine dend ?_
      refine awp_seq ?_
      refine rln ?_
      refine G (q_ldw ?_)
      refine G20 (fun _ k_ => q_stw k_) ?_
      refine gend ?_
      refine awp_ret ?_
      exact fpc (t := 30) (a := 2) (hn := by exact (mapc_length ..).trans (dg_len _)) (hv := by rw [show V = m - P by rw [← hyv, Nat.mod_eq_sub_mod (Nat.le_of_not_lt (of_decide_eq_false hc4)), Nat.mod_eq_of_lt (by have hp := P_val; omega)]])
    refine awp_skip ?_
    refine awp_seq ?_
    refine rln ?_
    refine G (q_ldw ?_)
    refine G20 (fun _ k_ => q_stw k_) ?_
    refine gend ?_
    refine awp_ret ?_
    exact fpc (t := 30) (a := 2) (hn := by exact (mapc_length ..).trans (dg_len _)) (hv := by rw [show V = m by rw [← hyv]; exact Nat.mod_eq_of_lt (of_decide_eq_true hc4)])
  refine awp_skip ?_
  refine awp_block ?_
  refine awp_seq ?_
  refine rln ?_
  refine G (q_ixp1 ?_)
  refine G (q_ldp ?_)
  obtain ⟨ht3, hb3, hv3, hm3⟩ := t3_spec hyl hyb hc3
  obtain ⟨he1, he2, _⟩ := t3e_spec hyl hyb
  have g3 := car_ (t3e y.1) 16 he1 (by decide) (he2.mono (by decide)) (Nat.lt_trans (t3e_lt hyl hyb) (by decide))
  rw [show carL (t3e y.1) = t3 y.1 from rfl, ht3] at g3
  refine G (q_quo64 (y := 32768) ?_ (hz := by decide))
  refine As ?_
  refine gend ?_
  refine awp_seq ?_
  refine rln ?_
  refine G (q_ixp1 ?_)
  refine G (q_ldp ?_)
  refine G (q_rem64 (y := 32768) ?_ (hz := by decide))
  refine G (q_ixp1 ?_)
  refine G20 (fun _ k_ => q_stm k_) ?_
  refine gend ?_
  refine awp_seq ?_
  refine rln ?_
  refine As ?_
  refine gend ?_
  refine awp_seq ?_
  refine rln ?_
  refine Mv ?_
  refine G (q_slp_no ?_)
  refine G2 (fun _ k_ => q_app  k_ (eB := el_slc (xs := u64s (y.1.set 15 (y.1.getD 15 0 % 32768))) rfl (by rw [mapc_length, List.length_set, hyl]; decide) (cut_h (List.length_set.trans hyl)))) ?_
  refine As ?_
  refine gend ?_
  refine awp_seq ?_
  refine rln ?_
  refine Mv ?_
  refine Mv ?_
  refine G (q_ixs1 ?_)
  refine G (q_ldp ?_)
  refine Mv ?_
  refine G (q_mul64 (x := 19) ?_)
  refine G (q_add64 ?_)
  refine G (q_ixs1 ?_)
  refine G20 (fun _ k_ => q_stm k_) ?_
  refine gend ?_
  refine rdln [2, 3] [0, 0, 0, 1] [1, 0, 1, 2] ?_
  refine DSp 1 rfl (fun _ hv => q_slp_no ⟨rfl, rfl⟩ (hp := hv)) ?_
  refine Dp (fun _ => q_mv (s := .v (.c _)) ⟨rfl, rfl⟩) ?_
  refine De2 (fun _ k_ => q_callv [2] [none] [some (u64s (t3 y.1))] (g3) k_ (ha := (cac (et rfl) rfl ca0)) (e2 := pl1 rfl sees_m pl0) (eL := mln ml0) (eM := (ml1 sees_m ml0)) (e3 := rfl)) ?_
  refine De2 (fun _ k_ => q_cpy  k_ (eB := el_slc (xs := u64s (t3 y.1)) rfl (by rw [mapc_length, ht3]; decide) (cut_h ht3))) ?_
  refine dend ?_
  exact ⟨⟨t3 y.1, ht3, hb3, hv3.trans hyv⟩, hm3, sle_view [0, 1] (fun p h => absurd h (Nat.not_lt_zero _)) (by decide) ⟨rfl, rfl, trivial⟩ (vh2 (pick_m rfl) (pick_m (congrArg (fun z => some (some z)) (cp16 (List.length_set.trans hyl) ht3))))⟩   -- endloop 3
set_option maxHeartbeats 1600000 in
/-- escutcheonref02.Mod -/
theorem mod16b_ (d : List UInt64) (V : Nat) (hd16 : d.length = 16) (hb : Bd d 9223372036854775808) (hlt : Dv d 16 < 65536 ^ 17) (hge : 115792089237316195423570985008687907853269984665640564039457584007913129639936 ≤ Dv d 16) (hV : Dv d 16 % P = V) : Good Try.prog 43 [.c (.ro 16 (u64s d))] [] (sa (u64s (dg V))) [] := by
  obtain ⟨c1, c2, c3, c4⟩ := carL_spec hd16 hb hlt
  have gD := car_ d 16 hd16 (by decide) hb hlt
  have hDl : 16 < (carL d).length := by
    rcases c3 with h | h
    · exfalso
      rw [h] at c2
      have := c1.lt 16
      rw [q16] at this
      omega
    · omega
  have gM := modL_ (carL d) V ⟨by omega, by omega, c1⟩ hDl (by rw [show nv (carL d) = Dv (carL d) (carL d).length from rfl, c2, hV])
  have hV16 : (dg V).length = 16 := dg_len V
  generalize carL d = D at gD hDl gM
  refine good_frm 93 Try.func43 rfl rfl rfl rfl rfl rfl ?_
  refine awp_seq ?_
  refine rln ?_
  refine G2 (fun _ k_ => q_al k_) ?_
  refine gend ?_
  refine awp_seq ?_
  refine awp_block ?_
  refine awp_loop (fun _ : Unit => ⟨frm 93 [(0, sc (.ro 16 (u64s d))), (2, sc (.ptr 0 0))], [some (u64s (List.replicate 16 0))]⟩) (fun _ => 0) () (sle_sub ⟨rfl, rfl, trivial⟩ rfl) fun _ => ?_   -- live: [0]
  refine awp_seq ?_
  refine awp_seq ?_
  refine rln ?_
  refine Mv ?_
  refine G (q_leno ?_)
  refine G (q_gtrn (y := 16) ?_)
  refine gend ?_
  refine cndN (fun hc1 => ?_) ?_; rotate_left
  · decide
  refine awp_exit ?_
  refine awp_seq ?_
  refine rln ?_
  refine Mv ?_
  refine G2 (fun _ k_ => q_app  k_ (eB := el_ro (by rw [mapc_length, hd16]))) ?_
  refine G2 (fun _ k_ => q_callv [1] [none] [some (u64s D)] (gD) k_ (ha := (cac (et rfl) rfl ca0)) (e2 := pl1 rfl sees_m pl0) (eL := mln ml0) (eM := (ml1 sees_m ml0)) (e3 := rfl)) ?_
  refine As ?_
  refine gend ?_
  refine awp_seq ?_
  refine awp_block ?_
  refine awp_loop (fun _ : Unit => ⟨frm 93 [(0, sc (.slc 2 0 D.length 1)), (2, sc (.ptr 0 0))], [some (u64s (List.replicate 16 0)), none, some (u64s D)]⟩) (fun _ => 0) () (sle_sub ⟨rfl, rfl, trivial⟩ rfl) fun _ => ?_   -- live: [0, 2]
  refine awp_seq ?_
  refine awp_seq ?_
  refine rln ?_
  refine Mv ?_
  refine G (q_lenc ?_)
  refine G (q_gtrn (y := 16) ?_)
  refine gend ?_
  refine cndY (fun hc2 => ?_) ?_; rotate_left
  · omega
  refine awp_skip ?_
  refine awp_block ?_
  refine awp_seq ?_
  refine rln ?_
  refine Mv ?_
  refine G2 (fun _ k_ => q_callv [2] [none] [] (gM) k_ (ha := (cac (et rfl) rfl ca0)) (e2 := pl1 rfl sees_m pl0) (eL := mln ml0) (eM := ml0) (e3 := rs_m)) ?_
  refine G20 (fun _ k_ => q_stw k_) ?_
  refine gend ?_
  refine awp_ret ?_
  exact fpc (t := 30) (a := 2) (hn := by exact (mapc_length ..).trans hV16)
theorem mod16_ (d : List UInt64) (hd16 : d.length = 16) (hb : Bd d 9223372036854775808) (hlt : Dv d 16 < 65536 ^ 17) : Good Try.prog 43 [.c (.ro 16 (u64s d))] [] (sa (u64s (dg (Dv d 16 % P)))) [] := by
  rcases Nat.lt_or_ge (Dv d 16) 115792089237316195423570985008687907853269984665640564039457584007913129639936 with h | h
  · exact mod16a_ d _ hd16 hb h rfl
  · exact mod16b_ d _ hd16 hb hlt h rfl
end Go.Proofs.Ytjibmonfmhdbbaa.Rn

/- What functions of the program do, walked over the abstract machine. -/
namespace Go.Proofs.Ytjibmonfmhdbbaa.Rn
open Go Go.Abs Go.Proofs

open Go.Nt Fd
/-- The digits of an element. -/
abbrev de (x : F) : List UInt64 := dg x.val
theorem de_len (x : F) : (de x).length = 16 := dg_len _
theorem F_q (x : F) : x.val < 115792089237316195423570985008687907853269984665640564039457584007913129639936 := by have := F_lt x; omega
theorem de_inj {x y : F} (h : de x = de y) : x = y := by
  have h1 := dg_v x.val (F_q x)
  have h2 := dg_v y.val (F_q y)
  have h3 : Dv (dg x.val) 16 = Dv (dg y.val) 16 := congrArg (fun l => Dv l 16) h
  exact Fin.ext (by rw [← h1, ← h2, h3])
theorem deq (x y : F) : decide (de x = de y) = decide (x = y) := decide_eq_decide.2 ⟨de_inj, fun h => h ▸ rfl⟩
theorem rep_de : List.replicate 16 (0 : UInt64) = de 0 := by decide +kernel
/-- Bytes into digits. -/
def ofd (b : List UInt8) : Nat → List UInt64
  | 0 => List.replicate 16 0
  | i + 1 => (ofd b i).set i ((b.getD (2 * i) 0).toUInt64 + 256 * (b.getD (2 * i + 1) 0).toUInt64)
theorem ofd_len (b : List UInt8) : ∀ i, (ofd b i).length = 16
  | 0 => by simp [ofd]
  | i + 1 => by rw [ofd, List.length_set, ofd_len]
theorem two_bytes (x y : UInt8) : (x.toUInt64 + 256 * y.toUInt64).toNat = x.toNat + 256 * y.toNat := by
  have := x.toNat_lt
  have := y.toNat_lt
  rw [UInt64.toNat_add, UInt64.toNat_mul, UInt8.toNat_toUInt64, UInt8.toNat_toUInt64, show UInt64.toNat 256 = 256 from rfl]; omega
theorem ofd_spec (b : List UInt8) : ∀ i, i ≤ 16 → Bd (ofd b i) 65535 ∧ Dv (ofd b i) i = Fv (fun j => b.getD j 0) (2 * i)
  | 0, _ => ⟨fun i => by rw [ofd, rep_get]; decide, rfl⟩
  | i + 1, h => by
    obtain ⟨h1, h2⟩ := ofd_spec b i (by omega)
    have hl := ofd_len b i
    have e := two_bytes (b.getD (2 * i) 0) (b.getD (2 * i + 1) 0)
    have := (b.getD (2 * i) 0).toNat_lt
    have := (b.getD (2 * i + 1) 0).toNat_lt
    refine ⟨fun j => ?_, ?_⟩
    · rw [ofd, getD_set _ _ _ _ (by omega)]
      split
      · rw [e]; omega
      · exact h1 j
    · have hD : Dv (ofd b (i + 1)) (i + 1) = Dv (ofd b (i + 1)) i + 65536 ^ i * ((ofd b (i + 1)).getD i 0).toNat := rfl
      have hF : Fv (fun j => b.getD j 0) (2 * (i + 1)) = Fv (fun j => b.getD j 0) (2 * i) + 256 ^ (2 * i) * (b.getD (2 * i) 0).toNat + 256 ^ (2 * i + 1) * (b.getD (2 * i + 1) 0).toNat := rfl
      have g1 : (ofd b (i + 1)).getD i 0 = (b.getD (2 * i) 0).toUInt64 + 256 * (b.getD (2 * i + 1) 0).toUInt64 := by rw [ofd, getD_set _ _ _ _ (by omega), if_pos rfl]
      have g2 : Dv (ofd b (i + 1)) i = Dv (ofd b i) i := Dv_congr i fun j hj => by rw [ofd, getD_set _ _ _ _ (by omega), if_neg (by omega)]
      rw [hD, hF, g1, g2, h2, e, Nat.pow_succ, Nat.pow_mul, show (256 : Nat) ^ 2 = 65536 from rfl, Nat.mul_add, Nat.mul_assoc]
      omega
theorem ofd_dg (b : List UInt8) : ofd b 16 = dg (bv b) := by
  obtain ⟨h1, h2⟩ := ofd_spec b 16 (by decide)
  exact dg_of (ofd_len b 16) h1 h2
/-- Digits into bytes. -/
def byd (l : List UInt64) : Nat → List UInt8
  | 0 => List.replicate 32 0
  | i + 1 => ((byd l i).set (2 * i) (l.getD i 0).toUInt8).set (2 * i + 1) (shr64n (l.getD i 0) 8).toUInt8
theorem byd_len (l : List UInt64) : ∀ i, (byd l i).length = 32
  | 0 => by simp [byd]
  | i + 1 => by rw [byd, List.length_set, List.length_set, byd_len]
theorem byd_get (n : Nat) : ∀ k, k ≤ 16 → ∀ i, i < 2 * k → (byd (dg n) k).getD i 0 = UInt8.ofNat (n / 256 ^ i)
  | 0, _, i, h => by omega
  | k + 1, hk, i, h => by
    have hl := byd_len (dg n) k
    have hg := dgk_get 16 n k (by omega)
    have gs : ∀ (m : List UInt8) (a j : Nat) (x : UInt8), a < m.length → (m.set a x).getD j 0 = if a = j then x else m.getD j 0 := by
      intro m a j x ha
      simp only [List.getD_eq_getElem?_getD, List.getElem?_set]
      by_cases e : a = j
      · subst e; simp [ha]
      · simp [e]
    have e16 : (65536 : Nat) ^ k = 256 ^ (2 * k) := by rw [Nat.pow_mul]
    rw [byd, gs _ _ _ _ (by rw [List.length_set]; omega), gs _ _ _ _ (by omega)]
    split
    · rename_i e
      subst e
      apply UInt8.toNat_inj.1
      rw [UInt64.toNat_toUInt8, shr_nat _ _ (by decide), hg, UInt64.toNat_ofNat', UInt8.toNat_ofNat', show (256 : Nat) ^ (2 * k + 1) = 256 ^ (2 * k) * 256 from Nat.pow_succ .., ← Nat.div_div_eq_div_mul, e16]
      omega
    · split
      · rename_i e
        subst e
        apply UInt8.toNat_inj.1
        rw [UInt64.toNat_toUInt8, hg, UInt64.toNat_ofNat', UInt8.toNat_ofNat', e16]
        omega
      · exact byd_get n k (by omega) i (by omega)
theorem byd_by (n : Nat) : byd (dg n) 16 = by32 n := ext32 (byd_len _ _) (by32_len _) fun i hi => by rw [byd_get n 16 (by decide) i (by omega), by32_get _ _ hi]
def smd (x : UInt64) : Nat → List UInt64
  | 0 => List.replicate 16 0
  | i + 1 => (smd x i).set i (shr64n x (UInt64.ofNat (16 * i)).toNat &&& 65535)
theorem smd_len (x : UInt64) : ∀ i, (smd x i).length = 16
  | 0 => by simp [smd]
  | i + 1 => by rw [smd, List.length_set, smd_len]
theorem smd_spec (x : UInt64) : ∀ i, i ≤ 4 → Bd (smd x i) 65535 ∧ (∀ k, i ≤ k → (smd x i).getD k 0 = 0) ∧ Dv (smd x i) i = x.toNat % 65536 ^ i
  | 0, _ => ⟨fun i => by rw [smd, rep_get]; decide, fun k _ => by rw [smd, rep_get], by simp [Dv, Nat.mod_one]⟩
  | i + 1, h => by
    obtain ⟨h1, h2, h3⟩ := smd_spec x i (by omega)
    have hl := smd_len x i
    have e : (shr64n x (UInt64.ofNat (16 * i)).toNat &&& 65535).toNat = x.toNat / 65536 ^ i % 65536 := by
      rw [UInt64.toNat_and, show UInt64.toNat 65535 = 2 ^ 16 - 1 from rfl, Nat.and_two_pow_sub_one_eq_mod, UInt64.toNat_ofNat', Nat.mod_eq_of_lt (b := 2 ^ 64) (by omega), shr_nat _ _ (by omega), Nat.pow_mul]
    refine ⟨fun j => ?_, fun k hk => ?_, ?_⟩
    · rw [smd, getD_set _ _ _ _ (by omega)]
      split
      · rw [e]; omega
      · exact h1 j
    · rw [smd, getD_set _ _ _ _ (by omega), if_neg (by omega)]; exact h2 k (by omega)
    · have hD : Dv (smd x (i + 1)) (i + 1) = Dv (smd x (i + 1)) i + 65536 ^ i * ((smd x (i + 1)).getD i 0).toNat := rfl
      have g1 : (smd x (i + 1)).getD i 0 = shr64n x (UInt64.ofNat (16 * i)).toNat &&& 65535 := by rw [smd, getD_set _ _ _ _ (by omega), if_pos rfl]
      have g2 : Dv (smd x (i + 1)) i = Dv (smd x i) i := Dv_congr i fun j hj => by rw [smd, getD_set _ _ _ _ (by omega), if_neg (by omega)]
      rw [hD, g1, g2, h3, e, Nat.mod_pow_succ]
theorem smd_dg (x : UInt64) : smd x 4 = dg x.toNat := by
  obtain ⟨h1, h2, h3⟩ := smd_spec x 4 (by decide)
  refine dg_of (smd_len x 4) h1 ?_
  have hx := x.toNat_lt
  have : ∀ n, Dv (smd x 4) (4 + n) = Dv (smd x 4) 4 := by
    intro n
    induction n with
    | zero => rfl
    | succ n ih => rw [← Nat.add_assoc, Dv, ih, h2 _ (by omega)]; rfl
  rw [show (16 : Nat) = 4 + 12 from rfl, this 12, h3, Nat.mod_eq_of_lt (by rw [show (65536 : Nat) ^ 4 = 2 ^ 64 by decide]; exact hx)]
theorem num_fb (b : List UInt8) (h : b.length = 32) : bv (b.set 31 (b.getD 31 0 % 128)) = bv b % 57896044618658097711785492504343953926634992332820282019728792003956564819968 := by
  have e : Fv (fun i => (b.set 31 (b.getD 31 0 % 128)).getD i 0) 31 = Fv (fun i => b.getD i 0) 31 := Fv_congr 31 fun i hi => by
    simp only [List.getD_eq_getElem?_getD, List.getElem?_set, if_neg (show ¬ 31 = i by omega)]
  have g : (b.set 31 (b.getD 31 0 % 128)).getD 31 0 = b.getD 31 0 % 128 := by
    simp [List.getD_eq_getElem?_getD, List.getElem?_set, h]
  have hD : bv (b.set 31 (b.getD 31 0 % 128)) = Fv (fun i => (b.set 31 (b.getD 31 0 % 128)).getD i 0) 31 + 256 ^ 31 * ((b.set 31 (b.getD 31 0 % 128)).getD 31 0).toNat := rfl
  have hB : bv b = Fv (fun i => b.getD i 0) 31 + 256 ^ 31 * (b.getD 31 0).toNat := rfl
  have hlt := Fv_lt (fun i => b.getD i 0) 31
  have m : (b.getD 31 0 % 128).toNat = (b.getD 31 0).toNat % 128 := by rw [UInt8.toNat_mod]; rfl
  rw [hD, hB, e, g, m]
  rw [show (256 : Nat) ^ 31 = 452312848583266388373324160190187140051835877600158453279131187530910662656 by decide +kernel] at *
  omega
/-- p less a small number, shifted. -/
def mri (n : List UInt64) : Nat → List UInt64
  | 0 => n
  | i + 1 => if i < 15 then ((mri n i).set i ((mri n i).getD i 0 / 2)).set i (((mri n i).set i ((mri n i).getD i 0 / 2)).getD i 0 + ((mri n i).set i ((mri n i).getD i 0 / 2)).getD (i + 1) 0 % 2 * 32768) else (mri n i).set i ((mri n i).getD i 0 / 2)
theorem mri_len (n : List UInt64) : ∀ i, (mri n i).length = n.length
  | 0 => rfl
  | i + 1 => by rw [mri]; split <;> simp [mri_len n i]
def mrs (n : List UInt64) : Nat → List UInt64
  | 0 => n
  | k + 1 => mri (mrs n k) 16
theorem mrs_len (n : List UInt64) : ∀ i, (mrs n i).length = n.length
  | 0 => rfl
  | i + 1 => by rw [mrs, mri_len, mrs_len]
def mr0 (x : UInt64) : List UInt64 := (dg P).set 0 ((dg P).getD 0 0 - x)
theorem mr0_len (x : UInt64) : (mr0 x).length = 16 := by rw [mr0, List.length_set, dg_len]
end Go.Proofs.Ytjibmonfmhdbbaa.Rn

/- What functions of the program do, walked over the abstract machine. -/
namespace Go.Proofs.Ytjibmonfmhdbbaa.Rn
open Go Go.Abs Go.Proofs

open Go.Nt Fd
/-- escutcheonref02.all -/
theorem all_ (l : List UInt64) (hl : l.length = 16) : Good Try.prog 49 [.a (u64s l)] [] (sc (.slc 0 0 16 1)) [some (u64s l)] := by
  refine good_frm 5 Try.func49 rfl rfl rfl rfl rfl rfl ?_
  refine awp_seq ?_
  refine rln ?_
  refine G2 (fun _ k_ => q_boxa k_) ?_
  refine As ?_
  refine gend ?_
  refine awp_seq ?_
  refine rln ?_
  refine G (q_slp_no ?_)
  refine G2 (fun _ k_ => q_app  k_ (eB := el_slc (xs := u64s l) rfl (by rw [mapc_length, hl]; decide) (cut_h hl))) ?_
  refine As ?_
  refine gend ?_
  refine awp_ret ?_
  exact fx1 [1] (hm0 := rfl) (hH := (vh1 (pick_m rfl)).symm)
/-- escutcheonref02.Of -/
theorem of_ (b : List UInt8) (hb : b.length = 32) : Good Try.prog 30 [.a (u8s b)] [] (sa (u64s (dg (bv b)))) [] := by
  rw [← ofd_dg]
  refine good_frm 25 Try.func30 rfl rfl rfl rfl rfl rfl ?_
  refine awp_seq ?_
  refine rln ?_
  refine G2 (fun _ k_ => q_boxa k_) ?_
  refine G2 (fun _ k_ => q_al k_) ?_
  refine gend ?_
  refine awp_seq ?_
  refine rln ?_
  refine G2 (fun _ k_ => q_al k_) ?_
  refine gend ?_
  refine awp_seq ?_
  refine awp_seq ?_
  refine rln ?_
  refine G (q_as (s := sc (cn 0)) ?_)
  refine gend ?_
  refine awp_block ?_
  refine awp_loop (fun x : {i : Nat // i ≤ 16} => ⟨frm 25 [(1, sc (.ptr 0 0)), (2, sc (.ptr 1 0)), (3, sc (.ptr 2 0)), (4, sc (cn x.1))], [some (u8s b), some (u64s (List.replicate 16 0)), some (u64s (ofd b x.1))]⟩) (fun x => 16 - x.1) ⟨0, Nat.zero_le _⟩ (sle_sub ⟨rfl, rfl, rfl, rfl, trivial⟩ rfl) fun x => ?_   -- live: [1, 3, 4]
  have hl := ofd_len b x.1
  refine awp_seq ?_
  refine awp_seq ?_
  refine rln ?_
  refine Mv ?_
  refine G (q_lssn (y := 16) ?_)
  refine gend ?_
  refine cnd (fun hc1 => ?_) (fun hc1 => ?_); rotate_left
  · refine awp_exit ?_
    rw [show x.1 = 16 from (by have := x.2; omega)]
    have hl := ofd_len b 16
    refine awp_seq ?_
    refine rln ?_
    refine G (q_ldw ?_)
    refine G20 (fun _ k_ => q_stw k_) ?_
    refine gend ?_
    refine awp_ret ?_
    exact fpc (t := 30) (a := 2) (hn := by exact (mapc_length ..).trans hl)
  refine awp_skip ?_
  refine awp_seq ?_
  refine awp_block ?_
  refine rdln [15] [] [0, 0, 0, 0, 0, 0, 0, 0, 0, 0, 0, 0, 0, 0, 0, 1] ?_
  refine Dp (fun _ => q_mv (s := .v (.c _)) ⟨rfl, rfl⟩) ?_
  refine Dp (fun _ => q_mv (s := .v (.c _)) ⟨rfl, rfl⟩) ?_
  refine Dp (fun _ => q_muln (x := 2) ⟨rfl, rfl⟩) ?_
  refine Dp (fun _ => q_ixp1 ⟨rfl, rfl⟩) ?_
  refine DLp ?_
  refine Dp (fun _ => q_cv8_64 ⟨rfl, rfl⟩) ?_
  refine Dp (fun _ => q_mv (s := .v (.c _)) ⟨rfl, rfl⟩) ?_
  refine Dp (fun _ => q_muln (x := 2) ⟨rfl, rfl⟩) ?_
  refine Dp (fun _ => q_addn (y := 1) ⟨rfl, rfl⟩) ?_
  refine Dp (fun _ => q_ixp1 ⟨rfl, rfl⟩) ?_
  refine DLp ?_
  refine Dp (fun _ => q_cv8_64 ⟨rfl, rfl⟩) ?_
  refine Dp (fun _ => q_mul64 (x := 256) ⟨rfl, rfl⟩) ?_
  refine Dp (fun _ => q_add64 ⟨rfl, rfl⟩) ?_
  refine Dp (fun _ => q_ixp1 ⟨rfl, rfl⟩) ?_
  refine De20 (fun _ k_ => q_stm k_) ?_
  refine dend ?_
  refine rln ?_
  refine Mv ?_
  refine G (q_addn (y := 1) ?_)
  refine As ?_
  refine gend ?_
  exact ⟨⟨x.1 + 1, by omega⟩, by show 16 - (x.1 + 1) < 16 - x.1; omega, sle_sub ⟨rfl, rfl, rfl, rfl, trivial⟩ rfl⟩   -- endloop 1
/-- escutcheonref02.Bytes -/
theorem bytes_l (L : List UInt64) (hn : L.length = 16) : Good Try.prog 41 [.a (u64s L)] [] (sa (u8s (byd L 16))) [] := by
  refine good_frm 26 Try.func41 rfl rfl rfl rfl rfl rfl ?_
  refine awp_seq ?_
  refine rln ?_
  refine G2 (fun _ k_ => q_boxa k_) ?_
  refine G2 (fun _ k_ => q_al k_) ?_
  refine gend ?_
  refine awp_seq ?_
  refine rln ?_
  refine G2 (fun _ k_ => q_al k_) ?_
  refine gend ?_
  refine awp_seq ?_
  refine awp_seq ?_
  refine rln ?_
  refine G (q_as (s := sc (cn 0)) ?_)
  refine gend ?_
  refine awp_block ?_
  refine awp_loop (fun x : {i : Nat // i ≤ 16} => ⟨frm 26 [(1, sc (.ptr 0 0)), (2, sc (.ptr 1 0)), (3, sc (.ptr 2 0)), (4, sc (cn x.1))], [some (u64s L), some (u8s (List.replicate 32 0)), some (u8s (byd L x.1))]⟩) (fun x => 16 - x.1) ⟨0, Nat.zero_le _⟩ (sle_sub ⟨rfl, rfl, rfl, rfl, trivial⟩ rfl) fun x => ?_   -- live: [1, 3, 4]
  have hl := byd_len L x.1
  refine awp_seq ?_
  refine awp_seq ?_
  refine rln ?_
  refine Mv ?_
  refine G (q_lssn (y := 16) ?_)
  refine gend ?_
  refine cnd (fun hc1 => ?_) (fun hc1 => ?_); rotate_left
  · refine awp_exit ?_
    rw [show x.1 = 16 from (by have := x.2; omega)]
    have hl := byd_len L 16
    refine awp_seq ?_
    refine rln ?_
    refine G (q_ldw ?_)
    refine G20 (fun _ k_ => q_stw k_) ?_
    refine gend ?_
    refine awp_ret ?_
    exact fpc (t := 23) (a := 2) (hn := by exact (mapc_length ..).trans hl)
  refine awp_skip ?_
  refine awp_seq ?_
  refine awp_block ?_
  refine rdln [15, 17] [0, 0, 0, 0, 0, 0, 0, 0, 0, 0, 0, 0, 0, 0, 0, 0, 1, 1] [0, 0, 1, 1, 1, 0, 0, 0, 0, 1, 1, 1, 1, 1, 0, 1, 1, 2] ?_
  refine Dp (fun _ => q_mv (s := .v (.c _)) ⟨rfl, rfl⟩) ?_
  refine Dp (fun _ => q_muln (x := 2) ⟨rfl, rfl⟩) ?_
  refine Dp (fun _ => q_mv (s := .v (.c _)) ⟨rfl, rfl⟩) ?_
  refine Dp (fun _ => q_muln (x := 2) ⟨rfl, rfl⟩) ?_
  refine Dp (fun _ => q_addn (y := 1) ⟨rfl, rfl⟩) ?_
  refine Dp (fun _ => q_mv (s := .v (.c _)) ⟨rfl, rfl⟩) ?_
  refine Dp (fun _ => q_ixp1 ⟨rfl, rfl⟩) ?_
  refine DLp ?_
  refine Dp (fun _ => q_cv64_8 ⟨rfl, rfl⟩) ?_
  refine Dp (fun _ => q_mv (s := .v (.c _)) ⟨rfl, rfl⟩) ?_
  refine Dp (fun _ => q_ixp1 ⟨rfl, rfl⟩) ?_
  refine DLp ?_
  refine Dp (fun _ => q_shr64_64 (n := 8) ⟨rfl, rfl⟩) ?_
  refine Dp (fun _ => q_cv64_8 ⟨rfl, rfl⟩) ?_
  refine Dp (fun _ => q_ixp1 ⟨rfl, rfl⟩) ?_
  refine De20 (fun _ k_ => q_stm k_) ?_
  refine Dp (fun _ => q_ixp1 ⟨rfl, rfl⟩) ?_
  refine De20 (fun _ k_ => q_stm k_) ?_
  refine dend ?_
  refine rln ?_
  refine Mv ?_
  refine G (q_addn (y := 1) ?_)
  refine As ?_
  refine gend ?_
  exact ⟨⟨x.1 + 1, by omega⟩, by show 16 - (x.1 + 1) < 16 - x.1; omega, sle_sub ⟨rfl, rfl, rfl, rfl, trivial⟩ rfl⟩   -- endloop 1
theorem bytes_ (n : Nat) : Good Try.prog 41 [.a (u64s (dg n))] [] (sa (u8s (by32 n))) [] := by
  have := bytes_l (dg n) (dg_len n)
  rwa [byd_by] at this
/-- escutcheonref02.Small -/
theorem small_ (x : UInt64) : Good Try.prog 32 [.c (c64 x)] [] (sa (u64s (dg x.toNat))) [] := by
  rw [← smd_dg]
  refine good_frm 18 Try.func32 rfl rfl rfl rfl rfl rfl ?_
  refine awp_seq ?_
  refine rln ?_
  refine G2 (fun _ k_ => q_al k_) ?_
  refine gend ?_
  refine awp_seq ?_
  refine rln ?_
  refine G2 (fun _ k_ => q_al k_) ?_
  refine gend ?_
  refine awp_seq ?_
  refine awp_seq ?_
  refine rln ?_
  refine G (q_as (s := sc (cn 0)) ?_)
  refine gend ?_
  refine awp_block ?_
  refine awp_loop (fun i : {i : Nat // i ≤ 4} => ⟨frm 18 [(0, sc (c64 x)), (2, sc (.ptr 0 0)), (3, sc (.ptr 1 0)), (4, sc (cn i.1))], [some (u64s (List.replicate 16 0)), some (u64s (smd x i.1))]⟩) (fun i => 4 - i.1) ⟨0, Nat.zero_le _⟩ (sle_sub ⟨rfl, rfl, rfl, rfl, trivial⟩ rfl) fun i => ?_   -- live: [0, 3, 4]
  have hl := smd_len x i.1
  refine awp_seq ?_
  refine awp_seq ?_
  refine rln ?_
  refine Mv ?_
  refine G (q_lssn (y := 4) ?_)
  refine gend ?_
  refine cnd (fun hc1 => ?_) (fun hc1 => ?_); rotate_left
  · refine awp_exit ?_
    rw [show i.1 = 4 from (by have := i.2; omega)]
    have hl := smd_len x 4
    refine awp_seq ?_
    refine rln ?_
    refine G (q_ldw ?_)
    refine G20 (fun _ k_ => q_stw k_) ?_
    refine gend ?_
    refine awp_ret ?_
    exact fpc (t := 30) (a := 2) (hn := by exact (mapc_length ..).trans hl)
  refine awp_skip ?_
  refine awp_seq ?_
  refine awp_block ?_
  refine rln ?_
  refine Mv ?_
  refine Mv ?_
  refine Mv ?_
  refine G (q_muln (x := 16) ?_)
  refine G (q_cv0_64 ?_)
  refine G (q_shr64_64 ?_)
  refine G (q_and64 (y := 65535) ?_)
  refine G (q_ixp1 ?_)
  refine G20 (fun _ k_ => q_stm k_) ?_
  refine gend ?_
  refine rln ?_
  refine Mv ?_
  refine G (q_addn (y := 1) ?_)
  refine As ?_
  refine gend ?_
  exact ⟨⟨i.1 + 1, by omega⟩, by show 4 - (i.1 + 1) < 4 - i.1; omega, sle_sub ⟨rfl, rfl, rfl, rfl, trivial⟩ rfl⟩   -- endloop 1
set_option maxHeartbeats 800000 in
/-- escutcheonref02.Add -/
theorem add_ (m n : Nat) (hm : m < 115792089237316195423570985008687907853269984665640564039457584007913129639936) (hn : n < 115792089237316195423570985008687907853269984665640564039457584007913129639936) : Good Try.prog 14 [.a (u64s (dg m)), .a (u64s (dg n))] [] (sa (u64s (dg ((m + n) % P)))) [] := by
  obtain ⟨b1, b2⟩ := sml_spec (dgk_bd 16 m) (dgk_bd 16 n)
  rw [dg_v m hm, dg_v n hn] at b2
  have gM := mod16_ (sml (dg m) (dg n) 16) (sml_len ..) (b1.mono (by decide)) (by rw [b2, show (65536 : Nat) ^ 17 = 65536 * 115792089237316195423570985008687907853269984665640564039457584007913129639936 by decide]; omega)
  rw [b2] at gM
  have hA := dg_len m
  have hB := dg_len n
  have hR := dg_len ((m + n) % P)
  generalize dg ((m + n) % P) = R at gM hR ⊢
  generalize dg m = A at hA gM ⊢
  generalize dg n = B at hB gM ⊢
  refine good_frm 23 Try.func14 rfl rfl rfl rfl rfl rfl ?_
  refine awp_seq ?_
  refine rln ?_
  refine G2 (fun _ k_ => q_boxa k_) ?_
  refine G2 (fun _ k_ => q_boxa k_) ?_
  refine G2 (fun _ k_ => q_al k_) ?_
  refine gend ?_
  refine awp_seq ?_
  refine rln ?_
  refine As ?_
  refine gend ?_
  refine awp_seq ?_
  refine awp_seq ?_
  refine rln ?_
  refine G (q_as (s := sc (cn 0)) ?_)
  refine gend ?_
  refine awp_block ?_
  refine awp_loop (fun i : {i : Nat // i ≤ 16} => ⟨frm 23 [(2, sc (.ptr 0 0)), (3, sc (.ptr 1 0)), (4, sc (.ptr 2 0)), (5, sc (.slc 3 0 i.1 1)), (6, sc (cn i.1))], [some (u64s A), some (u64s B), some (u64s (List.replicate 16 0)), some (u64s (sml A B i.1))]⟩) (fun i => 16 - i.1) ⟨0, Nat.zero_le _⟩ (sle_empty 1 (Nat.zero_le _) ⟨.inl rfl, .inl rfl, .inl rfl, .inr ⟨rfl, rfl⟩, .inl rfl, trivial⟩) fun i => ?_   -- live: [2, 3, 5, 6]
  have hl := sml_len A B i.1
  refine awp_seq ?_
  refine awp_seq ?_
  refine rln ?_
  refine Mv ?_
  refine G (q_lssn (y := 16) ?_)
  refine gend ?_
  refine cnd (fun hc1 => ?_) (fun hc1 => ?_); rotate_left
  · refine awp_exit ?_
    rw [show i.1 = 16 from (by have := i.2; omega)]
    have hl := sml_len A B 16
    refine awp_seq ?_
    refine rln ?_
    refine Mv ?_
    refine G2 (fun _ k_ => q_callp (gM) k_ (ha := (cac (et rfl) (sees_slc rfl rfl (cut_h hl)) ca0))) ?_
    refine G20 (fun _ k_ => q_stw k_) ?_
    refine gend ?_
    refine awp_ret ?_
    exact fpc (t := 30) (a := 4) (hn := by exact (mapc_length ..).trans hR)
  refine awp_skip ?_
  refine awp_seq ?_
  refine awp_block ?_
  refine rdln [8, 9] [0, 0, 0, 0, 0, 0, 0, 0, 0, 1, 2] [1, 0, 0, 0, 0, 0, 0, 0, 1, 2, 2] ?_
  refine Dp (fun _ => q_mv (s := .v (.c _)) ⟨rfl, rfl⟩) ?_
  refine Dp (fun _ => q_mv (s := .v (.c _)) ⟨rfl, rfl⟩) ?_
  refine Dp (fun _ => q_ixp1 ⟨rfl, rfl⟩) ?_
  refine DLp ?_
  refine Dp (fun _ => q_mv (s := .v (.c _)) ⟨rfl, rfl⟩) ?_
  refine Dp (fun _ => q_ixp1 ⟨rfl, rfl⟩) ?_
  refine DLp ?_
  refine Dp (fun _ => q_add64 ⟨rfl, rfl⟩) ?_
  refine De2 (fun _ k_ => q_bsl (fkc rfl (et rfl) rfl (Nat.le_of_ble_eq_true rfl) (fk0 k_))) ?_
  refine De2 (fun _ k_ => q_app  k_ (eA := el_slc (xs := u64s (sml A B i.1)) rfl (by rw [mapc_length]; omega) (cut_h hl)) (eB := el_slc (xs := [_]) rfl (Nat.le_refl 1) rfl)) ?_
  refine Dp (fun _ => q_as (s := .v (.c _)) ⟨rfl, rfl⟩) ?_
  refine dend ?_
  refine rln ?_
  refine Mv ?_
  refine G (q_addn (y := 1) ?_)
  refine As ?_
  refine gend ?_
  exact ⟨⟨i.1 + 1, by omega⟩, by show 16 - (i.1 + 1) < 16 - i.1; omega, sle_view [0, 1, 2, 5] (fun p h => absurd h (Nat.not_lt_zero _)) (by decide) ⟨rfl, rfl, rfl, rfl, rfl, trivial⟩ (vh4 (pick_m rfl) (pick_m rfl) (pick_m rfl) (pick_m (congrArg (fun z => some (some z)) ((app1 _ _).trans (congrArg u64s (sml_succ A B i.1))))))⟩   -- endloop 1
set_option maxHeartbeats 800000 in
/-- escutcheonref02.Neg -/
theorem neg_ (x : F) : Good Try.prog 21 [.a (u64s (de x))] [] (sa (u64s (de (-x)))) [] := by
  have hx := F_lt x
  have hv := dg_v x.val (F_q x)
  have bx : Bd (dg x.val) 9223372036854775808 := (dgk_bd 16 x.val).mono (by decide)
  have g1 := mod16_ (dg x.val) (dg_len _) bx (by rw [hv, show (65536 : Nat) ^ 17 = 65536 * 115792089237316195423570985008687907853269984665640564039457584007913129639936 by decide]; omega)
  rw [hv, Nat.mod_eq_of_lt x.isLt] at g1
  have g2 := minus_ P x.val (by decide) (Nat.le_of_lt x.isLt)
  have g3 := all_ (dg (P - x.val)) (dg_len _)
  have hP := P_val
  have hv2 := dg_v (P - x.val) (by omega)
  have g4 := mod16_ (dg (P - x.val)) (dg_len _) ((dgk_bd 16 _).mono (by decide)) (by rw [hv2, show (65536 : Nat) ^ 17 = 65536 * 115792089237316195423570985008687907853269984665640564039457584007913129639936 by decide]; omega)
  rw [hv2] at g4
  rw [show de (-x) = dg ((P - x.val) % P) from rfl]
  have hA : (dg x.val).length = 16 := dg_len _
  have hB := dg_len (P - x.val)
  have hC := dg_len ((P - x.val) % P)
  generalize dg ((P - x.val) % P) = C at g4 hC ⊢
  generalize dg (P - x.val) = B at g2 g3 g4 hB
  have hA' : (de x).length = 16 := hA
  refine good_frm 10 Try.func21 rfl rfl rfl rfl rfl rfl ?_
  refine awp_seq ?_
  refine rln ?_
  refine G2 (fun _ k_ => q_boxa k_) ?_
  refine G2 (fun _ k_ => q_al k_) ?_
  refine gend ?_
  refine awp_seq ?_
  refine rln ?_
  refine G (q_slp_no ?_)
  refine G2 (fun _ k_ => q_callp (g1) k_ (ha := (cac (et rfl) (sees_slc rfl rfl (cut_h hA)) ca0))) ?_
  refine G20 (fun _ k_ => q_stw k_) ?_
  refine gend ?_
  refine awp_seq ?_
  refine rdln [0, 2, 3, 4, 5] [0, 0, 1, 2, 3, 4] [1, 1, 2, 3, 4, 5] ?_
  refine De2 (fun _ k_ => q_callp (prime_) k_) ?_
  refine DLw ?_
  refine De2 (fun _ k_ => q_callp (g2) k_) ?_
  refine De2 (fun _ k_ => q_calln g3 k_) ?_
  refine De2 (fun _ k_ => q_callp (g4) k_ (ha := (cac (et rfl) (sees_slc rfl rfl (cut_h hB)) ca0))) ?_
  refine De20 (fun _ k_ => q_stw k_) ?_
  refine dend ?_
  refine awp_ret ?_
  exact fpc (t := 30) (a := 2) (hn := by exact (mapc_length ..).trans hC)
theorem add_e (x y : F) : Good Try.prog 14 [.a (u64s (de x)), .a (u64s (de y))] [] (sa (u64s (de (x + y)))) [] := by
  have := add_ x.val y.val (F_q x) (F_q y)
  rwa [← Fin.val_add] at this
/-- escutcheonref02.Sub -/
theorem sub_e (x y : F) : Good Try.prog 16 [.a (u64s (de x)), .a (u64s (de y))] [] (sa (u64s (de (x - y)))) [] := by
  rw [show x - y = x + -y by grind]
  have hx := de_len x
  have hy := de_len y
  have hz := de_len (x + -y)
  refine good_frm 9 Try.func16 rfl rfl rfl rfl rfl rfl ?_
  refine awp_seq ?_
  refine rln ?_
  refine G2 (fun _ k_ => q_boxa k_) ?_
  refine G2 (fun _ k_ => q_boxa k_) ?_
  refine G2 (fun _ k_ => q_al k_) ?_
  refine gend ?_
  refine awp_seq ?_
  refine rdln [2, 3, 4] [0, 0, 0, 1, 2] [1, 0, 1, 2, 3] ?_
  refine DLw ?_
  refine DLw ?_
  refine De2 (fun _ k_ => q_callp (neg_ y) k_) ?_
  refine De2 (fun _ k_ => q_callp (add_e x (-y)) k_) ?_
  refine De20 (fun _ k_ => q_stw k_) ?_
  refine dend ?_
  refine awp_ret ?_
  exact fpc (t := 30) (a := 4) (hn := by exact (mapc_length ..).trans hz)
set_option maxHeartbeats 800000 in
/-- escutcheonref02.Mul -/
theorem mul_ (m n : Nat) (hm : m < 115792089237316195423570985008687907853269984665640564039457584007913129639936) (hn : n < 115792089237316195423570985008687907853269984665640564039457584007913129639936) : Good Try.prog 18 [.a (u64s (dg m)), .a (u64s (dg n))] [] (sa (u64s (dg (m * n % P)))) [] := by
  obtain ⟨p1, p2, p3, p4, p5⟩ := prod_ok hm hn
  have gC := car_ (pout (dg m) (dg n) 16) 31 (pout_len ..) (by decide) p1 p2
  have gM := modL_ (carL (pout (dg m) (dg n) 16)) (m * n % P) p3 p4 (by rw [p5])
  have hA := dg_len m
  have hB := dg_len n
  have hbA : Bd (dg m) 65535 := dgk_bd 16 m
  have hR := dg_len (m * n % P)
  generalize dg (m * n % P) = R at gM hR ⊢
  generalize dg m = A at hA gM gC p4 ⊢
  generalize dg n = B at hB gM gC p4 ⊢
  refine good_frm 39 Try.func18 rfl rfl rfl rfl rfl rfl ?_
  refine awp_seq ?_
  refine rln ?_
  refine G2 (fun _ k_ => q_boxa k_) ?_
  refine G2 (fun _ k_ => q_boxa k_) ?_
  refine G2 (fun _ k_ => q_al k_) ?_
  refine gend ?_
  refine awp_seq ?_
  refine rln ?_
  refine G2 (fun _ k_ => q_mks k_) ?_
  refine As ?_
  refine gend ?_
  refine awp_seq ?_
  refine awp_seq ?_
  refine rln ?_
  refine G (q_as (s := sc (cn 0)) ?_)
  refine gend ?_
  refine awp_block ?_
  refine awp_loop (fun i : {i : Nat // i ≤ 16} => ⟨frm 39 [(2, sc (.ptr 0 0)), (3, sc (.ptr 1 0)), (4, sc (.ptr 2 0)), (5, sc (.slc 3 0 31 1)), (6, sc (cn i.1))], [some (u64s A), some (u64s B), some (u64s (List.replicate 16 0)), some (u64s (pout A B i.1))]⟩) (fun i => 16 - i.1) ⟨0, Nat.zero_le _⟩ (sle_sub ⟨rfl, rfl, rfl, rfl, rfl, trivial⟩ (by rw [show pout A B 0 = List.replicate 31 0 from rfl, ← rep31])) fun i => ?_   -- live: [2, 3, 5, 6]
  have hl := pout_len A B i.1
  refine awp_seq ?_
  refine awp_seq ?_
  refine rln ?_
  refine Mv ?_
  refine G (q_lssn (y := 16) ?_)
  refine gend ?_
  refine cnd (fun hc1 => ?_) (fun hc1 => ?_); rotate_left
  · refine awp_exit ?_
    rw [show i.1 = 16 from (by have := i.2; omega)]
    have hl := pout_len A B 16
    generalize hW : pout A B 16 = W at hl gC gM p4 ⊢
    generalize hC : carL W = C at gC gM p4
    refine awp_seq ?_
    refine rln ?_
    refine Mv ?_
    refine G2 (fun _ k_ => q_callv [3] [none] [some (u64s C)] (gC) k_ (ha := (cac (et rfl) rfl ca0)) (e2 := pl1 rfl sees_m pl0) (eL := mln ml0) (eM := (ml1 sees_m ml0)) (e3 := rfl)) ?_
    refine G2 (fun _ k_ => q_callv [4] [none] [] (gM) k_ (ha := (cac (et rfl) rfl ca0)) (e2 := pl1 rfl sees_m pl0) (eL := mln ml0) (eM := ml0) (e3 := rs_m)) ?_
    refine G20 (fun _ k_ => q_stw k_) ?_
    refine gend ?_
    refine awp_ret ?_
    exact fpc (t := 30) (a := 4) (hn := by exact (mapc_length ..).trans hR)
  refine awp_skip ?_
  refine awp_seq ?_
  refine awp_block ?_
  refine awp_seq ?_
  refine rln ?_
  refine G (q_as (s := sc (cn 0)) ?_)
  refine gend ?_
  refine awp_block ?_
  refine awp_loop (fun k : {i : Nat // i ≤ 16} => ⟨frm 39 [(2, sc (.ptr 0 0)), (3, sc (.ptr 1 0)), (4, sc (.ptr 2 0)), (5, sc (.slc 3 0 31 1)), (6, sc (cn i.1)), (7, sc (cn k.1))], [some (u64s A), some (u64s B), some (u64s (List.replicate 16 0)), some (u64s (pin A B i.1 (pout A B i.1) k.1))]⟩) (fun k => 16 - k.1) ⟨0, Nat.zero_le _⟩ (sle_sub ⟨rfl, rfl, rfl, rfl, rfl, rfl, trivial⟩ rfl) fun k => ?_   -- live: [2, 3, 5, 6, 7]
  have hl2 := (pin_len A B i.1 (pout A B i.1) k.1).trans hl
  refine awp_seq ?_
  refine awp_seq ?_
  refine rln ?_
  refine Mv ?_
  refine G (q_lssn (y := 16) ?_)
  refine gend ?_
  refine cnd (fun hc2 => ?_) (fun hc2 => ?_); rotate_left
  · refine awp_exit ?_
    rw [show k.1 = 16 from (by have := k.2; omega)]
    refine rln ?_
    refine Mv ?_
    refine G (q_addn (y := 1) ?_)
    refine As ?_
    refine gend ?_
    exact ⟨⟨i.1 + 1, by omega⟩, by show 16 - (i.1 + 1) < 16 - i.1; omega, sle_sub ⟨rfl, rfl, rfl, rfl, rfl, trivial⟩ rfl⟩   -- endloop 1
  refine awp_skip ?_
  refine awp_seq ?_
  refine awp_block ?_
  refine rdln [19] [] [0, 0, 0, 0, 0, 0, 0, 0, 0, 0, 0, 0, 0, 0, 0, 0, 0, 0, 0, 1] ?_
  refine Dp (fun _ => q_mv (s := .v (.c _)) ⟨rfl, rfl⟩) ?_
  refine Dp (fun _ => q_mv (s := .v (.c _)) ⟨rfl, rfl⟩) ?_
  refine Dp (fun _ => q_mv (s := .v (.c _)) ⟨rfl, rfl⟩) ?_
  refine Dp (fun _ => q_addn ⟨rfl, rfl⟩) ?_
  refine Dp (fun _ => q_mv (s := .v (.c _)) ⟨rfl, rfl⟩) ?_
  refine Dp (fun _ => q_mv (s := .v (.c _)) ⟨rfl, rfl⟩) ?_
  refine Dp (fun _ => q_mv (s := .v (.c _)) ⟨rfl, rfl⟩) ?_
  refine Dp (fun _ => q_addn ⟨rfl, rfl⟩) ?_
  refine Dp (fun _ => q_ixs1 ⟨rfl, rfl⟩) ?_
  refine DLp ?_
  refine Dp (fun _ => q_mv (s := .v (.c _)) ⟨rfl, rfl⟩) ?_
  refine Dp (fun _ => q_ixp1 ⟨rfl, rfl⟩) ?_
  refine DLp ?_
  refine Dp (fun _ => q_mv (s := .v (.c _)) ⟨rfl, rfl⟩) ?_
  refine Dp (fun _ => q_ixp1 ⟨rfl, rfl⟩) ?_
  refine DLp ?_
  refine Dp (fun _ => q_mul64 ⟨rfl, rfl⟩) ?_
  refine Dp (fun _ => q_add64 ⟨rfl, rfl⟩) ?_
  refine Dp (fun _ => q_ixs1 ⟨rfl, rfl⟩) ?_
  refine De20 (fun _ k_ => q_stm k_) ?_
  refine dend ?_
  refine rln ?_
  refine Mv ?_
  refine G (q_addn (y := 1) ?_)
  refine As ?_
  refine gend ?_
  exact ⟨⟨k.1 + 1, by omega⟩, by show 16 - (k.1 + 1) < 16 - k.1; omega, sle_sub ⟨rfl, rfl, rfl, rfl, rfl, rfl, trivial⟩ rfl⟩   -- endloop 2
theorem mul_e (x y : F) : Good Try.prog 18 [.a (u64s (de x)), .a (u64s (de y))] [] (sa (u64s (de (x * y)))) [] := by
  have := mul_ x.val y.val (F_q x) (F_q y)
  rwa [← Fin.val_mul] at this
theorem small_1 : Good Try.prog 32 [.c (c64 1)] [] (sa (u64s (de 1))) [] := small_ 1
theorem small_2 : Good Try.prog 32 [.c (c64 2)] [] (sa (u64s (de 2))) [] := small_ 2
end Go.Proofs.Ytjibmonfmhdbbaa.Rn

/- What functions of the program do, walked over the abstract machine. -/
namespace Go.Proofs.Ytjibmonfmhdbbaa.Fl
open Go Go.Abs Go.Proofs Go.Proofs.Ytjibmonfmhdbbaa.Fd Go.Proofs.Ytjibmonfmhdbbaa.Rn

open Go.Nt Fd Rn
/-- escutcheonlaw02.num -/
theorem num_ (b : List UInt8) (hb : b.length = 32) : Good Try.prog 11 [.a (u8s b)] [] (sa (u64s (de (fb b)))) [] := by
  have hq : bv (b.set 31 (b.getD 31 0 % 128)) = bv b % 57896044618658097711785492504343953926634992332820282019728792003956564819968 := num_fb b hb
  have hs : (b.set 31 (b.getD 31 0 % 128)).length = 32 := List.length_set.trans hb
  have g1 := Rn.of_ (b.set 31 (b.getD 31 0 % 128)) hs
  have hlt : bv b % 57896044618658097711785492504343953926634992332820282019728792003956564819968 < 57896044618658097711785492504343953926634992332820282019728792003956564819968 := Nat.mod_lt _ (by decide)
  have g2 := Rn.add_ (bv b % 57896044618658097711785492504343953926634992332820282019728792003956564819968) 0 (by omega) (by decide)
  rw [Nat.add_zero] at g2
  rw [hq] at g1
  have hA := dg_len (bv b % 57896044618658097711785492504343953926634992332820282019728792003956564819968)
  rw [show de (fb b) = dg (bv b % 57896044618658097711785492504343953926634992332820282019728792003956564819968 % P) from rfl]
  have hB := dg_len (bv b % 57896044618658097711785492504343953926634992332820282019728792003956564819968 % P)
  generalize dg (bv b % 57896044618658097711785492504343953926634992332820282019728792003956564819968 % P) = B at g2 hB ⊢
  generalize dg (bv b % 57896044618658097711785492504343953926634992332820282019728792003956564819968) = A at g1 g2 hA
  refine good_frm 11 Try.func11 rfl rfl rfl rfl rfl rfl ?_
  refine awp_seq ?_
  refine rln ?_
  refine G2 (fun _ k_ => q_boxa k_) ?_
  refine G2 (fun _ k_ => q_al k_) ?_
  refine gend ?_
  refine awp_seq ?_
  refine rln ?_
  refine G (q_ixp1 ?_)
  refine G (q_ldp ?_)
  refine G (q_rem8 (y := 128) ?_ (hz := by decide))
  refine G (q_ixp1 ?_)
  refine G20 (fun _ k_ => q_stm k_) ?_
  refine gend ?_
  refine awp_seq ?_
  refine rln ?_
  refine G (q_ldw ?_)
  refine G2 (fun _ k_ => q_callp (g1) k_) ?_
  rw [show u64s (List.replicate 16 0) = u64s (dg 0) from congrArg u64s rep_de]
  refine G (q_bla (fk0 ?_))
  refine G2 (fun _ k_ => q_callp (g2) k_) ?_
  refine G20 (fun _ k_ => q_stw k_) ?_
  refine gend ?_
  refine awp_ret ?_
  exact fpc (t := 30) (a := 2) (hn := by exact (mapc_length ..).trans hB)
/-- escutcheonlaw02.is -/
theorem is_ (x y : F) : Good Try.prog 12 [.a (u64s (el x)), .a (u64s (de y))] [] (sc (.bool (decide (x = y)))) [] := by
  have hx := by32_len x.val
  have hy := by32_len y.val
  refine good_frm 10 Try.func12 rfl rfl rfl rfl rfl rfl ?_
  refine awp_seq ?_
  refine rln ?_
  refine G2 (fun _ k_ => q_boxa k_) ?_
  refine G2 (fun _ k_ => q_boxa k_) ?_
  refine As ?_
  refine gend ?_
  refine awp_seq ?_
  refine rdln [1, 3] [0, 0, 0, 1, 2, 2] [0, 1, 1, 2, 2, 2] ?_
  refine DLw ?_
  refine De2 (fun _ k_ => q_callp (bytes_e x) k_) ?_
  refine DLw ?_
  refine De2 (fun _ k_ => q_callp (Rn.bytes_ y.val) k_) ?_
  refine Dp (fun _ => q_eqa8 ⟨rfl, rfl⟩) ?_
  refine Dp (fun _ => q_as (s := .v (.c _)) ⟨rfl, rfl⟩) ?_
  refine dend ?_
  refine awp_ret ?_
  exact fp1 (hv := congrArg (fun b => sc (.bool b)) (decide_eq_decide.2 ⟨fun h => h ▸ rfl, fun h => bye_inj h⟩))
theorem is_t (x y : F) (h : x = y) : Good Try.prog 12 [.a (u64s (el x)), .a (u64s (de y))] [] (sc (.bool true)) [] := by
  have := is_ x y
  rwa [decide_eq_true h] at this
theorem eq_t (x y : F) (h : x = y) : Good Try.prog 28 [.a (u64s (el x)), .a (u64s (el y))] [] (sc (.bool true)) [] := by
  have := equal_e x y
  rwa [decide_eq_true h] at this
theorem eq_f (x y : F) (h : x ≠ y) : Good Try.prog 28 [.a (u64s (el x)), .a (u64s (el y))] [] (sc (.bool false)) [] := by
  have := equal_e x y
  rwa [decide_eq_false h] at this
theorem kn1 : (2 : F) ≠ 0 := by decide
theorem kn_2 : inv 2 * 4 = 2 := by
  have h := mul_inv kn1
  grind
theorem kb : bye (0 - 1 : F) = 236 :: (List.replicate 30 255 ++ [127]) := by decide +kernel
theorem small_4 : Good Try.prog 27 [.c (c64 4)] [] (sa (u64s (el 4))) [] := small_e 4
set_option maxHeartbeats 800000 in
/-- escutcheonlaw02.known -/
theorem known_ : Good Try.prog 22 [] [] (sc (.bool true)) [] := by
  have hk2 := kn_2
  have hkb := kb
  have gB := bytes_e (0 - 1)
  rw [hkb] at gB
  refine good_frm 32 Try.func22 rfl rfl rfl rfl rfl rfl ?_
  refine awp_seq ?_
  refine rln ?_
  refine As ?_
  refine gend ?_
  refine awp_seq ?_
  refine rln ?_
  refine G2 (fun _ k_ => q_callp (small_0) k_ (ha := (cac rfl cm_int ca0))) ?_
  refine G2 (fun _ k_ => q_callp (small_1) k_ (ha := (cac rfl cm_int ca0))) ?_
  refine G2 (fun _ k_ => q_callp (sub_e 0 1) k_) ?_
  refine G2 (fun _ k_ => q_callp (gB) k_) ?_
  refine G2 (fun _ k_ => q_al k_) ?_
  refine G20 (fun _ k_ => q_stw k_) ?_
  refine gend ?_
  refine awp_seq ?_
  refine rln ?_
  refine G2 (fun _ k_ => q_callp (small_2) k_ (ha := (cac rfl cm_int ca0))) ?_
  refine G2 (fun _ k_ => q_callp (inv_e 2) k_) ?_
  refine G2 (fun _ k_ => q_callp (small_4) k_ (ha := (cac rfl cm_int ca0))) ?_
  refine G2 (fun _ k_ => q_callp (mul_e (inv 2) 4) k_) ?_
  refine G2 (fun _ k_ => q_callp (small_2) k_ (ha := (cac rfl cm_int ca0))) ?_
  refine G2 (fun _ k_ => q_callp (eq_t _ _ hk2) k_) ?_
  refine Mv ?_
  refine Gg (q_ixp1 ?_)
  refine Gg (q_ldp ?_)
  refine Gg (q_eql8 (y := 236) ?_)
  refine G (q_pkt ?_)
  refine Mv ?_
  refine Aknd 17 (fun hb12 => ?_) ?_; rotate_left
  · exact rfl
  refine Gg (q_ixp1 ?_)
  refine Gg (q_ldp ?_)
  refine Gg (q_eql8 (y := 255) ?_)
  refine G (q_pkt ?_)
  refine Mv ?_
  refine Aknd 22 (fun hb17 => ?_) ?_; rotate_left
  · exact rfl
  refine Gg (q_ixp1 ?_)
  refine Gg (q_ldp ?_)
  refine Gg (q_eql8 (y := 255) ?_)
  refine G (q_pkt ?_)
  refine Mv ?_
  refine Aknd 27 (fun hb22 => ?_) ?_; rotate_left
  · exact rfl
  refine Gg (q_ixp1 ?_)
  refine Gg (q_ldp ?_)
  refine Gg (q_eql8 (y := 127) ?_)
  refine G (q_pkt ?_)
  refine As ?_
  refine gend ?_
  refine awp_ret ?_
  exact fp1
end Go.Proofs.Ytjibmonfmhdbbaa.Fl

/- What functions of the program do, walked over the abstract machine. -/
namespace Go.Proofs.Ytjibmonfmhdbbaa.Rn
open Go Go.Abs Go.Proofs

open Go.Nt Fd
theorem rbit (e : List UInt8) (j : Nat) (h : j < 256) : (shr8n (e.getD (j / 8) 0) (UInt64.ofNat (j % 8)).toNat % 2 = 1) = (shr8n (e.getD (j / 8) 0) (j % 8) &&& 1 = 1) := by
  rw [UInt64.toNat_ofNat', Nat.mod_eq_of_lt (b := 2 ^ 64) (by omega)]
  generalize shr8n (e.getD (j / 8) 0) (j % 8) = x
  have : x % 2 = x &&& 1 := UInt8.toNat_inj.1 (by rw [UInt8.toNat_mod, UInt8.toNat_and, show UInt8.toNat 1 = 2 ^ 1 - 1 from rfl, Nat.and_two_pow_sub_one_eq_mod]; rfl)
  rw [this]
theorem rstep1 (x : F) {e : List UInt8} {i : Nat} (hi : i < 256) (hb : shr8n (e.getD ((255 - i) / 8) 0) (UInt64.ofNat ((255 - i) % 8)).toNat % 2 = 1) : pw x (bv e / 2 ^ (256 - i)) * pw x (bv e / 2 ^ (256 - i)) * x = pw x (bv e / 2 ^ (256 - (i + 1))) := by
  rw [rbit e _ (by omega), show (255 - i) / 8 = 31 - i / 8 by omega, show (255 - i) % 8 = 7 - i % 8 by omega] at hb
  exact pw_step1 x hi hb
theorem rstep0 (x : F) {e : List UInt8} {i : Nat} (hi : i < 256) (hb : ¬ shr8n (e.getD ((255 - i) / 8) 0) (UInt64.ofNat ((255 - i) % 8)).toNat % 2 = 1) : pw x (bv e / 2 ^ (256 - i)) * pw x (bv e / 2 ^ (256 - i)) = pw x (bv e / 2 ^ (256 - (i + 1))) := by
  rw [rbit e _ (by omega), show (255 - i) / 8 = 31 - i / 8 by omega, show (255 - i) % 8 = 7 - i % 8 by omega] at hb
  exact pw_step0 x hi hb
theorem sub255 (i : Nat) (h : i < 256) : (255 : Int) - (i : Int) = ((255 - i : Nat) : Int) := by omega
set_option maxHeartbeats 800000 in
/-- escutcheonref02.Power -/
theorem power_ (x : F) (e : List UInt8) (he : e.length = 32) : Good Try.prog 26 [.a (u64s (de x)), .a (u8s e)] [] (sa (u64s (de (pw x (bv e))))) [] := by
  have h0 : bv e / 2 ^ 256 = 0 := Nat.div_eq_of_lt (bv_lt e)
  have hxl := de_len x
  have h1l := de_len 1
  have hzl := de_len (pw x (bv e))
  refine good_frm 29 Try.func26 rfl rfl rfl rfl rfl rfl ?_
  refine awp_seq ?_
  refine rln ?_
  refine G2 (fun _ k_ => q_boxa k_) ?_
  refine G2 (fun _ k_ => q_boxa k_) ?_
  refine G2 (fun _ k_ => q_al k_) ?_
  refine gend ?_
  refine awp_seq ?_
  refine rln ?_
  refine G2 (fun _ k_ => q_callp (small_1) k_ (ha := (cac rfl cm_int ca0))) ?_
  refine G2 (fun _ k_ => q_al k_) ?_
  refine G20 (fun _ k_ => q_stw k_) ?_
  refine gend ?_
  refine awp_seq ?_
  refine awp_seq ?_
  refine rln ?_
  refine G (q_as (s := sc (cn 255)) ?_)
  refine gend ?_
  refine awp_block ?_
  refine awp_loop (fun i : {i : Nat // i ≤ 256} => ⟨frm 29 [(2, sc (.ptr 0 0)), (3, sc (.ptr 1 0)), (4, sc (.ptr 2 0)), (5, sc (.ptr 3 0)), (6, sc (ci (255 - (i.1 : Int))))], [some (u64s (de x)), some (u8s e), some (u64s (List.replicate 16 0)), some (u64s (de (pw x (bv e / 2 ^ (256 - i.1)))))]⟩) (fun i => 256 - i.1) ⟨0, Nat.zero_le _⟩ (sle_sub ⟨rfl, rfl, rfl, rfl, rfl, trivial⟩ (by rw [Nat.sub_zero, h0]; rfl)) fun i => ?_   -- live: [2, 3, 5, 6]
  refine awp_seq ?_
  refine awp_seq ?_
  refine rln ?_
  refine Mv ?_
  refine G (q_geqi (y := 0) ?_)
  refine gend ?_
  refine cnd (fun hc1 => ?_) (fun hc1 => ?_); rotate_left
  · refine awp_exit ?_
    rw [show i.1 = 256 from (by have := i.2; omega)]
    rw [Nat.sub_self, Nat.pow_zero, Nat.div_one]
    refine awp_seq ?_
    refine rln ?_
    refine G (q_ldw ?_)
    refine G20 (fun _ k_ => q_stw k_) ?_
    refine gend ?_
    refine awp_ret ?_
    exact fpc (t := 30) (a := 4) (hn := by exact (mapc_length ..).trans hzl)
  refine awp_skip ?_
  have hi6 : i.1 < 256 := by omega
  have hr0 := de_len (pw x (bv e / 2 ^ (256 - i.1)))
  have hr1 := de_len (pw x (bv e / 2 ^ (256 - i.1)) * pw x (bv e / 2 ^ (256 - i.1)))
  have hr2 := de_len (pw x (bv e / 2 ^ (256 - i.1)) * pw x (bv e / 2 ^ (256 - i.1)) * x)
  refine retell [(2, sc (.ptr 0 0)), (3, sc (.ptr 1 0)), (4, sc (.ptr 2 0)), (5, sc (.ptr 3 0)), (6, sc (cn (255 - i.1)))] ?_ ⟨rfl, rfl, rfl, rfl, congrArg (fun z => sc (ci z)) (sub255 i.1 hi6), trivial⟩
  refine awp_seq ?_
  refine awp_block ?_
  refine awp_seq ?_
  refine rln ?_
  refine G (q_ldw ?_)
  refine G (q_ldw ?_)
  refine G2 (fun _ k_ => q_callp (mul_e _ _) k_) ?_
  refine G20 (fun _ k_ => q_stw k_) ?_
  refine gend ?_
  refine awp_seq ?_
  refine rln ?_
  refine Mv ?_
  refine G (q_quon (y := 8) ?_)
  refine G (q_ixp1 ?_)
  refine G (q_ldp ?_)
  refine Mv ?_
  refine G (q_remn (y := 8) ?_)
  refine G (q_cv0_64 ?_)
  refine G (q_shr8_64 ?_)
  refine G (q_rem8 (y := 2) ?_ (hz := by decide))
  refine G (q_eql8 (y := 1) ?_)
  refine gend ?_
  refine cnd (fun hc2 => ?_) (fun hc2 => ?_)
  · refine rln ?_
    refine G (q_ldw ?_)
    refine G (q_ldw ?_)
    refine G2 (fun _ k_ => q_callp (mul_e _ x) k_) ?_
    refine G20 (fun _ k_ => q_stw k_) ?_
    refine gend ?_
    refine rln ?_
    refine Mv ?_
    refine G (q_subi (x := ((255 - i.1 : Nat) : Int)) (y := 1) ?_)
    refine As ?_
    refine gend ?_
    exact ⟨⟨i.1 + 1, by omega⟩, by show 256 - (i.1 + 1) < 256 - i.1; omega, sle_sub ⟨rfl, rfl, rfl, rfl, (congrArg (fun z => sc (ci z)) (by show ((255 - i.1 : Nat) : Int) - 1 = 255 - ((i.1 + 1 : Nat) : Int); omega)), trivial⟩ (congrArg (fun z => [some (u64s (de x)), some (u8s e), some (u64s (List.replicate 16 0)), some (u64s (de z))]) (by first | exact rstep1 x (by omega) (by assumption) | exact rstep0 x (by omega) (by assumption)))⟩   -- endloop 1
  refine awp_skip ?_
  refine rln ?_
  refine Mv ?_
  refine G (q_subi (x := ((255 - i.1 : Nat) : Int)) (y := 1) ?_)
  refine As ?_
  refine gend ?_
  exact ⟨⟨i.1 + 1, by omega⟩, by show 256 - (i.1 + 1) < 256 - i.1; omega, sle_sub ⟨rfl, rfl, rfl, rfl, (congrArg (fun z => sc (ci z)) (by show ((255 - i.1 : Nat) : Int) - 1 = 255 - ((i.1 + 1 : Nat) : Int); omega)), trivial⟩ (congrArg (fun z => [some (u64s (de x)), some (u8s e), some (u64s (List.replicate 16 0)), some (u64s (de z))]) (by first | exact rstep1 x (by omega) (by assumption) | exact rstep0 x (by omega) (by assumption)))⟩   -- endloop 1
set_option maxHeartbeats 800000 in
/-- escutcheonref02.Minor -/
theorem minor_l (a : UInt64) (k : Nat) (hk : k ≤ 100) : Good Try.prog 52 [.c (c64 a), .c (cn k)] [] (sa (u8s (byd (mrs (mr0 a) k) 16))) [] := by
  have hp := dg_len P
  have hml := (mrs_len (mr0 a) k).trans (mr0_len a)
  have gB := bytes_l (mrs (mr0 a) k) hml
  have hB := byd_len (mrs (mr0 a) k) 16
  refine good_frm 45 Try.func52 rfl rfl rfl rfl rfl rfl ?_
  refine awp_seq ?_
  refine rln ?_
  refine G2 (fun _ k_ => q_al k_) ?_
  refine gend ?_
  refine awp_seq ?_
  refine rln ?_
  refine G2 (fun _ k_ => q_callp (prime_) k_) ?_
  refine G2 (fun _ k_ => q_al k_) ?_
  refine G20 (fun _ k_ => q_stw k_) ?_
  refine gend ?_
  refine awp_seq ?_
  refine rln ?_
  refine G (q_ixp1 ?_)
  refine G (q_ldp ?_)
  refine Mv ?_
  refine G (q_sub64 ?_)
  refine G (q_ixp1 ?_)
  refine G20 (fun _ k_ => q_stm k_) ?_
  refine gend ?_
  refine awp_seq ?_
  refine awp_seq ?_
  refine rln ?_
  refine G (q_as (s := sc (cn 0)) ?_)
  refine gend ?_
  refine awp_block ?_
  refine awp_loop (fun x : {i : Nat // i ≤ k} => ⟨frm 45 [(1, sc (cn k)), (4, sc (.ptr 0 0)), (5, sc (.ptr 1 0)), (6, sc (cn x.1))], [some (u8s (List.replicate 32 0)), some (u64s (mrs (mr0 a) x.1))]⟩) (fun x => k - x.1) ⟨0, Nat.zero_le _⟩ (sle_sub ⟨rfl, rfl, rfl, rfl, trivial⟩ rfl) fun x => ?_   -- live: [1, 5, 6]
  have hl := (mrs_len (mr0 a) x.1).trans (mr0_len a)
  refine awp_seq ?_
  refine awp_seq ?_
  refine rln ?_
  refine Mv ?_
  refine Mv ?_
  refine G (q_lssn ?_)
  refine gend ?_
  refine cnd (fun hc1 => ?_) (fun hc1 => ?_); rotate_left
  · refine awp_exit ?_
    rw [show x.1 = k from (by have := x.2; omega)]
    have hl := hml
    generalize byd (mrs (mr0 a) k) 16 = L at gB hB ⊢
    generalize mrs (mr0 a) k = W at hl gB ⊢
    refine awp_seq ?_
    refine rln ?_
    refine G (q_ldw ?_)
    refine G2 (fun _ k_ => q_callp (gB) k_) ?_
    refine G20 (fun _ k_ => q_stw k_) ?_
    refine gend ?_
    refine awp_ret ?_
    exact fpc (t := 23) (a := 4) (hn := by exact (mapc_length ..).trans hB)
  refine awp_skip ?_
  refine awp_seq ?_
  refine awp_block ?_
  refine awp_seq ?_
  refine rln ?_
  refine G (q_as (s := sc (cn 0)) ?_)
  refine gend ?_
  refine awp_block ?_
  refine awp_loop (fun i : {i : Nat // i ≤ 16} => ⟨frm 45 [(1, sc (cn k)), (4, sc (.ptr 0 0)), (5, sc (.ptr 1 0)), (6, sc (cn x.1)), (7, sc (cn i.1))], [some (u8s (List.replicate 32 0)), some (u64s (mri (mrs (mr0 a) x.1) i.1))]⟩) (fun i => 16 - i.1) ⟨0, Nat.zero_le _⟩ (sle_sub ⟨rfl, rfl, rfl, rfl, rfl, trivial⟩ rfl) fun i => ?_   -- live: [5, 7]
  have hi := (mri_len (mrs (mr0 a) x.1) i.1).trans hl
  refine awp_seq ?_
  refine awp_seq ?_
  refine rln ?_
  refine Mv ?_
  refine G (q_lssn (y := 16) ?_)
  refine gend ?_
  refine cnd (fun hc2 => ?_) (fun hc2 => ?_); rotate_left
  · refine awp_exit ?_
    rw [show i.1 = 16 from (by have := i.2; omega)]
    refine rln ?_
    refine Mv ?_
    refine G (q_addn (y := 1) ?_)
    refine As ?_
    refine gend ?_
    exact ⟨⟨x.1 + 1, by omega⟩, by show k - (x.1 + 1) < k - x.1; omega, sle_sub ⟨rfl, rfl, rfl, rfl, trivial⟩ rfl⟩   -- endloop 1
  refine awp_skip ?_
  refine awp_seq ?_
  refine awp_block ?_
  refine awp_seq ?_
  refine rln ?_
  refine Mv ?_
  refine Mv ?_
  refine G (q_ixp1 ?_)
  refine G (q_ldp ?_)
  refine G (q_quo64 (y := 2) ?_ (hz := by decide))
  refine G (q_ixp1 ?_)
  refine G20 (fun _ k_ => q_stm k_) ?_
  refine gend ?_
  refine awp_seq ?_
  refine rln ?_
  refine Mv ?_
  refine G (q_lssn (y := 15) ?_)
  refine gend ?_
  refine cnd (fun hc3 => ?_) (fun hc3 => ?_)
  · refine rdln [12] [] [0, 0, 0, 0, 0, 0, 0, 0, 0, 0, 0, 0, 1] ?_
    refine Dp (fun _ => q_mv (s := .v (.c _)) ⟨rfl, rfl⟩) ?_
    refine Dp (fun _ => q_mv (s := .v (.c _)) ⟨rfl, rfl⟩) ?_
    refine Dp (fun _ => q_ixp1 ⟨rfl, rfl⟩) ?_
    refine DLp ?_
    refine Dp (fun _ => q_mv (s := .v (.c _)) ⟨rfl, rfl⟩) ?_
    refine Dp (fun _ => q_addn (y := 1) ⟨rfl, rfl⟩) ?_
    refine Dp (fun _ => q_ixp1 ⟨rfl, rfl⟩) ?_
    refine DLp ?_
    refine Dp (fun _ => q_rem64 (y := 2) ⟨rfl, rfl⟩ (hz := by decide)) ?_
    refine Dp (fun _ => q_mul64 (y := 32768) ⟨rfl, rfl⟩) ?_
    refine Dp (fun _ => q_add64 ⟨rfl, rfl⟩) ?_
    refine Dp (fun _ => q_ixp1 ⟨rfl, rfl⟩) ?_
    refine De20 (fun _ k_ => q_stm k_) ?_
    refine dend ?_
    refine rln ?_
    refine Mv ?_
    refine G (q_addn (y := 1) ?_)
    refine As ?_
    refine gend ?_
    exact ⟨⟨i.1 + 1, by omega⟩, by show 16 - (i.1 + 1) < 16 - i.1; omega, sle_sub ⟨rfl, rfl, rfl, rfl, rfl, trivial⟩ (congrArg (fun z => [some (u8s (List.replicate 32 0)), some (u64s z)]) (by rw [mri]; first | exact (if_pos (by assumption)).symm | exact (if_neg (by assumption)).symm))⟩   -- endloop 2
  refine awp_skip ?_
  refine rln ?_
  refine Mv ?_
  refine G (q_addn (y := 1) ?_)
  refine As ?_
  refine gend ?_
  exact ⟨⟨i.1 + 1, by omega⟩, by show 16 - (i.1 + 1) < 16 - i.1; omega, sle_sub ⟨rfl, rfl, rfl, rfl, rfl, trivial⟩ (congrArg (fun z => [some (u8s (List.replicate 32 0)), some (u64s z)]) (by rw [mri]; first | exact (if_pos (by assumption)).symm | exact (if_neg (by assumption)).symm))⟩   -- endloop 2
theorem minor_inv : Good Try.prog 52 [.c (c64 2), .c (cn 0)] [] (sa (u8s (by32 (P - 2)))) [] := by
  have := minor_l 2 0 (by decide)
  rwa [show byd (mrs (mr0 2) 0) 16 = by32 (P - 2) by decide +kernel] at this
theorem pow_inv (q : F) : Good Try.prog 26 [.a (u64s (de q)), .a (u8s (by32 (P - 2)))] [] (sa (u64s (de (pw q (P - 2))))) [] := by
  have := power_ q (by32 (P - 2)) (by32_len _)
  rwa [bv_by32 _ (by decide +kernel)] at this

theorem minor_half : Good Try.prog 52 [.c (c64 1), .c (cn 1)] [] (sa (u8s (by32 ((P - 1) / 2)))) [] := by
  have := minor_l 1 1 (by decide)
  rwa [show byd (mrs (mr0 1) 1) 16 = by32 ((P - 1) / 2) by decide +kernel] at this
theorem pow_half (q : F) : Good Try.prog 26 [.a (u64s (de q)), .a (u8s (by32 ((P - 1) / 2)))] [] (sa (u64s (de (pw q ((P - 1) / 2))))) [] := by
  have := power_ q (by32 ((P - 1) / 2)) (by32_len _)
  rwa [bv_by32 _ (by decide +kernel)] at this

theorem minor_quar : Good Try.prog 52 [.c (c64 1), .c (cn 2)] [] (sa (u8s (by32 ((P - 1) / 4)))) [] := by
  have := minor_l 1 2 (by decide)
  rwa [show byd (mrs (mr0 1) 2) 16 = by32 ((P - 1) / 4) by decide +kernel] at this
theorem pow_quar (q : F) : Good Try.prog 26 [.a (u64s (de q)), .a (u8s (by32 ((P - 1) / 4)))] [] (sa (u64s (de (pw q ((P - 1) / 4))))) [] := by
  have := power_ q (by32 ((P - 1) / 4)) (by32_len _)
  rwa [bv_by32 _ (by decide +kernel)] at this

theorem minor_eig : Good Try.prog 52 [.c (c64 5), .c (cn 3)] [] (sa (u8s (by32 ((P - 5) / 8)))) [] := by
  have := minor_l 5 3 (by decide)
  rwa [show byd (mrs (mr0 5) 3) 16 = by32 ((P - 5) / 8) by decide +kernel] at this
theorem pow_eig (q : F) : Good Try.prog 26 [.a (u64s (de q)), .a (u8s (by32 ((P - 5) / 8)))] [] (sa (u64s (de (pw q ((P - 5) / 8))))) [] := by
  have := power_ q (by32 ((P - 5) / 8)) (by32_len _)
  rwa [bv_by32 _ (by decide +kernel)] at this
/-- escutcheonref02.Inv -/
theorem inv_ (x : F) : Good Try.prog 24 [.a (u64s (de x))] [] (sa (u64s (de (inv x)))) [] := by
  have g1 := minor_inv
  have g2 := pow_inv x
  have hx := de_len x
  have hz := de_len (inv x)
  have hl := by32_len (P - 2)
  rw [show pw x (P - 2) = inv x from rfl] at g2
  generalize by32 (P - 2) = E at g1 g2 hl
  refine good_frm 6 Try.func24 rfl rfl rfl rfl rfl rfl ?_
  refine awp_seq ?_
  refine rln ?_
  refine G2 (fun _ k_ => q_boxa k_) ?_
  refine G2 (fun _ k_ => q_al k_) ?_
  refine gend ?_
  refine awp_seq ?_
  refine rdln [1, 2, 3] [0, 0, 1, 2] [1, 1, 2, 3] ?_
  refine DLw ?_
  refine De2 (fun _ k_ => q_callp (g1) k_ (ha := (cac rfl cm_int (cac rfl cm_int ca0)))) ?_
  refine De2 (fun _ k_ => q_callp (g2) k_) ?_
  refine De20 (fun _ k_ => q_stw k_) ?_
  refine dend ?_
  refine awp_ret ?_
  exact fpc (t := 30) (a := 2) (hn := by exact (mapc_length ..).trans hz)
end Go.Proofs.Ytjibmonfmhdbbaa.Rn

/- What functions of the program do, walked over the abstract machine. -/
namespace Go.Proofs.Ytjibmonfmhdbbaa.Fd
open Go Go.Abs Go.Proofs

open Go.Nt
/-- The even one of two opposite numbers. -/
def evn (x : F) : F := if decide (x.val % 2 = 1) then -x else x
theorem odd_neg {x : F} (h : x ≠ 0) : (-x).val % 2 = 1 ↔ ¬ x.val % 2 = 1 := by
  have hx := F_lt x
  have h0 : x.val ≠ 0 := fun e => h (Fin.ext e)
  have e : (-x).val = (P - x.val) % P := rfl
  have e2 : ∀ n : Nat, n ≠ 0 → n < 57896044618658097711785492504343953926634992332820282019728792003956564819949 → ((P - n) % P % 2 = 1 ↔ ¬ n % 2 = 1) := fun n h1 h2 => by
    rw [P_val, Nat.mod_eq_of_lt (a := 57896044618658097711785492504343953926634992332820282019728792003956564819949 - n) (b := 57896044618658097711785492504343953926634992332820282019728792003956564819949) (by omega)]; omega
  rw [e]
  exact e2 x.val h0 hx
theorem evn_even (x : F) : ¬ (evn x).val % 2 = 1 := by
  unfold evn
  by_cases h : x.val % 2 = 1
  · rw [decide_eq_true h, if_pos rfl]
    have h0 : x ≠ 0 := by rintro rfl; revert h; decide
    rw [odd_neg h0]; simpa using h
  · rw [decide_eq_false h]; exact h
theorem evn_sq (x : F) : evn x * evn x = x * x := by
  unfold evn; split
  · grind
  · rfl
theorem evn_zero : evn 0 = 0 := by decide
theorem exp_r : Good Try.prog 51 [.c (ci 3), .c (cn 3)] [] (sa (u8s (by32 ((P + 3) / 8)))) [] := by
  have := exponent_ 3 3 (by decide)
  rwa [show byl (xsh (xp 3) 3) 32 = by32 ((P + 3) / 8) by decide +kernel] at this
theorem exp_i : Good Try.prog 51 [.c (ci (-1)), .c (cn 2)] [] (sa (u8s (by32 ((P - 1) / 4)))) [] := by
  have := exponent_ (-1) 2 (by decide)
  rwa [show byl (xsh (xp (-1)) 2) 32 = by32 ((P - 1) / 4) by decide +kernel] at this
theorem pow_r (q : F) : Good Try.prog 25 [.a (u64s (el q)), .a (u8s (by32 ((P + 3) / 8)))] [] (sa (u64s (el (cand q)))) [] := by
  have := power_e q (by32 ((P + 3) / 8)) (by32_len _)
  rwa [bv_by32 _ (by decide +kernel)] at this
theorem pow_i : Good Try.prog 25 [.a (u64s (el 2)), .a (u8s (by32 ((P - 1) / 4)))] [] (sa (u64s (el im))) [] := by
  have := power_e 2 (by32 ((P - 1) / 4)) (by32_len _)
  rwa [bv_by32 _ (by decide +kernel)] at this
theorem eq_t (x y : F) (h : x = y) : Good Try.prog 28 [.a (u64s (el x)), .a (u64s (el y))] [] (sc (.bool true)) [] := by
  have := equal_e x y
  rwa [decide_eq_true h] at this
theorem eq_f (x y : F) (h : x ≠ y) : Good Try.prog 28 [.a (u64s (el x)), .a (u64s (el y))] [] (sc (.bool false)) [] := by
  have := equal_e x y
  rwa [decide_eq_false h] at this
set_option maxHeartbeats 1600000 in
/-- field.Root -/
theorem root_a (u v q x : F) (hq : u * inv v = q) (hx : cand q = x) (h : v * (x * x) = u) : Good Try.prog 38 [.a (u64s (el u)), .a (u64s (el v))] [] (.t [.a (u64s (el (evn x))), .c (.bool true)]) [] := by
  have gE := exp_r
  have gP := pow_r q
  rw [hx] at gP
  have hEl := by32_len ((P + 3) / 8)
  generalize by32 ((P + 3) / 8) = E at gE gP hEl
  have gI := exp_i
  have gQ := pow_i
  have hIl := by32_len ((P - 1) / 4)
  generalize by32 ((P - 1) / 4) = I at gI gQ hIl
  refine good_frm 41 Try.func38 rfl rfl rfl rfl rfl rfl ?_
  refine awp_seq ?_
  refine rln ?_
  refine G2 (fun _ k_ => q_boxa k_) ?_
  refine G2 (fun _ k_ => q_boxa k_) ?_
  refine G2 (fun _ k_ => q_al k_) ?_
  refine As ?_
  refine gend ?_
  refine awp_mid ⟨frm 41 [(2, sc (.ptr 0 0)), (3, sc (.ptr 1 0)), (4, sc (.ptr 2 0)), (6, sc (.ptr 3 0))], [some (u64s (el u)), some (u64s (el v)), some (u64s (List.replicate 4 0)), some (u64s (el q))]⟩ ?_ ?_
  · refine rdm [2, 3, 4, 5] [⟨[0, 1, 2, 3, 4, 5], [2, 3, 4, 5], [2, 3, 4, 5], [0, 0, 0, 1, 2, 3], [1, 0, 1, 2, 3, 4]⟩, ⟨[0, 1, 2, 4, 3, 5], [2, 4, 3, 5], [2, 3, 4, 5], [0, 0, 0, 1, 2, 3], [2, 0, 1, 2, 3, 4]⟩, ⟨[0, 1, 4, 2, 3, 5], [4, 2, 3, 5], [2, 3, 4, 5], [0, 0, 0, 1, 2, 3], [2, 1, 1, 2, 3, 4]⟩] ⟨?_, ?_, ?_, trivial⟩   -- region 1
    · refine DLw ?_
      refine DLw ?_
      refine De2 (fun _ k_ => q_callp (inv_e v) k_) ?_
      refine De2 (fun _ k_ => q_callp (hq ▸ mul_e u (inv v)) k_) ?_
      refine De2 (fun _ k_ => q_al k_) ?_
      refine De20 (fun _ k_ => q_stw k_) ?_
      refine dend ?_
      exact sle_sub ⟨rfl, rfl, rfl, rfl, trivial⟩ rfl
    · refine DLw ?_
      refine DLw ?_
      refine De2 (fun _ k_ => q_callp (inv_e v) k_) ?_
      refine De2 (fun _ k_ => q_al k_) ?_
      refine De2 (fun _ k_ => q_callp (hq ▸ mul_e u (inv v)) k_) ?_
      refine De20 (fun _ k_ => q_stw k_) ?_
      refine dend ?_
      exact sle_sub ⟨rfl, rfl, rfl, rfl, trivial⟩ rfl
    refine DLw ?_
    refine DLw ?_
    refine De2 (fun _ k_ => q_al k_) ?_
    refine De2 (fun _ k_ => q_callp (inv_e v) k_) ?_
    refine De2 (fun _ k_ => q_callp (hq ▸ mul_e u (inv v)) k_) ?_
    refine De20 (fun _ k_ => q_stw k_) ?_
    refine dend ?_
    exact sle_sub ⟨rfl, rfl, rfl, rfl, trivial⟩ rfl
  refine awp_mid ⟨frm 41 [(2, sc (.ptr 0 0)), (3, sc (.ptr 1 0)), (4, sc (.ptr 2 0)), (7, sc (.ptr 4 0))], [some (u64s (el u)), some (u64s (el v)), some (u64s (List.replicate 4 0)), some (u64s (el q)), some (u64s (el x))]⟩ ?_ ?_
  · refine rdm [1, 2, 3, 4] [⟨[0, 1, 2, 3, 4], [1, 2, 3, 4], [1, 2, 3, 4], [0, 0, 1, 2, 3], [1, 1, 2, 3, 4]⟩, ⟨[0, 1, 3, 2, 4], [1, 3, 2, 4], [1, 2, 3, 4], [0, 0, 1, 2, 3], [2, 1, 2, 3, 4]⟩, ⟨[0, 3, 1, 2, 4], [3, 1, 2, 4], [1, 2, 3, 4], [0, 0, 1, 2, 3], [2, 1, 2, 3, 4]⟩] ⟨?_, ?_, ?_, trivial⟩   -- region 2
    · refine DLw ?_
      refine De2 (fun _ k_ => q_callp (gE) k_ (ha := (cac rfl cm_int (cac rfl cm_int ca0)))) ?_
      refine De2 (fun _ k_ => q_callp (gP) k_) ?_
      refine De2 (fun _ k_ => q_al k_) ?_
      refine De20 (fun _ k_ => q_stw k_) ?_
      refine dend ?_
      exact sle_sub ⟨rfl, rfl, rfl, rfl, trivial⟩ rfl
    · refine DLw ?_
      refine De2 (fun _ k_ => q_callp (gE) k_ (ha := (cac rfl cm_int (cac rfl cm_int ca0)))) ?_
      refine De2 (fun _ k_ => q_al k_) ?_
      refine De2 (fun _ k_ => q_callp (gP) k_) ?_
      refine De20 (fun _ k_ => q_stw k_) ?_
      refine dend ?_
      exact sle_sub ⟨rfl, rfl, rfl, rfl, trivial⟩ rfl
    refine DLw ?_
    refine De2 (fun _ k_ => q_al k_) ?_
    refine De2 (fun _ k_ => q_callp (gE) k_ (ha := (cac rfl cm_int (cac rfl cm_int ca0)))) ?_
    refine De2 (fun _ k_ => q_callp (gP) k_) ?_
    refine De20 (fun _ k_ => q_stw k_) ?_
    refine dend ?_
    exact sle_sub ⟨rfl, rfl, rfl, rfl, trivial⟩ rfl
  refine awp_seq ?_
  refine awp_seq ?_
  refine rdln [2, 3, 5] [0, 0, 0, 1, 0, 2, 3] [1, 0, 1, 2, 2, 3, 3] ?_
  refine DLw ?_
  refine DLw ?_
  refine De2 (fun _ k_ => q_callp (square_e x) k_) ?_
  refine De2 (fun _ k_ => q_callp (mul_e v (x * x)) k_) ?_
  refine DLw ?_
  refine De2 (fun _ k_ => q_callp (eq_t _ _ h) k_) ?_
  refine Dp (fun _ => q_notb ⟨rfl, rfl⟩) ?_
  refine dend ?_
  refine cndbnN (fun hc1 => ?_) ?_; rotate_left
  · rfl
  refine awp_skip ?_
  refine awp_seq ?_
  refine awp_seq ?_
  refine rdln [2, 3, 5] [0, 0, 0, 1, 0, 2, 3] [1, 0, 1, 2, 2, 3, 3] ?_
  refine DLw ?_
  refine DLw ?_
  refine De2 (fun _ k_ => q_callp (square_e x) k_) ?_
  refine De2 (fun _ k_ => q_callp (mul_e v (x * x)) k_) ?_
  refine DLw ?_
  refine De2 (fun _ k_ => q_callp (eq_t _ _ h) k_) ?_
  refine Dp (fun _ => q_notb ⟨rfl, rfl⟩) ?_
  refine dend ?_
  refine cndbnN (fun hc2 => ?_) ?_; rotate_left
  · rfl
  refine awp_skip ?_
  refine awp_seq ?_
  refine rdln [2, 4, 5, 6] [0, 0, 0, 0, 1, 2, 3, 4] [2, 0, 1, 1, 2, 3, 4, 4] ?_
  refine DLw ?_
  refine DLw ?_
  refine De2 (fun _ k_ => q_callp (neg_e x) k_) ?_
  refine DLw ?_
  refine De2 (fun _ k_ => q_callp (odd_e x) k_) ?_
  refine De2 (fun _ k_ => q_callp (select_e x (-x) (decide (x.val % 2 = 1))) k_) ?_
  refine De20 (fun _ k_ => q_stw k_) ?_
  refine Dp (fun _ => q_as (s := .v (.c _)) ⟨rfl, rfl⟩) ?_
  refine dend ?_
  refine awp_ret ?_
  exact fpct (t := 27) (a := 4)
set_option maxHeartbeats 1600000 in
/-- field.Root -/
theorem root_b (u v q x : F) (hq : u * inv v = q) (hx : cand q = x) (h : v * (x * x) ≠ u) (h2 : v * (x * im * (x * im)) = u) : Good Try.prog 38 [.a (u64s (el u)), .a (u64s (el v))] [] (.t [.a (u64s (el (evn (x * im)))), .c (.bool true)]) [] := by
  have gE := exp_r
  have gP := pow_r q
  rw [hx] at gP
  have hEl := by32_len ((P + 3) / 8)
  generalize by32 ((P + 3) / 8) = E at gE gP hEl
  have gI := exp_i
  have gQ := pow_i
  have hIl := by32_len ((P - 1) / 4)
  generalize by32 ((P - 1) / 4) = I at gI gQ hIl
  refine good_frm 41 Try.func38 rfl rfl rfl rfl rfl rfl ?_
  refine awp_seq ?_
  refine rln ?_
  refine G2 (fun _ k_ => q_boxa k_) ?_
  refine G2 (fun _ k_ => q_boxa k_) ?_
  refine G2 (fun _ k_ => q_al k_) ?_
  refine As ?_
  refine gend ?_
  refine awp_mid ⟨frm 41 [(2, sc (.ptr 0 0)), (3, sc (.ptr 1 0)), (4, sc (.ptr 2 0)), (6, sc (.ptr 3 0))], [some (u64s (el u)), some (u64s (el v)), some (u64s (List.replicate 4 0)), some (u64s (el q))]⟩ ?_ ?_
  · refine rdm [2, 3, 4, 5] [⟨[0, 1, 2, 3, 4, 5], [2, 3, 4, 5], [2, 3, 4, 5], [0, 0, 0, 1, 2, 3], [1, 0, 1, 2, 3, 4]⟩, ⟨[0, 1, 2, 4, 3, 5], [2, 4, 3, 5], [2, 3, 4, 5], [0, 0, 0, 1, 2, 3], [2, 0, 1, 2, 3, 4]⟩, ⟨[0, 1, 4, 2, 3, 5], [4, 2, 3, 5], [2, 3, 4, 5], [0, 0, 0, 1, 2, 3], [2, 1, 1, 2, 3, 4]⟩] ⟨?_, ?_, ?_, trivial⟩   -- region 1
    · refine DLw ?_
      refine DLw ?_
      refine De2 (fun _ k_ => q_callp (inv_e v) k_) ?_
      refine De2 (fun _ k_ => q_callp (hq ▸ mul_e u (inv v)) k_) ?_
      refine De2 (fun _ k_ => q_al k_) ?_
      refine De20 (fun _ k_ => q_stw k_) ?_
      refine dend ?_
      exact sle_sub ⟨rfl, rfl, rfl, rfl, trivial⟩ rfl
    · refine DLw ?_
      refine DLw ?_
      refine De2 (fun _ k_ => q_callp (inv_e v) k_) ?_
      refine De2 (fun _ k_ => q_al k_) ?_
      refine De2 (fun _ k_ => q_callp (hq ▸ mul_e u (inv v)) k_) ?_
      refine De20 (fun _ k_ => q_stw k_) ?_
      refine dend ?_
      exact sle_sub ⟨rfl, rfl, rfl, rfl, trivial⟩ rfl
    refine DLw ?_
    refine DLw ?_
    refine De2 (fun _ k_ => q_al k_) ?_
    refine De2 (fun _ k_ => q_callp (inv_e v) k_) ?_
    refine De2 (fun _ k_ => q_callp (hq ▸ mul_e u (inv v)) k_) ?_
    refine De20 (fun _ k_ => q_stw k_) ?_
    refine dend ?_
    exact sle_sub ⟨rfl, rfl, rfl, rfl, trivial⟩ rfl
  refine awp_mid ⟨frm 41 [(2, sc (.ptr 0 0)), (3, sc (.ptr 1 0)), (4, sc (.ptr 2 0)), (7, sc (.ptr 4 0))], [some (u64s (el u)), some (u64s (el v)), some (u64s (List.replicate 4 0)), some (u64s (el q)), some (u64s (el x))]⟩ ?_ ?_
  · refine rdm [1, 2, 3, 4] [⟨[0, 1, 2, 3, 4], [1, 2, 3, 4], [1, 2, 3, 4], [0, 0, 1, 2, 3], [1, 1, 2, 3, 4]⟩, ⟨[0, 1, 3, 2, 4], [1, 3, 2, 4], [1, 2, 3, 4], [0, 0, 1, 2, 3], [2, 1, 2, 3, 4]⟩, ⟨[0, 3, 1, 2, 4], [3, 1, 2, 4], [1, 2, 3, 4], [0, 0, 1, 2, 3], [2, 1, 2, 3, 4]⟩] ⟨?_, ?_, ?_, trivial⟩   -- region 2
    · refine DLw ?_
      refine De2 (fun _ k_ => q_callp (gE) k_ (ha := (cac rfl cm_int (cac rfl cm_int ca0)))) ?_
      refine De2 (fun _ k_ => q_callp (gP) k_) ?_
      refine De2 (fun _ k_ => q_al k_) ?_
      refine De20 (fun _ k_ => q_stw k_) ?_
      refine dend ?_
      exact sle_sub ⟨rfl, rfl, rfl, rfl, trivial⟩ rfl
    · refine DLw ?_
      refine De2 (fun _ k_ => q_callp (gE) k_ (ha := (cac rfl cm_int (cac rfl cm_int ca0)))) ?_
      refine De2 (fun _ k_ => q_al k_) ?_
      refine De2 (fun _ k_ => q_callp (gP) k_) ?_
      refine De20 (fun _ k_ => q_stw k_) ?_
      refine dend ?_
      exact sle_sub ⟨rfl, rfl, rfl, rfl, trivial⟩ rfl
    refine DLw ?_
    refine De2 (fun _ k_ => q_al k_) ?_
    refine De2 (fun _ k_ => q_callp (gE) k_ (ha := (cac rfl cm_int (cac rfl cm_int ca0)))) ?_
    refine De2 (fun _ k_ => q_callp (gP) k_) ?_
    refine De20 (fun _ k_ => q_stw k_) ?_
    refine dend ?_
    exact sle_sub ⟨rfl, rfl, rfl, rfl, trivial⟩ rfl
  refine awp_seq ?_
  refine awp_seq ?_
  refine rdln [2, 3, 5] [0, 0, 0, 1, 0, 2, 3] [1, 0, 1, 2, 2, 3, 3] ?_
  refine DLw ?_
  refine DLw ?_
  refine De2 (fun _ k_ => q_callp (square_e x) k_) ?_
  refine De2 (fun _ k_ => q_callp (mul_e v (x * x)) k_) ?_
  refine DLw ?_
  refine De2 (fun _ k_ => q_callp (eq_f _ _ h) k_) ?_
  refine Dp (fun _ => q_notb ⟨rfl, rfl⟩) ?_
  refine dend ?_
  refine cndbnY (fun hc1 => ?_) ?_; rotate_left
  · rfl
  refine rdln [1, 2, 3, 4, 5] [0, 0, 1, 2, 3, 4] [3, 1, 2, 3, 4, 5] ?_
  refine DLw ?_
  refine De2 (fun _ k_ => q_callp (small_2) k_ (ha := (cac rfl cm_int ca0))) ?_
  refine De2 (fun _ k_ => q_callp (gI) k_ (ha := (cac rfl cm_int (cac rfl cm_int ca0)))) ?_
  refine De2 (fun _ k_ => q_callp (gQ) k_) ?_
  refine De2 (fun _ k_ => q_callp (mul_e x im) k_) ?_
  refine De20 (fun _ k_ => q_stw k_) ?_
  refine dend ?_
  refine awp_seq ?_
  refine awp_seq ?_
  refine rdln [2, 3, 5] [0, 0, 0, 1, 0, 2, 3] [1, 0, 1, 2, 2, 3, 3] ?_
  refine DLw ?_
  refine DLw ?_
  refine De2 (fun _ k_ => q_callp (square_e (x * im)) k_) ?_
  refine De2 (fun _ k_ => q_callp (mul_e v ((x * im) * (x * im))) k_) ?_
  refine DLw ?_
  refine De2 (fun _ k_ => q_callp (eq_t _ _ h2) k_) ?_
  refine Dp (fun _ => q_notb ⟨rfl, rfl⟩) ?_
  refine dend ?_
  refine cndbnN (fun hc2 => ?_) ?_; rotate_left
  · rfl
  refine awp_skip ?_
  refine awp_seq ?_
  refine rdln [2, 4, 5, 6] [0, 0, 0, 0, 1, 2, 3, 4] [2, 0, 1, 1, 2, 3, 4, 4] ?_
  refine DLw ?_
  refine DLw ?_
  refine De2 (fun _ k_ => q_callp (neg_e (x * im)) k_) ?_
  refine DLw ?_
  refine De2 (fun _ k_ => q_callp (odd_e (x * im)) k_) ?_
  refine De2 (fun _ k_ => q_callp (select_e (x * im) (-(x * im)) (decide ((x * im).val % 2 = 1))) k_) ?_
  refine De20 (fun _ k_ => q_stw k_) ?_
  refine Dp (fun _ => q_as (s := .v (.c _)) ⟨rfl, rfl⟩) ?_
  refine dend ?_
  refine awp_ret ?_
  exact fpct (t := 27) (a := 4)
set_option maxHeartbeats 1600000 in
/-- field.Root -/
theorem root_c (u v q x : F) (hq : u * inv v = q) (hx : cand q = x) (h : v * (x * x) ≠ u) (h2 : v * (x * im * (x * im)) ≠ u) : Good Try.prog 38 [.a (u64s (el u)), .a (u64s (el v))] [] (.t [.a (u64s (el 0)), .c (.bool false)]) [] := by
  have gE := exp_r
  have gP := pow_r q
  rw [hx] at gP
  have hEl := by32_len ((P + 3) / 8)
  generalize by32 ((P + 3) / 8) = E at gE gP hEl
  have gI := exp_i
  have gQ := pow_i
  have hIl := by32_len ((P - 1) / 4)
  generalize by32 ((P - 1) / 4) = I at gI gQ hIl
  refine good_frm 41 Try.func38 rfl rfl rfl rfl rfl rfl ?_
  refine awp_seq ?_
  refine rln ?_
  refine G2 (fun _ k_ => q_boxa k_) ?_
  refine G2 (fun _ k_ => q_boxa k_) ?_
  refine G2 (fun _ k_ => q_al k_) ?_
  refine As ?_
  refine gend ?_
  refine awp_mid ⟨frm 41 [(2, sc (.ptr 0 0)), (3, sc (.ptr 1 0)), (4, sc (.ptr 2 0)), (6, sc (.ptr 3 0))], [some (u64s (el u)), some (u64s (el v)), some (u64s (List.replicate 4 0)), some (u64s (el q))]⟩ ?_ ?_
  · refine rdm [2, 3, 4, 5] [⟨[0, 1, 2, 3, 4, 5], [2, 3, 4, 5], [2, 3, 4, 5], [0, 0, 0, 1, 2, 3], [1, 0, 1, 2, 3, 4]⟩, ⟨[0, 1, 2, 4, 3, 5], [2, 4, 3, 5], [2, 3, 4, 5], [0, 0, 0, 1, 2, 3], [2, 0, 1, 2, 3, 4]⟩, ⟨[0, 1, 4, 2, 3, 5], [4, 2, 3, 5], [2, 3, 4, 5], [0, 0, 0, 1, 2, 3], [2, 1, 1, 2, 3, 4]⟩] ⟨?_, ?_, ?_, trivial⟩   -- region 1
    · refine DLw ?_
      refine DLw ?_
      refine De2 (fun _ k_ => q_callp (inv_e v) k_) ?_
      refine De2 (fun _ k_ => q_callp (hq ▸ mul_e u (inv v)) k_) ?_
      refine De2 (fun _ k_ => q_al k_) ?_
      refine De20 (fun _ k_ => q_stw k_) ?_
      refine dend ?_
      exact sle_sub ⟨rfl, rfl, rfl, rfl, trivial⟩ rfl
    · refine DLw ?_
      refine DLw ?_
      refine De2 (fun _ k_ => q_callp (inv_e v) k_) ?_
      refine De2 (fun _ k_ => q_al k_) ?_
      refine De2 (fun _ k_ => q_callp (hq ▸ mul_e u (inv v)) k_) ?_
      refine De20 (fun _ k_ => q_stw k_) ?_
      refine dend ?_
      exact sle_sub ⟨rfl, rfl, rfl, rfl, trivial⟩ rfl
    refine DLw ?_
    refine DLw ?_
    refine De2 (fun _ k_ => q_al k_) ?_
    refine De2 (fun _ k_ => q_callp (inv_e v) k_) ?_
    refine De2 (fun _ k_ => q_callp (hq ▸ mul_e u (inv v)) k_) ?_
    refine De20 (fun _ k_ => q_stw k_) ?_
    refine dend ?_
    exact sle_sub ⟨rfl, rfl, rfl, rfl, trivial⟩ rfl
  refine awp_mid ⟨frm 41 [(2, sc (.ptr 0 0)), (3, sc (.ptr 1 0)), (4, sc (.ptr 2 0)), (7, sc (.ptr 4 0))], [some (u64s (el u)), some (u64s (el v)), some (u64s (List.replicate 4 0)), some (u64s (el q)), some (u64s (el x))]⟩ ?_ ?_
  · refine rdm [1, 2, 3, 4] [⟨[0, 1, 2, 3, 4], [1, 2, 3, 4], [1, 2, 3, 4], [0, 0, 1, 2, 3], [1, 1, 2, 3, 4]⟩, ⟨[0, 1, 3, 2, 4], [1, 3, 2, 4], [1, 2, 3, 4], [0, 0, 1, 2, 3], [2, 1, 2, 3, 4]⟩, ⟨[0, 3, 1, 2, 4], [3, 1, 2, 4], [1, 2, 3, 4], [0, 0, 1, 2, 3], [2, 1, 2, 3, 4]⟩] ⟨?_, ?_, ?_, trivial⟩   -- region 2
    · refine DLw ?_
      refine De2 (fun _ k_ => q_callp (gE) k_ (ha := (cac rfl cm_int (cac rfl cm_int ca0)))) ?_
      refine De2 (fun _ k_ => q_callp (gP) k_) ?_
      refine De2 (fun _ k_ => q_al k_) ?_
      refine De20 (fun _ k_ => q_stw k_) ?_
      refine dend ?_
      exact sle_sub ⟨rfl, rfl, rfl, rfl, trivial⟩ rfl
    · refine DLw ?_
      refine De2 (fun _ k_ => q_callp (gE) k_ (ha := (cac rfl cm_int (cac rfl cm_int ca0)))) ?_
      refine De2 (fun _ k_ => q_al k_) ?_
      refine De2 (fun _ k_ => q_callp (gP) k_) ?_
      refine De20 (fun _ k_ => q_stw k_) ?_
      refine dend ?_
      exact sle_sub ⟨rfl, rfl, rfl, rfl, trivial⟩ rfl
    refine DLw ?_
    refine De2 (fun _ k_ => q_al k_) ?_
    refine De2 (fun _ k_ => q_callp (gE) k_ (ha := (cac rfl cm_int (cac rfl cm_int ca0)))) ?_
    refine De2 (fun _ k_ => q_callp (gP) k_) ?_
    refine De20 (fun _ k_ => q_stw k_) ?_
    refine dend ?_
    exact sle_sub ⟨rfl, rfl, rfl, rfl, trivial⟩ rfl
  refine awp_seq ?_
  refine awp_seq ?_
  refine rdln [2, 3, 5] [0, 0, 0, 1, 0, 2, 3] [1, 0, 1, 2, 2, 3, 3] ?_
  refine DLw ?_
  refine DLw ?_
  refine De2 (fun _ k_ => q_callp (square_e x) k_) ?_
  refine De2 (fun _ k_ => q_callp (mul_e v (x * x)) k_) ?_
  refine DLw ?_
  refine De2 (fun _ k_ => q_callp (eq_f _ _ h) k_) ?_
  refine Dp (fun _ => q_notb ⟨rfl, rfl⟩) ?_
  refine dend ?_
  refine cndbnY (fun hc1 => ?_) ?_; rotate_left
  · rfl
  refine rdln [1, 2, 3, 4, 5] [0, 0, 1, 2, 3, 4] [3, 1, 2, 3, 4, 5] ?_
  refine DLw ?_
  refine De2 (fun _ k_ => q_callp (small_2) k_ (ha := (cac rfl cm_int ca0))) ?_
  refine De2 (fun _ k_ => q_callp (gI) k_ (ha := (cac rfl cm_int (cac rfl cm_int ca0)))) ?_
  refine De2 (fun _ k_ => q_callp (gQ) k_) ?_
  refine De2 (fun _ k_ => q_callp (mul_e x im) k_) ?_
  refine De20 (fun _ k_ => q_stw k_) ?_
  refine dend ?_
  refine awp_seq ?_
  refine awp_seq ?_
  refine rdln [2, 3, 5] [0, 0, 0, 1, 0, 2, 3] [1, 0, 1, 2, 2, 3, 3] ?_
  refine DLw ?_
  refine DLw ?_
  refine De2 (fun _ k_ => q_callp (square_e (x * im)) k_) ?_
  refine De2 (fun _ k_ => q_callp (mul_e v ((x * im) * (x * im))) k_) ?_
  refine DLw ?_
  refine De2 (fun _ k_ => q_callp (eq_f _ _ h2) k_) ?_
  refine Dp (fun _ => q_notb ⟨rfl, rfl⟩) ?_
  refine dend ?_
  refine cndbnY (fun hc2 => ?_) ?_; rotate_left
  · rfl
  refine awp_seq ?_
  refine rln ?_
  refine G (q_bls (fk0 ?_))
  refine G20 (fun _ k_ => q_stw k_) ?_
  refine As ?_
  refine gend ?_
  refine awp_ret ?_
  exact fpct (t := 27) (a := 4)
end Go.Proofs.Ytjibmonfmhdbbaa.Fd

/- What functions of the program do, walked over the abstract machine. -/
namespace Go.Proofs.Ytjibmonfmhdbbaa.Fl
open Go Go.Abs Go.Proofs Go.Proofs.Ytjibmonfmhdbbaa.Fd Go.Proofs.Ytjibmonfmhdbbaa.Rn

open Go.Nt Fd Rn
/-- Whether a fraction has a root, and the even one. -/
def rtq (q : F) : F := if cand q * cand q = q then evn (cand q) else evn (cand q * im)
def rOk (u v : F) : Bool := if v = 0 then decide (u = 0) else decide (u * inv v = 0) || decide (eul (u * inv v) = 1)
def rRt (u v : F) : F := if rOk u v then (if v = 0 then 0 else rtq (u * inv v)) else 0
theorem cand_zero : cand 0 = 0 := zero_pw _ (by decide +kernel)
theorem rtq_zero : rtq 0 = 0 := by unfold rtq; rw [cand_zero, if_pos (by grind)]; exact evn_zero
theorem div_eq {u v y : F} (hv : v ≠ 0) : v * y = u ↔ y = u * inv v := by
  have h := mul_inv hv
  constructor
  · intro e; rw [← e]; grind
  · intro e; rw [e]; grind
theorem eul_iff {q : F} (hq : q ≠ 0) : eul q = 1 ↔ (cand q * cand q = q ∨ cand q * im * (cand q * im) = q) :=
  ⟨root_of, fun h => h.elim (fun e => no_root hq e) (fun e => no_root hq e)⟩
theorem rtq_sq {q : F} (h : eul q = 1) : rtq q * rtq q = q := by
  unfold rtq
  split
  · rename_i e; rw [evn_sq, e]
  · rename_i e; rw [evn_sq]; exact (root_of h).resolve_left e
theorem rRt_sq {u v : F} (h : rOk u v = true) : v * (rRt u v * rRt u v) = u := by
  unfold rRt; rw [h, if_pos rfl]
  unfold rOk at h
  by_cases hv : v = 0
  · rw [if_pos hv] at h ⊢; have := of_decide_eq_true h; subst this hv; grind
  · rw [if_neg hv] at h ⊢
    rw [div_eq hv]
    rcases Bool.or_eq_true_iff.1 h with h | h
    · rw [of_decide_eq_true h, rtq_zero]; grind
    · exact rtq_sq (of_decide_eq_true h)
theorem rRt_even (u v : F) : ¬ (rRt u v).val % 2 = 1 := by
  unfold rRt
  split
  · split
    · decide
    · unfold rtq; split <;> exact evn_even _
  · decide
theorem root_e (u v : F) : Good Try.prog 38 [.a (u64s (el u)), .a (u64s (el v))] [] (.t [.a (u64s (el (rRt u v))), .c (.bool (rOk u v))]) [] := by
  by_cases hv : v = 0
  · subst hv
    have hq : u * inv 0 = 0 := by rw [inv_zero]; grind
    by_cases hu : u = 0
    · subst hu
      have := root_a 0 0 0 0 hq cand_zero (by grind)
      rw [evn_zero] at this
      rwa [show rRt 0 0 = 0 by unfold rRt; simp, show rOk 0 0 = true by unfold rOk; simp]
    · have e : ∀ y : F, (0 : F) * y ≠ u := fun y h => hu (by rw [← h]; grind)
      have := root_c u 0 0 0 hq cand_zero (e _) (e _)
      have ho : rOk u 0 = false := by unfold rOk; simp [hu]
      rwa [show rRt u 0 = 0 by unfold rRt; simp [ho], ho]
  · obtain ⟨q, hq⟩ : ∃ q, u * inv v = q := ⟨_, rfl⟩
    by_cases h1 : cand q * cand q = q
    · have := root_a u v q _ hq rfl ((div_eq hv).2 (h1.trans hq.symm))
      have ho : rOk u v = true := by
        unfold rOk; rw [if_neg hv, hq]
        by_cases h0 : q = 0
        · simp [h0]
        · rw [decide_eq_true ((eul_iff h0).2 (.inl h1))]; simp
      rwa [show rRt u v = evn (cand q) by unfold rRt; rw [ho, if_pos rfl, if_neg hv, hq]; exact if_pos h1, ho]
    · have h0 : q ≠ 0 := by rintro rfl; apply h1; rw [cand_zero]; grind
      have n1 : v * (cand q * cand q) ≠ u := fun e => h1 (((div_eq hv).1 e).trans hq)
      by_cases h2 : cand q * im * (cand q * im) = q
      · have := root_b u v q _ hq rfl n1 ((div_eq hv).2 (h2.trans hq.symm))
        have ho : rOk u v = true := by unfold rOk; rw [if_neg hv, hq, decide_eq_true ((eul_iff h0).2 (.inr h2))]; simp
        rwa [show rRt u v = evn (cand q * im) by unfold rRt; rw [ho, if_pos rfl, if_neg hv, hq]; exact if_neg h1, ho]
      · have := root_c u v q _ hq rfl n1 (fun e => h2 (((div_eq hv).1 e).trans hq))
        have ho : rOk u v = false := by
          unfold rOk; rw [if_neg hv, hq, decide_eq_false h0, decide_eq_false fun e => ((eul_iff h0).1 e).elim h1 h2]; rfl
        rwa [show rRt u v = 0 by unfold rRt; rw [ho]; rfl, ho]
end Go.Proofs.Ytjibmonfmhdbbaa.Fl

/- What functions of the program do, walked over the abstract machine. -/
namespace Go.Proofs.Ytjibmonfmhdbbaa.Fl
open Go Go.Abs Go.Proofs Go.Proofs.Ytjibmonfmhdbbaa.Fd Go.Proofs.Ytjibmonfmhdbbaa.Rn

open Go.Nt Fd Rn
theorem dz (x : F) : de x = List.replicate 16 0 ↔ x = 0 := by rw [rep_de]; exact ⟨fun h => de_inj h, fun h => h ▸ rfl⟩
theorem de_odd (x : F) : ((de x).getD 0 0 % 2 = 1) = (x.val % 2 = 1) := by
  have e : ((de x).getD 0 0 % 2).toNat = x.val % 2 := by
    rw [dgk_get 16 _ 0 (by decide), UInt64.toNat_mod, UInt64.toNat_ofNat', Nat.pow_zero, Nat.div_one, show UInt64.toNat 2 = 2 from rfl]; omega
  rw [eq_iff_iff]
  constructor
  · intro h; rw [← e, h]; rfl
  · intro h; exact UInt64.toNat_inj.1 (by rw [e, h]; rfl)
theorem cand_eig (q : F) : q * pw q ((P - 5) / 8) = cand q := by
  unfold cand
  rw [show (P + 3) / 8 = (P - 5) / 8 + 1 from by decide +kernel, show Go.Nt.pw q ((P - 5) / 8 + 1) = Go.Nt.pw q ((P - 5) / 8) * q from rfl]; grind
set_option maxHeartbeats 1600000 in
/-- escutcheonref02.Root -/
theorem rroot_a (u : F) : Good Try.prog 39 [.a (u64s (de u)), .a (u64s (de 0))] [] (.t [.a (u64s (de 0)), .c (.bool (decide (u = 0)))]) [] := by
  have hul := de_len u
  have hvl := de_len 0
  refine good_frm 53 Try.func39 rfl rfl rfl rfl rfl rfl ?_
  refine awp_seq ?_
  refine rln ?_
  refine G2 (fun _ k_ => q_boxa k_) ?_
  refine G2 (fun _ k_ => q_boxa k_) ?_
  refine G2 (fun _ k_ => q_al k_) ?_
  refine As ?_
  refine gend ?_
  refine awp_seq ?_
  refine awp_seq ?_
  refine rln ?_
  refine G (q_ldw ?_)
  refine G (q_bla (fk0 ?_))
  refine G (q_eqa64 ?_)
  refine gend ?_
  refine cndY (fun hc1 => ?_) ?_; rotate_left
  · exact (dz _).2 rfl
  refine awp_seq ?_
  refine rdln [4] [0, 0, 0, 0, 0, 1] [0, 1, 1, 1, 1, 1] ?_
  refine Dp (fun _ => q_bla (fk0 ⟨rfl, rfl⟩)) ?_
  refine DLw ?_
  refine Dp (fun _ => q_bla (fk0 ⟨rfl, rfl⟩)) ?_
  refine Dp (fun _ => q_eqa64 ⟨rfl, rfl⟩) ?_
  refine De20 (fun _ k_ => q_stw k_) ?_
  refine Dp (fun _ => q_as (s := .v (.c _)) ⟨rfl, rfl⟩) ?_
  refine dend ?_
  refine awp_ret ?_
  exact fpct (t := 30) (a := 4) (hd := by exact (mapc_length ..).trans (List.length_replicate ..)) (hv := by rw [show decide (de u = List.replicate 16 0) = decide (u = 0) from decide_eq_decide.2 (dz u), rep_de])
set_option maxHeartbeats 1600000 in
/-- escutcheonref02.Root -/
theorem rroot_b (u v q : F) (hq : u * inv v = q) (hv : v ≠ 0) (h0 : q = 0) : Good Try.prog 39 [.a (u64s (de u)), .a (u64s (de v))] [] (.t [.a (u64s (de q)), .c (.bool true)]) [] := by
  have hul := de_len u
  have hvl := de_len v
  have hql := de_len q
  refine good_frm 53 Try.func39 rfl rfl rfl rfl rfl rfl ?_
  refine awp_seq ?_
  refine rln ?_
  refine G2 (fun _ k_ => q_boxa k_) ?_
  refine G2 (fun _ k_ => q_boxa k_) ?_
  refine G2 (fun _ k_ => q_al k_) ?_
  refine As ?_
  refine gend ?_
  refine awp_seq ?_
  refine awp_seq ?_
  refine rln ?_
  refine G (q_ldw ?_)
  refine G (q_bla (fk0 ?_))
  refine G (q_eqa64 ?_)
  refine gend ?_
  refine cndN (fun hc1 => ?_) ?_; rotate_left
  · exact fun e => hv ((dz _).1 e)
  refine awp_skip ?_
  refine awp_mid ⟨frm 53 [(2, sc (.ptr 0 0)), (3, sc (.ptr 1 0)), (4, sc (.ptr 2 0)), (6, sc (.ptr 3 0))], [some (u64s (de u)), some (u64s (de v)), some (u64s (List.replicate 16 0)), some (u64s (de q))]⟩ ?_ ?_
  · refine rdm [2, 3, 4, 5] [⟨[0, 1, 2, 3, 4, 5], [2, 3, 4, 5], [2, 3, 4, 5], [0, 0, 0, 1, 2, 3], [1, 0, 1, 2, 3, 4]⟩, ⟨[0, 1, 2, 4, 3, 5], [2, 4, 3, 5], [2, 3, 4, 5], [0, 0, 0, 1, 2, 3], [2, 0, 1, 2, 3, 4]⟩, ⟨[0, 1, 4, 2, 3, 5], [4, 2, 3, 5], [2, 3, 4, 5], [0, 0, 0, 1, 2, 3], [2, 1, 1, 2, 3, 4]⟩] ⟨?_, ?_, ?_, trivial⟩   -- region 3
    · refine DLw ?_
      refine DLw ?_
      refine De2 (fun _ k_ => q_callp (Rn.inv_ v) k_) ?_
      refine De2 (fun _ k_ => q_callp (hq ▸ Rn.mul_e u (inv v)) k_) ?_
      refine De2 (fun _ k_ => q_al k_) ?_
      refine De20 (fun _ k_ => q_stw k_) ?_
      refine dend ?_
      exact sle_sub ⟨rfl, rfl, rfl, rfl, trivial⟩ rfl
    · refine DLw ?_
      refine DLw ?_
      refine De2 (fun _ k_ => q_callp (Rn.inv_ v) k_) ?_
      refine De2 (fun _ k_ => q_al k_) ?_
      refine De2 (fun _ k_ => q_callp (hq ▸ Rn.mul_e u (inv v)) k_) ?_
      refine De20 (fun _ k_ => q_stw k_) ?_
      refine dend ?_
      exact sle_sub ⟨rfl, rfl, rfl, rfl, trivial⟩ rfl
    refine DLw ?_
    refine DLw ?_
    refine De2 (fun _ k_ => q_al k_) ?_
    refine De2 (fun _ k_ => q_callp (Rn.inv_ v) k_) ?_
    refine De2 (fun _ k_ => q_callp (hq ▸ Rn.mul_e u (inv v)) k_) ?_
    refine De20 (fun _ k_ => q_stw k_) ?_
    refine dend ?_
    exact sle_sub ⟨rfl, rfl, rfl, rfl, trivial⟩ rfl
  refine awp_seq ?_
  refine awp_seq ?_
  refine rln ?_
  refine G (q_ldw ?_)
  refine G (q_bla (fk0 ?_))
  refine G (q_eqa64 ?_)
  refine gend ?_
  refine cndY (fun hc2 => ?_) ?_; rotate_left
  · exact (dz _).2 h0
  refine awp_seq ?_
  refine rln ?_
  refine G (q_ldw ?_)
  refine G20 (fun _ k_ => q_stw k_) ?_
  refine As ?_
  refine gend ?_
  refine awp_ret ?_
  exact fpct (t := 30) (a := 4) (hd := by exact (mapc_length ..).trans hql)
set_option maxHeartbeats 1600000 in
/-- escutcheonref02.Root -/
theorem rroot_c (u v q : F) (hq : u * inv v = q) (hv : v ≠ 0) (h0 : q ≠ 0) (he : eul q ≠ 1) : Good Try.prog 39 [.a (u64s (de u)), .a (u64s (de v))] [] (.t [.a (u64s (de 0)), .c (.bool false)]) [] := by
  have hul := de_len u
  have hvl := de_len v
  have hql := de_len q
  have gmh := minor_half
  have gph := pow_half q
  have hlh := by32_len ((P - 1) / 2)
  generalize by32 ((P - 1) / 2) = EH at gmh gph hlh
  have gme := minor_eig
  have gpe := pow_eig q
  have hle := by32_len ((P - 5) / 8)
  generalize by32 ((P - 5) / 8) = EG at gme gpe hle
  have gmq := minor_quar
  have gpq := pow_quar 2
  have hlq := by32_len ((P - 1) / 4)
  generalize by32 ((P - 1) / 4) = EK at gmq gpq hlq
  have hel := de_len (pw q ((P - 1) / 2))
  have h1l := de_len 1
  refine good_frm 53 Try.func39 rfl rfl rfl rfl rfl rfl ?_
  refine awp_seq ?_
  refine rln ?_
  refine G2 (fun _ k_ => q_boxa k_) ?_
  refine G2 (fun _ k_ => q_boxa k_) ?_
  refine G2 (fun _ k_ => q_al k_) ?_
  refine As ?_
  refine gend ?_
  refine awp_seq ?_
  refine awp_seq ?_
  refine rln ?_
  refine G (q_ldw ?_)
  refine G (q_bla (fk0 ?_))
  refine G (q_eqa64 ?_)
  refine gend ?_
  refine cndN (fun hc1 => ?_) ?_; rotate_left
  · exact fun e => hv ((dz _).1 e)
  refine awp_skip ?_
  refine awp_mid ⟨frm 53 [(2, sc (.ptr 0 0)), (3, sc (.ptr 1 0)), (4, sc (.ptr 2 0)), (6, sc (.ptr 3 0))], [some (u64s (de u)), some (u64s (de v)), some (u64s (List.replicate 16 0)), some (u64s (de q))]⟩ ?_ ?_
  · refine rdm [2, 3, 4, 5] [⟨[0, 1, 2, 3, 4, 5], [2, 3, 4, 5], [2, 3, 4, 5], [0, 0, 0, 1, 2, 3], [1, 0, 1, 2, 3, 4]⟩, ⟨[0, 1, 2, 4, 3, 5], [2, 4, 3, 5], [2, 3, 4, 5], [0, 0, 0, 1, 2, 3], [2, 0, 1, 2, 3, 4]⟩, ⟨[0, 1, 4, 2, 3, 5], [4, 2, 3, 5], [2, 3, 4, 5], [0, 0, 0, 1, 2, 3], [2, 1, 1, 2, 3, 4]⟩] ⟨?_, ?_, ?_, trivial⟩   -- region 3
    · refine DLw ?_
      refine DLw ?_
      refine De2 (fun _ k_ => q_callp (Rn.inv_ v) k_) ?_
      refine De2 (fun _ k_ => q_callp (hq ▸ Rn.mul_e u (inv v)) k_) ?_
      refine De2 (fun _ k_ => q_al k_) ?_
      refine De20 (fun _ k_ => q_stw k_) ?_
      refine dend ?_
      exact sle_sub ⟨rfl, rfl, rfl, rfl, trivial⟩ rfl
    · refine DLw ?_
      refine DLw ?_
      refine De2 (fun _ k_ => q_callp (Rn.inv_ v) k_) ?_
      refine De2 (fun _ k_ => q_al k_) ?_
      refine De2 (fun _ k_ => q_callp (hq ▸ Rn.mul_e u (inv v)) k_) ?_
      refine De20 (fun _ k_ => q_stw k_) ?_
      refine dend ?_
      exact sle_sub ⟨rfl, rfl, rfl, rfl, trivial⟩ rfl
    refine DLw ?_
    refine DLw ?_
    refine De2 (fun _ k_ => q_al k_) ?_
    refine De2 (fun _ k_ => q_callp (Rn.inv_ v) k_) ?_
    refine De2 (fun _ k_ => q_callp (hq ▸ Rn.mul_e u (inv v)) k_) ?_
    refine De20 (fun _ k_ => q_stw k_) ?_
    refine dend ?_
    exact sle_sub ⟨rfl, rfl, rfl, rfl, trivial⟩ rfl
  refine awp_seq ?_
  refine awp_seq ?_
  refine rln ?_
  refine G (q_ldw ?_)
  refine G (q_bla (fk0 ?_))
  refine G (q_eqa64 ?_)
  refine gend ?_
  refine cndN (fun hc2 => ?_) ?_; rotate_left
  · exact fun e => h0 ((dz _).1 e)
  refine awp_skip ?_
  refine awp_seq ?_
  refine awp_seq ?_
  refine rdln [1, 2, 3] [0, 0, 1, 2, 3] [1, 1, 2, 3, 3] ?_
  refine DLw ?_
  refine De2 (fun _ k_ => q_callp (gmh) k_ (ha := (cac rfl cm_int (cac rfl cm_int ca0)))) ?_
  refine De2 (fun _ k_ => q_callp (gph) k_) ?_
  refine De2 (fun _ k_ => q_callp (Rn.small_1) k_ (ha := (cac rfl cm_int ca0))) ?_
  refine Dp (fun _ => q_nea64 ⟨rfl, rfl⟩) ?_
  refine dend ?_
  refine cndnY (fun hc3 => ?_) ?_; rotate_left
  · exact fun e => he (de_inj e)
  refine awp_seq ?_
  refine rln ?_
  refine G (q_bla (fk0 ?_))
  refine G20 (fun _ k_ => q_stw k_) ?_
  refine As ?_
  refine gend ?_
  refine awp_ret ?_
  exact fpct (t := 30) (a := 4) (hd := by exact (mapc_length ..).trans (List.length_replicate ..)) (hv := by rw [rep_de])
set_option maxHeartbeats 1600000 in
/-- escutcheonref02.Root -/
theorem rroot_d (u v q x : F) (hq : u * inv v = q) (hv : v ≠ 0) (h0 : q ≠ 0) (he : eul q = 1) (hx : q * pw q ((P - 5) / 8) = x) (h2 : x * x = q) : Good Try.prog 39 [.a (u64s (de u)), .a (u64s (de v))] [] (.t [.a (u64s (de (evn x))), .c (.bool true)]) [] := by
  have hul := de_len u
  have hvl := de_len v
  have hql := de_len q
  have gmh := minor_half
  have gph := pow_half q
  have hlh := by32_len ((P - 1) / 2)
  generalize by32 ((P - 1) / 2) = EH at gmh gph hlh
  have gme := minor_eig
  have gpe := pow_eig q
  have hle := by32_len ((P - 5) / 8)
  generalize by32 ((P - 5) / 8) = EG at gme gpe hle
  have gmq := minor_quar
  have gpq := pow_quar 2
  have hlq := by32_len ((P - 1) / 4)
  generalize by32 ((P - 1) / 4) = EK at gmq gpq hlq
  have hel := de_len (pw q ((P - 1) / 2))
  have h1l := de_len 1
  have hxl := de_len x
  have hxxl := de_len (x * x)
  have hyl := de_len (x * im)
  have hnl := de_len (-x)
  rw [show pw 2 ((P - 1) / 4) = im from rfl] at gpq
  refine good_frm 53 Try.func39 rfl rfl rfl rfl rfl rfl ?_
  refine awp_seq ?_
  refine rln ?_
  refine G2 (fun _ k_ => q_boxa k_) ?_
  refine G2 (fun _ k_ => q_boxa k_) ?_
  refine G2 (fun _ k_ => q_al k_) ?_
  refine As ?_
  refine gend ?_
  refine awp_seq ?_
  refine awp_seq ?_
  refine rln ?_
  refine G (q_ldw ?_)
  refine G (q_bla (fk0 ?_))
  refine G (q_eqa64 ?_)
  refine gend ?_
  refine cndN (fun hc1 => ?_) ?_; rotate_left
  · exact fun e => hv ((dz _).1 e)
  refine awp_skip ?_
  refine awp_mid ⟨frm 53 [(2, sc (.ptr 0 0)), (3, sc (.ptr 1 0)), (4, sc (.ptr 2 0)), (6, sc (.ptr 3 0))], [some (u64s (de u)), some (u64s (de v)), some (u64s (List.replicate 16 0)), some (u64s (de q))]⟩ ?_ ?_
  · refine rdm [2, 3, 4, 5] [⟨[0, 1, 2, 3, 4, 5], [2, 3, 4, 5], [2, 3, 4, 5], [0, 0, 0, 1, 2, 3], [1, 0, 1, 2, 3, 4]⟩, ⟨[0, 1, 2, 4, 3, 5], [2, 4, 3, 5], [2, 3, 4, 5], [0, 0, 0, 1, 2, 3], [2, 0, 1, 2, 3, 4]⟩, ⟨[0, 1, 4, 2, 3, 5], [4, 2, 3, 5], [2, 3, 4, 5], [0, 0, 0, 1, 2, 3], [2, 1, 1, 2, 3, 4]⟩] ⟨?_, ?_, ?_, trivial⟩   -- region 3
    · refine DLw ?_
      refine DLw ?_
      refine De2 (fun _ k_ => q_callp (Rn.inv_ v) k_) ?_
      refine De2 (fun _ k_ => q_callp (hq ▸ Rn.mul_e u (inv v)) k_) ?_
      refine De2 (fun _ k_ => q_al k_) ?_
      refine De20 (fun _ k_ => q_stw k_) ?_
      refine dend ?_
      exact sle_sub ⟨rfl, rfl, rfl, rfl, trivial⟩ rfl
    · refine DLw ?_
      refine DLw ?_
      refine De2 (fun _ k_ => q_callp (Rn.inv_ v) k_) ?_
      refine De2 (fun _ k_ => q_al k_) ?_
      refine De2 (fun _ k_ => q_callp (hq ▸ Rn.mul_e u (inv v)) k_) ?_
      refine De20 (fun _ k_ => q_stw k_) ?_
      refine dend ?_
      exact sle_sub ⟨rfl, rfl, rfl, rfl, trivial⟩ rfl
    refine DLw ?_
    refine DLw ?_
    refine De2 (fun _ k_ => q_al k_) ?_
    refine De2 (fun _ k_ => q_callp (Rn.inv_ v) k_) ?_
    refine De2 (fun _ k_ => q_callp (hq ▸ Rn.mul_e u (inv v)) k_) ?_
    refine De20 (fun _ k_ => q_stw k_) ?_
    refine dend ?_
    exact sle_sub ⟨rfl, rfl, rfl, rfl, trivial⟩ rfl
  refine awp_seq ?_
  refine awp_seq ?_
  refine rln ?_
  refine G (q_ldw ?_)
  refine G (q_bla (fk0 ?_))
  refine G (q_eqa64 ?_)
  refine gend ?_
  refine cndN (fun hc2 => ?_) ?_; rotate_left
  · exact fun e => h0 ((dz _).1 e)
  refine awp_skip ?_
  refine awp_seq ?_
  refine awp_seq ?_
  refine rdln [1, 2, 3] [0, 0, 1, 2, 3] [1, 1, 2, 3, 3] ?_
  refine DLw ?_
  refine De2 (fun _ k_ => q_callp (gmh) k_ (ha := (cac rfl cm_int (cac rfl cm_int ca0)))) ?_
  refine De2 (fun _ k_ => q_callp (gph) k_) ?_
  refine De2 (fun _ k_ => q_callp (Rn.small_1) k_ (ha := (cac rfl cm_int ca0))) ?_
  refine Dp (fun _ => q_nea64 ⟨rfl, rfl⟩) ?_
  refine dend ?_
  refine cndnN (fun hc3 => ?_) ?_; rotate_left
  · exact congrArg de he
  refine awp_skip ?_
  refine awp_seq ?_
  refine rln ?_
  refine G2 (fun _ k_ => q_callp (gme) k_ (ha := (cac rfl cm_int (cac rfl cm_int ca0)))) ?_
  refine G2 (fun _ k_ => q_al k_) ?_
  refine G20 (fun _ k_ => q_stw k_) ?_
  refine gend ?_
  refine awp_mid ⟨frm 53 [(2, sc (.ptr 0 0)), (3, sc (.ptr 1 0)), (4, sc (.ptr 2 0)), (6, sc (.ptr 3 0)), (8, sc (.ptr 5 0))], [some (u64s (de u)), some (u64s (de v)), some (u64s (List.replicate 16 0)), some (u64s (de q)), some (u8s EG), some (u64s (de x))]⟩ ?_ ?_
  · refine rdm [3, 4, 5, 6] [⟨[0, 1, 2, 3, 4, 5, 6], [3, 4, 5, 6], [3, 4, 5, 6], [0, 0, 0, 0, 1, 2, 3], [1, 0, 0, 1, 2, 3, 4]⟩, ⟨[0, 1, 2, 3, 5, 4, 6], [3, 5, 4, 6], [3, 4, 5, 6], [0, 0, 0, 0, 1, 2, 3], [2, 0, 0, 1, 2, 3, 4]⟩, ⟨[0, 1, 2, 5, 3, 4, 6], [5, 3, 4, 6], [3, 4, 5, 6], [0, 0, 0, 0, 1, 2, 3], [2, 1, 1, 1, 2, 3, 4]⟩] ⟨?_, ?_, ?_, trivial⟩   -- region 9
    · refine DLw ?_
      refine DLw ?_
      refine DLw ?_
      refine De2 (fun _ k_ => q_callp (gpe) k_) ?_
      refine De2 (fun _ k_ => q_callp (hx ▸ Rn.mul_e q (pw q ((P - 5) / 8))) k_) ?_
      refine De2 (fun _ k_ => q_al k_) ?_
      refine De20 (fun _ k_ => q_stw k_) ?_
      refine dend ?_
      exact sle_sub ⟨rfl, rfl, rfl, rfl, rfl, trivial⟩ rfl
    · refine DLw ?_
      refine DLw ?_
      refine DLw ?_
      refine De2 (fun _ k_ => q_callp (gpe) k_) ?_
      refine De2 (fun _ k_ => q_al k_) ?_
      refine De2 (fun _ k_ => q_callp (hx ▸ Rn.mul_e q (pw q ((P - 5) / 8))) k_) ?_
      refine De20 (fun _ k_ => q_stw k_) ?_
      refine dend ?_
      exact sle_sub ⟨rfl, rfl, rfl, rfl, rfl, trivial⟩ rfl
    refine DLw ?_
    refine DLw ?_
    refine DLw ?_
    refine De2 (fun _ k_ => q_al k_) ?_
    refine De2 (fun _ k_ => q_callp (gpe) k_) ?_
    refine De2 (fun _ k_ => q_callp (hx ▸ Rn.mul_e q (pw q ((P - 5) / 8))) k_) ?_
    refine De20 (fun _ k_ => q_stw k_) ?_
    refine dend ?_
    exact sle_sub ⟨rfl, rfl, rfl, rfl, rfl, trivial⟩ rfl
  refine awp_seq ?_
  refine awp_seq ?_
  refine rdln [2] [0, 0, 0, 0, 1] [0, 0, 1, 1, 1] ?_
  refine DLw ?_
  refine DLw ?_
  refine De2 (fun _ k_ => q_callp (Rn.mul_e x x) k_) ?_
  refine DLw ?_
  refine Dp (fun _ => q_nea64 ⟨rfl, rfl⟩) ?_
  refine dend ?_
  refine cndnN (fun hc4 => ?_) ?_; rotate_left
  · exact congrArg de h2
  refine awp_skip ?_
  refine awp_seq ?_
  refine awp_seq ?_
  refine rln ?_
  refine G (q_ixp1 ?_)
  refine G (q_ldp ?_)
  refine G (q_rem64 (y := 2) ?_ (hz := by decide))
  refine G (q_eql64 (y := 1) ?_)
  refine gend ?_
  refine cnd (fun hc5 => ?_) (fun hc5 => ?_)
  · refine rln ?_
    refine G (q_ldw ?_)
    refine G2 (fun _ k_ => q_callp (Rn.neg_ x) k_) ?_
    refine G20 (fun _ k_ => q_stw k_) ?_
    refine gend ?_
    refine awp_seq ?_
    refine rln ?_
    refine G (q_ldw ?_)
    refine G20 (fun _ k_ => q_stw k_) ?_
    refine As ?_
    refine gend ?_
    refine awp_ret ?_
    exact fpct (t := 30) (a := 4) (hd := by exact (mapc_length ..).trans hnl) (hv := by rw [evn, decide_eq_true (show x.val % 2 = 1 by rw [← de_odd]; assumption), if_pos rfl])
  refine awp_skip ?_
  refine awp_seq ?_
  refine rln ?_
  refine G (q_ldw ?_)
  refine G20 (fun _ k_ => q_stw k_) ?_
  refine As ?_
  refine gend ?_
  refine awp_ret ?_
  exact fpct (t := 30) (a := 4) (hd := by exact (mapc_length ..).trans hxl) (hv := by rw [evn, decide_eq_false (show ¬ x.val % 2 = 1 by rw [← de_odd]; assumption), if_neg Bool.false_ne_true])
set_option maxHeartbeats 1600000 in
/-- escutcheonref02.Root -/
theorem rroot_e (u v q x : F) (hq : u * inv v = q) (hv : v ≠ 0) (h0 : q ≠ 0) (he : eul q = 1) (hx : q * pw q ((P - 5) / 8) = x) (h2 : x * x ≠ q) : Good Try.prog 39 [.a (u64s (de u)), .a (u64s (de v))] [] (.t [.a (u64s (de (evn (x * im)))), .c (.bool true)]) [] := by
  have hul := de_len u
  have hvl := de_len v
  have hql := de_len q
  have gmh := minor_half
  have gph := pow_half q
  have hlh := by32_len ((P - 1) / 2)
  generalize by32 ((P - 1) / 2) = EH at gmh gph hlh
  have gme := minor_eig
  have gpe := pow_eig q
  have hle := by32_len ((P - 5) / 8)
  generalize by32 ((P - 5) / 8) = EG at gme gpe hle
  have gmq := minor_quar
  have gpq := pow_quar 2
  have hlq := by32_len ((P - 1) / 4)
  generalize by32 ((P - 1) / 4) = EK at gmq gpq hlq
  have hel := de_len (pw q ((P - 1) / 2))
  have h1l := de_len 1
  have hxl := de_len x
  have hxxl := de_len (x * x)
  have hyl := de_len (x * im)
  have hnl := de_len (-(x * im))
  rw [show pw 2 ((P - 1) / 4) = im from rfl] at gpq
  refine good_frm 53 Try.func39 rfl rfl rfl rfl rfl rfl ?_
  refine awp_seq ?_
  refine rln ?_
  refine G2 (fun _ k_ => q_boxa k_) ?_
  refine G2 (fun _ k_ => q_boxa k_) ?_
  refine G2 (fun _ k_ => q_al k_) ?_
  refine As ?_
  refine gend ?_
  refine awp_seq ?_
  refine awp_seq ?_
  refine rln ?_
  refine G (q_ldw ?_)
  refine G (q_bla (fk0 ?_))
  refine G (q_eqa64 ?_)
  refine gend ?_
  refine cndN (fun hc1 => ?_) ?_; rotate_left
  · exact fun e => hv ((dz _).1 e)
  refine awp_skip ?_
  refine awp_mid ⟨frm 53 [(2, sc (.ptr 0 0)), (3, sc (.ptr 1 0)), (4, sc (.ptr 2 0)), (6, sc (.ptr 3 0))], [some (u64s (de u)), some (u64s (de v)), some (u64s (List.replicate 16 0)), some (u64s (de q))]⟩ ?_ ?_
  · refine rdm [2, 3, 4, 5] [⟨[0, 1, 2, 3, 4, 5], [2, 3, 4, 5], [2, 3, 4, 5], [0, 0, 0, 1, 2, 3], [1, 0, 1, 2, 3, 4]⟩, ⟨[0, 1, 2, 4, 3, 5], [2, 4, 3, 5], [2, 3, 4, 5], [0, 0, 0, 1, 2, 3], [2, 0, 1, 2, 3, 4]⟩, ⟨[0, 1, 4, 2, 3, 5], [4, 2, 3, 5], [2, 3, 4, 5], [0, 0, 0, 1, 2, 3], [2, 1, 1, 2, 3, 4]⟩] ⟨?_, ?_, ?_, trivial⟩   -- region 3
    · refine DLw ?_
      refine DLw ?_
      refine De2 (fun _ k_ => q_callp (Rn.inv_ v) k_) ?_
      refine De2 (fun _ k_ => q_callp (hq ▸ Rn.mul_e u (inv v)) k_) ?_
      refine De2 (fun _ k_ => q_al k_) ?_
      refine De20 (fun _ k_ => q_stw k_) ?_
      refine dend ?_
      exact sle_sub ⟨rfl, rfl, rfl, rfl, trivial⟩ rfl
    · refine DLw ?_
      refine DLw ?_
      refine De2 (fun _ k_ => q_callp (Rn.inv_ v) k_) ?_
      refine De2 (fun _ k_ => q_al k_) ?_
      refine De2 (fun _ k_ => q_callp (hq ▸ Rn.mul_e u (inv v)) k_) ?_
      refine De20 (fun _ k_ => q_stw k_) ?_
      refine dend ?_
      exact sle_sub ⟨rfl, rfl, rfl, rfl, trivial⟩ rfl
    refine DLw ?_
    refine DLw ?_
    refine De2 (fun _ k_ => q_al k_) ?_
    refine De2 (fun _ k_ => q_callp (Rn.inv_ v) k_) ?_
    refine De2 (fun _ k_ => q_callp (hq ▸ Rn.mul_e u (inv v)) k_) ?_
    refine De20 (fun _ k_ => q_stw k_) ?_
    refine dend ?_
    exact sle_sub ⟨rfl, rfl, rfl, rfl, trivial⟩ rfl
  refine awp_seq ?_
  refine awp_seq ?_
  refine rln ?_
  refine G (q_ldw ?_)
  refine G (q_bla (fk0 ?_))
  refine G (q_eqa64 ?_)
  refine gend ?_
  refine cndN (fun hc2 => ?_) ?_; rotate_left
  · exact fun e => h0 ((dz _).1 e)
  refine awp_skip ?_
  refine awp_seq ?_
  refine awp_seq ?_
  refine rdln [1, 2, 3] [0, 0, 1, 2, 3] [1, 1, 2, 3, 3] ?_
  refine DLw ?_
  refine De2 (fun _ k_ => q_callp (gmh) k_ (ha := (cac rfl cm_int (cac rfl cm_int ca0)))) ?_
  refine De2 (fun _ k_ => q_callp (gph) k_) ?_
  refine De2 (fun _ k_ => q_callp (Rn.small_1) k_ (ha := (cac rfl cm_int ca0))) ?_
  refine Dp (fun _ => q_nea64 ⟨rfl, rfl⟩) ?_
  refine dend ?_
  refine cndnN (fun hc3 => ?_) ?_; rotate_left
  · exact congrArg de he
  refine awp_skip ?_
  refine awp_seq ?_
  refine rln ?_
  refine G2 (fun _ k_ => q_callp (gme) k_ (ha := (cac rfl cm_int (cac rfl cm_int ca0)))) ?_
  refine G2 (fun _ k_ => q_al k_) ?_
  refine G20 (fun _ k_ => q_stw k_) ?_
  refine gend ?_
  refine awp_mid ⟨frm 53 [(2, sc (.ptr 0 0)), (3, sc (.ptr 1 0)), (4, sc (.ptr 2 0)), (6, sc (.ptr 3 0)), (8, sc (.ptr 5 0))], [some (u64s (de u)), some (u64s (de v)), some (u64s (List.replicate 16 0)), some (u64s (de q)), some (u8s EG), some (u64s (de x))]⟩ ?_ ?_
  · refine rdm [3, 4, 5, 6] [⟨[0, 1, 2, 3, 4, 5, 6], [3, 4, 5, 6], [3, 4, 5, 6], [0, 0, 0, 0, 1, 2, 3], [1, 0, 0, 1, 2, 3, 4]⟩, ⟨[0, 1, 2, 3, 5, 4, 6], [3, 5, 4, 6], [3, 4, 5, 6], [0, 0, 0, 0, 1, 2, 3], [2, 0, 0, 1, 2, 3, 4]⟩, ⟨[0, 1, 2, 5, 3, 4, 6], [5, 3, 4, 6], [3, 4, 5, 6], [0, 0, 0, 0, 1, 2, 3], [2, 1, 1, 1, 2, 3, 4]⟩] ⟨?_, ?_, ?_, trivial⟩   -- region 9
    · refine DLw ?_
      refine DLw ?_
      refine DLw ?_
      refine De2 (fun _ k_ => q_callp (gpe) k_) ?_
      refine De2 (fun _ k_ => q_callp (hx ▸ Rn.mul_e q (pw q ((P - 5) / 8))) k_) ?_
      refine De2 (fun _ k_ => q_al k_) ?_
      refine De20 (fun _ k_ => q_stw k_) ?_
      refine dend ?_
      exact sle_sub ⟨rfl, rfl, rfl, rfl, rfl, trivial⟩ rfl
    · refine DLw ?_
      refine DLw ?_
      refine DLw ?_
      refine De2 (fun _ k_ => q_callp (gpe) k_) ?_
      refine De2 (fun _ k_ => q_al k_) ?_
      refine De2 (fun _ k_ => q_callp (hx ▸ Rn.mul_e q (pw q ((P - 5) / 8))) k_) ?_
      refine De20 (fun _ k_ => q_stw k_) ?_
      refine dend ?_
      exact sle_sub ⟨rfl, rfl, rfl, rfl, rfl, trivial⟩ rfl
    refine DLw ?_
    refine DLw ?_
    refine DLw ?_
    refine De2 (fun _ k_ => q_al k_) ?_
    refine De2 (fun _ k_ => q_callp (gpe) k_) ?_
    refine De2 (fun _ k_ => q_callp (hx ▸ Rn.mul_e q (pw q ((P - 5) / 8))) k_) ?_
    refine De20 (fun _ k_ => q_stw k_) ?_
    refine dend ?_
    exact sle_sub ⟨rfl, rfl, rfl, rfl, rfl, trivial⟩ rfl
  refine awp_seq ?_
  refine awp_seq ?_
  refine rdln [2] [0, 0, 0, 0, 1] [0, 0, 1, 1, 1] ?_
  refine DLw ?_
  refine DLw ?_
  refine De2 (fun _ k_ => q_callp (Rn.mul_e x x) k_) ?_
  refine DLw ?_
  refine Dp (fun _ => q_nea64 ⟨rfl, rfl⟩) ?_
  refine dend ?_
  refine cndnY (fun hc4 => ?_) ?_; rotate_left
  · exact fun e => h2 (de_inj e)
  refine rdln [1, 2, 3, 4, 5] [0, 0, 1, 2, 3, 4] [3, 1, 2, 3, 4, 5] ?_
  refine DLw ?_
  refine De2 (fun _ k_ => q_callp (Rn.small_2) k_ (ha := (cac rfl cm_int ca0))) ?_
  refine De2 (fun _ k_ => q_callp (gmq) k_ (ha := (cac rfl cm_int (cac rfl cm_int ca0)))) ?_
  refine De2 (fun _ k_ => q_callp (gpq) k_) ?_
  refine De2 (fun _ k_ => q_callp (Rn.mul_e x im) k_) ?_
  refine De20 (fun _ k_ => q_stw k_) ?_
  refine dend ?_
  refine awp_seq ?_
  refine awp_seq ?_
  refine rln ?_
  refine G (q_ixp1 ?_)
  refine G (q_ldp ?_)
  refine G (q_rem64 (y := 2) ?_ (hz := by decide))
  refine G (q_eql64 (y := 1) ?_)
  refine gend ?_
  refine cnd (fun hc5 => ?_) (fun hc5 => ?_)
  · refine rln ?_
    refine G (q_ldw ?_)
    refine G2 (fun _ k_ => q_callp (Rn.neg_ (x * im)) k_) ?_
    refine G20 (fun _ k_ => q_stw k_) ?_
    refine gend ?_
    refine awp_seq ?_
    refine rln ?_
    refine G (q_ldw ?_)
    refine G20 (fun _ k_ => q_stw k_) ?_
    refine As ?_
    refine gend ?_
    refine awp_ret ?_
    exact fpct (t := 30) (a := 4) (hd := by exact (mapc_length ..).trans hnl) (hv := by rw [evn, decide_eq_true (show (x * im).val % 2 = 1 by rw [← de_odd]; assumption), if_pos rfl])
  refine awp_skip ?_
  refine awp_seq ?_
  refine rln ?_
  refine G (q_ldw ?_)
  refine G20 (fun _ k_ => q_stw k_) ?_
  refine As ?_
  refine gend ?_
  refine awp_ret ?_
  exact fpct (t := 30) (a := 4) (hd := by exact (mapc_length ..).trans hyl) (hv := by rw [evn, decide_eq_false (show ¬ (x * im).val % 2 = 1 by rw [← de_odd]; assumption), if_neg Bool.false_ne_true])
theorem rroot_ (u v : F) : Good Try.prog 39 [.a (u64s (de u)), .a (u64s (de v))] [] (.t [.a (u64s (de (rRt u v))), .c (.bool (rOk u v))]) [] := by
  by_cases hv : v = 0
  · subst hv
    have := rroot_a u
    rwa [show rRt u 0 = 0 by unfold rRt; simp, show rOk u 0 = decide (u = 0) by unfold rOk; simp]
  · obtain ⟨q, hq⟩ : ∃ q, u * inv v = q := ⟨_, rfl⟩
    by_cases h0 : q = 0
    · have := rroot_b u v q hq hv h0
      have ho : rOk u v = true := by unfold rOk; rw [if_neg hv, hq, decide_eq_true h0]; rfl
      rwa [show rRt u v = q by unfold rRt; rw [ho, if_pos rfl, if_neg hv, hq, h0, rtq_zero], ho]
    · by_cases he : eul q = 1
      · have ho : rOk u v = true := by unfold rOk; rw [if_neg hv, hq, decide_eq_true he]; exact Bool.or_true _
        have hr : rRt u v = rtq q := by unfold rRt; rw [ho, if_pos rfl, if_neg hv, hq]
        by_cases h2 : cand q * cand q = q
        · have := rroot_d u v q (cand q) hq hv h0 he (cand_eig q) h2
          rwa [hr, ho, show rtq q = evn (cand q) from if_pos h2]
        · have := rroot_e u v q (cand q) hq hv h0 he (cand_eig q) h2
          rwa [hr, ho, show rtq q = evn (cand q * im) from if_neg h2]
      · have := rroot_c u v q hq hv h0 he
        have ho : rOk u v = false := by unfold rOk; rw [if_neg hv, hq, decide_eq_false h0, decide_eq_false he]; rfl
        rwa [show rRt u v = 0 by unfold rRt; rw [ho]; rfl, ho]
end Go.Proofs.Ytjibmonfmhdbbaa.Fl

/- What functions of the program do, walked over the abstract machine. -/
namespace Go.Proofs.Ytjibmonfmhdbbaa.Fl
open Go Go.Abs Go.Proofs Go.Proofs.Ytjibmonfmhdbbaa.Fd Go.Proofs.Ytjibmonfmhdbbaa.Rn

open Go.Nt Fd Rn
theorem ok_sq (x v : F) : rOk (x * x * v) v = true := by
  unfold rOk
  by_cases hv : v = 0
  · rw [if_pos hv, decide_eq_true (by rw [hv]; grind)]
  · have h := mul_inv hv
    have e : x * x * v * inv v = x * x := by grind
    rw [if_neg hv, e]
    by_cases hx : x = 0
    · rw [decide_eq_true (by rw [hx]; grind)]; rfl
    · rw [decide_eq_true (eul_of_sq hx)]; simp
theorem odd_f (x : F) (h : ¬ x.val % 2 = 1) : Good Try.prog 37 [.a (u64s (el x))] [] (sc (.bool false)) [] := by
  have := odd_e x
  rwa [decide_eq_false h] at this
set_option maxHeartbeats 1600000 in
/-- escutcheonlaw02.FieldRoots -/
theorem roots_tt (a b : List UInt8) (ha : a.length = 32) (hb : b.length = 32) (u : F) (hu : fb a * fb a * fb b = u) (hok : rOk u (fb b) = true) : Good Try.prog 8 [.a (u8s a), .a (u8s b), .c (.bool true)] [] (sc (.bool true)) [] := by
  have ga := of_e a ha
  have gb := of_e b hb
  have nb := num_ b hb
  generalize fb a = x at ga hu
  generalize fb b = y at gb nb hu hok
  have nu := num_ (bye u) (by32_len _)
  rw [fb_bye] at nu
  have hbu := by32_len u.val
  have gR := root_e u y
  have gQ := Fl.rroot_ u y
  rw [hok] at gR gQ
  have hev := rRt_even u y
  have hsq := rRt_sq hok
  generalize rRt u y = z at gR gQ hev hsq
  have du := de_len u
  have dy := de_len y
  have dz := de_len z
  refine good_frm 75 Try.func8 rfl rfl rfl rfl rfl rfl ?_
  refine awp_seq ?_
  refine rln ?_
  refine G2 (fun _ k_ => q_boxa k_) ?_
  refine G2 (fun _ k_ => q_boxa k_) ?_
  refine As ?_
  refine gend ?_
  refine awp_mid ⟨frm 75 [(2, sc (.bool true)), (3, sc (.ptr 0 0)), (4, sc (.ptr 1 0)), (7, sc (.ptr 2 0)), (8, sc (.ptr 3 0))], [some (u8s a), some (u8s b), some (u64s (el x)), some (u64s (el y))]⟩ ?_ ?_
  · refine rdm [1, 3, 4, 5, 6, 7] [⟨[0, 1, 2, 3, 4, 5, 6, 7], [1, 3, 4, 5, 6, 7], [1, 3, 4, 5, 6, 7], [0, 0, 0, 1, 2, 3, 4, 5], [0, 1, 1, 2, 3, 4, 5, 6]⟩, ⟨[0, 1, 2, 3, 5, 4, 6, 7], [1, 3, 5, 4, 6, 7], [1, 3, 4, 5, 6, 7], [0, 0, 0, 1, 2, 3, 4, 5], [0, 1, 1, 2, 3, 4, 5, 6]⟩, ⟨[0, 1, 2, 4, 3, 5, 6, 7], [1, 4, 3, 5, 6, 7], [1, 3, 4, 5, 6, 7], [0, 0, 0, 1, 2, 3, 4, 5], [0, 1, 2, 2, 3, 4, 5, 6]⟩, ⟨[0, 1, 2, 4, 5, 3, 6, 7], [1, 4, 5, 3, 6, 7], [1, 3, 4, 5, 6, 7], [0, 0, 0, 1, 2, 3, 4, 5], [0, 1, 3, 2, 3, 4, 5, 6]⟩, ⟨[0, 1, 2, 5, 3, 4, 6, 7], [1, 5, 3, 4, 6, 7], [1, 3, 4, 5, 6, 7], [0, 0, 0, 1, 2, 3, 4, 5], [0, 1, 2, 2, 3, 4, 5, 6]⟩, ⟨[0, 1, 2, 5, 4, 3, 6, 7], [1, 5, 4, 3, 6, 7], [1, 3, 4, 5, 6, 7], [0, 0, 0, 1, 2, 3, 4, 5], [0, 1, 3, 2, 3, 4, 5, 6]⟩, ⟨[0, 2, 4, 1, 3, 5, 6, 7], [4, 1, 3, 5, 6, 7], [2, 3, 4, 5, 6, 7], [0, 0, 0, 1, 2, 3, 4, 5], [1, 2, 1, 2, 3, 4, 5, 6]⟩, ⟨[0, 2, 4, 1, 5, 3, 6, 7], [4, 1, 5, 3, 6, 7], [2, 3, 4, 5, 6, 7], [0, 0, 0, 1, 2, 3, 4, 5], [1, 3, 1, 2, 3, 4, 5, 6]⟩, ⟨[0, 2, 4, 5, 1, 3, 6, 7], [4, 5, 1, 3, 6, 7], [2, 3, 4, 5, 6, 7], [0, 0, 0, 1, 2, 3, 4, 5], [2, 3, 1, 2, 3, 4, 5, 6]⟩, ⟨[0, 2, 5, 1, 3, 4, 6, 7], [5, 1, 3, 4, 6, 7], [2, 3, 4, 5, 6, 7], [0, 0, 0, 1, 2, 3, 4, 5], [1, 2, 1, 2, 3, 4, 5, 6]⟩, ⟨[0, 2, 5, 1, 4, 3, 6, 7], [5, 1, 4, 3, 6, 7], [2, 3, 4, 5, 6, 7], [0, 0, 0, 1, 2, 3, 4, 5], [1, 3, 1, 2, 3, 4, 5, 6]⟩, ⟨[0, 2, 5, 4, 1, 3, 6, 7], [5, 4, 1, 3, 6, 7], [2, 3, 4, 5, 6, 7], [0, 0, 0, 1, 2, 3, 4, 5], [2, 3, 1, 2, 3, 4, 5, 6]⟩] ⟨?_, ?_, ?_, ?_, ?_, ?_, ?_, ?_, ?_, ?_, ?_, ?_, trivial⟩   -- region 1
    · refine DLw ?_
      refine De2 (fun _ k_ => q_callp (ga) k_) ?_
      refine DLw ?_
      refine De2 (fun _ k_ => q_callp (gb) k_) ?_
      refine De2 (fun _ k_ => q_al k_) ?_
      refine De2 (fun _ k_ => q_al k_) ?_
      refine De20 (fun _ k_ => q_stw k_) ?_
      refine De20 (fun _ k_ => q_stw k_) ?_
      refine dend ?_
      exact sle_sub ⟨rfl, rfl, rfl, rfl, rfl, trivial⟩ rfl
    · refine DLw ?_
      refine De2 (fun _ k_ => q_callp (ga) k_) ?_
      refine DLw ?_
      refine De2 (fun _ k_ => q_callp (gb) k_) ?_
      refine De2 (fun _ k_ => q_al k_) ?_
      refine De2 (fun _ k_ => q_al k_) ?_
      refine De20 (fun _ k_ => q_stw k_) ?_
      refine De20 (fun _ k_ => q_stw k_) ?_
      refine dend ?_
      exact sle_view [0, 1, 3, 2] (fun p h => absurd h (Nat.not_lt_zero _)) (by decide) ⟨rfl, rfl, rfl, rfl, rfl, trivial⟩ (Eq.symm (pl1 rfl sees_m (pl1 rfl sees_m (pl1 rfl sees_m (pl1 rfl sees_m pl0)))))
    · refine DLw ?_
      refine De2 (fun _ k_ => q_callp (ga) k_) ?_
      refine DLw ?_
      refine De2 (fun _ k_ => q_al k_) ?_
      refine De2 (fun _ k_ => q_callp (gb) k_) ?_
      refine De2 (fun _ k_ => q_al k_) ?_
      refine De20 (fun _ k_ => q_stw k_) ?_
      refine De20 (fun _ k_ => q_stw k_) ?_
      refine dend ?_
      exact sle_sub ⟨rfl, rfl, rfl, rfl, rfl, trivial⟩ rfl
    · refine DLw ?_
      refine De2 (fun _ k_ => q_callp (ga) k_) ?_
      refine DLw ?_
      refine De2 (fun _ k_ => q_al k_) ?_
      refine De2 (fun _ k_ => q_al k_) ?_
      refine De2 (fun _ k_ => q_callp (gb) k_) ?_
      refine De20 (fun _ k_ => q_stw k_) ?_
      refine De20 (fun _ k_ => q_stw k_) ?_
      refine dend ?_
      exact sle_sub ⟨rfl, rfl, rfl, rfl, rfl, trivial⟩ rfl
    · refine DLw ?_
      refine De2 (fun _ k_ => q_callp (ga) k_) ?_
      refine DLw ?_
      refine De2 (fun _ k_ => q_al k_) ?_
      refine De2 (fun _ k_ => q_callp (gb) k_) ?_
      refine De2 (fun _ k_ => q_al k_) ?_
      refine De20 (fun _ k_ => q_stw k_) ?_
      refine De20 (fun _ k_ => q_stw k_) ?_
      refine dend ?_
      exact sle_view [0, 1, 3, 2] (fun p h => absurd h (Nat.not_lt_zero _)) (by decide) ⟨rfl, rfl, rfl, rfl, rfl, trivial⟩ (Eq.symm (pl1 rfl sees_m (pl1 rfl sees_m (pl1 rfl sees_m (pl1 rfl sees_m pl0)))))
    · refine DLw ?_
      refine De2 (fun _ k_ => q_callp (ga) k_) ?_
      refine DLw ?_
      refine De2 (fun _ k_ => q_al k_) ?_
      refine De2 (fun _ k_ => q_al k_) ?_
      refine De2 (fun _ k_ => q_callp (gb) k_) ?_
      refine De20 (fun _ k_ => q_stw k_) ?_
      refine De20 (fun _ k_ => q_stw k_) ?_
      refine dend ?_
      exact sle_view [0, 1, 3, 2] (fun p h => absurd h (Nat.not_lt_zero _)) (by decide) ⟨rfl, rfl, rfl, rfl, rfl, trivial⟩ (Eq.symm (pl1 rfl sees_m (pl1 rfl sees_m (pl1 rfl sees_m (pl1 rfl sees_m pl0)))))
    · refine DLw ?_
      refine DLw ?_
      refine De2 (fun _ k_ => q_al k_) ?_
      refine De2 (fun _ k_ => q_callp (ga) k_) ?_
      refine De2 (fun _ k_ => q_callp (gb) k_) ?_
      refine De2 (fun _ k_ => q_al k_) ?_
      refine De20 (fun _ k_ => q_stw k_) ?_
      refine De20 (fun _ k_ => q_stw k_) ?_
      refine dend ?_
      exact sle_sub ⟨rfl, rfl, rfl, rfl, rfl, trivial⟩ rfl
    · refine DLw ?_
      refine DLw ?_
      refine De2 (fun _ k_ => q_al k_) ?_
      refine De2 (fun _ k_ => q_callp (ga) k_) ?_
      refine De2 (fun _ k_ => q_al k_) ?_
      refine De2 (fun _ k_ => q_callp (gb) k_) ?_
      refine De20 (fun _ k_ => q_stw k_) ?_
      refine De20 (fun _ k_ => q_stw k_) ?_
      refine dend ?_
      exact sle_sub ⟨rfl, rfl, rfl, rfl, rfl, trivial⟩ rfl
    · refine DLw ?_
      refine DLw ?_
      refine De2 (fun _ k_ => q_al k_) ?_
      refine De2 (fun _ k_ => q_al k_) ?_
      refine De2 (fun _ k_ => q_callp (ga) k_) ?_
      refine De2 (fun _ k_ => q_callp (gb) k_) ?_
      refine De20 (fun _ k_ => q_stw k_) ?_
      refine De20 (fun _ k_ => q_stw k_) ?_
      refine dend ?_
      exact sle_sub ⟨rfl, rfl, rfl, rfl, rfl, trivial⟩ rfl
    · refine DLw ?_
      refine DLw ?_
      refine De2 (fun _ k_ => q_al k_) ?_
      refine De2 (fun _ k_ => q_callp (ga) k_) ?_
      refine De2 (fun _ k_ => q_callp (gb) k_) ?_
      refine De2 (fun _ k_ => q_al k_) ?_
      refine De20 (fun _ k_ => q_stw k_) ?_
      refine De20 (fun _ k_ => q_stw k_) ?_
      refine dend ?_
      exact sle_view [0, 1, 3, 2] (fun p h => absurd h (Nat.not_lt_zero _)) (by decide) ⟨rfl, rfl, rfl, rfl, rfl, trivial⟩ (Eq.symm (pl1 rfl sees_m (pl1 rfl sees_m (pl1 rfl sees_m (pl1 rfl sees_m pl0)))))
    · refine DLw ?_
      refine DLw ?_
      refine De2 (fun _ k_ => q_al k_) ?_
      refine De2 (fun _ k_ => q_callp (ga) k_) ?_
      refine De2 (fun _ k_ => q_al k_) ?_
      refine De2 (fun _ k_ => q_callp (gb) k_) ?_
      refine De20 (fun _ k_ => q_stw k_) ?_
      refine De20 (fun _ k_ => q_stw k_) ?_
      refine dend ?_
      exact sle_view [0, 1, 3, 2] (fun p h => absurd h (Nat.not_lt_zero _)) (by decide) ⟨rfl, rfl, rfl, rfl, rfl, trivial⟩ (Eq.symm (pl1 rfl sees_m (pl1 rfl sees_m (pl1 rfl sees_m (pl1 rfl sees_m pl0)))))
    refine DLw ?_
    refine DLw ?_
    refine De2 (fun _ k_ => q_al k_) ?_
    refine De2 (fun _ k_ => q_al k_) ?_
    refine De2 (fun _ k_ => q_callp (ga) k_) ?_
    refine De2 (fun _ k_ => q_callp (gb) k_) ?_
    refine De20 (fun _ k_ => q_stw k_) ?_
    refine De20 (fun _ k_ => q_stw k_) ?_
    refine dend ?_
    exact sle_view [0, 1, 3, 2] (fun p h => absurd h (Nat.not_lt_zero _)) (by decide) ⟨rfl, rfl, rfl, rfl, rfl, trivial⟩ (Eq.symm (pl1 rfl sees_m (pl1 rfl sees_m (pl1 rfl sees_m (pl1 rfl sees_m pl0)))))
  refine awp_seq ?_
  refine awp_seq ?_
  refine rln ?_
  refine Mv ?_
  refine gend ?_
  refine cndbY (fun hc1 => ?_) ?_; rotate_left
  · rfl
  refine rdln [1, 3, 4] [0, 0, 0, 1, 2] [0, 1, 1, 2, 3] ?_
  refine DLw ?_
  refine De2 (fun _ k_ => q_callp (square_e x) k_) ?_
  refine DLw ?_
  refine De2 (fun _ k_ => q_callp (hu ▸ Fd.mul_e (x * x) y) k_) ?_
  refine De20 (fun _ k_ => q_stw k_) ?_
  refine dend ?_
  refine awp_mid ⟨frm 75 [(2, sc (.bool true)), (7, sc (.ptr 2 0)), (8, sc (.ptr 3 0)), (9, sc (.ptr 4 0)), (10, sc (.ptr 5 0))], [some (u8s a), some (u8s b), some (u64s (el u)), some (u64s (el y)), some (u64s (de u)), some (u64s (de y))]⟩ ?_ ?_
  · refine rdm [1, 2, 4, 5, 6, 7, 8] [⟨[0, 1, 2, 3, 4, 5, 6, 7, 8], [1, 2, 4, 5, 6, 7, 8], [1, 2, 4, 5, 6, 7, 8], [0, 0, 1, 0, 2, 3, 4, 5, 6], [0, 1, 2, 2, 3, 4, 5, 6, 7]⟩, ⟨[0, 1, 2, 3, 4, 6, 5, 7, 8], [1, 2, 4, 6, 5, 7, 8], [1, 2, 4, 5, 6, 7, 8], [0, 0, 1, 0, 2, 3, 4, 5, 6], [0, 1, 2, 2, 3, 4, 5, 6, 7]⟩, ⟨[0, 1, 2, 3, 5, 4, 6, 7, 8], [1, 2, 5, 4, 6, 7, 8], [1, 2, 4, 5, 6, 7, 8], [0, 0, 1, 0, 2, 3, 4, 5, 6], [0, 1, 2, 3, 3, 4, 5, 6, 7]⟩, ⟨[0, 1, 2, 3, 5, 6, 4, 7, 8], [1, 2, 5, 6, 4, 7, 8], [1, 2, 4, 5, 6, 7, 8], [0, 0, 1, 0, 2, 3, 4, 5, 6], [0, 1, 2, 4, 3, 4, 5, 6, 7]⟩, ⟨[0, 1, 2, 3, 6, 4, 5, 7, 8], [1, 2, 6, 4, 5, 7, 8], [1, 2, 4, 5, 6, 7, 8], [0, 0, 1, 0, 2, 3, 4, 5, 6], [0, 1, 2, 3, 3, 4, 5, 6, 7]⟩, ⟨[0, 1, 2, 3, 6, 5, 4, 7, 8], [1, 2, 6, 5, 4, 7, 8], [1, 2, 4, 5, 6, 7, 8], [0, 0, 1, 0, 2, 3, 4, 5, 6], [0, 1, 2, 4, 3, 4, 5, 6, 7]⟩, ⟨[0, 1, 3, 5, 2, 4, 6, 7, 8], [1, 5, 2, 4, 6, 7, 8], [1, 3, 4, 5, 6, 7, 8], [0, 0, 0, 1, 2, 3, 4, 5, 6], [0, 1, 3, 2, 3, 4, 5, 6, 7]⟩, ⟨[0, 1, 3, 5, 2, 6, 4, 7, 8], [1, 5, 2, 6, 4, 7, 8], [1, 3, 4, 5, 6, 7, 8], [0, 0, 0, 1, 2, 3, 4, 5, 6], [0, 1, 4, 2, 3, 4, 5, 6, 7]⟩, ⟨[0, 1, 3, 5, 6, 2, 4, 7, 8], [1, 5, 6, 2, 4, 7, 8], [1, 3, 4, 5, 6, 7, 8], [0, 0, 0, 1, 2, 3, 4, 5, 6], [0, 1, 4, 2, 3, 4, 5, 6, 7]⟩, ⟨[0, 1, 3, 6, 2, 4, 5, 7, 8], [1, 6, 2, 4, 5, 7, 8], [1, 3, 4, 5, 6, 7, 8], [0, 0, 0, 1, 2, 3, 4, 5, 6], [0, 1, 3, 2, 3, 4, 5, 6, 7]⟩, ⟨[0, 1, 3, 6, 2, 5, 4, 7, 8], [1, 6, 2, 5, 4, 7, 8], [1, 3, 4, 5, 6, 7, 8], [0, 0, 0, 1, 2, 3, 4, 5, 6], [0, 1, 4, 2, 3, 4, 5, 6, 7]⟩, ⟨[0, 1, 3, 6, 5, 2, 4, 7, 8], [1, 6, 5, 2, 4, 7, 8], [1, 3, 4, 5, 6, 7, 8], [0, 0, 0, 1, 2, 3, 4, 5, 6], [0, 1, 4, 2, 3, 4, 5, 6, 7]⟩, ⟨[0, 3, 5, 1, 2, 4, 6, 7, 8], [5, 1, 2, 4, 6, 7, 8], [2, 3, 4, 5, 6, 7, 8], [0, 0, 0, 1, 2, 3, 4, 5, 6], [1, 3, 1, 2, 3, 4, 5, 6, 7]⟩, ⟨[0, 3, 5, 1, 2, 6, 4, 7, 8], [5, 1, 2, 6, 4, 7, 8], [2, 3, 4, 5, 6, 7, 8], [0, 0, 0, 1, 2, 3, 4, 5, 6], [1, 4, 1, 2, 3, 4, 5, 6, 7]⟩, ⟨[0, 3, 5, 1, 6, 2, 4, 7, 8], [5, 1, 6, 2, 4, 7, 8], [2, 3, 4, 5, 6, 7, 8], [0, 0, 0, 1, 2, 3, 4, 5, 6], [1, 4, 1, 2, 3, 4, 5, 6, 7]⟩, ⟨[0, 3, 5, 6, 1, 2, 4, 7, 8], [5, 6, 1, 2, 4, 7, 8], [2, 3, 4, 5, 6, 7, 8], [0, 0, 0, 1, 2, 3, 4, 5, 6], [2, 4, 1, 2, 3, 4, 5, 6, 7]⟩, ⟨[0, 3, 6, 1, 2, 4, 5, 7, 8], [6, 1, 2, 4, 5, 7, 8], [2, 3, 4, 5, 6, 7, 8], [0, 0, 0, 1, 2, 3, 4, 5, 6], [1, 3, 1, 2, 3, 4, 5, 6, 7]⟩, ⟨[0, 3, 6, 1, 2, 5, 4, 7, 8], [6, 1, 2, 5, 4, 7, 8], [2, 3, 4, 5, 6, 7, 8], [0, 0, 0, 1, 2, 3, 4, 5, 6], [1, 4, 1, 2, 3, 4, 5, 6, 7]⟩, ⟨[0, 3, 6, 1, 5, 2, 4, 7, 8], [6, 1, 5, 2, 4, 7, 8], [2, 3, 4, 5, 6, 7, 8], [0, 0, 0, 1, 2, 3, 4, 5, 6], [1, 4, 1, 2, 3, 4, 5, 6, 7]⟩, ⟨[0, 3, 6, 5, 1, 2, 4, 7, 8], [6, 5, 1, 2, 4, 7, 8], [2, 3, 4, 5, 6, 7, 8], [0, 0, 0, 1, 2, 3, 4, 5, 6], [2, 4, 1, 2, 3, 4, 5, 6, 7]⟩] ⟨?_, ?_, ?_, ?_, ?_, ?_, ?_, ?_, ?_, ?_, ?_, ?_, ?_, ?_, ?_, ?_, ?_, ?_, ?_, ?_, trivial⟩   -- region 4
    · refine DLw ?_
      refine De2 (fun _ k_ => q_callp (bytes_e u) k_) ?_
      refine De2 (fun _ k_ => q_callp (nu) k_) ?_
      refine DLw ?_
      refine De2 (fun _ k_ => q_callp (nb) k_) ?_
      refine De2 (fun _ k_ => q_al k_) ?_
      refine De2 (fun _ k_ => q_al k_) ?_
      refine De20 (fun _ k_ => q_stw k_) ?_
      refine De20 (fun _ k_ => q_stw k_) ?_
      refine dend ?_
      exact sle_sub ⟨rfl, rfl, rfl, rfl, rfl, trivial⟩ rfl
    · refine DLw ?_
      refine De2 (fun _ k_ => q_callp (bytes_e u) k_) ?_
      refine De2 (fun _ k_ => q_callp (nu) k_) ?_
      refine DLw ?_
      refine De2 (fun _ k_ => q_callp (nb) k_) ?_
      refine De2 (fun _ k_ => q_al k_) ?_
      refine De2 (fun _ k_ => q_al k_) ?_
      refine De20 (fun _ k_ => q_stw k_) ?_
      refine De20 (fun _ k_ => q_stw k_) ?_
      refine dend ?_
      exact sle_view [0, 1, 2, 3, 5, 4] (fun p h => absurd h (Nat.not_lt_zero _)) (by decide) ⟨rfl, rfl, rfl, rfl, rfl, trivial⟩ (Eq.symm (pl1 rfl sees_m (pl1 rfl sees_m (pl1 rfl sees_m (pl1 rfl sees_m (pl1 rfl sees_m (pl1 rfl sees_m pl0)))))))
    · refine DLw ?_
      refine De2 (fun _ k_ => q_callp (bytes_e u) k_) ?_
      refine De2 (fun _ k_ => q_callp (nu) k_) ?_
      refine DLw ?_
      refine De2 (fun _ k_ => q_al k_) ?_
      refine De2 (fun _ k_ => q_callp (nb) k_) ?_
      refine De2 (fun _ k_ => q_al k_) ?_
      refine De20 (fun _ k_ => q_stw k_) ?_
      refine De20 (fun _ k_ => q_stw k_) ?_
      refine dend ?_
      exact sle_sub ⟨rfl, rfl, rfl, rfl, rfl, trivial⟩ rfl
    · refine DLw ?_
      refine De2 (fun _ k_ => q_callp (bytes_e u) k_) ?_
      refine De2 (fun _ k_ => q_callp (nu) k_) ?_
      refine DLw ?_
      refine De2 (fun _ k_ => q_al k_) ?_
      refine De2 (fun _ k_ => q_al k_) ?_
      refine De2 (fun _ k_ => q_callp (nb) k_) ?_
      refine De20 (fun _ k_ => q_stw k_) ?_
      refine De20 (fun _ k_ => q_stw k_) ?_
      refine dend ?_
      exact sle_sub ⟨rfl, rfl, rfl, rfl, rfl, trivial⟩ rfl
    · refine DLw ?_
      refine De2 (fun _ k_ => q_callp (bytes_e u) k_) ?_
      refine De2 (fun _ k_ => q_callp (nu) k_) ?_
      refine DLw ?_
      refine De2 (fun _ k_ => q_al k_) ?_
      refine De2 (fun _ k_ => q_callp (nb) k_) ?_
      refine De2 (fun _ k_ => q_al k_) ?_
      refine De20 (fun _ k_ => q_stw k_) ?_
      refine De20 (fun _ k_ => q_stw k_) ?_
      refine dend ?_
      exact sle_view [0, 1, 2, 3, 5, 4] (fun p h => absurd h (Nat.not_lt_zero _)) (by decide) ⟨rfl, rfl, rfl, rfl, rfl, trivial⟩ (Eq.symm (pl1 rfl sees_m (pl1 rfl sees_m (pl1 rfl sees_m (pl1 rfl sees_m (pl1 rfl sees_m (pl1 rfl sees_m pl0)))))))
    · refine DLw ?_
      refine De2 (fun _ k_ => q_callp (bytes_e u) k_) ?_
      refine De2 (fun _ k_ => q_callp (nu) k_) ?_
      refine DLw ?_
      refine De2 (fun _ k_ => q_al k_) ?_
      refine De2 (fun _ k_ => q_al k_) ?_
      refine De2 (fun _ k_ => q_callp (nb) k_) ?_
      refine De20 (fun _ k_ => q_stw k_) ?_
      refine De20 (fun _ k_ => q_stw k_) ?_
      refine dend ?_
      exact sle_view [0, 1, 2, 3, 5, 4] (fun p h => absurd h (Nat.not_lt_zero _)) (by decide) ⟨rfl, rfl, rfl, rfl, rfl, trivial⟩ (Eq.symm (pl1 rfl sees_m (pl1 rfl sees_m (pl1 rfl sees_m (pl1 rfl sees_m (pl1 rfl sees_m (pl1 rfl sees_m pl0)))))))
    · refine DLw ?_
      refine De2 (fun _ k_ => q_callp (bytes_e u) k_) ?_
      refine DLw ?_
      refine De2 (fun _ k_ => q_al k_) ?_
      refine De2 (fun _ k_ => q_callp (nu) k_) ?_
      refine De2 (fun _ k_ => q_callp (nb) k_) ?_
      refine De2 (fun _ k_ => q_al k_) ?_
      refine De20 (fun _ k_ => q_stw k_) ?_
      refine De20 (fun _ k_ => q_stw k_) ?_
      refine dend ?_
      exact sle_sub ⟨rfl, rfl, rfl, rfl, rfl, trivial⟩ rfl
    · refine DLw ?_
      refine De2 (fun _ k_ => q_callp (bytes_e u) k_) ?_
      refine DLw ?_
      refine De2 (fun _ k_ => q_al k_) ?_
      refine De2 (fun _ k_ => q_callp (nu) k_) ?_
      refine De2 (fun _ k_ => q_al k_) ?_
      refine De2 (fun _ k_ => q_callp (nb) k_) ?_
      refine De20 (fun _ k_ => q_stw k_) ?_
      refine De20 (fun _ k_ => q_stw k_) ?_
      refine dend ?_
      exact sle_sub ⟨rfl, rfl, rfl, rfl, rfl, trivial⟩ rfl
    · refine DLw ?_
      refine De2 (fun _ k_ => q_callp (bytes_e u) k_) ?_
      refine DLw ?_
      refine De2 (fun _ k_ => q_al k_) ?_
      refine De2 (fun _ k_ => q_al k_) ?_
      refine De2 (fun _ k_ => q_callp (nu) k_) ?_
      refine De2 (fun _ k_ => q_callp (nb) k_) ?_
      refine De20 (fun _ k_ => q_stw k_) ?_
      refine De20 (fun _ k_ => q_stw k_) ?_
      refine dend ?_
      exact sle_sub ⟨rfl, rfl, rfl, rfl, rfl, trivial⟩ rfl
    · refine DLw ?_
      refine De2 (fun _ k_ => q_callp (bytes_e u) k_) ?_
      refine DLw ?_
      refine De2 (fun _ k_ => q_al k_) ?_
      refine De2 (fun _ k_ => q_callp (nu) k_) ?_
      refine De2 (fun _ k_ => q_callp (nb) k_) ?_
      refine De2 (fun _ k_ => q_al k_) ?_
      refine De20 (fun _ k_ => q_stw k_) ?_
      refine De20 (fun _ k_ => q_stw k_) ?_
      refine dend ?_
      exact sle_view [0, 1, 2, 3, 5, 4] (fun p h => absurd h (Nat.not_lt_zero _)) (by decide) ⟨rfl, rfl, rfl, rfl, rfl, trivial⟩ (Eq.symm (pl1 rfl sees_m (pl1 rfl sees_m (pl1 rfl sees_m (pl1 rfl sees_m (pl1 rfl sees_m (pl1 rfl sees_m pl0)))))))
    · refine DLw ?_
      refine De2 (fun _ k_ => q_callp (bytes_e u) k_) ?_
      refine DLw ?_
      refine De2 (fun _ k_ => q_al k_) ?_
      refine De2 (fun _ k_ => q_callp (nu) k_) ?_
      refine De2 (fun _ k_ => q_al k_) ?_
      refine De2 (fun _ k_ => q_callp (nb) k_) ?_
      refine De20 (fun _ k_ => q_stw k_) ?_
      refine De20 (fun _ k_ => q_stw k_) ?_
      refine dend ?_
      exact sle_view [0, 1, 2, 3, 5, 4] (fun p h => absurd h (Nat.not_lt_zero _)) (by decide) ⟨rfl, rfl, rfl, rfl, rfl, trivial⟩ (Eq.symm (pl1 rfl sees_m (pl1 rfl sees_m (pl1 rfl sees_m (pl1 rfl sees_m (pl1 rfl sees_m (pl1 rfl sees_m pl0)))))))
    · refine DLw ?_
      refine De2 (fun _ k_ => q_callp (bytes_e u) k_) ?_
      refine DLw ?_
      refine De2 (fun _ k_ => q_al k_) ?_
      refine De2 (fun _ k_ => q_al k_) ?_
      refine De2 (fun _ k_ => q_callp (nu) k_) ?_
      refine De2 (fun _ k_ => q_callp (nb) k_) ?_
      refine De20 (fun _ k_ => q_stw k_) ?_
      refine De20 (fun _ k_ => q_stw k_) ?_
      refine dend ?_
      exact sle_view [0, 1, 2, 3, 5, 4] (fun p h => absurd h (Nat.not_lt_zero _)) (by decide) ⟨rfl, rfl, rfl, rfl, rfl, trivial⟩ (Eq.symm (pl1 rfl sees_m (pl1 rfl sees_m (pl1 rfl sees_m (pl1 rfl sees_m (pl1 rfl sees_m (pl1 rfl sees_m pl0)))))))
    · refine DLw ?_
      refine DLw ?_
      refine De2 (fun _ k_ => q_al k_) ?_
      refine De2 (fun _ k_ => q_callp (bytes_e u) k_) ?_
      refine De2 (fun _ k_ => q_callp (nu) k_) ?_
      refine De2 (fun _ k_ => q_callp (nb) k_) ?_
      refine De2 (fun _ k_ => q_al k_) ?_
      refine De20 (fun _ k_ => q_stw k_) ?_
      refine De20 (fun _ k_ => q_stw k_) ?_
      refine dend ?_
      exact sle_sub ⟨rfl, rfl, rfl, rfl, rfl, trivial⟩ rfl
    · refine DLw ?_
      refine DLw ?_
      refine De2 (fun _ k_ => q_al k_) ?_
      refine De2 (fun _ k_ => q_callp (bytes_e u) k_) ?_
      refine De2 (fun _ k_ => q_callp (nu) k_) ?_
      refine De2 (fun _ k_ => q_al k_) ?_
      refine De2 (fun _ k_ => q_callp (nb) k_) ?_
      refine De20 (fun _ k_ => q_stw k_) ?_
      refine De20 (fun _ k_ => q_stw k_) ?_
      refine dend ?_
      exact sle_sub ⟨rfl, rfl, rfl, rfl, rfl, trivial⟩ rfl
    · refine DLw ?_
      refine DLw ?_
      refine De2 (fun _ k_ => q_al k_) ?_
      refine De2 (fun _ k_ => q_callp (bytes_e u) k_) ?_
      refine De2 (fun _ k_ => q_al k_) ?_
      refine De2 (fun _ k_ => q_callp (nu) k_) ?_
      refine De2 (fun _ k_ => q_callp (nb) k_) ?_
      refine De20 (fun _ k_ => q_stw k_) ?_
      refine De20 (fun _ k_ => q_stw k_) ?_
      refine dend ?_
      exact sle_sub ⟨rfl, rfl, rfl, rfl, rfl, trivial⟩ rfl
    · refine DLw ?_
      refine DLw ?_
      refine De2 (fun _ k_ => q_al k_) ?_
      refine De2 (fun _ k_ => q_al k_) ?_
      refine De2 (fun _ k_ => q_callp (bytes_e u) k_) ?_
      refine De2 (fun _ k_ => q_callp (nu) k_) ?_
      refine De2 (fun _ k_ => q_callp (nb) k_) ?_
      refine De20 (fun _ k_ => q_stw k_) ?_
      refine De20 (fun _ k_ => q_stw k_) ?_
      refine dend ?_
      exact sle_sub ⟨rfl, rfl, rfl, rfl, rfl, trivial⟩ rfl
    · refine DLw ?_
      refine DLw ?_
      refine De2 (fun _ k_ => q_al k_) ?_
      refine De2 (fun _ k_ => q_callp (bytes_e u) k_) ?_
      refine De2 (fun _ k_ => q_callp (nu) k_) ?_
      refine De2 (fun _ k_ => q_callp (nb) k_) ?_
      refine De2 (fun _ k_ => q_al k_) ?_
      refine De20 (fun _ k_ => q_stw k_) ?_
      refine De20 (fun _ k_ => q_stw k_) ?_
      refine dend ?_
      exact sle_view [0, 1, 2, 3, 5, 4] (fun p h => absurd h (Nat.not_lt_zero _)) (by decide) ⟨rfl, rfl, rfl, rfl, rfl, trivial⟩ (Eq.symm (pl1 rfl sees_m (pl1 rfl sees_m (pl1 rfl sees_m (pl1 rfl sees_m (pl1 rfl sees_m (pl1 rfl sees_m pl0)))))))
    · refine DLw ?_
      refine DLw ?_
      refine De2 (fun _ k_ => q_al k_) ?_
      refine De2 (fun _ k_ => q_callp (bytes_e u) k_) ?_
      refine De2 (fun _ k_ => q_callp (nu) k_) ?_
      refine De2 (fun _ k_ => q_al k_) ?_
      refine De2 (fun _ k_ => q_callp (nb) k_) ?_
      refine De20 (fun _ k_ => q_stw k_) ?_
      refine De20 (fun _ k_ => q_stw k_) ?_
      refine dend ?_
      exact sle_view [0, 1, 2, 3, 5, 4] (fun p h => absurd h (Nat.not_lt_zero _)) (by decide) ⟨rfl, rfl, rfl, rfl, rfl, trivial⟩ (Eq.symm (pl1 rfl sees_m (pl1 rfl sees_m (pl1 rfl sees_m (pl1 rfl sees_m (pl1 rfl sees_m (pl1 rfl sees_m pl0)))))))
    · refine DLw ?_
      refine DLw ?_
      refine De2 (fun _ k_ => q_al k_) ?_
      refine De2 (fun _ k_ => q_callp (bytes_e u) k_) ?_
      refine De2 (fun _ k_ => q_al k_) ?_
      refine De2 (fun _ k_ => q_callp (nu) k_) ?_
      refine De2 (fun _ k_ => q_callp (nb) k_) ?_
      refine De20 (fun _ k_ => q_stw k_) ?_
      refine De20 (fun _ k_ => q_stw k_) ?_
      refine dend ?_
      exact sle_view [0, 1, 2, 3, 5, 4] (fun p h => absurd h (Nat.not_lt_zero _)) (by decide) ⟨rfl, rfl, rfl, rfl, rfl, trivial⟩ (Eq.symm (pl1 rfl sees_m (pl1 rfl sees_m (pl1 rfl sees_m (pl1 rfl sees_m (pl1 rfl sees_m (pl1 rfl sees_m pl0)))))))
    refine DLw ?_
    refine DLw ?_
    refine De2 (fun _ k_ => q_al k_) ?_
    refine De2 (fun _ k_ => q_al k_) ?_
    refine De2 (fun _ k_ => q_callp (bytes_e u) k_) ?_
    refine De2 (fun _ k_ => q_callp (nu) k_) ?_
    refine De2 (fun _ k_ => q_callp (nb) k_) ?_
    refine De20 (fun _ k_ => q_stw k_) ?_
    refine De20 (fun _ k_ => q_stw k_) ?_
    refine dend ?_
    exact sle_view [0, 1, 2, 3, 5, 4] (fun p h => absurd h (Nat.not_lt_zero _)) (by decide) ⟨rfl, rfl, rfl, rfl, rfl, trivial⟩ (Eq.symm (pl1 rfl sees_m (pl1 rfl sees_m (pl1 rfl sees_m (pl1 rfl sees_m (pl1 rfl sees_m (pl1 rfl sees_m pl0)))))))
  refine awp_seq ?_
  refine rln ?_
  refine G (q_ldw ?_)
  refine G (q_ldw ?_)
  refine G2 (fun _ k_ => q_callp (gR) k_) ?_
  refine G (q_mv (s := .t _) ?_)
  refine G (q_ext (y := .a _) ?_)
  refine G (q_ext (y := .c _) ?_)
  refine G2 (fun _ k_ => q_al k_) ?_
  refine G20 (fun _ k_ => q_stw k_) ?_
  refine As ?_
  refine gend ?_
  refine awp_seq ?_
  refine rln ?_
  refine G (q_ldw ?_)
  refine G (q_ldw ?_)
  refine G2 (fun _ k_ => q_callp (gQ) k_) ?_
  refine G (q_mv (s := .t _) ?_)
  refine G (q_ext (y := .a _) ?_)
  refine G (q_ext (y := .c _) ?_)
  refine G2 (fun _ k_ => q_al k_) ?_
  refine G20 (fun _ k_ => q_stw k_) ?_
  refine As ?_
  refine gend ?_
  refine awp_seq ?_
  refine awp_seq ?_
  refine rln ?_
  refine Mv ?_
  refine Mv ?_
  refine G (q_neqb ?_)
  refine Mv ?_
  refine Akf 44 (fun hb4 => ?_) ?_; rotate_left
  · rfl
  refine Gg (q_ldw ?_)
  refine Gg (q_ldw ?_)
  refine G2g (fun _ k_ => q_callp (is_t _ _ rfl) k_) ?_
  refine Gg (q_notb ?_)
  refine G (q_pkf ?_)
  refine gend ?_
  refine cndF ?_
  refine awp_skip ?_
  refine awp_seq ?_
  refine rdln [4, 9, 10, 12, 23] [0, 0, 0, 0, 0, 1, 1, 1, 1, 1, 2, 1, 3, 4, 4, 4, 4, 4, 4, 4, 4, 4, 4, 4, 5, 5] [0, 0, 0, 0, 1, 1, 1, 2, 1, 2, 3, 3, 4, 4, 4, 4, 4, 4, 4, 4, 4, 4, 4, 5, 5, 5] ?_
  refine Dp (fun _ => q_mv (s := .v (.c _)) ⟨rfl, rfl⟩) ?_
  refine Dp (fun _ => q_notb ⟨rfl, rfl⟩) ?_
  refine Dp (fun _ => q_mv (s := .v (.c _)) ⟨rfl, rfl⟩) ?_
  refine Dkf 52 (fun hb3 => ?_) ?_; rotate_left
  · rfl
  refine DLwg ?_
  refine De2g (fun _ k_ => q_callp (odd_f z hev) k_) ?_
  refine Dpg (fun _ => q_notb ⟨rfl, rfl⟩) ?_
  refine Dpg (fun _ => q_mv (s := .v (.c _)) ⟨rfl, rfl⟩) ?_
  refine Dkn 56 (fun hb7 => ?_) ?_; rotate_left
  · exact rfl
  refine DLwg ?_
  refine DLwg ?_
  refine De2g (fun _ k_ => q_callp (square_e z) k_) ?_
  refine De2g (fun _ k_ => q_callp (mul_e y (z * z)) k_) ?_
  refine DLwg ?_
  refine De2g (fun _ k_ => q_callp (eq_t _ _ hsq) k_) ?_
  refine Dpg (fun _ => q_pkt ⟨rfl, rfl⟩) ?_
  refine Dp (fun _ => q_pkf ⟨rfl, rfl⟩) ?_
  refine Dp (fun _ => q_mv (s := .v (.c _)) ⟨rfl, rfl⟩) ?_
  refine Dpg (fun _ => q_mv (s := .v (.c _)) ⟨rfl, rfl⟩) ?_
  refine Dpg (fun _ => q_notb ⟨rfl, rfl⟩) ?_
  refine Dpg (fun _ => q_mv (s := .v (.c _)) ⟨rfl, rfl⟩) ?_
  refine Dkf 68 (fun hb19 => ?_) ?_; rotate_left
  · rfl
  refine Dpg (fun _ => q_mv (s := .v (.c _)) ⟨rfl, rfl⟩) ?_
  refine Dpg (fun _ => q_pkf ⟨rfl, rfl⟩) ?_
  refine Dp (fun _ => q_pkt ⟨rfl, rfl⟩) ?_
  refine Dp (fun _ => q_mv (s := .v (.c _)) ⟨rfl, rfl⟩) ?_
  refine Dkn 72 (fun hb23 => ?_) ?_; rotate_left
  · exact rfl
  refine De2g (fun _ k_ => q_callp (known_) k_) ?_
  refine Dp (fun _ => q_pkt ⟨rfl, rfl⟩) ?_
  refine Dp (fun _ => q_as (s := .v (.c _)) ⟨rfl, rfl⟩) ?_
  refine dend ?_
  refine awp_ret ?_
  exact fp1
set_option maxHeartbeats 1600000 in
/-- escutcheonlaw02.FieldRoots -/
theorem roots_ft (a b : List UInt8) (ha : a.length = 32) (hb : b.length = 32) (u : F) (hu : fb a = u) (hok : rOk u (fb b) = true) : Good Try.prog 8 [.a (u8s a), .a (u8s b), .c (.bool false)] [] (sc (.bool true)) [] := by
  have ga := of_e a ha
  have gb := of_e b hb
  have nb := num_ b hb
  generalize fb a = x at ga hu
  generalize fb b = y at gb nb hu hok
  subst hu
  have nu := num_ (bye x) (by32_len _)
  rw [fb_bye] at nu
  have hbu := by32_len x.val
  have gR := root_e x y
  have gQ := Fl.rroot_ x y
  rw [hok] at gR gQ
  have hev := rRt_even x y
  have hsq := rRt_sq hok
  generalize rRt x y = z at gR gQ hev hsq
  have du := de_len x
  have dy := de_len y
  have dz := de_len z
  refine good_frm 75 Try.func8 rfl rfl rfl rfl rfl rfl ?_
  refine awp_seq ?_
  refine rln ?_
  refine G2 (fun _ k_ => q_boxa k_) ?_
  refine G2 (fun _ k_ => q_boxa k_) ?_
  refine As ?_
  refine gend ?_
  refine awp_mid ⟨frm 75 [(2, sc (.bool false)), (3, sc (.ptr 0 0)), (4, sc (.ptr 1 0)), (7, sc (.ptr 2 0)), (8, sc (.ptr 3 0))], [some (u8s a), some (u8s b), some (u64s (el x)), some (u64s (el y))]⟩ ?_ ?_
  · refine rdm [1, 3, 4, 5, 6, 7] [⟨[0, 1, 2, 3, 4, 5, 6, 7], [1, 3, 4, 5, 6, 7], [1, 3, 4, 5, 6, 7], [0, 0, 0, 1, 2, 3, 4, 5], [0, 1, 1, 2, 3, 4, 5, 6]⟩, ⟨[0, 1, 2, 3, 5, 4, 6, 7], [1, 3, 5, 4, 6, 7], [1, 3, 4, 5, 6, 7], [0, 0, 0, 1, 2, 3, 4, 5], [0, 1, 1, 2, 3, 4, 5, 6]⟩, ⟨[0, 1, 2, 4, 3, 5, 6, 7], [1, 4, 3, 5, 6, 7], [1, 3, 4, 5, 6, 7], [0, 0, 0, 1, 2, 3, 4, 5], [0, 1, 2, 2, 3, 4, 5, 6]⟩, ⟨[0, 1, 2, 4, 5, 3, 6, 7], [1, 4, 5, 3, 6, 7], [1, 3, 4, 5, 6, 7], [0, 0, 0, 1, 2, 3, 4, 5], [0, 1, 3, 2, 3, 4, 5, 6]⟩, ⟨[0, 1, 2, 5, 3, 4, 6, 7], [1, 5, 3, 4, 6, 7], [1, 3, 4, 5, 6, 7], [0, 0, 0, 1, 2, 3, 4, 5], [0, 1, 2, 2, 3, 4, 5, 6]⟩, ⟨[0, 1, 2, 5, 4, 3, 6, 7], [1, 5, 4, 3, 6, 7], [1, 3, 4, 5, 6, 7], [0, 0, 0, 1, 2, 3, 4, 5], [0, 1, 3, 2, 3, 4, 5, 6]⟩, ⟨[0, 2, 4, 1, 3, 5, 6, 7], [4, 1, 3, 5, 6, 7], [2, 3, 4, 5, 6, 7], [0, 0, 0, 1, 2, 3, 4, 5], [1, 2, 1, 2, 3, 4, 5, 6]⟩, ⟨[0, 2, 4, 1, 5, 3, 6, 7], [4, 1, 5, 3, 6, 7], [2, 3, 4, 5, 6, 7], [0, 0, 0, 1, 2, 3, 4, 5], [1, 3, 1, 2, 3, 4, 5, 6]⟩, ⟨[0, 2, 4, 5, 1, 3, 6, 7], [4, 5, 1, 3, 6, 7], [2, 3, 4, 5, 6, 7], [0, 0, 0, 1, 2, 3, 4, 5], [2, 3, 1, 2, 3, 4, 5, 6]⟩, ⟨[0, 2, 5, 1, 3, 4, 6, 7], [5, 1, 3, 4, 6, 7], [2, 3, 4, 5, 6, 7], [0, 0, 0, 1, 2, 3, 4, 5], [1, 2, 1, 2, 3, 4, 5, 6]⟩, ⟨[0, 2, 5, 1, 4, 3, 6, 7], [5, 1, 4, 3, 6, 7], [2, 3, 4, 5, 6, 7], [0, 0, 0, 1, 2, 3, 4, 5], [1, 3, 1, 2, 3, 4, 5, 6]⟩, ⟨[0, 2, 5, 4, 1, 3, 6, 7], [5, 4, 1, 3, 6, 7], [2, 3, 4, 5, 6, 7], [0, 0, 0, 1, 2, 3, 4, 5], [2, 3, 1, 2, 3, 4, 5, 6]⟩] ⟨?_, ?_, ?_, ?_, ?_, ?_, ?_, ?_, ?_, ?_, ?_, ?_, trivial⟩   -- region 1
    · refine DLw ?_
      refine De2 (fun _ k_ => q_callp (ga) k_) ?_
      refine DLw ?_
      refine De2 (fun _ k_ => q_callp (gb) k_) ?_
      refine De2 (fun _ k_ => q_al k_) ?_
      refine De2 (fun _ k_ => q_al k_) ?_
      refine De20 (fun _ k_ => q_stw k_) ?_
      refine De20 (fun _ k_ => q_stw k_) ?_
      refine dend ?_
      exact sle_sub ⟨rfl, rfl, rfl, rfl, rfl, trivial⟩ rfl
    · refine DLw ?_
      refine De2 (fun _ k_ => q_callp (ga) k_) ?_
      refine DLw ?_
      refine De2 (fun _ k_ => q_callp (gb) k_) ?_
      refine De2 (fun _ k_ => q_al k_) ?_
      refine De2 (fun _ k_ => q_al k_) ?_
      refine De20 (fun _ k_ => q_stw k_) ?_
      refine De20 (fun _ k_ => q_stw k_) ?_
      refine dend ?_
      exact sle_view [0, 1, 3, 2] (fun p h => absurd h (Nat.not_lt_zero _)) (by decide) ⟨rfl, rfl, rfl, rfl, rfl, trivial⟩ (Eq.symm (pl1 rfl sees_m (pl1 rfl sees_m (pl1 rfl sees_m (pl1 rfl sees_m pl0)))))
    · refine DLw ?_
      refine De2 (fun _ k_ => q_callp (ga) k_) ?_
      refine DLw ?_
      refine De2 (fun _ k_ => q_al k_) ?_
      refine De2 (fun _ k_ => q_callp (gb) k_) ?_
      refine De2 (fun _ k_ => q_al k_) ?_
      refine De20 (fun _ k_ => q_stw k_) ?_
      refine De20 (fun _ k_ => q_stw k_) ?_
      refine dend ?_
      exact sle_sub ⟨rfl, rfl, rfl, rfl, rfl, trivial⟩ rfl
    · refine DLw ?_
      refine De2 (fun _ k_ => q_callp (ga) k_) ?_
      refine DLw ?_
      refine De2 (fun _ k_ => q_al k_) ?_
      refine De2 (fun _ k_ => q_al k_) ?_
      refine De2 (fun _ k_ => q_callp (gb) k_) ?_
      refine De20 (fun _ k_ => q_stw k_) ?_
      refine De20 (fun _ k_ => q_stw k_) ?_
      refine dend ?_
      exact sle_sub ⟨rfl, rfl, rfl, rfl, rfl, trivial⟩ rfl
    · refine DLw ?_
      refine De2 (fun _ k_ => q_callp (ga) k_) ?_
      refine DLw ?_
      refine De2 (fun _ k_ => q_al k_) ?_
      refine De2 (fun _ k_ => q_callp (gb) k_) ?_
      refine De2 (fun _ k_ => q_al k_) ?_
      refine De20 (fun _ k_ => q_stw k_) ?_
      refine De20 (fun _ k_ => q_stw k_) ?_
      refine dend ?_
      exact sle_view [0, 1, 3, 2] (fun p h => absurd h (Nat.not_lt_zero _)) (by decide) ⟨rfl, rfl, rfl, rfl, rfl, trivial⟩ (Eq.symm (pl1 rfl sees_m (pl1 rfl sees_m (pl1 rfl sees_m (pl1 rfl sees_m pl0)))))
    · refine DLw ?_
      refine De2 (fun _ k_ => q_callp (ga) k_) ?_
      refine DLw ?_
      refine De2 (fun _ k_ => q_al k_) ?_
      refine De2 (fun _ k_ => q_al k_) ?_
      refine De2 (fun _ k_ => q_callp (gb) k_) ?_
      refine De20 (fun _ k_ => q_stw k_) ?_
      refine De20 (fun _ k_ => q_stw k_) ?_
      refine dend ?_
      exact sle_view [0, 1, 3, 2] (fun p h => absurd h (Nat.not_lt_zero _)) (by decide) ⟨rfl, rfl, rfl, rfl, rfl, trivial⟩ (Eq.symm (pl1 rfl sees_m (pl1 rfl sees_m (pl1 rfl sees_m (pl1 rfl sees_m pl0)))))
    · refine DLw ?_
      refine DLw ?_
      refine De2 (fun _ k_ => q_al k_) ?_
      refine De2 (fun _ k_ => q_callp (ga) k_) ?_
      refine De2 (fun _ k_ => q_callp (gb) k_) ?_
      refine De2 (fun _ k_ => q_al k_) ?_
      refine De20 (fun _ k_ => q_stw k_) ?_
      refine De20 (fun _ k_ => q_stw k_) ?_
      refine dend ?_
      exact sle_sub ⟨rfl, rfl, rfl, rfl, rfl, trivial⟩ rfl
    · refine DLw ?_
      refine DLw ?_
      refine De2 (fun _ k_ => q_al k_) ?_
      refine De2 (fun _ k_ => q_callp (ga) k_) ?_
      refine De2 (fun _ k_ => q_al k_) ?_
      refine De2 (fun _ k_ => q_callp (gb) k_) ?_
      refine De20 (fun _ k_ => q_stw k_) ?_
      refine De20 (fun _ k_ => q_stw k_) ?_
      refine dend ?_
      exact sle_sub ⟨rfl, rfl, rfl, rfl, rfl, trivial⟩ rfl
    · refine DLw ?_
      refine DLw ?_
      refine De2 (fun _ k_ => q_al k_) ?_
      refine De2 (fun _ k_ => q_al k_) ?_
      refine De2 (fun _ k_ => q_callp (ga) k_) ?_
      refine De2 (fun _ k_ => q_callp (gb) k_) ?_
      refine De20 (fun _ k_ => q_stw k_) ?_
      refine De20 (fun _ k_ => q_stw k_) ?_
      refine dend ?_
      exact sle_sub ⟨rfl, rfl, rfl, rfl, rfl, trivial⟩ rfl
    · refine DLw ?_
      refine DLw ?_
      refine De2 (fun _ k_ => q_al k_) ?_
      refine De2 (fun _ k_ => q_callp (ga) k_) ?_
      refine De2 (fun _ k_ => q_callp (gb) k_) ?_
      refine De2 (fun _ k_ => q_al k_) ?_
      refine De20 (fun _ k_ => q_stw k_) ?_
      refine De20 (fun _ k_ => q_stw k_) ?_
      refine dend ?_
      exact sle_view [0, 1, 3, 2] (fun p h => absurd h (Nat.not_lt_zero _)) (by decide) ⟨rfl, rfl, rfl, rfl, rfl, trivial⟩ (Eq.symm (pl1 rfl sees_m (pl1 rfl sees_m (pl1 rfl sees_m (pl1 rfl sees_m pl0)))))
    · refine DLw ?_
      refine DLw ?_
      refine De2 (fun _ k_ => q_al k_) ?_
      refine De2 (fun _ k_ => q_callp (ga) k_) ?_
      refine De2 (fun _ k_ => q_al k_) ?_
      refine De2 (fun _ k_ => q_callp (gb) k_) ?_
      refine De20 (fun _ k_ => q_stw k_) ?_
      refine De20 (fun _ k_ => q_stw k_) ?_
      refine dend ?_
      exact sle_view [0, 1, 3, 2] (fun p h => absurd h (Nat.not_lt_zero _)) (by decide) ⟨rfl, rfl, rfl, rfl, rfl, trivial⟩ (Eq.symm (pl1 rfl sees_m (pl1 rfl sees_m (pl1 rfl sees_m (pl1 rfl sees_m pl0)))))
    refine DLw ?_
    refine DLw ?_
    refine De2 (fun _ k_ => q_al k_) ?_
    refine De2 (fun _ k_ => q_al k_) ?_
    refine De2 (fun _ k_ => q_callp (ga) k_) ?_
    refine De2 (fun _ k_ => q_callp (gb) k_) ?_
    refine De20 (fun _ k_ => q_stw k_) ?_
    refine De20 (fun _ k_ => q_stw k_) ?_
    refine dend ?_
    exact sle_view [0, 1, 3, 2] (fun p h => absurd h (Nat.not_lt_zero _)) (by decide) ⟨rfl, rfl, rfl, rfl, rfl, trivial⟩ (Eq.symm (pl1 rfl sees_m (pl1 rfl sees_m (pl1 rfl sees_m (pl1 rfl sees_m pl0)))))
  refine awp_seq ?_
  refine awp_seq ?_
  refine rln ?_
  refine Mv ?_
  refine gend ?_
  refine cndbN (fun hc1 => ?_) ?_; rotate_left
  · rfl
  refine awp_skip ?_
  refine awp_mid ⟨frm 75 [(2, sc (.bool false)), (7, sc (.ptr 2 0)), (8, sc (.ptr 3 0)), (9, sc (.ptr 4 0)), (10, sc (.ptr 5 0))], [some (u8s a), some (u8s b), some (u64s (el x)), some (u64s (el y)), some (u64s (de x)), some (u64s (de y))]⟩ ?_ ?_
  · refine rdm [1, 2, 4, 5, 6, 7, 8] [⟨[0, 1, 2, 3, 4, 5, 6, 7, 8], [1, 2, 4, 5, 6, 7, 8], [1, 2, 4, 5, 6, 7, 8], [0, 0, 1, 0, 2, 3, 4, 5, 6], [0, 1, 2, 2, 3, 4, 5, 6, 7]⟩, ⟨[0, 1, 2, 3, 4, 6, 5, 7, 8], [1, 2, 4, 6, 5, 7, 8], [1, 2, 4, 5, 6, 7, 8], [0, 0, 1, 0, 2, 3, 4, 5, 6], [0, 1, 2, 2, 3, 4, 5, 6, 7]⟩, ⟨[0, 1, 2, 3, 5, 4, 6, 7, 8], [1, 2, 5, 4, 6, 7, 8], [1, 2, 4, 5, 6, 7, 8], [0, 0, 1, 0, 2, 3, 4, 5, 6], [0, 1, 2, 3, 3, 4, 5, 6, 7]⟩, ⟨[0, 1, 2, 3, 5, 6, 4, 7, 8], [1, 2, 5, 6, 4, 7, 8], [1, 2, 4, 5, 6, 7, 8], [0, 0, 1, 0, 2, 3, 4, 5, 6], [0, 1, 2, 4, 3, 4, 5, 6, 7]⟩, ⟨[0, 1, 2, 3, 6, 4, 5, 7, 8], [1, 2, 6, 4, 5, 7, 8], [1, 2, 4, 5, 6, 7, 8], [0, 0, 1, 0, 2, 3, 4, 5, 6], [0, 1, 2, 3, 3, 4, 5, 6, 7]⟩, ⟨[0, 1, 2, 3, 6, 5, 4, 7, 8], [1, 2, 6, 5, 4, 7, 8], [1, 2, 4, 5, 6, 7, 8], [0, 0, 1, 0, 2, 3, 4, 5, 6], [0, 1, 2, 4, 3, 4, 5, 6, 7]⟩, ⟨[0, 1, 3, 5, 2, 4, 6, 7, 8], [1, 5, 2, 4, 6, 7, 8], [1, 3, 4, 5, 6, 7, 8], [0, 0, 0, 1, 2, 3, 4, 5, 6], [0, 1, 3, 2, 3, 4, 5, 6, 7]⟩, ⟨[0, 1, 3, 5, 2, 6, 4, 7, 8], [1, 5, 2, 6, 4, 7, 8], [1, 3, 4, 5, 6, 7, 8], [0, 0, 0, 1, 2, 3, 4, 5, 6], [0, 1, 4, 2, 3, 4, 5, 6, 7]⟩, ⟨[0, 1, 3, 5, 6, 2, 4, 7, 8], [1, 5, 6, 2, 4, 7, 8], [1, 3, 4, 5, 6, 7, 8], [0, 0, 0, 1, 2, 3, 4, 5, 6], [0, 1, 4, 2, 3, 4, 5, 6, 7]⟩, ⟨[0, 1, 3, 6, 2, 4, 5, 7, 8], [1, 6, 2, 4, 5, 7, 8], [1, 3, 4, 5, 6, 7, 8], [0, 0, 0, 1, 2, 3, 4, 5, 6], [0, 1, 3, 2, 3, 4, 5, 6, 7]⟩, ⟨[0, 1, 3, 6, 2, 5, 4, 7, 8], [1, 6, 2, 5, 4, 7, 8], [1, 3, 4, 5, 6, 7, 8], [0, 0, 0, 1, 2, 3, 4, 5, 6], [0, 1, 4, 2, 3, 4, 5, 6, 7]⟩, ⟨[0, 1, 3, 6, 5, 2, 4, 7, 8], [1, 6, 5, 2, 4, 7, 8], [1, 3, 4, 5, 6, 7, 8], [0, 0, 0, 1, 2, 3, 4, 5, 6], [0, 1, 4, 2, 3, 4, 5, 6, 7]⟩, ⟨[0, 3, 5, 1, 2, 4, 6, 7, 8], [5, 1, 2, 4, 6, 7, 8], [2, 3, 4, 5, 6, 7, 8], [0, 0, 0, 1, 2, 3, 4, 5, 6], [1, 3, 1, 2, 3, 4, 5, 6, 7]⟩, ⟨[0, 3, 5, 1, 2, 6, 4, 7, 8], [5, 1, 2, 6, 4, 7, 8], [2, 3, 4, 5, 6, 7, 8], [0, 0, 0, 1, 2, 3, 4, 5, 6], [1, 4, 1, 2, 3, 4, 5, 6, 7]⟩, ⟨[0, 3, 5, 1, 6, 2, 4, 7, 8], [5, 1, 6, 2, 4, 7, 8], [2, 3, 4, 5, 6, 7, 8], [0, 0, 0, 1, 2, 3, 4, 5, 6], [1, 4, 1, 2, 3, 4, 5, 6, 7]⟩, ⟨[0, 3, 5, 6, 1, 2, 4, 7, 8], [5, 6, 1, 2, 4, 7, 8], [2, 3, 4, 5, 6, 7, 8], [0, 0, 0, 1, 2, 3, 4, 5, 6], [2, 4, 1, 2, 3, 4, 5, 6, 7]⟩, ⟨[0, 3, 6, 1, 2, 4, 5, 7, 8], [6, 1, 2, 4, 5, 7, 8], [2, 3, 4, 5, 6, 7, 8], [0, 0, 0, 1, 2, 3, 4, 5, 6], [1, 3, 1, 2, 3, 4, 5, 6, 7]⟩, ⟨[0, 3, 6, 1, 2, 5, 4, 7, 8], [6, 1, 2, 5, 4, 7, 8], [2, 3, 4, 5, 6, 7, 8], [0, 0, 0, 1, 2, 3, 4, 5, 6], [1, 4, 1, 2, 3, 4, 5, 6, 7]⟩, ⟨[0, 3, 6, 1, 5, 2, 4, 7, 8], [6, 1, 5, 2, 4, 7, 8], [2, 3, 4, 5, 6, 7, 8], [0, 0, 0, 1, 2, 3, 4, 5, 6], [1, 4, 1, 2, 3, 4, 5, 6, 7]⟩, ⟨[0, 3, 6, 5, 1, 2, 4, 7, 8], [6, 5, 1, 2, 4, 7, 8], [2, 3, 4, 5, 6, 7, 8], [0, 0, 0, 1, 2, 3, 4, 5, 6], [2, 4, 1, 2, 3, 4, 5, 6, 7]⟩] ⟨?_, ?_, ?_, ?_, ?_, ?_, ?_, ?_, ?_, ?_, ?_, ?_, ?_, ?_, ?_, ?_, ?_, ?_, ?_, ?_, trivial⟩   -- region 4
    · refine DLw ?_
      refine De2 (fun _ k_ => q_callp (bytes_e x) k_) ?_
      refine De2 (fun _ k_ => q_callp (nu) k_) ?_
      refine DLw ?_
      refine De2 (fun _ k_ => q_callp (nb) k_) ?_
      refine De2 (fun _ k_ => q_al k_) ?_
      refine De2 (fun _ k_ => q_al k_) ?_
      refine De20 (fun _ k_ => q_stw k_) ?_
      refine De20 (fun _ k_ => q_stw k_) ?_
      refine dend ?_
      exact sle_sub ⟨rfl, rfl, rfl, rfl, rfl, trivial⟩ rfl
    · refine DLw ?_
      refine De2 (fun _ k_ => q_callp (bytes_e x) k_) ?_
      refine De2 (fun _ k_ => q_callp (nu) k_) ?_
      refine DLw ?_
      refine De2 (fun _ k_ => q_callp (nb) k_) ?_
      refine De2 (fun _ k_ => q_al k_) ?_
      refine De2 (fun _ k_ => q_al k_) ?_
      refine De20 (fun _ k_ => q_stw k_) ?_
      refine De20 (fun _ k_ => q_stw k_) ?_
      refine dend ?_
      exact sle_view [0, 1, 2, 3, 5, 4] (fun p h => absurd h (Nat.not_lt_zero _)) (by decide) ⟨rfl, rfl, rfl, rfl, rfl, trivial⟩ (Eq.symm (pl1 rfl sees_m (pl1 rfl sees_m (pl1 rfl sees_m (pl1 rfl sees_m (pl1 rfl sees_m (pl1 rfl sees_m pl0)))))))
    · refine DLw ?_
      refine De2 (fun _ k_ => q_callp (bytes_e x) k_) ?_
      refine De2 (fun _ k_ => q_callp (nu) k_) ?_
      refine DLw ?_
      refine De2 (fun _ k_ => q_al k_) ?_
      refine De2 (fun _ k_ => q_callp (nb) k_) ?_
      refine De2 (fun _ k_ => q_al k_) ?_
      refine De20 (fun _ k_ => q_stw k_) ?_
      refine De20 (fun _ k_ => q_stw k_) ?_
      refine dend ?_
      exact sle_sub ⟨rfl, rfl, rfl, rfl, rfl, trivial⟩ rfl
    · refine DLw ?_
      refine De2 (fun _ k_ => q_callp (bytes_e x) k_) ?_
      refine De2 (fun _ k_ => q_callp (nu) k_) ?_
      refine DLw ?_
      refine De2 (fun _ k_ => q_al k_) ?_
      refine De2 (fun _ k_ => q_al k_) ?_
      refine De2 (fun _ k_ => q_callp (nb) k_) ?_
      refine De20 (fun _ k_ => q_stw k_) ?_
      refine De20 (fun _ k_ => q_stw k_) ?_
      refine dend ?_
      exact sle_sub ⟨rfl, rfl, rfl, rfl, rfl, trivial⟩ rfl
    · refine DLw ?_
      refine De2 (fun _ k_ => q_callp (bytes_e x) k_) ?_
      refine De2 (fun _ k_ => q_callp (nu) k_) ?_
      refine DLw ?_
      refine De2 (fun _ k_ => q_al k_) ?_
      refine De2 (fun _ k_ => q_callp (nb) k_) ?_
      refine De2 (fun _ k_ => q_al k_) ?_
      refine De20 (fun _ k_ => q_stw k_) ?_
      refine De20 (fun _ k_ => q_stw k_) ?_
      refine dend ?_
      exact sle_view [0, 1, 2, 3, 5, 4] (fun p h => absurd h (Nat.not_lt_zero _)) (by decide) ⟨rfl, rfl, rfl, rfl, rfl, trivial⟩ (Eq.symm (pl1 rfl sees_m (pl1 rfl sees_m (pl1 rfl sees_m (pl1 rfl sees_m (pl1 rfl sees_m (pl1 rfl sees_m pl0)))))))
    · refine DLw ?_
      refine De2 (fun _ k_ => q_callp (bytes_e x) k_) ?_
      refine De2 (fun _ k_ => q_callp (nu) k_) ?_
      refine DLw ?_
      refine De2 (fun _ k_ => q_al k_) ?_
      refine De2 (fun _ k_ => q_al k_) ?_
      refine De2 (fun _ k_ => q_callp (nb) k_) ?_
      refine De20 (fun _ k_ => q_stw k_) ?_
      refine De20 (fun _ k_ => q_stw k_) ?_
      refine dend ?_
      exact sle_view [0, 1, 2, 3, 5, 4] (fun p h => absurd h (Nat.not_lt_zero _)) (by decide) ⟨rfl, rfl, rfl, rfl, rfl, trivial⟩ (Eq.symm (pl1 rfl sees_m (pl1 rfl sees_m (pl1 rfl sees_m (pl1 rfl sees_m (pl1 rfl sees_m (pl1 rfl sees_m pl0)))))))
    · refine DLw ?_
      refine De2 (fun _ k_ => q_callp (bytes_e x) k_) ?_
      refine DLw ?_
      refine De2 (fun _ k_ => q_al k_) ?_
      refine De2 (fun _ k_ => q_callp (nu) k_) ?_
      refine De2 (fun _ k_ => q_callp (nb) k_) ?_
      refine De2 (fun _ k_ => q_al k_) ?_
      refine De20 (fun _ k_ => q_stw k_) ?_
      refine De20 (fun _ k_ => q_stw k_) ?_
      refine dend ?_
      exact sle_sub ⟨rfl, rfl, rfl, rfl, rfl, trivial⟩ rfl
    · refine DLw ?_
      refine De2 (fun _ k_ => q_callp (bytes_e x) k_) ?_
      refine DLw ?_
      refine De2 (fun _ k_ => q_al k_) ?_
      refine De2 (fun _ k_ => q_callp (nu) k_) ?_
      refine De2 (fun _ k_ => q_al k_) ?_
      refine De2 (fun _ k_ => q_callp (nb) k_) ?_
      refine De20 (fun _ k_ => q_stw k_) ?_
      refine De20 (fun _ k_ => q_stw k_) ?_
      refine dend ?_
      exact sle_sub ⟨rfl, rfl, rfl, rfl, rfl, trivial⟩ rfl
    · refine DLw ?_
      refine De2 (fun _ k_ => q_callp (bytes_e x) k_) ?_
      refine DLw ?_
      refine De2 (fun _ k_ => q_al k_) ?_
      refine De2 (fun _ k_ => q_al k_) ?_
      refine De2 (fun _ k_ => q_callp (nu) k_) ?_
      refine De2 (fun _ k_ => q_callp (nb) k_) ?_
      refine De20 (fun _ k_ => q_stw k_) ?_
      refine De20 (fun _ k_ => q_stw k_) ?_
      refine dend ?_
      exact sle_sub ⟨rfl, rfl, rfl, rfl, rfl, trivial⟩ rfl
    · refine DLw ?_
      refine De2 (fun _ k_ => q_callp (bytes_e x) k_) ?_
      refine DLw ?_
      refine De2 (fun _ k_ => q_al k_) ?_
      refine De2 (fun _ k_ => q_callp (nu) k_) ?_
      refine De2 (fun _ k_ => q_callp (nb) k_) ?_
      refine De2 (fun _ k_ => q_al k_) ?_
      refine De20 (fun _ k_ => q_stw k_) ?_
      refine De20 (fun _ k_ => q_stw k_) ?_
      refine dend ?_
      exact sle_view [0, 1, 2, 3, 5, 4] (fun p h => absurd h (Nat.not_lt_zero _)) (by decide) ⟨rfl, rfl, rfl, rfl, rfl, trivial⟩ (Eq.symm (pl1 rfl sees_m (pl1 rfl sees_m (pl1 rfl sees_m (pl1 rfl sees_m (pl1 rfl sees_m (pl1 rfl sees_m pl0)))))))
    · refine DLw ?_
      refine De2 (fun _ k_ => q_callp (bytes_e x) k_) ?_
      refine DLw ?_
      refine De2 (fun _ k_ => q_al k_) ?_
      refine De2 (fun _ k_ => q_callp (nu) k_) ?_
      refine De2 (fun _ k_ => q_al k_) ?_
      refine De2 (fun _ k_ => q_callp (nb) k_) ?_
      refine De20 (fun _ k_ => q_stw k_) ?_
      refine De20 (fun _ k_ => q_stw k_) ?_
      refine dend ?_
      exact sle_view [0, 1, 2, 3, 5, 4] (fun p h => absurd h (Nat.not_lt_zero _)) (by decide) ⟨rfl, rfl, rfl, rfl, rfl, trivial⟩ (Eq.symm (pl1 rfl sees_m (pl1 rfl sees_m (pl1 rfl sees_m (pl1 rfl sees_m (pl1 rfl sees_m (pl1 rfl sees_m pl0)))))))
    · refine DLw ?_
      refine De2 (fun _ k_ => q_callp (bytes_e x) k_) ?_
      refine DLw ?_
      refine De2 (fun _ k_ => q_al k_) ?_
      refine De2 (fun _ k_ => q_al k_) ?_
      refine De2 (fun _ k_ => q_callp (nu) k_) ?_
      refine De2 (fun _ k_ => q_callp (nb) k_) ?_
      refine De20 (fun _ k_ => q_stw k_) ?_
      refine De20 (fun _ k_ => q_stw k_) ?_
      refine dend ?_
      exact sle_view [0, 1, 2, 3, 5, 4] (fun p h => absurd h (Nat.not_lt_zero _)) (by decide) ⟨rfl, rfl, rfl, rfl, rfl, trivial⟩ (Eq.symm (pl1 rfl sees_m (pl1 rfl sees_m (pl1 rfl sees_m (pl1 rfl sees_m (pl1 rfl sees_m (pl1 rfl sees_m pl0)))))))
    · refine DLw ?_
      refine DLw ?_
      refine De2 (fun _ k_ => q_al k_) ?_
      refine De2 (fun _ k_ => q_callp (bytes_e x) k_) ?_
      refine De2 (fun _ k_ => q_callp (nu) k_) ?_
      refine De2 (fun _ k_ => q_callp (nb) k_) ?_
      refine De2 (fun _ k_ => q_al k_) ?_
      refine De20 (fun _ k_ => q_stw k_) ?_
      refine De20 (fun _ k_ => q_stw k_) ?_
      refine dend ?_
      exact sle_sub ⟨rfl, rfl, rfl, rfl, rfl, trivial⟩ rfl
    · refine DLw ?_
      refine DLw ?_
      refine De2 (fun _ k_ => q_al k_) ?_
      refine De2 (fun _ k_ => q_callp (bytes_e x) k_) ?_
      refine De2 (fun _ k_ => q_callp (nu) k_) ?_
      refine De2 (fun _ k_ => q_al k_) ?_
      refine De2 (fun _ k_ => q_callp (nb) k_) ?_
      refine De20 (fun _ k_ => q_stw k_) ?_
      refine De20 (fun _ k_ => q_stw k_) ?_
      refine dend ?_
      exact sle_sub ⟨rfl, rfl, rfl, rfl, rfl, trivial⟩ rfl
    · refine DLw ?_
      refine DLw ?_
      refine De2 (fun _ k_ => q_al k_) ?_
      refine De2 (fun _ k_ => q_callp (bytes_e x) k_) ?_
      refine De2 (fun _ k_ => q_al k_) ?_
      refine De2 (fun _ k_ => q_callp (nu) k_) ?_
      refine De2 (fun _ k_ => q_callp (nb) k_) ?_
      refine De20 (fun _ k_ => q_stw k_) ?_
      refine De20 (fun _ k_ => q_stw k_) ?_
      refine dend ?_
      exact sle_sub ⟨rfl, rfl, rfl, rfl, rfl, trivial⟩ rfl
    · refine DLw ?_
      refine DLw ?_
      refine De2 (fun _ k_ => q_al k_) ?_
      refine De2 (fun _ k_ => q_al k_) ?_
      refine De2 (fun _ k_ => q_callp (bytes_e x) k_) ?_
      refine De2 (fun _ k_ => q_callp (nu) k_) ?_
      refine De2 (fun _ k_ => q_callp (nb) k_) ?_
      refine De20 (fun _ k_ => q_stw k_) ?_
      refine De20 (fun _ k_ => q_stw k_) ?_
      refine dend ?_
      exact sle_sub ⟨rfl, rfl, rfl, rfl, rfl, trivial⟩ rfl
    · refine DLw ?_
      refine DLw ?_
      refine De2 (fun _ k_ => q_al k_) ?_
      refine De2 (fun _ k_ => q_callp (bytes_e x) k_) ?_
      refine De2 (fun _ k_ => q_callp (nu) k_) ?_
      refine De2 (fun _ k_ => q_callp (nb) k_) ?_
      refine De2 (fun _ k_ => q_al k_) ?_
      refine De20 (fun _ k_ => q_stw k_) ?_
      refine De20 (fun _ k_ => q_stw k_) ?_
      refine dend ?_
      exact sle_view [0, 1, 2, 3, 5, 4] (fun p h => absurd h (Nat.not_lt_zero _)) (by decide) ⟨rfl, rfl, rfl, rfl, rfl, trivial⟩ (Eq.symm (pl1 rfl sees_m (pl1 rfl sees_m (pl1 rfl sees_m (pl1 rfl sees_m (pl1 rfl sees_m (pl1 rfl sees_m pl0)))))))
    · refine DLw ?_
      refine DLw ?_
      refine De2 (fun _ k_ => q_al k_) ?_
      refine De2 (fun _ k_ => q_callp (bytes_e x) k_) ?_
      refine De2 (fun _ k_ => q_callp (nu) k_) ?_
      refine De2 (fun _ k_ => q_al k_) ?_
      refine De2 (fun _ k_ => q_callp (nb) k_) ?_
      refine De20 (fun _ k_ => q_stw k_) ?_
      refine De20 (fun _ k_ => q_stw k_) ?_
      refine dend ?_
      exact sle_view [0, 1, 2, 3, 5, 4] (fun p h => absurd h (Nat.not_lt_zero _)) (by decide) ⟨rfl, rfl, rfl, rfl, rfl, trivial⟩ (Eq.symm (pl1 rfl sees_m (pl1 rfl sees_m (pl1 rfl sees_m (pl1 rfl sees_m (pl1 rfl sees_m (pl1 rfl sees_m pl0)))))))
    · refine DLw ?_
      refine DLw ?_
      refine De2 (fun _ k_ => q_al k_) ?_
      refine De2 (fun _ k_ => q_callp (bytes_e x) k_) ?_
      refine De2 (fun _ k_ => q_al k_) ?_
      refine De2 (fun _ k_ => q_callp (nu) k_) ?_
      refine De2 (fun _ k_ => q_callp (nb) k_) ?_
      refine De20 (fun _ k_ => q_stw k_) ?_
      refine De20 (fun _ k_ => q_stw k_) ?_
      refine dend ?_
      exact sle_view [0, 1, 2, 3, 5, 4] (fun p h => absurd h (Nat.not_lt_zero _)) (by decide) ⟨rfl, rfl, rfl, rfl, rfl, trivial⟩ (Eq.symm (pl1 rfl sees_m (pl1 rfl sees_m (pl1 rfl sees_m (pl1 rfl sees_m (pl1 rfl sees_m (pl1 rfl sees_m pl0)))))))
    refine DLw ?_
    refine DLw ?_
    refine De2 (fun _ k_ => q_al k_) ?_
    refine De2 (fun _ k_ => q_al k_) ?_
    refine De2 (fun _ k_ => q_callp (bytes_e x) k_) ?_
    refine De2 (fun _ k_ => q_callp (nu) k_) ?_
    refine De2 (fun _ k_ => q_callp (nb) k_) ?_
    refine De20 (fun _ k_ => q_stw k_) ?_
    refine De20 (fun _ k_ => q_stw k_) ?_
    refine dend ?_
    exact sle_view [0, 1, 2, 3, 5, 4] (fun p h => absurd h (Nat.not_lt_zero _)) (by decide) ⟨rfl, rfl, rfl, rfl, rfl, trivial⟩ (Eq.symm (pl1 rfl sees_m (pl1 rfl sees_m (pl1 rfl sees_m (pl1 rfl sees_m (pl1 rfl sees_m (pl1 rfl sees_m pl0)))))))
  refine awp_seq ?_
  refine rln ?_
  refine G (q_ldw ?_)
  refine G (q_ldw ?_)
  refine G2 (fun _ k_ => q_callp (gR) k_) ?_
  refine G (q_mv (s := .t _) ?_)
  refine G (q_ext (y := .a _) ?_)
  refine G (q_ext (y := .c _) ?_)
  refine G2 (fun _ k_ => q_al k_) ?_
  refine G20 (fun _ k_ => q_stw k_) ?_
  refine As ?_
  refine gend ?_
  refine awp_seq ?_
  refine rln ?_
  refine G (q_ldw ?_)
  refine G (q_ldw ?_)
  refine G2 (fun _ k_ => q_callp (gQ) k_) ?_
  refine G (q_mv (s := .t _) ?_)
  refine G (q_ext (y := .a _) ?_)
  refine G (q_ext (y := .c _) ?_)
  refine G2 (fun _ k_ => q_al k_) ?_
  refine G20 (fun _ k_ => q_stw k_) ?_
  refine As ?_
  refine gend ?_
  refine awp_seq ?_
  refine awp_seq ?_
  refine rln ?_
  refine Mv ?_
  refine Mv ?_
  refine G (q_neqb ?_)
  refine Mv ?_
  refine Akf 44 (fun hb4 => ?_) ?_; rotate_left
  · rfl
  refine Gg (q_ldw ?_)
  refine Gg (q_ldw ?_)
  refine G2g (fun _ k_ => q_callp (is_t _ _ rfl) k_) ?_
  refine Gg (q_notb ?_)
  refine G (q_pkf ?_)
  refine gend ?_
  refine cndF ?_
  refine awp_skip ?_
  refine awp_seq ?_
  refine rdln [4, 9, 10, 12, 23] [0, 0, 0, 0, 0, 1, 1, 1, 1, 1, 2, 1, 3, 4, 4, 4, 4, 4, 4, 4, 4, 4, 4, 4, 5, 5] [0, 0, 0, 0, 1, 1, 1, 2, 1, 2, 3, 3, 4, 4, 4, 4, 4, 4, 4, 4, 4, 4, 4, 5, 5, 5] ?_
  refine Dp (fun _ => q_mv (s := .v (.c _)) ⟨rfl, rfl⟩) ?_
  refine Dp (fun _ => q_notb ⟨rfl, rfl⟩) ?_
  refine Dp (fun _ => q_mv (s := .v (.c _)) ⟨rfl, rfl⟩) ?_
  refine Dkf 52 (fun hb3 => ?_) ?_; rotate_left
  · rfl
  refine DLwg ?_
  refine De2g (fun _ k_ => q_callp (odd_f z hev) k_) ?_
  refine Dpg (fun _ => q_notb ⟨rfl, rfl⟩) ?_
  refine Dpg (fun _ => q_mv (s := .v (.c _)) ⟨rfl, rfl⟩) ?_
  refine Dkn 56 (fun hb7 => ?_) ?_; rotate_left
  · exact rfl
  refine DLwg ?_
  refine DLwg ?_
  refine De2g (fun _ k_ => q_callp (square_e z) k_) ?_
  refine De2g (fun _ k_ => q_callp (mul_e y (z * z)) k_) ?_
  refine DLwg ?_
  refine De2g (fun _ k_ => q_callp (eq_t _ _ hsq) k_) ?_
  refine Dpg (fun _ => q_pkt ⟨rfl, rfl⟩) ?_
  refine Dp (fun _ => q_pkf ⟨rfl, rfl⟩) ?_
  refine Dp (fun _ => q_mv (s := .v (.c _)) ⟨rfl, rfl⟩) ?_
  refine Dpg (fun _ => q_mv (s := .v (.c _)) ⟨rfl, rfl⟩) ?_
  refine Dpg (fun _ => q_notb ⟨rfl, rfl⟩) ?_
  refine Dpg (fun _ => q_mv (s := .v (.c _)) ⟨rfl, rfl⟩) ?_
  refine Dkn 68 (fun hb19 => ?_) ?_; rotate_left
  · rfl
  refine Dn ?_
  refine Dpg (fun _ => q_pkt ⟨rfl, rfl⟩) ?_
  refine Dp (fun _ => q_pkt ⟨rfl, rfl⟩) ?_
  refine Dp (fun _ => q_mv (s := .v (.c _)) ⟨rfl, rfl⟩) ?_
  refine De2g (fun _ k_ => q_callp (known_) k_) ?_
  refine Dp (fun _ => q_pkt ⟨rfl, rfl⟩) ?_
  refine Dp (fun _ => q_as (s := .v (.c _)) ⟨rfl, rfl⟩) ?_
  refine dend ?_
  refine awp_ret ?_
  exact fp1
set_option maxHeartbeats 1600000 in
/-- escutcheonlaw02.FieldRoots -/
theorem roots_ff (a b : List UInt8) (ha : a.length = 32) (hb : b.length = 32) (u : F) (hu : fb a = u) (hok : rOk u (fb b) = false) : Good Try.prog 8 [.a (u8s a), .a (u8s b), .c (.bool false)] [] (sc (.bool true)) [] := by
  have ga := of_e a ha
  have gb := of_e b hb
  have nb := num_ b hb
  generalize fb a = x at ga hu
  generalize fb b = y at gb nb hu hok
  subst hu
  have nu := num_ (bye x) (by32_len _)
  rw [fb_bye] at nu
  have hbu := by32_len x.val
  have gR := root_e x y
  have gQ := Fl.rroot_ x y
  rw [hok] at gR gQ
  have hev := rRt_even x y
  generalize rRt x y = z at gR gQ hev
  have du := de_len x
  have dy := de_len y
  have dz := de_len z
  refine good_frm 75 Try.func8 rfl rfl rfl rfl rfl rfl ?_
  refine awp_seq ?_
  refine rln ?_
  refine G2 (fun _ k_ => q_boxa k_) ?_
  refine G2 (fun _ k_ => q_boxa k_) ?_
  refine As ?_
  refine gend ?_
  refine awp_mid ⟨frm 75 [(2, sc (.bool false)), (3, sc (.ptr 0 0)), (4, sc (.ptr 1 0)), (7, sc (.ptr 2 0)), (8, sc (.ptr 3 0))], [some (u8s a), some (u8s b), some (u64s (el x)), some (u64s (el y))]⟩ ?_ ?_
  · refine rdm [1, 3, 4, 5, 6, 7] [⟨[0, 1, 2, 3, 4, 5, 6, 7], [1, 3, 4, 5, 6, 7], [1, 3, 4, 5, 6, 7], [0, 0, 0, 1, 2, 3, 4, 5], [0, 1, 1, 2, 3, 4, 5, 6]⟩, ⟨[0, 1, 2, 3, 5, 4, 6, 7], [1, 3, 5, 4, 6, 7], [1, 3, 4, 5, 6, 7], [0, 0, 0, 1, 2, 3, 4, 5], [0, 1, 1, 2, 3, 4, 5, 6]⟩, ⟨[0, 1, 2, 4, 3, 5, 6, 7], [1, 4, 3, 5, 6, 7], [1, 3, 4, 5, 6, 7], [0, 0, 0, 1, 2, 3, 4, 5], [0, 1, 2, 2, 3, 4, 5, 6]⟩, ⟨[0, 1, 2, 4, 5, 3, 6, 7], [1, 4, 5, 3, 6, 7], [1, 3, 4, 5, 6, 7], [0, 0, 0, 1, 2, 3, 4, 5], [0, 1, 3, 2, 3, 4, 5, 6]⟩, ⟨[0, 1, 2, 5, 3, 4, 6, 7], [1, 5, 3, 4, 6, 7], [1, 3, 4, 5, 6, 7], [0, 0, 0, 1, 2, 3, 4, 5], [0, 1, 2, 2, 3, 4, 5, 6]⟩, ⟨[0, 1, 2, 5, 4, 3, 6, 7], [1, 5, 4, 3, 6, 7], [1, 3, 4, 5, 6, 7], [0, 0, 0, 1, 2, 3, 4, 5], [0, 1, 3, 2, 3, 4, 5, 6]⟩, ⟨[0, 2, 4, 1, 3, 5, 6, 7], [4, 1, 3, 5, 6, 7], [2, 3, 4, 5, 6, 7], [0, 0, 0, 1, 2, 3, 4, 5], [1, 2, 1, 2, 3, 4, 5, 6]⟩, ⟨[0, 2, 4, 1, 5, 3, 6, 7], [4, 1, 5, 3, 6, 7], [2, 3, 4, 5, 6, 7], [0, 0, 0, 1, 2, 3, 4, 5], [1, 3, 1, 2, 3, 4, 5, 6]⟩, ⟨[0, 2, 4, 5, 1, 3, 6, 7], [4, 5, 1, 3, 6, 7], [2, 3, 4, 5, 6, 7], [0, 0, 0, 1, 2, 3, 4, 5], [2, 3, 1, 2, 3, 4, 5, 6]⟩, ⟨[0, 2, 5, 1, 3, 4, 6, 7], [5, 1, 3, 4, 6, 7], [2, 3, 4, 5, 6, 7], [0, 0, 0, 1, 2, 3, 4, 5], [1, 2, 1, 2, 3, 4, 5, 6]⟩, ⟨[0, 2, 5, 1, 4, 3, 6, 7], [5, 1, 4, 3, 6, 7], [2, 3, 4, 5, 6, 7], [0, 0, 0, 1, 2, 3, 4, 5], [1, 3, 1, 2, 3, 4, 5, 6]⟩, ⟨[0, 2, 5, 4, 1, 3, 6, 7], [5, 4, 1, 3, 6, 7], [2, 3, 4, 5, 6, 7], [0, 0, 0, 1, 2, 3, 4, 5], [2, 3, 1, 2, 3, 4, 5, 6]⟩] ⟨?_, ?_, ?_, ?_, ?_, ?_, ?_, ?_, ?_, ?_, ?_, ?_, trivial⟩   -- region 1
    · refine DLw ?_
      refine De2 (fun _ k_ => q_callp (ga) k_) ?_
      refine DLw ?_
      refine De2 (fun _ k_ => q_callp (gb) k_) ?_
      refine De2 (fun _ k_ => q_al k_) ?_
      refine De2 (fun _ k_ => q_al k_) ?_
      refine De20 (fun _ k_ => q_stw k_) ?_
      refine De20 (fun _ k_ => q_stw k_) ?_
      refine dend ?_
      exact sle_sub ⟨rfl, rfl, rfl, rfl, rfl, trivial⟩ rfl
    · refine DLw ?_
      refine De2 (fun _ k_ => q_callp (ga) k_) ?_
      refine DLw ?_
      refine De2 (fun _ k_ => q_callp (gb) k_) ?_
      refine De2 (fun _ k_ => q_al k_) ?_
      refine De2 (fun _ k_ => q_al k_) ?_
      refine De20 (fun _ k_ => q_stw k_) ?_
      refine De20 (fun _ k_ => q_stw k_) ?_
      refine dend ?_
      exact sle_view [0, 1, 3, 2] (fun p h => absurd h (Nat.not_lt_zero _)) (by decide) ⟨rfl, rfl, rfl, rfl, rfl, trivial⟩ (Eq.symm (pl1 rfl sees_m (pl1 rfl sees_m (pl1 rfl sees_m (pl1 rfl sees_m pl0)))))
    · refine DLw ?_
      refine De2 (fun _ k_ => q_callp (ga) k_) ?_
      refine DLw ?_
      refine De2 (fun _ k_ => q_al k_) ?_
      refine De2 (fun _ k_ => q_callp (gb) k_) ?_
      refine De2 (fun _ k_ => q_al k_) ?_
      refine De20 (fun _ k_ => q_stw k_) ?_
      refine De20 (fun _ k_ => q_stw k_) ?_
      refine dend ?_
      exact sle_sub ⟨rfl, rfl, rfl, rfl, rfl, trivial⟩ rfl
    · refine DLw ?_
      refine De2 (fun _ k_ => q_callp (ga) k_) ?_
      refine DLw ?_
      refine De2 (fun _ k_ => q_al k_) ?_
      refine De2 (fun _ k_ => q_al k_) ?_
      refine De2 (fun _ k_ => q_callp (gb) k_) ?_
      refine De20 (fun _ k_ => q_stw k_) ?_
      refine De20 (fun _ k_ => q_stw k_) ?_
      refine dend ?_
      exact sle_sub ⟨rfl, rfl, rfl, rfl, rfl, trivial⟩ rfl
    · refine DLw ?_
      refine De2 (fun _ k_ => q_callp (ga) k_) ?_
      refine DLw ?_
      refine De2 (fun _ k_ => q_al k_) ?_
      refine De2 (fun _ k_ => q_callp (gb) k_) ?_
      refine De2 (fun _ k_ => q_al k_) ?_
      refine De20 (fun _ k_ => q_stw k_) ?_
      refine De20 (fun _ k_ => q_stw k_) ?_
      refine dend ?_
      exact sle_view [0, 1, 3, 2] (fun p h => absurd h (Nat.not_lt_zero _)) (by decide) ⟨rfl, rfl, rfl, rfl, rfl, trivial⟩ (Eq.symm (pl1 rfl sees_m (pl1 rfl sees_m (pl1 rfl sees_m (pl1 rfl sees_m pl0)))))
    · refine DLw ?_
      refine De2 (fun _ k_ => q_callp (ga) k_) ?_
      refine DLw ?_
      refine De2 (fun _ k_ => q_al k_) ?_
      refine De2 (fun _ k_ => q_al k_) ?_
      refine De2 (fun _ k_ => q_callp (gb) k_) ?_
      refine De20 (fun _ k_ => q_stw k_) ?_
      refine De20 (fun _ k_ => q_stw k_) ?_
      refine dend ?_
      exact sle_view [0, 1, 3, 2] (fun p h => absurd h (Nat.not_lt_zero _)) (by decide) ⟨rfl, rfl, rfl, rfl, rfl, trivial⟩ (Eq.symm (pl1 rfl sees_m (pl1 rfl sees_m (pl1 rfl sees_m (pl1 rfl sees_m pl0)))))
    · refine DLw ?_
      refine DLw ?_
      refine De2 (fun _ k_ => q_al k_) ?_
      refine De2 (fun _ k_ => q_callp (ga) k_) ?_
      refine De2 (fun _ k_ => q_callp (gb) k_) ?_
      refine De2 (fun _ k_ => q_al k_) ?_
      refine De20 (fun _ k_ => q_stw k_) ?_
      refine De20 (fun _ k_ => q_stw k_) ?_
      refine dend ?_
      exact sle_sub ⟨rfl, rfl, rfl, rfl, rfl, trivial⟩ rfl
    · refine DLw ?_
      refine DLw ?_
      refine De2 (fun _ k_ => q_al k_) ?_
      refine De2 (fun _ k_ => q_callp (ga) k_) ?_
      refine De2 (fun _ k_ => q_al k_) ?_
      refine De2 (fun _ k_ => q_callp (gb) k_) ?_
      refine De20 (fun _ k_ => q_stw k_) ?_
      refine De20 (fun _ k_ => q_stw k_) ?_
      refine dend ?_
      exact sle_sub ⟨rfl, rfl, rfl, rfl, rfl, trivial⟩ rfl
    · refine DLw ?_
      refine DLw ?_
      refine De2 (fun _ k_ => q_al k_) ?_
      refine De2 (fun _ k_ => q_al k_) ?_
      refine De2 (fun _ k_ => q_callp (ga) k_) ?_
      refine De2 (fun _ k_ => q_callp (gb) k_) ?_
      refine De20 (fun _ k_ => q_stw k_) ?_
      refine De20 (fun _ k_ => q_stw k_) ?_
      refine dend ?_
      exact sle_sub ⟨rfl, rfl, rfl, rfl, rfl, trivial⟩ rfl
    · refine DLw ?_
      refine DLw ?_
      refine De2 (fun _ k_ => q_al k_) ?_
      refine De2 (fun _ k_ => q_callp (ga) k_) ?_
      refine De2 (fun _ k_ => q_callp (gb) k_) ?_
      refine De2 (fun _ k_ => q_al k_) ?_
      refine De20 (fun _ k_ => q_stw k_) ?_
      refine De20 (fun _ k_ => q_stw k_) ?_
      refine dend ?_
      exact sle_view [0, 1, 3, 2] (fun p h => absurd h (Nat.not_lt_zero _)) (by decide) ⟨rfl, rfl, rfl, rfl, rfl, trivial⟩ (Eq.symm (pl1 rfl sees_m (pl1 rfl sees_m (pl1 rfl sees_m (pl1 rfl sees_m pl0)))))
    · refine DLw ?_
      refine DLw ?_
      refine De2 (fun _ k_ => q_al k_) ?_
      refine De2 (fun _ k_ => q_callp (ga) k_) ?_
      refine De2 (fun _ k_ => q_al k_) ?_
      refine De2 (fun _ k_ => q_callp (gb) k_) ?_
      refine De20 (fun _ k_ => q_stw k_) ?_
      refine De20 (fun _ k_ => q_stw k_) ?_
      refine dend ?_
      exact sle_view [0, 1, 3, 2] (fun p h => absurd h (Nat.not_lt_zero _)) (by decide) ⟨rfl, rfl, rfl, rfl, rfl, trivial⟩ (Eq.symm (pl1 rfl sees_m (pl1 rfl sees_m (pl1 rfl sees_m (pl1 rfl sees_m pl0)))))
    refine DLw ?_
    refine DLw ?_
    refine De2 (fun _ k_ => q_al k_) ?_
    refine De2 (fun _ k_ => q_al k_) ?_
    refine De2 (fun _ k_ => q_callp (ga) k_) ?_
    refine De2 (fun _ k_ => q_callp (gb) k_) ?_
    refine De20 (fun _ k_ => q_stw k_) ?_
    refine De20 (fun _ k_ => q_stw k_) ?_
    refine dend ?_
    exact sle_view [0, 1, 3, 2] (fun p h => absurd h (Nat.not_lt_zero _)) (by decide) ⟨rfl, rfl, rfl, rfl, rfl, trivial⟩ (Eq.symm (pl1 rfl sees_m (pl1 rfl sees_m (pl1 rfl sees_m (pl1 rfl sees_m pl0)))))
  refine awp_seq ?_
  refine awp_seq ?_
  refine rln ?_
  refine Mv ?_
  refine gend ?_
  refine cndbN (fun hc1 => ?_) ?_; rotate_left
  · rfl
  refine awp_skip ?_
  refine awp_mid ⟨frm 75 [(2, sc (.bool false)), (7, sc (.ptr 2 0)), (8, sc (.ptr 3 0)), (9, sc (.ptr 4 0)), (10, sc (.ptr 5 0))], [some (u8s a), some (u8s b), some (u64s (el x)), some (u64s (el y)), some (u64s (de x)), some (u64s (de y))]⟩ ?_ ?_
  · refine rdm [1, 2, 4, 5, 6, 7, 8] [⟨[0, 1, 2, 3, 4, 5, 6, 7, 8], [1, 2, 4, 5, 6, 7, 8], [1, 2, 4, 5, 6, 7, 8], [0, 0, 1, 0, 2, 3, 4, 5, 6], [0, 1, 2, 2, 3, 4, 5, 6, 7]⟩, ⟨[0, 1, 2, 3, 4, 6, 5, 7, 8], [1, 2, 4, 6, 5, 7, 8], [1, 2, 4, 5, 6, 7, 8], [0, 0, 1, 0, 2, 3, 4, 5, 6], [0, 1, 2, 2, 3, 4, 5, 6, 7]⟩, ⟨[0, 1, 2, 3, 5, 4, 6, 7, 8], [1, 2, 5, 4, 6, 7, 8], [1, 2, 4, 5, 6, 7, 8], [0, 0, 1, 0, 2, 3, 4, 5, 6], [0, 1, 2, 3, 3, 4, 5, 6, 7]⟩, ⟨[0, 1, 2, 3, 5, 6, 4, 7, 8], [1, 2, 5, 6, 4, 7, 8], [1, 2, 4, 5, 6, 7, 8], [0, 0, 1, 0, 2, 3, 4, 5, 6], [0, 1, 2, 4, 3, 4, 5, 6, 7]⟩, ⟨[0, 1, 2, 3, 6, 4, 5, 7, 8], [1, 2, 6, 4, 5, 7, 8], [1, 2, 4, 5, 6, 7, 8], [0, 0, 1, 0, 2, 3, 4, 5, 6], [0, 1, 2, 3, 3, 4, 5, 6, 7]⟩, ⟨[0, 1, 2, 3, 6, 5, 4, 7, 8], [1, 2, 6, 5, 4, 7, 8], [1, 2, 4, 5, 6, 7, 8], [0, 0, 1, 0, 2, 3, 4, 5, 6], [0, 1, 2, 4, 3, 4, 5, 6, 7]⟩, ⟨[0, 1, 3, 5, 2, 4, 6, 7, 8], [1, 5, 2, 4, 6, 7, 8], [1, 3, 4, 5, 6, 7, 8], [0, 0, 0, 1, 2, 3, 4, 5, 6], [0, 1, 3, 2, 3, 4, 5, 6, 7]⟩, ⟨[0, 1, 3, 5, 2, 6, 4, 7, 8], [1, 5, 2, 6, 4, 7, 8], [1, 3, 4, 5, 6, 7, 8], [0, 0, 0, 1, 2, 3, 4, 5, 6], [0, 1, 4, 2, 3, 4, 5, 6, 7]⟩, ⟨[0, 1, 3, 5, 6, 2, 4, 7, 8], [1, 5, 6, 2, 4, 7, 8], [1, 3, 4, 5, 6, 7, 8], [0, 0, 0, 1, 2, 3, 4, 5, 6], [0, 1, 4, 2, 3, 4, 5, 6, 7]⟩, ⟨[0, 1, 3, 6, 2, 4, 5, 7, 8], [1, 6, 2, 4, 5, 7, 8], [1, 3, 4, 5, 6, 7, 8], [0, 0, 0, 1, 2, 3, 4, 5, 6], [0, 1, 3, 2, 3, 4, 5, 6, 7]⟩, ⟨[0, 1, 3, 6, 2, 5, 4, 7, 8], [1, 6, 2, 5, 4, 7, 8], [1, 3, 4, 5, 6, 7, 8], [0, 0, 0, 1, 2, 3, 4, 5, 6], [0, 1, 4, 2, 3, 4, 5, 6, 7]⟩, ⟨[0, 1, 3, 6, 5, 2, 4, 7, 8], [1, 6, 5, 2, 4, 7, 8], [1, 3, 4, 5, 6, 7, 8], [0, 0, 0, 1, 2, 3, 4, 5, 6], [0, 1, 4, 2, 3, 4, 5, 6, 7]⟩, ⟨[0, 3, 5, 1, 2, 4, 6, 7, 8], [5, 1, 2, 4, 6, 7, 8], [2, 3, 4, 5, 6, 7, 8], [0, 0, 0, 1, 2, 3, 4, 5, 6], [1, 3, 1, 2, 3, 4, 5, 6, 7]⟩, ⟨[0, 3, 5, 1, 2, 6, 4, 7, 8], [5, 1, 2, 6, 4, 7, 8], [2, 3, 4, 5, 6, 7, 8], [0, 0, 0, 1, 2, 3, 4, 5, 6], [1, 4, 1, 2, 3, 4, 5, 6, 7]⟩, ⟨[0, 3, 5, 1, 6, 2, 4, 7, 8], [5, 1, 6, 2, 4, 7, 8], [2, 3, 4, 5, 6, 7, 8], [0, 0, 0, 1, 2, 3, 4, 5, 6], [1, 4, 1, 2, 3, 4, 5, 6, 7]⟩, ⟨[0, 3, 5, 6, 1, 2, 4, 7, 8], [5, 6, 1, 2, 4, 7, 8], [2, 3, 4, 5, 6, 7, 8], [0, 0, 0, 1, 2, 3, 4, 5, 6], [2, 4, 1, 2, 3, 4, 5, 6, 7]⟩, ⟨[0, 3, 6, 1, 2, 4, 5, 7, 8], [6, 1, 2, 4, 5, 7, 8], [2, 3, 4, 5, 6, 7, 8], [0, 0, 0, 1, 2, 3, 4, 5, 6], [1, 3, 1, 2, 3, 4, 5, 6, 7]⟩, ⟨[0, 3, 6, 1, 2, 5, 4, 7, 8], [6, 1, 2, 5, 4, 7, 8], [2, 3, 4, 5, 6, 7, 8], [0, 0, 0, 1, 2, 3, 4, 5, 6], [1, 4, 1, 2, 3, 4, 5, 6, 7]⟩, ⟨[0, 3, 6, 1, 5, 2, 4, 7, 8], [6, 1, 5, 2, 4, 7, 8], [2, 3, 4, 5, 6, 7, 8], [0, 0, 0, 1, 2, 3, 4, 5, 6], [1, 4, 1, 2, 3, 4, 5, 6, 7]⟩, ⟨[0, 3, 6, 5, 1, 2, 4, 7, 8], [6, 5, 1, 2, 4, 7, 8], [2, 3, 4, 5, 6, 7, 8], [0, 0, 0, 1, 2, 3, 4, 5, 6], [2, 4, 1, 2, 3, 4, 5, 6, 7]⟩] ⟨?_, ?_, ?_, ?_, ?_, ?_, ?_, ?_, ?_, ?_, ?_, ?_, ?_, ?_, ?_, ?_, ?_, ?_, ?_, ?_, trivial⟩   -- region 4
    · refine DLw ?_
      refine De2 (fun _ k_ => q_callp (bytes_e x) k_) ?_
      refine De2 (fun _ k_ => q_callp (nu) k_) ?_
      refine DLw ?_
      refine De2 (fun _ k_ => q_callp (nb) k_) ?_
      refine De2 (fun _ k_ => q_al k_) ?_
      refine De2 (fun _ k_ => q_al k_) ?_
      refine De20 (fun _ k_ => q_stw k_) ?_
      refine De20 (fun _ k_ => q_stw k_) ?_
      refine dend ?_
      exact sle_sub ⟨rfl, rfl, rfl, rfl, rfl, trivial⟩ rfl
    · refine DLw ?_
      refine De2 (fun _ k_ => q_callp (bytes_e x) k_) ?_
      refine De2 (fun _ k_ => q_callp (nu) k_) ?_
      refine DLw ?_
      refine De2 (fun _ k_ => q_callp (nb) k_) ?_
      refine De2 (fun _ k_ => q_al k_) ?_
      refine De2 (fun _ k_ => q_al k_) ?_
      refine De20 (fun _ k_ => q_stw k_) ?_
      refine De20 (fun _ k_ => q_stw k_) ?_
      refine dend ?_
      exact sle_view [0, 1, 2, 3, 5, 4] (fun p h => absurd h (Nat.not_lt_zero _)) (by decide) ⟨rfl, rfl, rfl, rfl, rfl, trivial⟩ (Eq.symm (pl1 rfl sees_m (pl1 rfl sees_m (pl1 rfl sees_m (pl1 rfl sees_m (pl1 rfl sees_m (pl1 rfl sees_m pl0)))))))
    · refine DLw ?_
      refine De2 (fun _ k_ => q_callp (bytes_e x) k_) ?_
      refine De2 (fun _ k_ => q_callp (nu) k_) ?_
      refine DLw ?_
      refine De2 (fun _ k_ => q_al k_) ?_
      refine De2 (fun _ k_ => q_callp (nb) k_) ?_
      refine De2 (fun _ k_ => q_al k_) ?_
      refine De20 (fun _ k_ => q_stw k_) ?_
      refine De20 (fun _ k_ => q_stw k_) ?_
      refine dend ?_
      exact sle_sub ⟨rfl, rfl, rfl, rfl, rfl, trivial⟩ rfl
    · refine DLw ?_
      refine De2 (fun _ k_ => q_callp (bytes_e x) k_) ?_
      refine De2 (fun _ k_ => q_callp (nu) k_) ?_
      refine DLw ?_
      refine De2 (fun _ k_ => q_al k_) ?_
      refine De2 (fun _ k_ => q_al k_) ?_
      refine De2 (fun _ k_ => q_callp (nb) k_) ?_
      refine De20 (fun _ k_ => q_stw k_) ?_
      refine De20 (fun _ k_ => q_stw k_) ?_
      refine dend ?_
      exact sle_sub ⟨rfl, rfl, rfl, rfl, rfl, trivial⟩ rfl
    · refine DLw ?_
      refine De2 (fun _ k_ => q_callp (bytes_e x) k_) ?_
      refine De2 (fun _ k_ => q_callp (nu) k_) ?_
      refine DLw ?_
      refine De2 (fun _ k_ => q_al k_) ?_
      refine De2 (fun _ k_ => q_callp (nb) k_) ?_
      refine De2 (fun _ k_ => q_al k_) ?_
      refine De20 (fun _ k_ => q_stw k_) ?_
      refine De20 (fun _ k_ => q_stw k_) ?_
      refine dend ?_
      exact sle_view [0, 1, 2, 3, 5, 4] (fun p h => absurd h (Nat.not_lt_zero _)) (by decide) ⟨rfl, rfl, rfl, rfl, rfl, trivial⟩ (Eq.symm (pl1 rfl sees_m (pl1 rfl sees_m (pl1 rfl sees_m (pl1 rfl sees_m (pl1 rfl sees_m (pl1 rfl sees_m pl0)))))))
    · refine DLw ?_
      refine De2 (fun _ k_ => q_callp (bytes_e x) k_) ?_
      refine De2 (fun _ k_ => q_callp (nu) k_) ?_
      refine DLw ?_
      refine De2 (fun _ k_ => q_al k_) ?_
      refine De2 (fun _ k_ => q_al k_) ?_
      refine De2 (fun _ k_ => q_callp (nb) k_) ?_
      refine De20 (fun _ k_ => q_stw k_) ?_
      refine De20 (fun _ k_ => q_stw k_) ?_
      refine dend ?_
      exact sle_view [0, 1, 2, 3, 5, 4] (fun p h => absurd h (Nat.not_lt_zero _)) (by decide) ⟨rfl, rfl, rfl, rfl, rfl, trivial⟩ (Eq.symm (pl1 rfl sees_m (pl1 rfl sees_m (pl1 rfl sees_m (pl1 rfl sees_m (pl1 rfl sees_m (pl1 rfl sees_m pl0)))))))
    · refine DLw ?_
      refine De2 (fun _ k_ => q_callp (bytes_e x) k_) ?_
      refine DLw ?_
      refine De2 (fun _ k_ => q_al k_) ?_
      refine De2 (fun _ k_ => q_callp (nu) k_) ?_
      refine De2 (fun _ k_ => q_callp (nb) k_) ?_
      refine De2 (fun _ k_ => q_al k_) ?_
      refine De20 (fun _ k_ => q_stw k_) ?_
      refine De20 (fun _ k_ => q_stw k_) ?_
      refine dend ?_
      exact sle_sub ⟨rfl, rfl, rfl, rfl, rfl, trivial⟩ rfl
    · refine DLw ?_
      refine De2 (fun _ k_ => q_callp (bytes_e x) k_) ?_
      refine DLw ?_
      refine De2 (fun _ k_ => q_al k_) ?_
      refine De2 (fun _ k_ => q_callp (nu) k_) ?_
      refine De2 (fun _ k_ => q_al k_) ?_
      refine De2 (fun _ k_ => q_callp (nb) k_) ?_
      refine De20 (fun _ k_ => q_stw k_) ?_
      refine De20 (fun _ k_ => q_stw k_) ?_
      refine dend ?_
      exact sle_sub ⟨rfl, rfl, rfl, rfl, rfl, trivial⟩ rfl
    · refine DLw ?_
      refine De2 (fun _ k_ => q_callp (bytes_e x) k_) ?_
      refine DLw ?_
      refine De2 (fun _ k_ => q_al k_) ?_
      refine De2 (fun _ k_ => q_al k_) ?_
      refine De2 (fun _ k_ => q_callp (nu) k_) ?_
      refine De2 (fun _ k_ => q_callp (nb) k_) ?_
      refine De20 (fun _ k_ => q_stw k_) ?_
      refine De20 (fun _ k_ => q_stw k_) ?_
      refine dend ?_
      exact sle_sub ⟨rfl, rfl, rfl, rfl, rfl, trivial⟩ rfl
    · refine DLw ?_
      refine De2 (fun _ k_ => q_callp (bytes_e x) k_) ?_
      refine DLw ?_
      refine De2 (fun _ k_ => q_al k_) ?_
      refine De2 (fun _ k_ => q_callp (nu) k_) ?_
      refine De2 (fun _ k_ => q_callp (nb) k_) ?_
      refine De2 (fun _ k_ => q_al k_) ?_
      refine De20 (fun _ k_ => q_stw k_) ?_
      refine De20 (fun _ k_ => q_stw k_) ?_
      refine dend ?_
      exact sle_view [0, 1, 2, 3, 5, 4] (fun p h => absurd h (Nat.not_lt_zero _)) (by decide) ⟨rfl, rfl, rfl, rfl, rfl, trivial⟩ (Eq.symm (pl1 rfl sees_m (pl1 rfl sees_m (pl1 rfl sees_m (pl1 rfl sees_m (pl1 rfl sees_m (pl1 rfl sees_m pl0)))))))
    · refine DLw ?_
      refine De2 (fun _ k_ => q_callp (bytes_e x) k_) ?_
      refine DLw ?_
      refine De2 (fun _ k_ => q_al k_) ?_
      refine De2 (fun _ k_ => q_callp (nu) k_) ?_
      refine De2 (fun _ k_ => q_al k_) ?_
      refine De2 (fun _ k_ => q_callp (nb) k_) ?_
      refine De20 (fun _ k_ => q_stw k_) ?_
      refine De20 (fun _ k_ => q_stw k_) ?_
      refine dend ?_
      exact sle_view [0, 1, 2, 3, 5, 4] (fun p h => absurd h (Nat.not_lt_zero _)) (by decide) ⟨rfl, rfl, rfl, rfl, rfl, trivial⟩ (Eq.symm (pl1 rfl sees_m (pl1 rfl sees_m (pl1 rfl sees_m (pl1 rfl sees_m (pl1 rfl sees_m (pl1 rfl sees_m pl0)))))))
    · refine DLw ?_
      refine De2 (fun _ k_ => q_callp (bytes_e x) k_) ?_
      refine DLw ?_
      refine De2 (fun _ k_ => q_al k_) ?_
      refine De2 (fun _ k_ => q_al k_) ?_
      refine De2 (fun _ k_ => q_callp (nu) k_) ?_
      refine De2 (fun _ k_ => q_callp (nb) k_) ?_
      refine De20 (fun _ k_ => q_stw k_) ?_
      refine De20 (fun _ k_ => q_stw k_) ?_
      refine dend ?_
      exact sle_view [0, 1, 2, 3, 5, 4] (fun p h => absurd h (Nat.not_lt_zero _)) (by decide) ⟨rfl, rfl, rfl, rfl, rfl, trivial⟩ (Eq.symm (pl1 rfl sees_m (pl1 rfl sees_m (pl1 rfl sees_m (pl1 rfl sees_m (pl1 rfl sees_m (pl1 rfl sees_m pl0)))))))
    · refine DLw ?_
      refine DLw ?_
      refine De2 (fun _ k_ => q_al k_) ?_
      refine De2 (fun _ k_ => q_callp (bytes_e x) k_) ?_
      refine De2 (fun _ k_ => q_callp (nu) k_) ?_
      refine De2 (fun _ k_ => q_callp (nb) k_) ?_
      refine De2 (fun _ k_ => q_al k_) ?_
      refine De20 (fun _ k_ => q_stw k_) ?_
      refine De20 (fun _ k_ => q_stw k_) ?_
      refine dend ?_
      exact sle_sub ⟨rfl, rfl, rfl, rfl, rfl, trivial⟩ rfl
    · refine DLw ?_
      refine DLw ?_
      refine De2 (fun _ k_ => q_al k_) ?_
      refine De2 (fun _ k_ => q_callp (bytes_e x) k_) ?_
      refine De2 (fun _ k_ => q_callp (nu) k_) ?_
      refine De2 (fun _ k_ => q_al k_) ?_
      refine De2 (fun _ k_ => q_callp (nb) k_) ?_
      refine De20 (fun _ k_ => q_stw k_) ?_
      refine De20 (fun _ k_ => q_stw k_) ?_
      refine dend ?_
      exact sle_sub ⟨rfl, rfl, rfl, rfl, rfl, trivial⟩ rfl
    · refine DLw ?_
      refine DLw ?_
      refine De2 (fun _ k_ => q_al k_) ?_
      refine De2 (fun _ k_ => q_callp (bytes_e x) k_) ?_
      refine De2 (fun _ k_ => q_al k_) ?_
      refine De2 (fun _ k_ => q_callp (nu) k_) ?_
      refine De2 (fun _ k_ => q_callp (nb) k_) ?_
      refine De20 (fun _ k_ => q_stw k_) ?_
      refine De20 (fun _ k_ => q_stw k_) ?_
      refine dend ?_
      exact sle_sub ⟨rfl, rfl, rfl, rfl, rfl, trivial⟩ rfl
    · refine DLw ?_
      refine DLw ?_
      refine De2 (fun _ k_ => q_al k_) ?_
      refine De2 (fun _ k_ => q_al k_) ?_
      refine De2 (fun _ k_ => q_callp (bytes_e x) k_) ?_
      refine De2 (fun _ k_ => q_callp (nu) k_) ?_
      refine De2 (fun _ k_ => q_callp (nb) k_) ?_
      refine De20 (fun _ k_ => q_stw k_) ?_
      refine De20 (fun _ k_ => q_stw k_) ?_
      refine dend ?_
      exact sle_sub ⟨rfl, rfl, rfl, rfl, rfl, trivial⟩ rfl
    · refine DLw ?_
      refine DLw ?_
      refine De2 (fun _ k_ => q_al k_) ?_
      refine De2 (fun _ k_ => q_callp (bytes_e x) k_) ?_
      refine De2 (fun _ k_ => q_callp (nu) k_) ?_
      refine De2 (fun _ k_ => q_callp (nb) k_) ?_
      refine De2 (fun _ k_ => q_al k_) ?_
      refine De20 (fun _ k_ => q_stw k_) ?_
      refine De20 (fun _ k_ => q_stw k_) ?_
      refine dend ?_
      exact sle_view [0, 1, 2, 3, 5, 4] (fun p h => absurd h (Nat.not_lt_zero _)) (by decide) ⟨rfl, rfl, rfl, rfl, rfl, trivial⟩ (Eq.symm (pl1 rfl sees_m (pl1 rfl sees_m (pl1 rfl sees_m (pl1 rfl sees_m (pl1 rfl sees_m (pl1 rfl sees_m pl0)))))))
    · refine DLw ?_
      refine DLw ?_
      refine De2 (fun _ k_ => q_al k_) ?_
      refine De2 (fun _ k_ => q_callp (bytes_e x) k_) ?_
      refine De2 (fun _ k_ => q_callp (nu) k_) ?_
      refine De2 (fun _ k_ => q_al k_) ?_
      refine De2 (fun _ k_ => q_callp (nb) k_) ?_
      refine De20 (fun _ k_ => q_stw k_) ?_
      refine De20 (fun _ k_ => q_stw k_) ?_
      refine dend ?_
      exact sle_view [0, 1, 2, 3, 5, 4] (fun p h => absurd h (Nat.not_lt_zero _)) (by decide) ⟨rfl, rfl, rfl, rfl, rfl, trivial⟩ (Eq.symm (pl1 rfl sees_m (pl1 rfl sees_m (pl1 rfl sees_m (pl1 rfl sees_m (pl1 rfl sees_m (pl1 rfl sees_m pl0)))))))
    · refine DLw ?_
      refine DLw ?_
      refine De2 (fun _ k_ => q_al k_) ?_
      refine De2 (fun _ k_ => q_callp (bytes_e x) k_) ?_
      refine De2 (fun _ k_ => q_al k_) ?_
      refine De2 (fun _ k_ => q_callp (nu) k_) ?_
      refine De2 (fun _ k_ => q_callp (nb) k_) ?_
      refine De20 (fun _ k_ => q_stw k_) ?_
      refine De20 (fun _ k_ => q_stw k_) ?_
      refine dend ?_
      exact sle_view [0, 1, 2, 3, 5, 4] (fun p h => absurd h (Nat.not_lt_zero _)) (by decide) ⟨rfl, rfl, rfl, rfl, rfl, trivial⟩ (Eq.symm (pl1 rfl sees_m (pl1 rfl sees_m (pl1 rfl sees_m (pl1 rfl sees_m (pl1 rfl sees_m (pl1 rfl sees_m pl0)))))))
    refine DLw ?_
    refine DLw ?_
    refine De2 (fun _ k_ => q_al k_) ?_
    refine De2 (fun _ k_ => q_al k_) ?_
    refine De2 (fun _ k_ => q_callp (bytes_e x) k_) ?_
    refine De2 (fun _ k_ => q_callp (nu) k_) ?_
    refine De2 (fun _ k_ => q_callp (nb) k_) ?_
    refine De20 (fun _ k_ => q_stw k_) ?_
    refine De20 (fun _ k_ => q_stw k_) ?_
    refine dend ?_
    exact sle_view [0, 1, 2, 3, 5, 4] (fun p h => absurd h (Nat.not_lt_zero _)) (by decide) ⟨rfl, rfl, rfl, rfl, rfl, trivial⟩ (Eq.symm (pl1 rfl sees_m (pl1 rfl sees_m (pl1 rfl sees_m (pl1 rfl sees_m (pl1 rfl sees_m (pl1 rfl sees_m pl0)))))))
  refine awp_seq ?_
  refine rln ?_
  refine G (q_ldw ?_)
  refine G (q_ldw ?_)
  refine G2 (fun _ k_ => q_callp (gR) k_) ?_
  refine G (q_mv (s := .t _) ?_)
  refine G (q_ext (y := .a _) ?_)
  refine G (q_ext (y := .c _) ?_)
  refine G2 (fun _ k_ => q_al k_) ?_
  refine G20 (fun _ k_ => q_stw k_) ?_
  refine As ?_
  refine gend ?_
  refine awp_seq ?_
  refine rln ?_
  refine G (q_ldw ?_)
  refine G (q_ldw ?_)
  refine G2 (fun _ k_ => q_callp (gQ) k_) ?_
  refine G (q_mv (s := .t _) ?_)
  refine G (q_ext (y := .a _) ?_)
  refine G (q_ext (y := .c _) ?_)
  refine G2 (fun _ k_ => q_al k_) ?_
  refine G20 (fun _ k_ => q_stw k_) ?_
  refine As ?_
  refine gend ?_
  refine awp_seq ?_
  refine awp_seq ?_
  refine rln ?_
  refine Mv ?_
  refine Mv ?_
  refine G (q_neqb ?_)
  refine Mv ?_
  refine Akf 44 (fun hb4 => ?_) ?_; rotate_left
  · rfl
  refine Gg (q_ldw ?_)
  refine Gg (q_ldw ?_)
  refine G2g (fun _ k_ => q_callp (is_t _ _ rfl) k_) ?_
  refine Gg (q_notb ?_)
  refine G (q_pkf ?_)
  refine gend ?_
  refine cndF ?_
  refine awp_skip ?_
  refine awp_seq ?_
  refine rdln [4, 9, 10, 12, 23] [0, 0, 0, 0, 0, 1, 1, 1, 1, 1, 2, 1, 3, 4, 4, 4, 4, 4, 4, 4, 4, 4, 4, 4, 5, 5] [0, 0, 0, 0, 1, 1, 1, 2, 1, 2, 3, 3, 4, 4, 4, 4, 4, 4, 4, 4, 4, 4, 4, 5, 5, 5] ?_
  refine Dp (fun _ => q_mv (s := .v (.c _)) ⟨rfl, rfl⟩) ?_
  refine Dp (fun _ => q_notb ⟨rfl, rfl⟩) ?_
  refine Dp (fun _ => q_mv (s := .v (.c _)) ⟨rfl, rfl⟩) ?_
  refine Dkn 52 (fun hb3 => ?_) ?_; rotate_left
  · rfl
  refine Dn ?_
  refine Dm ?_
  refine Dn ?_
  refine Dn ?_
  refine Du ?_
  refine Du ?_
  refine Dmu ?_
  refine Dmu ?_
  refine Du ?_
  refine Dmu ?_
  refine Dn ?_
  refine Dp (fun _ => q_pkt ⟨rfl, rfl⟩) ?_
  refine Dp (fun _ => q_mv (s := .v (.c _)) ⟨rfl, rfl⟩) ?_
  refine Dpg (fun _ => q_mv (s := .v (.c _)) ⟨rfl, rfl⟩) ?_
  refine Dpg (fun _ => q_notb ⟨rfl, rfl⟩) ?_
  refine Dpg (fun _ => q_mv (s := .v (.c _)) ⟨rfl, rfl⟩) ?_
  refine Dkn 68 (fun hb19 => ?_) ?_; rotate_left
  · rfl
  refine Dn ?_
  refine Dpg (fun _ => q_pkt ⟨rfl, rfl⟩) ?_
  refine Dp (fun _ => q_pkt ⟨rfl, rfl⟩) ?_
  refine Dp (fun _ => q_mv (s := .v (.c _)) ⟨rfl, rfl⟩) ?_
  refine De2g (fun _ k_ => q_callp (known_) k_) ?_
  refine Dp (fun _ => q_pkt ⟨rfl, rfl⟩) ?_
  refine Dp (fun _ => q_as (s := .v (.c _)) ⟨rfl, rfl⟩) ?_
  refine dend ?_
  refine awp_ret ?_
  exact fp1
theorem roots_ (a b : List UInt8) (ha : a.length = 32) (hb : b.length = 32) (s : Bool) : Good Try.prog 8 [.a (u8s a), .a (u8s b), .c (.bool s)] [] (sc (.bool true)) [] := by
  cases s
  · cases h : rOk (fb a) (fb b)
    · exact roots_ff a b ha hb _ rfl h
    · exact roots_ft a b ha hb _ rfl h
  · exact roots_tt a b ha hb _ rfl (ok_sq _ _)
end Go.Proofs.Ytjibmonfmhdbbaa.Fl


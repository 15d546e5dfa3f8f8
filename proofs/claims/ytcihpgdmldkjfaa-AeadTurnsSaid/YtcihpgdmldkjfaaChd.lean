/- What functions of the program do, walked over the abstract machine. -/
import Derived.Test.YtcihpgdmldkjfaaChc
import Derived.Test.YtcihpgdmldkjfaaChp
namespace Go.Proofs.Ytcihpgdmldkjfaa.Ch
open Go Go.Abs Go.Proofs

theorem u8s_snoc (l : List UInt8) (x : UInt8) : u8s l ++ [c8 x] = u8s (l ++ [x]) := by simp [mapc]
theorem mn_lt {q n : Nat} (h : 64 * q < n) : min (64 * q) n = 64 * q := by omega
theorem mn_next {q n j : Nat} (h1 : 64 * q ≤ j) (h2 : j ≤ min (64 * q + 64) n) (h : ¬ (j < n ∧ j < 64 * q + 64)) : min (64 * (q + 1)) n = j := by omega
/-- escutcheonref08.Xor -/
theorem rxor (key : List UInt8) (ctr : UInt32) (nonce : List UInt8) (n : Nat) (l : List UInt8) (hk : key.length = 32) (hn : nonce.length = 12) (hl : l.length = n) (hb : n ≤ 100000000) : Good Try.prog 17 [.a (u8s key), .c (c32 ctr), .a (u8s nonce), .c (.ro n (u8s l))] [] (sc (.slc 0 0 n 1)) [some (u8s (xw key ctr nonce l n))] := by
  refine good_frm 54 Try.func17 rfl rfl rfl rfl rfl rfl ?_
  refine awp_seq ?_
  refine rl ?_
  refine G (q_boxa ?_)
  refine G (q_boxa ?_)
  refine As ?_
  refine gend ?_
  refine awp_seq ?_
  refine rl ?_
  refine As ?_
  refine gend ?_
  refine awp_seq ?_
  refine awp_seq ?_
  refine rl ?_
  refine G (q_as (s := sc (cn 0)) ?_)
  refine gend ?_
  refine awp_block ?_
  refine awp_le (sle_empty (al' := [(1, sc (c32 ctr)), (3, sc (.ro n (u8s l))), (4, sc (.ptr 0 0)), (6, sc (.ptr 1 0)), (9, sc (.slc 2 0 0 1)), (10, sc (cn 0))]) 1 (Nat.zero_le _) ⟨.inl rfl, .inl rfl, .inl rfl, .inl rfl, .inr ⟨rfl, rfl⟩, .inl rfl, trivial⟩) ?_
  refine awp_loop (fun x : {q : Nat // 64 * q ≤ n + 63} => ⟨frm 54 [(1, sc (c32 ctr)), (3, sc (.ro n (u8s l))), (4, sc (.ptr 0 0)), (6, sc (.ptr 1 0)), (9, sc (.slc 2 0 (min (64 * x.1) n) 1)), (10, sc (cn (64 * x.1)))], [some (u8s key), some (u8s nonce), some (u8s (xw key ctr nonce l (min (64 * x.1) n)))]⟩) (fun x => n + 64 - 64 * x.1) ⟨0, by omega⟩ (sle_sub ⟨rfl, rfl, rfl, rfl, by show sc (.slc 2 0 0 1) = sc (.slc 2 0 (min (64 * 0) n) 1); simp, rfl, trivial⟩ (congrArg (fun z => [some (u8s key), some (u8s nonce), some z]) (by simp [xw, mapc]))) fun x => ?_   -- live: [1, 3, 4, 6, 9, 10]
  refine awp_seq ?_
  refine awp_seq ?_
  refine rl ?_
  refine Mv ?_
  refine Mv ?_
  refine G (q_leno ?_)
  refine G (q_lssn ?_)
  refine gend ?_
  refine cnd (fun hc1 => ?_) (fun hc1 => ?_); rotate_left
  · refine awp_exit ?_
    rw [show min (64 * x.1) n = n from (by have := x.2; omega)]
    refine awp_seq ?_
    refine rl ?_
    refine Mv ?_
    refine As ?_
    refine gend ?_
    refine awp_ret ?_
    exact fn1 2
  refine awp_skip ?_
  refine awp_seq ?_
  refine awp_block ?_
  refine awp_seq ?_
  refine rl ?_
  refine G (q_ldw ?_)
  refine Mv ?_
  refine Mv ?_
  refine G (q_quon (y := 64) ?_)
  refine G (q_cv0_32 ?_)
  refine G (q_add32 ?_)
  refine G (q_ldw ?_)
  refine G (q_callp (rblock' key (ctr + UInt32.ofNat (64 * x.1 / 64)) nonce hk hn/- escutcheon/escutcheonref08.Block -/) ?_)
  refine G (q_al ?_)
  obtain ⟨B, hB⟩ : ∃ B, B = blk key (ctr + UInt32.ofNat (64 * x.1 / 64)) nonce := ⟨_, rfl⟩
  have hbl : B.length = 64 := hB ▸ blk_len key (ctr + UInt32.ofNat (64 * x.1 / 64)) nonce
  rw [← hB]
  refine G0 (q_stw ?_ (hl := (mapc_length ..).trans hbl) (hc := rfl))
  refine gend ?_
  refine awp_seq ?_
  refine rl ?_
  refine Mv ?_
  refine As ?_
  refine gend ?_
  refine awp_block ?_
  refine awp_loop (fun y : {j : Nat // 64 * x.1 ≤ j ∧ j ≤ min (64 * x.1 + 64) n} => ⟨frm 54 [(1, sc (c32 ctr)), (3, sc (.ro n (u8s l))), (4, sc (.ptr 0 0)), (6, sc (.ptr 1 0)), (9, sc (.slc 2 0 y.1 1)), (10, sc (cn (64 * x.1))), (11, sc (.ptr 3 0)), (12, sc (cn y.1))], [some (u8s key), some (u8s nonce), some (u8s (xw key ctr nonce l y.1)), some (u8s B)]⟩) (fun y => n - y.1) ⟨64 * x.1, by omega, by omega⟩ (sle_sub ⟨rfl, rfl, rfl, rfl, by rw [mn_lt hc1]; rfl, rfl, rfl, rfl, trivial⟩ (by rw [mn_lt hc1]; rfl)) fun y => ?_   -- live: [3, 9, 10, 11, 12]
  refine awp_seq ?_
  refine awp_seq ?_
  refine rl ?_
  refine Mv ?_
  refine Mv ?_
  refine G (q_leno ?_)
  refine G (q_lssn ?_)
  refine Mv ?_
  refine Aspd 32 (fun hb5 => ?_) (fun hb5 => ?_)
  · refine Gg (q_mv (s := .v (.c _)) ?_)
    refine Gg (q_mv (s := .v (.c _)) ?_)
    refine Gg (q_addn (y := 64) ?_)
    refine Gg (q_lssn ?_)
    refine G (q_pkt ?_)
    refine gend ?_
    refine cnd (fun hc2 => ?_) (fun hc2 => ?_); rotate_left
    · refine awp_exit ?_
      refine rl ?_
      refine Mv ?_
      refine G (q_addn (y := 64) ?_)
      refine As ?_
      refine gend ?_
      exact ⟨⟨x.1 + 1, by omega⟩, by show n + 64 - 64 * (x.1 + 1) < n + 64 - 64 * x.1; omega, sle_view [0, 1, 2] (fun p h => absurd h (Nat.not_lt_zero _)) (by decide) ⟨rfl, rs_ro, rfl, rfl, by show sc (.slc 2 0 y.1 1) = sc (.slc 2 0 (min (64 * (x.1 + 1)) n) 1); rw [mn_next y.2.1 y.2.2 (by omega)], by show sc (cn (64 * x.1 + 64)) = sc (cn (64 * (x.1 + 1))); rw [Nat.mul_succ], trivial⟩ (vh3 (pick_m rfl) (pick_m rfl) (pick_m (by show _ = some (some (u8s (xw key ctr nonce l (min (64 * (x.1 + 1)) n)))); rw [mn_next y.2.1 y.2.2 (by omega)]; rfl)))⟩   -- endloop 1
    refine awp_skip ?_
    refine awp_seq ?_
    refine awp_block ?_
    have hy := y.2
    have hxl := xw_len key ctr nonce l y.1
    refine rdl [11, 12] [0, 0, 0, 0, 0, 0, 0, 0, 0, 0, 0, 0, 1, 2] [1, 0, 0, 0, 0, 0, 0, 0, 0, 0, 0, 1, 2, 2] ?_
    refine Dp (fun _ => q_mv (s := .v (.c _)) ⟨rfl, rfl⟩) ?_
    refine Dp (fun _ => q_mv (s := .v (.c _)) ⟨rfl, rfl⟩) ?_
    refine Dp (fun _ => q_mv (s := .v (.c _)) ⟨rfl, rfl⟩) ?_
    refine Dp (fun _ => q_ixo1 ⟨rfl, rfl⟩) ?_
    refine Dp (fun _ => q_ldrd ⟨rfl, rfl⟩) ?_
    refine Dp (fun _ => q_mv (s := .v (.c _)) ⟨rfl, rfl⟩) ?_
    refine Dp (fun _ => q_mv (s := .v (.c _)) ⟨rfl, rfl⟩) ?_
    refine Dp (fun _ => q_subn ⟨rfl, rfl⟩) ?_
    refine Dp (fun _ => q_ixp1 ⟨rfl, rfl⟩) ?_
    refine DLp ?_
    refine Dp (fun _ => q_xor8 ⟨rfl, rfl⟩) ?_
    refine De (q_bsl (fkc rfl (et rfl) rfl (Nat.le_of_ble_eq_true rfl) (fk0 (pw ?_))))
    refine De (q_app (pw ?_))
    refine Dp (fun _ => q_as (s := .v (.c _)) ⟨rfl, rfl⟩) ?_
    refine dend ?_
    refine rl ?_
    refine Mv ?_
    refine G (q_addn (y := 1) ?_)
    refine As ?_
    refine gend ?_
    exact ⟨⟨y.1 + 1, by omega, by omega⟩, by show n - (y.1 + 1) < n - y.1; omega, sle_view [0, 1, 5, 3] (fun p h => absurd h (Nat.not_lt_zero _)) (by decide) ⟨rfl, rs_ro, rfl, rfl, by rfl, rfl, rfl, rfl, trivial⟩ (vh4 (pick_m rfl) (pick_m rfl) (pick_m (by show some (some _) = some (some (u8s (xw key ctr nonce l (y.1 + 1)))); rw [xw_succ, ← u8s_snoc, show y.1 / 64 = 64 * x.1 / 64 by omega, show y.1 % 64 = y.1 - 64 * x.1 by omega, ← hB]; rfl)) (pick_m rfl))⟩   -- endloop 2
  refine Gn ?_
  refine Gn ?_
  refine Gn ?_
  refine Gn ?_
  refine G (q_pkf ?_)
  refine gend ?_
  refine cndF ?_
  refine awp_exit ?_
  refine rl ?_
  refine Mv ?_
  refine G (q_addn (y := 64) ?_)
  refine As ?_
  refine gend ?_
  exact ⟨⟨x.1 + 1, by omega⟩, by show n + 64 - 64 * (x.1 + 1) < n + 64 - 64 * x.1; omega, sle_view [0, 1, 2] (fun p h => absurd h (Nat.not_lt_zero _)) (by decide) ⟨rfl, rs_ro, rfl, rfl, by show sc (.slc 2 0 y.1 1) = sc (.slc 2 0 (min (64 * (x.1 + 1)) n) 1); rw [mn_next y.2.1 y.2.2 (by omega)], by show sc (cn (64 * x.1 + 64)) = sc (cn (64 * (x.1 + 1))); rw [Nat.mul_succ], trivial⟩ (vh3 (pick_m rfl) (pick_m rfl) (pick_m (by show _ = some (some (u8s (xw key ctr nonce l (min (64 * (x.1 + 1)) n)))); rw [mn_next y.2.1 y.2.2 (by omega)]; rfl)))⟩   -- endloop 1
end Go.Proofs.Ytcihpgdmldkjfaa.Ch

/- What functions of the program do, walked over the abstract machine. -/
import Derived.Test.YtcihpgdmldkjfaaChb
namespace Go.Proofs.Ytcihpgdmldkjfaa.Ch
open Go Go.Abs Go.Proofs

/-- The first i bytes, each with the key stream's byte. -/
def xw (key : List UInt8) (ctr : UInt32) (nonce l : List UInt8) (i : Nat) : List UInt8 :=
  (List.range i).map fun j => l.getD j 0 ^^^ (blk key (ctr + UInt32.ofNat (j / 64)) nonce).getD (j % 64) 0
theorem xw_len (key : List UInt8) (ctr : UInt32) (nonce l : List UInt8) (i : Nat) : (xw key ctr nonce l i).length = i := by simp [xw]
theorem xw_succ (key : List UInt8) (ctr : UInt32) (nonce l : List UInt8) (i : Nat) : xw key ctr nonce l (i + 1) = xw key ctr nonce l i ++ [l.getD i 0 ^^^ (blk key (ctr + UInt32.ofNat (i / 64)) nonce).getD (i % 64) 0] := by
  simp [xw, List.range_succ]
theorem xw_set (key : List UInt8) (ctr : UInt32) (nonce l : List UInt8) (n i : Nat) (h : i < n) (v : UInt8) (hv : v = l.getD i 0 ^^^ (blk key (ctr + UInt32.ofNat (i / 64)) nonce).getD (i % 64) 0) :
    (xw key ctr nonce l i ++ List.replicate (n - i) 0).set i v = xw key ctr nonce l (i + 1) ++ List.replicate (n - (i + 1)) 0 := by
  subst hv
  rw [xw_succ, List.set_append_right _ _ (by rw [xw_len]; exact Nat.le_refl _), xw_len, Nat.sub_self, show n - i = (n - (i + 1)) + 1 by omega, List.replicate_succ, List.set_cons_zero, List.append_assoc]
  rfl
theorem xw_pad (key : List UInt8) (ctr : UInt32) (nonce l : List UInt8) (n i : Nat) (h : i ≤ n) : (xw key ctr nonce l i ++ List.replicate (n - i) 0).length = n := by simp [xw_len]; omega
theorem ctr_next (ctr : UInt32) (i : Nat) (h : i % 64 = 0) : ctr + UInt32.ofNat ((i + 63) / 64) + 1 = ctr + UInt32.ofNat ((i + 1 + 63) / 64) := by
  rw [show (i + 1 + 63) / 64 = (i + 63) / 64 + 1 by omega, UInt32.ofNat_add, UInt32.add_assoc]
  rfl
/-- chacha.Xor -/
theorem xor (key : List UInt8) (ctr : UInt32) (nonce : List UInt8) (n : Nat) (l : List UInt8) (hk : key.length = 32) (hn : nonce.length = 12) (hl : l.length = n) (hb : n ≤ 100000000) : Good Try.prog 14 [.a (u8s key), .c (c32 ctr), .a (u8s nonce), .c (.ro n (u8s l))] [] (sc (.slc 0 0 n 1)) [some (u8s (xw key ctr nonce l n))] := by
  refine good_frm 43 Try.func14 rfl rfl rfl rfl rfl rfl ?_
  refine awp_seq ?_
  refine rl ?_
  refine G (q_boxa ?_)
  refine G (q_boxa ?_)
  refine As ?_
  refine gend ?_
  refine awp_seq ?_
  refine rl ?_
  refine Mv ?_
  refine G (q_leno ?_)
  refine G (q_mks ?_)
  refine As ?_
  refine gend ?_
  refine awp_seq ?_
  refine rl ?_
  refine G (q_al ?_)
  refine gend ?_
  refine awp_seq ?_
  refine awp_seq ?_
  refine rl ?_
  refine Mv ?_
  refine G (q_leno ?_)
  refine G (q_mv (s := sc (cn 0)) ?_)
  refine gend ?_
  refine awp_block ?_
  refine awp_loop (fun x : {p : Nat × List UInt8 // p.1 ≤ n ∧ p.2.length = 64 ∧ (p.1 % 64 ≠ 0 → p.2 = blk key (ctr + UInt32.ofNat (p.1 / 64)) nonce)} => ⟨frm 43 [(1, sc (c32 (ctr + UInt32.ofNat ((x.1.1 + 63) / 64)))), (3, sc (.ro n (u8s l))), (4, sc (.ptr 0 0)), (6, sc (.ptr 1 0)), (9, sc (.slc 2 0 n 1)), (10, sc (.ptr 3 0)), (16, sc (cn n)), (17, sc (cn x.1.1))], [some (u8s key), some (u8s nonce), some (u8s (xw key ctr nonce l x.1.1 ++ List.replicate (n - x.1.1) 0)), some (u8s x.1.2)]⟩) (fun x => n - x.1.1) ⟨(0, List.replicate 64 0), Nat.zero_le _, by simp, by simp⟩ (sle_sub ⟨by show sc (c32 ctr) = sc (c32 (ctr + UInt32.ofNat ((0 + 63) / 64))); simp, rfl, rfl, rfl, rfl, rfl, rfl, rfl, trivial⟩ (congrArg (fun z => [some (u8s key), some (u8s nonce), some z, some (u8s (List.replicate 64 0))]) (by simp [rep, mapc, xw]))) fun x => ?_   -- live: [1, 3, 4, 6, 9, 10, 16, 17]
  refine awp_seq ?_
  refine rl ?_
  refine G (q_lssn ?_)
  refine gend ?_
  refine awp_seq ?_
  refine cnd (fun hc1 => ?_) (fun hc1 => ?_); rotate_left
  · refine awp_exit ?_
    rw [show x.1.1 = n from (by have := x.2.1; omega)]
    refine awp_seq ?_
    refine rl ?_
    refine Mv ?_
    refine As ?_
    refine gend ?_
    refine awp_ret ?_
    exact fn1 2 (hH := by simp)
  refine awp_skip ?_
  refine awp_seq ?_
  refine awp_block ?_
  refine awp_seq ?_
  refine rl ?_
  refine Mv ?_
  refine As ?_
  refine gend ?_
  refine awp_seq ?_
  refine awp_seq ?_
  refine rl ?_
  refine Mv ?_
  refine G (q_remn (y := 64) ?_)
  refine G (q_eqln (y := 0) ?_)
  refine gend ?_
  refine cnd (fun hc2 => ?_) (fun hc2 => ?_)
  · refine awp_seq ?_
    refine rl ?_
    refine G (q_ldw ?_)
    refine Mv ?_
    refine G (q_ldw ?_)
    refine G (q_callp (block key (ctr + UInt32.ofNat ((x.1.1 + 63) / 64)) nonce hk hn/- escutcheon/chacha.Block -/) ?_)
    obtain ⟨B, hB⟩ : ∃ B, B = blk key (ctr + UInt32.ofNat ((x.1.1 + 63) / 64)) nonce := ⟨_, rfl⟩
    have hbl : B.length = 64 := hB ▸ blk_len key (ctr + UInt32.ofNat ((x.1.1 + 63) / 64)) nonce
    rw [← hB]
    refine G0 (q_stw ?_ (hl := (mapc_length ..).trans hbl) (hc := (mapc_length ..).trans x.2.2.1))
    refine gend ?_
    refine rl ?_
    refine Mv ?_
    refine G (q_add32 (y := 1) ?_)
    refine As ?_
    refine gend ?_
    have hks := x.2.2.1
    have hpad := xw_pad key ctr nonce l n x.1.1 x.2.1
    refine rdl [12] [] [0, 0, 0, 0, 0, 0, 0, 0, 0, 0, 0, 0, 1] ?_
    refine Dp (fun _ => q_mv (s := .v (.c _)) ⟨rfl, rfl⟩) ?_
    refine Dp (fun _ => q_mv (s := .v (.c _)) ⟨rfl, rfl⟩) ?_
    refine Dp (fun _ => q_mv (s := .v (.c _)) ⟨rfl, rfl⟩) ?_
    refine Dp (fun _ => q_mv (s := .v (.c _)) ⟨rfl, rfl⟩) ?_
    refine Dp (fun _ => q_ixo1 ⟨rfl, rfl⟩) ?_
    refine Dp (fun _ => q_ldrd ⟨rfl, rfl⟩) ?_
    refine Dp (fun _ => q_mv (s := .v (.c _)) ⟨rfl, rfl⟩) ?_
    refine Dp (fun _ => q_remn (y := 64) ⟨rfl, rfl⟩) ?_
    refine Dp (fun _ => q_ixp1 ⟨rfl, rfl⟩) ?_
    refine DLp ?_
    refine Dp (fun _ => q_xor8 ⟨rfl, rfl⟩) ?_
    refine Dp (fun _ => q_ixs1 ⟨rfl, rfl⟩) ?_
    refine De0 (q_stm (pw ?_))
    refine dend ?_
    refine rl ?_
    refine G (q_addn (y := 1) ?_)
    refine Mv ?_
    refine gend ?_
    exact ⟨⟨(x.1.1 + 1, B), by show x.1.1 + 1 ≤ n; omega, hbl, fun _ => by show B = blk key (ctr + UInt32.ofNat ((x.1.1 + 1) / 64)) nonce; rw [hB, show (x.1.1 + 1) / 64 = (x.1.1 + 63) / 64 by omega]⟩, by show n - (x.1.1 + 1) < n - x.1.1; omega, sle_sub ⟨congrArg (fun i => sc (c32 i)) (ctr_next ctr x.1.1 hc2), rfl, rfl, rfl, rfl, rfl, rfl, rfl, trivial⟩ (congrArg (fun z => [some (u8s key), some (u8s nonce), some (u8s z), some (u8s B)]) (xw_set key ctr nonce l n x.1.1 hc1 _ (by rw [hB, show (x.1.1 + 63) / 64 = x.1.1 / 64 by omega])))⟩   -- endloop 1
  refine awp_skip ?_
  have hks := x.2.2.1
  have hpad := xw_pad key ctr nonce l n x.1.1 x.2.1
  refine rdl [12] [] [0, 0, 0, 0, 0, 0, 0, 0, 0, 0, 0, 0, 1] ?_
  refine Dp (fun _ => q_mv (s := .v (.c _)) ⟨rfl, rfl⟩) ?_
  refine Dp (fun _ => q_mv (s := .v (.c _)) ⟨rfl, rfl⟩) ?_
  refine Dp (fun _ => q_mv (s := .v (.c _)) ⟨rfl, rfl⟩) ?_
  refine Dp (fun _ => q_mv (s := .v (.c _)) ⟨rfl, rfl⟩) ?_
  refine Dp (fun _ => q_ixo1 ⟨rfl, rfl⟩) ?_
  refine Dp (fun _ => q_ldrd ⟨rfl, rfl⟩) ?_
  refine Dp (fun _ => q_mv (s := .v (.c _)) ⟨rfl, rfl⟩) ?_
  refine Dp (fun _ => q_remn (y := 64) ⟨rfl, rfl⟩) ?_
  refine Dp (fun _ => q_ixp1 ⟨rfl, rfl⟩) ?_
  refine DLp ?_
  refine Dp (fun _ => q_xor8 ⟨rfl, rfl⟩) ?_
  refine Dp (fun _ => q_ixs1 ⟨rfl, rfl⟩) ?_
  refine De0 (q_stm (pw ?_))
  refine dend ?_
  refine rl ?_
  refine G (q_addn (y := 1) ?_)
  refine Mv ?_
  refine gend ?_
  exact ⟨⟨(x.1.1 + 1, x.1.2), by show x.1.1 + 1 ≤ n; omega, hks, fun h => by have h' : (x.1.1 + 1) % 64 ≠ 0 := h; show x.1.2 = _; rw [x.2.2.2 hc2, show (x.1.1 + 1) / 64 = x.1.1 / 64 by omega]⟩, by show n - (x.1.1 + 1) < n - x.1.1; omega, sle_sub ⟨congrArg (fun i => sc (c32 i)) (by rw [show (x.1.1 + 1 + 63) / 64 = (x.1.1 + 63) / 64 by omega]), rfl, rfl, rfl, rfl, rfl, rfl, rfl, trivial⟩ (congrArg (fun z => [some (u8s key), some (u8s nonce), some (u8s z), some (u8s x.1.2)]) (xw_set key ctr nonce l n x.1.1 hc1 _ (by rw [x.2.2.2 hc2])))⟩   -- endloop 1
end Go.Proofs.Ytcihpgdmldkjfaa.Ch

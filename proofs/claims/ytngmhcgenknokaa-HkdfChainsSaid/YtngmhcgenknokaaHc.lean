/- What functions of the program do, walked over the abstract machine. -/
import Derived.Test.YtngmhcgenknokaaHa
import Derived.Test.YtngmhcgenknokaaBh
import Derived.Test.YtngmhcgenknokaaAbsZf
namespace Go.Proofs.Ytngmhcgenknokaa
open Go Go.Abs Go.Proofs

theorem xat_succ (v : UInt8) (K : List UInt8) (i : Nat) (h : i < K.length) : u8s (xall v (K.take i)) ++ [c8 (K.getD i 0 ^^^ v)] = u8s (xall v (K.take (i + 1))) := by
  rw [List.take_add_one, List.getElem?_eq_getElem h, List.getD_eq_getElem?_getD, List.getElem?_eq_getElem h]
  simp only [mapc, xall, List.map_append, Option.getD_some, Option.toList_some, List.map_cons, List.map_nil]
theorem app_cut {a b : List UInt8} {p q : Nat} (ha : a.length = p) (hb : b.length = q) : ((u8s a ++ u8s b).drop 0).take ((p + q) * 1) = u8s (a ++ b) := by
  rw [mapc_append]; exact cut_h (by rw [List.length_append, ha, hb])
theorem xtake_len (v : UInt8) (K : List UInt8) (i : Nat) (h : i ≤ K.length) : (xall v (K.take i)).length = i := by rw [xall_len, List.length_take]; omega
set_option maxHeartbeats 800000 in
/-- escutcheonref12.Mac -/
theorem rmac_short (key m : List UInt8) (n k : Nat) (hn : key.length = n) (hn9 : n ≤ 10000) (h : n ≤ 64) (hk : m.length = k) (hk9 : k ≤ 10000) : Good Try.prog 8 [.c (.ro n (u8s key)), .c (.ro k (u8s m))] [] (sa (u8s (hmac key m))) [] := by
  have hKl := kpad_len key
  have hcp := kp_short key n hn h
  have g1 := rsum_ (xall 54 (kpad key) ++ m) (64 + k) (by rw [List.length_append, xall_len, hKl, hk]) (by omega)
  obtain ⟨R, hR⟩ : ∃ z, bsum (xall 54 (kpad key) ++ m) = z := ⟨_, rfl⟩
  have hRl : R.length = 32 := by rw [← hR]; exact bsum_len _
  rw [rsum_bsum, hR] at g1
  have g2 := rsum_ (xall 92 (kpad key) ++ R) (64 + 32) (by rw [List.length_append, xall_len, hKl, hRl]) (by decide)
  obtain ⟨O, hO⟩ : ∃ z, bsum (xall 92 (kpad key) ++ R) = z := ⟨_, rfl⟩
  have hOl : O.length = 32 := by rw [← hO]; exact bsum_len _
  rw [rsum_bsum, hO] at g2
  rw [show hmac key m = O by rw [← hO, ← hR]; rfl]
  obtain ⟨K, hK⟩ : ∃ K, kpad key = K := ⟨_, rfl⟩
  rw [hK] at hKl hcp g1 g2
  have l1 := (xall_len 54 K).trans hKl
  have l2 := (xall_len 92 K).trans hKl
  have hT : K.take 64 = K := List.take_of_length_le (by omega)
  refine good_frm 48 Try.func8 rfl rfl rfl rfl rfl rfl ?_
  refine awp_seq ?_
  refine rln ?_
  refine G2 (fun _ k_ => q_al k_) ?_
  refine gend ?_
  refine awp_seq ?_
  refine rln ?_
  refine G2 (fun _ k_ => q_al k_) ?_
  refine gend ?_
  refine awp_mid ⟨frm 48 [(1, sc (.ro k (u8s m))), (4, sc (.ptr 0 0)), (5, sc (.ptr 1 0))], [some (u8s (List.replicate 32 0)), some (u8s K)]⟩ ?_ ?_
  · refine awp_seq ?_
    refine rln ?_
    refine Mv ?_
    refine G (q_leno ?_)
    refine G (q_gtrn (y := 64) ?_)
    refine gend ?_
    refine cndN (fun hc1 => ?_) ?_; rotate_left
    · omega
    refine rln ?_
    refine G (q_slp_no ?_)
    refine Mv ?_
    refine G2 (fun _ k_ => q_cpy k_ (eB := el_ro (by rw [mapc_length, hn, Nat.mul_one]))) ?_
    rw [hcp]
    refine gend ?_
    exact sle_view [0, 1] (fun p h => absurd h (Nat.not_lt_zero _)) (by decide) ⟨rs_ro, rfl, rfl, trivial⟩ (vh2 (pick_m rfl) (pick_m rfl))
  refine awp_seq ?_
  refine rln ?_
  refine As ?_
  refine As ?_
  refine gend ?_
  refine awp_seq ?_
  refine awp_seq ?_
  refine rln ?_
  refine G (q_as (s := sc (cn 0)) ?_)
  refine gend ?_
  refine awp_le (sle_empty (al' := [(1, sc (.ro k (u8s m))), (4, sc (.ptr 0 0)), (5, sc (.ptr 1 0)), (7, sc (.slc 2 0 0 1)), (8, sc .nils), (9, sc (cn 0))]) 1 (Nat.zero_le _) ⟨.inl rfl, .inl rfl, .inl rfl, .inr ⟨rfl, rfl⟩, .inl rfl, .inl rfl, trivial⟩) ?_
  refine awp_block ?_
  refine awp_loop (fun x : {i : Nat // i ≤ 64} => ⟨frm 48 [(1, sc (.ro k (u8s m))), (4, sc (.ptr 0 0)), (5, sc (.ptr 1 0)), (7, sc (.slc 2 0 x.1 1)), (8, sc (.slc 3 0 x.1 1)), (9, sc (cn x.1))], [some (u8s (List.replicate 32 0)), some (u8s K), some (u8s (xall 54 (K.take x.1))), some (u8s (xall 92 (K.take x.1)))]⟩) (fun x => 64 - x.1) ⟨0, Nat.zero_le _⟩ (sle_empty 1 (Nat.zero_le _) ⟨.inl rfl, .inl rfl, .inl rfl, .inl rfl, .inr ⟨rfl, rfl⟩, .inl rfl, trivial⟩) fun x => ?_   -- live: [5, 7, 8, 9]
  have h5 := xtake_len 54 K x.1 (by omega)
  have h6 := xtake_len 92 K x.1 (by omega)
  refine awp_seq ?_
  refine awp_seq ?_
  refine rln ?_
  refine Mv ?_
  refine G (q_lssn (y := 64) ?_)
  refine gend ?_
  refine cnd (fun hc2 => ?_) (fun hc2 => ?_); rotate_left
  · refine awp_exit ?_
    rw [show x.1 = 64 from (by have := x.2; omega)]
    rw [hT]
    refine awp_seq ?_
    refine rln ?_
    refine Mv ?_
    refine Mv ?_
    refine G2 (fun _ k_ => q_app k_) ?_
    refine G2 (fun _ k_ => q_callp g1 k_ (ha := cac (et rfl) (sees_slc rfl rfl (app_cut l1 hk)) ca0)) ?_
    refine G2 (fun _ k_ => q_al k_) ?_
    refine G20 (fun _ k_ => q_stw k_) ?_
    refine gend ?_
    refine awp_seq ?_
    refine rln ?_
    refine Mv ?_
    refine G (q_slp_no ?_)
    refine G2 (fun _ k_ => q_app k_) ?_
    refine G2 (fun _ k_ => q_callp g2 k_ (ha := cac (et rfl) (sees_slc rfl rfl (app_cut l2 hRl)) ca0)) ?_
    refine G20 (fun _ k_ => q_stw k_) ?_
    refine gend ?_
    refine awp_ret ?_
    exact fpc (t := 25) (a := 4) (hn := (mapc_length ..).trans hOl)
  refine awp_skip ?_
  refine awp_seq ?_
  refine awp_block ?_
  refine awp_seq ?_
  refine rln ?_
  refine Mv ?_
  refine Mv ?_
  refine G (q_ixp1 ?_)
  refine G (q_ldp ?_)
  refine G (q_xor8 (y := 54) ?_)
  refine G2 (fun _ k_ => q_bsl (fkc rfl (et rfl) rfl (Nat.le_of_ble_eq_true rfl) (fk0 k_))) ?_
  refine G2 (fun _ k_ => q_app k_) ?_
  refine As ?_
  refine gend ?_
  refine rln ?_
  refine Mv ?_
  refine Mv ?_
  refine G (q_ixp1 ?_)
  refine G (q_ldp ?_)
  refine G (q_xor8 (y := 92) ?_)
  refine G2 (fun _ k_ => q_bsl (fkc rfl (et rfl) rfl (Nat.le_of_ble_eq_true rfl) (fk0 k_))) ?_
  refine G2 (fun _ k_ => q_app k_) ?_
  refine As ?_
  refine gend ?_
  refine rln ?_
  refine Mv ?_
  refine G (q_addn (y := 1) ?_)
  refine As ?_
  refine gend ?_
  exact ⟨⟨x.1 + 1, by omega⟩, by show 64 - (x.1 + 1) < 64 - x.1; omega, sle_view [0, 1, 5, 7] (fun p h => absurd h (Nat.not_lt_zero _)) (by decide) ⟨rs_ro, rfl, rfl, rfl, rfl, rfl, trivial⟩ (vh4 (pick_m rfl) (pick_m rfl) (pick_m (congrArg (fun z => some (some z)) (xat_succ 54 K x.1 (by omega)))) (pick_m (congrArg (fun z => some (some z)) (xat_succ 92 K x.1 (by omega)))))⟩   -- endloop 1
set_option maxHeartbeats 800000 in
/-- escutcheonref12.Mac -/
theorem rmac_long (key m : List UInt8) (n k : Nat) (hn : key.length = n) (hn9 : n ≤ 10000) (h : 64 < n) (hk : m.length = k) (hk9 : k ≤ 10000) : Good Try.prog 8 [.c (.ro n (u8s key)), .c (.ro k (u8s m))] [] (sa (u8s (hmac key m))) [] := by
  have hKl := kpad_len key
  have hcp := kp_long key n hn h
  have g1 := rsum_ (xall 54 (kpad key) ++ m) (64 + k) (by rw [List.length_append, xall_len, hKl, hk]) (by omega)
  obtain ⟨R, hR⟩ : ∃ z, bsum (xall 54 (kpad key) ++ m) = z := ⟨_, rfl⟩
  have hRl : R.length = 32 := by rw [← hR]; exact bsum_len _
  rw [rsum_bsum, hR] at g1
  have g2 := rsum_ (xall 92 (kpad key) ++ R) (64 + 32) (by rw [List.length_append, xall_len, hKl, hRl]) (by decide)
  obtain ⟨O, hO⟩ : ∃ z, bsum (xall 92 (kpad key) ++ R) = z := ⟨_, rfl⟩
  have hOl : O.length = 32 := by rw [← hO]; exact bsum_len _
  rw [rsum_bsum, hO] at g2
  rw [show hmac key m = O by rw [← hO, ← hR]; rfl]
  obtain ⟨K, hK⟩ : ∃ K, kpad key = K := ⟨_, rfl⟩
  rw [hK] at hKl hcp g1 g2
  have l1 := (xall_len 54 K).trans hKl
  have l2 := (xall_len 92 K).trans hKl
  have hT : K.take 64 = K := List.take_of_length_le (by omega)
  have g0 := rsum_ key n hn (by omega)
  rw [rsum_bsum] at g0
  obtain ⟨B, hB⟩ : ∃ z, bsum key = z := ⟨_, rfl⟩
  have hBl : B.length = 32 := by rw [← hB]; exact bsum_len _
  rw [hB] at g0 hcp
  refine good_frm 48 Try.func8 rfl rfl rfl rfl rfl rfl ?_
  refine awp_seq ?_
  refine rln ?_
  refine G2 (fun _ k_ => q_al k_) ?_
  refine gend ?_
  refine awp_seq ?_
  refine rln ?_
  refine G2 (fun _ k_ => q_al k_) ?_
  refine gend ?_
  refine awp_mid ⟨frm 48 [(1, sc (.ro k (u8s m))), (4, sc (.ptr 0 0)), (5, sc (.ptr 1 0))], [some (u8s (List.replicate 32 0)), some (u8s K)]⟩ ?_ ?_
  · refine awp_seq ?_
    refine rln ?_
    refine Mv ?_
    refine G (q_leno ?_)
    refine G (q_gtrn (y := 64) ?_)
    refine gend ?_
    refine cndY (fun hc1 => ?_) ?_; rotate_left
    · omega
    refine awp_seq ?_
    refine rln ?_
    refine Mv ?_
    refine G2 (fun _ k_ => q_callp g0 k_ (ha := (cac (et rfl) sees_ro ca0))) ?_
    refine G2 (fun _ k_ => q_al k_) ?_
    refine G20 (fun _ k_ => q_stw k_) ?_
    refine gend ?_
    refine rdln [2] [] [0, 0, 1] ?_
    refine DSp 1 rfl (fun _ hv => q_slp_no ⟨rfl, rfl⟩ (hp := hv)) ?_
    refine DSp 2 rfl (fun _ hv => q_slp_no ⟨rfl, rfl⟩ (hp := hv)) ?_
    refine De2 (fun _ k_ => q_cpy k_ (eB := el_slc rfl (by rw [mapc_length, hBl]; decide) (cut_h hBl))) ?_
    rw [hcp]
    refine dend ?_
    exact sle_view [0, 1] (fun p h => absurd h (Nat.not_lt_zero _)) (by decide) ⟨rs_ro, rfl, rfl, trivial⟩ (vh2 (pick_m rfl) (pick_m rfl))
  refine awp_seq ?_
  refine rln ?_
  refine As ?_
  refine As ?_
  refine gend ?_
  refine awp_seq ?_
  refine awp_seq ?_
  refine rln ?_
  refine G (q_as (s := sc (cn 0)) ?_)
  refine gend ?_
  refine awp_le (sle_empty (al' := [(1, sc (.ro k (u8s m))), (4, sc (.ptr 0 0)), (5, sc (.ptr 1 0)), (7, sc (.slc 2 0 0 1)), (8, sc .nils), (9, sc (cn 0))]) 1 (Nat.zero_le _) ⟨.inl rfl, .inl rfl, .inl rfl, .inr ⟨rfl, rfl⟩, .inl rfl, .inl rfl, trivial⟩) ?_
  refine awp_block ?_
  refine awp_loop (fun x : {i : Nat // i ≤ 64} => ⟨frm 48 [(1, sc (.ro k (u8s m))), (4, sc (.ptr 0 0)), (5, sc (.ptr 1 0)), (7, sc (.slc 2 0 x.1 1)), (8, sc (.slc 3 0 x.1 1)), (9, sc (cn x.1))], [some (u8s (List.replicate 32 0)), some (u8s K), some (u8s (xall 54 (K.take x.1))), some (u8s (xall 92 (K.take x.1)))]⟩) (fun x => 64 - x.1) ⟨0, Nat.zero_le _⟩ (sle_empty 1 (Nat.zero_le _) ⟨.inl rfl, .inl rfl, .inl rfl, .inl rfl, .inr ⟨rfl, rfl⟩, .inl rfl, trivial⟩) fun x => ?_   -- live: [5, 7, 8, 9]
  have h5 := xtake_len 54 K x.1 (by omega)
  have h6 := xtake_len 92 K x.1 (by omega)
  refine awp_seq ?_
  refine awp_seq ?_
  refine rln ?_
  refine Mv ?_
  refine G (q_lssn (y := 64) ?_)
  refine gend ?_
  refine cnd (fun hc2 => ?_) (fun hc2 => ?_); rotate_left
  · refine awp_exit ?_
    rw [show x.1 = 64 from (by have := x.2; omega)]
    rw [hT]
    refine awp_seq ?_
    refine rln ?_
    refine Mv ?_
    refine Mv ?_
    refine G2 (fun _ k_ => q_app k_) ?_
    refine G2 (fun _ k_ => q_callp g1 k_ (ha := cac (et rfl) (sees_slc rfl rfl (app_cut l1 hk)) ca0)) ?_
    refine G2 (fun _ k_ => q_al k_) ?_
    refine G20 (fun _ k_ => q_stw k_) ?_
    refine gend ?_
    refine awp_seq ?_
    refine rln ?_
    refine Mv ?_
    refine G (q_slp_no ?_)
    refine G2 (fun _ k_ => q_app k_) ?_
    refine G2 (fun _ k_ => q_callp g2 k_ (ha := cac (et rfl) (sees_slc rfl rfl (app_cut l2 hRl)) ca0)) ?_
    refine G20 (fun _ k_ => q_stw k_) ?_
    refine gend ?_
    refine awp_ret ?_
    exact fpc (t := 25) (a := 4) (hn := (mapc_length ..).trans hOl)
  refine awp_skip ?_
  refine awp_seq ?_
  refine awp_block ?_
  refine awp_seq ?_
  refine rln ?_
  refine Mv ?_
  refine Mv ?_
  refine G (q_ixp1 ?_)
  refine G (q_ldp ?_)
  refine G (q_xor8 (y := 54) ?_)
  refine G2 (fun _ k_ => q_bsl (fkc rfl (et rfl) rfl (Nat.le_of_ble_eq_true rfl) (fk0 k_))) ?_
  refine G2 (fun _ k_ => q_app k_) ?_
  refine As ?_
  refine gend ?_
  refine rln ?_
  refine Mv ?_
  refine Mv ?_
  refine G (q_ixp1 ?_)
  refine G (q_ldp ?_)
  refine G (q_xor8 (y := 92) ?_)
  refine G2 (fun _ k_ => q_bsl (fkc rfl (et rfl) rfl (Nat.le_of_ble_eq_true rfl) (fk0 k_))) ?_
  refine G2 (fun _ k_ => q_app k_) ?_
  refine As ?_
  refine gend ?_
  refine rln ?_
  refine Mv ?_
  refine G (q_addn (y := 1) ?_)
  refine As ?_
  refine gend ?_
  exact ⟨⟨x.1 + 1, by omega⟩, by show 64 - (x.1 + 1) < 64 - x.1; omega, sle_view [0, 1, 5, 7] (fun p h => absurd h (Nat.not_lt_zero _)) (by decide) ⟨rs_ro, rfl, rfl, rfl, rfl, rfl, trivial⟩ (vh4 (pick_m rfl) (pick_m rfl) (pick_m (congrArg (fun z => some (some z)) (xat_succ 54 K x.1 (by omega)))) (pick_m (congrArg (fun z => some (some z)) (xat_succ 92 K x.1 (by omega)))))⟩   -- endloop 1
theorem rmac_ (key m : List UInt8) (n k : Nat) (hn : key.length = n) (hn9 : n ≤ 10000) (hk : m.length = k) (hk9 : k ≤ 10000) : Good Try.prog 8 [.c (.ro n (u8s key)), .c (.ro k (u8s m))] [] (sa (u8s (hmac key m))) [] := by
  rcases Nat.lt_or_ge 64 n with h | h
  · exact rmac_long key m n k hn hn9 h hk hk9
  · exact rmac_short key m n k hn hn9 h hk hk9
end Go.Proofs.Ytngmhcgenknokaa

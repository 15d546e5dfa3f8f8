/- What functions of the program do, walked over the abstract machine. -/
import Derived.Test.YtcihpgdmldkjfaaAa
namespace Go.Proofs.Ytcihpgdmldkjfaa
open Go Go.Abs Go.Proofs Go.Proofs.Ytcihpgdmldkjfaa.Ch Go.Proofs.Ytcihpgdmldkjfaa.Po

theorem take0_m {l : List UInt8} {c : Nat} : ((u8s l).drop (0 * 1)).take (c * 1) = u8s (l.take c) := by rw [Nat.mul_one, Nat.mul_one, cut_m]; rfl
theorem drop_m {l : List UInt8} {c n : Nat} (h : l.length = n) : ((u8s l).drop (c * 1)).take ((n - c) * 1) = u8s (l.drop c) := by
  rw [Nat.mul_one, Nat.mul_one, cut_m, List.take_of_length_le (by rw [List.length_drop]; omega)]
theorem all_m {l : List UInt8} {n : Nat} (h : l.length = n) : (u8s l).take n = u8s l := by rw [List.take_of_length_le (by rw [mapc_length]; omega)]
/-- What is opened. -/
def aopen (key nonce ad s : List UInt8) : Option (List UInt8) :=
  if s.length < 16 then none
  else if amark key nonce ad (s.take (s.length - 16)) = s.drop (s.length - 16) then some (xw key 1 nonce (s.take (s.length - 16)) (s.length - 16)) else none
theorem aopen_len {key nonce ad s p : List UInt8} (h : aopen key nonce ad s = some p) : p.length + 16 = s.length := by
  unfold aopen at h
  split at h
  · cases h
  · split at h
    · cases h; rw [xw_len]; omega
    · cases h
theorem cpy_n (n : List UInt8) (h : n.length = 8) : splice (u8s (List.replicate 12 0)) 4 ((u8s n).take (min 8 8 * 1)) = u8s ([0, 0, 0, 0] ++ n) := by
  rw [show min 8 8 * 1 = 8 from rfl, all_m h]
  simp [splice, mapc, h]
set_option maxHeartbeats 800000 in
/-- aead.Seal -/
theorem seal_ (key nonce ad l : List UInt8) (n k : Nat) (hkey : key.length = 32) (hnonce : nonce.length = 12) (had : ad.length = n) (hn : n ≤ 10000) (hc : l.length = k) (hk : k ≤ 10000) : Good Try.prog 8 [.a (u8s key), .a (u8s nonce), .c (.ro n (u8s ad)), .c (.ro k (u8s l))] [] (sc (.slc 0 0 (k + 16) 1)) [some (u8s (aseal key nonce ad l))] := by
  have g1 := xor key 1 nonce k l hkey hnonce hc (by omega)
  obtain ⟨C, hC⟩ : ∃ z, xw key 1 nonce l k = z := ⟨_, rfl⟩
  have hCl : C.length = k := by rw [← hC]; exact xw_len _ _ _ _ _
  rw [hC] at g1
  have g2 := mark_ key nonce ad C n k hkey hnonce had hn hCl hk
  obtain ⟨T, hT⟩ : ∃ z, amark key nonce ad C = z := ⟨_, rfl⟩
  have hTl : T.length = 16 := by rw [← hT]; exact amark_len _ _ _ _
  rw [hT] at g2
  rw [show aseal key nonce ad l = C ++ T by rw [← hT, ← hC, ← hc]; rfl]
  refine good_frm 23 Try.func8 rfl rfl rfl rfl rfl rfl ?_
  refine awp_seq ?_
  refine rln ?_
  refine G2 (fun _ k_ => q_boxa k_) ?_
  refine G2 (fun _ k_ => q_boxa k_) ?_
  refine As ?_
  refine gend ?_
  refine awp_seq ?_
  refine rln ?_
  refine G (q_ldw ?_)
  refine G (q_ldw ?_)
  refine Mv ?_
  refine G2 (fun _ k_ => q_calln g1 k_ (ha := (caa (et rfl) sees_m (cac rfl cm_int (caa (et rfl) sees_m (cac (et rfl) sees_ro ca0)))))) ?_
  refine As ?_
  refine gend ?_
  refine awp_seq ?_
  refine rln ?_
  refine G (q_ldw ?_)
  refine G (q_ldw ?_)
  refine Mv ?_
  refine Mv ?_
  refine G2 (fun _ k_ => q_callp g2 k_ (ha := (caa (et rfl) sees_m (caa (et rfl) sees_m (cac (et rfl) sees_ro (cac (et rfl) (sees_slc rfl rfl (cut_h hCl)) ca0)))))) ?_
  refine G2 (fun _ k_ => q_al k_) ?_
  refine G20 (fun _ k_ => q_stw k_) ?_
  refine gend ?_
  refine awp_seq ?_
  refine rln ?_
  refine Mv ?_
  refine G (q_slp_no ?_)
  refine G2 (fun _ k_ => q_app k_) ?_
  refine As ?_
  refine gend ?_
  refine awp_ret ?_
  exact fx1 [4] (hm0 := rfl) (hH := pl1 (cs' := u8s (C ++ T)) rfl (by rw [mapc_append]; exact sees_m) pl0)
/-- aead.Open -/
theorem open_short (key nonce ad s : List UInt8) (n k : Nat) (hkey : key.length = 32) (hnonce : nonce.length = 12) (had : ad.length = n) (hn : n ≤ 10000) (hc : s.length = k) (hk : k ≤ 10000) (h : k < 16) : Good Try.prog 9 [.a (u8s key), .a (u8s nonce), .c (.ro n (u8s ad)), .c (.ro k (u8s s))] [] (.t [.c .nils, .c (cn 8)]) [] := by
  refine good_frm 38 Try.func9 rfl rfl rfl rfl rfl rfl ?_
  refine awp_seq ?_
  refine rln ?_
  refine G2 (fun _ k_ => q_boxa k_) ?_
  refine G2 (fun _ k_ => q_boxa k_) ?_
  refine As ?_
  refine G (q_as (s := sc (cn 0)) ?_)
  refine gend ?_
  refine awp_seq ?_
  refine rln ?_
  refine Mv ?_
  refine G (q_leno ?_)
  refine G (q_subi (y := 16) ?_)
  refine As ?_
  refine gend ?_
  refine awp_seq ?_
  refine awp_seq ?_
  refine rdln [9, 15] [0, 0, 0, 0, 0, 0, 0, 0, 0, 0, 0, 0, 0, 0, 0, 1, 2, 2] [0, 0, 0, 0, 0, 0, 0, 0, 0, 1, 1, 1, 1, 1, 1, 2, 2, 2] ?_
  refine Dp (fun _ => q_mv (s := .v (.c _)) ⟨rfl, rfl⟩) ?_
  refine Dp (fun _ => q_lssi (y := 0) ⟨rfl, rfl⟩) ?_
  refine Dp (fun _ => q_mv (s := .v (.c _)) ⟨rfl, rfl⟩) ?_
  refine Dknd 16 (fun hb3 => ?_) ?_; rotate_left
  · omega
  refine Dn ?_
  refine Dn ?_
  refine Dn ?_
  refine Dn ?_
  refine Dn ?_
  refine Dn ?_
  refine Dm ?_
  refine Dn ?_
  refine Dn ?_
  refine Dn ?_
  refine Dn ?_
  refine Dn ?_
  refine Dm ?_
  refine Dn ?_
  refine Dp (fun _ => q_pkt ⟨rfl, rfl⟩) ?_
  refine dend ?_
  refine cndT ?_
  refine awp_seq ?_
  refine rln ?_
  refine As ?_
  refine G (q_as (s := sc (cn 8)) ?_)
  refine gend ?_
  refine awp_ret ?_
  exact fx2 [] (hm0 := rfl) (hH := pl0)
set_option maxHeartbeats 800000 in
/-- aead.Open -/
theorem open_bad (key nonce ad s : List UInt8) (n k : Nat) (hkey : key.length = 32) (hnonce : nonce.length = 12) (had : ad.length = n) (hn : n ≤ 10000) (hc : s.length = k) (hk : k ≤ 10000) (h : 16 ≤ k) (hh : amark key nonce ad (s.take (k - 16)) ≠ s.drop (k - 16)) : Good Try.prog 9 [.a (u8s key), .a (u8s nonce), .c (.ro n (u8s ad)), .c (.ro k (u8s s))] [] (.t [.c .nils, .c (cn 8)]) [] := by
  have hTl : (s.take (k - 16)).length = k - 16 := by rw [List.length_take]; omega
  have hDl : (s.drop (k - 16)).length = 16 := by rw [List.length_drop]; omega
  have g2 := mark_ key nonce ad (s.take (k - 16)) n (k - 16) hkey hnonce had hn hTl (by omega)
  obtain ⟨M, hM⟩ : ∃ z, amark key nonce ad (s.take (k - 16)) = z := ⟨_, rfl⟩
  have hMl : M.length = 16 := by rw [← hM]; exact amark_len _ _ _ _
  rw [hM] at g2 hh
  have g3 := equal M (s.drop (k - 16)) hMl hDl
  refine good_frm 38 Try.func9 rfl rfl rfl rfl rfl rfl ?_
  refine awp_seq ?_
  refine rln ?_
  refine G2 (fun _ k_ => q_boxa k_) ?_
  refine G2 (fun _ k_ => q_boxa k_) ?_
  refine As ?_
  refine G (q_as (s := sc (cn 0)) ?_)
  refine gend ?_
  refine awp_seq ?_
  refine rln ?_
  refine Mv ?_
  refine G (q_leno ?_)
  refine G (q_subn (y := 16) ?_)
  refine As ?_
  refine gend ?_
  refine awp_seq ?_
  refine awp_seq ?_
  refine rdln [9, 15] [0, 0, 0, 0, 0, 0, 0, 0, 0, 0, 0, 0, 0, 0, 0, 1, 2, 2] [0, 0, 0, 0, 0, 0, 0, 0, 0, 1, 1, 1, 1, 1, 1, 2, 2, 2] ?_
  refine Dp (fun _ => q_mv (s := .v (.c _)) ⟨rfl, rfl⟩) ?_
  refine Dp (fun _ => q_lssn (y := 0) ⟨rfl, rfl⟩) ?_
  refine Dp (fun _ => q_mv (s := .v (.c _)) ⟨rfl, rfl⟩) ?_
  refine Dkfd 16 (fun hb3 => ?_) ?_; rotate_left
  · omega
  refine DLwg ?_
  refine DLwg ?_
  refine Dpg (fun _ => q_mv (s := .v (.c _)) ⟨rfl, rfl⟩) ?_
  refine Dpg (fun _ => q_mv (s := .v (.c _)) ⟨rfl, rfl⟩) ?_
  refine Dpg (fun _ => q_mv (s := .v (.c _)) ⟨rfl, rfl⟩) ?_
  refine Dpg (fun _ => q_slo_hi  ⟨rfl, rfl⟩ (hc := take0_m)) ?_
  refine De2g (fun _ k_ => q_callp g2 k_ (ha := (caa (et rfl) sees_m (caa (et rfl) sees_m (cac (et rfl) sees_ro (cac (et rfl) sees_ro ca0)))))) ?_
  refine Dpg (fun _ => q_mv (s := .v (.c _)) ⟨rfl, rfl⟩) ?_
  refine Dpg (fun _ => q_mv (s := .v (.c _)) ⟨rfl, rfl⟩) ?_
  refine Dpg (fun _ => q_slo_lo  ⟨rfl, rfl⟩ (hc := drop_m hc)) ?_
  refine Dpg (fun _ => q_s2r  ⟨rfl, rfl⟩ (hc := fun e => by have := congrArg List.length e; rw [mapc_length, hDl] at this; cases this)) ?_
  refine Dpg (fun _ => q_ldar  ⟨rfl, rfl⟩ (hc := all_m hDl)) ?_
  refine De2g (fun _ k_ => q_callp g3 k_ (ha := (caa (et rfl) sees_m (caa (et rfl) sees_m ca0)))) ?_
  refine Dpg (fun _ => q_notb ⟨rfl, rfl⟩) ?_
  refine Dp (fun _ => q_pkf ⟨rfl, rfl⟩) ?_
  refine dend ?_
  refine cndbnY (fun hc1 => ?_) ?_; rotate_left
  · exact decide_eq_false hh
  refine awp_seq ?_
  refine rln ?_
  refine As ?_
  refine G (q_as (s := sc (cn 8)) ?_)
  refine gend ?_
  refine awp_ret ?_
  exact fx2 [] (hm0 := rfl) (hH := pl0)
set_option maxHeartbeats 800000 in
/-- aead.Open -/
theorem open_yes (key nonce ad s : List UInt8) (n k : Nat) (hkey : key.length = 32) (hnonce : nonce.length = 12) (had : ad.length = n) (hn : n ≤ 10000) (hc : s.length = k) (hk : k ≤ 10000) (h : 16 ≤ k) (hh : amark key nonce ad (s.take (k - 16)) = s.drop (k - 16)) : Good Try.prog 9 [.a (u8s key), .a (u8s nonce), .c (.ro n (u8s ad)), .c (.ro k (u8s s))] [] (.t [.c (.slc 0 0 (k - 16) 1), .c (cn 0)]) [some (u8s (xw key 1 nonce (s.take (k - 16)) (k - 16)))] := by
  have hTl : (s.take (k - 16)).length = k - 16 := by rw [List.length_take]; omega
  have hDl : (s.drop (k - 16)).length = 16 := by rw [List.length_drop]; omega
  have g2 := mark_ key nonce ad (s.take (k - 16)) n (k - 16) hkey hnonce had hn hTl (by omega)
  obtain ⟨M, hM⟩ : ∃ z, amark key nonce ad (s.take (k - 16)) = z := ⟨_, rfl⟩
  have hMl : M.length = 16 := by rw [← hM]; exact amark_len _ _ _ _
  rw [hM] at g2 hh
  have g3 := equal M (s.drop (k - 16)) hMl hDl
  have g4 := xor key 1 nonce (k - 16) (s.take (k - 16)) hkey hnonce hTl (by omega)
  refine good_frm 38 Try.func9 rfl rfl rfl rfl rfl rfl ?_
  refine awp_seq ?_
  refine rln ?_
  refine G2 (fun _ k_ => q_boxa k_) ?_
  refine G2 (fun _ k_ => q_boxa k_) ?_
  refine As ?_
  refine G (q_as (s := sc (cn 0)) ?_)
  refine gend ?_
  refine awp_seq ?_
  refine rln ?_
  refine Mv ?_
  refine G (q_leno ?_)
  refine G (q_subn (y := 16) ?_)
  refine As ?_
  refine gend ?_
  refine awp_seq ?_
  refine awp_seq ?_
  refine rdln [9, 15] [0, 0, 0, 0, 0, 0, 0, 0, 0, 0, 0, 0, 0, 0, 0, 1, 2, 2] [0, 0, 0, 0, 0, 0, 0, 0, 0, 1, 1, 1, 1, 1, 1, 2, 2, 2] ?_
  refine Dp (fun _ => q_mv (s := .v (.c _)) ⟨rfl, rfl⟩) ?_
  refine Dp (fun _ => q_lssn (y := 0) ⟨rfl, rfl⟩) ?_
  refine Dp (fun _ => q_mv (s := .v (.c _)) ⟨rfl, rfl⟩) ?_
  refine Dkfd 16 (fun hb3 => ?_) ?_; rotate_left
  · omega
  refine DLwg ?_
  refine DLwg ?_
  refine Dpg (fun _ => q_mv (s := .v (.c _)) ⟨rfl, rfl⟩) ?_
  refine Dpg (fun _ => q_mv (s := .v (.c _)) ⟨rfl, rfl⟩) ?_
  refine Dpg (fun _ => q_mv (s := .v (.c _)) ⟨rfl, rfl⟩) ?_
  refine Dpg (fun _ => q_slo_hi  ⟨rfl, rfl⟩ (hc := take0_m)) ?_
  refine De2g (fun _ k_ => q_callp g2 k_ (ha := (caa (et rfl) sees_m (caa (et rfl) sees_m (cac (et rfl) sees_ro (cac (et rfl) sees_ro ca0)))))) ?_
  refine Dpg (fun _ => q_mv (s := .v (.c _)) ⟨rfl, rfl⟩) ?_
  refine Dpg (fun _ => q_mv (s := .v (.c _)) ⟨rfl, rfl⟩) ?_
  refine Dpg (fun _ => q_slo_lo  ⟨rfl, rfl⟩ (hc := drop_m hc)) ?_
  refine Dpg (fun _ => q_s2r  ⟨rfl, rfl⟩ (hc := fun e => by have := congrArg List.length e; rw [mapc_length, hDl] at this; cases this)) ?_
  refine Dpg (fun _ => q_ldar  ⟨rfl, rfl⟩ (hc := all_m hDl)) ?_
  refine De2g (fun _ k_ => q_callp g3 k_ (ha := (caa (et rfl) sees_m (caa (et rfl) sees_m ca0)))) ?_
  refine Dpg (fun _ => q_notb ⟨rfl, rfl⟩) ?_
  refine Dp (fun _ => q_pkf ⟨rfl, rfl⟩) ?_
  refine dend ?_
  refine cndbnN (fun hc1 => ?_) ?_; rotate_left
  · exact decide_eq_true hh
  refine awp_skip ?_
  refine awp_seq ?_
  refine rdln [5] [0, 0, 0, 0, 0, 0, 1, 1] [0, 0, 0, 0, 0, 1, 1, 1] ?_
  refine DLw ?_
  refine DLw ?_
  refine Dp (fun _ => q_mv (s := .v (.c _)) ⟨rfl, rfl⟩) ?_
  refine Dp (fun _ => q_mv (s := .v (.c _)) ⟨rfl, rfl⟩) ?_
  refine Dp (fun _ => q_slo_hi  ⟨rfl, rfl⟩ (hc := take0_m)) ?_
  refine De2 (fun _ k_ => q_calln g4 k_ (ha := (caa (et rfl) sees_m (cac rfl cm_int (caa (et rfl) sees_m (cac (et rfl) sees_ro ca0)))))) ?_
  refine Dp (fun _ => q_as (s := .v (.c _)) ⟨rfl, rfl⟩) ?_
  refine Dp (fun _ => q_as (s := sc (cn 0)) ⟨rfl, rfl⟩) ?_
  refine dend ?_
  refine awp_ret ?_
  exact fx2 [2] (hm0 := rfl) (hH := pl1 rfl sees_m pl0)
theorem open_none (key nonce ad s : List UInt8) (n k : Nat) (hkey : key.length = 32) (hnonce : nonce.length = 12) (had : ad.length = n) (hn : n ≤ 10000) (hc : s.length = k) (hk : k ≤ 10000) (h : aopen key nonce ad s = none) : Good Try.prog 9 [.a (u8s key), .a (u8s nonce), .c (.ro n (u8s ad)), .c (.ro k (u8s s))] [] (.t [.c .nils, .c (cn 8)]) [] := by
  unfold aopen at h
  rw [hc] at h
  by_cases h1 : k < 16
  · exact open_short key nonce ad s n k hkey hnonce had hn hc hk h1
  · rw [if_neg h1] at h
    by_cases h2 : amark key nonce ad (s.take (k - 16)) = s.drop (k - 16)
    · rw [if_pos h2] at h; cases h
    · exact open_bad key nonce ad s n k hkey hnonce had hn hc hk (by omega) h2
theorem open_some (key nonce ad s : List UInt8) (n k : Nat) (hkey : key.length = 32) (hnonce : nonce.length = 12) (had : ad.length = n) (hn : n ≤ 10000) (hc : s.length = k) (hk : k ≤ 10000) (p : List UInt8) (h : aopen key nonce ad s = some p) : Good Try.prog 9 [.a (u8s key), .a (u8s nonce), .c (.ro n (u8s ad)), .c (.ro k (u8s s))] [] (.t [.c (.slc 0 0 (k - 16) 1), .c (cn 0)]) [some (u8s p)] := by
  unfold aopen at h
  rw [hc] at h
  by_cases h1 : k < 16
  · rw [if_pos h1] at h; cases h
  · rw [if_neg h1] at h
    by_cases h2 : amark key nonce ad (s.take (k - 16)) = s.drop (k - 16)
    · rw [if_pos h2] at h; cases h; exact open_yes key nonce ad s n k hkey hnonce had hn hc hk (by omega) h2
    · rw [if_neg h2] at h; cases h
set_option maxHeartbeats 800000 in
/-- aead.Nonce -/
theorem nonce_ (n : UInt64) : Good Try.prog 7 [.c (c64 n)] [] (sa (u8s (anonce n))) [] := by
  have g1 := number_ n
  obtain ⟨B, hB⟩ : ∃ z, num8 n 8 = z := ⟨_, rfl⟩
  have hBl : B.length = 8 := by rw [← hB]; exact num8_len _ _
  have hA : (anonce n).length = 12 := anonce_len n
  have hcp := cpy_n B hBl
  rw [hB] at g1
  rw [show ([0, 0, 0, 0] : List UInt8) ++ B = anonce n by rw [← hB]; rfl] at hcp
  refine good_frm 8 Try.func7 rfl rfl rfl rfl rfl rfl ?_
  refine awp_seq ?_
  refine rln ?_
  refine G2 (fun _ k_ => q_al k_) ?_
  refine gend ?_
  refine awp_seq ?_
  refine rdln [2, 3] [0, 0, 0, 1] [1, 0, 1, 2] ?_
  refine DSp 0 rfl (fun _ hv => q_slp_lo (j := 4) ⟨rfl, rfl⟩ (hp := hv)) ?_
  refine Dp (fun _ => q_mv (s := .v (.c _)) ⟨rfl, rfl⟩) ?_
  refine De2 (fun _ k_ => q_calln g1 k_ (ha := (cac (et rfl) cm_int ca0))) ?_
  refine De2 (fun _ k_ => q_cpy k_ (eB := el_slc rfl (by rw [mapc_length, hBl]; decide) (cut_h hBl))) ?_ (hH := by simp only [List.set_cons_zero, List.cons_append, List.nil_append]; exact congrArg (fun z => [some z, some (u8s B)]) hcp)
  refine dend ?_
  refine awp_seq ?_
  refine rln ?_
  refine G (q_ldw ?_)
  refine G20 (fun _ k_ => q_stw k_) ?_
  refine gend ?_
  refine awp_ret ?_
  exact fpc (t := 27) (a := 2) (hn := (mapc_length ..).trans hA)
end Go.Proofs.Ytcihpgdmldkjfaa

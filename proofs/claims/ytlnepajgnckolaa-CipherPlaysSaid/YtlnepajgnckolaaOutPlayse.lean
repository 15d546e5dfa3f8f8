/- Texts that the proof stands on, put together: the abstract machine, and what functions do over it. -/
import Derived.Test.YtlnepajgnckolaaOutPlaysd
/- What functions of the program do, walked over the abstract machine. -/
namespace Go.Proofs.Ytlnepajgnckolaa.Ae
open Go Go.Abs Go.Proofs Go.Proofs.Ytlnepajgnckolaa.Ch Go.Proofs.Ytlnepajgnckolaa.Po

set_option maxRecDepth 20000
theorem take0_m {l : List UInt8} {c : Nat} : ((u8s l).drop (0 * 1)).take (c * 1) = u8s (l.take c) := by rw [Nat.mul_one, Nat.mul_one, cut_m]; rfl
theorem drop_m {l : List UInt8} {c n : Nat} (h : l.length = n) : ((u8s l).drop (c * 1)).take ((n - c) * 1) = u8s (l.drop c) := by
  rw [Nat.mul_one, Nat.mul_one, cut_m, List.take_of_length_le (by rw [List.length_drop]; omega)]
theorem all_m {l : List UInt8} {n : Nat} (h : l.length = n) : (u8s l).take n = u8s l := by rw [List.take_of_length_le (by rw [mapc_length]; omega)]
/-- What is opened. -/
def aopen (key nonce ad s : List UInt8) : Option (List UInt8) :=
  if s.length < 16 then none
  else if amark key nonce ad (s.take (s.length - 16)) = s.drop (s.length - 16) then some (xw key 1 nonce (s.take (s.length - 16)) (s.length - 16)) else none
theorem aopen_len {key nonce ad s p : List UInt8} (h : aopen key nonce ad s = some p) : p.length + 16 = s.length := by
  unfold aopen at h
  split at h
  · cases h
  · split at h
    · cases h; rw [xw_len]; omega
    · cases h
theorem cpy_n (n : List UInt8) (h : n.length = 8) : splice (u8s (List.replicate 12 0)) 4 ((u8s n).take (min 8 8 * 1)) = u8s ([0, 0, 0, 0] ++ n) := by
  rw [show min 8 8 * 1 = 8 from rfl, all_m h]
  simp [splice, mapc, h]
set_option maxHeartbeats 800000 in
/-- aead.Seal -/
theorem seal_ (key nonce ad l : List UInt8) (n k : Nat) (hkey : key.length = 32) (hnonce : nonce.length = 12) (had : ad.length = n) (hn : n ≤ 10000) (hc : l.length = k) (hk : k ≤ 10000) : Good Try.prog 39 [.a (u8s key), .a (u8s nonce), .c (.ro n (u8s ad)), .c (.ro k (u8s l))] [] (sc (.slc 0 0 (k + 16) 1)) [some (u8s (aseal key nonce ad l))] := by
  have g1 := xor key 1 nonce k l hkey hnonce hc (by omega)
  obtain ⟨C, hC⟩ : ∃ z, xw key 1 nonce l k = z := ⟨_, rfl⟩
  have hCl : C.length = k := by rw [← hC]; exact xw_len _ _ _ _ _
  rw [hC] at g1
  have g2 := mark_ key nonce ad C n k hkey hnonce had hn hCl hk
  obtain ⟨T, hT⟩ : ∃ z, amark key nonce ad C = z := ⟨_, rfl⟩
  have hTl : T.length = 16 := by rw [← hT]; exact amark_len _ _ _ _
  rw [hT] at g2
  rw [show aseal key nonce ad l = C ++ T by rw [← hT, ← hC, ← hc]; rfl]
  refine good_frm 23 Try.func39 rfl rfl rfl rfl rfl rfl ?_
  refine awp_seq ?_
  refine rln ?_
  refine G2 (fun _ k_ => q_boxa k_) ?_
  refine G2 (fun _ k_ => q_boxa k_) ?_
  refine As ?_
  refine gend ?_
  refine awp_seq ?_
  refine rln ?_
  refine G (q_ldw ?_)
  refine G (q_ldw ?_)
  refine Mv ?_
  refine G2 (fun _ k_ => q_calln g1 k_ (ha := (caa (et rfl) sees_m (cac rfl cm_int (caa (et rfl) sees_m (cac (et rfl) sees_ro ca0)))))) ?_
  refine As ?_
  refine gend ?_
  refine awp_seq ?_
  refine rln ?_
  refine G (q_ldw ?_)
  refine G (q_ldw ?_)
  refine Mv ?_
  refine Mv ?_
  refine G2 (fun _ k_ => q_callp g2 k_ (ha := (caa (et rfl) sees_m (caa (et rfl) sees_m (cac (et rfl) sees_ro (cac (et rfl) (sees_slc rfl rfl (cut_h hCl)) ca0)))))) ?_
  refine G2 (fun _ k_ => q_al k_) ?_
  refine G20 (fun _ k_ => q_stw k_) ?_
  refine gend ?_
  refine awp_seq ?_
  refine rln ?_
  refine Mv ?_
  refine G (q_slp_no ?_)
  refine G2 (fun _ k_ => q_app k_) ?_
  refine As ?_
  refine gend ?_
  refine awp_ret ?_
  exact fx1 [4] (hm0 := rfl) (hH := pl1 (cs' := u8s (C ++ T)) rfl (by rw [mapc_append]; exact sees_m) pl0)
/-- aead.Open -/
theorem open_short (key nonce ad s : List UInt8) (n k : Nat) (hkey : key.length = 32) (hnonce : nonce.length = 12) (had : ad.length = n) (hn : n ≤ 10000) (hc : s.length = k) (hk : k ≤ 10000) (h : k < 16) : Good Try.prog 43 [.a (u8s key), .a (u8s nonce), .c (.ro n (u8s ad)), .c (.ro k (u8s s))] [] (.t [.c .nils, .c (cn 8)]) [] := by
  refine good_frm 38 Try.func43 rfl rfl rfl rfl rfl rfl ?_
  refine awp_seq ?_
  refine rln ?_
  refine G2 (fun _ k_ => q_boxa k_) ?_
  refine G2 (fun _ k_ => q_boxa k_) ?_
  refine As ?_
  refine G (q_as (s := sc (cn 0)) ?_)
  refine gend ?_
  refine awp_seq ?_
  refine rln ?_
  refine Mv ?_
  refine G (q_leno ?_)
  refine G (q_subi (y := 16) ?_)
  refine As ?_
  refine gend ?_
  refine awp_seq ?_
  refine awp_seq ?_
  refine rdln [9, 15] [0, 0, 0, 0, 0, 0, 0, 0, 0, 0, 0, 0, 0, 0, 0, 1, 2, 2] [0, 0, 0, 0, 0, 0, 0, 0, 0, 1, 1, 1, 1, 1, 1, 2, 2, 2] ?_
  refine Dp (fun _ => q_mv (s := .v (.c _)) ⟨rfl, rfl⟩) ?_
  refine Dp (fun _ => q_lssi (y := 0) ⟨rfl, rfl⟩) ?_
  refine Dp (fun _ => q_mv (s := .v (.c _)) ⟨rfl, rfl⟩) ?_
  refine Dknd 16 (fun hb3 => ?_) ?_; rotate_left
  · omega
  refine Dn ?_
  refine Dn ?_
  refine Dn ?_
  refine Dn ?_
  refine Dn ?_
  refine Dn ?_
  refine Dm ?_
  refine Dn ?_
  refine Dn ?_
  refine Dn ?_
  refine Dn ?_
  refine Dn ?_
  refine Dm ?_
  refine Dn ?_
  refine Dp (fun _ => q_pkt ⟨rfl, rfl⟩) ?_
  refine dend ?_
  refine cndT ?_
  refine awp_seq ?_
  refine rln ?_
  refine As ?_
  refine G (q_as (s := sc (cn 8)) ?_)
  refine gend ?_
  refine awp_ret ?_
  exact fx2 [] (hm0 := rfl) (hH := pl0)
set_option maxHeartbeats 800000 in
/-- aead.Open -/
theorem open_bad (key nonce ad s : List UInt8) (n k : Nat) (hkey : key.length = 32) (hnonce : nonce.length = 12) (had : ad.length = n) (hn : n ≤ 10000) (hc : s.length = k) (hk : k ≤ 10000) (h : 16 ≤ k) (hh : amark key nonce ad (s.take (k - 16)) ≠ s.drop (k - 16)) : Good Try.prog 43 [.a (u8s key), .a (u8s nonce), .c (.ro n (u8s ad)), .c (.ro k (u8s s))] [] (.t [.c .nils, .c (cn 8)]) [] := by
  have hTl : (s.take (k - 16)).length = k - 16 := by rw [List.length_take]; omega
  have hDl : (s.drop (k - 16)).length = 16 := by rw [List.length_drop]; omega
  have g2 := mark_ key nonce ad (s.take (k - 16)) n (k - 16) hkey hnonce had hn hTl (by omega)
  obtain ⟨M, hM⟩ : ∃ z, amark key nonce ad (s.take (k - 16)) = z := ⟨_, rfl⟩
  have hMl : M.length = 16 := by rw [← hM]; exact amark_len _ _ _ _
  rw [hM] at g2 hh
  have g3 := equal M (s.drop (k - 16)) hMl hDl
  refine good_frm 38 Try.func43 rfl rfl rfl rfl rfl rfl ?_
  refine awp_seq ?_
  refine rln ?_
  refine G2 (fun _ k_ => q_boxa k_) ?_
  refine G2 (fun _ k_ => q_boxa k_) ?_
  refine As ?_
  refine G (q_as (s := sc (cn 0)) ?_)
  refine gend ?_
  refine awp_seq ?_
  refine rln ?_
  refine Mv ?_
  refine G (q_leno ?_)
  refine G (q_subn (y := 16) ?_)
  refine As ?_
  refine gend ?_
  refine awp_seq ?_
  refine awp_seq ?_
  refine rdln [9, 15] [0, 0, 0, 0, 0, 0, 0, 0, 0, 0, 0, 0, 0, 0, 0, 1, 2, 2] [0, 0, 0, 0, 0, 0, 0, 0, 0, 1, 1, 1, 1, 1, 1, 2, 2, 2] ?_
  refine Dp (fun _ => q_mv (s := .v (.c _)) ⟨rfl, rfl⟩) ?_
  refine Dp (fun _ => q_lssn (y := 0) ⟨rfl, rfl⟩) ?_
  refine Dp (fun _ => q_mv (s := .v (.c _)) ⟨rfl, rfl⟩) ?_
  refine Dkfd 16 (fun hb3 => ?_) ?_; rotate_left
  · omega
  refine DLwg ?_
  refine DLwg ?_
  refine Dpg (fun _ => q_mv (s := .v (.c _)) ⟨rfl, rfl⟩) ?_
  refine Dpg (fun _ => q_mv (s := .v (.c _)) ⟨rfl, rfl⟩) ?_
  refine Dpg (fun _ => q_mv (s := .v (.c _)) ⟨rfl, rfl⟩) ?_
  refine Dpg (fun _ => q_slo_hi  ⟨rfl, rfl⟩ (hc := take0_m)) ?_
  refine De2g (fun _ k_ => q_callp g2 k_ (ha := (caa (et rfl) sees_m (caa (et rfl) sees_m (cac (et rfl) sees_ro (cac (et rfl) sees_ro ca0)))))) ?_
  refine Dpg (fun _ => q_mv (s := .v (.c _)) ⟨rfl, rfl⟩) ?_
  refine Dpg (fun _ => q_mv (s := .v (.c _)) ⟨rfl, rfl⟩) ?_
  refine Dpg (fun _ => q_slo_lo  ⟨rfl, rfl⟩ (hc := drop_m hc)) ?_
  refine Dpg (fun _ => q_s2r  ⟨rfl, rfl⟩ (hc := fun e => by have := congrArg List.length e; rw [mapc_length, hDl] at this; cases this)) ?_
  refine Dpg (fun _ => q_ldar  ⟨rfl, rfl⟩ (hc := all_m hDl)) ?_
  refine De2g (fun _ k_ => q_callp g3 k_ (ha := (caa (et rfl) sees_m (caa (et rfl) sees_m ca0)))) ?_
  refine Dpg (fun _ => q_notb ⟨rfl, rfl⟩) ?_
  refine Dp (fun _ => q_pkf ⟨rfl, rfl⟩) ?_
  refine dend ?_
  refine cndbnY (fun hc1 => ?_) ?_; rotate_left
  · exact decide_eq_false hh
  refine awp_seq ?_
  refine rln ?_
  refine As ?_
  refine G (q_as (s := sc (cn 8)) ?_)
  refine gend ?_
  refine awp_ret ?_
  exact fx2 [] (hm0 := rfl) (hH := pl0)
set_option maxHeartbeats 800000 in
/-- aead.Open -/
theorem open_yes (key nonce ad s : List UInt8) (n k : Nat) (hkey : key.length = 32) (hnonce : nonce.length = 12) (had : ad.length = n) (hn : n ≤ 10000) (hc : s.length = k) (hk : k ≤ 10000) (h : 16 ≤ k) (hh : amark key nonce ad (s.take (k - 16)) = s.drop (k - 16)) : Good Try.prog 43 [.a (u8s key), .a (u8s nonce), .c (.ro n (u8s ad)), .c (.ro k (u8s s))] [] (.t [.c (.slc 0 0 (k - 16) 1), .c (cn 0)]) [some (u8s (xw key 1 nonce (s.take (k - 16)) (k - 16)))] := by
  have hTl : (s.take (k - 16)).length = k - 16 := by rw [List.length_take]; omega
  have hDl : (s.drop (k - 16)).length = 16 := by rw [List.length_drop]; omega
  have g2 := mark_ key nonce ad (s.take (k - 16)) n (k - 16) hkey hnonce had hn hTl (by omega)
  obtain ⟨M, hM⟩ : ∃ z, amark key nonce ad (s.take (k - 16)) = z := ⟨_, rfl⟩
  have hMl : M.length = 16 := by rw [← hM]; exact amark_len _ _ _ _
  rw [hM] at g2 hh
  have g3 := equal M (s.drop (k - 16)) hMl hDl
  have g4 := xor key 1 nonce (k - 16) (s.take (k - 16)) hkey hnonce hTl (by omega)
  refine good_frm 38 Try.func43 rfl rfl rfl rfl rfl rfl ?_
  refine awp_seq ?_
  refine rln ?_
  refine G2 (fun _ k_ => q_boxa k_) ?_
  refine G2 (fun _ k_ => q_boxa k_) ?_
  refine As ?_
  refine G (q_as (s := sc (cn 0)) ?_)
  refine gend ?_
  refine awp_seq ?_
  refine rln ?_
  refine Mv ?_
  refine G (q_leno ?_)
  refine G (q_subn (y := 16) ?_)
  refine As ?_
  refine gend ?_
  refine awp_seq ?_
  refine awp_seq ?_
  refine rdln [9, 15] [0, 0, 0, 0, 0, 0, 0, 0, 0, 0, 0, 0, 0, 0, 0, 1, 2, 2] [0, 0, 0, 0, 0, 0, 0, 0, 0, 1, 1, 1, 1, 1, 1, 2, 2, 2] ?_
  refine Dp (fun _ => q_mv (s := .v (.c _)) ⟨rfl, rfl⟩) ?_
  refine Dp (fun _ => q_lssn (y := 0) ⟨rfl, rfl⟩) ?_
  refine Dp (fun _ => q_mv (s := .v (.c _)) ⟨rfl, rfl⟩) ?_
  refine Dkfd 16 (fun hb3 => ?_) ?_; rotate_left
  · omega
  refine DLwg ?_
  refine DLwg ?_
  refine Dpg (fun _ => q_mv (s := .v (.c _)) ⟨rfl, rfl⟩) ?_
  refine Dpg (fun _ => q_mv (s := .v (.c _)) ⟨rfl, rfl⟩) ?_
  refine Dpg (fun _ => q_mv (s := .v (.c _)) ⟨rfl, rfl⟩) ?_
  refine Dpg (fun _ => q_slo_hi  ⟨rfl, rfl⟩ (hc := take0_m)) ?_
  refine De2g (fun _ k_ => q_callp g2 k_ (ha := (caa (et rfl) sees_m (caa (et rfl) sees_m (cac (et rfl) sees_ro (cac (et rfl) sees_ro ca0)))))) ?_
  refine Dpg (fun _ => q_mv (s := .v (.c _)) ⟨rfl, rfl⟩) ?_
  refine Dpg (fun _ => q_mv (s := .v (.c _)) ⟨rfl, rfl⟩) ?_
  refine Dpg (fun _ => q_slo_lo  ⟨rfl, rfl⟩ (hc := drop_m hc)) ?_
  refine Dpg (fun _ => q_s2r  ⟨rfl, rfl⟩ (hc := fun e => by have := congrArg List.length e; rw [mapc_length, hDl] at this; cases this)) ?_
  refine Dpg (fun _ => q_ldar  ⟨rfl, rfl⟩ (hc := all_m hDl)) ?_
  refine De2g (fun _ k_ => q_callp g3 k_ (ha := (caa (et rfl) sees_m (caa (et rfl) sees_m ca0)))) ?_
  refine Dpg (fun _ => q_notb ⟨rfl, rfl⟩) ?_
  refine Dp (fun _ => q_pkf ⟨rfl, rfl⟩) ?_
  refine dend ?_
  refine cndbnN (fun hc1 => ?_) ?_; rotate_left
  · exact decide_eq_true hh
  refine awp_skip ?_
  refine awp_seq ?_
  refine rdln [5] [0, 0, 0, 0, 0, 0, 1, 1] [0, 0, 0, 0, 0, 1, 1, 1] ?_
  refine DLw ?_
  refine DLw ?_
  refine Dp (fun _ => q_mv (s := .v (.c _)) ⟨rfl, rfl⟩) ?_
  refine Dp (fun _ => q_mv (s := .v (.c _)) ⟨rfl, rfl⟩) ?_
  refine Dp (fun _ => q_slo_hi  ⟨rfl, rfl⟩ (hc := take0_m)) ?_
  refine De2 (fun _ k_ => q_calln g4 k_ (ha := (caa (et rfl) sees_m (cac rfl cm_int (caa (et rfl) sees_m (cac (et rfl) sees_ro ca0)))))) ?_
  refine Dp (fun _ => q_as (s := .v (.c _)) ⟨rfl, rfl⟩) ?_
  refine Dp (fun _ => q_as (s := sc (cn 0)) ⟨rfl, rfl⟩) ?_
  refine dend ?_
  refine awp_ret ?_
  exact fx2 [2] (hm0 := rfl) (hH := pl1 rfl sees_m pl0)
theorem open_none (key nonce ad s : List UInt8) (n k : Nat) (hkey : key.length = 32) (hnonce : nonce.length = 12) (had : ad.length = n) (hn : n ≤ 10000) (hc : s.length = k) (hk : k ≤ 10000) (h : aopen key nonce ad s = none) : Good Try.prog 43 [.a (u8s key), .a (u8s nonce), .c (.ro n (u8s ad)), .c (.ro k (u8s s))] [] (.t [.c .nils, .c (cn 8)]) [] := by
  unfold aopen at h
  rw [hc] at h
  by_cases h1 : k < 16
  · exact open_short key nonce ad s n k hkey hnonce had hn hc hk h1
  · rw [if_neg h1] at h
    by_cases h2 : amark key nonce ad (s.take (k - 16)) = s.drop (k - 16)
    · rw [if_pos h2] at h; cases h
    · exact open_bad key nonce ad s n k hkey hnonce had hn hc hk (by omega) h2
theorem open_some (key nonce ad s : List UInt8) (n k : Nat) (hkey : key.length = 32) (hnonce : nonce.length = 12) (had : ad.length = n) (hn : n ≤ 10000) (hc : s.length = k) (hk : k ≤ 10000) (p : List UInt8) (h : aopen key nonce ad s = some p) : Good Try.prog 43 [.a (u8s key), .a (u8s nonce), .c (.ro n (u8s ad)), .c (.ro k (u8s s))] [] (.t [.c (.slc 0 0 (k - 16) 1), .c (cn 0)]) [some (u8s p)] := by
  unfold aopen at h
  rw [hc] at h
  by_cases h1 : k < 16
  · rw [if_pos h1] at h; cases h
  · rw [if_neg h1] at h
    by_cases h2 : amark key nonce ad (s.take (k - 16)) = s.drop (k - 16)
    · rw [if_pos h2] at h; cases h; exact open_yes key nonce ad s n k hkey hnonce had hn hc hk (by omega) h2
    · rw [if_neg h2] at h; cases h
set_option maxHeartbeats 800000 in
/-- aead.Nonce -/
theorem nonce_ (n : UInt64) : Good Try.prog 40 [.c (c64 n)] [] (sa (u8s (anonce n))) [] := by
  have g1 := number_ n
  obtain ⟨B, hB⟩ : ∃ z, num8 n 8 = z := ⟨_, rfl⟩
  have hBl : B.length = 8 := by rw [← hB]; exact num8_len _ _
  have hA : (anonce n).length = 12 := anonce_len n
  have hcp := cpy_n B hBl
  rw [hB] at g1
  rw [show ([0, 0, 0, 0] : List UInt8) ++ B = anonce n by rw [← hB]; rfl] at hcp
  refine good_frm 8 Try.func40 rfl rfl rfl rfl rfl rfl ?_
  refine awp_seq ?_
  refine rln ?_
  refine G2 (fun _ k_ => q_al k_) ?_
  refine gend ?_
  refine awp_seq ?_
  refine rdln [2, 3] [0, 0, 0, 1] [1, 0, 1, 2] ?_
  refine DSp 0 rfl (fun _ hv => q_slp_lo (j := 4) ⟨rfl, rfl⟩ (hp := hv)) ?_
  refine Dp (fun _ => q_mv (s := .v (.c _)) ⟨rfl, rfl⟩) ?_
  refine De2 (fun _ k_ => q_calln g1 k_ (ha := (cac (et rfl) cm_int ca0))) ?_
  refine De2 (fun _ k_ => q_cpy k_ (eB := el_slc rfl (by rw [mapc_length, hBl]; decide) (cut_h hBl))) ?_ (hH := by simp only [List.set_cons_zero, List.cons_append, List.nil_append]; exact congrArg (fun z => [some z, some (u8s B)]) hcp)
  refine dend ?_
  refine awp_seq ?_
  refine rln ?_
  refine G (q_ldw ?_)
  refine G20 (fun _ k_ => q_stw k_) ?_
  refine gend ?_
  refine awp_ret ?_
  exact fpc (t := 77) (a := 2) (hn := (mapc_length ..).trans hA)
end Go.Proofs.Ytlnepajgnckolaa.Ae

/- What functions of the program do, walked over the abstract machine. -/
namespace Go.Proofs.Ytlnepajgnckolaa.Ae
open Go Go.Abs Go.Proofs Go.Proofs.Ytlnepajgnckolaa.Ch Go.Proofs.Ytlnepajgnckolaa.Po

set_option maxRecDepth 20000
theorem snoc0 (l : List UInt8) (i : Nat) : u8s (l ++ List.replicate i 0) ++ [c8 0] = u8s (l ++ List.replicate (i + 1) 0) := by
  rw [u8_snoc, List.append_assoc, ← List.replicate_succ']
def rnon (n : UInt64) : Nat → List UInt8
  | 0 => List.replicate 12 0
  | i + 1 => (rnon n i).set (4 + i) (shr64n n (UInt64.ofNat (8 * i)).toNat).toUInt8
theorem rnon_len (n : UInt64) : ∀ i, (rnon n i).length = 12
  | 0 => rfl
  | i + 1 => by rw [rnon, List.length_set, rnon_len]
theorem ofn_8 (i : Nat) (h : i < 8) : (UInt64.ofNat (8 * i)).toNat = 8 * i := by
  rw [UInt64.toNat_ofNat']; exact Nat.mod_eq_of_lt (by omega)
theorem rnon_8 (n : UInt64) : rnon n 8 = anonce n := by
  have h : ∀ i : Fin 8, (UInt64.ofNat (8 * i.1)).toNat = 8 * i.1 := by decide +kernel
  unfold anonce
  simp only [rnon, num8, h 0, h 1, h 2, h 3, h 4, h 5, h 6, h 7, ofn_8 0 (by decide), ofn_8 1 (by decide), ofn_8 2 (by decide), ofn_8 3 (by decide), ofn_8 4 (by decide), ofn_8 5 (by decide), ofn_8 6 (by decide), ofn_8 7 (by decide)]
  rfl
theorem num8_ref (n : UInt64) (i : Nat) (h : i < 8) : u8s (num8 n i) ++ [c8 (shr64n n (UInt64.ofNat (8 * i)).toNat).toUInt8] = u8s (num8 n (i + 1)) := by
  rw [ofn_8 i h]; exact u8_snoc _ _
theorem cpy_k (B : List UInt8) (h : B.length = 64) : splice (u8s (List.replicate 32 0)) 0 ((u8s (B.take 32)).take (min 32 32 * 1)) = u8s (B.take 32) := by
  have h2 : (B.take 32).length = 32 := by rw [List.length_take, h]; rfl
  rw [show min 32 32 * 1 = 32 from rfl, all_m h2]
  exact splice_whole (by rw [mapc_length, mapc_length, h2]; rfl)
theorem app_cut {a b : List UInt8} {p q : Nat} (ha : a.length = p) (hb : b.length = q) : ((u8s a ++ u8s b).drop 0).take ((p + q) * 1) = u8s (a ++ b) := by
  rw [mapc_append]; exact cut_h (by rw [List.length_append, ha, hb])
/-- escutcheonref10.padded -/
theorem padded_ (l : List UInt8) (n : Nat) (hl : l.length = n) (hn : n ≤ 10000) : Good Try.prog 68 [.c (.ro n (u8s l))] [] (sc (.slc 0 0 (n + (16 - n % 16) % 16) 1)) [some (u8s (l ++ padz n))] := by
  refine good_frm 14 Try.func68 rfl rfl rfl rfl rfl rfl ?_
  refine awp_seq ?_
  refine rln ?_
  refine As ?_
  refine gend ?_
  refine awp_seq ?_
  refine rln ?_
  refine Mv ?_
  refine G2 (fun _ k_ => q_app k_ (eB := el_ro (by rw [mapc_length, hl, Nat.mul_one]))) ?_
  refine As ?_
  refine gend ?_
  refine awp_seq ?_
  refine awp_block ?_
  refine awp_loop (fun x : {i : Nat // i ≤ (16 - n % 16) % 16} => ⟨frm 14 [(3, sc (.slc 0 0 (n + x.1) 1))], [some (u8s (l ++ List.replicate x.1 0))]⟩) (fun x => (16 - n % 16) % 16 - x.1) ⟨0, Nat.zero_le _⟩ (sle_sub ⟨by rw [Nat.zero_add]; rfl, trivial⟩ (by show [some (u8s l)] = [some (u8s (l ++ []))]; rw [List.append_nil])) fun x => ?_   -- live: [3]
  have hxl : (l ++ List.replicate x.1 (0 : UInt8)).length = n + x.1 := by simp [hl]
  refine awp_seq ?_
  refine awp_seq ?_
  refine rln ?_
  refine Mv ?_
  refine G (q_lenc ?_)
  refine G (q_remn (y := 16) ?_)
  refine G (q_neqn (y := 0) ?_)
  refine gend ?_
  refine cnd (fun hc1 => ?_) (fun hc1 => ?_); rotate_left
  · refine awp_exit ?_
    have hx : x.1 = (16 - n % 16) % 16 := by have := x.2; omega
    rw [hx]
    refine awp_seq ?_
    refine rln ?_
    refine Mv ?_
    refine As ?_
    refine gend ?_
    refine awp_ret ?_
    exact fx1 [0] (hm0 := rfl) (hH := pl1 rfl sees_m pl0)
  refine awp_skip ?_
  refine awp_block ?_
  refine rln ?_
  refine Mv ?_
  refine G2 (fun _ k_ => q_bsl (fkc (c := c8 0) rfl rfl rfl (Nat.le_of_ble_eq_true rfl) (fk0 k_))) ?_
  refine G2 (fun _ k_ => q_app k_ (eA := el_slc (xs := u8s (l ++ List.replicate x.1 0)) rfl (by rw [mapc_length, hxl]; omega) (by rw [Nat.mul_one]; exact cut_pre.trans (congrArg u8s (List.take_of_length_le (by omega))))) (eB := el_slc (xs := [_]) rfl (Nat.le_refl 1) rfl)) ?_
  refine As ?_
  refine gend ?_
  exact ⟨⟨x.1 + 1, by omega⟩, by show (16 - n % 16) % 16 - (x.1 + 1) < (16 - n % 16) % 16 - x.1; omega, sle_view [2] (fun p h => absurd h (Nat.not_lt_zero _)) (by decide) ⟨rfl, trivial⟩ (vh1 (pick_m (congrArg (fun z => some (some z)) (snoc0 l x.1))))⟩   -- endloop 1
/-- escutcheonref10.long -/
theorem long_ (n : Nat) : Good Try.prog 70 [.c (cn n)] [] (sc (.slc 0 0 8 1)) [some (u8s (num8 (UInt64.ofNat n) 8))] := by
  refine good_frm 20 Try.func70 rfl rfl rfl rfl rfl rfl ?_
  refine awp_seq ?_
  refine rln ?_
  refine As ?_
  refine gend ?_
  refine awp_seq ?_
  refine rln ?_
  refine As ?_
  refine gend ?_
  refine awp_seq ?_
  refine awp_seq ?_
  refine rln ?_
  refine G (q_as (s := sc (cn 0)) ?_)
  refine gend ?_
  refine awp_le (sle_empty (al' := [(0, sc (cn n)), (3, sc (.slc 0 0 0 1)), (4, sc (cn 0))]) 1 (Nat.zero_le _) ⟨.inl rfl, .inr ⟨rfl, rfl⟩, .inl rfl, trivial⟩) ?_
  refine awp_block ?_
  refine awp_loop (fun x : {i : Nat // i ≤ 8} => ⟨frm 20 [(0, sc (cn n)), (3, sc (.slc 0 0 x.1 1)), (4, sc (cn x.1))], [some (u8s (num8 (UInt64.ofNat n) x.1))]⟩) (fun x => 8 - x.1) ⟨0, Nat.zero_le _⟩ (sle_sub ⟨rfl, rfl, rfl, trivial⟩ rfl) fun x => ?_   -- live: [0, 3, 4]
  have h5 := num8_len (UInt64.ofNat n) x.1
  refine awp_seq ?_
  refine awp_seq ?_
  refine rln ?_
  refine Mv ?_
  refine G (q_lssn (y := 8) ?_)
  refine gend ?_
  refine cnd (fun hc1 => ?_) (fun hc1 => ?_); rotate_left
  · refine awp_exit ?_
    rw [show x.1 = 8 from (by have := x.2; omega)]
    refine awp_seq ?_
    refine rln ?_
    refine Mv ?_
    refine As ?_
    refine gend ?_
    refine awp_ret ?_
    exact fx1 [0] (hm0 := rfl) (hH := pl1 rfl sees_m pl0)
  refine awp_skip ?_
  refine awp_seq ?_
  refine awp_block ?_
  refine rln ?_
  refine Mv ?_
  refine Mv ?_
  refine G (q_cv0_64 ?_)
  refine Mv ?_
  refine G (q_muln (x := 8) ?_)
  refine G (q_cv0_64 ?_)
  refine G (q_shr64_64 ?_)
  refine G (q_cv64_8 ?_)
  refine G2 (fun _ k_ => q_bsl (fkc rfl (et rfl) rfl (Nat.le_of_ble_eq_true rfl) (fk0 k_))) ?_
  refine G2 (fun _ k_ => q_app k_) ?_
  refine As ?_
  refine gend ?_
  refine rln ?_
  refine Mv ?_
  refine G (q_addn (y := 1) ?_)
  refine As ?_
  refine gend ?_
  exact ⟨⟨x.1 + 1, by omega⟩, by show 8 - (x.1 + 1) < 8 - x.1; omega, sle_view [2] (fun p h => absurd h (Nat.not_lt_zero _)) (by decide) ⟨rfl, rfl, rfl, trivial⟩ (vh1 (pick_m (congrArg (fun z => some (some z)) (num8_ref (UInt64.ofNat n) x.1 (by omega)))))⟩   -- endloop 1
/-- escutcheonref10.Nonce -/
theorem rnonce_ (n : UInt64) : Good Try.prog 42 [.c (c64 n)] [] (sa (u8s (anonce n))) [] := by
  have hA := rnon_len n 8
  refine good_frm 19 Try.func42 rfl rfl rfl rfl rfl rfl ?_
  refine awp_seq ?_
  refine rln ?_
  refine G2 (fun _ k_ => q_al k_) ?_
  refine gend ?_
  refine awp_seq ?_
  refine rln ?_
  refine G2 (fun _ k_ => q_al k_) ?_
  refine gend ?_
  refine awp_seq ?_
  refine awp_seq ?_
  refine rln ?_
  refine G (q_as (s := sc (cn 0)) ?_)
  refine gend ?_
  refine awp_block ?_
  refine awp_loop (fun x : {i : Nat // i ≤ 8} => ⟨frm 19 [(0, sc (c64 n)), (2, sc (.ptr 0 0)), (3, sc (.ptr 1 0)), (4, sc (cn x.1))], [some (u8s (List.replicate 12 0)), some (u8s (rnon n x.1))]⟩) (fun x => 8 - x.1) ⟨0, Nat.zero_le _⟩ (sle_sub ⟨rfl, rfl, rfl, rfl, trivial⟩ rfl) fun x => ?_   -- live: [0, 3, 4]
  have h5 := rnon_len n x.1
  refine awp_seq ?_
  refine awp_seq ?_
  refine rln ?_
  refine Mv ?_
  refine G (q_lssn (y := 8) ?_)
  refine gend ?_
  refine cnd (fun hc1 => ?_) (fun hc1 => ?_); rotate_left
  · refine awp_exit ?_
    rw [show x.1 = 8 from (by have := x.2; omega)]
    refine awp_seq ?_
    refine rln ?_
    refine G (q_ldw ?_)
    refine G20 (fun _ k_ => q_stw k_) ?_
    refine gend ?_
    refine awp_ret ?_
    exact fpc (t := 77) (a := 2) (hn := (mapc_length ..).trans hA) (hv := by rw [← rnon_8])
  refine awp_skip ?_
  refine awp_seq ?_
  refine awp_block ?_
  refine rln ?_
  refine Mv ?_
  refine G (q_addn (x := 4) ?_)
  refine Mv ?_
  refine Mv ?_
  refine G (q_muln (x := 8) ?_)
  refine G (q_cv0_64 ?_)
  refine G (q_shr64_64 ?_)
  refine G (q_cv64_8 ?_)
  refine G (q_ixp1 ?_)
  refine G20 (fun _ k_ => q_stm k_) ?_
  refine gend ?_
  refine rln ?_
  refine Mv ?_
  refine G (q_addn (y := 1) ?_)
  refine As ?_
  refine gend ?_
  exact ⟨⟨x.1 + 1, by omega⟩, by show 8 - (x.1 + 1) < 8 - x.1; omega, sle_sub ⟨rfl, rfl, rfl, rfl, trivial⟩ rfl⟩   -- endloop 1
set_option maxHeartbeats 1600000 in
/-- escutcheonref10.mark -/
theorem rmark_ (key nonce ad c : List UInt8) (n k : Nat) (hkey : key.length = 32) (hnonce : nonce.length = 12) (had : ad.length = n) (hn : n ≤ 10000) (hc : c.length = k) (hk : k ≤ 10000) : Good Try.prog 54 [.a (u8s key), .a (u8s nonce), .c (.ro n (u8s ad)), .c (.ro k (u8s c))] [] (sa (u8s (amark key nonce ad c))) [] := by
  have g1 := rblock' key 0 nonce hkey hnonce
  obtain ⟨B, hB⟩ : ∃ z, blk key 0 nonce = z := ⟨_, rfl⟩
  have hBl : B.length = 64 := by rw [← hB]; exact blk_len _ _ _
  rw [hB] at g1
  have hB2 : (B.take 32).length = 32 := by rw [List.length_take, hBl]; rfl
  have hcp := cpy_k B hBl
  have hpa : (ad ++ padz n).length = n + (16 - n % 16) % 16 := by rw [List.length_append, padz_len, had]
  have hpc : (c ++ padz k).length = k + (16 - k % 16) % 16 := by rw [List.length_append, padz_len, hc]
  have hna := num8_len (UInt64.ofNat n) 8
  have hnc := num8_len (UInt64.ofNat k) 8
  have hml := amsg_len ad c
  have hm0 : (((ad ++ padz n) ++ (c ++ padz k)) ++ num8 (UInt64.ofNat n) 8) ++ num8 (UInt64.ofNat k) 8 = amsg ad c := by rw [amsg, had, hc]; simp only [List.append_assoc]
  have hmn : (amsg ad c).length = n + (16 - n % 16) % 16 + (k + (16 - k % 16) % 16) + 8 + 8 := by rw [← hm0]; simp only [List.length_append, hpa, hpc, hna, hnc, padz_len, had, hc]
  have g2 := rtag_ (B.take 32) (amsg ad c) (n + (16 - n % 16) % 16 + (k + (16 - k % 16) % 16) + 8 + 8) hB2 hmn (by omega)
  rw [← tag_rtag] at g2
  have gpa := padded_ ad n had hn
  have gpc := padded_ c k hc hk
  have gna := long_ n
  have gnc := long_ k
  obtain ⟨T, hT⟩ : ∃ z, tag (B.take 32) (amsg ad c) = z := ⟨_, rfl⟩
  have hTl : T.length = 16 := by rw [← hT]; exact tag_len _ _
  rw [hT] at g2
  rw [show amark key nonce ad c = T by rw [← hT, ← hB]; rfl]
  obtain ⟨PA, hPA⟩ : ∃ z, ad ++ padz n = z := ⟨_, rfl⟩
  obtain ⟨PC, hPC⟩ : ∃ z, c ++ padz k = z := ⟨_, rfl⟩
  obtain ⟨NA, hNA⟩ : ∃ z, num8 (UInt64.ofNat n) 8 = z := ⟨_, rfl⟩
  obtain ⟨NC, hNC⟩ : ∃ z, num8 (UInt64.ofNat k) 8 = z := ⟨_, rfl⟩
  obtain ⟨W, hW⟩ : ∃ z, amsg ad c = z := ⟨_, rfl⟩
  obtain ⟨K, hK⟩ : ∃ z, B.take 32 = z := ⟨_, rfl⟩
  rw [hPA] at gpa hpa
  rw [hPC] at gpc hpc
  rw [hNA] at gna hna
  rw [hNC] at gnc hnc
  rw [hPA, hPC, hNA, hNC, hW] at hm0
  rw [hW, hK] at g2
  rw [hK] at hcp hB2
  obtain ⟨p, hp⟩ : ∃ p, n + (16 - n % 16) % 16 = p := ⟨_, rfl⟩
  obtain ⟨q, hq⟩ : ∃ q, k + (16 - k % 16) % 16 = q := ⟨_, rfl⟩
  rw [hp] at gpa hpa g2
  rw [hq] at gpc hpc g2
  have hpb : p ≤ 10100 := by omega
  have hqb : q ≤ 10100 := by omega
  have hs1 : (PA ++ PC).length = p + q := by rw [List.length_append, hpa, hpc]
  have hs2 : ((PA ++ PC) ++ NA).length = p + q + 8 := by rw [List.length_append, hs1, hna]
  refine good_frm 34 Try.func54 rfl rfl rfl rfl rfl rfl ?_
  refine awp_seq ?_
  refine rln ?_
  refine G2 (fun _ k_ => q_boxa k_) ?_
  refine G2 (fun _ k_ => q_boxa k_) ?_
  refine G2 (fun _ k_ => q_al k_) ?_
  refine gend ?_
  refine awp_seq ?_
  refine rln ?_
  refine G (q_ldw ?_)
  refine G (q_ldw ?_)
  refine G2 (fun _ k_ => q_callp g1 k_ (ha := (caa (et rfl) sees_m (cac rfl cm_int (caa (et rfl) sees_m ca0))))) ?_
  refine G2 (fun _ k_ => q_al k_) ?_
  refine G20 (fun _ k_ => q_stw k_) ?_
  refine gend ?_
  refine awp_seq ?_
  refine rln ?_
  refine G2 (fun _ k_ => q_al k_) ?_
  refine gend ?_
  refine awp_seq ?_
  refine rdln [2] [] [0, 0, 1] ?_
  refine DSp 4 rfl (fun _ hv => q_slp_no ⟨rfl, rfl⟩ (hp := hv)) ?_
  refine DSp 3 rfl (fun _ hv => q_slp_hi (k := 32) ⟨rfl, rfl⟩ (hp := hv)) ?_
  refine De2 (fun _ k_ => q_cpy k_ (eB := el_slc (xs := u8s K) rfl (by rw [mapc_length, hBl]; decide) (by rw [Nat.mul_one, ← hK]; exact cut_pre))) ?_ (hH := by simp only [List.set_cons_zero, List.set_cons_succ, List.cons_append, List.nil_append]; exact congrArg (fun z => [some (u8s key), some (u8s nonce), some (u8s (List.replicate 16 0)), some (u8s B), some z]) hcp)
  refine dend ?_
  refine awp_seq ?_
  refine rln ?_
  refine Mv ?_
  refine G2 (fun _ k_ => q_calln gpa k_ (ha := (cac (et rfl) sees_ro ca0))) ?_
  refine Mv ?_
  refine G2 (fun _ k_ => q_calln gpc k_ (ha := (cac (et rfl) sees_ro ca0))) ?_
  refine G2 (fun _ k_ => q_app k_) ?_
  refine As ?_
  refine gend ?_
  refine awp_seq ?_
  refine rdln [4, 5, 8, 9, 10, 11] [0, 0, 0, 0, 0, 1, 0, 0, 2, 3, 4, 5] [4, 1, 0, 0, 1, 2, 2, 2, 3, 4, 5, 6] ?_
  refine DLw ?_
  refine Dp (fun _ => q_mv (s := .v (.c _)) ⟨rfl, rfl⟩) ?_
  refine Dp (fun _ => q_mv (s := .v (.c _)) ⟨rfl, rfl⟩) ?_
  refine Dp (fun _ => q_leno ⟨rfl, rfl⟩) ?_
  refine De2 (fun _ k_ => q_calln gna k_ (ha := (cac (et rfl) cm_int ca0))) ?_
  refine De2 (fun _ k_ => q_app k_ (eA := el_slc (xs := u8s (PA ++ PC)) rfl (by rw [mapc_append, mapc_length, hs1]; omega) (app_cut hpa hpc))) ?_
  refine Dp (fun _ => q_mv (s := .v (.c _)) ⟨rfl, rfl⟩) ?_
  refine Dp (fun _ => q_leno ⟨rfl, rfl⟩) ?_
  refine De2 (fun _ k_ => q_calln gnc k_ (ha := (cac (et rfl) cm_int ca0))) ?_
  refine De2 (fun _ k_ => q_app k_ (eA := el_slc (xs := u8s ((PA ++ PC) ++ NA)) rfl (by rw [mapc_append, mapc_length, hs2]; omega) (app_cut hs1 hna))) ?_
  refine De2 (fun _ k_ => q_callp g2 k_ (ha := (caa (et rfl) sees_m (cac (et rfl) (sees_slc rfl rfl ((app_cut hs2 hnc).trans (by rw [hm0]))) ca0)))) ?_
  refine De20 (fun _ k_ => q_stw k_) ?_
  refine dend ?_
  refine awp_ret ?_
  exact fpc (t := 89) (a := 8) (hn := (mapc_length ..).trans hTl)
set_option maxHeartbeats 800000 in
/-- escutcheonref10.Seal -/
theorem rseal_ (key nonce ad l : List UInt8) (n k : Nat) (hkey : key.length = 32) (hnonce : nonce.length = 12) (had : ad.length = n) (hn : n ≤ 10000) (hc : l.length = k) (hk : k ≤ 10000) : Good Try.prog 41 [.a (u8s key), .a (u8s nonce), .c (.ro n (u8s ad)), .c (.ro k (u8s l))] [] (sc (.slc 0 0 (k + 16) 1)) [some (u8s (aseal key nonce ad l))] := by
  have g1 := rxor key 1 nonce k l hkey hnonce hc (by omega)
  obtain ⟨C, hC⟩ : ∃ z, xw key 1 nonce l k = z := ⟨_, rfl⟩
  have hCl : C.length = k := by rw [← hC]; exact xw_len _ _ _ _ _
  rw [hC] at g1
  have g2 := rmark_ key nonce ad C n k hkey hnonce had hn hCl hk
  obtain ⟨T, hT⟩ : ∃ z, amark key nonce ad C = z := ⟨_, rfl⟩
  have hTl : T.length = 16 := by rw [← hT]; exact amark_len _ _ _ _
  rw [hT] at g2
  rw [show aseal key nonce ad l = C ++ T by rw [← hT, ← hC, ← hc]; rfl]
  have hC0 : C.length = 0 + k := by omega
  refine good_frm 24 Try.func41 rfl rfl rfl rfl rfl rfl ?_
  refine awp_seq ?_
  refine rln ?_
  refine G2 (fun _ k_ => q_boxa k_) ?_
  refine G2 (fun _ k_ => q_boxa k_) ?_
  refine As ?_
  refine gend ?_
  refine awp_seq ?_
  refine rln ?_
  refine G (q_ldw ?_)
  refine G (q_ldw ?_)
  refine Mv ?_
  refine G2 (fun _ k_ => q_calln g1 k_ (ha := (caa (et rfl) sees_m (cac rfl cm_int (caa (et rfl) sees_m (cac (et rfl) sees_ro ca0)))))) ?_
  refine As ?_
  refine gend ?_
  refine awp_seq ?_
  refine rln ?_
  refine G (q_ldw ?_)
  refine G (q_ldw ?_)
  refine Mv ?_
  refine Mv ?_
  refine G2 (fun _ k_ => q_callp g2 k_ (ha := (caa (et rfl) sees_m (caa (et rfl) sees_m (cac (et rfl) sees_ro (cac (et rfl) (sees_slc rfl rfl (cut_h hCl)) ca0)))))) ?_
  refine G2 (fun _ k_ => q_al k_) ?_
  refine G20 (fun _ k_ => q_stw k_) ?_
  refine gend ?_
  refine awp_seq ?_
  refine rdln [1, 3] [0, 0, 0, 1, 2] [0, 1, 1, 2, 2] ?_
  refine Dp (fun _ => q_mv (s := .v (.c _)) ⟨rfl, rfl⟩) ?_
  refine De2  (fun _ k_ => q_app k_) ?_
  refine DSp 3 rfl (fun _ hv => q_slp_no ⟨rfl, rfl⟩ (hp := hv)) ?_
  refine De2 (fun _ k_ => q_app k_ (eA := el_slc (xs := u8s C) rfl (by rw [mapc_length]; omega) (cut_h hC0))) ?_
  refine Dp (fun _ => q_as (s := .v (.c _)) ⟨rfl, rfl⟩) ?_
  refine dend ?_
  refine awp_ret ?_
  exact fx1 [5] (hm0 := by rw [Nat.zero_add]) (hH := pl1 (cs' := u8s (C ++ T)) rfl (by rw [mapc_append]; exact sees_m) pl0)
end Go.Proofs.Ytlnepajgnckolaa.Ae

/- What functions of the program do, walked over the abstract machine. -/
namespace Go.Proofs.Ytlnepajgnckolaa.Ae
open Go Go.Abs Go.Proofs Go.Proofs.Ytlnepajgnckolaa.Ch Go.Proofs.Ytlnepajgnckolaa.Po

set_option maxRecDepth 20000
theorem xw_get' (key : List UInt8) (ctr : UInt32) (nonce l : List UInt8) (n i : Nat) (h : i < n) : (xw key ctr nonce l n).getD i 0 = l.getD i 0 ^^^ (blk key (ctr + UInt32.ofNat (i / 64)) nonce).getD (i % 64) 0 := by
  simp [xw, List.getD_eq_getElem?_getD, h]
theorem xw_xw (key : List UInt8) (ctr : UInt32) (nonce l : List UInt8) (n : Nat) (h : l.length = n) : xw key ctr nonce (xw key ctr nonce l n) n = l := by
  refine List.ext_getElem (by rw [xw_len, h]) fun i h1 h2 => ?_
  rw [xw_len] at h1
  have := xw_get' key ctr nonce (xw key ctr nonce l n) n i h1
  rw [xw_get' key ctr nonce l n i h1, UInt8.xor_assoc, UInt8.xor_self, UInt8.xor_zero] at this
  simpa [List.getD_eq_getElem?_getD, h2, xw_len, h1] using this
theorem aopen_aseal (key nonce ad l : List UInt8) : aopen key nonce ad (aseal key nonce ad l) = some l := by
  have hl := aseal_len key nonce ad l
  have hx := xw_len key 1 nonce l l.length
  unfold aopen
  rw [hl, if_neg (by omega), Nat.add_sub_cancel]
  have e1 : (aseal key nonce ad l).take l.length = xw key 1 nonce l l.length := by rw [aseal, List.take_append_of_le_length (by omega), List.take_of_length_le (by omega)]
  have e2 : (aseal key nonce ad l).drop l.length = amark key nonce ad (xw key 1 nonce l l.length) := by rw [aseal, List.drop_append_of_le_length (by omega), List.drop_of_length_le (by omega), List.nil_append]
  rw [e1, e2, if_pos rfl, xw_xw key 1 nonce l _ rfl]
theorem str_eq {a b : List UInt8} : ((⟨a.toArray⟩ : ByteArray) = ⟨b.toArray⟩) ↔ a = b := by
  constructor
  · intro h; injection h with h; injection h
  · rintro rfl; rfl
/-- escutcheonref10.Open -/
theorem ropen_short (key nonce ad s : List UInt8) (n k : Nat) (hkey : key.length = 32) (hnonce : nonce.length = 12) (had : ad.length = n) (hn : n ≤ 10000) (hc : s.length = k) (hk : k ≤ 10000) (h : k < 16) : Good Try.prog 44 [.a (u8s key), .a (u8s nonce), .c (.ro n (u8s ad)), .c (.ro k (u8s s))] [] (.t [.c .nils, .c (.bool false)]) [] := by
  refine good_frm 38 Try.func44 rfl rfl rfl rfl rfl rfl ?_
  refine awp_seq ?_
  refine rln ?_
  refine G2 (fun _ k_ => q_boxa k_) ?_
  refine G2 (fun _ k_ => q_boxa k_) ?_
  refine As ?_
  refine As ?_
  refine gend ?_
  refine awp_seq ?_
  refine awp_seq ?_
  refine rln ?_
  refine Mv ?_
  refine G (q_leno ?_)
  refine G (q_lssn (y := 16) ?_)
  refine gend ?_
  refine cndY (fun hc1 => ?_) ?_; rotate_left
  · omega
  refine awp_seq ?_
  refine rln ?_
  refine As ?_
  refine As ?_
  refine gend ?_
  refine awp_ret ?_
  exact fx2 [] (hm0 := rfl) (hH := pl0)
set_option maxHeartbeats 800000 in
/-- escutcheonref10.Open -/
theorem ropen_bad (key nonce ad s : List UInt8) (n k : Nat) (hkey : key.length = 32) (hnonce : nonce.length = 12) (had : ad.length = n) (hn : n ≤ 10000) (hc : s.length = k) (hk : k ≤ 10000) (h : 16 ≤ k) (hh : amark key nonce ad (s.take (k - 16)) ≠ s.drop (k - 16)) : Good Try.prog 44 [.a (u8s key), .a (u8s nonce), .c (.ro n (u8s ad)), .c (.ro k (u8s s))] [] (.t [.c .nils, .c (.bool false)]) [] := by
  have hTl : (s.take (k - 16)).length = k - 16 := by rw [List.length_take]; omega
  have hDl : (s.drop (k - 16)).length = 16 := by rw [List.length_drop]; omega
  have g2 := rmark_ key nonce ad (s.take (k - 16)) n (k - 16) hkey hnonce had hn hTl (by omega)
  obtain ⟨M, hM⟩ : ∃ z, amark key nonce ad (s.take (k - 16)) = z := ⟨_, rfl⟩
  have hMl : M.length = 16 := by rw [← hM]; exact amark_len _ _ _ _
  rw [hM] at g2 hh
  refine good_frm 38 Try.func44 rfl rfl rfl rfl rfl rfl ?_
  refine awp_seq ?_
  refine rln ?_
  refine G2 (fun _ k_ => q_boxa k_) ?_
  refine G2 (fun _ k_ => q_boxa k_) ?_
  refine As ?_
  refine As ?_
  refine gend ?_
  refine awp_seq ?_
  refine awp_seq ?_
  refine rln ?_
  refine Mv ?_
  refine G (q_leno ?_)
  refine G (q_lssn (y := 16) ?_)
  refine gend ?_
  refine cndN (fun hc1 => ?_) ?_; rotate_left
  · omega
  refine awp_skip ?_
  refine awp_seq ?_
  refine rln ?_
  refine Mv ?_
  refine G (q_leno ?_)
  refine G (q_subn (y := 16) ?_)
  refine As ?_
  refine gend ?_
  refine awp_seq ?_
  refine rdln [7, 8] [0, 0, 0, 0, 0, 0, 0, 0, 1] [1, 1, 1, 1, 1, 1, 1, 1, 2] ?_
  refine DLw ?_
  refine DLw ?_
  refine Dp (fun _ => q_mv (s := .v (.c _)) ⟨rfl, rfl⟩) ?_
  refine Dp (fun _ => q_mv (s := .v (.c _)) ⟨rfl, rfl⟩) ?_
  refine Dp (fun _ => q_mv (s := .v (.c _)) ⟨rfl, rfl⟩) ?_
  refine Dp (fun _ => q_slo_hi  ⟨rfl, rfl⟩ (hc := take0_m)) ?_
  refine Dp (fun _ => q_callp g2 ⟨rfl, rfl⟩ (ha := (caa (et rfl) sees_m (caa (et rfl) sees_m (cac (et rfl) sees_ro (cac (et rfl) sees_ro ca0)))))) ?_
  refine De2 (fun _ k_ => q_al k_) ?_
  refine De20 (fun _ k_ => q_stw k_) ?_
  refine dend ?_
  refine awp_seq ?_
  refine awp_seq ?_
  refine rdln [] [] [] ?_
  refine DSp 2 rfl (fun _ hv => q_slp_no ⟨rfl, rfl⟩ (hp := hv)) ?_
  refine DCs ?_
  refine Dp (fun _ => q_mv (s := .v (.c _)) ⟨rfl, rfl⟩) ?_
  refine Dp (fun _ => q_mv (s := .v (.c _)) ⟨rfl, rfl⟩) ?_
  refine Dp (fun _ => q_slo_lo  ⟨rfl, rfl⟩ (hc := drop_m hc)) ?_
  refine Dp (fun _ => q_cso ⟨rfl, rfl⟩) ?_
  refine Dp (fun _ => q_neqs ⟨rfl, rfl⟩) ?_
  refine dend ?_
  refine cndnY (fun hc2 => ?_) ?_; rotate_left
  · exact mt str_eq.1 hh
  refine awp_seq ?_
  refine rln ?_
  refine As ?_
  refine As ?_
  refine gend ?_
  refine awp_ret ?_
  exact fx2 [] (hm0 := rfl) (hH := pl0)
set_option maxHeartbeats 800000 in
/-- escutcheonref10.Open -/
theorem ropen_yes (key nonce ad s : List UInt8) (n k : Nat) (hkey : key.length = 32) (hnonce : nonce.length = 12) (had : ad.length = n) (hn : n ≤ 10000) (hc : s.length = k) (hk : k ≤ 10000) (h : 16 ≤ k) (hh : amark key nonce ad (s.take (k - 16)) = s.drop (k - 16)) : Good Try.prog 44 [.a (u8s key), .a (u8s nonce), .c (.ro n (u8s ad)), .c (.ro k (u8s s))] [] (.t [.c (.slc 0 0 (k - 16) 1), .c (.bool true)]) [some (u8s (xw key 1 nonce (s.take (k - 16)) (k - 16)))] := by
  have hTl : (s.take (k - 16)).length = k - 16 := by rw [List.length_take]; omega
  have hDl : (s.drop (k - 16)).length = 16 := by rw [List.length_drop]; omega
  have g2 := rmark_ key nonce ad (s.take (k - 16)) n (k - 16) hkey hnonce had hn hTl (by omega)
  obtain ⟨M, hM⟩ : ∃ z, amark key nonce ad (s.take (k - 16)) = z := ⟨_, rfl⟩
  have hMl : M.length = 16 := by rw [← hM]; exact amark_len _ _ _ _
  rw [hM] at g2 hh
  have g4 := rxor key 1 nonce (k - 16) (s.take (k - 16)) hkey hnonce hTl (by omega)
  refine good_frm 38 Try.func44 rfl rfl rfl rfl rfl rfl ?_
  refine awp_seq ?_
  refine rln ?_
  refine G2 (fun _ k_ => q_boxa k_) ?_
  refine G2 (fun _ k_ => q_boxa k_) ?_
  refine As ?_
  refine As ?_
  refine gend ?_
  refine awp_seq ?_
  refine awp_seq ?_
  refine rln ?_
  refine Mv ?_
  refine G (q_leno ?_)
  refine G (q_lssn (y := 16) ?_)
  refine gend ?_
  refine cndN (fun hc1 => ?_) ?_; rotate_left
  · omega
  refine awp_skip ?_
  refine awp_seq ?_
  refine rln ?_
  refine Mv ?_
  refine G (q_leno ?_)
  refine G (q_subn (y := 16) ?_)
  refine As ?_
  refine gend ?_
  refine awp_seq ?_
  refine rdln [7, 8] [0, 0, 0, 0, 0, 0, 0, 0, 1] [1, 1, 1, 1, 1, 1, 1, 1, 2] ?_
  refine DLw ?_
  refine DLw ?_
  refine Dp (fun _ => q_mv (s := .v (.c _)) ⟨rfl, rfl⟩) ?_
  refine Dp (fun _ => q_mv (s := .v (.c _)) ⟨rfl, rfl⟩) ?_
  refine Dp (fun _ => q_mv (s := .v (.c _)) ⟨rfl, rfl⟩) ?_
  refine Dp (fun _ => q_slo_hi  ⟨rfl, rfl⟩ (hc := take0_m)) ?_
  refine Dp (fun _ => q_callp g2 ⟨rfl, rfl⟩ (ha := (caa (et rfl) sees_m (caa (et rfl) sees_m (cac (et rfl) sees_ro (cac (et rfl) sees_ro ca0)))))) ?_
  refine De2 (fun _ k_ => q_al k_) ?_
  refine De20 (fun _ k_ => q_stw k_) ?_
  refine dend ?_
  refine awp_seq ?_
  refine awp_seq ?_
  refine rdln [] [] [] ?_
  refine DSp 2 rfl (fun _ hv => q_slp_no ⟨rfl, rfl⟩ (hp := hv)) ?_
  refine DCs ?_
  refine Dp (fun _ => q_mv (s := .v (.c _)) ⟨rfl, rfl⟩) ?_
  refine Dp (fun _ => q_mv (s := .v (.c _)) ⟨rfl, rfl⟩) ?_
  refine Dp (fun _ => q_slo_lo  ⟨rfl, rfl⟩ (hc := drop_m hc)) ?_
  refine Dp (fun _ => q_cso ⟨rfl, rfl⟩) ?_
  refine Dp (fun _ => q_neqs ⟨rfl, rfl⟩) ?_
  refine dend ?_
  refine cndnN (fun hc2 => ?_) ?_; rotate_left
  · exact str_eq.2 hh
  refine awp_skip ?_
  refine awp_seq ?_
  refine rdln [5] [0, 0, 0, 0, 0, 0, 1, 1] [0, 0, 0, 0, 0, 1, 1, 1] ?_
  refine DLw ?_
  refine DLw ?_
  refine Dp (fun _ => q_mv (s := .v (.c _)) ⟨rfl, rfl⟩) ?_
  refine Dp (fun _ => q_mv (s := .v (.c _)) ⟨rfl, rfl⟩) ?_
  refine Dp (fun _ => q_slo_hi  ⟨rfl, rfl⟩ (hc := take0_m)) ?_
  refine De2 (fun _ k_ => q_calln g4 k_ (ha := (caa (et rfl) sees_m (cac rfl cm_int (caa (et rfl) sees_m (cac (et rfl) sees_ro ca0)))))) ?_
  refine Dp (fun _ => q_as (s := .v (.c _)) ⟨rfl, rfl⟩) ?_
  refine Dp (fun _ => q_as (s := .v (.c _)) ⟨rfl, rfl⟩) ?_
  refine dend ?_
  refine awp_ret ?_
  exact fx2 [3] (hm0 := rfl) (hH := pl1 rfl sees_m pl0)
theorem ropen_none (key nonce ad s : List UInt8) (n k : Nat) (hkey : key.length = 32) (hnonce : nonce.length = 12) (had : ad.length = n) (hn : n ≤ 10000) (hc : s.length = k) (hk : k ≤ 10000) (h : aopen key nonce ad s = none) : Good Try.prog 44 [.a (u8s key), .a (u8s nonce), .c (.ro n (u8s ad)), .c (.ro k (u8s s))] [] (.t [.c .nils, .c (.bool false)]) [] := by
  unfold aopen at h
  rw [hc] at h
  by_cases h1 : k < 16
  · exact ropen_short key nonce ad s n k hkey hnonce had hn hc hk h1
  · rw [if_neg h1] at h
    by_cases h2 : amark key nonce ad (s.take (k - 16)) = s.drop (k - 16)
    · rw [if_pos h2] at h; cases h
    · exact ropen_bad key nonce ad s n k hkey hnonce had hn hc hk (by omega) h2
theorem ropen_some (key nonce ad s : List UInt8) (n k : Nat) (hkey : key.length = 32) (hnonce : nonce.length = 12) (had : ad.length = n) (hn : n ≤ 10000) (hc : s.length = k) (hk : k ≤ 10000) (p : List UInt8) (h : aopen key nonce ad s = some p) : Good Try.prog 44 [.a (u8s key), .a (u8s nonce), .c (.ro n (u8s ad)), .c (.ro k (u8s s))] [] (.t [.c (.slc 0 0 (k - 16) 1), .c (.bool true)]) [some (u8s p)] := by
  unfold aopen at h
  rw [hc] at h
  by_cases h1 : k < 16
  · rw [if_pos h1] at h; cases h
  · rw [if_neg h1] at h
    by_cases h2 : amark key nonce ad (s.take (k - 16)) = s.drop (k - 16)
    · rw [if_pos h2] at h; cases h; exact ropen_yes key nonce ad s n k hkey hnonce had hn hc hk (by omega) h2
    · rw [if_neg h2] at h; cases h
end Go.Proofs.Ytlnepajgnckolaa.Ae

/- What functions of the program do, walked over the abstract machine. -/
namespace Go.Proofs.Ytlnepajgnckolaa.Bl
open Go Go.Abs Go.Proofs

set_option maxRecDepth 20000
/-- A word turned right. -/
def rotr (x : UInt32) (r : Nat) : UInt32 := shl32n x (32 - r) ||| shr32n x r
def rotk (x : UInt32) (k : Int) : UInt32 := shl32n x (UInt64.ofInt k &&& 31).toNat ||| shr32n x (32 - (UInt64.ofInt k &&& 31)).toNat
/-- A root's bits, the highest first. -/
def rootf (n : UInt64) : Nat → UInt64
  | 0 => 0
  | j + 1 => if mulhi (rootf n j ||| shl64n 1 (35 - j)) (rootf n j ||| shl64n 1 (35 - j)) < n ∨ (mulhi (rootf n j ||| shl64n 1 (35 - j)) (rootf n j ||| shl64n 1 (35 - j)) = n ∧ (rootf n j ||| shl64n 1 (35 - j)) * (rootf n j ||| shl64n 1 (35 - j)) = 0) then rootf n j ||| shl64n 1 (35 - j) else rootf n j
def prm (k : Nat) : Nat → Bool
  | 0 => true
  | j + 1 => prm k j && decide (UInt64.ofNat (2 + k) % UInt64.ofNat (2 + j) ≠ 0)
def stt : Nat → Nat × List UInt32
  | 0 => (0, List.replicate 8 0)
  | k + 1 => if prm k k = true then ((stt k).1 + 1, (stt k).2.set (stt k).1 (rootf (UInt64.ofNat (2 + k)) 36).toUInt32) else stt k
theorem stt_len : ∀ k, (stt k).2.length = 8
  | 0 => by simp [stt]
  | k + 1 => by rw [stt]; split <;> simp [stt_len k]
theorem stt_lt : ∀ k, k < 18 → (stt k).1 < 8 := by
  have : ∀ k : Fin 18, (stt k.1).1 < 8 := by decide +kernel
  exact fun k h => this ⟨k, h⟩
theorem stt_18 : (stt 18).1 = 8 := by decide +kernel
theorem num_lt (a b : Nat) (ha : a < 100) (hb : b < 100) : (UInt64.ofNat a < UInt64.ofNat b) ↔ a < b := by
  rw [UInt64.lt_iff_toNat_lt, UInt64.toNat_ofNat_of_lt' (by rw [show UInt64.size = 18446744073709551616 from rfl]; omega), UInt64.toNat_ofNat_of_lt' (by rw [show UInt64.size = 18446744073709551616 from rfl]; omega)]
theorem num_ne (a : Nat) (ha : a < 100) (h0 : 0 < a) : UInt64.ofNat a ≠ 0 := by
  intro e
  have := congrArg UInt64.toNat e
  rw [UInt64.toNat_ofNat_of_lt' (by rw [show UInt64.size = 18446744073709551616 from rfl]; omega)] at this
  have z : UInt64.toNat 0 = 0 := rfl
  omega
theorem num_succ (a : Nat) : UInt64.ofNat a + 1 = UInt64.ofNat (a + 1) := by rw [UInt64.ofNat_add]; rfl
/-- The orders, one behind the other. -/
def ords : List Nat := [0, 1, 2, 3, 4, 5, 6, 7, 8, 9, 10, 11, 12, 13, 14, 15, 14, 10, 4, 8, 9, 15, 13, 6, 1, 12, 0, 2, 11, 7, 5, 3, 11, 8, 12, 0, 5, 2, 15, 13, 10, 14, 3, 6, 7, 1, 9, 4, 7, 9, 3, 1, 13, 12, 11, 14, 2, 6, 5, 10, 4, 0, 15, 8, 9, 0, 5, 7, 2, 4, 10, 15, 14, 1, 11, 12, 6, 8, 3, 13, 2, 12, 6, 10, 0, 11, 8, 3, 4, 13, 7, 5, 15, 14, 1, 9, 12, 5, 1, 15, 14, 13, 4, 10, 0, 7, 6, 3, 9, 2, 8, 11, 13, 11, 7, 14, 12, 1, 3, 9, 5, 0, 15, 4, 8, 6, 2, 10, 6, 15, 14, 9, 11, 3, 0, 8, 12, 2, 13, 7, 1, 4, 10, 5, 10, 2, 8, 4, 7, 6, 1, 5, 15, 11, 9, 14, 3, 12, 13, 0]
def ordz : List Int := ords.map Int.ofNat
/-- The mix's steps. -/
def m1 (v : List UInt32) (a b : Nat) (x : UInt32) : List UInt32 := v.set a (v.getD a 0 + (v.getD b 0 + x))
def m2 (v : List UInt32) (d a r : Nat) : List UInt32 := v.set d (rotr (v.getD d 0 ^^^ v.getD a 0) r)
def m3 (v : List UInt32) (c d : Nat) : List UInt32 := v.set c (v.getD c 0 + v.getD d 0)
def mixh (v : List UInt32) (a b c d : Nat) (x : UInt32) (r r' : Nat) : List UInt32 := m2 (m3 (m2 (m1 v a b x) d a r) c d) b c r'
def gmix (v : List UInt32) (a b c d : Nat) (x y : UInt32) : List UInt32 := mixh (mixh v a b c d x 16 12) a b c d y 8 7
/-- A block's words. -/
def mw (l : List UInt8) : Nat → List UInt32
  | 0 => List.replicate 16 0
  | i + 1 => (mw l i).set (i / 4) ((mw l i).getD (i / 4) 0 ||| shl32n (l.getD i 0).toUInt32 (8 * (i % 4)))
def vini (h f : List UInt32) (t : UInt64) (last : Bool) : List UInt32 :=
  let v := ((h ++ f).set 12 ((h ++ f).getD 12 0 ^^^ t.toUInt32)).set 13 (((h ++ f).set 12 ((h ++ f).getD 12 0 ^^^ t.toUInt32)).getD 13 0 ^^^ (shr64n t 32).toUInt32)
  if last then v.set 14 (~~~ v.getD 14 0) else v
def ins (m : List UInt32) (r : Nat) (v : List UInt32) : Nat → List UInt32
  | 0 => v
  | i + 1 => gmix (ins m r v i) (i % 4) (4 + (i + i / 4) % 4) (8 + (i + 2 * (i / 4)) % 4) (12 + (i + 3 * (i / 4)) % 4) (m.getD (ords.getD (r * 16 + 2 * i * 1) 0) 0) (m.getD (ords.getD (r * 16 + (2 * i + 1) * 1) 0) 0)
def rnds (m v : List UInt32) : Nat → List UInt32
  | 0 => v
  | r + 1 => ins m r (rnds m v r) 8
def hxr (h v : List UInt32) : Nat → List UInt32
  | 0 => h
  | i + 1 => (hxr h v i).set i ((hxr h v i).getD i 0 ^^^ (v.getD i 0 ^^^ v.getD (i + 8) 0))
def press (h f : List UInt32) (l : List UInt8) (t : UInt64) (last : Bool) : List UInt32 := hxr h (rnds (mw l 64) (vini h f t last) 10) 8
/-- math/bits.Mul64 -/
theorem mul64 (x y : UInt64) : Good Try.prog 84 [.c (c64 x), .c (c64 y)] [] (.t [.c (c64 (mulhi x y)), .c (c64 (x * y))]) [] := by
  refine good_frm 51 Try.func84 rfl rfl rfl rfl rfl rfl ?_
  refine awp_seq ?_
  refine rl ?_
  refine G (q_as (s := sc (c64 0)) ?_)
  refine G (q_as (s := sc (c64 0)) ?_)
  refine gend ?_
  refine awp_seq ?_
  refine rl ?_
  refine Mv ?_
  refine G (q_and64 (y := 4294967295) ?_)
  refine As ?_
  refine gend ?_
  refine awp_seq ?_
  refine rl ?_
  refine Mv ?_
  refine G (q_shr64_64 (n := 32) ?_)
  refine As ?_
  refine gend ?_
  refine awp_seq ?_
  refine rl ?_
  refine Mv ?_
  refine G (q_and64 (y := 4294967295) ?_)
  refine As ?_
  refine gend ?_
  refine awp_seq ?_
  refine rl ?_
  refine Mv ?_
  refine G (q_shr64_64 (n := 32) ?_)
  refine As ?_
  refine gend ?_
  refine awp_seq ?_
  refine rl ?_
  refine Mv ?_
  refine Mv ?_
  refine G (q_mul64 ?_)
  refine As ?_
  refine gend ?_
  refine awp_seq ?_
  refine rl ?_
  refine Mv ?_
  refine Mv ?_
  refine G (q_mul64 ?_)
  refine Mv ?_
  refine G (q_shr64_64 (n := 32) ?_)
  refine G (q_add64 ?_)
  refine As ?_
  refine gend ?_
  refine awp_seq ?_
  refine rl ?_
  refine Mv ?_
  refine G (q_and64 (y := 4294967295) ?_)
  refine As ?_
  refine gend ?_
  refine awp_seq ?_
  refine rl ?_
  refine Mv ?_
  refine G (q_shr64_64 (n := 32) ?_)
  refine As ?_
  refine gend ?_
  refine awp_seq ?_
  refine rl ?_
  refine Mv ?_
  refine Mv ?_
  refine Mv ?_
  refine G (q_mul64 ?_)
  refine G (q_add64 ?_)
  refine As ?_
  refine gend ?_
  refine awp_seq ?_
  refine rl ?_
  refine Mv ?_
  refine Mv ?_
  refine G (q_mul64 ?_)
  refine Mv ?_
  refine G (q_add64 ?_)
  refine Mv ?_
  refine G (q_shr64_64 (n := 32) ?_)
  refine G (q_add64 ?_)
  refine As ?_
  refine gend ?_
  refine awp_seq ?_
  refine rl ?_
  refine Mv ?_
  refine Mv ?_
  refine G (q_mul64 ?_)
  refine As ?_
  refine gend ?_
  refine awp_ret ?_
  exact fp2
/-- blake.root -/
theorem root (n : UInt64) : Good Try.prog 71 [.c (c64 n)] [] (sc (c32 (rootf n 36).toUInt32)) [] := by
  refine good_frm 37 Try.func71 rfl rfl rfl rfl rfl rfl ?_
  refine awp_seq ?_
  refine rl ?_
  refine G (q_as (s := sc (c32 0)) ?_)
  refine gend ?_
  refine awp_seq ?_
  refine rl ?_
  refine G (q_as (s := sc (c64 0)) ?_)
  refine gend ?_
  refine awp_seq ?_
  refine awp_seq ?_
  refine rl ?_
  refine G (q_as (s := sc (cn 35)) ?_)
  refine gend ?_
  refine awp_block ?_
  refine awp_loop (fun x : {i : Nat // i ≤ 36} => ⟨frm 37 [(0, sc (c64 n)), (3, sc (c64 (rootf n x.1))), (4, sc (ci (35 - (x.1 : Int))))], []⟩) (fun x => 36 - x.1) ⟨0, Nat.zero_le _⟩ (sle_sub ⟨rfl, rfl, rfl, trivial⟩ rfl) fun x => ?_   -- live: [0, 3, 4]
  refine awp_seq ?_
  refine awp_seq ?_
  refine rl ?_
  refine Mv ?_
  refine G (q_geqi (y := 0) ?_)
  refine gend ?_
  refine cnd (fun hc1 => ?_) (fun hc1 => ?_); rotate_left
  · refine awp_exit ?_
    rw [show x.1 = 36 from (by have := x.2; omega)]
    refine awp_seq ?_
    refine rl ?_
    refine Mv ?_
    refine G (q_cv64_32 ?_)
    refine As ?_
    refine gend ?_
    refine awp_ret ?_
    exact fp1
  refine awp_skip ?_
  refine retell [(0, sc (c64 n)), (3, sc (c64 (rootf n x.1))), (4, sc (cn (35 - x.1)))] ?_ ⟨rfl, rfl, congrArg (fun i => sc (ci i)) (by omega), trivial⟩
  refine awp_seq ?_
  refine awp_block ?_
  refine awp_seq ?_
  refine rl ?_
  refine Mv ?_
  refine Mv ?_
  refine G (q_shl64_0 (x := 1) ?_)
  refine G (q_or64 ?_)
  refine As ?_
  refine gend ?_
  refine awp_seq ?_
  refine rl ?_
  refine Mv ?_
  refine Mv ?_
  refine G (q_callp (mul64 _ _/- math/bits.Mul64 -/) ?_)
  refine G (q_mv (s := .t _) ?_)
  refine G (q_ext (y := .c _) ?_)
  refine G (q_ext (y := .c _) ?_)
  refine As ?_
  refine As ?_
  refine gend ?_
  refine awp_seq ?_
  refine rl ?_
  refine Mv ?_
  refine Mv ?_
  refine G (q_lss64 ?_)
  refine Mv ?_
  refine Aspd 25 (fun hb4 => ?_) (fun hb4 => ?_)
  · refine Gn ?_
    refine Gn ?_
    refine Gn ?_
    refine Gn ?_
    refine Gu ?_
    refine Gu ?_
    refine Gn ?_
    refine G (q_pkt ?_)
    refine gend ?_
    refine cndT ?_
    refine rl ?_
    refine Mv ?_
    refine As ?_
    refine gend ?_
    refine rl ?_
    refine Mv ?_
    refine G (q_subi (y := 1) ?_)
    refine As ?_
    refine gend ?_
    exact ⟨⟨x.1 + 1, by omega⟩, by show 36 - (x.1 + 1) < 36 - x.1; omega, sle_sub ⟨rfl, congrArg (fun z => sc (c64 z)) (by show _ = rootf n (x.1 + 1); rw [rootf]; generalize rootf n x.1 ||| shl64n 1 (35 - x.1) = y at *; simp [*]), congrArg (fun i => sc (ci i)) (by show ((35 - x.1 : Nat) : Int) - 1 = 35 - ((x.1 + 1 : Nat) : Int); omega), trivial⟩ rfl⟩   -- endloop 1
  refine Gg (q_mv (s := .v (.c _)) ?_)
  refine Gg (q_mv (s := .v (.c _)) ?_)
  refine Gg (q_eql64 ?_)
  refine Gg (q_mv (s := .v (.c _)) ?_)
  refine Aspd 29 (fun hb8 => ?_) (fun hb8 => ?_)
  · refine Gg (q_mv (s := .v (.c _)) ?_)
    refine Gg (q_eql64 (y := 0) ?_)
    refine Gg (q_pkt ?_)
    refine G (q_pkf ?_)
    refine gend ?_
    refine cnd (fun hc2 => ?_) (fun hc2 => ?_)
    · refine rl ?_
      refine Mv ?_
      refine As ?_
      refine gend ?_
      refine rl ?_
      refine Mv ?_
      refine G (q_subi (y := 1) ?_)
      refine As ?_
      refine gend ?_
      exact ⟨⟨x.1 + 1, by omega⟩, by show 36 - (x.1 + 1) < 36 - x.1; omega, sle_sub ⟨rfl, congrArg (fun z => sc (c64 z)) (by show _ = rootf n (x.1 + 1); rw [rootf]; generalize rootf n x.1 ||| shl64n 1 (35 - x.1) = y at *; simp [*]), congrArg (fun i => sc (ci i)) (by show ((35 - x.1 : Nat) : Int) - 1 = 35 - ((x.1 + 1 : Nat) : Int); omega), trivial⟩ rfl⟩   -- endloop 1
    refine awp_skip ?_
    refine rl ?_
    refine Mv ?_
    refine G (q_subi (y := 1) ?_)
    refine As ?_
    refine gend ?_
    exact ⟨⟨x.1 + 1, by omega⟩, by show 36 - (x.1 + 1) < 36 - x.1; omega, sle_sub ⟨rfl, congrArg (fun z => sc (c64 z)) (by show _ = rootf n (x.1 + 1); rw [rootf]; generalize rootf n x.1 ||| shl64n 1 (35 - x.1) = y at *; simp [*]), congrArg (fun i => sc (ci i)) (by show ((35 - x.1 : Nat) : Int) - 1 = 35 - ((x.1 + 1 : Nat) : Int); omega), trivial⟩ rfl⟩   -- endloop 1
  refine Gn ?_
  refine Gn ?_
  refine Gg (q_pkf ?_)
  refine G (q_pkf ?_)
  refine gend ?_
  refine cndF ?_
  refine awp_skip ?_
  refine rl ?_
  refine Mv ?_
  refine G (q_subi (y := 1) ?_)
  refine As ?_
  refine gend ?_
  exact ⟨⟨x.1 + 1, by omega⟩, by show 36 - (x.1 + 1) < 36 - x.1; omega, sle_sub ⟨rfl, congrArg (fun z => sc (c64 z)) (by show _ = rootf n (x.1 + 1); rw [rootf]; generalize rootf n x.1 ||| shl64n 1 (35 - x.1) = y at *; simp [*]), congrArg (fun i => sc (ci i)) (by show ((35 - x.1 : Nat) : Int) - 1 = 35 - ((x.1 + 1 : Nat) : Int); omega), trivial⟩ rfl⟩   -- endloop 1
set_option maxHeartbeats 800000 in
/-- blake.start -/
theorem start : Good Try.prog 56 [] [] (sa (u32s (stt 18).2)) [] := by
  refine good_frm 29 Try.func56 rfl rfl rfl rfl rfl rfl ?_
  refine awp_seq ?_
  refine rl ?_
  refine G (q_al ?_)
  refine gend ?_
  refine awp_seq ?_
  refine rl ?_
  refine G (q_as (s := sc (cn 0)) ?_)
  refine gend ?_
  refine awp_seq ?_
  refine awp_seq ?_
  refine rl ?_
  refine G (q_as (s := sc (c64 2)) ?_)
  refine gend ?_
  refine awp_block ?_
  refine awp_loop (fun x : {i : Nat // i ≤ 18} => ⟨frm 29 [(0, sc (.ptr 0 0)), (1, sc (cn (stt x.1).1)), (2, sc (c64 (UInt64.ofNat (2 + x.1))))], [some (u32s (stt x.1).2)]⟩) (fun x => 18 - x.1) ⟨0, Nat.zero_le _⟩ (sle_sub ⟨rfl, rfl, rfl, trivial⟩ rfl) fun x => ?_   -- live: [0, 1, 2]
  have hl := stt_len x.1
  have hlt := stt_lt x.1
  have hx18 : (stt x.1).1 < 8 → x.1 + 1 ≤ 18 := fun h => by
    rcases Nat.lt_or_ge x.1 18 with h' | h'
    · omega
    · exfalso
      have e : x.1 = 18 := by have := x.2; omega
      rw [e, stt_18] at h; omega
  refine awp_seq ?_
  refine awp_seq ?_
  refine rl ?_
  refine Mv ?_
  refine G (q_lssn (y := 8) ?_)
  refine gend ?_
  refine cnd (fun hc1 => ?_) (fun hc1 => ?_); rotate_left
  · refine awp_exit ?_
    rw [show x.1 = 18 from (by have := x.2; omega)]
    refine awp_seq ?_
    refine rl ?_
    refine G (q_ldw  ?_ (hl := (mapc_length ..).trans (stt_len 18)))
    refine G0 (q_stw  ?_ (hl := (mapc_length ..).trans (stt_len 18)) (hc := (mapc_length ..).trans (stt_len 18)))
    refine gend ?_
    refine awp_ret ?_
    exact fpc (t := 95) (a := 0) (hn := by exact (mapc_length ..).trans (stt_len 18))
  refine awp_skip ?_
  refine awp_seq ?_
  refine awp_block ?_
  refine awp_seq ?_
  refine rl ?_
  refine As ?_
  refine gend ?_
  refine awp_seq ?_
  refine awp_seq ?_
  refine rl ?_
  refine G (q_as (s := sc (c64 2)) ?_)
  refine gend ?_
  refine awp_block ?_
  refine awp_loop (fun j : {i : Nat // i ≤ x.1} => ⟨frm 29 [(0, sc (.ptr 0 0)), (1, sc (cn (stt x.1).1)), (2, sc (c64 (UInt64.ofNat (2 + x.1)))), (3, sc (.bool (prm x.1 j.1))), (4, sc (c64 (UInt64.ofNat (2 + j.1))))], [some (u32s (stt x.1).2)]⟩) (fun j => x.1 - j.1) ⟨0, Nat.zero_le _⟩ (sle_sub ⟨rfl, rfl, rfl, rfl, rfl, trivial⟩ rfl) fun j => ?_   -- live: [2, 3, 4]
  have hnl := num_lt (2 + j.1) (2 + x.1) (by omega) (by omega)
  refine awp_seq ?_
  refine awp_seq ?_
  refine rl ?_
  refine Mv ?_
  refine Mv ?_
  refine G (q_lss64 ?_)
  refine gend ?_
  refine cnd (fun hc2 => ?_) (fun hc2 => ?_); rotate_left
  · refine awp_exit ?_
    have hc2' := mt hnl.2 hc2
    rw [show j.1 = x.1 from (by have := j.2; omega)]
    refine awp_seq ?_
    refine rl ?_
    refine Mv ?_
    refine gend ?_
    refine cndb (fun hc3 => ?_) (fun hc3 => ?_)
    · refine awp_seq ?_
      refine rl ?_
      refine Mv ?_
      refine Mv ?_
      refine G (q_callp (root _/- escutcheon/blake.root -/) ?_)
      refine G (q_ixp1 ?_)
      refine G0 (q_stm ?_)
      refine gend ?_
      refine rl ?_
      refine Mv ?_
      refine G (q_addn (y := 1) ?_)
      refine As ?_
      refine gend ?_
      refine rl ?_
      refine Mv ?_
      refine G (q_add64 (y := 1) ?_)
      refine As ?_
      refine gend ?_
      exact ⟨⟨x.1 + 1, by omega⟩, by show 18 - (x.1 + 1) < 18 - x.1; omega, sle_sub ⟨rfl, congrArg (fun n => sc (cn n)) (by show _ = (stt (x.1 + 1)).1; rw [stt]; first | rw [if_pos (by assumption)] | rw [if_neg (by simp [*])]), congrArg (fun z => sc (c64 z)) (num_succ _), trivial⟩ (by show _ = [some (u32s (stt (x.1 + 1)).2)]; rw [stt]; first | (rw [if_pos (by assumption)]; rfl) | rw [if_neg (by simp [*])])⟩   -- endloop 1
    refine awp_skip ?_
    refine rl ?_
    refine Mv ?_
    refine G (q_add64 (y := 1) ?_)
    refine As ?_
    refine gend ?_
    exact ⟨⟨x.1 + 1, by omega⟩, by show 18 - (x.1 + 1) < 18 - x.1; omega, sle_sub ⟨rfl, congrArg (fun n => sc (cn n)) (by show _ = (stt (x.1 + 1)).1; rw [stt]; first | rw [if_pos (by assumption)] | rw [if_neg (by simp [*])]), congrArg (fun z => sc (c64 z)) (num_succ _), trivial⟩ (by show _ = [some (u32s (stt (x.1 + 1)).2)]; rw [stt]; first | (rw [if_pos (by assumption)]; rfl) | rw [if_neg (by simp [*])])⟩   -- endloop 1
  refine awp_skip ?_
  refine awp_seq ?_
  refine awp_block ?_
  refine rl ?_
  refine Mv ?_
  refine Mv ?_
  refine Asp 15 (fun hb2 => ?_) (fun hb2 => ?_)
  · refine Gg (q_mv (s := .v (.c _)) ?_)
    refine Gg (q_mv (s := .v (.c _)) ?_)
    refine Gg (q_rem64 ?_ (hz := num_ne _ (by omega) (by omega)))
    refine Gg (q_neq64 (y := 0) ?_)
    refine G (q_pkt ?_)
    refine As ?_
    refine gend ?_
    refine rl ?_
    refine Mv ?_
    refine G (q_add64 (y := 1) ?_)
    refine As ?_
    refine gend ?_
    exact ⟨⟨j.1 + 1, by have := hnl.1 hc2; omega⟩, by show x.1 - (j.1 + 1) < x.1 - j.1; have := hnl.1 hc2; omega, sle_sub ⟨rfl, rfl, rfl, congrArg (fun b => sc (.bool b)) (by show _ = prm x.1 (j.1 + 1); rw [prm]; simp [*]), congrArg (fun z => sc (c64 z)) (num_succ _), trivial⟩ rfl⟩   -- endloop 2
  refine Gn ?_
  refine Gn ?_
  refine Gn ?_
  refine Gn ?_
  refine G (q_pkf ?_)
  refine As ?_
  refine gend ?_
  refine rl ?_
  refine Mv ?_
  refine G (q_add64 (y := 1) ?_)
  refine As ?_
  refine gend ?_
  exact ⟨⟨j.1 + 1, by have := hnl.1 hc2; omega⟩, by show x.1 - (j.1 + 1) < x.1 - j.1; have := hnl.1 hc2; omega, sle_sub ⟨rfl, rfl, rfl, congrArg (fun b => sc (.bool b)) (by show _ = prm x.1 (j.1 + 1); rw [prm]; simp [*]), congrArg (fun z => sc (c64 z)) (num_succ _), trivial⟩ rfl⟩   -- endloop 2
/-- blake.orders -/
theorem orders : Good Try.prog 57 [] [] (sa (i64s ordz)) [] := by
  refine good_frm 12 Try.func57 rfl rfl rfl rfl rfl rfl ?_
  refine awp_seq ?_
  refine rl ?_
  refine G (q_al ?_)
  refine gend ?_
  refine awp_seq ?_
  refine rl ?_
  refine G (q_bla (fkC (out := i64s [0, 1, 2, 3, 4, 5, 6, 7, 8, 9, 10, 11, 12, 13, 14, 15]) ?_))
  refine G (q_bla (fkC (out := i64s [14, 10, 4, 8, 9, 15, 13, 6, 1, 12, 0, 2, 11, 7, 5, 3]) ?_))
  refine G (q_bla (fkC (out := i64s [11, 8, 12, 0, 5, 2, 15, 13, 10, 14, 3, 6, 7, 1, 9, 4]) ?_))
  refine G (q_bla (fkC (out := i64s [7, 9, 3, 1, 13, 12, 11, 14, 2, 6, 5, 10, 4, 0, 15, 8]) ?_))
  refine G (q_bla (fkC (out := i64s [9, 0, 5, 7, 2, 4, 10, 15, 14, 1, 11, 12, 6, 8, 3, 13]) ?_))
  refine G (q_bla (fkC (out := i64s [2, 12, 6, 10, 0, 11, 8, 3, 4, 13, 7, 5, 15, 14, 1, 9]) ?_))
  refine G (q_bla (fkC (out := i64s [12, 5, 1, 15, 14, 13, 4, 10, 0, 7, 6, 3, 9, 2, 8, 11]) ?_))
  refine G (q_bla (fkC (out := i64s [13, 11, 7, 14, 12, 1, 3, 9, 5, 0, 15, 4, 8, 6, 2, 10]) ?_))
  refine G (q_bla (fkC (out := i64s [6, 15, 14, 9, 11, 3, 0, 8, 12, 2, 13, 7, 1, 4, 10, 5]) ?_))
  refine G (q_bla (fkC (out := i64s [10, 2, 8, 4, 7, 6, 1, 5, 15, 11, 9, 14, 3, 12, 13, 0]) ?_))
  refine G (q_bla (fka rfl (et rfl) (by first | exact (mapc_length ..).trans (by with_reducible assumption) | decide +kernel | decide) (by first | decide +kernel | decide) (fka rfl (et rfl) (by first | exact (mapc_length ..).trans (by with_reducible assumption) | decide +kernel | decide) (by first | decide +kernel | decide) (fka rfl (et rfl) (by first | exact (mapc_length ..).trans (by with_reducible assumption) | decide +kernel | decide) (by first | decide +kernel | decide) (fka rfl (et rfl) (by first | exact (mapc_length ..).trans (by with_reducible assumption) | decide +kernel | decide) (by first | decide +kernel | decide) (fka rfl (et rfl) (by first | exact (mapc_length ..).trans (by with_reducible assumption) | decide +kernel | decide) (by first | decide +kernel | decide) (fka rfl (et rfl) (by first | exact (mapc_length ..).trans (by with_reducible assumption) | decide +kernel | decide) (by first | decide +kernel | decide) (fka rfl (et rfl) (by first | exact (mapc_length ..).trans (by with_reducible assumption) | decide +kernel | decide) (by first | decide +kernel | decide) (fka rfl (et rfl) (by first | exact (mapc_length ..).trans (by with_reducible assumption) | decide +kernel | decide) (by first | decide +kernel | decide) (fka rfl (et rfl) (by first | exact (mapc_length ..).trans (by with_reducible assumption) | decide +kernel | decide) (by first | decide +kernel | decide) (fka rfl (et rfl) (by first | exact (mapc_length ..).trans (by with_reducible assumption) | decide +kernel | decide) (by first | decide +kernel | decide) (fk0 ?_))))))))))))
  refine G0 (q_stw  ?_ (hl := by kernel_rfl) (hc := by kernel_rfl))
  refine gend ?_
  refine awp_ret ?_
  exact fpc (t := 98) (a := 0) (hn := by kernel_rfl) (hv := by kernel_rfl)
end Go.Proofs.Ytlnepajgnckolaa.Bl

/- What functions of the program do, walked over the abstract machine. -/
namespace Go.Proofs.Ytlnepajgnckolaa.Bl
open Go Go.Abs Go.Proofs

set_option maxRecDepth 20000
end Go.Proofs.Ytlnepajgnckolaa.Bl

/- What functions of the program do, walked over the abstract machine. -/
namespace Go.Proofs.Ytlnepajgnckolaa.Bl
open Go Go.Abs Go.Proofs

set_option maxRecDepth 20000
abbrev fst8 : List UInt32 := (stt 18).2
def sp {α : Type} (a b : List α) (q : Nat) : List α := a.take q ++ (b ++ a.drop (q + b.length))
theorem splice_cpy {α : Type} {k : IntKind} {g : α → Int} {a b : List α} {q j c d : Nat} : splice (mapc k g a) q ((((mapc k g b).drop c).take d).take j) = mapc k g (sp a (((b.drop c).take d).take j) q) := by
  simp [mapc, splice, sp]
/-- A block: bytes, and noughts behind them. -/
abbrev blk (m : List UInt8) (q k : Nat) : List UInt8 := sp (List.replicate 64 0) (((m.drop q).take (k * 1)).take (min k 64 * 1)) 0
theorem blk_len (m : List UInt8) (q k : Nat) (hk : k ≤ 64) : (blk m q k).length = 64 := by
  simp [blk, sp]
  omega
theorem slc_eq {b q q' n n' z : Nat} (h : q = q') (h' : n = n') : sc (.slc b q n z) = sc (.slc b q' n' z) := by rw [h, h']
def hac (F : List UInt32) (m : List UInt8) : Nat → List UInt32
  | 0 => F.set 0 (F.getD 0 0 ^^^ 16842784)
  | j + 1 => press (hac F m j) F (blk m (min (64 * j) m.length) (min 64 (m.length - min (64 * j) m.length))) (UInt64.ofNat (min (64 * (j + 1)) m.length))
      (decide (m.length - min (64 * j) m.length - min 64 (m.length - min (64 * j) m.length) = 0))
def outw (h : List UInt32) : Nat → List UInt8
  | 0 => List.replicate 32 0
  | i + 1 => (outw h i).set i (shr32n (h.getD (i / 4) 0) (8 * (i % 4))).toUInt8
def bsum (m : List UInt8) : List UInt8 := outw (hac fst8 m ((m.length + 63) / 64 - 1 + 1)) 32
end Go.Proofs.Ytlnepajgnckolaa.Bl

/- What functions of the program do, walked over the abstract machine. -/
namespace Go.Proofs.Ytlnepajgnckolaa.Bl
open Go Go.Abs Go.Proofs

set_option maxRecDepth 20000
theorem take0_m {l : List UInt8} {c : Nat} : ((u8s l).drop (0 * 1)).take (c * 1) = u8s (l.take c) := by rw [Nat.mul_one, Nat.mul_one, cut_m]; rfl
theorem drop_m {l : List UInt8} {c n : Nat} (h : l.length = n) : ((u8s l).drop (c * 1)).take ((n - c) * 1) = u8s (l.drop c) := by
  rw [Nat.mul_one, Nat.mul_one, cut_m, List.take_of_length_le (by rw [List.length_drop]; omega)]
/-- A key, as the mac has it: its hash when it is long; noughts behind it. -/
def kcut (key : List UInt8) : List UInt8 := if 64 < key.length then bsum key else key
def kpad (key : List UInt8) : List UInt8 := kcut key ++ List.replicate (64 - (kcut key).length) 0
def xall (v : UInt8) (l : List UInt8) : List UInt8 := l.map (fun b => b ^^^ v)
def hmac (key m : List UInt8) : List UInt8 := bsum (xall 92 (kpad key) ++ bsum (xall 54 (kpad key) ++ m))
/-- Byte by byte. -/
def xst (l : List UInt8) (v : UInt8) : Nat → List UInt8
  | 0 => l
  | i + 1 => (xst l v i).set i ((xst l v i).getD i 0 ^^^ v)
end Go.Proofs.Ytlnepajgnckolaa.Bl

/- What functions of the program do, walked over the abstract machine. -/
namespace Go.Proofs.Ytlnepajgnckolaa.Bl
open Go Go.Abs Go.Proofs

set_option maxRecDepth 20000
/-- The reference's root: the whole part of the prime's, and the bits behind it. -/
def primes : List UInt64 := [2, 3, 5, 7, 11, 13, 17, 19]
def whole (i : Nat) : Nat := [1, 1, 2, 2, 3, 3, 4, 4].getD i 0
def frac (w r : UInt64) : Nat → UInt64
  | 0 => 0
  | j + 1 =>
    let g := frac w r j + shl64n 1 (UInt64.ofNat (31 - j)).toNat
    if 2 * w * g + shr64n (g * g) (UInt64.toNat 32) < shl64n r (UInt64.toNat 32) ∨ (2 * w * g + shr64n (g * g) (UInt64.toNat 32) = shl64n r (UInt64.toNat 32) ∧ g * g % 4294967296 = 0) then g else frac w r j
def rstart (i : Nat) : UInt32 := (frac (UInt64.ofNat (whole i)) (primes.getD i 0 - UInt64.ofNat (whole i) * UInt64.ofNat (whole i)) 32).toUInt32
def row (k : Nat) : List Int := (ordz.drop (16 * k)).take 16
end Go.Proofs.Ytlnepajgnckolaa.Bl

/- What functions of the program do, walked over the abstract machine. -/
namespace Go.Proofs.Ytlnepajgnckolaa.Bl
open Go Go.Abs Go.Proofs

set_option maxRecDepth 20000
def rorn (x : UInt32) (n : UInt64) : UInt32 := shr32n x n.toNat ||| shl32n x (32 - n).toNat
def RC : List Cell := [.slc 0 0 16 1, .slc 1 0 16 1, .slc 2 0 16 1, .slc 3 0 16 1, .slc 4 0 16 1, .slc 5 0 16 1, .slc 6 0 16 1, .slc 7 0 16 1, .slc 8 0 16 1, .slc 9 0 16 1]
end Go.Proofs.Ytlnepajgnckolaa.Bl

/- What functions of the program do, walked over the abstract machine. -/
namespace Go.Proofs.Ytlnepajgnckolaa.Bl
open Go Go.Abs Go.Proofs

set_option maxRecDepth 20000
abbrev RC3 : List Cell := [.slc 3 0 16 1, .slc 4 0 16 1, .slc 5 0 16 1, .slc 6 0 16 1, .slc 7 0 16 1, .slc 8 0 16 1, .slc 9 0 16 1, .slc 10 0 16 1, .slc 11 0 16 1, .slc 12 0 16 1]
abbrev CC : List Cell := [.slc 14 0 4 1, .slc 15 0 4 1, .slc 16 0 4 1, .slc 17 0 4 1, .slc 18 0 4 1, .slc 19 0 4 1, .slc 20 0 4 1, .slc 21 0 4 1]
abbrev colz (i : Nat) : List Cell := [cn (i % 4), cn (4 + (i + i / 4) % 4), cn (8 + (i + 2 * (i / 4)) % 4), cn (12 + (i + 3 * (i / 4)) % 4)]
abbrev RP (a b c : List Cell) (T : Heap) : Heap := some a :: some b :: some c :: some (i64s (row 0)) :: some (i64s (row 1)) :: some (i64s (row 2)) :: some (i64s (row 3)) :: some (i64s (row 4)) :: some (i64s (row 5)) :: some (i64s (row 6)) :: some (i64s (row 7)) :: some (i64s (row 8)) :: some (i64s (row 9)) :: some RC3 ::
  some (colz 0) :: some (colz 1) :: some (colz 2) :: some (colz 3) :: some (colz 4) :: some (colz 5) :: some (colz 6) :: some (colz 7) :: some CC :: T
def fl8 (F : List UInt32) : Nat → List UInt32
  | 0 => List.replicate 8 0
  | k + 1 => (fl8 F k).set k (F.getD k 0)
def bat (m : List UInt8) (q : Nat) : UInt32 := if q < m.length then (m.getD q 0).toUInt32 else 0
def rwd (m : List UInt8) (j : Nat) : Nat → List UInt32
  | 0 => List.replicate 16 0
  | k + 1 => (rwd m j k).set ((63 - k) / 4) ((rwd m j k).getD ((63 - k) / 4) 0 * 256 + bat m (64 * j + (63 - k)))
def rv5 (h F : List UInt32) : Nat → List UInt32
  | 0 => List.replicate 16 0
  | k + 1 => ((rv5 h F k).set k (h.getD k 0)).set (8 + k) (F.getD k 0)
def rT (n j N : Nat) : UInt64 := if j = N - 1 then UInt64.ofNat n else UInt64.ofNat (64 * j + 64)
def rv6 (h F : List UInt32) (j N : Nat) : List UInt32 := if j = N - 1 then (rv5 h F 8).set 14 (~~~ (rv5 h F 8).getD 14 0) else rv5 h F 8
def rv7 (h F : List UInt32) (n j N : Nat) : List UInt32 :=
  ((rv6 h F j N).set 12 ((rv6 h F j N).getD 12 0 ^^^ (rT n j N).toUInt32)).set 13 (((rv6 h F j N).set 12 ((rv6 h F j N).getD 12 0 ^^^ (rT n j N).toUInt32)).getD 13 0 ^^^ (shr64n (rT n j N) (UInt64.toNat 32)).toUInt32)
def rhx (h v : List UInt32) : Nat → List UInt32
  | 0 => h
  | i + 1 => (rhx h v i).set i ((rhx h v i).getD i 0 ^^^ v.getD i 0 ^^^ v.getD (8 + i) 0)
def rhc (F : List UInt32) (m : List UInt8) (N : Nat) : Nat → List UInt32
  | 0 => F.set 0 (F.getD 0 0 ^^^ 16842784)
  | j + 1 => rhx (rhc F m N j) (rnds (rwd m j 64) (rv7 (rhc F m N j) F m.length j N) 10) 8
def rout (h : List UInt32) : Nat → List UInt8
  | 0 => List.replicate 32 0
  | i + 1 => (rout h i).set i (shr32n (h.getD (i / 4) 0) (UInt64.ofNat (8 * (i % 4))).toNat).toUInt8
def nbl (n : Nat) : Nat := if (n + 63) / 64 = 0 then 1 else (n + 63) / 64
def rfst : List UInt32 := fl8 fst8 8
def rsum (m : List UInt8) : List UInt8 := rout (rhc rfst m (nbl m.length) (nbl m.length)) 32
end Go.Proofs.Ytlnepajgnckolaa.Bl

/- What functions of the program do, walked over the abstract machine. -/
namespace Go.Proofs.Ytlnepajgnckolaa.Bl
open Go Go.Abs Go.Proofs

set_option maxRecDepth 20000
theorem shl_nat (x : UInt32) (n : Nat) (hn : n < 32) (h : x.toNat * 2 ^ n < 2 ^ 32) : (shl32n x n).toNat = 2 ^ n * x.toNat := by
  unfold shl32n
  rw [if_pos hn, UInt32.toNat_shiftLeft, UInt32.toNat_ofNat', Nat.mod_eq_of_lt (show n < 2 ^ 32 by omega), Nat.mod_eq_of_lt hn, Nat.shiftLeft_eq, Nat.mod_eq_of_lt h, Nat.mul_comm]
/-- A word of four bytes, put together as the program does, and as the reference does. -/
def wl (a b c d : UInt8) : UInt32 := (((0 ||| shl32n a.toUInt32 0) ||| shl32n b.toUInt32 8) ||| shl32n c.toUInt32 16) ||| shl32n d.toUInt32 24
def wh (a b c d : UInt32) : UInt32 := (((0 * 256 + d) * 256 + c) * 256 + b) * 256 + a
def gb (l : List UInt8) (i : Nat) : UInt8 := l.getD i 0
end Go.Proofs.Ytlnepajgnckolaa.Bl

/- What functions of the program do, walked over the abstract machine. -/
namespace Go.Proofs.Ytlnepajgnckolaa.Bl
open Go Go.Abs Go.Proofs

set_option maxRecDepth 20000
theorem app_cut {a b : List UInt8} {p q : Nat} (ha : a.length = p) (hb : b.length = q) : ((u8s a ++ u8s b).drop 0).take ((p + q) * 1) = u8s (a ++ b) := by
  rw [mapc_append]; exact cut_h (by rw [List.length_append, ha, hb])
end Go.Proofs.Ytlnepajgnckolaa.Bl

/- What functions of the program do, walked over the abstract machine. -/
namespace Go.Proofs.Ytlnepajgnckolaa.Bl
open Go Go.Abs Go.Proofs

set_option maxRecDepth 20000
def h3t (c m : List UInt8) : List UInt8 := hmac c m
def h3x (c m : List UInt8) : List UInt8 := hmac (hmac c m) [1]
def h3y (c m : List UInt8) : List UInt8 := hmac (hmac c m) (h3x c m ++ [2])
def h3z (c m : List UInt8) : List UInt8 := hmac (hmac c m) (h3y c m ++ [3])
end Go.Proofs.Ytlnepajgnckolaa.Bl

/- What functions of the program do, walked over the abstract machine. -/
namespace Go.Proofs.Ytlnepajgnckolaa.Bl
open Go Go.Abs Go.Proofs

set_option maxRecDepth 20000
/-- Output by output. -/
def lastb (t : List UInt8) : Nat → List UInt8
  | 0 => []
  | i + 1 => hmac t (lastb t i ++ [UInt8.ofNat (i + 1)])
def allb (t : List UInt8) : Nat → List UInt8
  | 0 => []
  | i + 1 => allb t i ++ lastb t (i + 1)
end Go.Proofs.Ytlnepajgnckolaa.Bl

/- What functions of the program do, walked over the abstract machine. -/
namespace Go.Proofs.Ytlnepajgnckolaa
open Go Go.Abs Go.Proofs Go.Proofs.Ytlnepajgnckolaa.Ch Go.Proofs.Ytlnepajgnckolaa.Po Go.Proofs.Ytlnepajgnckolaa.Ae Go.Proofs.Ytlnepajgnckolaa.Bl

set_option maxRecDepth 20000
/-- A cipher's cells. -/
abbrev cC (kp : Cell) (n : UInt64) : List Cell := [kp, c64 n, .bool true]
def anext (key : List UInt8) : List UInt8 := (aseal key (anonce 18446744073709551615) [] (List.replicate 32 0)).take 32
theorem anext_len (key : List UInt8) : (anext key).length = 32 := by rw [anext, List.length_take, aseal_len]; simp
theorem keyE {key : List UInt8} (hk : key.length = 32) : (u8s key).isEmpty = false := by
  cases key with
  | nil => simp at hk
  | cons a l => rfl
theorem sees_key {H : Heap} {key : List UInt8} {p q d : Nat} {n : UInt64} {π : List Nat} (hp : idx p π = none) (hq : idx q π = none) (hk : key.length = 32) (hC : H[q]? = some (some (cC (.ptr p 0) n))) (hK : H[p]? = some (some (u8s key))) : cm (cin π true H) (d + 2) (.ptr q 0) = .rop [.rop (u8s key), c64 n, .bool true] := by
  have he : (cC (.ptr p 0) n).isEmpty = false := rfl
  simp only [cm, cin, hp, hq, joinH, hK, hC, if_true, he, keyE hk, Bool.false_eq_true, if_false, List.drop_zero, List.map_cons, List.map_nil]
  rw [mapc_cm]
theorem piB {π : List Nat} {n : Nat} (h : ((List.range n).all fun p => π[p]? == some p) = true) : ∀ p, p < n → π[p]? = some p := fun p hp => by
  simpa using List.all_eq_true.1 h p (List.mem_range.2 hp)
theorem cut_pre2 {l : List UInt8} {k : Nat} : ((u8s l).drop 0).take k = u8s (l.take k) := by rw [List.drop_zero, mapc_take]
/-- bytes.Clone -/
theorem clone_s (l : List UInt8) (n : Nat) (hl : l.length = n) (h : 0 < n) (hn : n ≤ 100000000) : Good Try.prog 38 [.c (.ro n (u8s l))] [] (sc (.slc 0 0 n 1)) [some (u8s l)] := by
  refine good_frm 8 Try.func38 rfl rfl rfl rfl rfl rfl ?_
  refine awp_seq ?_
  refine rln ?_
  refine As ?_
  refine gend ?_
  refine awp_seq ?_
  refine awp_seq ?_
  refine rln ?_
  refine Mv ?_
  refine G (q_eqlsl ?_)
  refine gend ?_
  refine cndbN (fun hc1 => ?_) ?_; rotate_left
  · exact rfl
  refine awp_skip ?_
  refine awp_seq ?_
  refine rln ?_
  refine G2 (fun _ k_ => q_bsl (fk0 k_)) ?_
  refine Mv ?_
  refine G2 (fun _ k_ => q_app k_ (eA := el_slc (xs := []) rfl (Nat.zero_le _) rfl) (eB := el_ro (by rw [mapc_length, hl, Nat.mul_one]))) ?_
  refine As ?_
  refine gend ?_
  refine awp_ret ?_
  exact fx1 [1] (hm0 := by rw [Nat.zero_add]) (hH := pl1 rfl sees_m pl0)
/-- bytes.Clone -/
theorem clone_z : Good Try.prog 38 [.c (.ro 0 (u8s []))] [] (sc (.slc 0 0 0 1)) [some (u8s [])] := by
  refine good_frm 8 Try.func38 rfl rfl rfl rfl rfl rfl ?_
  refine awp_seq ?_
  refine rln ?_
  refine As ?_
  refine gend ?_
  refine awp_seq ?_
  refine awp_seq ?_
  refine rln ?_
  refine Mv ?_
  refine G (q_eqlsn ?_)
  refine gend ?_
  refine awp_any (et rfl) ?_ ?_
  · refine awp_seq ?_
    refine rln ?_
    refine As ?_
    refine gend ?_
    refine awp_le (sle_empty (al' := [(2, sc (.slc 0 0 0 1))]) 1 (Nat.zero_le _) ⟨.inr ⟨rfl, rfl⟩, trivial⟩) ?_
    refine awp_ret ?_
    exact fx1 [0] (hm0 := rfl) (hH := pl1 (cs' := u8s []) rfl rfl pl0)
  refine awp_skip ?_
  refine awp_seq ?_
  refine rln ?_
  refine G2 (fun _ k_ => q_bsl (fk0 k_)) ?_
  refine Mv ?_
  refine G2 (fun _ k_ => q_app k_ (eA := el_slc (xs := []) rfl (Nat.zero_le _) rfl) (eB := el_ro rfl)) ?_
  refine As ?_
  refine gend ?_
  refine awp_ret ?_
  exact fx1 [1] (hm0 := rfl) (hH := pl1 (cs' := u8s []) rfl rfl pl0)
theorem clone_ (l : List UInt8) (n : Nat) (hl : l.length = n) (hn : n ≤ 100000000) : Good Try.prog 38 [.c (.ro n (u8s l))] [] (sc (.slc 0 0 n 1)) [some (u8s l)] := by
  cases n with
  | zero => obtain rfl := List.eq_nil_of_length_eq_zero hl; exact clone_z
  | succ n => exact clone_s l _ hl (by omega) hn
/-- cipher.None -/
theorem none_ : Good Try.prog 10 [] [] (sc (.ptr 0 0)) [some (cC .nilp 0)] := by
  refine good_frm 3 Try.func10 rfl rfl rfl rfl rfl rfl ?_
  refine awp_seq ?_
  refine rln ?_
  refine As ?_
  refine gend ?_
  refine awp_seq ?_
  refine rln ?_
  refine G (q_bls (fkc rfl rfl rfl (Nat.le_of_ble_eq_true rfl) (fk0 ?_)))
  refine G2 (fun _ k_ => q_boxa k_) ?_
  refine As ?_
  refine gend ?_
  refine awp_ret ?_
  exact fx1 [0] (hm0 := rfl) (hH := pl1 rfl rfl pl0)
/-- cipher.New -/
theorem new_ (key : List UInt8) (hk : key.length = 32) : Good Try.prog 11 [.a (u8s key)] [] (sc (.ptr 1 0)) [some (u8s key), some (cC (.ptr 0 0) 0)] := by
  refine good_frm 5 Try.func11 rfl rfl rfl rfl rfl rfl ?_
  refine awp_seq ?_
  refine rln ?_
  refine G2 (fun _ k_ => q_boxa k_) ?_
  refine As ?_
  refine gend ?_
  refine awp_seq ?_
  refine rln ?_
  refine G (q_bls (fkc rfl (et rfl) rfl (Nat.le_of_ble_eq_true rfl) (fkc rfl rfl rfl (Nat.le_of_ble_eq_true rfl) (fk0 ?_))))
  refine G2 (fun _ k_ => q_boxa k_) ?_
  refine As ?_
  refine gend ?_
  refine awp_ret ?_
  exact fx1 [0, 1] (hm0 := rfl) (hH := pl1 rfl sees_m (pl1 rfl rfl pl0))
/-- (*cipher.Cipher).ready -/
theorem ready_ok (kc : List Cell) (n : UInt64) (h : n ≠ 18446744073709551615) : Good Try.prog 37 [.c (.rop [.rop kc, c64 n, .bool true])] [] (sc (cn 0)) [] := by
  refine good_frm 26 Try.func37 rfl rfl rfl rfl rfl rfl ?_
  refine awp_seq ?_
  refine rln ?_
  refine G (q_as (s := sc (cn 0)) ?_)
  refine gend ?_
  refine awp_seq ?_
  refine awp_block ?_
  refine awp_seq ?_
  refine rln ?_
  refine Mv ?_
  refine G (q_eqlp ?_)
  refine Mv ?_
  refine Gg (q_mv (s := .v (.c _)) ?_)
  refine Gg (q_ncr ?_)
  refine Gg (q_far ?_)
  refine Gg (q_ldr ?_)
  refine Gg (q_notb ?_)
  refine G (q_pkf ?_)
  refine As ?_
  refine gend ?_
  refine cndbnN (fun hc1 => ?_) ?_; rotate_left
  · exact rfl
  refine awp_seq ?_
  refine rln ?_
  refine Mv ?_
  refine G (q_ncr ?_)
  refine G (q_far ?_)
  refine G (q_ldr ?_)
  refine G (q_neqp ?_)
  refine Mv ?_
  refine Akn 19 (fun hb6 => ?_) ?_; rotate_left
  · exact rfl
  refine Gg (q_mv (s := .v (.c _)) ?_)
  refine Gg (q_ncr ?_)
  refine Gg (q_far ?_)
  refine Gg (q_ldr ?_)
  refine Gg (q_eql64 (y := 18446744073709551615) ?_)
  refine G (q_pkt ?_)
  refine As ?_
  refine gend ?_
  refine cndN (fun hc2 => ?_) ?_; rotate_left
  · exact h
  refine awp_skip ?_
  refine awp_seq ?_
  refine rln ?_
  refine G (q_as (s := sc (cn 0)) ?_)
  refine gend ?_
  refine awp_ret ?_
  exact fp1
/-- (*cipher.Cipher).ready -/
theorem ready_spent (kc : List Cell) (n : UInt64) (h : n = 18446744073709551615) : Good Try.prog 37 [.c (.rop [.rop kc, c64 n, .bool true])] [] (sc (cn 11)) [] := by
  refine good_frm 26 Try.func37 rfl rfl rfl rfl rfl rfl ?_
  refine awp_seq ?_
  refine rln ?_
  refine G (q_as (s := sc (cn 0)) ?_)
  refine gend ?_
  refine awp_seq ?_
  refine awp_block ?_
  refine awp_seq ?_
  refine rln ?_
  refine Mv ?_
  refine G (q_eqlp ?_)
  refine Mv ?_
  refine Gg (q_mv (s := .v (.c _)) ?_)
  refine Gg (q_ncr ?_)
  refine Gg (q_far ?_)
  refine Gg (q_ldr ?_)
  refine Gg (q_notb ?_)
  refine G (q_pkf ?_)
  refine As ?_
  refine gend ?_
  refine cndbnN (fun hc1 => ?_) ?_; rotate_left
  · exact rfl
  refine awp_seq ?_
  refine rln ?_
  refine Mv ?_
  refine G (q_ncr ?_)
  refine G (q_far ?_)
  refine G (q_ldr ?_)
  refine G (q_neqp ?_)
  refine Mv ?_
  refine Akn 19 (fun hb6 => ?_) ?_; rotate_left
  · exact rfl
  refine Gg (q_mv (s := .v (.c _)) ?_)
  refine Gg (q_ncr ?_)
  refine Gg (q_far ?_)
  refine Gg (q_ldr ?_)
  refine Gg (q_eql64 (y := 18446744073709551615) ?_)
  refine G (q_pkt ?_)
  refine As ?_
  refine gend ?_
  refine cndY (fun hc2 => ?_) ?_; rotate_left
  · exact h
  refine awp_seq ?_
  refine rln ?_
  refine G (q_as (s := sc (cn 11)) ?_)
  refine gend ?_
  refine awp_ret ?_
  exact fp1
/-- (*cipher.Cipher).ready -/
theorem ready_0 (n : UInt64) : Good Try.prog 37 [.c (.rop [.nilp, c64 n, .bool true])] [] (sc (cn 0)) [] := by
  refine good_frm 26 Try.func37 rfl rfl rfl rfl rfl rfl ?_
  refine awp_seq ?_
  refine rln ?_
  refine G (q_as (s := sc (cn 0)) ?_)
  refine gend ?_
  refine awp_seq ?_
  refine awp_block ?_
  refine awp_seq ?_
  refine rln ?_
  refine Mv ?_
  refine G (q_eqlp ?_)
  refine Mv ?_
  refine Gg (q_mv (s := .v (.c _)) ?_)
  refine Gg (q_ncr ?_)
  refine Gg (q_far ?_)
  refine Gg (q_ldr ?_)
  refine Gg (q_notb ?_)
  refine G (q_pkf ?_)
  refine As ?_
  refine gend ?_
  refine cndbnN (fun hc1 => ?_) ?_; rotate_left
  · exact rfl
  refine awp_seq ?_
  refine rln ?_
  refine Mv ?_
  refine G (q_ncr ?_)
  refine G (q_far ?_)
  refine G (q_ldr ?_)
  refine G (q_neqp ?_)
  refine Mv ?_
  refine Akf 19 (fun hb6 => ?_) ?_; rotate_left
  · exact rfl
  refine Gn ?_
  refine Gn ?_
  refine Gn ?_
  refine Gn ?_
  refine Gn ?_
  refine G (q_pkf ?_)
  refine As ?_
  refine gend ?_
  refine cndF ?_
  refine awp_skip ?_
  refine awp_seq ?_
  refine rln ?_
  refine G (q_as (s := sc (cn 0)) ?_)
  refine gend ?_
  refine awp_ret ?_
  exact fp1
/-- (*cipher.Cipher).Has -/
theorem has_k (kc : List Cell) (r : List Cell) : Good Try.prog 20 [.c (.rop (.rop kc :: r))] [] (sc (.bool true)) [] := by
  refine good_frm 12 Try.func20 rfl rfl rfl rfl rfl rfl ?_
  refine awp_seq ?_
  refine rln ?_
  refine As ?_
  refine gend ?_
  refine awp_seq ?_
  refine rln ?_
  refine Mv ?_
  refine G (q_neqp ?_)
  refine Mv ?_
  refine Gg (q_mv (s := .v (.c _)) ?_)
  refine Gg (q_ncr ?_)
  refine Gg (q_far ?_)
  refine Gg (q_ldr ?_)
  refine Gg (q_neqp ?_)
  refine G (q_pkt ?_)
  refine As ?_
  refine gend ?_
  refine awp_ret ?_
  exact fp1
/-- (*cipher.Cipher).N -/
theorem n_ (kc : Cell) (n : UInt64) (r : List Cell) : Good Try.prog 19 [.c (.rop (kc :: c64 n :: r))] [] (sc (c64 n)) [] := by
  refine good_frm 9 Try.func19 rfl rfl rfl rfl rfl rfl ?_
  refine awp_seq ?_
  refine rln ?_
  refine G (q_as (s := sc (c64 0)) ?_)
  refine gend ?_
  refine awp_seq ?_
  refine awp_seq ?_
  refine rln ?_
  refine Mv ?_
  refine G (q_eqlp ?_)
  refine gend ?_
  refine cndF ?_
  refine awp_skip ?_
  refine awp_seq ?_
  refine rln ?_
  refine Mv ?_
  refine G (q_ncr ?_)
  refine G (q_far ?_)
  refine G (q_ldr ?_)
  refine As ?_
  refine gend ?_
  refine awp_ret ?_
  exact fp1
end Go.Proofs.Ytlnepajgnckolaa

/- What functions of the program do, walked over the abstract machine. -/
namespace Go.Proofs.Ytlnepajgnckolaa
open Go Go.Abs Go.Proofs Go.Proofs.Ytlnepajgnckolaa.Ch Go.Proofs.Ytlnepajgnckolaa.Po Go.Proofs.Ytlnepajgnckolaa.Ae Go.Proofs.Ytlnepajgnckolaa.Bl

set_option maxRecDepth 20000
set_option maxHeartbeats 1600000 in
/-- (*cipher.Cipher).Seal -/
theorem cseal_ok (key ad l : List UInt8) (n : UInt64) (a k : Nat) (hkey : key.length = 32) (had : ad.length = a) (ha9 : a ≤ 10000) (hl : l.length = k) (hk9 : k ≤ 10000) (h : n ≠ 18446744073709551615) : Good Try.prog 12 [.c (.ptr 0 0), .c (.ro a (u8s ad)), .c (.ro k (u8s l))] [some (cC (.ptr 1 0) n), some (u8s key)] (.t [.c (.slc 2 0 (k + 16) 1), .c (cn 0)]) [some (cC (.ptr 1 0) (n + 1)), some (u8s key), some (u8s (aseal key (anonce n) ad l))] := by
  have g1 := ready_ok (u8s key) n h
  have hNl := anonce_len n
  have g2 := nonce_ n
  obtain ⟨N, hN⟩ : ∃ z, anonce n = z := ⟨_, rfl⟩
  rw [hN] at hNl g2
  rw [hN]
  have g3 := seal_ key N ad l a k hkey hNl had ha9 hl hk9
  have hn1 : n + 1 - 1 = n := UInt64.add_sub_cancel ..
  have g2' : Good Try.prog 40 [.c (c64 (n + 1 - 1))] [] (sa (u8s N)) [] := by rw [hn1]; exact g2
  refine good_frm 43 Try.func12 rfl rfl rfl rfl rfl rfl ?_
  refine awp_seq ?_
  refine rln ?_
  refine As ?_
  refine G (q_as (s := sc (cn 0)) ?_)
  refine gend ?_
  refine awp_seq ?_
  refine awp_seq ?_
  refine rln ?_
  refine Mv ?_
  refine G2 (fun _ k_ => q_callp g1 k_ (ha := (cac (et rfl) (sees_key rfl rfl hkey rfl rfl) ca0))) ?_
  refine As ?_
  refine gend ?_
  refine awp_seq ?_
  refine rln ?_
  refine Mv ?_
  refine G (q_neqn (y := 0) ?_)
  refine gend ?_
  refine cndN (fun hc1 => ?_) ?_; rotate_left
  · exact fun h => h rfl
  refine awp_skip ?_
  refine awp_seq ?_
  refine awp_seq ?_
  refine rln ?_
  refine Mv ?_
  refine G (q_ncp ?_)
  refine G (q_fap0 ?_)
  refine G (q_ldp ?_)
  refine G (q_eqlp ?_)
  refine gend ?_
  refine cndF ?_
  refine awp_skip ?_
  refine awp_seq ?_
  refine rln ?_
  refine Mv ?_
  refine G (q_ncp ?_)
  refine G (q_fap0 ?_)
  refine G (q_ldp ?_)
  refine G (q_add64 (y := 1) ?_)
  refine G (q_ncp ?_)
  refine G (q_fap0 ?_)
  refine G20 (fun _ k_ => q_st k_) ?_
  refine gend ?_
  refine awp_seq ?_
  refine rdln [14] [0, 0, 0, 0, 0, 0, 0, 0, 0, 0, 0, 0, 0, 0, 0, 1, 1] [0, 0, 0, 0, 0, 0, 0, 0, 0, 0, 0, 0, 0, 0, 1, 1, 1] ?_
  refine Dp (fun _ => q_mv (s := .v (.c _)) ⟨rfl, rfl⟩) ?_
  refine Dp (fun _ => q_ncp ⟨rfl, rfl⟩) ?_
  refine Dp (fun _ => q_fap0 ⟨rfl, rfl⟩) ?_
  refine DLp ?_
  refine Dp (fun _ => q_ncp ⟨rfl, rfl⟩) ?_
  refine DLw ?_
  refine Dp (fun _ => q_mv (s := .v (.c _)) ⟨rfl, rfl⟩) ?_
  refine Dp (fun _ => q_ncp ⟨rfl, rfl⟩) ?_
  refine Dp (fun _ => q_fap0 ⟨rfl, rfl⟩) ?_
  refine DLp ?_
  refine Dp (fun _ => q_sub64 (y := 1) ⟨rfl, rfl⟩) ?_
  refine Dp (fun _ => q_callp g2' ⟨rfl, rfl⟩ (ha := (cac (et rfl) cm_int ca0))) ?_
  refine Dp (fun _ => q_mv (s := .v (.c _)) ⟨rfl, rfl⟩) ?_
  refine Dp (fun _ => q_mv (s := .v (.c _)) ⟨rfl, rfl⟩) ?_
  refine De2 (fun _ k_ => q_calln g3 k_ (ha := (caa (et rfl) sees_m (caa (et rfl) sees_m (cac (et rfl) sees_ro (cac (et rfl) sees_ro ca0)))))) ?_
  refine Dp (fun _ => q_as (s := .v (.c _)) ⟨rfl, rfl⟩) ?_
  refine Dp (fun _ => q_as (s := sc (cn 0)) ⟨rfl, rfl⟩) ?_
  refine dend ?_
  refine awp_ret ?_
  exact fx2 [0, 1, 2] (hm0 := rfl) (hH := pl1 rfl rfl (pl1 rfl sees_m (pl1 rfl sees_m pl0))) (hn := piB rfl)
/-- (*cipher.Cipher).Seal -/
theorem cseal_spent (key ad l : List UInt8) (n : UInt64) (a k : Nat) (hkey : key.length = 32) (had : ad.length = a) (ha9 : a ≤ 10000) (hl : l.length = k) (hk9 : k ≤ 10000) (h : n = 18446744073709551615) : Good Try.prog 12 [.c (.ptr 0 0), .c (.ro a (u8s ad)), .c (.ro k (u8s l))] [some (cC (.ptr 1 0) n), some (u8s key)] (.t [.c .nils, .c (cn 11)]) [some (cC (.ptr 1 0) n), some (u8s key)] := by
  have g1 := ready_spent (u8s key) n h
  refine good_frm 43 Try.func12 rfl rfl rfl rfl rfl rfl ?_
  refine awp_seq ?_
  refine rln ?_
  refine As ?_
  refine G (q_as (s := sc (cn 0)) ?_)
  refine gend ?_
  refine awp_seq ?_
  refine awp_seq ?_
  refine rln ?_
  refine Mv ?_
  refine G2 (fun _ k_ => q_callp g1 k_ (ha := (cac (et rfl) (sees_key rfl rfl hkey rfl rfl) ca0))) ?_
  refine As ?_
  refine gend ?_
  refine awp_seq ?_
  refine rln ?_
  refine Mv ?_
  refine G (q_neqn (y := 0) ?_)
  refine gend ?_
  refine cndY (fun hc1 => ?_) ?_; rotate_left
  · exact by decide
  refine awp_seq ?_
  refine rln ?_
  refine Mv ?_
  refine As ?_
  refine As ?_
  refine gend ?_
  refine awp_ret ?_
  exact fx2 [0, 1] (hm0 := rfl) (hH := pl1 rfl rfl (pl1 rfl sees_m pl0))
/-- (*cipher.Cipher).Seal -/
theorem cseal_0 (ad l : List UInt8) (n : UInt64) (a k : Nat) (hl : l.length = k) (hk9 : k ≤ 10000) : Good Try.prog 12 [.c (.ptr 0 0), .c (.ro a (u8s ad)), .c (.ro k (u8s l))] [some (cC .nilp n)] (.t [.c (.slc 1 0 k 1), .c (cn 0)]) [some (cC .nilp n), some (u8s l)] := by
  have g1z := ready_0 n
  have g2 := clone_ l k hl (by omega)
  refine good_frm 43 Try.func12 rfl rfl rfl rfl rfl rfl ?_
  refine awp_seq ?_
  refine rln ?_
  refine As ?_
  refine G (q_as (s := sc (cn 0)) ?_)
  refine gend ?_
  refine awp_seq ?_
  refine awp_seq ?_
  refine rln ?_
  refine Mv ?_
  refine G2 (fun _ k_ => q_callp g1z k_ (ha := (cac (et rfl) (sees_ptr rfl rfl rfl rfl) ca0))) ?_
  refine As ?_
  refine gend ?_
  refine awp_seq ?_
  refine rln ?_
  refine Mv ?_
  refine G (q_neqn (y := 0) ?_)
  refine gend ?_
  refine cndN (fun hc1 => ?_) ?_; rotate_left
  · exact fun h => h rfl
  refine awp_skip ?_
  refine awp_seq ?_
  refine awp_seq ?_
  refine rln ?_
  refine Mv ?_
  refine G (q_ncp ?_)
  refine G (q_fap0 ?_)
  refine G (q_ldp ?_)
  refine G (q_eqlp ?_)
  refine gend ?_
  refine cndbY (fun hc2 => ?_) ?_; rotate_left
  · exact rfl
  refine awp_seq ?_
  refine rln ?_
  refine Mv ?_
  refine G2 (fun _ k_ => q_calln g2 k_ (ha := (cac (et rfl) sees_ro ca0))) ?_
  refine As ?_
  refine G (q_as (s := sc (cn 0)) ?_)
  refine gend ?_
  refine awp_ret ?_
  exact fx2 [0, 1] (hm0 := rfl) (hH := pl1 rfl rfl (pl1 rfl sees_m pl0)) (hn := piB rfl)
set_option maxHeartbeats 1600000 in
/-- (*cipher.Cipher).Open -/
theorem copen_ok (key ad l : List UInt8) (n : UInt64) (a k : Nat) (hkey : key.length = 32) (had : ad.length = a) (ha9 : a ≤ 10000) (hl : l.length = k) (hk9 : k ≤ 10000) (h : n ≠ 18446744073709551615) (p : List UInt8) (hp : aopen key (anonce n) ad l = some p) : Good Try.prog 14 [.c (.ptr 0 0), .c (.ro a (u8s ad)), .c (.ro k (u8s l))] [some (cC (.ptr 1 0) n), some (u8s key)] (.t [.c (.slc 2 0 (k - 16) 1), .c (cn 0)]) [some (cC (.ptr 1 0) (n + 1)), some (u8s key), some (u8s p)] := by
  have g1 := ready_ok (u8s key) n h
  have hNl := anonce_len n
  have g2 := nonce_ n
  obtain ⟨N, hN⟩ : ∃ z, anonce n = z := ⟨_, rfl⟩
  rw [hN] at hNl g2
  rw [hN] at hp
  have g3 := open_some key N ad l a k hkey hNl had ha9 hl hk9 p hp
  refine good_frm 51 Try.func14 rfl rfl rfl rfl rfl rfl ?_
  refine awp_seq ?_
  refine rln ?_
  refine As ?_
  refine G (q_as (s := sc (cn 0)) ?_)
  refine gend ?_
  refine awp_seq ?_
  refine awp_seq ?_
  refine rln ?_
  refine Mv ?_
  refine G2 (fun _ k_ => q_callp g1 k_ (ha := (cac (et rfl) (sees_key rfl rfl hkey rfl rfl) ca0))) ?_
  refine As ?_
  refine gend ?_
  refine awp_seq ?_
  refine rln ?_
  refine Mv ?_
  refine G (q_neqn (y := 0) ?_)
  refine gend ?_
  refine cndN (fun hc1 => ?_) ?_; rotate_left
  · exact fun h => h rfl
  refine awp_skip ?_
  refine awp_seq ?_
  refine awp_seq ?_
  refine rln ?_
  refine Mv ?_
  refine G (q_ncp ?_)
  refine G (q_fap0 ?_)
  refine G (q_ldp ?_)
  refine G (q_eqlp ?_)
  refine gend ?_
  refine cndF ?_
  refine awp_skip ?_
  refine awp_seq ?_
  refine rdln [13] [0, 0, 0, 0, 0, 0, 0, 0, 0, 0, 0, 0, 0, 0, 1, 1, 1, 1, 1] [0, 0, 0, 0, 0, 0, 0, 0, 0, 0, 0, 0, 0, 1, 1, 1, 1, 1, 1] ?_
  refine Dp (fun _ => q_mv (s := .v (.c _)) ⟨rfl, rfl⟩) ?_
  refine Dp (fun _ => q_ncp ⟨rfl, rfl⟩) ?_
  refine Dp (fun _ => q_fap0 ⟨rfl, rfl⟩) ?_
  refine DLp ?_
  refine Dp (fun _ => q_ncp ⟨rfl, rfl⟩) ?_
  refine DLw ?_
  refine Dp (fun _ => q_mv (s := .v (.c _)) ⟨rfl, rfl⟩) ?_
  refine Dp (fun _ => q_ncp ⟨rfl, rfl⟩) ?_
  refine Dp (fun _ => q_fap0 ⟨rfl, rfl⟩) ?_
  refine DLp ?_
  refine Dp (fun _ => q_callp g2 ⟨rfl, rfl⟩ (ha := (cac (et rfl) cm_int ca0))) ?_
  refine Dp (fun _ => q_mv (s := .v (.c _)) ⟨rfl, rfl⟩) ?_
  refine Dp (fun _ => q_mv (s := .v (.c _)) ⟨rfl, rfl⟩) ?_
  refine De2 (fun _ k_ => q_calln g3 k_ (ha := (caa (et rfl) sees_m (caa (et rfl) sees_m (cac (et rfl) sees_ro (cac (et rfl) sees_ro ca0)))))) ?_
  refine Dp (fun _ => q_mv (s := .t _) ⟨rfl, rfl⟩) ?_
  refine Dp (fun _ => q_ext (y := .c _) ⟨rfl, rfl⟩) ?_
  refine Dp (fun _ => q_ext (y := .c _) ⟨rfl, rfl⟩) ?_
  refine Dp (fun _ => q_as (s := .v (.c _)) ⟨rfl, rfl⟩) ?_
  refine Dp (fun _ => q_as (s := .v (.c _)) ⟨rfl, rfl⟩) ?_
  refine dend ?_
  refine awp_seq ?_
  refine awp_seq ?_
  refine rln ?_
  refine Mv ?_
  refine G (q_eqln (y := 0) ?_)
  refine gend ?_
  refine cndY (fun hc2 => ?_) ?_; rotate_left
  · exact rfl
  refine rln ?_
  refine Mv ?_
  refine G (q_ncp ?_)
  refine G (q_fap0 ?_)
  refine G (q_ldp ?_)
  refine G (q_add64 (y := 1) ?_)
  refine G (q_ncp ?_)
  refine G (q_fap0 ?_)
  refine G20 (fun _ k_ => q_st k_) ?_
  refine gend ?_
  refine awp_seq ?_
  refine rln ?_
  refine Mv ?_
  refine Mv ?_
  refine As ?_
  refine As ?_
  refine gend ?_
  refine awp_ret ?_
  exact fx2 [0, 1, 2] (hm0 := rfl) (hH := pl1 rfl rfl (pl1 rfl sees_m (pl1 rfl sees_m pl0))) (hn := piB rfl)
set_option maxHeartbeats 1600000 in
/-- (*cipher.Cipher).Open -/
theorem copen_bad (key ad l : List UInt8) (n : UInt64) (a k : Nat) (hkey : key.length = 32) (had : ad.length = a) (ha9 : a ≤ 10000) (hl : l.length = k) (hk9 : k ≤ 10000) (h : n ≠ 18446744073709551615) (hp : aopen key (anonce n) ad l = none) : Good Try.prog 14 [.c (.ptr 0 0), .c (.ro a (u8s ad)), .c (.ro k (u8s l))] [some (cC (.ptr 1 0) n), some (u8s key)] (.t [.c .nils, .c (cn 8)]) [some (cC (.ptr 1 0) n), some (u8s key)] := by
  have g1 := ready_ok (u8s key) n h
  have hNl := anonce_len n
  have g2 := nonce_ n
  obtain ⟨N, hN⟩ : ∃ z, anonce n = z := ⟨_, rfl⟩
  rw [hN] at hNl g2
  rw [hN] at hp
  have g3 := open_none key N ad l a k hkey hNl had ha9 hl hk9 hp
  refine good_frm 51 Try.func14 rfl rfl rfl rfl rfl rfl ?_
  refine awp_seq ?_
  refine rln ?_
  refine As ?_
  refine G (q_as (s := sc (cn 0)) ?_)
  refine gend ?_
  refine awp_seq ?_
  refine awp_seq ?_
  refine rln ?_
  refine Mv ?_
  refine G2 (fun _ k_ => q_callp g1 k_ (ha := (cac (et rfl) (sees_key rfl rfl hkey rfl rfl) ca0))) ?_
  refine As ?_
  refine gend ?_
  refine awp_seq ?_
  refine rln ?_
  refine Mv ?_
  refine G (q_neqn (y := 0) ?_)
  refine gend ?_
  refine cndN (fun hc1 => ?_) ?_; rotate_left
  · exact fun h => h rfl
  refine awp_skip ?_
  refine awp_seq ?_
  refine awp_seq ?_
  refine rln ?_
  refine Mv ?_
  refine G (q_ncp ?_)
  refine G (q_fap0 ?_)
  refine G (q_ldp ?_)
  refine G (q_eqlp ?_)
  refine gend ?_
  refine cndF ?_
  refine awp_skip ?_
  refine awp_seq ?_
  refine rdln [] [] [] ?_
  refine Dp (fun _ => q_mv (s := .v (.c _)) ⟨rfl, rfl⟩) ?_
  refine Dp (fun _ => q_ncp ⟨rfl, rfl⟩) ?_
  refine Dp (fun _ => q_fap0 ⟨rfl, rfl⟩) ?_
  refine DLp ?_
  refine Dp (fun _ => q_ncp ⟨rfl, rfl⟩) ?_
  refine DLw ?_
  refine Dp (fun _ => q_mv (s := .v (.c _)) ⟨rfl, rfl⟩) ?_
  refine Dp (fun _ => q_ncp ⟨rfl, rfl⟩) ?_
  refine Dp (fun _ => q_fap0 ⟨rfl, rfl⟩) ?_
  refine DLp ?_
  refine Dp (fun _ => q_callp g2 ⟨rfl, rfl⟩ (ha := (cac (et rfl) cm_int ca0))) ?_
  refine Dp (fun _ => q_mv (s := .v (.c _)) ⟨rfl, rfl⟩) ?_
  refine Dp (fun _ => q_mv (s := .v (.c _)) ⟨rfl, rfl⟩) ?_
  refine Dp (fun _ => q_callp g3 ⟨rfl, rfl⟩ (ha := (caa (et rfl) sees_m (caa (et rfl) sees_m (cac (et rfl) sees_ro (cac (et rfl) sees_ro ca0)))))) ?_
  refine Dp (fun _ => q_mv (s := .t _) ⟨rfl, rfl⟩) ?_
  refine Dp (fun _ => q_ext (y := .c _) ⟨rfl, rfl⟩) ?_
  refine Dp (fun _ => q_ext (y := .c _) ⟨rfl, rfl⟩) ?_
  refine Dp (fun _ => q_as (s := .v (.c _)) ⟨rfl, rfl⟩) ?_
  refine Dp (fun _ => q_as (s := .v (.c _)) ⟨rfl, rfl⟩) ?_
  refine dend ?_
  refine awp_seq ?_
  refine awp_seq ?_
  refine rln ?_
  refine Mv ?_
  refine G (q_eqln (y := 0) ?_)
  refine gend ?_
  refine cndN (fun hc2 => ?_) ?_; rotate_left
  · exact by decide
  refine awp_skip ?_
  refine awp_seq ?_
  refine rln ?_
  refine Mv ?_
  refine Mv ?_
  refine As ?_
  refine As ?_
  refine gend ?_
  refine awp_ret ?_
  exact fx2 [0, 1] (hm0 := rfl) (hH := pl1 rfl rfl (pl1 rfl sees_m pl0))
/-- (*cipher.Cipher).Open -/
theorem copen_spent (key ad l : List UInt8) (n : UInt64) (a k : Nat) (hkey : key.length = 32) (had : ad.length = a) (ha9 : a ≤ 10000) (hl : l.length = k) (hk9 : k ≤ 10000) (h : n = 18446744073709551615) : Good Try.prog 14 [.c (.ptr 0 0), .c (.ro a (u8s ad)), .c (.ro k (u8s l))] [some (cC (.ptr 1 0) n), some (u8s key)] (.t [.c .nils, .c (cn 11)]) [some (cC (.ptr 1 0) n), some (u8s key)] := by
  have g1 := ready_spent (u8s key) n h
  refine good_frm 51 Try.func14 rfl rfl rfl rfl rfl rfl ?_
  refine awp_seq ?_
  refine rln ?_
  refine As ?_
  refine G (q_as (s := sc (cn 0)) ?_)
  refine gend ?_
  refine awp_seq ?_
  refine awp_seq ?_
  refine rln ?_
  refine Mv ?_
  refine G2 (fun _ k_ => q_callp g1 k_ (ha := (cac (et rfl) (sees_key rfl rfl hkey rfl rfl) ca0))) ?_
  refine As ?_
  refine gend ?_
  refine awp_seq ?_
  refine rln ?_
  refine Mv ?_
  refine G (q_neqn (y := 0) ?_)
  refine gend ?_
  refine cndY (fun hc1 => ?_) ?_; rotate_left
  · exact by decide
  refine awp_seq ?_
  refine rln ?_
  refine Mv ?_
  refine As ?_
  refine As ?_
  refine gend ?_
  refine awp_ret ?_
  exact fx2 [0, 1] (hm0 := rfl) (hH := pl1 rfl rfl (pl1 rfl sees_m pl0))
/-- (*cipher.Cipher).Open -/
theorem copen_0 (ad l : List UInt8) (n : UInt64) (a k : Nat) (hl : l.length = k) (hk9 : k ≤ 10000) : Good Try.prog 14 [.c (.ptr 0 0), .c (.ro a (u8s ad)), .c (.ro k (u8s l))] [some (cC .nilp n)] (.t [.c (.slc 1 0 k 1), .c (cn 0)]) [some (cC .nilp n), some (u8s l)] := by
  have g1z := ready_0 n
  have g2 := clone_ l k hl (by omega)
  refine good_frm 51 Try.func14 rfl rfl rfl rfl rfl rfl ?_
  refine awp_seq ?_
  refine rln ?_
  refine As ?_
  refine G (q_as (s := sc (cn 0)) ?_)
  refine gend ?_
  refine awp_seq ?_
  refine awp_seq ?_
  refine rln ?_
  refine Mv ?_
  refine G2 (fun _ k_ => q_callp g1z k_ (ha := (cac (et rfl) (sees_ptr rfl rfl rfl rfl) ca0))) ?_
  refine As ?_
  refine gend ?_
  refine awp_seq ?_
  refine rln ?_
  refine Mv ?_
  refine G (q_neqn (y := 0) ?_)
  refine gend ?_
  refine cndN (fun hc1 => ?_) ?_; rotate_left
  · exact fun h => h rfl
  refine awp_skip ?_
  refine awp_seq ?_
  refine awp_seq ?_
  refine rln ?_
  refine Mv ?_
  refine G (q_ncp ?_)
  refine G (q_fap0 ?_)
  refine G (q_ldp ?_)
  refine G (q_eqlp ?_)
  refine gend ?_
  refine cndbY (fun hc2 => ?_) ?_; rotate_left
  · exact rfl
  refine awp_seq ?_
  refine rln ?_
  refine Mv ?_
  refine G2 (fun _ k_ => q_calln g2 k_ (ha := (cac (et rfl) sees_ro ca0))) ?_
  refine As ?_
  refine G (q_as (s := sc (cn 0)) ?_)
  refine gend ?_
  refine awp_ret ?_
  exact fx2 [0, 1] (hm0 := rfl) (hH := pl1 rfl rfl (pl1 rfl sees_m pl0)) (hn := piB rfl)
/-- (*cipher.Cipher).SetN -/
theorem setn_k (key : List UInt8) (n m : UInt64) : Good Try.prog 18 [.c (.ptr 0 0), .c (c64 m)] [some (cC (.ptr 1 0) n), some (u8s key)] (.t []) [some (cC (.ptr 1 0) m), some (u8s key)] := by
  refine good_frm 16 Try.func18 rfl rfl rfl rfl rfl rfl ?_
  refine awp_seq ?_
  refine rln ?_
  refine Mv ?_
  refine G (q_neqp ?_)
  refine Mv ?_
  refine Gg (q_mv (s := .v (.c _)) ?_)
  refine Gg (q_ncp ?_)
  refine Gg (q_fap0 ?_)
  refine Gg (q_ldp ?_)
  refine G (q_pkt ?_)
  refine gend ?_
  refine cndbY (fun hc1 => ?_) ?_; rotate_left
  · exact rfl
  refine rln ?_
  refine Mv ?_
  refine Mv ?_
  refine G (q_ncp ?_)
  refine G (q_fap0 ?_)
  refine G20 (fun _ k_ => q_st k_) ?_
  refine gend ?_
  exact fx0 [0, 1] (hH := pl1 rfl rfl (pl1 rfl sees_m pl0))
/-- (*cipher.Cipher).SetN -/
theorem setn_0 (n m : UInt64) : Good Try.prog 18 [.c (.ptr 0 0), .c (c64 m)] [some (cC .nilp n)] (.t []) [some (cC .nilp m)] := by
  refine good_frm 16 Try.func18 rfl rfl rfl rfl rfl rfl ?_
  refine awp_seq ?_
  refine rln ?_
  refine Mv ?_
  refine G (q_neqp ?_)
  refine Mv ?_
  refine Gg (q_mv (s := .v (.c _)) ?_)
  refine Gg (q_ncp ?_)
  refine Gg (q_fap0 ?_)
  refine Gg (q_ldp ?_)
  refine G (q_pkt ?_)
  refine gend ?_
  refine cndbY (fun hc1 => ?_) ?_; rotate_left
  · exact rfl
  refine rln ?_
  refine Mv ?_
  refine Mv ?_
  refine G (q_ncp ?_)
  refine G (q_fap0 ?_)
  refine G20 (fun _ k_ => q_st k_) ?_
  refine gend ?_
  exact fx0 [0] (hH := pl1 rfl rfl pl0)
end Go.Proofs.Ytlnepajgnckolaa

/- What functions of the program do, walked over the abstract machine. -/
namespace Go.Proofs.Ytlnepajgnckolaa
open Go Go.Abs Go.Proofs Go.Proofs.Ytlnepajgnckolaa.Ch Go.Proofs.Ytlnepajgnckolaa.Po Go.Proofs.Ytlnepajgnckolaa.Ae Go.Proofs.Ytlnepajgnckolaa.Bl

set_option maxRecDepth 20000
/-- A state's cells. -/
abbrev sC (cp : Cell) (h ck : List UInt8) : List Cell := cp :: (u8s h ++ u8s ck)
set_option maxHeartbeats 1600000 in
/-- (*cipher.Cipher).Rekey -/
theorem rekey_k (key : List UInt8) (n : UInt64) (hkey : key.length = 32) : Good Try.prog 16 [.c (.ptr 0 0)] [some (cC (.ptr 1 0) n), some (u8s key)] (.t []) [some (cC (.ptr 2 0) n), some (u8s key), some (u8s (anext key))] := by
  have hNl := anonce_len 18446744073709551615
  have g2 := nonce_ 18446744073709551615
  have hA := anext_len key
  have hS := aseal_len key (anonce 18446744073709551615) [] (List.replicate 32 0)
  have g3 := seal_ key (anonce 18446744073709551615) [] (List.replicate 32 0) 0 32 hkey hNl rfl (by decide) rfl (by decide)
  rw [show (List.replicate 32 (0 : UInt8)).length = 32 from rfl] at hS
  have hAS : anext key = (aseal key (anonce 18446744073709551615) [] (List.replicate 32 0)).take 32 := rfl
  obtain ⟨Sx, hSx⟩ : ∃ z, aseal key (anonce 18446744073709551615) [] (List.replicate 32 0) = z := ⟨_, rfl⟩
  obtain ⟨N, hN⟩ : ∃ z, anonce 18446744073709551615 = z := ⟨_, rfl⟩
  obtain ⟨A, hAA⟩ : ∃ z, anext key = z := ⟨_, rfl⟩
  rw [hSx] at hS hAS g3
  rw [hAA] at hA hAS ⊢
  rw [hN] at g2 g3 hNl
  refine good_frm 20 Try.func16 rfl rfl rfl rfl rfl rfl ?_
  refine awp_seq ?_
  refine rln ?_
  refine Mv ?_
  refine G2 (fun _ k_ => q_callp (has_k _ _) k_ (ha := (cac (et rfl) (sees_key rfl rfl hkey rfl rfl) ca0))) ?_
  refine gend ?_
  refine cndbY (fun hc1 => ?_) ?_; rotate_left
  · exact rfl
  refine awp_mid ⟨frm 20 [(0, sc (.ptr 0 0)), (2, sc (.ptr 2 0))], [some (cC (.ptr 1 0) n), some (u8s key), some (u8s A)]⟩ ?_ ?_
  · refine rdm [7, 8, 12, 13] [⟨[0, 1, 2, 3, 4, 5, 6, 7, 8, 9, 10, 11, 12, 13], [7, 8, 12, 13], [7, 8, 12, 13], [0, 0, 0, 0, 0, 0, 0, 0, 1, 2, 2, 2, 2, 3], [1, 1, 1, 1, 1, 1, 1, 1, 2, 3, 3, 3, 3, 4]⟩, ⟨[0, 1, 2, 3, 4, 5, 6, 7, 12, 8, 9, 10, 11, 13], [7, 12, 8, 13], [7, 8, 9, 13], [0, 0, 0, 0, 0, 0, 0, 0, 1, 2, 3, 3, 3, 3], [2, 2, 2, 2, 2, 2, 2, 1, 2, 3, 3, 3, 3, 4]⟩, ⟨[0, 1, 2, 3, 4, 5, 6, 12, 7, 8, 9, 10, 11, 13], [12, 7, 8, 13], [7, 8, 9, 13], [0, 0, 0, 0, 0, 0, 0, 0, 1, 2, 3, 3, 3, 3], [2, 2, 2, 2, 2, 2, 2, 1, 2, 3, 3, 3, 3, 4]⟩] ⟨?_, ?_, ?_, trivial⟩   -- region 1
    · refine Dp (fun _ => q_mv (s := .v (.c _)) ⟨rfl, rfl⟩) ?_
      refine Dp (fun _ => q_ncp ⟨rfl, rfl⟩) ?_
      refine Dp (fun _ => q_fap0 ⟨rfl, rfl⟩) ?_
      refine DLp ?_
      refine Dp (fun _ => q_ncp ⟨rfl, rfl⟩) ?_
      refine DLw ?_
      refine Dp (fun _ => q_callp g2 ⟨rfl, rfl⟩ (ha := (cac rfl cm_int ca0))) ?_
      refine De2 (fun _ k_ => q_mks k_) ?_
      refine De2 (fun _ k_ => q_calln g3 k_ (ha := (caa (et rfl) sees_m (caa (et rfl) sees_m (cac rfl sees_nil8 (cac (et rfl) (sees_slc rfl rfl rfl) ca0)))))) ?_
      refine Dp (fun _ => q_sls_hi (k := 32) ⟨rfl, rfl⟩) ?_
      refine Dp (fun _ => q_s2p ⟨rfl, rfl⟩) ?_
      refine DLa (xs := u8s A) ?_ (hc := by rw [hAS]; exact cut_pre2)
      refine De2 (fun _ k_ => q_al k_) ?_
      refine De20 (fun _ k_ => q_stw k_) ?_
      refine dend ?_
      exact sle_view [0, 1, 4] (piB rfl) (by decide) ⟨rfl, rfl, trivial⟩ (vh3 (pick_c rfl rfl) (pick_m rfl) (pick_m rfl))
    · refine Dp (fun _ => q_mv (s := .v (.c _)) ⟨rfl, rfl⟩) ?_
      refine Dp (fun _ => q_ncp ⟨rfl, rfl⟩) ?_
      refine Dp (fun _ => q_fap0 ⟨rfl, rfl⟩) ?_
      refine DLp ?_
      refine Dp (fun _ => q_ncp ⟨rfl, rfl⟩) ?_
      refine DLw ?_
      refine Dp (fun _ => q_callp g2 ⟨rfl, rfl⟩ (ha := (cac rfl cm_int ca0))) ?_
      refine De2 (fun _ k_ => q_mks k_) ?_
      refine De2 (fun _ k_ => q_al k_) ?_
      refine De2 (fun _ k_ => q_calln g3 k_ (ha := (caa (et rfl) sees_m (caa (et rfl) sees_m (cac rfl sees_nil8 (cac (et rfl) (sees_slc rfl rfl rfl) ca0)))))) ?_
      refine Dp (fun _ => q_sls_hi (k := 32) ⟨rfl, rfl⟩) ?_
      refine Dp (fun _ => q_s2p ⟨rfl, rfl⟩) ?_
      refine DLa (xs := u8s A) ?_ (hc := by rw [hAS]; exact cut_pre2)
      refine De20 (fun _ k_ => q_stw k_) ?_
      refine dend ?_
      exact sle_view [0, 1, 3] (piB rfl) (by decide) ⟨rfl, rfl, trivial⟩ (vh3 (pick_c rfl rfl) (pick_m rfl) (pick_m rfl))
    refine Dp (fun _ => q_mv (s := .v (.c _)) ⟨rfl, rfl⟩) ?_
    refine Dp (fun _ => q_ncp ⟨rfl, rfl⟩) ?_
    refine Dp (fun _ => q_fap0 ⟨rfl, rfl⟩) ?_
    refine DLp ?_
    refine Dp (fun _ => q_ncp ⟨rfl, rfl⟩) ?_
    refine DLw ?_
    refine Dp (fun _ => q_callp g2 ⟨rfl, rfl⟩ (ha := (cac rfl cm_int ca0))) ?_
    refine De2 (fun _ k_ => q_al k_) ?_
    refine De2 (fun _ k_ => q_mks k_) ?_
    refine De2 (fun _ k_ => q_calln g3 k_ (ha := (caa (et rfl) sees_m (caa (et rfl) sees_m (cac rfl sees_nil8 (cac (et rfl) (sees_slc rfl rfl rfl) ca0)))))) ?_
    refine Dp (fun _ => q_sls_hi (k := 32) ⟨rfl, rfl⟩) ?_
    refine Dp (fun _ => q_s2p ⟨rfl, rfl⟩) ?_
    refine DLa (xs := u8s A) ?_ (hc := by rw [hAS]; exact cut_pre2)
    refine De20 (fun _ k_ => q_stw k_) ?_
    refine dend ?_
    exact sle_view [0, 1, 2] (piB rfl) (by decide) ⟨rfl, rfl, trivial⟩ (vh3 (pick_c rfl rfl) (pick_m rfl) (pick_m rfl))
  refine rln ?_
  refine Mv ?_
  refine G (q_ncp ?_)
  refine G (q_fap0 ?_)
  refine G20 (fun _ k_ => q_st k_) ?_
  refine gend ?_
  exact fx0 [0, 1, 2] (hH := pl1 rfl rfl (pl1 rfl sees_m (pl1 rfl sees_m pl0))) (hn := piB rfl)
/-- (*cipher.State).is -/
theorem is_ (c r : List Cell) : Good Try.prog 46 [.c (.rop (.rop c :: r))] [] (sc (.bool true)) [] := by
  refine good_frm 12 Try.func46 rfl rfl rfl rfl rfl rfl ?_
  refine awp_seq ?_
  refine rln ?_
  refine As ?_
  refine gend ?_
  refine awp_seq ?_
  refine rln ?_
  refine Mv ?_
  refine G (q_neqp ?_)
  refine Mv ?_
  refine Gg (q_mv (s := .v (.c _)) ?_)
  refine Gg (q_ncr ?_)
  refine Gg (q_far ?_)
  refine Gg (q_ldr ?_)
  refine Gg (q_neqp ?_)
  refine G (q_pkt ?_)
  refine As ?_
  refine gend ?_
  refine awp_ret ?_
  exact fp1
end Go.Proofs.Ytlnepajgnckolaa

/- What functions of the program do, walked over the abstract machine. -/
namespace Go.Proofs.Ytlnepajgnckolaa
open Go Go.Abs Go.Proofs Go.Proofs.Ytlnepajgnckolaa.Ch Go.Proofs.Ytlnepajgnckolaa.Po Go.Proofs.Ytlnepajgnckolaa.Ae Go.Proofs.Ytlnepajgnckolaa.Bl

set_option maxRecDepth 20000
theorem key1 {K : List UInt8} (h : (1 :: List.replicate 31 0 : List UInt8) = K) {m : CM} {d : Nat} : ((u8s (List.replicate 32 0)).set (0 * 1) (c8 1)).map (cm m d) = u8s K := by
  subst h; exact sees_m (l := 1 :: List.replicate 31 0)
set_option maxHeartbeats 1600000 in
/-- escutcheonlaw16.known -/
theorem known_ : Good Try.prog 9 [] [] (sc (.bool true)) [] := by
  obtain ⟨K, hK⟩ : ∃ z, (1 :: List.replicate 31 0 : List UInt8) = z := ⟨_, rfl⟩
  have hKl : K.length = 32 := by rw [← hK]; rfl
  have gn := new_ K hKl
  have xl := aseal_len K (anonce 0) [] [5]
  have xo := aopen_aseal K (anonce 0) [] [5]
  have gx := cseal_ok K [] [5] 0 0 1 hKl rfl (by decide) rfl (by decide) (by decide)
  have hnx := anonce_len 0
  have yl := aseal_len K (anonce (0 + 1)) [] [6]
  have yo := aopen_aseal K (anonce (0 + 1)) [] [6]
  have gy := cseal_ok K [] [6] (0 + 1) 0 1 hKl rfl (by decide) rfl (by decide) (by decide)
  have hny := anonce_len (0 + 1)
  generalize hSx : aseal K (anonce 0) [] [5] = Sx at *
  have ox := copen_ok K [] Sx 0 0 17 hKl rfl (by decide) xl (by decide) (by decide) [5] xo
  generalize hSy : aseal K (anonce (0 + 1)) [] [6] = Sy at *
  have oy := copen_ok K [] Sy (0 + 1) 0 17 hKl rfl (by decide) yl (by decide) (by decide) [6] yo
  refine good_frm 63 Try.func9 rfl rfl rfl rfl rfl rfl ?_
  refine awp_seq ?_
  refine rln ?_
  refine As ?_
  refine gend ?_
  refine awp_seq ?_
  refine rln ?_
  refine G (q_bla (fkc (c := c8 1) rfl rfl rfl (Nat.le_of_ble_eq_true rfl) (fk0 ?_)))
  refine G2 (fun _ k_ => q_callv [] [] [some (u8s K), some (cC (.ptr 0 0) 0)] gn k_ (ha := (caa (et rfl) (key1 hK) ca0)) (eM := (ml1 sees_m (ml1 rfl ml0)))) ?_
  refine G (q_bla (fkc (c := c8 1) rfl rfl rfl (Nat.le_of_ble_eq_true rfl) (fk0 ?_)))
  refine G2 (fun _ k_ => q_callv [] [] [some (u8s K), some (cC (.ptr 0 0) 0)] gn k_ (ha := (caa (et rfl) (key1 hK) ca0)) (eM := (ml1 sees_m (ml1 rfl ml0)))) ?_
  refine As ?_
  refine As ?_
  refine gend ?_
  refine awp_seq ?_
  refine rln ?_
  refine Mv ?_
  refine G2 (fun _ k_ => q_bsl (fkc (c := c8 5) rfl rfl rfl (Nat.le_of_ble_eq_true rfl) (fk0 k_))) ?_
  refine G2 (fun _ k_ => q_callv [1, 0] [some (cC (.ptr 1 0) (0 + 1)), some (u8s K)] [some (u8s Sx)] gx k_ (ha := (cac (et rfl) rfl (cac rfl sees_nil8 (cac (et rfl) (sees_slc rfl rfl rfl) ca0)))) (eL := (ml1 rfl (ml1 sees_m ml0))) (eM := (ml1 sees_m ml0))) ?_
  refine G (q_mv (s := .t _) ?_)
  refine G (q_ext (y := .c _) ?_)
  refine G (q_ext (y := .c _) ?_)
  refine As ?_
  refine As ?_
  refine gend ?_
  refine awp_seq ?_
  refine rln ?_
  refine Mv ?_
  refine G2 (fun _ k_ => q_bsl (fkc (c := c8 6) rfl rfl rfl (Nat.le_of_ble_eq_true rfl) (fk0 k_))) ?_
  refine G2 (fun _ k_ => q_callv [1, 0] [some (cC (.ptr 1 0) (0 + 1 + 1)), some (u8s K)] [some (u8s Sy)] gy k_ (ha := (cac (et rfl) rfl (cac rfl sees_nil8 (cac (et rfl) (sees_slc rfl rfl rfl) ca0)))) (eL := (ml1 rfl (ml1 sees_m ml0))) (eM := (ml1 sees_m ml0))) ?_
  refine G (q_mv (s := .t _) ?_)
  refine G (q_ext (y := .c _) ?_)
  refine G (q_ext (y := .c _) ?_)
  refine As ?_
  refine As ?_
  refine gend ?_
  refine awp_seq ?_
  refine rln ?_
  refine Mv ?_
  refine Mv ?_
  refine G2 (fun _ k_ => q_callv [3, 2] [some (cC (.ptr 1 0) (0 + 1)), some (u8s K)] [some (u8s [5])] ox k_ (ha := (cac (et rfl) rfl (cac rfl sees_nil8 (cac (et rfl) (sees_slc rfl rfl (cut_h xl)) ca0)))) (eL := (ml1 rfl (ml1 sees_m ml0))) (eM := (ml1 sees_m ml0))) ?_
  refine G (q_mv (s := .t _) ?_)
  refine G (q_ext (y := .c _) ?_)
  refine G (q_ext (y := .c _) ?_)
  refine As ?_
  refine As ?_
  refine gend ?_
  refine awp_seq ?_
  refine rln ?_
  refine Mv ?_
  refine Mv ?_
  refine G2 (fun _ k_ => q_callv [3, 2] [some (cC (.ptr 1 0) (0 + 1 + 1)), some (u8s K)] [some (u8s [6])] oy k_ (ha := (cac (et rfl) rfl (cac rfl sees_nil8 (cac (et rfl) (sees_slc rfl rfl (cut_h yl)) ca0)))) (eL := (ml1 rfl (ml1 sees_m ml0))) (eM := (ml1 sees_m ml0))) ?_
  refine G (q_mv (s := .t _) ?_)
  refine G (q_ext (y := .c _) ?_)
  refine G (q_ext (y := .c _) ?_)
  refine As ?_
  refine As ?_
  refine gend ?_
  refine awp_seq ?_
  refine rln ?_
  refine Mv ?_
  refine G (q_eqln (y := 0) ?_)
  refine Mv ?_
  refine Aknd 41 (fun hb3 => ?_) ?_; rotate_left
  · exact rfl
  refine Gg (q_mv (s := .v (.c _)) ?_)
  refine Gg (q_eqln (y := 0) ?_)
  refine G (q_pkt ?_)
  refine Mv ?_
  refine Aknd 45 (fun hb7 => ?_) ?_; rotate_left
  · exact rfl
  refine Gg (q_mv (s := .v (.c _)) ?_)
  refine Gg (q_eqln (y := 0) ?_)
  refine G (q_pkt ?_)
  refine Mv ?_
  refine Aknd 49 (fun hb11 => ?_) ?_; rotate_left
  · exact rfl
  refine Gg (q_mv (s := .v (.c _)) ?_)
  refine Gg (q_eqln (y := 0) ?_)
  refine G (q_pkt ?_)
  refine Mv ?_
  refine Aknd 53 (fun hb15 => ?_) ?_; rotate_left
  · exact rfl
  refine Gg (q_mv (s := .v (.c _)) ?_)
  refine Gg (q_csl ?_)
  refine Gg (q_eqls ?_)
  refine G (q_pkt ?_)
  refine Mv ?_
  refine Aknd 58 (fun hb20 => ?_) ?_; rotate_left
  · exact rfl
  refine Gg (q_mv (s := .v (.c _)) ?_)
  refine Gg (q_csl ?_)
  refine Gg (q_eqls ?_)
  refine G (q_pkt ?_)
  refine As ?_
  refine gend ?_
  refine awp_ret ?_
  exact fp1
end Go.Proofs.Ytlnepajgnckolaa

/- What functions of the program do, walked over the abstract machine. -/
namespace Go.Proofs.Ytlnepajgnckolaa
open Go Go.Abs Go.Proofs Go.Proofs.Ytlnepajgnckolaa.Ch Go.Proofs.Ytlnepajgnckolaa.Po Go.Proofs.Ytlnepajgnckolaa.Ae Go.Proofs.Ytlnepajgnckolaa.Bl

set_option maxRecDepth 20000
theorem sees_nk {H : Heap} {q d : Nat} {n : UInt64} {π : List Nat} (hq : idx q π = none) (hC : H[q]? = some (some (cC .nilp n))) : cm (cin π true H) (d + 2) (.ptr q 0) = .rop [.nilp, c64 n, .bool true] := by
  have he : (cC .nilp n).isEmpty = false := rfl
  simp only [cm, cin, hq, joinH, hC, if_true, he, Bool.false_eq_true, if_false, List.drop_zero, List.map_cons, List.map_nil]
/-- What a short name becomes. -/
def pad32 (s : ByteArray) : List UInt8 := s.data.toList ++ List.replicate (32 - s.size) 0
end Go.Proofs.Ytlnepajgnckolaa

/- What functions of the program do, walked over the abstract machine. -/
namespace Go.Proofs.Ytlnepajgnckolaa
open Go Go.Abs Go.Proofs Go.Proofs.Ytlnepajgnckolaa.Ch Go.Proofs.Ytlnepajgnckolaa.Po Go.Proofs.Ytlnepajgnckolaa.Ae Go.Proofs.Ytlnepajgnckolaa.Bl

set_option maxRecDepth 20000
/-- The reference cipher's cells. -/
abbrev rC (b : Bool) (key : List UInt8) (n : UInt64) : List Cell := .bool b :: (u8s key ++ [c64 n])
theorem rC_k {b : Bool} {key : List UInt8} {n : UInt64} (hk : key.length = 32) : ((rC b key n).drop 1).take 32 = u8s key := by
  show (u8s key ++ [c64 n]).take 32 = _
  rw [List.take_append_of_le_length (by rw [mapc_length, hk]; exact Nat.le_refl _), List.take_of_length_le (by rw [mapc_length, hk]; exact Nat.le_refl _)]
theorem rC_n {b : Bool} {key : List UInt8} {n : UInt64} (hk : key.length = 32) : (rC b key n)[33]? = some (c64 n) := by
  show (u8s key ++ [c64 n])[32]? = _
  rw [List.getElem?_append_right (by rw [mapc_length, hk]; exact Nat.le_refl _), mapc_length, hk]; rfl
theorem rC_set {b : Bool} {key : List UInt8} {n m : UInt64} (hk : key.length = 32) : (rC b key n).set 33 (c64 m) = rC b key m := by
  show Cell.bool b :: (u8s key ++ [c64 n]).set 32 (c64 m) = _
  rw [List.set_append_right _ _ (by rw [mapc_length, hk]; exact Nat.le_refl _), mapc_length, hk]; rfl
theorem rC_len {b : Bool} {key : List UInt8} {n : UInt64} (hk : key.length = 32) : (rC b key n).length = 34 := by
  show (u8s key ++ [c64 n]).length + 1 = 34
  rw [List.length_append, mapc_length, hk]; rfl
theorem rC_map {b : Bool} {key : List UInt8} {n : UInt64} {m : CM} {d : Nat} : (rC b key n).map (cm m (d + 1)) = rC b key n := by
  show Cell.bool b :: (u8s key ++ [c64 n]).map _ = _
  rw [List.map_append, mapc_cm]; rfl
end Go.Proofs.Ytlnepajgnckolaa

/- What functions of the program do, walked over the abstract machine. -/
namespace Go.Proofs.Ytlnepajgnckolaa
open Go Go.Abs Go.Proofs Go.Proofs.Ytlnepajgnckolaa.Ch Go.Proofs.Ytlnepajgnckolaa.Po Go.Proofs.Ytlnepajgnckolaa.Ae Go.Proofs.Ytlnepajgnckolaa.Bl

set_option maxRecDepth 20000
abbrev W32 : TI := ⟨34, 48, some ([.bool false] ++ u8s (List.replicate 32 0) ++ [c64 0]), .struct [(0, 4), (1, 23), (33, 30)], true⟩
theorem w32 : tiOf Try.prog 32 = some W32 := by kernel_rfl
instance : TiOf Try.prog 32 W32 := ⟨w32⟩
instance : ZT Try.prog 32 W32 ([.bool false] ++ u8s (List.replicate 32 0) ++ [c64 0]) := ⟨w32, rfl⟩
instance : StT Try.prog 32 W32 [(0, 4), (1, 23), (33, 30)] := ⟨w32, rfl⟩
instance : FdT Try.prog 32 0 W32 [(0, 4), (1, 23), (33, 30)] 0 4 T4 1 := ⟨w32, rfl, rfl, y4, rfl⟩
instance : FdT Try.prog 32 1 W32 [(0, 4), (1, 23), (33, 30)] 1 23 T23 32 := ⟨w32, rfl, rfl, y23, rfl⟩
instance : FdT Try.prog 32 2 W32 [(0, 4), (1, 23), (33, 30)] 33 30 T30 1 := ⟨w32, rfl, rfl, y30, rfl⟩
end Go.Proofs.Ytlnepajgnckolaa

/- What functions of the program do, walked over the abstract machine. -/
namespace Go.Proofs.Ytlnepajgnckolaa
open Go Go.Abs Go.Proofs Go.Proofs.Ytlnepajgnckolaa.Ch Go.Proofs.Ytlnepajgnckolaa.Po Go.Proofs.Ytlnepajgnckolaa.Ae Go.Proofs.Ytlnepajgnckolaa.Bl

set_option maxRecDepth 20000
/-- The reference cipher behind some cells. -/
theorem rP_b {P : List Cell} {p : Nat} (hP : P.length = p) {b : Bool} {key : List UInt8} {n : UInt64} : (P ++ rC b key n)[p]? = some (.bool b) := by
  rw [List.getElem?_append_right (by omega), hP, Nat.sub_self]; rfl
theorem rP_n {P : List Cell} {p : Nat} (hP : P.length = p) {b : Bool} {key : List UInt8} {n : UInt64} (hk : key.length = 32) : (P ++ rC b key n)[p + 33]? = some (c64 n) := by
  rw [List.getElem?_append_right (by omega), hP, Nat.add_sub_cancel_left]; exact rC_n hk
theorem rP_k {P : List Cell} {p : Nat} (hP : P.length = p) {b : Bool} {key : List UInt8} {n : UInt64} (hk : key.length = 32) : ((P ++ rC b key n).drop (p + 1)).take 32 = u8s key := by
  rw [← List.drop_drop, List.drop_append_of_le_length (by omega), List.drop_of_length_le (l := P) (by omega), List.nil_append]; exact rC_k hk
theorem rP_set {P : List Cell} {p : Nat} (hP : P.length = p) {b : Bool} {key : List UInt8} {n m : UInt64} (hk : key.length = 32) : (P ++ rC b key n).set (p + 33) (c64 m) = P ++ rC b key m := by
  rw [List.set_append_right _ _ (by omega), hP, Nat.add_sub_cancel_left, rC_set hk]
theorem rP_len {P : List Cell} {p : Nat} (hP : P.length = p) {b : Bool} {key : List UInt8} {n : UInt64} (hk : key.length = 32) : (P ++ rC b key n).length = p + 34 := by
  rw [List.length_append, hP, rC_len hk]
set_option maxHeartbeats 1600000 in
/-- (*escutcheonref16.Cipher).Seal -/
theorem rsealP_ok (P : List Cell) (p : Nat) (hP : P.length = p) (hPm : ∀ (m : CM) (d : Nat), P.map (cm m (d + 1)) = P) (key ad l : List UInt8) (n : UInt64) (a k : Nat) (hkey : key.length = 32) (had : ad.length = a) (ha9 : a ≤ 10000) (hl : l.length = k) (hk9 : k ≤ 10000) (h : n ≠ 18446744073709551615) : Good Try.prog 13 [.c (.ptr 0 p), .c (.ro a (u8s ad)), .c (.ro k (u8s l))] [some (P ++ rC true key n)] (.t [.c (.slc 1 0 (k + 16) 1), .c (cn 0)]) [some (P ++ rC true key (n + 1)), some (u8s (aseal key (anonce n) ad l))] := by
  have hNl := anonce_len n
  have g2 := rnonce_ n
  obtain ⟨N, hN⟩ : ∃ z, anonce n = z := ⟨_, rfl⟩
  rw [hN] at hNl g2
  rw [hN]
  have g3 := rseal_ key N ad l a k hkey hNl had ha9 hl hk9
  have hn1 : n + 1 - 1 = n := UInt64.add_sub_cancel ..
  have g2' : Good Try.prog 42 [.c (c64 (n + 1 - 1))] [] (sa (u8s N)) [] := by rw [hn1]; exact g2
  have hL1 := rP_len (b := true) (n := n) hP hkey
  have hL2 := rP_len (b := true) (n := n + 1) hP hkey
  refine good_frm 41 Try.func13 rfl rfl rfl rfl rfl rfl ?_
  refine awp_seq ?_
  refine rln ?_
  refine As ?_
  refine G (q_as (s := sc (cn 0)) ?_)
  refine gend ?_
  refine awp_seq ?_
  refine awp_seq ?_
  refine rln ?_
  refine Mv ?_
  refine G (q_ncp ?_)
  refine G (q_fap ?_)
  refine G  (q_ldp ?_ (hc := rP_b hP))
  refine G (q_notb ?_)
  refine gend ?_
  refine cndbnN (fun hc1 => ?_) ?_; rotate_left
  · exact rfl
  refine awp_skip ?_
  refine awp_seq ?_
  refine awp_seq ?_
  refine rln ?_
  refine Mv ?_
  refine G (q_ncp ?_)
  refine G (q_fap ?_)
  refine G (q_ldp ?_ (hc := rP_n hP hkey))
  refine G (q_eql64 (y := 18446744073709551615) ?_)
  refine gend ?_
  refine cndN (fun hc2 => ?_) ?_; rotate_left
  · exact h
  refine awp_skip ?_
  refine awp_seq ?_
  refine rln ?_
  refine Mv ?_
  refine Mv ?_
  refine G (q_ncp ?_)
  refine G (q_fap ?_)
  refine G (q_ldp ?_ (hc := rP_n hP hkey))
  refine G (q_add64 (y := 1) ?_)
  refine G (q_ncp ?_)
  refine G (q_fap ?_)
  refine G20 (fun _ k_ => q_st k_) ?_ (hH := by simp only [List.set_cons_zero]; exact congrArg (fun z => [some z]) (rP_set hP hkey))
  refine gend ?_
  refine awp_seq ?_
  refine rdln [12] [0, 0, 0, 0, 0, 0, 0, 0, 0, 0, 0, 0, 0, 1, 1] [0, 0, 0, 0, 0, 0, 0, 0, 0, 0, 0, 0, 1, 1, 1] ?_
  refine Dp (fun _ => q_mv (s := .v (.c _)) ⟨rfl, rfl⟩) ?_
  refine Dp (fun _ => q_ncp ⟨rfl, rfl⟩) ?_
  refine Dp (fun _ => q_fap ⟨rfl, rfl⟩) ?_
  refine DLa (xs := u8s key) ?_ (hc := rP_k hP hkey)
  refine Dp (fun _ => q_mv (s := .v (.c _)) ⟨rfl, rfl⟩) ?_
  refine Dp (fun _ => q_ncp ⟨rfl, rfl⟩) ?_
  refine Dp (fun _ => q_fap ⟨rfl, rfl⟩) ?_
  refine DLp ?_ (hc := rP_n hP hkey)
  refine Dp (fun _ => q_sub64 (y := 1) ⟨rfl, rfl⟩) ?_
  refine Dp (fun _ => q_callp g2' ⟨rfl, rfl⟩ (ha := (cac (et rfl) cm_int ca0))) ?_
  refine Dp (fun _ => q_mv (s := .v (.c _)) ⟨rfl, rfl⟩) ?_
  refine Dp (fun _ => q_mv (s := .v (.c _)) ⟨rfl, rfl⟩) ?_
  refine De2 (fun _ k_ => q_calln g3 k_ (ha := (caa (et rfl) sees_m (caa (et rfl) sees_m (cac (et rfl) sees_ro (cac (et rfl) sees_ro ca0)))))) ?_
  refine Dp (fun _ => q_as (s := .v (.c _)) ⟨rfl, rfl⟩) ?_
  refine Dp (fun _ => q_as (s := sc (cn 0)) ⟨rfl, rfl⟩) ?_
  refine dend ?_
  refine awp_ret ?_
  exact fx2 [0, 1] (hm0 := rfl) (hH := pl1 rfl (by rw [List.map_append, hPm, rC_map]) (pl1 rfl sees_m pl0)) (hn := piB rfl)
set_option maxHeartbeats 1600000 in
/-- (*escutcheonref16.Cipher).Seal -/
theorem rsealP_0 (P : List Cell) (p : Nat) (hP : P.length = p) (hPm : ∀ (m : CM) (d : Nat), P.map (cm m (d + 1)) = P) (key ad l : List UInt8) (n : UInt64) (a k : Nat) (hkey : key.length = 32) (hl : l.length = k) (hk9 : k ≤ 10000) : Good Try.prog 13 [.c (.ptr 0 p), .c (.ro a (u8s ad)), .c (.ro k (u8s l))] [some (P ++ rC false key n)] (.t [.c (.slc 1 0 k 1), .c (cn 0)]) [some (P ++ rC false key n), some (u8s l)] := by
  refine good_frm 41 Try.func13 rfl rfl rfl rfl rfl rfl ?_
  refine awp_seq ?_
  refine rln ?_
  refine As ?_
  refine G (q_as (s := sc (cn 0)) ?_)
  refine gend ?_
  refine awp_seq ?_
  refine awp_seq ?_
  refine rln ?_
  refine Mv ?_
  refine G (q_ncp ?_)
  refine G (q_fap ?_)
  refine G  (q_ldp ?_ (hc := rP_b hP))
  refine G (q_notb ?_)
  refine gend ?_
  refine cndbnY (fun hc1 => ?_) ?_; rotate_left
  · exact rfl
  refine awp_seq ?_
  refine rln ?_
  refine Mv ?_
  refine G2 (fun _ k_ => q_app k_ (eA := el_nil) (eB := el_ro (by rw [mapc_length, hl, Nat.mul_one]))) ?_
  refine As ?_
  refine G (q_as (s := sc (cn 0)) ?_)
  refine gend ?_
  refine awp_ret ?_
  exact fx2 [0, 1] (hm0 := by rw [Nat.zero_add]) (hH := pl1 rfl (by rw [List.map_append, hPm, rC_map]) (pl1 rfl sees_m pl0)) (hn := piB rfl)
end Go.Proofs.Ytlnepajgnckolaa

/- What functions of the program do, walked over the abstract machine. -/
namespace Go.Proofs.Ytlnepajgnckolaa
open Go Go.Abs Go.Proofs Go.Proofs.Ytlnepajgnckolaa.Ch Go.Proofs.Ytlnepajgnckolaa.Po Go.Proofs.Ytlnepajgnckolaa.Ae Go.Proofs.Ytlnepajgnckolaa.Bl

set_option maxRecDepth 20000
end Go.Proofs.Ytlnepajgnckolaa

/- The abstract machine: a block is told under another number, and no longer under its old one. -/
namespace Go.Abs
open Go

/-- What a slot holds is told as before, or as a slice or a pointer into the new number. -/
def SubM (p q : Nat) (al : List (Nat × S)) : List (Nat × S) → Prop
  | [] => True
  | (t, s) :: r => (lkp al t = s ∨ (∃ o n sz, lkp al t = sc (.slc p o n sz) ∧ s = sc (.slc q o n sz)) ∨ (∃ o, lkp al t = sc (.ptr p o) ∧ s = sc (.ptr q o))) ∧ SubM p q al r

end Go.Abs

/- The abstract machine: what a function does is told of more memory, and its outcome in other words; memory under other numbers. -/
namespace Go.Abs
open Go

/-! What a function does, told of more memory: as a call does it. -/
theorem argVs_tmps : ∀ (pre args : List V) (post : List S), argVs ((pre ++ args).map S.v ++ post) ((List.range' pre.length args.length).map Operand.tmp) = some args
  | pre, [], post => rfl
  | pre, a :: r, post => by
    have h := argVs_tmps (pre ++ [a]) r post
    rw [List.append_assoc] at h
    simp only [List.length_cons, List.range'_succ, List.map_cons, argVs]
    have e : ev ((pre ++ a :: r).map S.v ++ post) (.tmp pre.length) = .v a := by
      simp [ev]
    rw [e]
    have h' : argVs ((pre ++ a :: r).map S.v ++ post) ((List.range' (pre.length + 1) r.length).map Operand.tmp) = some r := by
      simpa using h
    rw [h']

theorem vsrel_at {R : Rl} : ∀ {xs : List V} {vs : List Value}, VsRel R xs vs → ∀ (i : Nat) x, xs[i]? = some x → ∃ v, vs[i]? = some v ∧ VRel R x v
  | [], vs, _, i, x, h => by simp at h
  | y :: xs, vs, k, i, x, h => by
    simp only [VsRel] at k
    obtain ⟨v, vs', rfl, h1, h2⟩ := k
    cases i with
    | zero => simp at h; subst h; exact ⟨v, rfl, h1⟩
    | succ i => simpa using vsrel_at h2 i x (by simpa using h)

theorem Good.call {P : Program} {k : FuncId} {args : List V} {H Hl' : Heap} {v : S} (π : List Nat) (lend : Bool) (hnd : π.Nodup) (hπ : ∀ p ∈ π, p < H.length)
    (hg : Good P k (args.map (vm (cm (cin π lend H) 8))) (π.map (pick H (cm (cin π lend H) 8))) v Hl') :
    Good P k args H (sm (cm (cout π lend H.length) 8) v) (back π (cm (cout π lend H.length) 8) H Hl') := by
  obtain ⟨fn, hfn, hbody, hname⟩ := hg.2.1
  let fr : List S := args.map S.v ++ [ud]
  let xs : List Operand := (List.range' 0 args.length).map Operand.tmp
  have hargs : argVs fr xs = some args := by
    have := argVs_tmps [] args [ud]
    simpa [fr, xs] using this
  let o : Oper := { dst := some args.length, op := .call ⟨.value (.func k), xs.toArray, #[]⟩, type := 0, pos := "", after := #[], guard := none }
  have hg' : Good P k ((args ++ ([] : List Cell).map V.c).map (vm (cm (cin π lend H) 8))) (π.map (pick H (cm (cin π lend H) 8))) v Hl' := by simpa using hg
  have hop := opg_call (P := P) (o := o) (fr := fr) (H := H) (f := .func k) (args := xs.toArray) (ats := #[]) π lend rfl (by rfl : ev fr (.func k) = sc (.fn k [])) hargs hfn hbody hname hnd hπ hg'
  refine ⟨hop.1, ⟨fn, hfn, hbody, hname⟩, ?_⟩
  intro E ρ w rargs hE hw himg hH hrel
  subst hw
  have hlen := vsrel_length hrel
  let a : Act := ⟨(rargs ++ [undef]).toArray, []⟩
  have hs : Sim E ρ ⟨fr, H⟩ a E.w0 := by
    refine ⟨⟨rfl, by simp [a, fr, hlen], fun i s hi => ?_⟩, hH⟩
    by_cases hlt : i < args.length
    · simp only [fr] at hi
      rw [List.getElem?_append_left (by simpa using hlt)] at hi
      simp only [List.getElem?_map, Option.map_eq_some_iff] at hi
      obtain ⟨x, h1, rfl⟩ := hi
      obtain ⟨v, h2, h3⟩ := vsrel_at hrel i x h1
      refine ⟨v, ?_, h3⟩
      have hlt' : i < rargs.length := by omega
      simp only [a, List.getElem?_toArray]
      rw [List.getElem?_append_left hlt']
      exact h2
    · have h1 := (List.getElem?_eq_some_iff.1 hi).1
      simp [fr] at h1
      have hi' : i = args.length := by omega
      subst hi'
      simp [fr] at hi
      subst hi
      exact ⟨undef, by simp [a, hlen.symm], by simp [ud, SRel, VRel, CRel]⟩
  have hrun : (execOp a.eval o).run P E.w0 = .ok (.enter k rargs.toArray) E.w0 := by
    have hb : fn.body.isNone = false := by cases hfb : fn.body with
      | none => rw [hfb] at hbody; cases hbody
      | some c => rfl
    have hev : xs.toArray.map a.eval = rargs.toArray := by
      apply Array.ext'
      simp only [xs, List.map_toArray, List.map_map]
      apply List.ext_getElem?
      intro i
      simp only [List.getElem?_map, List.getElem?_range']
      by_cases hi : i < args.length
      · have hi' : i < rargs.length := by omega
        simp [hi, a, Act.eval, Array.getD_eq_getD_getElem?, hi', List.getElem?_append_left]
      · rw [List.getElem?_eq_none (l := rargs) (by omega)]
        simp [hi]
    simp only [execOp, o, resolve, Act.eval, Deferred.ofValue, invoke, callFunc, Sem.run_bind, Sem.run_pure, Result.andThen_ok, run_program, hfn, hname, hb, Bool.false_eq_true, if_false, Array.empty_append, Array.append_empty]
    exact congrArg (fun z => Result.ok (Next.enter k z) E.w0) hev
  have key := hop.2 E ρ a E.w0 hE hs (fun a' w' => ∃ ρ', (∀ p, p < H.length → ρ' p = ρ p) ∧ HRel E ρ' w' (back π (cm (cout π lend H.length) 8) H Hl') ∧ SRel (E.rl (back π (cm (cout π lend H.length) 8) H Hl').length ρ') (sm (cm (cout π lend H.length) 8) v) (a'.tmps.getD args.length undef)) (fun _ _ _ => False) ?_
  · unfold Oper.wp at key
    rw [hrun, Oper.upon_enter] at key
    refine key.mono ?_
    intro e w' h
    cases e with
    | returned rv =>
      obtain ⟨ρ', h1, h2, h3⟩ := h
      refine ⟨rv, ρ', rfl, h1, h2, ?_⟩
      have : (a.put o.dst rv).tmps.getD args.length undef = rv := by
        simp [Act.put, o, a, Array.getD_eq_getD_getElem?, hlen.symm]
      rw [this] at h3
      exact h3
    | panicked chain => exact h.elim
    | outgrown => exact absurd h (by simp [LetsOut])
  · intro rv w' ρ' h1 h2 h3
    refine ⟨ρ', h1, h2, ?_⟩
    have : (a.put o.dst rv).tmps.getD args.length undef = rv := by
      simp [Act.put, o, a, Array.getD_eq_getD_getElem?, hlen.symm]
    rw [this]
    exact h3

/-! The outcome told in other words. -/
theorem Good.out {P : Program} {k : FuncId} {args : List V} {H H' H2 : Heap} {v v2 : S} (hg : Good P k args H v H') (hl : H.length ≤ H2.length) (hle : SLe H.length ⟨[v], H'⟩ ⟨[v2], H2⟩) : Good P k args H v2 H2 := by
  refine ⟨hl, hg.2.1, fun E ρ w rargs hE hw himg hH hrel => ?_⟩
  refine (hg.2.2 E ρ w rargs hE hw himg hH hrel).mono ?_
  rintro e w' ⟨rv, ρ', rfl, h1, h2, h3⟩
  obtain ⟨ρ2, k1, k2⟩ := hle E ρ' ⟨#[rv], []⟩ w' ⟨⟨rfl, rfl, fun i s hi => by
    cases i with
    | zero => simp at hi; subst hi; exact ⟨rv, rfl, h3⟩
    | succ i => simp at hi⟩, h2⟩
  refine ⟨rv, ρ2, rfl, fun p hp => (k1 p hp).trans (h1 p hp), k2.heap, ?_⟩
  obtain ⟨v', g1, g2⟩ := k2.fr.2.2 0 v2 rfl
  simp at g1
  subst g1
  exact g2

/-- A nil slice as an empty one of this block. -/
def e2 (q sz : Nat) : Cell → Cell
  | .nils => .slc q 0 0 sz
  | c => c
theorem e2_sound {R R' : Rl} {q sz : Nat} (h : R.Le R') (hq : q < R'.n) (c : Cell) (v : Value) (k : CRel R c v) : CRel R' (e2 q sz c) v := by
  by_cases hc : c = .nils
  · subst hc
    simp only [CRel] at k
    subst k
    simp only [e2, CRel]
    exact ⟨hq, none, 0, rfl, Nat.le_refl _, .inr rfl⟩
  · have : e2 q sz c = c := by unfold e2; split <;> first | exact absurd rfl hc | rfl
    rw [this]; exact CRel.mono h c v k
/-- The same with an empty block behind all others. -/
theorem emp_sim {E : Env} {ρ : Nat → Place} {w : World} {H : Heap} (hh : HRel E ρ w H) : ∃ ρ', (∀ p, p < H.length → ρ' p = ρ p) ∧ HRel E ρ' w (H ++ [some []]) := by
  let ρ' : Nat → Place := fun p => if p = H.length then ⟨0, 0, 0⟩ else ρ p
  have hρ : ∀ p, p < H.length → ρ' p = ρ p := fun p hp => if_neg (by omega)
  have hle : (E.rl H.length ρ).Le (E.rl (H ++ [some []]).length ρ') := ⟨fun b hb => ⟨hb, rfl⟩, fun p hp => ⟨by
    show p < (H ++ [some []]).length
    have hp' : p < H.length := hp
    simp; omega, hρ p hp⟩⟩
  have hget : ∀ p cs, (H ++ [some ([] : List Cell)])[p]? = some (some cs) → (ρ' p).room ≠ 0 → p < H.length ∧ H[p]? = some (some cs) := by
    intro p cs hp hr
    by_cases hlt : p < H.length
    · rw [List.getElem?_append_left hlt] at hp; exact ⟨hlt, hp⟩
    · have := (List.getElem?_eq_some_iff.1 hp).1
      simp at this
      have : p = H.length := by omega
      subst this
      simp [ρ'] at hr
  refine ⟨ρ', hρ, hh.os, hh.tape, hh.output, hh.size, hh.frame, fun p cs hp hr => ?_, fun p q cs ds hp hq hrp hrq he => ?_, fun p cs hp hr => ?_, fun p cs hp hr => ?_⟩
  · obtain ⟨h1, h2⟩ := hget p cs hp hr
    rw [hρ p h1] at hr ⊢
    exact hh.fresh p cs h2 hr
  · obtain ⟨h1, h2⟩ := hget p cs hp hrp
    obtain ⟨h3, h4⟩ := hget q ds hq hrq
    rw [hρ p h1] at hrp he
    rw [hρ q h3] at hrq he
    exact hh.inj p q cs ds h2 h4 hrp hrq he
  · obtain ⟨h1, h2⟩ := hget p cs hp hr
    rw [hρ p h1] at hr ⊢
    exact (hh.blk p cs h2 hr).mono hle rfl
  · by_cases hlt : p < H.length
    · rw [List.getElem?_append_left hlt] at hp
      rw [hρ p hlt] at hr
      exact hh.emp p cs hp hr
    · have := (List.getElem?_eq_some_iff.1 hp).1
      simp at this
      have : p = H.length := by omega
      subst this
      simpa using hp
theorem sle_emp2 {n : Nat} {v : S} {H : Heap} (sz : Nat) (hn : n ≤ H.length) : SLe n ⟨[v], H⟩ ⟨[sm (e2 H.length sz) v], H ++ [some []]⟩ := by
  intro E ρ a w hs
  obtain ⟨ρ', h1, h2⟩ := emp_sim hs.heap
  have hle : (E.rl H.length ρ).Le (E.rl (H ++ [some []]).length ρ') := ⟨fun b hb => ⟨hb, rfl⟩, fun p hp => ⟨by
    show p < (H ++ [some []]).length
    have hp' : p < H.length := hp
    simp; omega, h1 p hp⟩⟩
  refine ⟨ρ', fun p hp => h1 p (Nat.lt_of_lt_of_le hp hn), ⟨hs.fr.1, hs.fr.2.1, fun i s hi => ?_⟩, h2⟩
  cases i with
  | zero =>
    simp at hi
    subst hi
    obtain ⟨u, k1, k2⟩ := hs.fr.2.2 0 v rfl
    exact ⟨u, k1, sm_sound (fun c v k => e2_sound hle (by show H.length < (H ++ [some []]).length; simp) c v k) k2⟩
  | succ i => simp at hi
/-- What was nil is an empty slice of a new, empty block. -/
theorem Good.emp {P : Program} {k : FuncId} {args : List V} {H H' : Heap} {v v2 : S} (hg : Good P k args H v H') (sz : Nat) (hv : sm (e2 H'.length sz) v = v2 := by rfl) : Good P k args H v2 (H' ++ [some []]) := by
  subst hv
  exact hg.out (H2 := H' ++ [some []]) (Nat.le_trans hg.1 (by simp)) (sle_emp2 sz hg.1)

/-! Memory under other numbers: for each new block the old one, and whether it is told of. -/
def nfi (p : Nat) (b : Bool) : List (Nat × Bool) → Option Nat
  | [] => none
  | (q, c) :: r => if Nat.beq q p && (!b || c) then some 0 else (nfi p b r).map (· + 1)
theorem nfi_get {p : Nat} {b : Bool} : ∀ {l : List (Nat × Bool)} {j : Nat}, nfi p b l = some j → (l[j]?).map (·.1) = some p
  | [], j, h => by simp [nfi] at h
  | (q, c) :: r, j, h => by
    simp only [nfi] at h
    split at h
    · rename_i hq
      simp at h
      subst h
      simp at hq
      simp [hq.1]
    · rw [Option.map_eq_some_iff] at h
      obtain ⟨i, h1, rfl⟩ := h
      simpa using nfi_get h1
def nph (τ : List (Nat × Bool)) (p : Nat) : Option Nat := match nfi p true τ with
  | some j => some j
  | none => nfi p false τ
theorem nph_get {τ : List (Nat × Bool)} {p j : Nat} (h : nph τ p = some j) : (τ[j]?).map (·.1) = some p := by
  unfold nph at h
  split at h
  · rename_i h1; simp at h; subst h; exact nfi_get h1
  · exact nfi_get h
abbrev nm (τ : List (Nat × Bool)) : Cell → Cell := cm ⟨nph τ, fun _ => none, true, false⟩ 8
def renB (τ : List (Nat × Bool)) (H : Heap) : Heap := τ.map fun x => if x.2 then pick H (nm τ) x.1 else none
def uniqT : List (Nat × Bool) → Bool
  | [] => true
  | (p, b) :: r => (!b || r.all fun x => !(x.2 && Nat.beq x.1 p)) && uniqT r
theorem uniqT_ok : ∀ {τ : List (Nat × Bool)}, uniqT τ = true → ∀ {i j p : Nat}, τ[i]? = some (p, true) → τ[j]? = some (p, true) → i = j
  | [], _, i, j, p, h1, _ => by simp at h1
  | (q, b) :: r, h, i, j, p, h1, h2 => by
    simp only [uniqT, Bool.and_eq_true] at h
    have no : ∀ k : Nat, b = true → q = p → r[k]? = some (p, true) → False := by
      intro k hb hq hk
      have h3 := h.1
      rw [hb] at h3
      simp only [Bool.not_true, Bool.false_or] at h3
      have := List.all_eq_true.1 h3 _ (List.mem_of_getElem? hk)
      simp [hq] at this
    cases i with
    | zero =>
      simp at h1
      cases j with
      | zero => rfl
      | succ j => simp at h2; exact (no j h1.2 h1.1 h2).elim
    | succ i =>
      simp at h1
      cases j with
      | zero => simp at h2; exact (no i h2.2 h2.1 h1).elim
      | succ j => simp at h2; rw [uniqT_ok h.2 h1 h2]
theorem ren_sim {τ : List (Nat × Bool)} {E : Env} {ρ : Nat → Place} {w : World} {H : Heap} (hu : uniqT τ = true) (hh : HRel E ρ w H) :
    HRel E (fun j => ρ ((τ.getD j (0, false)).1)) w (renB τ H) ∧ ∀ c v, CRel (E.rl H.length ρ) c v → CRel (E.rl (renB τ H).length fun j => ρ ((τ.getD j (0, false)).1)) (nm τ c) v := by
  have key : ∀ c v, CRel (E.rl H.length ρ) c v → CRel (E.rl (renB τ H).length fun j => ρ ((τ.getD j (0, false)).1)) (nm τ c) v := by
    refine cm_sound (R := E.rl H.length ρ) (R' := E.rl (renB τ H).length fun j => ρ ((τ.getD j (0, false)).1)) (m := ⟨nph τ, fun _ => none, true, false⟩) ⟨fun p q hq hp => ?_, fun p cs hcs => by simp at hcs, fun _ b hb => ⟨hb, rfl⟩⟩ 8
    have := nph_get hq
    rw [Option.map_eq_some_iff] at this
    obtain ⟨x, h1, h2⟩ := this
    have hlt := (List.getElem?_eq_some_iff.1 h1).1
    refine ⟨by show q < (renB τ H).length; simpa [renB] using hlt, ?_⟩
    show ρ ((τ.getD q (0, false)).1) = ρ p
    rw [List.getD_eq_getElem?_getD, h1]; exact congrArg ρ h2
  have hget : ∀ (j : Nat) cs, (renB τ H)[j]? = some (some cs) → ∃ p c0, τ[j]? = some (p, true) ∧ H[p]? = some (some c0) ∧ cs = c0.map (nm τ) ∧ (τ.getD j (0, false)).1 = p := by
    intro j cs hj
    simp only [renB, List.getElem?_map, Option.map_eq_some_iff] at hj
    obtain ⟨⟨p, b⟩, h1, h2⟩ := hj
    cases b with
    | false => simp at h2
    | true =>
      simp only [if_true] at h2
      obtain ⟨c0, h3, h4⟩ := pick_get h2
      exact ⟨p, c0, h1, h3, h4, by rw [List.getD_eq_getElem?_getD, h1]; rfl⟩
  refine ⟨⟨hh.os, hh.tape, hh.output, hh.size, hh.frame, fun p cs hp hr => ?_, fun p q cs ds hp hq hr1 hr2 he => ?_, fun p cs hp hr => ?_, fun p cs hp hr => ?_⟩, key⟩
  · obtain ⟨q, c0, h1, h2, h3, h4⟩ := hget p cs hp
    simp only [h4] at hr ⊢
    exact hh.fresh q c0 h2 hr
  · obtain ⟨p', c0, h1, h2, h3, h4⟩ := hget p cs hp
    obtain ⟨q', d0, k1, k2, k3, k4⟩ := hget q ds hq
    simp only [h4] at hr1 he
    simp only [k4] at hr2 he
    have := hh.inj p' q' c0 d0 h2 k2 hr1 hr2 he
    subst this
    exact uniqT_ok hu h1 k1
  · obtain ⟨q, c0, h1, h2, h3, h4⟩ := hget p cs hp
    simp only [h4] at hr ⊢
    obtain ⟨arr, el, fr, b1, b2, b3, b4, b5⟩ := hh.blk q c0 h2 hr
    refine ⟨arr, el, fr, b1, b2, b3, by rw [h3]; simpa using b4, fun i c hi => ?_⟩
    rw [h3, List.getElem?_map, Option.map_eq_some_iff] at hi
    obtain ⟨c1, h5, rfl⟩ := hi
    obtain ⟨v, h6, ho, h7⟩ := b5 i c1 h5
    exact ⟨v, h6, ho, key _ _ h7⟩
  · obtain ⟨q, c0, h1, h2, h3, h4⟩ := hget p cs hp
    simp only [h4] at hr
    rw [h3, hh.emp q c0 h2 hr]; rfl
theorem sle_renS {n : Nat} {fr : List S} {H : Heap} (τ : List (Nat × Bool)) (hu : uniqT τ = true) (hn : ∀ p, p < n → (τ[p]?).map (·.1) = some p) : SLe n ⟨fr, H⟩ ⟨fr.map (sm (nm τ)), renB τ H⟩ := by
  intro E ρ a w hs
  obtain ⟨h1, h2⟩ := ren_sim (τ := τ) hu hs.heap
  refine ⟨_, fun p hp => ?_, ⟨hs.fr.1, by simpa using hs.fr.2.1, fun i s hi => ?_⟩, h1⟩
  · have := hn p hp
    rw [Option.map_eq_some_iff] at this
    obtain ⟨x, k1, k2⟩ := this
    show ρ ((τ.getD p (0, false)).1) = ρ p
    rw [List.getD_eq_getElem?_getD, k1]; exact congrArg ρ k2
  · rw [List.getElem?_map, Option.map_eq_some_iff] at hi
    obtain ⟨s0, k1, rfl⟩ := hi
    obtain ⟨v, k2, k3⟩ := hs.fr.2.2 i s0 k1
    exact ⟨v, k2, sm_sound h2 k3⟩
theorem piT {τ : List (Nat × Bool)} {n : Nat} (h : ((List.range n).all fun p => (τ[p]?).map (·.1) == some p) = true) : ∀ p, p < n → (τ[p]?).map (·.1) = some p := fun p hp => by
  have := List.all_eq_true.1 h p (List.mem_range.2 hp)
  simpa using this
theorem Good.ren {P : Program} {k : FuncId} {args : List V} {H H' H2 : Heap} {v v2 : S} (hg : Good P k args H v H') (τ : List (Nat × Bool)) (hu : uniqT τ = true) (hn : ∀ p, p < H.length → (τ[p]?).map (·.1) = some p)
    (hv : sm (nm τ) v = v2) (hH : renB τ H' = H2) : Good P k args H v2 H2 := by
  subst hv hH
  refine hg.out ?_ (sle_renS τ hu hn)
  rcases Nat.eq_zero_or_pos H.length with h | h
  · omega
  · have := hn (H.length - 1) (by omega)
    rw [Option.map_eq_some_iff] at this
    obtain ⟨x, h1, _⟩ := this
    have := (List.getElem?_eq_some_iff.1 h1).1
    simp only [renB, List.length_map]
    omega
theorem frm_map (f : Cell → Cell) {N : Nat} {al : List (Nat × S)} {t : Nat} : lkp (al.map fun x => (x.1, sm f x.2)) t = sm f (lkp al t) ∨ (lkp al t = ud ∧ lkp (al.map fun x => (x.1, sm f x.2)) t = ud) := by
  induction al with
  | nil => exact .inr ⟨rfl, rfl⟩
  | cons x r ih =>
    obtain ⟨i, s⟩ := x
    simp only [List.map_cons, lkp]
    cases Nat.beq i t with
    | true => exact .inl rfl
    | false => exact ih
/-- As a frame says it. -/
theorem sle_ren {n N : Nat} {al al' : List (Nat × S)} {H H' : Heap} (τ : List (Nat × Bool)) (hu : uniqT τ = true) (hn : ∀ p, p < n → (τ[p]?).map (·.1) = some p)
    (hf : SubL (al.map fun x => (x.1, sm (nm τ) x.2)) al') (hH : H' = renB τ H) : SLe n ⟨frm N al, H⟩ ⟨frm N al', H'⟩ := by
  intro E ρ a w hs
  obtain ⟨ρ', h1, h2⟩ := sle_renS (n := n) (fr := frm N al) (H := H) τ hu hn E ρ a w hs
  subst hH
  refine ⟨ρ', h1, ⟨h2.fr.1, by rw [frm_length]; have := hs.fr.2.1; rwa [frm_length] at this, fun t s ht => ?_⟩, h2.heap⟩
  have hlt : t < N := by
    have := (List.getElem?_eq_some_iff.1 ht).1
    rwa [frm_length] at this
  rw [frm_get hlt] at ht
  obtain rfl := Option.some.inj ht
  obtain ⟨v, k1, k2⟩ := h2.fr.2.2 t _ (by rw [List.getElem?_map, frm_get hlt]; rfl)
  refine ⟨v, k1, ?_⟩
  rcases sub_get hf t with h | h
  · rw [h]; simp [ud, SRel, VRel, CRel]
  · rw [h]
    rcases frm_map (N := N) (nm τ) (al := al) (t := t) with g | ⟨_, g⟩
    · rw [g]; exact k2
    · rw [g]; simp [ud, SRel, VRel, CRel]
end Go.Abs

/- The abstract machine: words for memory where a block may be told of or not. -/
namespace Go.Abs
open Go

/-- What a function does, told of more memory: block by block. -/
theorem Good.callv {P : Program} {k : FuncId} {args args' : List V} {H Hl H2 L L' M M' : Heap} {v s : S} (π : List Nat) (hg : Good P k args' Hl v (L ++ M)) (ha : args.map (vm (cm (cin π true H) 8)) = args')
    (e2 : π.map (pick H (cm (cin π true H) 8)) = Hl) (hl : L.length = π.length) (eL : L.map (Option.map (List.map (cm (cout π true H.length) 8))) = L') (eM : M.map (Option.map (List.map (cm (cout π true H.length) 8))) = M')
    (e3 : sm (cm (cout π true H.length) 8) v = s) (hH : setB π L' H ++ M' = H2) (hnd : π.Nodup := by decide) (hπ : (π.all fun p => Nat.blt p H.length) = true := by exact rfl) : Good P k args H s H2 := by
  subst ha e2
  have h := Good.call π true hnd (allB hπ) hg
  rwa [back_split hnd hl, eL, eM, e3, hH] at h
theorem am1 {f : Cell → Cell} {x x' : V} (h : vm f x = x') : [x].map (vm f) = [x'] := by simp [h]
theorem am2 {f : Cell → Cell} {x x' y y' : V} (h : vm f x = x') (h1 : vm f y = y') : [x, y].map (vm f) = [x', y'] := by simp [h, h1]
theorem am3 {f : Cell → Cell} {x x' y y' z z' : V} (h : vm f x = x') (h1 : vm f y = y') (h2 : vm f z = z') : [x, y, z].map (vm f) = [x', y', z'] := by simp [h, h1, h2]
theorem vs_ro {α : Type} {k : IntKind} {g : α → Int} {l : List α} {n : Nat} {f : Nat → Option Nat} {x : Nat → Option (List Cell)} {b : Bool} : vm (cm ⟨f, x, true, b⟩ 8) (.c (.ro n (mapc k g l))) = .c (.ro n (mapc k g l)) := by
  have h := rs_ro (k := k) (g := g) (l := l) (n := n) (f := f) (x := x) (b := b)
  simp only [sm, S.v.injEq] at h
  exact h
/-- A block that may be told of or not. -/
theorem plb {H Hl : Heap} {f : Cell → Cell} {p : Nat} {π : List Nat} {b b' : Option (List Cell)} (hp : H[p]? = some b) (hc : b.map (List.map f) = b') (h : π.map (pick H f) = Hl) : (p :: π).map (pick H f) = b' :: Hl := by
  subst hc
  cases b <;> simp [pick, hp, ← h]
theorem mlb {f : Cell → Cell} {L L' : Heap} {b b' : Option (List Cell)} (hx : b.map (List.map f) = b') (h : L.map (Option.map (List.map f)) = L') : (b :: L).map (Option.map (List.map f)) = b' :: L' := by
  simp [hx, h]
/-- Bytes, if there are any to be told of. -/
def kb (has : Bool) (key : List UInt8) : Option (List Cell) := bif has then some (u8s key) else none
theorem kb_map {has : Bool} {key : List UInt8} {m : CM} {d : Nat} : (kb has key).map (List.map (cm m d)) = kb has key := by
  cases has
  · rfl
  · simp [kb, mapc_cm]
/-- A pointer to them, or none. -/
def kp (has : Bool) (p : Nat) : Cell := bif has then .ptr p 0 else .nilp
/-- The same, looked at. -/
def kr (has : Bool) (key : List UInt8) : Cell := bif has then .rop (u8s key) else .nilp
/-! Blocks under other numbers, one by one. -/
def renL (τ0 τ : List (Nat × Bool)) (H : Heap) : Heap := τ.map fun x => if x.2 then pick H (nm τ0) x.1 else none
theorem rl0 {τ0 : List (Nat × Bool)} {H : Heap} : renL τ0 [] H = [] := rfl
theorem rlT {τ0 τ : List (Nat × Bool)} {H R : Heap} {p : Nat} {cs cs' : List Cell} (hp : H[p]? = some (some cs)) (hc : cs.map (nm τ0) = cs') (h : renL τ0 τ H = R) : renL τ0 ((p, true) :: τ) H = some cs' :: R := by
  subst hc h; simp [renL, pick, hp]
theorem rlF {τ0 τ : List (Nat × Bool)} {H R : Heap} {p : Nat} (h : renL τ0 τ H = R) : renL τ0 ((p, false) :: τ) H = none :: R := by
  subst h; simp [renL]
theorem rlB {τ0 τ : List (Nat × Bool)} {H R : Heap} {p : Nat} {b b' : Option (List Cell)} (hp : H[p]? = some b) (hc : b.map (List.map (nm τ0)) = b') (h : renL τ0 τ H = R) : renL τ0 ((p, true) :: τ) H = b' :: R := by
  subst hc h; cases b <;> simp [renL, pick, hp]
theorem Good.ren' {P : Program} {k : FuncId} {args : List V} {H H' H2 : Heap} {v v2 : S} (hg : Good P k args H v H') (τ : List (Nat × Bool)) (hH : renL τ τ H' = H2) (hv : sm (nm τ) v = v2 := by rfl) (hu : uniqT τ = true := by rfl) (hn : ((List.range H.length).all fun p => (τ[p]?).map (·.1) == some p) = true := by rfl) : Good P k args H v2 H2 :=
  hg.ren τ hu (piT hn) hv hH
end Go.Abs

/- What functions of the program do, walked over the abstract machine. -/
namespace Go.Proofs.Ytlnepajgnckolaa
open Go Go.Abs Go.Proofs Go.Proofs.Ytlnepajgnckolaa.Ch Go.Proofs.Ytlnepajgnckolaa.Po Go.Proofs.Ytlnepajgnckolaa.Ae Go.Proofs.Ytlnepajgnckolaa.Bl

set_option maxRecDepth 20000
def cSl (has : Bool) (key : List UInt8) (n : UInt64) (ad l : List UInt8) : List UInt8 × UInt64 × Nat :=
  bif has then (if n = 18446744073709551615 then ([], n, 11) else (aseal key (anonce n) ad l, n + 1, 0)) else (l, n, 0)
def cOp (has : Bool) (key : List UInt8) (n : UInt64) (ad l : List UInt8) : List UInt8 × UInt64 × Nat :=
  bif has then (if n = 18446744073709551615 then ([], n, 11) else match aopen key (anonce n) ad l with | none => ([], n, 8) | some p => (p, n + 1, 0)) else (l, n, 0)
theorem cSl_len {has : Bool} {key ad l : List UInt8} {n : UInt64} : (cSl has key n ad l).1.length ≤ l.length + 16 := by
  cases has
  · exact Nat.le_add_right ..
  · simp only [cSl, cond_true]; split
    · exact Nat.zero_le _
    · exact Nat.le_of_eq (aseal_len ..)
/-- What was sealed is opened. -/
theorem cOp_cSl {has : Bool} {key ad l : List UInt8} {n : UInt64} (h : (cSl has key n ad l).2.2 = 0) : cOp has key n ad (cSl has key n ad l).1 = (l, (cSl has key n ad l).2.1, 0) := by
  cases has
  · rfl
  · by_cases hn : n = 18446744073709551615
    · exfalso; revert h; simp [cSl, hn]
    · simp [cSl, cOp, hn, aopen_aseal]
theorem sees_ku {H : Heap} {has : Bool} {key : List UInt8} {p q d : Nat} {n : UInt64} {π : List Nat} (hp : idx p π = none) (hq : idx q π = none) (hk : key.length = 32) (hC : H[q]? = some (some (cC (kp has p) n))) (hK : H[p]? = some (kb has key)) : cm (cin π true H) (d + 2) (.ptr q 0) = .rop [kr has key, c64 n, .bool true] := by
  cases has
  · exact sees_nk hq hC
  · exact sees_key hp hq hk hC hK
/-- (*cipher.Cipher).Has -/
theorem has_0 (r : List Cell) : Good Try.prog 20 [.c (.rop (.nilp :: r))] [] (sc (.bool false)) [] := by
  refine good_frm 12 Try.func20 rfl rfl rfl rfl rfl rfl ?_
  refine awp_seq ?_
  refine rln ?_
  refine As ?_
  refine gend ?_
  refine awp_seq ?_
  refine rln ?_
  refine Mv ?_
  refine G (q_neqp ?_)
  refine Mv ?_
  refine Gg (q_mv (s := .v (.c _)) ?_)
  refine Gg (q_ncr ?_)
  refine Gg (q_far ?_)
  refine Gg (q_ldr ?_)
  refine Gg (q_neqp ?_)
  refine G (q_pkt ?_)
  refine As ?_
  refine gend ?_
  refine awp_ret ?_
  exact fp1
/-- (*cipher.Cipher).Rekey -/
theorem rekey_0 (n : UInt64) : Good Try.prog 16 [.c (.ptr 0 0)] [some (cC .nilp n)] (.t []) [some (cC .nilp n)] := by
  refine good_frm 20 Try.func16 rfl rfl rfl rfl rfl rfl ?_
  refine awp_seq ?_
  refine rln ?_
  refine Mv ?_
  refine G2 (fun _ k_ => q_callp (has_0 _) k_ (ha := (cac (et rfl) (sees_ptr rfl rfl rfl rfl) ca0))) ?_
  refine gend ?_
  refine cndbN (fun hc1 => ?_) ?_; rotate_left
  · exact rfl
  refine awp_skip ?_
  exact fx0 [0] (hH := pl1 rfl rfl pl0)
theorem cseal_u (has : Bool) (key ad l : List UInt8) (n : UInt64) (a k : Nat) (hkey : key.length = 32) (had : ad.length = a) (ha9 : a ≤ 10000) (hl : l.length = k) (hk9 : k ≤ 10000) : Good Try.prog 12 [.c (.ptr 0 0), .c (.ro a (u8s ad)), .c (.ro k (u8s l))] [some (cC (kp has 1) n), kb has key] (.t [.c (.slc 2 0 (cSl has key n ad l).1.length 1), .c (cn (cSl has key n ad l).2.2)]) [some (cC (kp has 1) (cSl has key n ad l).2.1), kb has key, some (u8s (cSl has key n ad l).1)] := by
  cases has with
  | false =>
    subst hl
    exact Good.callv [0] (L := [some (cC .nilp n)]) (M := [some (u8s l)]) (cseal_0 ad l n a _ rfl hk9) (am3 rfl vs_ro vs_ro) (pl1 rfl rfl pl0) rfl (ml1 rfl ml0) (ml1 sees_m ml0) rfl rfl
  | true =>
    by_cases h : n = 18446744073709551615
    · have e : cSl true key n ad l = ([], n, 11) := by simp [cSl, h]
      rw [e]
      exact (cseal_spent key ad l n a k hkey had ha9 hl hk9 h).emp 1
    · have e : cSl true key n ad l = (aseal key (anonce n) ad l, n + 1, 0) := by simp [cSl, h]
      have g := cseal_ok key ad l n a k hkey had ha9 hl hk9 h
      have hs := aseal_len key (anonce n) ad l
      rw [hl] at hs
      rw [e]
      show Good _ _ _ _ (.t [.c (.slc 2 0 (aseal key (anonce n) ad l).length 1), _]) _
      rw [hs]; exact g
theorem copen_u (has : Bool) (key ad l : List UInt8) (n : UInt64) (a k : Nat) (hkey : key.length = 32) (had : ad.length = a) (ha9 : a ≤ 10000) (hl : l.length = k) (hk9 : k ≤ 10000) : Good Try.prog 14 [.c (.ptr 0 0), .c (.ro a (u8s ad)), .c (.ro k (u8s l))] [some (cC (kp has 1) n), kb has key] (.t [.c (.slc 2 0 (cOp has key n ad l).1.length 1), .c (cn (cOp has key n ad l).2.2)]) [some (cC (kp has 1) (cOp has key n ad l).2.1), kb has key, some (u8s (cOp has key n ad l).1)] := by
  cases has with
  | false =>
    subst hl
    exact Good.callv [0] (L := [some (cC .nilp n)]) (M := [some (u8s l)]) (copen_0 ad l n a _ rfl hk9) (am3 rfl vs_ro vs_ro) (pl1 rfl rfl pl0) rfl (ml1 rfl ml0) (ml1 sees_m ml0) rfl rfl
  | true =>
    by_cases h : n = 18446744073709551615
    · have e : cOp true key n ad l = ([], n, 11) := by simp [cOp, h]
      rw [e]
      exact (copen_spent key ad l n a k hkey had ha9 hl hk9 h).emp 1
    · cases hp : aopen key (anonce n) ad l with
      | none =>
        have e : cOp true key n ad l = ([], n, 8) := by simp [cOp, h, hp]
        rw [e]
        exact (copen_bad key ad l n a k hkey had ha9 hl hk9 h hp).emp 1
      | some p =>
        have e : cOp true key n ad l = (p, n + 1, 0) := by simp [cOp, h, hp]
        have g := copen_ok key ad l n a k hkey had ha9 hl hk9 h p hp
        have hs := aopen_len hp
        rw [e]
        show Good _ _ _ _ (.t [.c (.slc 2 0 p.length 1), _]) _
        rw [show p.length = k - 16 by omega]; exact g
theorem rekey_u (has : Bool) (key : List UInt8) (n : UInt64) (hkey : key.length = 32) : Good Try.prog 16 [.c (.ptr 0 0)] [some (cC (kp has 1) n), kb has key] (.t []) [some (cC (kp has 2) n), none, kb has (anext key)] := by
  cases has with
  | false =>
    have g : Good Try.prog 16 [.c (.ptr 0 0)] [some (cC .nilp n), none] (.t []) [some (cC .nilp n), none] := Good.callv [0] (L := [some (cC .nilp n)]) (M := []) (rekey_0 n) (am1 rfl) (pl1 rfl rfl pl0) rfl (ml1 rfl ml0) ml0 rfl rfl
    exact g.ren' [(0, true), (1, false), (1, false)] (rlT rfl rfl (rlF (rlF rl0)))
  | true => exact (rekey_k key n hkey).ren' [(0, true), (1, false), (2, true)] (rlT rfl rfl (rlF (rlT rfl sees_m rl0)))
theorem setn_u (has : Bool) (key : List UInt8) (n m : UInt64) : Good Try.prog 18 [.c (.ptr 0 0), .c (c64 m)] [some (cC (kp has 1) n), kb has key] (.t []) [some (cC (kp has 1) m), kb has key] := by
  cases has with
  | false => exact Good.callv [0] (L := [some (cC .nilp m)]) (M := []) (setn_0 n m) (am2 rfl rfl) (pl1 rfl rfl pl0) rfl (ml1 rfl ml0) ml0 rfl rfl
  | true => exact setn_k key n m
theorem has_u (has : Bool) (key : List UInt8) (r : List Cell) : Good Try.prog 20 [.c (.rop (kr has key :: r))] [] (sc (.bool has)) [] := by
  cases has with
  | false => exact has_0 r
  | true => exact has_k _ r
end Go.Proofs.Ytlnepajgnckolaa

/- What functions of the program do, walked over the abstract machine. -/
namespace Go.Proofs.Ytlnepajgnckolaa
open Go Go.Abs Go.Proofs Go.Proofs.Ytlnepajgnckolaa.Ch Go.Proofs.Ytlnepajgnckolaa.Po Go.Proofs.Ytlnepajgnckolaa.Ae Go.Proofs.Ytlnepajgnckolaa.Bl

set_option maxRecDepth 20000
/-- (*escutcheonref16.Cipher).Seal -/
theorem rsealP_spent (P : List Cell) (p : Nat) (hP : P.length = p) (hPm : ∀ (m : CM) (d : Nat), P.map (cm m (d + 1)) = P) (key ad l : List UInt8) (n : UInt64) (a k : Nat) (hkey : key.length = 32) (had : ad.length = a) (ha9 : a ≤ 10000) (hl : l.length = k) (hk9 : k ≤ 10000) (h : n = 18446744073709551615) : Good Try.prog 13 [.c (.ptr 0 p), .c (.ro a (u8s ad)), .c (.ro k (u8s l))] [some (P ++ rC true key n)] (.t [.c .nils, .c (cn 11)]) [some (P ++ rC true key n)] := by
  refine good_frm 41 Try.func13 rfl rfl rfl rfl rfl rfl ?_
  refine awp_seq ?_
  refine rln ?_
  refine As ?_
  refine G (q_as (s := sc (cn 0)) ?_)
  refine gend ?_
  refine awp_seq ?_
  refine awp_seq ?_
  refine rln ?_
  refine Mv ?_
  refine G (q_ncp ?_)
  refine G (q_fap ?_)
  refine G  (q_ldp ?_ (hc := rP_b hP))
  refine G (q_notb ?_)
  refine gend ?_
  refine cndbnN (fun hc1 => ?_) ?_; rotate_left
  · exact rfl
  refine awp_skip ?_
  refine awp_seq ?_
  refine awp_seq ?_
  refine rln ?_
  refine Mv ?_
  refine G (q_ncp ?_)
  refine G (q_fap ?_)
  refine G (q_ldp ?_ (hc := rP_n hP hkey))
  refine G (q_eql64 (y := 18446744073709551615) ?_)
  refine gend ?_
  refine cndY (fun hc2 => ?_) ?_; rotate_left
  · exact h
  refine awp_seq ?_
  refine rln ?_
  refine As ?_
  refine G (q_as (s := sc (cn 11)) ?_)
  refine gend ?_
  refine awp_ret ?_
  exact fx2 [0] (hH := pl1 rfl (by rw [List.map_append, hPm, rC_map]) pl0)
/-- (*escutcheonref16.Cipher).Open -/
theorem ropenP_spent (P : List Cell) (p : Nat) (hP : P.length = p) (hPm : ∀ (m : CM) (d : Nat), P.map (cm m (d + 1)) = P) (key ad l : List UInt8) (n : UInt64) (a k : Nat) (hkey : key.length = 32) (had : ad.length = a) (ha9 : a ≤ 10000) (hl : l.length = k) (hk9 : k ≤ 10000) (h : n = 18446744073709551615) : Good Try.prog 15 [.c (.ptr 0 p), .c (.ro a (u8s ad)), .c (.ro k (u8s l))] [some (P ++ rC true key n)] (.t [.c .nils, .c (cn 11)]) [some (P ++ rC true key n)] := by
  refine good_frm 48 Try.func15 rfl rfl rfl rfl rfl rfl ?_
  refine awp_seq ?_
  refine rln ?_
  refine As ?_
  refine G (q_as (s := sc (cn 0)) ?_)
  refine gend ?_
  refine awp_seq ?_
  refine awp_seq ?_
  refine rln ?_
  refine Mv ?_
  refine G (q_ncp ?_)
  refine G (q_fap ?_)
  refine G  (q_ldp ?_ (hc := rP_b hP))
  refine G (q_notb ?_)
  refine gend ?_
  refine cndbnN (fun hc1 => ?_) ?_; rotate_left
  · exact rfl
  refine awp_skip ?_
  refine awp_seq ?_
  refine awp_seq ?_
  refine rln ?_
  refine Mv ?_
  refine G (q_ncp ?_)
  refine G (q_fap ?_)
  refine G (q_ldp ?_ (hc := rP_n hP hkey))
  refine G (q_eql64 (y := 18446744073709551615) ?_)
  refine gend ?_
  refine cndY (fun hc2 => ?_) ?_; rotate_left
  · exact h
  refine awp_seq ?_
  refine rln ?_
  refine As ?_
  refine G (q_as (s := sc (cn 11)) ?_)
  refine gend ?_
  refine awp_ret ?_
  exact fx2 [0] (hH := pl1 rfl (by rw [List.map_append, hPm, rC_map]) pl0)
/-- (*escutcheonref16.Cipher).Open -/
theorem ropenP_0 (P : List Cell) (p : Nat) (hP : P.length = p) (hPm : ∀ (m : CM) (d : Nat), P.map (cm m (d + 1)) = P) (key ad l : List UInt8) (n : UInt64) (a k : Nat) (hkey : key.length = 32) (hl : l.length = k) (hk9 : k ≤ 10000) : Good Try.prog 15 [.c (.ptr 0 p), .c (.ro a (u8s ad)), .c (.ro k (u8s l))] [some (P ++ rC false key n)] (.t [.c (.slc 1 0 k 1), .c (cn 0)]) [some (P ++ rC false key n), some (u8s l)] := by
  refine good_frm 48 Try.func15 rfl rfl rfl rfl rfl rfl ?_
  refine awp_seq ?_
  refine rln ?_
  refine As ?_
  refine G (q_as (s := sc (cn 0)) ?_)
  refine gend ?_
  refine awp_seq ?_
  refine awp_seq ?_
  refine rln ?_
  refine Mv ?_
  refine G (q_ncp ?_)
  refine G (q_fap ?_)
  refine G  (q_ldp ?_ (hc := rP_b hP))
  refine G (q_notb ?_)
  refine gend ?_
  refine cndbnY (fun hc1 => ?_) ?_; rotate_left
  · exact rfl
  refine awp_seq ?_
  refine rln ?_
  refine Mv ?_
  refine G2 (fun _ k_ => q_app k_ (eA := el_nil) (eB := el_ro (by rw [mapc_length, hl, Nat.mul_one]))) ?_
  refine As ?_
  refine G (q_as (s := sc (cn 0)) ?_)
  refine gend ?_
  refine awp_ret ?_
  exact fx2 [0, 1] (hm0 := by rw [Nat.zero_add]) (hH := pl1 rfl (by rw [List.map_append, hPm, rC_map]) (pl1 rfl sees_m pl0)) (hn := piB rfl)
set_option maxHeartbeats 1600000 in
/-- (*escutcheonref16.Cipher).Open -/
theorem ropenP_ok (P : List Cell) (p : Nat) (hP : P.length = p) (hPm : ∀ (m : CM) (d : Nat), P.map (cm m (d + 1)) = P) (key ad l : List UInt8) (n : UInt64) (a k : Nat) (hkey : key.length = 32) (had : ad.length = a) (ha9 : a ≤ 10000) (hl : l.length = k) (hk9 : k ≤ 10000) (h : n ≠ 18446744073709551615) (q : List UInt8) (hp : aopen key (anonce n) ad l = some q) : Good Try.prog 15 [.c (.ptr 0 p), .c (.ro a (u8s ad)), .c (.ro k (u8s l))] [some (P ++ rC true key n)] (.t [.c (.slc 1 0 (k - 16) 1), .c (cn 0)]) [some (P ++ rC true key (n + 1)), some (u8s q)] := by
  have hNl := anonce_len n
  have g2 := rnonce_ n
  obtain ⟨N, hN⟩ : ∃ z, anonce n = z := ⟨_, rfl⟩
  rw [hN] at hNl g2
  rw [hN] at hp
  have g3 := ropen_some key N ad l a k hkey hNl had ha9 hl hk9 q hp
  have hL1 := rP_len (b := true) (n := n) hP hkey
  have hL2 := rP_len (b := true) (n := n + 1) hP hkey
  refine good_frm 48 Try.func15 rfl rfl rfl rfl rfl rfl ?_
  refine awp_seq ?_
  refine rln ?_
  refine As ?_
  refine G (q_as (s := sc (cn 0)) ?_)
  refine gend ?_
  refine awp_seq ?_
  refine awp_seq ?_
  refine rln ?_
  refine Mv ?_
  refine G (q_ncp ?_)
  refine G (q_fap ?_)
  refine G  (q_ldp ?_ (hc := rP_b hP))
  refine G (q_notb ?_)
  refine gend ?_
  refine cndbnN (fun hc1 => ?_) ?_; rotate_left
  · exact rfl
  refine awp_skip ?_
  refine awp_seq ?_
  refine awp_seq ?_
  refine rln ?_
  refine Mv ?_
  refine G (q_ncp ?_)
  refine G (q_fap ?_)
  refine G (q_ldp ?_ (hc := rP_n hP hkey))
  refine G (q_eql64 (y := 18446744073709551615) ?_)
  refine gend ?_
  refine cndN (fun hc2 => ?_) ?_; rotate_left
  · exact h
  refine awp_skip ?_
  refine awp_seq ?_
  refine rdln [11] [0, 0, 0, 0, 0, 0, 0, 0, 0, 0, 0, 0, 1, 1, 1, 1, 1] [0, 0, 0, 0, 0, 0, 0, 0, 0, 0, 0, 1, 1, 1, 1, 1, 1] ?_
  refine Dp (fun _ => q_mv (s := .v (.c _)) ⟨rfl, rfl⟩) ?_
  refine Dp (fun _ => q_ncp ⟨rfl, rfl⟩) ?_
  refine Dp (fun _ => q_fap ⟨rfl, rfl⟩) ?_
  refine DLa (xs := u8s key) ?_ (hc := rP_k hP hkey)
  refine Dp (fun _ => q_mv (s := .v (.c _)) ⟨rfl, rfl⟩) ?_
  refine Dp (fun _ => q_ncp ⟨rfl, rfl⟩) ?_
  refine Dp (fun _ => q_fap ⟨rfl, rfl⟩) ?_
  refine DLp ?_ (hc := rP_n hP hkey)
  refine Dp (fun _ => q_callp g2 ⟨rfl, rfl⟩ (ha := (cac (et rfl) cm_int ca0))) ?_
  refine Dp (fun _ => q_mv (s := .v (.c _)) ⟨rfl, rfl⟩) ?_
  refine Dp (fun _ => q_mv (s := .v (.c _)) ⟨rfl, rfl⟩) ?_
  refine De2 (fun _ k_ => q_calln g3 k_ (ha := (caa (et rfl) sees_m (caa (et rfl) sees_m (cac (et rfl) sees_ro (cac (et rfl) sees_ro ca0)))))) ?_
  refine Dp (fun _ => q_mv (s := .t _) ⟨rfl, rfl⟩) ?_
  refine Dp (fun _ => q_ext (y := .c _) ⟨rfl, rfl⟩) ?_
  refine Dp (fun _ => q_ext (y := .c _) ⟨rfl, rfl⟩) ?_
  refine Dp (fun _ => q_as (s := .v (.c _)) ⟨rfl, rfl⟩) ?_
  refine Dp (fun _ => q_as (s := .v (.c _)) ⟨rfl, rfl⟩) ?_
  refine dend ?_
  refine awp_seq ?_
  refine awp_seq ?_
  refine rln ?_
  refine Mv ?_
  refine G (q_notb ?_)
  refine gend ?_
  refine cndbnN (fun hc3 => ?_) ?_; rotate_left
  · exact rfl
  refine awp_skip ?_
  refine awp_seq ?_
  refine rln ?_
  refine Mv ?_
  refine Mv ?_
  refine G (q_ncp ?_)
  refine G (q_fap ?_)
  refine G (q_ldp ?_ (hc := rP_n hP hkey))
  refine G (q_add64 (y := 1) ?_)
  refine G (q_ncp ?_)
  refine G (q_fap ?_)
  refine G20 (fun _ k_ => q_st k_) ?_ (hH := by simp only [List.set_cons_zero, List.cons_append, List.nil_append]; exact congrArg (fun z => some z :: _) (rP_set hP hkey))
  refine gend ?_
  refine awp_seq ?_
  refine rln ?_
  refine Mv ?_
  refine As ?_
  refine G (q_as (s := sc (cn 0)) ?_)
  refine gend ?_
  refine awp_ret ?_
  exact fx2 [0, 1] (hm0 := rfl) (hH := pl1 rfl (by rw [List.map_append, hPm, rC_map]) (pl1 rfl sees_m pl0)) (hn := piB rfl)
set_option maxHeartbeats 1600000 in
/-- (*escutcheonref16.Cipher).Open -/
theorem ropenP_bad (P : List Cell) (p : Nat) (hP : P.length = p) (hPm : ∀ (m : CM) (d : Nat), P.map (cm m (d + 1)) = P) (key ad l : List UInt8) (n : UInt64) (a k : Nat) (hkey : key.length = 32) (had : ad.length = a) (ha9 : a ≤ 10000) (hl : l.length = k) (hk9 : k ≤ 10000) (h : n ≠ 18446744073709551615) (hp : aopen key (anonce n) ad l = none) : Good Try.prog 15 [.c (.ptr 0 p), .c (.ro a (u8s ad)), .c (.ro k (u8s l))] [some (P ++ rC true key n)] (.t [.c .nils, .c (cn 8)]) [some (P ++ rC true key n)] := by
  have hNl := anonce_len n
  have g2 := rnonce_ n
  obtain ⟨N, hN⟩ : ∃ z, anonce n = z := ⟨_, rfl⟩
  rw [hN] at hNl g2
  rw [hN] at hp
  have g3 := ropen_none key N ad l a k hkey hNl had ha9 hl hk9 hp
  have hL1 := rP_len (b := true) (n := n) hP hkey
  have hL2 := rP_len (b := true) (n := n + 1) hP hkey
  refine good_frm 48 Try.func15 rfl rfl rfl rfl rfl rfl ?_
  refine awp_seq ?_
  refine rln ?_
  refine As ?_
  refine G (q_as (s := sc (cn 0)) ?_)
  refine gend ?_
  refine awp_seq ?_
  refine awp_seq ?_
  refine rln ?_
  refine Mv ?_
  refine G (q_ncp ?_)
  refine G (q_fap ?_)
  refine G  (q_ldp ?_ (hc := rP_b hP))
  refine G (q_notb ?_)
  refine gend ?_
  refine cndbnN (fun hc1 => ?_) ?_; rotate_left
  · exact rfl
  refine awp_skip ?_
  refine awp_seq ?_
  refine awp_seq ?_
  refine rln ?_
  refine Mv ?_
  refine G (q_ncp ?_)
  refine G (q_fap ?_)
  refine G (q_ldp ?_ (hc := rP_n hP hkey))
  refine G (q_eql64 (y := 18446744073709551615) ?_)
  refine gend ?_
  refine cndN (fun hc2 => ?_) ?_; rotate_left
  · exact h
  refine awp_skip ?_
  refine awp_seq ?_
  refine rdln [] [] [] ?_
  refine Dp (fun _ => q_mv (s := .v (.c _)) ⟨rfl, rfl⟩) ?_
  refine Dp (fun _ => q_ncp ⟨rfl, rfl⟩) ?_
  refine Dp (fun _ => q_fap ⟨rfl, rfl⟩) ?_
  refine DLa (xs := u8s key) ?_ (hc := rP_k hP hkey)
  refine Dp (fun _ => q_mv (s := .v (.c _)) ⟨rfl, rfl⟩) ?_
  refine Dp (fun _ => q_ncp ⟨rfl, rfl⟩) ?_
  refine Dp (fun _ => q_fap ⟨rfl, rfl⟩) ?_
  refine DLp ?_ (hc := rP_n hP hkey)
  refine Dp (fun _ => q_callp g2 ⟨rfl, rfl⟩ (ha := (cac (et rfl) cm_int ca0))) ?_
  refine Dp (fun _ => q_mv (s := .v (.c _)) ⟨rfl, rfl⟩) ?_
  refine Dp (fun _ => q_mv (s := .v (.c _)) ⟨rfl, rfl⟩) ?_
  refine Dp (fun _ => q_callp g3 ⟨rfl, rfl⟩ (ha := (caa (et rfl) sees_m (caa (et rfl) sees_m (cac (et rfl) sees_ro (cac (et rfl) sees_ro ca0)))))) ?_
  refine Dp (fun _ => q_mv (s := .t _) ⟨rfl, rfl⟩) ?_
  refine Dp (fun _ => q_ext (y := .c _) ⟨rfl, rfl⟩) ?_
  refine Dp (fun _ => q_ext (y := .c _) ⟨rfl, rfl⟩) ?_
  refine Dp (fun _ => q_as (s := .v (.c _)) ⟨rfl, rfl⟩) ?_
  refine Dp (fun _ => q_as (s := .v (.c _)) ⟨rfl, rfl⟩) ?_
  refine dend ?_
  refine awp_seq ?_
  refine awp_seq ?_
  refine rln ?_
  refine Mv ?_
  refine G (q_notb ?_)
  refine gend ?_
  refine cndbnY (fun hc3 => ?_) ?_; rotate_left
  · exact rfl
  refine awp_seq ?_
  refine rln ?_
  refine As ?_
  refine G (q_as (s := sc (cn 8)) ?_)
  refine gend ?_
  refine awp_ret ?_
  exact fx2 [0] (hH := pl1 rfl (by rw [List.map_append, hPm, rC_map]) pl0)
theorem rseal_u (P : List Cell) (p : Nat) (hP : P.length = p) (hPm : ∀ (m : CM) (d : Nat), P.map (cm m (d + 1)) = P) (has : Bool) (key ad l : List UInt8) (n : UInt64) (a k : Nat) (hkey : key.length = 32) (had : ad.length = a) (ha9 : a ≤ 10000) (hl : l.length = k) (hk9 : k ≤ 10000) : Good Try.prog 13 [.c (.ptr 0 p), .c (.ro a (u8s ad)), .c (.ro k (u8s l))] [some (P ++ rC has key n)] (.t [.c (.slc 1 0 (cSl has key n ad l).1.length 1), .c (cn (cSl has key n ad l).2.2)]) [some (P ++ rC has key (cSl has key n ad l).2.1), some (u8s (cSl has key n ad l).1)] := by
  cases has with
  | false => subst hl; exact rsealP_0 P p hP hPm key ad l n a _ hkey rfl hk9
  | true =>
    by_cases h : n = 18446744073709551615
    · have e : cSl true key n ad l = ([], n, 11) := by simp [cSl, h]
      rw [e]
      exact (rsealP_spent P p hP hPm key ad l n a k hkey had ha9 hl hk9 h).emp 1
    · have e : cSl true key n ad l = (aseal key (anonce n) ad l, n + 1, 0) := by simp [cSl, h]
      have g := rsealP_ok P p hP hPm key ad l n a k hkey had ha9 hl hk9 h
      have hs := aseal_len key (anonce n) ad l
      rw [hl] at hs
      rw [e]
      show Good _ _ _ _ (.t [.c (.slc 1 0 (aseal key (anonce n) ad l).length 1), _]) _
      rw [hs]; exact g
theorem ropen_u (P : List Cell) (p : Nat) (hP : P.length = p) (hPm : ∀ (m : CM) (d : Nat), P.map (cm m (d + 1)) = P) (has : Bool) (key ad l : List UInt8) (n : UInt64) (a k : Nat) (hkey : key.length = 32) (had : ad.length = a) (ha9 : a ≤ 10000) (hl : l.length = k) (hk9 : k ≤ 10000) : Good Try.prog 15 [.c (.ptr 0 p), .c (.ro a (u8s ad)), .c (.ro k (u8s l))] [some (P ++ rC has key n)] (.t [.c (.slc 1 0 (cOp has key n ad l).1.length 1), .c (cn (cOp has key n ad l).2.2)]) [some (P ++ rC has key (cOp has key n ad l).2.1), some (u8s (cOp has key n ad l).1)] := by
  cases has with
  | false => subst hl; exact ropenP_0 P p hP hPm key ad l n a _ hkey rfl hk9
  | true =>
    by_cases h : n = 18446744073709551615
    · have e : cOp true key n ad l = ([], n, 11) := by simp [cOp, h]
      rw [e]
      exact (ropenP_spent P p hP hPm key ad l n a k hkey had ha9 hl hk9 h).emp 1
    · cases hp : aopen key (anonce n) ad l with
      | none =>
        have e : cOp true key n ad l = ([], n, 8) := by simp [cOp, h, hp]
        rw [e]
        exact (ropenP_bad P p hP hPm key ad l n a k hkey had ha9 hl hk9 h hp).emp 1
      | some q =>
        have e : cOp true key n ad l = (q, n + 1, 0) := by simp [cOp, h, hp]
        have g := ropenP_ok P p hP hPm key ad l n a k hkey had ha9 hl hk9 h q hp
        have hs := aopen_len hp
        rw [e]
        show Good _ _ _ _ (.t [.c (.slc 1 0 q.length 1), _]) _
        rw [show q.length = k - 16 by omega]; exact g
set_option maxHeartbeats 1600000 in
/-- escutcheonref16.Next -/
theorem rnext_ (key : List UInt8) (hkey : key.length = 32) : Good Try.prog 17 [.a (u8s key)] [] (sa (u8s (anext key))) [] := by
  have hNl := anonce_len 18446744073709551615
  have g2 := rnonce_ 18446744073709551615
  have hA := anext_len key
  have hS := aseal_len key (anonce 18446744073709551615) [] (List.replicate 32 0)
  have g3 := rseal_ key (anonce 18446744073709551615) [] (List.replicate 32 0) 0 32 hkey hNl rfl (by decide) rfl (by decide)
  rw [show (List.replicate 32 (0 : UInt8)).length = 32 from rfl] at hS
  have hAS : anext key = (aseal key (anonce 18446744073709551615) [] (List.replicate 32 0)).take 32 := rfl
  obtain ⟨Sx, hSx⟩ : ∃ z, aseal key (anonce 18446744073709551615) [] (List.replicate 32 0) = z := ⟨_, rfl⟩
  obtain ⟨N, hN⟩ : ∃ z, anonce 18446744073709551615 = z := ⟨_, rfl⟩
  obtain ⟨A, hAA⟩ : ∃ z, anext key = z := ⟨_, rfl⟩
  rw [hSx] at hS hAS g3
  rw [hAA] at hA hAS ⊢
  rw [hN] at g2 g3 hNl
  have hcp : splice (u8s (List.replicate 32 0)) 0 (List.take (min 32 32 * 1) (List.take (32 * 1) (List.drop 0 (u8s Sx)))) = u8s A := by
    rw [List.drop_zero, List.take_take, mapc_take, show min (min 32 32 * 1) (32 * 1) = 32 from rfl, ← hAS]
    exact splice_whole (by rw [mapc_length, mapc_length, hA]; rfl)
  refine good_frm 14 Try.func17 rfl rfl rfl rfl rfl rfl ?_
  refine awp_seq ?_
  refine rln ?_
  refine G2 (fun _ k_ => q_boxa k_) ?_
  refine G2 (fun _ k_ => q_al k_) ?_
  refine gend ?_
  refine awp_seq ?_
  refine rdln [2, 3] [0, 0, 0, 1, 2] [1, 1, 1, 2, 2] ?_
  refine DLw ?_
  refine Dp (fun _ => q_callp g2 ⟨rfl, rfl⟩ (ha := (cac rfl cm_int ca0))) ?_
  refine De2 (fun _ k_ => q_mks k_) ?_
  refine De2 (fun _ k_ => q_calln g3 k_ (ha := (caa (et rfl) sees_m (caa (et rfl) sees_m (cac rfl sees_nil8 (cac (et rfl) (sees_slc rfl rfl rfl) ca0)))))) ?_
  refine Dp (fun _ => q_as (s := .v (.c _)) ⟨rfl, rfl⟩) ?_
  refine dend ?_
  refine awp_seq ?_
  refine rln ?_
  refine G2 (fun _ k_ => q_al k_) ?_
  refine gend ?_
  refine awp_seq ?_
  refine rdln [3] [] [0, 0, 0, 1] ?_
  refine DSp 4 rfl (fun _ hv => q_slp_no ⟨rfl, rfl⟩ (hp := hv)) ?_
  refine Dp (fun _ => q_mv (s := .v (.c _)) ⟨rfl, rfl⟩) ?_
  refine Dp (fun _ => q_sls_hi (k := 32) ⟨rfl, rfl⟩) ?_
  refine De2 (fun _ k_ => q_cpy k_) ?_ (hH := by simp only [List.set_cons_zero, List.set_cons_succ]; rw [hcp])
  refine dend ?_
  refine awp_seq ?_
  refine rln ?_
  refine G (q_ldw ?_)
  refine G20 (fun _ k_ => q_stw k_) ?_
  refine gend ?_
  refine awp_ret ?_
  exact fpc (t := 23) (a := 2) (hn := (mapc_length ..).trans hA)
end Go.Proofs.Ytlnepajgnckolaa

/- The abstract machine: elements of a slice of structs that may be looked at. -/
namespace Go.Abs
open Go

theorem flat_at {α β : Type} {g : α → List β} {sz : Nat} (hg : ∀ x, (g x).length = sz) : ∀ (l : List α) (j : Nat) (d : α), j < l.length → (l.flatMap g).drop (j * sz) = g (l.getD j d) ++ (l.drop (j + 1)).flatMap g
  | [], j, d, h => by simp at h
  | a :: r, 0, d, h => by simp
  | a :: r, j + 1, d, h => by
    have hj : (j + 1) * sz = sz + j * sz := by rw [Nat.succ_mul]; omega
    rw [List.flatMap_cons, hj, ← List.drop_drop, List.drop_append_of_le_length (by rw [hg]; exact Nat.le_refl _), List.drop_of_length_le (l := g a) (by rw [hg]; exact Nat.le_refl _), List.nil_append, flat_at hg r j d (by simpa using h)]
    simp
theorem flat_len {α β : Type} {g : α → List β} {sz : Nat} (hg : ∀ x, (g x).length = sz) : ∀ l : List α, (l.flatMap g).length = l.length * sz
  | [] => by simp
  | a :: r => by rw [List.flatMap_cons, List.length_append, hg, flat_len hg r, List.length_cons, Nat.succ_mul]; omega
theorem flat_cm {α : Type} {g : α → List Cell} {f : Cell → Cell} (hg : ∀ x, (g x).map f = g x) (l : List α) : (l.flatMap g).map f = l.flatMap g := by
  rw [List.map_flatMap]; exact congrArg (fun z => List.flatMap z l) (funext hg)
theorem rs_fl {α : Type} {g : α → List Cell} {l : List α} {n : Nat} {f : Nat → Option Nat} {x : Nat → Option (List Cell)} {b : Bool} (hg : ∀ y, (g y).map (cm ⟨f, x, true, b⟩ 7) = g y) : sm (cm ⟨f, x, true, b⟩ 8) (sc (.ro n (l.flatMap g))) = sc (.ro n (l.flatMap g)) := by
  show S.v (V.c (.ro n ((l.flatMap g).map (cm ⟨f, x, true, b⟩ 7)))) = _
  rw [flat_cm hg]
section
variable {P : Program} {fr : List S} {H : Heap} {K : S → Heap → Prop} {od : Option Nat} {oty : TypeId} {ops_ : String} {oaf : Array Edge} {ogu : Option (Nat × Bool)} {t u : TypeId} {a b i : Operand} {ti : TI}
/-- An element of a slice of structs, told by its parts. -/
theorem q_ixe {α : Type} {g : α → List Cell} {l : List α} {m e j : Nat} {ei : TI} {sz_ : Nat} {d x : α} (hx_ : l.getD j d = x) (hg : ∀ x, (g x).length = sz_) [it_ : SlT P t ti e ei sz_] (h : K (sc (.rop (g x ++ (l.drop (j + 1)).flatMap g))) H) (hz : Nat.blt 0 sz_ = true := by exact rfl)
    (hi : Ix (ev fr i) j := by first | exact ixn (et rfl) | exact ixn rfl | exact ix64 (et rfl) | exact ix8 (et rfl) | exact ix32 (et rfl)) (hx : ev fr a = sc (.ro m (l.flatMap g)) := by first | exact et rfl | exact rfl) (hm : l.length = m := by first | with_reducible assumption | exact rfl)
    (hlt : j < m := by first | omega | with_reducible assumption) : ostep P ⟨od, .indexAddr t a i, oty, ops_, oaf, ogu⟩ fr H K := by
  have hz' : 0 < sz_ := by simpa [Nat.blt_eq] using hz
  have hj : j < l.length := by omega
  refine q_ixo (cs := l.flatMap g) (j := j) ?_ hi hx hlt ?_
  · rw [flat_at hg l j d hj, hx_]; exact h
  · rw [flat_len hg]
    have : (j + 1) * sz_ ≤ l.length * sz_ := Nat.mul_le_mul_right _ hj
    rw [Nat.succ_mul] at this
    omega
end
end Go.Abs

/- What functions of the program do, walked over the abstract machine. -/
namespace Go.Proofs.Ytlnepajgnckolaa
open Go Go.Abs Go.Proofs Go.Proofs.Ytlnepajgnckolaa.Ch Go.Proofs.Ytlnepajgnckolaa.Po Go.Proofs.Ytlnepajgnckolaa.Ae Go.Proofs.Ytlnepajgnckolaa.Bl

set_option maxRecDepth 20000
/-- An act, as the statement's slice holds it. -/
structure A16 where
  kind : Int
  ad : List UInt8
  b : List UInt8
  n : UInt64
abbrev a16 : A16 := ⟨0, [], [], 0⟩
def aC (x : A16) : List Cell := [ci x.kind, .ro x.ad.length (u8s x.ad), .ro x.b.length (u8s x.b), c64 x.n]
theorem aC_len (x : A16) : (aC x).length = 4 := rfl
theorem aC_cm {f : Nat → Option Nat} {m : Nat → Option (List Cell)} {b : Bool} (x : A16) : (aC x).map (cm ⟨f, m, true, b⟩ 7) = aC x := by
  show [_, Cell.ro _ ((u8s x.ad).map _), Cell.ro _ ((u8s x.b).map _), _] = _
  rw [mapc_cm, mapc_cm]; rfl
def fewB (l : List A16) : Bool := (l.all fun x => decide (x.ad.length ≤ 200) && decide (x.b.length ≤ 200)) && decide (l.length ≤ 40)
theorem fewB_at {l : List A16} (h : fewB l = true) (i : Nat) : (l.getD i a16).ad.length ≤ 200 ∧ (l.getD i a16).b.length ≤ 200 := by
  rw [List.getD_eq_getElem?_getD]
  cases hi : l[i]? with
  | none => exact ⟨Nat.zero_le _, Nat.zero_le _⟩
  | some x =>
    unfold fewB at h
    rw [Bool.and_eq_true] at h
    have := List.all_eq_true.1 h.1 x (List.mem_of_getElem? hi)
    simpa using this
theorem fewB_no {l : List A16} {i : Nat} (hi : i < l.length) (h : 200 < (l.getD i a16).ad.length ∨ 200 < (l.getD i a16).b.length) : fewB l = false := by
  cases hf : fewB l with
  | false => rfl
  | true => have := fewB_at hf i; omega
theorem fewB_all {l : List A16} (h : ∀ j, j < l.length → (l.getD j a16).ad.length ≤ 200 ∧ (l.getD j a16).b.length ≤ 200) : fewB l = decide (l.length ≤ 40) := by
  have : (l.all fun x => decide (x.ad.length ≤ 200) && decide (x.b.length ≤ 200)) = true := by
    rw [List.all_eq_true]
    intro x hx
    obtain ⟨j, hj, rfl⟩ := List.mem_iff_getElem.1 hx
    have := h j hj
    rw [List.getD_eq_getElem?_getD, List.getElem?_eq_getElem hj] at this
    simpa using this
  rw [fewB, this, Bool.true_and]
structure FP (l : List A16) where
  i : Nat
  hi : i ≤ l.length
  ok : ∀ j, j < i → (l.getD j a16).ad.length ≤ 200 ∧ (l.getD j a16).b.length ≤ 200
/-- escutcheonlaw16.few -/
theorem few_ (l : List A16) (n : Nat) (hn : l.length = n) (hn9 : n ≤ 140737488351232) : Good Try.prog 8 [.c (.ro n (l.flatMap aC))] [] (sc (.bool (fewB l))) [] := by
  refine good_frm 29 Try.func8 rfl rfl rfl rfl rfl rfl ?_
  refine awp_seq ?_
  refine rln ?_
  refine As ?_
  refine gend ?_
  refine awp_seq ?_
  refine awp_seq ?_
  refine rln ?_
  refine G (q_as (s := sc (cn 0)) ?_)
  refine gend ?_
  refine awp_block ?_
  refine awp_loop (fun x : FP l => ⟨frm 29 [(0, sc (.ro n (l.flatMap aC))), (3, sc (cn x.i))], []⟩) (fun x => n - x.i) ⟨0, Nat.zero_le _, fun _ h => absurd h (Nat.not_lt_zero _)⟩ (sle_sub ⟨rfl, rfl, trivial⟩ rfl) fun x => ?_   -- live: [0, 3]
  obtain ⟨a, ha⟩ : ∃ a, l.getD x.i a16 = a := ⟨_, rfl⟩
  have hxi := x.hi
  refine awp_seq ?_
  refine awp_seq ?_
  refine rln ?_
  refine Mv ?_
  refine Mv ?_
  refine G (q_leno ?_)
  refine G (q_lssn ?_)
  refine gend ?_
  refine cnd (fun hc1 => ?_) (fun hc1 => ?_); rotate_left
  · refine awp_exit ?_
    refine awp_seq ?_
    refine rln ?_
    refine Mv ?_
    refine G (q_leno ?_)
    refine G (q_leqn (y := 40) ?_)
    refine As ?_
    refine gend ?_
    refine awp_ret ?_
    exact fp1 (hv := by rw [fewB_all (fun j hj => x.ok j (by omega)), hn])
  refine awp_skip ?_
  refine awp_seq ?_
  refine awp_block ?_
  refine awp_seq ?_
  refine rln ?_
  refine Mv ?_
  refine Mv ?_
  refine G (q_ixe (l := l) ha aC_len ?_)
  refine G (q_far ?_)
  refine G (q_ldr ?_)
  refine G (q_leno ?_)
  refine G (q_gtrn (y := 200) ?_)
  refine Mv ?_
  refine Aspd 17 (fun hb8 => ?_) (fun hb8 => ?_)
  · refine Gn ?_
    refine Gn ?_
    refine Gn ?_
    refine Gn ?_
    refine Gn ?_
    refine Gn ?_
    refine Gn ?_
    refine G (q_pkt ?_)
    refine gend ?_
    refine cndT ?_
    refine awp_seq ?_
    refine rln ?_
    refine As ?_
    refine gend ?_
    refine awp_ret ?_
    exact fp1 (hv := by rw [fewB_no (i := x.i) (by omega) (.inl (by rw [ha]; exact hb8))])
  refine Gg (q_mv (s := .v (.c _)) ?_)
  refine Gg (q_mv (s := .v (.c _)) ?_)
  refine Gg (q_ixe (l := l) ha aC_len ?_)
  refine Gg (q_far ?_)
  refine Gg (q_ldr ?_)
  refine Gg (q_leno ?_)
  refine Gg (q_gtrn (y := 200) ?_)
  refine G (q_pkf ?_)
  refine gend ?_
  refine cnd (fun hc2 => ?_) (fun hc2 => ?_)
  · refine awp_seq ?_
    refine rln ?_
    refine As ?_
    refine gend ?_
    refine awp_ret ?_
    exact fp1 (hv := by rw [fewB_no (i := x.i) (by omega) (.inr (by rw [ha]; exact hc2))])
  refine awp_skip ?_
  refine rln ?_
  refine Mv ?_
  refine G (q_addn (y := 1) ?_)
  refine As ?_
  refine gend ?_
  exact ⟨⟨x.i + 1, by omega, fun j hj => by rcases Nat.lt_succ_iff_lt_or_eq.1 hj with h | rfl; exact x.ok j h; rw [ha]; exact ⟨Nat.le_of_not_lt hb8, Nat.le_of_not_lt hc2⟩⟩, by show n - (x.i + 1) < n - x.i; omega, sle_sub ⟨rfl, rfl, trivial⟩ rfl⟩   -- endloop 1
end Go.Proofs.Ytlnepajgnckolaa

/- What functions of the program do, walked over the abstract machine. -/
namespace Go.Proofs.Ytlnepajgnckolaa
open Go Go.Abs Go.Proofs Go.Proofs.Ytlnepajgnckolaa.Ch Go.Proofs.Ytlnepajgnckolaa.Po Go.Proofs.Ytlnepajgnckolaa.Ae Go.Proofs.Ytlnepajgnckolaa.Bl

set_option maxRecDepth 20000
theorem rc_new' {key : List UInt8} (hk : key.length = 32) : splice (([Cell.bool false] ++ u8s (List.replicate 32 0) ++ [c64 0]).set 0 (.bool true)) 1 (u8s key) = rC true key 0 := by
  unfold splice
  rw [mapc_length, hk]; rfl
theorem rC_setk {b : Bool} {key k' : List UInt8} {n : UInt64} (hk : key.length = 32) (hk' : k'.length = 32) : splice (rC b key n) 1 (u8s k') = rC b k' n := by
  unfold splice
  rw [mapc_length, hk']
  show .bool b :: ([] ++ (u8s k' ++ (u8s key ++ [c64 n]).drop 32)) = _
  rw [List.drop_append_of_le_length (by rw [mapc_length, hk]; exact Nat.le_refl _), List.drop_of_length_le (by rw [mapc_length, hk]; exact Nat.le_refl _)]; rfl
def kz (has : Bool) (key : List UInt8) : List UInt8 := bif has then key else List.replicate 32 0
theorem kz_len {has : Bool} {key : List UInt8} (h : key.length = 32) : (kz has key).length = 32 := by cases has; rfl; exact h
theorem kC_map {has : Bool} {p q d : Nat} {n : UInt64} {m : CM} (h : m.fp p = some q) : (cC (kp has p) n).map (cm m (d + 1)) = cC (kp has q) n := by
  cases has
  · rfl
  · show [cm m (d + 1) (.ptr p 0), _, _] = _
    simp [kp, cm, h]
theorem sees_fl {π : List Nat} {H : Heap} {n : Nat} {l : List A16} : cm (cin π true H) 8 (.ro n (l.flatMap aC)) = .ro n (l.flatMap aC) := by
  have h := rs_fl (g := aC) (l := l) (n := n) (f := fun p => idx p π) (x := fun p => if true then joinH H p else none) (b := true) (fun y => aC_cm y)
  simp only [sm, vm, S.v.injEq, V.c.injEq] at h
  exact h
structure LP (n : Nat) where
  i : Nat
  key : List UInt8
  num : UInt64
  hi : i ≤ n
  hk : key.length = 32
set_option maxHeartbeats 6400000 in
/-- escutcheonlaw16.CipherPlays -/
theorem plays_ (key : List UInt8) (hkey : key.length = 32) (has : Bool) (l : List A16) (n : Nat) (hl : l.length = n) (hl9 : n ≤ 140737488351232) : Good Try.prog 3 [.a (u8s key), .c (.bool has), .c (.ro n (l.flatMap aC))] [] (sc (.bool true)) [] := by
  refine good_frm 223 Try.func3 rfl rfl rfl rfl rfl rfl ?_
  refine awp_seq ?_
  refine rln ?_
  refine G2 (fun _ k_ => q_boxa k_) ?_
  refine As ?_
  refine gend ?_
  refine awp_seq ?_
  refine awp_seq ?_
  refine rln ?_
  refine Mv ?_
  refine G2 (fun _ k_ => q_callp (few_ l _ hl hl9) k_ (ha := (cac (et rfl) (sees_fl) ca0))) ?_
  refine G (q_notb ?_)
  refine gend ?_
  refine cndbn (fun hc1 => ?_) (fun hc1 => ?_)
  · refine awp_seq ?_
    refine rln ?_
    refine G2 (fun _ k_ => q_callp known_ k_) ?_
    refine As ?_
    refine gend ?_
    refine awp_ret ?_
    exact fp1
  refine awp_skip ?_
  refine awp_seq ?_
  refine rln ?_
  refine G2 (fun _ k_ => q_calln none_ k_ (ha := ca0)) ?_
  refine G (q_bls (fk0 ?_))
  refine G2 (fun _ k_ => q_boxa k_) ?_
  refine As ?_
  refine As ?_
  refine gend ?_
  refine awp_mid ⟨frm 223 [(2, sc (.ro n (l.flatMap aC))), (7, sc (.ptr 0 0)), (8, sc (.ptr 2 0))], [some (cC (kp has 1) 0), kb has (kz has key), some (rC has (kz has key) 0)]⟩ ?_ ?_
  · refine awp_seq ?_
    refine rln ?_
    refine Mv ?_
    refine gend ?_
    refine cndb (fun hc2 => ?_) (fun hc2 => ?_)
    · refine rdm [1, 4] [⟨[0, 1, 2, 3, 4, 5, 6], [1, 4], [1, 4], [0, 0, 0, 0, 1, 1, 2], [0, 1, 1, 1, 2, 2, 2]⟩, ⟨[0, 2, 3, 4, 1, 5, 6], [4, 1], [3, 4], [0, 0, 0, 0, 1, 2, 2], [1, 0, 0, 1, 2, 2, 2]⟩] ⟨?_, ?_, trivial⟩   -- region 5
      · refine DLw ?_
        refine De2 (fun _ k_ => q_callv [] [] [some (u8s key), some (cC (.ptr 0 0) 0)] (new_ key hkey) k_ (ha := (caa (et rfl) sees_m ca0)) (eM := (ml1 sees_m (ml1 rfl ml0)))) ?_
        refine DLw ?_
        refine Dp (fun _ => q_bls (fkc rfl rfl rfl (Nat.le_of_ble_eq_true rfl) (fka rfl (et rfl) ((mapc_length ..).trans hkey) (Nat.le_of_ble_eq_true rfl) (fk0 ⟨rfl, rfl⟩)))) ?_
        refine De2 (fun _ k_ => q_boxa k_) ?_
        refine Dp (fun _ => q_as (s := .v (.c _)) ⟨rfl, rfl⟩) ?_
        refine Dp (fun _ => q_as (s := .v (.c _)) ⟨rfl, rfl⟩) ?_
        refine dend ?_
        exact (by subst hc2; exact sle_ren [(4, true), (3, true), (5, true)] rfl (fun p h => absurd h (Nat.not_lt_zero _)) ⟨rs_fl (fun y => aC_cm y), rfl, rfl, trivial⟩ (Eq.symm (a := renL _ _ _) (rlT rfl rfl (rlT rfl sees_m (rlT rfl ((congrArg (List.map _) (rc_new' hkey)).trans rC_map) rl0)))))
      refine DLw ?_
      refine DLw ?_
      refine Dp (fun _ => q_bls (fkc rfl rfl rfl (Nat.le_of_ble_eq_true rfl) (fka rfl (et rfl) ((mapc_length ..).trans hkey) (Nat.le_of_ble_eq_true rfl) (fk0 ⟨rfl, rfl⟩)))) ?_
      refine De2 (fun _ k_ => q_boxa k_) ?_
      refine De2 (fun _ k_ => q_callv [] [] [some (u8s key), some (cC (.ptr 0 0) 0)] (new_ key hkey) k_ (ha := (caa (et rfl) sees_m ca0)) (eM := (ml1 sees_m (ml1 rfl ml0)))) ?_
      refine Dp (fun _ => q_as (s := .v (.c _)) ⟨rfl, rfl⟩) ?_
      refine Dp (fun _ => q_as (s := .v (.c _)) ⟨rfl, rfl⟩) ?_
      refine dend ?_
      exact (by subst hc2; exact sle_ren [(5, true), (4, true), (3, true)] rfl (fun p h => absurd h (Nat.not_lt_zero _)) ⟨rs_fl (fun y => aC_cm y), rfl, rfl, trivial⟩ (Eq.symm (a := renL _ _ _) (rlT rfl rfl (rlT rfl sees_m (rlT rfl ((congrArg (List.map _) (rc_new' hkey)).trans rC_map) rl0)))))
    refine awp_skip ?_
    exact (by subst hc2; exact sle_ren [(1, true), (0, false), (2, true)] rfl (fun p h => absurd h (Nat.not_lt_zero _)) ⟨rs_fl (fun y => aC_cm y), rfl, rfl, trivial⟩ (Eq.symm (a := renL _ _ _) (rlT rfl rfl (rlF (rlT rfl (rC_map (b := false) (key := List.replicate 32 0)) rl0)))))
  refine awp_seq ?_
  refine awp_seq ?_
  refine rln ?_
  refine G (q_as (s := sc (cn 0)) ?_)
  refine gend ?_
  refine awp_block ?_
  refine awp_loop (fun x : LP n => ⟨frm 223 [(2, sc (.ro n (l.flatMap aC))), (7, sc (.ptr 0 0)), (8, sc (.ptr 2 0)), (9, sc (cn x.i))], [some (cC (kp has 1) x.num), kb has x.key, some (rC has x.key x.num)]⟩) (fun x => n - x.i) ⟨0, kz has key, 0, Nat.zero_le _, kz_len hkey⟩ (sle_sub ⟨rfl, rfl, rfl, rfl, trivial⟩ rfl) fun x => ?_   -- live: [2, 7, 8, 9]
  obtain ⟨a, ha⟩ : ∃ a, l.getD x.i a16 = a := ⟨_, rfl⟩
  have hxi := x.hi
  have hab := fewB_at hc1 x.i
  rw [ha] at hab
  obtain ⟨ha1, ha2⟩ := hab
  have hL0 : (rC has x.key x.num).length = 34 := rC_len x.hk
  have hL1 : 1 + 32 ≤ (rC has x.key x.num).length := by rw [hL0]; decide
  refine awp_seq ?_
  refine awp_seq ?_
  refine rln ?_
  refine Mv ?_
  refine Mv ?_
  refine G (q_leno ?_)
  refine G (q_lssn ?_)
  refine gend ?_
  refine cnd (fun hc3 => ?_) (fun hc3 => ?_); rotate_left
  · refine awp_exit ?_
    refine awp_seq ?_
    refine rln ?_
    refine G2 (fun _ k_ => q_callp known_ k_) ?_
    refine As ?_
    refine gend ?_
    refine awp_ret ?_
    exact fp1
  refine awp_skip ?_
  refine awp_seq ?_
  refine awp_block ?_
  refine awp_seq ?_
  refine rln ?_
  refine As ?_
  refine As ?_
  refine gend ?_
  refine awp_seq ?_
  refine rln ?_
  refine G (q_as (s := sc (cn 0)) ?_)
  refine G (q_as (s := sc (cn 0)) ?_)
  refine gend ?_
  refine awp_seq ?_
  refine awp_seq ?_
  refine rln ?_
  refine Mv ?_
  refine Mv ?_
  refine G (q_ixe (l := l) ha aC_len ?_)
  refine G (q_far ?_)
  refine G (q_ldr ?_)
  refine gend ?_
  refine awp_block ?_
  refine awp_seq ?_
  refine rln ?_
  refine G (q_eqli (y := 1) ?_)
  refine As ?_
  refine gend ?_
  refine cnd (fun hc4 => ?_) (fun hc4 => ?_)
  · refine awp_seq ?_
    refine rdln [11] [0, 0, 0, 0, 0, 0, 0, 0, 0, 0, 0, 0, 1, 1, 1, 1, 1] [0, 0, 0, 0, 0, 0, 0, 0, 0, 0, 0, 1, 1, 1, 1, 1, 1] ?_
    refine Dp (fun _ => q_mv (s := .v (.c _)) ⟨rfl, rfl⟩) ?_
    refine Dp (fun _ => q_mv (s := .v (.c _)) ⟨rfl, rfl⟩) ?_
    refine Dp (fun _ => q_mv (s := .v (.c _)) ⟨rfl, rfl⟩) ?_
    refine Dp (fun _ => q_ixe (l := l) ha aC_len ⟨rfl, rfl⟩) ?_
    refine Dp (fun _ => q_far ⟨rfl, rfl⟩) ?_
    refine Dp (fun _ => q_ldr ⟨rfl, rfl⟩) ?_
    refine Dp (fun _ => q_mv (s := .v (.c _)) ⟨rfl, rfl⟩) ?_
    refine Dp (fun _ => q_mv (s := .v (.c _)) ⟨rfl, rfl⟩) ?_
    refine Dp (fun _ => q_ixe (l := l) ha aC_len ⟨rfl, rfl⟩) ?_
    refine Dp (fun _ => q_far ⟨rfl, rfl⟩) ?_
    refine Dp (fun _ => q_ldr ⟨rfl, rfl⟩) ?_
    refine De2 (fun _ k_ => q_callv [0, 1] [some (cC (kp has 1) (cSl has x.key x.num a.ad a.b).2.1), kb has x.key] [some (u8s (cSl has x.key x.num a.ad a.b).1)] (cseal_u has x.key a.ad a.b x.num _ _ x.hk rfl (by omega) rfl (by omega)) k_ (ha := (cac (et rfl) rfl (cac (et rfl) sees_ro (cac (et rfl) sees_ro ca0)))) (e2 := pl1 rfl (kC_map rfl) (plb rfl kb_map pl0)) (eL := ml1 (kC_map rfl) (mlb kb_map ml0)) (eM := ml1 sees_m ml0)) ?_
    refine Dp (fun _ => q_mv (s := .t _) ⟨rfl, rfl⟩) ?_
    refine Dp (fun _ => q_ext (y := .c _) ⟨rfl, rfl⟩) ?_
    refine Dp (fun _ => q_ext (y := .c _) ⟨rfl, rfl⟩) ?_
    refine Dp (fun _ => q_as (s := .v (.c _)) ⟨rfl, rfl⟩) ?_
    refine Dp (fun _ => q_as (s := .v (.c _)) ⟨rfl, rfl⟩) ?_
    refine dend ?_
    refine rdln [11] [0, 0, 0, 0, 0, 0, 0, 0, 0, 0, 0, 0, 1, 1, 1, 1, 1] [0, 0, 0, 0, 0, 0, 0, 0, 0, 0, 0, 1, 1, 1, 1, 1, 1] ?_
    refine Dp (fun _ => q_mv (s := .v (.c _)) ⟨rfl, rfl⟩) ?_
    refine Dp (fun _ => q_mv (s := .v (.c _)) ⟨rfl, rfl⟩) ?_
    refine Dp (fun _ => q_mv (s := .v (.c _)) ⟨rfl, rfl⟩) ?_
    refine Dp (fun _ => q_ixe (l := l) ha aC_len ⟨rfl, rfl⟩) ?_
    refine Dp (fun _ => q_far ⟨rfl, rfl⟩) ?_
    refine Dp (fun _ => q_ldr ⟨rfl, rfl⟩) ?_
    refine Dp (fun _ => q_mv (s := .v (.c _)) ⟨rfl, rfl⟩) ?_
    refine Dp (fun _ => q_mv (s := .v (.c _)) ⟨rfl, rfl⟩) ?_
    refine Dp (fun _ => q_ixe (l := l) ha aC_len ⟨rfl, rfl⟩) ?_
    refine Dp (fun _ => q_far ⟨rfl, rfl⟩) ?_
    refine Dp (fun _ => q_ldr ⟨rfl, rfl⟩) ?_
    refine De2 (fun _ k_ => q_callv [2] [some (rC has x.key (cSl has x.key x.num a.ad a.b).2.1)] [some (u8s (cSl has x.key x.num a.ad a.b).1)] (rseal_u [] 0 rfl (fun _ _ => rfl) has x.key a.ad a.b x.num _ _ x.hk rfl (by omega) rfl (by omega)) k_ (ha := (cac (et rfl) rfl (cac (et rfl) sees_ro (cac (et rfl) sees_ro ca0)))) (e2 := pl1 rfl rC_map pl0) (eL := ml1 rC_map ml0) (eM := ml1 sees_m ml0)) ?_
    refine Dp (fun _ => q_mv (s := .t _) ⟨rfl, rfl⟩) ?_
    refine Dp (fun _ => q_ext (y := .c _) ⟨rfl, rfl⟩) ?_
    refine Dp (fun _ => q_ext (y := .c _) ⟨rfl, rfl⟩) ?_
    refine Dp (fun _ => q_as (s := .v (.c _)) ⟨rfl, rfl⟩) ?_
    refine Dp (fun _ => q_as (s := .v (.c _)) ⟨rfl, rfl⟩) ?_
    refine dend ?_
    refine awp_seq ?_
    refine rdln [12, 21] [0, 0, 0, 0, 0, 0, 0, 0, 0, 0, 0, 0, 0, 0, 0, 0, 0, 1, 1, 1, 1, 1, 1, 1, 1, 1, 2, 2] [0, 0, 0, 0, 0, 0, 0, 0, 0, 0, 0, 0, 1, 1, 1, 1, 1, 1, 1, 1, 1, 2, 2, 2, 2, 2, 2, 2] ?_
    refine Dp (fun _ => q_mv (s := .v (.c _)) ⟨rfl, rfl⟩) ?_
    refine Dp (fun _ => q_mv (s := .v (.c _)) ⟨rfl, rfl⟩) ?_
    refine Dp (fun _ => q_neqn ⟨rfl, rfl⟩) ?_
    refine Dp (fun _ => q_mv (s := .v (.c _)) ⟨rfl, rfl⟩) ?_
    refine Dkfd 197 (fun hb4 => ?_) ?_; rotate_left
    · exact fun h => h rfl
    refine Dpg (fun _ => q_mv (s := .v (.c _)) ⟨rfl, rfl⟩) ?_
    refine DCsg ?_
    refine Dpg (fun _ => q_mv (s := .v (.c _)) ⟨rfl, rfl⟩) ?_
    refine DCsg ?_
    refine Dpg (fun _ => q_neqs ⟨rfl, rfl⟩) ?_
    refine Dp (fun _ => q_pkf ⟨rfl, rfl⟩) ?_
    refine Dp (fun _ => q_mv (s := .v (.c _)) ⟨rfl, rfl⟩) ?_
    refine Dkf 204 (fun hb11 => ?_) ?_; rotate_left
    · simp
    refine Dpg (fun _ => q_mv (s := .v (.c _)) ⟨rfl, rfl⟩) ?_
    refine De2g (fun _ k_ => q_callp (n_ _ _ _) k_ (ha := (cac (et rfl) (sees_ku rfl rfl (by first | exact x.hk | exact anext_len _) rfl rfl) ca0))) ?_
    refine Dpg (fun _ => q_mv (s := .v (.c _)) ⟨rfl, rfl⟩) ?_
    refine Dpg (fun _ => q_ncp ⟨rfl, rfl⟩) ?_
    refine Dpg (fun _ => q_fap0 ⟨rfl, rfl⟩) ?_
    refine DLpg  ?_ (hc := by first | exact rC_n x.hk | exact rC_n (anext_len _))
    refine Dpg (fun _ => q_neq64 ⟨rfl, rfl⟩) ?_
    refine Dp (fun _ => q_pkf ⟨rfl, rfl⟩) ?_
    refine Dp (fun _ => q_mv (s := .v (.c _)) ⟨rfl, rfl⟩) ?_
    refine Dkfd 213 (fun hb20 => ?_) ?_; rotate_left
    · exact fun h => h rfl
    refine Dpg (fun _ => q_mv (s := .v (.c _)) ⟨rfl, rfl⟩) ?_
    refine De2g (fun _ k_ => q_callp (has_u _ _ _) k_ (ha := (cac (et rfl) (sees_ku rfl rfl (by first | exact x.hk | exact anext_len _) rfl rfl) ca0))) ?_
    refine Dpg (fun _ => q_mv (s := .v (.c _)) ⟨rfl, rfl⟩) ?_
    refine Dpg (fun _ => q_ncp ⟨rfl, rfl⟩) ?_
    refine Dpg (fun _ => q_fap0 ⟨rfl, rfl⟩) ?_
    refine DLpg  ?_
    refine Dpg (fun _ => q_neqb ⟨rfl, rfl⟩) ?_
    refine Dp (fun _ => q_pkf ⟨rfl, rfl⟩) ?_
    refine dend ?_
    refine cndbN (fun hc5 => ?_) ?_; rotate_left
    · simp
    refine awp_skip ?_
    refine rln ?_
    refine Mv ?_
    refine G (q_addn (y := 1) ?_)
    refine As ?_
    refine gend ?_
    exact ⟨⟨x.i + 1, x.key, (cSl has x.key x.num a.ad a.b).2.1, by omega, x.hk⟩, by show n - (x.i + 1) < n - x.i; omega, sle_ren [(0, true), (1, true), (2, true)] rfl (fun p h => absurd h (Nat.not_lt_zero _)) ⟨rs_fl (fun y => aC_cm y), rfl, rfl, rfl, trivial⟩ (Eq.symm (a := renL _ _ _) (rlT rfl (kC_map rfl) (rlB rfl kb_map (rlT rfl rC_map rl0))))⟩   -- endloop 1
  refine awp_seq ?_
  refine rln ?_
  refine G (q_eqli (y := 2) ?_)
  refine As ?_
  refine gend ?_
  refine cnd (fun hc6 => ?_) (fun hc6 => ?_)
  · refine awp_seq ?_
    refine rdln [11] [0, 0, 0, 0, 0, 0, 0, 0, 0, 0, 0, 0, 1, 1, 1, 1, 1] [0, 0, 0, 0, 0, 0, 0, 0, 0, 0, 0, 1, 1, 1, 1, 1, 1] ?_
    refine Dp (fun _ => q_mv (s := .v (.c _)) ⟨rfl, rfl⟩) ?_
    refine Dp (fun _ => q_mv (s := .v (.c _)) ⟨rfl, rfl⟩) ?_
    refine Dp (fun _ => q_mv (s := .v (.c _)) ⟨rfl, rfl⟩) ?_
    refine Dp (fun _ => q_ixe (l := l) ha aC_len ⟨rfl, rfl⟩) ?_
    refine Dp (fun _ => q_far ⟨rfl, rfl⟩) ?_
    refine Dp (fun _ => q_ldr ⟨rfl, rfl⟩) ?_
    refine Dp (fun _ => q_mv (s := .v (.c _)) ⟨rfl, rfl⟩) ?_
    refine Dp (fun _ => q_mv (s := .v (.c _)) ⟨rfl, rfl⟩) ?_
    refine Dp (fun _ => q_ixe (l := l) ha aC_len ⟨rfl, rfl⟩) ?_
    refine Dp (fun _ => q_far ⟨rfl, rfl⟩) ?_
    refine Dp (fun _ => q_ldr ⟨rfl, rfl⟩) ?_
    refine De2 (fun _ k_ => q_callv [0, 1] [some (cC (kp has 1) (cOp has x.key x.num a.ad a.b).2.1), kb has x.key] [some (u8s (cOp has x.key x.num a.ad a.b).1)] (copen_u has x.key a.ad a.b x.num _ _ x.hk rfl (by omega) rfl (by omega)) k_ (ha := (cac (et rfl) rfl (cac (et rfl) sees_ro (cac (et rfl) sees_ro ca0)))) (e2 := pl1 rfl (kC_map rfl) (plb rfl kb_map pl0)) (eL := ml1 (kC_map rfl) (mlb kb_map ml0)) (eM := ml1 sees_m ml0)) ?_
    refine Dp (fun _ => q_mv (s := .t _) ⟨rfl, rfl⟩) ?_
    refine Dp (fun _ => q_ext (y := .c _) ⟨rfl, rfl⟩) ?_
    refine Dp (fun _ => q_ext (y := .c _) ⟨rfl, rfl⟩) ?_
    refine Dp (fun _ => q_as (s := .v (.c _)) ⟨rfl, rfl⟩) ?_
    refine Dp (fun _ => q_as (s := .v (.c _)) ⟨rfl, rfl⟩) ?_
    refine dend ?_
    refine rdln [11] [0, 0, 0, 0, 0, 0, 0, 0, 0, 0, 0, 0, 1, 1, 1, 1, 1] [0, 0, 0, 0, 0, 0, 0, 0, 0, 0, 0, 1, 1, 1, 1, 1, 1] ?_
    refine Dp (fun _ => q_mv (s := .v (.c _)) ⟨rfl, rfl⟩) ?_
    refine Dp (fun _ => q_mv (s := .v (.c _)) ⟨rfl, rfl⟩) ?_
    refine Dp (fun _ => q_mv (s := .v (.c _)) ⟨rfl, rfl⟩) ?_
    refine Dp (fun _ => q_ixe (l := l) ha aC_len ⟨rfl, rfl⟩) ?_
    refine Dp (fun _ => q_far ⟨rfl, rfl⟩) ?_
    refine Dp (fun _ => q_ldr ⟨rfl, rfl⟩) ?_
    refine Dp (fun _ => q_mv (s := .v (.c _)) ⟨rfl, rfl⟩) ?_
    refine Dp (fun _ => q_mv (s := .v (.c _)) ⟨rfl, rfl⟩) ?_
    refine Dp (fun _ => q_ixe (l := l) ha aC_len ⟨rfl, rfl⟩) ?_
    refine Dp (fun _ => q_far ⟨rfl, rfl⟩) ?_
    refine Dp (fun _ => q_ldr ⟨rfl, rfl⟩) ?_
    refine De2 (fun _ k_ => q_callv [2] [some (rC has x.key (cOp has x.key x.num a.ad a.b).2.1)] [some (u8s (cOp has x.key x.num a.ad a.b).1)] (ropen_u [] 0 rfl (fun _ _ => rfl) has x.key a.ad a.b x.num _ _ x.hk rfl (by omega) rfl (by omega)) k_ (ha := (cac (et rfl) rfl (cac (et rfl) sees_ro (cac (et rfl) sees_ro ca0)))) (e2 := pl1 rfl rC_map pl0) (eL := ml1 rC_map ml0) (eM := ml1 sees_m ml0)) ?_
    refine Dp (fun _ => q_mv (s := .t _) ⟨rfl, rfl⟩) ?_
    refine Dp (fun _ => q_ext (y := .c _) ⟨rfl, rfl⟩) ?_
    refine Dp (fun _ => q_ext (y := .c _) ⟨rfl, rfl⟩) ?_
    refine Dp (fun _ => q_as (s := .v (.c _)) ⟨rfl, rfl⟩) ?_
    refine Dp (fun _ => q_as (s := .v (.c _)) ⟨rfl, rfl⟩) ?_
    refine dend ?_
    refine awp_seq ?_
    refine rdln [12, 21] [0, 0, 0, 0, 0, 0, 0, 0, 0, 0, 0, 0, 0, 0, 0, 0, 0, 1, 1, 1, 1, 1, 1, 1, 1, 1, 2, 2] [0, 0, 0, 0, 0, 0, 0, 0, 0, 0, 0, 0, 1, 1, 1, 1, 1, 1, 1, 1, 1, 2, 2, 2, 2, 2, 2, 2] ?_
    refine Dp (fun _ => q_mv (s := .v (.c _)) ⟨rfl, rfl⟩) ?_
    refine Dp (fun _ => q_mv (s := .v (.c _)) ⟨rfl, rfl⟩) ?_
    refine Dp (fun _ => q_neqn ⟨rfl, rfl⟩) ?_
    refine Dp (fun _ => q_mv (s := .v (.c _)) ⟨rfl, rfl⟩) ?_
    refine Dkfd 197 (fun hb4 => ?_) ?_; rotate_left
    · exact fun h => h rfl
    refine Dpg (fun _ => q_mv (s := .v (.c _)) ⟨rfl, rfl⟩) ?_
    refine DCsg ?_
    refine Dpg (fun _ => q_mv (s := .v (.c _)) ⟨rfl, rfl⟩) ?_
    refine DCsg ?_
    refine Dpg (fun _ => q_neqs ⟨rfl, rfl⟩) ?_
    refine Dp (fun _ => q_pkf ⟨rfl, rfl⟩) ?_
    refine Dp (fun _ => q_mv (s := .v (.c _)) ⟨rfl, rfl⟩) ?_
    refine Dkf 204 (fun hb11 => ?_) ?_; rotate_left
    · simp
    refine Dpg (fun _ => q_mv (s := .v (.c _)) ⟨rfl, rfl⟩) ?_
    refine De2g (fun _ k_ => q_callp (n_ _ _ _) k_ (ha := (cac (et rfl) (sees_ku rfl rfl (by first | exact x.hk | exact anext_len _) rfl rfl) ca0))) ?_
    refine Dpg (fun _ => q_mv (s := .v (.c _)) ⟨rfl, rfl⟩) ?_
    refine Dpg (fun _ => q_ncp ⟨rfl, rfl⟩) ?_
    refine Dpg (fun _ => q_fap0 ⟨rfl, rfl⟩) ?_
    refine DLpg  ?_ (hc := by first | exact rC_n x.hk | exact rC_n (anext_len _))
    refine Dpg (fun _ => q_neq64 ⟨rfl, rfl⟩) ?_
    refine Dp (fun _ => q_pkf ⟨rfl, rfl⟩) ?_
    refine Dp (fun _ => q_mv (s := .v (.c _)) ⟨rfl, rfl⟩) ?_
    refine Dkfd 213 (fun hb20 => ?_) ?_; rotate_left
    · exact fun h => h rfl
    refine Dpg (fun _ => q_mv (s := .v (.c _)) ⟨rfl, rfl⟩) ?_
    refine De2g (fun _ k_ => q_callp (has_u _ _ _) k_ (ha := (cac (et rfl) (sees_ku rfl rfl (by first | exact x.hk | exact anext_len _) rfl rfl) ca0))) ?_
    refine Dpg (fun _ => q_mv (s := .v (.c _)) ⟨rfl, rfl⟩) ?_
    refine Dpg (fun _ => q_ncp ⟨rfl, rfl⟩) ?_
    refine Dpg (fun _ => q_fap0 ⟨rfl, rfl⟩) ?_
    refine DLpg  ?_
    refine Dpg (fun _ => q_neqb ⟨rfl, rfl⟩) ?_
    refine Dp (fun _ => q_pkf ⟨rfl, rfl⟩) ?_
    refine dend ?_
    refine cndbN (fun hc7 => ?_) ?_; rotate_left
    · simp
    refine awp_skip ?_
    refine rln ?_
    refine Mv ?_
    refine G (q_addn (y := 1) ?_)
    refine As ?_
    refine gend ?_
    exact ⟨⟨x.i + 1, x.key, (cOp has x.key x.num a.ad a.b).2.1, by omega, x.hk⟩, by show n - (x.i + 1) < n - x.i; omega, sle_ren [(0, true), (1, true), (2, true)] rfl (fun p h => absurd h (Nat.not_lt_zero _)) ⟨rs_fl (fun y => aC_cm y), rfl, rfl, rfl, trivial⟩ (Eq.symm (a := renL _ _ _) (rlT rfl (kC_map rfl) (rlB rfl kb_map (rlT rfl rC_map rl0))))⟩   -- endloop 1
  refine awp_seq ?_
  refine rln ?_
  refine G (q_eqli (y := 3) ?_)
  refine As ?_
  refine gend ?_
  refine cnd (fun hc8 => ?_) (fun hc8 => ?_)
  · refine awp_seq ?_
    refine rln ?_
    refine Mv ?_
    refine G (q_ncp ?_)
    refine G (q_ldw ?_)
    refine G2 (fun _ k_ => q_al k_) ?_
    refine G20 (fun _ k_ => q_stw k_) ?_
    refine gend ?_
    refine awp_seq ?_
    refine rdln [10] [0, 0, 0, 0, 0, 0, 0, 0, 0, 0, 0, 1, 1, 1, 1, 1] [0, 0, 0, 0, 0, 0, 0, 0, 0, 0, 1, 1, 1, 1, 1, 1] ?_
    refine Dp (fun _ => q_mv (s := .v (.c _)) ⟨rfl, rfl⟩) ?_
    refine Dp (fun _ => q_mv (s := .v (.c _)) ⟨rfl, rfl⟩) ?_
    refine Dp (fun _ => q_ixe (l := l) ha aC_len ⟨rfl, rfl⟩) ?_
    refine Dp (fun _ => q_far ⟨rfl, rfl⟩) ?_
    refine Dp (fun _ => q_ldr ⟨rfl, rfl⟩) ?_
    refine Dp (fun _ => q_mv (s := .v (.c _)) ⟨rfl, rfl⟩) ?_
    refine Dp (fun _ => q_mv (s := .v (.c _)) ⟨rfl, rfl⟩) ?_
    refine Dp (fun _ => q_ixe (l := l) ha aC_len ⟨rfl, rfl⟩) ?_
    refine Dp (fun _ => q_far ⟨rfl, rfl⟩) ?_
    refine Dp (fun _ => q_ldr ⟨rfl, rfl⟩) ?_
    refine De2 (fun _ k_ => q_callv [3] [some (rC has x.key (cSl has x.key x.num a.ad a.b).2.1)] [some (u8s (cSl has x.key x.num a.ad a.b).1)] (rseal_u [] 0 rfl (fun _ _ => rfl) has x.key a.ad a.b x.num _ _ x.hk rfl (by omega) rfl (by omega)) k_ (ha := (cac (et rfl) rfl (cac (et rfl) sees_ro (cac (et rfl) sees_ro ca0)))) (e2 := pl1 rfl rC_map pl0) (eL := ml1 rC_map ml0) (eM := ml1 sees_m ml0)) ?_
    refine Dp (fun _ => q_mv (s := .t _) ⟨rfl, rfl⟩) ?_
    refine Dp (fun _ => q_ext (y := .c _) ⟨rfl, rfl⟩) ?_
    refine Dp (fun _ => q_ext (y := .c _) ⟨rfl, rfl⟩) ?_
    refine Dp (fun _ => q_as (s := .v (.c _)) ⟨rfl, rfl⟩) ?_
    refine Dp (fun _ => q_as (s := .v (.c _)) ⟨rfl, rfl⟩) ?_
    refine dend ?_
    refine awp_seq ?_
    refine awp_seq ?_
    refine rln ?_
    refine Mv ?_
    refine G (q_neqn (y := 0) ?_)
    refine gend ?_
    refine cnd (fun hc9 => ?_) (fun hc9 => ?_)
    · refine awp_exit ?_
      refine rln ?_
      refine Mv ?_
      refine G (q_addn (y := 1) ?_)
      refine As ?_
      refine gend ?_
      exact ⟨⟨x.i + 1, x.key, x.num, by omega, x.hk⟩, by show n - (x.i + 1) < n - x.i; omega, sle_ren [(0, true), (1, true), (2, true)] rfl (fun p h => absurd h (Nat.not_lt_zero _)) ⟨rs_fl (fun y => aC_cm y), rfl, rfl, rfl, trivial⟩ (Eq.symm (a := renL _ _ _) (rlT rfl (kC_map rfl) (rlB rfl kb_map (rlT rfl rC_map rl0))))⟩   -- endloop 1
    have h0 : (cSl has x.key x.num a.ad a.b).2.2 = 0 := Decidable.not_not.1 hc9
    have hSl := cSl_len (has := has) (key := x.key) (ad := a.ad) (l := a.b) (n := x.num)
    have g1 := copen_u has x.key a.ad (cSl has x.key x.num a.ad a.b).1 x.num _ _ x.hk rfl (by omega) rfl (by omega)
    have g2 := ropen_u [] 0 rfl (fun _ _ => rfl) has x.key a.ad (cSl has x.key x.num a.ad a.b).1 x.num _ _ x.hk rfl (by omega) rfl (by omega)
    rw [cOp_cSl h0] at g1 g2
    refine awp_skip ?_
    refine awp_seq ?_
    refine rln ?_
    refine Mv ?_
    refine Mv ?_
    refine Mv ?_
    refine G (q_ixe (l := l) ha aC_len ?_)
    refine G (q_far ?_)
    refine G (q_ldr ?_)
    refine Mv ?_
    refine G2 (fun _ k_ => q_callv [0, 1] [some (cC (kp has 1) (cSl has x.key x.num a.ad a.b).2.1), kb has x.key] [some (u8s a.b)] g1 k_ (ha := (cac (et rfl) rfl (cac (et rfl) sees_ro (cac (et rfl) (sees_slc rfl rfl (cut_h rfl)) ca0)))) (e2 := pl1 rfl (kC_map rfl) (plb rfl kb_map pl0)) (eL := ml1 (kC_map rfl) (mlb kb_map ml0)) (eM := ml1 sees_m ml0)) ?_
    refine G (q_mv (s := .t _) ?_)
    refine G (q_ext (y := .c _) ?_)
    refine G (q_ext (y := .c _) ?_)
    refine As ?_
    refine As ?_
    refine gend ?_
    refine awp_seq ?_
    refine rln ?_
    refine Mv ?_
    refine Mv ?_
    refine Mv ?_
    refine G (q_ixe (l := l) ha aC_len ?_)
    refine G (q_far ?_)
    refine G (q_ldr ?_)
    refine Mv ?_
    refine G2 (fun _ k_ => q_callv [2] [some (rC has x.key (cSl has x.key x.num a.ad a.b).2.1)] [some (u8s a.b)] g2 k_ (ha := (cac (et rfl) rfl (cac (et rfl) sees_ro (cac (et rfl) (sees_slc rfl rfl (cut_h rfl)) ca0)))) (e2 := pl1 rfl rC_map pl0) (eL := ml1 rC_map ml0) (eM := ml1 sees_m ml0)) ?_
    refine G (q_mv (s := .t _) ?_)
    refine G (q_ext (y := .c _) ?_)
    refine G (q_ext (y := .c _) ?_)
    refine As ?_
    refine As ?_
    refine gend ?_
    refine awp_seq ?_
    refine rdln [] [] [] ?_
    refine Dp (fun _ => q_mv (s := .v (.c _)) ⟨rfl, rfl⟩) ?_
    refine Dp (fun _ => q_neqn (y := 0) ⟨rfl, rfl⟩) ?_
    refine Dp (fun _ => q_mv (s := .v (.c _)) ⟨rfl, rfl⟩) ?_
    refine Dkfd 150 (fun hb3 => ?_) ?_; rotate_left
    · exact fun h => h rfl
    refine Dpg (fun _ => q_mv (s := .v (.c _)) ⟨rfl, rfl⟩) ?_
    refine DCsg ?_
    refine Dpg (fun _ => q_mv (s := .v (.c _)) ⟨rfl, rfl⟩) ?_
    refine Dpg (fun _ => q_mv (s := .v (.c _)) ⟨rfl, rfl⟩) ?_
    refine Dpg (fun _ => q_ixe (l := l) ha aC_len ⟨rfl, rfl⟩) ?_
    refine Dpg (fun _ => q_far ⟨rfl, rfl⟩) ?_
    refine Dpg (fun _ => q_ldr ⟨rfl, rfl⟩) ?_
    refine Dpg (fun _ => q_cso ⟨rfl, rfl⟩) ?_
    refine Dpg (fun _ => q_neqs ⟨rfl, rfl⟩) ?_
    refine Dp (fun _ => q_pkf ⟨rfl, rfl⟩) ?_
    refine dend ?_
    refine cndnN (fun hc10 => ?_) ?_; rotate_left
    · simp
    refine awp_skip ?_
    refine awp_seq ?_
    refine rdln [12, 21] [0, 0, 0, 0, 0, 0, 0, 0, 0, 0, 0, 0, 0, 0, 0, 0, 0, 1, 1, 1, 1, 1, 1, 1, 1, 1, 2, 2] [0, 0, 0, 0, 0, 0, 0, 0, 0, 0, 0, 0, 1, 1, 1, 1, 1, 1, 1, 1, 1, 2, 2, 2, 2, 2, 2, 2] ?_
    refine Dp (fun _ => q_mv (s := .v (.c _)) ⟨rfl, rfl⟩) ?_
    refine Dp (fun _ => q_mv (s := .v (.c _)) ⟨rfl, rfl⟩) ?_
    refine Dp (fun _ => q_neqn ⟨rfl, rfl⟩) ?_
    refine Dp (fun _ => q_mv (s := .v (.c _)) ⟨rfl, rfl⟩) ?_
    refine Dkfd 197 (fun hb4 => ?_) ?_; rotate_left
    · exact fun h => h rfl
    refine Dpg (fun _ => q_mv (s := .v (.c _)) ⟨rfl, rfl⟩) ?_
    refine DCsg ?_
    refine Dpg (fun _ => q_mv (s := .v (.c _)) ⟨rfl, rfl⟩) ?_
    refine DCsg ?_
    refine Dpg (fun _ => q_neqs ⟨rfl, rfl⟩) ?_
    refine Dp (fun _ => q_pkf ⟨rfl, rfl⟩) ?_
    refine Dp (fun _ => q_mv (s := .v (.c _)) ⟨rfl, rfl⟩) ?_
    refine Dkf 204 (fun hb11 => ?_) ?_; rotate_left
    · simp
    refine Dpg (fun _ => q_mv (s := .v (.c _)) ⟨rfl, rfl⟩) ?_
    refine De2g (fun _ k_ => q_callp (n_ _ _ _) k_ (ha := (cac (et rfl) (sees_ku rfl rfl (by first | exact x.hk | exact anext_len _) rfl rfl) ca0))) ?_
    refine Dpg (fun _ => q_mv (s := .v (.c _)) ⟨rfl, rfl⟩) ?_
    refine Dpg (fun _ => q_ncp ⟨rfl, rfl⟩) ?_
    refine Dpg (fun _ => q_fap0 ⟨rfl, rfl⟩) ?_
    refine DLpg  ?_ (hc := by first | exact rC_n x.hk | exact rC_n (anext_len _))
    refine Dpg (fun _ => q_neq64 ⟨rfl, rfl⟩) ?_
    refine Dp (fun _ => q_pkf ⟨rfl, rfl⟩) ?_
    refine Dp (fun _ => q_mv (s := .v (.c _)) ⟨rfl, rfl⟩) ?_
    refine Dkfd 213 (fun hb20 => ?_) ?_; rotate_left
    · exact fun h => h rfl
    refine Dpg (fun _ => q_mv (s := .v (.c _)) ⟨rfl, rfl⟩) ?_
    refine De2g (fun _ k_ => q_callp (has_u _ _ _) k_ (ha := (cac (et rfl) (sees_ku rfl rfl (by first | exact x.hk | exact anext_len _) rfl rfl) ca0))) ?_
    refine Dpg (fun _ => q_mv (s := .v (.c _)) ⟨rfl, rfl⟩) ?_
    refine Dpg (fun _ => q_ncp ⟨rfl, rfl⟩) ?_
    refine Dpg (fun _ => q_fap0 ⟨rfl, rfl⟩) ?_
    refine DLpg  ?_
    refine Dpg (fun _ => q_neqb ⟨rfl, rfl⟩) ?_
    refine Dp (fun _ => q_pkf ⟨rfl, rfl⟩) ?_
    refine dend ?_
    refine cndbN (fun hc11 => ?_) ?_; rotate_left
    · simp
    refine awp_skip ?_
    refine rln ?_
    refine Mv ?_
    refine G (q_addn (y := 1) ?_)
    refine As ?_
    refine gend ?_
    exact ⟨⟨x.i + 1, x.key, (cSl has x.key x.num a.ad a.b).2.1, by omega, x.hk⟩, by show n - (x.i + 1) < n - x.i; omega, sle_ren [(0, true), (1, true), (2, true)] rfl (fun p h => absurd h (Nat.not_lt_zero _)) ⟨rs_fl (fun y => aC_cm y), rfl, rfl, rfl, trivial⟩ (Eq.symm (a := renL _ _ _) (rlT rfl (kC_map rfl) (rlB rfl kb_map (rlT rfl rC_map rl0))))⟩   -- endloop 1
  refine awp_seq ?_
  refine rln ?_
  refine G (q_eqli (y := 4) ?_)
  refine As ?_
  refine gend ?_
  refine cnd (fun hc12 => ?_) (fun hc12 => ?_)
  · refine awp_seq ?_
    refine rln ?_
    refine Mv ?_
    refine G2 (fun _ k_ => q_callv [0, 1] [some (cC (kp has 2) x.num), none] [kb has (anext x.key)] (rekey_u has x.key x.num x.hk) k_ (ha := (cac (et rfl) rfl ca0)) (e2 := pl1 rfl (kC_map rfl) (plb rfl kb_map pl0)) (eL := ml1 (kC_map (q := 3) rfl) (mln ml0)) (eM := mlb kb_map ml0)) ?_
    refine gend ?_
    refine awp_seq ?_
    refine rln ?_
    refine Mv ?_
    refine G (q_ncp ?_)
    refine G (q_fap0 ?_)
    refine G (q_ldp ?_)
    refine gend ?_
    refine cndb (fun hc13 => ?_) (fun hc13 => ?_)
    · refine rln ?_
      refine Mv ?_
      refine Mv ?_
      refine G (q_ncp ?_)
      refine G (q_fap0 ?_)
      refine G (q_lda (xs := u8s x.key) ?_ (hc := rC_k x.hk))
      refine G2 (fun _ k_ => q_callp (rnext_ x.key x.hk) k_ (ha := (caa (et rfl) sees_m ca0))) ?_
      refine G (q_ncp ?_)
      refine G (q_fap0 ?_)
      refine G20 (fun _ k_ => q_sta k_) ?_ (hH := by simp only [List.set_cons_zero, List.set_cons_succ, List.cons_append, List.nil_append]; exact congrArg (fun z => _ :: _ :: some z :: _) (rC_setk x.hk (anext_len _)))
      refine gend ?_
      refine awp_seq ?_
      refine rdln [12, 21] [0, 0, 0, 0, 0, 0, 0, 0, 0, 0, 0, 0, 0, 0, 0, 0, 0, 1, 1, 1, 1, 1, 1, 1, 1, 1, 2, 2] [0, 0, 0, 0, 0, 0, 0, 0, 0, 0, 0, 0, 1, 1, 1, 1, 1, 1, 1, 1, 1, 2, 2, 2, 2, 2, 2, 2] ?_
      refine Dp (fun _ => q_mv (s := .v (.c _)) ⟨rfl, rfl⟩) ?_
      refine Dp (fun _ => q_mv (s := .v (.c _)) ⟨rfl, rfl⟩) ?_
      refine Dp (fun _ => q_neqn ⟨rfl, rfl⟩) ?_
      refine Dp (fun _ => q_mv (s := .v (.c _)) ⟨rfl, rfl⟩) ?_
      refine Dkfd 197 (fun hb4 => ?_) ?_; rotate_left
      · exact fun h => h rfl
      refine Dpg (fun _ => q_mv (s := .v (.c _)) ⟨rfl, rfl⟩) ?_
      refine Dpg (fun _ => q_csn ⟨rfl, rfl⟩) ?_
      refine Dpg (fun _ => q_mv (s := .v (.c _)) ⟨rfl, rfl⟩) ?_
      refine Dpg (fun _ => q_csn ⟨rfl, rfl⟩) ?_
      refine Dpg (fun _ => q_neqs ⟨rfl, rfl⟩) ?_
      refine Dp (fun _ => q_pkf ⟨rfl, rfl⟩) ?_
      refine Dp (fun _ => q_mv (s := .v (.c _)) ⟨rfl, rfl⟩) ?_
      refine Dkf 204 (fun hb11 => ?_) ?_; rotate_left
      · simp
      refine Dpg (fun _ => q_mv (s := .v (.c _)) ⟨rfl, rfl⟩) ?_
      refine De2g (fun _ k_ => q_callp (n_ _ _ _) k_ (ha := (cac (et rfl) (sees_ku rfl rfl (by first | exact x.hk | exact anext_len _) rfl rfl) ca0))) ?_
      refine Dpg (fun _ => q_mv (s := .v (.c _)) ⟨rfl, rfl⟩) ?_
      refine Dpg (fun _ => q_ncp ⟨rfl, rfl⟩) ?_
      refine Dpg (fun _ => q_fap0 ⟨rfl, rfl⟩) ?_
      refine DLpg  ?_ (hc := by first | exact rC_n x.hk | exact rC_n (anext_len _))
      refine Dpg (fun _ => q_neq64 ⟨rfl, rfl⟩) ?_
      refine Dp (fun _ => q_pkf ⟨rfl, rfl⟩) ?_
      refine Dp (fun _ => q_mv (s := .v (.c _)) ⟨rfl, rfl⟩) ?_
      refine Dkfd 213 (fun hb20 => ?_) ?_; rotate_left
      · exact fun h => h rfl
      refine Dpg (fun _ => q_mv (s := .v (.c _)) ⟨rfl, rfl⟩) ?_
      refine De2g (fun _ k_ => q_callp (has_u _ _ _) k_ (ha := (cac (et rfl) (sees_ku rfl rfl (by first | exact x.hk | exact anext_len _) rfl rfl) ca0))) ?_
      refine Dpg (fun _ => q_mv (s := .v (.c _)) ⟨rfl, rfl⟩) ?_
      refine Dpg (fun _ => q_ncp ⟨rfl, rfl⟩) ?_
      refine Dpg (fun _ => q_fap0 ⟨rfl, rfl⟩) ?_
      refine DLpg  ?_
      refine Dpg (fun _ => q_neqb ⟨rfl, rfl⟩) ?_
      refine Dp (fun _ => q_pkf ⟨rfl, rfl⟩) ?_
      refine dend ?_
      refine cndbN (fun hc14 => ?_) ?_; rotate_left
      · simp
      refine awp_skip ?_
      refine rln ?_
      refine Mv ?_
      refine G (q_addn (y := 1) ?_)
      refine As ?_
      refine gend ?_
      exact ⟨⟨x.i + 1, anext x.key, x.num, by omega, anext_len _⟩, by show n - (x.i + 1) < n - x.i; omega, by subst hc13; exact sle_ren [(0, true), (3, true), (2, true)] rfl (fun p h => absurd h (Nat.not_lt_zero _)) ⟨rs_fl (fun y => aC_cm y), rfl, rfl, rfl, trivial⟩ (Eq.symm (a := renL _ _ _) (rlT rfl (kC_map rfl) (rlB rfl kb_map (rlT rfl rC_map rl0))))⟩   -- endloop 1
    refine awp_skip ?_
    refine awp_seq ?_
    refine rdln [12, 21] [0, 0, 0, 0, 0, 0, 0, 0, 0, 0, 0, 0, 0, 0, 0, 0, 0, 1, 1, 1, 1, 1, 1, 1, 1, 1, 2, 2] [0, 0, 0, 0, 0, 0, 0, 0, 0, 0, 0, 0, 1, 1, 1, 1, 1, 1, 1, 1, 1, 2, 2, 2, 2, 2, 2, 2] ?_
    refine Dp (fun _ => q_mv (s := .v (.c _)) ⟨rfl, rfl⟩) ?_
    refine Dp (fun _ => q_mv (s := .v (.c _)) ⟨rfl, rfl⟩) ?_
    refine Dp (fun _ => q_neqn ⟨rfl, rfl⟩) ?_
    refine Dp (fun _ => q_mv (s := .v (.c _)) ⟨rfl, rfl⟩) ?_
    refine Dkfd 197 (fun hb4 => ?_) ?_; rotate_left
    · exact fun h => h rfl
    refine Dpg (fun _ => q_mv (s := .v (.c _)) ⟨rfl, rfl⟩) ?_
    refine Dpg (fun _ => q_csn ⟨rfl, rfl⟩) ?_
    refine Dpg (fun _ => q_mv (s := .v (.c _)) ⟨rfl, rfl⟩) ?_
    refine Dpg (fun _ => q_csn ⟨rfl, rfl⟩) ?_
    refine Dpg (fun _ => q_neqs ⟨rfl, rfl⟩) ?_
    refine Dp (fun _ => q_pkf ⟨rfl, rfl⟩) ?_
    refine Dp (fun _ => q_mv (s := .v (.c _)) ⟨rfl, rfl⟩) ?_
    refine Dkf 204 (fun hb11 => ?_) ?_; rotate_left
    · simp
    refine Dpg (fun _ => q_mv (s := .v (.c _)) ⟨rfl, rfl⟩) ?_
    refine De2g (fun _ k_ => q_callp (n_ _ _ _) k_ (ha := (cac (et rfl) (sees_ku rfl rfl (by first | exact x.hk | exact anext_len _) rfl rfl) ca0))) ?_
    refine Dpg (fun _ => q_mv (s := .v (.c _)) ⟨rfl, rfl⟩) ?_
    refine Dpg (fun _ => q_ncp ⟨rfl, rfl⟩) ?_
    refine Dpg (fun _ => q_fap0 ⟨rfl, rfl⟩) ?_
    refine DLpg  ?_ (hc := by first | exact rC_n x.hk | exact rC_n (anext_len _))
    refine Dpg (fun _ => q_neq64 ⟨rfl, rfl⟩) ?_
    refine Dp (fun _ => q_pkf ⟨rfl, rfl⟩) ?_
    refine Dp (fun _ => q_mv (s := .v (.c _)) ⟨rfl, rfl⟩) ?_
    refine Dkfd 213 (fun hb20 => ?_) ?_; rotate_left
    · exact fun h => h rfl
    refine Dpg (fun _ => q_mv (s := .v (.c _)) ⟨rfl, rfl⟩) ?_
    refine De2g (fun _ k_ => q_callp (has_u _ _ _) k_ (ha := (cac (et rfl) (sees_ku rfl rfl (by first | exact x.hk | exact anext_len _) rfl rfl) ca0))) ?_
    refine Dpg (fun _ => q_mv (s := .v (.c _)) ⟨rfl, rfl⟩) ?_
    refine Dpg (fun _ => q_ncp ⟨rfl, rfl⟩) ?_
    refine Dpg (fun _ => q_fap0 ⟨rfl, rfl⟩) ?_
    refine DLpg  ?_
    refine Dpg (fun _ => q_neqb ⟨rfl, rfl⟩) ?_
    refine Dp (fun _ => q_pkf ⟨rfl, rfl⟩) ?_
    refine dend ?_
    refine cndbN (fun hc15 => ?_) ?_; rotate_left
    · simp
    refine awp_skip ?_
    refine rln ?_
    refine Mv ?_
    refine G (q_addn (y := 1) ?_)
    refine As ?_
    refine gend ?_
    exact ⟨⟨x.i + 1, x.key, x.num, by omega, x.hk⟩, by show n - (x.i + 1) < n - x.i; omega, by subst hc13; exact sle_ren [(0, true), (1, false), (2, true)] rfl (fun p h => absurd h (Nat.not_lt_zero _)) ⟨rs_fl (fun y => aC_cm y), rfl, rfl, rfl, trivial⟩ (Eq.symm (a := renL _ _ _) (rlT rfl rfl (rlF (rlT rfl rC_map rl0))))⟩   -- endloop 1
  refine awp_seq ?_
  refine rln ?_
  refine G (q_eqli (y := 5) ?_)
  refine As ?_
  refine gend ?_
  refine cnd (fun hc16 => ?_) (fun hc16 => ?_)
  · refine awp_seq ?_
    refine rln ?_
    refine Mv ?_
    refine Mv ?_
    refine Mv ?_
    refine G (q_ixe (l := l) ha aC_len ?_)
    refine G (q_far ?_)
    refine G (q_ldr ?_)
    refine G2 (fun _ k_ => q_callv [0, 1] [some (cC (kp has 1) a.n), kb has x.key] [] (setn_u has x.key x.num a.n) k_ (ha := (cac (et rfl) rfl (cac (et rfl) cm_int ca0))) (e2 := pl1 rfl (kC_map rfl) (plb rfl kb_map pl0)) (eL := ml1 (kC_map rfl) (mlb kb_map ml0)) (eM := ml0)) ?_
    refine gend ?_
    refine rln ?_
    refine Mv ?_
    refine Mv ?_
    refine Mv ?_
    refine G (q_ixe (l := l) ha aC_len ?_)
    refine G (q_far ?_)
    refine G (q_ldr ?_)
    refine G (q_ncp ?_)
    refine G (q_fap0 ?_)
    refine G20 (fun _ k_ => q_st k_) ?_ (hH := by simp only [List.set_cons_zero, List.set_cons_succ, List.cons_append, List.nil_append]; exact congrArg (fun z => _ :: _ :: some z :: _) (rC_set x.hk))
    refine gend ?_
    refine awp_seq ?_
    refine rdln [12, 21] [0, 0, 0, 0, 0, 0, 0, 0, 0, 0, 0, 0, 0, 0, 0, 0, 0, 1, 1, 1, 1, 1, 1, 1, 1, 1, 2, 2] [0, 0, 0, 0, 0, 0, 0, 0, 0, 0, 0, 0, 1, 1, 1, 1, 1, 1, 1, 1, 1, 2, 2, 2, 2, 2, 2, 2] ?_
    refine Dp (fun _ => q_mv (s := .v (.c _)) ⟨rfl, rfl⟩) ?_
    refine Dp (fun _ => q_mv (s := .v (.c _)) ⟨rfl, rfl⟩) ?_
    refine Dp (fun _ => q_neqn ⟨rfl, rfl⟩) ?_
    refine Dp (fun _ => q_mv (s := .v (.c _)) ⟨rfl, rfl⟩) ?_
    refine Dkfd 197 (fun hb4 => ?_) ?_; rotate_left
    · exact fun h => h rfl
    refine Dpg (fun _ => q_mv (s := .v (.c _)) ⟨rfl, rfl⟩) ?_
    refine Dpg (fun _ => q_csn ⟨rfl, rfl⟩) ?_
    refine Dpg (fun _ => q_mv (s := .v (.c _)) ⟨rfl, rfl⟩) ?_
    refine Dpg (fun _ => q_csn ⟨rfl, rfl⟩) ?_
    refine Dpg (fun _ => q_neqs ⟨rfl, rfl⟩) ?_
    refine Dp (fun _ => q_pkf ⟨rfl, rfl⟩) ?_
    refine Dp (fun _ => q_mv (s := .v (.c _)) ⟨rfl, rfl⟩) ?_
    refine Dkf 204 (fun hb11 => ?_) ?_; rotate_left
    · simp
    refine Dpg (fun _ => q_mv (s := .v (.c _)) ⟨rfl, rfl⟩) ?_
    refine De2g (fun _ k_ => q_callp (n_ _ _ _) k_ (ha := (cac (et rfl) (sees_ku rfl rfl (by first | exact x.hk | exact anext_len _) rfl rfl) ca0))) ?_
    refine Dpg (fun _ => q_mv (s := .v (.c _)) ⟨rfl, rfl⟩) ?_
    refine Dpg (fun _ => q_ncp ⟨rfl, rfl⟩) ?_
    refine Dpg (fun _ => q_fap0 ⟨rfl, rfl⟩) ?_
    refine DLpg  ?_ (hc := by first | exact rC_n x.hk | exact rC_n (anext_len _))
    refine Dpg (fun _ => q_neq64 ⟨rfl, rfl⟩) ?_
    refine Dp (fun _ => q_pkf ⟨rfl, rfl⟩) ?_
    refine Dp (fun _ => q_mv (s := .v (.c _)) ⟨rfl, rfl⟩) ?_
    refine Dkfd 213 (fun hb20 => ?_) ?_; rotate_left
    · exact fun h => h rfl
    refine Dpg (fun _ => q_mv (s := .v (.c _)) ⟨rfl, rfl⟩) ?_
    refine De2g (fun _ k_ => q_callp (has_u _ _ _) k_ (ha := (cac (et rfl) (sees_ku rfl rfl (by first | exact x.hk | exact anext_len _) rfl rfl) ca0))) ?_
    refine Dpg (fun _ => q_mv (s := .v (.c _)) ⟨rfl, rfl⟩) ?_
    refine Dpg (fun _ => q_ncp ⟨rfl, rfl⟩) ?_
    refine Dpg (fun _ => q_fap0 ⟨rfl, rfl⟩) ?_
    refine DLpg  ?_
    refine Dpg (fun _ => q_neqb ⟨rfl, rfl⟩) ?_
    refine Dp (fun _ => q_pkf ⟨rfl, rfl⟩) ?_
    refine dend ?_
    refine cndbN (fun hc17 => ?_) ?_; rotate_left
    · simp
    refine awp_skip ?_
    refine rln ?_
    refine Mv ?_
    refine G (q_addn (y := 1) ?_)
    refine As ?_
    refine gend ?_
    exact ⟨⟨x.i + 1, x.key, a.n, by omega, x.hk⟩, by show n - (x.i + 1) < n - x.i; omega, sle_ren [(0, true), (1, true), (2, true)] rfl (fun p h => absurd h (Nat.not_lt_zero _)) ⟨rs_fl (fun y => aC_cm y), rfl, rfl, rfl, trivial⟩ (Eq.symm (a := renL _ _ _) (rlT rfl (kC_map rfl) (rlB rfl kb_map (rlT rfl rC_map rl0))))⟩   -- endloop 1
  refine awp_skip ?_
  refine awp_seq ?_
  refine rdln [12, 21] [0, 0, 0, 0, 0, 0, 0, 0, 0, 0, 0, 0, 0, 0, 0, 0, 0, 1, 1, 1, 1, 1, 1, 1, 1, 1, 2, 2] [0, 0, 0, 0, 0, 0, 0, 0, 0, 0, 0, 0, 1, 1, 1, 1, 1, 1, 1, 1, 1, 2, 2, 2, 2, 2, 2, 2] ?_
  refine Dp (fun _ => q_mv (s := .v (.c _)) ⟨rfl, rfl⟩) ?_
  refine Dp (fun _ => q_mv (s := .v (.c _)) ⟨rfl, rfl⟩) ?_
  refine Dp (fun _ => q_neqn ⟨rfl, rfl⟩) ?_
  refine Dp (fun _ => q_mv (s := .v (.c _)) ⟨rfl, rfl⟩) ?_
  refine Dkfd 197 (fun hb4 => ?_) ?_; rotate_left
  · exact fun h => h rfl
  refine Dpg (fun _ => q_mv (s := .v (.c _)) ⟨rfl, rfl⟩) ?_
  refine Dpg (fun _ => q_csn ⟨rfl, rfl⟩) ?_
  refine Dpg (fun _ => q_mv (s := .v (.c _)) ⟨rfl, rfl⟩) ?_
  refine Dpg (fun _ => q_csn ⟨rfl, rfl⟩) ?_
  refine Dpg (fun _ => q_neqs ⟨rfl, rfl⟩) ?_
  refine Dp (fun _ => q_pkf ⟨rfl, rfl⟩) ?_
  refine Dp (fun _ => q_mv (s := .v (.c _)) ⟨rfl, rfl⟩) ?_
  refine Dkf 204 (fun hb11 => ?_) ?_; rotate_left
  · simp
  refine Dpg (fun _ => q_mv (s := .v (.c _)) ⟨rfl, rfl⟩) ?_
  refine De2g (fun _ k_ => q_callp (n_ _ _ _) k_ (ha := (cac (et rfl) (sees_ku rfl rfl (by first | exact x.hk | exact anext_len _) rfl rfl) ca0))) ?_
  refine Dpg (fun _ => q_mv (s := .v (.c _)) ⟨rfl, rfl⟩) ?_
  refine Dpg (fun _ => q_ncp ⟨rfl, rfl⟩) ?_
  refine Dpg (fun _ => q_fap0 ⟨rfl, rfl⟩) ?_
  refine DLpg  ?_ (hc := by first | exact rC_n x.hk | exact rC_n (anext_len _))
  refine Dpg (fun _ => q_neq64 ⟨rfl, rfl⟩) ?_
  refine Dp (fun _ => q_pkf ⟨rfl, rfl⟩) ?_
  refine Dp (fun _ => q_mv (s := .v (.c _)) ⟨rfl, rfl⟩) ?_
  refine Dkfd 213 (fun hb20 => ?_) ?_; rotate_left
  · exact fun h => h rfl
  refine Dpg (fun _ => q_mv (s := .v (.c _)) ⟨rfl, rfl⟩) ?_
  refine De2g (fun _ k_ => q_callp (has_u _ _ _) k_ (ha := (cac (et rfl) (sees_ku rfl rfl (by first | exact x.hk | exact anext_len _) rfl rfl) ca0))) ?_
  refine Dpg (fun _ => q_mv (s := .v (.c _)) ⟨rfl, rfl⟩) ?_
  refine Dpg (fun _ => q_ncp ⟨rfl, rfl⟩) ?_
  refine Dpg (fun _ => q_fap0 ⟨rfl, rfl⟩) ?_
  refine DLpg  ?_
  refine Dpg (fun _ => q_neqb ⟨rfl, rfl⟩) ?_
  refine Dp (fun _ => q_pkf ⟨rfl, rfl⟩) ?_
  refine dend ?_
  refine cndbN (fun hc18 => ?_) ?_; rotate_left
  · simp
  refine awp_skip ?_
  refine rln ?_
  refine Mv ?_
  refine G (q_addn (y := 1) ?_)
  refine As ?_
  refine gend ?_
  exact ⟨⟨x.i + 1, x.key, x.num, by omega, x.hk⟩, by show n - (x.i + 1) < n - x.i; omega, sle_sub ⟨rfl, rfl, rfl, rfl, trivial⟩ rfl⟩   -- endloop 1
end Go.Proofs.Ytlnepajgnckolaa


/- Texts that the proof stands on, put together: the abstract machine, and what functions do over it. -/
import Derived.Test.YtklcckngmmklhaaOutPlaysd
/- What functions of the program do, walked over the abstract machine. -/
namespace Go.Proofs.Ytklcckngmmklhaa.Ae
open Go Go.Abs Go.Proofs Go.Proofs.Ytklcckngmmklhaa.Ch Go.Proofs.Ytklcckngmmklhaa.Po
set_option maxRecDepth 20000
theorem take0_m {l : List UInt8} {c : Nat} : ((u8s l).drop (0 * 1)).take (c * 1) = u8s (l.take c) := by rw [Nat.mul_one, Nat.mul_one, cut_m]; rfl
theorem drop_m {l : List UInt8} {c n : Nat} (h : l.length = n) : ((u8s l).drop (c * 1)).take ((n - c) * 1) = u8s (l.drop c) := by
  rw [Nat.mul_one, Nat.mul_one, cut_m, List.take_of_length_le (by rw [List.length_drop]; omega)]
theorem all_m {l : List UInt8} {n : Nat} (h : l.length = n) : (u8s l).take n = u8s l := by rw [List.take_of_length_le (by rw [mapc_length]; omega)]
def aopen (key nonce ad s : List UInt8) : Option (List UInt8) :=
  if s.length < 16 then none
  else if amark key nonce ad (s.take (s.length - 16)) = s.drop (s.length - 16) then some (xw key 1 nonce (s.take (s.length - 16)) (s.length - 16)) else none
theorem aopen_len {key nonce ad s p : List UInt8} (h : aopen key nonce ad s = some p) : p.length + 16 = s.length := by
  unfold aopen at h
  split at h
  · cases h
  · split at h
    · cases h; rw [xw_len]; omega
    · cases h
theorem cpy_n (n : List UInt8) (h : n.length = 8) : splice (u8s (List.replicate 12 0)) 4 ((u8s n).take (min 8 8 * 1)) = u8s ([0, 0, 0, 0] ++ n) := by
  rw [show min 8 8 * 1 = 8 from rfl, all_m h]
  simp [splice, mapc, h]
set_option maxHeartbeats 800000 in
theorem seal_ (key nonce ad l : List UInt8) (n k : Nat) (hkey : key.length = 32) (hnonce : nonce.length = 12) (had : ad.length = n) (hn : n ≤ 10000) (hc : l.length = k) (hk : k ≤ 10000) : Good Try.prog 39 [.a (u8s key), .a (u8s nonce), .c (.ro n (u8s ad)), .c (.ro k (u8s l))] [] (sc (.slc 0 0 (k + 16) 1)) [some (u8s (aseal key nonce ad l))] := by
  have g1 := xor key 1 nonce k l hkey hnonce hc (by omega)
  obtain ⟨C, hC⟩ : ∃ z, xw key 1 nonce l k = z := ⟨_, rfl⟩
  have hCl : C.length = k := by rw [← hC]; exact xw_len _ _ _ _ _
  rw [hC] at g1
  have g2 := mark_ key nonce ad C n k hkey hnonce had hn hCl hk
  obtain ⟨T, hT⟩ : ∃ z, amark key nonce ad C = z := ⟨_, rfl⟩
  have hTl : T.length = 16 := by rw [← hT]; exact amark_len _ _ _ _
  rw [hT] at g2
  rw [show aseal key nonce ad l = C ++ T by rw [← hT, ← hC, ← hc]; rfl]
  refine good_frm 23 Try.func39 rfl rfl rfl rfl rfl rfl ?_
  refine awp_seq ?_
  refine rln ?_
  refine G2 (fun _ k_ => q_boxa k_) ?_
  refine G2 (fun _ k_ => q_boxa k_) ?_
  refine As ?_
  refine gend ?_
  refine awp_seq ?_
  refine rln ?_
  refine G (q_ldw ?_)
  refine G (q_ldw ?_)
  refine Mv ?_
  refine G2 (fun _ k_ => q_calln g1 k_ (ha := (caa (et rfl) sees_m (cac rfl cm_int (caa (et rfl) sees_m (cac (et rfl) sees_ro ca0)))))) ?_
  refine As ?_
  refine gend ?_
  refine awp_seq ?_
  refine rln ?_
  refine G (q_ldw ?_)
  refine G (q_ldw ?_)
  refine Mv ?_
  refine Mv ?_
  refine G2 (fun _ k_ => q_callp g2 k_ (ha := (caa (et rfl) sees_m (caa (et rfl) sees_m (cac (et rfl) sees_ro (cac (et rfl) (sees_slc rfl rfl (cut_h hCl)) ca0)))))) ?_
  refine G2 (fun _ k_ => q_al k_) ?_
  refine G20 (fun _ k_ => q_stw k_) ?_
  refine gend ?_
  refine awp_seq ?_
  refine rln ?_
  refine Mv ?_
  refine G (q_slp_no ?_)
  refine G2 (fun _ k_ => q_app k_) ?_
  refine As ?_
  refine gend ?_
  refine awp_ret ?_
  exact fx1 [4] (hm0 := rfl) (hH := pl1 (cs' := u8s (C ++ T)) rfl (by rw [mapc_append]; exact sees_m) pl0)
theorem open_short (key nonce ad s : List UInt8) (n k : Nat) (hkey : key.length = 32) (hnonce : nonce.length = 12) (had : ad.length = n) (hn : n ≤ 10000) (hc : s.length = k) (hk : k ≤ 10000) (h : k < 16) : Good Try.prog 50 [.a (u8s key), .a (u8s nonce), .c (.ro n (u8s ad)), .c (.ro k (u8s s))] [] (.t [.c .nils, .c (cn 8)]) [] := by
  refine good_frm 38 Try.func50 rfl rfl rfl rfl rfl rfl ?_
  refine awp_seq ?_
  refine rln ?_
  refine G2 (fun _ k_ => q_boxa k_) ?_
  refine G2 (fun _ k_ => q_boxa k_) ?_
  refine As ?_
  refine G (q_as (s := sc (cn 0)) ?_)
  refine gend ?_
  refine awp_seq ?_
  refine rln ?_
  refine Mv ?_
  refine G (q_leno ?_)
  refine G (q_subi (y := 16) ?_)
  refine As ?_
  refine gend ?_
  refine awp_seq ?_
  refine awp_seq ?_
  refine rdln [9, 15] [0, 0, 0, 0, 0, 0, 0, 0, 0, 0, 0, 0, 0, 0, 0, 1, 2, 2] [0, 0, 0, 0, 0, 0, 0, 0, 0, 1, 1, 1, 1, 1, 1, 2, 2, 2] ?_
  refine Dp (fun _ => q_mv (s := .v (.c _)) ⟨rfl, rfl⟩) ?_
  refine Dp (fun _ => q_lssi (y := 0) ⟨rfl, rfl⟩) ?_
  refine Dp (fun _ => q_mv (s := .v (.c _)) ⟨rfl, rfl⟩) ?_
  refine Dknd 16 (fun hb3 => ?_) ?_; rotate_left
  · omega
  refine Dn ?_
  refine Dn ?_
  refine Dn ?_
  refine Dn ?_
  refine Dn ?_
  refine Dn ?_
  refine Dm ?_
  refine Dn ?_
  refine Dn ?_
  refine Dn ?_
  refine Dn ?_
  refine Dn ?_
  refine Dm ?_
  refine Dn ?_
  refine Dp (fun _ => q_pkt ⟨rfl, rfl⟩) ?_
  refine dend ?_
  refine cndT ?_
  refine awp_seq ?_
  refine rln ?_
  refine As ?_
  refine G (q_as (s := sc (cn 8)) ?_)
  refine gend ?_
  refine awp_ret ?_
  exact fx2 [] (hm0 := rfl) (hH := pl0)
set_option maxHeartbeats 800000 in
theorem open_bad (key nonce ad s : List UInt8) (n k : Nat) (hkey : key.length = 32) (hnonce : nonce.length = 12) (had : ad.length = n) (hn : n ≤ 10000) (hc : s.length = k) (hk : k ≤ 10000) (h : 16 ≤ k) (hh : amark key nonce ad (s.take (k - 16)) ≠ s.drop (k - 16)) : Good Try.prog 50 [.a (u8s key), .a (u8s nonce), .c (.ro n (u8s ad)), .c (.ro k (u8s s))] [] (.t [.c .nils, .c (cn 8)]) [] := by
  have hTl : (s.take (k - 16)).length = k - 16 := by rw [List.length_take]; omega
  have hDl : (s.drop (k - 16)).length = 16 := by rw [List.length_drop]; omega
  have g2 := mark_ key nonce ad (s.take (k - 16)) n (k - 16) hkey hnonce had hn hTl (by omega)
  obtain ⟨M, hM⟩ : ∃ z, amark key nonce ad (s.take (k - 16)) = z := ⟨_, rfl⟩
  have hMl : M.length = 16 := by rw [← hM]; exact amark_len _ _ _ _
  rw [hM] at g2 hh
  have g3 := equal M (s.drop (k - 16)) hMl hDl
  refine good_frm 38 Try.func50 rfl rfl rfl rfl rfl rfl ?_
  refine awp_seq ?_
  refine rln ?_
  refine G2 (fun _ k_ => q_boxa k_) ?_
  refine G2 (fun _ k_ => q_boxa k_) ?_
  refine As ?_
  refine G (q_as (s := sc (cn 0)) ?_)
  refine gend ?_
  refine awp_seq ?_
  refine rln ?_
  refine Mv ?_
  refine G (q_leno ?_)
  refine G (q_subn (y := 16) ?_)
  refine As ?_
  refine gend ?_
  refine awp_seq ?_
  refine awp_seq ?_
  refine rdln [9, 15] [0, 0, 0, 0, 0, 0, 0, 0, 0, 0, 0, 0, 0, 0, 0, 1, 2, 2] [0, 0, 0, 0, 0, 0, 0, 0, 0, 1, 1, 1, 1, 1, 1, 2, 2, 2] ?_
  refine Dp (fun _ => q_mv (s := .v (.c _)) ⟨rfl, rfl⟩) ?_
  refine Dp (fun _ => q_lssn (y := 0) ⟨rfl, rfl⟩) ?_
  refine Dp (fun _ => q_mv (s := .v (.c _)) ⟨rfl, rfl⟩) ?_
  refine Dkfd 16 (fun hb3 => ?_) ?_; rotate_left
  · omega
  refine DLwg ?_
  refine DLwg ?_
  refine Dpg (fun _ => q_mv (s := .v (.c _)) ⟨rfl, rfl⟩) ?_
  refine Dpg (fun _ => q_mv (s := .v (.c _)) ⟨rfl, rfl⟩) ?_
  refine Dpg (fun _ => q_mv (s := .v (.c _)) ⟨rfl, rfl⟩) ?_
  refine Dpg (fun _ => q_slo_hi  ⟨rfl, rfl⟩ (hc := take0_m)) ?_
  refine De2g (fun _ k_ => q_callp g2 k_ (ha := (caa (et rfl) sees_m (caa (et rfl) sees_m (cac (et rfl) sees_ro (cac (et rfl) sees_ro ca0)))))) ?_
  refine Dpg (fun _ => q_mv (s := .v (.c _)) ⟨rfl, rfl⟩) ?_
  refine Dpg (fun _ => q_mv (s := .v (.c _)) ⟨rfl, rfl⟩) ?_
  refine Dpg (fun _ => q_slo_lo  ⟨rfl, rfl⟩ (hc := drop_m hc)) ?_
  refine Dpg (fun _ => q_s2r  ⟨rfl, rfl⟩ (hc := fun e => by have := congrArg List.length e; rw [mapc_length, hDl] at this; cases this)) ?_
  refine Dpg (fun _ => q_ldar  ⟨rfl, rfl⟩ (hc := all_m hDl)) ?_
  refine De2g (fun _ k_ => q_callp g3 k_ (ha := (caa (et rfl) sees_m (caa (et rfl) sees_m ca0)))) ?_
  refine Dpg (fun _ => q_notb ⟨rfl, rfl⟩) ?_
  refine Dp (fun _ => q_pkf ⟨rfl, rfl⟩) ?_
  refine dend ?_
  refine cndbnY (fun hc1 => ?_) ?_; rotate_left
  · exact decide_eq_false hh
  refine awp_seq ?_
  refine rln ?_
  refine As ?_
  refine G (q_as (s := sc (cn 8)) ?_)
  refine gend ?_
  refine awp_ret ?_
  exact fx2 [] (hm0 := rfl) (hH := pl0)
set_option maxHeartbeats 800000 in
theorem open_yes (key nonce ad s : List UInt8) (n k : Nat) (hkey : key.length = 32) (hnonce : nonce.length = 12) (had : ad.length = n) (hn : n ≤ 10000) (hc : s.length = k) (hk : k ≤ 10000) (h : 16 ≤ k) (hh : amark key nonce ad (s.take (k - 16)) = s.drop (k - 16)) : Good Try.prog 50 [.a (u8s key), .a (u8s nonce), .c (.ro n (u8s ad)), .c (.ro k (u8s s))] [] (.t [.c (.slc 0 0 (k - 16) 1), .c (cn 0)]) [some (u8s (xw key 1 nonce (s.take (k - 16)) (k - 16)))] := by
  have hTl : (s.take (k - 16)).length = k - 16 := by rw [List.length_take]; omega
  have hDl : (s.drop (k - 16)).length = 16 := by rw [List.length_drop]; omega
  have g2 := mark_ key nonce ad (s.take (k - 16)) n (k - 16) hkey hnonce had hn hTl (by omega)
  obtain ⟨M, hM⟩ : ∃ z, amark key nonce ad (s.take (k - 16)) = z := ⟨_, rfl⟩
  have hMl : M.length = 16 := by rw [← hM]; exact amark_len _ _ _ _
  rw [hM] at g2 hh
  have g3 := equal M (s.drop (k - 16)) hMl hDl
  have g4 := xor key 1 nonce (k - 16) (s.take (k - 16)) hkey hnonce hTl (by omega)
  refine good_frm 38 Try.func50 rfl rfl rfl rfl rfl rfl ?_
  refine awp_seq ?_
  refine rln ?_
  refine G2 (fun _ k_ => q_boxa k_) ?_
  refine G2 (fun _ k_ => q_boxa k_) ?_
  refine As ?_
  refine G (q_as (s := sc (cn 0)) ?_)
  refine gend ?_
  refine awp_seq ?_
  refine rln ?_
  refine Mv ?_
  refine G (q_leno ?_)
  refine G (q_subn (y := 16) ?_)
  refine As ?_
  refine gend ?_
  refine awp_seq ?_
  refine awp_seq ?_
  refine rdln [9, 15] [0, 0, 0, 0, 0, 0, 0, 0, 0, 0, 0, 0, 0, 0, 0, 1, 2, 2] [0, 0, 0, 0, 0, 0, 0, 0, 0, 1, 1, 1, 1, 1, 1, 2, 2, 2] ?_
  refine Dp (fun _ => q_mv (s := .v (.c _)) ⟨rfl, rfl⟩) ?_
  refine Dp (fun _ => q_lssn (y := 0) ⟨rfl, rfl⟩) ?_
  refine Dp (fun _ => q_mv (s := .v (.c _)) ⟨rfl, rfl⟩) ?_
  refine Dkfd 16 (fun hb3 => ?_) ?_; rotate_left
  · omega
  refine DLwg ?_
  refine DLwg ?_
  refine Dpg (fun _ => q_mv (s := .v (.c _)) ⟨rfl, rfl⟩) ?_
  refine Dpg (fun _ => q_mv (s := .v (.c _)) ⟨rfl, rfl⟩) ?_
  refine Dpg (fun _ => q_mv (s := .v (.c _)) ⟨rfl, rfl⟩) ?_
  refine Dpg (fun _ => q_slo_hi  ⟨rfl, rfl⟩ (hc := take0_m)) ?_
  refine De2g (fun _ k_ => q_callp g2 k_ (ha := (caa (et rfl) sees_m (caa (et rfl) sees_m (cac (et rfl) sees_ro (cac (et rfl) sees_ro ca0)))))) ?_
  refine Dpg (fun _ => q_mv (s := .v (.c _)) ⟨rfl, rfl⟩) ?_
  refine Dpg (fun _ => q_mv (s := .v (.c _)) ⟨rfl, rfl⟩) ?_
  refine Dpg (fun _ => q_slo_lo  ⟨rfl, rfl⟩ (hc := drop_m hc)) ?_
  refine Dpg (fun _ => q_s2r  ⟨rfl, rfl⟩ (hc := fun e => by have := congrArg List.length e; rw [mapc_length, hDl] at this; cases this)) ?_
  refine Dpg (fun _ => q_ldar  ⟨rfl, rfl⟩ (hc := all_m hDl)) ?_
  refine De2g (fun _ k_ => q_callp g3 k_ (ha := (caa (et rfl) sees_m (caa (et rfl) sees_m ca0)))) ?_
  refine Dpg (fun _ => q_notb ⟨rfl, rfl⟩) ?_
  refine Dp (fun _ => q_pkf ⟨rfl, rfl⟩) ?_
  refine dend ?_
  refine cndbnN (fun hc1 => ?_) ?_; rotate_left
  · exact decide_eq_true hh
  refine awp_skip ?_
  refine awp_seq ?_
  refine rdln [5] [0, 0, 0, 0, 0, 0, 1, 1] [0, 0, 0, 0, 0, 1, 1, 1] ?_
  refine DLw ?_
  refine DLw ?_
  refine Dp (fun _ => q_mv (s := .v (.c _)) ⟨rfl, rfl⟩) ?_
  refine Dp (fun _ => q_mv (s := .v (.c _)) ⟨rfl, rfl⟩) ?_
  refine Dp (fun _ => q_slo_hi  ⟨rfl, rfl⟩ (hc := take0_m)) ?_
  refine De2 (fun _ k_ => q_calln g4 k_ (ha := (caa (et rfl) sees_m (cac rfl cm_int (caa (et rfl) sees_m (cac (et rfl) sees_ro ca0)))))) ?_
  refine Dp (fun _ => q_as (s := .v (.c _)) ⟨rfl, rfl⟩) ?_
  refine Dp (fun _ => q_as (s := sc (cn 0)) ⟨rfl, rfl⟩) ?_
  refine dend ?_
  refine awp_ret ?_
  exact fx2 [2] (hm0 := rfl) (hH := pl1 rfl sees_m pl0)
theorem open_none (key nonce ad s : List UInt8) (n k : Nat) (hkey : key.length = 32) (hnonce : nonce.length = 12) (had : ad.length = n) (hn : n ≤ 10000) (hc : s.length = k) (hk : k ≤ 10000) (h : aopen key nonce ad s = none) : Good Try.prog 50 [.a (u8s key), .a (u8s nonce), .c (.ro n (u8s ad)), .c (.ro k (u8s s))] [] (.t [.c .nils, .c (cn 8)]) [] := by
  unfold aopen at h
  rw [hc] at h
  by_cases h1 : k < 16
  · exact open_short key nonce ad s n k hkey hnonce had hn hc hk h1
  · rw [if_neg h1] at h
    by_cases h2 : amark key nonce ad (s.take (k - 16)) = s.drop (k - 16)
    · rw [if_pos h2] at h; cases h
    · exact open_bad key nonce ad s n k hkey hnonce had hn hc hk (by omega) h2
theorem open_some (key nonce ad s : List UInt8) (n k : Nat) (hkey : key.length = 32) (hnonce : nonce.length = 12) (had : ad.length = n) (hn : n ≤ 10000) (hc : s.length = k) (hk : k ≤ 10000) (p : List UInt8) (h : aopen key nonce ad s = some p) : Good Try.prog 50 [.a (u8s key), .a (u8s nonce), .c (.ro n (u8s ad)), .c (.ro k (u8s s))] [] (.t [.c (.slc 0 0 (k - 16) 1), .c (cn 0)]) [some (u8s p)] := by
  unfold aopen at h
  rw [hc] at h
  by_cases h1 : k < 16
  · rw [if_pos h1] at h; cases h
  · rw [if_neg h1] at h
    by_cases h2 : amark key nonce ad (s.take (k - 16)) = s.drop (k - 16)
    · rw [if_pos h2] at h; cases h; exact open_yes key nonce ad s n k hkey hnonce had hn hc hk (by omega) h2
    · rw [if_neg h2] at h; cases h
set_option maxHeartbeats 800000 in
theorem nonce_ (n : UInt64) : Good Try.prog 40 [.c (c64 n)] [] (sa (u8s (anonce n))) [] := by
  have g1 := number_ n
  obtain ⟨B, hB⟩ : ∃ z, num8 n 8 = z := ⟨_, rfl⟩
  have hBl : B.length = 8 := by rw [← hB]; exact num8_len _ _
  have hA : (anonce n).length = 12 := anonce_len n
  have hcp := cpy_n B hBl
  rw [hB] at g1
  rw [show ([0, 0, 0, 0] : List UInt8) ++ B = anonce n by rw [← hB]; rfl] at hcp
  refine good_frm 8 Try.func40 rfl rfl rfl rfl rfl rfl ?_
  refine awp_seq ?_
  refine rln ?_
  refine G2 (fun _ k_ => q_al k_) ?_
  refine gend ?_
  refine awp_seq ?_
  refine rdln [2, 3] [0, 0, 0, 1] [1, 0, 1, 2] ?_
  refine DSp 0 rfl (fun _ hv => q_slp_lo (j := 4) ⟨rfl, rfl⟩ (hp := hv)) ?_
  refine Dp (fun _ => q_mv (s := .v (.c _)) ⟨rfl, rfl⟩) ?_
  refine De2 (fun _ k_ => q_calln g1 k_ (ha := (cac (et rfl) cm_int ca0))) ?_
  refine De2 (fun _ k_ => q_cpy k_ (eB := el_slc rfl (by rw [mapc_length, hBl]; decide) (cut_h hBl))) ?_ (hH := by simp only [List.set_cons_zero, List.cons_append, List.nil_append]; exact congrArg (fun z => [some z, some (u8s B)]) hcp)
  refine dend ?_
  refine awp_seq ?_
  refine rln ?_
  refine G (q_ldw ?_)
  refine G20 (fun _ k_ => q_stw k_) ?_
  refine gend ?_
  refine awp_ret ?_
  exact fpc (t := 86) (a := 2) (hn := (mapc_length ..).trans hA)
end Go.Proofs.Ytklcckngmmklhaa.Ae

/- What functions of the program do, walked over the abstract machine. -/
namespace Go.Proofs.Ytklcckngmmklhaa.Ae
open Go Go.Abs Go.Proofs Go.Proofs.Ytklcckngmmklhaa.Ch Go.Proofs.Ytklcckngmmklhaa.Po
set_option maxRecDepth 20000
theorem snoc0 (l : List UInt8) (i : Nat) : u8s (l ++ List.replicate i 0) ++ [c8 0] = u8s (l ++ List.replicate (i + 1) 0) := by
  rw [u8_snoc, List.append_assoc, ← List.replicate_succ']
def rnon (n : UInt64) : Nat → List UInt8
  | 0 => List.replicate 12 0
  | i + 1 => (rnon n i).set (4 + i) (shr64n n (UInt64.ofNat (8 * i)).toNat).toUInt8
theorem rnon_len (n : UInt64) : ∀ i, (rnon n i).length = 12
  | 0 => rfl
  | i + 1 => by rw [rnon, List.length_set, rnon_len]
theorem ofn_8 (i : Nat) (h : i < 8) : (UInt64.ofNat (8 * i)).toNat = 8 * i := by
  rw [UInt64.toNat_ofNat']; exact Nat.mod_eq_of_lt (by omega)
theorem rnon_8 (n : UInt64) : rnon n 8 = anonce n := by
  have h : ∀ i : Fin 8, (UInt64.ofNat (8 * i.1)).toNat = 8 * i.1 := by decide +kernel
  unfold anonce
  simp only [rnon, num8, h 0, h 1, h 2, h 3, h 4, h 5, h 6, h 7, ofn_8 0 (by decide), ofn_8 1 (by decide), ofn_8 2 (by decide), ofn_8 3 (by decide), ofn_8 4 (by decide), ofn_8 5 (by decide), ofn_8 6 (by decide), ofn_8 7 (by decide)]
  rfl
theorem num8_ref (n : UInt64) (i : Nat) (h : i < 8) : u8s (num8 n i) ++ [c8 (shr64n n (UInt64.ofNat (8 * i)).toNat).toUInt8] = u8s (num8 n (i + 1)) := by
  rw [ofn_8 i h]; exact u8_snoc _ _
theorem cpy_k (B : List UInt8) (h : B.length = 64) : splice (u8s (List.replicate 32 0)) 0 ((u8s (B.take 32)).take (min 32 32 * 1)) = u8s (B.take 32) := by
  have h2 : (B.take 32).length = 32 := by rw [List.length_take, h]; rfl
  rw [show min 32 32 * 1 = 32 from rfl, all_m h2]
  exact splice_whole (by rw [mapc_length, mapc_length, h2]; rfl)
theorem app_cut {a b : List UInt8} {p q : Nat} (ha : a.length = p) (hb : b.length = q) : ((u8s a ++ u8s b).drop 0).take ((p + q) * 1) = u8s (a ++ b) := by
  rw [mapc_append]; exact cut_h (by rw [List.length_append, ha, hb])
theorem padded_ (l : List UInt8) (n : Nat) (hl : l.length = n) (hn : n ≤ 10000) : Good Try.prog 61 [.c (.ro n (u8s l))] [] (sc (.slc 0 0 (n + (16 - n % 16) % 16) 1)) [some (u8s (l ++ padz n))] := by
  refine good_frm 14 Try.func61 rfl rfl rfl rfl rfl rfl ?_
  refine awp_seq ?_
  refine rln ?_
  refine As ?_
  refine gend ?_
  refine awp_seq ?_
  refine rln ?_
  refine Mv ?_
  refine G2 (fun _ k_ => q_app k_ (eB := el_ro (by rw [mapc_length, hl, Nat.mul_one]))) ?_
  refine As ?_
  refine gend ?_
  refine awp_seq ?_
  refine awp_block ?_
  refine awp_loop (fun x : {i : Nat // i ≤ (16 - n % 16) % 16} => ⟨frm 14 [(3, sc (.slc 0 0 (n + x.1) 1))], [some (u8s (l ++ List.replicate x.1 0))]⟩) (fun x => (16 - n % 16) % 16 - x.1) ⟨0, Nat.zero_le _⟩ (sle_sub ⟨by rw [Nat.zero_add]; rfl, trivial⟩ (by show [some (u8s l)] = [some (u8s (l ++ []))]; rw [List.append_nil])) fun x => ?_
  have hxl : (l ++ List.replicate x.1 (0 : UInt8)).length = n + x.1 := by simp [hl]
  refine awp_seq ?_
  refine awp_seq ?_
  refine rln ?_
  refine Mv ?_
  refine G (q_lenc ?_)
  refine G (q_remn (y := 16) ?_)
  refine G (q_neqn (y := 0) ?_)
  refine gend ?_
  refine cnd (fun hc1 => ?_) (fun hc1 => ?_); rotate_left
  · refine awp_exit ?_
    have hx : x.1 = (16 - n % 16) % 16 := by have := x.2; omega
    rw [hx]
    refine awp_seq ?_
    refine rln ?_
    refine Mv ?_
    refine As ?_
    refine gend ?_
    refine awp_ret ?_
    exact fx1 [0] (hm0 := rfl) (hH := pl1 rfl sees_m pl0)
  refine awp_skip ?_
  refine awp_block ?_
  refine rln ?_
  refine Mv ?_
  refine G2 (fun _ k_ => q_bsl (fkc (c := c8 0) rfl rfl rfl (Nat.le_of_ble_eq_true rfl) (fk0 k_))) ?_
  refine G2 (fun _ k_ => q_app k_ (eA := el_slc (xs := u8s (l ++ List.replicate x.1 0)) rfl (by rw [mapc_length, hxl]; omega) (by rw [Nat.mul_one]; exact cut_pre.trans (congrArg u8s (List.take_of_length_le (by omega))))) (eB := el_slc (xs := [_]) rfl (Nat.le_refl 1) rfl)) ?_
  refine As ?_
  refine gend ?_
  exact ⟨⟨x.1 + 1, by omega⟩, by show (16 - n % 16) % 16 - (x.1 + 1) < (16 - n % 16) % 16 - x.1; omega, sle_view [2] (fun p h => absurd h (Nat.not_lt_zero _)) (by decide) ⟨rfl, trivial⟩ (vh1 (pick_m (congrArg (fun z => some (some z)) (snoc0 l x.1))))⟩
theorem long_ (n : Nat) : Good Try.prog 63 [.c (cn n)] [] (sc (.slc 0 0 8 1)) [some (u8s (num8 (UInt64.ofNat n) 8))] := by
  refine good_frm 20 Try.func63 rfl rfl rfl rfl rfl rfl ?_
  refine awp_seq ?_
  refine rln ?_
  refine As ?_
  refine gend ?_
  refine awp_seq ?_
  refine rln ?_
  refine As ?_
  refine gend ?_
  refine awp_seq ?_
  refine awp_seq ?_
  refine rln ?_
  refine G (q_as (s := sc (cn 0)) ?_)
  refine gend ?_
  refine awp_le (sle_empty (al' := [(0, sc (cn n)), (3, sc (.slc 0 0 0 1)), (4, sc (cn 0))]) 1 (Nat.zero_le _) ⟨.inl rfl, .inr ⟨rfl, rfl⟩, .inl rfl, trivial⟩) ?_
  refine awp_block ?_
  refine awp_loop (fun x : {i : Nat // i ≤ 8} => ⟨frm 20 [(0, sc (cn n)), (3, sc (.slc 0 0 x.1 1)), (4, sc (cn x.1))], [some (u8s (num8 (UInt64.ofNat n) x.1))]⟩) (fun x => 8 - x.1) ⟨0, Nat.zero_le _⟩ (sle_sub ⟨rfl, rfl, rfl, trivial⟩ rfl) fun x => ?_
  have h5 := num8_len (UInt64.ofNat n) x.1
  refine awp_seq ?_
  refine awp_seq ?_
  refine rln ?_
  refine Mv ?_
  refine G (q_lssn (y := 8) ?_)
  refine gend ?_
  refine cnd (fun hc1 => ?_) (fun hc1 => ?_); rotate_left
  · refine awp_exit ?_
    rw [show x.1 = 8 from (by have := x.2; omega)]
    refine awp_seq ?_
    refine rln ?_
    refine Mv ?_
    refine As ?_
    refine gend ?_
    refine awp_ret ?_
    exact fx1 [0] (hm0 := rfl) (hH := pl1 rfl sees_m pl0)
  refine awp_skip ?_
  refine awp_seq ?_
  refine awp_block ?_
  refine rln ?_
  refine Mv ?_
  refine Mv ?_
  refine G (q_cv0_64 ?_)
  refine Mv ?_
  refine G (q_muln (x := 8) ?_)
  refine G (q_cv0_64 ?_)
  refine G (q_shr64_64 ?_)
  refine G (q_cv64_8 ?_)
  refine G2 (fun _ k_ => q_bsl (fkc rfl (et rfl) rfl (Nat.le_of_ble_eq_true rfl) (fk0 k_))) ?_
  refine G2 (fun _ k_ => q_app k_) ?_
  refine As ?_
  refine gend ?_
  refine rln ?_
  refine Mv ?_
  refine G (q_addn (y := 1) ?_)
  refine As ?_
  refine gend ?_
  exact ⟨⟨x.1 + 1, by omega⟩, by show 8 - (x.1 + 1) < 8 - x.1; omega, sle_view [2] (fun p h => absurd h (Nat.not_lt_zero _)) (by decide) ⟨rfl, rfl, rfl, trivial⟩ (vh1 (pick_m (congrArg (fun z => some (some z)) (num8_ref (UInt64.ofNat n) x.1 (by omega)))))⟩
theorem rnonce_ (n : UInt64) : Good Try.prog 44 [.c (c64 n)] [] (sa (u8s (anonce n))) [] := by
  have hA := rnon_len n 8
  refine good_frm 19 Try.func44 rfl rfl rfl rfl rfl rfl ?_
  refine awp_seq ?_
  refine rln ?_
  refine G2 (fun _ k_ => q_al k_) ?_
  refine gend ?_
  refine awp_seq ?_
  refine rln ?_
  refine G2 (fun _ k_ => q_al k_) ?_
  refine gend ?_
  refine awp_seq ?_
  refine awp_seq ?_
  refine rln ?_
  refine G (q_as (s := sc (cn 0)) ?_)
  refine gend ?_
  refine awp_block ?_
  refine awp_loop (fun x : {i : Nat // i ≤ 8} => ⟨frm 19 [(0, sc (c64 n)), (2, sc (.ptr 0 0)), (3, sc (.ptr 1 0)), (4, sc (cn x.1))], [some (u8s (List.replicate 12 0)), some (u8s (rnon n x.1))]⟩) (fun x => 8 - x.1) ⟨0, Nat.zero_le _⟩ (sle_sub ⟨rfl, rfl, rfl, rfl, trivial⟩ rfl) fun x => ?_
  have h5 := rnon_len n x.1
  refine awp_seq ?_
  refine awp_seq ?_
  refine rln ?_
  refine Mv ?_
  refine G (q_lssn (y := 8) ?_)
  refine gend ?_
  refine cnd (fun hc1 => ?_) (fun hc1 => ?_); rotate_left
  · refine awp_exit ?_
    rw [show x.1 = 8 from (by have := x.2; omega)]
    refine awp_seq ?_
    refine rln ?_
    refine G (q_ldw ?_)
    refine G20 (fun _ k_ => q_stw k_) ?_
    refine gend ?_
    refine awp_ret ?_
    exact fpc (t := 86) (a := 2) (hn := (mapc_length ..).trans hA) (hv := by rw [← rnon_8])
  refine awp_skip ?_
  refine awp_seq ?_
  refine awp_block ?_
  refine rln ?_
  refine Mv ?_
  refine G (q_addn (x := 4) ?_)
  refine Mv ?_
  refine Mv ?_
  refine G (q_muln (x := 8) ?_)
  refine G (q_cv0_64 ?_)
  refine G (q_shr64_64 ?_)
  refine G (q_cv64_8 ?_)
  refine G (q_ixp1 ?_)
  refine G20 (fun _ k_ => q_stm k_) ?_
  refine gend ?_
  refine rln ?_
  refine Mv ?_
  refine G (q_addn (y := 1) ?_)
  refine As ?_
  refine gend ?_
  exact ⟨⟨x.1 + 1, by omega⟩, by show 8 - (x.1 + 1) < 8 - x.1; omega, sle_sub ⟨rfl, rfl, rfl, rfl, trivial⟩ rfl⟩
set_option maxHeartbeats 1600000 in
theorem rmark_ (key nonce ad c : List UInt8) (n k : Nat) (hkey : key.length = 32) (hnonce : nonce.length = 12) (had : ad.length = n) (hn : n ≤ 10000) (hc : c.length = k) (hk : k ≤ 10000) : Good Try.prog 55 [.a (u8s key), .a (u8s nonce), .c (.ro n (u8s ad)), .c (.ro k (u8s c))] [] (sa (u8s (amark key nonce ad c))) [] := by
  have g1 := rblock' key 0 nonce hkey hnonce
  obtain ⟨B, hB⟩ : ∃ z, blk key 0 nonce = z := ⟨_, rfl⟩
  have hBl : B.length = 64 := by rw [← hB]; exact blk_len _ _ _
  rw [hB] at g1
  have hB2 : (B.take 32).length = 32 := by rw [List.length_take, hBl]; rfl
  have hcp := cpy_k B hBl
  have hpa : (ad ++ padz n).length = n + (16 - n % 16) % 16 := by rw [List.length_append, padz_len, had]
  have hpc : (c ++ padz k).length = k + (16 - k % 16) % 16 := by rw [List.length_append, padz_len, hc]
  have hna := num8_len (UInt64.ofNat n) 8
  have hnc := num8_len (UInt64.ofNat k) 8
  have hml := amsg_len ad c
  have hm0 : (((ad ++ padz n) ++ (c ++ padz k)) ++ num8 (UInt64.ofNat n) 8) ++ num8 (UInt64.ofNat k) 8 = amsg ad c := by rw [amsg, had, hc]; simp only [List.append_assoc]
  have hmn : (amsg ad c).length = n + (16 - n % 16) % 16 + (k + (16 - k % 16) % 16) + 8 + 8 := by rw [← hm0]; simp only [List.length_append, hpa, hpc, hna, hnc, padz_len, had, hc]
  have g2 := rtag_ (B.take 32) (amsg ad c) (n + (16 - n % 16) % 16 + (k + (16 - k % 16) % 16) + 8 + 8) hB2 hmn (by omega)
  rw [← tag_rtag] at g2
  have gpa := padded_ ad n had hn
  have gpc := padded_ c k hc hk
  have gna := long_ n
  have gnc := long_ k
  obtain ⟨T, hT⟩ : ∃ z, tag (B.take 32) (amsg ad c) = z := ⟨_, rfl⟩
  have hTl : T.length = 16 := by rw [← hT]; exact tag_len _ _
  rw [hT] at g2
  rw [show amark key nonce ad c = T by rw [← hT, ← hB]; rfl]
  obtain ⟨PA, hPA⟩ : ∃ z, ad ++ padz n = z := ⟨_, rfl⟩
  obtain ⟨PC, hPC⟩ : ∃ z, c ++ padz k = z := ⟨_, rfl⟩
  obtain ⟨NA, hNA⟩ : ∃ z, num8 (UInt64.ofNat n) 8 = z := ⟨_, rfl⟩
  obtain ⟨NC, hNC⟩ : ∃ z, num8 (UInt64.ofNat k) 8 = z := ⟨_, rfl⟩
  obtain ⟨W, hW⟩ : ∃ z, amsg ad c = z := ⟨_, rfl⟩
  obtain ⟨K, hK⟩ : ∃ z, B.take 32 = z := ⟨_, rfl⟩
  rw [hPA] at gpa hpa
  rw [hPC] at gpc hpc
  rw [hNA] at gna hna
  rw [hNC] at gnc hnc
  rw [hPA, hPC, hNA, hNC, hW] at hm0
  rw [hW, hK] at g2
  rw [hK] at hcp hB2
  obtain ⟨p, hp⟩ : ∃ p, n + (16 - n % 16) % 16 = p := ⟨_, rfl⟩
  obtain ⟨q, hq⟩ : ∃ q, k + (16 - k % 16) % 16 = q := ⟨_, rfl⟩
  rw [hp] at gpa hpa g2
  rw [hq] at gpc hpc g2
  have hpb : p ≤ 10100 := by omega
  have hqb : q ≤ 10100 := by omega
  have hs1 : (PA ++ PC).length = p + q := by rw [List.length_append, hpa, hpc]
  have hs2 : ((PA ++ PC) ++ NA).length = p + q + 8 := by rw [List.length_append, hs1, hna]
  refine good_frm 34 Try.func55 rfl rfl rfl rfl rfl rfl ?_
  refine awp_seq ?_
  refine rln ?_
  refine G2 (fun _ k_ => q_boxa k_) ?_
  refine G2 (fun _ k_ => q_boxa k_) ?_
  refine G2 (fun _ k_ => q_al k_) ?_
  refine gend ?_
  refine awp_seq ?_
  refine rln ?_
  refine G (q_ldw ?_)
  refine G (q_ldw ?_)
  refine G2 (fun _ k_ => q_callp g1 k_ (ha := (caa (et rfl) sees_m (cac rfl cm_int (caa (et rfl) sees_m ca0))))) ?_
  refine G2 (fun _ k_ => q_al k_) ?_
  refine G20 (fun _ k_ => q_stw k_) ?_
  refine gend ?_
  refine awp_seq ?_
  refine rln ?_
  refine G2 (fun _ k_ => q_al k_) ?_
  refine gend ?_
  refine awp_seq ?_
  refine rdln [2] [] [0, 0, 1] ?_
  refine DSp 4 rfl (fun _ hv => q_slp_no ⟨rfl, rfl⟩ (hp := hv)) ?_
  refine DSp 3 rfl (fun _ hv => q_slp_hi (k := 32) ⟨rfl, rfl⟩ (hp := hv)) ?_
  refine De2 (fun _ k_ => q_cpy k_ (eB := el_slc (xs := u8s K) rfl (by rw [mapc_length, hBl]; decide) (by rw [Nat.mul_one, ← hK]; exact cut_pre))) ?_ (hH := by simp only [List.set_cons_zero, List.set_cons_succ, List.cons_append, List.nil_append]; exact congrArg (fun z => [some (u8s key), some (u8s nonce), some (u8s (List.replicate 16 0)), some (u8s B), some z]) hcp)
  refine dend ?_
  refine awp_seq ?_
  refine rln ?_
  refine Mv ?_
  refine G2 (fun _ k_ => q_calln gpa k_ (ha := (cac (et rfl) sees_ro ca0))) ?_
  refine Mv ?_
  refine G2 (fun _ k_ => q_calln gpc k_ (ha := (cac (et rfl) sees_ro ca0))) ?_
  refine G2 (fun _ k_ => q_app k_) ?_
  refine As ?_
  refine gend ?_
  refine awp_seq ?_
  refine rdln [4, 5, 8, 9, 10, 11] [0, 0, 0, 0, 0, 1, 0, 0, 2, 3, 4, 5] [4, 1, 0, 0, 1, 2, 2, 2, 3, 4, 5, 6] ?_
  refine DLw ?_
  refine Dp (fun _ => q_mv (s := .v (.c _)) ⟨rfl, rfl⟩) ?_
  refine Dp (fun _ => q_mv (s := .v (.c _)) ⟨rfl, rfl⟩) ?_
  refine Dp (fun _ => q_leno ⟨rfl, rfl⟩) ?_
  refine De2 (fun _ k_ => q_calln gna k_ (ha := (cac (et rfl) cm_int ca0))) ?_
  refine De2 (fun _ k_ => q_app k_ (eA := el_slc (xs := u8s (PA ++ PC)) rfl (by rw [mapc_append, mapc_length, hs1]; omega) (app_cut hpa hpc))) ?_
  refine Dp (fun _ => q_mv (s := .v (.c _)) ⟨rfl, rfl⟩) ?_
  refine Dp (fun _ => q_leno ⟨rfl, rfl⟩) ?_
  refine De2 (fun _ k_ => q_calln gnc k_ (ha := (cac (et rfl) cm_int ca0))) ?_
  refine De2 (fun _ k_ => q_app k_ (eA := el_slc (xs := u8s ((PA ++ PC) ++ NA)) rfl (by rw [mapc_append, mapc_length, hs2]; omega) (app_cut hs1 hna))) ?_
  refine De2 (fun _ k_ => q_callp g2 k_ (ha := (caa (et rfl) sees_m (cac (et rfl) (sees_slc rfl rfl ((app_cut hs2 hnc).trans (by rw [hm0]))) ca0)))) ?_
  refine De20 (fun _ k_ => q_stw k_) ?_
  refine dend ?_
  refine awp_ret ?_
  exact fpc (t := 99) (a := 8) (hn := (mapc_length ..).trans hTl)
set_option maxHeartbeats 800000 in
theorem rseal_ (key nonce ad l : List UInt8) (n k : Nat) (hkey : key.length = 32) (hnonce : nonce.length = 12) (had : ad.length = n) (hn : n ≤ 10000) (hc : l.length = k) (hk : k ≤ 10000) : Good Try.prog 43 [.a (u8s key), .a (u8s nonce), .c (.ro n (u8s ad)), .c (.ro k (u8s l))] [] (sc (.slc 0 0 (k + 16) 1)) [some (u8s (aseal key nonce ad l))] := by
  have g1 := rxor key 1 nonce k l hkey hnonce hc (by omega)
  obtain ⟨C, hC⟩ : ∃ z, xw key 1 nonce l k = z := ⟨_, rfl⟩
  have hCl : C.length = k := by rw [← hC]; exact xw_len _ _ _ _ _
  rw [hC] at g1
  have g2 := rmark_ key nonce ad C n k hkey hnonce had hn hCl hk
  obtain ⟨T, hT⟩ : ∃ z, amark key nonce ad C = z := ⟨_, rfl⟩
  have hTl : T.length = 16 := by rw [← hT]; exact amark_len _ _ _ _
  rw [hT] at g2
  rw [show aseal key nonce ad l = C ++ T by rw [← hT, ← hC, ← hc]; rfl]
  have hC0 : C.length = 0 + k := by omega
  refine good_frm 24 Try.func43 rfl rfl rfl rfl rfl rfl ?_
  refine awp_seq ?_
  refine rln ?_
  refine G2 (fun _ k_ => q_boxa k_) ?_
  refine G2 (fun _ k_ => q_boxa k_) ?_
  refine As ?_
  refine gend ?_
  refine awp_seq ?_
  refine rln ?_
  refine G (q_ldw ?_)
  refine G (q_ldw ?_)
  refine Mv ?_
  refine G2 (fun _ k_ => q_calln g1 k_ (ha := (caa (et rfl) sees_m (cac rfl cm_int (caa (et rfl) sees_m (cac (et rfl) sees_ro ca0)))))) ?_
  refine As ?_
  refine gend ?_
  refine awp_seq ?_
  refine rln ?_
  refine G (q_ldw ?_)
  refine G (q_ldw ?_)
  refine Mv ?_
  refine Mv ?_
  refine G2 (fun _ k_ => q_callp g2 k_ (ha := (caa (et rfl) sees_m (caa (et rfl) sees_m (cac (et rfl) sees_ro (cac (et rfl) (sees_slc rfl rfl (cut_h hCl)) ca0)))))) ?_
  refine G2 (fun _ k_ => q_al k_) ?_
  refine G20 (fun _ k_ => q_stw k_) ?_
  refine gend ?_
  refine awp_seq ?_
  refine rdln [1, 3] [0, 0, 0, 1, 2] [0, 1, 1, 2, 2] ?_
  refine Dp (fun _ => q_mv (s := .v (.c _)) ⟨rfl, rfl⟩) ?_
  refine De2  (fun _ k_ => q_app k_) ?_
  refine DSp 3 rfl (fun _ hv => q_slp_no ⟨rfl, rfl⟩ (hp := hv)) ?_
  refine De2 (fun _ k_ => q_app k_ (eA := el_slc (xs := u8s C) rfl (by rw [mapc_length]; omega) (cut_h hC0))) ?_
  refine Dp (fun _ => q_as (s := .v (.c _)) ⟨rfl, rfl⟩) ?_
  refine dend ?_
  refine awp_ret ?_
  exact fx1 [5] (hm0 := by rw [Nat.zero_add]) (hH := pl1 (cs' := u8s (C ++ T)) rfl (by rw [mapc_append]; exact sees_m) pl0)
end Go.Proofs.Ytklcckngmmklhaa.Ae

/- What functions of the program do, walked over the abstract machine. -/
namespace Go.Proofs.Ytklcckngmmklhaa.Ae
open Go Go.Abs Go.Proofs Go.Proofs.Ytklcckngmmklhaa.Ch Go.Proofs.Ytklcckngmmklhaa.Po
set_option maxRecDepth 20000
theorem xw_get' (key : List UInt8) (ctr : UInt32) (nonce l : List UInt8) (n i : Nat) (h : i < n) : (xw key ctr nonce l n).getD i 0 = l.getD i 0 ^^^ (blk key (ctr + UInt32.ofNat (i / 64)) nonce).getD (i % 64) 0 := by
  simp [xw, List.getD_eq_getElem?_getD, h]
theorem xw_xw (key : List UInt8) (ctr : UInt32) (nonce l : List UInt8) (n : Nat) (h : l.length = n) : xw key ctr nonce (xw key ctr nonce l n) n = l := by
  refine List.ext_getElem (by rw [xw_len, h]) fun i h1 h2 => ?_
  rw [xw_len] at h1
  have := xw_get' key ctr nonce (xw key ctr nonce l n) n i h1
  rw [xw_get' key ctr nonce l n i h1, UInt8.xor_assoc, UInt8.xor_self, UInt8.xor_zero] at this
  simpa [List.getD_eq_getElem?_getD, h2, xw_len, h1] using this
theorem aopen_aseal (key nonce ad l : List UInt8) : aopen key nonce ad (aseal key nonce ad l) = some l := by
  have hl := aseal_len key nonce ad l
  have hx := xw_len key 1 nonce l l.length
  unfold aopen
  rw [hl, if_neg (by omega), Nat.add_sub_cancel]
  have e1 : (aseal key nonce ad l).take l.length = xw key 1 nonce l l.length := by rw [aseal, List.take_append_of_le_length (by omega), List.take_of_length_le (by omega)]
  have e2 : (aseal key nonce ad l).drop l.length = amark key nonce ad (xw key 1 nonce l l.length) := by rw [aseal, List.drop_append_of_le_length (by omega), List.drop_of_length_le (by omega), List.nil_append]
  rw [e1, e2, if_pos rfl, xw_xw key 1 nonce l _ rfl]
theorem str_eq {a b : List UInt8} : ((⟨a.toArray⟩ : ByteArray) = ⟨b.toArray⟩) ↔ a = b := by
  constructor
  · intro h; injection h with h; injection h
  · rintro rfl; rfl
theorem ropen_short (key nonce ad s : List UInt8) (n k : Nat) (hkey : key.length = 32) (hnonce : nonce.length = 12) (had : ad.length = n) (hn : n ≤ 10000) (hc : s.length = k) (hk : k ≤ 10000) (h : k < 16) : Good Try.prog 45 [.a (u8s key), .a (u8s nonce), .c (.ro n (u8s ad)), .c (.ro k (u8s s))] [] (.t [.c .nils, .c (.bool false)]) [] := by
  refine good_frm 38 Try.func45 rfl rfl rfl rfl rfl rfl ?_
  refine awp_seq ?_
  refine rln ?_
  refine G2 (fun _ k_ => q_boxa k_) ?_
  refine G2 (fun _ k_ => q_boxa k_) ?_
  refine As ?_
  refine As ?_
  refine gend ?_
  refine awp_seq ?_
  refine awp_seq ?_
  refine rln ?_
  refine Mv ?_
  refine G (q_leno ?_)
  refine G (q_lssn (y := 16) ?_)
  refine gend ?_
  refine cndY (fun hc1 => ?_) ?_; rotate_left
  · omega
  refine awp_seq ?_
  refine rln ?_
  refine As ?_
  refine As ?_
  refine gend ?_
  refine awp_ret ?_
  exact fx2 [] (hm0 := rfl) (hH := pl0)
set_option maxHeartbeats 800000 in
theorem ropen_bad (key nonce ad s : List UInt8) (n k : Nat) (hkey : key.length = 32) (hnonce : nonce.length = 12) (had : ad.length = n) (hn : n ≤ 10000) (hc : s.length = k) (hk : k ≤ 10000) (h : 16 ≤ k) (hh : amark key nonce ad (s.take (k - 16)) ≠ s.drop (k - 16)) : Good Try.prog 45 [.a (u8s key), .a (u8s nonce), .c (.ro n (u8s ad)), .c (.ro k (u8s s))] [] (.t [.c .nils, .c (.bool false)]) [] := by
  have hTl : (s.take (k - 16)).length = k - 16 := by rw [List.length_take]; omega
  have hDl : (s.drop (k - 16)).length = 16 := by rw [List.length_drop]; omega
  have g2 := rmark_ key nonce ad (s.take (k - 16)) n (k - 16) hkey hnonce had hn hTl (by omega)
  obtain ⟨M, hM⟩ : ∃ z, amark key nonce ad (s.take (k - 16)) = z := ⟨_, rfl⟩
  have hMl : M.length = 16 := by rw [← hM]; exact amark_len _ _ _ _
  rw [hM] at g2 hh
  refine good_frm 38 Try.func45 rfl rfl rfl rfl rfl rfl ?_
  refine awp_seq ?_
  refine rln ?_
  refine G2 (fun _ k_ => q_boxa k_) ?_
  refine G2 (fun _ k_ => q_boxa k_) ?_
  refine As ?_
  refine As ?_
  refine gend ?_
  refine awp_seq ?_
  refine awp_seq ?_
  refine rln ?_
  refine Mv ?_
  refine G (q_leno ?_)
  refine G (q_lssn (y := 16) ?_)
  refine gend ?_
  refine cndN (fun hc1 => ?_) ?_; rotate_left
  · omega
  refine awp_skip ?_
  refine awp_seq ?_
  refine rln ?_
  refine Mv ?_
  refine G (q_leno ?_)
  refine G (q_subn (y := 16) ?_)
  refine As ?_
  refine gend ?_
  refine awp_seq ?_
  refine rdln [7, 8] [0, 0, 0, 0, 0, 0, 0, 0, 1] [1, 1, 1, 1, 1, 1, 1, 1, 2] ?_
  refine DLw ?_
  refine DLw ?_
  refine Dp (fun _ => q_mv (s := .v (.c _)) ⟨rfl, rfl⟩) ?_
  refine Dp (fun _ => q_mv (s := .v (.c _)) ⟨rfl, rfl⟩) ?_
  refine Dp (fun _ => q_mv (s := .v (.c _)) ⟨rfl, rfl⟩) ?_
  refine Dp (fun _ => q_slo_hi  ⟨rfl, rfl⟩ (hc := take0_m)) ?_
  refine Dp (fun _ => q_callp g2 ⟨rfl, rfl⟩ (ha := (caa (et rfl) sees_m (caa (et rfl) sees_m (cac (et rfl) sees_ro (cac (et rfl) sees_ro ca0)))))) ?_
  refine De2 (fun _ k_ => q_al k_) ?_
  refine De20 (fun _ k_ => q_stw k_) ?_
  refine dend ?_
  refine awp_seq ?_
  refine awp_seq ?_
  refine rdln [] [] [] ?_
  refine DSp 2 rfl (fun _ hv => q_slp_no ⟨rfl, rfl⟩ (hp := hv)) ?_
  refine DCs ?_
  refine Dp (fun _ => q_mv (s := .v (.c _)) ⟨rfl, rfl⟩) ?_
  refine Dp (fun _ => q_mv (s := .v (.c _)) ⟨rfl, rfl⟩) ?_
  refine Dp (fun _ => q_slo_lo  ⟨rfl, rfl⟩ (hc := drop_m hc)) ?_
  refine Dp (fun _ => q_cso ⟨rfl, rfl⟩) ?_
  refine Dp (fun _ => q_neqs ⟨rfl, rfl⟩) ?_
  refine dend ?_
  refine cndnY (fun hc2 => ?_) ?_; rotate_left
  · exact mt str_eq.1 hh
  refine awp_seq ?_
  refine rln ?_
  refine As ?_
  refine As ?_
  refine gend ?_
  refine awp_ret ?_
  exact fx2 [] (hm0 := rfl) (hH := pl0)
set_option maxHeartbeats 800000 in
theorem ropen_yes (key nonce ad s : List UInt8) (n k : Nat) (hkey : key.length = 32) (hnonce : nonce.length = 12) (had : ad.length = n) (hn : n ≤ 10000) (hc : s.length = k) (hk : k ≤ 10000) (h : 16 ≤ k) (hh : amark key nonce ad (s.take (k - 16)) = s.drop (k - 16)) : Good Try.prog 45 [.a (u8s key), .a (u8s nonce), .c (.ro n (u8s ad)), .c (.ro k (u8s s))] [] (.t [.c (.slc 0 0 (k - 16) 1), .c (.bool true)]) [some (u8s (xw key 1 nonce (s.take (k - 16)) (k - 16)))] := by
  have hTl : (s.take (k - 16)).length = k - 16 := by rw [List.length_take]; omega
  have hDl : (s.drop (k - 16)).length = 16 := by rw [List.length_drop]; omega
  have g2 := rmark_ key nonce ad (s.take (k - 16)) n (k - 16) hkey hnonce had hn hTl (by omega)
  obtain ⟨M, hM⟩ : ∃ z, amark key nonce ad (s.take (k - 16)) = z := ⟨_, rfl⟩
  have hMl : M.length = 16 := by rw [← hM]; exact amark_len _ _ _ _
  rw [hM] at g2 hh
  have g4 := rxor key 1 nonce (k - 16) (s.take (k - 16)) hkey hnonce hTl (by omega)
  refine good_frm 38 Try.func45 rfl rfl rfl rfl rfl rfl ?_
  refine awp_seq ?_
  refine rln ?_
  refine G2 (fun _ k_ => q_boxa k_) ?_
  refine G2 (fun _ k_ => q_boxa k_) ?_
  refine As ?_
  refine As ?_
  refine gend ?_
  refine awp_seq ?_
  refine awp_seq ?_
  refine rln ?_
  refine Mv ?_
  refine G (q_leno ?_)
  refine G (q_lssn (y := 16) ?_)
  refine gend ?_
  refine cndN (fun hc1 => ?_) ?_; rotate_left
  · omega
  refine awp_skip ?_
  refine awp_seq ?_
  refine rln ?_
  refine Mv ?_
  refine G (q_leno ?_)
  refine G (q_subn (y := 16) ?_)
  refine As ?_
  refine gend ?_
  refine awp_seq ?_
  refine rdln [7, 8] [0, 0, 0, 0, 0, 0, 0, 0, 1] [1, 1, 1, 1, 1, 1, 1, 1, 2] ?_
  refine DLw ?_
  refine DLw ?_
  refine Dp (fun _ => q_mv (s := .v (.c _)) ⟨rfl, rfl⟩) ?_
  refine Dp (fun _ => q_mv (s := .v (.c _)) ⟨rfl, rfl⟩) ?_
  refine Dp (fun _ => q_mv (s := .v (.c _)) ⟨rfl, rfl⟩) ?_
  refine Dp (fun _ => q_slo_hi  ⟨rfl, rfl⟩ (hc := take0_m)) ?_
  refine Dp (fun _ => q_callp g2 ⟨rfl, rfl⟩ (ha := (caa (et rfl) sees_m (caa (et rfl) sees_m (cac (et rfl) sees_ro (cac (et rfl) sees_ro ca0)))))) ?_
  refine De2 (fun _ k_ => q_al k_) ?_
  refine De20 (fun _ k_ => q_stw k_) ?_
  refine dend ?_
  refine awp_seq ?_
  refine awp_seq ?_
  refine rdln [] [] [] ?_
  refine DSp 2 rfl (fun _ hv => q_slp_no ⟨rfl, rfl⟩ (hp := hv)) ?_
  refine DCs ?_
  refine Dp (fun _ => q_mv (s := .v (.c _)) ⟨rfl, rfl⟩) ?_
  refine Dp (fun _ => q_mv (s := .v (.c _)) ⟨rfl, rfl⟩) ?_
  refine Dp (fun _ => q_slo_lo  ⟨rfl, rfl⟩ (hc := drop_m hc)) ?_
  refine Dp (fun _ => q_cso ⟨rfl, rfl⟩) ?_
  refine Dp (fun _ => q_neqs ⟨rfl, rfl⟩) ?_
  refine dend ?_
  refine cndnN (fun hc2 => ?_) ?_; rotate_left
  · exact str_eq.2 hh
  refine awp_skip ?_
  refine awp_seq ?_
  refine rdln [5] [0, 0, 0, 0, 0, 0, 1, 1] [0, 0, 0, 0, 0, 1, 1, 1] ?_
  refine DLw ?_
  refine DLw ?_
  refine Dp (fun _ => q_mv (s := .v (.c _)) ⟨rfl, rfl⟩) ?_
  refine Dp (fun _ => q_mv (s := .v (.c _)) ⟨rfl, rfl⟩) ?_
  refine Dp (fun _ => q_slo_hi  ⟨rfl, rfl⟩ (hc := take0_m)) ?_
  refine De2 (fun _ k_ => q_calln g4 k_ (ha := (caa (et rfl) sees_m (cac rfl cm_int (caa (et rfl) sees_m (cac (et rfl) sees_ro ca0)))))) ?_
  refine Dp (fun _ => q_as (s := .v (.c _)) ⟨rfl, rfl⟩) ?_
  refine Dp (fun _ => q_as (s := .v (.c _)) ⟨rfl, rfl⟩) ?_
  refine dend ?_
  refine awp_ret ?_
  exact fx2 [3] (hm0 := rfl) (hH := pl1 rfl sees_m pl0)
theorem ropen_none (key nonce ad s : List UInt8) (n k : Nat) (hkey : key.length = 32) (hnonce : nonce.length = 12) (had : ad.length = n) (hn : n ≤ 10000) (hc : s.length = k) (hk : k ≤ 10000) (h : aopen key nonce ad s = none) : Good Try.prog 45 [.a (u8s key), .a (u8s nonce), .c (.ro n (u8s ad)), .c (.ro k (u8s s))] [] (.t [.c .nils, .c (.bool false)]) [] := by
  unfold aopen at h
  rw [hc] at h
  by_cases h1 : k < 16
  · exact ropen_short key nonce ad s n k hkey hnonce had hn hc hk h1
  · rw [if_neg h1] at h
    by_cases h2 : amark key nonce ad (s.take (k - 16)) = s.drop (k - 16)
    · rw [if_pos h2] at h; cases h
    · exact ropen_bad key nonce ad s n k hkey hnonce had hn hc hk (by omega) h2
theorem ropen_some (key nonce ad s : List UInt8) (n k : Nat) (hkey : key.length = 32) (hnonce : nonce.length = 12) (had : ad.length = n) (hn : n ≤ 10000) (hc : s.length = k) (hk : k ≤ 10000) (p : List UInt8) (h : aopen key nonce ad s = some p) : Good Try.prog 45 [.a (u8s key), .a (u8s nonce), .c (.ro n (u8s ad)), .c (.ro k (u8s s))] [] (.t [.c (.slc 0 0 (k - 16) 1), .c (.bool true)]) [some (u8s p)] := by
  unfold aopen at h
  rw [hc] at h
  by_cases h1 : k < 16
  · rw [if_pos h1] at h; cases h
  · rw [if_neg h1] at h
    by_cases h2 : amark key nonce ad (s.take (k - 16)) = s.drop (k - 16)
    · rw [if_pos h2] at h; cases h; exact ropen_yes key nonce ad s n k hkey hnonce had hn hc hk (by omega) h2
    · rw [if_neg h2] at h; cases h
end Go.Proofs.Ytklcckngmmklhaa.Ae

/- The abstract machine: a block is told under another number, and no longer under its old one. -/
namespace Go.Abs
open Go
def SubM (p q : Nat) (al : List (Nat × S)) : List (Nat × S) → Prop
  | [] => True
  | (t, s) :: r => (lkp al t = s ∨ (∃ o n sz, lkp al t = sc (.slc p o n sz) ∧ s = sc (.slc q o n sz)) ∨ (∃ o, lkp al t = sc (.ptr p o) ∧ s = sc (.ptr q o))) ∧ SubM p q al r
end Go.Abs

/- The abstract machine: what a function does is told of more memory, and its outcome in other words; memory under other numbers. -/
namespace Go.Abs
open Go
/-! What a function does, told of more memory: as a call does it. -/
theorem argVs_tmps : ∀ (pre args : List V) (post : List S), argVs ((pre ++ args).map S.v ++ post) ((List.range' pre.length args.length).map Operand.tmp) = some args
  | pre, [], post => rfl
  | pre, a :: r, post => by
    have h := argVs_tmps (pre ++ [a]) r post
    rw [List.append_assoc] at h
    simp only [List.length_cons, List.range'_succ, List.map_cons, argVs]
    have e : ev ((pre ++ a :: r).map S.v ++ post) (.tmp pre.length) = .v a := by
      simp [ev]
    rw [e]
    have h' : argVs ((pre ++ a :: r).map S.v ++ post) ((List.range' (pre.length + 1) r.length).map Operand.tmp) = some r := by
      simpa using h
    rw [h']
theorem vsrel_at {R : Rl} : ∀ {xs : List V} {vs : List Value}, VsRel R xs vs → ∀ (i : Nat) x, xs[i]? = some x → ∃ v, vs[i]? = some v ∧ VRel R x v
  | [], vs, _, i, x, h => by simp at h
  | y :: xs, vs, k, i, x, h => by
    simp only [VsRel] at k
    obtain ⟨v, vs', rfl, h1, h2⟩ := k
    cases i with
    | zero => simp at h; subst h; exact ⟨v, rfl, h1⟩
    | succ i => simpa using vsrel_at h2 i x (by simpa using h)
theorem Good.call {P : Program} {k : FuncId} {args : List V} {H Hl' : Heap} {v : S} (π : List Nat) (lend : Bool) (hnd : π.Nodup) (hπ : ∀ p ∈ π, p < H.length)
    (hg : Good P k (args.map (vm (cm (cin π lend H) 8))) (π.map (pick H (cm (cin π lend H) 8))) v Hl') :
    Good P k args H (sm (cm (cout π lend H.length) 8) v) (back π (cm (cout π lend H.length) 8) H Hl') := by
  obtain ⟨fn, hfn, hbody, hname⟩ := hg.2.1
  let fr : List S := args.map S.v ++ [ud]
  let xs : List Operand := (List.range' 0 args.length).map Operand.tmp
  have hargs : argVs fr xs = some args := by
    have := argVs_tmps [] args [ud]
    simpa [fr, xs] using this
  let o : Oper := { dst := some args.length, op := .call ⟨.value (.func k), xs.toArray, #[]⟩, type := 0, pos := "", after := #[], guard := none }
  have hg' : Good P k ((args ++ ([] : List Cell).map V.c).map (vm (cm (cin π lend H) 8))) (π.map (pick H (cm (cin π lend H) 8))) v Hl' := by simpa using hg
  have hop := opg_call (P := P) (o := o) (fr := fr) (H := H) (f := .func k) (args := xs.toArray) (ats := #[]) π lend rfl (by rfl : ev fr (.func k) = sc (.fn k [])) hargs hfn hbody hname hnd hπ hg'
  refine ⟨hop.1, ⟨fn, hfn, hbody, hname⟩, ?_⟩
  intro E ρ w rargs hE hw himg hH hrel
  subst hw
  have hlen := vsrel_length hrel
  let a : Act := ⟨(rargs ++ [undef]).toArray, []⟩
  have hs : Sim E ρ ⟨fr, H⟩ a E.w0 := by
    refine ⟨⟨rfl, by simp [a, fr, hlen], fun i s hi => ?_⟩, hH⟩
    by_cases hlt : i < args.length
    · simp only [fr] at hi
      rw [List.getElem?_append_left (by simpa using hlt)] at hi
      simp only [List.getElem?_map, Option.map_eq_some_iff] at hi
      obtain ⟨x, h1, rfl⟩ := hi
      obtain ⟨v, h2, h3⟩ := vsrel_at hrel i x h1
      refine ⟨v, ?_, h3⟩
      have hlt' : i < rargs.length := by omega
      simp only [a, List.getElem?_toArray]
      rw [List.getElem?_append_left hlt']
      exact h2
    · have h1 := (List.getElem?_eq_some_iff.1 hi).1
      simp [fr] at h1
      have hi' : i = args.length := by omega
      subst hi'
      simp [fr] at hi
      subst hi
      exact ⟨undef, by simp [a, hlen.symm], by simp [ud, SRel, VRel, CRel]⟩
  have hrun : (execOp a.eval o).run P E.w0 = .ok (.enter k rargs.toArray) E.w0 := by
    have hb : fn.body.isNone = false := by cases hfb : fn.body with
      | none => rw [hfb] at hbody; cases hbody
      | some c => rfl
    have hev : xs.toArray.map a.eval = rargs.toArray := by
      apply Array.ext'
      simp only [xs, List.map_toArray, List.map_map]
      apply List.ext_getElem?
      intro i
      simp only [List.getElem?_map, List.getElem?_range']
      by_cases hi : i < args.length
      · have hi' : i < rargs.length := by omega
        simp [hi, a, Act.eval, Array.getD_eq_getD_getElem?, hi', List.getElem?_append_left]
      · rw [List.getElem?_eq_none (l := rargs) (by omega)]
        simp [hi]
    simp only [execOp, o, resolve, Act.eval, Deferred.ofValue, invoke, callFunc, Sem.run_bind, Sem.run_pure, Result.andThen_ok, run_program, hfn, hname, hb, Bool.false_eq_true, if_false, Array.empty_append, Array.append_empty]
    exact congrArg (fun z => Result.ok (Next.enter k z) E.w0) hev
  have key := hop.2 E ρ a E.w0 hE hs (fun a' w' => ∃ ρ', (∀ p, p < H.length → ρ' p = ρ p) ∧ HRel E ρ' w' (back π (cm (cout π lend H.length) 8) H Hl') ∧ SRel (E.rl (back π (cm (cout π lend H.length) 8) H Hl').length ρ') (sm (cm (cout π lend H.length) 8) v) (a'.tmps.getD args.length undef)) (fun _ _ _ => False) ?_
  · unfold Oper.wp at key
    rw [hrun, Oper.upon_enter] at key
    refine key.mono ?_
    intro e w' h
    cases e with
    | returned rv =>
      obtain ⟨ρ', h1, h2, h3⟩ := h
      refine ⟨rv, ρ', rfl, h1, h2, ?_⟩
      have : (a.put o.dst rv).tmps.getD args.length undef = rv := by
        simp [Act.put, o, a, Array.getD_eq_getD_getElem?, hlen.symm]
      rw [this] at h3
      exact h3
    | panicked chain => exact h.elim
    | outgrown => exact absurd h (by simp [LetsOut])
  · intro rv w' ρ' h1 h2 h3
    refine ⟨ρ', h1, h2, ?_⟩
    have : (a.put o.dst rv).tmps.getD args.length undef = rv := by
      simp [Act.put, o, a, Array.getD_eq_getD_getElem?, hlen.symm]
    rw [this]
    exact h3
/-! The outcome told in other words. -/
theorem Good.out {P : Program} {k : FuncId} {args : List V} {H H' H2 : Heap} {v v2 : S} (hg : Good P k args H v H') (hl : H.length ≤ H2.length) (hle : SLe H.length ⟨[v], H'⟩ ⟨[v2], H2⟩) : Good P k args H v2 H2 := by
  refine ⟨hl, hg.2.1, fun E ρ w rargs hE hw himg hH hrel => ?_⟩
  refine (hg.2.2 E ρ w rargs hE hw himg hH hrel).mono ?_
  rintro e w' ⟨rv, ρ', rfl, h1, h2, h3⟩
  obtain ⟨ρ2, k1, k2⟩ := hle E ρ' ⟨#[rv], []⟩ w' ⟨⟨rfl, rfl, fun i s hi => by
    cases i with
    | zero => simp at hi; subst hi; exact ⟨rv, rfl, h3⟩
    | succ i => simp at hi⟩, h2⟩
  refine ⟨rv, ρ2, rfl, fun p hp => (k1 p hp).trans (h1 p hp), k2.heap, ?_⟩
  obtain ⟨v', g1, g2⟩ := k2.fr.2.2 0 v2 rfl
  simp at g1
  subst g1
  exact g2
def e2 (q sz : Nat) : Cell → Cell
  | .nils => .slc q 0 0 sz
  | c => c
theorem e2_sound {R R' : Rl} {q sz : Nat} (h : R.Le R') (hq : q < R'.n) (c : Cell) (v : Value) (k : CRel R c v) : CRel R' (e2 q sz c) v := by
  by_cases hc : c = .nils
  · subst hc
    simp only [CRel] at k
    subst k
    simp only [e2, CRel]
    exact ⟨hq, none, 0, rfl, Nat.le_refl _, .inr rfl⟩
  · have : e2 q sz c = c := by unfold e2; split <;> first | exact absurd rfl hc | rfl
    rw [this]; exact CRel.mono h c v k
theorem emp_sim {E : Env} {ρ : Nat → Place} {w : World} {H : Heap} (hh : HRel E ρ w H) : ∃ ρ', (∀ p, p < H.length → ρ' p = ρ p) ∧ HRel E ρ' w (H ++ [some []]) := by
  let ρ' : Nat → Place := fun p => if p = H.length then ⟨0, 0, 0⟩ else ρ p
  have hρ : ∀ p, p < H.length → ρ' p = ρ p := fun p hp => if_neg (by omega)
  have hle : (E.rl H.length ρ).Le (E.rl (H ++ [some []]).length ρ') := ⟨fun b hb => ⟨hb, rfl⟩, fun p hp => ⟨by
    show p < (H ++ [some []]).length
    have hp' : p < H.length := hp
    simp; omega, hρ p hp⟩⟩
  have hget : ∀ p cs, (H ++ [some ([] : List Cell)])[p]? = some (some cs) → (ρ' p).room ≠ 0 → p < H.length ∧ H[p]? = some (some cs) := by
    intro p cs hp hr
    by_cases hlt : p < H.length
    · rw [List.getElem?_append_left hlt] at hp; exact ⟨hlt, hp⟩
    · have := (List.getElem?_eq_some_iff.1 hp).1
      simp at this
      have : p = H.length := by omega
      subst this
      simp [ρ'] at hr
  refine ⟨ρ', hρ, hh.os, hh.tape, hh.output, hh.size, hh.frame, fun p cs hp hr => ?_, fun p q cs ds hp hq hrp hrq he => ?_, fun p cs hp hr => ?_, fun p cs hp hr => ?_⟩
  · obtain ⟨h1, h2⟩ := hget p cs hp hr
    rw [hρ p h1] at hr ⊢
    exact hh.fresh p cs h2 hr
  · obtain ⟨h1, h2⟩ := hget p cs hp hrp
    obtain ⟨h3, h4⟩ := hget q ds hq hrq
    rw [hρ p h1] at hrp he
    rw [hρ q h3] at hrq he
    exact hh.inj p q cs ds h2 h4 hrp hrq he
  · obtain ⟨h1, h2⟩ := hget p cs hp hr
    rw [hρ p h1] at hr ⊢
    exact (hh.blk p cs h2 hr).mono hle rfl
  · by_cases hlt : p < H.length
    · rw [List.getElem?_append_left hlt] at hp
      rw [hρ p hlt] at hr
      exact hh.emp p cs hp hr
    · have := (List.getElem?_eq_some_iff.1 hp).1
      simp at this
      have : p = H.length := by omega
      subst this
      simpa using hp
theorem sle_emp2 {n : Nat} {v : S} {H : Heap} (sz : Nat) (hn : n ≤ H.length) : SLe n ⟨[v], H⟩ ⟨[sm (e2 H.length sz) v], H ++ [some []]⟩ := by
  intro E ρ a w hs
  obtain ⟨ρ', h1, h2⟩ := emp_sim hs.heap
  have hle : (E.rl H.length ρ).Le (E.rl (H ++ [some []]).length ρ') := ⟨fun b hb => ⟨hb, rfl⟩, fun p hp => ⟨by
    show p < (H ++ [some []]).length
    have hp' : p < H.length := hp
    simp; omega, h1 p hp⟩⟩
  refine ⟨ρ', fun p hp => h1 p (Nat.lt_of_lt_of_le hp hn), ⟨hs.fr.1, hs.fr.2.1, fun i s hi => ?_⟩, h2⟩
  cases i with
  | zero =>
    simp at hi
    subst hi
    obtain ⟨u, k1, k2⟩ := hs.fr.2.2 0 v rfl
    exact ⟨u, k1, sm_sound (fun c v k => e2_sound hle (by show H.length < (H ++ [some []]).length; simp) c v k) k2⟩
  | succ i => simp at hi
theorem Good.emp {P : Program} {k : FuncId} {args : List V} {H H' : Heap} {v v2 : S} (hg : Good P k args H v H') (sz : Nat) (hv : sm (e2 H'.length sz) v = v2 := by rfl) : Good P k args H v2 (H' ++ [some []]) := by
  subst hv
  exact hg.out (H2 := H' ++ [some []]) (Nat.le_trans hg.1 (by simp)) (sle_emp2 sz hg.1)
/-! Memory under other numbers: for each new block the old one, and whether it is told of. -/
def nfi (p : Nat) (b : Bool) : List (Nat × Bool) → Option Nat
  | [] => none
  | (q, c) :: r => if Nat.beq q p && (!b || c) then some 0 else (nfi p b r).map (· + 1)
theorem nfi_get {p : Nat} {b : Bool} : ∀ {l : List (Nat × Bool)} {j : Nat}, nfi p b l = some j → (l[j]?).map (·.1) = some p
  | [], j, h => by simp [nfi] at h
  | (q, c) :: r, j, h => by
    simp only [nfi] at h
    split at h
    · rename_i hq
      simp at h
      subst h
      simp at hq
      simp [hq.1]
    · rw [Option.map_eq_some_iff] at h
      obtain ⟨i, h1, rfl⟩ := h
      simpa using nfi_get h1
def nph (τ : List (Nat × Bool)) (p : Nat) : Option Nat := match nfi p true τ with
  | some j => some j
  | none => nfi p false τ
theorem nph_get {τ : List (Nat × Bool)} {p j : Nat} (h : nph τ p = some j) : (τ[j]?).map (·.1) = some p := by
  unfold nph at h
  split at h
  · rename_i h1; simp at h; subst h; exact nfi_get h1
  · exact nfi_get h
abbrev nm (τ : List (Nat × Bool)) : Cell → Cell := cm ⟨nph τ, fun _ => none, true, false⟩ 8
def renB (τ : List (Nat × Bool)) (H : Heap) : Heap := τ.map fun x => if x.2 then pick H (nm τ) x.1 else none
def uniqT : List (Nat × Bool) → Bool
  | [] => true
  | (p, b) :: r => (!b || r.all fun x => !(x.2 && Nat.beq x.1 p)) && uniqT r
theorem uniqT_ok : ∀ {τ : List (Nat × Bool)}, uniqT τ = true → ∀ {i j p : Nat}, τ[i]? = some (p, true) → τ[j]? = some (p, true) → i = j
  | [], _, i, j, p, h1, _ => by simp at h1
  | (q, b) :: r, h, i, j, p, h1, h2 => by
    simp only [uniqT, Bool.and_eq_true] at h
    have no : ∀ k : Nat, b = true → q = p → r[k]? = some (p, true) → False := by
      intro k hb hq hk
      have h3 := h.1
      rw [hb] at h3
      simp only [Bool.not_true, Bool.false_or] at h3
      have := List.all_eq_true.1 h3 _ (List.mem_of_getElem? hk)
      simp [hq] at this
    cases i with
    | zero =>
      simp at h1
      cases j with
      | zero => rfl
      | succ j => simp at h2; exact (no j h1.2 h1.1 h2).elim
    | succ i =>
      simp at h1
      cases j with
      | zero => simp at h2; exact (no i h2.2 h2.1 h1).elim
      | succ j => simp at h2; rw [uniqT_ok h.2 h1 h2]
theorem ren_sim {τ : List (Nat × Bool)} {E : Env} {ρ : Nat → Place} {w : World} {H : Heap} (hu : uniqT τ = true) (hh : HRel E ρ w H) :
    HRel E (fun j => ρ ((τ.getD j (0, false)).1)) w (renB τ H) ∧ ∀ c v, CRel (E.rl H.length ρ) c v → CRel (E.rl (renB τ H).length fun j => ρ ((τ.getD j (0, false)).1)) (nm τ c) v := by
  have key : ∀ c v, CRel (E.rl H.length ρ) c v → CRel (E.rl (renB τ H).length fun j => ρ ((τ.getD j (0, false)).1)) (nm τ c) v := by
    refine cm_sound (R := E.rl H.length ρ) (R' := E.rl (renB τ H).length fun j => ρ ((τ.getD j (0, false)).1)) (m := ⟨nph τ, fun _ => none, true, false⟩) ⟨fun p q hq hp => ?_, fun p cs hcs => by simp at hcs, fun _ b hb => ⟨hb, rfl⟩⟩ 8
    have := nph_get hq
    rw [Option.map_eq_some_iff] at this
    obtain ⟨x, h1, h2⟩ := this
    have hlt := (List.getElem?_eq_some_iff.1 h1).1
    refine ⟨by show q < (renB τ H).length; simpa [renB] using hlt, ?_⟩
    show ρ ((τ.getD q (0, false)).1) = ρ p
    rw [List.getD_eq_getElem?_getD, h1]; exact congrArg ρ h2
  have hget : ∀ (j : Nat) cs, (renB τ H)[j]? = some (some cs) → ∃ p c0, τ[j]? = some (p, true) ∧ H[p]? = some (some c0) ∧ cs = c0.map (nm τ) ∧ (τ.getD j (0, false)).1 = p := by
    intro j cs hj
    simp only [renB, List.getElem?_map, Option.map_eq_some_iff] at hj
    obtain ⟨⟨p, b⟩, h1, h2⟩ := hj
    cases b with
    | false => simp at h2
    | true =>
      simp only [if_true] at h2
      obtain ⟨c0, h3, h4⟩ := pick_get h2
      exact ⟨p, c0, h1, h3, h4, by rw [List.getD_eq_getElem?_getD, h1]; rfl⟩
  refine ⟨⟨hh.os, hh.tape, hh.output, hh.size, hh.frame, fun p cs hp hr => ?_, fun p q cs ds hp hq hr1 hr2 he => ?_, fun p cs hp hr => ?_, fun p cs hp hr => ?_⟩, key⟩
  · obtain ⟨q, c0, h1, h2, h3, h4⟩ := hget p cs hp
    simp only [h4] at hr ⊢
    exact hh.fresh q c0 h2 hr
  · obtain ⟨p', c0, h1, h2, h3, h4⟩ := hget p cs hp
    obtain ⟨q', d0, k1, k2, k3, k4⟩ := hget q ds hq
    simp only [h4] at hr1 he
    simp only [k4] at hr2 he
    have := hh.inj p' q' c0 d0 h2 k2 hr1 hr2 he
    subst this
    exact uniqT_ok hu h1 k1
  · obtain ⟨q, c0, h1, h2, h3, h4⟩ := hget p cs hp
    simp only [h4] at hr ⊢
    obtain ⟨arr, el, fr, b1, b2, b3, b4, b5⟩ := hh.blk q c0 h2 hr
    refine ⟨arr, el, fr, b1, b2, b3, by rw [h3]; simpa using b4, fun i c hi => ?_⟩
    rw [h3, List.getElem?_map, Option.map_eq_some_iff] at hi
    obtain ⟨c1, h5, rfl⟩ := hi
    obtain ⟨v, h6, ho, h7⟩ := b5 i c1 h5
    exact ⟨v, h6, ho, key _ _ h7⟩
  · obtain ⟨q, c0, h1, h2, h3, h4⟩ := hget p cs hp
    simp only [h4] at hr
    rw [h3, hh.emp q c0 h2 hr]; rfl
theorem sle_renS {n : Nat} {fr : List S} {H : Heap} (τ : List (Nat × Bool)) (hu : uniqT τ = true) (hn : ∀ p, p < n → (τ[p]?).map (·.1) = some p) : SLe n ⟨fr, H⟩ ⟨fr.map (sm (nm τ)), renB τ H⟩ := by
  intro E ρ a w hs
  obtain ⟨h1, h2⟩ := ren_sim (τ := τ) hu hs.heap
  refine ⟨_, fun p hp => ?_, ⟨hs.fr.1, by simpa using hs.fr.2.1, fun i s hi => ?_⟩, h1⟩
  · have := hn p hp
    rw [Option.map_eq_some_iff] at this
    obtain ⟨x, k1, k2⟩ := this
    show ρ ((τ.getD p (0, false)).1) = ρ p
    rw [List.getD_eq_getElem?_getD, k1]; exact congrArg ρ k2
  · rw [List.getElem?_map, Option.map_eq_some_iff] at hi
    obtain ⟨s0, k1, rfl⟩ := hi
    obtain ⟨v, k2, k3⟩ := hs.fr.2.2 i s0 k1
    exact ⟨v, k2, sm_sound h2 k3⟩
theorem piT {τ : List (Nat × Bool)} {n : Nat} (h : ((List.range n).all fun p => (τ[p]?).map (·.1) == some p) = true) : ∀ p, p < n → (τ[p]?).map (·.1) = some p := fun p hp => by
  have := List.all_eq_true.1 h p (List.mem_range.2 hp)
  simpa using this
theorem Good.ren {P : Program} {k : FuncId} {args : List V} {H H' H2 : Heap} {v v2 : S} (hg : Good P k args H v H') (τ : List (Nat × Bool)) (hu : uniqT τ = true) (hn : ∀ p, p < H.length → (τ[p]?).map (·.1) = some p)
    (hv : sm (nm τ) v = v2) (hH : renB τ H' = H2) : Good P k args H v2 H2 := by
  subst hv hH
  refine hg.out ?_ (sle_renS τ hu hn)
  rcases Nat.eq_zero_or_pos H.length with h | h
  · omega
  · have := hn (H.length - 1) (by omega)
    rw [Option.map_eq_some_iff] at this
    obtain ⟨x, h1, _⟩ := this
    have := (List.getElem?_eq_some_iff.1 h1).1
    simp only [renB, List.length_map]
    omega
theorem frm_map (f : Cell → Cell) {N : Nat} {al : List (Nat × S)} {t : Nat} : lkp (al.map fun x => (x.1, sm f x.2)) t = sm f (lkp al t) ∨ (lkp al t = ud ∧ lkp (al.map fun x => (x.1, sm f x.2)) t = ud) := by
  induction al with
  | nil => exact .inr ⟨rfl, rfl⟩
  | cons x r ih =>
    obtain ⟨i, s⟩ := x
    simp only [List.map_cons, lkp]
    cases Nat.beq i t with
    | true => exact .inl rfl
    | false => exact ih
theorem sle_ren {n N : Nat} {al al' : List (Nat × S)} {H H' : Heap} (τ : List (Nat × Bool)) (hu : uniqT τ = true) (hn : ∀ p, p < n → (τ[p]?).map (·.1) = some p)
    (hf : SubL (al.map fun x => (x.1, sm (nm τ) x.2)) al') (hH : H' = renB τ H) : SLe n ⟨frm N al, H⟩ ⟨frm N al', H'⟩ := by
  intro E ρ a w hs
  obtain ⟨ρ', h1, h2⟩ := sle_renS (n := n) (fr := frm N al) (H := H) τ hu hn E ρ a w hs
  subst hH
  refine ⟨ρ', h1, ⟨h2.fr.1, by rw [frm_length]; have := hs.fr.2.1; rwa [frm_length] at this, fun t s ht => ?_⟩, h2.heap⟩
  have hlt : t < N := by
    have := (List.getElem?_eq_some_iff.1 ht).1
    rwa [frm_length] at this
  rw [frm_get hlt] at ht
  obtain rfl := Option.some.inj ht
  obtain ⟨v, k1, k2⟩ := h2.fr.2.2 t _ (by rw [List.getElem?_map, frm_get hlt]; rfl)
  refine ⟨v, k1, ?_⟩
  rcases sub_get hf t with h | h
  · rw [h]; simp [ud, SRel, VRel, CRel]
  · rw [h]
    rcases frm_map (N := N) (nm τ) (al := al) (t := t) with g | ⟨_, g⟩
    · rw [g]; exact k2
    · rw [g]; simp [ud, SRel, VRel, CRel]
end Go.Abs

/- The abstract machine: words for memory where a block may be told of or not. -/
namespace Go.Abs
open Go
theorem plb {H Hl : Heap} {f : Cell → Cell} {p : Nat} {π : List Nat} {b b' : Option (List Cell)} (hp : H[p]? = some b) (hc : b.map (List.map f) = b') (h : π.map (pick H f) = Hl) : (p :: π).map (pick H f) = b' :: Hl := by
  subst hc
  cases b <;> simp [pick, hp, ← h]
theorem mlb {f : Cell → Cell} {L L' : Heap} {b b' : Option (List Cell)} (hx : b.map (List.map f) = b') (h : L.map (Option.map (List.map f)) = L') : (b :: L).map (Option.map (List.map f)) = b' :: L' := by
  simp [hx, h]
def kb (has : Bool) (key : List UInt8) : Option (List Cell) := bif has then some (u8s key) else none
theorem kb_map {has : Bool} {key : List UInt8} {m : CM} {d : Nat} : (kb has key).map (List.map (cm m d)) = kb has key := by
  cases has
  · rfl
  · simp [kb, mapc_cm]
def kp (has : Bool) (p : Nat) : Cell := bif has then .ptr p 0 else .nilp
def kr (has : Bool) (key : List UInt8) : Cell := bif has then .rop (u8s key) else .nilp
/-! Blocks under other numbers, one by one. -/
def renL (τ0 τ : List (Nat × Bool)) (H : Heap) : Heap := τ.map fun x => if x.2 then pick H (nm τ0) x.1 else none
theorem rl0 {τ0 : List (Nat × Bool)} {H : Heap} : renL τ0 [] H = [] := rfl
theorem rlT {τ0 τ : List (Nat × Bool)} {H R : Heap} {p : Nat} {cs cs' : List Cell} (hp : H[p]? = some (some cs)) (hc : cs.map (nm τ0) = cs') (h : renL τ0 τ H = R) : renL τ0 ((p, true) :: τ) H = some cs' :: R := by
  subst hc h; simp [renL, pick, hp]
theorem rlF {τ0 τ : List (Nat × Bool)} {H R : Heap} {p : Nat} (h : renL τ0 τ H = R) : renL τ0 ((p, false) :: τ) H = none :: R := by
  subst h; simp [renL]
theorem rlB {τ0 τ : List (Nat × Bool)} {H R : Heap} {p : Nat} {b b' : Option (List Cell)} (hp : H[p]? = some b) (hc : b.map (List.map (nm τ0)) = b') (h : renL τ0 τ H = R) : renL τ0 ((p, true) :: τ) H = b' :: R := by
  subst hc h; cases b <;> simp [renL, pick, hp]
theorem Good.ren' {P : Program} {k : FuncId} {args : List V} {H H' H2 : Heap} {v v2 : S} (hg : Good P k args H v H') (τ : List (Nat × Bool)) (hH : renL τ τ H' = H2) (hv : sm (nm τ) v = v2 := by rfl) (hu : uniqT τ = true := by rfl) (hn : ((List.range H.length).all fun p => (τ[p]?).map (·.1) == some p) = true := by rfl) : Good P k args H v2 H2 :=
  hg.ren τ hu (piT hn) hv hH
end Go.Abs

/- The abstract machine: elements of a slice of structs that may be looked at. -/
namespace Go.Abs
open Go
theorem flat_at {α β : Type} {g : α → List β} {sz : Nat} (hg : ∀ x, (g x).length = sz) : ∀ (l : List α) (j : Nat) (d : α), j < l.length → (l.flatMap g).drop (j * sz) = g (l.getD j d) ++ (l.drop (j + 1)).flatMap g
  | [], j, d, h => by simp at h
  | a :: r, 0, d, h => by simp
  | a :: r, j + 1, d, h => by
    have hj : (j + 1) * sz = sz + j * sz := by rw [Nat.succ_mul]; omega
    rw [List.flatMap_cons, hj, ← List.drop_drop, List.drop_append_of_le_length (by rw [hg]; exact Nat.le_refl _), List.drop_of_length_le (l := g a) (by rw [hg]; exact Nat.le_refl _), List.nil_append, flat_at hg r j d (by simpa using h)]
    simp
theorem flat_len {α β : Type} {g : α → List β} {sz : Nat} (hg : ∀ x, (g x).length = sz) : ∀ l : List α, (l.flatMap g).length = l.length * sz
  | [] => by simp
  | a :: r => by rw [List.flatMap_cons, List.length_append, hg, flat_len hg r, List.length_cons, Nat.succ_mul]; omega
theorem flat_cm {α : Type} {g : α → List Cell} {f : Cell → Cell} (hg : ∀ x, (g x).map f = g x) (l : List α) : (l.flatMap g).map f = l.flatMap g := by
  rw [List.map_flatMap]; exact congrArg (fun z => List.flatMap z l) (funext hg)
theorem rs_fl {α : Type} {g : α → List Cell} {l : List α} {n : Nat} {f : Nat → Option Nat} {x : Nat → Option (List Cell)} {b : Bool} (hg : ∀ y, (g y).map (cm ⟨f, x, true, b⟩ 7) = g y) : sm (cm ⟨f, x, true, b⟩ 8) (sc (.ro n (l.flatMap g))) = sc (.ro n (l.flatMap g)) := by
  show S.v (V.c (.ro n ((l.flatMap g).map (cm ⟨f, x, true, b⟩ 7)))) = _
  rw [flat_cm hg]
section
variable {P : Program} {fr : List S} {H : Heap} {K : S → Heap → Prop} {od : Option Nat} {oty : TypeId} {ops_ : String} {oaf : Array Edge} {ogu : Option (Nat × Bool)} {t u : TypeId} {a b i : Operand} {ti : TI}
theorem q_ixe {α : Type} {g : α → List Cell} {l : List α} {m e j : Nat} {ei : TI} {sz_ : Nat} {d x : α} (hx_ : l.getD j d = x) (hg : ∀ x, (g x).length = sz_) [it_ : SlT P t ti e ei sz_] (h : K (sc (.rop (g x ++ (l.drop (j + 1)).flatMap g))) H) (hz : Nat.blt 0 sz_ = true := by exact rfl)
    (hi : Ix (ev fr i) j := by first | exact ixn (et rfl) | exact ixn rfl | exact ix64 (et rfl) | exact ix8 (et rfl) | exact ix32 (et rfl)) (hx : ev fr a = sc (.ro m (l.flatMap g)) := by first | exact et rfl | exact rfl) (hm : l.length = m := by first | with_reducible assumption | exact rfl)
    (hlt : j < m := by first | omega | with_reducible assumption) : ostep P ⟨od, .indexAddr t a i, oty, ops_, oaf, ogu⟩ fr H K := by
  have hz' : 0 < sz_ := by simpa [Nat.blt_eq] using hz
  have hj : j < l.length := by omega
  refine q_ixo (cs := l.flatMap g) (j := j) ?_ hi hx hlt ?_
  · rw [flat_at hg l j d hj, hx_]; exact h
  · rw [flat_len hg]
    have : (j + 1) * sz_ ≤ l.length * sz_ := Nat.mul_le_mul_right _ hj
    rw [Nat.succ_mul] at this
    omega
end
end Go.Abs

/- What functions of the program do, walked over the abstract machine. -/
namespace Go.Proofs.Ytklcckngmmklhaa
open Go Go.Abs Go.Proofs Go.Proofs.Ytklcckngmmklhaa.Ch Go.Proofs.Ytklcckngmmklhaa.Po Go.Proofs.Ytklcckngmmklhaa.Ae
set_option maxRecDepth 20000
abbrev cC (kp : Cell) (n : UInt64) : List Cell := [kp, c64 n, .bool true]
def anext (key : List UInt8) : List UInt8 := (aseal key (anonce 18446744073709551615) [] (List.replicate 32 0)).take 32
theorem anext_len (key : List UInt8) : (anext key).length = 32 := by rw [anext, List.length_take, aseal_len]; simp
theorem keyE {key : List UInt8} (hk : key.length = 32) : (u8s key).isEmpty = false := by
  cases key with
  | nil => simp at hk
  | cons a l => rfl
theorem sees_key {H : Heap} {key : List UInt8} {p q d : Nat} {n : UInt64} {π : List Nat} (hp : idx p π = none) (hq : idx q π = none) (hk : key.length = 32) (hC : H[q]? = some (some (cC (.ptr p 0) n))) (hK : H[p]? = some (some (u8s key))) : cm (cin π true H) (d + 2) (.ptr q 0) = .rop [.rop (u8s key), c64 n, .bool true] := by
  have he : (cC (.ptr p 0) n).isEmpty = false := rfl
  simp only [cm, cin, hp, hq, joinH, hK, hC, if_true, he, keyE hk, Bool.false_eq_true, if_false, List.drop_zero, List.map_cons, List.map_nil]
  rw [mapc_cm]
theorem piB {π : List Nat} {n : Nat} (h : ((List.range n).all fun p => π[p]? == some p) = true) : ∀ p, p < n → π[p]? = some p := fun p hp => by
  simpa using List.all_eq_true.1 h p (List.mem_range.2 hp)
theorem cut_pre2 {l : List UInt8} {k : Nat} : ((u8s l).drop 0).take k = u8s (l.take k) := by rw [List.drop_zero, mapc_take]
theorem new_ (key : List UInt8) (hk : key.length = 32) : Good Try.prog 13 [.a (u8s key)] [] (sc (.ptr 1 0)) [some (u8s key), some (cC (.ptr 0 0) 0)] := by
  refine good_frm 5 Try.func13 rfl rfl rfl rfl rfl rfl ?_
  refine awp_seq ?_
  refine rln ?_
  refine G2 (fun _ k_ => q_boxa k_) ?_
  refine As ?_
  refine gend ?_
  refine awp_seq ?_
  refine rln ?_
  refine G (q_bls (fkc rfl (et rfl) rfl (Nat.le_of_ble_eq_true rfl) (fkc rfl rfl rfl (Nat.le_of_ble_eq_true rfl) (fk0 ?_))))
  refine G2 (fun _ k_ => q_boxa k_) ?_
  refine As ?_
  refine gend ?_
  refine awp_ret ?_
  exact fx1 [0, 1] (hm0 := rfl) (hH := pl1 rfl sees_m (pl1 rfl rfl pl0))
theorem ready_ok (kc : List Cell) (n : UInt64) (h : n ≠ 18446744073709551615) : Good Try.prog 37 [.c (.rop [.rop kc, c64 n, .bool true])] [] (sc (cn 0)) [] := by
  refine good_frm 26 Try.func37 rfl rfl rfl rfl rfl rfl ?_
  refine awp_seq ?_
  refine rln ?_
  refine G (q_as (s := sc (cn 0)) ?_)
  refine gend ?_
  refine awp_seq ?_
  refine awp_block ?_
  refine awp_seq ?_
  refine rln ?_
  refine Mv ?_
  refine G (q_eqlp ?_)
  refine Mv ?_
  refine Gg (q_mv (s := .v (.c _)) ?_)
  refine Gg (q_ncr ?_)
  refine Gg (q_far ?_)
  refine Gg (q_ldr ?_)
  refine Gg (q_notb ?_)
  refine G (q_pkf ?_)
  refine As ?_
  refine gend ?_
  refine cndbnN (fun hc1 => ?_) ?_; rotate_left
  · exact rfl
  refine awp_seq ?_
  refine rln ?_
  refine Mv ?_
  refine G (q_ncr ?_)
  refine G (q_far ?_)
  refine G (q_ldr ?_)
  refine G (q_neqp ?_)
  refine Mv ?_
  refine Akn 19 (fun hb6 => ?_) ?_; rotate_left
  · exact rfl
  refine Gg (q_mv (s := .v (.c _)) ?_)
  refine Gg (q_ncr ?_)
  refine Gg (q_far ?_)
  refine Gg (q_ldr ?_)
  refine Gg (q_eql64 (y := 18446744073709551615) ?_)
  refine G (q_pkt ?_)
  refine As ?_
  refine gend ?_
  refine cndN (fun hc2 => ?_) ?_; rotate_left
  · exact h
  refine awp_skip ?_
  refine awp_seq ?_
  refine rln ?_
  refine G (q_as (s := sc (cn 0)) ?_)
  refine gend ?_
  refine awp_ret ?_
  exact fp1
theorem has_k (kc : List Cell) (r : List Cell) : Good Try.prog 35 [.c (.rop (.rop kc :: r))] [] (sc (.bool true)) [] := by
  refine good_frm 12 Try.func35 rfl rfl rfl rfl rfl rfl ?_
  refine awp_seq ?_
  refine rln ?_
  refine As ?_
  refine gend ?_
  refine awp_seq ?_
  refine rln ?_
  refine Mv ?_
  refine G (q_neqp ?_)
  refine Mv ?_
  refine Gg (q_mv (s := .v (.c _)) ?_)
  refine Gg (q_ncr ?_)
  refine Gg (q_far ?_)
  refine Gg (q_ldr ?_)
  refine Gg (q_neqp ?_)
  refine G (q_pkt ?_)
  refine As ?_
  refine gend ?_
  refine awp_ret ?_
  exact fp1
end Go.Proofs.Ytklcckngmmklhaa

/- What functions of the program do, walked over the abstract machine. -/
namespace Go.Proofs.Ytklcckngmmklhaa
open Go Go.Abs Go.Proofs Go.Proofs.Ytklcckngmmklhaa.Ch Go.Proofs.Ytklcckngmmklhaa.Po Go.Proofs.Ytklcckngmmklhaa.Ae
set_option maxRecDepth 20000
set_option maxHeartbeats 1600000 in
theorem cseal_ok (key ad l : List UInt8) (n : UInt64) (a k : Nat) (hkey : key.length = 32) (had : ad.length = a) (ha9 : a ≤ 10000) (hl : l.length = k) (hk9 : k ≤ 10000) (h : n ≠ 18446744073709551615) : Good Try.prog 14 [.c (.ptr 0 0), .c (.ro a (u8s ad)), .c (.ro k (u8s l))] [some (cC (.ptr 1 0) n), some (u8s key)] (.t [.c (.slc 2 0 (k + 16) 1), .c (cn 0)]) [some (cC (.ptr 1 0) (n + 1)), some (u8s key), some (u8s (aseal key (anonce n) ad l))] := by
  have g1 := ready_ok (u8s key) n h
  have hNl := anonce_len n
  have g2 := nonce_ n
  obtain ⟨N, hN⟩ : ∃ z, anonce n = z := ⟨_, rfl⟩
  rw [hN] at hNl g2
  rw [hN]
  have g3 := seal_ key N ad l a k hkey hNl had ha9 hl hk9
  have hn1 : n + 1 - 1 = n := UInt64.add_sub_cancel ..
  have g2' : Good Try.prog 40 [.c (c64 (n + 1 - 1))] [] (sa (u8s N)) [] := by rw [hn1]; exact g2
  refine good_frm 43 Try.func14 rfl rfl rfl rfl rfl rfl ?_
  refine awp_seq ?_
  refine rln ?_
  refine As ?_
  refine G (q_as (s := sc (cn 0)) ?_)
  refine gend ?_
  refine awp_seq ?_
  refine awp_seq ?_
  refine rln ?_
  refine Mv ?_
  refine G2 (fun _ k_ => q_callp g1 k_ (ha := (cac (et rfl) (sees_key rfl rfl hkey rfl rfl) ca0))) ?_
  refine As ?_
  refine gend ?_
  refine awp_seq ?_
  refine rln ?_
  refine Mv ?_
  refine G (q_neqn (y := 0) ?_)
  refine gend ?_
  refine cndN (fun hc1 => ?_) ?_; rotate_left
  · exact fun h => h rfl
  refine awp_skip ?_
  refine awp_seq ?_
  refine awp_seq ?_
  refine rln ?_
  refine Mv ?_
  refine G (q_ncp ?_)
  refine G (q_fap0 ?_)
  refine G (q_ldp ?_)
  refine G (q_eqlp ?_)
  refine gend ?_
  refine cndF ?_
  refine awp_skip ?_
  refine awp_seq ?_
  refine rln ?_
  refine Mv ?_
  refine G (q_ncp ?_)
  refine G (q_fap0 ?_)
  refine G (q_ldp ?_)
  refine G (q_add64 (y := 1) ?_)
  refine G (q_ncp ?_)
  refine G (q_fap0 ?_)
  refine G20 (fun _ k_ => q_st k_) ?_
  refine gend ?_
  refine awp_seq ?_
  refine rdln [14] [0, 0, 0, 0, 0, 0, 0, 0, 0, 0, 0, 0, 0, 0, 0, 1, 1] [0, 0, 0, 0, 0, 0, 0, 0, 0, 0, 0, 0, 0, 0, 1, 1, 1] ?_
  refine Dp (fun _ => q_mv (s := .v (.c _)) ⟨rfl, rfl⟩) ?_
  refine Dp (fun _ => q_ncp ⟨rfl, rfl⟩) ?_
  refine Dp (fun _ => q_fap0 ⟨rfl, rfl⟩) ?_
  refine DLp ?_
  refine Dp (fun _ => q_ncp ⟨rfl, rfl⟩) ?_
  refine DLw ?_
  refine Dp (fun _ => q_mv (s := .v (.c _)) ⟨rfl, rfl⟩) ?_
  refine Dp (fun _ => q_ncp ⟨rfl, rfl⟩) ?_
  refine Dp (fun _ => q_fap0 ⟨rfl, rfl⟩) ?_
  refine DLp ?_
  refine Dp (fun _ => q_sub64 (y := 1) ⟨rfl, rfl⟩) ?_
  refine Dp (fun _ => q_callp g2' ⟨rfl, rfl⟩ (ha := (cac (et rfl) cm_int ca0))) ?_
  refine Dp (fun _ => q_mv (s := .v (.c _)) ⟨rfl, rfl⟩) ?_
  refine Dp (fun _ => q_mv (s := .v (.c _)) ⟨rfl, rfl⟩) ?_
  refine De2 (fun _ k_ => q_calln g3 k_ (ha := (caa (et rfl) sees_m (caa (et rfl) sees_m (cac (et rfl) sees_ro (cac (et rfl) sees_ro ca0)))))) ?_
  refine Dp (fun _ => q_as (s := .v (.c _)) ⟨rfl, rfl⟩) ?_
  refine Dp (fun _ => q_as (s := sc (cn 0)) ⟨rfl, rfl⟩) ?_
  refine dend ?_
  refine awp_ret ?_
  exact fx2 [0, 1, 2] (hm0 := rfl) (hH := pl1 rfl rfl (pl1 rfl sees_m (pl1 rfl sees_m pl0))) (hn := piB rfl)
set_option maxHeartbeats 1600000 in
theorem copen_ok (key ad l : List UInt8) (n : UInt64) (a k : Nat) (hkey : key.length = 32) (had : ad.length = a) (ha9 : a ≤ 10000) (hl : l.length = k) (hk9 : k ≤ 10000) (h : n ≠ 18446744073709551615) (p : List UInt8) (hp : aopen key (anonce n) ad l = some p) : Good Try.prog 33 [.c (.ptr 0 0), .c (.ro a (u8s ad)), .c (.ro k (u8s l))] [some (cC (.ptr 1 0) n), some (u8s key)] (.t [.c (.slc 2 0 (k - 16) 1), .c (cn 0)]) [some (cC (.ptr 1 0) (n + 1)), some (u8s key), some (u8s p)] := by
  have g1 := ready_ok (u8s key) n h
  have hNl := anonce_len n
  have g2 := nonce_ n
  obtain ⟨N, hN⟩ : ∃ z, anonce n = z := ⟨_, rfl⟩
  rw [hN] at hNl g2
  rw [hN] at hp
  have g3 := open_some key N ad l a k hkey hNl had ha9 hl hk9 p hp
  refine good_frm 51 Try.func33 rfl rfl rfl rfl rfl rfl ?_
  refine awp_seq ?_
  refine rln ?_
  refine As ?_
  refine G (q_as (s := sc (cn 0)) ?_)
  refine gend ?_
  refine awp_seq ?_
  refine awp_seq ?_
  refine rln ?_
  refine Mv ?_
  refine G2 (fun _ k_ => q_callp g1 k_ (ha := (cac (et rfl) (sees_key rfl rfl hkey rfl rfl) ca0))) ?_
  refine As ?_
  refine gend ?_
  refine awp_seq ?_
  refine rln ?_
  refine Mv ?_
  refine G (q_neqn (y := 0) ?_)
  refine gend ?_
  refine cndN (fun hc1 => ?_) ?_; rotate_left
  · exact fun h => h rfl
  refine awp_skip ?_
  refine awp_seq ?_
  refine awp_seq ?_
  refine rln ?_
  refine Mv ?_
  refine G (q_ncp ?_)
  refine G (q_fap0 ?_)
  refine G (q_ldp ?_)
  refine G (q_eqlp ?_)
  refine gend ?_
  refine cndF ?_
  refine awp_skip ?_
  refine awp_seq ?_
  refine rdln [13] [0, 0, 0, 0, 0, 0, 0, 0, 0, 0, 0, 0, 0, 0, 1, 1, 1, 1, 1] [0, 0, 0, 0, 0, 0, 0, 0, 0, 0, 0, 0, 0, 1, 1, 1, 1, 1, 1] ?_
  refine Dp (fun _ => q_mv (s := .v (.c _)) ⟨rfl, rfl⟩) ?_
  refine Dp (fun _ => q_ncp ⟨rfl, rfl⟩) ?_
  refine Dp (fun _ => q_fap0 ⟨rfl, rfl⟩) ?_
  refine DLp ?_
  refine Dp (fun _ => q_ncp ⟨rfl, rfl⟩) ?_
  refine DLw ?_
  refine Dp (fun _ => q_mv (s := .v (.c _)) ⟨rfl, rfl⟩) ?_
  refine Dp (fun _ => q_ncp ⟨rfl, rfl⟩) ?_
  refine Dp (fun _ => q_fap0 ⟨rfl, rfl⟩) ?_
  refine DLp ?_
  refine Dp (fun _ => q_callp g2 ⟨rfl, rfl⟩ (ha := (cac (et rfl) cm_int ca0))) ?_
  refine Dp (fun _ => q_mv (s := .v (.c _)) ⟨rfl, rfl⟩) ?_
  refine Dp (fun _ => q_mv (s := .v (.c _)) ⟨rfl, rfl⟩) ?_
  refine De2 (fun _ k_ => q_calln g3 k_ (ha := (caa (et rfl) sees_m (caa (et rfl) sees_m (cac (et rfl) sees_ro (cac (et rfl) sees_ro ca0)))))) ?_
  refine Dp (fun _ => q_mv (s := .t _) ⟨rfl, rfl⟩) ?_
  refine Dp (fun _ => q_ext (y := .c _) ⟨rfl, rfl⟩) ?_
  refine Dp (fun _ => q_ext (y := .c _) ⟨rfl, rfl⟩) ?_
  refine Dp (fun _ => q_as (s := .v (.c _)) ⟨rfl, rfl⟩) ?_
  refine Dp (fun _ => q_as (s := .v (.c _)) ⟨rfl, rfl⟩) ?_
  refine dend ?_
  refine awp_seq ?_
  refine awp_seq ?_
  refine rln ?_
  refine Mv ?_
  refine G (q_eqln (y := 0) ?_)
  refine gend ?_
  refine cndY (fun hc2 => ?_) ?_; rotate_left
  · exact rfl
  refine rln ?_
  refine Mv ?_
  refine G (q_ncp ?_)
  refine G (q_fap0 ?_)
  refine G (q_ldp ?_)
  refine G (q_add64 (y := 1) ?_)
  refine G (q_ncp ?_)
  refine G (q_fap0 ?_)
  refine G20 (fun _ k_ => q_st k_) ?_
  refine gend ?_
  refine awp_seq ?_
  refine rln ?_
  refine Mv ?_
  refine Mv ?_
  refine As ?_
  refine As ?_
  refine gend ?_
  refine awp_ret ?_
  exact fx2 [0, 1, 2] (hm0 := rfl) (hH := pl1 rfl rfl (pl1 rfl sees_m (pl1 rfl sees_m pl0))) (hn := piB rfl)
set_option maxHeartbeats 1600000 in
theorem copen_bad (key ad l : List UInt8) (n : UInt64) (a k : Nat) (hkey : key.length = 32) (had : ad.length = a) (ha9 : a ≤ 10000) (hl : l.length = k) (hk9 : k ≤ 10000) (h : n ≠ 18446744073709551615) (hp : aopen key (anonce n) ad l = none) : Good Try.prog 33 [.c (.ptr 0 0), .c (.ro a (u8s ad)), .c (.ro k (u8s l))] [some (cC (.ptr 1 0) n), some (u8s key)] (.t [.c .nils, .c (cn 8)]) [some (cC (.ptr 1 0) n), some (u8s key)] := by
  have g1 := ready_ok (u8s key) n h
  have hNl := anonce_len n
  have g2 := nonce_ n
  obtain ⟨N, hN⟩ : ∃ z, anonce n = z := ⟨_, rfl⟩
  rw [hN] at hNl g2
  rw [hN] at hp
  have g3 := open_none key N ad l a k hkey hNl had ha9 hl hk9 hp
  refine good_frm 51 Try.func33 rfl rfl rfl rfl rfl rfl ?_
  refine awp_seq ?_
  refine rln ?_
  refine As ?_
  refine G (q_as (s := sc (cn 0)) ?_)
  refine gend ?_
  refine awp_seq ?_
  refine awp_seq ?_
  refine rln ?_
  refine Mv ?_
  refine G2 (fun _ k_ => q_callp g1 k_ (ha := (cac (et rfl) (sees_key rfl rfl hkey rfl rfl) ca0))) ?_
  refine As ?_
  refine gend ?_
  refine awp_seq ?_
  refine rln ?_
  refine Mv ?_
  refine G (q_neqn (y := 0) ?_)
  refine gend ?_
  refine cndN (fun hc1 => ?_) ?_; rotate_left
  · exact fun h => h rfl
  refine awp_skip ?_
  refine awp_seq ?_
  refine awp_seq ?_
  refine rln ?_
  refine Mv ?_
  refine G (q_ncp ?_)
  refine G (q_fap0 ?_)
  refine G (q_ldp ?_)
  refine G (q_eqlp ?_)
  refine gend ?_
  refine cndF ?_
  refine awp_skip ?_
  refine awp_seq ?_
  refine rdln [] [] [] ?_
  refine Dp (fun _ => q_mv (s := .v (.c _)) ⟨rfl, rfl⟩) ?_
  refine Dp (fun _ => q_ncp ⟨rfl, rfl⟩) ?_
  refine Dp (fun _ => q_fap0 ⟨rfl, rfl⟩) ?_
  refine DLp ?_
  refine Dp (fun _ => q_ncp ⟨rfl, rfl⟩) ?_
  refine DLw ?_
  refine Dp (fun _ => q_mv (s := .v (.c _)) ⟨rfl, rfl⟩) ?_
  refine Dp (fun _ => q_ncp ⟨rfl, rfl⟩) ?_
  refine Dp (fun _ => q_fap0 ⟨rfl, rfl⟩) ?_
  refine DLp ?_
  refine Dp (fun _ => q_callp g2 ⟨rfl, rfl⟩ (ha := (cac (et rfl) cm_int ca0))) ?_
  refine Dp (fun _ => q_mv (s := .v (.c _)) ⟨rfl, rfl⟩) ?_
  refine Dp (fun _ => q_mv (s := .v (.c _)) ⟨rfl, rfl⟩) ?_
  refine Dp (fun _ => q_callp g3 ⟨rfl, rfl⟩ (ha := (caa (et rfl) sees_m (caa (et rfl) sees_m (cac (et rfl) sees_ro (cac (et rfl) sees_ro ca0)))))) ?_
  refine Dp (fun _ => q_mv (s := .t _) ⟨rfl, rfl⟩) ?_
  refine Dp (fun _ => q_ext (y := .c _) ⟨rfl, rfl⟩) ?_
  refine Dp (fun _ => q_ext (y := .c _) ⟨rfl, rfl⟩) ?_
  refine Dp (fun _ => q_as (s := .v (.c _)) ⟨rfl, rfl⟩) ?_
  refine Dp (fun _ => q_as (s := .v (.c _)) ⟨rfl, rfl⟩) ?_
  refine dend ?_
  refine awp_seq ?_
  refine awp_seq ?_
  refine rln ?_
  refine Mv ?_
  refine G (q_eqln (y := 0) ?_)
  refine gend ?_
  refine cndN (fun hc2 => ?_) ?_; rotate_left
  · exact by decide
  refine awp_skip ?_
  refine awp_seq ?_
  refine rln ?_
  refine Mv ?_
  refine Mv ?_
  refine As ?_
  refine As ?_
  refine gend ?_
  refine awp_ret ?_
  exact fx2 [0, 1] (hm0 := rfl) (hH := pl1 rfl rfl (pl1 rfl sees_m pl0))
theorem setn_k (key : List UInt8) (n m : UInt64) : Good Try.prog 29 [.c (.ptr 0 0), .c (c64 m)] [some (cC (.ptr 1 0) n), some (u8s key)] (.t []) [some (cC (.ptr 1 0) m), some (u8s key)] := by
  refine good_frm 16 Try.func29 rfl rfl rfl rfl rfl rfl ?_
  refine awp_seq ?_
  refine rln ?_
  refine Mv ?_
  refine G (q_neqp ?_)
  refine Mv ?_
  refine Gg (q_mv (s := .v (.c _)) ?_)
  refine Gg (q_ncp ?_)
  refine Gg (q_fap0 ?_)
  refine Gg (q_ldp ?_)
  refine G (q_pkt ?_)
  refine gend ?_
  refine cndbY (fun hc1 => ?_) ?_; rotate_left
  · exact rfl
  refine rln ?_
  refine Mv ?_
  refine Mv ?_
  refine G (q_ncp ?_)
  refine G (q_fap0 ?_)
  refine G20 (fun _ k_ => q_st k_) ?_
  refine gend ?_
  exact fx0 [0, 1] (hH := pl1 rfl rfl (pl1 rfl sees_m pl0))
end Go.Proofs.Ytklcckngmmklhaa

/- What functions of the program do, walked over the abstract machine. -/
namespace Go.Proofs.Ytklcckngmmklhaa
open Go Go.Abs Go.Proofs Go.Proofs.Ytklcckngmmklhaa.Ch Go.Proofs.Ytklcckngmmklhaa.Po Go.Proofs.Ytklcckngmmklhaa.Ae
set_option maxRecDepth 20000
abbrev sC (cp : Cell) (h ck : List UInt8) : List Cell := cp :: (u8s h ++ u8s ck)
set_option maxHeartbeats 1600000 in
theorem rekey_k (key : List UInt8) (n : UInt64) (hkey : key.length = 32) : Good Try.prog 47 [.c (.ptr 0 0)] [some (cC (.ptr 1 0) n), some (u8s key)] (.t []) [some (cC (.ptr 2 0) n), some (u8s key), some (u8s (anext key))] := by
  have hNl := anonce_len 18446744073709551615
  have g2 := nonce_ 18446744073709551615
  have hA := anext_len key
  have hS := aseal_len key (anonce 18446744073709551615) [] (List.replicate 32 0)
  have g3 := seal_ key (anonce 18446744073709551615) [] (List.replicate 32 0) 0 32 hkey hNl rfl (by decide) rfl (by decide)
  rw [show (List.replicate 32 (0 : UInt8)).length = 32 from rfl] at hS
  have hAS : anext key = (aseal key (anonce 18446744073709551615) [] (List.replicate 32 0)).take 32 := rfl
  obtain ⟨Sx, hSx⟩ : ∃ z, aseal key (anonce 18446744073709551615) [] (List.replicate 32 0) = z := ⟨_, rfl⟩
  obtain ⟨N, hN⟩ : ∃ z, anonce 18446744073709551615 = z := ⟨_, rfl⟩
  obtain ⟨A, hAA⟩ : ∃ z, anext key = z := ⟨_, rfl⟩
  rw [hSx] at hS hAS g3
  rw [hAA] at hA hAS ⊢
  rw [hN] at g2 g3 hNl
  refine good_frm 20 Try.func47 rfl rfl rfl rfl rfl rfl ?_
  refine awp_seq ?_
  refine rln ?_
  refine Mv ?_
  refine G2 (fun _ k_ => q_callp (has_k _ _) k_ (ha := (cac (et rfl) (sees_key rfl rfl hkey rfl rfl) ca0))) ?_
  refine gend ?_
  refine cndbY (fun hc1 => ?_) ?_; rotate_left
  · exact rfl
  refine awp_mid ⟨frm 20 [(0, sc (.ptr 0 0)), (2, sc (.ptr 2 0))], [some (cC (.ptr 1 0) n), some (u8s key), some (u8s A)]⟩ ?_ ?_
  · refine rdm [7, 8, 12, 13] [⟨[0, 1, 2, 3, 4, 5, 6, 7, 8, 9, 10, 11, 12, 13], [7, 8, 12, 13], [7, 8, 12, 13], [0, 0, 0, 0, 0, 0, 0, 0, 1, 2, 2, 2, 2, 3], [1, 1, 1, 1, 1, 1, 1, 1, 2, 3, 3, 3, 3, 4]⟩, ⟨[0, 1, 2, 3, 4, 5, 6, 7, 12, 8, 9, 10, 11, 13], [7, 12, 8, 13], [7, 8, 9, 13], [0, 0, 0, 0, 0, 0, 0, 0, 1, 2, 3, 3, 3, 3], [2, 2, 2, 2, 2, 2, 2, 1, 2, 3, 3, 3, 3, 4]⟩, ⟨[0, 1, 2, 3, 4, 5, 6, 12, 7, 8, 9, 10, 11, 13], [12, 7, 8, 13], [7, 8, 9, 13], [0, 0, 0, 0, 0, 0, 0, 0, 1, 2, 3, 3, 3, 3], [2, 2, 2, 2, 2, 2, 2, 1, 2, 3, 3, 3, 3, 4]⟩] ⟨?_, ?_, ?_, trivial⟩
    · refine Dp (fun _ => q_mv (s := .v (.c _)) ⟨rfl, rfl⟩) ?_
      refine Dp (fun _ => q_ncp ⟨rfl, rfl⟩) ?_
      refine Dp (fun _ => q_fap0 ⟨rfl, rfl⟩) ?_
      refine DLp ?_
      refine Dp (fun _ => q_ncp ⟨rfl, rfl⟩) ?_
      refine DLw ?_
      refine Dp (fun _ => q_callp g2 ⟨rfl, rfl⟩ (ha := (cac rfl cm_int ca0))) ?_
      refine De2 (fun _ k_ => q_mks k_) ?_
      refine De2 (fun _ k_ => q_calln g3 k_ (ha := (caa (et rfl) sees_m (caa (et rfl) sees_m (cac rfl sees_nil8 (cac (et rfl) (sees_slc rfl rfl rfl) ca0)))))) ?_
      refine Dp (fun _ => q_sls_hi (k := 32) ⟨rfl, rfl⟩) ?_
      refine Dp (fun _ => q_s2p ⟨rfl, rfl⟩) ?_
      refine DLa (xs := u8s A) ?_ (hc := by rw [hAS]; exact cut_pre2)
      refine De2 (fun _ k_ => q_al k_) ?_
      refine De20 (fun _ k_ => q_stw k_) ?_
      refine dend ?_
      exact sle_view [0, 1, 4] (piB rfl) (by decide) ⟨rfl, rfl, trivial⟩ (vh3 (pick_c rfl rfl) (pick_m rfl) (pick_m rfl))
    · refine Dp (fun _ => q_mv (s := .v (.c _)) ⟨rfl, rfl⟩) ?_
      refine Dp (fun _ => q_ncp ⟨rfl, rfl⟩) ?_
      refine Dp (fun _ => q_fap0 ⟨rfl, rfl⟩) ?_
      refine DLp ?_
      refine Dp (fun _ => q_ncp ⟨rfl, rfl⟩) ?_
      refine DLw ?_
      refine Dp (fun _ => q_callp g2 ⟨rfl, rfl⟩ (ha := (cac rfl cm_int ca0))) ?_
      refine De2 (fun _ k_ => q_mks k_) ?_
      refine De2 (fun _ k_ => q_al k_) ?_
      refine De2 (fun _ k_ => q_calln g3 k_ (ha := (caa (et rfl) sees_m (caa (et rfl) sees_m (cac rfl sees_nil8 (cac (et rfl) (sees_slc rfl rfl rfl) ca0)))))) ?_
      refine Dp (fun _ => q_sls_hi (k := 32) ⟨rfl, rfl⟩) ?_
      refine Dp (fun _ => q_s2p ⟨rfl, rfl⟩) ?_
      refine DLa (xs := u8s A) ?_ (hc := by rw [hAS]; exact cut_pre2)
      refine De20 (fun _ k_ => q_stw k_) ?_
      refine dend ?_
      exact sle_view [0, 1, 3] (piB rfl) (by decide) ⟨rfl, rfl, trivial⟩ (vh3 (pick_c rfl rfl) (pick_m rfl) (pick_m rfl))
    refine Dp (fun _ => q_mv (s := .v (.c _)) ⟨rfl, rfl⟩) ?_
    refine Dp (fun _ => q_ncp ⟨rfl, rfl⟩) ?_
    refine Dp (fun _ => q_fap0 ⟨rfl, rfl⟩) ?_
    refine DLp ?_
    refine Dp (fun _ => q_ncp ⟨rfl, rfl⟩) ?_
    refine DLw ?_
    refine Dp (fun _ => q_callp g2 ⟨rfl, rfl⟩ (ha := (cac rfl cm_int ca0))) ?_
    refine De2 (fun _ k_ => q_al k_) ?_
    refine De2 (fun _ k_ => q_mks k_) ?_
    refine De2 (fun _ k_ => q_calln g3 k_ (ha := (caa (et rfl) sees_m (caa (et rfl) sees_m (cac rfl sees_nil8 (cac (et rfl) (sees_slc rfl rfl rfl) ca0)))))) ?_
    refine Dp (fun _ => q_sls_hi (k := 32) ⟨rfl, rfl⟩) ?_
    refine Dp (fun _ => q_s2p ⟨rfl, rfl⟩) ?_
    refine DLa (xs := u8s A) ?_ (hc := by rw [hAS]; exact cut_pre2)
    refine De20 (fun _ k_ => q_stw k_) ?_
    refine dend ?_
    exact sle_view [0, 1, 2] (piB rfl) (by decide) ⟨rfl, rfl, trivial⟩ (vh3 (pick_c rfl rfl) (pick_m rfl) (pick_m rfl))
  refine rln ?_
  refine Mv ?_
  refine G (q_ncp ?_)
  refine G (q_fap0 ?_)
  refine G20 (fun _ k_ => q_st k_) ?_
  refine gend ?_
  exact fx0 [0, 1, 2] (hH := pl1 rfl rfl (pl1 rfl sees_m (pl1 rfl sees_m pl0))) (hn := piB rfl)
theorem copy_k (key : List UInt8) (n : UInt64) : Good Try.prog 36 [.c (.ptr 0 0)] [some (cC (.ptr 1 0) n), some (u8s key)] (sc (.ptr 2 0)) [some (cC (.ptr 1 0) n), some (u8s key), some (cC (.ptr 1 0) n)] := by
  refine good_frm 16 Try.func36 rfl rfl rfl rfl rfl rfl ?_
  refine awp_seq ?_
  refine rln ?_
  refine As ?_
  refine gend ?_
  refine awp_seq ?_
  refine awp_seq ?_
  refine rln ?_
  refine Mv ?_
  refine G (q_eqlp ?_)
  refine Mv ?_
  refine Gg (q_mv (s := .v (.c _)) ?_)
  refine Gg (q_ncp ?_)
  refine Gg (q_fap0 ?_)
  refine Gg (q_ldp ?_)
  refine Gg (q_notb ?_)
  refine G (q_pkf ?_)
  refine gend ?_
  refine cndbnN (fun hc1 => ?_) ?_; rotate_left
  · exact rfl
  refine awp_skip ?_
  refine awp_seq ?_
  refine rln ?_
  refine Mv ?_
  refine G (q_ncp ?_)
  refine G (q_ldw ?_)
  refine G2 (fun _ k_ => q_al k_) ?_
  refine G20 (fun _ k_ => q_stw k_) ?_
  refine gend ?_
  refine awp_seq ?_
  refine rln ?_
  refine As ?_
  refine gend ?_
  refine awp_ret ?_
  exact fx1 [0, 1, 2] (hm0 := rfl) (hH := pl1 rfl rfl (pl1 rfl sees_m (pl1 rfl rfl pl0))) (hn := piB rfl)
theorem copy_0 (n : UInt64) : Good Try.prog 36 [.c (.ptr 0 0)] [some (cC .nilp n)] (sc (.ptr 1 0)) [some (cC .nilp n), some (cC .nilp n)] := by
  refine good_frm 16 Try.func36 rfl rfl rfl rfl rfl rfl ?_
  refine awp_seq ?_
  refine rln ?_
  refine As ?_
  refine gend ?_
  refine awp_seq ?_
  refine awp_seq ?_
  refine rln ?_
  refine Mv ?_
  refine G (q_eqlp ?_)
  refine Mv ?_
  refine Gg (q_mv (s := .v (.c _)) ?_)
  refine Gg (q_ncp ?_)
  refine Gg (q_fap0 ?_)
  refine Gg (q_ldp ?_)
  refine Gg (q_notb ?_)
  refine G (q_pkf ?_)
  refine gend ?_
  refine cndbnN (fun hc1 => ?_) ?_; rotate_left
  · exact rfl
  refine awp_skip ?_
  refine awp_seq ?_
  refine rln ?_
  refine Mv ?_
  refine G (q_ncp ?_)
  refine G (q_ldw ?_)
  refine G2 (fun _ k_ => q_al k_) ?_
  refine G20 (fun _ k_ => q_stw k_) ?_
  refine gend ?_
  refine awp_seq ?_
  refine rln ?_
  refine As ?_
  refine gend ?_
  refine awp_ret ?_
  exact fx1 [0, 1] (hm0 := rfl) (hH := pl1 rfl rfl (pl1 rfl rfl pl0)) (hn := piB rfl)
end Go.Proofs.Ytklcckngmmklhaa

/- What functions of the program do, walked over the abstract machine. -/
namespace Go.Proofs.Ytklcckngmmklhaa.Wd
open Go Go.Abs Go.Proofs
set_option maxRecDepth 20000
def wb (g b n : UInt64) : Bool := decide (b ≠ 0) && decide (n ≤ g)
abbrev wbit (b d : UInt64) : Prop := shr64n b d.toNat &&& 1 = 1
def wchk (m : Bool) (g b n : UInt64) : Nat := if m then (if wb g b n then (if 64 ≤ g - n ∨ wbit b (g - n) then 10 else 0) else 0) else 1
def wcame (m : Bool) (g b n : UInt64) : Bool := m && (wb g b n && (decide (g - n < 64) && decide (wbit b (g - n))))
abbrev wcs (m : Bool) (g b : UInt64) : List Cell := [c64 g, c64 b, .bool m]
def wtake (g b n : UInt64) : UInt64 × UInt64 := if wb g b n then (g, b ||| shl64n 1 (g - n).toNat) else if b = 0 then (n, 1) else if 64 ≤ n - g then (n, 0 ||| 1) else (n, shl64n b (n - g).toNat ||| 1)
def wnext (m : Bool) (g b n : UInt64) : UInt64 × UInt64 := if wchk m g b n = 0 then wtake g b n else (g, b)
theorem there (m : Bool) (g b : UInt64) : Good Try.prog 48 [.c (.rop (wcs m g b))] [] (sc (.bool m)) [] := by
  refine good_frm 11 Try.func48 rfl rfl rfl rfl rfl rfl ?_
  refine awp_seq ?_
  refine rl ?_
  refine As ?_
  refine gend ?_
  refine awp_seq ?_
  refine rl ?_
  refine Mv ?_
  refine G (q_neqp ?_)
  refine Mv ?_
  refine Gg (q_mv (s := .v (.c _)) ?_)
  refine Gg (q_ncr ?_)
  refine Gg (q_far ?_)
  refine Gg (q_ldr ?_)
  refine G (q_pkt ?_)
  refine As ?_
  refine gend ?_
  refine awp_ret ?_
  exact fp1
theorem below (m : Bool) (g b n : UInt64) : Good Try.prog 49 [.c (.rop (wcs m g b)), .c (c64 n)] [] (.t [.c (c64 (g - n)), .c (.bool (wb g b n))]) [] := by
  refine good_frm 25 Try.func49 rfl rfl rfl rfl rfl rfl ?_
  refine awp_seq ?_
  refine rl ?_
  refine G (q_as (s := sc (c64 0)) ?_)
  refine As ?_
  refine gend ?_
  refine awp_seq ?_
  refine rdl [] [] [] ?_
  refine Dp (fun _ => q_mv (s := .v (.c _)) ⟨rfl, rfl⟩) ?_
  refine Dp (fun _ => q_ncr ⟨rfl, rfl⟩) ?_
  refine Dp (fun _ => q_far ⟨rfl, rfl⟩) ?_
  refine Dp (fun _ => q_ldr ⟨rfl, rfl⟩) ?_
  refine Dp (fun _ => q_mv (s := .v (.c _)) ⟨rfl, rfl⟩) ?_
  refine Dp (fun _ => q_sub64 ⟨rfl, rfl⟩) ?_
  refine Dp (fun _ => q_mv (s := .v (.c _)) ⟨rfl, rfl⟩) ?_
  refine Dp (fun _ => q_ncr ⟨rfl, rfl⟩) ?_
  refine Dp (fun _ => q_far ⟨rfl, rfl⟩) ?_
  refine Dp (fun _ => q_ldr ⟨rfl, rfl⟩) ?_
  refine Dp (fun _ => q_neq64 (y := 0) ⟨rfl, rfl⟩) ?_
  refine Dp (fun _ => q_mv (s := .v (.c _)) ⟨rfl, rfl⟩) ?_
  refine Dspd 17 (fun hb12 => ?_) (fun hb12 => ?_)
  · refine Dpg (fun _ => q_mv (s := .v (.c _)) ⟨rfl, rfl⟩) ?_
    refine Dpg (fun _ => q_mv (s := .v (.c _)) ⟨rfl, rfl⟩) ?_
    refine Dpg (fun _ => q_ncr ⟨rfl, rfl⟩) ?_
    refine Dpg (fun _ => q_far ⟨rfl, rfl⟩) ?_
    refine Dpg (fun _ => q_ldr ⟨rfl, rfl⟩) ?_
    refine Dpg (fun _ => q_leq64 ⟨rfl, rfl⟩) ?_
    refine Dp (fun _ => q_pkt ⟨rfl, rfl⟩) ?_
    refine Dp (fun _ => q_as (s := .v (.c _)) ⟨rfl, rfl⟩) ?_
    refine Dp (fun _ => q_as (s := .v (.c _)) ⟨rfl, rfl⟩) ?_
    refine dend ?_
    refine awp_ret ?_
    exact fp2 (hv := by simp [wb, hb12])
  refine Dn ?_
  refine Dn ?_
  refine Dn ?_
  refine Dn ?_
  refine Dn ?_
  refine Dn ?_
  refine Dp (fun _ => q_pkf ⟨rfl, rfl⟩) ?_
  refine Dp (fun _ => q_as (s := .v (.c _)) ⟨rfl, rfl⟩) ?_
  refine Dp (fun _ => q_as (s := .v (.c _)) ⟨rfl, rfl⟩) ?_
  refine dend ?_
  refine awp_ret ?_
  exact fp2 (hv := by simp [wb, hb12])
theorem check (m : Bool) (g b n : UInt64) : Good Try.prog 32 [.c (.rop (wcs m g b)), .c (c64 n)] [] (sc (cn (wchk m g b n))) [] := by
  refine good_frm 30 Try.func32 rfl rfl rfl rfl rfl rfl ?_
  refine awp_seq ?_
  refine rl ?_
  refine G (q_as (s := sc (cn 0)) ?_)
  refine gend ?_
  refine awp_scope 0 (fun s => (m = true ∧ wb g b n = false) ∧ ∃ al H, s = ⟨frm 30 al, H⟩) rfl ?_ ?_; rotate_left
  · rintro _ ⟨⟨hm, hw⟩, al, H, rfl⟩
    refine awp_seq ?_
    refine awp_skip ?_
    refine awp_seq ?_
    refine rl ?_
    refine G (q_as (s := sc (cn 0)) ?_)
    refine gend ?_
    refine awp_ret ?_
    exact fp1 (hv := by simp [wchk, wbit, *])
  refine awp_seq ?_
  refine awp_seq ?_
  refine rl ?_
  refine Mv ?_
  refine G (q_callp (there _ _ _/- (*escutcheon/window.Window).there -/) ?_)
  refine G (q_notb ?_)
  refine gend ?_
  refine cndbn (fun hc1 => ?_) (fun hc1 => ?_)
  · refine awp_seq ?_
    refine rl ?_
    refine G (q_as (s := sc (cn 1)) ?_)
    refine gend ?_
    refine awp_ret ?_
    exact fp1 (hv := by simp [wchk, wbit, *])
  refine awp_skip ?_
  refine awp_seq ?_
  refine rl ?_
  refine Mv ?_
  refine Mv ?_
  refine G (q_callp (below _ _ _ _/- (*escutcheon/window.Window).below -/) ?_)
  refine G (q_mv (s := .t _) ?_)
  refine G (q_ext (y := .c _) ?_)
  refine G (q_ext (y := .c _) ?_)
  refine As ?_
  refine As ?_
  refine gend ?_
  refine awp_seq ?_
  refine awp_seq ?_
  refine rl ?_
  refine Mv ?_
  refine G (q_notb ?_)
  refine gend ?_
  refine cndbn (fun hc2 => ?_) (fun hc2 => ?_)
  · refine awp_goto ?_
    exact ⟨rfl, ⟨by assumption, by assumption⟩, _, _, rfl⟩
  refine awp_skip ?_
  refine awp_seq ?_
  refine awp_seq ?_
  refine rl ?_
  refine Mv ?_
  refine G (q_geq64 (y := 64) ?_)
  refine Mv ?_
  refine Aspd 20 (fun hb3 => ?_) (fun hb3 => ?_)
  · refine Gn ?_
    refine Gn ?_
    refine Gn ?_
    refine Gn ?_
    refine Gn ?_
    refine Gn ?_
    refine Gn ?_
    refine Gn ?_
    refine G (q_pkt ?_)
    refine gend ?_
    refine cndT ?_
    refine awp_seq ?_
    refine rl ?_
    refine G (q_as (s := sc (cn 10)) ?_)
    refine gend ?_
    refine awp_ret ?_
    exact fp1 (hv := by simp [wchk, wbit, *])
  refine Gg (q_mv (s := .v (.c _)) ?_)
  refine Gg (q_ncr ?_)
  refine Gg (q_far ?_)
  refine Gg (q_ldr ?_)
  refine Gg (q_mv (s := .v (.c _)) ?_)
  refine Gg (q_shr64_64 ?_)
  refine Gg (q_and64 (y := 1) ?_)
  refine Gg (q_eql64 (y := 1) ?_)
  refine G (q_pkf ?_)
  refine gend ?_
  refine cnd (fun hc3 => ?_) (fun hc3 => ?_)
  · refine awp_seq ?_
    refine rl ?_
    refine G (q_as (s := sc (cn 10)) ?_)
    refine gend ?_
    refine awp_ret ?_
    exact fp1 (hv := by simp [wchk, wbit, *])
  refine awp_skip ?_
  refine awp_seq ?_
  refine awp_label ?_
  refine awp_seq ?_
  refine rl ?_
  refine G (q_as (s := sc (cn 0)) ?_)
  refine gend ?_
  refine awp_ret ?_
  exact fp1 (hv := by simp [wchk, wbit, *])
theorem copy (m : Bool) (g b : UInt64) (hm : m = true) : Good Try.prog 46 [.c (.rop (wcs m g b))] [] (sc (.ptr 0 0)) [some (wcs m g b)] := by
  refine good_frm 10 Try.func46 rfl rfl rfl rfl rfl rfl ?_
  refine awp_seq ?_
  refine rl ?_
  refine As ?_
  refine gend ?_
  refine awp_seq ?_
  refine awp_seq ?_
  refine rl ?_
  refine Mv ?_
  refine G (q_callp (there _ _ _/- (*escutcheon/window.Window).there -/) ?_)
  refine G (q_notb ?_)
  refine gend ?_
  refine cndbn (fun hc1 => ?_) (fun hc1 => ?_)
  · refine awp_seq ?_
    refine rl ?_
    refine As ?_
    refine gend ?_
    refine awp_ret ?_
    subst hm; cases hc1
  refine awp_skip ?_
  refine awp_seq ?_
  refine rl ?_
  refine Mv ?_
  refine G (q_ncr ?_)
  refine G (q_ldar ?_)
  refine G (q_al ?_)
  refine G0 (q_stw ?_)
  refine gend ?_
  refine awp_seq ?_
  refine rl ?_
  refine As ?_
  refine gend ?_
  refine awp_ret ?_
  exact fn1 0 (hc := by exact rfl)
theorem copy_0 (g b : UInt64) : Good Try.prog 46 [.c (.rop (wcs false g b))] [] (sc .nilp) [] := by
  refine good_frm 10 Try.func46 rfl rfl rfl rfl rfl rfl ?_
  refine awp_seq ?_
  refine rl ?_
  refine As ?_
  refine gend ?_
  refine awp_seq ?_
  refine awp_seq ?_
  refine rl ?_
  refine Mv ?_
  refine G (q_callp (there _ _ _/- (*escutcheon/window.Window).there -/) ?_)
  refine G (q_notb ?_)
  refine gend ?_
  refine cndbn (fun hc1 => ?_) (fun hc1 => ?_)
  · refine awp_seq ?_
    refine rl ?_
    refine As ?_
    refine gend ?_
    refine awp_ret ?_
    exact fp1
  refine awp_skip ?_
  refine awp_seq ?_
  refine rl ?_
  refine Mv ?_
  refine G (q_ncr ?_)
  refine G (q_ldar ?_)
  refine G (q_al ?_)
  refine G0 (q_stw ?_)
  refine gend ?_
  refine awp_seq ?_
  refine rl ?_
  refine As ?_
  refine gend ?_
  refine awp_ret ?_
  cases hc1
theorem new : Good Try.prog 42 [] [] (sc (.ptr 0 0)) [some (wcs true 0 0)] := by
  refine good_frm 3 Try.func42 rfl rfl rfl rfl rfl rfl ?_
  refine awp_seq ?_
  refine rl ?_
  refine As ?_
  refine gend ?_
  refine awp_seq ?_
  refine rl ?_
  refine G (q_bls (fkc rfl rfl rfl (Nat.le_of_ble_eq_true rfl) (fk0 ?_)))
  refine G (q_boxa ?_)
  refine As ?_
  refine gend ?_
  refine awp_ret ?_
  exact fn1 0
theorem take (m : Bool) (g b n : UInt64) : Good Try.prog 34 [.c (.ptr 0 0), .c (c64 n)] [some (wcs m g b)] (sc (cn (wchk m g b n))) [some (wcs m (wnext m g b n).1 (wnext m g b n).2)] := by
  refine good_frm 75 Try.func34 rfl rfl rfl rfl rfl rfl ?_
  refine awp_seq ?_
  refine rl ?_
  refine G (q_as (s := sc (cn 0)) ?_)
  refine gend ?_
  refine awp_seq ?_
  refine rl ?_
  refine Mv ?_
  refine Mv ?_
  refine G (q_callp (check _ _ _ _/- (*escutcheon/window.Window).Check -/) ?_)
  refine As ?_
  refine gend ?_
  refine awp_seq ?_
  refine awp_seq ?_
  refine rl ?_
  refine Mv ?_
  refine G (q_neqn (y := 0) ?_)
  refine gend ?_
  refine cnd (fun hc1 => ?_) (fun hc1 => ?_)
  · refine awp_seq ?_
    refine rl ?_
    refine Mv ?_
    refine As ?_
    refine gend ?_
    refine awp_ret ?_
    exact fw1 (hH := by simp [wnext, hc1])
  refine awp_skip ?_
  refine awp_seq ?_
  refine rl ?_
  refine Mv ?_
  refine Mv ?_
  refine G (q_callp (below _ _ _ _/- (*escutcheon/window.Window).below -/) ?_)
  refine G (q_mv (s := .t _) ?_)
  refine G (q_ext (y := .c _) ?_)
  refine G (q_ext (y := .c _) ?_)
  refine As ?_
  refine As ?_
  refine gend ?_
  refine awp_seq ?_
  refine awp_block ?_
  refine awp_seq ?_
  refine rl ?_
  refine Mv ?_
  refine As ?_
  refine gend ?_
  refine cndb (fun hc2 => ?_) (fun hc2 => ?_)
  · refine rl ?_
    refine Mv ?_
    refine G (q_ncp ?_)
    refine G (q_fap0 ?_)
    refine G (q_ldp ?_)
    refine Mv ?_
    refine G (q_shl64_64 (x := 1) ?_)
    refine G (q_or64 ?_)
    refine G (q_ncp ?_)
    refine G (q_fap0 ?_)
    refine G0 (q_st ?_)
    refine gend ?_
    refine awp_seq ?_
    refine rl ?_
    refine G (q_as (s := sc (cn 0)) ?_)
    refine gend ?_
    refine awp_ret ?_
    exact fw1 (hH := by simp only [wnext, if_pos (Decidable.not_not.1 hc1)]; simp [wtake, hc2]) (hv := by rw [Decidable.not_not.1 hc1])
  refine awp_seq ?_
  refine rl ?_
  refine Mv ?_
  refine G (q_ncp ?_)
  refine G (q_fap0 ?_)
  refine G (q_ldp ?_)
  refine G (q_eql64 (y := 0) ?_)
  refine As ?_
  refine gend ?_
  refine cnd (fun hc3 => ?_) (fun hc3 => ?_)
  · refine rl ?_
    refine Mv ?_
    refine Mv ?_
    refine Mv ?_
    refine G (q_ncp ?_)
    refine G (q_fap0 ?_)
    refine G0 (q_st ?_)
    refine G (q_ncp ?_)
    refine G (q_fap0 ?_)
    refine G0 (q_st (c := c64 1) ?_)
    refine gend ?_
    refine awp_seq ?_
    refine rl ?_
    refine G (q_as (s := sc (cn 0)) ?_)
    refine gend ?_
    refine awp_ret ?_
    exact fw1 (hH := by simp only [wnext, if_pos (Decidable.not_not.1 hc1)]; rw [show wtake g b n = (n, 1) from by unfold wtake; rw [if_neg (by rw [hc2]; decide), if_pos hc3]]) (hv := by rw [Decidable.not_not.1 hc1])
  refine awp_seq ?_
  refine rl ?_
  refine Mv ?_
  refine Mv ?_
  refine G (q_ncp ?_)
  refine G (q_fap0 ?_)
  refine G (q_ldp ?_)
  refine G (q_sub64 ?_)
  refine As ?_
  refine gend ?_
  refine awp_seq ?_
  refine rl ?_
  refine Mv ?_
  refine Mv ?_
  refine G (q_ncp ?_)
  refine G (q_fap0 ?_)
  refine G0 (q_st ?_)
  refine gend ?_
  refine awp_seq ?_
  refine awp_seq ?_
  refine rl ?_
  refine Mv ?_
  refine G (q_geq64 (y := 64) ?_)
  refine gend ?_
  refine cnd (fun hc4 => ?_) (fun hc4 => ?_)
  · refine rl ?_
    refine Mv ?_
    refine G (q_ncp ?_)
    refine G (q_fap0 ?_)
    refine G0 (q_st (c := c64 0) ?_)
    refine gend ?_
    refine rl ?_
    refine Mv ?_
    refine G (q_ncp ?_)
    refine G (q_fap0 ?_)
    refine G (q_ldp ?_)
    refine G (q_or64 (y := 1) ?_)
    refine G (q_ncp ?_)
    refine G (q_fap0 ?_)
    refine G0 (q_st ?_)
    refine gend ?_
    refine awp_seq ?_
    refine rl ?_
    refine G (q_as (s := sc (cn 0)) ?_)
    refine gend ?_
    refine awp_ret ?_
    exact fw1 (hH := by simp only [wnext, if_pos (Decidable.not_not.1 hc1)]; simp [wtake, *]) (hv := by rw [Decidable.not_not.1 hc1])
  refine rl ?_
  refine Mv ?_
  refine G (q_ncp ?_)
  refine G (q_fap0 ?_)
  refine G (q_ldp ?_)
  refine Mv ?_
  refine G (q_shl64_64 ?_)
  refine G (q_ncp ?_)
  refine G (q_fap0 ?_)
  refine G0 (q_st ?_)
  refine gend ?_
  refine rl ?_
  refine Mv ?_
  refine G (q_ncp ?_)
  refine G (q_fap0 ?_)
  refine G (q_ldp ?_)
  refine G (q_or64 (y := 1) ?_)
  refine G (q_ncp ?_)
  refine G (q_fap0 ?_)
  refine G0 (q_st ?_)
  refine gend ?_
  refine awp_seq ?_
  refine rl ?_
  refine G (q_as (s := sc (cn 0)) ?_)
  refine gend ?_
  refine awp_ret ?_
  exact fw1 (hH := by simp only [wnext, if_pos (Decidable.not_not.1 hc1)]; simp [wtake, *]) (hv := by rw [Decidable.not_not.1 hc1])
end Go.Proofs.Ytklcckngmmklhaa.Wd

/- Two windows at a distance answer alike; a window answers by what it took. -/
namespace Go.Proofs.Ytklcckngmmklhaa.Wd
open Go Go.Abs Go.Proofs
def Mv2 (s : UInt64) (a b : UInt64 × UInt64) : Prop := a.2 = b.2 ∧ (a.2 = 0 ∨ (a.1.toNat < 4611686018427387904 ∧ b.1.toNat = a.1.toNat + s.toNat))
theorem bit_shl (b : UInt64) (k d : Nat) (hd : d < 64) : (shl64n b k).toNat.testBit d = (decide (k ≤ d) && b.toNat.testBit (d - k)) := by
  unfold shl64n
  by_cases hk : k < 64
  · have e : (b <<< UInt64.ofNat k).toNat = (b.toNat <<< k) % 2 ^ 64 := by
      rw [UInt64.toNat_shiftLeft, UInt64.toNat_ofNat', Nat.mod_eq_of_lt (show k < 2 ^ 64 by omega), Nat.mod_eq_of_lt hk]
    simp only [hk, ↓reduceIte]
    rw [e, Nat.testBit_mod_two_pow, Nat.testBit_shiftLeft]
    simp [hd]
  · simp only [hk, ↓reduceIte]
    have : ¬ k ≤ d := by omega
    simp [this]
theorem wbit_iff (b d : UInt64) (hd : d.toNat < 64) : wbit b d ↔ b.toNat.testBit d.toNat = true := by
  unfold wbit shr64n
  simp only [hd, ↓reduceIte]
  rw [← UInt64.toNat_inj, UInt64.toNat_and, UInt64.toNat_shiftRight, UInt64.toNat_ofNat', Nat.mod_eq_of_lt (show d.toNat < 2 ^ 64 by omega), Nat.mod_eq_of_lt hd]
  show b.toNat >>> d.toNat &&& 1 = 1 ↔ _
  rw [Nat.testBit, bne_iff_ne, Nat.and_comm]
  have : 1 &&& b.toNat >>> d.toNat < 2 := by rw [Nat.and_comm, Nat.and_one_is_mod]; omega
  constructor
  · intro h; omega
  · intro h; omega
structure Inv (l : List UInt64) (g b : UInt64) : Prop where
  nil : b = 0 ↔ l = []
  top : l ≠ [] → g ∈ l ∧ ∀ x ∈ l, x.toNat ≤ g.toNat
  bits : ∀ d, d < 64 → (b.toNat.testBit d = true ↔ ∃ x ∈ l, x.toNat + d = g.toNat)
theorem inv_nil : Inv [] 0 0 := ⟨by simp, by simp, by simp⟩
theorem take_inv {l : List UInt64} {g b n : UInt64} (I : Inv l g b) (h : wchk true g b n = 0) : Inv (l ++ [n]) (wnext true g b n).1 (wnext true g b n).2 := by
  have h64 : (64 : UInt64).toNat = 64 := rfl
  have key : ∀ g' b' : UInt64, (∀ d, d < 64 → (b'.toNat.testBit d = true ↔ ∃ x ∈ l ++ [n], x.toNat + d = g'.toNat)) → (g' ∈ l ++ [n] ∧ ∀ x ∈ l ++ [n], x.toNat ≤ g'.toNat) → Inv (l ++ [n]) g' b' := by
    intro g' b' h1 h2
    refine ⟨⟨fun h => ?_, fun h => by simp at h⟩, fun _ => h2, h1⟩
    have := (h1 0 (by omega)).2 ⟨g', h2.1, rfl⟩
    rw [h] at this
    simp at this
  unfold wnext
  rw [if_pos h]
  unfold wtake
  by_cases hw : wb g b n = true
  · rw [if_pos hw]
    simp only [wb, Bool.and_eq_true, decide_eq_true_eq, UInt64.le_iff_toNat_le] at hw
    have hl : l ≠ [] := fun h => hw.1 (I.nil.2 h)
    have hs : (g - n).toNat = g.toNat - n.toNat := UInt64.toNat_sub_of_le _ _ (UInt64.le_iff_toNat_le.2 hw.2)
    refine key g (b ||| shl64n 1 (g - n).toNat) (fun d hd => ?_) ⟨by simp [(I.top hl).1], fun x hx => ?_⟩
    · rw [UInt64.toNat_or, Nat.testBit_or, bit_shl _ _ _ hd, Bool.or_eq_true, I.bits d hd, hs]
      constructor
      · rintro (⟨x, hx, e⟩ | hx)
        · exact ⟨x, by simp [hx], e⟩
        · simp only [Bool.and_eq_true, decide_eq_true_eq] at hx
          obtain ⟨hx1, hx2⟩ := hx
          have hw2 := hw.2
          have : d - (g.toNat - n.toNat) = 0 := by
            have := hx2
            rcases Nat.eq_zero_or_pos (d - (g.toNat - n.toNat)) with h0 | h0
            · exact h0
            · rw [show (1 : UInt64).toNat = 2 ^ 0 from rfl, Nat.testBit_two_pow] at this
              simp at this; omega
          exact ⟨n, by simp, by omega⟩
      · rintro ⟨x, hx, e⟩
        rcases List.mem_append.1 hx with hx | hx
        · exact .inl ⟨x, hx, e⟩
        · obtain rfl := List.mem_singleton.1 hx
          right
          have : d - (g.toNat - x.toNat) = 0 := by omega
          rw [this]
          have : g.toNat - x.toNat ≤ d := by omega
          simp [this]
    · rcases List.mem_append.1 hx with hx | hx
      · exact (I.top hl).2 x hx
      · obtain rfl := List.mem_singleton.1 hx
        exact hw.2
  · rw [if_neg hw]
    by_cases hb : b = 0
    · rw [if_pos hb]
      have hl := I.nil.1 hb
      subst hl
      refine key n 1 (fun d hd => ?_) ⟨by simp, by simp⟩
      rw [show (1 : UInt64).toNat = 2 ^ 0 from rfl, Nat.testBit_two_pow]
      simp; omega
    · rw [if_neg hb]
      have hl : l ≠ [] := fun h => hb (I.nil.2 h)
      have hgt : g.toNat < n.toNat := by
        simp [wb, hb, UInt64.le_iff_toNat_le] at hw
        have := UInt64.lt_iff_toNat_lt.1 hw
        exact this
      have hs : (n - g).toNat = n.toNat - g.toNat := UInt64.toNat_sub_of_le _ _ (UInt64.le_iff_toNat_le.2 (by omega))
      have htop : n ∈ l ++ [n] ∧ ∀ x ∈ l ++ [n], x.toNat ≤ n.toNat := ⟨by simp, fun x hx => by
        rcases List.mem_append.1 hx with hx | hx
        · have := (I.top hl).2 x hx; omega
        · obtain rfl := List.mem_singleton.1 hx; exact Nat.le_refl _⟩
      split
      · rename_i h1
        rw [UInt64.le_iff_toNat_le, hs, h64] at h1
        refine key n (0 ||| 1) (fun d hd => ?_) htop
        rw [show ((0 : UInt64) ||| 1).toNat = 2 ^ 0 from rfl, Nat.testBit_two_pow]
        simp only [decide_eq_true_eq]
        constructor
        · intro h0; exact ⟨n, by simp, by omega⟩
        · rintro ⟨x, hx, e⟩
          rcases List.mem_append.1 hx with hx | hx
          · have := (I.top hl).2 x hx; omega
          · obtain rfl := List.mem_singleton.1 hx; omega
      · rename_i h1
        rw [UInt64.le_iff_toNat_le, hs, h64] at h1
        refine key n (shl64n b (n - g).toNat ||| 1) (fun d hd => ?_) htop
        rw [UInt64.toNat_or, Nat.testBit_or, bit_shl _ _ _ hd, hs, show (1 : UInt64).toNat = 2 ^ 0 from rfl, Nat.testBit_two_pow]
        simp only [Bool.or_eq_true, Bool.and_eq_true, decide_eq_true_eq]
        constructor
        · rintro (⟨h2, h3⟩ | h0)
          · obtain ⟨x, hx, e⟩ := (I.bits _ (by omega)).1 h3
            exact ⟨x, by simp [hx], by omega⟩
          · exact ⟨n, by simp, by omega⟩
        · rintro ⟨x, hx, e⟩
          rcases List.mem_append.1 hx with hx | hx
          · have := (I.top hl).2 x hx
            left
            exact ⟨by omega, (I.bits _ (by omega)).2 ⟨x, hx, by omega⟩⟩
          · obtain rfl := List.mem_singleton.1 hx
            right; omega
end Go.Proofs.Ytklcckngmmklhaa.Wd

/- What the document's list of numbers says is what a window says that took them. -/
namespace Go.Proofs.Ytklcckngmmklhaa.Wd
open Go Go.Abs Go.Proofs
def grl (l : List UInt64) : UInt64 := l.foldl (fun n x => if n < x then x else n) 0
def rold (l : List UInt64) (n : UInt64) : Bool := decide (0 < l.length) && (decide (n < grl l) && decide (64 ≤ grl l - n))
def rcame (l : List UInt64) (n : UInt64) : Bool := decide (n ∈ l) && !rold l n
def rchk (l : List UInt64) (n : UInt64) : Nat := if rcame l n || rold l n then 10 else 0
theorem grl_take {l : List UInt64} {i : Nat} (h : i < l.length) : grl (l.take (i + 1)) = if grl (l.take i) < l.getD i 0 then l.getD i 0 else grl (l.take i) := by
  rw [List.take_succ_eq_append_getElem h, grl, List.foldl_append, List.getD_eq_getElem?_getD, List.getElem?_eq_getElem h]; rfl
theorem grl_spec (l : List UInt64) : (∀ x ∈ l, x.toNat ≤ (grl l).toNat) ∧ (grl l = 0 ∨ grl l ∈ l) := by
  have key : ∀ (l : List UInt64) (a : UInt64), (a.toNat ≤ (l.foldl (fun n x => if n < x then x else n) a).toNat ∧ ∀ x ∈ l, x.toNat ≤ (l.foldl (fun n x => if n < x then x else n) a).toNat) ∧ (l.foldl (fun n x => if n < x then x else n) a = a ∨ l.foldl (fun n x => if n < x then x else n) a ∈ l) := by
    intro l
    induction l with
    | nil => intro a; simp
    | cons y r ih =>
      intro a
      simp only [List.foldl_cons]
      obtain ⟨⟨h1, h2⟩, h3⟩ := ih (if a < y then y else a)
      by_cases hy : a < y
      · simp only [hy, ↓reduceIte] at h1 h2 h3 ⊢
        rw [UInt64.lt_iff_toNat_lt] at hy
        refine ⟨⟨by omega, fun x hx => ?_⟩, ?_⟩
        · rcases List.mem_cons.1 hx with rfl | hx
          · exact h1
          · exact h2 x hx
        · rcases h3 with h3 | h3
          · rw [h3]; exact .inr (List.mem_cons_self ..)
          · exact .inr (List.mem_cons_of_mem _ h3)
      · simp only [hy, ↓reduceIte] at h1 h2 h3 ⊢
        rw [UInt64.lt_iff_toNat_lt] at hy
        refine ⟨⟨h1, fun x hx => ?_⟩, ?_⟩
        · rcases List.mem_cons.1 hx with rfl | hx
          · omega
          · exact h2 x hx
        · rcases h3 with h3 | h3
          · exact .inl h3
          · exact .inr (List.mem_cons_of_mem _ h3)
  obtain ⟨⟨_, h2⟩, h3⟩ := key l 0
  exact ⟨h2, h3⟩
theorem grl_inv {l : List UInt64} {g b : UInt64} (I : Inv l g b) (hl : l ≠ []) : grl l = g := by
  obtain ⟨h1, h2⟩ := I.top hl
  obtain ⟨h3, h4⟩ := grl_spec l
  have h5 := h3 g h1
  apply UInt64.toNat_inj.1
  rcases h4 with h4 | h4
  · rw [h4] at h5 ⊢; have : (0 : UInt64).toNat = 0 := rfl; omega
  · have := h2 _ h4; omega
theorem chk_inv {l : List UInt64} {g b : UInt64} (I : Inv l g b) (n : UInt64) : wchk true g b n = rchk l n ∧ wcame true g b n = rcame l n := by
  have h64 : (64 : UInt64).toNat = 64 := rfl
  by_cases hl : l = []
  · have := I.nil.2 hl
    subst hl this
    simp [wchk, wb, wcame, rchk, rcame, rold]
  · have hb : b ≠ 0 := fun h => hl (I.nil.1 h)
    have hp : 0 < l.length := List.length_pos_iff.2 hl
    obtain ⟨h1, h2⟩ := I.top hl
    have hg := grl_inv I hl
    by_cases hn : n ≤ g
    · have hs : (g - n).toNat = g.toNat - n.toNat := UInt64.toNat_sub_of_le _ _ hn
      have hn' := UInt64.le_iff_toNat_le.1 hn
      have hw : wb g b n = true := by simp [wb, hb, hn]
      by_cases hd : 64 ≤ g - n
      · have hd' : 64 ≤ g.toNat - n.toNat := by rw [UInt64.le_iff_toNat_le, hs, h64] at hd; exact hd
        have hlt : n < g := by rw [UInt64.lt_iff_toNat_lt]; omega
        have ho : rold l n = true := by simp [rold, hp, hg, hlt, hd]
        have hd2 : ¬ g - n < 64 := by rw [UInt64.lt_iff_toNat_lt, hs, h64]; omega
        simp [wchk, hw, hd, rchk, ho, wcame, hd2, rcame]
      · have hd' : g.toNat - n.toNat < 64 := by rw [UInt64.le_iff_toNat_le, hs, h64] at hd; omega
        have ho : rold l n = false := by simp [rold, hg, hd]
        have hd2 : g - n < 64 := by rw [UInt64.lt_iff_toNat_lt, hs, h64]; omega
        have hbit : wbit b (g - n) ↔ n ∈ l := by
          rw [wbit_iff b (g - n) (by omega), hs, I.bits _ (by omega)]
          constructor
          · rintro ⟨x, hx, e⟩
            have : x = n := UInt64.toNat_inj.1 (by omega)
            exact this ▸ hx
          · intro hx; exact ⟨n, hx, by omega⟩
        constructor
        · simp only [wchk, hw, hd, false_or, ↓reduceIte, rchk, rcame, ho, Bool.not_false, Bool.and_true, Bool.or_false]
          by_cases hm : n ∈ l
          · simp [hm, hbit.2 hm]
          · simp [hm, mt hbit.1 hm]
        · simp only [wcame, hw, Bool.true_and, hd2, decide_true, rcame, ho, Bool.not_false, Bool.and_true]
          exact decide_eq_decide.2 hbit
    · have hw : wb g b n = false := by simp [wb, hn]
      have hn' : g.toNat < n.toNat := by rw [UInt64.le_iff_toNat_le] at hn; omega
      have hnl : n ∉ l := fun h => by have := h2 n h; omega
      have ho : rold l n = false := by
        have : ¬ n < g := by rw [UInt64.lt_iff_toNat_lt]; omega
        simp [rold, hg, this]
      simp [wchk, hw, wcame, rchk, rcame, ho, hnl]
def rnext (l : List UInt64) (n : UInt64) : List UInt64 := if rchk l n = 0 then l ++ [n] else l
theorem mem_at {l : List UInt64} {n : UInt64} {i : Nat} (hi : i < l.length) (h : l.getD i 0 = n) : n ∈ l := by
  rw [List.getD_eq_getElem?_getD, List.getElem?_eq_getElem hi] at h
  simp at h
  exact h ▸ List.getElem_mem hi
theorem not_mem_all {l : List UInt64} {n : UInt64} (h : ∀ j, j < l.length → l.getD j 0 ≠ n) : n ∉ l := fun hm => by
  obtain ⟨j, hj, e⟩ := List.mem_iff_getElem.1 hm
  exact h j hj (by rw [List.getD_eq_getElem?_getD, List.getElem?_eq_getElem hj]; exact e)
structure CP (l : List UInt64) (n : UInt64) where
  i : Nat
  hi : i ≤ l.length
  ok : ∀ j, j < i → l.getD j 0 ≠ n
structure WP (m : Nat) where
  i : Nat
  came : List UInt64
  g : UInt64
  b : UInt64
  hi : i ≤ m
  hl : came.length ≤ i
  I : Inv came g b
end Go.Proofs.Ytklcckngmmklhaa.Wd

/- The abstract machine: a nil slice within a block, told as an empty one. -/
namespace Go.Abs
open Go
theorem sle_nilb {n N p : Nat} {al : List (Nat × S)} {H : Heap} {cs : List Cell} (sz : Nat) (hp : H[p]? = some (some cs)) (hn : n ≤ H.length) : SLe n ⟨frm N al, H⟩ ⟨frm N al, H.set p (some (cs.map (e2 H.length sz))) ++ [some []]⟩ := by
  intro E ρ a w hs
  obtain ⟨ρ', h1, hh⟩ := emp_sim hs.heap
  have hpl : p < H.length := (List.getElem?_eq_some_iff.1 hp).1
  have hlen : (H.set p (some (cs.map (e2 H.length sz))) ++ [some []]).length = (H ++ [some ([] : List Cell)]).length := by simp
  have hle : (E.rl H.length ρ).Le (E.rl (H.set p (some (cs.map (e2 H.length sz))) ++ [some []]).length ρ') := ⟨fun b hb => ⟨hb, rfl⟩, fun q hq => ⟨by
    show q < (H.set p (some (cs.map (e2 H.length sz))) ++ [some []]).length
    have hq' : q < H.length := hq
    simp; omega, h1 q hq⟩⟩
  have hget : ∀ q ds, (H.set p (some (cs.map (e2 H.length sz))) ++ [some []])[q]? = some (some ds) → (q = p ∧ ds = cs.map (e2 H.length sz)) ∨ (H ++ [some ([] : List Cell)])[q]? = some (some ds) := by
    intro q ds hq
    by_cases hlt : q < H.length
    · rw [List.getElem?_append_left (by simpa using hlt), List.getElem?_set] at hq
      by_cases e : p = q
      · subst e
        simp [hlt] at hq
        exact .inl ⟨rfl, hq.symm⟩
      · rw [if_neg e] at hq
        exact .inr (by rw [List.getElem?_append_left hlt]; exact hq)
    · rw [List.getElem?_append_right (by simp; omega)] at hq
      exact .inr (by rw [List.getElem?_append_right (by omega)]; simpa using hq)
  have hp' : (H ++ [some ([] : List Cell)])[p]? = some (some cs) := by rw [List.getElem?_append_left hpl]; exact hp
  refine ⟨ρ', fun q hq => h1 q (Nat.lt_of_lt_of_le hq hn), ⟨hs.fr.1, hs.fr.2.1, fun t s ht => ?_⟩, ?_⟩
  · obtain ⟨v, k1, k2⟩ := hs.fr.2.2 t s ht
    exact ⟨v, k1, SRel.mono hle _ _ k2⟩
  · refine ⟨hh.os, hh.tape, hh.output, hh.size, hh.frame, fun q ds hq hr => ?_, fun q r ds es hq hr h3 h4 he => ?_, fun q ds hq hr => ?_, fun q ds hq hr => ?_⟩
    · rcases hget q ds hq with ⟨rfl, rfl⟩ | h
      · exact hh.fresh q cs hp' hr
      · exact hh.fresh q ds h hr
    · have f : ∀ q ds, (H.set p (some (cs.map (e2 H.length sz))) ++ [some []])[q]? = some (some ds) → ∃ ds', (H ++ [some ([] : List Cell)])[q]? = some (some ds') := fun q ds hq => by
        rcases hget q ds hq with ⟨rfl, rfl⟩ | h
        · exact ⟨_, hp'⟩
        · exact ⟨_, h⟩
      obtain ⟨ds', k1⟩ := f q ds hq
      obtain ⟨es', k2⟩ := f r es hr
      exact hh.inj q r ds' es' k1 k2 h3 h4 he
    · rw [hlen]
      rcases hget q ds hq with ⟨rfl, rfl⟩ | h
      · obtain ⟨arr, el, f0, b1, b2, b3, b4, b5⟩ := hh.blk q cs hp' hr
        refine ⟨arr, el, f0, b1, b2, b3, by simpa using b4, fun i c hi => ?_⟩
        rw [List.getElem?_map, Option.map_eq_some_iff] at hi
        obtain ⟨c1, h5, rfl⟩ := hi
        obtain ⟨v, h6, ho, h7⟩ := b5 i c1 h5
        exact ⟨v, h6, ho, e2_sound ⟨fun b hb => ⟨hb, rfl⟩, fun x hx => ⟨hx, rfl⟩⟩ (by show H.length < (H ++ [some []]).length; simp) c1 v h7⟩
      · exact hh.blk q ds h hr
    · rcases hget q ds hq with ⟨rfl, rfl⟩ | h
      · rw [hh.emp q cs hp' hr]; rfl
      · exact hh.emp q ds h hr
theorem sle_nb {n N : Nat} {al : List (Nat × S)} {H H' : Heap} {cs : List Cell} (p sz : Nat) (hp : H[p]? = some (some cs)) (hn : n ≤ H.length) (hH : H.set p (some (cs.map (e2 H.length sz))) ++ [some []] = H') : SLe n ⟨frm N al, H⟩ ⟨frm N al, H'⟩ := by
  subst hH; exact sle_nilb sz hp hn
end Go.Abs

/- What functions of the program do, walked over the abstract machine. -/
namespace Go.Proofs.Ytklcckngmmklhaa
open Go Go.Abs Go.Proofs Go.Proofs.Ytklcckngmmklhaa.Ch Go.Proofs.Ytklcckngmmklhaa.Po Go.Proofs.Ytklcckngmmklhaa.Ae Go.Proofs.Ytklcckngmmklhaa.Wd
set_option maxRecDepth 20000
set_option maxHeartbeats 1600000 in
theorem rnext_ (key : List UInt8) (hkey : key.length = 32) : Good Try.prog 41 [.a (u8s key)] [] (sa (u8s (anext key))) [] := by
  have hNl := anonce_len 18446744073709551615
  have g2 := rnonce_ 18446744073709551615
  have hA := anext_len key
  have hS := aseal_len key (anonce 18446744073709551615) [] (List.replicate 32 0)
  have g3 := rseal_ key (anonce 18446744073709551615) [] (List.replicate 32 0) 0 32 hkey hNl rfl (by decide) rfl (by decide)
  rw [show (List.replicate 32 (0 : UInt8)).length = 32 from rfl] at hS
  have hAS : anext key = (aseal key (anonce 18446744073709551615) [] (List.replicate 32 0)).take 32 := rfl
  obtain ⟨Sx, hSx⟩ : ∃ z, aseal key (anonce 18446744073709551615) [] (List.replicate 32 0) = z := ⟨_, rfl⟩
  obtain ⟨N, hN⟩ : ∃ z, anonce 18446744073709551615 = z := ⟨_, rfl⟩
  obtain ⟨A, hAA⟩ : ∃ z, anext key = z := ⟨_, rfl⟩
  rw [hSx] at hS hAS g3
  rw [hAA] at hA hAS ⊢
  rw [hN] at g2 g3 hNl
  have hcp : splice (u8s (List.replicate 32 0)) 0 (List.take (min 32 32 * 1) (List.take (32 * 1) (List.drop 0 (u8s Sx)))) = u8s A := by
    rw [List.drop_zero, List.take_take, mapc_take, show min (min 32 32 * 1) (32 * 1) = 32 from rfl, ← hAS]
    exact splice_whole (by rw [mapc_length, mapc_length, hA]; rfl)
  refine good_frm 14 Try.func41 rfl rfl rfl rfl rfl rfl ?_
  refine awp_seq ?_
  refine rln ?_
  refine G2 (fun _ k_ => q_boxa k_) ?_
  refine G2 (fun _ k_ => q_al k_) ?_
  refine gend ?_
  refine awp_seq ?_
  refine rdln [2, 3] [0, 0, 0, 1, 2] [1, 1, 1, 2, 2] ?_
  refine DLw ?_
  refine Dp (fun _ => q_callp g2 ⟨rfl, rfl⟩ (ha := (cac rfl cm_int ca0))) ?_
  refine De2 (fun _ k_ => q_mks k_) ?_
  refine De2 (fun _ k_ => q_calln g3 k_ (ha := (caa (et rfl) sees_m (caa (et rfl) sees_m (cac rfl sees_nil8 (cac (et rfl) (sees_slc rfl rfl rfl) ca0)))))) ?_
  refine Dp (fun _ => q_as (s := .v (.c _)) ⟨rfl, rfl⟩) ?_
  refine dend ?_
  refine awp_seq ?_
  refine rln ?_
  refine G2 (fun _ k_ => q_al k_) ?_
  refine gend ?_
  refine awp_seq ?_
  refine rdln [3] [] [0, 0, 0, 1] ?_
  refine DSp 4 rfl (fun _ hv => q_slp_no ⟨rfl, rfl⟩ (hp := hv)) ?_
  refine Dp (fun _ => q_mv (s := .v (.c _)) ⟨rfl, rfl⟩) ?_
  refine Dp (fun _ => q_sls_hi (k := 32) ⟨rfl, rfl⟩) ?_
  refine De2 (fun _ k_ => q_cpy k_) ?_ (hH := by simp only [List.set_cons_zero, List.set_cons_succ]; rw [hcp])
  refine dend ?_
  refine awp_seq ?_
  refine rln ?_
  refine G (q_ldw ?_)
  refine G20 (fun _ k_ => q_stw k_) ?_
  refine gend ?_
  refine awp_ret ?_
  exact fpc (t := 23) (a := 2) (hn := (mapc_length ..).trans hA)
def pwb (n : UInt64) (s : Nat) : Nat → List UInt8
  | 0 => List.replicate s 0
  | i + 1 => (pwb n s i).set (s - 1 - i) (shr64n n (8 * i)).toUInt8
theorem pwb_len (n : UInt64) (s : Nat) : ∀ i, (pwb n s i).length = s
  | 0 => by simp [pwb]
  | i + 1 => by rw [pwb, List.length_set, pwb_len]
def gt (l : List UInt8) : UInt64 := l.foldl (fun n c => shl64n n 8 ||| c.toUInt64) 0
theorem gt_take (l : List UInt8) (k : Nat) (h : k < l.length) : gt (l.take (k + 1)) = shl64n (gt (l.take k)) 8 ||| (l.getD k 0).toUInt64 := by
  unfold gt
  rw [List.take_succ_eq_append_getElem h, List.foldl_append]
  simp [List.getD_eq_getElem?_getD, List.getElem?_eq_getElem h]
def rg (l : List UInt8) : UInt64 := l.foldl (fun n c => n * 256 + c.toUInt64) 0
theorem rg_take (l : List UInt8) (k : Nat) (h : k < l.length) : rg (l.take (k + 1)) = rg (l.take k) * 256 + (l.getD k 0).toUInt64 := by
  unfold rg
  rw [List.take_succ_eq_append_getElem h, List.foldl_append]
  simp [List.getD_eq_getElem?_getD, List.getElem?_eq_getElem h]
theorem gt_rg (l : List UInt8) : gt l = rg l := by
  unfold gt rg
  have : (fun (n : UInt64) (c : UInt8) => shl64n n 8 ||| c.toUInt64) = fun n c => n * 256 + c.toUInt64 := by
    funext n c
    apply UInt64.toNat_inj.1
    have hc : c.toNat < 2 ^ 8 := c.toNat_lt
    have e : shl64n n 8 = n <<< 8 := by unfold shl64n; rfl
    rw [e, UInt64.toNat_or, UInt64.toNat_add, UInt64.toNat_mul]
    have h1 : (n <<< (8 : UInt64)).toNat = (n.toNat % 2 ^ 56) <<< 8 := by
      rw [UInt64.toNat_shiftLeft]
      simp only [Nat.shiftLeft_eq]
      have : n.toNat < 2 ^ 64 := n.toNat_lt
      have e8 : UInt64.toNat 8 % 64 = 8 := by decide
      rw [e8]
      omega
    rw [h1, UInt8.toNat_toUInt64, ← Nat.shiftLeft_add_eq_or_of_lt hc, Nat.shiftLeft_eq]
    have e256 : UInt64.toNat 256 = 256 := rfl
    have : n.toNat < 2 ^ 64 := n.toNat_lt
    rw [e256]
    omega
  rw [this]
def fbl (n : UInt64) : Nat → List UInt8
  | 0 => []
  | j + 1 => fbl n j ++ [(shr64n n (UInt64.ofNat (8 * (7 - j))).toNat).toUInt8]
theorem fbl_len (n : UInt64) : ∀ j, (fbl n j).length = j
  | 0 => rfl
  | j + 1 => by rw [fbl, List.length_append, fbl_len]; rfl
theorem pwb_fbl (n : UInt64) : pwb n 8 8 = fbl n 8 := rfl
def kE (k : List UInt8) : Nat → List UInt8
  | 0 => k
  | i + 1 => anext (kE k i)
theorem kE_len {k : List UInt8} (h : k.length = 32) : ∀ i, (kE k i).length = 32
  | 0 => h
  | i + 1 => anext_len _
theorem ofNat_succ (i : Nat) : UInt64.ofNat i + 1 = UInt64.ofNat (i + 1) := by simp
theorem ofNat_toNat {i : Nat} {e : UInt64} (h : i ≤ e.toNat) : (UInt64.ofNat i).toNat = i := by
  have := e.toNat_lt
  rw [UInt64.toNat_ofNat', Nat.mod_eq_of_lt (by omega)]
theorem ofNat_lt {i : Nat} {e : UInt64} (h : i ≤ e.toNat) : UInt64.ofNat i < e ↔ i < e.toNat := by rw [UInt64.lt_iff_toNat_lt, ofNat_toNat h]
def fr19 (s h : List UInt8) (n : UInt64) (c : List UInt8) : List UInt8 := fbl n 8 ++ aseal (kE s (n / 64).toNat) (anonce n) h c
theorem fr19_len {s h c : List UInt8} {n : UInt64} : (fr19 s h n c).length = 8 + (c.length + 16) := by rw [fr19, List.length_append, fbl_len, aseal_len]
theorem put (n : UInt64) (s : Nat) (h1 : 1 ≤ s) (h8 : s ≤ 8) (hf : s = 8 ∨ shr64n n (8 * s) = 0) : Good Try.prog 30 [.c (c64 n), .c (cn s)] [] (.t [.c (.slc 0 0 s 1), .c (cn 0)]) [some (u8s (pwb n s s))] := by
  refine good_frm 44 Try.func30 rfl rfl rfl rfl rfl rfl ?_
  refine awp_seq ?_
  refine rln ?_
  refine As ?_
  refine G (q_as (s := sc (cn 0)) ?_)
  refine gend ?_
  refine awp_seq ?_
  refine awp_seq ?_
  refine rln ?_
  refine Mv ?_
  refine G (q_lssn (y := 1) ?_)
  refine Mv ?_
  refine Akfd 10 (fun hb3 => ?_) ?_; rotate_left
  · omega
  refine Gg (q_mv (s := .v (.c _)) ?_)
  refine Gg (q_gtrn (y := 8) ?_)
  refine G (q_pkf ?_)
  refine Mv ?_
  refine Akfd 14 (fun hb7 => ?_) ?_; rotate_left
  · omega
  refine Gg (q_mv (s := .v (.c _)) ?_)
  refine Gg (q_lssn (y := 8) ?_)
  refine Gg (q_mv (s := .v (.c _)) ?_)
  refine Aspd 17 (fun hb10 => ?_) (fun hb10 => ?_)
  · refine Gg (q_mv (s := .v (.c _)) ?_)
    refine Gg (q_mv (s := .v (.c _)) ?_)
    refine Gg (q_muln (x := 8) ?_)
    refine Gg (q_shr64_0 ?_)
    refine Gg (q_neq64 (y := 0) ?_)
    refine Gg (q_pkt ?_)
    refine G (q_pkf ?_)
    refine gend ?_
    refine cndN (fun hc1 => ?_) ?_; rotate_left
    · exact fun hh => hf.elim (fun h => by omega) hh
    refine awp_skip ?_
    refine awp_seq ?_
    refine rln ?_
    refine Mv ?_
    refine G2 (fun _ k_ => q_mks k_) ?_
    refine As ?_
    refine gend ?_
    refine awp_seq ?_
    refine awp_seq ?_
    refine rln ?_
    refine Mv ?_
    refine G (q_mv (s := sc (cn 0)) ?_)
    refine gend ?_
    refine awp_block ?_
    refine awp_loop (fun x : {i : Nat // i ≤ s} => ⟨frm 44 [(0, sc (c64 n)), (1, sc (cn s)), (6, sc (.slc 0 0 s 1)), (27, sc (cn s)), (28, sc (cn x.1))], [some (u8s (pwb n s x.1))]⟩) (fun x => s - x.1) ⟨0, Nat.zero_le _⟩ (sle_sub ⟨rfl, rfl, rfl, rfl, rfl, trivial⟩ (congrArg (fun x => [some x]) (rep_u8 s))) fun x => ?_
    have hl := pwb_len n s x.1
    refine awp_seq ?_
    refine rln ?_
    refine G (q_lssn ?_)
    refine gend ?_
    refine awp_seq ?_
    refine cnd (fun hc2 => ?_) (fun hc2 => ?_); rotate_left
    · refine awp_exit ?_
      rw [show x.1 = s from (by have := x.2; omega)]
      refine awp_seq ?_
      refine rln ?_
      refine Mv ?_
      refine As ?_
      refine G (q_as (s := sc (cn 0)) ?_)
      refine gend ?_
      refine awp_ret ?_
      exact fn2 0
    refine awp_skip ?_
    refine awp_seq ?_
    refine awp_block ?_
    refine awp_seq ?_
    refine rln ?_
    refine Mv ?_
    refine As ?_
    refine gend ?_
    refine rln ?_
    refine Mv ?_
    refine Mv ?_
    refine G (q_subn (y := 1) ?_)
    refine Mv ?_
    refine G (q_subn ?_)
    refine Mv ?_
    refine Mv ?_
    refine G (q_muln (x := 8) ?_)
    refine G (q_shr64_0 ?_)
    refine G (q_cv64_8 ?_)
    refine G (q_ixs1 ?_)
    refine G20 (fun _ k_ => q_stm k_) ?_
    refine gend ?_
    refine rln ?_
    refine G (q_addn (y := 1) ?_)
    refine Mv ?_
    refine gend ?_
    exact ⟨⟨x.1 + 1, by omega⟩, by show s - (x.1 + 1) < s - x.1; omega, sle_sub ⟨rfl, rfl, rfl, rfl, rfl, trivial⟩ rfl⟩
  refine Gn ?_
  refine Gn ?_
  refine Gn ?_
  refine Gn ?_
  refine Gn ?_
  refine Gg (q_pkf ?_)
  refine G (q_pkf ?_)
  refine gend ?_
  refine cndF ?_
  refine awp_skip ?_
  refine awp_seq ?_
  refine rln ?_
  refine Mv ?_
  refine G2 (fun _ k_ => q_mks k_) ?_
  refine As ?_
  refine gend ?_
  refine awp_seq ?_
  refine awp_seq ?_
  refine rln ?_
  refine Mv ?_
  refine G (q_mv (s := sc (cn 0)) ?_)
  refine gend ?_
  refine awp_block ?_
  refine awp_loop (fun y : {i : Nat // i ≤ s} => ⟨frm 44 [(0, sc (c64 n)), (1, sc (cn s)), (6, sc (.slc 0 0 s 1)), (27, sc (cn s)), (28, sc (cn y.1))], [some (u8s (pwb n s y.1))]⟩) (fun y => s - y.1) ⟨0, Nat.zero_le _⟩ (sle_sub ⟨rfl, rfl, rfl, rfl, rfl, trivial⟩ (congrArg (fun x => [some x]) (rep_u8 s))) fun y => ?_
  have hl := pwb_len n s y.1
  refine awp_seq ?_
  refine rln ?_
  refine G (q_lssn ?_)
  refine gend ?_
  refine awp_seq ?_
  refine cnd (fun hc3 => ?_) (fun hc3 => ?_); rotate_left
  · refine awp_exit ?_
    rw [show y.1 = s from (by have := y.2; omega)]
    refine awp_seq ?_
    refine rln ?_
    refine Mv ?_
    refine As ?_
    refine G (q_as (s := sc (cn 0)) ?_)
    refine gend ?_
    refine awp_ret ?_
    exact fn2 0
  refine awp_skip ?_
  refine awp_seq ?_
  refine awp_block ?_
  refine awp_seq ?_
  refine rln ?_
  refine Mv ?_
  refine As ?_
  refine gend ?_
  refine rln ?_
  refine Mv ?_
  refine Mv ?_
  refine G (q_subn (y := 1) ?_)
  refine Mv ?_
  refine G (q_subn ?_)
  refine Mv ?_
  refine Mv ?_
  refine G (q_muln (x := 8) ?_)
  refine G (q_shr64_0 ?_)
  refine G (q_cv64_8 ?_)
  refine G (q_ixs1 ?_)
  refine G20 (fun _ k_ => q_stm k_) ?_
  refine gend ?_
  refine rln ?_
  refine G (q_addn (y := 1) ?_)
  refine Mv ?_
  refine gend ?_
  exact ⟨⟨y.1 + 1, by omega⟩, by show s - (y.1 + 1) < s - y.1; omega, sle_sub ⟨rfl, rfl, rfl, rfl, rfl, trivial⟩ rfl⟩
theorem get (k : Nat) (l : List UInt8) (hl : l.length = k) (h1 : 1 ≤ k) (h8 : k ≤ 8) : Good Try.prog 31 [.c (.ro k (u8s l))] [] (.t [.c (c64 (gt l)), .c (cn 0)]) [] := by
  refine good_frm 28 Try.func31 rfl rfl rfl rfl rfl rfl ?_
  refine awp_seq ?_
  refine rln ?_
  refine G (q_as (s := sc (c64 0)) ?_)
  refine G (q_as (s := sc (cn 0)) ?_)
  refine gend ?_
  refine awp_seq ?_
  refine awp_seq ?_
  refine rln ?_
  refine Mv ?_
  refine G (q_leno ?_)
  refine G (q_lssn (y := 1) ?_)
  refine Mv ?_
  refine Akfd 10 (fun hb4 => ?_) ?_; rotate_left
  · omega
  refine Gg (q_mv (s := .v (.c _)) ?_)
  refine Gg (q_leno ?_)
  refine Gg (q_gtrn (y := 8) ?_)
  refine G (q_pkf ?_)
  refine gend ?_
  refine cndN (fun hc1 => ?_) ?_; rotate_left
  · omega
  refine awp_skip ?_
  refine awp_seq ?_
  refine rln ?_
  refine G (q_as (s := sc (c64 0)) ?_)
  refine gend ?_
  refine awp_seq ?_
  refine awp_seq ?_
  refine rln ?_
  refine Mv ?_
  refine G (q_leno ?_)
  refine G (q_mv (s := sc (cn 0)) ?_)
  refine gend ?_
  refine awp_block ?_
  refine awp_loop (fun x : {i : Nat // i ≤ k} => ⟨frm 28 [(4, sc (c64 (gt (l.take x.1)))), (15, sc (.ro k (u8s l))), (16, sc (cn k)), (17, sc (cn x.1))], []⟩) (fun x => k - x.1) ⟨0, Nat.zero_le _⟩ (sle_sub ⟨rfl, rfl, rfl, rfl, trivial⟩ rfl) fun x => ?_
  refine awp_seq ?_
  refine rln ?_
  refine G (q_lssn ?_)
  refine gend ?_
  refine awp_seq ?_
  refine cnd (fun hc2 => ?_) (fun hc2 => ?_); rotate_left
  · refine awp_exit ?_
    rw [show x.1 = k from (by have := x.2; omega)]
    rw [show l.take k = l from List.take_of_length_le (by omega)]
    refine awp_seq ?_
    refine rln ?_
    refine Mv ?_
    refine As ?_
    refine G (q_as (s := sc (cn 0)) ?_)
    refine gend ?_
    refine awp_ret ?_
    exact fp2
  refine awp_skip ?_
  refine awp_seq ?_
  refine awp_block ?_
  refine awp_seq ?_
  refine rln ?_
  refine G (q_ixo1 ?_)
  refine G (q_ldrd ?_)
  refine As ?_
  refine gend ?_
  refine rln ?_
  refine Mv ?_
  refine G (q_shl64_64 (n := 8) ?_)
  refine Mv ?_
  refine G (q_cv8_64 ?_)
  refine G (q_or64 ?_)
  refine As ?_
  refine gend ?_
  refine rln ?_
  refine G (q_addn (y := 1) ?_)
  refine Mv ?_
  refine gend ?_
  exact ⟨⟨x.1 + 1, by omega⟩, by show k - (x.1 + 1) < k - x.1; omega, sle_sub ⟨congrArg (fun z => sc (c64 z)) (gt_take l x.1 (by omega)).symm, rfl, rfl, rfl, trivial⟩ rfl⟩
set_option maxHeartbeats 800000 in
theorem rkey_ (k : List UInt8) (e : UInt64) (hk : k.length = 32) : Good Try.prog 15 [.a (u8s k), .c (c64 e)] [] (sa (u8s (kE k e.toNat))) [] := by
  refine good_frm 14 Try.func15 rfl rfl rfl rfl rfl rfl ?_
  refine awp_seq ?_
  refine rln ?_
  refine G2 (fun _ k_ => q_boxa k_) ?_
  refine G2 (fun _ k_ => q_al k_) ?_
  refine gend ?_
  refine awp_seq ?_
  refine awp_seq ?_
  refine rln ?_
  refine G (q_as (s := sc (c64 0)) ?_)
  refine gend ?_
  refine awp_block ?_
  refine awp_loop (fun x : {i : Nat // i ≤ e.toNat} => ⟨frm 14 [(1, sc (c64 e)), (2, sc (.ptr 0 0)), (4, sc (.ptr 1 0)), (5, sc (c64 (UInt64.ofNat x.1)))], [some (u8s (kE k x.1)), some (u8s (List.replicate 32 0))]⟩) (fun x => e.toNat - x.1) ⟨0, Nat.zero_le _⟩ (sle_sub ⟨rfl, rfl, rfl, rfl, trivial⟩ rfl) fun x => ?_
  have hlt := ofNat_lt (e := e) x.2
  have hKl := kE_len hk x.1
  refine awp_seq ?_
  refine awp_seq ?_
  refine rln ?_
  refine Mv ?_
  refine Mv ?_
  refine G (q_lss64 ?_)
  refine gend ?_
  refine cnd (fun hc1 => ?_) (fun hc1 => ?_); rotate_left
  · refine awp_exit ?_
    rw [show x.1 = e.toNat from (by have := x.2; have := mt hlt.2 hc1; omega)]
    have hKe := kE_len hk e.toNat
    refine awp_seq ?_
    refine rln ?_
    refine G (q_ldw ?_)
    refine G20 (fun _ k_ => q_stw k_) ?_
    refine gend ?_
    refine awp_ret ?_
    exact fpc (t := 23) (a := 4) (hn := (mapc_length ..).trans hKe)
  refine awp_skip ?_
  refine awp_seq ?_
  refine awp_block ?_
  refine rln ?_
  refine G (q_ldw ?_)
  refine G2 (fun _ k_ => q_callp (rnext_ (kE k x.1) hKl) k_ (ha := (caa (et rfl) sees_m ca0))) ?_
  refine G20 (fun _ k_ => q_stw k_) ?_
  refine gend ?_
  refine rln ?_
  refine Mv ?_
  refine G (q_add64 (y := 1) ?_)
  refine As ?_
  refine gend ?_
  exact ⟨⟨x.1 + 1, hlt.1 hc1⟩, by show e.toNat - (x.1 + 1) < e.toNat - x.1; have := hlt.1 hc1; omega, sle_sub ⟨rfl, rfl, rfl, congrArg (fun z => sc (c64 z)) (ofNat_succ x.1), trivial⟩ rfl⟩
end Go.Proofs.Ytklcckngmmklhaa

/- What functions of the program do, walked over the abstract machine. -/
namespace Go.Proofs.Ytklcckngmmklhaa
open Go Go.Abs Go.Proofs Go.Proofs.Ytklcckngmmklhaa.Ch Go.Proofs.Ytklcckngmmklhaa.Po Go.Proofs.Ytklcckngmmklhaa.Ae Go.Proofs.Ytklcckngmmklhaa.Wd
set_option maxRecDepth 20000
abbrev rH (s r h : List UInt8) (sent : UInt64) (x : Cell) : List Cell := (u8s s ++ u8s r ++ u8s h) ++ [c64 sent, x]
theorem u32l {l : List UInt8} (h : l.length = 32) : (u8s l).length = 32 := (mapc_length ..).trans h
theorem rH_P {s r h : List UInt8} (hs : s.length = 32) (hr : r.length = 32) (hh : h.length = 32) : (u8s s ++ u8s r ++ u8s h).length = 96 := by rw [List.length_append, List.length_append, u32l hs, u32l hr, u32l hh]
theorem rH_len {s r h : List UInt8} {n : UInt64} {x : Cell} (hs : s.length = 32) (hr : r.length = 32) (hh : h.length = 32) : (rH s r h n x).length = 98 := by rw [List.length_append, rH_P hs hr hh]; rfl
theorem rH_n {s r h : List UInt8} {n : UInt64} {x : Cell} (hs : s.length = 32) (hr : r.length = 32) (hh : h.length = 32) : (rH s r h n x)[96]? = some (c64 n) := by
  rw [List.getElem?_append_right (by rw [rH_P hs hr hh]; exact Nat.le_refl _), rH_P hs hr hh]; rfl
theorem rH_x {s r h : List UInt8} {n : UInt64} {x : Cell} (hs : s.length = 32) (hr : r.length = 32) (hh : h.length = 32) : (rH s r h n x)[97]? = some x := by
  rw [List.getElem?_append_right (by rw [rH_P hs hr hh]; decide), rH_P hs hr hh]; rfl
theorem rH_dx {s r h : List UInt8} {n : UInt64} {x : Cell} (hs : s.length = 32) (hr : r.length = 32) (hh : h.length = 32) : ((rH s r h n x).drop 97)[0]? = some x := by rw [List.getElem?_drop]; exact rH_x hs hr hh
theorem rH_setn {s r h : List UInt8} {n m : UInt64} {x : Cell} (hs : s.length = 32) (hr : r.length = 32) (hh : h.length = 32) : (rH s r h n x).set 96 (c64 m) = rH s r h m x := by
  rw [List.set_append_right _ _ (by rw [rH_P hs hr hh]; exact Nat.le_refl _), rH_P hs hr hh]; rfl
theorem rH_setx {s r h : List UInt8} {n : UInt64} {x y : Cell} (hs : s.length = 32) (hr : r.length = 32) (hh : h.length = 32) : (rH s r h n x).set 97 y = rH s r h n y := by
  rw [List.set_append_right _ _ (by rw [rH_P hs hr hh]; decide), rH_P hs hr hh]; rfl
theorem rH_s {s r h : List UInt8} {n : UInt64} {x : Cell} (hs : s.length = 32) : ((rH s r h n x).drop 0).take 32 = u8s s := by
  show (((u8s s ++ u8s r ++ u8s h) ++ [c64 n, x]).drop 0).take 32 = _
  rw [List.drop_zero, List.append_assoc, List.append_assoc, List.take_append_of_le_length (by rw [u32l hs]; exact Nat.le_refl _), List.take_of_length_le (by rw [u32l hs]; exact Nat.le_refl _)]
theorem rH_r {s r h : List UInt8} {n : UInt64} {x : Cell} (hs : s.length = 32) (hr : r.length = 32) : ((rH s r h n x).drop 32).take 32 = u8s r := by
  show (((u8s s ++ u8s r ++ u8s h) ++ [c64 n, x]).drop 32).take 32 = _
  rw [List.append_assoc, List.append_assoc, List.drop_append_of_le_length (by rw [u32l hs]; exact Nat.le_refl _), List.drop_of_length_le (l := u8s s) (by rw [u32l hs]; exact Nat.le_refl _), List.nil_append, List.take_append_of_le_length (by rw [u32l hr]; exact Nat.le_refl _), List.take_of_length_le (by rw [u32l hr]; exact Nat.le_refl _)]
theorem rH_h {s r h : List UInt8} {n : UInt64} {x : Cell} (hs : s.length = 32) (hr : r.length = 32) (hh : h.length = 32) : ((rH s r h n x).drop 64).take 32 = u8s h := by
  have h2 : (u8s s ++ u8s r).length = 64 := by rw [List.length_append, u32l hs, u32l hr]
  show (((u8s s ++ u8s r ++ u8s h) ++ [c64 n, x]).drop 64).take 32 = _
  rw [List.append_assoc, List.drop_append_of_le_length (by rw [h2]; exact Nat.le_refl _), List.drop_of_length_le (l := u8s s ++ u8s r) (by rw [h2]; exact Nat.le_refl _), List.nil_append, List.take_append_of_le_length (by rw [u32l hh]; exact Nat.le_refl _), List.take_of_length_le (by rw [u32l hh]; exact Nat.le_refl _)]
theorem rH_cm {s r h : List UInt8} {n : UInt64} {x : Cell} {m : CM} {d : Nat} : (rH s r h n x).map (cm m (d + 1)) = rH s r h n (cm m (d + 1) x) := by
  rw [List.map_append, List.map_append, List.map_append, mapc_cm, mapc_cm, mapc_cm]; rfl
theorem rH_ne {s r h : List UInt8} {n : UInt64} {x : Cell} (hs : s.length = 32) : (rH s r h n x).isEmpty = false := by
  cases s with
  | nil => simp at hs
  | cons y q => rfl
theorem sees_rH {H : Heap} {p q : Nat} {π : List Nat} {s r h : List UInt8} {n : UInt64} {l : List UInt64} (hs : s.length = 32) (hp : idx p π = none) (hq : idx q π = none) (hP : H[p]? = some (some (rH s r h n (.slc q 0 l.length 1)))) (hQ : H[q]? = some (some (u64s l))) : cm (cin π true H) 8 (.ptr p 0) = .rop (rH s r h n (.ro l.length (u64s l))) := by
  refine sees_ptr hp hP (rH_ne hs) ?_
  rw [List.drop_zero, rH_cm]
  congr 3
  show cm (cin π true H) 7 (.slc q 0 l.length 1) = _
  simp only [cm, cin, hq, joinH, hQ, if_true, List.drop_zero, Nat.mul_one]
  rw [List.take_of_length_le (by rw [mapc_length]; exact Nat.le_refl _)]
  simp [mapc]
theorem rgr_ (s r h : List UInt8) (n : UInt64) (l : List UInt64) (hs : s.length = 32) (hr : r.length = 32) (hh : h.length = 32) (h9 : l.length ≤ 100000) : Good Try.prog 21 [.c (.rop (rH s r h n (.ro l.length (u64s l))))] [] (.t [.c (c64 (grl l)), .c (.bool (decide (0 < l.length)))]) [] := by
  refine good_frm 38 Try.func21 rfl rfl rfl rfl rfl rfl ?_
  refine awp_seq ?_
  refine rln ?_
  refine G (q_as (s := sc (c64 0)) ?_)
  refine As ?_
  refine gend ?_
  refine awp_seq ?_
  refine rln ?_
  refine G (q_as (s := sc (c64 0)) ?_)
  refine gend ?_
  refine awp_seq ?_
  refine awp_seq ?_
  refine rln ?_
  refine G (q_as (s := sc (cn 0)) ?_)
  refine gend ?_
  refine awp_block ?_
  refine awp_loop (fun x : {i : Nat // i ≤ l.length} => ⟨frm 38 [(0, sc (.rop (rH s r h n (.ro l.length (u64s l))))), (4, sc (c64 (grl (l.take x.1)))), (5, sc (cn x.1))], []⟩) (fun x => l.length - x.1) ⟨0, Nat.zero_le _⟩ (sle_sub ⟨rfl, rfl, rfl, trivial⟩ rfl) fun x => ?_
  refine awp_seq ?_
  refine awp_seq ?_
  refine rln ?_
  refine Mv ?_
  refine Mv ?_
  refine G (q_ncr ?_)
  refine G (q_far ?_)
  refine G (q_ldr ?_ (hc := rH_dx hs hr hh))
  refine G (q_leno ?_)
  refine G (q_lssn ?_)
  refine gend ?_
  refine cnd (fun hc1 => ?_) (fun hc1 => ?_); rotate_left
  · refine awp_exit ?_
    rw [show x.1 = l.length from (by have := x.2; omega)]
    rw [List.take_length]
    refine awp_seq ?_
    refine rdln [] [] [] ?_
    refine Dp (fun _ => q_mv (s := .v (.c _)) ⟨rfl, rfl⟩) ?_
    refine Dp (fun _ => q_mv (s := .v (.c _)) ⟨rfl, rfl⟩) ?_
    refine Dp (fun _ => q_ncr ⟨rfl, rfl⟩) ?_
    refine Dp (fun _ => q_far ⟨rfl, rfl⟩) ?_
    refine Dp (fun _ => q_ldr ⟨rfl, rfl⟩ (hc := rH_dx hs hr hh)) ?_
    refine Dp (fun _ => q_leno ⟨rfl, rfl⟩) ?_
    refine Dp (fun _ => q_gtrn (y := 0) ⟨rfl, rfl⟩) ?_
    refine Dp (fun _ => q_as (s := .v (.c _)) ⟨rfl, rfl⟩) ?_
    refine Dp (fun _ => q_as (s := .v (.c _)) ⟨rfl, rfl⟩) ?_
    refine dend ?_
    refine awp_ret ?_
    exact fp2
  refine awp_skip ?_
  refine awp_seq ?_
  refine awp_block ?_
  refine awp_seq ?_
  refine rln ?_
  refine Mv ?_
  refine G (q_ncr ?_)
  refine G (q_far ?_)
  refine G (q_ldr ?_ (hc := rH_dx hs hr hh))
  refine Mv ?_
  refine G (q_ixo1 ?_)
  refine G (q_ldrd ?_)
  refine Mv ?_
  refine G (q_gtr64 ?_)
  refine gend ?_
  refine cnd (fun hc2 => ?_) (fun hc2 => ?_)
  · refine rln ?_
    refine Mv ?_
    refine G (q_ncr ?_)
    refine G (q_far ?_)
    refine G (q_ldr ?_ (hc := rH_dx hs hr hh))
    refine Mv ?_
    refine G (q_ixo1 ?_)
    refine G (q_ldrd ?_)
    refine As ?_
    refine gend ?_
    refine rln ?_
    refine Mv ?_
    refine G (q_addn (y := 1) ?_)
    refine As ?_
    refine gend ?_
    exact ⟨⟨x.1 + 1, by omega⟩, by show l.length - (x.1 + 1) < l.length - x.1; omega, sle_sub ⟨rfl, congrArg (fun z => sc (c64 z)) (by rw [grl_take (by omega)]; first | exact (if_pos hc2).symm | exact (if_neg hc2).symm), rfl, trivial⟩ rfl⟩
  refine awp_skip ?_
  refine rln ?_
  refine Mv ?_
  refine G (q_addn (y := 1) ?_)
  refine As ?_
  refine gend ?_
  exact ⟨⟨x.1 + 1, by omega⟩, by show l.length - (x.1 + 1) < l.length - x.1; omega, sle_sub ⟨rfl, congrArg (fun z => sc (c64 z)) (by rw [grl_take (by omega)]; first | exact (if_pos hc2).symm | exact (if_neg hc2).symm), rfl, trivial⟩ rfl⟩
set_option maxHeartbeats 800000 in
theorem rframe_ (s h c : List UInt8) (n : UInt64) (k : Nat) (hs : s.length = 32) (hh : h.length = 32) (hc : c.length = k) (hk : k ≤ 5000) : Good Try.prog 17 [.a (u8s s), .a (u8s h), .c (c64 n), .c (.ro k (u8s c))] [] (sc (.slc 0 0 (8 + (k + 16)) 1)) [some (u8s (fr19 s h n c))] := by
  have hK := kE_len hs (n / 64).toNat
  have g1 := rkey_ s (n / 64) hs
  have g2 := rnonce_ n
  have hN := anonce_len n
  have g3 := rseal_ (kE s (n / 64).toNat) (anonce n) h c 32 k hK hN hh (by decide) hc (by omega)
  have hSl := aseal_len (kE s (n / 64).toNat) (anonce n) h c
  rw [hc] at hSl
  rw [fr19]
  obtain ⟨K, hKK⟩ : ∃ z, kE s (n / 64).toNat = z := ⟨_, rfl⟩
  obtain ⟨M, hM⟩ : ∃ z, anonce n = z := ⟨_, rfl⟩
  rw [hKK, hM] at g3 hSl ⊢
  rw [hKK] at g1 hK
  rw [hM] at g2 hN
  obtain ⟨X, hX⟩ : ∃ z, aseal K M h c = z := ⟨_, rfl⟩
  rw [hX] at g3 hSl ⊢
  refine good_frm 35 Try.func17 rfl rfl rfl rfl rfl rfl ?_
  refine awp_seq ?_
  refine rln ?_
  refine G2 (fun _ k_ => q_boxa k_) ?_
  refine G2 (fun _ k_ => q_boxa k_) ?_
  refine As ?_
  refine gend ?_
  refine awp_seq ?_
  refine rln ?_
  refine As ?_
  refine gend ?_
  refine awp_seq ?_
  refine awp_seq ?_
  refine rln ?_
  refine G (q_as (s := sc (cn 7)) ?_)
  refine gend ?_
  refine awp_block ?_
  refine awp_loop (fun x : {i : Nat // i ≤ 8} => ⟨frm 35 [(2, sc (c64 n)), (3, sc (.ro k (u8s c))), (4, sc (.ptr 0 0)), (5, sc (.ptr 1 0)), (9, sc (.slc 2 0 x.1 1)), (10, sc (ci (7 - (x.1 : Int))))], [some (u8s s), some (u8s h), some (u8s (fbl n x.1))]⟩) (fun x => 8 - x.1) ⟨0, Nat.zero_le _⟩ (sle_empty 1 (Nat.zero_le _) ⟨.inl rfl, .inl rfl, .inl rfl, .inl rfl, .inr ⟨rfl, rfl⟩, .inl rfl, trivial⟩) fun x => ?_
  have hfl := fbl_len n x.1
  have hx8 := x.2
  refine awp_seq ?_
  refine awp_seq ?_
  refine rln ?_
  refine Mv ?_
  refine G (q_geqi (y := 0) ?_)
  refine gend ?_
  refine cnd (fun hc1 => ?_) (fun hc1 => ?_); rotate_left
  · refine awp_exit ?_
    rw [show x.1 = 8 from (by omega)]
    have hf8 := fbl_len n 8
    refine awp_seq ?_
    refine rdln [9, 10] [0, 0, 0, 0, 0, 0, 0, 0, 0, 0, 1, 2] [1, 0, 0, 0, 0, 0, 0, 0, 0, 1, 2, 2] ?_
    refine Dp (fun _ => q_mv (s := .v (.c _)) ⟨rfl, rfl⟩) ?_
    refine DLw ?_
    refine Dp (fun _ => q_mv (s := .v (.c _)) ⟨rfl, rfl⟩) ?_
    refine Dp (fun _ => q_quo64 (y := 64) ⟨rfl, rfl⟩ (hz := by decide)) ?_
    refine Dp (fun _ => q_callp g1 ⟨rfl, rfl⟩ (ha := (caa (et rfl) sees_m (cac (et rfl) cm_int ca0)))) ?_
    refine Dp (fun _ => q_mv (s := .v (.c _)) ⟨rfl, rfl⟩) ?_
    refine Dp (fun _ => q_callp g2 ⟨rfl, rfl⟩ (ha := (cac (et rfl) cm_int ca0))) ?_
    refine DSp 1 rfl (fun _ hv => q_slp_no ⟨rfl, rfl⟩ (hp := hv)) ?_
    refine Dp (fun _ => q_mv (s := .v (.c _)) ⟨rfl, rfl⟩) ?_
    refine De2 (fun _ k_ => q_calln g3 k_ (ha := (caa (et rfl) sees_m (caa (et rfl) sees_m (cac (et rfl) (sees_slc rfl rfl (cut_h hh)) (cac (et rfl) sees_ro ca0)))))) ?_
    refine De2 (fun _ k_ => q_app  k_ (eA := el_slc (xs := u8s (fbl n 8)) rfl (by rw [mapc_length]; omega) (cut_h hf8)) (eB := el_slc (xs := u8s X) rfl (by rw [mapc_length, hSl]; omega) (cut_h hSl))) ?_
    refine Dp (fun _ => q_as (s := .v (.c _)) ⟨rfl, rfl⟩) ?_
    refine dend ?_
    refine awp_ret ?_
    exact fx1 [4] (hm0 := rfl) (hH := pl1 rfl ((congrArg (List.map _) (mapc_append ..)).trans sees_m) pl0)
  refine awp_skip ?_
  refine retell [(2, sc (c64 n)), (3, sc (.ro k (u8s c))), (4, sc (.ptr 0 0)), (5, sc (.ptr 1 0)), (9, sc (.slc 2 0 x.1 1)), (10, sc (cn (7 - x.1)))] ?_ ⟨rfl, rfl, rfl, rfl, rfl, congrArg (fun i => sc (ci i)) (by omega), trivial⟩
  refine awp_seq ?_
  refine awp_block ?_
  refine rln ?_
  refine Mv ?_
  refine Mv ?_
  refine Mv ?_
  refine G (q_muln (x := 8) ?_)
  refine G (q_cv0_64 ?_)
  refine G (q_shr64_64 ?_)
  refine G (q_cv64_8 ?_)
  refine G2 (fun _ k_ => q_bsl (fkc rfl (et rfl) rfl (Nat.le_of_ble_eq_true rfl) (fk0 k_))) ?_
  refine G2 (fun _ k_ => q_app  k_ (eA := el_slc (xs := u8s (fbl n x.1)) rfl (by rw [mapc_length]; omega) (cut_h (by omega))) (eB := el_slc (xs := [_]) rfl (Nat.le_refl 1) rfl)) ?_
  refine As ?_
  refine gend ?_
  refine rln ?_
  refine Mv ?_
  refine G (q_subi (y := 1) ?_)
  refine As ?_
  refine gend ?_
  exact ⟨⟨x.1 + 1, by omega⟩, by show 8 - (x.1 + 1) < 8 - x.1; omega, sle_ren [(0, true), (1, true), (4, true)] rfl (fun p h => absurd h (Nat.not_lt_zero _)) ⟨rfl, rs_ro, rfl, rfl, rfl, congrArg (fun z => sc (ci z)) (by show ((7 - x.1 : Nat) : Int) - 1 = 7 - ((x.1 + 1 : Nat) : Int); omega), trivial⟩ (Eq.symm (a := renL _ _ _) (rlT rfl sees_m (rlT rfl sees_m (rlT rfl ((congrArg (List.map _) (mapc_append (fbl n x.1) [_])).trans sees_m) rl0))))⟩
end Go.Proofs.Ytklcckngmmklhaa

/- What functions of the program do, walked over the abstract machine. -/
namespace Go.Proofs.Ytklcckngmmklhaa
open Go Go.Abs Go.Proofs Go.Proofs.Ytklcckngmmklhaa.Ch Go.Proofs.Ytklcckngmmklhaa.Po Go.Proofs.Ytklcckngmmklhaa.Ae Go.Proofs.Ytklcckngmmklhaa.Wd
set_option maxRecDepth 20000
def op19 (r h : List UInt8) (l : List UInt64) (fr : List UInt8) : List UInt8 × UInt64 × Nat × List UInt64 :=
  if 4120 < fr.length then ([], 0, 3, l) else if fr.length < 24 then ([], 0, 4, l) else
  if 281474976710656 ≤ rg (fr.take 8) then ([], 0, 4, l) else
  if rg (fr.take 8) ∈ l then ([], 0, 10, l) else
  if 0 < l.length ∧ rg (fr.take 8) + 64 ≤ grl l then ([], 0, 10, l) else
  if grl l / 64 + 16 < rg (fr.take 8) / 64 then ([], 0, 9, l) else
  match aopen (kE r (rg (fr.take 8) / 64).toNat) (anonce (rg (fr.take 8))) h (fr.drop 8) with
  | none => ([], 0, 8, l)
  | some p => (p, rg (fr.take 8), 0, l ++ [rg (fr.take 8)])
theorem app_one {l : List UInt64} {a : UInt64} : u64s l ++ [c64 a] = u64s (l ++ [a]) := by simp [mapc]
theorem cut_drop {l : List UInt8} {f k : Nat} (h : l.length = f) : ((u8s l).drop (k * 1)).take ((f - k) * 1) = u8s (l.drop k) := by
  rw [Nat.mul_one, Nat.mul_one, mapc_drop, List.take_of_length_le (by rw [mapc_length, List.length_drop, h]; exact Nat.le_refl _)]
theorem rH_hc {s r h : List UInt8} {n : UInt64} {x : Cell} (hs : s.length = 32) (hr : r.length = 32) (hh : h.length = 32) : ((rH s r h n x).drop 64).take (32 * 1) = u8s h := rH_h hs hr hh
set_option maxHeartbeats 800000 in
theorem rsl_ (s r h : List UInt8) (n : UInt64) (l : List UInt64) (hs : s.length = 32) (hr : r.length = 32) (hh : h.length = 32) (h9 : l.length ≤ 100000) (c : List UInt8) (k : Nat) (hc : c.length = k) (hk : k ≤ 4096) : Good Try.prog 18 [.c (.ptr 0 0), .c (.ro k (u8s c))] [some (rH s r h n (.slc 1 0 l.length 1)), some (u64s l)] (.t [.c (.slc 2 0 (8 + (k + 16)) 1), .c (cn 0)]) [some (rH s r h (n + 1) (.slc 1 0 l.length 1)), some (u64s l), some (u8s (fr19 s h n c))] := by
  have g1 := rframe_ s h c n k hs hh hc (by omega)
  have hn1 : n + 1 - 1 = n := UInt64.add_sub_cancel ..
  have hL1 := rH_len (n := n + 1) (x := .slc 1 0 l.length 1) hs hr hh
  have hL0 := rH_len (n := n) (x := .slc 1 0 l.length 1) hs hr hh
  obtain ⟨X, hX⟩ : ∃ z, fr19 s h n c = z := ⟨_, rfl⟩
  rw [hX] at g1 ⊢
  rw [← hn1] at g1
  refine good_frm 32 Try.func18 rfl rfl rfl rfl rfl rfl ?_
  refine awp_seq ?_
  refine rln ?_
  refine As ?_
  refine G (q_as (s := sc (cn 0)) ?_)
  refine gend ?_
  refine awp_seq ?_
  refine awp_seq ?_
  refine rln ?_
  refine Mv ?_
  refine G (q_leno ?_)
  refine G (q_gtrn (y := 4096) ?_)
  refine gend ?_
  refine cndN (fun hc1 => ?_) ?_; rotate_left
  · omega
  refine awp_skip ?_
  refine awp_seq ?_
  refine rln ?_
  refine Mv ?_
  refine Mv ?_
  refine G (q_ncp ?_)
  refine G (q_fap0 ?_)
  refine G (q_ldp ?_ (hc := rH_n hs hr hh))
  refine G (q_add64 (y := 1) ?_)
  refine G (q_ncp ?_)
  refine G (q_fap0 ?_)
  refine G20 (fun _ k_ => q_st k_) ?_ (hH := by simp only [List.set_cons_zero, List.set_cons_succ, List.cons_append, List.nil_append]; exact congrArg (fun z => some z :: _) (rH_setn hs hr hh))
  refine gend ?_
  refine awp_seq ?_
  refine rdln [14] [0, 0, 0, 0, 0, 0, 0, 0, 0, 0, 0, 0, 0, 0, 0, 1, 1] [0, 0, 0, 0, 0, 0, 0, 0, 0, 0, 0, 0, 0, 0, 1, 1, 1] ?_
  refine Dp (fun _ => q_mv (s := .v (.c _)) ⟨rfl, rfl⟩) ?_
  refine Dp (fun _ => q_ncp ⟨rfl, rfl⟩) ?_
  refine Dp (fun _ => q_fap0 ⟨rfl, rfl⟩) ?_
  refine DLa (xs := u8s s) ?_ (hc := by exact rH_s hs) (hl := by rw [hL1]; decide)
  refine Dp (fun _ => q_mv (s := .v (.c _)) ⟨rfl, rfl⟩) ?_
  refine Dp (fun _ => q_ncp ⟨rfl, rfl⟩) ?_
  refine Dp (fun _ => q_fap0 ⟨rfl, rfl⟩) ?_
  refine DLa (xs := u8s h) ?_ (hc := by exact rH_h hs hr hh) (hl := by rw [hL1]; decide)
  refine Dp (fun _ => q_mv (s := .v (.c _)) ⟨rfl, rfl⟩) ?_
  refine Dp (fun _ => q_ncp ⟨rfl, rfl⟩) ?_
  refine Dp (fun _ => q_fap0 ⟨rfl, rfl⟩) ?_
  refine DLp ?_ (hc := rH_n hs hr hh)
  refine Dp (fun _ => q_sub64 (y := 1) ⟨rfl, rfl⟩) ?_
  refine Dp (fun _ => q_mv (s := .v (.c _)) ⟨rfl, rfl⟩) ?_
  refine De2 (fun _ k_ => q_calln g1 k_ (ha := (caa (et rfl) sees_m (caa (et rfl) sees_m (cac (et rfl) cm_int (cac (et rfl) sees_ro ca0)))))) ?_
  refine Dp (fun _ => q_as (s := .v (.c _)) ⟨rfl, rfl⟩) ?_
  refine Dp (fun _ => q_as (s := sc (cn 0)) ⟨rfl, rfl⟩) ?_
  refine dend ?_
  refine awp_ret ?_
  exact fx2 [0, 1, 2] (hm0 := rfl) (hH := pl1 rfl (rH_cm.trans rfl) (pl1 rfl sees_m (pl1 rfl sees_m pl0))) (hn := piB rfl)
set_option maxHeartbeats 1600000 in
theorem rop_none (s r h : List UInt8) (n : UInt64) (l : List UInt64) (hs : s.length = 32) (hr : r.length = 32) (hh : h.length = 32) (h9 : l.length ≤ 100000) (fr : List UInt8) (f : Nat) (hf : fr.length = f) (hf9 : f ≤ 140737488351232) (hop : aopen (kE r ((rg (fr.take 8)) / 64).toNat) (anonce (rg (fr.take 8))) h (fr.drop 8) = none) : Good Try.prog 19 [.c (.ptr 0 0), .c (.ro f (u8s fr))] [some (rH s r h n (.slc 1 0 l.length 1)), some (u64s l)] (.t [.c (.slc 3 0 (op19 r h l fr).1.length 1), .c (c64 (op19 r h l fr).2.1), .c (cn (op19 r h l fr).2.2.1)]) [some (rH s r h n (.slc 2 0 (op19 r h l fr).2.2.2.length 1)), none, some (u64s (op19 r h l fr).2.2.2), some (u8s (op19 r h l fr).1)] := by
  have hL0 := rH_len (n := n) (x := .slc 1 0 l.length 1) hs hr hh
  refine good_frm 104 Try.func19 rfl rfl rfl rfl rfl rfl ?_
  refine awp_seq ?_
  refine rln ?_
  refine As ?_
  refine G (q_as (s := sc (c64 0)) ?_)
  refine G (q_as (s := sc (cn 0)) ?_)
  refine gend ?_
  refine awp_seq ?_
  refine awp_seq ?_
  refine rln ?_
  refine Mv ?_
  refine G (q_leno ?_)
  refine G (q_gtrn (y := 4120) ?_)
  refine gend ?_
  refine cnd (fun hc1 => ?_) (fun hc1 => ?_)
  · refine awp_seq ?_
    refine rln ?_
    refine As ?_
    refine G (q_as (s := sc (c64 0)) ?_)
    refine G (q_as (s := sc (cn 3)) ?_)
    refine gend ?_
    rw [show op19 r h l fr = ([], 0, 3, l) from by unfold op19; rw [if_pos (by rw [hf]; exact hc1)]]
    refine awp_le (sle_empty (al' := [(4, sc (.slc 2 0 0 1)), (5, sc (c64 0)), (6, sc (cn 3))]) 1 (Nat.le_refl _) ⟨.inr ⟨rfl, rfl⟩, .inl rfl, .inl rfl, trivial⟩) ?_
    refine awp_le (sle_ren (al' := [(4, sc (.slc 3 0 0 1)), (5, sc (c64 0)), (6, sc (cn 3))]) [(0, true), (1, false), (1, true), (2, true)] rfl (piT rfl) ⟨rfl, rfl, rfl, trivial⟩ (Eq.symm (a := renL _ _ _) (rlT rfl (rH_cm.trans rfl) (rlF (rlT rfl sees_m (rlT rfl rfl rl0)))))) ?_
    refine  awp_ret ?_
    exact fx3 [0, 1, 2, 3] (hm0 := rfl) (hH := pl1 rfl (rH_cm.trans rfl) (plb rfl rfl (pl1 rfl sees_m (pl1 rfl (by first | exact sees_m | exact rfl) pl0)))) (hn := piB rfl)
  refine awp_skip ?_
  refine awp_seq ?_
  refine awp_seq ?_
  refine rln ?_
  refine Mv ?_
  refine G (q_leno ?_)
  refine G (q_lssn (y := 24) ?_)
  refine gend ?_
  refine cnd (fun hc2 => ?_) (fun hc2 => ?_)
  · refine awp_seq ?_
    refine rln ?_
    refine As ?_
    refine G (q_as (s := sc (c64 0)) ?_)
    refine G (q_as (s := sc (cn 4)) ?_)
    refine gend ?_
    rw [show op19 r h l fr = ([], 0, 4, l) from by unfold op19; rw [if_neg (by rw [hf]; exact hc1), if_pos (by rw [hf]; exact hc2)]]
    refine awp_le (sle_empty (al' := [(4, sc (.slc 2 0 0 1)), (5, sc (c64 0)), (6, sc (cn 4))]) 1 (Nat.le_refl _) ⟨.inr ⟨rfl, rfl⟩, .inl rfl, .inl rfl, trivial⟩) ?_
    refine awp_le (sle_ren (al' := [(4, sc (.slc 3 0 0 1)), (5, sc (c64 0)), (6, sc (cn 4))]) [(0, true), (1, false), (1, true), (2, true)] rfl (piT rfl) ⟨rfl, rfl, rfl, trivial⟩ (Eq.symm (a := renL _ _ _) (rlT rfl (rH_cm.trans rfl) (rlF (rlT rfl sees_m (rlT rfl rfl rl0)))))) ?_
    refine  awp_ret ?_
    exact fx3 [0, 1, 2, 3] (hm0 := rfl) (hH := pl1 rfl (rH_cm.trans rfl) (plb rfl rfl (pl1 rfl sees_m (pl1 rfl (by first | exact sees_m | exact rfl) pl0)))) (hn := piB rfl)
  refine awp_skip ?_
  refine awp_seq ?_
  refine rln ?_
  refine G (q_as (s := sc (c64 0)) ?_)
  refine gend ?_
  refine awp_seq ?_
  refine awp_seq ?_
  refine rln ?_
  refine G (q_as (s := sc (cn 0)) ?_)
  refine gend ?_
  refine awp_block ?_
  refine awp_loop (fun x : {i : Nat // i ≤ 8} => ⟨frm 104 [(0, sc (.ptr 0 0)), (1, sc (.ro f (u8s fr))), (7, sc (c64 (rg (fr.take x.1)))), (8, sc (cn x.1))], [some (rH s r h n (.slc 1 0 l.length 1)), some (u64s l)]⟩) (fun x => 8 - x.1) ⟨0, Nat.zero_le _⟩ (sle_sub ⟨rfl, rfl, rfl, rfl, trivial⟩ rfl) fun x => ?_
  refine awp_seq ?_
  refine awp_seq ?_
  refine rln ?_
  refine Mv ?_
  refine G (q_lssn (y := 8) ?_)
  refine gend ?_
  refine cnd (fun hc3 => ?_) (fun hc3 => ?_); rotate_left
  · refine awp_exit ?_
    rw [show x.1 = 8 from (by have := x.2; omega)]
    have hK := kE_len hr ((rg (fr.take 8)) / 64).toNat
    have g1 := rkey_ r ((rg (fr.take 8)) / 64) hr
    have g2 := rnonce_ (rg (fr.take 8))
    have hN := anonce_len (rg (fr.take 8))
    have hdl : (fr.drop 8).length = f - 8 := by rw [List.length_drop, hf]
    have g3 := ropen_none (kE r ((rg (fr.take 8)) / 64).toNat) (anonce (rg (fr.take 8))) h (fr.drop 8) 32 (f - 8) hK hN hh (by decide) hdl (by omega) hop
    refine awp_seq ?_
    refine awp_seq ?_
    refine rln ?_
    refine Mv ?_
    refine G (q_geq64 (y := 281474976710656) ?_)
    refine gend ?_
    refine cnd (fun hc4 => ?_) (fun hc4 => ?_)
    · refine awp_seq ?_
      refine rln ?_
      refine As ?_
      refine G (q_as (s := sc (c64 0)) ?_)
      refine G (q_as (s := sc (cn 4)) ?_)
      refine gend ?_
      rw [show op19 r h l fr = ([], 0, 4, l) from by unfold op19; rw [if_neg (by rw [hf]; exact hc1), if_neg (by rw [hf]; exact hc2), if_pos hc4]]
      refine awp_le (sle_empty (al' := [(4, sc (.slc 2 0 0 1)), (5, sc (c64 0)), (6, sc (cn 4))]) 1 (Nat.le_refl _) ⟨.inr ⟨rfl, rfl⟩, .inl rfl, .inl rfl, trivial⟩) ?_
      refine awp_le (sle_ren (al' := [(4, sc (.slc 3 0 0 1)), (5, sc (c64 0)), (6, sc (cn 4))]) [(0, true), (1, false), (1, true), (2, true)] rfl (piT rfl) ⟨rfl, rfl, rfl, trivial⟩ (Eq.symm (a := renL _ _ _) (rlT rfl (rH_cm.trans rfl) (rlF (rlT rfl sees_m (rlT rfl rfl rl0)))))) ?_
      refine  awp_ret ?_
      exact fx3 [0, 1, 2, 3] (hm0 := rfl) (hH := pl1 rfl (rH_cm.trans rfl) (plb rfl rfl (pl1 rfl sees_m (pl1 rfl (by first | exact sees_m | exact rfl) pl0)))) (hn := piB rfl)
    refine awp_skip ?_
    refine awp_seq ?_
    refine rln ?_
    refine Mv ?_
    refine G2 (fun _ k_ => q_callp (rgr_ s r h n l hs hr hh h9) k_ (ha := (cac (et rfl) (sees_rH hs rfl rfl rfl rfl) ca0))) ?_
    refine G (q_mv (s := .t _) ?_)
    refine G (q_ext (y := .c _) ?_)
    refine G (q_ext (y := .c _) ?_)
    refine As ?_
    refine As ?_
    refine gend ?_
    refine awp_seq ?_
    refine awp_seq ?_
    refine rln ?_
    refine G (q_as (s := sc (cn 0)) ?_)
    refine gend ?_
    refine awp_block ?_
    refine awp_loop (fun y : CP l (rg (fr.take 8)) => ⟨frm 104 [(0, sc (.ptr 0 0)), (1, sc (.ro f (u8s fr))), (7, sc (c64 (rg (fr.take 8)))), (9, sc (c64 (grl l))), (10, sc (.bool (decide (0 < l.length)))), (11, sc (cn y.i))], [some (rH s r h n (.slc 1 0 l.length 1)), some (u64s l)]⟩) (fun y => l.length - y.i) ⟨0, Nat.zero_le _, fun _ h => absurd h (Nat.not_lt_zero _)⟩ (sle_sub ⟨rfl, rfl, rfl, rfl, rfl, rfl, trivial⟩ rfl) fun y => ?_
    have hyi := y.hi
    refine awp_seq ?_
    refine awp_seq ?_
    refine rln ?_
    refine Mv ?_
    refine Mv ?_
    refine G (q_ncp ?_)
    refine G (q_fap0 ?_)
    refine G (q_ldp ?_ (hc := by first | exact rH_x hs hr hh | exact u64_at (by omega)))
    refine G (q_lenc ?_)
    refine G (q_lssn ?_)
    refine gend ?_
    refine cnd (fun hc5 => ?_) (fun hc5 => ?_); rotate_left
    · refine awp_exit ?_
      refine awp_seq ?_
      refine awp_seq ?_
      refine rln ?_
      refine Mv ?_
      refine Mv ?_
      refine Asp 58 (fun hb2 => ?_) (fun hb2 => ?_)
      · refine Gg (q_mv (s := .v (.c _)) ?_)
        refine Gg (q_add64 (y := 64) ?_)
        refine Gg (q_mv (s := .v (.c _)) ?_)
        refine Gg (q_leq64 ?_)
        refine G (q_pkt ?_)
        refine gend ?_
        refine cnd (fun hc6 => ?_) (fun hc6 => ?_)
        · refine awp_seq ?_
          refine rln ?_
          refine As ?_
          refine G (q_as (s := sc (c64 0)) ?_)
          refine G (q_as (s := sc (cn 10)) ?_)
          refine gend ?_
          rw [show op19 r h l fr = ([], 0, 10, l) from by unfold op19; rw [if_neg (by rw [hf]; exact hc1), if_neg (by rw [hf]; exact hc2), if_neg hc4, if_neg (not_mem_all (fun j hj => y.ok j (by omega))), if_pos ⟨of_decide_eq_true hb2, hc6⟩]]
          refine awp_le (sle_empty (al' := [(4, sc (.slc 2 0 0 1)), (5, sc (c64 0)), (6, sc (cn 10))]) 1 (Nat.le_refl _) ⟨.inr ⟨rfl, rfl⟩, .inl rfl, .inl rfl, trivial⟩) ?_
          refine awp_le (sle_ren (al' := [(4, sc (.slc 3 0 0 1)), (5, sc (c64 0)), (6, sc (cn 10))]) [(0, true), (1, false), (1, true), (2, true)] rfl (piT rfl) ⟨rfl, rfl, rfl, trivial⟩ (Eq.symm (a := renL _ _ _) (rlT rfl (rH_cm.trans rfl) (rlF (rlT rfl sees_m (rlT rfl rfl rl0)))))) ?_
          refine  awp_ret ?_
          exact fx3 [0, 1, 2, 3] (hm0 := rfl) (hH := pl1 rfl (rH_cm.trans rfl) (plb rfl rfl (pl1 rfl sees_m (pl1 rfl (by first | exact sees_m | exact rfl) pl0)))) (hn := piB rfl)
        refine awp_skip ?_
        refine awp_seq ?_
        refine awp_seq ?_
        refine rln ?_
        refine Mv ?_
        refine G (q_quo64 (y := 64) ?_ (hz := by decide))
        refine Mv ?_
        refine G (q_quo64 (y := 64) ?_ (hz := by decide))
        refine G (q_add64 (y := 16) ?_)
        refine G (q_gtr64 ?_)
        refine gend ?_
        refine cnd (fun hc7 => ?_) (fun hc7 => ?_)
        · refine awp_seq ?_
          refine rln ?_
          refine As ?_
          refine G (q_as (s := sc (c64 0)) ?_)
          refine G (q_as (s := sc (cn 9)) ?_)
          refine gend ?_
          rw [show op19 r h l fr = ([], 0, 9, l) from by unfold op19; rw [if_neg (by rw [hf]; exact hc1), if_neg (by rw [hf]; exact hc2), if_neg hc4, if_neg (not_mem_all (fun j hj => y.ok j (by omega))), if_neg (fun h => hc6 h.2), if_pos hc7]]
          refine awp_le (sle_empty (al' := [(4, sc (.slc 2 0 0 1)), (5, sc (c64 0)), (6, sc (cn 9))]) 1 (Nat.le_refl _) ⟨.inr ⟨rfl, rfl⟩, .inl rfl, .inl rfl, trivial⟩) ?_
          refine awp_le (sle_ren (al' := [(4, sc (.slc 3 0 0 1)), (5, sc (c64 0)), (6, sc (cn 9))]) [(0, true), (1, false), (1, true), (2, true)] rfl (piT rfl) ⟨rfl, rfl, rfl, trivial⟩ (Eq.symm (a := renL _ _ _) (rlT rfl (rH_cm.trans rfl) (rlF (rlT rfl sees_m (rlT rfl rfl rl0)))))) ?_
          refine  awp_ret ?_
          exact fx3 [0, 1, 2, 3] (hm0 := rfl) (hH := pl1 rfl (rH_cm.trans rfl) (plb rfl rfl (pl1 rfl sees_m (pl1 rfl (by first | exact sees_m | exact rfl) pl0)))) (hn := piB rfl)
        refine awp_skip ?_
        refine awp_seq ?_
        refine rdln [] [] [] ?_
        refine Dp (fun _ => q_mv (s := .v (.c _)) ⟨rfl, rfl⟩) ?_
        refine Dp (fun _ => q_ncp ⟨rfl, rfl⟩) ?_
        refine Dp (fun _ => q_fap0 ⟨rfl, rfl⟩) ?_
        refine DLa (xs := u8s r) ?_ (hc := by exact rH_r hs hr) (hl := by rw [hL0]; decide)
        refine Dp (fun _ => q_mv (s := .v (.c _)) ⟨rfl, rfl⟩) ?_
        refine Dp (fun _ => q_quo64 (y := 64) ⟨rfl, rfl⟩ (hz := by decide)) ?_
        refine Dp (fun _ => q_callp g1 ⟨rfl, rfl⟩ (ha := (caa (et rfl) sees_m (cac (et rfl) cm_int ca0)))) ?_
        refine Dp (fun _ => q_mv (s := .v (.c _)) ⟨rfl, rfl⟩) ?_
        refine Dp (fun _ => q_callp g2 ⟨rfl, rfl⟩ (ha := (cac (et rfl) cm_int ca0))) ?_
        refine Dp (fun _ => q_mv (s := .v (.c _)) ⟨rfl, rfl⟩) ?_
        refine Dp (fun _ => q_ncp ⟨rfl, rfl⟩) ?_
        refine Dp (fun _ => q_fap0 ⟨rfl, rfl⟩) ?_
        refine DSp 0 rfl (fun _ hv => q_slp_no ⟨rfl, rfl⟩ (hp := hv)) ?_
        refine Dp (fun _ => q_mv (s := .v (.c _)) ⟨rfl, rfl⟩) ?_
        refine Dp (fun _ => q_slo_lo (j := 8) ⟨rfl, rfl⟩ (hc := cut_drop hf)) ?_
        refine DSp 0 rfl (fun _ hv => q_callp g3 ⟨rfl, rfl⟩ (ha := (caa (et rfl) sees_m (caa (et rfl) sees_m (cac (et rfl) (sees_slc rfl hv (rH_hc hs hr hh)) (cac (et rfl) sees_ro ca0)))))) ?_
        refine Dp (fun _ => q_mv (s := .t _) ⟨rfl, rfl⟩) ?_
        refine Dp (fun _ => q_ext (y := .c _) ⟨rfl, rfl⟩) ?_
        refine Dp (fun _ => q_ext (y := .c _) ⟨rfl, rfl⟩) ?_
        refine Dp (fun _ => q_as (s := .v (.c _)) ⟨rfl, rfl⟩) ?_
        refine Dp (fun _ => q_as (s := .v (.c _)) ⟨rfl, rfl⟩) ?_
        refine dend ?_
        refine awp_seq ?_
        refine awp_seq ?_
        refine rln ?_
        refine Mv ?_
        refine G (q_notb ?_)
        refine gend ?_
        refine cndbnY (fun hc8 => ?_) ?_; rotate_left
        · exact rfl
        refine awp_seq ?_
        refine rln ?_
        refine As ?_
        refine G (q_as (s := sc (c64 0)) ?_)
        refine G (q_as (s := sc (cn 8)) ?_)
        refine gend ?_
        rw [show op19 r h l fr = ([], 0, 8, l) from by unfold op19; rw [if_neg (by rw [hf]; exact hc1), if_neg (by rw [hf]; exact hc2), if_neg hc4, if_neg (not_mem_all (fun j hj => y.ok j (by omega))), if_neg (fun h => hc6 h.2), if_neg hc7, hop]]
        refine awp_le (sle_empty (al' := [(4, sc (.slc 2 0 0 1)), (5, sc (c64 0)), (6, sc (cn 8))]) 1 (Nat.le_refl _) ⟨.inr ⟨rfl, rfl⟩, .inl rfl, .inl rfl, trivial⟩) ?_
        refine awp_le (sle_ren (al' := [(4, sc (.slc 3 0 0 1)), (5, sc (c64 0)), (6, sc (cn 8))]) [(0, true), (1, false), (1, true), (2, true)] rfl (piT rfl) ⟨rfl, rfl, rfl, trivial⟩ (Eq.symm (a := renL _ _ _) (rlT rfl (rH_cm.trans rfl) (rlF (rlT rfl sees_m (rlT rfl rfl rl0)))))) ?_
        refine  awp_ret ?_
        exact fx3 [0, 1, 2, 3] (hm0 := rfl) (hH := pl1 rfl (rH_cm.trans rfl) (plb rfl rfl (pl1 rfl sees_m (pl1 rfl (by first | exact sees_m | exact rfl) pl0)))) (hn := piB rfl)
      refine Gn ?_
      refine Gn ?_
      refine Gn ?_
      refine Gn ?_
      refine G (q_pkf ?_)
      refine gend ?_
      refine cndF ?_
      refine awp_skip ?_
      refine awp_seq ?_
      refine awp_seq ?_
      refine rln ?_
      refine Mv ?_
      refine G (q_quo64 (y := 64) ?_ (hz := by decide))
      refine Mv ?_
      refine G (q_quo64 (y := 64) ?_ (hz := by decide))
      refine G (q_add64 (y := 16) ?_)
      refine G (q_gtr64 ?_)
      refine gend ?_
      refine cnd (fun hc9 => ?_) (fun hc9 => ?_)
      · refine awp_seq ?_
        refine rln ?_
        refine As ?_
        refine G (q_as (s := sc (c64 0)) ?_)
        refine G (q_as (s := sc (cn 9)) ?_)
        refine gend ?_
        rw [show op19 r h l fr = ([], 0, 9, l) from by unfold op19; rw [if_neg (by rw [hf]; exact hc1), if_neg (by rw [hf]; exact hc2), if_neg hc4, if_neg (not_mem_all (fun j hj => y.ok j (by omega))), if_neg (fun h => of_decide_eq_false hb2 h.1), if_pos hc9]]
        refine awp_le (sle_empty (al' := [(4, sc (.slc 2 0 0 1)), (5, sc (c64 0)), (6, sc (cn 9))]) 1 (Nat.le_refl _) ⟨.inr ⟨rfl, rfl⟩, .inl rfl, .inl rfl, trivial⟩) ?_
        refine awp_le (sle_ren (al' := [(4, sc (.slc 3 0 0 1)), (5, sc (c64 0)), (6, sc (cn 9))]) [(0, true), (1, false), (1, true), (2, true)] rfl (piT rfl) ⟨rfl, rfl, rfl, trivial⟩ (Eq.symm (a := renL _ _ _) (rlT rfl (rH_cm.trans rfl) (rlF (rlT rfl sees_m (rlT rfl rfl rl0)))))) ?_
        refine  awp_ret ?_
        exact fx3 [0, 1, 2, 3] (hm0 := rfl) (hH := pl1 rfl (rH_cm.trans rfl) (plb rfl rfl (pl1 rfl sees_m (pl1 rfl (by first | exact sees_m | exact rfl) pl0)))) (hn := piB rfl)
      refine awp_skip ?_
      refine awp_seq ?_
      refine rdln [] [] [] ?_
      refine Dp (fun _ => q_mv (s := .v (.c _)) ⟨rfl, rfl⟩) ?_
      refine Dp (fun _ => q_ncp ⟨rfl, rfl⟩) ?_
      refine Dp (fun _ => q_fap0 ⟨rfl, rfl⟩) ?_
      refine DLa (xs := u8s r) ?_ (hc := by exact rH_r hs hr) (hl := by rw [hL0]; decide)
      refine Dp (fun _ => q_mv (s := .v (.c _)) ⟨rfl, rfl⟩) ?_
      refine Dp (fun _ => q_quo64 (y := 64) ⟨rfl, rfl⟩ (hz := by decide)) ?_
      refine Dp (fun _ => q_callp g1 ⟨rfl, rfl⟩ (ha := (caa (et rfl) sees_m (cac (et rfl) cm_int ca0)))) ?_
      refine Dp (fun _ => q_mv (s := .v (.c _)) ⟨rfl, rfl⟩) ?_
      refine Dp (fun _ => q_callp g2 ⟨rfl, rfl⟩ (ha := (cac (et rfl) cm_int ca0))) ?_
      refine Dp (fun _ => q_mv (s := .v (.c _)) ⟨rfl, rfl⟩) ?_
      refine Dp (fun _ => q_ncp ⟨rfl, rfl⟩) ?_
      refine Dp (fun _ => q_fap0 ⟨rfl, rfl⟩) ?_
      refine DSp 0 rfl (fun _ hv => q_slp_no ⟨rfl, rfl⟩ (hp := hv)) ?_
      refine Dp (fun _ => q_mv (s := .v (.c _)) ⟨rfl, rfl⟩) ?_
      refine Dp (fun _ => q_slo_lo (j := 8) ⟨rfl, rfl⟩ (hc := cut_drop hf)) ?_
      refine DSp 0 rfl (fun _ hv => q_callp g3 ⟨rfl, rfl⟩ (ha := (caa (et rfl) sees_m (caa (et rfl) sees_m (cac (et rfl) (sees_slc rfl hv (rH_hc hs hr hh)) (cac (et rfl) sees_ro ca0)))))) ?_
      refine Dp (fun _ => q_mv (s := .t _) ⟨rfl, rfl⟩) ?_
      refine Dp (fun _ => q_ext (y := .c _) ⟨rfl, rfl⟩) ?_
      refine Dp (fun _ => q_ext (y := .c _) ⟨rfl, rfl⟩) ?_
      refine Dp (fun _ => q_as (s := .v (.c _)) ⟨rfl, rfl⟩) ?_
      refine Dp (fun _ => q_as (s := .v (.c _)) ⟨rfl, rfl⟩) ?_
      refine dend ?_
      refine awp_seq ?_
      refine awp_seq ?_
      refine rln ?_
      refine Mv ?_
      refine G (q_notb ?_)
      refine gend ?_
      refine cndbnY (fun hc10 => ?_) ?_; rotate_left
      · exact rfl
      refine awp_seq ?_
      refine rln ?_
      refine As ?_
      refine G (q_as (s := sc (c64 0)) ?_)
      refine G (q_as (s := sc (cn 8)) ?_)
      refine gend ?_
      rw [show op19 r h l fr = ([], 0, 8, l) from by unfold op19; rw [if_neg (by rw [hf]; exact hc1), if_neg (by rw [hf]; exact hc2), if_neg hc4, if_neg (not_mem_all (fun j hj => y.ok j (by omega))), if_neg (fun h => of_decide_eq_false hb2 h.1), if_neg hc9, hop]]
      refine awp_le (sle_empty (al' := [(4, sc (.slc 2 0 0 1)), (5, sc (c64 0)), (6, sc (cn 8))]) 1 (Nat.le_refl _) ⟨.inr ⟨rfl, rfl⟩, .inl rfl, .inl rfl, trivial⟩) ?_
      refine awp_le (sle_ren (al' := [(4, sc (.slc 3 0 0 1)), (5, sc (c64 0)), (6, sc (cn 8))]) [(0, true), (1, false), (1, true), (2, true)] rfl (piT rfl) ⟨rfl, rfl, rfl, trivial⟩ (Eq.symm (a := renL _ _ _) (rlT rfl (rH_cm.trans rfl) (rlF (rlT rfl sees_m (rlT rfl rfl rl0)))))) ?_
      refine  awp_ret ?_
      exact fx3 [0, 1, 2, 3] (hm0 := rfl) (hH := pl1 rfl (rH_cm.trans rfl) (plb rfl rfl (pl1 rfl sees_m (pl1 rfl (by first | exact sees_m | exact rfl) pl0)))) (hn := piB rfl)
    refine awp_skip ?_
    refine awp_seq ?_
    refine awp_block ?_
    refine awp_seq ?_
    refine rln ?_
    refine Mv ?_
    refine G (q_ncp ?_)
    refine G (q_fap0 ?_)
    refine G (q_ldp ?_ (hc := by first | exact rH_x hs hr hh | exact u64_at (by omega)))
    refine Mv ?_
    refine G (q_ixs1 ?_)
    refine G (q_ldp ?_ (hc := by first | exact rH_x hs hr hh | exact u64_at (by omega)))
    refine Mv ?_
    refine G (q_eql64 ?_)
    refine gend ?_
    refine cnd (fun hc11 => ?_) (fun hc11 => ?_)
    · refine awp_seq ?_
      refine rln ?_
      refine As ?_
      refine G (q_as (s := sc (c64 0)) ?_)
      refine G (q_as (s := sc (cn 10)) ?_)
      refine gend ?_
      rw [show op19 r h l fr = ([], 0, 10, l) from by unfold op19; rw [if_neg (by rw [hf]; exact hc1), if_neg (by rw [hf]; exact hc2), if_neg hc4, if_pos (mem_at (by omega) hc11)]]
      refine awp_le (sle_empty (al' := [(4, sc (.slc 2 0 0 1)), (5, sc (c64 0)), (6, sc (cn 10))]) 1 (Nat.le_refl _) ⟨.inr ⟨rfl, rfl⟩, .inl rfl, .inl rfl, trivial⟩) ?_
      refine awp_le (sle_ren (al' := [(4, sc (.slc 3 0 0 1)), (5, sc (c64 0)), (6, sc (cn 10))]) [(0, true), (1, false), (1, true), (2, true)] rfl (piT rfl) ⟨rfl, rfl, rfl, trivial⟩ (Eq.symm (a := renL _ _ _) (rlT rfl (rH_cm.trans rfl) (rlF (rlT rfl sees_m (rlT rfl rfl rl0)))))) ?_
      refine  awp_ret ?_
      exact fx3 [0, 1, 2, 3] (hm0 := rfl) (hH := pl1 rfl (rH_cm.trans rfl) (plb rfl rfl (pl1 rfl sees_m (pl1 rfl (by first | exact sees_m | exact rfl) pl0)))) (hn := piB rfl)
    refine awp_skip ?_
    refine rln ?_
    refine Mv ?_
    refine G (q_addn (y := 1) ?_)
    refine As ?_
    refine gend ?_
    exact ⟨⟨y.i + 1, by omega, fun j hj => by rcases Nat.lt_succ_iff_lt_or_eq.1 hj with h | rfl; exact y.ok j h; exact hc11⟩, by show l.length - (y.i + 1) < l.length - y.i; omega, sle_sub ⟨rfl, rfl, rfl, rfl, rfl, rfl, trivial⟩ rfl⟩
  refine awp_skip ?_
  refine awp_seq ?_
  refine awp_block ?_
  refine rln ?_
  refine Mv ?_
  refine G (q_mul64 (y := 256) ?_)
  refine Mv ?_
  refine Mv ?_
  refine G (q_ixo1 ?_)
  refine G (q_ldrd ?_)
  refine G (q_cv8_64 ?_)
  refine G (q_add64 ?_)
  refine As ?_
  refine gend ?_
  refine rln ?_
  refine Mv ?_
  refine G (q_addn (y := 1) ?_)
  refine As ?_
  refine gend ?_
  exact ⟨⟨x.1 + 1, by omega⟩, by show 8 - (x.1 + 1) < 8 - x.1; omega, sle_sub ⟨rfl, rfl, congrArg (fun z => sc (c64 z)) (rg_take fr x.1 (by omega)).symm, rfl, trivial⟩ rfl⟩
set_option maxHeartbeats 1600000 in
theorem rop_some (s r h : List UInt8) (n : UInt64) (l : List UInt64) (hs : s.length = 32) (hr : r.length = 32) (hh : h.length = 32) (h9 : l.length ≤ 100000) (fr : List UInt8) (f : Nat) (hf : fr.length = f) (hf9 : f ≤ 140737488351232) (p : List UInt8) (hop : aopen (kE r ((rg (fr.take 8)) / 64).toNat) (anonce (rg (fr.take 8))) h (fr.drop 8) = some p) : Good Try.prog 19 [.c (.ptr 0 0), .c (.ro f (u8s fr))] [some (rH s r h n (.slc 1 0 l.length 1)), some (u64s l)] (.t [.c (.slc 3 0 (op19 r h l fr).1.length 1), .c (c64 (op19 r h l fr).2.1), .c (cn (op19 r h l fr).2.2.1)]) [some (rH s r h n (.slc 2 0 (op19 r h l fr).2.2.2.length 1)), none, some (u64s (op19 r h l fr).2.2.2), some (u8s (op19 r h l fr).1)] := by
  have hL0 := rH_len (n := n) (x := .slc 1 0 l.length 1) hs hr hh
  refine good_frm 104 Try.func19 rfl rfl rfl rfl rfl rfl ?_
  refine awp_seq ?_
  refine rln ?_
  refine As ?_
  refine G (q_as (s := sc (c64 0)) ?_)
  refine G (q_as (s := sc (cn 0)) ?_)
  refine gend ?_
  refine awp_seq ?_
  refine awp_seq ?_
  refine rln ?_
  refine Mv ?_
  refine G (q_leno ?_)
  refine G (q_gtrn (y := 4120) ?_)
  refine gend ?_
  refine cnd (fun hc1 => ?_) (fun hc1 => ?_)
  · refine awp_seq ?_
    refine rln ?_
    refine As ?_
    refine G (q_as (s := sc (c64 0)) ?_)
    refine G (q_as (s := sc (cn 3)) ?_)
    refine gend ?_
    rw [show op19 r h l fr = ([], 0, 3, l) from by unfold op19; rw [if_pos (by rw [hf]; exact hc1)]]
    refine awp_le (sle_empty (al' := [(4, sc (.slc 2 0 0 1)), (5, sc (c64 0)), (6, sc (cn 3))]) 1 (Nat.le_refl _) ⟨.inr ⟨rfl, rfl⟩, .inl rfl, .inl rfl, trivial⟩) ?_
    refine awp_le (sle_ren (al' := [(4, sc (.slc 3 0 0 1)), (5, sc (c64 0)), (6, sc (cn 3))]) [(0, true), (1, false), (1, true), (2, true)] rfl (piT rfl) ⟨rfl, rfl, rfl, trivial⟩ (Eq.symm (a := renL _ _ _) (rlT rfl (rH_cm.trans rfl) (rlF (rlT rfl sees_m (rlT rfl rfl rl0)))))) ?_
    refine  awp_ret ?_
    exact fx3 [0, 1, 2, 3] (hm0 := rfl) (hH := pl1 rfl (rH_cm.trans rfl) (plb rfl rfl (pl1 rfl sees_m (pl1 rfl (by first | exact sees_m | exact rfl) pl0)))) (hn := piB rfl)
  refine awp_skip ?_
  refine awp_seq ?_
  refine awp_seq ?_
  refine rln ?_
  refine Mv ?_
  refine G (q_leno ?_)
  refine G (q_lssn (y := 24) ?_)
  refine gend ?_
  refine cnd (fun hc2 => ?_) (fun hc2 => ?_)
  · refine awp_seq ?_
    refine rln ?_
    refine As ?_
    refine G (q_as (s := sc (c64 0)) ?_)
    refine G (q_as (s := sc (cn 4)) ?_)
    refine gend ?_
    rw [show op19 r h l fr = ([], 0, 4, l) from by unfold op19; rw [if_neg (by rw [hf]; exact hc1), if_pos (by rw [hf]; exact hc2)]]
    refine awp_le (sle_empty (al' := [(4, sc (.slc 2 0 0 1)), (5, sc (c64 0)), (6, sc (cn 4))]) 1 (Nat.le_refl _) ⟨.inr ⟨rfl, rfl⟩, .inl rfl, .inl rfl, trivial⟩) ?_
    refine awp_le (sle_ren (al' := [(4, sc (.slc 3 0 0 1)), (5, sc (c64 0)), (6, sc (cn 4))]) [(0, true), (1, false), (1, true), (2, true)] rfl (piT rfl) ⟨rfl, rfl, rfl, trivial⟩ (Eq.symm (a := renL _ _ _) (rlT rfl (rH_cm.trans rfl) (rlF (rlT rfl sees_m (rlT rfl rfl rl0)))))) ?_
    refine  awp_ret ?_
    exact fx3 [0, 1, 2, 3] (hm0 := rfl) (hH := pl1 rfl (rH_cm.trans rfl) (plb rfl rfl (pl1 rfl sees_m (pl1 rfl (by first | exact sees_m | exact rfl) pl0)))) (hn := piB rfl)
  refine awp_skip ?_
  refine awp_seq ?_
  refine rln ?_
  refine G (q_as (s := sc (c64 0)) ?_)
  refine gend ?_
  refine awp_seq ?_
  refine awp_seq ?_
  refine rln ?_
  refine G (q_as (s := sc (cn 0)) ?_)
  refine gend ?_
  refine awp_block ?_
  refine awp_loop (fun x : {i : Nat // i ≤ 8} => ⟨frm 104 [(0, sc (.ptr 0 0)), (1, sc (.ro f (u8s fr))), (7, sc (c64 (rg (fr.take x.1)))), (8, sc (cn x.1))], [some (rH s r h n (.slc 1 0 l.length 1)), some (u64s l)]⟩) (fun x => 8 - x.1) ⟨0, Nat.zero_le _⟩ (sle_sub ⟨rfl, rfl, rfl, rfl, trivial⟩ rfl) fun x => ?_
  refine awp_seq ?_
  refine awp_seq ?_
  refine rln ?_
  refine Mv ?_
  refine G (q_lssn (y := 8) ?_)
  refine gend ?_
  refine cnd (fun hc3 => ?_) (fun hc3 => ?_); rotate_left
  · refine awp_exit ?_
    rw [show x.1 = 8 from (by have := x.2; omega)]
    have hK := kE_len hr ((rg (fr.take 8)) / 64).toNat
    have g1 := rkey_ r ((rg (fr.take 8)) / 64) hr
    have g2 := rnonce_ (rg (fr.take 8))
    have hN := anonce_len (rg (fr.take 8))
    have hdl : (fr.drop 8).length = f - 8 := by rw [List.length_drop, hf]
    have g3 := ropen_some (kE r ((rg (fr.take 8)) / 64).toNat) (anonce (rg (fr.take 8))) h (fr.drop 8) 32 (f - 8) hK hN hh (by decide) hdl (by omega) p hop
    have hpl := aopen_len hop
    refine awp_seq ?_
    refine awp_seq ?_
    refine rln ?_
    refine Mv ?_
    refine G (q_geq64 (y := 281474976710656) ?_)
    refine gend ?_
    refine cnd (fun hc4 => ?_) (fun hc4 => ?_)
    · refine awp_seq ?_
      refine rln ?_
      refine As ?_
      refine G (q_as (s := sc (c64 0)) ?_)
      refine G (q_as (s := sc (cn 4)) ?_)
      refine gend ?_
      rw [show op19 r h l fr = ([], 0, 4, l) from by unfold op19; rw [if_neg (by rw [hf]; exact hc1), if_neg (by rw [hf]; exact hc2), if_pos hc4]]
      refine awp_le (sle_empty (al' := [(4, sc (.slc 2 0 0 1)), (5, sc (c64 0)), (6, sc (cn 4))]) 1 (Nat.le_refl _) ⟨.inr ⟨rfl, rfl⟩, .inl rfl, .inl rfl, trivial⟩) ?_
      refine awp_le (sle_ren (al' := [(4, sc (.slc 3 0 0 1)), (5, sc (c64 0)), (6, sc (cn 4))]) [(0, true), (1, false), (1, true), (2, true)] rfl (piT rfl) ⟨rfl, rfl, rfl, trivial⟩ (Eq.symm (a := renL _ _ _) (rlT rfl (rH_cm.trans rfl) (rlF (rlT rfl sees_m (rlT rfl rfl rl0)))))) ?_
      refine  awp_ret ?_
      exact fx3 [0, 1, 2, 3] (hm0 := rfl) (hH := pl1 rfl (rH_cm.trans rfl) (plb rfl rfl (pl1 rfl sees_m (pl1 rfl (by first | exact sees_m | exact rfl) pl0)))) (hn := piB rfl)
    refine awp_skip ?_
    refine awp_seq ?_
    refine rln ?_
    refine Mv ?_
    refine G2 (fun _ k_ => q_callp (rgr_ s r h n l hs hr hh h9) k_ (ha := (cac (et rfl) (sees_rH hs rfl rfl rfl rfl) ca0))) ?_
    refine G (q_mv (s := .t _) ?_)
    refine G (q_ext (y := .c _) ?_)
    refine G (q_ext (y := .c _) ?_)
    refine As ?_
    refine As ?_
    refine gend ?_
    refine awp_seq ?_
    refine awp_seq ?_
    refine rln ?_
    refine G (q_as (s := sc (cn 0)) ?_)
    refine gend ?_
    refine awp_block ?_
    refine awp_loop (fun y : CP l (rg (fr.take 8)) => ⟨frm 104 [(0, sc (.ptr 0 0)), (1, sc (.ro f (u8s fr))), (7, sc (c64 (rg (fr.take 8)))), (9, sc (c64 (grl l))), (10, sc (.bool (decide (0 < l.length)))), (11, sc (cn y.i))], [some (rH s r h n (.slc 1 0 l.length 1)), some (u64s l)]⟩) (fun y => l.length - y.i) ⟨0, Nat.zero_le _, fun _ h => absurd h (Nat.not_lt_zero _)⟩ (sle_sub ⟨rfl, rfl, rfl, rfl, rfl, rfl, trivial⟩ rfl) fun y => ?_
    have hyi := y.hi
    refine awp_seq ?_
    refine awp_seq ?_
    refine rln ?_
    refine Mv ?_
    refine Mv ?_
    refine G (q_ncp ?_)
    refine G (q_fap0 ?_)
    refine G (q_ldp ?_ (hc := by first | exact rH_x hs hr hh | exact u64_at (by omega)))
    refine G (q_lenc ?_)
    refine G (q_lssn ?_)
    refine gend ?_
    refine cnd (fun hc5 => ?_) (fun hc5 => ?_); rotate_left
    · refine awp_exit ?_
      refine awp_seq ?_
      refine awp_seq ?_
      refine rln ?_
      refine Mv ?_
      refine Mv ?_
      refine Asp 58 (fun hb2 => ?_) (fun hb2 => ?_)
      · refine Gg (q_mv (s := .v (.c _)) ?_)
        refine Gg (q_add64 (y := 64) ?_)
        refine Gg (q_mv (s := .v (.c _)) ?_)
        refine Gg (q_leq64 ?_)
        refine G (q_pkt ?_)
        refine gend ?_
        refine cnd (fun hc6 => ?_) (fun hc6 => ?_)
        · refine awp_seq ?_
          refine rln ?_
          refine As ?_
          refine G (q_as (s := sc (c64 0)) ?_)
          refine G (q_as (s := sc (cn 10)) ?_)
          refine gend ?_
          rw [show op19 r h l fr = ([], 0, 10, l) from by unfold op19; rw [if_neg (by rw [hf]; exact hc1), if_neg (by rw [hf]; exact hc2), if_neg hc4, if_neg (not_mem_all (fun j hj => y.ok j (by omega))), if_pos ⟨of_decide_eq_true hb2, hc6⟩]]
          refine awp_le (sle_empty (al' := [(4, sc (.slc 2 0 0 1)), (5, sc (c64 0)), (6, sc (cn 10))]) 1 (Nat.le_refl _) ⟨.inr ⟨rfl, rfl⟩, .inl rfl, .inl rfl, trivial⟩) ?_
          refine awp_le (sle_ren (al' := [(4, sc (.slc 3 0 0 1)), (5, sc (c64 0)), (6, sc (cn 10))]) [(0, true), (1, false), (1, true), (2, true)] rfl (piT rfl) ⟨rfl, rfl, rfl, trivial⟩ (Eq.symm (a := renL _ _ _) (rlT rfl (rH_cm.trans rfl) (rlF (rlT rfl sees_m (rlT rfl rfl rl0)))))) ?_
          refine  awp_ret ?_
          exact fx3 [0, 1, 2, 3] (hm0 := rfl) (hH := pl1 rfl (rH_cm.trans rfl) (plb rfl rfl (pl1 rfl sees_m (pl1 rfl (by first | exact sees_m | exact rfl) pl0)))) (hn := piB rfl)
        refine awp_skip ?_
        refine awp_seq ?_
        refine awp_seq ?_
        refine rln ?_
        refine Mv ?_
        refine G (q_quo64 (y := 64) ?_ (hz := by decide))
        refine Mv ?_
        refine G (q_quo64 (y := 64) ?_ (hz := by decide))
        refine G (q_add64 (y := 16) ?_)
        refine G (q_gtr64 ?_)
        refine gend ?_
        refine cnd (fun hc7 => ?_) (fun hc7 => ?_)
        · refine awp_seq ?_
          refine rln ?_
          refine As ?_
          refine G (q_as (s := sc (c64 0)) ?_)
          refine G (q_as (s := sc (cn 9)) ?_)
          refine gend ?_
          rw [show op19 r h l fr = ([], 0, 9, l) from by unfold op19; rw [if_neg (by rw [hf]; exact hc1), if_neg (by rw [hf]; exact hc2), if_neg hc4, if_neg (not_mem_all (fun j hj => y.ok j (by omega))), if_neg (fun h => hc6 h.2), if_pos hc7]]
          refine awp_le (sle_empty (al' := [(4, sc (.slc 2 0 0 1)), (5, sc (c64 0)), (6, sc (cn 9))]) 1 (Nat.le_refl _) ⟨.inr ⟨rfl, rfl⟩, .inl rfl, .inl rfl, trivial⟩) ?_
          refine awp_le (sle_ren (al' := [(4, sc (.slc 3 0 0 1)), (5, sc (c64 0)), (6, sc (cn 9))]) [(0, true), (1, false), (1, true), (2, true)] rfl (piT rfl) ⟨rfl, rfl, rfl, trivial⟩ (Eq.symm (a := renL _ _ _) (rlT rfl (rH_cm.trans rfl) (rlF (rlT rfl sees_m (rlT rfl rfl rl0)))))) ?_
          refine  awp_ret ?_
          exact fx3 [0, 1, 2, 3] (hm0 := rfl) (hH := pl1 rfl (rH_cm.trans rfl) (plb rfl rfl (pl1 rfl sees_m (pl1 rfl (by first | exact sees_m | exact rfl) pl0)))) (hn := piB rfl)
        refine awp_skip ?_
        refine awp_seq ?_
        refine rdln [15] [0, 0, 0, 0, 0, 0, 0, 0, 0, 0, 0, 0, 0, 0, 0, 0, 1, 1, 1, 1, 1] [0, 0, 0, 0, 0, 0, 0, 0, 0, 0, 0, 0, 0, 0, 0, 1, 1, 1, 1, 1, 1] ?_
        refine Dp (fun _ => q_mv (s := .v (.c _)) ⟨rfl, rfl⟩) ?_
        refine Dp (fun _ => q_ncp ⟨rfl, rfl⟩) ?_
        refine Dp (fun _ => q_fap0 ⟨rfl, rfl⟩) ?_
        refine DLa (xs := u8s r) ?_ (hc := by exact rH_r hs hr) (hl := by rw [hL0]; decide)
        refine Dp (fun _ => q_mv (s := .v (.c _)) ⟨rfl, rfl⟩) ?_
        refine Dp (fun _ => q_quo64 (y := 64) ⟨rfl, rfl⟩ (hz := by decide)) ?_
        refine Dp (fun _ => q_callp g1 ⟨rfl, rfl⟩ (ha := (caa (et rfl) sees_m (cac (et rfl) cm_int ca0)))) ?_
        refine Dp (fun _ => q_mv (s := .v (.c _)) ⟨rfl, rfl⟩) ?_
        refine Dp (fun _ => q_callp g2 ⟨rfl, rfl⟩ (ha := (cac (et rfl) cm_int ca0))) ?_
        refine Dp (fun _ => q_mv (s := .v (.c _)) ⟨rfl, rfl⟩) ?_
        refine Dp (fun _ => q_ncp ⟨rfl, rfl⟩) ?_
        refine Dp (fun _ => q_fap0 ⟨rfl, rfl⟩) ?_
        refine DSp 0 rfl (fun _ hv => q_slp_no ⟨rfl, rfl⟩ (hp := hv)) ?_
        refine Dp (fun _ => q_mv (s := .v (.c _)) ⟨rfl, rfl⟩) ?_
        refine Dp (fun _ => q_slo_lo (j := 8) ⟨rfl, rfl⟩ (hc := cut_drop hf)) ?_
        refine De2 (fun _ k_ => q_calln g3 k_ (ha := (caa (et rfl) sees_m (caa (et rfl) sees_m (cac (et rfl) (sees_slc rfl rfl (rH_hc hs hr hh)) (cac (et rfl) sees_ro ca0)))))) ?_
        refine Dp (fun _ => q_mv (s := .t _) ⟨rfl, rfl⟩) ?_
        refine Dp (fun _ => q_ext (y := .c _) ⟨rfl, rfl⟩) ?_
        refine Dp (fun _ => q_ext (y := .c _) ⟨rfl, rfl⟩) ?_
        refine Dp (fun _ => q_as (s := .v (.c _)) ⟨rfl, rfl⟩) ?_
        refine Dp (fun _ => q_as (s := .v (.c _)) ⟨rfl, rfl⟩) ?_
        refine dend ?_
        refine awp_seq ?_
        refine awp_seq ?_
        refine rln ?_
        refine Mv ?_
        refine G (q_notb ?_)
        refine gend ?_
        refine cndbnN (fun hc8 => ?_) ?_; rotate_left
        · exact rfl
        refine awp_skip ?_
        refine awp_seq ?_
        refine rln ?_
        refine Mv ?_
        refine Mv ?_
        refine G (q_ncp ?_)
        refine G (q_fap0 ?_)
        refine G (q_ldp ?_ (hc := by first | exact rH_x hs hr hh | exact u64_at (by omega)))
        refine G2 (fun _ k_ => q_app  k_ (eA := el_nil) (eB := el_slc (xs := u64s l) rfl (by rw [mapc_length]; omega) (cut_h rfl))) ?_
        refine Mv ?_
        refine G2 (fun _ k_ => q_bsl (fkc rfl (et rfl) rfl (Nat.le_of_ble_eq_true rfl) (fk0 k_))) ?_
        refine G2 (fun _ k_ => q_app  k_ (eA := el_slc (xs := u64s l) rfl (by rw [mapc_length]; omega) (cut_h (by omega))) (eB := el_slc (xs := [_]) rfl (Nat.le_refl 1) rfl)) ?_
        refine G (q_ncp ?_)
        refine G (q_fap0 ?_)
        refine G20 (fun _ k_ => q_st k_) ?_ (hH := by simp only [List.set_cons_zero, List.set_cons_succ, List.cons_append, List.nil_append]; exact congrArg (fun z => some z :: _) (rH_setx hs hr hh))
        refine gend ?_
        refine awp_seq ?_
        refine rln ?_
        refine Mv ?_
        refine Mv ?_
        refine As ?_
        refine As ?_
        refine G (q_as (s := sc (cn 0)) ?_)
        refine gend ?_
        rw [show op19 r h l fr = (p, (rg (fr.take 8)), 0, l ++ [(rg (fr.take 8))]) from by unfold op19; rw [if_neg (by rw [hf]; exact hc1), if_neg (by rw [hf]; exact hc2), if_neg hc4, if_neg (not_mem_all (fun j hj => y.ok j (by omega))), if_neg (fun h => hc6 h.2), if_neg hc7, hop]]
        refine awp_le (sle_ren (al' := [(4, sc (.slc 3 0 p.length 1)), (5, sc (c64 (rg (fr.take 8)))), (6, sc (cn 0))]) [(0, true), (1, false), (5, true), (2, true)] rfl (piT rfl) ⟨congrArg (fun z => sc (.slc 3 0 z 1)) (by omega), rfl, rfl, trivial⟩ (Eq.symm (a := renL _ _ _) (rlT rfl (rH_cm.trans (congrArg (rH s r h n) (congrArg (fun z => Cell.slc 2 0 z 1) (show 0 + l.length + 1 = (l ++ [(rg (fr.take 8))]).length by simp)))) (rlF (rlT rfl ((congrArg (List.map _) app_one).trans sees_m) (rlT rfl sees_m rl0)))))) ?_
        refine  awp_ret ?_
        exact fx3 [0, 1, 2, 3] (hm0 := rfl) (hH := pl1 rfl (rH_cm.trans rfl) (plb rfl rfl (pl1 rfl sees_m (pl1 rfl (by first | exact sees_m | exact rfl) pl0)))) (hn := piB rfl)
      refine Gn ?_
      refine Gn ?_
      refine Gn ?_
      refine Gn ?_
      refine G (q_pkf ?_)
      refine gend ?_
      refine cndF ?_
      refine awp_skip ?_
      refine awp_seq ?_
      refine awp_seq ?_
      refine rln ?_
      refine Mv ?_
      refine G (q_quo64 (y := 64) ?_ (hz := by decide))
      refine Mv ?_
      refine G (q_quo64 (y := 64) ?_ (hz := by decide))
      refine G (q_add64 (y := 16) ?_)
      refine G (q_gtr64 ?_)
      refine gend ?_
      refine cnd (fun hc9 => ?_) (fun hc9 => ?_)
      · refine awp_seq ?_
        refine rln ?_
        refine As ?_
        refine G (q_as (s := sc (c64 0)) ?_)
        refine G (q_as (s := sc (cn 9)) ?_)
        refine gend ?_
        rw [show op19 r h l fr = ([], 0, 9, l) from by unfold op19; rw [if_neg (by rw [hf]; exact hc1), if_neg (by rw [hf]; exact hc2), if_neg hc4, if_neg (not_mem_all (fun j hj => y.ok j (by omega))), if_neg (fun h => of_decide_eq_false hb2 h.1), if_pos hc9]]
        refine awp_le (sle_empty (al' := [(4, sc (.slc 2 0 0 1)), (5, sc (c64 0)), (6, sc (cn 9))]) 1 (Nat.le_refl _) ⟨.inr ⟨rfl, rfl⟩, .inl rfl, .inl rfl, trivial⟩) ?_
        refine awp_le (sle_ren (al' := [(4, sc (.slc 3 0 0 1)), (5, sc (c64 0)), (6, sc (cn 9))]) [(0, true), (1, false), (1, true), (2, true)] rfl (piT rfl) ⟨rfl, rfl, rfl, trivial⟩ (Eq.symm (a := renL _ _ _) (rlT rfl (rH_cm.trans rfl) (rlF (rlT rfl sees_m (rlT rfl rfl rl0)))))) ?_
        refine  awp_ret ?_
        exact fx3 [0, 1, 2, 3] (hm0 := rfl) (hH := pl1 rfl (rH_cm.trans rfl) (plb rfl rfl (pl1 rfl sees_m (pl1 rfl (by first | exact sees_m | exact rfl) pl0)))) (hn := piB rfl)
      refine awp_skip ?_
      refine awp_seq ?_
      refine rdln [15] [0, 0, 0, 0, 0, 0, 0, 0, 0, 0, 0, 0, 0, 0, 0, 0, 1, 1, 1, 1, 1] [0, 0, 0, 0, 0, 0, 0, 0, 0, 0, 0, 0, 0, 0, 0, 1, 1, 1, 1, 1, 1] ?_
      refine Dp (fun _ => q_mv (s := .v (.c _)) ⟨rfl, rfl⟩) ?_
      refine Dp (fun _ => q_ncp ⟨rfl, rfl⟩) ?_
      refine Dp (fun _ => q_fap0 ⟨rfl, rfl⟩) ?_
      refine DLa (xs := u8s r) ?_ (hc := by exact rH_r hs hr) (hl := by rw [hL0]; decide)
      refine Dp (fun _ => q_mv (s := .v (.c _)) ⟨rfl, rfl⟩) ?_
      refine Dp (fun _ => q_quo64 (y := 64) ⟨rfl, rfl⟩ (hz := by decide)) ?_
      refine Dp (fun _ => q_callp g1 ⟨rfl, rfl⟩ (ha := (caa (et rfl) sees_m (cac (et rfl) cm_int ca0)))) ?_
      refine Dp (fun _ => q_mv (s := .v (.c _)) ⟨rfl, rfl⟩) ?_
      refine Dp (fun _ => q_callp g2 ⟨rfl, rfl⟩ (ha := (cac (et rfl) cm_int ca0))) ?_
      refine Dp (fun _ => q_mv (s := .v (.c _)) ⟨rfl, rfl⟩) ?_
      refine Dp (fun _ => q_ncp ⟨rfl, rfl⟩) ?_
      refine Dp (fun _ => q_fap0 ⟨rfl, rfl⟩) ?_
      refine DSp 0 rfl (fun _ hv => q_slp_no ⟨rfl, rfl⟩ (hp := hv)) ?_
      refine Dp (fun _ => q_mv (s := .v (.c _)) ⟨rfl, rfl⟩) ?_
      refine Dp (fun _ => q_slo_lo (j := 8) ⟨rfl, rfl⟩ (hc := cut_drop hf)) ?_
      refine De2 (fun _ k_ => q_calln g3 k_ (ha := (caa (et rfl) sees_m (caa (et rfl) sees_m (cac (et rfl) (sees_slc rfl rfl (rH_hc hs hr hh)) (cac (et rfl) sees_ro ca0)))))) ?_
      refine Dp (fun _ => q_mv (s := .t _) ⟨rfl, rfl⟩) ?_
      refine Dp (fun _ => q_ext (y := .c _) ⟨rfl, rfl⟩) ?_
      refine Dp (fun _ => q_ext (y := .c _) ⟨rfl, rfl⟩) ?_
      refine Dp (fun _ => q_as (s := .v (.c _)) ⟨rfl, rfl⟩) ?_
      refine Dp (fun _ => q_as (s := .v (.c _)) ⟨rfl, rfl⟩) ?_
      refine dend ?_
      refine awp_seq ?_
      refine awp_seq ?_
      refine rln ?_
      refine Mv ?_
      refine G (q_notb ?_)
      refine gend ?_
      refine cndbnN (fun hc10 => ?_) ?_; rotate_left
      · exact rfl
      refine awp_skip ?_
      refine awp_seq ?_
      refine rln ?_
      refine Mv ?_
      refine Mv ?_
      refine G (q_ncp ?_)
      refine G (q_fap0 ?_)
      refine G (q_ldp ?_ (hc := by first | exact rH_x hs hr hh | exact u64_at (by omega)))
      refine G2 (fun _ k_ => q_app  k_ (eA := el_nil) (eB := el_slc (xs := u64s l) rfl (by rw [mapc_length]; omega) (cut_h rfl))) ?_
      refine Mv ?_
      refine G2 (fun _ k_ => q_bsl (fkc rfl (et rfl) rfl (Nat.le_of_ble_eq_true rfl) (fk0 k_))) ?_
      refine G2 (fun _ k_ => q_app  k_ (eA := el_slc (xs := u64s l) rfl (by rw [mapc_length]; omega) (cut_h (by omega))) (eB := el_slc (xs := [_]) rfl (Nat.le_refl 1) rfl)) ?_
      refine G (q_ncp ?_)
      refine G (q_fap0 ?_)
      refine G20 (fun _ k_ => q_st k_) ?_ (hH := by simp only [List.set_cons_zero, List.set_cons_succ, List.cons_append, List.nil_append]; exact congrArg (fun z => some z :: _) (rH_setx hs hr hh))
      refine gend ?_
      refine awp_seq ?_
      refine rln ?_
      refine Mv ?_
      refine Mv ?_
      refine As ?_
      refine As ?_
      refine G (q_as (s := sc (cn 0)) ?_)
      refine gend ?_
      rw [show op19 r h l fr = (p, (rg (fr.take 8)), 0, l ++ [(rg (fr.take 8))]) from by unfold op19; rw [if_neg (by rw [hf]; exact hc1), if_neg (by rw [hf]; exact hc2), if_neg hc4, if_neg (not_mem_all (fun j hj => y.ok j (by omega))), if_neg (fun h => of_decide_eq_false hb2 h.1), if_neg hc9, hop]]
      refine awp_le (sle_ren (al' := [(4, sc (.slc 3 0 p.length 1)), (5, sc (c64 (rg (fr.take 8)))), (6, sc (cn 0))]) [(0, true), (1, false), (5, true), (2, true)] rfl (piT rfl) ⟨congrArg (fun z => sc (.slc 3 0 z 1)) (by omega), rfl, rfl, trivial⟩ (Eq.symm (a := renL _ _ _) (rlT rfl (rH_cm.trans (congrArg (rH s r h n) (congrArg (fun z => Cell.slc 2 0 z 1) (show 0 + l.length + 1 = (l ++ [(rg (fr.take 8))]).length by simp)))) (rlF (rlT rfl ((congrArg (List.map _) app_one).trans sees_m) (rlT rfl sees_m rl0)))))) ?_
      refine  awp_ret ?_
      exact fx3 [0, 1, 2, 3] (hm0 := rfl) (hH := pl1 rfl (rH_cm.trans rfl) (plb rfl rfl (pl1 rfl sees_m (pl1 rfl (by first | exact sees_m | exact rfl) pl0)))) (hn := piB rfl)
    refine awp_skip ?_
    refine awp_seq ?_
    refine awp_block ?_
    refine awp_seq ?_
    refine rln ?_
    refine Mv ?_
    refine G (q_ncp ?_)
    refine G (q_fap0 ?_)
    refine G (q_ldp ?_ (hc := by first | exact rH_x hs hr hh | exact u64_at (by omega)))
    refine Mv ?_
    refine G (q_ixs1 ?_)
    refine G (q_ldp ?_ (hc := by first | exact rH_x hs hr hh | exact u64_at (by omega)))
    refine Mv ?_
    refine G (q_eql64 ?_)
    refine gend ?_
    refine cnd (fun hc11 => ?_) (fun hc11 => ?_)
    · refine awp_seq ?_
      refine rln ?_
      refine As ?_
      refine G (q_as (s := sc (c64 0)) ?_)
      refine G (q_as (s := sc (cn 10)) ?_)
      refine gend ?_
      rw [show op19 r h l fr = ([], 0, 10, l) from by unfold op19; rw [if_neg (by rw [hf]; exact hc1), if_neg (by rw [hf]; exact hc2), if_neg hc4, if_pos (mem_at (by omega) hc11)]]
      refine awp_le (sle_empty (al' := [(4, sc (.slc 2 0 0 1)), (5, sc (c64 0)), (6, sc (cn 10))]) 1 (Nat.le_refl _) ⟨.inr ⟨rfl, rfl⟩, .inl rfl, .inl rfl, trivial⟩) ?_
      refine awp_le (sle_ren (al' := [(4, sc (.slc 3 0 0 1)), (5, sc (c64 0)), (6, sc (cn 10))]) [(0, true), (1, false), (1, true), (2, true)] rfl (piT rfl) ⟨rfl, rfl, rfl, trivial⟩ (Eq.symm (a := renL _ _ _) (rlT rfl (rH_cm.trans rfl) (rlF (rlT rfl sees_m (rlT rfl rfl rl0)))))) ?_
      refine  awp_ret ?_
      exact fx3 [0, 1, 2, 3] (hm0 := rfl) (hH := pl1 rfl (rH_cm.trans rfl) (plb rfl rfl (pl1 rfl sees_m (pl1 rfl (by first | exact sees_m | exact rfl) pl0)))) (hn := piB rfl)
    refine awp_skip ?_
    refine rln ?_
    refine Mv ?_
    refine G (q_addn (y := 1) ?_)
    refine As ?_
    refine gend ?_
    exact ⟨⟨y.i + 1, by omega, fun j hj => by rcases Nat.lt_succ_iff_lt_or_eq.1 hj with h | rfl; exact y.ok j h; exact hc11⟩, by show l.length - (y.i + 1) < l.length - y.i; omega, sle_sub ⟨rfl, rfl, rfl, rfl, rfl, rfl, trivial⟩ rfl⟩
  refine awp_skip ?_
  refine awp_seq ?_
  refine awp_block ?_
  refine rln ?_
  refine Mv ?_
  refine G (q_mul64 (y := 256) ?_)
  refine Mv ?_
  refine Mv ?_
  refine G (q_ixo1 ?_)
  refine G (q_ldrd ?_)
  refine G (q_cv8_64 ?_)
  refine G (q_add64 ?_)
  refine As ?_
  refine gend ?_
  refine rln ?_
  refine Mv ?_
  refine G (q_addn (y := 1) ?_)
  refine As ?_
  refine gend ?_
  exact ⟨⟨x.1 + 1, by omega⟩, by show 8 - (x.1 + 1) < 8 - x.1; omega, sle_sub ⟨rfl, rfl, congrArg (fun z => sc (c64 z)) (rg_take fr x.1 (by omega)).symm, rfl, trivial⟩ rfl⟩
end Go.Proofs.Ytklcckngmmklhaa

/- What functions of the program do, walked over the abstract machine. -/
namespace Go.Proofs.Ytklcckngmmklhaa
open Go Go.Abs Go.Proofs Go.Proofs.Ytklcckngmmklhaa.Ch Go.Proofs.Ytklcckngmmklhaa.Po Go.Proofs.Ytklcckngmmklhaa.Ae Go.Proofs.Ytklcckngmmklhaa.Wd
set_option maxRecDepth 20000
abbrev chC (es er : UInt64) (p0 : Nat) (h1 : Bool) (p1 q0 : Nat) (h3 : Bool) (q1 : Nat) (sent : UInt64) (w : Nat) (g : UInt64) (any : Bool) (hash : List UInt8) : List Cell :=
  c64 es :: .ptr p0 0 :: kp h1 p1 :: c64 er :: .ptr q0 0 :: kp h3 q1 :: c64 sent :: .ptr w 0 :: c64 g :: .bool any :: u8s hash
theorem kp_cmm {has : Bool} {p q d : Nat} {m : CM} (h : m.fp p = some q) : cm m (d + 1) (kp has p) = kp has q := by
  cases has
  · rfl
  · simp [kp, cm, h]
theorem pt_cmm {p q d : Nat} {m : CM} (h : m.fp p = some q) : cm m (d + 1) (.ptr p 0) = .ptr q 0 := by simp [cm, h]
theorem chC_map {es er sent g : UInt64} {p0 p1 q0 q1 w p0' p1' q0' q1' w' d : Nat} {h1 h3 any : Bool} {hash : List UInt8} {m : CM} (a : m.fp p0 = some p0') (b : m.fp p1 = some p1') (c : m.fp q0 = some q0') (e : m.fp q1 = some q1') (f : m.fp w = some w') :
    (chC es er p0 h1 p1 q0 h3 q1 sent w g any hash).map (cm m (d + 1)) = chC es er p0' h1 p1' q0' h3 q1' sent w' g any hash := by
  show cm m (d + 1) (c64 es) :: cm m (d + 1) (.ptr p0 0) :: cm m (d + 1) (kp h1 p1) :: cm m (d + 1) (c64 er) :: cm m (d + 1) (.ptr q0 0) :: cm m (d + 1) (kp h3 q1) :: cm m (d + 1) (c64 sent) :: cm m (d + 1) (.ptr w 0) :: cm m (d + 1) (c64 g) :: cm m (d + 1) (.bool any) :: (u8s hash).map (cm m (d + 1)) = _
  rw [pt_cmm a, kp_cmm b, pt_cmm c, kp_cmm e, pt_cmm f, mapc_cm]; rfl
def cb (has : Bool) (p : Nat) : Option (List Cell) := bif has then some (cC (.ptr p 0) 0) else none
theorem cb_map {has : Bool} {p q d : Nat} {m : CM} (h : m.fp p = some q) : (cb has p).map (List.map (cm m (d + 1))) = cb has q := by
  cases has
  · rfl
  · show some [cm m (d + 1) (.ptr p 0), _, _] = _
    rw [pt_cmm h]; rfl
theorem ix64j {fr : List S} {i : Operand} {x : UInt64} {j : Nat} (h : ev fr i = sc (c64 x)) (hj : x.toNat = j) : Ix (ev fr i) j := hj ▸ ix64 h
def S0 (k : List UInt8) (e : Nat) : List UInt8 := kE k (e - e % 2)
def S1 (k : List UInt8) (e : Nat) : List UInt8 := kE k (if e % 2 = 1 then e else e - 1)
theorem S0_even {k : List UInt8} {e : Nat} (h : e % 2 = 0) : S0 k (e + 1) = S0 k e ∧ S1 k (e + 1) = anext (S0 k e) ∧ S0 k e = kE k e := by
  have h1 : (e + 1) % 2 = 1 := by omega
  simp [S0, S1, h, h1, kE]
theorem S1_odd {k : List UInt8} {e : Nat} (h : e % 2 = 1) : S1 k (e + 1) = S1 k e ∧ S0 k (e + 1) = anext (S1 k e) ∧ S1 k e = kE k e := by
  have h1 : (e + 1) % 2 = 0 := by omega
  simp [S0, S1, h, h1, kE]
theorem S0_len {k : List UInt8} (hk : k.length = 32) (e : Nat) : (S0 k e).length = 32 := kE_len hk _
theorem S1_len {k : List UInt8} (hk : k.length = 32) (e : Nat) : (S1 k e).length = 32 := kE_len hk _
theorem of_s0 (es er sent g : UInt64) (h1 h3 any : Bool) (hash A0 A1 B0 B1 : List UInt8) (wg wb : UInt64) (ep : UInt64) (hle : ep ≤ es) (hp : (ep % 2).toNat = 0) : Good Try.prog 28 [.c (.ptr 0 0), .c (c64 ep)] [some (chC es er 2 h1 4 6 h3 8 sent 1 g any hash), some (wcs true wg wb), some (cC (.ptr 3 0) 0), some (u8s A0), cb h1 5, kb h1 A1, some (cC (.ptr 7 0) 0), some (u8s B0), cb h3 9, kb h3 B1] (sc (.ptr 10 0)) [some (chC es er 2 h1 4 6 h3 8 sent 1 g any hash), some (wcs true wg wb), some (cC (.ptr 3 0) 0), some (u8s A0), cb h1 5, kb h1 A1, some (cC (.ptr 7 0) 0), some (u8s B0), cb h3 9, kb h3 B1, some (cC (.ptr 3 0) 0)] := by
  refine good_frm 43 Try.func28 rfl rfl rfl rfl rfl rfl ?_
  refine awp_seq ?_
  refine rln ?_
  refine As ?_
  refine gend ?_
  refine awp_seq ?_
  refine awp_seq ?_
  refine rln ?_
  refine Mv ?_
  refine Mv ?_
  refine G (q_ncp ?_)
  refine G (q_fap ?_)
  refine G (q_ldp ?_)
  refine G (q_leq64 ?_)
  refine gend ?_
  refine cndY (fun hc1 => ?_) ?_; rotate_left
  · exact hle
  refine awp_seq ?_
  refine rln ?_
  refine Mv ?_
  refine Mv ?_
  refine G (q_rem64 (y := 2) ?_ (hz := by decide))
  refine G (q_ncp ?_)
  refine G (q_fap ?_)
  refine G (q_ixp (j := 0) ?_ (hi := ix64j (et rfl) hp))
  refine G (q_ldp ?_)
  refine G2 (fun _ k_ => q_callv [2, 3] [some (cC (.ptr 1 0) 0), some (u8s A0)] [some (cC (.ptr 1 0) 0)] (copy_k A0 0) k_ (ha := (cac (et rfl) rfl ca0)) (e2 := (pl1 rfl rfl (pl1 rfl sees_m pl0))) (eL := (ml1 rfl (ml1 sees_m ml0))) (eM := (ml1 rfl ml0))) ?_
  refine As ?_
  refine gend ?_
  refine awp_ret ?_
  exact fx1 [0, 1, 2, 3, 4, 5, 6, 7, 8, 9, 10] (hm0 := rfl) (hH := (pl1 rfl (chC_map rfl rfl rfl rfl rfl) (pl1 rfl rfl (pl1 rfl rfl (pl1 rfl sees_m (plb rfl (cb_map rfl) (plb rfl kb_map (pl1 rfl rfl (pl1 rfl sees_m (plb rfl (cb_map rfl) (plb rfl kb_map (pl1 rfl rfl pl0)))))))))))) (hn := piB rfl)
theorem of_s1 (es er sent g : UInt64) (h3 any : Bool) (hash A0 A1 B0 B1 : List UInt8) (wg wb : UInt64) (ep : UInt64) (hle : ep ≤ es) (hp : (ep % 2).toNat = 1) : Good Try.prog 28 [.c (.ptr 0 0), .c (c64 ep)] [some (chC es er 2 true 4 6 h3 8 sent 1 g any hash), some (wcs true wg wb), some (cC (.ptr 3 0) 0), some (u8s A0), cb true 5, kb true A1, some (cC (.ptr 7 0) 0), some (u8s B0), cb h3 9, kb h3 B1] (sc (.ptr 10 0)) [some (chC es er 2 true 4 6 h3 8 sent 1 g any hash), some (wcs true wg wb), some (cC (.ptr 3 0) 0), some (u8s A0), cb true 5, kb true A1, some (cC (.ptr 7 0) 0), some (u8s B0), cb h3 9, kb h3 B1, some (cC (.ptr 5 0) 0)] := by
  refine good_frm 43 Try.func28 rfl rfl rfl rfl rfl rfl ?_
  refine awp_seq ?_
  refine rln ?_
  refine As ?_
  refine gend ?_
  refine awp_seq ?_
  refine awp_seq ?_
  refine rln ?_
  refine Mv ?_
  refine Mv ?_
  refine G (q_ncp ?_)
  refine G (q_fap ?_)
  refine G (q_ldp ?_)
  refine G (q_leq64 ?_)
  refine gend ?_
  refine cndY (fun hc1 => ?_) ?_; rotate_left
  · exact hle
  refine awp_seq ?_
  refine rln ?_
  refine Mv ?_
  refine Mv ?_
  refine G (q_rem64 (y := 2) ?_ (hz := by decide))
  refine G (q_ncp ?_)
  refine G (q_fap ?_)
  refine G (q_ixp (j := 1) ?_ (hi := ix64j (et rfl) hp))
  refine G (q_ldp ?_)
  refine G2 (fun _ k_ => q_callv [4, 5] [some (cC (.ptr 1 0) 0), some (u8s A1)] [some (cC (.ptr 1 0) 0)] (copy_k A1 0) k_ (ha := (cac (et rfl) rfl ca0)) (e2 := (pl1 rfl rfl (pl1 rfl sees_m pl0))) (eL := (ml1 rfl (ml1 sees_m ml0))) (eM := (ml1 rfl ml0))) ?_
  refine As ?_
  refine gend ?_
  refine awp_ret ?_
  exact fx1 [0, 1, 2, 3, 4, 5, 6, 7, 8, 9, 10] (hm0 := rfl) (hH := (pl1 rfl (chC_map rfl rfl rfl rfl rfl) (pl1 rfl rfl (pl1 rfl rfl (pl1 rfl sees_m (pl1 rfl rfl (pl1 rfl sees_m (pl1 rfl rfl (pl1 rfl sees_m (plb rfl (cb_map rfl) (plb rfl kb_map (pl1 rfl rfl pl0)))))))))))) (hn := piB rfl)
theorem of_r0 (es er sent g : UInt64) (h1 h3 any : Bool) (hash A0 A1 B0 B1 : List UInt8) (wg wb : UInt64) (ep : UInt64) (hle : ep ≤ er) (hp : (ep % 2).toNat = 0) : Good Try.prog 28 [.c (.ptr 0 3), .c (c64 ep)] [some (chC es er 2 h1 4 6 h3 8 sent 1 g any hash), some (wcs true wg wb), some (cC (.ptr 3 0) 0), some (u8s A0), cb h1 5, kb h1 A1, some (cC (.ptr 7 0) 0), some (u8s B0), cb h3 9, kb h3 B1] (sc (.ptr 10 0)) [some (chC es er 2 h1 4 6 h3 8 sent 1 g any hash), some (wcs true wg wb), some (cC (.ptr 3 0) 0), some (u8s A0), cb h1 5, kb h1 A1, some (cC (.ptr 7 0) 0), some (u8s B0), cb h3 9, kb h3 B1, some (cC (.ptr 7 0) 0)] := by
  refine good_frm 43 Try.func28 rfl rfl rfl rfl rfl rfl ?_
  refine awp_seq ?_
  refine rln ?_
  refine As ?_
  refine gend ?_
  refine awp_seq ?_
  refine awp_seq ?_
  refine rln ?_
  refine Mv ?_
  refine Mv ?_
  refine G (q_ncp ?_)
  refine G (q_fap ?_)
  refine G (q_ldp ?_)
  refine G (q_leq64 ?_)
  refine gend ?_
  refine cndY (fun hc1 => ?_) ?_; rotate_left
  · exact hle
  refine awp_seq ?_
  refine rln ?_
  refine Mv ?_
  refine Mv ?_
  refine G (q_rem64 (y := 2) ?_ (hz := by decide))
  refine G (q_ncp ?_)
  refine G (q_fap ?_)
  refine G (q_ixp (j := 0) ?_ (hi := ix64j (et rfl) hp))
  refine G (q_ldp ?_)
  refine G2 (fun _ k_ => q_callv [6, 7] [some (cC (.ptr 1 0) 0), some (u8s B0)] [some (cC (.ptr 1 0) 0)] (copy_k B0 0) k_ (ha := (cac (et rfl) rfl ca0)) (e2 := (pl1 rfl rfl (pl1 rfl sees_m pl0))) (eL := (ml1 rfl (ml1 sees_m ml0))) (eM := (ml1 rfl ml0))) ?_
  refine As ?_
  refine gend ?_
  refine awp_ret ?_
  exact fx1 [0, 1, 2, 3, 4, 5, 6, 7, 8, 9, 10] (hm0 := rfl) (hH := (pl1 rfl (chC_map rfl rfl rfl rfl rfl) (pl1 rfl rfl (pl1 rfl rfl (pl1 rfl sees_m (plb rfl (cb_map rfl) (plb rfl kb_map (pl1 rfl rfl (pl1 rfl sees_m (plb rfl (cb_map rfl) (plb rfl kb_map (pl1 rfl rfl pl0)))))))))))) (hn := piB rfl)
theorem of_r1 (es er sent g : UInt64) (h1 any : Bool) (hash A0 A1 B0 B1 : List UInt8) (wg wb : UInt64) (ep : UInt64) (hle : ep ≤ er) (hp : (ep % 2).toNat = 1) : Good Try.prog 28 [.c (.ptr 0 3), .c (c64 ep)] [some (chC es er 2 h1 4 6 true 8 sent 1 g any hash), some (wcs true wg wb), some (cC (.ptr 3 0) 0), some (u8s A0), cb h1 5, kb h1 A1, some (cC (.ptr 7 0) 0), some (u8s B0), cb true 9, kb true B1] (sc (.ptr 10 0)) [some (chC es er 2 h1 4 6 true 8 sent 1 g any hash), some (wcs true wg wb), some (cC (.ptr 3 0) 0), some (u8s A0), cb h1 5, kb h1 A1, some (cC (.ptr 7 0) 0), some (u8s B0), cb true 9, kb true B1, some (cC (.ptr 9 0) 0)] := by
  refine good_frm 43 Try.func28 rfl rfl rfl rfl rfl rfl ?_
  refine awp_seq ?_
  refine rln ?_
  refine As ?_
  refine gend ?_
  refine awp_seq ?_
  refine awp_seq ?_
  refine rln ?_
  refine Mv ?_
  refine Mv ?_
  refine G (q_ncp ?_)
  refine G (q_fap ?_)
  refine G (q_ldp ?_)
  refine G (q_leq64 ?_)
  refine gend ?_
  refine cndY (fun hc1 => ?_) ?_; rotate_left
  · exact hle
  refine awp_seq ?_
  refine rln ?_
  refine Mv ?_
  refine Mv ?_
  refine G (q_rem64 (y := 2) ?_ (hz := by decide))
  refine G (q_ncp ?_)
  refine G (q_fap ?_)
  refine G (q_ixp (j := 1) ?_ (hi := ix64j (et rfl) hp))
  refine G (q_ldp ?_)
  refine G2 (fun _ k_ => q_callv [8, 9] [some (cC (.ptr 1 0) 0), some (u8s B1)] [some (cC (.ptr 1 0) 0)] (copy_k B1 0) k_ (ha := (cac (et rfl) rfl ca0)) (e2 := (pl1 rfl rfl (pl1 rfl sees_m pl0))) (eL := (ml1 rfl (ml1 sees_m ml0))) (eM := (ml1 rfl ml0))) ?_
  refine As ?_
  refine gend ?_
  refine awp_ret ?_
  exact fx1 [0, 1, 2, 3, 4, 5, 6, 7, 8, 9, 10] (hm0 := rfl) (hH := (pl1 rfl (chC_map rfl rfl rfl rfl rfl) (pl1 rfl rfl (pl1 rfl rfl (pl1 rfl sees_m (plb rfl (cb_map rfl) (plb rfl kb_map (pl1 rfl rfl (pl1 rfl sees_m (pl1 rfl rfl (pl1 rfl sees_m (pl1 rfl rfl pl0)))))))))))) (hn := piB rfl)
end Go.Proofs.Ytklcckngmmklhaa

/- What functions of the program do, walked over the abstract machine. -/
namespace Go.Proofs.Ytklcckngmmklhaa
open Go Go.Abs Go.Proofs Go.Proofs.Ytklcckngmmklhaa.Ch Go.Proofs.Ytklcckngmmklhaa.Po Go.Proofs.Ytklcckngmmklhaa.Ae Go.Proofs.Ytklcckngmmklhaa.Wd
set_option maxRecDepth 20000
def kq : Nat → Nat → Nat
  | 0, a => a
  | _ + 1, _ => 11
def kx : Nat → List UInt8 → Option (List Cell)
  | 0, _ => none
  | i + 1, K => some (u8s (kE K (i + 1)))
theorem kq_z {i a : Nat} (h : i = 0) : kq i a = a := by subst h; rfl
theorem kq_p {i a : Nat} (h : 0 < i) : kq i a = 11 := by cases i; cases h; rfl
theorem kx_z {i : Nat} {K : List UInt8} (h : i = 0) : kx i K = none := by subst h; rfl
theorem kx_p {i : Nat} {K : List UInt8} (h : 0 < i) : kx i K = some (u8s (kE K i)) := by cases i; cases h; rfl
theorem sub_pos {a b : UInt64} (h : ¬ a ≤ b) : 0 < (a - b).toNat := by
  rw [UInt64.le_iff_toNat_le] at h
  rw [UInt64.toNat_sub_of_le _ _ (UInt64.le_iff_toNat_le.2 (by omega))]; omega
def mx (a b : UInt64) : UInt64 := if a < b then b else a
structure MS (a b : UInt64) where
  e : UInt64
  h1 : a.toNat ≤ e.toNat
  h2 : e.toNat ≤ (mx a b).toNat
theorem mx_ge (a b : UInt64) : a.toNat ≤ (mx a b).toNat := by
  unfold mx; split
  · rename_i h; rw [UInt64.lt_iff_toNat_lt] at h; omega
  · exact Nat.le_refl _
theorem MS.done {a b : UInt64} (x : MS a b) (h : ¬ x.e < b) : x.e = mx a b := by
  apply UInt64.toNat_inj.1
  have h1 := x.h1; have h2 := x.h2
  rw [UInt64.lt_iff_toNat_lt] at h
  unfold mx at h2 ⊢
  split
  · rename_i hh; rw [if_pos hh] at h2; rw [UInt64.lt_iff_toNat_lt] at hh; omega
  · rename_i hh; rw [if_neg hh] at h2; omega
theorem succ_nat {e b : UInt64} (h : e < b) : (e + 1).toNat = e.toNat + 1 := by
  have := b.toNat_lt
  rw [UInt64.lt_iff_toNat_lt] at h
  rw [UInt64.toNat_add, show (1 : UInt64).toNat = 1 from rfl, Nat.mod_eq_of_lt (by omega)]
theorem MS.next {a b : UInt64} (x : MS a b) (h : x.e < b) : a.toNat ≤ (x.e + 1).toNat ∧ (x.e + 1).toNat ≤ (mx a b).toNat := by
  have h1 := x.h1; have h2 := x.h2
  rw [succ_nat h]
  rw [UInt64.lt_iff_toNat_lt] at h
  refine ⟨by omega, ?_⟩
  unfold mx
  split
  · omega
  · rename_i hh; rw [UInt64.lt_iff_toNat_lt] at hh; omega
theorem mod2_nat (e : UInt64) : (e % 2).toNat = e.toNat % 2 := by rw [UInt64.toNat_mod]; rfl
theorem ne_zero_odd {e : UInt64} (h : e.toNat % 2 = 1) : decide (e ≠ 0) = true := by
  refine decide_eq_true (fun hh => ?_)
  rw [hh] at h; simp at h
theorem ne_zero_succ {e b : UInt64} (h : e < b) : decide (e + 1 ≠ 0) = true := by
  refine decide_eq_true (fun hh => ?_)
  have := succ_nat h
  rw [hh] at this; simp at this
set_option maxHeartbeats 1600000 in
theorem of_rf0 (es er sent g : UInt64) (h1 h3 any : Bool) (hash A0 A1 B0 B1 : List UInt8) (wg wb : UInt64) (ep : UInt64) (hle : ¬ ep ≤ er) (hp : (er % 2).toNat = 0) (hK : B0.length = 32) : Good Try.prog 28 [.c (.ptr 0 3), .c (c64 ep)] [some (chC es er 2 h1 4 6 h3 8 sent 1 g any hash), some (wcs true wg wb), some (cC (.ptr 3 0) 0), some (u8s A0), cb h1 5, kb h1 A1, some (cC (.ptr 7 0) 0), some (u8s B0), cb h3 9, kb h3 B1] (sc (.ptr 10 0)) [some (chC es er 2 h1 4 6 h3 8 sent 1 g any hash), some (wcs true wg wb), some (cC (.ptr 3 0) 0), some (u8s A0), cb h1 5, kb h1 A1, some (cC (.ptr 7 0) 0), some (u8s B0), cb h3 9, kb h3 B1, some (cC (.ptr 11 0) 0), some (u8s (kE B0 (ep - er).toNat))] := by
  refine good_frm 43 Try.func28 rfl rfl rfl rfl rfl rfl ?_
  refine awp_seq ?_
  refine rln ?_
  refine As ?_
  refine gend ?_
  refine awp_seq ?_
  refine awp_seq ?_
  refine rln ?_
  refine Mv ?_
  refine Mv ?_
  refine G (q_ncp ?_)
  refine G (q_fap ?_)
  refine G (q_ldp ?_)
  refine G (q_leq64 ?_)
  refine gend ?_
  refine cndN (fun hc1 => ?_) ?_; rotate_left
  · exact hle
  refine awp_skip ?_
  refine awp_seq ?_
  refine rdln [10] [0, 0, 0, 0, 0, 0, 0, 0, 0, 0, 0, 1] [0, 0, 0, 0, 0, 0, 0, 0, 0, 0, 1, 1] ?_
  refine Dp (fun _ => q_mv (s := .v (.c _)) ⟨rfl, rfl⟩) ?_
  refine Dp (fun _ => q_mv (s := .v (.c _)) ⟨rfl, rfl⟩) ?_
  refine Dp (fun _ => q_ncp ⟨rfl, rfl⟩) ?_
  refine Dp (fun _ => q_fap ⟨rfl, rfl⟩) ?_
  refine DLp ?_
  refine Dp (fun _ => q_rem64 (y := 2) ⟨rfl, rfl⟩ (hz := by decide)) ?_
  refine Dp (fun _ => q_ncp ⟨rfl, rfl⟩) ?_
  refine Dp (fun _ => q_fap ⟨rfl, rfl⟩) ?_
  refine Dp (fun _ => q_ixp (j := 0) ⟨rfl, rfl⟩ (hi := ix64j (et rfl) hp)) ?_
  refine DLp ?_
  refine De2 (fun _ k_ => q_callv [6, 7] [some (cC (.ptr 1 0) 0), some (u8s B0)] [some (cC (.ptr 1 0) 0)] (copy_k B0 0) k_ (ha := (cac (et rfl) rfl ca0)) (e2 := (pl1 rfl rfl (pl1 rfl sees_m pl0))) (eL := (ml1 rfl (ml1 sees_m ml0))) (eM := (ml1 rfl ml0))) ?_
  refine Dp (fun _ => q_as (s := .v (.c _)) ⟨rfl, rfl⟩) ?_
  refine dend ?_
  refine awp_seq ?_
  refine awp_seq ?_
  refine rln ?_
  refine Mv ?_
  refine Mv ?_
  refine G (q_ncp ?_)
  refine G (q_fap ?_)
  refine G (q_ldp ?_)
  refine G (q_sub64 ?_)
  refine G (q_mv (s := sc (c64 0)) ?_)
  refine gend ?_
  refine awp_block ?_
  refine awp_loop (fun x : {i : Nat // i ≤ (ep - er).toNat} => ⟨frm 43 [(5, sc (.ptr 10 0)), (36, sc (c64 (ep - er))), (37, sc (c64 (UInt64.ofNat x.1)))], [some (chC es er 2 h1 4 6 h3 8 sent 1 g any hash), some (wcs true wg wb), some (cC (.ptr 3 0) 0), some (u8s A0), cb h1 5, kb h1 A1, some (cC (.ptr 7 0) 0), some (u8s B0), cb h3 9, kb h3 B1, some (cC (.ptr (kq x.1 7) 0) 0), kx x.1 B0]⟩) (fun x => (ep - er).toNat - x.1) ⟨0, Nat.zero_le _⟩ (sle_ren [(0, true), (1, true), (2, true), (3, true), (4, true), (5, true), (6, true), (7, true), (8, true), (9, true), (10, true), (10, false)] rfl (piT rfl) ⟨rfl, rfl, rfl, trivial⟩ (Eq.symm (a := renL _ _ _) (rlT rfl (chC_map rfl rfl rfl rfl rfl) (rlT rfl rfl (rlT rfl rfl (rlT rfl sees_m (rlB rfl (cb_map rfl) (rlB rfl kb_map (rlT rfl rfl (rlT rfl sees_m (rlB rfl (cb_map rfl) (rlB rfl kb_map (rlT rfl rfl (rlF rl0)))))))))))))) fun x => ?_
  have hlt := ofNat_lt (e := ep - er) x.2
  refine awp_seq ?_
  refine rln ?_
  refine G (q_lss64 ?_)
  refine gend ?_
  refine awp_seq ?_
  refine cnd (fun hc2 => ?_) (fun hc2 => ?_); rotate_left
  · refine awp_exit ?_
    rw [show x.1 = (ep - er).toNat from (by have := x.2; have := mt hlt.2 hc2; omega)]
    refine reheap [(5, sc (.ptr 10 0))] [some (chC es er 2 h1 4 6 h3 8 sent 1 g any hash), some (wcs true wg wb), some (cC (.ptr 3 0) 0), some (u8s A0), cb h1 5, kb h1 A1, some (cC (.ptr 7 0) 0), some (u8s B0), cb h3 9, kb h3 B1, some (cC (.ptr 11 0) 0), some (u8s (kE B0 (ep - er).toNat))] ?_ ⟨rfl, trivial⟩ (by rw [kq_p (sub_pos hle), kx_p (sub_pos hle)])
    refine awp_seq ?_
    refine rln ?_
    refine Mv ?_
    refine As ?_
    refine gend ?_
    refine awp_ret ?_
    exact fx1 [0, 1, 2, 3, 4, 5, 6, 7, 8, 9, 10, 11] (hm0 := rfl) (hH := (pl1 rfl (chC_map rfl rfl rfl rfl rfl) (pl1 rfl rfl (pl1 rfl rfl (pl1 rfl sees_m (plb rfl (cb_map rfl) (plb rfl kb_map (pl1 rfl rfl (pl1 rfl sees_m (plb rfl (cb_map rfl) (plb rfl kb_map (pl1 rfl rfl (pl1 rfl sees_m pl0))))))))))))) (hn := piB rfl)
  refine awp_skip ?_
  rcases Nat.eq_zero_or_pos x.1 with h0 | h0
  · have hKl := hK
    refine reheap [(5, sc (.ptr 10 0)), (36, sc (c64 (ep - er))), (37, sc (c64 (UInt64.ofNat x.1)))] [some (chC es er 2 h1 4 6 h3 8 sent 1 g any hash), some (wcs true wg wb), some (cC (.ptr 3 0) 0), some (u8s A0), cb h1 5, kb h1 A1, some (cC (.ptr 7 0) 0), some (u8s B0), cb h3 9, kb h3 B1, some (cC (.ptr 7 0) 0), none] ?_ ⟨rfl, rfl, rfl, trivial⟩ (by rw [kq_z h0, kx_z h0])
    refine awp_seq ?_
    refine awp_block ?_
    refine rln ?_
    refine Mv ?_
    refine G2 (fun _ k_ => q_callv [10, 7] [some (cC (.ptr 2 0) 0), some (u8s B0)] [some (u8s (anext B0))] (rekey_k B0 0 hKl) k_ (ha := (cac (et rfl) rfl ca0)) (e2 := (pl1 rfl rfl (pl1 rfl sees_m pl0))) (eL := (ml1 rfl (ml1 sees_m ml0))) (eM := (ml1 sees_m ml0))) ?_
    refine gend ?_
    refine rln ?_
    refine G (q_add64 (y := 1) ?_)
    refine Mv ?_
    refine gend ?_
    exact ⟨⟨x.1 + 1, hlt.1 hc2⟩, by show (ep - er).toNat - (x.1 + 1) < (ep - er).toNat - x.1; have := hlt.1 hc2; omega, sle_ren [(0, true), (1, true), (2, true), (3, true), (4, true), (5, true), (6, true), (7, true), (8, true), (9, true), (10, true), (12, true)] rfl (piT rfl) ⟨rfl, rfl, congrArg (fun z => sc (c64 z)) (ofNat_succ x.1), trivial⟩ (Eq.symm (a := renL _ _ _) (rlT rfl (chC_map rfl rfl rfl rfl rfl) (rlT rfl rfl (rlT rfl rfl (rlT rfl sees_m (rlB rfl (cb_map rfl) (rlB rfl kb_map (rlT rfl rfl (rlT rfl sees_m (rlB rfl (cb_map rfl) (rlB rfl kb_map (rlT rfl rfl (rlT rfl (sees_m.trans (by rw [h0]; rfl)) rl0)))))))))))))⟩
  · have hKl := kE_len hK x.1
    refine reheap [(5, sc (.ptr 10 0)), (36, sc (c64 (ep - er))), (37, sc (c64 (UInt64.ofNat x.1)))] [some (chC es er 2 h1 4 6 h3 8 sent 1 g any hash), some (wcs true wg wb), some (cC (.ptr 3 0) 0), some (u8s A0), cb h1 5, kb h1 A1, some (cC (.ptr 7 0) 0), some (u8s B0), cb h3 9, kb h3 B1, some (cC (.ptr 11 0) 0), some (u8s (kE B0 x.1))] ?_ ⟨rfl, rfl, rfl, trivial⟩ (by rw [kq_p h0, kx_p h0])
    refine awp_seq ?_
    refine awp_block ?_
    refine rln ?_
    refine Mv ?_
    refine G2 (fun _ k_ => q_callv [10, 11] [some (cC (.ptr 2 0) 0), some (u8s (kE B0 x.1))] [some (u8s (anext (kE B0 x.1)))] (rekey_k (kE B0 x.1) 0 hKl) k_ (ha := (cac (et rfl) rfl ca0)) (e2 := (pl1 rfl rfl (pl1 rfl sees_m pl0))) (eL := (ml1 rfl (ml1 sees_m ml0))) (eM := (ml1 sees_m ml0))) ?_
    refine gend ?_
    refine rln ?_
    refine G (q_add64 (y := 1) ?_)
    refine Mv ?_
    refine gend ?_
    exact ⟨⟨x.1 + 1, hlt.1 hc2⟩, by show (ep - er).toNat - (x.1 + 1) < (ep - er).toNat - x.1; have := hlt.1 hc2; omega, sle_ren [(0, true), (1, true), (2, true), (3, true), (4, true), (5, true), (6, true), (7, true), (8, true), (9, true), (10, true), (12, true)] rfl (piT rfl) ⟨rfl, rfl, congrArg (fun z => sc (c64 z)) (ofNat_succ x.1), trivial⟩ (Eq.symm (a := renL _ _ _) (rlT rfl (chC_map rfl rfl rfl rfl rfl) (rlT rfl rfl (rlT rfl rfl (rlT rfl sees_m (rlB rfl (cb_map rfl) (rlB rfl kb_map (rlT rfl rfl (rlT rfl sees_m (rlB rfl (cb_map rfl) (rlB rfl kb_map (rlT rfl rfl (rlT rfl sees_m rl0)))))))))))))⟩
set_option maxHeartbeats 1600000 in
theorem of_rf1 (es er sent g : UInt64) (h1 any : Bool) (hash A0 A1 B0 B1 : List UInt8) (wg wb : UInt64) (ep : UInt64) (hle : ¬ ep ≤ er) (hp : (er % 2).toNat = 1) (hK : B1.length = 32) : Good Try.prog 28 [.c (.ptr 0 3), .c (c64 ep)] [some (chC es er 2 h1 4 6 true 8 sent 1 g any hash), some (wcs true wg wb), some (cC (.ptr 3 0) 0), some (u8s A0), cb h1 5, kb h1 A1, some (cC (.ptr 7 0) 0), some (u8s B0), cb true 9, kb true B1] (sc (.ptr 10 0)) [some (chC es er 2 h1 4 6 true 8 sent 1 g any hash), some (wcs true wg wb), some (cC (.ptr 3 0) 0), some (u8s A0), cb h1 5, kb h1 A1, some (cC (.ptr 7 0) 0), some (u8s B0), cb true 9, kb true B1, some (cC (.ptr 11 0) 0), some (u8s (kE B1 (ep - er).toNat))] := by
  refine good_frm 43 Try.func28 rfl rfl rfl rfl rfl rfl ?_
  refine awp_seq ?_
  refine rln ?_
  refine As ?_
  refine gend ?_
  refine awp_seq ?_
  refine awp_seq ?_
  refine rln ?_
  refine Mv ?_
  refine Mv ?_
  refine G (q_ncp ?_)
  refine G (q_fap ?_)
  refine G (q_ldp ?_)
  refine G (q_leq64 ?_)
  refine gend ?_
  refine cndN (fun hc1 => ?_) ?_; rotate_left
  · exact hle
  refine awp_skip ?_
  refine awp_seq ?_
  refine rdln [10] [0, 0, 0, 0, 0, 0, 0, 0, 0, 0, 0, 1] [0, 0, 0, 0, 0, 0, 0, 0, 0, 0, 1, 1] ?_
  refine Dp (fun _ => q_mv (s := .v (.c _)) ⟨rfl, rfl⟩) ?_
  refine Dp (fun _ => q_mv (s := .v (.c _)) ⟨rfl, rfl⟩) ?_
  refine Dp (fun _ => q_ncp ⟨rfl, rfl⟩) ?_
  refine Dp (fun _ => q_fap ⟨rfl, rfl⟩) ?_
  refine DLp ?_
  refine Dp (fun _ => q_rem64 (y := 2) ⟨rfl, rfl⟩ (hz := by decide)) ?_
  refine Dp (fun _ => q_ncp ⟨rfl, rfl⟩) ?_
  refine Dp (fun _ => q_fap ⟨rfl, rfl⟩) ?_
  refine Dp (fun _ => q_ixp (j := 1) ⟨rfl, rfl⟩ (hi := ix64j (et rfl) hp)) ?_
  refine DLp ?_
  refine De2 (fun _ k_ => q_callv [8, 9] [some (cC (.ptr 1 0) 0), some (u8s B1)] [some (cC (.ptr 1 0) 0)] (copy_k B1 0) k_ (ha := (cac (et rfl) rfl ca0)) (e2 := (pl1 rfl rfl (pl1 rfl sees_m pl0))) (eL := (ml1 rfl (ml1 sees_m ml0))) (eM := (ml1 rfl ml0))) ?_
  refine Dp (fun _ => q_as (s := .v (.c _)) ⟨rfl, rfl⟩) ?_
  refine dend ?_
  refine awp_seq ?_
  refine awp_seq ?_
  refine rln ?_
  refine Mv ?_
  refine Mv ?_
  refine G (q_ncp ?_)
  refine G (q_fap ?_)
  refine G (q_ldp ?_)
  refine G (q_sub64 ?_)
  refine G (q_mv (s := sc (c64 0)) ?_)
  refine gend ?_
  refine awp_block ?_
  refine awp_loop (fun x : {i : Nat // i ≤ (ep - er).toNat} => ⟨frm 43 [(5, sc (.ptr 10 0)), (36, sc (c64 (ep - er))), (37, sc (c64 (UInt64.ofNat x.1)))], [some (chC es er 2 h1 4 6 true 8 sent 1 g any hash), some (wcs true wg wb), some (cC (.ptr 3 0) 0), some (u8s A0), cb h1 5, kb h1 A1, some (cC (.ptr 7 0) 0), some (u8s B0), cb true 9, kb true B1, some (cC (.ptr (kq x.1 9) 0) 0), kx x.1 B1]⟩) (fun x => (ep - er).toNat - x.1) ⟨0, Nat.zero_le _⟩ (sle_ren [(0, true), (1, true), (2, true), (3, true), (4, true), (5, true), (6, true), (7, true), (8, true), (9, true), (10, true), (10, false)] rfl (piT rfl) ⟨rfl, rfl, rfl, trivial⟩ (Eq.symm (a := renL _ _ _) (rlT rfl (chC_map rfl rfl rfl rfl rfl) (rlT rfl rfl (rlT rfl rfl (rlT rfl sees_m (rlB rfl (cb_map rfl) (rlB rfl kb_map (rlT rfl rfl (rlT rfl sees_m (rlT rfl rfl (rlT rfl sees_m (rlT rfl rfl (rlF rl0)))))))))))))) fun x => ?_
  have hlt := ofNat_lt (e := ep - er) x.2
  refine awp_seq ?_
  refine rln ?_
  refine G (q_lss64 ?_)
  refine gend ?_
  refine awp_seq ?_
  refine cnd (fun hc2 => ?_) (fun hc2 => ?_); rotate_left
  · refine awp_exit ?_
    rw [show x.1 = (ep - er).toNat from (by have := x.2; have := mt hlt.2 hc2; omega)]
    refine reheap [(5, sc (.ptr 10 0))] [some (chC es er 2 h1 4 6 true 8 sent 1 g any hash), some (wcs true wg wb), some (cC (.ptr 3 0) 0), some (u8s A0), cb h1 5, kb h1 A1, some (cC (.ptr 7 0) 0), some (u8s B0), cb true 9, kb true B1, some (cC (.ptr 11 0) 0), some (u8s (kE B1 (ep - er).toNat))] ?_ ⟨rfl, trivial⟩ (by rw [kq_p (sub_pos hle), kx_p (sub_pos hle)])
    refine awp_seq ?_
    refine rln ?_
    refine Mv ?_
    refine As ?_
    refine gend ?_
    refine awp_ret ?_
    exact fx1 [0, 1, 2, 3, 4, 5, 6, 7, 8, 9, 10, 11] (hm0 := rfl) (hH := (pl1 rfl (chC_map rfl rfl rfl rfl rfl) (pl1 rfl rfl (pl1 rfl rfl (pl1 rfl sees_m (plb rfl (cb_map rfl) (plb rfl kb_map (pl1 rfl rfl (pl1 rfl sees_m (pl1 rfl rfl (pl1 rfl sees_m (pl1 rfl rfl (pl1 rfl sees_m pl0))))))))))))) (hn := piB rfl)
  refine awp_skip ?_
  rcases Nat.eq_zero_or_pos x.1 with h0 | h0
  · have hKl := hK
    refine reheap [(5, sc (.ptr 10 0)), (36, sc (c64 (ep - er))), (37, sc (c64 (UInt64.ofNat x.1)))] [some (chC es er 2 h1 4 6 true 8 sent 1 g any hash), some (wcs true wg wb), some (cC (.ptr 3 0) 0), some (u8s A0), cb h1 5, kb h1 A1, some (cC (.ptr 7 0) 0), some (u8s B0), cb true 9, kb true B1, some (cC (.ptr 9 0) 0), none] ?_ ⟨rfl, rfl, rfl, trivial⟩ (by rw [kq_z h0, kx_z h0])
    refine awp_seq ?_
    refine awp_block ?_
    refine rln ?_
    refine Mv ?_
    refine G2 (fun _ k_ => q_callv [10, 9] [some (cC (.ptr 2 0) 0), some (u8s B1)] [some (u8s (anext B1))] (rekey_k B1 0 hKl) k_ (ha := (cac (et rfl) rfl ca0)) (e2 := (pl1 rfl rfl (pl1 rfl sees_m pl0))) (eL := (ml1 rfl (ml1 sees_m ml0))) (eM := (ml1 sees_m ml0))) ?_
    refine gend ?_
    refine rln ?_
    refine G (q_add64 (y := 1) ?_)
    refine Mv ?_
    refine gend ?_
    exact ⟨⟨x.1 + 1, hlt.1 hc2⟩, by show (ep - er).toNat - (x.1 + 1) < (ep - er).toNat - x.1; have := hlt.1 hc2; omega, sle_ren [(0, true), (1, true), (2, true), (3, true), (4, true), (5, true), (6, true), (7, true), (8, true), (9, true), (10, true), (12, true)] rfl (piT rfl) ⟨rfl, rfl, congrArg (fun z => sc (c64 z)) (ofNat_succ x.1), trivial⟩ (Eq.symm (a := renL _ _ _) (rlT rfl (chC_map rfl rfl rfl rfl rfl) (rlT rfl rfl (rlT rfl rfl (rlT rfl sees_m (rlB rfl (cb_map rfl) (rlB rfl kb_map (rlT rfl rfl (rlT rfl sees_m (rlT rfl rfl (rlT rfl sees_m (rlT rfl rfl (rlT rfl (sees_m.trans (by rw [h0]; rfl)) rl0)))))))))))))⟩
  · have hKl := kE_len hK x.1
    refine reheap [(5, sc (.ptr 10 0)), (36, sc (c64 (ep - er))), (37, sc (c64 (UInt64.ofNat x.1)))] [some (chC es er 2 h1 4 6 true 8 sent 1 g any hash), some (wcs true wg wb), some (cC (.ptr 3 0) 0), some (u8s A0), cb h1 5, kb h1 A1, some (cC (.ptr 7 0) 0), some (u8s B0), cb true 9, kb true B1, some (cC (.ptr 11 0) 0), some (u8s (kE B1 x.1))] ?_ ⟨rfl, rfl, rfl, trivial⟩ (by rw [kq_p h0, kx_p h0])
    refine awp_seq ?_
    refine awp_block ?_
    refine rln ?_
    refine Mv ?_
    refine G2 (fun _ k_ => q_callv [10, 11] [some (cC (.ptr 2 0) 0), some (u8s (kE B1 x.1))] [some (u8s (anext (kE B1 x.1)))] (rekey_k (kE B1 x.1) 0 hKl) k_ (ha := (cac (et rfl) rfl ca0)) (e2 := (pl1 rfl rfl (pl1 rfl sees_m pl0))) (eL := (ml1 rfl (ml1 sees_m ml0))) (eM := (ml1 sees_m ml0))) ?_
    refine gend ?_
    refine rln ?_
    refine G (q_add64 (y := 1) ?_)
    refine Mv ?_
    refine gend ?_
    exact ⟨⟨x.1 + 1, hlt.1 hc2⟩, by show (ep - er).toNat - (x.1 + 1) < (ep - er).toNat - x.1; have := hlt.1 hc2; omega, sle_ren [(0, true), (1, true), (2, true), (3, true), (4, true), (5, true), (6, true), (7, true), (8, true), (9, true), (10, true), (12, true)] rfl (piT rfl) ⟨rfl, rfl, congrArg (fun z => sc (c64 z)) (ofNat_succ x.1), trivial⟩ (Eq.symm (a := renL _ _ _) (rlT rfl (chC_map rfl rfl rfl rfl rfl) (rlT rfl rfl (rlT rfl rfl (rlT rfl sees_m (rlB rfl (cb_map rfl) (rlB rfl kb_map (rlT rfl rfl (rlT rfl sees_m (rlT rfl rfl (rlT rfl sees_m (rlT rfl rfl (rlT rfl sees_m rl0)))))))))))))⟩
end Go.Proofs.Ytklcckngmmklhaa

/- What functions of the program do, walked over the abstract machine. -/
namespace Go.Proofs.Ytklcckngmmklhaa
open Go Go.Abs Go.Proofs Go.Proofs.Ytklcckngmmklhaa.Ch Go.Proofs.Ytklcckngmmklhaa.Po Go.Proofs.Ytklcckngmmklhaa.Ae Go.Proofs.Ytklcckngmmklhaa.Wd
set_option maxRecDepth 20000
set_option maxHeartbeats 1600000 in
theorem move_s (es er sent g : UInt64) (h3 any : Bool) (hash k B0 B1 : List UInt8) (wg wb : UInt64) (ep : UInt64) (hk : k.length = 32) : Good Try.prog 27 [.c (.ptr 0 0), .c (c64 ep)] [some (chC es er 2 (decide (es ≠ 0)) 4 6 h3 8 sent 1 g any hash), some (wcs true wg wb), some (cC (.ptr 3 0) 0), some (u8s (S0 k es.toNat)), cb (decide (es ≠ 0)) 5, kb (decide (es ≠ 0)) (S1 k es.toNat), some (cC (.ptr 7 0) 0), some (u8s B0), cb h3 9, kb h3 B1] (.t []) [some (chC (mx es ep) er 10 (decide ((mx es ep) ≠ 0)) 12 6 h3 8 sent 1 g any hash), some (wcs true wg wb), none, none, none, none, some (cC (.ptr 7 0) 0), some (u8s B0), cb h3 9, kb h3 B1, some (cC (.ptr 11 0) 0), some (u8s (S0 k (mx es ep).toNat)), cb (decide ((mx es ep) ≠ 0)) 13, kb (decide ((mx es ep) ≠ 0)) (S1 k (mx es ep).toNat)] := by
  refine good_frm 41 Try.func27 rfl rfl rfl rfl rfl rfl ?_
  refine awp_block ?_
  refine awp_loop (fun x : MS es ep => ⟨frm 41 [(0, sc (.ptr 0 0)), (1, sc (c64 ep))], [some (chC x.e er 10 (decide (x.e ≠ 0)) 12 6 h3 8 sent 1 g any hash), some (wcs true wg wb), none, none, none, none, some (cC (.ptr 7 0) 0), some (u8s B0), cb h3 9, kb h3 B1, some (cC (.ptr 11 0) 0), some (u8s (S0 k x.e.toNat)), cb (decide (x.e ≠ 0)) 13, kb (decide (x.e ≠ 0)) (S1 k x.e.toNat)]⟩) (fun x => ep.toNat - x.e.toNat) ⟨es, Nat.le_refl _, mx_ge _ _⟩ (sle_ren [(0, true), (1, true), (2, false), (3, false), (4, false), (5, false), (6, true), (7, true), (8, true), (9, true), (2, true), (3, true), (4, true), (5, true)] rfl (piT rfl) ⟨rfl, rfl, trivial⟩ (Eq.symm (a := renL _ _ _) (rlT rfl (chC_map rfl rfl rfl rfl rfl) (rlT rfl rfl (rlF (rlF (rlF (rlF (rlT rfl rfl (rlT rfl sees_m (rlB rfl (cb_map rfl) (rlB rfl kb_map (rlT rfl rfl (rlT rfl sees_m (rlB rfl (cb_map rfl) (rlB rfl kb_map rl0)))))))))))))))) fun x => ?_
  have hA := S0_len hk x.e.toNat
  have hB := S1_len hk x.e.toNat
  refine awp_seq ?_
  refine awp_seq ?_
  refine rln ?_
  refine Mv ?_
  refine G (q_ncp ?_)
  refine G (q_fap ?_)
  refine G (q_ldp ?_)
  refine Mv ?_
  refine G (q_lss64 ?_)
  refine gend ?_
  refine cnd (fun hc1 => ?_) (fun hc1 => ?_); rotate_left
  · refine awp_exit ?_
    rw [x.done hc1]
    exact fx0 [0, 1, 2, 3, 4, 5, 6, 7, 8, 9, 10, 11, 12, 13] (hH := (pl1 rfl (chC_map rfl rfl rfl rfl rfl) (pl1 rfl rfl (plb rfl rfl (plb rfl rfl (plb rfl rfl (plb rfl rfl (pl1 rfl rfl (pl1 rfl sees_m (plb rfl (cb_map rfl) (plb rfl kb_map (pl1 rfl rfl (pl1 rfl sees_m (plb rfl (cb_map rfl) (plb rfl kb_map pl0))))))))))))))) (hn := piB rfl)
  refine awp_skip ?_
  rcases Nat.mod_two_eq_zero_or_one x.e.toNat with he | he
  · have hv := S0_even (k := k) he
    have hbn := ne_zero_succ hc1
    have hj0 : (x.e % 2).toNat = 0 := (mod2_nat _).trans he
    have hj1 : ((x.e + 1) % 2).toNat = 1 := by rw [mod2_nat, succ_nat hc1]; omega
    refine awp_block ?_
    refine awp_seq ?_
    refine rdln [10] [0, 0, 0, 0, 0, 0, 0, 0, 0, 0, 0, 1] [0, 0, 0, 0, 0, 0, 0, 0, 0, 0, 1, 1] ?_
    refine Dp (fun _ => q_mv (s := .v (.c _)) ⟨rfl, rfl⟩) ?_
    refine Dp (fun _ => q_mv (s := .v (.c _)) ⟨rfl, rfl⟩) ?_
    refine Dp (fun _ => q_ncp ⟨rfl, rfl⟩) ?_
    refine Dp (fun _ => q_fap ⟨rfl, rfl⟩) ?_
    refine DLp ?_
    refine Dp (fun _ => q_rem64 (y := 2) ⟨rfl, rfl⟩ (hz := by decide)) ?_
    refine Dp (fun _ => q_ncp ⟨rfl, rfl⟩) ?_
    refine Dp (fun _ => q_fap ⟨rfl, rfl⟩) ?_
    refine Dp (fun _ => q_ixp  (j := 0) ⟨rfl, rfl⟩ (hi := ix64j (et rfl) hj0)) ?_
    refine DLp ?_
    refine De2 (fun _ k_ => q_callv [10, 11] [some (cC (.ptr 1 0) 0), some (u8s (S0 k x.e.toNat))] [some (cC (.ptr 1 0) 0)] (copy_k (S0 k x.e.toNat) 0) k_ (ha := (cac (et rfl) rfl ca0)) (e2 := (pl1 rfl rfl (pl1 rfl sees_m pl0))) (eL := (ml1 rfl (ml1 sees_m ml0))) (eM := (ml1 rfl ml0))) ?_
    refine Dp (fun _ => q_as (s := .v (.c _)) ⟨rfl, rfl⟩) ?_
    refine dend ?_
    refine awp_seq ?_
    refine rln ?_
    refine Mv ?_
    refine G2 (fun _ k_ => q_callv [14, 11] [some (cC (.ptr 2 0) 0), some (u8s (S0 k x.e.toNat))] [some (u8s (anext (S0 k x.e.toNat)))] (rekey_k (S0 k x.e.toNat) 0 hA) k_ (ha := (cac (et rfl) rfl ca0)) (e2 := (pl1 rfl rfl (pl1 rfl sees_m pl0))) (eL := (ml1 rfl (ml1 sees_m ml0))) (eM := (ml1 sees_m ml0))) ?_
    refine gend ?_
    refine awp_seq ?_
    refine rln ?_
    refine Mv ?_
    refine G (q_ncp ?_)
    refine G (q_fap ?_)
    refine G (q_ldp ?_)
    refine G (q_add64 (y := 1) ?_)
    refine G (q_ncp ?_)
    refine G (q_fap ?_)
    refine G20 (fun _ k_ => q_st k_) ?_
    refine gend ?_
    refine rdln [10] [] [0, 0, 0, 0, 0, 0, 0, 0, 0, 0, 1] ?_
    refine Dp (fun _ => q_mv (s := .v (.c _)) ⟨rfl, rfl⟩) ?_
    refine Dp (fun _ => q_mv (s := .v (.c _)) ⟨rfl, rfl⟩) ?_
    refine Dp (fun _ => q_ncp ⟨rfl, rfl⟩) ?_
    refine Dp (fun _ => q_fap ⟨rfl, rfl⟩) ?_
    refine DLp ?_
    refine Dp (fun _ => q_rem64 (y := 2) ⟨rfl, rfl⟩ (hz := by decide)) ?_
    refine Dp (fun _ => q_mv (s := .v (.c _)) ⟨rfl, rfl⟩) ?_
    refine Dp (fun _ => q_ncp ⟨rfl, rfl⟩) ?_
    refine Dp (fun _ => q_fap ⟨rfl, rfl⟩) ?_
    refine Dp (fun _ => q_ixp  (j := 1) ⟨rfl, rfl⟩ (hi := ix64j (et rfl) hj1)) ?_
    refine De20 (fun _ k_ => q_st k_) ?_
    refine dend ?_
    exact ⟨⟨x.e + 1, (x.next hc1).1, (x.next hc1).2⟩, by show ep.toNat - (x.e + 1).toNat < ep.toNat - x.e.toNat; have h9 := UInt64.lt_iff_toNat_lt.1 hc1; rw [succ_nat hc1]; omega, sle_ren [(0, true), (1, true), (2, false), (3, false), (4, false), (5, false), (6, true), (7, true), (8, true), (9, true), (10, true), (11, true), (14, true), (15, true)] rfl (piT rfl) ⟨rfl, rfl, trivial⟩ ((show [some (chC (x.e + 1) er 10 (decide ((x.e + 1) ≠ 0)) 12 6 h3 8 sent 1 g any hash), some (wcs true wg wb), none, none, none, none, some (cC (.ptr 7 0) 0), some (u8s B0), cb h3 9, kb h3 B1, some (cC (.ptr 11 0) 0), some (u8s (S0 k (x.e + 1).toNat)), cb (decide ((x.e + 1) ≠ 0)) 13, kb (decide ((x.e + 1) ≠ 0)) (S1 k (x.e + 1).toNat)] = [some (chC (x.e + 1) er 10 true 12 6 h3 8 sent 1 g any hash), some (wcs true wg wb), none, none, none, none, some (cC (.ptr 7 0) 0), some (u8s B0), cb h3 9, kb h3 B1, some (cC (.ptr 11 0) 0), some (u8s (S0 k x.e.toNat)), cb true 13, kb true (anext (S0 k x.e.toNat))] by rw [succ_nat hc1, hv.1, hv.2.1, hbn]).trans (Eq.symm (a := renL _ _ _) (rlT rfl (show List.map _ (chC (x.e + 1) er 10 true 14 6 h3 8 sent 1 g any hash) = _ from chC_map rfl rfl rfl rfl rfl) (rlT rfl rfl (rlF (rlF (rlF (rlF (rlT rfl rfl (rlT rfl sees_m (rlB rfl (cb_map rfl) (rlB rfl kb_map (rlT rfl rfl (rlT rfl sees_m (rlT rfl rfl (rlT rfl sees_m rl0))))))))))))))))⟩
  · have hv := S1_odd (k := k) he
    have hbn := ne_zero_succ hc1
    have hj0 : (x.e % 2).toNat = 1 := (mod2_nat _).trans he
    have hj1 : ((x.e + 1) % 2).toNat = 0 := by rw [mod2_nat, succ_nat hc1]; omega
    refine reheap [(0, sc (.ptr 0 0)), (1, sc (c64 ep))] [some (chC x.e er 10 true 12 6 h3 8 sent 1 g any hash), some (wcs true wg wb), none, none, none, none, some (cC (.ptr 7 0) 0), some (u8s B0), cb h3 9, kb h3 B1, some (cC (.ptr 11 0) 0), some (u8s (S0 k x.e.toNat)), cb true 13, kb true (S1 k x.e.toNat)] ?_ ⟨rfl, rfl, trivial⟩ (by rw [ne_zero_odd he])
    refine awp_block ?_
    refine awp_seq ?_
    refine rdln [10] [0, 0, 0, 0, 0, 0, 0, 0, 0, 0, 0, 1] [0, 0, 0, 0, 0, 0, 0, 0, 0, 0, 1, 1] ?_
    refine Dp (fun _ => q_mv (s := .v (.c _)) ⟨rfl, rfl⟩) ?_
    refine Dp (fun _ => q_mv (s := .v (.c _)) ⟨rfl, rfl⟩) ?_
    refine Dp (fun _ => q_ncp ⟨rfl, rfl⟩) ?_
    refine Dp (fun _ => q_fap ⟨rfl, rfl⟩) ?_
    refine DLp ?_
    refine Dp (fun _ => q_rem64 (y := 2) ⟨rfl, rfl⟩ (hz := by decide)) ?_
    refine Dp (fun _ => q_ncp ⟨rfl, rfl⟩) ?_
    refine Dp (fun _ => q_fap ⟨rfl, rfl⟩) ?_
    refine Dp (fun _ => q_ixp  (j := 1) ⟨rfl, rfl⟩ (hi := ix64j (et rfl) hj0)) ?_
    refine DLp ?_
    refine De2 (fun _ k_ => q_callv [12, 13] [some (cC (.ptr 1 0) 0), some (u8s (S1 k x.e.toNat))] [some (cC (.ptr 1 0) 0)] (copy_k (S1 k x.e.toNat) 0) k_ (ha := (cac (et rfl) rfl ca0)) (e2 := (pl1 rfl rfl (pl1 rfl sees_m pl0))) (eL := (ml1 rfl (ml1 sees_m ml0))) (eM := (ml1 rfl ml0))) ?_
    refine Dp (fun _ => q_as (s := .v (.c _)) ⟨rfl, rfl⟩) ?_
    refine dend ?_
    refine awp_seq ?_
    refine rln ?_
    refine Mv ?_
    refine G2 (fun _ k_ => q_callv [14, 13] [some (cC (.ptr 2 0) 0), some (u8s (S1 k x.e.toNat))] [some (u8s (anext (S1 k x.e.toNat)))] (rekey_k (S1 k x.e.toNat) 0 hB) k_ (ha := (cac (et rfl) rfl ca0)) (e2 := (pl1 rfl rfl (pl1 rfl sees_m pl0))) (eL := (ml1 rfl (ml1 sees_m ml0))) (eM := (ml1 sees_m ml0))) ?_
    refine gend ?_
    refine awp_seq ?_
    refine rln ?_
    refine Mv ?_
    refine G (q_ncp ?_)
    refine G (q_fap ?_)
    refine G (q_ldp ?_)
    refine G (q_add64 (y := 1) ?_)
    refine G (q_ncp ?_)
    refine G (q_fap ?_)
    refine G20 (fun _ k_ => q_st k_) ?_
    refine gend ?_
    refine rdln [10] [] [0, 0, 0, 0, 0, 0, 0, 0, 0, 0, 1] ?_
    refine Dp (fun _ => q_mv (s := .v (.c _)) ⟨rfl, rfl⟩) ?_
    refine Dp (fun _ => q_mv (s := .v (.c _)) ⟨rfl, rfl⟩) ?_
    refine Dp (fun _ => q_ncp ⟨rfl, rfl⟩) ?_
    refine Dp (fun _ => q_fap ⟨rfl, rfl⟩) ?_
    refine DLp ?_
    refine Dp (fun _ => q_rem64 (y := 2) ⟨rfl, rfl⟩ (hz := by decide)) ?_
    refine Dp (fun _ => q_mv (s := .v (.c _)) ⟨rfl, rfl⟩) ?_
    refine Dp (fun _ => q_ncp ⟨rfl, rfl⟩) ?_
    refine Dp (fun _ => q_fap ⟨rfl, rfl⟩) ?_
    refine Dp (fun _ => q_ixp  (j := 0) ⟨rfl, rfl⟩ (hi := ix64j (et rfl) hj1)) ?_
    refine De20 (fun _ k_ => q_st k_) ?_
    refine dend ?_
    exact ⟨⟨x.e + 1, (x.next hc1).1, (x.next hc1).2⟩, by show ep.toNat - (x.e + 1).toNat < ep.toNat - x.e.toNat; have h9 := UInt64.lt_iff_toNat_lt.1 hc1; rw [succ_nat hc1]; omega, sle_ren [(0, true), (1, true), (2, false), (3, false), (4, false), (5, false), (6, true), (7, true), (8, true), (9, true), (14, true), (15, true), (12, true), (13, true)] rfl (piT rfl) ⟨rfl, rfl, trivial⟩ ((show [some (chC (x.e + 1) er 10 (decide ((x.e + 1) ≠ 0)) 12 6 h3 8 sent 1 g any hash), some (wcs true wg wb), none, none, none, none, some (cC (.ptr 7 0) 0), some (u8s B0), cb h3 9, kb h3 B1, some (cC (.ptr 11 0) 0), some (u8s (S0 k (x.e + 1).toNat)), cb (decide ((x.e + 1) ≠ 0)) 13, kb (decide ((x.e + 1) ≠ 0)) (S1 k (x.e + 1).toNat)] = [some (chC (x.e + 1) er 10 true 12 6 h3 8 sent 1 g any hash), some (wcs true wg wb), none, none, none, none, some (cC (.ptr 7 0) 0), some (u8s B0), cb h3 9, kb h3 B1, some (cC (.ptr 11 0) 0), some (u8s (anext (S1 k x.e.toNat))), cb true 13, kb true (S1 k x.e.toNat)] by rw [succ_nat hc1, hv.1, hv.2.1, hbn]).trans (Eq.symm (a := renL _ _ _) (rlT rfl (show List.map _ (chC (x.e + 1) er 14 true 12 6 h3 8 sent 1 g any hash) = _ from chC_map rfl rfl rfl rfl rfl) (rlT rfl rfl (rlF (rlF (rlF (rlF (rlT rfl rfl (rlT rfl sees_m (rlB rfl (cb_map rfl) (rlB rfl kb_map (rlT rfl rfl (rlT rfl sees_m (rlT rfl rfl (rlT rfl sees_m rl0))))))))))))))))⟩
set_option maxHeartbeats 1600000 in
theorem move_r (es er sent g : UInt64) (h1 any : Bool) (hash k A0 A1 : List UInt8) (wg wb : UInt64) (ep : UInt64) (hk : k.length = 32) : Good Try.prog 27 [.c (.ptr 0 3), .c (c64 ep)] [some (chC es er 2 h1 4 6 (decide (er ≠ 0)) 8 sent 1 g any hash), some (wcs true wg wb), some (cC (.ptr 3 0) 0), some (u8s A0), cb h1 5, kb h1 A1, some (cC (.ptr 7 0) 0), some (u8s (S0 k er.toNat)), cb (decide (er ≠ 0)) 9, kb (decide (er ≠ 0)) (S1 k er.toNat)] (.t []) [some (chC es (mx er ep) 2 h1 4 10 (decide ((mx er ep) ≠ 0)) 12 sent 1 g any hash), some (wcs true wg wb), some (cC (.ptr 3 0) 0), some (u8s A0), cb h1 5, kb h1 A1, none, none, none, none, some (cC (.ptr 11 0) 0), some (u8s (S0 k (mx er ep).toNat)), cb (decide ((mx er ep) ≠ 0)) 13, kb (decide ((mx er ep) ≠ 0)) (S1 k (mx er ep).toNat)] := by
  refine good_frm 41 Try.func27 rfl rfl rfl rfl rfl rfl ?_
  refine awp_block ?_
  refine awp_loop (fun x : MS er ep => ⟨frm 41 [(0, sc (.ptr 0 3)), (1, sc (c64 ep))], [some (chC es x.e 2 h1 4 10 (decide (x.e ≠ 0)) 12 sent 1 g any hash), some (wcs true wg wb), some (cC (.ptr 3 0) 0), some (u8s A0), cb h1 5, kb h1 A1, none, none, none, none, some (cC (.ptr 11 0) 0), some (u8s (S0 k x.e.toNat)), cb (decide (x.e ≠ 0)) 13, kb (decide (x.e ≠ 0)) (S1 k x.e.toNat)]⟩) (fun x => ep.toNat - x.e.toNat) ⟨er, Nat.le_refl _, mx_ge _ _⟩ (sle_ren [(0, true), (1, true), (2, true), (3, true), (4, true), (5, true), (6, false), (7, false), (8, false), (9, false), (6, true), (7, true), (8, true), (9, true)] rfl (piT rfl) ⟨rfl, rfl, trivial⟩ (Eq.symm (a := renL _ _ _) (rlT rfl (chC_map rfl rfl rfl rfl rfl) (rlT rfl rfl (rlT rfl rfl (rlT rfl sees_m (rlB rfl (cb_map rfl) (rlB rfl kb_map (rlF (rlF (rlF (rlF (rlT rfl rfl (rlT rfl sees_m (rlB rfl (cb_map rfl) (rlB rfl kb_map rl0)))))))))))))))) fun x => ?_
  have hA := S0_len hk x.e.toNat
  have hB := S1_len hk x.e.toNat
  refine awp_seq ?_
  refine awp_seq ?_
  refine rln ?_
  refine Mv ?_
  refine G (q_ncp ?_)
  refine G (q_fap ?_)
  refine G (q_ldp ?_)
  refine Mv ?_
  refine G (q_lss64 ?_)
  refine gend ?_
  refine cnd (fun hc1 => ?_) (fun hc1 => ?_); rotate_left
  · refine awp_exit ?_
    rw [x.done hc1]
    exact fx0 [0, 1, 2, 3, 4, 5, 6, 7, 8, 9, 10, 11, 12, 13] (hH := (pl1 rfl (chC_map rfl rfl rfl rfl rfl) (pl1 rfl rfl (pl1 rfl rfl (pl1 rfl sees_m (plb rfl (cb_map rfl) (plb rfl kb_map (plb rfl rfl (plb rfl rfl (plb rfl rfl (plb rfl rfl (pl1 rfl rfl (pl1 rfl sees_m (plb rfl (cb_map rfl) (plb rfl kb_map pl0))))))))))))))) (hn := piB rfl)
  refine awp_skip ?_
  rcases Nat.mod_two_eq_zero_or_one x.e.toNat with he | he
  · have hv := S0_even (k := k) he
    have hbn := ne_zero_succ hc1
    have hj0 : (x.e % 2).toNat = 0 := (mod2_nat _).trans he
    have hj1 : ((x.e + 1) % 2).toNat = 1 := by rw [mod2_nat, succ_nat hc1]; omega
    refine awp_block ?_
    refine awp_seq ?_
    refine rdln [10] [0, 0, 0, 0, 0, 0, 0, 0, 0, 0, 0, 1] [0, 0, 0, 0, 0, 0, 0, 0, 0, 0, 1, 1] ?_
    refine Dp (fun _ => q_mv (s := .v (.c _)) ⟨rfl, rfl⟩) ?_
    refine Dp (fun _ => q_mv (s := .v (.c _)) ⟨rfl, rfl⟩) ?_
    refine Dp (fun _ => q_ncp ⟨rfl, rfl⟩) ?_
    refine Dp (fun _ => q_fap ⟨rfl, rfl⟩) ?_
    refine DLp ?_
    refine Dp (fun _ => q_rem64 (y := 2) ⟨rfl, rfl⟩ (hz := by decide)) ?_
    refine Dp (fun _ => q_ncp ⟨rfl, rfl⟩) ?_
    refine Dp (fun _ => q_fap ⟨rfl, rfl⟩) ?_
    refine Dp (fun _ => q_ixp  (j := 0) ⟨rfl, rfl⟩ (hi := ix64j (et rfl) hj0)) ?_
    refine DLp ?_
    refine De2 (fun _ k_ => q_callv [10, 11] [some (cC (.ptr 1 0) 0), some (u8s (S0 k x.e.toNat))] [some (cC (.ptr 1 0) 0)] (copy_k (S0 k x.e.toNat) 0) k_ (ha := (cac (et rfl) rfl ca0)) (e2 := (pl1 rfl rfl (pl1 rfl sees_m pl0))) (eL := (ml1 rfl (ml1 sees_m ml0))) (eM := (ml1 rfl ml0))) ?_
    refine Dp (fun _ => q_as (s := .v (.c _)) ⟨rfl, rfl⟩) ?_
    refine dend ?_
    refine awp_seq ?_
    refine rln ?_
    refine Mv ?_
    refine G2 (fun _ k_ => q_callv [14, 11] [some (cC (.ptr 2 0) 0), some (u8s (S0 k x.e.toNat))] [some (u8s (anext (S0 k x.e.toNat)))] (rekey_k (S0 k x.e.toNat) 0 hA) k_ (ha := (cac (et rfl) rfl ca0)) (e2 := (pl1 rfl rfl (pl1 rfl sees_m pl0))) (eL := (ml1 rfl (ml1 sees_m ml0))) (eM := (ml1 sees_m ml0))) ?_
    refine gend ?_
    refine awp_seq ?_
    refine rln ?_
    refine Mv ?_
    refine G (q_ncp ?_)
    refine G (q_fap ?_)
    refine G (q_ldp ?_)
    refine G (q_add64 (y := 1) ?_)
    refine G (q_ncp ?_)
    refine G (q_fap ?_)
    refine G20 (fun _ k_ => q_st k_) ?_
    refine gend ?_
    refine rdln [10] [] [0, 0, 0, 0, 0, 0, 0, 0, 0, 0, 1] ?_
    refine Dp (fun _ => q_mv (s := .v (.c _)) ⟨rfl, rfl⟩) ?_
    refine Dp (fun _ => q_mv (s := .v (.c _)) ⟨rfl, rfl⟩) ?_
    refine Dp (fun _ => q_ncp ⟨rfl, rfl⟩) ?_
    refine Dp (fun _ => q_fap ⟨rfl, rfl⟩) ?_
    refine DLp ?_
    refine Dp (fun _ => q_rem64 (y := 2) ⟨rfl, rfl⟩ (hz := by decide)) ?_
    refine Dp (fun _ => q_mv (s := .v (.c _)) ⟨rfl, rfl⟩) ?_
    refine Dp (fun _ => q_ncp ⟨rfl, rfl⟩) ?_
    refine Dp (fun _ => q_fap ⟨rfl, rfl⟩) ?_
    refine Dp (fun _ => q_ixp  (j := 1) ⟨rfl, rfl⟩ (hi := ix64j (et rfl) hj1)) ?_
    refine De20 (fun _ k_ => q_st k_) ?_
    refine dend ?_
    exact ⟨⟨x.e + 1, (x.next hc1).1, (x.next hc1).2⟩, by show ep.toNat - (x.e + 1).toNat < ep.toNat - x.e.toNat; have h9 := UInt64.lt_iff_toNat_lt.1 hc1; rw [succ_nat hc1]; omega, sle_ren [(0, true), (1, true), (2, true), (3, true), (4, true), (5, true), (6, false), (7, false), (8, false), (9, false), (10, true), (11, true), (14, true), (15, true)] rfl (piT rfl) ⟨rfl, rfl, trivial⟩ ((show [some (chC es (x.e + 1) 2 h1 4 10 (decide ((x.e + 1) ≠ 0)) 12 sent 1 g any hash), some (wcs true wg wb), some (cC (.ptr 3 0) 0), some (u8s A0), cb h1 5, kb h1 A1, none, none, none, none, some (cC (.ptr 11 0) 0), some (u8s (S0 k (x.e + 1).toNat)), cb (decide ((x.e + 1) ≠ 0)) 13, kb (decide ((x.e + 1) ≠ 0)) (S1 k (x.e + 1).toNat)] = [some (chC es (x.e + 1) 2 h1 4 10 true 12 sent 1 g any hash), some (wcs true wg wb), some (cC (.ptr 3 0) 0), some (u8s A0), cb h1 5, kb h1 A1, none, none, none, none, some (cC (.ptr 11 0) 0), some (u8s (S0 k x.e.toNat)), cb true 13, kb true (anext (S0 k x.e.toNat))] by rw [succ_nat hc1, hv.1, hv.2.1, hbn]).trans (Eq.symm (a := renL _ _ _) (rlT rfl (show List.map _ (chC es (x.e + 1) 2 h1 4 10 true 14 sent 1 g any hash) = _ from chC_map rfl rfl rfl rfl rfl) (rlT rfl rfl (rlT rfl rfl (rlT rfl sees_m (rlB rfl (cb_map rfl) (rlB rfl kb_map (rlF (rlF (rlF (rlF (rlT rfl rfl (rlT rfl sees_m (rlT rfl rfl (rlT rfl sees_m rl0))))))))))))))))⟩
  · have hv := S1_odd (k := k) he
    have hbn := ne_zero_succ hc1
    have hj0 : (x.e % 2).toNat = 1 := (mod2_nat _).trans he
    have hj1 : ((x.e + 1) % 2).toNat = 0 := by rw [mod2_nat, succ_nat hc1]; omega
    refine reheap [(0, sc (.ptr 0 3)), (1, sc (c64 ep))] [some (chC es x.e 2 h1 4 10 true 12 sent 1 g any hash), some (wcs true wg wb), some (cC (.ptr 3 0) 0), some (u8s A0), cb h1 5, kb h1 A1, none, none, none, none, some (cC (.ptr 11 0) 0), some (u8s (S0 k x.e.toNat)), cb true 13, kb true (S1 k x.e.toNat)] ?_ ⟨rfl, rfl, trivial⟩ (by rw [ne_zero_odd he])
    refine awp_block ?_
    refine awp_seq ?_
    refine rdln [10] [0, 0, 0, 0, 0, 0, 0, 0, 0, 0, 0, 1] [0, 0, 0, 0, 0, 0, 0, 0, 0, 0, 1, 1] ?_
    refine Dp (fun _ => q_mv (s := .v (.c _)) ⟨rfl, rfl⟩) ?_
    refine Dp (fun _ => q_mv (s := .v (.c _)) ⟨rfl, rfl⟩) ?_
    refine Dp (fun _ => q_ncp ⟨rfl, rfl⟩) ?_
    refine Dp (fun _ => q_fap ⟨rfl, rfl⟩) ?_
    refine DLp ?_
    refine Dp (fun _ => q_rem64 (y := 2) ⟨rfl, rfl⟩ (hz := by decide)) ?_
    refine Dp (fun _ => q_ncp ⟨rfl, rfl⟩) ?_
    refine Dp (fun _ => q_fap ⟨rfl, rfl⟩) ?_
    refine Dp (fun _ => q_ixp  (j := 1) ⟨rfl, rfl⟩ (hi := ix64j (et rfl) hj0)) ?_
    refine DLp ?_
    refine De2 (fun _ k_ => q_callv [12, 13] [some (cC (.ptr 1 0) 0), some (u8s (S1 k x.e.toNat))] [some (cC (.ptr 1 0) 0)] (copy_k (S1 k x.e.toNat) 0) k_ (ha := (cac (et rfl) rfl ca0)) (e2 := (pl1 rfl rfl (pl1 rfl sees_m pl0))) (eL := (ml1 rfl (ml1 sees_m ml0))) (eM := (ml1 rfl ml0))) ?_
    refine Dp (fun _ => q_as (s := .v (.c _)) ⟨rfl, rfl⟩) ?_
    refine dend ?_
    refine awp_seq ?_
    refine rln ?_
    refine Mv ?_
    refine G2 (fun _ k_ => q_callv [14, 13] [some (cC (.ptr 2 0) 0), some (u8s (S1 k x.e.toNat))] [some (u8s (anext (S1 k x.e.toNat)))] (rekey_k (S1 k x.e.toNat) 0 hB) k_ (ha := (cac (et rfl) rfl ca0)) (e2 := (pl1 rfl rfl (pl1 rfl sees_m pl0))) (eL := (ml1 rfl (ml1 sees_m ml0))) (eM := (ml1 sees_m ml0))) ?_
    refine gend ?_
    refine awp_seq ?_
    refine rln ?_
    refine Mv ?_
    refine G (q_ncp ?_)
    refine G (q_fap ?_)
    refine G (q_ldp ?_)
    refine G (q_add64 (y := 1) ?_)
    refine G (q_ncp ?_)
    refine G (q_fap ?_)
    refine G20 (fun _ k_ => q_st k_) ?_
    refine gend ?_
    refine rdln [10] [] [0, 0, 0, 0, 0, 0, 0, 0, 0, 0, 1] ?_
    refine Dp (fun _ => q_mv (s := .v (.c _)) ⟨rfl, rfl⟩) ?_
    refine Dp (fun _ => q_mv (s := .v (.c _)) ⟨rfl, rfl⟩) ?_
    refine Dp (fun _ => q_ncp ⟨rfl, rfl⟩) ?_
    refine Dp (fun _ => q_fap ⟨rfl, rfl⟩) ?_
    refine DLp ?_
    refine Dp (fun _ => q_rem64 (y := 2) ⟨rfl, rfl⟩ (hz := by decide)) ?_
    refine Dp (fun _ => q_mv (s := .v (.c _)) ⟨rfl, rfl⟩) ?_
    refine Dp (fun _ => q_ncp ⟨rfl, rfl⟩) ?_
    refine Dp (fun _ => q_fap ⟨rfl, rfl⟩) ?_
    refine Dp (fun _ => q_ixp  (j := 0) ⟨rfl, rfl⟩ (hi := ix64j (et rfl) hj1)) ?_
    refine De20 (fun _ k_ => q_st k_) ?_
    refine dend ?_
    exact ⟨⟨x.e + 1, (x.next hc1).1, (x.next hc1).2⟩, by show ep.toNat - (x.e + 1).toNat < ep.toNat - x.e.toNat; have h9 := UInt64.lt_iff_toNat_lt.1 hc1; rw [succ_nat hc1]; omega, sle_ren [(0, true), (1, true), (2, true), (3, true), (4, true), (5, true), (6, false), (7, false), (8, false), (9, false), (14, true), (15, true), (12, true), (13, true)] rfl (piT rfl) ⟨rfl, rfl, trivial⟩ ((show [some (chC es (x.e + 1) 2 h1 4 10 (decide ((x.e + 1) ≠ 0)) 12 sent 1 g any hash), some (wcs true wg wb), some (cC (.ptr 3 0) 0), some (u8s A0), cb h1 5, kb h1 A1, none, none, none, none, some (cC (.ptr 11 0) 0), some (u8s (S0 k (x.e + 1).toNat)), cb (decide ((x.e + 1) ≠ 0)) 13, kb (decide ((x.e + 1) ≠ 0)) (S1 k (x.e + 1).toNat)] = [some (chC es (x.e + 1) 2 h1 4 10 true 12 sent 1 g any hash), some (wcs true wg wb), some (cC (.ptr 3 0) 0), some (u8s A0), cb h1 5, kb h1 A1, none, none, none, none, some (cC (.ptr 11 0) 0), some (u8s (anext (S1 k x.e.toNat))), cb true 13, kb true (S1 k x.e.toNat)] by rw [succ_nat hc1, hv.1, hv.2.1, hbn]).trans (Eq.symm (a := renL _ _ _) (rlT rfl (show List.map _ (chC es (x.e + 1) 2 h1 4 14 true 12 sent 1 g any hash) = _ from chC_map rfl rfl rfl rfl rfl) (rlT rfl rfl (rlT rfl rfl (rlT rfl sees_m (rlB rfl (cb_map rfl) (rlB rfl kb_map (rlF (rlF (rlF (rlF (rlT rfl rfl (rlT rfl sees_m (rlT rfl rfl (rlT rfl sees_m rl0))))))))))))))))⟩
end Go.Proofs.Ytklcckngmmklhaa

/- What functions of the program do, walked over the abstract machine. -/
namespace Go.Proofs.Ytklcckngmmklhaa
open Go Go.Abs Go.Proofs Go.Proofs.Ytklcckngmmklhaa.Ch Go.Proofs.Ytklcckngmmklhaa.Po Go.Proofs.Ytklcckngmmklhaa.Ae Go.Proofs.Ytklcckngmmklhaa.Wd
set_option maxRecDepth 20000
abbrev chR (es er sent g : UInt64) (x0 x1 y0 y1 w : Cell) (any : Bool) (hash : List UInt8) : List Cell :=
  c64 es :: x0 :: x1 :: c64 er :: y0 :: y1 :: c64 sent :: w :: c64 g :: .bool any :: u8s hash
theorem sees_ch {H : Heap} {π : List Nat} {p w : Nat} {es er sent g wg wb : UInt64} {x0 x1 y0 y1 : Cell} {any : Bool} {hash : List UInt8} (hi : idx p π = none) (hp : H[p]? = some (some (chR es er sent g x0 x1 y0 y1 (.ptr w 0) any hash))) (hw : idx w π = none) (hW : H[w]? = some (some (wcs true wg wb))) :
    cm (cin π true H) 8 (.ptr p 0) = .rop (chR es er sent g (cm (cin π true H) 7 x0) (cm (cin π true H) 7 x1) (cm (cin π true H) 7 y0) (cm (cin π true H) 7 y1) (.rop (wcs true wg wb)) any hash) := by
  refine sees_ptr hi hp rfl ?_
  show cm _ 7 (c64 es) :: cm _ 7 x0 :: cm _ 7 x1 :: cm _ 7 (c64 er) :: cm _ 7 y0 :: cm _ 7 y1 :: cm _ 7 (c64 sent) :: cm _ 7 (.ptr w 0) :: cm _ 7 (c64 g) :: cm _ 7 (.bool any) :: (u8s hash).map (cm _ 7) = _
  rw [mapc_cm, show cm (cin π true H) 7 (.ptr w 0) = .rop (wcs true wg wb) from by simp [cm, cin, hw, joinH, hW]]
  rfl
theorem ch_spl {a b c d e f g h i j : Cell} {hash : List UInt8} (hh : hash.length = 32) : splice (a :: b :: c :: d :: e :: f :: g :: h :: i :: j :: u8s (List.replicate 32 0)) 10 (u8s hash) = a :: b :: c :: d :: e :: f :: g :: h :: i :: j :: u8s hash := by
  unfold splice
  rw [mapc_length, hh]
  show a :: b :: c :: d :: e :: f :: g :: h :: i :: j :: ([] ++ u8s hash ++ List.drop 32 (u8s (List.replicate 32 0))) = _
  rw [List.nil_append, List.drop_of_length_le (by rw [mapc_length]; decide), List.append_nil]
theorem cthere (es er sent g : UInt64) (x0 x1 y0 y1 : Cell) (any : Bool) (hash : List UInt8) (wc : List Cell) : Good Try.prog 26 [.c (.rop (chR es er sent g x0 x1 y0 y1 (.rop wc) any hash))] [] (sc (.bool true)) [] := by
  refine good_frm 12 Try.func26 rfl rfl rfl rfl rfl rfl ?_
  refine awp_seq ?_
  refine rln ?_
  refine As ?_
  refine gend ?_
  refine awp_seq ?_
  refine rln ?_
  refine Mv ?_
  refine G (q_neqp ?_)
  refine Mv ?_
  refine Gg (q_mv (s := .v (.c _)) ?_)
  refine Gg (q_ncr ?_)
  refine Gg (q_far ?_)
  refine Gg (q_ldr ?_)
  refine Gg (q_neqp ?_)
  refine G (q_pkt ?_)
  refine As ?_
  refine gend ?_
  refine awp_ret ?_
  exact fp1
theorem csent (es er sent g : UInt64) (x0 x1 y0 y1 w : Cell) (any : Bool) (hash : List UInt8) : Good Try.prog 22 [.c (.rop (chR es er sent g x0 x1 y0 y1 w any hash))] [] (sc (c64 sent)) [] := by
  refine good_frm 9 Try.func22 rfl rfl rfl rfl rfl rfl ?_
  refine awp_seq ?_
  refine rln ?_
  refine G (q_as (s := sc (c64 0)) ?_)
  refine gend ?_
  refine awp_seq ?_
  refine awp_seq ?_
  refine rln ?_
  refine Mv ?_
  refine G (q_eqlp ?_)
  refine gend ?_
  refine cndF ?_
  refine awp_skip ?_
  refine awp_seq ?_
  refine rln ?_
  refine Mv ?_
  refine G (q_ncr ?_)
  refine G (q_far ?_)
  refine G (q_ldr ?_)
  refine As ?_
  refine gend ?_
  refine awp_ret ?_
  exact fp1
theorem cgreat (es er sent g : UInt64) (x0 x1 y0 y1 w : Cell) (any : Bool) (hash : List UInt8) : Good Try.prog 20 [.c (.rop (chR es er sent g x0 x1 y0 y1 w any hash))] [] (.t [.c (c64 g), .c (.bool any)]) [] := by
  refine good_frm 14 Try.func20 rfl rfl rfl rfl rfl rfl ?_
  refine awp_seq ?_
  refine rln ?_
  refine G (q_as (s := sc (c64 0)) ?_)
  refine As ?_
  refine gend ?_
  refine awp_seq ?_
  refine awp_seq ?_
  refine rln ?_
  refine Mv ?_
  refine G (q_eqlp ?_)
  refine gend ?_
  refine cndF ?_
  refine awp_skip ?_
  refine awp_seq ?_
  refine rdln [] [] [] ?_
  refine Dp (fun _ => q_mv (s := .v (.c _)) ⟨rfl, rfl⟩) ?_
  refine Dp (fun _ => q_ncr ⟨rfl, rfl⟩) ?_
  refine Dp (fun _ => q_far ⟨rfl, rfl⟩) ?_
  refine Dp (fun _ => q_ldr ⟨rfl, rfl⟩) ?_
  refine Dp (fun _ => q_mv (s := .v (.c _)) ⟨rfl, rfl⟩) ?_
  refine Dp (fun _ => q_ncr ⟨rfl, rfl⟩) ?_
  refine Dp (fun _ => q_far ⟨rfl, rfl⟩) ?_
  refine Dp (fun _ => q_ldr ⟨rfl, rfl⟩) ?_
  refine Dp (fun _ => q_as (s := .v (.c _)) ⟨rfl, rfl⟩) ?_
  refine Dp (fun _ => q_as (s := .v (.c _)) ⟨rfl, rfl⟩) ?_
  refine dend ?_
  refine awp_ret ?_
  exact fp2
theorem chash (es er sent g : UInt64) (x0 x1 y0 y1 w : Cell) (any : Bool) (hash : List UInt8) (hh : hash.length = 32) : Good Try.prog 23 [.c (.rop (chR es er sent g x0 x1 y0 y1 w any hash))] [] (sa (u8s hash)) [] := by
  refine good_frm 10 Try.func23 rfl rfl rfl rfl rfl rfl ?_
  refine awp_seq ?_
  refine rln ?_
  refine G2 (fun _ k_ => q_al k_) ?_
  refine gend ?_
  refine awp_seq ?_
  refine awp_seq ?_
  refine rln ?_
  refine Mv ?_
  refine G (q_eqlp ?_)
  refine gend ?_
  refine cndF ?_
  refine awp_skip ?_
  refine awp_seq ?_
  refine rln ?_
  refine Mv ?_
  refine G (q_ncr ?_)
  refine G (q_far ?_)
  refine G (q_ldar ?_)
  refine G20 (fun _ k_ => q_stw k_) ?_
  refine gend ?_
  refine awp_ret ?_
  exact fpc (t := 23) (a := 2) (hn := (mapc_length ..).trans hh)
end Go.Proofs.Ytklcckngmmklhaa


/- What functions of the program do, walked over the abstract machine. -/
import Derived.Test.YtcihpgdmldkjfaaAc
namespace Go.Proofs.Ytcihpgdmldkjfaa
open Go Go.Abs Go.Proofs Go.Proofs.Ytcihpgdmldkjfaa.Ch Go.Proofs.Ytcihpgdmldkjfaa.Po

theorem xw_get' (key : List UInt8) (ctr : UInt32) (nonce l : List UInt8) (n i : Nat) (h : i < n) : (xw key ctr nonce l n).getD i 0 = l.getD i 0 ^^^ (blk key (ctr + UInt32.ofNat (i / 64)) nonce).getD (i % 64) 0 := by
  simp [xw, List.getD_eq_getElem?_getD, h]
theorem xw_xw (key : List UInt8) (ctr : UInt32) (nonce l : List UInt8) (n : Nat) (h : l.length = n) : xw key ctr nonce (xw key ctr nonce l n) n = l := by
  refine List.ext_getElem (by rw [xw_len, h]) fun i h1 h2 => ?_
  rw [xw_len] at h1
  have := xw_get' key ctr nonce (xw key ctr nonce l n) n i h1
  rw [xw_get' key ctr nonce l n i h1, UInt8.xor_assoc, UInt8.xor_self, UInt8.xor_zero] at this
  simpa [List.getD_eq_getElem?_getD, h2, xw_len, h1] using this
theorem aopen_aseal (key nonce ad l : List UInt8) : aopen key nonce ad (aseal key nonce ad l) = some l := by
  have hl := aseal_len key nonce ad l
  have hx := xw_len key 1 nonce l l.length
  unfold aopen
  rw [hl, if_neg (by omega), Nat.add_sub_cancel]
  have e1 : (aseal key nonce ad l).take l.length = xw key 1 nonce l l.length := by rw [aseal, List.take_append_of_le_length (by omega), List.take_of_length_le (by omega)]
  have e2 : (aseal key nonce ad l).drop l.length = amark key nonce ad (xw key 1 nonce l l.length) := by rw [aseal, List.drop_append_of_le_length (by omega), List.drop_of_length_le (by omega), List.nil_append]
  rw [e1, e2, if_pos rfl, xw_xw key 1 nonce l _ rfl]
theorem aseal_aopen {key nonce ad s p : List UInt8} (h : aopen key nonce ad s = some p) : aseal key nonce ad p = s := by
  unfold aopen at h
  split at h
  · cases h
  · split at h
    · rename_i h2
      cases h
      have hl : (s.take (s.length - 16)).length = s.length - 16 := by rw [List.length_take]; omega
      rw [aseal, xw_len, xw_xw key 1 nonce _ _ hl, h2, List.take_append_drop]
    · cases h
theorem xor_self_ne (x b : UInt8) (h : b ≠ 0) : x ^^^ b ≠ x := by
  intro e
  apply h
  have : x ^^^ (x ^^^ b) = x ^^^ x := by rw [e]
  rwa [← UInt8.xor_assoc, UInt8.xor_self, UInt8.zero_xor] at this
theorem aopen_turned (key nonce ad l : List UInt8) (i : Nat) (b : UInt8) (hi : i < 16) (hb : b ≠ 0) : aopen key nonce ad ((aseal key nonce ad l).set (l.length + i) ((aseal key nonce ad l).getD (l.length + i) 0 ^^^ b)) = none := by
  have hl := aseal_len key nonce ad l
  have hx := xw_len key 1 nonce l l.length
  have hm := amark_len key nonce ad (xw key 1 nonce l l.length)
  unfold aopen
  rw [List.length_set, hl, if_neg (by omega), Nat.add_sub_cancel]
  have e1 : ((aseal key nonce ad l).set (l.length + i) ((aseal key nonce ad l).getD (l.length + i) 0 ^^^ b)).take l.length = xw key 1 nonce l l.length := by
    rw [List.take_set_of_le (by omega), aseal, List.take_append_of_le_length (by omega), List.take_of_length_le (by omega)]
  rw [e1]
  generalize hM : amark key nonce ad (xw key 1 nonce l l.length) = M at hm
  have hA : aseal key nonce ad l = xw key 1 nonce l l.length ++ M := by rw [← hM]; rfl
  rw [if_neg]
  intro e
  have e2 := congrArg (fun z : List UInt8 => z.getD i 0) e
  simp only [List.getD_eq_getElem?_getD, List.getElem?_drop, List.getElem?_set_self (show l.length + i < (aseal key nonce ad l).length by omega), Option.getD_some] at e2
  rw [hA, List.getElem?_append_right (by omega), hx, Nat.add_sub_cancel_left] at e2
  exact xor_self_ne _ _ hb e2.symm
theorem str_eq {a b : List UInt8} : ((⟨a.toArray⟩ : ByteArray) = ⟨b.toArray⟩) ↔ a = b := by
  constructor
  · intro h; injection h with h; injection h
  · rintro rfl; rfl
/-- escutcheonref10.Open -/
theorem ropen_short (key nonce ad s : List UInt8) (n k : Nat) (hkey : key.length = 32) (hnonce : nonce.length = 12) (had : ad.length = n) (hn : n ≤ 10000) (hc : s.length = k) (hk : k ≤ 10000) (h : k < 16) : Good Try.prog 12 [.a (u8s key), .a (u8s nonce), .c (.ro n (u8s ad)), .c (.ro k (u8s s))] [] (.t [.c .nils, .c (.bool false)]) [] := by
  refine good_frm 38 Try.func12 rfl rfl rfl rfl rfl rfl ?_
  refine awp_seq ?_
  refine rln ?_
  refine G2 (fun _ k_ => q_boxa k_) ?_
  refine G2 (fun _ k_ => q_boxa k_) ?_
  refine As ?_
  refine As ?_
  refine gend ?_
  refine awp_seq ?_
  refine awp_seq ?_
  refine rln ?_
  refine Mv ?_
  refine G (q_leno ?_)
  refine G (q_lssn (y := 16) ?_)
  refine gend ?_
  refine cndY (fun hc1 => ?_) ?_; rotate_left
  · omega
  refine awp_seq ?_
  refine rln ?_
  refine As ?_
  refine As ?_
  refine gend ?_
  refine awp_ret ?_
  exact fx2 [] (hm0 := rfl) (hH := pl0)
set_option maxHeartbeats 800000 in
/-- escutcheonref10.Open -/
theorem ropen_bad (key nonce ad s : List UInt8) (n k : Nat) (hkey : key.length = 32) (hnonce : nonce.length = 12) (had : ad.length = n) (hn : n ≤ 10000) (hc : s.length = k) (hk : k ≤ 10000) (h : 16 ≤ k) (hh : amark key nonce ad (s.take (k - 16)) ≠ s.drop (k - 16)) : Good Try.prog 12 [.a (u8s key), .a (u8s nonce), .c (.ro n (u8s ad)), .c (.ro k (u8s s))] [] (.t [.c .nils, .c (.bool false)]) [] := by
  have hTl : (s.take (k - 16)).length = k - 16 := by rw [List.length_take]; omega
  have hDl : (s.drop (k - 16)).length = 16 := by rw [List.length_drop]; omega
  have g2 := rmark_ key nonce ad (s.take (k - 16)) n (k - 16) hkey hnonce had hn hTl (by omega)
  obtain ⟨M, hM⟩ : ∃ z, amark key nonce ad (s.take (k - 16)) = z := ⟨_, rfl⟩
  have hMl : M.length = 16 := by rw [← hM]; exact amark_len _ _ _ _
  rw [hM] at g2 hh
  refine good_frm 38 Try.func12 rfl rfl rfl rfl rfl rfl ?_
  refine awp_seq ?_
  refine rln ?_
  refine G2 (fun _ k_ => q_boxa k_) ?_
  refine G2 (fun _ k_ => q_boxa k_) ?_
  refine As ?_
  refine As ?_
  refine gend ?_
  refine awp_seq ?_
  refine awp_seq ?_
  refine rln ?_
  refine Mv ?_
  refine G (q_leno ?_)
  refine G (q_lssn (y := 16) ?_)
  refine gend ?_
  refine cndN (fun hc1 => ?_) ?_; rotate_left
  · omega
  refine awp_skip ?_
  refine awp_seq ?_
  refine rln ?_
  refine Mv ?_
  refine G (q_leno ?_)
  refine G (q_subn (y := 16) ?_)
  refine As ?_
  refine gend ?_
  refine awp_seq ?_
  refine rdln [7, 8] [0, 0, 0, 0, 0, 0, 0, 0, 1] [1, 1, 1, 1, 1, 1, 1, 1, 2] ?_
  refine DLw ?_
  refine DLw ?_
  refine Dp (fun _ => q_mv (s := .v (.c _)) ⟨rfl, rfl⟩) ?_
  refine Dp (fun _ => q_mv (s := .v (.c _)) ⟨rfl, rfl⟩) ?_
  refine Dp (fun _ => q_mv (s := .v (.c _)) ⟨rfl, rfl⟩) ?_
  refine Dp (fun _ => q_slo_hi  ⟨rfl, rfl⟩ (hc := take0_m)) ?_
  refine Dp (fun _ => q_callp g2 ⟨rfl, rfl⟩ (ha := (caa (et rfl) sees_m (caa (et rfl) sees_m (cac (et rfl) sees_ro (cac (et rfl) sees_ro ca0)))))) ?_
  refine De2 (fun _ k_ => q_al k_) ?_
  refine De20 (fun _ k_ => q_stw k_) ?_
  refine dend ?_
  refine awp_seq ?_
  refine awp_seq ?_
  refine rdln [] [] [] ?_
  refine DSp 2 rfl (fun _ hv => q_slp_no ⟨rfl, rfl⟩ (hp := hv)) ?_
  refine DCs ?_
  refine Dp (fun _ => q_mv (s := .v (.c _)) ⟨rfl, rfl⟩) ?_
  refine Dp (fun _ => q_mv (s := .v (.c _)) ⟨rfl, rfl⟩) ?_
  refine Dp (fun _ => q_slo_lo  ⟨rfl, rfl⟩ (hc := drop_m hc)) ?_
  refine Dp (fun _ => q_cso ⟨rfl, rfl⟩) ?_
  refine Dp (fun _ => q_neqs ⟨rfl, rfl⟩) ?_
  refine dend ?_
  refine cndnY (fun hc2 => ?_) ?_; rotate_left
  · exact mt str_eq.1 hh
  refine awp_seq ?_
  refine rln ?_
  refine As ?_
  refine As ?_
  refine gend ?_
  refine awp_ret ?_
  exact fx2 [] (hm0 := rfl) (hH := pl0)
set_option maxHeartbeats 800000 in
/-- escutcheonref10.Open -/
theorem ropen_yes (key nonce ad s : List UInt8) (n k : Nat) (hkey : key.length = 32) (hnonce : nonce.length = 12) (had : ad.length = n) (hn : n ≤ 10000) (hc : s.length = k) (hk : k ≤ 10000) (h : 16 ≤ k) (hh : amark key nonce ad (s.take (k - 16)) = s.drop (k - 16)) : Good Try.prog 12 [.a (u8s key), .a (u8s nonce), .c (.ro n (u8s ad)), .c (.ro k (u8s s))] [] (.t [.c (.slc 0 0 (k - 16) 1), .c (.bool true)]) [some (u8s (xw key 1 nonce (s.take (k - 16)) (k - 16)))] := by
  have hTl : (s.take (k - 16)).length = k - 16 := by rw [List.length_take]; omega
  have hDl : (s.drop (k - 16)).length = 16 := by rw [List.length_drop]; omega
  have g2 := rmark_ key nonce ad (s.take (k - 16)) n (k - 16) hkey hnonce had hn hTl (by omega)
  obtain ⟨M, hM⟩ : ∃ z, amark key nonce ad (s.take (k - 16)) = z := ⟨_, rfl⟩
  have hMl : M.length = 16 := by rw [← hM]; exact amark_len _ _ _ _
  rw [hM] at g2 hh
  have g4 := rxor key 1 nonce (k - 16) (s.take (k - 16)) hkey hnonce hTl (by omega)
  refine good_frm 38 Try.func12 rfl rfl rfl rfl rfl rfl ?_
  refine awp_seq ?_
  refine rln ?_
  refine G2 (fun _ k_ => q_boxa k_) ?_
  refine G2 (fun _ k_ => q_boxa k_) ?_
  refine As ?_
  refine As ?_
  refine gend ?_
  refine awp_seq ?_
  refine awp_seq ?_
  refine rln ?_
  refine Mv ?_
  refine G (q_leno ?_)
  refine G (q_lssn (y := 16) ?_)
  refine gend ?_
  refine cndN (fun hc1 => ?_) ?_; rotate_left
  · omega
  refine awp_skip ?_
  refine awp_seq ?_
  refine rln ?_
  refine Mv ?_
  refine G (q_leno ?_)
  refine G (q_subn (y := 16) ?_)
  refine As ?_
  refine gend ?_
  refine awp_seq ?_
  refine rdln [7, 8] [0, 0, 0, 0, 0, 0, 0, 0, 1] [1, 1, 1, 1, 1, 1, 1, 1, 2] ?_
  refine DLw ?_
  refine DLw ?_
  refine Dp (fun _ => q_mv (s := .v (.c _)) ⟨rfl, rfl⟩) ?_
  refine Dp (fun _ => q_mv (s := .v (.c _)) ⟨rfl, rfl⟩) ?_
  refine Dp (fun _ => q_mv (s := .v (.c _)) ⟨rfl, rfl⟩) ?_
  refine Dp (fun _ => q_slo_hi  ⟨rfl, rfl⟩ (hc := take0_m)) ?_
  refine Dp (fun _ => q_callp g2 ⟨rfl, rfl⟩ (ha := (caa (et rfl) sees_m (caa (et rfl) sees_m (cac (et rfl) sees_ro (cac (et rfl) sees_ro ca0)))))) ?_
  refine De2 (fun _ k_ => q_al k_) ?_
  refine De20 (fun _ k_ => q_stw k_) ?_
  refine dend ?_
  refine awp_seq ?_
  refine awp_seq ?_
  refine rdln [] [] [] ?_
  refine DSp 2 rfl (fun _ hv => q_slp_no ⟨rfl, rfl⟩ (hp := hv)) ?_
  refine DCs ?_
  refine Dp (fun _ => q_mv (s := .v (.c _)) ⟨rfl, rfl⟩) ?_
  refine Dp (fun _ => q_mv (s := .v (.c _)) ⟨rfl, rfl⟩) ?_
  refine Dp (fun _ => q_slo_lo  ⟨rfl, rfl⟩ (hc := drop_m hc)) ?_
  refine Dp (fun _ => q_cso ⟨rfl, rfl⟩) ?_
  refine Dp (fun _ => q_neqs ⟨rfl, rfl⟩) ?_
  refine dend ?_
  refine cndnN (fun hc2 => ?_) ?_; rotate_left
  · exact str_eq.2 hh
  refine awp_skip ?_
  refine awp_seq ?_
  refine rdln [5] [0, 0, 0, 0, 0, 0, 1, 1] [0, 0, 0, 0, 0, 1, 1, 1] ?_
  refine DLw ?_
  refine DLw ?_
  refine Dp (fun _ => q_mv (s := .v (.c _)) ⟨rfl, rfl⟩) ?_
  refine Dp (fun _ => q_mv (s := .v (.c _)) ⟨rfl, rfl⟩) ?_
  refine Dp (fun _ => q_slo_hi  ⟨rfl, rfl⟩ (hc := take0_m)) ?_
  refine De2 (fun _ k_ => q_calln g4 k_ (ha := (caa (et rfl) sees_m (cac rfl cm_int (caa (et rfl) sees_m (cac (et rfl) sees_ro ca0)))))) ?_
  refine Dp (fun _ => q_as (s := .v (.c _)) ⟨rfl, rfl⟩) ?_
  refine Dp (fun _ => q_as (s := .v (.c _)) ⟨rfl, rfl⟩) ?_
  refine dend ?_
  refine awp_ret ?_
  exact fx2 [3] (hm0 := rfl) (hH := pl1 rfl sees_m pl0)
theorem ropen_none (key nonce ad s : List UInt8) (n k : Nat) (hkey : key.length = 32) (hnonce : nonce.length = 12) (had : ad.length = n) (hn : n ≤ 10000) (hc : s.length = k) (hk : k ≤ 10000) (h : aopen key nonce ad s = none) : Good Try.prog 12 [.a (u8s key), .a (u8s nonce), .c (.ro n (u8s ad)), .c (.ro k (u8s s))] [] (.t [.c .nils, .c (.bool false)]) [] := by
  unfold aopen at h
  rw [hc] at h
  by_cases h1 : k < 16
  · exact ropen_short key nonce ad s n k hkey hnonce had hn hc hk h1
  · rw [if_neg h1] at h
    by_cases h2 : amark key nonce ad (s.take (k - 16)) = s.drop (k - 16)
    · rw [if_pos h2] at h; cases h
    · exact ropen_bad key nonce ad s n k hkey hnonce had hn hc hk (by omega) h2
theorem ropen_some (key nonce ad s : List UInt8) (n k : Nat) (hkey : key.length = 32) (hnonce : nonce.length = 12) (had : ad.length = n) (hn : n ≤ 10000) (hc : s.length = k) (hk : k ≤ 10000) (p : List UInt8) (h : aopen key nonce ad s = some p) : Good Try.prog 12 [.a (u8s key), .a (u8s nonce), .c (.ro n (u8s ad)), .c (.ro k (u8s s))] [] (.t [.c (.slc 0 0 (k - 16) 1), .c (.bool true)]) [some (u8s p)] := by
  unfold aopen at h
  rw [hc] at h
  by_cases h1 : k < 16
  · rw [if_pos h1] at h; cases h
  · rw [if_neg h1] at h
    by_cases h2 : amark key nonce ad (s.take (k - 16)) = s.drop (k - 16)
    · rw [if_pos h2] at h; cases h; exact ropen_yes key nonce ad s n k hkey hnonce had hn hc hk (by omega) h2
    · rw [if_neg h2] at h; cases h
end Go.Proofs.Ytcihpgdmldkjfaa

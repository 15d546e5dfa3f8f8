/- What functions of the program do, walked over the abstract machine. -/
import Derived.Test.YtcihpgdmldkjfaaRz
import Derived.Test.YtcihpgdmldkjfaaChd
namespace Go.Proofs.Ytcihpgdmldkjfaa
open Go Go.Abs Go.Proofs Go.Proofs.Ytcihpgdmldkjfaa.Ch Go.Proofs.Ytcihpgdmldkjfaa.Po

/-- A number's bytes, the lowest first. -/
def num8 (n : UInt64) : Nat → List UInt8
  | 0 => []
  | i + 1 => num8 n i ++ [(shr64n n (8 * i)).toUInt8]
theorem num8_len (n : UInt64) : ∀ i, (num8 n i).length = i
  | 0 => rfl
  | i + 1 => by rw [num8, List.length_append, num8_len n i]; rfl
/-- Noughts up to a multiple of 16. -/
def padz (n : Nat) : List UInt8 := List.replicate ((16 - n % 16) % 16) 0
theorem padz_len (n : Nat) : (padz n).length = (16 - n % 16) % 16 := by simp [padz]
def amsg (ad c : List UInt8) : List UInt8 := ad ++ (padz ad.length ++ (c ++ (padz c.length ++ (num8 (UInt64.ofNat ad.length) 8 ++ num8 (UInt64.ofNat c.length) 8))))
def amark (key nonce ad c : List UInt8) : List UInt8 := tag ((blk key 0 nonce).take 32) (amsg ad c)
theorem amark_len (key nonce ad c : List UInt8) : (amark key nonce ad c).length = 16 := tag_len _ _
/-- What is sealed. -/
def aseal (key nonce ad l : List UInt8) : List UInt8 := xw key 1 nonce l l.length ++ amark key nonce ad (xw key 1 nonce l l.length)
theorem aseal_len (key nonce ad l : List UInt8) : (aseal key nonce ad l).length = l.length + 16 := by rw [aseal, List.length_append, xw_len, amark_len]
def anonce (n : UInt64) : List UInt8 := [0, 0, 0, 0] ++ num8 n 8
theorem anonce_len (n : UInt64) : (anonce n).length = 12 := by rw [anonce, List.length_append, num8_len]; rfl
theorem cut_pre {l : List UInt8} {k : Nat} : ((u8s l).drop 0).take k = u8s (l.take k) := by rw [List.drop_zero, mapc_take]
theorem amsg_len (ad c : List UInt8) : (amsg ad c).length ≤ ad.length + c.length + 46 := by
  simp only [amsg, List.length_append, padz_len, num8_len]; omega
theorem u8_snoc (l : List UInt8) (x : UInt8) : u8s l ++ [c8 x] = u8s (l ++ [x]) := by simp [mapc]
/-- aead.number -/
theorem number_ (n : UInt64) : Good Try.prog 13 [.c (c64 n)] [] (sc (.slc 0 0 8 1)) [some (u8s (num8 n 8))] := by
  refine good_frm 17 Try.func13 rfl rfl rfl rfl rfl rfl ?_
  refine awp_seq ?_
  refine rln ?_
  refine As ?_
  refine gend ?_
  refine awp_seq ?_
  refine awp_seq ?_
  refine rln ?_
  refine G (q_mv (s := sc (cn 0)) ?_)
  refine gend ?_
  refine awp_le (sle_empty (al' := [(0, sc (c64 n)), (2, sc (.slc 0 0 0 1)), (4, sc (cn 0))]) 1 (Nat.zero_le _) ⟨.inl rfl, .inr ⟨rfl, rfl⟩, .inl rfl, trivial⟩) ?_
  refine awp_block ?_
  refine awp_loop (fun x : {i : Nat // i ≤ 8} => ⟨frm 17 [(0, sc (c64 n)), (2, sc (.slc 0 0 x.1 1)), (4, sc (cn x.1))], [some (u8s (num8 n x.1))]⟩) (fun x => 8 - x.1) ⟨0, Nat.zero_le _⟩ (sle_sub ⟨rfl, rfl, rfl, trivial⟩ rfl) fun x => ?_   -- live: [0, 2, 4]
  have h5 := num8_len n x.1
  refine awp_seq ?_
  refine rln ?_
  refine G (q_lssn (y := 8) ?_)
  refine gend ?_
  refine awp_seq ?_
  refine cnd (fun hc1 => ?_) (fun hc1 => ?_); rotate_left
  · refine awp_exit ?_
    rw [show x.1 = 8 from (by have := x.2; omega)]
    refine awp_seq ?_
    refine rln ?_
    refine Mv ?_
    refine As ?_
    refine gend ?_
    refine awp_ret ?_
    exact fx1 [0] (hm0 := rfl) (hH := pl1 rfl sees_m pl0)
  refine awp_skip ?_
  refine awp_seq ?_
  refine awp_block ?_
  refine awp_seq ?_
  refine rln ?_
  refine Mv ?_
  refine As ?_
  refine gend ?_
  refine rln ?_
  refine Mv ?_
  refine Mv ?_
  refine Mv ?_
  refine G (q_muln (x := 8) ?_)
  refine G (q_shr64_0 ?_)
  refine G (q_cv64_8 ?_)
  refine G2 (fun _ k_ => q_bsl (fkc rfl (et rfl) rfl (Nat.le_of_ble_eq_true rfl) (fk0 k_))) ?_
  refine G2 (fun _ k_ => q_app k_) ?_
  refine As ?_
  refine gend ?_
  refine rln ?_
  refine G (q_addn (y := 1) ?_)
  refine Mv ?_
  refine gend ?_
  exact ⟨⟨x.1 + 1, by omega⟩, by show 8 - (x.1 + 1) < 8 - x.1; omega, sle_view [2] (fun p h => absurd h (Nat.not_lt_zero _)) (by decide) ⟨rfl, rfl, rfl, trivial⟩ (vh1 (pick_m (congrArg (fun z => some (some z)) (u8_snoc (num8 n x.1) _))))⟩   -- endloop 1
/-- aead.mark$1 -/
theorem pad_ (l : List UInt8) (n : Nat) (hl : l.length = n) (hn : n ≤ 140737488351232) : Good Try.prog 20 [.c (.ro n (u8s l))] [] (sc (.slc 0 0 ((16 - n % 16) % 16) 1)) [some (u8s (padz n))] := by
  refine good_frm 8 Try.func20 rfl rfl rfl rfl rfl rfl ?_
  refine awp_seq ?_
  refine rln ?_
  refine As ?_
  refine gend ?_
  refine awp_seq ?_
  refine rln ?_
  refine Mv ?_
  refine G (q_leno ?_)
  refine G (q_negi ?_)
  refine G (q_pad15 ?_)
  refine G2 (fun _ k_ => q_mks k_) ?_
  refine As ?_
  refine gend ?_
  refine awp_ret ?_
  exact fx1 [0] (hm0 := rfl) (hH := pl1 (cs' := u8s (padz n)) rfl (by rw [rep_u8]; exact sees_m) pl0)
set_option maxHeartbeats 1600000 in
/-- aead.mark -/
theorem mark_ (key nonce ad c : List UInt8) (n k : Nat) (hkey : key.length = 32) (hnonce : nonce.length = 12) (had : ad.length = n) (hn : n ≤ 10000) (hc : c.length = k) (hk : k ≤ 10000) : Good Try.prog 15 [.a (u8s key), .a (u8s nonce), .c (.ro n (u8s ad)), .c (.ro k (u8s c))] [] (sa (u8s (amark key nonce ad c))) [] := by
  have g1 := block key 0 nonce hkey hnonce
  obtain ⟨B, hB⟩ : ∃ z, blk key 0 nonce = z := ⟨_, rfl⟩
  have hBl : B.length = 64 := by rw [← hB]; exact blk_len _ _ _
  rw [hB] at g1
  have hB2 : (B.take 32).length = 32 := by rw [List.length_take, hBl]; rfl
  have hpa := padz_len n
  have hpc := padz_len k
  have hna := num8_len (UInt64.ofNat n) 8
  have hnc := num8_len (UInt64.ofNat k) 8
  have hml := amsg_len ad c
  have g2 := tag_ (B.take 32) [ad, padz n, c, padz k, num8 (UInt64.ofNat n) 8, num8 (UInt64.ofNat k) 8] 6 hB2 rfl (by decide) (by simp only [List.flatten_cons, List.flatten_nil, List.length_append, List.length_nil]; omega)
  rw [show [ad, padz n, c, padz k, num8 (UInt64.ofNat n) 8, num8 (UInt64.ofNat k) 8].flatten = amsg ad c by simp [amsg, had, hc]] at g2
  have gpa := pad_ ad n had (by omega)
  have gpc := pad_ c k hc (by omega)
  have gna := number_ (UInt64.ofNat n)
  have gnc := number_ (UInt64.ofNat k)
  obtain ⟨T, hT⟩ : ∃ z, tag (B.take 32) (amsg ad c) = z := ⟨_, rfl⟩
  have hTl : T.length = 16 := by rw [← hT]; exact tag_len _ _
  rw [hT] at g2
  rw [show amark key nonce ad c = T by rw [← hT, ← hB]; rfl]
  obtain ⟨PA, hPA⟩ : ∃ z, padz n = z := ⟨_, rfl⟩
  obtain ⟨PC, hPC⟩ : ∃ z, padz k = z := ⟨_, rfl⟩
  obtain ⟨NA, hNA⟩ : ∃ z, num8 (UInt64.ofNat n) 8 = z := ⟨_, rfl⟩
  obtain ⟨NC, hNC⟩ : ∃ z, num8 (UInt64.ofNat k) 8 = z := ⟨_, rfl⟩
  rw [hPA] at gpa g2 hpa
  rw [hPC] at gpc g2 hpc
  rw [hNA] at gna g2 hna
  rw [hNC] at gnc g2 hnc
  refine good_frm 35 Try.func15 rfl rfl rfl rfl rfl rfl ?_
  refine awp_seq ?_
  refine rln ?_
  refine G2 (fun _ k_ => q_boxa k_) ?_
  refine G2 (fun _ k_ => q_boxa k_) ?_
  refine G2 (fun _ k_ => q_al k_) ?_
  refine gend ?_
  refine awp_seq ?_
  refine rln ?_
  refine G (q_ldw ?_)
  refine G (q_ldw ?_)
  refine G2 (fun _ k_ => q_callp g1 k_ (ha := (caa (et rfl) sees_m (cac rfl cm_int (caa (et rfl) sees_m ca0))))) ?_
  refine G2 (fun _ k_ => q_al k_) ?_
  refine G20 (fun _ k_ => q_stw k_) ?_
  refine gend ?_
  refine awp_seq ?_
  refine rln ?_
  refine As ?_
  refine gend ?_
  refine awp_seq ?_
  refine rdln [6, 10, 14, 18, 19, 20, 21] [0, 0, 0, 0, 0, 0, 0, 0, 0, 0, 1, 0, 0, 0, 2, 0, 0, 0, 3, 4, 5, 6] [5, 5, 5, 4, 0, 0, 1, 4, 1, 1, 2, 2, 2, 2, 3, 3, 3, 3, 4, 5, 6, 7] ?_
  refine DSp 3 rfl (fun _ hv => q_slp_hi (k := 32) ⟨rfl, rfl⟩ (hp := hv)) ?_
  refine Dp (fun _ => q_s2p ⟨rfl, rfl⟩) ?_
  refine DLa (xs := u8s (B.take 32)) ?_ (hc := cut_pre) (_hp := rfl)
  refine Dp (fun _ => q_mv (s := .v (.c _)) ⟨rfl, rfl⟩) ?_
  refine Dp (fun _ => q_mv (s := .v (.c _)) ⟨rfl, rfl⟩) ?_
  refine Dp (fun _ => q_mv (s := .v (.c _)) ⟨rfl, rfl⟩) ?_
  refine De2 (fun _ k_ => q_callfn gpa k_ (ha := cac (et rfl) sees_ro ca0)) ?_
  refine Dp (fun _ => q_mv (s := .v (.c _)) ⟨rfl, rfl⟩) ?_
  refine Dp (fun _ => q_mv (s := .v (.c _)) ⟨rfl, rfl⟩) ?_
  refine Dp (fun _ => q_mv (s := .v (.c _)) ⟨rfl, rfl⟩) ?_
  refine De2 (fun _ k_ => q_callfn gpc k_ (ha := cac (et rfl) sees_ro ca0)) ?_
  refine Dp (fun _ => q_mv (s := .v (.c _)) ⟨rfl, rfl⟩) ?_
  refine Dp (fun _ => q_leno ⟨rfl, rfl⟩) ?_
  refine Dp (fun _ => q_cv0_64 ⟨rfl, rfl⟩) ?_
  refine De2 (fun _ k_ => q_calln gna k_ (ha := (cac (et rfl) cm_int ca0))) ?_
  refine Dp (fun _ => q_mv (s := .v (.c _)) ⟨rfl, rfl⟩) ?_
  refine Dp (fun _ => q_leno ⟨rfl, rfl⟩) ?_
  refine Dp (fun _ => q_cv0_64 ⟨rfl, rfl⟩) ?_
  refine De2 (fun _ k_ => q_calln gnc k_ (ha := (cac (et rfl) cm_int ca0))) ?_
  refine De2 (fun _ k_ => q_bsl (fkc rfl (et rfl) rfl (Nat.le_of_ble_eq_true rfl) (fkc rfl (et rfl) rfl (Nat.le_of_ble_eq_true rfl) (fkc rfl (et rfl) rfl (Nat.le_of_ble_eq_true rfl) (fkc rfl (et rfl) rfl (Nat.le_of_ble_eq_true rfl) (fkc rfl (et rfl) rfl (Nat.le_of_ble_eq_true rfl) (fkc rfl (et rfl) rfl (Nat.le_of_ble_eq_true rfl) (fk0 k_)))))))) ?_
  refine De2 (fun _ k_ => q_callp g2 k_ (ha := (caa (et rfl) sees_m (cac (et rfl) (sees_parts rfl rfl (pq_ro had (pq_slc rfl rfl (cut_h hpa) hpa (pq_ro hc (pq_slc rfl rfl (cut_h hpc) hpc (pq_slc rfl rfl (cut_h hna) hna (pq_slc rfl rfl (cut_h hnc) hnc pq0))))))) ca0)))) ?_
  refine De20 (fun _ k_ => q_stw k_) ?_
  refine dend ?_
  refine awp_ret ?_
  exact fpc (t := 41) (a := 8) (hn := (mapc_length ..).trans hTl)
end Go.Proofs.Ytcihpgdmldkjfaa

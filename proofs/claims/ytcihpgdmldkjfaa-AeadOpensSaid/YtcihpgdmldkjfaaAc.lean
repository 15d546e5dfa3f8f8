/- What functions of the program do, walked over the abstract machine. -/
import Derived.Test.YtcihpgdmldkjfaaAb
namespace Go.Proofs.Ytcihpgdmldkjfaa
open Go Go.Abs Go.Proofs Go.Proofs.Ytcihpgdmldkjfaa.Ch Go.Proofs.Ytcihpgdmldkjfaa.Po

theorem snoc0 (l : List UInt8) (i : Nat) : u8s (l ++ List.replicate i 0) ++ [c8 0] = u8s (l ++ List.replicate (i + 1) 0) := by
  rw [u8_snoc, List.append_assoc, ← List.replicate_succ']
def rnon (n : UInt64) : Nat → List UInt8
  | 0 => List.replicate 12 0
  | i + 1 => (rnon n i).set (4 + i) (shr64n n (UInt64.ofNat (8 * i)).toNat).toUInt8
theorem rnon_len (n : UInt64) : ∀ i, (rnon n i).length = 12
  | 0 => rfl
  | i + 1 => by rw [rnon, List.length_set, rnon_len]
theorem ofn_8 (i : Nat) (h : i < 8) : (UInt64.ofNat (8 * i)).toNat = 8 * i := by
  rw [UInt64.toNat_ofNat']; exact Nat.mod_eq_of_lt (by omega)
theorem rnon_8 (n : UInt64) : rnon n 8 = anonce n := by
  have h : ∀ i : Fin 8, (UInt64.ofNat (8 * i.1)).toNat = 8 * i.1 := by decide +kernel
  unfold anonce
  simp only [rnon, num8, h 0, h 1, h 2, h 3, h 4, h 5, h 6, h 7, ofn_8 0 (by decide), ofn_8 1 (by decide), ofn_8 2 (by decide), ofn_8 3 (by decide), ofn_8 4 (by decide), ofn_8 5 (by decide), ofn_8 6 (by decide), ofn_8 7 (by decide)]
  rfl
theorem num8_ref (n : UInt64) (i : Nat) (h : i < 8) : u8s (num8 n i) ++ [c8 (shr64n n (UInt64.ofNat (8 * i)).toNat).toUInt8] = u8s (num8 n (i + 1)) := by
  rw [ofn_8 i h]; exact u8_snoc _ _
theorem cpy_k (B : List UInt8) (h : B.length = 64) : splice (u8s (List.replicate 32 0)) 0 ((u8s (B.take 32)).take (min 32 32 * 1)) = u8s (B.take 32) := by
  have h2 : (B.take 32).length = 32 := by rw [List.length_take, h]; rfl
  rw [show min 32 32 * 1 = 32 from rfl, all_m h2]
  exact splice_whole (by rw [mapc_length, mapc_length, h2]; rfl)
theorem app_cut {a b : List UInt8} {p q : Nat} (ha : a.length = p) (hb : b.length = q) : ((u8s a ++ u8s b).drop 0).take ((p + q) * 1) = u8s (a ++ b) := by
  rw [mapc_append]; exact cut_h (by rw [List.length_append, ha, hb])
/-- escutcheonref10.padded -/
theorem padded_ (l : List UInt8) (n : Nat) (hl : l.length = n) (hn : n ≤ 10000) : Good Try.prog 23 [.c (.ro n (u8s l))] [] (sc (.slc 0 0 (n + (16 - n % 16) % 16) 1)) [some (u8s (l ++ padz n))] := by
  refine good_frm 14 Try.func23 rfl rfl rfl rfl rfl rfl ?_
  refine awp_seq ?_
  refine rln ?_
  refine As ?_
  refine gend ?_
  refine awp_seq ?_
  refine rln ?_
  refine Mv ?_
  refine G2 (fun _ k_ => q_app k_ (eB := el_ro (by rw [mapc_length, hl, Nat.mul_one]))) ?_
  refine As ?_
  refine gend ?_
  refine awp_seq ?_
  refine awp_block ?_
  refine awp_loop (fun x : {i : Nat // i ≤ (16 - n % 16) % 16} => ⟨frm 14 [(3, sc (.slc 0 0 (n + x.1) 1))], [some (u8s (l ++ List.replicate x.1 0))]⟩) (fun x => (16 - n % 16) % 16 - x.1) ⟨0, Nat.zero_le _⟩ (sle_sub ⟨by rw [Nat.zero_add]; rfl, trivial⟩ (by show [some (u8s l)] = [some (u8s (l ++ []))]; rw [List.append_nil])) fun x => ?_   -- live: [3]
  have hxl : (l ++ List.replicate x.1 (0 : UInt8)).length = n + x.1 := by simp [hl]
  refine awp_seq ?_
  refine awp_seq ?_
  refine rln ?_
  refine Mv ?_
  refine G (q_lenc ?_)
  refine G (q_remn (y := 16) ?_)
  refine G (q_neqn (y := 0) ?_)
  refine gend ?_
  refine cnd (fun hc1 => ?_) (fun hc1 => ?_); rotate_left
  · refine awp_exit ?_
    have hx : x.1 = (16 - n % 16) % 16 := by have := x.2; omega
    rw [hx]
    refine awp_seq ?_
    refine rln ?_
    refine Mv ?_
    refine As ?_
    refine gend ?_
    refine awp_ret ?_
    exact fx1 [0] (hm0 := rfl) (hH := pl1 rfl sees_m pl0)
  refine awp_skip ?_
  refine awp_block ?_
  refine rln ?_
  refine Mv ?_
  refine G2 (fun _ k_ => q_bsl (fkc (c := c8 0) rfl rfl rfl (Nat.le_of_ble_eq_true rfl) (fk0 k_))) ?_
  refine G2 (fun _ k_ => q_app k_ (eA := el_slc (xs := u8s (l ++ List.replicate x.1 0)) rfl (by rw [mapc_length, hxl]; omega) (by rw [Nat.mul_one]; exact cut_pre.trans (congrArg u8s (List.take_of_length_le (by omega))))) (eB := el_slc (xs := [_]) rfl (Nat.le_refl 1) rfl)) ?_
  refine As ?_
  refine gend ?_
  exact ⟨⟨x.1 + 1, by omega⟩, by show (16 - n % 16) % 16 - (x.1 + 1) < (16 - n % 16) % 16 - x.1; omega, sle_view [2] (fun p h => absurd h (Nat.not_lt_zero _)) (by decide) ⟨rfl, trivial⟩ (vh1 (pick_m (congrArg (fun z => some (some z)) (snoc0 l x.1))))⟩   -- endloop 1
/-- escutcheonref10.long -/
theorem long_ (n : Nat) : Good Try.prog 25 [.c (cn n)] [] (sc (.slc 0 0 8 1)) [some (u8s (num8 (UInt64.ofNat n) 8))] := by
  refine good_frm 20 Try.func25 rfl rfl rfl rfl rfl rfl ?_
  refine awp_seq ?_
  refine rln ?_
  refine As ?_
  refine gend ?_
  refine awp_seq ?_
  refine rln ?_
  refine As ?_
  refine gend ?_
  refine awp_seq ?_
  refine awp_seq ?_
  refine rln ?_
  refine G (q_as (s := sc (cn 0)) ?_)
  refine gend ?_
  refine awp_le (sle_empty (al' := [(0, sc (cn n)), (3, sc (.slc 0 0 0 1)), (4, sc (cn 0))]) 1 (Nat.zero_le _) ⟨.inl rfl, .inr ⟨rfl, rfl⟩, .inl rfl, trivial⟩) ?_
  refine awp_block ?_
  refine awp_loop (fun x : {i : Nat // i ≤ 8} => ⟨frm 20 [(0, sc (cn n)), (3, sc (.slc 0 0 x.1 1)), (4, sc (cn x.1))], [some (u8s (num8 (UInt64.ofNat n) x.1))]⟩) (fun x => 8 - x.1) ⟨0, Nat.zero_le _⟩ (sle_sub ⟨rfl, rfl, rfl, trivial⟩ rfl) fun x => ?_   -- live: [0, 3, 4]
  have h5 := num8_len (UInt64.ofNat n) x.1
  refine awp_seq ?_
  refine awp_seq ?_
  refine rln ?_
  refine Mv ?_
  refine G (q_lssn (y := 8) ?_)
  refine gend ?_
  refine cnd (fun hc1 => ?_) (fun hc1 => ?_); rotate_left
  · refine awp_exit ?_
    rw [show x.1 = 8 from (by have := x.2; omega)]
    refine awp_seq ?_
    refine rln ?_
    refine Mv ?_
    refine As ?_
    refine gend ?_
    refine awp_ret ?_
    exact fx1 [0] (hm0 := rfl) (hH := pl1 rfl sees_m pl0)
  refine awp_skip ?_
  refine awp_seq ?_
  refine awp_block ?_
  refine rln ?_
  refine Mv ?_
  refine Mv ?_
  refine G (q_cv0_64 ?_)
  refine Mv ?_
  refine G (q_muln (x := 8) ?_)
  refine G (q_cv0_64 ?_)
  refine G (q_shr64_64 ?_)
  refine G (q_cv64_8 ?_)
  refine G2 (fun _ k_ => q_bsl (fkc rfl (et rfl) rfl (Nat.le_of_ble_eq_true rfl) (fk0 k_))) ?_
  refine G2 (fun _ k_ => q_app k_) ?_
  refine As ?_
  refine gend ?_
  refine rln ?_
  refine Mv ?_
  refine G (q_addn (y := 1) ?_)
  refine As ?_
  refine gend ?_
  exact ⟨⟨x.1 + 1, by omega⟩, by show 8 - (x.1 + 1) < 8 - x.1; omega, sle_view [2] (fun p h => absurd h (Nat.not_lt_zero _)) (by decide) ⟨rfl, rfl, rfl, trivial⟩ (vh1 (pick_m (congrArg (fun z => some (some z)) (num8_ref (UInt64.ofNat n) x.1 (by omega)))))⟩   -- endloop 1
/-- escutcheonref10.Nonce -/
theorem rnonce_ (n : UInt64) : Good Try.prog 10 [.c (c64 n)] [] (sa (u8s (anonce n))) [] := by
  have hA := rnon_len n 8
  refine good_frm 19 Try.func10 rfl rfl rfl rfl rfl rfl ?_
  refine awp_seq ?_
  refine rln ?_
  refine G2 (fun _ k_ => q_al k_) ?_
  refine gend ?_
  refine awp_seq ?_
  refine rln ?_
  refine G2 (fun _ k_ => q_al k_) ?_
  refine gend ?_
  refine awp_seq ?_
  refine awp_seq ?_
  refine rln ?_
  refine G (q_as (s := sc (cn 0)) ?_)
  refine gend ?_
  refine awp_block ?_
  refine awp_loop (fun x : {i : Nat // i ≤ 8} => ⟨frm 19 [(0, sc (c64 n)), (2, sc (.ptr 0 0)), (3, sc (.ptr 1 0)), (4, sc (cn x.1))], [some (u8s (List.replicate 12 0)), some (u8s (rnon n x.1))]⟩) (fun x => 8 - x.1) ⟨0, Nat.zero_le _⟩ (sle_sub ⟨rfl, rfl, rfl, rfl, trivial⟩ rfl) fun x => ?_   -- live: [0, 3, 4]
  have h5 := rnon_len n x.1
  refine awp_seq ?_
  refine awp_seq ?_
  refine rln ?_
  refine Mv ?_
  refine G (q_lssn (y := 8) ?_)
  refine gend ?_
  refine cnd (fun hc1 => ?_) (fun hc1 => ?_); rotate_left
  · refine awp_exit ?_
    rw [show x.1 = 8 from (by have := x.2; omega)]
    refine awp_seq ?_
    refine rln ?_
    refine G (q_ldw ?_)
    refine G20 (fun _ k_ => q_stw k_) ?_
    refine gend ?_
    refine awp_ret ?_
    exact fpc (t := 27) (a := 2) (hn := (mapc_length ..).trans hA) (hv := by rw [← rnon_8])
  refine awp_skip ?_
  refine awp_seq ?_
  refine awp_block ?_
  refine rln ?_
  refine Mv ?_
  refine G (q_addn (x := 4) ?_)
  refine Mv ?_
  refine Mv ?_
  refine G (q_muln (x := 8) ?_)
  refine G (q_cv0_64 ?_)
  refine G (q_shr64_64 ?_)
  refine G (q_cv64_8 ?_)
  refine G (q_ixp1 ?_)
  refine G20 (fun _ k_ => q_stm k_) ?_
  refine gend ?_
  refine rln ?_
  refine Mv ?_
  refine G (q_addn (y := 1) ?_)
  refine As ?_
  refine gend ?_
  exact ⟨⟨x.1 + 1, by omega⟩, by show 8 - (x.1 + 1) < 8 - x.1; omega, sle_sub ⟨rfl, rfl, rfl, rfl, trivial⟩ rfl⟩   -- endloop 1
set_option maxHeartbeats 1600000 in
/-- escutcheonref10.mark -/
theorem rmark_ (key nonce ad c : List UInt8) (n k : Nat) (hkey : key.length = 32) (hnonce : nonce.length = 12) (had : ad.length = n) (hn : n ≤ 10000) (hc : c.length = k) (hk : k ≤ 10000) : Good Try.prog 18 [.a (u8s key), .a (u8s nonce), .c (.ro n (u8s ad)), .c (.ro k (u8s c))] [] (sa (u8s (amark key nonce ad c))) [] := by
  have g1 := rblock' key 0 nonce hkey hnonce
  obtain ⟨B, hB⟩ : ∃ z, blk key 0 nonce = z := ⟨_, rfl⟩
  have hBl : B.length = 64 := by rw [← hB]; exact blk_len _ _ _
  rw [hB] at g1
  have hB2 : (B.take 32).length = 32 := by rw [List.length_take, hBl]; rfl
  have hcp := cpy_k B hBl
  have hpa : (ad ++ padz n).length = n + (16 - n % 16) % 16 := by rw [List.length_append, padz_len, had]
  have hpc : (c ++ padz k).length = k + (16 - k % 16) % 16 := by rw [List.length_append, padz_len, hc]
  have hna := num8_len (UInt64.ofNat n) 8
  have hnc := num8_len (UInt64.ofNat k) 8
  have hml := amsg_len ad c
  have hm0 : (((ad ++ padz n) ++ (c ++ padz k)) ++ num8 (UInt64.ofNat n) 8) ++ num8 (UInt64.ofNat k) 8 = amsg ad c := by rw [amsg, had, hc]; simp only [List.append_assoc]
  have hmn : (amsg ad c).length = n + (16 - n % 16) % 16 + (k + (16 - k % 16) % 16) + 8 + 8 := by rw [← hm0]; simp only [List.length_append, hpa, hpc, hna, hnc, padz_len, had, hc]
  have g2 := rtag_ (B.take 32) (amsg ad c) (n + (16 - n % 16) % 16 + (k + (16 - k % 16) % 16) + 8 + 8) hB2 hmn (by omega)
  rw [← tag_rtag] at g2
  have gpa := padded_ ad n had hn
  have gpc := padded_ c k hc hk
  have gna := long_ n
  have gnc := long_ k
  obtain ⟨T, hT⟩ : ∃ z, tag (B.take 32) (amsg ad c) = z := ⟨_, rfl⟩
  have hTl : T.length = 16 := by rw [← hT]; exact tag_len _ _
  rw [hT] at g2
  rw [show amark key nonce ad c = T by rw [← hT, ← hB]; rfl]
  obtain ⟨PA, hPA⟩ : ∃ z, ad ++ padz n = z := ⟨_, rfl⟩
  obtain ⟨PC, hPC⟩ : ∃ z, c ++ padz k = z := ⟨_, rfl⟩
  obtain ⟨NA, hNA⟩ : ∃ z, num8 (UInt64.ofNat n) 8 = z := ⟨_, rfl⟩
  obtain ⟨NC, hNC⟩ : ∃ z, num8 (UInt64.ofNat k) 8 = z := ⟨_, rfl⟩
  obtain ⟨W, hW⟩ : ∃ z, amsg ad c = z := ⟨_, rfl⟩
  obtain ⟨K, hK⟩ : ∃ z, B.take 32 = z := ⟨_, rfl⟩
  rw [hPA] at gpa hpa
  rw [hPC] at gpc hpc
  rw [hNA] at gna hna
  rw [hNC] at gnc hnc
  rw [hPA, hPC, hNA, hNC, hW] at hm0
  rw [hW, hK] at g2
  rw [hK] at hcp hB2
  obtain ⟨p, hp⟩ : ∃ p, n + (16 - n % 16) % 16 = p := ⟨_, rfl⟩
  obtain ⟨q, hq⟩ : ∃ q, k + (16 - k % 16) % 16 = q := ⟨_, rfl⟩
  rw [hp] at gpa hpa g2
  rw [hq] at gpc hpc g2
  have hpb : p ≤ 10100 := by omega
  have hqb : q ≤ 10100 := by omega
  have hs1 : (PA ++ PC).length = p + q := by rw [List.length_append, hpa, hpc]
  have hs2 : ((PA ++ PC) ++ NA).length = p + q + 8 := by rw [List.length_append, hs1, hna]
  refine good_frm 34 Try.func18 rfl rfl rfl rfl rfl rfl ?_
  refine awp_seq ?_
  refine rln ?_
  refine G2 (fun _ k_ => q_boxa k_) ?_
  refine G2 (fun _ k_ => q_boxa k_) ?_
  refine G2 (fun _ k_ => q_al k_) ?_
  refine gend ?_
  refine awp_seq ?_
  refine rln ?_
  refine G (q_ldw ?_)
  refine G (q_ldw ?_)
  refine G2 (fun _ k_ => q_callp g1 k_ (ha := (caa (et rfl) sees_m (cac rfl cm_int (caa (et rfl) sees_m ca0))))) ?_
  refine G2 (fun _ k_ => q_al k_) ?_
  refine G20 (fun _ k_ => q_stw k_) ?_
  refine gend ?_
  refine awp_seq ?_
  refine rln ?_
  refine G2 (fun _ k_ => q_al k_) ?_
  refine gend ?_
  refine awp_seq ?_
  refine rdln [2] [] [0, 0, 1] ?_
  refine DSp 4 rfl (fun _ hv => q_slp_no ⟨rfl, rfl⟩ (hp := hv)) ?_
  refine DSp 3 rfl (fun _ hv => q_slp_hi (k := 32) ⟨rfl, rfl⟩ (hp := hv)) ?_
  refine De2 (fun _ k_ => q_cpy k_ (eB := el_slc (xs := u8s K) rfl (by rw [mapc_length, hBl]; decide) (by rw [Nat.mul_one, ← hK]; exact cut_pre))) ?_ (hH := by simp only [List.set_cons_zero, List.set_cons_succ, List.cons_append, List.nil_append]; exact congrArg (fun z => [some (u8s key), some (u8s nonce), some (u8s (List.replicate 16 0)), some (u8s B), some z]) hcp)
  refine dend ?_
  refine awp_seq ?_
  refine rln ?_
  refine Mv ?_
  refine G2 (fun _ k_ => q_calln gpa k_ (ha := (cac (et rfl) sees_ro ca0))) ?_
  refine Mv ?_
  refine G2 (fun _ k_ => q_calln gpc k_ (ha := (cac (et rfl) sees_ro ca0))) ?_
  refine G2 (fun _ k_ => q_app k_) ?_
  refine As ?_
  refine gend ?_
  refine awp_seq ?_
  refine rdln [4, 5, 8, 9, 10, 11] [0, 0, 0, 0, 0, 1, 0, 0, 2, 3, 4, 5] [4, 1, 0, 0, 1, 2, 2, 2, 3, 4, 5, 6] ?_
  refine DLw ?_
  refine Dp (fun _ => q_mv (s := .v (.c _)) ⟨rfl, rfl⟩) ?_
  refine Dp (fun _ => q_mv (s := .v (.c _)) ⟨rfl, rfl⟩) ?_
  refine Dp (fun _ => q_leno ⟨rfl, rfl⟩) ?_
  refine De2 (fun _ k_ => q_calln gna k_ (ha := (cac (et rfl) cm_int ca0))) ?_
  refine De2 (fun _ k_ => q_app k_ (eA := el_slc (xs := u8s (PA ++ PC)) rfl (by rw [mapc_append, mapc_length, hs1]; omega) (app_cut hpa hpc))) ?_
  refine Dp (fun _ => q_mv (s := .v (.c _)) ⟨rfl, rfl⟩) ?_
  refine Dp (fun _ => q_leno ⟨rfl, rfl⟩) ?_
  refine De2 (fun _ k_ => q_calln gnc k_ (ha := (cac (et rfl) cm_int ca0))) ?_
  refine De2 (fun _ k_ => q_app k_ (eA := el_slc (xs := u8s ((PA ++ PC) ++ NA)) rfl (by rw [mapc_append, mapc_length, hs2]; omega) (app_cut hs1 hna))) ?_
  refine De2 (fun _ k_ => q_callp g2 k_ (ha := (caa (et rfl) sees_m (cac (et rfl) (sees_slc rfl rfl ((app_cut hs2 hnc).trans (by rw [hm0]))) ca0)))) ?_
  refine De20 (fun _ k_ => q_stw k_) ?_
  refine dend ?_
  refine awp_ret ?_
  exact fpc (t := 41) (a := 8) (hn := (mapc_length ..).trans hTl)
set_option maxHeartbeats 800000 in
/-- escutcheonref10.Seal -/
theorem rseal_ (key nonce ad l : List UInt8) (n k : Nat) (hkey : key.length = 32) (hnonce : nonce.length = 12) (had : ad.length = n) (hn : n ≤ 10000) (hc : l.length = k) (hk : k ≤ 10000) : Good Try.prog 11 [.a (u8s key), .a (u8s nonce), .c (.ro n (u8s ad)), .c (.ro k (u8s l))] [] (sc (.slc 0 0 (k + 16) 1)) [some (u8s (aseal key nonce ad l))] := by
  have g1 := rxor key 1 nonce k l hkey hnonce hc (by omega)
  obtain ⟨C, hC⟩ : ∃ z, xw key 1 nonce l k = z := ⟨_, rfl⟩
  have hCl : C.length = k := by rw [← hC]; exact xw_len _ _ _ _ _
  rw [hC] at g1
  have g2 := rmark_ key nonce ad C n k hkey hnonce had hn hCl hk
  obtain ⟨T, hT⟩ : ∃ z, amark key nonce ad C = z := ⟨_, rfl⟩
  have hTl : T.length = 16 := by rw [← hT]; exact amark_len _ _ _ _
  rw [hT] at g2
  rw [show aseal key nonce ad l = C ++ T by rw [← hT, ← hC, ← hc]; rfl]
  have hC0 : C.length = 0 + k := by omega
  refine good_frm 24 Try.func11 rfl rfl rfl rfl rfl rfl ?_
  refine awp_seq ?_
  refine rln ?_
  refine G2 (fun _ k_ => q_boxa k_) ?_
  refine G2 (fun _ k_ => q_boxa k_) ?_
  refine As ?_
  refine gend ?_
  refine awp_seq ?_
  refine rln ?_
  refine G (q_ldw ?_)
  refine G (q_ldw ?_)
  refine Mv ?_
  refine G2 (fun _ k_ => q_calln g1 k_ (ha := (caa (et rfl) sees_m (cac rfl cm_int (caa (et rfl) sees_m (cac (et rfl) sees_ro ca0)))))) ?_
  refine As ?_
  refine gend ?_
  refine awp_seq ?_
  refine rln ?_
  refine G (q_ldw ?_)
  refine G (q_ldw ?_)
  refine Mv ?_
  refine Mv ?_
  refine G2 (fun _ k_ => q_callp g2 k_ (ha := (caa (et rfl) sees_m (caa (et rfl) sees_m (cac (et rfl) sees_ro (cac (et rfl) (sees_slc rfl rfl (cut_h hCl)) ca0)))))) ?_
  refine G2 (fun _ k_ => q_al k_) ?_
  refine G20 (fun _ k_ => q_stw k_) ?_
  refine gend ?_
  refine awp_seq ?_
  refine rdln [1, 3] [0, 0, 0, 1, 2] [0, 1, 1, 2, 2] ?_
  refine Dp (fun _ => q_mv (s := .v (.c _)) ⟨rfl, rfl⟩) ?_
  refine De2  (fun _ k_ => q_app k_) ?_
  refine DSp 3 rfl (fun _ hv => q_slp_no ⟨rfl, rfl⟩ (hp := hv)) ?_
  refine De2 (fun _ k_ => q_app k_ (eA := el_slc (xs := u8s C) rfl (by rw [mapc_length]; omega) (cut_h hC0))) ?_
  refine Dp (fun _ => q_as (s := .v (.c _)) ⟨rfl, rfl⟩) ?_
  refine dend ?_
  refine awp_ret ?_
  exact fx1 [5] (hm0 := by rw [Nat.zero_add]) (hH := pl1 (cs' := u8s (C ++ T)) rfl (by rw [mapc_append]; exact sees_m) pl0)
end Go.Proofs.Ytcihpgdmldkjfaa

/- What functions of the program do, walked over the abstract machine. -/
import Derived.Test.YtcihpgdmldkjfaaAd
namespace Go.Proofs.Ytcihpgdmldkjfaa
open Go Go.Abs Go.Proofs Go.Proofs.Ytcihpgdmldkjfaa.Ch Go.Proofs.Ytcihpgdmldkjfaa.Po

theorem cut_all {l : List UInt8} {n : Nat} (h : l.length = n) : ((u8s l).drop 0).take n = u8s l := by
  subst h; rw [List.drop_zero, List.take_of_length_le (by rw [mapc_length]; exact Nat.le_refl _)]
set_option maxHeartbeats 800000 in
/-- escutcheonlaw10.known -/
theorem known : Good Try.prog 6 [] [] (sc (.bool true)) [] := by
  have g1 := nonce_ 1
  obtain ⟨N, hN⟩ : ∃ z, anonce 1 = z := ⟨_, rfl⟩
  have hNl : N.length = 12 := by rw [← hN]; exact anonce_len _
  rw [hN] at g1
  have g2 := open_short (List.replicate 32 0) N [] (List.replicate 15 0) 0 15 rfl hNl rfl (by decide) rfl (by decide) (by decide)
  refine good_frm 12 Try.func6 rfl rfl rfl rfl rfl rfl ?_
  refine awp_seq ?_
  refine rln ?_
  refine As ?_
  refine gend ?_
  refine awp_seq ?_
  refine rdln [2, 3] [0, 0, 0, 1, 2, 2, 2, 2, 2] [1, 1, 1, 2, 2, 2, 2, 2, 2] ?_
  refine Dp (fun _ => q_bla (fk0 ⟨rfl, rfl⟩)) ?_
  refine Dp (fun _ => q_callp g1 ⟨rfl, rfl⟩ (ha := (cac rfl cm_int ca0))) ?_
  refine De2 (fun _ k_ => q_mks k_) ?_
  refine De2 (fun _ k_ => q_callp g2 k_ (ha := (caa (et rfl) rfl (caa (et rfl) sees_m (cac rfl sees_nil8 (cac (et rfl) (sees_slc rfl rfl rfl) ca0)))))) ?_
  refine Dp (fun _ => q_mv (s := .t _) ⟨rfl, rfl⟩) ?_
  refine Dp (fun _ => q_ext (y := .c _) ⟨rfl, rfl⟩) ?_
  refine Dp (fun _ => q_ext (y := .c _) ⟨rfl, rfl⟩) ?_
  refine Dp (fun _ => q_as (s := .v (.c _)) ⟨rfl, rfl⟩) ?_
  refine Dp (fun _ => q_as (s := .v (.c _)) ⟨rfl, rfl⟩) ?_
  refine dend ?_
  refine awp_seq ?_
  refine rln ?_
  refine Mv ?_
  refine G (q_eqln (y := 8) ?_)
  refine As ?_
  refine gend ?_
  refine awp_ret ?_
  exact fp1
set_option maxHeartbeats 1600000 in
/-- escutcheonlaw10.AeadSeals -/
theorem seals_ (key ad l : List UInt8) (m : UInt64) (n k : Nat) (hkey : key.length = 32) (had : ad.length = n) (hc : l.length = k) (hn9 : n ≤ 140737488351232) (hk9 : k ≤ 140737488351232) : Good Try.prog 3 [.a (u8s key), .c (c64 m), .c (.ro n (u8s ad)), .c (.ro k (u8s l))] [] (sc (.bool true)) [] := by
  refine good_frm 76 Try.func3 rfl rfl rfl rfl rfl rfl ?_
  refine awp_seq ?_
  refine rln ?_
  refine G2 (fun _ k_ => q_boxa k_) ?_
  refine As ?_
  refine gend ?_
  refine awp_seq ?_
  refine awp_seq ?_
  refine rln ?_
  refine Mv ?_
  refine G (q_leno ?_)
  refine G (q_gtrn (y := 400) ?_)
  refine Mv ?_
  refine Aspd 17 (fun hb4 => ?_) (fun hb4 => ?_)
  · refine Gn ?_
    refine Gn ?_
    refine Gn ?_
    refine G (q_pkt ?_)
    refine gend ?_
    refine cndT ?_
    refine awp_seq ?_
    refine rln ?_
    refine G2 (fun _ k_ => q_callp (known/- escutcheon/escutcheonlaw10.known -/) k_) ?_
    refine As ?_
    refine gend ?_
    refine awp_ret ?_
    exact fp1
  refine Gg (q_mv (s := .v (.c _)) ?_)
  refine Gg (q_leno ?_)
  refine Gg (q_gtrn (y := 400) ?_)
  refine G (q_pkf ?_)
  refine gend ?_
  refine cnd (fun hc1 => ?_) (fun hc1 => ?_)
  · refine awp_seq ?_
    refine rln ?_
    refine G2 (fun _ k_ => q_callp (known/- escutcheon/escutcheonlaw10.known -/) k_) ?_
    refine As ?_
    refine gend ?_
    refine awp_ret ?_
    exact fp1
  have gn := nonce_ m
  have gr := rnonce_ m
  have hNl := anonce_len m
  obtain ⟨N, hN⟩ : ∃ z, anonce m = z := ⟨_, rfl⟩
  rw [hN] at gn gr hNl
  have hl0 : l.length = 0 + k := by omega
  have hS1 : (aseal key N ad l).length = 0 + k + 16 := by rw [aseal_len]; omega
  have hS2 : (aseal key N ad l).length = k + 16 := by rw [aseal_len]; omega
  have hl1 : l.length = 0 + k + 16 - 16 := by omega
  have gs := seal_ key N ad l n (0 + k) hkey hNl had (by omega) hl0 (by omega)
  have gq := rseal_ key N ad l n k hkey hNl had (by omega) hc (by omega)
  have go := open_some key N ad (aseal key N ad l) n (0 + k + 16) hkey hNl had (by omega) hS1 (by omega) l (aopen_aseal key N ad l)
  obtain ⟨S, hS⟩ : ∃ z, aseal key N ad l = z := ⟨_, rfl⟩
  rw [hS] at gs gq go hS1 hS2
  refine awp_skip ?_
  refine awp_seq ?_
  refine rln ?_
  refine Mv ?_
  refine G2 (fun _ k_ => q_callp gn k_ (ha := (cac (et rfl) cm_int ca0))) ?_
  refine G2 (fun _ k_ => q_al k_) ?_
  refine G20 (fun _ k_ => q_stw k_) ?_
  refine gend ?_
  refine awp_seq ?_
  refine rln ?_
  refine Mv ?_
  refine G2 (fun _ k_ => q_app k_) ?_
  refine As ?_
  refine gend ?_
  refine awp_seq ?_
  refine rln ?_
  refine G (q_ldw ?_)
  refine G (q_ldw ?_)
  refine Mv ?_
  refine Mv ?_
  refine G2 (fun _ k_ => q_calln gs k_ (ha := (caa (et rfl) sees_m (caa (et rfl) sees_m (cac (et rfl) sees_ro (cac (et rfl) (sees_slc rfl rfl (cut_h hl0)) ca0)))))) ?_
  refine As ?_
  refine gend ?_
  refine awp_seq ?_
  refine rln ?_
  refine G (q_ldw ?_)
  refine G (q_ldw ?_)
  refine Mv ?_
  refine Mv ?_
  refine G2 (fun _ k_ => q_calln go k_ (ha := (caa (et rfl) sees_m (caa (et rfl) sees_m (cac (et rfl) sees_ro (cac (et rfl) (sees_slc rfl rfl (cut_h hS1)) ca0)))))) ?_
  refine G (q_mv (s := .t _) ?_)
  refine G (q_ext (y := .c _) ?_)
  refine G (q_ext (y := .c _) ?_)
  refine As ?_
  refine As ?_
  refine gend ?_
  refine awp_seq ?_
  refine rdln [2, 11, 34] [0, 0, 0, 1, 1, 1, 1, 1, 1, 1, 1, 1, 2, 2, 2, 2, 2, 2, 2, 2, 2, 2, 2, 2, 2, 2, 2, 2, 2, 2, 2, 2, 2, 2, 2, 3, 3] [1, 0, 1, 1, 1, 2, 2, 1, 1, 1, 1, 2, 2, 2, 2, 2, 2, 2, 2, 2, 2, 2, 2, 2, 2, 2, 2, 2, 2, 2, 2, 2, 2, 2, 3, 3, 3] ?_
  refine DLw ?_
  refine Dp (fun _ => q_mv (s := .v (.c _)) ⟨rfl, rfl⟩) ?_
  refine De2 (fun _ k_ => q_callp gr k_ (ha := (cac (et rfl) cm_int ca0))) ?_
  refine Dp (fun _ => q_eqa8 ⟨rfl, rfl⟩) ?_
  refine Dp (fun _ => q_mv (s := .v (.c _)) ⟨rfl, rfl⟩) ?_
  refine Dknd 44 (fun hb5 => ?_) ?_; rotate_left
  · exact rfl
  refine Dpg (fun _ => q_mv (s := .v (.c _)) ⟨rfl, rfl⟩) ?_
  refine DCsg  ?_ (hc := cut_all hS1)
  refine DLwg ?_
  refine DLwg ?_
  refine Dpg (fun _ => q_mv (s := .v (.c _)) ⟨rfl, rfl⟩) ?_
  refine Dpg (fun _ => q_mv (s := .v (.c _)) ⟨rfl, rfl⟩) ?_
  refine De2g (fun _ k_ => q_calln gq k_ (ha := (caa (et rfl) sees_m (caa (et rfl) sees_m (cac (et rfl) sees_ro (cac (et rfl) sees_ro ca0)))))) ?_
  refine DCsg  ?_ (hc := cut_all hS2)
  refine Dpg (fun _ => q_eqls ⟨rfl, rfl⟩) ?_
  refine Dp (fun _ => q_pkt ⟨rfl, rfl⟩) ?_
  refine Dp (fun _ => q_mv (s := .v (.c _)) ⟨rfl, rfl⟩) ?_
  refine Dknd 55 (fun hb16 => ?_) ?_; rotate_left
  · exact rfl
  refine Dpg (fun _ => q_mv (s := .v (.c _)) ⟨rfl, rfl⟩) ?_
  refine DCsg  ?_ (hc := cut_all hl0)
  refine Dpg (fun _ => q_mv (s := .v (.c _)) ⟨rfl, rfl⟩) ?_
  refine Dpg (fun _ => q_cso ⟨rfl, rfl⟩) ?_
  refine Dpg (fun _ => q_eqls ⟨rfl, rfl⟩) ?_
  refine Dp (fun _ => q_pkt ⟨rfl, rfl⟩) ?_
  refine Dp (fun _ => q_mv (s := .v (.c _)) ⟨rfl, rfl⟩) ?_
  refine Dknd 62 (fun hb23 => ?_) ?_; rotate_left
  · exact rfl
  refine Dpg (fun _ => q_mv (s := .v (.c _)) ⟨rfl, rfl⟩) ?_
  refine Dpg (fun _ => q_eqln (y := 0) ⟨rfl, rfl⟩) ?_
  refine Dp (fun _ => q_pkt ⟨rfl, rfl⟩) ?_
  refine Dp (fun _ => q_mv (s := .v (.c _)) ⟨rfl, rfl⟩) ?_
  refine Dknd 66 (fun hb27 => ?_) ?_; rotate_left
  · exact rfl
  refine Dpg (fun _ => q_mv (s := .v (.c _)) ⟨rfl, rfl⟩) ?_
  refine DCsg  ?_ (hc := cut_all hl1)
  refine Dpg (fun _ => q_mv (s := .v (.c _)) ⟨rfl, rfl⟩) ?_
  refine Dpg (fun _ => q_cso ⟨rfl, rfl⟩) ?_
  refine Dpg (fun _ => q_eqls ⟨rfl, rfl⟩) ?_
  refine Dp (fun _ => q_pkt ⟨rfl, rfl⟩) ?_
  refine Dp (fun _ => q_mv (s := .v (.c _)) ⟨rfl, rfl⟩) ?_
  refine Dknd 73 (fun hb34 => ?_) ?_; rotate_left
  · exact rfl
  refine De2g (fun _ k_ => q_callp (known/- escutcheon/escutcheonlaw10.known -/) k_) ?_
  refine Dp (fun _ => q_pkt ⟨rfl, rfl⟩) ?_
  refine Dp (fun _ => q_as (s := .v (.c _)) ⟨rfl, rfl⟩) ?_
  refine dend ?_
  refine awp_ret ?_
  exact fp1
set_option maxHeartbeats 1600000 in
/-- escutcheonlaw10.AeadOpens -/
theorem opens_no (key nonce ad s : List UInt8) (n k : Nat) (hkey : key.length = 32) (hnonce : nonce.length = 12) (had : ad.length = n) (hc : s.length = k) (hn9 : n ≤ 140737488351232) (hk9 : k ≤ 140737488351232) (h : aopen key nonce ad s = none) : Good Try.prog 4 [.a (u8s key), .a (u8s nonce), .c (.ro n (u8s ad)), .c (.ro k (u8s s))] [] (sc (.bool true)) [] := by
  refine good_frm 73 Try.func4 rfl rfl rfl rfl rfl rfl ?_
  refine awp_seq ?_
  refine rln ?_
  refine G2 (fun _ k_ => q_boxa k_) ?_
  refine G2 (fun _ k_ => q_boxa k_) ?_
  refine As ?_
  refine gend ?_
  refine awp_seq ?_
  refine awp_seq ?_
  refine rln ?_
  refine Mv ?_
  refine G (q_leno ?_)
  refine G (q_gtrn (y := 400) ?_)
  refine Mv ?_
  refine Aspd 16 (fun hb4 => ?_) (fun hb4 => ?_)
  · refine Gn ?_
    refine Gn ?_
    refine Gn ?_
    refine G (q_pkt ?_)
    refine gend ?_
    refine cndT ?_
    refine awp_seq ?_
    refine rln ?_
    refine G2 (fun _ k_ => q_callp (known/- escutcheon/escutcheonlaw10.known -/) k_) ?_
    refine As ?_
    refine gend ?_
    refine awp_ret ?_
    exact fp1
  refine Gg (q_mv (s := .v (.c _)) ?_)
  refine Gg (q_leno ?_)
  refine Gg (q_gtrn (y := 400) ?_)
  refine G (q_pkf ?_)
  refine gend ?_
  refine cnd (fun hc1 => ?_) (fun hc1 => ?_)
  · refine awp_seq ?_
    refine rln ?_
    refine G2 (fun _ k_ => q_callp (known/- escutcheon/escutcheonlaw10.known -/) k_) ?_
    refine As ?_
    refine gend ?_
    refine awp_ret ?_
    exact fp1
  have g1 := open_none key nonce ad s n k hkey hnonce had (by omega) hc (by omega) h
  have g2 := ropen_none key nonce ad s n k hkey hnonce had (by omega) hc (by omega) h
  refine awp_skip ?_
  refine awp_seq ?_
  refine rln ?_
  refine G (q_ldw ?_)
  refine G (q_ldw ?_)
  refine Mv ?_
  refine Mv ?_
  refine G2 (fun _ k_ => q_callp g1 k_ (ha := (caa (et rfl) sees_m (caa (et rfl) sees_m (cac (et rfl) sees_ro (cac (et rfl) sees_ro ca0)))))) ?_
  refine G (q_mv (s := .t _) ?_)
  refine G (q_ext (y := .c _) ?_)
  refine G (q_ext (y := .c _) ?_)
  refine As ?_
  refine As ?_
  refine gend ?_
  refine awp_seq ?_
  refine rln ?_
  refine G (q_ldw ?_)
  refine G (q_ldw ?_)
  refine Mv ?_
  refine Mv ?_
  refine G2 (fun _ k_ => q_callp g2 k_ (ha := (caa (et rfl) sees_m (caa (et rfl) sees_m (cac (et rfl) sees_ro (cac (et rfl) sees_ro ca0)))))) ?_
  refine G (q_mv (s := .t _) ?_)
  refine G (q_ext (y := .c _) ?_)
  refine G (q_ext (y := .c _) ?_)
  refine As ?_
  refine As ?_
  refine gend ?_
  refine awp_seq ?_
  refine awp_seq ?_
  refine rln ?_
  refine Mv ?_
  refine G (q_notb ?_)
  refine gend ?_
  refine cndbnY (fun hc2 => ?_) ?_; rotate_left
  · exact rfl
  refine awp_seq ?_
  refine rln ?_
  refine Mv ?_
  refine G (q_eqln (y := 8) ?_)
  refine Mv ?_
  refine Aknd 42 (fun hb3 => ?_) ?_; rotate_left
  · exact rfl
  refine Gg (q_mv (s := .v (.c _)) ?_)
  refine Gg (q_lenn ?_)
  refine Gg (q_eqln (y := 0) ?_)
  refine G (q_pkt ?_)
  refine Mv ?_
  refine Aknd 47 (fun hb8 => ?_) ?_; rotate_left
  · exact rfl
  refine G2g (fun _ k_ => q_callp (known/- escutcheon/escutcheonlaw10.known -/) k_) ?_
  refine G (q_pkt ?_)
  refine As ?_
  refine gend ?_
  refine awp_ret ?_
  exact fp1
set_option maxHeartbeats 1600000 in
/-- escutcheonlaw10.AeadOpens -/
theorem opens_yes (key nonce ad s : List UInt8) (n k : Nat) (hkey : key.length = 32) (hnonce : nonce.length = 12) (had : ad.length = n) (hc : s.length = k) (hn9 : n ≤ 140737488351232) (hk9 : k ≤ 140737488351232) (p : List UInt8) (h : aopen key nonce ad s = some p) : Good Try.prog 4 [.a (u8s key), .a (u8s nonce), .c (.ro n (u8s ad)), .c (.ro k (u8s s))] [] (sc (.bool true)) [] := by
  refine good_frm 73 Try.func4 rfl rfl rfl rfl rfl rfl ?_
  refine awp_seq ?_
  refine rln ?_
  refine G2 (fun _ k_ => q_boxa k_) ?_
  refine G2 (fun _ k_ => q_boxa k_) ?_
  refine As ?_
  refine gend ?_
  refine awp_seq ?_
  refine awp_seq ?_
  refine rln ?_
  refine Mv ?_
  refine G (q_leno ?_)
  refine G (q_gtrn (y := 400) ?_)
  refine Mv ?_
  refine Aspd 16 (fun hb4 => ?_) (fun hb4 => ?_)
  · refine Gn ?_
    refine Gn ?_
    refine Gn ?_
    refine G (q_pkt ?_)
    refine gend ?_
    refine cndT ?_
    refine awp_seq ?_
    refine rln ?_
    refine G2 (fun _ k_ => q_callp (known/- escutcheon/escutcheonlaw10.known -/) k_) ?_
    refine As ?_
    refine gend ?_
    refine awp_ret ?_
    exact fp1
  refine Gg (q_mv (s := .v (.c _)) ?_)
  refine Gg (q_leno ?_)
  refine Gg (q_gtrn (y := 400) ?_)
  refine G (q_pkf ?_)
  refine gend ?_
  refine cnd (fun hc1 => ?_) (fun hc1 => ?_)
  · refine awp_seq ?_
    refine rln ?_
    refine G2 (fun _ k_ => q_callp (known/- escutcheon/escutcheonlaw10.known -/) k_) ?_
    refine As ?_
    refine gend ?_
    refine awp_ret ?_
    exact fp1
  have hpl := aopen_len h
  have hp1 : p.length = k - 16 := by omega
  have hs2 : s.length = k - 16 + 16 := by omega
  have g1 := open_some key nonce ad s n k hkey hnonce had (by omega) hc (by omega) p h
  have g2 := ropen_some key nonce ad s n k hkey hnonce had (by omega) hc (by omega) p h
  have g3 := seal_ key nonce ad p n (k - 16) hkey hnonce had (by omega) hp1 (by omega)
  rw [aseal_aopen h] at g3
  refine awp_skip ?_
  refine awp_seq ?_
  refine rln ?_
  refine G (q_ldw ?_)
  refine G (q_ldw ?_)
  refine Mv ?_
  refine Mv ?_
  refine G2 (fun _ k_ => q_calln g1 k_ (ha := (caa (et rfl) sees_m (caa (et rfl) sees_m (cac (et rfl) sees_ro (cac (et rfl) sees_ro ca0)))))) ?_
  refine G (q_mv (s := .t _) ?_)
  refine G (q_ext (y := .c _) ?_)
  refine G (q_ext (y := .c _) ?_)
  refine As ?_
  refine As ?_
  refine gend ?_
  refine awp_seq ?_
  refine rln ?_
  refine G (q_ldw ?_)
  refine G (q_ldw ?_)
  refine Mv ?_
  refine Mv ?_
  refine G2 (fun _ k_ => q_calln g2 k_ (ha := (caa (et rfl) sees_m (caa (et rfl) sees_m (cac (et rfl) sees_ro (cac (et rfl) sees_ro ca0)))))) ?_
  refine G (q_mv (s := .t _) ?_)
  refine G (q_ext (y := .c _) ?_)
  refine G (q_ext (y := .c _) ?_)
  refine As ?_
  refine As ?_
  refine gend ?_
  refine awp_seq ?_
  refine awp_seq ?_
  refine rln ?_
  refine Mv ?_
  refine G (q_notb ?_)
  refine gend ?_
  refine cndbnN (fun hc2 => ?_) ?_; rotate_left
  · exact rfl
  refine awp_skip ?_
  refine awp_seq ?_
  refine rdln [14, 21] [0, 0, 0, 0, 0, 0, 0, 0, 0, 0, 0, 0, 0, 0, 0, 1, 0, 0, 1, 1, 1, 1, 2, 2] [0, 0, 0, 0, 0, 0, 0, 0, 0, 0, 0, 0, 0, 0, 1, 1, 1, 1, 1, 1, 1, 2, 2, 2] ?_
  refine Dp (fun _ => q_mv (s := .v (.c _)) ⟨rfl, rfl⟩) ?_
  refine Dp (fun _ => q_eqln (y := 0) ⟨rfl, rfl⟩) ?_
  refine Dp (fun _ => q_mv (s := .v (.c _)) ⟨rfl, rfl⟩) ?_
  refine Dknd 52 (fun hb3 => ?_) ?_; rotate_left
  · exact rfl
  refine Dpg (fun _ => q_mv (s := .v (.c _)) ⟨rfl, rfl⟩) ?_
  refine DCsg  ?_ (hc := cut_all hp1)
  refine Dpg (fun _ => q_mv (s := .v (.c _)) ⟨rfl, rfl⟩) ?_
  refine DCsg  ?_ (hc := cut_all hp1)
  refine Dpg (fun _ => q_eqls ⟨rfl, rfl⟩) ?_
  refine Dp (fun _ => q_pkt ⟨rfl, rfl⟩) ?_
  refine Dp (fun _ => q_mv (s := .v (.c _)) ⟨rfl, rfl⟩) ?_
  refine Dknd 59 (fun hb10 => ?_) ?_; rotate_left
  · exact rfl
  refine DLwg ?_
  refine DLwg ?_
  refine Dpg (fun _ => q_mv (s := .v (.c _)) ⟨rfl, rfl⟩) ?_
  refine Dpg (fun _ => q_mv (s := .v (.c _)) ⟨rfl, rfl⟩) ?_
  refine De2g (fun _ k_ => q_calln g3 k_ (ha := (caa (et rfl) sees_m (caa (et rfl) sees_m (cac (et rfl) sees_ro (cac (et rfl) (sees_slc rfl rfl (cut_h hp1)) ca0)))))) ?_
  refine DCsg  ?_ (hc := cut_all hs2)
  refine Dpg (fun _ => q_mv (s := .v (.c _)) ⟨rfl, rfl⟩) ?_
  refine Dpg (fun _ => q_cso ⟨rfl, rfl⟩) ?_
  refine Dpg (fun _ => q_eqls ⟨rfl, rfl⟩) ?_
  refine Dp (fun _ => q_pkt ⟨rfl, rfl⟩) ?_
  refine Dp (fun _ => q_mv (s := .v (.c _)) ⟨rfl, rfl⟩) ?_
  refine Dknd 70 (fun hb21 => ?_) ?_; rotate_left
  · exact rfl
  refine De2g (fun _ k_ => q_callp (known/- escutcheon/escutcheonlaw10.known -/) k_) ?_
  refine Dp (fun _ => q_pkt ⟨rfl, rfl⟩) ?_
  refine Dp (fun _ => q_as (s := .v (.c _)) ⟨rfl, rfl⟩) ?_
  refine dend ?_
  refine awp_ret ?_
  exact fp1
set_option maxHeartbeats 1600000 in
/-- escutcheonlaw10.AeadTurns -/
theorem turns_ (key nonce ad l : List UInt8) (n k : Nat) (hkey : key.length = 32) (hnonce : nonce.length = 12) (had : ad.length = n) (hc : l.length = k) (hn9 : n ≤ 140737488351232) (hk9 : k ≤ 140737488351232) (c : Nat) (b : UInt8) : Good Try.prog 5 [.a (u8s key), .a (u8s nonce), .c (.ro n (u8s ad)), .c (.ro k (u8s l)), .c (cn c), .c (c8 b)] [] (sc (.bool true)) [] := by
  refine good_frm 81 Try.func5 rfl rfl rfl rfl rfl rfl ?_
  refine awp_seq ?_
  refine rln ?_
  refine G2 (fun _ k_ => q_boxa k_) ?_
  refine G2 (fun _ k_ => q_boxa k_) ?_
  refine As ?_
  refine gend ?_
  refine awp_seq ?_
  refine awp_seq ?_
  refine rln ?_
  refine Mv ?_
  refine G (q_leno ?_)
  refine G (q_gtrn (y := 400) ?_)
  refine Mv ?_
  refine Aspd 19 (fun hb4 => ?_) (fun hb4 => ?_)
  · refine Gn ?_
    refine Gn ?_
    refine Gn ?_
    refine G (q_pkt ?_)
    refine Mv ?_
    refine Gn ?_
    refine Gn ?_
    refine G (q_pkt ?_)
    refine Mv ?_
    refine Gn ?_
    refine Gn ?_
    refine G (q_pkt ?_)
    refine Mv ?_
    refine Gn ?_
    refine Gn ?_
    refine G (q_pkt ?_)
    refine gend ?_
    refine cndT ?_
    refine awp_seq ?_
    refine rln ?_
    refine G2 (fun _ k_ => q_callp (known/- escutcheon/escutcheonlaw10.known -/) k_) ?_
    refine As ?_
    refine gend ?_
    refine awp_ret ?_
    exact fp1
  refine Gg (q_mv (s := .v (.c _)) ?_)
  refine Gg (q_leno ?_)
  refine Gg (q_gtrn (y := 400) ?_)
  refine G (q_pkf ?_)
  refine Mv ?_
  refine Aspd 24 (fun hb9 => ?_) (fun hb9 => ?_)
  · refine Gn ?_
    refine Gn ?_
    refine G (q_pkt ?_)
    refine Mv ?_
    refine Gn ?_
    refine Gn ?_
    refine G (q_pkt ?_)
    refine Mv ?_
    refine Gn ?_
    refine Gn ?_
    refine G (q_pkt ?_)
    refine gend ?_
    refine cndT ?_
    refine awp_seq ?_
    refine rln ?_
    refine G2 (fun _ k_ => q_callp (known/- escutcheon/escutcheonlaw10.known -/) k_) ?_
    refine As ?_
    refine gend ?_
    refine awp_ret ?_
    exact fp1
  refine Gg (q_mv (s := .v (.c _)) ?_)
  refine Gg (q_lssn (y := 0) ?_)
  refine G (q_pkf ?_)
  refine Mv ?_
  refine Aspd 28 (fun hb13 => ?_) (fun hb13 => ?_)
  · refine Gn ?_
    refine Gn ?_
    refine G (q_pkt ?_)
    refine Mv ?_
    refine Gn ?_
    refine Gn ?_
    refine G (q_pkt ?_)
    refine gend ?_
    refine cndT ?_
    refine awp_seq ?_
    refine rln ?_
    refine G2 (fun _ k_ => q_callp (known/- escutcheon/escutcheonlaw10.known -/) k_) ?_
    refine As ?_
    refine gend ?_
    refine awp_ret ?_
    exact fp1
  refine Gg (q_mv (s := .v (.c _)) ?_)
  refine Gg (q_gtrn (y := 15) ?_)
  refine G (q_pkf ?_)
  refine Mv ?_
  refine Aspd 32 (fun hb17 => ?_) (fun hb17 => ?_)
  · refine Gn ?_
    refine Gn ?_
    refine G (q_pkt ?_)
    refine gend ?_
    refine cndT ?_
    refine awp_seq ?_
    refine rln ?_
    refine G2 (fun _ k_ => q_callp (known/- escutcheon/escutcheonlaw10.known -/) k_) ?_
    refine As ?_
    refine gend ?_
    refine awp_ret ?_
    exact fp1
  refine Gg (q_mv (s := .v (.c _)) ?_)
  refine Gg (q_eql8 (y := 0) ?_)
  refine G (q_pkf ?_)
  refine gend ?_
  refine cnd (fun hc1 => ?_) (fun hc1 => ?_)
  · refine awp_seq ?_
    refine rln ?_
    refine G2 (fun _ k_ => q_callp (known/- escutcheon/escutcheonlaw10.known -/) k_) ?_
    refine As ?_
    refine gend ?_
    refine awp_ret ?_
    exact fp1
  have hS1 : (aseal key nonce ad l).length = k + 16 := by rw [aseal_len, hc]
  have gs := seal_ key nonce ad l n k hkey hnonce had (by omega) hc (by omega)
  have hT := aopen_turned key nonce ad l c b (by omega) (by assumption)
  rw [hc] at hT
  have go := open_none key nonce ad _ n (k + 16) hkey hnonce had (by omega) (by rw [List.length_set]; exact hS1) (by omega) hT
  obtain ⟨S, hS⟩ : ∃ z, aseal key nonce ad l = z := ⟨_, rfl⟩
  rw [hS] at gs go hS1
  have hS3 : (S.set (k + c) (S.getD (k + c) 0 ^^^ b)).length = k + 16 := by rw [List.length_set]; exact hS1
  refine awp_skip ?_
  refine awp_seq ?_
  refine rln ?_
  refine G (q_ldw ?_)
  refine G (q_ldw ?_)
  refine Mv ?_
  refine Mv ?_
  refine G2 (fun _ k_ => q_calln gs k_ (ha := (caa (et rfl) sees_m (caa (et rfl) sees_m (cac (et rfl) sees_ro (cac (et rfl) sees_ro ca0)))))) ?_
  refine As ?_
  refine gend ?_
  refine awp_seq ?_
  refine awp_seq ?_
  refine rln ?_
  refine Mv ?_
  refine G (q_lenc ?_)
  refine Mv ?_
  refine G (q_leno ?_)
  refine G (q_addn (y := 16) ?_)
  refine G (q_neqn ?_)
  refine gend ?_
  refine cndN (fun hc2 => ?_) ?_; rotate_left
  · exact fun h => h rfl
  refine awp_skip ?_
  refine awp_seq ?_
  refine rln ?_
  refine Mv ?_
  refine Mv ?_
  refine G (q_leno ?_)
  refine Mv ?_
  refine G (q_addn ?_)
  refine Mv ?_
  refine Mv ?_
  refine G (q_leno ?_)
  refine Mv ?_
  refine G (q_addn ?_)
  refine G (q_ixs1 ?_)
  refine G (q_ldp ?_)
  refine Mv ?_
  refine G (q_xor8 ?_)
  refine G (q_ixs1 ?_)
  refine G20 (fun _ k_ => q_stm k_) ?_
  refine gend ?_
  refine awp_seq ?_
  refine rln ?_
  refine G (q_ldw ?_)
  refine G (q_ldw ?_)
  refine Mv ?_
  refine Mv ?_
  refine G2 (fun _ k_ => q_callp go k_ (ha := (caa (et rfl) sees_m (caa (et rfl) sees_m (cac (et rfl) sees_ro (cac (et rfl) (sees_slc rfl rfl (cut_h hS3)) ca0)))))) ?_
  refine G (q_mv (s := .t _) ?_)
  refine G (q_ext (y := .c _) ?_)
  refine G (q_ext (y := .c _) ?_)
  refine As ?_
  refine As ?_
  refine gend ?_
  refine awp_seq ?_
  refine rln ?_
  refine Mv ?_
  refine G (q_eqln (y := 8) ?_)
  refine Mv ?_
  refine Aknd 73 (fun hb3 => ?_) ?_; rotate_left
  · exact rfl
  refine Gg (q_mv (s := .v (.c _)) ?_)
  refine Gg (q_lenn ?_)
  refine Gg (q_eqln (y := 0) ?_)
  refine G (q_pkt ?_)
  refine Mv ?_
  refine Aknd 78 (fun hb8 => ?_) ?_; rotate_left
  · exact rfl
  refine G2g (fun _ k_ => q_callp (known/- escutcheon/escutcheonlaw10.known -/) k_) ?_
  refine G (q_pkt ?_)
  refine As ?_
  refine gend ?_
  refine awp_ret ?_
  exact fp1
set_option maxHeartbeats 1600000 in
/-- escutcheonlaw10.AeadTurns -/
theorem turns_neg (key nonce ad l : List UInt8) (n k : Nat) (hkey : key.length = 32) (hnonce : nonce.length = 12) (had : ad.length = n) (hc : l.length = k) (hn9 : n ≤ 140737488351232) (hk9 : k ≤ 140737488351232) (a : Int) (b : UInt8) (h : a < 0) : Good Try.prog 5 [.a (u8s key), .a (u8s nonce), .c (.ro n (u8s ad)), .c (.ro k (u8s l)), .c (ci a), .c (c8 b)] [] (sc (.bool true)) [] := by
  refine good_frm 81 Try.func5 rfl rfl rfl rfl rfl rfl ?_
  refine awp_seq ?_
  refine rln ?_
  refine G2 (fun _ k_ => q_boxa k_) ?_
  refine G2 (fun _ k_ => q_boxa k_) ?_
  refine As ?_
  refine gend ?_
  refine awp_seq ?_
  refine awp_seq ?_
  refine rln ?_
  refine Mv ?_
  refine G (q_leno ?_)
  refine G (q_gtrn (y := 400) ?_)
  refine Mv ?_
  refine Aspd 19 (fun hb4 => ?_) (fun hb4 => ?_)
  · refine Gn ?_
    refine Gn ?_
    refine Gn ?_
    refine G (q_pkt ?_)
    refine Mv ?_
    refine Gn ?_
    refine Gn ?_
    refine G (q_pkt ?_)
    refine Mv ?_
    refine Gn ?_
    refine Gn ?_
    refine G (q_pkt ?_)
    refine Mv ?_
    refine Gn ?_
    refine Gn ?_
    refine G (q_pkt ?_)
    refine gend ?_
    refine cndT ?_
    refine awp_seq ?_
    refine rln ?_
    refine G2 (fun _ k_ => q_callp (known/- escutcheon/escutcheonlaw10.known -/) k_) ?_
    refine As ?_
    refine gend ?_
    refine awp_ret ?_
    exact fp1
  refine Gg (q_mv (s := .v (.c _)) ?_)
  refine Gg (q_leno ?_)
  refine Gg (q_gtrn (y := 400) ?_)
  refine G (q_pkf ?_)
  refine Mv ?_
  refine Aspd 24 (fun hb9 => ?_) (fun hb9 => ?_)
  · refine Gn ?_
    refine Gn ?_
    refine G (q_pkt ?_)
    refine Mv ?_
    refine Gn ?_
    refine Gn ?_
    refine G (q_pkt ?_)
    refine Mv ?_
    refine Gn ?_
    refine Gn ?_
    refine G (q_pkt ?_)
    refine gend ?_
    refine cndT ?_
    refine awp_seq ?_
    refine rln ?_
    refine G2 (fun _ k_ => q_callp (known/- escutcheon/escutcheonlaw10.known -/) k_) ?_
    refine As ?_
    refine gend ?_
    refine awp_ret ?_
    exact fp1
  refine Gg (q_mv (s := .v (.c _)) ?_)
  refine Gg (q_lssi (y := 0) ?_)
  refine G (q_pkf ?_)
  refine Mv ?_
  refine Aknd 28 (fun hb13 => ?_) ?_; rotate_left
  · omega
  refine Gn ?_
  refine Gn ?_
  refine G (q_pkt ?_)
  refine Mv ?_
  refine Gn ?_
  refine Gn ?_
  refine G (q_pkt ?_)
  refine gend ?_
  refine cndT ?_
  refine awp_seq ?_
  refine rln ?_
  refine G2 (fun _ k_ => q_callp (known/- escutcheon/escutcheonlaw10.known -/) k_) ?_
  refine As ?_
  refine gend ?_
  refine awp_ret ?_
  exact fp1
end Go.Proofs.Ytcihpgdmldkjfaa

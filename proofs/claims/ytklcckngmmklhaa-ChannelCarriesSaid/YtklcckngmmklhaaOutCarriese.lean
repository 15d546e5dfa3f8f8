/- Texts that the proof stands on, put together: the abstract machine, and what functions do over it. -/
import Derived.Test.YtklcckngmmklhaaOutCarriesd
/- What functions of the program do, walked over the abstract machine. -/
namespace Go.Proofs.Ytklcckngmmklhaa
open Go Go.Abs Go.Proofs Go.Proofs.Ytklcckngmmklhaa.Ch Go.Proofs.Ytklcckngmmklhaa.Po Go.Proofs.Ytklcckngmmklhaa.Ae Go.Proofs.Ytklcckngmmklhaa.Wd
set_option maxRecDepth 20000
theorem cnew_ (a b hash : List UInt8) (ha : a.length = 32) (hb : b.length = 32) (hh : hash.length = 32) : Good Try.prog 16 [.c (.ptr 0 0), .c (.ptr 2 0), .a (u8s hash)] [some (cC (.ptr 1 0) 0), some (u8s a), some (cC (.ptr 3 0) 0), some (u8s b)] (sc (.ptr 4 0)) [some (cC (.ptr 1 0) 0), some (u8s a), some (cC (.ptr 3 0) 0), some (u8s b), some (chC 0 0 6 false 0 7 false 0 0 5 0 false hash), some (wcs true 0 0), some (cC (.ptr 1 0) 0), some (cC (.ptr 3 0) 0)] := by
  refine good_frm 35 Try.func16 rfl rfl rfl rfl rfl rfl ?_
  refine awp_seq ?_
  refine rln ?_
  refine G2 (fun _ k_ => q_boxa k_) ?_
  refine As ?_
  refine gend ?_
  refine awp_seq ?_
  refine awp_seq ?_
  refine rln ?_
  refine Mv ?_
  refine G2 (fun _ k_ => q_callp (has_k (u8s a) _) k_ (ha := (cac (et rfl) (sees_key rfl rfl ha rfl rfl) ca0))) ?_
  refine G (q_notb ?_)
  refine Mv ?_
  refine Asp 11 (fun hb4 => ?_) (fun hb4 => ?_)
  · refine Gn ?_
    refine Gn ?_
    refine Gn ?_
    refine G (q_pkt ?_)
    refine gend ?_
    refine cndT ?_
    refine awp_seq ?_
    refine rln ?_
    refine As ?_
    refine gend ?_
    refine awp_ret ?_
    exact Bool.noConfusion hb4
  refine Gg (q_mv (s := .v (.c _)) ?_)
  refine G2g (fun _ k_ => q_callp (has_k (u8s b) _) k_ (ha := (cac (et rfl) (sees_key rfl rfl hb rfl rfl) ca0))) ?_
  refine Gg (q_notb ?_)
  refine G (q_pkf ?_)
  refine gend ?_
  refine cndbn (fun hc1 => ?_) (fun hc1 => ?_)
  · refine awp_seq ?_
    refine rln ?_
    refine As ?_
    refine gend ?_
    refine awp_ret ?_
    exact Bool.noConfusion hc1
  refine awp_skip ?_
  refine awp_seq ?_
  refine rdln [0, 3] [0, 0, 1, 1, 2] [1, 1, 1, 2, 2] ?_
  refine De2 (fun _ k_ => q_calln new k_ (ha := ca0)) ?_
  refine DLw ?_
  refine Dp (fun _ => q_bls (fkc rfl (et rfl) rfl (Nat.le_of_ble_eq_true rfl) (fka rfl (et rfl) ((mapc_length ..).trans hh) (by first | decide +kernel | decide) (fk0 ⟨rfl, rfl⟩)))) ?_
  refine De2 (fun _ k_ => q_boxa k_) ?_
  refine Dp (fun _ => q_as (s := .v (.c _)) ⟨rfl, rfl⟩) ?_
  refine dend ?_
  refine awp_seq ?_
  refine rdln [3, 5, 10, 15] [0, 0, 0, 0, 0, 1, 0, 0, 0, 2, 2, 0, 0, 0, 3, 3] [2, 3, 0, 1, 1, 2, 2, 2, 2, 2, 3, 3, 3, 3, 3, 4] ?_
  refine Dp (fun _ => q_mv (s := .v (.c _)) ⟨rfl, rfl⟩) ?_
  refine Dp (fun _ => q_mv (s := .v (.c _)) ⟨rfl, rfl⟩) ?_
  refine Dp (fun _ => q_mv (s := .v (.c _)) ⟨rfl, rfl⟩) ?_
  refine De2 (fun _ k_ => q_callv [0, 1] [some (cC (.ptr 1 0) 0), some (u8s a)] [some (cC (.ptr 1 0) 0)] (copy_k a 0) k_ (ha := (cac (et rfl) rfl ca0)) (e2 := (pl1 rfl rfl (pl1 rfl sees_m pl0))) (eL := (ml1 rfl (ml1 sees_m ml0))) (eM := (ml1 rfl ml0))) ?_
  refine Dp (fun _ => q_mv (s := .v (.c _)) ⟨rfl, rfl⟩) ?_
  refine De2 (fun _ k_ => q_callv [2, 3] [some (cC (.ptr 1 0) 0), some (u8s b)] [some (cC (.ptr 1 0) 0)] (copy_k b 0) k_ (ha := (cac (et rfl) rfl ca0)) (e2 := (pl1 rfl rfl (pl1 rfl sees_m pl0))) (eL := (ml1 rfl (ml1 sees_m ml0))) (eM := (ml1 rfl ml0))) ?_
  refine Dp (fun _ => q_ncp ⟨rfl, rfl⟩) ?_
  refine Dp (fun _ => q_fap0 ⟨rfl, rfl⟩) ?_
  refine Dp (fun _ => q_fap0 ⟨rfl, rfl⟩) ?_
  refine Dp (fun _ => q_ixp ⟨rfl, rfl⟩) ?_
  refine De20 (fun _ k_ => q_st k_) ?_
  refine Dp (fun _ => q_ncp ⟨rfl, rfl⟩) ?_
  refine Dp (fun _ => q_fap0 ⟨rfl, rfl⟩) ?_
  refine Dp (fun _ => q_fap ⟨rfl, rfl⟩) ?_
  refine Dp (fun _ => q_ixp ⟨rfl, rfl⟩) ?_
  refine De20 (fun _ k_ => q_st k_) ?_
  refine dend ?_
  refine awp_seq ?_
  refine rln ?_
  refine Mv ?_
  refine As ?_
  refine gend ?_
  refine awp_ret ?_
  exact fx1 [0, 1, 2, 3, 6, 5, 7, 8] (hm0 := rfl) (hH := (pl1 rfl rfl (pl1 rfl sees_m (pl1 rfl rfl (pl1 rfl sees_m (pl1 rfl (by rw [ch_spl hh]; show List.map (cm _ (7 + 1)) (chC 0 0 7 false 0 8 false 0 0 5 0 false hash) = _; exact chC_map rfl rfl rfl rfl rfl) (pl1 rfl rfl (pl1 rfl rfl (pl1 rfl rfl pl0))))))))) (hn := piB rfl)
end Go.Proofs.Ytklcckngmmklhaa

/- What functions of the program do, walked over the abstract machine. -/
namespace Go.Proofs.Ytklcckngmmklhaa
open Go Go.Abs Go.Proofs Go.Proofs.Ytklcckngmmklhaa.Ch Go.Proofs.Ytklcckngmmklhaa.Po Go.Proofs.Ytklcckngmmklhaa.Ae Go.Proofs.Ytklcckngmmklhaa.Wd
set_option maxRecDepth 20000
theorem ch_hash {a b c d e f g h i j : Cell} {hash : List UInt8} (hh : hash.length = 32) : ((a :: b :: c :: d :: e :: f :: g :: h :: i :: j :: u8s hash).drop 10).take (32 * 1) = u8s hash := by
  show (u8s hash).take 32 = _
  exact List.take_of_length_le (by rw [mapc_length, hh]; exact Nat.le_refl _)
set_option maxHeartbeats 1600000 in
theorem chseal_m0 (k r hash : List UInt8) (es er sent g : UInt64) (any : Bool) (wg wb : UInt64) (hk : k.length = 32) (hr : r.length = 32) (hh : hash.length = 32) (c : List UInt8) (n : Nat) (hc : c.length = n) (hn : n ≤ 4096) (hs : ¬ 281474976710655 < sent) (hm : mx es (sent / 64) = sent / 64) (he : (sent / 64).toNat % 2 = 0) : Good Try.prog 10 [.c (.ptr 0 0), .c (.ro n (u8s c))] [some (chC es er 2 (decide (es ≠ 0)) 4 6 (decide (er ≠ 0)) 8 sent 1 g any hash), some (wcs true wg wb), some (cC (.ptr 3 0) 0), some (u8s (S0 k es.toNat)), cb (decide (es ≠ 0)) 5, kb (decide (es ≠ 0)) (S1 k es.toNat), some (cC (.ptr 7 0) 0), some (u8s (S0 r er.toNat)), cb (decide (er ≠ 0)) 9, kb (decide (er ≠ 0)) (S1 r er.toNat)] (.t [.c (.slc 14 0 (8 + (n + 16)) 1), .c (cn 0)]) [some (chC (sent / 64) er 10 (decide ((sent / 64) ≠ 0)) 12 6 (decide (er ≠ 0)) 8 (sent + 1) 1 g any hash), some (wcs true wg wb), none, none, none, none, some (cC (.ptr 7 0) 0), some (u8s (S0 r er.toNat)), cb (decide (er ≠ 0)) 9, kb (decide (er ≠ 0)) (S1 r er.toNat), some (cC (.ptr 11 0) 0), some (u8s (S0 k (sent / 64).toNat)), cb (decide ((sent / 64) ≠ 0)) 13, kb (decide ((sent / 64) ≠ 0)) (S1 k (sent / 64).toNat), some (u8s (fr19 k hash sent c))] := by
  have hv := (S0_even (k := k) he).2.2
  have hA : (S0 k (sent / 64).toNat).length = 32 := S0_len hk _
  have hp : (sent / 64 % 2).toNat = 0 := (mod2_nat _).trans he
  have gm := move_s es er sent g (decide (er ≠ 0)) any hash k (S0 r er.toNat) (S1 r er.toNat) wg wb (sent / 64) hk
  rw [hm] at gm
  have gs := cseal_ok (S0 k (sent / 64).toNat) hash c sent 32 n hA hh (by decide) hc (by omega) (fun h => hs (by rw [h]; decide))
  have hXl := aseal_len (S0 k (sent / 64).toNat) (anonce sent) hash c
  have gp := put sent 8 (by decide) (by decide) (.inl rfl)
  have hPl := pwb_len sent 8 8
  rw [hc] at hXl
  rw [fr19, ← hv, ← pwb_fbl]
  obtain ⟨X, hX⟩ : ∃ z, aseal (S0 k (sent / 64).toNat) (anonce sent) hash c = z := ⟨_, rfl⟩
  rw [hX] at gs hXl ⊢
  obtain ⟨Y, hY⟩ : ∃ z, pwb sent 8 8 = z := ⟨_, rfl⟩
  rw [hY] at gp hPl ⊢
  refine good_frm 82 Try.func10 rfl rfl rfl rfl rfl rfl ?_
  refine awp_seq ?_
  refine rln ?_
  refine As ?_
  refine G (q_as (s := sc (cn 0)) ?_)
  refine gend ?_
  refine awp_seq ?_
  refine awp_block ?_
  refine awp_seq ?_
  refine rln ?_
  refine Mv ?_
  refine G2 (fun _ k_ => q_callp (cthere _ _ _ _ _ _ _ _ _ _ _) k_ (ha := (cac (et rfl) (sees_ch rfl rfl rfl rfl) ca0))) ?_
  refine G (q_notb ?_)
  refine As ?_
  refine gend ?_
  refine cndbnN (fun hc1 => ?_) ?_; rotate_left
  · exact rfl
  refine awp_seq ?_
  refine rln ?_
  refine Mv ?_
  refine G (q_leno ?_)
  refine G (q_gtrn (y := 4096) ?_)
  refine As ?_
  refine gend ?_
  refine cndN (fun hc2 => ?_) ?_; rotate_left
  · omega
  refine awp_seq ?_
  refine rln ?_
  refine Mv ?_
  refine G (q_ncp ?_)
  refine G (q_fap ?_)
  refine G (q_ldp ?_)
  refine G (q_gtr64 (y := 281474976710655) ?_)
  refine As ?_
  refine gend ?_
  refine cndN (fun hc3 => ?_) ?_; rotate_left
  · exact hs
  refine awp_skip ?_
  refine awp_seq ?_
  refine rdln [8] [] [0, 0, 0, 0, 0, 0, 0, 0, 1] ?_
  refine Dp (fun _ => q_mv (s := .v (.c _)) ⟨rfl, rfl⟩) ?_
  refine Dp (fun _ => q_ncp ⟨rfl, rfl⟩) ?_
  refine Dp (fun _ => q_fap ⟨rfl, rfl⟩) ?_
  refine Dp (fun _ => q_mv (s := .v (.c _)) ⟨rfl, rfl⟩) ?_
  refine Dp (fun _ => q_ncp ⟨rfl, rfl⟩) ?_
  refine Dp (fun _ => q_fap ⟨rfl, rfl⟩) ?_
  refine DLp ?_
  refine Dp (fun _ => q_quo64 (y := 64) ⟨rfl, rfl⟩ (hz := by decide)) ?_
  refine De2 (fun _ k_ => q_callv [0, 1, 2, 3, 4, 5, 6, 7, 8, 9] [some (chC (sent / 64) er 10 (decide ((sent / 64) ≠ 0)) 12 6 (decide (er ≠ 0)) 8 sent 1 g any hash), some (wcs true wg wb), none, none, none, none, some (cC (.ptr 7 0) 0), some (u8s (S0 r er.toNat)), cb (decide (er ≠ 0)) 9, kb (decide (er ≠ 0)) (S1 r er.toNat)] [some (cC (.ptr 11 0) 0), some (u8s (S0 k (sent / 64).toNat)), cb (decide ((sent / 64) ≠ 0)) 13, kb (decide ((sent / 64) ≠ 0)) (S1 k (sent / 64).toNat)] gm k_ (ha := (cac (et rfl) rfl (cac (et rfl) cm_int ca0))) (e2 := (pl1 rfl (chC_map rfl rfl rfl rfl rfl) (pl1 rfl rfl (pl1 rfl rfl (pl1 rfl sees_m (plb rfl (cb_map rfl) (plb rfl kb_map (pl1 rfl rfl (pl1 rfl sees_m (plb rfl (cb_map rfl) (plb rfl kb_map pl0))))))))))) (eL := (ml1 (chC_map rfl rfl rfl rfl rfl) (ml1 rfl (mln (mln (mln (mln (ml1 rfl (ml1 sees_m (mlb (cb_map rfl) (mlb kb_map ml0))))))))))) (eM := (ml1 rfl (ml1 sees_m (mlb (cb_map rfl) (mlb kb_map ml0)))))) ?_
  refine dend ?_
  refine awp_seq ?_
  refine rdln [8] [0, 0, 0, 0, 0, 0, 0, 0, 0, 1] [0, 0, 0, 0, 0, 0, 0, 0, 1, 1] ?_
  refine Dp (fun _ => q_mv (s := .v (.c _)) ⟨rfl, rfl⟩) ?_
  refine Dp (fun _ => q_ncp ⟨rfl, rfl⟩) ?_
  refine Dp (fun _ => q_fap ⟨rfl, rfl⟩) ?_
  refine Dp (fun _ => q_mv (s := .v (.c _)) ⟨rfl, rfl⟩) ?_
  refine Dp (fun _ => q_ncp ⟨rfl, rfl⟩) ?_
  refine Dp (fun _ => q_fap ⟨rfl, rfl⟩) ?_
  refine DLp ?_
  refine Dp (fun _ => q_quo64 (y := 64) ⟨rfl, rfl⟩ (hz := by decide)) ?_
  refine De2 (fun _ k_ => q_callv [0, 1, 10, 11, 12, 13, 6, 7, 8, 9] [some (chC (sent / 64) er 2 (decide ((sent / 64) ≠ 0)) 4 6 (decide (er ≠ 0)) 8 sent 1 g any hash), some (wcs true wg wb), some (cC (.ptr 3 0) 0), some (u8s (S0 k (sent / 64).toNat)), cb (decide ((sent / 64) ≠ 0)) 5, kb (decide ((sent / 64) ≠ 0)) (S1 k (sent / 64).toNat), some (cC (.ptr 7 0) 0), some (u8s (S0 r er.toNat)), cb (decide (er ≠ 0)) 9, kb (decide (er ≠ 0)) (S1 r er.toNat)] [some (cC (.ptr 3 0) 0)] (of_s0 (sent / 64) er sent g (decide ((sent / 64) ≠ 0)) (decide (er ≠ 0)) any hash (S0 k (sent / 64).toNat) (S1 k (sent / 64).toNat) (S0 r er.toNat) (S1 r er.toNat) wg wb (sent / 64) (UInt64.le_refl _) hp) k_ (ha := (cac (et rfl) rfl (cac (et rfl) cm_int ca0))) (e2 := (pl1 rfl (chC_map rfl rfl rfl rfl rfl) (pl1 rfl rfl (pl1 rfl rfl (pl1 rfl sees_m (plb rfl (cb_map rfl) (plb rfl kb_map (pl1 rfl rfl (pl1 rfl sees_m (plb rfl (cb_map rfl) (plb rfl kb_map pl0))))))))))) (eL := (ml1 (chC_map rfl rfl rfl rfl rfl) (ml1 rfl (ml1 rfl (ml1 sees_m (mlb (cb_map rfl) (mlb kb_map (ml1 rfl (ml1 sees_m (mlb (cb_map rfl) (mlb kb_map ml0))))))))))) (eM := (ml1 rfl ml0))) ?_
  refine Dp (fun _ => q_as (s := .v (.c _)) ⟨rfl, rfl⟩) ?_
  refine dend ?_
  refine awp_seq ?_
  refine rln ?_
  refine Mv ?_
  refine Mv ?_
  refine G (q_ncp ?_)
  refine G (q_fap ?_)
  refine G (q_ldp ?_)
  refine G2 (fun _ k_ => q_callv [14, 11] [some (cC (.ptr 1 0) sent), some (u8s (S0 k (sent / 64).toNat))] [] (setn_k (S0 k (sent / 64).toNat) 0 sent) k_ (ha := (cac (et rfl) rfl (cac (et rfl) cm_int ca0))) (e2 := (pl1 rfl rfl (pl1 rfl sees_m pl0))) (eL := (ml1 rfl (ml1 sees_m ml0))) (eM := ml0)) ?_
  refine gend ?_
  refine awp_seq ?_
  refine rln ?_
  refine Mv ?_
  refine Mv ?_
  refine G (q_ncp ?_)
  refine G (q_fap ?_)
  refine G (q_slp_no ?_)
  refine Mv ?_
  refine G2 (fun _ k_ => q_callv [14, 11] [some (cC (.ptr 1 0) (sent + 1)), some (u8s (S0 k (sent / 64).toNat))] [some (u8s X)] gs k_ (ha := (cac (et rfl) rfl (cac (et rfl) (sees_slc rfl rfl (ch_hash hh)) (cac (et rfl) sees_ro ca0)))) (e2 := (pl1 rfl rfl (pl1 rfl sees_m pl0))) (eL := (ml1 rfl (ml1 sees_m ml0))) (eM := (ml1 sees_m ml0))) ?_
  refine G (q_mv (s := .t _) ?_)
  refine G (q_ext (y := .c _) ?_)
  refine G (q_ext (y := .c _) ?_)
  refine As ?_
  refine As ?_
  refine gend ?_
  refine awp_seq ?_
  refine awp_seq ?_
  refine rln ?_
  refine Mv ?_
  refine G (q_neqn (y := 0) ?_)
  refine gend ?_
  refine cndN (fun hc4 => ?_) ?_; rotate_left
  · exact fun h => h rfl
  refine awp_skip ?_
  refine awp_seq ?_
  refine rln ?_
  refine Mv ?_
  refine G (q_ncp ?_)
  refine G (q_fap ?_)
  refine G (q_ldp ?_)
  refine G2 (fun _ k_ => q_calln gp k_ (ha := (cac (et rfl) cm_int (cac rfl cm_int ca0)))) ?_
  refine G (q_mv (s := .t _) ?_)
  refine G (q_ext (y := .c _) ?_)
  refine G (q_ext (y := .c _) ?_)
  refine As ?_
  refine As ?_
  refine gend ?_
  refine awp_seq ?_
  refine rln ?_
  refine Mv ?_
  refine Mv ?_
  refine G2 (fun _ k_ => q_app  k_ (eA := el_slc (xs := u8s Y) rfl (by rw [mapc_length]; omega) (cut_h hPl)) (eB := el_slc (xs := u8s X) rfl (by rw [mapc_length]; omega) (cut_h hXl))) ?_
  refine As ?_
  refine gend ?_
  refine awp_seq ?_
  refine rln ?_
  refine Mv ?_
  refine G (q_ncp ?_)
  refine G (q_fap ?_)
  refine G (q_ldp ?_)
  refine G (q_add64 (y := 1) ?_)
  refine G (q_ncp ?_)
  refine G (q_fap ?_)
  refine G20 (fun _ k_ => q_st k_) ?_
  refine gend ?_
  refine awp_seq ?_
  refine rln ?_
  refine Mv ?_
  refine As ?_
  refine G (q_as (s := sc (cn 0)) ?_)
  refine gend ?_
  refine awp_ret ?_
  exact fx2 [0, 1, 2, 3, 4, 5, 6, 7, 8, 9, 10, 11, 12, 13, 17] (hm0 := rfl) (hH := (pl1 rfl (chC_map rfl rfl rfl rfl rfl) (pl1 rfl rfl (plb rfl rfl (plb rfl rfl (plb rfl rfl (plb rfl rfl (pl1 rfl rfl (pl1 rfl sees_m (plb rfl (cb_map rfl) (plb rfl kb_map (pl1 rfl rfl (pl1 rfl sees_m (plb rfl (cb_map rfl) (plb rfl kb_map (pl1 rfl ((congrArg (List.map _) (mapc_append ..)).trans sees_m) pl0)))))))))))))))) (hn := piB rfl)
set_option maxHeartbeats 1600000 in
theorem chseal_m1 (k r hash : List UInt8) (es er sent g : UInt64) (any : Bool) (wg wb : UInt64) (hk : k.length = 32) (hr : r.length = 32) (hh : hash.length = 32) (c : List UInt8) (n : Nat) (hc : c.length = n) (hn : n ≤ 4096) (hs : ¬ 281474976710655 < sent) (hm : mx es (sent / 64) = sent / 64) (he : (sent / 64).toNat % 2 = 1) : Good Try.prog 10 [.c (.ptr 0 0), .c (.ro n (u8s c))] [some (chC es er 2 (decide (es ≠ 0)) 4 6 (decide (er ≠ 0)) 8 sent 1 g any hash), some (wcs true wg wb), some (cC (.ptr 3 0) 0), some (u8s (S0 k es.toNat)), cb (decide (es ≠ 0)) 5, kb (decide (es ≠ 0)) (S1 k es.toNat), some (cC (.ptr 7 0) 0), some (u8s (S0 r er.toNat)), cb (decide (er ≠ 0)) 9, kb (decide (er ≠ 0)) (S1 r er.toNat)] (.t [.c (.slc 14 0 (8 + (n + 16)) 1), .c (cn 0)]) [some (chC (sent / 64) er 10 true 12 6 (decide (er ≠ 0)) 8 (sent + 1) 1 g any hash), some (wcs true wg wb), none, none, none, none, some (cC (.ptr 7 0) 0), some (u8s (S0 r er.toNat)), cb (decide (er ≠ 0)) 9, kb (decide (er ≠ 0)) (S1 r er.toNat), some (cC (.ptr 11 0) 0), some (u8s (S0 k (sent / 64).toNat)), cb true 13, kb true (S1 k (sent / 64).toNat), some (u8s (fr19 k hash sent c))] := by
  have hv := (S1_odd (k := k) he).2.2
  have hA : (S1 k (sent / 64).toNat).length = 32 := S1_len hk _
  have hp : (sent / 64 % 2).toNat = 1 := (mod2_nat _).trans he
  have hd := ne_zero_odd he
  have gm := move_s es er sent g (decide (er ≠ 0)) any hash k (S0 r er.toNat) (S1 r er.toNat) wg wb (sent / 64) hk
  rw [hm, hd] at gm
  have gs := cseal_ok (S1 k (sent / 64).toNat) hash c sent 32 n hA hh (by decide) hc (by omega) (fun h => hs (by rw [h]; decide))
  have hXl := aseal_len (S1 k (sent / 64).toNat) (anonce sent) hash c
  have gp := put sent 8 (by decide) (by decide) (.inl rfl)
  have hPl := pwb_len sent 8 8
  rw [hc] at hXl
  rw [fr19, ← hv, ← pwb_fbl]
  obtain ⟨X, hX⟩ : ∃ z, aseal (S1 k (sent / 64).toNat) (anonce sent) hash c = z := ⟨_, rfl⟩
  rw [hX] at gs hXl ⊢
  obtain ⟨Y, hY⟩ : ∃ z, pwb sent 8 8 = z := ⟨_, rfl⟩
  rw [hY] at gp hPl ⊢
  refine good_frm 82 Try.func10 rfl rfl rfl rfl rfl rfl ?_
  refine awp_seq ?_
  refine rln ?_
  refine As ?_
  refine G (q_as (s := sc (cn 0)) ?_)
  refine gend ?_
  refine awp_seq ?_
  refine awp_block ?_
  refine awp_seq ?_
  refine rln ?_
  refine Mv ?_
  refine G2 (fun _ k_ => q_callp (cthere _ _ _ _ _ _ _ _ _ _ _) k_ (ha := (cac (et rfl) (sees_ch rfl rfl rfl rfl) ca0))) ?_
  refine G (q_notb ?_)
  refine As ?_
  refine gend ?_
  refine cndbnN (fun hc1 => ?_) ?_; rotate_left
  · exact rfl
  refine awp_seq ?_
  refine rln ?_
  refine Mv ?_
  refine G (q_leno ?_)
  refine G (q_gtrn (y := 4096) ?_)
  refine As ?_
  refine gend ?_
  refine cndN (fun hc2 => ?_) ?_; rotate_left
  · omega
  refine awp_seq ?_
  refine rln ?_
  refine Mv ?_
  refine G (q_ncp ?_)
  refine G (q_fap ?_)
  refine G (q_ldp ?_)
  refine G (q_gtr64 (y := 281474976710655) ?_)
  refine As ?_
  refine gend ?_
  refine cndN (fun hc3 => ?_) ?_; rotate_left
  · exact hs
  refine awp_skip ?_
  refine awp_seq ?_
  refine rdln [8] [] [0, 0, 0, 0, 0, 0, 0, 0, 1] ?_
  refine Dp (fun _ => q_mv (s := .v (.c _)) ⟨rfl, rfl⟩) ?_
  refine Dp (fun _ => q_ncp ⟨rfl, rfl⟩) ?_
  refine Dp (fun _ => q_fap ⟨rfl, rfl⟩) ?_
  refine Dp (fun _ => q_mv (s := .v (.c _)) ⟨rfl, rfl⟩) ?_
  refine Dp (fun _ => q_ncp ⟨rfl, rfl⟩) ?_
  refine Dp (fun _ => q_fap ⟨rfl, rfl⟩) ?_
  refine DLp ?_
  refine Dp (fun _ => q_quo64 (y := 64) ⟨rfl, rfl⟩ (hz := by decide)) ?_
  refine De2 (fun _ k_ => q_callv [0, 1, 2, 3, 4, 5, 6, 7, 8, 9] [some (chC (sent / 64) er 10 true 12 6 (decide (er ≠ 0)) 8 sent 1 g any hash), some (wcs true wg wb), none, none, none, none, some (cC (.ptr 7 0) 0), some (u8s (S0 r er.toNat)), cb (decide (er ≠ 0)) 9, kb (decide (er ≠ 0)) (S1 r er.toNat)] [some (cC (.ptr 11 0) 0), some (u8s (S0 k (sent / 64).toNat)), cb true 13, kb true (S1 k (sent / 64).toNat)] gm k_ (ha := (cac (et rfl) rfl (cac (et rfl) cm_int ca0))) (e2 := (pl1 rfl (chC_map rfl rfl rfl rfl rfl) (pl1 rfl rfl (pl1 rfl rfl (pl1 rfl sees_m (plb rfl (cb_map rfl) (plb rfl kb_map (pl1 rfl rfl (pl1 rfl sees_m (plb rfl (cb_map rfl) (plb rfl kb_map pl0))))))))))) (eL := (ml1 (chC_map rfl rfl rfl rfl rfl) (ml1 rfl (mln (mln (mln (mln (ml1 rfl (ml1 sees_m (mlb (cb_map rfl) (mlb kb_map ml0))))))))))) (eM := (ml1 rfl (ml1 sees_m (mlb (cb_map rfl) (mlb kb_map ml0)))))) ?_
  refine dend ?_
  refine awp_seq ?_
  refine rdln [8] [0, 0, 0, 0, 0, 0, 0, 0, 0, 1] [0, 0, 0, 0, 0, 0, 0, 0, 1, 1] ?_
  refine Dp (fun _ => q_mv (s := .v (.c _)) ⟨rfl, rfl⟩) ?_
  refine Dp (fun _ => q_ncp ⟨rfl, rfl⟩) ?_
  refine Dp (fun _ => q_fap ⟨rfl, rfl⟩) ?_
  refine Dp (fun _ => q_mv (s := .v (.c _)) ⟨rfl, rfl⟩) ?_
  refine Dp (fun _ => q_ncp ⟨rfl, rfl⟩) ?_
  refine Dp (fun _ => q_fap ⟨rfl, rfl⟩) ?_
  refine DLp ?_
  refine Dp (fun _ => q_quo64 (y := 64) ⟨rfl, rfl⟩ (hz := by decide)) ?_
  refine De2 (fun _ k_ => q_callv [0, 1, 10, 11, 12, 13, 6, 7, 8, 9] [some (chC (sent / 64) er 2 true 4 6 (decide (er ≠ 0)) 8 sent 1 g any hash), some (wcs true wg wb), some (cC (.ptr 3 0) 0), some (u8s (S0 k (sent / 64).toNat)), cb true 5, kb true (S1 k (sent / 64).toNat), some (cC (.ptr 7 0) 0), some (u8s (S0 r er.toNat)), cb (decide (er ≠ 0)) 9, kb (decide (er ≠ 0)) (S1 r er.toNat)] [some (cC (.ptr 5 0) 0)] (of_s1 (sent / 64) er sent g (decide (er ≠ 0)) any hash (S0 k (sent / 64).toNat) (S1 k (sent / 64).toNat) (S0 r er.toNat) (S1 r er.toNat) wg wb (sent / 64) (UInt64.le_refl _) hp) k_ (ha := (cac (et rfl) rfl (cac (et rfl) cm_int ca0))) (e2 := (pl1 rfl (chC_map rfl rfl rfl rfl rfl) (pl1 rfl rfl (pl1 rfl rfl (pl1 rfl sees_m (plb rfl (cb_map rfl) (plb rfl kb_map (pl1 rfl rfl (pl1 rfl sees_m (plb rfl (cb_map rfl) (plb rfl kb_map pl0))))))))))) (eL := (ml1 (chC_map rfl rfl rfl rfl rfl) (ml1 rfl (ml1 rfl (ml1 sees_m (mlb (cb_map rfl) (mlb kb_map (ml1 rfl (ml1 sees_m (mlb (cb_map rfl) (mlb kb_map ml0))))))))))) (eM := (ml1 rfl ml0))) ?_
  refine Dp (fun _ => q_as (s := .v (.c _)) ⟨rfl, rfl⟩) ?_
  refine dend ?_
  refine awp_seq ?_
  refine rln ?_
  refine Mv ?_
  refine Mv ?_
  refine G (q_ncp ?_)
  refine G (q_fap ?_)
  refine G (q_ldp ?_)
  refine G2 (fun _ k_ => q_callv [14, 13] [some (cC (.ptr 1 0) sent), some (u8s (S1 k (sent / 64).toNat))] [] (setn_k (S1 k (sent / 64).toNat) 0 sent) k_ (ha := (cac (et rfl) rfl (cac (et rfl) cm_int ca0))) (e2 := (pl1 rfl rfl (pl1 rfl sees_m pl0))) (eL := (ml1 rfl (ml1 sees_m ml0))) (eM := ml0)) ?_
  refine gend ?_
  refine awp_seq ?_
  refine rln ?_
  refine Mv ?_
  refine Mv ?_
  refine G (q_ncp ?_)
  refine G (q_fap ?_)
  refine G (q_slp_no ?_)
  refine Mv ?_
  refine G2 (fun _ k_ => q_callv [14, 13] [some (cC (.ptr 1 0) (sent + 1)), some (u8s (S1 k (sent / 64).toNat))] [some (u8s X)] gs k_ (ha := (cac (et rfl) rfl (cac (et rfl) (sees_slc rfl rfl (ch_hash hh)) (cac (et rfl) sees_ro ca0)))) (e2 := (pl1 rfl rfl (pl1 rfl sees_m pl0))) (eL := (ml1 rfl (ml1 sees_m ml0))) (eM := (ml1 sees_m ml0))) ?_
  refine G (q_mv (s := .t _) ?_)
  refine G (q_ext (y := .c _) ?_)
  refine G (q_ext (y := .c _) ?_)
  refine As ?_
  refine As ?_
  refine gend ?_
  refine awp_seq ?_
  refine awp_seq ?_
  refine rln ?_
  refine Mv ?_
  refine G (q_neqn (y := 0) ?_)
  refine gend ?_
  refine cndN (fun hc4 => ?_) ?_; rotate_left
  · exact fun h => h rfl
  refine awp_skip ?_
  refine awp_seq ?_
  refine rln ?_
  refine Mv ?_
  refine G (q_ncp ?_)
  refine G (q_fap ?_)
  refine G (q_ldp ?_)
  refine G2 (fun _ k_ => q_calln gp k_ (ha := (cac (et rfl) cm_int (cac rfl cm_int ca0)))) ?_
  refine G (q_mv (s := .t _) ?_)
  refine G (q_ext (y := .c _) ?_)
  refine G (q_ext (y := .c _) ?_)
  refine As ?_
  refine As ?_
  refine gend ?_
  refine awp_seq ?_
  refine rln ?_
  refine Mv ?_
  refine Mv ?_
  refine G2 (fun _ k_ => q_app  k_ (eA := el_slc (xs := u8s Y) rfl (by rw [mapc_length]; omega) (cut_h hPl)) (eB := el_slc (xs := u8s X) rfl (by rw [mapc_length]; omega) (cut_h hXl))) ?_
  refine As ?_
  refine gend ?_
  refine awp_seq ?_
  refine rln ?_
  refine Mv ?_
  refine G (q_ncp ?_)
  refine G (q_fap ?_)
  refine G (q_ldp ?_)
  refine G (q_add64 (y := 1) ?_)
  refine G (q_ncp ?_)
  refine G (q_fap ?_)
  refine G20 (fun _ k_ => q_st k_) ?_
  refine gend ?_
  refine awp_seq ?_
  refine rln ?_
  refine Mv ?_
  refine As ?_
  refine G (q_as (s := sc (cn 0)) ?_)
  refine gend ?_
  refine awp_ret ?_
  exact fx2 [0, 1, 2, 3, 4, 5, 6, 7, 8, 9, 10, 11, 12, 13, 17] (hm0 := rfl) (hH := (pl1 rfl (chC_map rfl rfl rfl rfl rfl) (pl1 rfl rfl (plb rfl rfl (plb rfl rfl (plb rfl rfl (plb rfl rfl (pl1 rfl rfl (pl1 rfl sees_m (plb rfl (cb_map rfl) (plb rfl kb_map (pl1 rfl rfl (pl1 rfl sees_m (pl1 rfl rfl (pl1 rfl sees_m (pl1 rfl ((congrArg (List.map _) (mapc_append ..)).trans sees_m) pl0)))))))))))))))) (hn := piB rfl)
theorem move_nr (es er sent g : UInt64) (h1 h3 any : Bool) (hash A0 A1 B0 B1 : List UInt8) (wg wb : UInt64) (ep : UInt64) (hle : ¬ er < ep) : Good Try.prog 27 [.c (.ptr 0 3), .c (c64 ep)] [some (chC es er 2 h1 4 6 h3 8 sent 1 g any hash), some (wcs true wg wb), some (cC (.ptr 3 0) 0), some (u8s A0), cb h1 5, kb h1 A1, some (cC (.ptr 7 0) 0), some (u8s B0), cb h3 9, kb h3 B1] (.t []) [some (chC es er 2 h1 4 6 h3 8 sent 1 g any hash), some (wcs true wg wb), some (cC (.ptr 3 0) 0), some (u8s A0), cb h1 5, kb h1 A1, some (cC (.ptr 7 0) 0), some (u8s B0), cb h3 9, kb h3 B1] := by
  refine good_frm 41 Try.func27 rfl rfl rfl rfl rfl rfl ?_
  refine awp_block ?_
  refine awp_loop (fun x : Unit => ⟨frm 41 [(0, sc (.ptr 0 3)), (1, sc (c64 ep))], [some (chC es er 2 h1 4 6 h3 8 sent 1 g any hash), some (wcs true wg wb), some (cC (.ptr 3 0) 0), some (u8s A0), cb h1 5, kb h1 A1, some (cC (.ptr 7 0) 0), some (u8s B0), cb h3 9, kb h3 B1]⟩) (fun x => 0) () (sle_sub ⟨rfl, rfl, trivial⟩ rfl) fun x => ?_
  refine awp_seq ?_
  refine awp_seq ?_
  refine rln ?_
  refine Mv ?_
  refine G (q_ncp ?_)
  refine G (q_fap ?_)
  refine G (q_ldp ?_)
  refine Mv ?_
  refine G (q_lss64 ?_)
  refine gend ?_
  refine cndN (fun hc1 => ?_) ?_; rotate_left
  · exact hle
  refine awp_exit ?_
  exact fx0 [0, 1, 2, 3, 4, 5, 6, 7, 8, 9] (hH := (pl1 rfl (chC_map rfl rfl rfl rfl rfl) (pl1 rfl rfl (pl1 rfl rfl (pl1 rfl sees_m (plb rfl (cb_map rfl) (plb rfl kb_map (pl1 rfl rfl (pl1 rfl sees_m (plb rfl (cb_map rfl) (plb rfl kb_map pl0))))))))))) (hn := piB rfl)
end Go.Proofs.Ytklcckngmmklhaa

/- What functions of the program do, walked over the abstract machine. -/
namespace Go.Proofs.Ytklcckngmmklhaa
open Go Go.Abs Go.Proofs Go.Proofs.Ytklcckngmmklhaa.Ch Go.Proofs.Ytklcckngmmklhaa.Po Go.Proofs.Ytklcckngmmklhaa.Ae Go.Proofs.Ytklcckngmmklhaa.Wd
set_option maxRecDepth 20000
theorem kE_add (k : List UInt8) (a : Nat) : ∀ b, kE (kE k a) b = kE k (a + b)
  | 0 => rfl
  | b + 1 => by rw [kE, kE_add k a b]; rfl
theorem ch_len {a b c d e f g h i j : Cell} {hash : List UInt8} (hh : hash.length = 32) : 10 + 32 * 1 ≤ (a :: b :: c :: d :: e :: f :: g :: h :: i :: j :: u8s hash).length := by
  simp only [List.length_cons, mapc_length, hh]; decide
theorem cut_hi {l : List UInt8} {f k : Nat} (_h : l.length = f) : ((u8s l).drop (0 * 1)).take (k * 1) = u8s (l.take k) := by
  rw [Nat.zero_mul, List.drop_zero, Nat.mul_one, mapc_take]
theorem chopen_long (k r hash : List UInt8) (es er sent g : UInt64) (any : Bool) (wg wb : UInt64) (hk : k.length = 32) (hr : r.length = 32) (hh : hash.length = 32) (fr : List UInt8) (f : Nat) (hL : 4120 < f) : Good Try.prog 11 [.c (.ptr 0 0), .c (.ro f (u8s fr))] [some (chC es er 2 (decide (es ≠ 0)) 4 6 (decide (er ≠ 0)) 8 sent 1 g any hash), some (wcs true wg wb), some (cC (.ptr 3 0) 0), some (u8s (S0 k es.toNat)), cb (decide (es ≠ 0)) 5, kb (decide (es ≠ 0)) (S1 k es.toNat), some (cC (.ptr 7 0) 0), some (u8s (S0 r er.toNat)), cb (decide (er ≠ 0)) 9, kb (decide (er ≠ 0)) (S1 r er.toNat)] (.t [.c .nils, .c (c64 0), .c (cn 3)]) [some (chC es er 2 (decide (es ≠ 0)) 4 6 (decide (er ≠ 0)) 8 sent 1 g any hash), some (wcs true wg wb), some (cC (.ptr 3 0) 0), some (u8s (S0 k es.toNat)), cb (decide (es ≠ 0)) 5, kb (decide (es ≠ 0)) (S1 k es.toNat), some (cC (.ptr 7 0) 0), some (u8s (S0 r er.toNat)), cb (decide (er ≠ 0)) 9, kb (decide (er ≠ 0)) (S1 r er.toNat)] := by
  refine good_frm 100 Try.func11 rfl rfl rfl rfl rfl rfl ?_
  refine awp_seq ?_
  refine rln ?_
  refine As ?_
  refine G (q_as (s := sc (c64 0)) ?_)
  refine G (q_as (s := sc (cn 0)) ?_)
  refine gend ?_
  refine awp_seq ?_
  refine awp_block ?_
  refine awp_seq ?_
  refine rln ?_
  refine Mv ?_
  refine G2 (fun _ k_ => q_callp (cthere _ _ _ _ _ _ _ _ _ _ _) k_ (ha := (cac (et rfl) (sees_ch rfl rfl rfl rfl) ca0))) ?_
  refine G (q_notb ?_)
  refine As ?_
  refine gend ?_
  refine cndbnN (fun hc1 => ?_) ?_; rotate_left
  · exact rfl
  refine awp_seq ?_
  refine rln ?_
  refine Mv ?_
  refine G (q_leno ?_)
  refine G (q_gtrn (y := 4120) ?_)
  refine As ?_
  refine gend ?_
  refine cndY (fun hc2 => ?_) ?_; rotate_left
  · exact hL
  refine awp_seq ?_
  refine rln ?_
  refine As ?_
  refine G (q_as (s := sc (c64 0)) ?_)
  refine G (q_as (s := sc (cn 3)) ?_)
  refine gend ?_
  refine awp_ret ?_
  exact fx3 [0, 1, 2, 3, 4, 5, 6, 7, 8, 9] (hm0 := rfl) (hH := (pl1 rfl (chC_map rfl rfl rfl rfl rfl) (pl1 rfl rfl (pl1 rfl rfl (pl1 rfl sees_m (plb rfl (cb_map rfl) (plb rfl kb_map (pl1 rfl rfl (pl1 rfl sees_m (plb rfl (cb_map rfl) (plb rfl kb_map pl0))))))))))) (hn := piB rfl)
theorem chopen_short (k r hash : List UInt8) (es er sent g : UInt64) (any : Bool) (wg wb : UInt64) (hk : k.length = 32) (hr : r.length = 32) (hh : hash.length = 32) (fr : List UInt8) (f : Nat) (hL : f < 24) : Good Try.prog 11 [.c (.ptr 0 0), .c (.ro f (u8s fr))] [some (chC es er 2 (decide (es ≠ 0)) 4 6 (decide (er ≠ 0)) 8 sent 1 g any hash), some (wcs true wg wb), some (cC (.ptr 3 0) 0), some (u8s (S0 k es.toNat)), cb (decide (es ≠ 0)) 5, kb (decide (es ≠ 0)) (S1 k es.toNat), some (cC (.ptr 7 0) 0), some (u8s (S0 r er.toNat)), cb (decide (er ≠ 0)) 9, kb (decide (er ≠ 0)) (S1 r er.toNat)] (.t [.c .nils, .c (c64 0), .c (cn 4)]) [some (chC es er 2 (decide (es ≠ 0)) 4 6 (decide (er ≠ 0)) 8 sent 1 g any hash), some (wcs true wg wb), some (cC (.ptr 3 0) 0), some (u8s (S0 k es.toNat)), cb (decide (es ≠ 0)) 5, kb (decide (es ≠ 0)) (S1 k es.toNat), some (cC (.ptr 7 0) 0), some (u8s (S0 r er.toNat)), cb (decide (er ≠ 0)) 9, kb (decide (er ≠ 0)) (S1 r er.toNat)] := by
  refine good_frm 100 Try.func11 rfl rfl rfl rfl rfl rfl ?_
  refine awp_seq ?_
  refine rln ?_
  refine As ?_
  refine G (q_as (s := sc (c64 0)) ?_)
  refine G (q_as (s := sc (cn 0)) ?_)
  refine gend ?_
  refine awp_seq ?_
  refine awp_block ?_
  refine awp_seq ?_
  refine rln ?_
  refine Mv ?_
  refine G2 (fun _ k_ => q_callp (cthere _ _ _ _ _ _ _ _ _ _ _) k_ (ha := (cac (et rfl) (sees_ch rfl rfl rfl rfl) ca0))) ?_
  refine G (q_notb ?_)
  refine As ?_
  refine gend ?_
  refine cndbnN (fun hc1 => ?_) ?_; rotate_left
  · exact rfl
  refine awp_seq ?_
  refine rln ?_
  refine Mv ?_
  refine G (q_leno ?_)
  refine G (q_gtrn (y := 4120) ?_)
  refine As ?_
  refine gend ?_
  refine cndN (fun hc2 => ?_) ?_; rotate_left
  · omega
  refine awp_seq ?_
  refine rln ?_
  refine Mv ?_
  refine G (q_leno ?_)
  refine G (q_lssn (y := 24) ?_)
  refine As ?_
  refine gend ?_
  refine cndY (fun hc3 => ?_) ?_; rotate_left
  · exact hL
  refine awp_seq ?_
  refine rln ?_
  refine As ?_
  refine G (q_as (s := sc (c64 0)) ?_)
  refine G (q_as (s := sc (cn 4)) ?_)
  refine gend ?_
  refine awp_ret ?_
  exact fx3 [0, 1, 2, 3, 4, 5, 6, 7, 8, 9] (hm0 := rfl) (hH := (pl1 rfl (chC_map rfl rfl rfl rfl rfl) (pl1 rfl rfl (pl1 rfl rfl (pl1 rfl sees_m (plb rfl (cb_map rfl) (plb rfl kb_map (pl1 rfl rfl (pl1 rfl sees_m (plb rfl (cb_map rfl) (plb rfl kb_map pl0))))))))))) (hn := piB rfl)
theorem chopen_far (k r hash : List UInt8) (es er sent g : UInt64) (any : Bool) (wg wb : UInt64) (hk : k.length = 32) (hr : r.length = 32) (hh : hash.length = 32) (fr : List UInt8) (f : Nat) (N : UInt64) (hf : fr.length = f) (h24 : 24 ≤ f) (hL : f ≤ 4120) (hN : gt (fr.take 8) = N) (hn : 281474976710655 < N) : Good Try.prog 11 [.c (.ptr 0 0), .c (.ro f (u8s fr))] [some (chC es er 2 (decide (es ≠ 0)) 4 6 (decide (er ≠ 0)) 8 sent 1 g any hash), some (wcs true wg wb), some (cC (.ptr 3 0) 0), some (u8s (S0 k es.toNat)), cb (decide (es ≠ 0)) 5, kb (decide (es ≠ 0)) (S1 k es.toNat), some (cC (.ptr 7 0) 0), some (u8s (S0 r er.toNat)), cb (decide (er ≠ 0)) 9, kb (decide (er ≠ 0)) (S1 r er.toNat)] (.t [.c .nils, .c (c64 0), .c (cn 4)]) [some (chC es er 2 (decide (es ≠ 0)) 4 6 (decide (er ≠ 0)) 8 sent 1 g any hash), some (wcs true wg wb), some (cC (.ptr 3 0) 0), some (u8s (S0 k es.toNat)), cb (decide (es ≠ 0)) 5, kb (decide (es ≠ 0)) (S1 k es.toNat), some (cC (.ptr 7 0) 0), some (u8s (S0 r er.toNat)), cb (decide (er ≠ 0)) 9, kb (decide (er ≠ 0)) (S1 r er.toNat)] := by
  have gg := get 8 (fr.take 8) (by rw [List.length_take]; omega) (by decide) (by decide)
  rw [hN] at gg
  refine good_frm 100 Try.func11 rfl rfl rfl rfl rfl rfl ?_
  refine awp_seq ?_
  refine rln ?_
  refine As ?_
  refine G (q_as (s := sc (c64 0)) ?_)
  refine G (q_as (s := sc (cn 0)) ?_)
  refine gend ?_
  refine awp_seq ?_
  refine awp_block ?_
  refine awp_seq ?_
  refine rln ?_
  refine Mv ?_
  refine G2 (fun _ k_ => q_callp (cthere _ _ _ _ _ _ _ _ _ _ _) k_ (ha := (cac (et rfl) (sees_ch rfl rfl rfl rfl) ca0))) ?_
  refine G (q_notb ?_)
  refine As ?_
  refine gend ?_
  refine cndbnN (fun hc1 => ?_) ?_; rotate_left
  · exact rfl
  refine awp_seq ?_
  refine rln ?_
  refine Mv ?_
  refine G (q_leno ?_)
  refine G (q_gtrn (y := 4120) ?_)
  refine As ?_
  refine gend ?_
  refine cndN (fun hc2 => ?_) ?_; rotate_left
  · omega
  refine awp_seq ?_
  refine rln ?_
  refine Mv ?_
  refine G (q_leno ?_)
  refine G (q_lssn (y := 24) ?_)
  refine As ?_
  refine gend ?_
  refine cndN (fun hc3 => ?_) ?_; rotate_left
  · omega
  refine awp_skip ?_
  refine awp_seq ?_
  refine rln ?_
  refine Mv ?_
  refine G (q_slo_hi (k := 8) ?_ (hc := cut_hi hf))
  refine G2 (fun _ k_ => q_callp gg k_ (ha := (cac (et rfl) sees_ro ca0))) ?_
  refine G (q_mv (s := .t _) ?_)
  refine G (q_ext (y := .c _) ?_)
  refine G (q_ext (y := .c _) ?_)
  refine As ?_
  refine As ?_
  refine gend ?_
  refine awp_seq ?_
  refine awp_seq ?_
  refine rln ?_
  refine Mv ?_
  refine G (q_gtr64 (y := 281474976710655) ?_)
  refine gend ?_
  refine cndY (fun hc4 => ?_) ?_; rotate_left
  · exact hn
  refine awp_seq ?_
  refine rln ?_
  refine As ?_
  refine G (q_as (s := sc (c64 0)) ?_)
  refine G (q_as (s := sc (cn 4)) ?_)
  refine gend ?_
  refine awp_ret ?_
  exact fx3 [0, 1, 2, 3, 4, 5, 6, 7, 8, 9] (hm0 := rfl) (hH := (pl1 rfl (chC_map rfl rfl rfl rfl rfl) (pl1 rfl rfl (pl1 rfl rfl (pl1 rfl sees_m (plb rfl (cb_map rfl) (plb rfl kb_map (pl1 rfl rfl (pl1 rfl sees_m (plb rfl (cb_map rfl) (plb rfl kb_map pl0))))))))))) (hn := piB rfl)
theorem chopen_old (k r hash : List UInt8) (es er sent g : UInt64) (any : Bool) (wg wb : UInt64) (hk : k.length = 32) (hr : r.length = 32) (hh : hash.length = 32) (fr : List UInt8) (f : Nat) (N : UInt64) (hf : fr.length = f) (h24 : 24 ≤ f) (hL : f ≤ 4120) (hN : gt (fr.take 8) = N) (hn : ¬ 281474976710655 < N) (z : Nat) (hw : wchk true wg wb N = z) (hz : z ≠ 0) : Good Try.prog 11 [.c (.ptr 0 0), .c (.ro f (u8s fr))] [some (chC es er 2 (decide (es ≠ 0)) 4 6 (decide (er ≠ 0)) 8 sent 1 g any hash), some (wcs true wg wb), some (cC (.ptr 3 0) 0), some (u8s (S0 k es.toNat)), cb (decide (es ≠ 0)) 5, kb (decide (es ≠ 0)) (S1 k es.toNat), some (cC (.ptr 7 0) 0), some (u8s (S0 r er.toNat)), cb (decide (er ≠ 0)) 9, kb (decide (er ≠ 0)) (S1 r er.toNat)] (.t [.c .nils, .c (c64 0), .c (cn z)]) [some (chC es er 2 (decide (es ≠ 0)) 4 6 (decide (er ≠ 0)) 8 sent 1 g any hash), some (wcs true wg wb), some (cC (.ptr 3 0) 0), some (u8s (S0 k es.toNat)), cb (decide (es ≠ 0)) 5, kb (decide (es ≠ 0)) (S1 k es.toNat), some (cC (.ptr 7 0) 0), some (u8s (S0 r er.toNat)), cb (decide (er ≠ 0)) 9, kb (decide (er ≠ 0)) (S1 r er.toNat)] := by
  have gg := get 8 (fr.take 8) (by rw [List.length_take]; omega) (by decide) (by decide)
  rw [hN] at gg
  have gc := check true wg wb N
  rw [hw] at gc
  refine good_frm 100 Try.func11 rfl rfl rfl rfl rfl rfl ?_
  refine awp_seq ?_
  refine rln ?_
  refine As ?_
  refine G (q_as (s := sc (c64 0)) ?_)
  refine G (q_as (s := sc (cn 0)) ?_)
  refine gend ?_
  refine awp_seq ?_
  refine awp_block ?_
  refine awp_seq ?_
  refine rln ?_
  refine Mv ?_
  refine G2 (fun _ k_ => q_callp (cthere _ _ _ _ _ _ _ _ _ _ _) k_ (ha := (cac (et rfl) (sees_ch rfl rfl rfl rfl) ca0))) ?_
  refine G (q_notb ?_)
  refine As ?_
  refine gend ?_
  refine cndbnN (fun hc1 => ?_) ?_; rotate_left
  · exact rfl
  refine awp_seq ?_
  refine rln ?_
  refine Mv ?_
  refine G (q_leno ?_)
  refine G (q_gtrn (y := 4120) ?_)
  refine As ?_
  refine gend ?_
  refine cndN (fun hc2 => ?_) ?_; rotate_left
  · omega
  refine awp_seq ?_
  refine rln ?_
  refine Mv ?_
  refine G (q_leno ?_)
  refine G (q_lssn (y := 24) ?_)
  refine As ?_
  refine gend ?_
  refine cndN (fun hc3 => ?_) ?_; rotate_left
  · omega
  refine awp_skip ?_
  refine awp_seq ?_
  refine rln ?_
  refine Mv ?_
  refine G (q_slo_hi (k := 8) ?_ (hc := cut_hi hf))
  refine G2 (fun _ k_ => q_callp gg k_ (ha := (cac (et rfl) sees_ro ca0))) ?_
  refine G (q_mv (s := .t _) ?_)
  refine G (q_ext (y := .c _) ?_)
  refine G (q_ext (y := .c _) ?_)
  refine As ?_
  refine As ?_
  refine gend ?_
  refine awp_seq ?_
  refine awp_seq ?_
  refine rln ?_
  refine Mv ?_
  refine G (q_gtr64 (y := 281474976710655) ?_)
  refine gend ?_
  refine cndN (fun hc4 => ?_) ?_; rotate_left
  · exact hn
  refine awp_skip ?_
  refine awp_seq ?_
  refine awp_seq ?_
  refine rln ?_
  refine Mv ?_
  refine G (q_ncp ?_)
  refine G (q_fap ?_)
  refine G (q_ldp ?_)
  refine Mv ?_
  refine G2 (fun _ k_ => q_callp gc k_ (ha := (cac (et rfl) (sees_ptr rfl rfl rfl rfl) (cac (et rfl) cm_int ca0)))) ?_
  refine As ?_
  refine gend ?_
  refine awp_seq ?_
  refine rln ?_
  refine Mv ?_
  refine G (q_neqn (y := 0) ?_)
  refine gend ?_
  refine cndY (fun hc5 => ?_) ?_; rotate_left
  · exact hz
  refine awp_seq ?_
  refine rln ?_
  refine Mv ?_
  refine As ?_
  refine G (q_as (s := sc (c64 0)) ?_)
  refine As ?_
  refine gend ?_
  refine awp_ret ?_
  exact fx3 [0, 1, 2, 3, 4, 5, 6, 7, 8, 9] (hm0 := rfl) (hH := (pl1 rfl (chC_map rfl rfl rfl rfl rfl) (pl1 rfl rfl (pl1 rfl rfl (pl1 rfl sees_m (plb rfl (cb_map rfl) (plb rfl kb_map (pl1 rfl rfl (pl1 rfl sees_m (plb rfl (cb_map rfl) (plb rfl kb_map pl0))))))))))) (hn := piB rfl)
theorem chopen_seq (k r hash : List UInt8) (es er sent g : UInt64) (any : Bool) (wg wb : UInt64) (hk : k.length = 32) (hr : r.length = 32) (hh : hash.length = 32) (fr : List UInt8) (f : Nat) (N : UInt64) (hf : fr.length = f) (h24 : 24 ≤ f) (hL : f ≤ 4120) (hN : gt (fr.take 8) = N) (hn : ¬ 281474976710655 < N) (hw : wchk true wg wb N = 0) (hq : er + 16 < N / 64) : Good Try.prog 11 [.c (.ptr 0 0), .c (.ro f (u8s fr))] [some (chC es er 2 (decide (es ≠ 0)) 4 6 (decide (er ≠ 0)) 8 sent 1 g any hash), some (wcs true wg wb), some (cC (.ptr 3 0) 0), some (u8s (S0 k es.toNat)), cb (decide (es ≠ 0)) 5, kb (decide (es ≠ 0)) (S1 k es.toNat), some (cC (.ptr 7 0) 0), some (u8s (S0 r er.toNat)), cb (decide (er ≠ 0)) 9, kb (decide (er ≠ 0)) (S1 r er.toNat)] (.t [.c .nils, .c (c64 0), .c (cn 9)]) [some (chC es er 2 (decide (es ≠ 0)) 4 6 (decide (er ≠ 0)) 8 sent 1 g any hash), some (wcs true wg wb), some (cC (.ptr 3 0) 0), some (u8s (S0 k es.toNat)), cb (decide (es ≠ 0)) 5, kb (decide (es ≠ 0)) (S1 k es.toNat), some (cC (.ptr 7 0) 0), some (u8s (S0 r er.toNat)), cb (decide (er ≠ 0)) 9, kb (decide (er ≠ 0)) (S1 r er.toNat)] := by
  have gg := get 8 (fr.take 8) (by rw [List.length_take]; omega) (by decide) (by decide)
  rw [hN] at gg
  have gc := check true wg wb N
  rw [hw] at gc
  refine good_frm 100 Try.func11 rfl rfl rfl rfl rfl rfl ?_
  refine awp_seq ?_
  refine rln ?_
  refine As ?_
  refine G (q_as (s := sc (c64 0)) ?_)
  refine G (q_as (s := sc (cn 0)) ?_)
  refine gend ?_
  refine awp_seq ?_
  refine awp_block ?_
  refine awp_seq ?_
  refine rln ?_
  refine Mv ?_
  refine G2 (fun _ k_ => q_callp (cthere _ _ _ _ _ _ _ _ _ _ _) k_ (ha := (cac (et rfl) (sees_ch rfl rfl rfl rfl) ca0))) ?_
  refine G (q_notb ?_)
  refine As ?_
  refine gend ?_
  refine cndbnN (fun hc1 => ?_) ?_; rotate_left
  · exact rfl
  refine awp_seq ?_
  refine rln ?_
  refine Mv ?_
  refine G (q_leno ?_)
  refine G (q_gtrn (y := 4120) ?_)
  refine As ?_
  refine gend ?_
  refine cndN (fun hc2 => ?_) ?_; rotate_left
  · omega
  refine awp_seq ?_
  refine rln ?_
  refine Mv ?_
  refine G (q_leno ?_)
  refine G (q_lssn (y := 24) ?_)
  refine As ?_
  refine gend ?_
  refine cndN (fun hc3 => ?_) ?_; rotate_left
  · omega
  refine awp_skip ?_
  refine awp_seq ?_
  refine rln ?_
  refine Mv ?_
  refine G (q_slo_hi (k := 8) ?_ (hc := cut_hi hf))
  refine G2 (fun _ k_ => q_callp gg k_ (ha := (cac (et rfl) sees_ro ca0))) ?_
  refine G (q_mv (s := .t _) ?_)
  refine G (q_ext (y := .c _) ?_)
  refine G (q_ext (y := .c _) ?_)
  refine As ?_
  refine As ?_
  refine gend ?_
  refine awp_seq ?_
  refine awp_seq ?_
  refine rln ?_
  refine Mv ?_
  refine G (q_gtr64 (y := 281474976710655) ?_)
  refine gend ?_
  refine cndN (fun hc4 => ?_) ?_; rotate_left
  · exact hn
  refine awp_skip ?_
  refine awp_seq ?_
  refine awp_seq ?_
  refine rln ?_
  refine Mv ?_
  refine G (q_ncp ?_)
  refine G (q_fap ?_)
  refine G (q_ldp ?_)
  refine Mv ?_
  refine G2 (fun _ k_ => q_callp gc k_ (ha := (cac (et rfl) (sees_ptr rfl rfl rfl rfl) (cac (et rfl) cm_int ca0)))) ?_
  refine As ?_
  refine gend ?_
  refine awp_seq ?_
  refine rln ?_
  refine Mv ?_
  refine G (q_neqn (y := 0) ?_)
  refine gend ?_
  refine cndN (fun hc5 => ?_) ?_; rotate_left
  · exact fun h => h rfl
  refine awp_skip ?_
  refine awp_seq ?_
  refine rln ?_
  refine Mv ?_
  refine G (q_quo64 (y := 64) ?_ (hz := by decide))
  refine As ?_
  refine gend ?_
  refine awp_seq ?_
  refine awp_seq ?_
  refine rln ?_
  refine Mv ?_
  refine Mv ?_
  refine G (q_ncp ?_)
  refine G (q_fap ?_)
  refine G (q_fap ?_)
  refine G (q_ldp ?_)
  refine G (q_add64 (y := 16) ?_)
  refine G (q_gtr64 ?_)
  refine gend ?_
  refine cndY (fun hc6 => ?_) ?_; rotate_left
  · exact hq
  refine awp_seq ?_
  refine rln ?_
  refine As ?_
  refine G (q_as (s := sc (c64 0)) ?_)
  refine G (q_as (s := sc (cn 9)) ?_)
  refine gend ?_
  refine awp_ret ?_
  exact fx3 [0, 1, 2, 3, 4, 5, 6, 7, 8, 9] (hm0 := rfl) (hH := (pl1 rfl (chC_map rfl rfl rfl rfl rfl) (pl1 rfl rfl (pl1 rfl rfl (pl1 rfl sees_m (plb rfl (cb_map rfl) (plb rfl kb_map (pl1 rfl rfl (pl1 rfl sees_m (plb rfl (cb_map rfl) (plb rfl kb_map pl0))))))))))) (hn := piB rfl)
end Go.Proofs.Ytklcckngmmklhaa

/- What functions of the program do, walked over the abstract machine. -/
namespace Go.Proofs.Ytklcckngmmklhaa
open Go Go.Abs Go.Proofs Go.Proofs.Ytklcckngmmklhaa.Ch Go.Proofs.Ytklcckngmmklhaa.Po Go.Proofs.Ytklcckngmmklhaa.Ae Go.Proofs.Ytklcckngmmklhaa.Wd
set_option maxRecDepth 20000
set_option maxHeartbeats 1600000 in
theorem chopen_n0_bad (k r hash : List UInt8) (es er sent g : UInt64) (any : Bool) (wg wb : UInt64) (hk : k.length = 32) (hr : r.length = 32) (hh : hash.length = 32) (fr : List UInt8) (f : Nat) (N : UInt64) (hf : fr.length = f) (h24 : 24 ≤ f) (hL : f ≤ 4120) (hN : gt (fr.take 8) = N) (hn : ¬ 281474976710655 < N) (hw : wchk true wg wb N = 0) (hq : ¬ er + 16 < N / 64) (hle : N / 64 ≤ er) (he : (N / 64).toNat % 2 = 0) (hK : (S0 r er.toNat) = kE r (N / 64).toNat) (hop : aopen (kE r (N / 64).toNat) (anonce N) hash (fr.drop 8) = none) : Good Try.prog 11 [.c (.ptr 0 0), .c (.ro f (u8s fr))] [some (chC es er 2 (decide (es ≠ 0)) 4 6 (decide (er ≠ 0)) 8 sent 1 g any hash), some (wcs true wg wb), some (cC (.ptr 3 0) 0), some (u8s (S0 k es.toNat)), cb (decide (es ≠ 0)) 5, kb (decide (es ≠ 0)) (S1 k es.toNat), some (cC (.ptr 7 0) 0), some (u8s (S0 r er.toNat)), cb (decide (er ≠ 0)) 9, kb (decide (er ≠ 0)) (S1 r er.toNat)] (.t [.c .nils, .c (c64 0), .c (cn 8)]) [some (chC es er 2 (decide (es ≠ 0)) 4 6 (decide (er ≠ 0)) 8 sent 1 g any hash), some (wcs true wg wb), some (cC (.ptr 3 0) 0), some (u8s (S0 k es.toNat)), cb (decide (es ≠ 0)) 5, kb (decide (es ≠ 0)) (S1 k es.toNat), some (cC (.ptr 7 0) 0), some (u8s (S0 r er.toNat)), cb (decide (er ≠ 0)) 9, kb (decide (er ≠ 0)) (S1 r er.toNat)] := by
  have gg := get 8 (fr.take 8) (by rw [List.length_take]; omega) (by decide) (by decide)
  rw [hN] at gg
  have gc := check true wg wb N
  rw [hw] at gc
  have hdl : (fr.drop 8).length = f - 8 := by rw [List.length_drop, hf]
  have go := of_r0 es er sent g (decide (es ≠ 0)) (decide (er ≠ 0)) any hash (S0 k es.toNat) (S1 k es.toNat) (S0 r er.toNat) (S1 r er.toNat) wg wb (N / 64) hle ((mod2_nat _).trans he)
  rw [← hK] at hop
  have hA : (S0 r er.toNat).length = 32 := S0_len hr _
  have gs := copen_bad (S0 r er.toNat) hash (fr.drop 8) N 32 (f - 8) hA hh (by decide) hdl (by omega) (fun h => hn (by rw [h]; decide)) hop
  refine good_frm 100 Try.func11 rfl rfl rfl rfl rfl rfl ?_
  refine awp_seq ?_
  refine rln ?_
  refine As ?_
  refine G (q_as (s := sc (c64 0)) ?_)
  refine G (q_as (s := sc (cn 0)) ?_)
  refine gend ?_
  refine awp_seq ?_
  refine awp_block ?_
  refine awp_seq ?_
  refine rln ?_
  refine Mv ?_
  refine G2 (fun _ k_ => q_callp (cthere _ _ _ _ _ _ _ _ _ _ _) k_ (ha := (cac (et rfl) (sees_ch rfl rfl rfl rfl) ca0))) ?_
  refine G (q_notb ?_)
  refine As ?_
  refine gend ?_
  refine cndbnN (fun hc1 => ?_) ?_; rotate_left
  · exact rfl
  refine awp_seq ?_
  refine rln ?_
  refine Mv ?_
  refine G (q_leno ?_)
  refine G (q_gtrn (y := 4120) ?_)
  refine As ?_
  refine gend ?_
  refine cndN (fun hc2 => ?_) ?_; rotate_left
  · omega
  refine awp_seq ?_
  refine rln ?_
  refine Mv ?_
  refine G (q_leno ?_)
  refine G (q_lssn (y := 24) ?_)
  refine As ?_
  refine gend ?_
  refine cndN (fun hc3 => ?_) ?_; rotate_left
  · omega
  refine awp_skip ?_
  refine awp_seq ?_
  refine rln ?_
  refine Mv ?_
  refine G (q_slo_hi (k := 8) ?_ (hc := cut_hi hf))
  refine G2 (fun _ k_ => q_callp gg k_ (ha := (cac (et rfl) sees_ro ca0))) ?_
  refine G (q_mv (s := .t _) ?_)
  refine G (q_ext (y := .c _) ?_)
  refine G (q_ext (y := .c _) ?_)
  refine As ?_
  refine As ?_
  refine gend ?_
  refine awp_seq ?_
  refine awp_seq ?_
  refine rln ?_
  refine Mv ?_
  refine G (q_gtr64 (y := 281474976710655) ?_)
  refine gend ?_
  refine cndN (fun hc4 => ?_) ?_; rotate_left
  · exact hn
  refine awp_skip ?_
  refine awp_seq ?_
  refine awp_seq ?_
  refine rln ?_
  refine Mv ?_
  refine G (q_ncp ?_)
  refine G (q_fap ?_)
  refine G (q_ldp ?_)
  refine Mv ?_
  refine G2 (fun _ k_ => q_callp gc k_ (ha := (cac (et rfl) (sees_ptr rfl rfl rfl rfl) (cac (et rfl) cm_int ca0)))) ?_
  refine As ?_
  refine gend ?_
  refine awp_seq ?_
  refine rln ?_
  refine Mv ?_
  refine G (q_neqn (y := 0) ?_)
  refine gend ?_
  refine cndN (fun hc5 => ?_) ?_; rotate_left
  · exact fun h => h rfl
  refine awp_skip ?_
  refine awp_seq ?_
  refine rln ?_
  refine Mv ?_
  refine G (q_quo64 (y := 64) ?_ (hz := by decide))
  refine As ?_
  refine gend ?_
  refine awp_seq ?_
  refine awp_seq ?_
  refine rln ?_
  refine Mv ?_
  refine Mv ?_
  refine G (q_ncp ?_)
  refine G (q_fap ?_)
  refine G (q_fap ?_)
  refine G (q_ldp ?_)
  refine G (q_add64 (y := 16) ?_)
  refine G (q_gtr64 ?_)
  refine gend ?_
  refine cndN (fun hc6 => ?_) ?_; rotate_left
  · exact hq
  refine awp_skip ?_
  refine awp_seq ?_
  refine rln ?_
  refine Mv ?_
  refine G (q_ncp ?_)
  refine G (q_fap ?_)
  refine Mv ?_
  refine G2 (fun _ k_ => q_callv [0, 1, 2, 3, 4, 5, 6, 7, 8, 9] [some (chC es er 2 (decide (es ≠ 0)) 4 6 (decide (er ≠ 0)) 8 sent 1 g any hash), some (wcs true wg wb), some (cC (.ptr 3 0) 0), some (u8s (S0 k es.toNat)), cb (decide (es ≠ 0)) 5, kb (decide (es ≠ 0)) (S1 k es.toNat), some (cC (.ptr 7 0) 0), some (u8s (S0 r er.toNat)), cb (decide (er ≠ 0)) 9, kb (decide (er ≠ 0)) (S1 r er.toNat)] [some (cC (.ptr 7 0) 0)] go k_ (ha := (cac (et rfl) rfl (cac (et rfl) cm_int ca0))) (e2 := (pl1 rfl (chC_map rfl rfl rfl rfl rfl) (pl1 rfl rfl (pl1 rfl rfl (pl1 rfl sees_m (plb rfl (cb_map rfl) (plb rfl kb_map (pl1 rfl rfl (pl1 rfl sees_m (plb rfl (cb_map rfl) (plb rfl kb_map pl0))))))))))) (eL := (ml1 (chC_map rfl rfl rfl rfl rfl) (ml1 rfl (ml1 rfl (ml1 sees_m (mlb (cb_map rfl) (mlb kb_map (ml1 rfl (ml1 sees_m (mlb (cb_map rfl) (mlb kb_map ml0))))))))))) (eM := (ml1 rfl ml0))) ?_
  refine As ?_
  refine gend ?_
  refine awp_seq ?_
  refine rln ?_
  refine Mv ?_
  refine Mv ?_
  refine G2 (fun _ k_ => q_callv [10, 7] [some (cC (.ptr 1 0) N), some (u8s (S0 r er.toNat))] [] (setn_k (S0 r er.toNat) 0 N) k_ (ha := (cac (et rfl) rfl (cac (et rfl) cm_int ca0))) (e2 := (pl1 rfl rfl (pl1 rfl sees_m pl0))) (eL := (ml1 rfl (ml1 sees_m ml0))) (eM := ml0)) ?_
  refine gend ?_
  refine awp_seq ?_
  refine rdln [7] [0, 0, 0, 0, 0, 0, 0, 0, 1, 1, 1, 1, 1] [0, 0, 0, 0, 0, 0, 0, 1, 1, 1, 1, 1, 1] ?_
  refine Dp (fun _ => q_mv (s := .v (.c _)) ⟨rfl, rfl⟩) ?_
  refine Dp (fun _ => q_mv (s := .v (.c _)) ⟨rfl, rfl⟩) ?_
  refine Dp (fun _ => q_ncp ⟨rfl, rfl⟩) ?_
  refine Dp (fun _ => q_fap ⟨rfl, rfl⟩) ?_
  refine DSp 0 rfl (fun _ hv => q_slp_no ⟨rfl, rfl⟩ (hp := hv) (hl := ch_len hh)) ?_
  refine Dp (fun _ => q_mv (s := .v (.c _)) ⟨rfl, rfl⟩) ?_
  refine Dp (fun _ => q_slo_lo (j := 8) ⟨rfl, rfl⟩ (hc := cut_drop hf)) ?_
  refine De2 (fun _ k_ => q_callv [10, 7] [some (cC (.ptr 1 0) N), some (u8s (S0 r er.toNat))] [] gs k_ (ha := (cac (et rfl) rfl (cac (et rfl) (sees_slc rfl rfl (ch_hash hh)) (cac (et rfl) sees_ro ca0)))) (e2 := (pl1 rfl rfl (pl1 rfl sees_m pl0))) (eL := (ml1 rfl (ml1 sees_m ml0))) (eM := ml0)) ?_
  refine Dp (fun _ => q_mv (s := .t _) ⟨rfl, rfl⟩) ?_
  refine Dp (fun _ => q_ext (y := .c _) ⟨rfl, rfl⟩) ?_
  refine Dp (fun _ => q_ext (y := .c _) ⟨rfl, rfl⟩) ?_
  refine Dp (fun _ => q_as (s := .v (.c _)) ⟨rfl, rfl⟩) ?_
  refine Dp (fun _ => q_as (s := .v (.c _)) ⟨rfl, rfl⟩) ?_
  refine dend ?_
  refine awp_seq ?_
  refine awp_seq ?_
  refine rln ?_
  refine Mv ?_
  refine G (q_neqn (y := 0) ?_)
  refine gend ?_
  refine cndY (fun hc7 => ?_) ?_; rotate_left
  · exact (by decide : (8 : Nat) ≠ 0)
  refine awp_seq ?_
  refine rln ?_
  refine Mv ?_
  refine As ?_
  refine G (q_as (s := sc (c64 0)) ?_)
  refine As ?_
  refine gend ?_
  refine awp_ret ?_
  exact fx3 [0, 1, 2, 3, 4, 5, 6, 7, 8, 9] (hm0 := rfl) (hH := (pl1 rfl (chC_map rfl rfl rfl rfl rfl) (pl1 rfl rfl (pl1 rfl rfl (pl1 rfl sees_m (plb rfl (cb_map rfl) (plb rfl kb_map (pl1 rfl rfl (pl1 rfl sees_m (plb rfl (cb_map rfl) (plb rfl kb_map pl0))))))))))) (hn := piB rfl)
set_option maxHeartbeats 1600000 in
theorem chopen_n0_ok (k r hash : List UInt8) (es er sent g : UInt64) (any : Bool) (wg wb : UInt64) (hk : k.length = 32) (hr : r.length = 32) (hh : hash.length = 32) (fr : List UInt8) (f : Nat) (N : UInt64) (hf : fr.length = f) (h24 : 24 ≤ f) (hL : f ≤ 4120) (hN : gt (fr.take 8) = N) (hn : ¬ 281474976710655 < N) (hw : wchk true wg wb N = 0) (hq : ¬ er + 16 < N / 64) (hle : N / 64 ≤ er) (he : (N / 64).toNat % 2 = 0) (hK : (S0 r er.toNat) = kE r (N / 64).toNat) (p : List UInt8) (hop : aopen (kE r (N / 64).toNat) (anonce N) hash (fr.drop 8) = some p) : Good Try.prog 11 [.c (.ptr 0 0), .c (.ro f (u8s fr))] [some (chC es er 2 (decide (es ≠ 0)) 4 6 (decide (er ≠ 0)) 8 sent 1 g any hash), some (wcs true wg wb), some (cC (.ptr 3 0) 0), some (u8s (S0 k es.toNat)), cb (decide (es ≠ 0)) 5, kb (decide (es ≠ 0)) (S1 k es.toNat), some (cC (.ptr 7 0) 0), some (u8s (S0 r er.toNat)), cb (decide (er ≠ 0)) 9, kb (decide (er ≠ 0)) (S1 r er.toNat)] (.t [.c (.slc 10 0 p.length 1), .c (c64 N), .c (cn 0)]) [some (chC es er 2 (decide (es ≠ 0)) 4 6 (decide (er ≠ 0)) 8 sent 1 (mx g N) true hash), some (wcs true (wnext true wg wb N).1 (wnext true wg wb N).2), some (cC (.ptr 3 0) 0), some (u8s (S0 k es.toNat)), cb (decide (es ≠ 0)) 5, kb (decide (es ≠ 0)) (S1 k es.toNat), some (cC (.ptr 7 0) 0), some (u8s (S0 r er.toNat)), cb (decide (er ≠ 0)) 9, kb (decide (er ≠ 0)) (S1 r er.toNat), some (u8s p)] := by
  have gg := get 8 (fr.take 8) (by rw [List.length_take]; omega) (by decide) (by decide)
  rw [hN] at gg
  have gc := check true wg wb N
  rw [hw] at gc
  have hdl : (fr.drop 8).length = f - 8 := by rw [List.length_drop, hf]
  have go := of_r0 es er sent g (decide (es ≠ 0)) (decide (er ≠ 0)) any hash (S0 k es.toNat) (S1 k es.toNat) (S0 r er.toNat) (S1 r er.toNat) wg wb (N / 64) hle ((mod2_nat _).trans he)
  rw [← hK] at hop
  have hA : (S0 r er.toNat).length = 32 := S0_len hr _
  have gs := copen_ok (S0 r er.toNat) hash (fr.drop 8) N 32 (f - 8) hA hh (by decide) hdl (by omega) (fun h => hn (by rw [h]; decide)) p hop
  have hpl := aopen_len hop
  have gm := move_nr es er sent g (decide (es ≠ 0)) (decide (er ≠ 0)) any hash (S0 k es.toNat) (S1 k es.toNat) (S0 r er.toNat) (S1 r er.toNat) (wnext true wg wb N).1 (wnext true wg wb N).2 (N / 64) (by rw [UInt64.lt_iff_toNat_lt]; have h := hle; rw [UInt64.le_iff_toNat_le] at h; omega)
  obtain ⟨ww, hww⟩ : ∃ z, wnext true wg wb N = z := ⟨_, rfl⟩
  have gt_ := take true wg wb N
  rw [hww] at gt_ gm ⊢
  refine good_frm 100 Try.func11 rfl rfl rfl rfl rfl rfl ?_
  refine awp_seq ?_
  refine rln ?_
  refine As ?_
  refine G (q_as (s := sc (c64 0)) ?_)
  refine G (q_as (s := sc (cn 0)) ?_)
  refine gend ?_
  refine awp_seq ?_
  refine awp_block ?_
  refine awp_seq ?_
  refine rln ?_
  refine Mv ?_
  refine G2 (fun _ k_ => q_callp (cthere _ _ _ _ _ _ _ _ _ _ _) k_ (ha := (cac (et rfl) (sees_ch rfl rfl rfl rfl) ca0))) ?_
  refine G (q_notb ?_)
  refine As ?_
  refine gend ?_
  refine cndbnN (fun hc1 => ?_) ?_; rotate_left
  · exact rfl
  refine awp_seq ?_
  refine rln ?_
  refine Mv ?_
  refine G (q_leno ?_)
  refine G (q_gtrn (y := 4120) ?_)
  refine As ?_
  refine gend ?_
  refine cndN (fun hc2 => ?_) ?_; rotate_left
  · omega
  refine awp_seq ?_
  refine rln ?_
  refine Mv ?_
  refine G (q_leno ?_)
  refine G (q_lssn (y := 24) ?_)
  refine As ?_
  refine gend ?_
  refine cndN (fun hc3 => ?_) ?_; rotate_left
  · omega
  refine awp_skip ?_
  refine awp_seq ?_
  refine rln ?_
  refine Mv ?_
  refine G (q_slo_hi (k := 8) ?_ (hc := cut_hi hf))
  refine G2 (fun _ k_ => q_callp gg k_ (ha := (cac (et rfl) sees_ro ca0))) ?_
  refine G (q_mv (s := .t _) ?_)
  refine G (q_ext (y := .c _) ?_)
  refine G (q_ext (y := .c _) ?_)
  refine As ?_
  refine As ?_
  refine gend ?_
  refine awp_seq ?_
  refine awp_seq ?_
  refine rln ?_
  refine Mv ?_
  refine G (q_gtr64 (y := 281474976710655) ?_)
  refine gend ?_
  refine cndN (fun hc4 => ?_) ?_; rotate_left
  · exact hn
  refine awp_skip ?_
  refine awp_seq ?_
  refine awp_seq ?_
  refine rln ?_
  refine Mv ?_
  refine G (q_ncp ?_)
  refine G (q_fap ?_)
  refine G (q_ldp ?_)
  refine Mv ?_
  refine G2 (fun _ k_ => q_callp gc k_ (ha := (cac (et rfl) (sees_ptr rfl rfl rfl rfl) (cac (et rfl) cm_int ca0)))) ?_
  refine As ?_
  refine gend ?_
  refine awp_seq ?_
  refine rln ?_
  refine Mv ?_
  refine G (q_neqn (y := 0) ?_)
  refine gend ?_
  refine cndN (fun hc5 => ?_) ?_; rotate_left
  · exact fun h => h rfl
  refine awp_skip ?_
  refine awp_seq ?_
  refine rln ?_
  refine Mv ?_
  refine G (q_quo64 (y := 64) ?_ (hz := by decide))
  refine As ?_
  refine gend ?_
  refine awp_seq ?_
  refine awp_seq ?_
  refine rln ?_
  refine Mv ?_
  refine Mv ?_
  refine G (q_ncp ?_)
  refine G (q_fap ?_)
  refine G (q_fap ?_)
  refine G (q_ldp ?_)
  refine G (q_add64 (y := 16) ?_)
  refine G (q_gtr64 ?_)
  refine gend ?_
  refine cndN (fun hc6 => ?_) ?_; rotate_left
  · exact hq
  refine awp_skip ?_
  refine awp_seq ?_
  refine rln ?_
  refine Mv ?_
  refine G (q_ncp ?_)
  refine G (q_fap ?_)
  refine Mv ?_
  refine G2 (fun _ k_ => q_callv [0, 1, 2, 3, 4, 5, 6, 7, 8, 9] [some (chC es er 2 (decide (es ≠ 0)) 4 6 (decide (er ≠ 0)) 8 sent 1 g any hash), some (wcs true wg wb), some (cC (.ptr 3 0) 0), some (u8s (S0 k es.toNat)), cb (decide (es ≠ 0)) 5, kb (decide (es ≠ 0)) (S1 k es.toNat), some (cC (.ptr 7 0) 0), some (u8s (S0 r er.toNat)), cb (decide (er ≠ 0)) 9, kb (decide (er ≠ 0)) (S1 r er.toNat)] [some (cC (.ptr 7 0) 0)] go k_ (ha := (cac (et rfl) rfl (cac (et rfl) cm_int ca0))) (e2 := (pl1 rfl (chC_map rfl rfl rfl rfl rfl) (pl1 rfl rfl (pl1 rfl rfl (pl1 rfl sees_m (plb rfl (cb_map rfl) (plb rfl kb_map (pl1 rfl rfl (pl1 rfl sees_m (plb rfl (cb_map rfl) (plb rfl kb_map pl0))))))))))) (eL := (ml1 (chC_map rfl rfl rfl rfl rfl) (ml1 rfl (ml1 rfl (ml1 sees_m (mlb (cb_map rfl) (mlb kb_map (ml1 rfl (ml1 sees_m (mlb (cb_map rfl) (mlb kb_map ml0))))))))))) (eM := (ml1 rfl ml0))) ?_
  refine As ?_
  refine gend ?_
  refine awp_seq ?_
  refine rln ?_
  refine Mv ?_
  refine Mv ?_
  refine G2 (fun _ k_ => q_callv [10, 7] [some (cC (.ptr 1 0) N), some (u8s (S0 r er.toNat))] [] (setn_k (S0 r er.toNat) 0 N) k_ (ha := (cac (et rfl) rfl (cac (et rfl) cm_int ca0))) (e2 := (pl1 rfl rfl (pl1 rfl sees_m pl0))) (eL := (ml1 rfl (ml1 sees_m ml0))) (eM := ml0)) ?_
  refine gend ?_
  refine awp_seq ?_
  refine rdln [7] [0, 0, 0, 0, 0, 0, 0, 0, 1, 1, 1, 1, 1] [0, 0, 0, 0, 0, 0, 0, 1, 1, 1, 1, 1, 1] ?_
  refine Dp (fun _ => q_mv (s := .v (.c _)) ⟨rfl, rfl⟩) ?_
  refine Dp (fun _ => q_mv (s := .v (.c _)) ⟨rfl, rfl⟩) ?_
  refine Dp (fun _ => q_ncp ⟨rfl, rfl⟩) ?_
  refine Dp (fun _ => q_fap ⟨rfl, rfl⟩) ?_
  refine DSp 0 rfl (fun _ hv => q_slp_no ⟨rfl, rfl⟩ (hp := hv) (hl := ch_len hh)) ?_
  refine Dp (fun _ => q_mv (s := .v (.c _)) ⟨rfl, rfl⟩) ?_
  refine Dp (fun _ => q_slo_lo (j := 8) ⟨rfl, rfl⟩ (hc := cut_drop hf)) ?_
  refine De2 (fun _ k_ => q_callv [10, 7] [some (cC (.ptr 1 0) (N + 1)), some (u8s (S0 r er.toNat))] [some (u8s p)] gs k_ (ha := (cac (et rfl) rfl (cac (et rfl) (sees_slc rfl rfl (ch_hash hh)) (cac (et rfl) sees_ro ca0)))) (e2 := (pl1 rfl rfl (pl1 rfl sees_m pl0))) (eL := (ml1 rfl (ml1 sees_m ml0))) (eM := (ml1 sees_m ml0))) ?_
  refine Dp (fun _ => q_mv (s := .t _) ⟨rfl, rfl⟩) ?_
  refine Dp (fun _ => q_ext (y := .c _) ⟨rfl, rfl⟩) ?_
  refine Dp (fun _ => q_ext (y := .c _) ⟨rfl, rfl⟩) ?_
  refine Dp (fun _ => q_as (s := .v (.c _)) ⟨rfl, rfl⟩) ?_
  refine Dp (fun _ => q_as (s := .v (.c _)) ⟨rfl, rfl⟩) ?_
  refine dend ?_
  refine awp_seq ?_
  refine awp_seq ?_
  refine rln ?_
  refine Mv ?_
  refine G (q_neqn (y := 0) ?_)
  refine gend ?_
  refine cndN (fun hc7 => ?_) ?_; rotate_left
  · exact fun h => h rfl
  refine awp_skip ?_
  refine awp_seq ?_
  refine rln ?_
  refine Mv ?_
  refine G (q_ncp ?_)
  refine G (q_fap ?_)
  refine G (q_ldp ?_)
  refine Mv ?_
  refine G2 (fun _ k_ => q_callw 1 gt_ k_ (ha := (cac (et rfl) rfl (cac (et rfl) cm_int ca0)))) ?_
  refine gend ?_
  refine awp_seq ?_
  refine rln ?_
  refine Mv ?_
  refine G (q_ncp ?_)
  refine G (q_fap ?_)
  refine Mv ?_
  refine G2 (fun _ k_ => q_callv [0, 1, 2, 3, 4, 5, 6, 7, 8, 9] [some (chC es er 2 (decide (es ≠ 0)) 4 6 (decide (er ≠ 0)) 8 sent 1 g any hash), some (wcs true ww.1 ww.2), some (cC (.ptr 3 0) 0), some (u8s (S0 k es.toNat)), cb (decide (es ≠ 0)) 5, kb (decide (es ≠ 0)) (S1 k es.toNat), some (cC (.ptr 7 0) 0), some (u8s (S0 r er.toNat)), cb (decide (er ≠ 0)) 9, kb (decide (er ≠ 0)) (S1 r er.toNat)] [] gm k_ (ha := (cac (et rfl) rfl (cac (et rfl) cm_int ca0))) (e2 := (pl1 rfl (chC_map rfl rfl rfl rfl rfl) (pl1 rfl rfl (pl1 rfl rfl (pl1 rfl sees_m (plb rfl (cb_map rfl) (plb rfl kb_map (pl1 rfl rfl (pl1 rfl sees_m (plb rfl (cb_map rfl) (plb rfl kb_map pl0))))))))))) (eL := (ml1 (chC_map rfl rfl rfl rfl rfl) (ml1 rfl (ml1 rfl (ml1 sees_m (mlb (cb_map rfl) (mlb kb_map (ml1 rfl (ml1 sees_m (mlb (cb_map rfl) (mlb kb_map ml0))))))))))) (eM := ml0)) ?_
  refine gend ?_
  refine awp_seq ?_
  refine rln ?_
  refine Mv ?_
  refine Mv ?_
  refine Mv ?_
  refine G (q_ncp ?_)
  refine G (q_fap ?_)
  refine G (q_ldp ?_)
  refine Mv ?_
  refine G (q_max64 ?_)
  refine G (q_ncp ?_)
  refine G (q_fap ?_)
  refine G20 (fun _ k_ => q_st k_) ?_
  refine G (q_ncp ?_)
  refine G (q_fap ?_)
  refine G20 (fun _ k_ => q_st (c := .bool true) k_) ?_
  refine gend ?_
  refine awp_seq ?_
  refine rln ?_
  refine Mv ?_
  refine Mv ?_
  refine As ?_
  refine As ?_
  refine G (q_as (s := sc (cn 0)) ?_)
  refine gend ?_
  refine awp_ret ?_
  rw [show p.length = f - 8 - 16 by omega]; exact fx3 [0, 1, 2, 3, 4, 5, 6, 7, 8, 9, 11] (hm0 := rfl) (hH := (pl1 rfl (chC_map rfl rfl rfl rfl rfl) (pl1 rfl rfl (pl1 rfl rfl (pl1 rfl sees_m (plb rfl (cb_map rfl) (plb rfl kb_map (pl1 rfl rfl (pl1 rfl sees_m (plb rfl (cb_map rfl) (plb rfl kb_map (pl1 rfl sees_m pl0)))))))))))) (hn := piB rfl)
set_option maxHeartbeats 1600000 in
theorem chopen_n1_bad (k r hash : List UInt8) (es er sent g : UInt64) (any : Bool) (wg wb : UInt64) (hk : k.length = 32) (hr : r.length = 32) (hh : hash.length = 32) (fr : List UInt8) (f : Nat) (N : UInt64) (hf : fr.length = f) (h24 : 24 ≤ f) (hL : f ≤ 4120) (hN : gt (fr.take 8) = N) (hn : ¬ 281474976710655 < N) (hw : wchk true wg wb N = 0) (hq : ¬ er + 16 < N / 64) (hle : N / 64 ≤ er) (he : (N / 64).toNat % 2 = 1) (hone : (decide (er ≠ 0)) = true) (hK : (S1 r er.toNat) = kE r (N / 64).toNat) (hop : aopen (kE r (N / 64).toNat) (anonce N) hash (fr.drop 8) = none) : Good Try.prog 11 [.c (.ptr 0 0), .c (.ro f (u8s fr))] [some (chC es er 2 (decide (es ≠ 0)) 4 6 (decide (er ≠ 0)) 8 sent 1 g any hash), some (wcs true wg wb), some (cC (.ptr 3 0) 0), some (u8s (S0 k es.toNat)), cb (decide (es ≠ 0)) 5, kb (decide (es ≠ 0)) (S1 k es.toNat), some (cC (.ptr 7 0) 0), some (u8s (S0 r er.toNat)), cb (decide (er ≠ 0)) 9, kb (decide (er ≠ 0)) (S1 r er.toNat)] (.t [.c .nils, .c (c64 0), .c (cn 8)]) [some (chC es er 2 (decide (es ≠ 0)) 4 6 (decide (er ≠ 0)) 8 sent 1 g any hash), some (wcs true wg wb), some (cC (.ptr 3 0) 0), some (u8s (S0 k es.toNat)), cb (decide (es ≠ 0)) 5, kb (decide (es ≠ 0)) (S1 k es.toNat), some (cC (.ptr 7 0) 0), some (u8s (S0 r er.toNat)), cb (decide (er ≠ 0)) 9, kb (decide (er ≠ 0)) (S1 r er.toNat)] := by
  have gg := get 8 (fr.take 8) (by rw [List.length_take]; omega) (by decide) (by decide)
  rw [hN] at gg
  have gc := check true wg wb N
  rw [hw] at gc
  have hdl : (fr.drop 8).length = f - 8 := by rw [List.length_drop, hf]
  have go := of_r1 es er sent g (decide (es ≠ 0)) any hash (S0 k es.toNat) (S1 k es.toNat) (S0 r er.toNat) (S1 r er.toNat) wg wb (N / 64) hle ((mod2_nat _).trans he)
  rw [← hK] at hop
  rw [hone]
  have hA : (S1 r er.toNat).length = 32 := S1_len hr _
  have gs := copen_bad (S1 r er.toNat) hash (fr.drop 8) N 32 (f - 8) hA hh (by decide) hdl (by omega) (fun h => hn (by rw [h]; decide)) hop
  refine good_frm 100 Try.func11 rfl rfl rfl rfl rfl rfl ?_
  refine awp_seq ?_
  refine rln ?_
  refine As ?_
  refine G (q_as (s := sc (c64 0)) ?_)
  refine G (q_as (s := sc (cn 0)) ?_)
  refine gend ?_
  refine awp_seq ?_
  refine awp_block ?_
  refine awp_seq ?_
  refine rln ?_
  refine Mv ?_
  refine G2 (fun _ k_ => q_callp (cthere _ _ _ _ _ _ _ _ _ _ _) k_ (ha := (cac (et rfl) (sees_ch rfl rfl rfl rfl) ca0))) ?_
  refine G (q_notb ?_)
  refine As ?_
  refine gend ?_
  refine cndbnN (fun hc1 => ?_) ?_; rotate_left
  · exact rfl
  refine awp_seq ?_
  refine rln ?_
  refine Mv ?_
  refine G (q_leno ?_)
  refine G (q_gtrn (y := 4120) ?_)
  refine As ?_
  refine gend ?_
  refine cndN (fun hc2 => ?_) ?_; rotate_left
  · omega
  refine awp_seq ?_
  refine rln ?_
  refine Mv ?_
  refine G (q_leno ?_)
  refine G (q_lssn (y := 24) ?_)
  refine As ?_
  refine gend ?_
  refine cndN (fun hc3 => ?_) ?_; rotate_left
  · omega
  refine awp_skip ?_
  refine awp_seq ?_
  refine rln ?_
  refine Mv ?_
  refine G (q_slo_hi (k := 8) ?_ (hc := cut_hi hf))
  refine G2 (fun _ k_ => q_callp gg k_ (ha := (cac (et rfl) sees_ro ca0))) ?_
  refine G (q_mv (s := .t _) ?_)
  refine G (q_ext (y := .c _) ?_)
  refine G (q_ext (y := .c _) ?_)
  refine As ?_
  refine As ?_
  refine gend ?_
  refine awp_seq ?_
  refine awp_seq ?_
  refine rln ?_
  refine Mv ?_
  refine G (q_gtr64 (y := 281474976710655) ?_)
  refine gend ?_
  refine cndN (fun hc4 => ?_) ?_; rotate_left
  · exact hn
  refine awp_skip ?_
  refine awp_seq ?_
  refine awp_seq ?_
  refine rln ?_
  refine Mv ?_
  refine G (q_ncp ?_)
  refine G (q_fap ?_)
  refine G (q_ldp ?_)
  refine Mv ?_
  refine G2 (fun _ k_ => q_callp gc k_ (ha := (cac (et rfl) (sees_ptr rfl rfl rfl rfl) (cac (et rfl) cm_int ca0)))) ?_
  refine As ?_
  refine gend ?_
  refine awp_seq ?_
  refine rln ?_
  refine Mv ?_
  refine G (q_neqn (y := 0) ?_)
  refine gend ?_
  refine cndN (fun hc5 => ?_) ?_; rotate_left
  · exact fun h => h rfl
  refine awp_skip ?_
  refine awp_seq ?_
  refine rln ?_
  refine Mv ?_
  refine G (q_quo64 (y := 64) ?_ (hz := by decide))
  refine As ?_
  refine gend ?_
  refine awp_seq ?_
  refine awp_seq ?_
  refine rln ?_
  refine Mv ?_
  refine Mv ?_
  refine G (q_ncp ?_)
  refine G (q_fap ?_)
  refine G (q_fap ?_)
  refine G (q_ldp ?_)
  refine G (q_add64 (y := 16) ?_)
  refine G (q_gtr64 ?_)
  refine gend ?_
  refine cndN (fun hc6 => ?_) ?_; rotate_left
  · exact hq
  refine awp_skip ?_
  refine awp_seq ?_
  refine rln ?_
  refine Mv ?_
  refine G (q_ncp ?_)
  refine G (q_fap ?_)
  refine Mv ?_
  refine G2 (fun _ k_ => q_callv [0, 1, 2, 3, 4, 5, 6, 7, 8, 9] [some (chC es er 2 (decide (es ≠ 0)) 4 6 true 8 sent 1 g any hash), some (wcs true wg wb), some (cC (.ptr 3 0) 0), some (u8s (S0 k es.toNat)), cb (decide (es ≠ 0)) 5, kb (decide (es ≠ 0)) (S1 k es.toNat), some (cC (.ptr 7 0) 0), some (u8s (S0 r er.toNat)), cb true 9, kb true (S1 r er.toNat)] [some (cC (.ptr 9 0) 0)] go k_ (ha := (cac (et rfl) rfl (cac (et rfl) cm_int ca0))) (e2 := (pl1 rfl (chC_map rfl rfl rfl rfl rfl) (pl1 rfl rfl (pl1 rfl rfl (pl1 rfl sees_m (plb rfl (cb_map rfl) (plb rfl kb_map (pl1 rfl rfl (pl1 rfl sees_m (pl1 rfl rfl (pl1 rfl sees_m pl0))))))))))) (eL := (ml1 (chC_map rfl rfl rfl rfl rfl) (ml1 rfl (ml1 rfl (ml1 sees_m (mlb (cb_map rfl) (mlb kb_map (ml1 rfl (ml1 sees_m (ml1 rfl (ml1 sees_m ml0))))))))))) (eM := (ml1 rfl ml0))) ?_
  refine As ?_
  refine gend ?_
  refine awp_seq ?_
  refine rln ?_
  refine Mv ?_
  refine Mv ?_
  refine G2 (fun _ k_ => q_callv [10, 9] [some (cC (.ptr 1 0) N), some (u8s (S1 r er.toNat))] [] (setn_k (S1 r er.toNat) 0 N) k_ (ha := (cac (et rfl) rfl (cac (et rfl) cm_int ca0))) (e2 := (pl1 rfl rfl (pl1 rfl sees_m pl0))) (eL := (ml1 rfl (ml1 sees_m ml0))) (eM := ml0)) ?_
  refine gend ?_
  refine awp_seq ?_
  refine rdln [7] [0, 0, 0, 0, 0, 0, 0, 0, 1, 1, 1, 1, 1] [0, 0, 0, 0, 0, 0, 0, 1, 1, 1, 1, 1, 1] ?_
  refine Dp (fun _ => q_mv (s := .v (.c _)) ⟨rfl, rfl⟩) ?_
  refine Dp (fun _ => q_mv (s := .v (.c _)) ⟨rfl, rfl⟩) ?_
  refine Dp (fun _ => q_ncp ⟨rfl, rfl⟩) ?_
  refine Dp (fun _ => q_fap ⟨rfl, rfl⟩) ?_
  refine DSp 0 rfl (fun _ hv => q_slp_no ⟨rfl, rfl⟩ (hp := hv) (hl := ch_len hh)) ?_
  refine Dp (fun _ => q_mv (s := .v (.c _)) ⟨rfl, rfl⟩) ?_
  refine Dp (fun _ => q_slo_lo (j := 8) ⟨rfl, rfl⟩ (hc := cut_drop hf)) ?_
  refine De2 (fun _ k_ => q_callv [10, 9] [some (cC (.ptr 1 0) N), some (u8s (S1 r er.toNat))] [] gs k_ (ha := (cac (et rfl) rfl (cac (et rfl) (sees_slc rfl rfl (ch_hash hh)) (cac (et rfl) sees_ro ca0)))) (e2 := (pl1 rfl rfl (pl1 rfl sees_m pl0))) (eL := (ml1 rfl (ml1 sees_m ml0))) (eM := ml0)) ?_
  refine Dp (fun _ => q_mv (s := .t _) ⟨rfl, rfl⟩) ?_
  refine Dp (fun _ => q_ext (y := .c _) ⟨rfl, rfl⟩) ?_
  refine Dp (fun _ => q_ext (y := .c _) ⟨rfl, rfl⟩) ?_
  refine Dp (fun _ => q_as (s := .v (.c _)) ⟨rfl, rfl⟩) ?_
  refine Dp (fun _ => q_as (s := .v (.c _)) ⟨rfl, rfl⟩) ?_
  refine dend ?_
  refine awp_seq ?_
  refine awp_seq ?_
  refine rln ?_
  refine Mv ?_
  refine G (q_neqn (y := 0) ?_)
  refine gend ?_
  refine cndY (fun hc7 => ?_) ?_; rotate_left
  · exact (by decide : (8 : Nat) ≠ 0)
  refine awp_seq ?_
  refine rln ?_
  refine Mv ?_
  refine As ?_
  refine G (q_as (s := sc (c64 0)) ?_)
  refine As ?_
  refine gend ?_
  refine awp_ret ?_
  exact fx3 [0, 1, 2, 3, 4, 5, 6, 7, 8, 9] (hm0 := rfl) (hH := (pl1 rfl (chC_map rfl rfl rfl rfl rfl) (pl1 rfl rfl (pl1 rfl rfl (pl1 rfl sees_m (plb rfl (cb_map rfl) (plb rfl kb_map (pl1 rfl rfl (pl1 rfl sees_m (pl1 rfl rfl (pl1 rfl sees_m pl0))))))))))) (hn := piB rfl)
set_option maxHeartbeats 1600000 in
theorem chopen_n1_ok (k r hash : List UInt8) (es er sent g : UInt64) (any : Bool) (wg wb : UInt64) (hk : k.length = 32) (hr : r.length = 32) (hh : hash.length = 32) (fr : List UInt8) (f : Nat) (N : UInt64) (hf : fr.length = f) (h24 : 24 ≤ f) (hL : f ≤ 4120) (hN : gt (fr.take 8) = N) (hn : ¬ 281474976710655 < N) (hw : wchk true wg wb N = 0) (hq : ¬ er + 16 < N / 64) (hle : N / 64 ≤ er) (he : (N / 64).toNat % 2 = 1) (hone : (decide (er ≠ 0)) = true) (hK : (S1 r er.toNat) = kE r (N / 64).toNat) (p : List UInt8) (hop : aopen (kE r (N / 64).toNat) (anonce N) hash (fr.drop 8) = some p) : Good Try.prog 11 [.c (.ptr 0 0), .c (.ro f (u8s fr))] [some (chC es er 2 (decide (es ≠ 0)) 4 6 (decide (er ≠ 0)) 8 sent 1 g any hash), some (wcs true wg wb), some (cC (.ptr 3 0) 0), some (u8s (S0 k es.toNat)), cb (decide (es ≠ 0)) 5, kb (decide (es ≠ 0)) (S1 k es.toNat), some (cC (.ptr 7 0) 0), some (u8s (S0 r er.toNat)), cb (decide (er ≠ 0)) 9, kb (decide (er ≠ 0)) (S1 r er.toNat)] (.t [.c (.slc 10 0 p.length 1), .c (c64 N), .c (cn 0)]) [some (chC es er 2 (decide (es ≠ 0)) 4 6 (decide (er ≠ 0)) 8 sent 1 (mx g N) true hash), some (wcs true (wnext true wg wb N).1 (wnext true wg wb N).2), some (cC (.ptr 3 0) 0), some (u8s (S0 k es.toNat)), cb (decide (es ≠ 0)) 5, kb (decide (es ≠ 0)) (S1 k es.toNat), some (cC (.ptr 7 0) 0), some (u8s (S0 r er.toNat)), cb (decide (er ≠ 0)) 9, kb (decide (er ≠ 0)) (S1 r er.toNat), some (u8s p)] := by
  have gg := get 8 (fr.take 8) (by rw [List.length_take]; omega) (by decide) (by decide)
  rw [hN] at gg
  have gc := check true wg wb N
  rw [hw] at gc
  have hdl : (fr.drop 8).length = f - 8 := by rw [List.length_drop, hf]
  have go := of_r1 es er sent g (decide (es ≠ 0)) any hash (S0 k es.toNat) (S1 k es.toNat) (S0 r er.toNat) (S1 r er.toNat) wg wb (N / 64) hle ((mod2_nat _).trans he)
  rw [← hK] at hop
  rw [hone]
  have hA : (S1 r er.toNat).length = 32 := S1_len hr _
  have gs := copen_ok (S1 r er.toNat) hash (fr.drop 8) N 32 (f - 8) hA hh (by decide) hdl (by omega) (fun h => hn (by rw [h]; decide)) p hop
  have hpl := aopen_len hop
  have gm := move_nr es er sent g (decide (es ≠ 0)) true any hash (S0 k es.toNat) (S1 k es.toNat) (S0 r er.toNat) (S1 r er.toNat) (wnext true wg wb N).1 (wnext true wg wb N).2 (N / 64) (by rw [UInt64.lt_iff_toNat_lt]; have h := hle; rw [UInt64.le_iff_toNat_le] at h; omega)
  obtain ⟨ww, hww⟩ : ∃ z, wnext true wg wb N = z := ⟨_, rfl⟩
  have gt_ := take true wg wb N
  rw [hww] at gt_ gm ⊢
  refine good_frm 100 Try.func11 rfl rfl rfl rfl rfl rfl ?_
  refine awp_seq ?_
  refine rln ?_
  refine As ?_
  refine G (q_as (s := sc (c64 0)) ?_)
  refine G (q_as (s := sc (cn 0)) ?_)
  refine gend ?_
  refine awp_seq ?_
  refine awp_block ?_
  refine awp_seq ?_
  refine rln ?_
  refine Mv ?_
  refine G2 (fun _ k_ => q_callp (cthere _ _ _ _ _ _ _ _ _ _ _) k_ (ha := (cac (et rfl) (sees_ch rfl rfl rfl rfl) ca0))) ?_
  refine G (q_notb ?_)
  refine As ?_
  refine gend ?_
  refine cndbnN (fun hc1 => ?_) ?_; rotate_left
  · exact rfl
  refine awp_seq ?_
  refine rln ?_
  refine Mv ?_
  refine G (q_leno ?_)
  refine G (q_gtrn (y := 4120) ?_)
  refine As ?_
  refine gend ?_
  refine cndN (fun hc2 => ?_) ?_; rotate_left
  · omega
  refine awp_seq ?_
  refine rln ?_
  refine Mv ?_
  refine G (q_leno ?_)
  refine G (q_lssn (y := 24) ?_)
  refine As ?_
  refine gend ?_
  refine cndN (fun hc3 => ?_) ?_; rotate_left
  · omega
  refine awp_skip ?_
  refine awp_seq ?_
  refine rln ?_
  refine Mv ?_
  refine G (q_slo_hi (k := 8) ?_ (hc := cut_hi hf))
  refine G2 (fun _ k_ => q_callp gg k_ (ha := (cac (et rfl) sees_ro ca0))) ?_
  refine G (q_mv (s := .t _) ?_)
  refine G (q_ext (y := .c _) ?_)
  refine G (q_ext (y := .c _) ?_)
  refine As ?_
  refine As ?_
  refine gend ?_
  refine awp_seq ?_
  refine awp_seq ?_
  refine rln ?_
  refine Mv ?_
  refine G (q_gtr64 (y := 281474976710655) ?_)
  refine gend ?_
  refine cndN (fun hc4 => ?_) ?_; rotate_left
  · exact hn
  refine awp_skip ?_
  refine awp_seq ?_
  refine awp_seq ?_
  refine rln ?_
  refine Mv ?_
  refine G (q_ncp ?_)
  refine G (q_fap ?_)
  refine G (q_ldp ?_)
  refine Mv ?_
  refine G2 (fun _ k_ => q_callp gc k_ (ha := (cac (et rfl) (sees_ptr rfl rfl rfl rfl) (cac (et rfl) cm_int ca0)))) ?_
  refine As ?_
  refine gend ?_
  refine awp_seq ?_
  refine rln ?_
  refine Mv ?_
  refine G (q_neqn (y := 0) ?_)
  refine gend ?_
  refine cndN (fun hc5 => ?_) ?_; rotate_left
  · exact fun h => h rfl
  refine awp_skip ?_
  refine awp_seq ?_
  refine rln ?_
  refine Mv ?_
  refine G (q_quo64 (y := 64) ?_ (hz := by decide))
  refine As ?_
  refine gend ?_
  refine awp_seq ?_
  refine awp_seq ?_
  refine rln ?_
  refine Mv ?_
  refine Mv ?_
  refine G (q_ncp ?_)
  refine G (q_fap ?_)
  refine G (q_fap ?_)
  refine G (q_ldp ?_)
  refine G (q_add64 (y := 16) ?_)
  refine G (q_gtr64 ?_)
  refine gend ?_
  refine cndN (fun hc6 => ?_) ?_; rotate_left
  · exact hq
  refine awp_skip ?_
  refine awp_seq ?_
  refine rln ?_
  refine Mv ?_
  refine G (q_ncp ?_)
  refine G (q_fap ?_)
  refine Mv ?_
  refine G2 (fun _ k_ => q_callv [0, 1, 2, 3, 4, 5, 6, 7, 8, 9] [some (chC es er 2 (decide (es ≠ 0)) 4 6 true 8 sent 1 g any hash), some (wcs true wg wb), some (cC (.ptr 3 0) 0), some (u8s (S0 k es.toNat)), cb (decide (es ≠ 0)) 5, kb (decide (es ≠ 0)) (S1 k es.toNat), some (cC (.ptr 7 0) 0), some (u8s (S0 r er.toNat)), cb true 9, kb true (S1 r er.toNat)] [some (cC (.ptr 9 0) 0)] go k_ (ha := (cac (et rfl) rfl (cac (et rfl) cm_int ca0))) (e2 := (pl1 rfl (chC_map rfl rfl rfl rfl rfl) (pl1 rfl rfl (pl1 rfl rfl (pl1 rfl sees_m (plb rfl (cb_map rfl) (plb rfl kb_map (pl1 rfl rfl (pl1 rfl sees_m (pl1 rfl rfl (pl1 rfl sees_m pl0))))))))))) (eL := (ml1 (chC_map rfl rfl rfl rfl rfl) (ml1 rfl (ml1 rfl (ml1 sees_m (mlb (cb_map rfl) (mlb kb_map (ml1 rfl (ml1 sees_m (ml1 rfl (ml1 sees_m ml0))))))))))) (eM := (ml1 rfl ml0))) ?_
  refine As ?_
  refine gend ?_
  refine awp_seq ?_
  refine rln ?_
  refine Mv ?_
  refine Mv ?_
  refine G2 (fun _ k_ => q_callv [10, 9] [some (cC (.ptr 1 0) N), some (u8s (S1 r er.toNat))] [] (setn_k (S1 r er.toNat) 0 N) k_ (ha := (cac (et rfl) rfl (cac (et rfl) cm_int ca0))) (e2 := (pl1 rfl rfl (pl1 rfl sees_m pl0))) (eL := (ml1 rfl (ml1 sees_m ml0))) (eM := ml0)) ?_
  refine gend ?_
  refine awp_seq ?_
  refine rdln [7] [0, 0, 0, 0, 0, 0, 0, 0, 1, 1, 1, 1, 1] [0, 0, 0, 0, 0, 0, 0, 1, 1, 1, 1, 1, 1] ?_
  refine Dp (fun _ => q_mv (s := .v (.c _)) ⟨rfl, rfl⟩) ?_
  refine Dp (fun _ => q_mv (s := .v (.c _)) ⟨rfl, rfl⟩) ?_
  refine Dp (fun _ => q_ncp ⟨rfl, rfl⟩) ?_
  refine Dp (fun _ => q_fap ⟨rfl, rfl⟩) ?_
  refine DSp 0 rfl (fun _ hv => q_slp_no ⟨rfl, rfl⟩ (hp := hv) (hl := ch_len hh)) ?_
  refine Dp (fun _ => q_mv (s := .v (.c _)) ⟨rfl, rfl⟩) ?_
  refine Dp (fun _ => q_slo_lo (j := 8) ⟨rfl, rfl⟩ (hc := cut_drop hf)) ?_
  refine De2 (fun _ k_ => q_callv [10, 9] [some (cC (.ptr 1 0) (N + 1)), some (u8s (S1 r er.toNat))] [some (u8s p)] gs k_ (ha := (cac (et rfl) rfl (cac (et rfl) (sees_slc rfl rfl (ch_hash hh)) (cac (et rfl) sees_ro ca0)))) (e2 := (pl1 rfl rfl (pl1 rfl sees_m pl0))) (eL := (ml1 rfl (ml1 sees_m ml0))) (eM := (ml1 sees_m ml0))) ?_
  refine Dp (fun _ => q_mv (s := .t _) ⟨rfl, rfl⟩) ?_
  refine Dp (fun _ => q_ext (y := .c _) ⟨rfl, rfl⟩) ?_
  refine Dp (fun _ => q_ext (y := .c _) ⟨rfl, rfl⟩) ?_
  refine Dp (fun _ => q_as (s := .v (.c _)) ⟨rfl, rfl⟩) ?_
  refine Dp (fun _ => q_as (s := .v (.c _)) ⟨rfl, rfl⟩) ?_
  refine dend ?_
  refine awp_seq ?_
  refine awp_seq ?_
  refine rln ?_
  refine Mv ?_
  refine G (q_neqn (y := 0) ?_)
  refine gend ?_
  refine cndN (fun hc7 => ?_) ?_; rotate_left
  · exact fun h => h rfl
  refine awp_skip ?_
  refine awp_seq ?_
  refine rln ?_
  refine Mv ?_
  refine G (q_ncp ?_)
  refine G (q_fap ?_)
  refine G (q_ldp ?_)
  refine Mv ?_
  refine G2 (fun _ k_ => q_callw 1 gt_ k_ (ha := (cac (et rfl) rfl (cac (et rfl) cm_int ca0)))) ?_
  refine gend ?_
  refine awp_seq ?_
  refine rln ?_
  refine Mv ?_
  refine G (q_ncp ?_)
  refine G (q_fap ?_)
  refine Mv ?_
  refine G2 (fun _ k_ => q_callv [0, 1, 2, 3, 4, 5, 6, 7, 8, 9] [some (chC es er 2 (decide (es ≠ 0)) 4 6 true 8 sent 1 g any hash), some (wcs true ww.1 ww.2), some (cC (.ptr 3 0) 0), some (u8s (S0 k es.toNat)), cb (decide (es ≠ 0)) 5, kb (decide (es ≠ 0)) (S1 k es.toNat), some (cC (.ptr 7 0) 0), some (u8s (S0 r er.toNat)), cb true 9, kb true (S1 r er.toNat)] [] gm k_ (ha := (cac (et rfl) rfl (cac (et rfl) cm_int ca0))) (e2 := (pl1 rfl (chC_map rfl rfl rfl rfl rfl) (pl1 rfl rfl (pl1 rfl rfl (pl1 rfl sees_m (plb rfl (cb_map rfl) (plb rfl kb_map (pl1 rfl rfl (pl1 rfl sees_m (pl1 rfl rfl (pl1 rfl sees_m pl0))))))))))) (eL := (ml1 (chC_map rfl rfl rfl rfl rfl) (ml1 rfl (ml1 rfl (ml1 sees_m (mlb (cb_map rfl) (mlb kb_map (ml1 rfl (ml1 sees_m (ml1 rfl (ml1 sees_m ml0))))))))))) (eM := ml0)) ?_
  refine gend ?_
  refine awp_seq ?_
  refine rln ?_
  refine Mv ?_
  refine Mv ?_
  refine Mv ?_
  refine G (q_ncp ?_)
  refine G (q_fap ?_)
  refine G (q_ldp ?_)
  refine Mv ?_
  refine G (q_max64 ?_)
  refine G (q_ncp ?_)
  refine G (q_fap ?_)
  refine G20 (fun _ k_ => q_st k_) ?_
  refine G (q_ncp ?_)
  refine G (q_fap ?_)
  refine G20 (fun _ k_ => q_st (c := .bool true) k_) ?_
  refine gend ?_
  refine awp_seq ?_
  refine rln ?_
  refine Mv ?_
  refine Mv ?_
  refine As ?_
  refine As ?_
  refine G (q_as (s := sc (cn 0)) ?_)
  refine gend ?_
  refine awp_ret ?_
  rw [show p.length = f - 8 - 16 by omega]; exact fx3 [0, 1, 2, 3, 4, 5, 6, 7, 8, 9, 11] (hm0 := rfl) (hH := (pl1 rfl (chC_map rfl rfl rfl rfl rfl) (pl1 rfl rfl (pl1 rfl rfl (pl1 rfl sees_m (plb rfl (cb_map rfl) (plb rfl kb_map (pl1 rfl rfl (pl1 rfl sees_m (pl1 rfl rfl (pl1 rfl sees_m (pl1 rfl sees_m pl0)))))))))))) (hn := piB rfl)
end Go.Proofs.Ytklcckngmmklhaa

/- What functions of the program do, walked over the abstract machine. -/
namespace Go.Proofs.Ytklcckngmmklhaa
open Go Go.Abs Go.Proofs Go.Proofs.Ytklcckngmmklhaa.Ch Go.Proofs.Ytklcckngmmklhaa.Po Go.Proofs.Ytklcckngmmklhaa.Ae Go.Proofs.Ytklcckngmmklhaa.Wd
set_option maxRecDepth 20000
set_option maxHeartbeats 1600000 in
theorem chopen_m0_bad (k r hash : List UInt8) (es er sent g : UInt64) (any : Bool) (wg wb : UInt64) (hk : k.length = 32) (hr : r.length = 32) (hh : hash.length = 32) (fr : List UInt8) (f : Nat) (N : UInt64) (hf : fr.length = f) (h24 : 24 ≤ f) (hL : f ≤ 4120) (hN : gt (fr.take 8) = N) (hn : ¬ 281474976710655 < N) (hw : wchk true wg wb N = 0) (hq : ¬ er + 16 < N / 64) (hle : ¬ N / 64 ≤ er) (he : er.toNat % 2 = 0) (hop : aopen (kE r (N / 64).toNat) (anonce N) hash (fr.drop 8) = none) : Good Try.prog 11 [.c (.ptr 0 0), .c (.ro f (u8s fr))] [some (chC es er 2 (decide (es ≠ 0)) 4 6 (decide (er ≠ 0)) 8 sent 1 g any hash), some (wcs true wg wb), some (cC (.ptr 3 0) 0), some (u8s (S0 k es.toNat)), cb (decide (es ≠ 0)) 5, kb (decide (es ≠ 0)) (S1 k es.toNat), some (cC (.ptr 7 0) 0), some (u8s (S0 r er.toNat)), cb (decide (er ≠ 0)) 9, kb (decide (er ≠ 0)) (S1 r er.toNat)] (.t [.c .nils, .c (c64 0), .c (cn 8)]) [some (chC es er 2 (decide (es ≠ 0)) 4 6 (decide (er ≠ 0)) 8 sent 1 g any hash), some (wcs true wg wb), some (cC (.ptr 3 0) 0), some (u8s (S0 k es.toNat)), cb (decide (es ≠ 0)) 5, kb (decide (es ≠ 0)) (S1 k es.toNat), some (cC (.ptr 7 0) 0), some (u8s (S0 r er.toNat)), cb (decide (er ≠ 0)) 9, kb (decide (er ≠ 0)) (S1 r er.toNat)] := by
  have gg := get 8 (fr.take 8) (by rw [List.length_take]; omega) (by decide) (by decide)
  rw [hN] at gg
  have gc := check true wg wb N
  rw [hw] at gc
  have hdl : (fr.drop 8).length = f - 8 := by rw [List.length_drop, hf]
  have hS : S0 r er.toNat = kE r er.toNat := (S0_even he).2.2
  have hN6 : er.toNat + (N / 64 - er).toNat = (N / 64).toNat := by
    have h := hle; rw [UInt64.le_iff_toNat_le] at h; rw [UInt64.toNat_sub_of_le _ _ (UInt64.le_iff_toNat_le.2 (by omega))]; omega
  have go := of_rf0 es er sent g (decide (es ≠ 0)) (decide (er ≠ 0)) any hash (S0 k es.toNat) (S1 k es.toNat) (S0 r er.toNat) (S1 r er.toNat) wg wb (N / 64) hle ((mod2_nat _).trans he) (S0_len hr _)
  rw [show kE (S0 r er.toNat) (N / 64 - er).toNat = kE r (N / 64).toNat by rw [hS, kE_add, hN6]] at go
  have hA : (kE r (N / 64).toNat).length = 32 := kE_len hr _
  have gs := copen_bad (kE r (N / 64).toNat) hash (fr.drop 8) N 32 (f - 8) hA hh (by decide) hdl (by omega) (fun h => hn (by rw [h]; decide)) hop
  refine good_frm 100 Try.func11 rfl rfl rfl rfl rfl rfl ?_
  refine awp_seq ?_
  refine rln ?_
  refine As ?_
  refine G (q_as (s := sc (c64 0)) ?_)
  refine G (q_as (s := sc (cn 0)) ?_)
  refine gend ?_
  refine awp_seq ?_
  refine awp_block ?_
  refine awp_seq ?_
  refine rln ?_
  refine Mv ?_
  refine G2 (fun _ k_ => q_callp (cthere _ _ _ _ _ _ _ _ _ _ _) k_ (ha := (cac (et rfl) (sees_ch rfl rfl rfl rfl) ca0))) ?_
  refine G (q_notb ?_)
  refine As ?_
  refine gend ?_
  refine cndbnN (fun hc1 => ?_) ?_; rotate_left
  · exact rfl
  refine awp_seq ?_
  refine rln ?_
  refine Mv ?_
  refine G (q_leno ?_)
  refine G (q_gtrn (y := 4120) ?_)
  refine As ?_
  refine gend ?_
  refine cndN (fun hc2 => ?_) ?_; rotate_left
  · omega
  refine awp_seq ?_
  refine rln ?_
  refine Mv ?_
  refine G (q_leno ?_)
  refine G (q_lssn (y := 24) ?_)
  refine As ?_
  refine gend ?_
  refine cndN (fun hc3 => ?_) ?_; rotate_left
  · omega
  refine awp_skip ?_
  refine awp_seq ?_
  refine rln ?_
  refine Mv ?_
  refine G (q_slo_hi (k := 8) ?_ (hc := cut_hi hf))
  refine G2 (fun _ k_ => q_callp gg k_ (ha := (cac (et rfl) sees_ro ca0))) ?_
  refine G (q_mv (s := .t _) ?_)
  refine G (q_ext (y := .c _) ?_)
  refine G (q_ext (y := .c _) ?_)
  refine As ?_
  refine As ?_
  refine gend ?_
  refine awp_seq ?_
  refine awp_seq ?_
  refine rln ?_
  refine Mv ?_
  refine G (q_gtr64 (y := 281474976710655) ?_)
  refine gend ?_
  refine cndN (fun hc4 => ?_) ?_; rotate_left
  · exact hn
  refine awp_skip ?_
  refine awp_seq ?_
  refine awp_seq ?_
  refine rln ?_
  refine Mv ?_
  refine G (q_ncp ?_)
  refine G (q_fap ?_)
  refine G (q_ldp ?_)
  refine Mv ?_
  refine G2 (fun _ k_ => q_callp gc k_ (ha := (cac (et rfl) (sees_ptr rfl rfl rfl rfl) (cac (et rfl) cm_int ca0)))) ?_
  refine As ?_
  refine gend ?_
  refine awp_seq ?_
  refine rln ?_
  refine Mv ?_
  refine G (q_neqn (y := 0) ?_)
  refine gend ?_
  refine cndN (fun hc5 => ?_) ?_; rotate_left
  · exact fun h => h rfl
  refine awp_skip ?_
  refine awp_seq ?_
  refine rln ?_
  refine Mv ?_
  refine G (q_quo64 (y := 64) ?_ (hz := by decide))
  refine As ?_
  refine gend ?_
  refine awp_seq ?_
  refine awp_seq ?_
  refine rln ?_
  refine Mv ?_
  refine Mv ?_
  refine G (q_ncp ?_)
  refine G (q_fap ?_)
  refine G (q_fap ?_)
  refine G (q_ldp ?_)
  refine G (q_add64 (y := 16) ?_)
  refine G (q_gtr64 ?_)
  refine gend ?_
  refine cndN (fun hc6 => ?_) ?_; rotate_left
  · exact hq
  refine awp_skip ?_
  refine awp_seq ?_
  refine rln ?_
  refine Mv ?_
  refine G (q_ncp ?_)
  refine G (q_fap ?_)
  refine Mv ?_
  refine G2 (fun _ k_ => q_callv [0, 1, 2, 3, 4, 5, 6, 7, 8, 9] [some (chC es er 2 (decide (es ≠ 0)) 4 6 (decide (er ≠ 0)) 8 sent 1 g any hash), some (wcs true wg wb), some (cC (.ptr 3 0) 0), some (u8s (S0 k es.toNat)), cb (decide (es ≠ 0)) 5, kb (decide (es ≠ 0)) (S1 k es.toNat), some (cC (.ptr 7 0) 0), some (u8s (S0 r er.toNat)), cb (decide (er ≠ 0)) 9, kb (decide (er ≠ 0)) (S1 r er.toNat)] [some (cC (.ptr 11 0) 0), some (u8s (kE r (N / 64).toNat))] go k_ (ha := (cac (et rfl) rfl (cac (et rfl) cm_int ca0))) (e2 := (pl1 rfl (chC_map rfl rfl rfl rfl rfl) (pl1 rfl rfl (pl1 rfl rfl (pl1 rfl sees_m (plb rfl (cb_map rfl) (plb rfl kb_map (pl1 rfl rfl (pl1 rfl sees_m (plb rfl (cb_map rfl) (plb rfl kb_map pl0))))))))))) (eL := (ml1 (chC_map rfl rfl rfl rfl rfl) (ml1 rfl (ml1 rfl (ml1 sees_m (mlb (cb_map rfl) (mlb kb_map (ml1 rfl (ml1 sees_m (mlb (cb_map rfl) (mlb kb_map ml0))))))))))) (eM := (ml1 rfl (ml1 sees_m ml0)))) ?_
  refine As ?_
  refine gend ?_
  refine awp_seq ?_
  refine rln ?_
  refine Mv ?_
  refine Mv ?_
  refine G2 (fun _ k_ => q_callv [10, 11] [some (cC (.ptr 1 0) N), some (u8s (kE r (N / 64).toNat))] [] (setn_k (kE r (N / 64).toNat) 0 N) k_ (ha := (cac (et rfl) rfl (cac (et rfl) cm_int ca0))) (e2 := (pl1 rfl rfl (pl1 rfl sees_m pl0))) (eL := (ml1 rfl (ml1 sees_m ml0))) (eM := ml0)) ?_
  refine gend ?_
  refine awp_seq ?_
  refine rdln [7] [0, 0, 0, 0, 0, 0, 0, 0, 1, 1, 1, 1, 1] [0, 0, 0, 0, 0, 0, 0, 1, 1, 1, 1, 1, 1] ?_
  refine Dp (fun _ => q_mv (s := .v (.c _)) ⟨rfl, rfl⟩) ?_
  refine Dp (fun _ => q_mv (s := .v (.c _)) ⟨rfl, rfl⟩) ?_
  refine Dp (fun _ => q_ncp ⟨rfl, rfl⟩) ?_
  refine Dp (fun _ => q_fap ⟨rfl, rfl⟩) ?_
  refine DSp 0 rfl (fun _ hv => q_slp_no ⟨rfl, rfl⟩ (hp := hv) (hl := ch_len hh)) ?_
  refine Dp (fun _ => q_mv (s := .v (.c _)) ⟨rfl, rfl⟩) ?_
  refine Dp (fun _ => q_slo_lo (j := 8) ⟨rfl, rfl⟩ (hc := cut_drop hf)) ?_
  refine De2 (fun _ k_ => q_callv [10, 11] [some (cC (.ptr 1 0) N), some (u8s (kE r (N / 64).toNat))] [] gs k_ (ha := (cac (et rfl) rfl (cac (et rfl) (sees_slc rfl rfl (ch_hash hh)) (cac (et rfl) sees_ro ca0)))) (e2 := (pl1 rfl rfl (pl1 rfl sees_m pl0))) (eL := (ml1 rfl (ml1 sees_m ml0))) (eM := ml0)) ?_
  refine Dp (fun _ => q_mv (s := .t _) ⟨rfl, rfl⟩) ?_
  refine Dp (fun _ => q_ext (y := .c _) ⟨rfl, rfl⟩) ?_
  refine Dp (fun _ => q_ext (y := .c _) ⟨rfl, rfl⟩) ?_
  refine Dp (fun _ => q_as (s := .v (.c _)) ⟨rfl, rfl⟩) ?_
  refine Dp (fun _ => q_as (s := .v (.c _)) ⟨rfl, rfl⟩) ?_
  refine dend ?_
  refine awp_seq ?_
  refine awp_seq ?_
  refine rln ?_
  refine Mv ?_
  refine G (q_neqn (y := 0) ?_)
  refine gend ?_
  refine cndY (fun hc7 => ?_) ?_; rotate_left
  · exact (by decide : (8 : Nat) ≠ 0)
  refine awp_seq ?_
  refine rln ?_
  refine Mv ?_
  refine As ?_
  refine G (q_as (s := sc (c64 0)) ?_)
  refine As ?_
  refine gend ?_
  refine awp_ret ?_
  exact fx3 [0, 1, 2, 3, 4, 5, 6, 7, 8, 9] (hm0 := rfl) (hH := (pl1 rfl (chC_map rfl rfl rfl rfl rfl) (pl1 rfl rfl (pl1 rfl rfl (pl1 rfl sees_m (plb rfl (cb_map rfl) (plb rfl kb_map (pl1 rfl rfl (pl1 rfl sees_m (plb rfl (cb_map rfl) (plb rfl kb_map pl0))))))))))) (hn := piB rfl)
set_option maxHeartbeats 1600000 in
theorem chopen_m0_ok (k r hash : List UInt8) (es er sent g : UInt64) (any : Bool) (wg wb : UInt64) (hk : k.length = 32) (hr : r.length = 32) (hh : hash.length = 32) (fr : List UInt8) (f : Nat) (N : UInt64) (hf : fr.length = f) (h24 : 24 ≤ f) (hL : f ≤ 4120) (hN : gt (fr.take 8) = N) (hn : ¬ 281474976710655 < N) (hw : wchk true wg wb N = 0) (hq : ¬ er + 16 < N / 64) (hle : ¬ N / 64 ≤ er) (he : er.toNat % 2 = 0) (p : List UInt8) (hop : aopen (kE r (N / 64).toNat) (anonce N) hash (fr.drop 8) = some p) : Good Try.prog 11 [.c (.ptr 0 0), .c (.ro f (u8s fr))] [some (chC es er 2 (decide (es ≠ 0)) 4 6 (decide (er ≠ 0)) 8 sent 1 g any hash), some (wcs true wg wb), some (cC (.ptr 3 0) 0), some (u8s (S0 k es.toNat)), cb (decide (es ≠ 0)) 5, kb (decide (es ≠ 0)) (S1 k es.toNat), some (cC (.ptr 7 0) 0), some (u8s (S0 r er.toNat)), cb (decide (er ≠ 0)) 9, kb (decide (er ≠ 0)) (S1 r er.toNat)] (.t [.c (.slc 14 0 p.length 1), .c (c64 N), .c (cn 0)]) [some (chC es (N / 64) 2 (decide (es ≠ 0)) 4 10 (decide ((N / 64) ≠ 0)) 12 sent 1 (mx g N) true hash), some (wcs true (wnext true wg wb N).1 (wnext true wg wb N).2), some (cC (.ptr 3 0) 0), some (u8s (S0 k es.toNat)), cb (decide (es ≠ 0)) 5, kb (decide (es ≠ 0)) (S1 k es.toNat), none, none, none, none, some (cC (.ptr 11 0) 0), some (u8s (S0 r (N / 64).toNat)), cb (decide ((N / 64) ≠ 0)) 13, kb (decide ((N / 64) ≠ 0)) (S1 r (N / 64).toNat), some (u8s p)] := by
  have gg := get 8 (fr.take 8) (by rw [List.length_take]; omega) (by decide) (by decide)
  rw [hN] at gg
  have gc := check true wg wb N
  rw [hw] at gc
  have hdl : (fr.drop 8).length = f - 8 := by rw [List.length_drop, hf]
  have hS : S0 r er.toNat = kE r er.toNat := (S0_even he).2.2
  have hN6 : er.toNat + (N / 64 - er).toNat = (N / 64).toNat := by
    have h := hle; rw [UInt64.le_iff_toNat_le] at h; rw [UInt64.toNat_sub_of_le _ _ (UInt64.le_iff_toNat_le.2 (by omega))]; omega
  have go := of_rf0 es er sent g (decide (es ≠ 0)) (decide (er ≠ 0)) any hash (S0 k es.toNat) (S1 k es.toNat) (S0 r er.toNat) (S1 r er.toNat) wg wb (N / 64) hle ((mod2_nat _).trans he) (S0_len hr _)
  rw [show kE (S0 r er.toNat) (N / 64 - er).toNat = kE r (N / 64).toNat by rw [hS, kE_add, hN6]] at go
  have hA : (kE r (N / 64).toNat).length = 32 := kE_len hr _
  have gs := copen_ok (kE r (N / 64).toNat) hash (fr.drop 8) N 32 (f - 8) hA hh (by decide) hdl (by omega) (fun h => hn (by rw [h]; decide)) p hop
  have hpl := aopen_len hop
  have gm := move_r es er sent g (decide (es ≠ 0)) any hash r (S0 k es.toNat) (S1 k es.toNat) (wnext true wg wb N).1 (wnext true wg wb N).2 (N / 64) hr
  rw [show mx er (N / 64) = N / 64 from if_pos (by rw [UInt64.lt_iff_toNat_lt]; have h := hle; rw [UInt64.le_iff_toNat_le] at h; omega)] at gm
  obtain ⟨ww, hww⟩ : ∃ z, wnext true wg wb N = z := ⟨_, rfl⟩
  have gt_ := take true wg wb N
  rw [hww] at gt_ gm ⊢
  refine good_frm 100 Try.func11 rfl rfl rfl rfl rfl rfl ?_
  refine awp_seq ?_
  refine rln ?_
  refine As ?_
  refine G (q_as (s := sc (c64 0)) ?_)
  refine G (q_as (s := sc (cn 0)) ?_)
  refine gend ?_
  refine awp_seq ?_
  refine awp_block ?_
  refine awp_seq ?_
  refine rln ?_
  refine Mv ?_
  refine G2 (fun _ k_ => q_callp (cthere _ _ _ _ _ _ _ _ _ _ _) k_ (ha := (cac (et rfl) (sees_ch rfl rfl rfl rfl) ca0))) ?_
  refine G (q_notb ?_)
  refine As ?_
  refine gend ?_
  refine cndbnN (fun hc1 => ?_) ?_; rotate_left
  · exact rfl
  refine awp_seq ?_
  refine rln ?_
  refine Mv ?_
  refine G (q_leno ?_)
  refine G (q_gtrn (y := 4120) ?_)
  refine As ?_
  refine gend ?_
  refine cndN (fun hc2 => ?_) ?_; rotate_left
  · omega
  refine awp_seq ?_
  refine rln ?_
  refine Mv ?_
  refine G (q_leno ?_)
  refine G (q_lssn (y := 24) ?_)
  refine As ?_
  refine gend ?_
  refine cndN (fun hc3 => ?_) ?_; rotate_left
  · omega
  refine awp_skip ?_
  refine awp_seq ?_
  refine rln ?_
  refine Mv ?_
  refine G (q_slo_hi (k := 8) ?_ (hc := cut_hi hf))
  refine G2 (fun _ k_ => q_callp gg k_ (ha := (cac (et rfl) sees_ro ca0))) ?_
  refine G (q_mv (s := .t _) ?_)
  refine G (q_ext (y := .c _) ?_)
  refine G (q_ext (y := .c _) ?_)
  refine As ?_
  refine As ?_
  refine gend ?_
  refine awp_seq ?_
  refine awp_seq ?_
  refine rln ?_
  refine Mv ?_
  refine G (q_gtr64 (y := 281474976710655) ?_)
  refine gend ?_
  refine cndN (fun hc4 => ?_) ?_; rotate_left
  · exact hn
  refine awp_skip ?_
  refine awp_seq ?_
  refine awp_seq ?_
  refine rln ?_
  refine Mv ?_
  refine G (q_ncp ?_)
  refine G (q_fap ?_)
  refine G (q_ldp ?_)
  refine Mv ?_
  refine G2 (fun _ k_ => q_callp gc k_ (ha := (cac (et rfl) (sees_ptr rfl rfl rfl rfl) (cac (et rfl) cm_int ca0)))) ?_
  refine As ?_
  refine gend ?_
  refine awp_seq ?_
  refine rln ?_
  refine Mv ?_
  refine G (q_neqn (y := 0) ?_)
  refine gend ?_
  refine cndN (fun hc5 => ?_) ?_; rotate_left
  · exact fun h => h rfl
  refine awp_skip ?_
  refine awp_seq ?_
  refine rln ?_
  refine Mv ?_
  refine G (q_quo64 (y := 64) ?_ (hz := by decide))
  refine As ?_
  refine gend ?_
  refine awp_seq ?_
  refine awp_seq ?_
  refine rln ?_
  refine Mv ?_
  refine Mv ?_
  refine G (q_ncp ?_)
  refine G (q_fap ?_)
  refine G (q_fap ?_)
  refine G (q_ldp ?_)
  refine G (q_add64 (y := 16) ?_)
  refine G (q_gtr64 ?_)
  refine gend ?_
  refine cndN (fun hc6 => ?_) ?_; rotate_left
  · exact hq
  refine awp_skip ?_
  refine awp_seq ?_
  refine rln ?_
  refine Mv ?_
  refine G (q_ncp ?_)
  refine G (q_fap ?_)
  refine Mv ?_
  refine G2 (fun _ k_ => q_callv [0, 1, 2, 3, 4, 5, 6, 7, 8, 9] [some (chC es er 2 (decide (es ≠ 0)) 4 6 (decide (er ≠ 0)) 8 sent 1 g any hash), some (wcs true wg wb), some (cC (.ptr 3 0) 0), some (u8s (S0 k es.toNat)), cb (decide (es ≠ 0)) 5, kb (decide (es ≠ 0)) (S1 k es.toNat), some (cC (.ptr 7 0) 0), some (u8s (S0 r er.toNat)), cb (decide (er ≠ 0)) 9, kb (decide (er ≠ 0)) (S1 r er.toNat)] [some (cC (.ptr 11 0) 0), some (u8s (kE r (N / 64).toNat))] go k_ (ha := (cac (et rfl) rfl (cac (et rfl) cm_int ca0))) (e2 := (pl1 rfl (chC_map rfl rfl rfl rfl rfl) (pl1 rfl rfl (pl1 rfl rfl (pl1 rfl sees_m (plb rfl (cb_map rfl) (plb rfl kb_map (pl1 rfl rfl (pl1 rfl sees_m (plb rfl (cb_map rfl) (plb rfl kb_map pl0))))))))))) (eL := (ml1 (chC_map rfl rfl rfl rfl rfl) (ml1 rfl (ml1 rfl (ml1 sees_m (mlb (cb_map rfl) (mlb kb_map (ml1 rfl (ml1 sees_m (mlb (cb_map rfl) (mlb kb_map ml0))))))))))) (eM := (ml1 rfl (ml1 sees_m ml0)))) ?_
  refine As ?_
  refine gend ?_
  refine awp_seq ?_
  refine rln ?_
  refine Mv ?_
  refine Mv ?_
  refine G2 (fun _ k_ => q_callv [10, 11] [some (cC (.ptr 1 0) N), some (u8s (kE r (N / 64).toNat))] [] (setn_k (kE r (N / 64).toNat) 0 N) k_ (ha := (cac (et rfl) rfl (cac (et rfl) cm_int ca0))) (e2 := (pl1 rfl rfl (pl1 rfl sees_m pl0))) (eL := (ml1 rfl (ml1 sees_m ml0))) (eM := ml0)) ?_
  refine gend ?_
  refine awp_seq ?_
  refine rdln [7] [0, 0, 0, 0, 0, 0, 0, 0, 1, 1, 1, 1, 1] [0, 0, 0, 0, 0, 0, 0, 1, 1, 1, 1, 1, 1] ?_
  refine Dp (fun _ => q_mv (s := .v (.c _)) ⟨rfl, rfl⟩) ?_
  refine Dp (fun _ => q_mv (s := .v (.c _)) ⟨rfl, rfl⟩) ?_
  refine Dp (fun _ => q_ncp ⟨rfl, rfl⟩) ?_
  refine Dp (fun _ => q_fap ⟨rfl, rfl⟩) ?_
  refine DSp 0 rfl (fun _ hv => q_slp_no ⟨rfl, rfl⟩ (hp := hv) (hl := ch_len hh)) ?_
  refine Dp (fun _ => q_mv (s := .v (.c _)) ⟨rfl, rfl⟩) ?_
  refine Dp (fun _ => q_slo_lo (j := 8) ⟨rfl, rfl⟩ (hc := cut_drop hf)) ?_
  refine De2 (fun _ k_ => q_callv [10, 11] [some (cC (.ptr 1 0) (N + 1)), some (u8s (kE r (N / 64).toNat))] [some (u8s p)] gs k_ (ha := (cac (et rfl) rfl (cac (et rfl) (sees_slc rfl rfl (ch_hash hh)) (cac (et rfl) sees_ro ca0)))) (e2 := (pl1 rfl rfl (pl1 rfl sees_m pl0))) (eL := (ml1 rfl (ml1 sees_m ml0))) (eM := (ml1 sees_m ml0))) ?_
  refine Dp (fun _ => q_mv (s := .t _) ⟨rfl, rfl⟩) ?_
  refine Dp (fun _ => q_ext (y := .c _) ⟨rfl, rfl⟩) ?_
  refine Dp (fun _ => q_ext (y := .c _) ⟨rfl, rfl⟩) ?_
  refine Dp (fun _ => q_as (s := .v (.c _)) ⟨rfl, rfl⟩) ?_
  refine Dp (fun _ => q_as (s := .v (.c _)) ⟨rfl, rfl⟩) ?_
  refine dend ?_
  refine awp_seq ?_
  refine awp_seq ?_
  refine rln ?_
  refine Mv ?_
  refine G (q_neqn (y := 0) ?_)
  refine gend ?_
  refine cndN (fun hc7 => ?_) ?_; rotate_left
  · exact fun h => h rfl
  refine awp_skip ?_
  refine awp_seq ?_
  refine rln ?_
  refine Mv ?_
  refine G (q_ncp ?_)
  refine G (q_fap ?_)
  refine G (q_ldp ?_)
  refine Mv ?_
  refine G2 (fun _ k_ => q_callw 1 gt_ k_ (ha := (cac (et rfl) rfl (cac (et rfl) cm_int ca0)))) ?_
  refine gend ?_
  refine awp_seq ?_
  refine rln ?_
  refine Mv ?_
  refine G (q_ncp ?_)
  refine G (q_fap ?_)
  refine Mv ?_
  refine G2 (fun _ k_ => q_callv [0, 1, 2, 3, 4, 5, 6, 7, 8, 9] [some (chC es (N / 64) 2 (decide (es ≠ 0)) 4 10 (decide ((N / 64) ≠ 0)) 12 sent 1 g any hash), some (wcs true ww.1 ww.2), some (cC (.ptr 3 0) 0), some (u8s (S0 k es.toNat)), cb (decide (es ≠ 0)) 5, kb (decide (es ≠ 0)) (S1 k es.toNat), none, none, none, none] [some (cC (.ptr 11 0) 0), some (u8s (S0 r (N / 64).toNat)), cb (decide ((N / 64) ≠ 0)) 13, kb (decide ((N / 64) ≠ 0)) (S1 r (N / 64).toNat)] gm k_ (ha := (cac (et rfl) rfl (cac (et rfl) cm_int ca0))) (e2 := (pl1 rfl (chC_map rfl rfl rfl rfl rfl) (pl1 rfl rfl (pl1 rfl rfl (pl1 rfl sees_m (plb rfl (cb_map rfl) (plb rfl kb_map (pl1 rfl rfl (pl1 rfl sees_m (plb rfl (cb_map rfl) (plb rfl kb_map pl0))))))))))) (eL := (ml1 (chC_map rfl rfl rfl rfl rfl) (ml1 rfl (ml1 rfl (ml1 sees_m (mlb (cb_map rfl) (mlb kb_map (mln (mln (mln (mln ml0))))))))))) (eM := (ml1 rfl (ml1 sees_m (mlb (cb_map rfl) (mlb kb_map ml0)))))) ?_
  refine gend ?_
  refine awp_seq ?_
  refine rln ?_
  refine Mv ?_
  refine Mv ?_
  refine Mv ?_
  refine G (q_ncp ?_)
  refine G (q_fap ?_)
  refine G (q_ldp ?_)
  refine Mv ?_
  refine G (q_max64 ?_)
  refine G (q_ncp ?_)
  refine G (q_fap ?_)
  refine G20 (fun _ k_ => q_st k_) ?_
  refine G (q_ncp ?_)
  refine G (q_fap ?_)
  refine G20 (fun _ k_ => q_st (c := .bool true) k_) ?_
  refine gend ?_
  refine awp_seq ?_
  refine rln ?_
  refine Mv ?_
  refine Mv ?_
  refine As ?_
  refine As ?_
  refine G (q_as (s := sc (cn 0)) ?_)
  refine gend ?_
  refine awp_ret ?_
  rw [show p.length = f - 8 - 16 by omega]; exact fx3 [0, 1, 2, 3, 4, 5, 6, 7, 8, 9, 13, 14, 15, 16, 12] (hm0 := rfl) (hH := (pl1 rfl (chC_map rfl rfl rfl rfl rfl) (pl1 rfl rfl (pl1 rfl rfl (pl1 rfl sees_m (plb rfl (cb_map rfl) (plb rfl kb_map (plb rfl rfl (plb rfl rfl (plb rfl rfl (plb rfl rfl (pl1 rfl rfl (pl1 rfl sees_m (plb rfl (cb_map rfl) (plb rfl kb_map (pl1 rfl sees_m pl0)))))))))))))))) (hn := piB rfl)
set_option maxHeartbeats 1600000 in
theorem chopen_m1_bad (k r hash : List UInt8) (es er sent g : UInt64) (any : Bool) (wg wb : UInt64) (hk : k.length = 32) (hr : r.length = 32) (hh : hash.length = 32) (fr : List UInt8) (f : Nat) (N : UInt64) (hf : fr.length = f) (h24 : 24 ≤ f) (hL : f ≤ 4120) (hN : gt (fr.take 8) = N) (hn : ¬ 281474976710655 < N) (hw : wchk true wg wb N = 0) (hq : ¬ er + 16 < N / 64) (hle : ¬ N / 64 ≤ er) (he : er.toNat % 2 = 1) (hop : aopen (kE r (N / 64).toNat) (anonce N) hash (fr.drop 8) = none) : Good Try.prog 11 [.c (.ptr 0 0), .c (.ro f (u8s fr))] [some (chC es er 2 (decide (es ≠ 0)) 4 6 (decide (er ≠ 0)) 8 sent 1 g any hash), some (wcs true wg wb), some (cC (.ptr 3 0) 0), some (u8s (S0 k es.toNat)), cb (decide (es ≠ 0)) 5, kb (decide (es ≠ 0)) (S1 k es.toNat), some (cC (.ptr 7 0) 0), some (u8s (S0 r er.toNat)), cb (decide (er ≠ 0)) 9, kb (decide (er ≠ 0)) (S1 r er.toNat)] (.t [.c .nils, .c (c64 0), .c (cn 8)]) [some (chC es er 2 (decide (es ≠ 0)) 4 6 (decide (er ≠ 0)) 8 sent 1 g any hash), some (wcs true wg wb), some (cC (.ptr 3 0) 0), some (u8s (S0 k es.toNat)), cb (decide (es ≠ 0)) 5, kb (decide (es ≠ 0)) (S1 k es.toNat), some (cC (.ptr 7 0) 0), some (u8s (S0 r er.toNat)), cb (decide (er ≠ 0)) 9, kb (decide (er ≠ 0)) (S1 r er.toNat)] := by
  have gg := get 8 (fr.take 8) (by rw [List.length_take]; omega) (by decide) (by decide)
  rw [hN] at gg
  have gc := check true wg wb N
  rw [hw] at gc
  have hdl : (fr.drop 8).length = f - 8 := by rw [List.length_drop, hf]
  have hS : S1 r er.toNat = kE r er.toNat := (S1_odd he).2.2
  have hN6 : er.toNat + (N / 64 - er).toNat = (N / 64).toNat := by
    have h := hle; rw [UInt64.le_iff_toNat_le] at h; rw [UInt64.toNat_sub_of_le _ _ (UInt64.le_iff_toNat_le.2 (by omega))]; omega
  have go := of_rf1 es er sent g (decide (es ≠ 0)) any hash (S0 k es.toNat) (S1 k es.toNat) (S0 r er.toNat) (S1 r er.toNat) wg wb (N / 64) hle ((mod2_nat _).trans he) (S1_len hr _)
  rw [show kE (S1 r er.toNat) (N / 64 - er).toNat = kE r (N / 64).toNat by rw [hS, kE_add, hN6]] at go
  have hone := ne_zero_odd he
  rw [hone]
  have hA : (kE r (N / 64).toNat).length = 32 := kE_len hr _
  have gs := copen_bad (kE r (N / 64).toNat) hash (fr.drop 8) N 32 (f - 8) hA hh (by decide) hdl (by omega) (fun h => hn (by rw [h]; decide)) hop
  refine good_frm 100 Try.func11 rfl rfl rfl rfl rfl rfl ?_
  refine awp_seq ?_
  refine rln ?_
  refine As ?_
  refine G (q_as (s := sc (c64 0)) ?_)
  refine G (q_as (s := sc (cn 0)) ?_)
  refine gend ?_
  refine awp_seq ?_
  refine awp_block ?_
  refine awp_seq ?_
  refine rln ?_
  refine Mv ?_
  refine G2 (fun _ k_ => q_callp (cthere _ _ _ _ _ _ _ _ _ _ _) k_ (ha := (cac (et rfl) (sees_ch rfl rfl rfl rfl) ca0))) ?_
  refine G (q_notb ?_)
  refine As ?_
  refine gend ?_
  refine cndbnN (fun hc1 => ?_) ?_; rotate_left
  · exact rfl
  refine awp_seq ?_
  refine rln ?_
  refine Mv ?_
  refine G (q_leno ?_)
  refine G (q_gtrn (y := 4120) ?_)
  refine As ?_
  refine gend ?_
  refine cndN (fun hc2 => ?_) ?_; rotate_left
  · omega
  refine awp_seq ?_
  refine rln ?_
  refine Mv ?_
  refine G (q_leno ?_)
  refine G (q_lssn (y := 24) ?_)
  refine As ?_
  refine gend ?_
  refine cndN (fun hc3 => ?_) ?_; rotate_left
  · omega
  refine awp_skip ?_
  refine awp_seq ?_
  refine rln ?_
  refine Mv ?_
  refine G (q_slo_hi (k := 8) ?_ (hc := cut_hi hf))
  refine G2 (fun _ k_ => q_callp gg k_ (ha := (cac (et rfl) sees_ro ca0))) ?_
  refine G (q_mv (s := .t _) ?_)
  refine G (q_ext (y := .c _) ?_)
  refine G (q_ext (y := .c _) ?_)
  refine As ?_
  refine As ?_
  refine gend ?_
  refine awp_seq ?_
  refine awp_seq ?_
  refine rln ?_
  refine Mv ?_
  refine G (q_gtr64 (y := 281474976710655) ?_)
  refine gend ?_
  refine cndN (fun hc4 => ?_) ?_; rotate_left
  · exact hn
  refine awp_skip ?_
  refine awp_seq ?_
  refine awp_seq ?_
  refine rln ?_
  refine Mv ?_
  refine G (q_ncp ?_)
  refine G (q_fap ?_)
  refine G (q_ldp ?_)
  refine Mv ?_
  refine G2 (fun _ k_ => q_callp gc k_ (ha := (cac (et rfl) (sees_ptr rfl rfl rfl rfl) (cac (et rfl) cm_int ca0)))) ?_
  refine As ?_
  refine gend ?_
  refine awp_seq ?_
  refine rln ?_
  refine Mv ?_
  refine G (q_neqn (y := 0) ?_)
  refine gend ?_
  refine cndN (fun hc5 => ?_) ?_; rotate_left
  · exact fun h => h rfl
  refine awp_skip ?_
  refine awp_seq ?_
  refine rln ?_
  refine Mv ?_
  refine G (q_quo64 (y := 64) ?_ (hz := by decide))
  refine As ?_
  refine gend ?_
  refine awp_seq ?_
  refine awp_seq ?_
  refine rln ?_
  refine Mv ?_
  refine Mv ?_
  refine G (q_ncp ?_)
  refine G (q_fap ?_)
  refine G (q_fap ?_)
  refine G (q_ldp ?_)
  refine G (q_add64 (y := 16) ?_)
  refine G (q_gtr64 ?_)
  refine gend ?_
  refine cndN (fun hc6 => ?_) ?_; rotate_left
  · exact hq
  refine awp_skip ?_
  refine awp_seq ?_
  refine rln ?_
  refine Mv ?_
  refine G (q_ncp ?_)
  refine G (q_fap ?_)
  refine Mv ?_
  refine G2 (fun _ k_ => q_callv [0, 1, 2, 3, 4, 5, 6, 7, 8, 9] [some (chC es er 2 (decide (es ≠ 0)) 4 6 true 8 sent 1 g any hash), some (wcs true wg wb), some (cC (.ptr 3 0) 0), some (u8s (S0 k es.toNat)), cb (decide (es ≠ 0)) 5, kb (decide (es ≠ 0)) (S1 k es.toNat), some (cC (.ptr 7 0) 0), some (u8s (S0 r er.toNat)), cb true 9, kb true (S1 r er.toNat)] [some (cC (.ptr 11 0) 0), some (u8s (kE r (N / 64).toNat))] go k_ (ha := (cac (et rfl) rfl (cac (et rfl) cm_int ca0))) (e2 := (pl1 rfl (chC_map rfl rfl rfl rfl rfl) (pl1 rfl rfl (pl1 rfl rfl (pl1 rfl sees_m (plb rfl (cb_map rfl) (plb rfl kb_map (pl1 rfl rfl (pl1 rfl sees_m (pl1 rfl rfl (pl1 rfl sees_m pl0))))))))))) (eL := (ml1 (chC_map rfl rfl rfl rfl rfl) (ml1 rfl (ml1 rfl (ml1 sees_m (mlb (cb_map rfl) (mlb kb_map (ml1 rfl (ml1 sees_m (ml1 rfl (ml1 sees_m ml0))))))))))) (eM := (ml1 rfl (ml1 sees_m ml0)))) ?_
  refine As ?_
  refine gend ?_
  refine awp_seq ?_
  refine rln ?_
  refine Mv ?_
  refine Mv ?_
  refine G2 (fun _ k_ => q_callv [10, 11] [some (cC (.ptr 1 0) N), some (u8s (kE r (N / 64).toNat))] [] (setn_k (kE r (N / 64).toNat) 0 N) k_ (ha := (cac (et rfl) rfl (cac (et rfl) cm_int ca0))) (e2 := (pl1 rfl rfl (pl1 rfl sees_m pl0))) (eL := (ml1 rfl (ml1 sees_m ml0))) (eM := ml0)) ?_
  refine gend ?_
  refine awp_seq ?_
  refine rdln [7] [0, 0, 0, 0, 0, 0, 0, 0, 1, 1, 1, 1, 1] [0, 0, 0, 0, 0, 0, 0, 1, 1, 1, 1, 1, 1] ?_
  refine Dp (fun _ => q_mv (s := .v (.c _)) ⟨rfl, rfl⟩) ?_
  refine Dp (fun _ => q_mv (s := .v (.c _)) ⟨rfl, rfl⟩) ?_
  refine Dp (fun _ => q_ncp ⟨rfl, rfl⟩) ?_
  refine Dp (fun _ => q_fap ⟨rfl, rfl⟩) ?_
  refine DSp 0 rfl (fun _ hv => q_slp_no ⟨rfl, rfl⟩ (hp := hv) (hl := ch_len hh)) ?_
  refine Dp (fun _ => q_mv (s := .v (.c _)) ⟨rfl, rfl⟩) ?_
  refine Dp (fun _ => q_slo_lo (j := 8) ⟨rfl, rfl⟩ (hc := cut_drop hf)) ?_
  refine De2 (fun _ k_ => q_callv [10, 11] [some (cC (.ptr 1 0) N), some (u8s (kE r (N / 64).toNat))] [] gs k_ (ha := (cac (et rfl) rfl (cac (et rfl) (sees_slc rfl rfl (ch_hash hh)) (cac (et rfl) sees_ro ca0)))) (e2 := (pl1 rfl rfl (pl1 rfl sees_m pl0))) (eL := (ml1 rfl (ml1 sees_m ml0))) (eM := ml0)) ?_
  refine Dp (fun _ => q_mv (s := .t _) ⟨rfl, rfl⟩) ?_
  refine Dp (fun _ => q_ext (y := .c _) ⟨rfl, rfl⟩) ?_
  refine Dp (fun _ => q_ext (y := .c _) ⟨rfl, rfl⟩) ?_
  refine Dp (fun _ => q_as (s := .v (.c _)) ⟨rfl, rfl⟩) ?_
  refine Dp (fun _ => q_as (s := .v (.c _)) ⟨rfl, rfl⟩) ?_
  refine dend ?_
  refine awp_seq ?_
  refine awp_seq ?_
  refine rln ?_
  refine Mv ?_
  refine G (q_neqn (y := 0) ?_)
  refine gend ?_
  refine cndY (fun hc7 => ?_) ?_; rotate_left
  · exact (by decide : (8 : Nat) ≠ 0)
  refine awp_seq ?_
  refine rln ?_
  refine Mv ?_
  refine As ?_
  refine G (q_as (s := sc (c64 0)) ?_)
  refine As ?_
  refine gend ?_
  refine awp_ret ?_
  exact fx3 [0, 1, 2, 3, 4, 5, 6, 7, 8, 9] (hm0 := rfl) (hH := (pl1 rfl (chC_map rfl rfl rfl rfl rfl) (pl1 rfl rfl (pl1 rfl rfl (pl1 rfl sees_m (plb rfl (cb_map rfl) (plb rfl kb_map (pl1 rfl rfl (pl1 rfl sees_m (pl1 rfl rfl (pl1 rfl sees_m pl0))))))))))) (hn := piB rfl)
set_option maxHeartbeats 1600000 in
theorem chopen_m1_ok (k r hash : List UInt8) (es er sent g : UInt64) (any : Bool) (wg wb : UInt64) (hk : k.length = 32) (hr : r.length = 32) (hh : hash.length = 32) (fr : List UInt8) (f : Nat) (N : UInt64) (hf : fr.length = f) (h24 : 24 ≤ f) (hL : f ≤ 4120) (hN : gt (fr.take 8) = N) (hn : ¬ 281474976710655 < N) (hw : wchk true wg wb N = 0) (hq : ¬ er + 16 < N / 64) (hle : ¬ N / 64 ≤ er) (he : er.toNat % 2 = 1) (p : List UInt8) (hop : aopen (kE r (N / 64).toNat) (anonce N) hash (fr.drop 8) = some p) : Good Try.prog 11 [.c (.ptr 0 0), .c (.ro f (u8s fr))] [some (chC es er 2 (decide (es ≠ 0)) 4 6 (decide (er ≠ 0)) 8 sent 1 g any hash), some (wcs true wg wb), some (cC (.ptr 3 0) 0), some (u8s (S0 k es.toNat)), cb (decide (es ≠ 0)) 5, kb (decide (es ≠ 0)) (S1 k es.toNat), some (cC (.ptr 7 0) 0), some (u8s (S0 r er.toNat)), cb (decide (er ≠ 0)) 9, kb (decide (er ≠ 0)) (S1 r er.toNat)] (.t [.c (.slc 14 0 p.length 1), .c (c64 N), .c (cn 0)]) [some (chC es (N / 64) 2 (decide (es ≠ 0)) 4 10 (decide ((N / 64) ≠ 0)) 12 sent 1 (mx g N) true hash), some (wcs true (wnext true wg wb N).1 (wnext true wg wb N).2), some (cC (.ptr 3 0) 0), some (u8s (S0 k es.toNat)), cb (decide (es ≠ 0)) 5, kb (decide (es ≠ 0)) (S1 k es.toNat), none, none, none, none, some (cC (.ptr 11 0) 0), some (u8s (S0 r (N / 64).toNat)), cb (decide ((N / 64) ≠ 0)) 13, kb (decide ((N / 64) ≠ 0)) (S1 r (N / 64).toNat), some (u8s p)] := by
  have gg := get 8 (fr.take 8) (by rw [List.length_take]; omega) (by decide) (by decide)
  rw [hN] at gg
  have gc := check true wg wb N
  rw [hw] at gc
  have hdl : (fr.drop 8).length = f - 8 := by rw [List.length_drop, hf]
  have hS : S1 r er.toNat = kE r er.toNat := (S1_odd he).2.2
  have hN6 : er.toNat + (N / 64 - er).toNat = (N / 64).toNat := by
    have h := hle; rw [UInt64.le_iff_toNat_le] at h; rw [UInt64.toNat_sub_of_le _ _ (UInt64.le_iff_toNat_le.2 (by omega))]; omega
  have go := of_rf1 es er sent g (decide (es ≠ 0)) any hash (S0 k es.toNat) (S1 k es.toNat) (S0 r er.toNat) (S1 r er.toNat) wg wb (N / 64) hle ((mod2_nat _).trans he) (S1_len hr _)
  rw [show kE (S1 r er.toNat) (N / 64 - er).toNat = kE r (N / 64).toNat by rw [hS, kE_add, hN6]] at go
  have hone := ne_zero_odd he
  rw [hone]
  have hA : (kE r (N / 64).toNat).length = 32 := kE_len hr _
  have gs := copen_ok (kE r (N / 64).toNat) hash (fr.drop 8) N 32 (f - 8) hA hh (by decide) hdl (by omega) (fun h => hn (by rw [h]; decide)) p hop
  have hpl := aopen_len hop
  have gm := move_r es er sent g (decide (es ≠ 0)) any hash r (S0 k es.toNat) (S1 k es.toNat) (wnext true wg wb N).1 (wnext true wg wb N).2 (N / 64) hr
  rw [show mx er (N / 64) = N / 64 from if_pos (by rw [UInt64.lt_iff_toNat_lt]; have h := hle; rw [UInt64.le_iff_toNat_le] at h; omega)] at gm
  rw [hone] at gm
  obtain ⟨ww, hww⟩ : ∃ z, wnext true wg wb N = z := ⟨_, rfl⟩
  have gt_ := take true wg wb N
  rw [hww] at gt_ gm ⊢
  refine good_frm 100 Try.func11 rfl rfl rfl rfl rfl rfl ?_
  refine awp_seq ?_
  refine rln ?_
  refine As ?_
  refine G (q_as (s := sc (c64 0)) ?_)
  refine G (q_as (s := sc (cn 0)) ?_)
  refine gend ?_
  refine awp_seq ?_
  refine awp_block ?_
  refine awp_seq ?_
  refine rln ?_
  refine Mv ?_
  refine G2 (fun _ k_ => q_callp (cthere _ _ _ _ _ _ _ _ _ _ _) k_ (ha := (cac (et rfl) (sees_ch rfl rfl rfl rfl) ca0))) ?_
  refine G (q_notb ?_)
  refine As ?_
  refine gend ?_
  refine cndbnN (fun hc1 => ?_) ?_; rotate_left
  · exact rfl
  refine awp_seq ?_
  refine rln ?_
  refine Mv ?_
  refine G (q_leno ?_)
  refine G (q_gtrn (y := 4120) ?_)
  refine As ?_
  refine gend ?_
  refine cndN (fun hc2 => ?_) ?_; rotate_left
  · omega
  refine awp_seq ?_
  refine rln ?_
  refine Mv ?_
  refine G (q_leno ?_)
  refine G (q_lssn (y := 24) ?_)
  refine As ?_
  refine gend ?_
  refine cndN (fun hc3 => ?_) ?_; rotate_left
  · omega
  refine awp_skip ?_
  refine awp_seq ?_
  refine rln ?_
  refine Mv ?_
  refine G (q_slo_hi (k := 8) ?_ (hc := cut_hi hf))
  refine G2 (fun _ k_ => q_callp gg k_ (ha := (cac (et rfl) sees_ro ca0))) ?_
  refine G (q_mv (s := .t _) ?_)
  refine G (q_ext (y := .c _) ?_)
  refine G (q_ext (y := .c _) ?_)
  refine As ?_
  refine As ?_
  refine gend ?_
  refine awp_seq ?_
  refine awp_seq ?_
  refine rln ?_
  refine Mv ?_
  refine G (q_gtr64 (y := 281474976710655) ?_)
  refine gend ?_
  refine cndN (fun hc4 => ?_) ?_; rotate_left
  · exact hn
  refine awp_skip ?_
  refine awp_seq ?_
  refine awp_seq ?_
  refine rln ?_
  refine Mv ?_
  refine G (q_ncp ?_)
  refine G (q_fap ?_)
  refine G (q_ldp ?_)
  refine Mv ?_
  refine G2 (fun _ k_ => q_callp gc k_ (ha := (cac (et rfl) (sees_ptr rfl rfl rfl rfl) (cac (et rfl) cm_int ca0)))) ?_
  refine As ?_
  refine gend ?_
  refine awp_seq ?_
  refine rln ?_
  refine Mv ?_
  refine G (q_neqn (y := 0) ?_)
  refine gend ?_
  refine cndN (fun hc5 => ?_) ?_; rotate_left
  · exact fun h => h rfl
  refine awp_skip ?_
  refine awp_seq ?_
  refine rln ?_
  refine Mv ?_
  refine G (q_quo64 (y := 64) ?_ (hz := by decide))
  refine As ?_
  refine gend ?_
  refine awp_seq ?_
  refine awp_seq ?_
  refine rln ?_
  refine Mv ?_
  refine Mv ?_
  refine G (q_ncp ?_)
  refine G (q_fap ?_)
  refine G (q_fap ?_)
  refine G (q_ldp ?_)
  refine G (q_add64 (y := 16) ?_)
  refine G (q_gtr64 ?_)
  refine gend ?_
  refine cndN (fun hc6 => ?_) ?_; rotate_left
  · exact hq
  refine awp_skip ?_
  refine awp_seq ?_
  refine rln ?_
  refine Mv ?_
  refine G (q_ncp ?_)
  refine G (q_fap ?_)
  refine Mv ?_
  refine G2 (fun _ k_ => q_callv [0, 1, 2, 3, 4, 5, 6, 7, 8, 9] [some (chC es er 2 (decide (es ≠ 0)) 4 6 true 8 sent 1 g any hash), some (wcs true wg wb), some (cC (.ptr 3 0) 0), some (u8s (S0 k es.toNat)), cb (decide (es ≠ 0)) 5, kb (decide (es ≠ 0)) (S1 k es.toNat), some (cC (.ptr 7 0) 0), some (u8s (S0 r er.toNat)), cb true 9, kb true (S1 r er.toNat)] [some (cC (.ptr 11 0) 0), some (u8s (kE r (N / 64).toNat))] go k_ (ha := (cac (et rfl) rfl (cac (et rfl) cm_int ca0))) (e2 := (pl1 rfl (chC_map rfl rfl rfl rfl rfl) (pl1 rfl rfl (pl1 rfl rfl (pl1 rfl sees_m (plb rfl (cb_map rfl) (plb rfl kb_map (pl1 rfl rfl (pl1 rfl sees_m (pl1 rfl rfl (pl1 rfl sees_m pl0))))))))))) (eL := (ml1 (chC_map rfl rfl rfl rfl rfl) (ml1 rfl (ml1 rfl (ml1 sees_m (mlb (cb_map rfl) (mlb kb_map (ml1 rfl (ml1 sees_m (ml1 rfl (ml1 sees_m ml0))))))))))) (eM := (ml1 rfl (ml1 sees_m ml0)))) ?_
  refine As ?_
  refine gend ?_
  refine awp_seq ?_
  refine rln ?_
  refine Mv ?_
  refine Mv ?_
  refine G2 (fun _ k_ => q_callv [10, 11] [some (cC (.ptr 1 0) N), some (u8s (kE r (N / 64).toNat))] [] (setn_k (kE r (N / 64).toNat) 0 N) k_ (ha := (cac (et rfl) rfl (cac (et rfl) cm_int ca0))) (e2 := (pl1 rfl rfl (pl1 rfl sees_m pl0))) (eL := (ml1 rfl (ml1 sees_m ml0))) (eM := ml0)) ?_
  refine gend ?_
  refine awp_seq ?_
  refine rdln [7] [0, 0, 0, 0, 0, 0, 0, 0, 1, 1, 1, 1, 1] [0, 0, 0, 0, 0, 0, 0, 1, 1, 1, 1, 1, 1] ?_
  refine Dp (fun _ => q_mv (s := .v (.c _)) ⟨rfl, rfl⟩) ?_
  refine Dp (fun _ => q_mv (s := .v (.c _)) ⟨rfl, rfl⟩) ?_
  refine Dp (fun _ => q_ncp ⟨rfl, rfl⟩) ?_
  refine Dp (fun _ => q_fap ⟨rfl, rfl⟩) ?_
  refine DSp 0 rfl (fun _ hv => q_slp_no ⟨rfl, rfl⟩ (hp := hv) (hl := ch_len hh)) ?_
  refine Dp (fun _ => q_mv (s := .v (.c _)) ⟨rfl, rfl⟩) ?_
  refine Dp (fun _ => q_slo_lo (j := 8) ⟨rfl, rfl⟩ (hc := cut_drop hf)) ?_
  refine De2 (fun _ k_ => q_callv [10, 11] [some (cC (.ptr 1 0) (N + 1)), some (u8s (kE r (N / 64).toNat))] [some (u8s p)] gs k_ (ha := (cac (et rfl) rfl (cac (et rfl) (sees_slc rfl rfl (ch_hash hh)) (cac (et rfl) sees_ro ca0)))) (e2 := (pl1 rfl rfl (pl1 rfl sees_m pl0))) (eL := (ml1 rfl (ml1 sees_m ml0))) (eM := (ml1 sees_m ml0))) ?_
  refine Dp (fun _ => q_mv (s := .t _) ⟨rfl, rfl⟩) ?_
  refine Dp (fun _ => q_ext (y := .c _) ⟨rfl, rfl⟩) ?_
  refine Dp (fun _ => q_ext (y := .c _) ⟨rfl, rfl⟩) ?_
  refine Dp (fun _ => q_as (s := .v (.c _)) ⟨rfl, rfl⟩) ?_
  refine Dp (fun _ => q_as (s := .v (.c _)) ⟨rfl, rfl⟩) ?_
  refine dend ?_
  refine awp_seq ?_
  refine awp_seq ?_
  refine rln ?_
  refine Mv ?_
  refine G (q_neqn (y := 0) ?_)
  refine gend ?_
  refine cndN (fun hc7 => ?_) ?_; rotate_left
  · exact fun h => h rfl
  refine awp_skip ?_
  refine awp_seq ?_
  refine rln ?_
  refine Mv ?_
  refine G (q_ncp ?_)
  refine G (q_fap ?_)
  refine G (q_ldp ?_)
  refine Mv ?_
  refine G2 (fun _ k_ => q_callw 1 gt_ k_ (ha := (cac (et rfl) rfl (cac (et rfl) cm_int ca0)))) ?_
  refine gend ?_
  refine awp_seq ?_
  refine rln ?_
  refine Mv ?_
  refine G (q_ncp ?_)
  refine G (q_fap ?_)
  refine Mv ?_
  refine G2 (fun _ k_ => q_callv [0, 1, 2, 3, 4, 5, 6, 7, 8, 9] [some (chC es (N / 64) 2 (decide (es ≠ 0)) 4 10 (decide ((N / 64) ≠ 0)) 12 sent 1 g any hash), some (wcs true ww.1 ww.2), some (cC (.ptr 3 0) 0), some (u8s (S0 k es.toNat)), cb (decide (es ≠ 0)) 5, kb (decide (es ≠ 0)) (S1 k es.toNat), none, none, none, none] [some (cC (.ptr 11 0) 0), some (u8s (S0 r (N / 64).toNat)), cb (decide ((N / 64) ≠ 0)) 13, kb (decide ((N / 64) ≠ 0)) (S1 r (N / 64).toNat)] gm k_ (ha := (cac (et rfl) rfl (cac (et rfl) cm_int ca0))) (e2 := (pl1 rfl (chC_map rfl rfl rfl rfl rfl) (pl1 rfl rfl (pl1 rfl rfl (pl1 rfl sees_m (plb rfl (cb_map rfl) (plb rfl kb_map (pl1 rfl rfl (pl1 rfl sees_m (pl1 rfl rfl (pl1 rfl sees_m pl0))))))))))) (eL := (ml1 (chC_map rfl rfl rfl rfl rfl) (ml1 rfl (ml1 rfl (ml1 sees_m (mlb (cb_map rfl) (mlb kb_map (mln (mln (mln (mln ml0))))))))))) (eM := (ml1 rfl (ml1 sees_m (mlb (cb_map rfl) (mlb kb_map ml0)))))) ?_
  refine gend ?_
  refine awp_seq ?_
  refine rln ?_
  refine Mv ?_
  refine Mv ?_
  refine Mv ?_
  refine G (q_ncp ?_)
  refine G (q_fap ?_)
  refine G (q_ldp ?_)
  refine Mv ?_
  refine G (q_max64 ?_)
  refine G (q_ncp ?_)
  refine G (q_fap ?_)
  refine G20 (fun _ k_ => q_st k_) ?_
  refine G (q_ncp ?_)
  refine G (q_fap ?_)
  refine G20 (fun _ k_ => q_st (c := .bool true) k_) ?_
  refine gend ?_
  refine awp_seq ?_
  refine rln ?_
  refine Mv ?_
  refine Mv ?_
  refine As ?_
  refine As ?_
  refine G (q_as (s := sc (cn 0)) ?_)
  refine gend ?_
  refine awp_ret ?_
  rw [show p.length = f - 8 - 16 by omega]; exact fx3 [0, 1, 2, 3, 4, 5, 6, 7, 8, 9, 13, 14, 15, 16, 12] (hm0 := rfl) (hH := (pl1 rfl (chC_map rfl rfl rfl rfl rfl) (pl1 rfl rfl (pl1 rfl rfl (pl1 rfl sees_m (plb rfl (cb_map rfl) (plb rfl kb_map (plb rfl rfl (plb rfl rfl (plb rfl rfl (plb rfl rfl (pl1 rfl rfl (pl1 rfl sees_m (plb rfl (cb_map rfl) (plb rfl kb_map (pl1 rfl sees_m pl0)))))))))))))))) (hn := piB rfl)
end Go.Proofs.Ytklcckngmmklhaa

/- What functions of the program do, walked over the abstract machine. -/
namespace Go.Proofs.Ytklcckngmmklhaa
open Go Go.Abs Go.Proofs Go.Proofs.Ytklcckngmmklhaa.Ch Go.Proofs.Ytklcckngmmklhaa.Po Go.Proofs.Ytklcckngmmklhaa.Ae Go.Proofs.Ytklcckngmmklhaa.Wd
set_option maxRecDepth 20000
def kq4 : Nat → Nat → Nat
  | 0, a => a
  | _ + 1, _ => 4
end Go.Proofs.Ytklcckngmmklhaa

/- What functions of the program do, walked over the abstract machine. -/
namespace Go.Proofs.Ytklcckngmmklhaa
open Go Go.Abs Go.Proofs Go.Proofs.Ytklcckngmmklhaa.Ch Go.Proofs.Ytklcckngmmklhaa.Po Go.Proofs.Ytklcckngmmklhaa.Ae Go.Proofs.Ytklcckngmmklhaa.Wd
set_option maxRecDepth 20000
def wn (o : List UInt8 × UInt64 × Nat × List UInt64) (wg wb : UInt64) : UInt64 × UInt64 := if o.2.2.1 = 0 then wnext true wg wb o.2.1 else (wg, wb)
theorem slot0 {k : List UInt8} {e n : Nat} (h1 : n ≤ e) (h2 : e ≤ n + 1) (hp : n % 2 = 0) : S0 k e = kE k n := by
  unfold S0; congr 1; omega
theorem slot1 {k : List UInt8} {e n : Nat} (h1 : n ≤ e) (h2 : e ≤ n + 1) (hp : n % 2 = 1) : S1 k e = kE k n := by
  unfold S1; congr 1; split <;> omega
theorem grl_app (l : List UInt64) (n : UInt64) : grl (l ++ [n]) = mx (grl l) n := by
  unfold grl mx; rw [List.foldl_append]; rfl
theorem grl_le {l : List UInt64} {m : Nat} (h : ∀ x ∈ l, x.toNat ≤ m) : (grl l).toNat ≤ m := by
  rcases (grl_spec l).2 with h1 | h1
  · rw [h1]; exact Nat.zero_le _
  · exact h _ h1
theorem d64 (n : UInt64) : (n / 64).toNat = n.toNat / 64 := by rw [UInt64.toNat_div]; rfl
theorem rchk_0 {l : List UInt64} {n : UInt64} (hM : ∀ x ∈ l, x.toNat ≤ 281474976710655) (hn : n.toNat ≤ 281474976710655) (h1 : n ∉ l) (h2 : ¬ (0 < l.length ∧ n + 64 ≤ grl l)) : rchk l n = 0 := by
  have hg := grl_le hM
  have ho : rold l n = false := by
    by_cases hp : 0 < l.length
    · have h3 : ¬ n + 64 ≤ grl l := fun h => h2 ⟨hp, h⟩
      rw [UInt64.le_iff_toNat_le, UInt64.toNat_add, show (64 : UInt64).toNat = 64 from rfl, Nat.mod_eq_of_lt (by omega)] at h3
      by_cases hlt : n < grl l
      · have h4 : ¬ 64 ≤ grl l - n := by
          rw [UInt64.le_iff_toNat_le, UInt64.toNat_sub_of_le _ _ (UInt64.le_of_lt hlt), show (64 : UInt64).toNat = 64 from rfl]; omega
        simp [rold, h4]
      · simp [rold, hlt]
    · simp [rold, hp]
  simp [rchk, rcame, h1, ho]
theorem rchk_10 {l : List UInt64} {n : UInt64} (hM : ∀ x ∈ l, x.toNat ≤ 281474976710655) (hn : n.toNat ≤ 281474976710655) (h : n ∈ l ∨ (0 < l.length ∧ n + 64 ≤ grl l)) : rchk l n = 10 := by
  have hg := grl_le hM
  rcases h with h | ⟨h1, h2⟩
  · cases ho : rold l n <;> simp [rchk, rcame, h, ho]
  · rw [UInt64.le_iff_toNat_le, UInt64.toNat_add, show (64 : UInt64).toNat = 64 from rfl, Nat.mod_eq_of_lt (by omega)] at h2
    have hlt : n < grl l := by rw [UInt64.lt_iff_toNat_lt]; omega
    have h4 : 64 ≤ grl l - n := by
      rw [UInt64.le_iff_toNat_le, UInt64.toNat_sub_of_le _ _ (UInt64.le_of_lt hlt), show (64 : UInt64).toNat = 64 from rfl]; omega
    simp [rchk, rold, h1, hlt, h4]
theorem op19_inv {r h : List UInt8} {l : List UInt64} {fr : List UInt8} {wg wb : UInt64} (I : Inv l wg wb) (hM : ∀ x ∈ l, x.toNat ≤ 281474976710655) : Inv (op19 r h l fr).2.2.2 (wn (op19 r h l fr) wg wb).1 (wn (op19 r h l fr) wg wb).2 ∧ ∀ x ∈ (op19 r h l fr).2.2.2, x.toNat ≤ 281474976710655 := by
  unfold op19
  split
  · exact ⟨I, hM⟩
  split
  · exact ⟨I, hM⟩
  split
  · exact ⟨I, hM⟩
  rename_i h3
  have hn : (rg (fr.take 8)).toNat ≤ 281474976710655 := by rw [UInt64.le_iff_toNat_le, show (281474976710656 : UInt64).toNat = 281474976710656 from rfl] at h3; omega
  split
  · exact ⟨I, hM⟩
  rename_i h4
  split
  · exact ⟨I, hM⟩
  rename_i h5
  split
  · exact ⟨I, hM⟩
  split
  · exact ⟨I, hM⟩
  · have h6 := rchk_0 hM hn h4 h5
    rw [← (chk_inv I _).1] at h6
    refine ⟨take_inv I h6, fun x hx => ?_⟩
    rcases List.mem_append.1 hx with hx | hx
    · exact hM x hx
    · rw [List.mem_singleton.1 hx]; exact hn
theorem ne_zero_of {a b : UInt64} (h : a.toNat % 2 = 1) (hl : a.toNat ≤ b.toNat) : decide (b ≠ 0) = true := by
  refine decide_eq_true (fun hh => ?_)
  rw [hh] at hl
  have : (0 : UInt64).toNat = 0 := rfl
  omega
set_option maxHeartbeats 1600000 in
theorem chopen_u (k r hash : List UInt8) (es sent : UInt64) (l : List UInt64) (wg wb : UInt64) (hk : k.length = 32) (hr : r.length = 32) (hh : hash.length = 32) (I : Inv l wg wb) (hM : ∀ x ∈ l, x.toNat ≤ 281474976710655) (fr : List UInt8) (f : Nat) (hf : fr.length = f) : Good Try.prog 11 [.c (.ptr 0 0), .c (.ro f (u8s fr))] [some (chC es (grl l / 64) 2 (decide (es ≠ 0)) 4 6 (decide ((grl l / 64) ≠ 0)) 8 sent 1 (grl l) (decide (0 < l.length)) hash), some (wcs true wg wb), some (cC (.ptr 3 0) 0), some (u8s (S0 k es.toNat)), cb (decide (es ≠ 0)) 5, kb (decide (es ≠ 0)) (S1 k es.toNat), some (cC (.ptr 7 0) 0), some (u8s (S0 r (grl l / 64).toNat)), cb (decide ((grl l / 64) ≠ 0)) 9, kb (decide ((grl l / 64) ≠ 0)) (S1 r (grl l / 64).toNat)] (.t [.c (.slc 14 0 (op19 r hash l fr).1.length 1), .c (c64 (op19 r hash l fr).2.1), .c (cn (op19 r hash l fr).2.2.1)]) [some (chC es (grl (op19 r hash l fr).2.2.2 / 64) 2 (decide (es ≠ 0)) 4 10 (decide ((grl (op19 r hash l fr).2.2.2 / 64) ≠ 0)) 12 sent 1 (grl (op19 r hash l fr).2.2.2) (decide (0 < (op19 r hash l fr).2.2.2.length)) hash), some (wcs true (wn (op19 r hash l fr) wg wb).1 (wn (op19 r hash l fr) wg wb).2), some (cC (.ptr 3 0) 0), some (u8s (S0 k es.toNat)), cb (decide (es ≠ 0)) 5, kb (decide (es ≠ 0)) (S1 k es.toNat), none, none, none, none, some (cC (.ptr 11 0) 0), some (u8s (S0 r (grl (op19 r hash l fr).2.2.2 / 64).toNat)), cb (decide ((grl (op19 r hash l fr).2.2.2 / 64) ≠ 0)) 13, kb (decide ((grl (op19 r hash l fr).2.2.2 / 64) ≠ 0)) (S1 r (grl (op19 r hash l fr).2.2.2 / 64).toNat), some (u8s (op19 r hash l fr).1)] := by
  by_cases h1 : 4120 < f
  · have e : op19 r hash l fr = ([], 0, 3, l) := by unfold op19; rw [if_pos (by rw [hf]; exact h1)]
    rw [e]
    show Good _ _ _ _ (.t [.c (.slc 14 0 ([] : List UInt8).length 1), .c (c64 0), .c (cn 3)]) [some (chC es (grl l / 64) 2 (decide (es ≠ 0)) 4 10 (decide ((grl l / 64) ≠ 0)) 12 sent 1 (grl l) (decide (0 < l.length)) hash), some (wcs true wg wb), some (cC (.ptr 3 0) 0), some (u8s (S0 k es.toNat)), cb (decide (es ≠ 0)) 5, kb (decide (es ≠ 0)) (S1 k es.toNat), none, none, none, none, some (cC (.ptr 11 0) 0), some (u8s (S0 r (grl l / 64).toNat)), cb (decide ((grl l / 64) ≠ 0)) 13, kb (decide ((grl l / 64) ≠ 0)) (S1 r (grl l / 64).toNat), some (u8s ([] : List UInt8))]
    exact (Good.emp (chopen_long k r hash es (grl l / 64) sent (grl l) (decide (0 < l.length)) wg wb hk hr hh fr f h1) 1).ren' [(0, true), (1, true), (2, true), (3, true), (4, true), (5, true), (6, false), (7, false), (8, false), (9, false), (6, true), (7, true), (8, true), (9, true), (10, true)] (rlT rfl (chC_map rfl rfl rfl rfl rfl) (rlT rfl rfl (rlT rfl rfl (rlT rfl sees_m (rlB rfl (cb_map rfl) (rlB rfl kb_map (rlF (rlF (rlF (rlF (rlT rfl rfl (rlT rfl sees_m (rlB rfl (cb_map rfl) (rlB rfl kb_map (rlT rfl rfl rl0)))))))))))))))
  by_cases h2 : f < 24
  · have e : op19 r hash l fr = ([], 0, 4, l) := by unfold op19; rw [if_neg (by rw [hf]; exact h1), if_pos (by rw [hf]; exact h2)]
    rw [e]
    show Good _ _ _ _ (.t [.c (.slc 14 0 ([] : List UInt8).length 1), .c (c64 0), .c (cn 4)]) [some (chC es (grl l / 64) 2 (decide (es ≠ 0)) 4 10 (decide ((grl l / 64) ≠ 0)) 12 sent 1 (grl l) (decide (0 < l.length)) hash), some (wcs true wg wb), some (cC (.ptr 3 0) 0), some (u8s (S0 k es.toNat)), cb (decide (es ≠ 0)) 5, kb (decide (es ≠ 0)) (S1 k es.toNat), none, none, none, none, some (cC (.ptr 11 0) 0), some (u8s (S0 r (grl l / 64).toNat)), cb (decide ((grl l / 64) ≠ 0)) 13, kb (decide ((grl l / 64) ≠ 0)) (S1 r (grl l / 64).toNat), some (u8s ([] : List UInt8))]
    exact (Good.emp (chopen_short k r hash es (grl l / 64) sent (grl l) (decide (0 < l.length)) wg wb hk hr hh fr f h2) 1).ren' [(0, true), (1, true), (2, true), (3, true), (4, true), (5, true), (6, false), (7, false), (8, false), (9, false), (6, true), (7, true), (8, true), (9, true), (10, true)] (rlT rfl (chC_map rfl rfl rfl rfl rfl) (rlT rfl rfl (rlT rfl rfl (rlT rfl sees_m (rlB rfl (cb_map rfl) (rlB rfl kb_map (rlF (rlF (rlF (rlF (rlT rfl rfl (rlT rfl sees_m (rlB rfl (cb_map rfl) (rlB rfl kb_map (rlT rfl rfl rl0)))))))))))))))
  obtain ⟨N, hN⟩ : ∃ z, gt (fr.take 8) = z := ⟨_, rfl⟩
  have hR : rg (fr.take 8) = N := by rw [← gt_rg]; exact hN
  by_cases h3 : 281474976710656 ≤ rg (fr.take 8)
  · have e : op19 r hash l fr = ([], 0, 4, l) := by unfold op19; rw [if_neg (by rw [hf]; exact h1), if_neg (by rw [hf]; exact h2), if_pos h3]
    rw [e]
    show Good _ _ _ _ (.t [.c (.slc 14 0 ([] : List UInt8).length 1), .c (c64 0), .c (cn 4)]) [some (chC es (grl l / 64) 2 (decide (es ≠ 0)) 4 10 (decide ((grl l / 64) ≠ 0)) 12 sent 1 (grl l) (decide (0 < l.length)) hash), some (wcs true wg wb), some (cC (.ptr 3 0) 0), some (u8s (S0 k es.toNat)), cb (decide (es ≠ 0)) 5, kb (decide (es ≠ 0)) (S1 k es.toNat), none, none, none, none, some (cC (.ptr 11 0) 0), some (u8s (S0 r (grl l / 64).toNat)), cb (decide ((grl l / 64) ≠ 0)) 13, kb (decide ((grl l / 64) ≠ 0)) (S1 r (grl l / 64).toNat), some (u8s ([] : List UInt8))]
    exact (Good.emp (chopen_far k r hash es (grl l / 64) sent (grl l) (decide (0 < l.length)) wg wb hk hr hh fr f N hf (by omega) (by omega) hN (by rw [← hR, UInt64.lt_iff_toNat_lt, show (281474976710655 : UInt64).toNat = 281474976710655 from rfl]; rw [UInt64.le_iff_toNat_le, show (281474976710656 : UInt64).toNat = 281474976710656 from rfl] at h3; omega)) 1).ren' [(0, true), (1, true), (2, true), (3, true), (4, true), (5, true), (6, false), (7, false), (8, false), (9, false), (6, true), (7, true), (8, true), (9, true), (10, true)] (rlT rfl (chC_map rfl rfl rfl rfl rfl) (rlT rfl rfl (rlT rfl rfl (rlT rfl sees_m (rlB rfl (cb_map rfl) (rlB rfl kb_map (rlF (rlF (rlF (rlF (rlT rfl rfl (rlT rfl sees_m (rlB rfl (cb_map rfl) (rlB rfl kb_map (rlT rfl rfl rl0)))))))))))))))
  have hn : N.toNat ≤ 281474976710655 := by rw [UInt64.le_iff_toNat_le, show (281474976710656 : UInt64).toNat = 281474976710656 from rfl, hR] at h3; omega
  have hn' : ¬ 281474976710655 < N := by rw [UInt64.lt_iff_toNat_lt, show (281474976710655 : UInt64).toNat = 281474976710655 from rfl]; omega
  have hc := (chk_inv I N).1
  by_cases h4 : rg (fr.take 8) ∈ l
  · have e : op19 r hash l fr = ([], 0, 10, l) := by unfold op19; rw [if_neg (by rw [hf]; exact h1), if_neg (by rw [hf]; exact h2), if_neg h3, if_pos h4]
    rw [e]
    show Good _ _ _ _ (.t [.c (.slc 14 0 ([] : List UInt8).length 1), .c (c64 0), .c (cn 10)]) [some (chC es (grl l / 64) 2 (decide (es ≠ 0)) 4 10 (decide ((grl l / 64) ≠ 0)) 12 sent 1 (grl l) (decide (0 < l.length)) hash), some (wcs true wg wb), some (cC (.ptr 3 0) 0), some (u8s (S0 k es.toNat)), cb (decide (es ≠ 0)) 5, kb (decide (es ≠ 0)) (S1 k es.toNat), none, none, none, none, some (cC (.ptr 11 0) 0), some (u8s (S0 r (grl l / 64).toNat)), cb (decide ((grl l / 64) ≠ 0)) 13, kb (decide ((grl l / 64) ≠ 0)) (S1 r (grl l / 64).toNat), some (u8s ([] : List UInt8))]
    exact (Good.emp (chopen_old k r hash es (grl l / 64) sent (grl l) (decide (0 < l.length)) wg wb hk hr hh fr f N hf (by omega) (by omega) hN hn' 10 (hc.trans (rchk_10 hM hn ((.inl (hR ▸ h4))))) (by decide)) 1).ren' [(0, true), (1, true), (2, true), (3, true), (4, true), (5, true), (6, false), (7, false), (8, false), (9, false), (6, true), (7, true), (8, true), (9, true), (10, true)] (rlT rfl (chC_map rfl rfl rfl rfl rfl) (rlT rfl rfl (rlT rfl rfl (rlT rfl sees_m (rlB rfl (cb_map rfl) (rlB rfl kb_map (rlF (rlF (rlF (rlF (rlT rfl rfl (rlT rfl sees_m (rlB rfl (cb_map rfl) (rlB rfl kb_map (rlT rfl rfl rl0)))))))))))))))
  by_cases h5 : 0 < l.length ∧ rg (fr.take 8) + 64 ≤ grl l
  · have e : op19 r hash l fr = ([], 0, 10, l) := by unfold op19; rw [if_neg (by rw [hf]; exact h1), if_neg (by rw [hf]; exact h2), if_neg h3, if_neg h4, if_pos h5]
    rw [e]
    show Good _ _ _ _ (.t [.c (.slc 14 0 ([] : List UInt8).length 1), .c (c64 0), .c (cn 10)]) [some (chC es (grl l / 64) 2 (decide (es ≠ 0)) 4 10 (decide ((grl l / 64) ≠ 0)) 12 sent 1 (grl l) (decide (0 < l.length)) hash), some (wcs true wg wb), some (cC (.ptr 3 0) 0), some (u8s (S0 k es.toNat)), cb (decide (es ≠ 0)) 5, kb (decide (es ≠ 0)) (S1 k es.toNat), none, none, none, none, some (cC (.ptr 11 0) 0), some (u8s (S0 r (grl l / 64).toNat)), cb (decide ((grl l / 64) ≠ 0)) 13, kb (decide ((grl l / 64) ≠ 0)) (S1 r (grl l / 64).toNat), some (u8s ([] : List UInt8))]
    exact (Good.emp (chopen_old k r hash es (grl l / 64) sent (grl l) (decide (0 < l.length)) wg wb hk hr hh fr f N hf (by omega) (by omega) hN hn' 10 (hc.trans (rchk_10 hM hn ((.inr (hR ▸ h5))))) (by decide)) 1).ren' [(0, true), (1, true), (2, true), (3, true), (4, true), (5, true), (6, false), (7, false), (8, false), (9, false), (6, true), (7, true), (8, true), (9, true), (10, true)] (rlT rfl (chC_map rfl rfl rfl rfl rfl) (rlT rfl rfl (rlT rfl rfl (rlT rfl sees_m (rlB rfl (cb_map rfl) (rlB rfl kb_map (rlF (rlF (rlF (rlF (rlT rfl rfl (rlT rfl sees_m (rlB rfl (cb_map rfl) (rlB rfl kb_map (rlT rfl rfl rl0)))))))))))))))
  have hw := hc.trans (rchk_0 hM hn (hR ▸ h4) (hR ▸ h5))
  by_cases h6 : grl l / 64 + 16 < rg (fr.take 8) / 64
  · have e : op19 r hash l fr = ([], 0, 9, l) := by unfold op19; rw [if_neg (by rw [hf]; exact h1), if_neg (by rw [hf]; exact h2), if_neg h3, if_neg h4, if_neg h5, if_pos h6]
    rw [e]
    show Good _ _ _ _ (.t [.c (.slc 14 0 ([] : List UInt8).length 1), .c (c64 0), .c (cn 9)]) [some (chC es (grl l / 64) 2 (decide (es ≠ 0)) 4 10 (decide ((grl l / 64) ≠ 0)) 12 sent 1 (grl l) (decide (0 < l.length)) hash), some (wcs true wg wb), some (cC (.ptr 3 0) 0), some (u8s (S0 k es.toNat)), cb (decide (es ≠ 0)) 5, kb (decide (es ≠ 0)) (S1 k es.toNat), none, none, none, none, some (cC (.ptr 11 0) 0), some (u8s (S0 r (grl l / 64).toNat)), cb (decide ((grl l / 64) ≠ 0)) 13, kb (decide ((grl l / 64) ≠ 0)) (S1 r (grl l / 64).toNat), some (u8s ([] : List UInt8))]
    exact (Good.emp (chopen_seq k r hash es (grl l / 64) sent (grl l) (decide (0 < l.length)) wg wb hk hr hh fr f N hf (by omega) (by omega) hN hn' hw (hR ▸ h6)) 1).ren' [(0, true), (1, true), (2, true), (3, true), (4, true), (5, true), (6, false), (7, false), (8, false), (9, false), (6, true), (7, true), (8, true), (9, true), (10, true)] (rlT rfl (chC_map rfl rfl rfl rfl rfl) (rlT rfl rfl (rlT rfl rfl (rlT rfl sees_m (rlB rfl (cb_map rfl) (rlB rfl kb_map (rlF (rlF (rlF (rlF (rlT rfl rfl (rlT rfl sees_m (rlB rfl (cb_map rfl) (rlB rfl kb_map (rlT rfl rfl rl0)))))))))))))))
  have hq : ¬ grl l / 64 + 16 < N / 64 := hR ▸ h6
  have hg9 := grl_le hM
  have hdE := d64 (grl l)
  have hdN := d64 N
  by_cases hle : N / 64 ≤ grl l / 64
  · have hle' := hle
    rw [UInt64.le_iff_toNat_le] at hle'
    have h1' : (grl l / 64).toNat ≤ (N / 64).toNat + 1 := by
      by_cases hp : 0 < l.length
      · have h7 : ¬ N + 64 ≤ grl l := fun h => h5 ⟨hp, hR ▸ h⟩
        rw [UInt64.le_iff_toNat_le, UInt64.toNat_add, show (64 : UInt64).toNat = 64 from rfl, Nat.mod_eq_of_lt (by omega)] at h7
        omega
      · rw [show l = [] from List.eq_nil_of_length_eq_zero (by omega)] at hdE ⊢; rw [hdE]; exact Nat.zero_le _
    have eE : grl (l ++ [N]) / 64 = grl l / 64 := by
      rw [grl_app]; unfold mx; split
      · rename_i hx; rw [UInt64.lt_iff_toNat_lt] at hx; apply UInt64.toNat_inj.1; omega
      · rfl
    cases hop : aopen (kE r (N / 64).toNat) (anonce N) hash (fr.drop 8) with
    | none =>
      have e : op19 r hash l fr = ([], 0, 8, l) := by unfold op19; rw [if_neg (by rw [hf]; exact h1), if_neg (by rw [hf]; exact h2), if_neg h3, if_neg h4, if_neg h5, if_neg h6, hR, hop]
      rw [e]
      show Good _ _ _ _ (.t [.c (.slc 14 0 ([] : List UInt8).length 1), .c (c64 0), .c (cn 8)]) [some (chC es (grl l / 64) 2 (decide (es ≠ 0)) 4 10 (decide ((grl l / 64) ≠ 0)) 12 sent 1 (grl l) (decide (0 < l.length)) hash), some (wcs true wg wb), some (cC (.ptr 3 0) 0), some (u8s (S0 k es.toNat)), cb (decide (es ≠ 0)) 5, kb (decide (es ≠ 0)) (S1 k es.toNat), none, none, none, none, some (cC (.ptr 11 0) 0), some (u8s (S0 r (grl l / 64).toNat)), cb (decide ((grl l / 64) ≠ 0)) 13, kb (decide ((grl l / 64) ≠ 0)) (S1 r (grl l / 64).toNat), some (u8s ([] : List UInt8))]
      rcases Nat.mod_two_eq_zero_or_one (N / 64).toNat with he | he
      · exact (Good.emp (chopen_n0_bad k r hash es (grl l / 64) sent (grl l) (decide (0 < l.length)) wg wb hk hr hh fr f N hf (by omega) (by omega) hN hn' hw hq hle he (slot0 hle' h1' he) hop) 1).ren' [(0, true), (1, true), (2, true), (3, true), (4, true), (5, true), (6, false), (7, false), (8, false), (9, false), (6, true), (7, true), (8, true), (9, true), (10, true)] (rlT rfl (chC_map rfl rfl rfl rfl rfl) (rlT rfl rfl (rlT rfl rfl (rlT rfl sees_m (rlB rfl (cb_map rfl) (rlB rfl kb_map (rlF (rlF (rlF (rlF (rlT rfl rfl (rlT rfl sees_m (rlB rfl (cb_map rfl) (rlB rfl kb_map (rlT rfl rfl rl0)))))))))))))))
      · exact (Good.emp (chopen_n1_bad k r hash es (grl l / 64) sent (grl l) (decide (0 < l.length)) wg wb hk hr hh fr f N hf (by omega) (by omega) hN hn' hw hq hle he (ne_zero_of he hle') (slot1 hle' h1' he) hop) 1).ren' [(0, true), (1, true), (2, true), (3, true), (4, true), (5, true), (6, false), (7, false), (8, false), (9, false), (6, true), (7, true), (8, true), (9, true), (10, true)] (rlT rfl (chC_map rfl rfl rfl rfl rfl) (rlT rfl rfl (rlT rfl rfl (rlT rfl sees_m (rlB rfl (cb_map rfl) (rlB rfl kb_map (rlF (rlF (rlF (rlF (rlT rfl rfl (rlT rfl sees_m (rlB rfl (cb_map rfl) (rlB rfl kb_map (rlT rfl rfl rl0)))))))))))))))
    | some p =>
      have e : op19 r hash l fr = (p, N, 0, l ++ [N]) := by unfold op19; rw [if_neg (by rw [hf]; exact h1), if_neg (by rw [hf]; exact h2), if_neg h3, if_neg h4, if_neg h5, if_neg h6, hR, hop]
      rw [e]
      show Good _ _ _ _ (.t [.c (.slc 14 0 p.length 1), .c (c64 N), .c (cn 0)]) [some (chC es (grl (l ++ [N]) / 64) 2 (decide (es ≠ 0)) 4 10 (decide ((grl (l ++ [N]) / 64) ≠ 0)) 12 sent 1 (grl (l ++ [N])) (decide (0 < (l ++ [N]).length)) hash), some (wcs true (wnext true wg wb N).1 (wnext true wg wb N).2), some (cC (.ptr 3 0) 0), some (u8s (S0 k es.toNat)), cb (decide (es ≠ 0)) 5, kb (decide (es ≠ 0)) (S1 k es.toNat), none, none, none, none, some (cC (.ptr 11 0) 0), some (u8s (S0 r (grl (l ++ [N]) / 64).toNat)), cb (decide ((grl (l ++ [N]) / 64) ≠ 0)) 13, kb (decide ((grl (l ++ [N]) / 64) ≠ 0)) (S1 r (grl (l ++ [N]) / 64).toNat), some (u8s p)]
      rw [eE, grl_app, show decide (0 < (l ++ [N]).length) = true by simp]
      rcases Nat.mod_two_eq_zero_or_one (N / 64).toNat with he | he
      · exact (chopen_n0_ok k r hash es (grl l / 64) sent (grl l) (decide (0 < l.length)) wg wb hk hr hh fr f N hf (by omega) (by omega) hN hn' hw hq hle he (slot0 hle' h1' he) p hop).ren' [(0, true), (1, true), (2, true), (3, true), (4, true), (5, true), (6, false), (7, false), (8, false), (9, false), (6, true), (7, true), (8, true), (9, true), (10, true)] (rlT rfl (chC_map rfl rfl rfl rfl rfl) (rlT rfl rfl (rlT rfl rfl (rlT rfl sees_m (rlB rfl (cb_map rfl) (rlB rfl kb_map (rlF (rlF (rlF (rlF (rlT rfl rfl (rlT rfl sees_m (rlB rfl (cb_map rfl) (rlB rfl kb_map (rlT rfl sees_m rl0)))))))))))))))
      · exact (chopen_n1_ok k r hash es (grl l / 64) sent (grl l) (decide (0 < l.length)) wg wb hk hr hh fr f N hf (by omega) (by omega) hN hn' hw hq hle he (ne_zero_of he hle') (slot1 hle' h1' he) p hop).ren' [(0, true), (1, true), (2, true), (3, true), (4, true), (5, true), (6, false), (7, false), (8, false), (9, false), (6, true), (7, true), (8, true), (9, true), (10, true)] (rlT rfl (chC_map rfl rfl rfl rfl rfl) (rlT rfl rfl (rlT rfl rfl (rlT rfl sees_m (rlB rfl (cb_map rfl) (rlB rfl kb_map (rlF (rlF (rlF (rlF (rlT rfl rfl (rlT rfl sees_m (rlB rfl (cb_map rfl) (rlB rfl kb_map (rlT rfl sees_m rl0)))))))))))))))
  · have hle' := hle
    rw [UInt64.le_iff_toNat_le] at hle'
    have eE : grl (l ++ [N]) / 64 = N / 64 := by
      rw [grl_app]; unfold mx; rw [if_pos (by rw [UInt64.lt_iff_toNat_lt]; omega)]
    cases hop : aopen (kE r (N / 64).toNat) (anonce N) hash (fr.drop 8) with
    | none =>
      have e : op19 r hash l fr = ([], 0, 8, l) := by unfold op19; rw [if_neg (by rw [hf]; exact h1), if_neg (by rw [hf]; exact h2), if_neg h3, if_neg h4, if_neg h5, if_neg h6, hR, hop]
      rw [e]
      show Good _ _ _ _ (.t [.c (.slc 14 0 ([] : List UInt8).length 1), .c (c64 0), .c (cn 8)]) [some (chC es (grl l / 64) 2 (decide (es ≠ 0)) 4 10 (decide ((grl l / 64) ≠ 0)) 12 sent 1 (grl l) (decide (0 < l.length)) hash), some (wcs true wg wb), some (cC (.ptr 3 0) 0), some (u8s (S0 k es.toNat)), cb (decide (es ≠ 0)) 5, kb (decide (es ≠ 0)) (S1 k es.toNat), none, none, none, none, some (cC (.ptr 11 0) 0), some (u8s (S0 r (grl l / 64).toNat)), cb (decide ((grl l / 64) ≠ 0)) 13, kb (decide ((grl l / 64) ≠ 0)) (S1 r (grl l / 64).toNat), some (u8s ([] : List UInt8))]
      rcases Nat.mod_two_eq_zero_or_one (grl l / 64).toNat with he | he
      · exact (Good.emp (chopen_m0_bad k r hash es (grl l / 64) sent (grl l) (decide (0 < l.length)) wg wb hk hr hh fr f N hf (by omega) (by omega) hN hn' hw hq hle he hop) 1).ren' [(0, true), (1, true), (2, true), (3, true), (4, true), (5, true), (6, false), (7, false), (8, false), (9, false), (6, true), (7, true), (8, true), (9, true), (10, true)] (rlT rfl (chC_map rfl rfl rfl rfl rfl) (rlT rfl rfl (rlT rfl rfl (rlT rfl sees_m (rlB rfl (cb_map rfl) (rlB rfl kb_map (rlF (rlF (rlF (rlF (rlT rfl rfl (rlT rfl sees_m (rlB rfl (cb_map rfl) (rlB rfl kb_map (rlT rfl rfl rl0)))))))))))))))
      · exact (Good.emp (chopen_m1_bad k r hash es (grl l / 64) sent (grl l) (decide (0 < l.length)) wg wb hk hr hh fr f N hf (by omega) (by omega) hN hn' hw hq hle he hop) 1).ren' [(0, true), (1, true), (2, true), (3, true), (4, true), (5, true), (6, false), (7, false), (8, false), (9, false), (6, true), (7, true), (8, true), (9, true), (10, true)] (rlT rfl (chC_map rfl rfl rfl rfl rfl) (rlT rfl rfl (rlT rfl rfl (rlT rfl sees_m (rlB rfl (cb_map rfl) (rlB rfl kb_map (rlF (rlF (rlF (rlF (rlT rfl rfl (rlT rfl sees_m (rlB rfl (cb_map rfl) (rlB rfl kb_map (rlT rfl rfl rl0)))))))))))))))
    | some p =>
      have e : op19 r hash l fr = (p, N, 0, l ++ [N]) := by unfold op19; rw [if_neg (by rw [hf]; exact h1), if_neg (by rw [hf]; exact h2), if_neg h3, if_neg h4, if_neg h5, if_neg h6, hR, hop]
      rw [e]
      show Good _ _ _ _ (.t [.c (.slc 14 0 p.length 1), .c (c64 N), .c (cn 0)]) [some (chC es (grl (l ++ [N]) / 64) 2 (decide (es ≠ 0)) 4 10 (decide ((grl (l ++ [N]) / 64) ≠ 0)) 12 sent 1 (grl (l ++ [N])) (decide (0 < (l ++ [N]).length)) hash), some (wcs true (wnext true wg wb N).1 (wnext true wg wb N).2), some (cC (.ptr 3 0) 0), some (u8s (S0 k es.toNat)), cb (decide (es ≠ 0)) 5, kb (decide (es ≠ 0)) (S1 k es.toNat), none, none, none, none, some (cC (.ptr 11 0) 0), some (u8s (S0 r (grl (l ++ [N]) / 64).toNat)), cb (decide ((grl (l ++ [N]) / 64) ≠ 0)) 13, kb (decide ((grl (l ++ [N]) / 64) ≠ 0)) (S1 r (grl (l ++ [N]) / 64).toNat), some (u8s p)]
      rw [eE, grl_app, show decide (0 < (l ++ [N]).length) = true by simp]
      rcases Nat.mod_two_eq_zero_or_one (grl l / 64).toNat with he | he
      · exact chopen_m0_ok k r hash es (grl l / 64) sent (grl l) (decide (0 < l.length)) wg wb hk hr hh fr f N hf (by omega) (by omega) hN hn' hw hq hle he p hop
      · exact chopen_m1_ok k r hash es (grl l / 64) sent (grl l) (decide (0 < l.length)) wg wb hk hr hh fr f N hf (by omega) (by omega) hN hn' hw hq hle he p hop
set_option maxHeartbeats 1600000 in
theorem chopen_e (k r hash : List UInt8) (es sent : UInt64) (l : List UInt64) (wg wb : UInt64) (hk : k.length = 32) (hr : r.length = 32) (hh : hash.length = 32) (I : Inv l wg wb) (hM : ∀ x ∈ l, x.toNat ≤ 281474976710655) (fr : List UInt8) (f : Nat) (hf : fr.length = f) (hz : (op19 r hash l fr).2.2.1 ≠ 0) : Good Try.prog 11 [.c (.ptr 0 0), .c (.ro f (u8s fr))] [some (chC es (grl l / 64) 2 (decide (es ≠ 0)) 4 6 (decide ((grl l / 64) ≠ 0)) 8 sent 1 (grl l) (decide (0 < l.length)) hash), some (wcs true wg wb), some (cC (.ptr 3 0) 0), some (u8s (S0 k es.toNat)), cb (decide (es ≠ 0)) 5, kb (decide (es ≠ 0)) (S1 k es.toNat), some (cC (.ptr 7 0) 0), some (u8s (S0 r (grl l / 64).toNat)), cb (decide ((grl l / 64) ≠ 0)) 9, kb (decide ((grl l / 64) ≠ 0)) (S1 r (grl l / 64).toNat)] (.t [.c .nils, .c (c64 0), .c (cn (op19 r hash l fr).2.2.1)]) [some (chC es (grl l / 64) 2 (decide (es ≠ 0)) 4 6 (decide ((grl l / 64) ≠ 0)) 8 sent 1 (grl l) (decide (0 < l.length)) hash), some (wcs true wg wb), some (cC (.ptr 3 0) 0), some (u8s (S0 k es.toNat)), cb (decide (es ≠ 0)) 5, kb (decide (es ≠ 0)) (S1 k es.toNat), some (cC (.ptr 7 0) 0), some (u8s (S0 r (grl l / 64).toNat)), cb (decide ((grl l / 64) ≠ 0)) 9, kb (decide ((grl l / 64) ≠ 0)) (S1 r (grl l / 64).toNat)] := by
  by_cases h1 : 4120 < f
  · have e : op19 r hash l fr = ([], 0, 3, l) := by unfold op19; rw [if_pos (by rw [hf]; exact h1)]
    rw [e]
    exact chopen_long k r hash es (grl l / 64) sent (grl l) (decide (0 < l.length)) wg wb hk hr hh fr f h1
  by_cases h2 : f < 24
  · have e : op19 r hash l fr = ([], 0, 4, l) := by unfold op19; rw [if_neg (by rw [hf]; exact h1), if_pos (by rw [hf]; exact h2)]
    rw [e]
    exact chopen_short k r hash es (grl l / 64) sent (grl l) (decide (0 < l.length)) wg wb hk hr hh fr f h2
  obtain ⟨N, hN⟩ : ∃ z, gt (fr.take 8) = z := ⟨_, rfl⟩
  have hR : rg (fr.take 8) = N := by rw [← gt_rg]; exact hN
  by_cases h3 : 281474976710656 ≤ rg (fr.take 8)
  · have e : op19 r hash l fr = ([], 0, 4, l) := by unfold op19; rw [if_neg (by rw [hf]; exact h1), if_neg (by rw [hf]; exact h2), if_pos h3]
    rw [e]
    exact chopen_far k r hash es (grl l / 64) sent (grl l) (decide (0 < l.length)) wg wb hk hr hh fr f N hf (by omega) (by omega) hN (by rw [← hR, UInt64.lt_iff_toNat_lt, show (281474976710655 : UInt64).toNat = 281474976710655 from rfl]; rw [UInt64.le_iff_toNat_le, show (281474976710656 : UInt64).toNat = 281474976710656 from rfl] at h3; omega)
  have hn : N.toNat ≤ 281474976710655 := by rw [UInt64.le_iff_toNat_le, show (281474976710656 : UInt64).toNat = 281474976710656 from rfl, hR] at h3; omega
  have hn' : ¬ 281474976710655 < N := by rw [UInt64.lt_iff_toNat_lt, show (281474976710655 : UInt64).toNat = 281474976710655 from rfl]; omega
  have hc := (chk_inv I N).1
  by_cases h4 : rg (fr.take 8) ∈ l
  · have e : op19 r hash l fr = ([], 0, 10, l) := by unfold op19; rw [if_neg (by rw [hf]; exact h1), if_neg (by rw [hf]; exact h2), if_neg h3, if_pos h4]
    rw [e]
    exact chopen_old k r hash es (grl l / 64) sent (grl l) (decide (0 < l.length)) wg wb hk hr hh fr f N hf (by omega) (by omega) hN hn' 10 (hc.trans (rchk_10 hM hn ((.inl (hR ▸ h4))))) (by decide)
  by_cases h5 : 0 < l.length ∧ rg (fr.take 8) + 64 ≤ grl l
  · have e : op19 r hash l fr = ([], 0, 10, l) := by unfold op19; rw [if_neg (by rw [hf]; exact h1), if_neg (by rw [hf]; exact h2), if_neg h3, if_neg h4, if_pos h5]
    rw [e]
    exact chopen_old k r hash es (grl l / 64) sent (grl l) (decide (0 < l.length)) wg wb hk hr hh fr f N hf (by omega) (by omega) hN hn' 10 (hc.trans (rchk_10 hM hn ((.inr (hR ▸ h5))))) (by decide)
  have hw := hc.trans (rchk_0 hM hn (hR ▸ h4) (hR ▸ h5))
  by_cases h6 : grl l / 64 + 16 < rg (fr.take 8) / 64
  · have e : op19 r hash l fr = ([], 0, 9, l) := by unfold op19; rw [if_neg (by rw [hf]; exact h1), if_neg (by rw [hf]; exact h2), if_neg h3, if_neg h4, if_neg h5, if_pos h6]
    rw [e]
    exact chopen_seq k r hash es (grl l / 64) sent (grl l) (decide (0 < l.length)) wg wb hk hr hh fr f N hf (by omega) (by omega) hN hn' hw (hR ▸ h6)
  have hq : ¬ grl l / 64 + 16 < N / 64 := hR ▸ h6
  have hg9 := grl_le hM
  have hdE := d64 (grl l)
  have hdN := d64 N
  by_cases hle : N / 64 ≤ grl l / 64
  · have hle' := hle
    rw [UInt64.le_iff_toNat_le] at hle'
    have h1' : (grl l / 64).toNat ≤ (N / 64).toNat + 1 := by
      by_cases hp : 0 < l.length
      · have h7 : ¬ N + 64 ≤ grl l := fun h => h5 ⟨hp, hR ▸ h⟩
        rw [UInt64.le_iff_toNat_le, UInt64.toNat_add, show (64 : UInt64).toNat = 64 from rfl, Nat.mod_eq_of_lt (by omega)] at h7
        omega
      · rw [show l = [] from List.eq_nil_of_length_eq_zero (by omega)] at hdE ⊢; rw [hdE]; exact Nat.zero_le _
    have eE : grl (l ++ [N]) / 64 = grl l / 64 := by
      rw [grl_app]; unfold mx; split
      · rename_i hx; rw [UInt64.lt_iff_toNat_lt] at hx; apply UInt64.toNat_inj.1; omega
      · rfl
    cases hop : aopen (kE r (N / 64).toNat) (anonce N) hash (fr.drop 8) with
    | none =>
      have e : op19 r hash l fr = ([], 0, 8, l) := by unfold op19; rw [if_neg (by rw [hf]; exact h1), if_neg (by rw [hf]; exact h2), if_neg h3, if_neg h4, if_neg h5, if_neg h6, hR, hop]
      rw [e]
      skip
      rcases Nat.mod_two_eq_zero_or_one (N / 64).toNat with he | he
      · exact chopen_n0_bad k r hash es (grl l / 64) sent (grl l) (decide (0 < l.length)) wg wb hk hr hh fr f N hf (by omega) (by omega) hN hn' hw hq hle he (slot0 hle' h1' he) hop
      · exact chopen_n1_bad k r hash es (grl l / 64) sent (grl l) (decide (0 < l.length)) wg wb hk hr hh fr f N hf (by omega) (by omega) hN hn' hw hq hle he (ne_zero_of he hle') (slot1 hle' h1' he) hop
    | some p =>
      exact absurd (by unfold op19; rw [if_neg (by rw [hf]; exact h1), if_neg (by rw [hf]; exact h2), if_neg h3, if_neg h4, if_neg h5, if_neg h6, hR, hop]) hz
  · have hle' := hle
    rw [UInt64.le_iff_toNat_le] at hle'
    have eE : grl (l ++ [N]) / 64 = N / 64 := by
      rw [grl_app]; unfold mx; rw [if_pos (by rw [UInt64.lt_iff_toNat_lt]; omega)]
    cases hop : aopen (kE r (N / 64).toNat) (anonce N) hash (fr.drop 8) with
    | none =>
      have e : op19 r hash l fr = ([], 0, 8, l) := by unfold op19; rw [if_neg (by rw [hf]; exact h1), if_neg (by rw [hf]; exact h2), if_neg h3, if_neg h4, if_neg h5, if_neg h6, hR, hop]
      rw [e]
      skip
      rcases Nat.mod_two_eq_zero_or_one (grl l / 64).toNat with he | he
      · exact chopen_m0_bad k r hash es (grl l / 64) sent (grl l) (decide (0 < l.length)) wg wb hk hr hh fr f N hf (by omega) (by omega) hN hn' hw hq hle he hop
      · exact chopen_m1_bad k r hash es (grl l / 64) sent (grl l) (decide (0 < l.length)) wg wb hk hr hh fr f N hf (by omega) (by omega) hN hn' hw hq hle he hop
    | some p =>
      exact absurd (by unfold op19; rw [if_neg (by rw [hf]; exact h1), if_neg (by rw [hf]; exact h2), if_neg h3, if_neg h4, if_neg h5, if_neg h6, hR, hop]) hz
theorem chseal_u (k r hash : List UInt8) (es er sent g : UInt64) (any : Bool) (wg wb : UInt64) (hk : k.length = 32) (hr : r.length = 32) (hh : hash.length = 32) (c : List UInt8) (n : Nat) (hc : c.length = n) (hn : n ≤ 4096) (hs : ¬ 281474976710655 < sent) (hm : es ≤ sent / 64) : Good Try.prog 10 [.c (.ptr 0 0), .c (.ro n (u8s c))] [some (chC es er 2 (decide (es ≠ 0)) 4 6 (decide (er ≠ 0)) 8 sent 1 g any hash), some (wcs true wg wb), some (cC (.ptr 3 0) 0), some (u8s (S0 k es.toNat)), cb (decide (es ≠ 0)) 5, kb (decide (es ≠ 0)) (S1 k es.toNat), some (cC (.ptr 7 0) 0), some (u8s (S0 r er.toNat)), cb (decide (er ≠ 0)) 9, kb (decide (er ≠ 0)) (S1 r er.toNat)] (.t [.c (.slc 14 0 (8 + (n + 16)) 1), .c (cn 0)]) [some (chC (sent / 64) er 10 (decide ((sent / 64) ≠ 0)) 12 6 (decide (er ≠ 0)) 8 (sent + 1) 1 g any hash), some (wcs true wg wb), none, none, none, none, some (cC (.ptr 7 0) 0), some (u8s (S0 r er.toNat)), cb (decide (er ≠ 0)) 9, kb (decide (er ≠ 0)) (S1 r er.toNat), some (cC (.ptr 11 0) 0), some (u8s (S0 k (sent / 64).toNat)), cb (decide ((sent / 64) ≠ 0)) 13, kb (decide ((sent / 64) ≠ 0)) (S1 k (sent / 64).toNat), some (u8s (fr19 k hash sent c))] := by
  have hm' : mx es (sent / 64) = sent / 64 := by
    unfold mx; split
    · rfl
    · rename_i h; rw [UInt64.lt_iff_toNat_lt] at h; rw [UInt64.le_iff_toNat_le] at hm; exact UInt64.toNat_inj.1 (by omega)
  rcases Nat.mod_two_eq_zero_or_one (sent / 64).toNat with he | he
  · exact chseal_m0 k r hash es er sent g any wg wb hk hr hh c n hc hn hs hm' he
  · have hg := chseal_m1 k r hash es er sent g any wg wb hk hr hh c n hc hn hs hm' he
    rw [ne_zero_odd he]; exact hg
end Go.Proofs.Ytklcckngmmklhaa

/- What functions of the program do, walked over the abstract machine. -/
namespace Go.Proofs.Ytklcckngmmklhaa
open Go Go.Abs Go.Proofs Go.Proofs.Ytklcckngmmklhaa.Ch Go.Proofs.Ytklcckngmmklhaa.Po Go.Proofs.Ytklcckngmmklhaa.Ae Go.Proofs.Ytklcckngmmklhaa.Wd
set_option maxRecDepth 20000
theorem ch0_map {es er sent g : UInt64} {p0 p1 q0 q1 w p0' p1' q0' q1' w' d : Nat} {any : Bool} {hash : List UInt8} {m : CM} (a : m.fp p0 = some p0') (c : m.fp q0 = some q0') (f : m.fp w = some w') :
    (chC es er p0 false p1 q0 false q1 sent w g any hash).map (cm m (d + 1)) = chC es er p0' false p1' q0' false q1' sent w' g any hash := by
  show cm m (d + 1) (c64 es) :: cm m (d + 1) (.ptr p0 0) :: .nilp :: cm m (d + 1) (c64 er) :: cm m (d + 1) (.ptr q0 0) :: .nilp :: cm m (d + 1) (c64 sent) :: cm m (d + 1) (.ptr w 0) :: cm m (d + 1) (c64 g) :: cm m (d + 1) (.bool any) :: (u8s hash).map (cm m (d + 1)) = _
  rw [pt_cmm a, pt_cmm c, pt_cmm f, mapc_cm]; rfl
theorem two0 (a b hash : List UInt8) (ha : a.length = 32) (hb : b.length = 32) (hh : hash.length = 32) : Good Try.prog 9 [.a (u8s a), .a (u8s b), .a (u8s hash)] [] (.t [.c (.ptr 0 0), .c (.ptr 6 0)]) [some (chC 0 0 2 false 0 4 false 0 0 1 0 false hash), some (wcs true 0 0), some (cC (.ptr 3 0) 0), some (u8s a), some (cC (.ptr 5 0) 0), some (u8s b), some (chC 0 0 8 false 0 10 false 0 0 7 0 false hash), some (wcs true 0 0), some (cC (.ptr 9 0) 0), some (u8s b), some (cC (.ptr 11 0) 0), some (u8s a)] := by
  refine good_frm 20 Try.func9 rfl rfl rfl rfl rfl rfl ?_
  refine awp_seq ?_
  refine rln ?_
  refine G2 (fun _ k_ => q_boxa k_) ?_
  refine G2 (fun _ k_ => q_boxa k_) ?_
  refine G2 (fun _ k_ => q_boxa k_) ?_
  refine As ?_
  refine As ?_
  refine gend ?_
  refine awp_seq ?_
  refine rdln [1, 3, 5, 7, 9, 11] [0, 0, 0, 1, 0, 2, 0, 3, 0, 4, 0, 5, 6, 6] [0, 1, 1, 2, 2, 3, 3, 4, 4, 5, 5, 6, 6, 6] ?_
  refine DLw ?_
  refine De2 (fun _ k_ => q_callv [] [] [some (u8s a), some (cC (.ptr 0 0) 0)] (new_ a ha) k_ (ha := (caa (et rfl) sees_m ca0)) (e2 := pl0) (eL := ml0) (eM := (ml1 sees_m (ml1 rfl ml0)))) ?_
  refine DLw ?_
  refine De2 (fun _ k_ => q_callv [] [] [some (u8s b), some (cC (.ptr 0 0) 0)] (new_ b hb) k_ (ha := (caa (et rfl) sees_m ca0)) (e2 := pl0) (eL := ml0) (eM := (ml1 sees_m (ml1 rfl ml0)))) ?_
  refine DLw ?_
  refine De2 (fun _ k_ => q_callv [4, 3, 6, 5] [some (cC (.ptr 1 0) 0), some (u8s a), some (cC (.ptr 3 0) 0), some (u8s b)] [some (chC 0 0 6 false 0 7 false 0 0 5 0 false hash), some (wcs true 0 0), some (cC (.ptr 1 0) 0), some (cC (.ptr 3 0) 0)] (cnew_ a b hash ha hb hh) k_ (ha := (cac (et rfl) rfl (cac (et rfl) rfl (caa (et rfl) sees_m ca0)))) (e2 := (pl1 rfl rfl (pl1 rfl sees_m (pl1 rfl rfl (pl1 rfl sees_m pl0))))) (eL := (ml1 rfl (ml1 sees_m (ml1 rfl (ml1 sees_m ml0))))) (eM := (ml1 (ch0_map (p1' := 0) (q1' := 0) rfl rfl rfl) (ml1 rfl (ml1 rfl (ml1 rfl ml0)))))) ?_
  refine DLw ?_
  refine De2 (fun _ k_ => q_callv [] [] [some (u8s b), some (cC (.ptr 0 0) 0)] (new_ b hb) k_ (ha := (caa (et rfl) sees_m ca0)) (e2 := pl0) (eL := ml0) (eM := (ml1 sees_m (ml1 rfl ml0)))) ?_
  refine DLw ?_
  refine De2 (fun _ k_ => q_callv [] [] [some (u8s a), some (cC (.ptr 0 0) 0)] (new_ a ha) k_ (ha := (caa (et rfl) sees_m ca0)) (e2 := pl0) (eL := ml0) (eM := (ml1 sees_m (ml1 rfl ml0)))) ?_
  refine DLw ?_
  refine De2 (fun _ k_ => q_callv [12, 11, 14, 13] [some (cC (.ptr 1 0) 0), some (u8s b), some (cC (.ptr 3 0) 0), some (u8s a)] [some (chC 0 0 6 false 0 7 false 0 0 5 0 false hash), some (wcs true 0 0), some (cC (.ptr 1 0) 0), some (cC (.ptr 3 0) 0)] (cnew_ b a hash hb ha hh) k_ (ha := (cac (et rfl) rfl (cac (et rfl) rfl (caa (et rfl) sees_m ca0)))) (e2 := (pl1 rfl rfl (pl1 rfl sees_m (pl1 rfl rfl (pl1 rfl sees_m pl0))))) (eL := (ml1 rfl (ml1 sees_m (ml1 rfl (ml1 sees_m ml0))))) (eM := (ml1 (ch0_map (p1' := 0) (q1' := 0) rfl rfl rfl) (ml1 rfl (ml1 rfl (ml1 rfl ml0)))))) ?_
  refine Dp (fun _ => q_as (s := .v (.c _)) ⟨rfl, rfl⟩) ?_
  refine Dp (fun _ => q_as (s := .v (.c _)) ⟨rfl, rfl⟩) ?_
  refine dend ?_
  refine awp_ret ?_
  exact fx2 [7, 8, 9, 3, 10, 5, 15, 16, 17, 11, 18, 13] (hm0 := rfl) (hH := (pl1 rfl (ch0_map rfl rfl rfl) (pl1 rfl rfl (pl1 rfl rfl (pl1 rfl sees_m (pl1 rfl rfl (pl1 rfl sees_m (pl1 rfl (ch0_map rfl rfl rfl) (pl1 rfl rfl (pl1 rfl rfl (pl1 rfl sees_m (pl1 rfl rfl (pl1 rfl sees_m pl0))))))))))))) (hn := (fun p h => absurd h (Nat.not_lt_zero _)))
theorem two_ (a b hash : List UInt8) (ha : a.length = 32) (hb : b.length = 32) (hh : hash.length = 32) : Good Try.prog 9 [.a (u8s a), .a (u8s b), .a (u8s hash)] [] (.t [.c (.ptr 0 0), .c (.ptr 10 0)]) [some (chC (0 : UInt64) (grl [] / 64) 2 (decide ((0 : UInt64) ≠ 0)) 4 6 (decide ((grl [] / 64) ≠ 0)) 8 (0 : UInt64) 1 (grl []) (decide (0 < ([] : List UInt64).length)) hash), some (wcs true 0 0), some (cC (.ptr 3 0) 0), some (u8s (S0 a (0 : UInt64).toNat)), cb (decide ((0 : UInt64) ≠ 0)) 5, kb (decide ((0 : UInt64) ≠ 0)) (S1 a (0 : UInt64).toNat), some (cC (.ptr 7 0) 0), some (u8s (S0 b (grl [] / 64).toNat)), cb (decide ((grl [] / 64) ≠ 0)) 9, kb (decide ((grl [] / 64) ≠ 0)) (S1 b (grl [] / 64).toNat), some (chC (0 : UInt64) (grl [] / 64) 12 (decide ((0 : UInt64) ≠ 0)) 14 16 (decide ((grl [] / 64) ≠ 0)) 18 (0 : UInt64) 11 (grl []) (decide (0 < ([] : List UInt64).length)) hash), some (wcs true 0 0), some (cC (.ptr 13 0) 0), some (u8s (S0 b (0 : UInt64).toNat)), cb (decide ((0 : UInt64) ≠ 0)) 15, kb (decide ((0 : UInt64) ≠ 0)) (S1 b (0 : UInt64).toNat), some (cC (.ptr 17 0) 0), some (u8s (S0 a (grl [] / 64).toNat)), cb (decide ((grl [] / 64) ≠ 0)) 19, kb (decide ((grl [] / 64) ≠ 0)) (S1 a (grl [] / 64).toNat)] :=
  (two0 a b hash ha hb hh).ren' [(0, true), (1, true), (2, true), (3, true), (0, false), (0, false), (4, true), (5, true), (0, false), (0, false), (6, true), (7, true), (8, true), (9, true), (0, false), (0, false), (10, true), (11, true), (0, false), (0, false)] (rlT rfl (ch0_map rfl rfl rfl) (rlT rfl rfl (rlT rfl rfl (rlT rfl sees_m (rlF (rlF (rlT rfl rfl (rlT rfl sees_m (rlF (rlF (rlT rfl (ch0_map rfl rfl rfl) (rlT rfl rfl (rlT rfl rfl (rlT rfl sees_m (rlF (rlF (rlT rfl rfl (rlT rfl sees_m (rlF (rlF rl0))))))))))))))))))))
end Go.Proofs.Ytklcckngmmklhaa

/- What functions of the program do, walked over the abstract machine. -/
namespace Go.Proofs.Ytklcckngmmklhaa
open Go Go.Abs Go.Proofs Go.Proofs.Ytklcckngmmklhaa.Ch Go.Proofs.Ytklcckngmmklhaa.Po Go.Proofs.Ytklcckngmmklhaa.Ae Go.Proofs.Ytklcckngmmklhaa.Wd
set_option maxRecDepth 20000
theorem rg_app (l : List UInt8) (c : UInt8) : rg (l ++ [c]) = rg l * 256 + c.toUInt64 := by simp [rg]
theorem fbl_rg (n : UInt64) : ∀ j, j ≤ 8 → (rg (fbl n j)).toNat = n.toNat / 2 ^ (64 - 8 * j)
  | 0, _ => by
    have := n.toNat_lt
    show 0 = _
    rw [Nat.div_eq_of_lt (by simpa using this)]
  | j + 1, h => by
    have ih := fbl_rg n j (by omega)
    have hn := n.toNat_lt
    rw [fbl, rg_app, UInt64.toNat_add, UInt64.toNat_mul, ih, UInt8.toNat_toUInt64, UInt64.toNat_toUInt8, show (256 : UInt64).toNat = 256 from rfl]
    rw [show (UInt64.ofNat (8 * (7 - j))).toNat = 8 * (7 - j) by rw [UInt64.toNat_ofNat', Nat.mod_eq_of_lt (by omega)], shr_nat n _ (by omega)]
    match j, h with
    | 0, _ => simp only [show 64 - 8 * 0 = 64 from rfl, show 8 * (7 - 0) = 56 from rfl, show 64 - 8 * (0 + 1) = 56 from rfl]; omega
    | 1, _ => simp only [show 64 - 8 * 1 = 56 from rfl, show 8 * (7 - 1) = 48 from rfl, show 64 - 8 * (1 + 1) = 48 from rfl]; omega
    | 2, _ => simp only [show 64 - 8 * 2 = 48 from rfl, show 8 * (7 - 2) = 40 from rfl, show 64 - 8 * (2 + 1) = 40 from rfl]; omega
    | 3, _ => simp only [show 64 - 8 * 3 = 40 from rfl, show 8 * (7 - 3) = 32 from rfl, show 64 - 8 * (3 + 1) = 32 from rfl]; omega
    | 4, _ => simp only [show 64 - 8 * 4 = 32 from rfl, show 8 * (7 - 4) = 24 from rfl, show 64 - 8 * (4 + 1) = 24 from rfl]; omega
    | 5, _ => simp only [show 64 - 8 * 5 = 24 from rfl, show 8 * (7 - 5) = 16 from rfl, show 64 - 8 * (5 + 1) = 16 from rfl]; omega
    | 6, _ => simp only [show 64 - 8 * 6 = 16 from rfl, show 8 * (7 - 6) = 8 from rfl, show 64 - 8 * (6 + 1) = 8 from rfl]; omega
    | 7, _ => simp only [show 64 - 8 * 7 = 8 from rfl, show 8 * (7 - 7) = 0 from rfl, show 64 - 8 * (7 + 1) = 0 from rfl]; omega
theorem rg_fbl (n : UInt64) : rg (fbl n 8) = n := by
  apply UInt64.toNat_inj.1
  rw [fbl_rg n 8 (Nat.le_refl _)]; simp
theorem fr19_take (s h c : List UInt8) (n : UInt64) : rg ((fr19 s h n c).take 8) = n := by
  rw [fr19, List.take_left' (fbl_len n 8), rg_fbl]
theorem fr19_drop (s h c : List UInt8) (n : UInt64) : (fr19 s h n c).drop 8 = aseal (kE s (n / 64).toNat) (anonce n) h c := by
  rw [fr19, List.drop_left' (fbl_len n 8)]
theorem op19_fr {r h c : List UInt8} {l : List UInt64} {n : UInt64} (hc : c.length ≤ 4096) (hn : n.toNat ≤ 281474976710655) (h1 : n ∉ l) (h2 : ¬ (0 < l.length ∧ n + 64 ≤ grl l)) (h3 : ¬ grl l / 64 + 16 < n / 64) : op19 r h l (fr19 r h n c) = (c, n, 0, l ++ [n]) := by
  unfold op19
  rw [fr19_take, fr19_drop, fr19_len, if_neg (by omega), if_neg (by omega), if_neg (by rw [UInt64.le_iff_toNat_le, show (281474976710656 : UInt64).toNat = 281474976710656 from rfl]; omega), if_neg h1, if_neg h2, if_neg h3, aopen_aseal]
theorem op19_rep {r s h c : List UInt8} {l : List UInt64} {n : UInt64} (hc : c.length ≤ 4096) (hn : n.toNat ≤ 281474976710655) (h1 : n ∈ l ∨ (0 < l.length ∧ n + 64 ≤ grl l)) : op19 r h l (fr19 s h n c) = ([], 0, 10, l) := by
  unfold op19
  rw [fr19_take, fr19_len, if_neg (by omega), if_neg (by omega), if_neg (by rw [UInt64.le_iff_toNat_le, show (281474976710656 : UInt64).toNat = 281474976710656 from rfl]; omega)]
  by_cases h : n ∈ l
  · rw [if_pos h]
  · rw [if_neg h, if_pos (h1.resolve_left h)]
theorem key1 {K : List UInt8} {x : UInt8} (h : (x :: List.replicate 31 0 : List UInt8) = K) {m : CM} {d : Nat} : ((u8s (List.replicate 32 0)).set (0 * 1) (c8 x)).map (cm m d) = u8s K := by
  subst h
  rw [show (u8s (List.replicate 32 0)).set (0 * 1) (c8 x) = u8s (x :: List.replicate 31 0) from rfl]
  exact sees_m
set_option maxHeartbeats 1600000 in
theorem known_ : Good Try.prog 8 [] [] (sc (.bool true)) [] := by
  obtain ⟨A, hA⟩ : ∃ z, (1 :: List.replicate 31 0 : List UInt8) = z := ⟨_, rfl⟩
  have hAl : A.length = 32 := by rw [← hA]; rfl
  obtain ⟨B, hB⟩ : ∃ z, (2 :: List.replicate 31 0 : List UInt8) = z := ⟨_, rfl⟩
  have hBl : B.length = 32 := by rw [← hB]; rfl
  obtain ⟨X, hX⟩ : ∃ z, (3 :: List.replicate 31 0 : List UInt8) = z := ⟨_, rfl⟩
  have hXl : X.length = 32 := by rw [← hX]; rfl
  have o1 : op19 A X [] (fr19 A X ((0 : UInt64) + 1) [121]) = ([121], (0 + 1), 0, [0 + 1]) := op19_fr (by decide) (by decide) (by decide) (by decide) (by decide)
  have o2 : op19 A X [0 + 1] (fr19 A X (0 : UInt64) [120]) = ([120], 0, 0, [0 + 1, 0]) := op19_fr (by decide) (by decide) (by decide) (by decide) (by decide)
  have o3 : op19 A X [0 + 1, 0] (fr19 A X (0 : UInt64) [120]) = ([], 0, 10, [0 + 1, 0]) := op19_rep (by decide) (by decide) (by decide)
  have hx := fr19_len (s := A) (h := X) (n := 0) (c := [120])
  have hy := fr19_len (s := A) (h := X) (n := 0 + 1) (c := [121])
  obtain ⟨x0, e0⟩ : ∃ z, (fr19 A X (0 : UInt64) [120]) = z := ⟨_, rfl⟩
  obtain ⟨y0, e1⟩ : ∃ z, (fr19 A X ((0 : UInt64) + 1) [121]) = z := ⟨_, rfl⟩
  rw [e0] at o2 o3 hx
  rw [e1] at o1 hy
  have I1 := op19_inv (r := A) (h := X) (fr := y0) inv_nil (fun _ h => absurd h List.not_mem_nil)
  rw [o1] at I1
  have I2 := op19_inv (r := A) (h := X) (fr := x0) I1.1 I1.2
  rw [o2] at I2
  have g1 : Good Try.prog 11 [.c (.ptr 0 0), .c (.ro 25 (u8s y0))] [some (chC (0 : UInt64) (grl [] / 64) 2 (decide ((0 : UInt64) ≠ 0)) 4 6 (decide ((grl [] / 64) ≠ 0)) 8 (0 : UInt64) 1 (grl []) (decide (0 < ([] : List UInt64).length)) X), some (wcs true 0 0), some (cC (.ptr 3 0) 0), some (u8s (S0 B (0 : UInt64).toNat)), cb (decide ((0 : UInt64) ≠ 0)) 5, kb (decide ((0 : UInt64) ≠ 0)) (S1 B (0 : UInt64).toNat), some (cC (.ptr 7 0) 0), some (u8s (S0 A (grl [] / 64).toNat)), cb (decide ((grl [] / 64) ≠ 0)) 9, kb (decide ((grl [] / 64) ≠ 0)) (S1 A (grl [] / 64).toNat)] (.t [.c (.slc 14 0 ([121] : List UInt8).length 1), .c (c64 (0 + 1)), .c (cn 0)]) [some (chC (0 : UInt64) (grl [0 + 1] / 64) 2 (decide ((0 : UInt64) ≠ 0)) 4 10 (decide ((grl [0 + 1] / 64) ≠ 0)) 12 (0 : UInt64) 1 (grl [0 + 1]) (decide (0 < ([0 + 1] : List UInt64).length)) X), some (wcs true (wn ([121], 0 + 1, 0, [0 + 1]) 0 0).1 (wn ([121], 0 + 1, 0, [0 + 1]) 0 0).2), some (cC (.ptr 3 0) 0), some (u8s (S0 B (0 : UInt64).toNat)), cb (decide ((0 : UInt64) ≠ 0)) 5, kb (decide ((0 : UInt64) ≠ 0)) (S1 B (0 : UInt64).toNat), none, none, none, none, some (cC (.ptr 11 0) 0), some (u8s (S0 A (grl [0 + 1] / 64).toNat)), cb (decide ((grl [0 + 1] / 64) ≠ 0)) 13, kb (decide ((grl [0 + 1] / 64) ≠ 0)) (S1 A (grl [0 + 1] / 64).toNat), some (u8s [121])] := by
    have h := chopen_u B A X (0 : UInt64) (0 : UInt64) [] 0 0 hBl hAl hXl inv_nil (fun _ h => absurd h List.not_mem_nil) y0 25 hy
    rw [o1] at h
    exact h
  have g2 : Good Try.prog 11 [.c (.ptr 0 0), .c (.ro 25 (u8s x0))] [some (chC (0 : UInt64) (grl [0 + 1] / 64) 2 (decide ((0 : UInt64) ≠ 0)) 4 6 (decide ((grl [0 + 1] / 64) ≠ 0)) 8 (0 : UInt64) 1 (grl [0 + 1]) (decide (0 < ([0 + 1] : List UInt64).length)) X), some (wcs true (wn ([121], 0 + 1, 0, [0 + 1]) 0 0).1 (wn ([121], 0 + 1, 0, [0 + 1]) 0 0).2), some (cC (.ptr 3 0) 0), some (u8s (S0 B (0 : UInt64).toNat)), cb (decide ((0 : UInt64) ≠ 0)) 5, kb (decide ((0 : UInt64) ≠ 0)) (S1 B (0 : UInt64).toNat), some (cC (.ptr 7 0) 0), some (u8s (S0 A (grl [0 + 1] / 64).toNat)), cb (decide ((grl [0 + 1] / 64) ≠ 0)) 9, kb (decide ((grl [0 + 1] / 64) ≠ 0)) (S1 A (grl [0 + 1] / 64).toNat)] (.t [.c (.slc 14 0 ([120] : List UInt8).length 1), .c (c64 0), .c (cn 0)]) [some (chC (0 : UInt64) (grl [0 + 1, 0] / 64) 2 (decide ((0 : UInt64) ≠ 0)) 4 10 (decide ((grl [0 + 1, 0] / 64) ≠ 0)) 12 (0 : UInt64) 1 (grl [0 + 1, 0]) (decide (0 < ([0 + 1, 0] : List UInt64).length)) X), some (wcs true (wn ([120], 0, 0, [0 + 1, 0]) (wn ([121], 0 + 1, 0, [0 + 1]) 0 0).1 (wn ([121], 0 + 1, 0, [0 + 1]) 0 0).2).1 (wn ([120], 0, 0, [0 + 1, 0]) (wn ([121], 0 + 1, 0, [0 + 1]) 0 0).1 (wn ([121], 0 + 1, 0, [0 + 1]) 0 0).2).2), some (cC (.ptr 3 0) 0), some (u8s (S0 B (0 : UInt64).toNat)), cb (decide ((0 : UInt64) ≠ 0)) 5, kb (decide ((0 : UInt64) ≠ 0)) (S1 B (0 : UInt64).toNat), none, none, none, none, some (cC (.ptr 11 0) 0), some (u8s (S0 A (grl [0 + 1, 0] / 64).toNat)), cb (decide ((grl [0 + 1, 0] / 64) ≠ 0)) 13, kb (decide ((grl [0 + 1, 0] / 64) ≠ 0)) (S1 A (grl [0 + 1, 0] / 64).toNat), some (u8s [120])] := by
    have h := chopen_u B A X (0 : UInt64) (0 : UInt64) [0 + 1] (wn ([121], 0 + 1, 0, [0 + 1]) 0 0).1 (wn ([121], 0 + 1, 0, [0 + 1]) 0 0).2 hBl hAl hXl I1.1 I1.2 x0 25 hx
    rw [o2] at h
    exact h
  have g3 : Good Try.prog 11 [.c (.ptr 0 0), .c (.ro 25 (u8s x0))] [some (chC (0 : UInt64) (grl [0 + 1, 0] / 64) 2 (decide ((0 : UInt64) ≠ 0)) 4 6 (decide ((grl [0 + 1, 0] / 64) ≠ 0)) 8 (0 : UInt64) 1 (grl [0 + 1, 0]) (decide (0 < ([0 + 1, 0] : List UInt64).length)) X), some (wcs true (wn ([120], 0, 0, [0 + 1, 0]) (wn ([121], 0 + 1, 0, [0 + 1]) 0 0).1 (wn ([121], 0 + 1, 0, [0 + 1]) 0 0).2).1 (wn ([120], 0, 0, [0 + 1, 0]) (wn ([121], 0 + 1, 0, [0 + 1]) 0 0).1 (wn ([121], 0 + 1, 0, [0 + 1]) 0 0).2).2), some (cC (.ptr 3 0) 0), some (u8s (S0 B (0 : UInt64).toNat)), cb (decide ((0 : UInt64) ≠ 0)) 5, kb (decide ((0 : UInt64) ≠ 0)) (S1 B (0 : UInt64).toNat), some (cC (.ptr 7 0) 0), some (u8s (S0 A (grl [0 + 1, 0] / 64).toNat)), cb (decide ((grl [0 + 1, 0] / 64) ≠ 0)) 9, kb (decide ((grl [0 + 1, 0] / 64) ≠ 0)) (S1 A (grl [0 + 1, 0] / 64).toNat)] (.t [.c (.slc 14 0 (([] : List UInt8) : List UInt8).length 1), .c (c64 0), .c (cn 10)]) [some (chC (0 : UInt64) (grl [0 + 1, 0] / 64) 2 (decide ((0 : UInt64) ≠ 0)) 4 10 (decide ((grl [0 + 1, 0] / 64) ≠ 0)) 12 (0 : UInt64) 1 (grl [0 + 1, 0]) (decide (0 < ([0 + 1, 0] : List UInt64).length)) X), some (wcs true (wn ([120], 0, 0, [0 + 1, 0]) (wn ([121], 0 + 1, 0, [0 + 1]) 0 0).1 (wn ([121], 0 + 1, 0, [0 + 1]) 0 0).2).1 (wn ([120], 0, 0, [0 + 1, 0]) (wn ([121], 0 + 1, 0, [0 + 1]) 0 0).1 (wn ([121], 0 + 1, 0, [0 + 1]) 0 0).2).2), some (cC (.ptr 3 0) 0), some (u8s (S0 B (0 : UInt64).toNat)), cb (decide ((0 : UInt64) ≠ 0)) 5, kb (decide ((0 : UInt64) ≠ 0)) (S1 B (0 : UInt64).toNat), none, none, none, none, some (cC (.ptr 11 0) 0), some (u8s (S0 A (grl [0 + 1, 0] / 64).toNat)), cb (decide ((grl [0 + 1, 0] / 64) ≠ 0)) 13, kb (decide ((grl [0 + 1, 0] / 64) ≠ 0)) (S1 A (grl [0 + 1, 0] / 64).toNat), some (u8s ([] : List UInt8))] := by
    have h := chopen_u B A X (0 : UInt64) (0 : UInt64) [0 + 1, 0] (wn ([120], 0, 0, [0 + 1, 0]) (wn ([121], 0 + 1, 0, [0 + 1]) 0 0).1 (wn ([121], 0 + 1, 0, [0 + 1]) 0 0).2).1 (wn ([120], 0, 0, [0 + 1, 0]) (wn ([121], 0 + 1, 0, [0 + 1]) 0 0).1 (wn ([121], 0 + 1, 0, [0 + 1]) 0 0).2).2 hBl hAl hXl I2.1 I2.2 x0 25 hx
    rw [o3] at h
    exact h
  have q1 := chseal_u A B X (0 : UInt64) (grl [] / 64) (0 : UInt64) (grl []) (decide (0 < ([] : List UInt64).length)) 0 0 hAl hBl hXl [120] 1 rfl (by decide) (by decide) (by decide)
  have q2 := chseal_u A B X ((0 : UInt64) / 64) (grl [] / 64) ((0 : UInt64) + 1) (grl []) (decide (0 < ([] : List UInt64).length)) 0 0 hAl hBl hXl [121] 1 rfl (by decide) (by decide) (by decide)
  rw [e0] at q1
  rw [e1] at q2
  refine good_frm 94 Try.func8 rfl rfl rfl rfl rfl rfl ?_
  refine awp_seq ?_
  refine rln ?_
  refine As ?_
  refine gend ?_
  refine awp_seq ?_
  refine rln ?_
  refine G (q_bla (fkc (c := c8 1) rfl rfl rfl (Nat.le_of_ble_eq_true rfl) (fk0 ?_)))
  refine G (q_bla (fkc (c := c8 2) rfl rfl rfl (Nat.le_of_ble_eq_true rfl) (fk0 ?_)))
  refine G (q_bla (fkc (c := c8 3) rfl rfl rfl (Nat.le_of_ble_eq_true rfl) (fk0 ?_)))
  refine G2 (fun _ k_ => q_callv [] [] [some (chC (0 : UInt64) (grl [] / 64) 2 (decide ((0 : UInt64) ≠ 0)) 4 6 (decide ((grl [] / 64) ≠ 0)) 8 (0 : UInt64) 1 (grl []) (decide (0 < ([] : List UInt64).length)) X), some (wcs true 0 0), some (cC (.ptr 3 0) 0), some (u8s (S0 A (0 : UInt64).toNat)), cb (decide ((0 : UInt64) ≠ 0)) 5, kb (decide ((0 : UInt64) ≠ 0)) (S1 A (0 : UInt64).toNat), some (cC (.ptr 7 0) 0), some (u8s (S0 B (grl [] / 64).toNat)), cb (decide ((grl [] / 64) ≠ 0)) 9, kb (decide ((grl [] / 64) ≠ 0)) (S1 B (grl [] / 64).toNat), some (chC (0 : UInt64) (grl [] / 64) 12 (decide ((0 : UInt64) ≠ 0)) 14 16 (decide ((grl [] / 64) ≠ 0)) 18 (0 : UInt64) 11 (grl []) (decide (0 < ([] : List UInt64).length)) X), some (wcs true 0 0), some (cC (.ptr 13 0) 0), some (u8s (S0 B (0 : UInt64).toNat)), cb (decide ((0 : UInt64) ≠ 0)) 15, kb (decide ((0 : UInt64) ≠ 0)) (S1 B (0 : UInt64).toNat), some (cC (.ptr 17 0) 0), some (u8s (S0 A (grl [] / 64).toNat)), cb (decide ((grl [] / 64) ≠ 0)) 19, kb (decide ((grl [] / 64) ≠ 0)) (S1 A (grl [] / 64).toNat)] (two_ A B X hAl hBl hXl) k_ (ha := (caa (et rfl) (key1 hA) (caa (et rfl) (key1 hB) (caa (et rfl) (key1 hX) ca0)))) (e2 := pl0) (eL := ml0) (eM := (ml1 (chC_map rfl rfl rfl rfl rfl) (ml1 rfl (ml1 rfl (ml1 sees_m (mlb (cb_map rfl) (mlb kb_map (ml1 rfl (ml1 sees_m (mlb (cb_map rfl) (mlb kb_map (ml1 (chC_map rfl rfl rfl rfl rfl) (ml1 rfl (ml1 rfl (ml1 sees_m (mlb (cb_map rfl) (mlb kb_map (ml1 rfl (ml1 sees_m (mlb (cb_map rfl) (mlb kb_map ml0)))))))))))))))))))))) ?_
  refine G (q_mv (s := .t _) ?_)
  refine G (q_ext (y := .c _) ?_)
  refine G (q_ext (y := .c _) ?_)
  refine As ?_
  refine As ?_
  refine gend ?_
  refine awp_seq ?_
  refine rln ?_
  refine Mv ?_
  refine G2 (fun _ k_ => q_bsl (fkc (c := c8 120) rfl rfl rfl (Nat.le_of_ble_eq_true rfl) (fk0 k_))) ?_
  refine G (q_css ?_)
  refine G2 (fun _ k_ => q_callv [0, 1, 2, 3, 4, 5, 6, 7, 8, 9] [some (chC ((0 : UInt64) / 64) (grl [] / 64) 10 (decide (((0 : UInt64) / 64) ≠ 0)) 12 6 (decide ((grl [] / 64) ≠ 0)) 8 ((0 : UInt64) + 1) 1 (grl []) (decide (0 < ([] : List UInt64).length)) X), some (wcs true 0 0), none, none, none, none, some (cC (.ptr 7 0) 0), some (u8s (S0 B (grl [] / 64).toNat)), cb (decide ((grl [] / 64) ≠ 0)) 9, kb (decide ((grl [] / 64) ≠ 0)) (S1 B (grl [] / 64).toNat)] [some (cC (.ptr 11 0) 0), some (u8s (S0 A ((0 : UInt64) / 64).toNat)), cb (decide (((0 : UInt64) / 64) ≠ 0)) 13, kb (decide (((0 : UInt64) / 64) ≠ 0)) (S1 A ((0 : UInt64) / 64).toNat), some (u8s x0)] q1 k_ (ha := (cac (et rfl) rfl (cac (et rfl) (sees_slc rfl rfl rfl) ca0))) (e2 := (pl1 rfl (chC_map rfl rfl rfl rfl rfl) (pl1 rfl rfl (pl1 rfl rfl (pl1 rfl sees_m (plb rfl (cb_map rfl) (plb rfl kb_map (pl1 rfl rfl (pl1 rfl sees_m (plb rfl (cb_map rfl) (plb rfl kb_map pl0))))))))))) (eL := (ml1 (chC_map rfl rfl rfl rfl rfl) (ml1 rfl (mln (mln (mln (mln (ml1 rfl (ml1 sees_m (mlb (cb_map rfl) (mlb kb_map ml0))))))))))) (eM := (ml1 rfl (ml1 sees_m (mlb (cb_map rfl) (mlb kb_map (ml1 sees_m ml0)))))) (e3 := (vt2 rfl rfl))) ?_
  refine G (q_mv (s := .t _) ?_)
  refine G (q_ext (y := .c _) ?_)
  refine G (q_ext (y := .c _) ?_)
  refine As ?_
  refine As ?_
  refine gend ?_
  refine awp_seq ?_
  refine rln ?_
  refine Mv ?_
  refine G2 (fun _ k_ => q_bsl (fkc (c := c8 121) rfl rfl rfl (Nat.le_of_ble_eq_true rfl) (fk0 k_))) ?_
  refine G (q_css ?_)
  refine G2 (fun _ k_ => q_callv [0, 1, 21, 22, 23, 24, 6, 7, 8, 9] [some (chC (((0 : UInt64) + 1) / 64) (grl [] / 64) 10 (decide ((((0 : UInt64) + 1) / 64) ≠ 0)) 12 6 (decide ((grl [] / 64) ≠ 0)) 8 (((0 : UInt64) + 1) + 1) 1 (grl []) (decide (0 < ([] : List UInt64).length)) X), some (wcs true 0 0), none, none, none, none, some (cC (.ptr 7 0) 0), some (u8s (S0 B (grl [] / 64).toNat)), cb (decide ((grl [] / 64) ≠ 0)) 9, kb (decide ((grl [] / 64) ≠ 0)) (S1 B (grl [] / 64).toNat)] [some (cC (.ptr 11 0) 0), some (u8s (S0 A (((0 : UInt64) + 1) / 64).toNat)), cb (decide ((((0 : UInt64) + 1) / 64) ≠ 0)) 13, kb (decide ((((0 : UInt64) + 1) / 64) ≠ 0)) (S1 A (((0 : UInt64) + 1) / 64).toNat), some (u8s y0)] q2 k_ (ha := (cac (et rfl) rfl (cac (et rfl) (sees_slc rfl rfl rfl) ca0))) (e2 := (pl1 rfl (chC_map rfl rfl rfl rfl rfl) (pl1 rfl rfl (pl1 rfl rfl (pl1 rfl sees_m (plb rfl (cb_map rfl) (plb rfl kb_map (pl1 rfl rfl (pl1 rfl sees_m (plb rfl (cb_map rfl) (plb rfl kb_map pl0))))))))))) (eL := (ml1 (chC_map rfl rfl rfl rfl rfl) (ml1 rfl (mln (mln (mln (mln (ml1 rfl (ml1 sees_m (mlb (cb_map rfl) (mlb kb_map ml0))))))))))) (eM := (ml1 rfl (ml1 sees_m (mlb (cb_map rfl) (mlb kb_map (ml1 sees_m ml0)))))) (e3 := (vt2 rfl rfl))) ?_
  refine G (q_mv (s := .t _) ?_)
  refine G (q_ext (y := .c _) ?_)
  refine G (q_ext (y := .c _) ?_)
  refine As ?_
  refine As ?_
  refine gend ?_
  refine awp_seq ?_
  refine rln ?_
  refine Mv ?_
  refine Mv ?_
  refine G2 (fun _ k_ => q_callv [10, 11, 12, 13, 14, 15, 16, 17, 18, 19] [some (chC (0 : UInt64) (grl [0 + 1] / 64) 2 (decide ((0 : UInt64) ≠ 0)) 4 10 (decide ((grl [0 + 1] / 64) ≠ 0)) 12 (0 : UInt64) 1 (grl [0 + 1]) (decide (0 < ([0 + 1] : List UInt64).length)) X), some (wcs true (wn ([121], 0 + 1, 0, [0 + 1]) 0 0).1 (wn ([121], 0 + 1, 0, [0 + 1]) 0 0).2), some (cC (.ptr 3 0) 0), some (u8s (S0 B (0 : UInt64).toNat)), cb (decide ((0 : UInt64) ≠ 0)) 5, kb (decide ((0 : UInt64) ≠ 0)) (S1 B (0 : UInt64).toNat), none, none, none, none] [some (cC (.ptr 11 0) 0), some (u8s (S0 A (grl [0 + 1] / 64).toNat)), cb (decide ((grl [0 + 1] / 64) ≠ 0)) 13, kb (decide ((grl [0 + 1] / 64) ≠ 0)) (S1 A (grl [0 + 1] / 64).toNat), some (u8s [121])] g1 k_ (ha := (cac (et rfl) rfl (cac (et rfl) (sees_slc rfl rfl (cut_h hy)) ca0))) (e2 := (pl1 rfl (chC_map rfl rfl rfl rfl rfl) (pl1 rfl rfl (pl1 rfl rfl (pl1 rfl sees_m (plb rfl (cb_map rfl) (plb rfl kb_map (pl1 rfl rfl (pl1 rfl sees_m (plb rfl (cb_map rfl) (plb rfl kb_map pl0))))))))))) (eL := (ml1 (chC_map rfl rfl rfl rfl rfl) (ml1 rfl (ml1 rfl (ml1 sees_m (mlb (cb_map rfl) (mlb kb_map (mln (mln (mln (mln ml0))))))))))) (eM := (ml1 rfl (ml1 sees_m (mlb (cb_map rfl) (mlb kb_map (ml1 sees_m ml0)))))) (e3 := (vt3 rfl rfl rfl))) ?_
  refine G (q_mv (s := .t _) ?_)
  refine G (q_ext (y := .c _) ?_)
  refine G (q_ext (y := .c _) ?_)
  refine G (q_ext (y := .c _) ?_)
  refine As ?_
  refine As ?_
  refine As ?_
  refine gend ?_
  refine awp_seq ?_
  refine rln ?_
  refine Mv ?_
  refine Mv ?_
  refine G2 (fun _ k_ => q_callv [10, 11, 12, 13, 14, 15, 32, 33, 34, 35] [some (chC (0 : UInt64) (grl [0 + 1, 0] / 64) 2 (decide ((0 : UInt64) ≠ 0)) 4 10 (decide ((grl [0 + 1, 0] / 64) ≠ 0)) 12 (0 : UInt64) 1 (grl [0 + 1, 0]) (decide (0 < ([0 + 1, 0] : List UInt64).length)) X), some (wcs true (wn ([120], 0, 0, [0 + 1, 0]) (wn ([121], 0 + 1, 0, [0 + 1]) 0 0).1 (wn ([121], 0 + 1, 0, [0 + 1]) 0 0).2).1 (wn ([120], 0, 0, [0 + 1, 0]) (wn ([121], 0 + 1, 0, [0 + 1]) 0 0).1 (wn ([121], 0 + 1, 0, [0 + 1]) 0 0).2).2), some (cC (.ptr 3 0) 0), some (u8s (S0 B (0 : UInt64).toNat)), cb (decide ((0 : UInt64) ≠ 0)) 5, kb (decide ((0 : UInt64) ≠ 0)) (S1 B (0 : UInt64).toNat), none, none, none, none] [some (cC (.ptr 11 0) 0), some (u8s (S0 A (grl [0 + 1, 0] / 64).toNat)), cb (decide ((grl [0 + 1, 0] / 64) ≠ 0)) 13, kb (decide ((grl [0 + 1, 0] / 64) ≠ 0)) (S1 A (grl [0 + 1, 0] / 64).toNat), some (u8s [120])] g2 k_ (ha := (cac (et rfl) rfl (cac (et rfl) (sees_slc rfl rfl (cut_h hx)) ca0))) (e2 := (pl1 rfl (chC_map rfl rfl rfl rfl rfl) (pl1 rfl rfl (pl1 rfl rfl (pl1 rfl sees_m (plb rfl (cb_map rfl) (plb rfl kb_map (pl1 rfl rfl (pl1 rfl sees_m (plb rfl (cb_map rfl) (plb rfl kb_map pl0))))))))))) (eL := (ml1 (chC_map rfl rfl rfl rfl rfl) (ml1 rfl (ml1 rfl (ml1 sees_m (mlb (cb_map rfl) (mlb kb_map (mln (mln (mln (mln ml0))))))))))) (eM := (ml1 rfl (ml1 sees_m (mlb (cb_map rfl) (mlb kb_map (ml1 sees_m ml0)))))) (e3 := (vt3 rfl rfl rfl))) ?_
  refine G (q_mv (s := .t _) ?_)
  refine G (q_ext (y := .c _) ?_)
  refine G (q_ext (y := .c _) ?_)
  refine G (q_ext (y := .c _) ?_)
  refine As ?_
  refine As ?_
  refine As ?_
  refine gend ?_
  refine awp_seq ?_
  refine rln ?_
  refine Mv ?_
  refine Mv ?_
  refine G2 (fun _ k_ => q_callv [10, 11, 12, 13, 14, 15, 37, 38, 39, 40] [some (chC (0 : UInt64) (grl [0 + 1, 0] / 64) 2 (decide ((0 : UInt64) ≠ 0)) 4 10 (decide ((grl [0 + 1, 0] / 64) ≠ 0)) 12 (0 : UInt64) 1 (grl [0 + 1, 0]) (decide (0 < ([0 + 1, 0] : List UInt64).length)) X), some (wcs true (wn ([120], 0, 0, [0 + 1, 0]) (wn ([121], 0 + 1, 0, [0 + 1]) 0 0).1 (wn ([121], 0 + 1, 0, [0 + 1]) 0 0).2).1 (wn ([120], 0, 0, [0 + 1, 0]) (wn ([121], 0 + 1, 0, [0 + 1]) 0 0).1 (wn ([121], 0 + 1, 0, [0 + 1]) 0 0).2).2), some (cC (.ptr 3 0) 0), some (u8s (S0 B (0 : UInt64).toNat)), cb (decide ((0 : UInt64) ≠ 0)) 5, kb (decide ((0 : UInt64) ≠ 0)) (S1 B (0 : UInt64).toNat), none, none, none, none] [some (cC (.ptr 11 0) 0), some (u8s (S0 A (grl [0 + 1, 0] / 64).toNat)), cb (decide ((grl [0 + 1, 0] / 64) ≠ 0)) 13, kb (decide ((grl [0 + 1, 0] / 64) ≠ 0)) (S1 A (grl [0 + 1, 0] / 64).toNat), some (u8s ([] : List UInt8))] g3 k_ (ha := (cac (et rfl) rfl (cac (et rfl) (sees_slc rfl rfl (cut_h hx)) ca0))) (e2 := (pl1 rfl (chC_map rfl rfl rfl rfl rfl) (pl1 rfl rfl (pl1 rfl rfl (pl1 rfl sees_m (plb rfl (cb_map rfl) (plb rfl kb_map (pl1 rfl rfl (pl1 rfl sees_m (plb rfl (cb_map rfl) (plb rfl kb_map pl0))))))))))) (eL := (ml1 (chC_map rfl rfl rfl rfl rfl) (ml1 rfl (ml1 rfl (ml1 sees_m (mlb (cb_map rfl) (mlb kb_map (mln (mln (mln (mln ml0))))))))))) (eM := (ml1 rfl (ml1 sees_m (mlb (cb_map rfl) (mlb kb_map (ml1 sees_m ml0)))))) (e3 := (vt3 rfl rfl rfl))) ?_
  refine G (q_mv (s := .t _) ?_)
  refine G (q_ext (y := .c _) ?_)
  refine G (q_ext (y := .c _) ?_)
  refine G (q_ext (y := .c _) ?_)
  refine As ?_
  refine As ?_
  refine As ?_
  refine gend ?_
  refine awp_seq ?_
  refine rln ?_
  refine Mv ?_
  refine G (q_eqln (y := 0) ?_)
  refine Mv ?_
  refine Aknd 60 (fun hb3 => ?_) ?_; rotate_left
  · exact rfl
  refine Gg (q_mv (s := .v (.c _)) ?_)
  refine Gg (q_eqln (y := 0) ?_)
  refine G (q_pkt ?_)
  refine Mv ?_
  refine Aknd 64 (fun hb7 => ?_) ?_; rotate_left
  · exact rfl
  refine Gg (q_mv (s := .v (.c _)) ?_)
  refine Gg (q_eqln (y := 0) ?_)
  refine G (q_pkt ?_)
  refine Mv ?_
  refine Aknd 68 (fun hb11 => ?_) ?_; rotate_left
  · exact rfl
  refine Gg (q_mv (s := .v (.c _)) ?_)
  refine Gg (q_eqln (y := 0) ?_)
  refine G (q_pkt ?_)
  refine Mv ?_
  refine Aknd 72 (fun hb15 => ?_) ?_; rotate_left
  · exact rfl
  refine Gg (q_mv (s := .v (.c _)) ?_)
  refine Gg (q_eqln (y := 10) ?_)
  refine G (q_pkt ?_)
  refine Mv ?_
  refine Aknd 76 (fun hb19 => ?_) ?_; rotate_left
  · exact rfl
  refine Gg (q_mv (s := .v (.c _)) ?_)
  refine Gg (q_csl ?_)
  refine Gg (q_eqls ?_)
  refine G (q_pkt ?_)
  refine Mv ?_
  refine Aknd 81 (fun hb24 => ?_) ?_; rotate_left
  · exact rfl
  refine Gg (q_mv (s := .v (.c _)) ?_)
  refine Gg (q_csl ?_)
  refine Gg (q_eqls ?_)
  refine G (q_pkt ?_)
  refine Mv ?_
  refine Aknd 86 (fun hb29 => ?_) ?_; rotate_left
  · exact rfl
  refine Gg (q_mv (s := .v (.c _)) ?_)
  refine Gg (q_eql64 (y := 1) ?_)
  refine G (q_pkt ?_)
  refine Mv ?_
  refine Aknd 90 (fun hb33 => ?_) ?_; rotate_left
  · exact rfl
  refine Gg (q_mv (s := .v (.c _)) ?_)
  refine Gg (q_eql64 (y := 0) ?_)
  refine G (q_pkt ?_)
  refine As ?_
  refine gend ?_
  refine awp_ret ?_
  exact fp1
end Go.Proofs.Ytklcckngmmklhaa

/- The abstract machine: memories that are not told place by place: objects and blocks that lie apart. -/
namespace Go.Abs
open Go
def rlc (π : List Nat) : CM := ⟨fun j => π[j]?, fun _ => none, false, false⟩
def clo (n : Nat) : Nat → Cell → Bool
  | 0, c => match c with
    | .bool _ => true
    | .int _ _ => true
    | .str _ => true
    | .nilp => true
    | .nilf => true
    | .anyb => true
    | .undef => true
    | _ => false
  | d + 1, c => match c with
    | .bool _ => true
    | .int _ _ => true
    | .str _ => true
    | .nilp => true
    | .nilf => true
    | .anyb => true
    | .undef => true
    | .ptr p _ => Nat.blt p n
    | .slc p _ _ _ => Nat.blt p n
    | .fn _ cap => cap.all (clo n d)
    | _ => false
def bnd (q : Nat → Bool) : Nat → Cell → Bool
  | 0, _ => true
  | d + 1, c => match c with
    | .ptr p _ => q p
    | .slc p _ _ _ => q p
    | .fn _ cap => cap.all (bnd q d)
    | _ => true
theorem idx_nd : ∀ {π : List Nat} {j p : Nat}, π.Nodup → π[j]? = some p → idx p π = some j
  | [], j, p, _, h => by simp at h
  | q :: r, 0, p, hn, h => by simp at h; subst h; simp [idx]
  | q :: r, j + 1, p, hn, h => by
    rw [List.nodup_cons] at hn
    have h' : r[j]? = some p := by simpa using h
    have hne : q ≠ p := fun e => hn.1 (e ▸ List.mem_of_getElem? h')
    simp [idx, hne, idx_nd hn.2 h']
theorem idx_no : ∀ {π : List Nat} {p : Nat}, p ∉ π → idx p π = none
  | [], p, _ => rfl
  | q :: r, p, h => by
    rw [List.mem_cons, not_or] at h
    simp [idx, Ne.symm h.1, idx_no h.2]
theorem cin_rlc {H : Heap} {π : List Nat} (hnd : π.Nodup) : ∀ (d : Nat) (c : Cell), clo π.length d c = true → cm (cin π true H) d (cm (rlc π) d c) = c := by
  intro d
  induction d with
  | zero => intro c h; cases c <;> simp [clo] at h <;> rfl
  | succ d ih =>
    intro c h
    cases c with
    | ptr p o =>
      simp only [clo, Nat.blt_eq] at h
      have hp : π[p]? = some π[p] := List.getElem?_eq_getElem h
      have hi := idx_nd hnd hp
      simp only [cm, rlc, cin, hp, hi]
    | slc p o n sz =>
      simp only [clo, Nat.blt_eq] at h
      have hp : π[p]? = some π[p] := List.getElem?_eq_getElem h
      have hi := idx_nd hnd hp
      simp only [cm, rlc, cin, hp, hi]
    | fn f cap =>
      simp only [clo] at h
      simp only [cm, List.map_map, Cell.fn.injEq, true_and]
      conv => rhs; rw [← List.map_id cap]
      exact List.map_congr_left fun c hc => ih c (List.all_eq_true.1 h c hc)
    | undef => rfl
    | bool b => rfl
    | int k n => rfl
    | str s => rfl
    | nilp => rfl
    | nilf => rfl
    | anyb => rfl
    | nils => simp [clo] at h
    | ro n cs => simp [clo] at h
    | rop cs => simp [clo] at h
theorem cout_rlc {π : List Nat} {n m : Nat} (hl : π.length ≤ m) : ∀ (d : Nat) (c : Cell), bnd (fun p => Nat.blt p m) d c = true → cm (cout π true n) d c = cm (rlc (π ++ List.range' n (m - π.length))) d c := by
  have key : ∀ p, p < m → (cout π true n).fp p = (rlc (π ++ List.range' n (m - π.length))).fp p := by
    intro p hp
    show (match π[p]? with | some q => some q | none => some (n + (p - π.length))) = (π ++ List.range' n (m - π.length))[p]?
    by_cases h : p < π.length
    · rw [List.getElem?_append_left h, List.getElem?_eq_getElem h]
    · rw [List.getElem?_append_right (by omega), List.getElem?_eq_none (by omega), List.getElem?_range' (by omega)]
      simp
  intro d
  induction d with
  | zero => intro c _; cases c <;> rfl
  | succ d ih =>
    intro c h
    cases c with
    | ptr p o =>
      simp only [bnd, Nat.blt_eq] at h
      have hk := key p h
      have hs : ∃ x, (rlc (π ++ List.range' n (m - π.length))).fp p = some x := by
        show ∃ x, (π ++ List.range' n (m - π.length))[p]? = some x
        exact ⟨_, List.getElem?_eq_getElem (by rw [List.length_append, List.length_range']; omega)⟩
      obtain ⟨x, hx⟩ := hs
      simp only [cm, hk, hx]
    | slc p o k sz =>
      simp only [bnd, Nat.blt_eq] at h
      have hk := key p h
      have hs : ∃ x, (rlc (π ++ List.range' n (m - π.length))).fp p = some x := by
        show ∃ x, (π ++ List.range' n (m - π.length))[p]? = some x
        exact ⟨_, List.getElem?_eq_getElem (by rw [List.length_append, List.length_range']; omega)⟩
      obtain ⟨x, hx⟩ := hs
      simp only [cm, hk, hx]
    | fn f cap =>
      simp only [bnd] at h
      simp only [cm, Cell.fn.injEq, true_and]
      exact List.map_congr_left fun c hc => ih c (List.all_eq_true.1 h c hc)
    | _ => rfl
structure Ojt (H : Heap) (π : List Nat) (T : Heap) : Prop where
  len : T.length = π.length
  at_ : ∀ (j p : Nat) (b : Option (List Cell)), π[j]? = some p → T[j]? = some b → H[p]? = some (b.map (List.map (cm (rlc π) 8)))
def blkC (q : Cell → Bool) : Option (List Cell) → Bool
  | some cs => cs.all q
  | none => true
theorem blkC_at {q : Cell → Bool} {T : Heap} (h : T.all (blkC q) = true) {j : Nat} {cs : List Cell} (hj : T[j]? = some (some cs)) : ∀ c ∈ cs, q c = true := by
  have := List.all_eq_true.1 h _ (List.mem_of_getElem? hj)
  exact List.all_eq_true.1 this
theorem Ojt.lt {H : Heap} {π : List Nat} {T : Heap} (h : Ojt H π T) : ∀ p ∈ π, p < H.length := by
  intro p hp
  obtain ⟨j, hj⟩ := List.mem_iff_getElem?.1 hp
  have hlt : j < T.length := by rw [h.len]; exact (List.getElem?_eq_some_iff.1 hj).1
  have := h.at_ j p _ hj (List.getElem?_eq_getElem hlt)
  exact (List.getElem?_eq_some_iff.1 this).1
theorem obj_pick {H : Heap} {π : List Nat} {T : Heap} (hnd : π.Nodup) (h : Ojt H π T) (hc : T.all (blkC (clo T.length 8)) = true) : π.map (pick H (cm (cin π true H) 8)) = T := by
  apply List.ext_getElem?
  intro j
  rw [List.getElem?_map]
  cases hp : π[j]? with
  | none =>
    rw [List.getElem?_eq_none (by rw [h.len]; exact List.getElem?_eq_none_iff.1 hp)]; rfl
  | some p =>
    have hlt : j < T.length := by rw [h.len]; exact (List.getElem?_eq_some_iff.1 hp).1
    have hb : T[j]? = some T[j] := List.getElem?_eq_getElem hlt
    have ha := h.at_ j p _ hp hb
    rw [hb]
    simp only [Option.map_some, Option.some.injEq]
    unfold pick
    rw [ha]
    cases hT : T[j] with
    | none => rfl
    | some cs =>
      rw [hT] at hb
      simp only [Option.map_some, List.map_map, Option.some.injEq]
      conv => rhs; rw [← List.map_id cs]
      refine List.map_congr_left fun c hcc => ?_
      have h1 := blkC_at hc hb c hcc
      rw [h.len] at h1
      exact cin_rlc hnd 8 c h1
theorem picks_at (f : Cell → Cell) : ∀ (H : Heap) (p : Nat), (picks f H)[p]? = (H[p]?).map (Option.map (List.map f))
  | [], p => by simp [picks]
  | some cs :: r, 0 => by simp [picks]
  | none :: r, 0 => by simp [picks]
  | some cs :: r, p + 1 => by simpa [picks] using picks_at f r p
  | none :: r, p + 1 => by simpa [picks] using picks_at f r p
theorem blk_rlc {π : List Nat} {n m : Nat} {T : Heap} (hm : T.length = m) (hl : π.length ≤ m) (hb : T.all (blkC (bnd (fun p => Nat.blt p m) 8)) = true) {j : Nat} {b : Option (List Cell)} (hj : T[j]? = some b) :
    b.map (List.map (cm (cout π true n) 8)) = b.map (List.map (cm (rlc (π ++ List.range' n (m - π.length))) 8)) := by
  cases b with
  | none => rfl
  | some cs =>
    simp only [Option.map_some, Option.some.injEq]
    exact List.map_congr_left fun c hc => cout_rlc hl 8 c (blkC_at hb hj c hc)
structure Apt (H : Heap) (os : List (List Nat × Heap)) (rs : List (Nat × List Cell)) : Prop where
  nd : (os.flatMap (·.1) ++ rs.map (·.1)).Nodup
  ob : ∀ o ∈ os, Ojt H o.1 o.2
  rw_ : ∀ r ∈ rs, H[r.1]? = some (some r.2)
theorem Apt.lt {H : Heap} {os : List (List Nat × Heap)} {rs : List (Nat × List Cell)} (h : Apt H os rs) : ∀ p ∈ os.flatMap (·.1) ++ rs.map (·.1), p < H.length := by
  intro p hp
  rw [List.mem_append] at hp
  rcases hp with hp | hp
  · obtain ⟨o, ho, hp⟩ := List.mem_flatMap.1 hp
    exact (h.ob o ho).lt p hp
  · obtain ⟨r, hr, rfl⟩ := List.mem_map.1 hp
    exact (List.getElem?_eq_some_iff.1 (h.rw_ r hr)).1
theorem Ojt.frame {H H2 : Heap} {π : List Nat} {T : Heap} (h : Ojt H π T) (hf : ∀ p ∈ π, H2[p]? = H[p]?) : Ojt H2 π T :=
  ⟨h.len, fun j p b h1 h2 => by rw [hf p (List.mem_of_getElem? h1)]; exact h.at_ j p b h1 h2⟩
theorem sep_call {H : Heap} {π : List Nat} {T T' : Heap} {os : List (List Nat × Heap)} {rs : List (Nat × List Cell)} (h : Apt H ((π, T) :: os) rs) (hl : T.length ≤ T'.length) (hb : T'.all (blkC (bnd (fun p => Nat.blt p T'.length) 8)) = true) :
    ∃ H2, back π (cm (cout π true H.length) 8) H T' = H2 ∧ H2.length = H.length + (T'.length - T.length) ∧ Apt H2 ((π ++ List.range' H.length (T'.length - T.length), T') :: os) rs := by
  have hO := h.ob (π, T) (List.mem_cons_self ..)
  have hlen : T.length = π.length := hO.len
  have hlt : ∀ p ∈ π, p < H.length := hO.lt
  have hnd := h.nd
  rw [List.flatMap_cons, List.append_assoc, List.nodup_append] at hnd
  obtain ⟨n1, n2, n3⟩ := hnd
  have hltR : ∀ p ∈ os.flatMap (·.1) ++ rs.map (·.1), p < H.length := fun p hp => h.lt p (by rw [List.flatMap_cons, List.append_assoc]; exact List.mem_append_right _ hp)
  refine ⟨_, rfl, ?_, ?_, ?_, ?_⟩
  · simp only [back, List.length_append, putB_length, picks_length, List.length_drop]; omega
  · rw [List.flatMap_cons, List.append_assoc, List.nodup_append]
    refine ⟨?_, n2, ?_⟩
    · rw [List.nodup_append]
      refine ⟨n1, List.nodup_range', fun a ha b hb e => ?_⟩
      have := hlt a ha
      have := (List.mem_range'_1.1 hb).1
      omega
    · intro a ha b hb e
      rcases List.mem_append.1 ha with ha | ha
      · exact n3 a ha b hb e
      · have := hltR b hb
        have := (List.mem_range'_1.1 ha).1
        omega
  · have hold : ∀ q, q < H.length → q ∉ π → (back π (cm (cout π true H.length) 8) H T')[q]? = H[q]? := by
      intro q hq hn
      unfold back
      rw [List.getElem?_append_left (by rw [putB_length]; exact hq), putB_get]
      simp only [Nat.zero_add, pbk, idx_no hn, Option.map_id']
    intro o ho
    rcases List.mem_cons.1 ho with rfl | ho
    · refine ⟨by simp only [List.length_append, List.length_range']; omega, fun j p b h1 h2 => ?_⟩
      have hbj := blk_rlc (π := π) (n := H.length) rfl (by rw [← hlen]; exact hl) hb h2
      rw [hlen, ← hbj]
      simp only at h1 h2
      by_cases hj : j < π.length
      · rw [List.getElem?_append_left hj] at h1
        have hp := hlt p (List.mem_of_getElem? h1)
        unfold back
        rw [List.getElem?_append_left (by rw [putB_length]; exact hp), putB_get, List.getElem?_eq_getElem hp]
        simp only [Nat.zero_add, pbk, idx_nd n1 h1, Option.map_some, pick, h2]
        cases b <;> rfl
      · rw [List.getElem?_append_right (by omega)] at h1
        have hj2 : j < T'.length := (List.getElem?_eq_some_iff.1 h2).1
        rw [List.getElem?_range' (by omega)] at h1
        obtain rfl := Option.some.inj h1
        unfold back
        rw [List.getElem?_append_right (by rw [putB_length]; omega), putB_length, picks_at, List.getElem?_drop]
        rw [show π.length + (H.length + 1 * (j - π.length) - H.length) = j by omega, h2]; rfl
    · refine (h.ob o (List.mem_cons_of_mem _ ho)).frame fun p hp => hold p (hltR p (List.mem_append_left _ (List.mem_flatMap.2 ⟨o, ho, hp⟩))) fun hn => ?_
      exact n3 p hn p (List.mem_append_left _ (List.mem_flatMap.2 ⟨o, ho, hp⟩)) rfl
  · intro r hr
    have hm : r.1 ∈ os.flatMap (·.1) ++ rs.map (·.1) := List.mem_append_right _ (List.mem_map.2 ⟨r, hr, rfl⟩)
    unfold back
    rw [List.getElem?_append_left (by rw [putB_length]; exact hltR _ hm), putB_get]
    simp only [Nat.zero_add, pbk, idx_no fun hn => n3 _ hn _ hm rfl, Option.map_id']
    exact h.rw_ r hr
theorem ptr_in {H : Heap} {π : List Nat} {j p o : Nat} (hn : π.Nodup) (hj : π[j]? = some p) : cm (cin π true H) 8 (.ptr p o) = .ptr j o := by
  simp only [cm, cin, idx_nd hn hj]
theorem q_callo {P : Program} {fr : List S} {H H2 : Heap} {K : S → Heap → Prop} {od : Option Nat} {oty : TypeId} {ops_ : String} {oaf : Array Edge} {ogu : Option (Nat × Bool)} {f : Nat} {args : Array Operand} {ats : Array TypeId} {v s : S} {T T' : Heap} {args' : List V} {π : List Nat}
    (hg : Good P f args' T v T') (ho : Ojt H π T) (hnd : π.Nodup) (hc : T.all (blkC (clo T.length 8)) = true) (e2 : back π (cm (cout π true H.length) 8) H T' = H2) (h : K s H2) (ha : CA fr H π true args.toList args') (e3 : sm (cm (cout π true H.length) 8) v = s) :
    ostep P ⟨od, .call ⟨.value (.func f), args, ats⟩, oty, ops_, oaf, ogu⟩ fr H K := by
  obtain ⟨avs, h1, h2⟩ := ha
  exact r_call π true rfl rfl h1 hnd ho.lt (by simpa using h2) (obj_pick hnd ho hc) hg e3 e2 h
theorem rlc_nm {π : List Nat} {τ : List (Nat × Bool)} (hu : uniqT τ = true) (hlt : ∀ x ∈ τ, x.1 < π.length) : ∀ (d : Nat) (c : Cell), bnd (fun p => τ.contains (p, true)) d c = true →
    cm (rlc (τ.map fun x => π.getD x.1 0)) d (cm ⟨nph τ, fun _ => none, true, false⟩ d c) = cm (rlc π) d c := by
  have key : ∀ p, (p, true) ∈ τ → ∃ i q, nph τ p = some i ∧ (τ.map fun x => π.getD x.1 0)[i]? = some q ∧ π[p]? = some q := by
    intro p hp
    have h1 : ∃ i, nfi p true τ = some i := by
      clear hu hlt
      induction τ with
      | nil => simp at hp
      | cons x r ih =>
        rcases List.mem_cons.1 hp with rfl | hp
        · exact ⟨0, by simp [nfi]⟩
        · obtain ⟨i, hi⟩ := ih hp
          obtain ⟨y, z⟩ := x
          by_cases he : y = p ∧ z = true
          · exact ⟨0, by simp [nfi, he.1, he.2]⟩
          · exact ⟨i + 1, by simp only [nfi, hi]; rw [if_neg (by simpa using he)]; rfl⟩
    obtain ⟨i, hi⟩ := h1
    have hn : nph τ p = some i := by simp [nph, hi]
    have hg := nph_get hn
    rw [Option.map_eq_some_iff] at hg
    obtain ⟨x, hx, he⟩ := hg
    have hl := hlt x (List.mem_of_getElem? hx)
    refine ⟨i, π.getD x.1 0, hn, by rw [List.getElem?_map, hx]; rfl, ?_⟩
    rw [← he, List.getD_eq_getElem?_getD, List.getElem?_eq_getElem hl]; rfl
  intro d
  induction d with
  | zero => intro c _; cases c <;> rfl
  | succ d ih =>
    intro c h
    cases c with
    | ptr p o =>
      simp only [bnd, List.contains_iff_mem] at h
      obtain ⟨i, q, h1, h2, h3⟩ := key p h
      simp only [cm, h1, rlc, h2, h3]
    | slc p o k sz =>
      simp only [bnd, List.contains_iff_mem] at h
      obtain ⟨i, q, h1, h2, h3⟩ := key p h
      simp only [cm, h1, rlc, h2, h3]
    | fn f cap =>
      simp only [bnd] at h
      simp only [cm, List.map_map, Cell.fn.injEq, true_and]
      exact List.map_congr_left fun c hc => ih c (List.all_eq_true.1 h c hc)
    | _ => rfl
theorem rlc_no {π : List Nat} : ∀ (d : Nat) (c : Cell), clo 0 d c = true → cm (rlc π) d c = c := by
  intro d
  induction d with
  | zero => intro c h; cases c <;> simp [clo] at h <;> rfl
  | succ d ih =>
    intro c h
    cases c with
    | ptr p o => simp [clo, Nat.blt] at h
    | slc p o n sz => simp [clo, Nat.blt] at h
    | fn f cap =>
      simp only [clo] at h
      simp only [cm, Cell.fn.injEq, true_and]
      conv => rhs; rw [← List.map_id cap]
      exact List.map_congr_left fun c hc => ih c (List.all_eq_true.1 h c hc)
    | nils => simp [clo] at h
    | ro n cs => simp [clo] at h
    | rop cs => simp [clo] at h
    | _ => rfl
theorem map_getD_nodup {π : List Nat} (hn : π.Nodup) : ∀ {l : List Nat}, l.Nodup → (∀ x ∈ l, x < π.length) → (l.map fun x => π.getD x 0).Nodup
  | [], _, _ => by simp
  | a :: l, h, hl => by
    rw [List.nodup_cons] at h
    rw [List.map_cons, List.nodup_cons]
    refine ⟨fun hm => ?_, map_getD_nodup hn h.2 fun x hx => hl x (List.mem_cons_of_mem _ hx)⟩
    obtain ⟨b, hb, he⟩ := List.mem_map.1 hm
    have h1 := hl a (List.mem_cons_self ..)
    have h2 := hl b (List.mem_cons_of_mem _ hb)
    rw [List.getD_eq_getElem?_getD, List.getD_eq_getElem?_getD, List.getElem?_eq_getElem h1, List.getElem?_eq_getElem h2] at he
    simp only [Option.getD_some] at he
    have := (List.getElem_inj hn).1 he
    exact h.1 (this ▸ hb)
theorem sep_sub {H : Heap} {π : List Nat} {T T2 : Heap} {os : List (List Nat × Heap)} {rs : List (Nat × List Cell)} (h : Apt H ((π, T) :: os) rs) (τ : List (Nat × Bool)) (js : List (Nat × List Cell)) (hu : uniqT τ = true) (hnd : (τ.map (·.1) ++ js.map (·.1)).Nodup)
    (hlt : (τ.map (·.1) ++ js.map (·.1)).all (fun p => Nat.blt p T.length) = true) (htr : τ.all (·.2) = true) (hT : renL τ τ T = T2) (hb : ∀ x ∈ τ, ∀ cs, T[x.1]? = some (some cs) → ∀ c ∈ cs, bnd (fun p => τ.contains (p, true)) 8 c = true)
    (hx : ∀ r ∈ js, T[r.1]? = some (some r.2) ∧ ∀ c ∈ r.2, clo 0 8 c = true) : Apt H ((τ.map (fun x => π.getD x.1 0), T2) :: os) (js.map (fun r => (π.getD r.1 0, r.2)) ++ rs) := by
  have hO := h.ob (π, T) (List.mem_cons_self ..)
  have hlen : T.length = π.length := hO.len
  have hl : ∀ p ∈ τ.map (·.1) ++ js.map (·.1), p < π.length := fun p hp => by
    have := List.all_eq_true.1 hlt p hp
    rw [← hlen]; simpa [Nat.blt_eq] using this
  have hnd0 := h.nd
  rw [List.flatMap_cons, List.append_assoc, List.nodup_append] at hnd0
  obtain ⟨n1, n2, n3⟩ := hnd0
  have hperm : (((τ.map (fun x => π.getD x.1 0), T2) :: os).flatMap (·.1) ++ (js.map (fun r => (π.getD r.1 0, r.2)) ++ rs).map (·.1)).Perm (((τ.map (·.1) ++ js.map (·.1)).map fun x => π.getD x 0) ++ (os.flatMap (·.1) ++ rs.map (·.1))) := by
    simp only [List.flatMap_cons, List.map_append, List.map_map, Function.comp_def, List.append_assoc]
    refine List.Perm.append_left _ ?_
    rw [← List.append_assoc, ← List.append_assoc]
    exact List.Perm.append_right _ List.perm_append_comm
  refine ⟨hperm.nodup_iff.2 ?_, ?_, ?_⟩
  · rw [List.nodup_append]
    refine ⟨map_getD_nodup n1 hnd hl, n2, fun a ha b hb => ?_⟩
    obtain ⟨x, hx1, rfl⟩ := List.mem_map.1 ha
    have hxl := hl x hx1
    refine n3 _ ?_ b hb
    rw [List.getD_eq_getElem?_getD, List.getElem?_eq_getElem hxl]
    exact List.getElem_mem hxl
  · intro o ho
    rcases List.mem_cons.1 ho with rfl | ho
    · subst hT
      refine ⟨by simp [renL], fun j p b h1 h2 => ?_⟩
      simp only [List.getElem?_map, Option.map_eq_some_iff] at h1
      obtain ⟨x, hx1, rfl⟩ := h1
      simp only [renL, List.getElem?_map, hx1, Option.map_some, Option.some.injEq] at h2
      have hxm := List.mem_of_getElem? hx1
      have hx2 : x.2 = true := List.all_eq_true.1 htr x hxm
      rw [hx2, if_pos rfl] at h2
      have hxl := hl x.1 (List.mem_append_left _ (List.mem_map.2 ⟨x, hxm, rfl⟩))
      have hp : π[x.1]? = some (π.getD x.1 0) := by rw [List.getD_eq_getElem?_getD, List.getElem?_eq_getElem hxl]; rfl
      have hTx : T[x.1]? = some T[x.1] := List.getElem?_eq_getElem (by rw [hlen]; exact hxl)
      have := hO.at_ x.1 _ _ hp hTx
      rw [this]
      subst h2
      unfold pick
      rw [hTx]
      cases hTT : T[x.1] with
      | none => rfl
      | some cs =>
        simp only [Option.map_some, List.map_map, Option.some.injEq]
        refine List.map_congr_left fun c hc => ?_
        rw [hTT] at hTx
        exact (rlc_nm hu (fun y hy => hl y.1 (List.mem_append_left _ (List.mem_map.2 ⟨y, hy, rfl⟩))) 8 c (hb x hxm cs hTx c hc)).symm
    · exact h.ob o (List.mem_cons_of_mem _ ho)
  · intro r hr
    rcases List.mem_append.1 hr with hr | hr
    · obtain ⟨y, hy, rfl⟩ := List.mem_map.1 hr
      obtain ⟨h1, h2⟩ := hx y hy
      have hyl := hl y.1 (List.mem_append_right _ (List.mem_map.2 ⟨y, hy, rfl⟩))
      have hp : π[y.1]? = some (π.getD y.1 0) := by rw [List.getD_eq_getElem?_getD, List.getElem?_eq_getElem hyl]; rfl
      have := hO.at_ y.1 _ _ hp h1
      simp only
      rw [this]
      simp only [Option.map_some, Option.some.injEq]
      conv => rhs; rw [← List.map_id y.2]
      exact List.map_congr_left fun c hc => rlc_no 8 c (h2 c hc)
    · exact h.rw_ r hr
theorem sep_new {H : Heap} {os : List (List Nat × Heap)} {rs : List (Nat × List Cell)} (h : Apt H os rs) (cs : List Cell) : Apt (H ++ [some cs]) os ((H.length, cs) :: rs) := by
  refine ⟨?_, fun o ho => (h.ob o ho).frame fun p hp => ?_, fun r hr => ?_⟩
  · have hp : (os.flatMap (·.1) ++ ((H.length, cs) :: rs).map (·.1)).Perm (H.length :: (os.flatMap (·.1) ++ rs.map (·.1))) := by
      rw [List.map_cons]; exact List.perm_middle
    rw [hp.nodup_iff, List.nodup_cons]
    exact ⟨fun hm => absurd (h.lt _ hm) (Nat.lt_irrefl _), h.nd⟩
  · exact List.getElem?_append_left ((h.ob o ho).lt p hp)
  · rcases List.mem_cons.1 hr with rfl | hr
    · simp
    · rw [List.getElem?_append_left (List.getElem?_eq_some_iff.1 (h.rw_ r hr)).1]; exact h.rw_ r hr
theorem sep_drop {H : Heap} {os : List (List Nat × Heap)} {p : Nat} {cs : List Cell} {b : Option (List Cell)} {rs : List (Nat × List Cell)} (h : Apt H os ((p, cs) :: rs)) : Apt (H.set p b) os rs := by
  have hn := h.nd
  have hp : (os.flatMap (·.1) ++ ((p, cs) :: rs).map (·.1)).Perm (p :: (os.flatMap (·.1) ++ rs.map (·.1))) := by
    rw [List.map_cons]; exact List.perm_middle
  rw [hp.nodup_iff, List.nodup_cons] at hn
  refine ⟨hn.2, fun o ho => (h.ob o ho).frame fun q hq => ?_, fun r hr => ?_⟩
  · rw [List.getElem?_set_ne]
    rintro rfl
    exact hn.1 (List.mem_append_left _ (List.mem_flatMap.2 ⟨o, ho, hq⟩))
  · rw [List.getElem?_set_ne]
    · exact h.rw_ r (List.mem_cons_of_mem _ hr)
    · rintro rfl
      exact hn.1 (List.mem_append_right _ (List.mem_map.2 ⟨r, hr, rfl⟩))
theorem sep_less {H : Heap} {os : List (List Nat × Heap)} {x : Nat × List Cell} {rs : List (Nat × List Cell)} (h : Apt H os (x :: rs)) : Apt H os rs := by
  have hn := h.nd
  have hp : (os.flatMap (·.1) ++ (x :: rs).map (·.1)).Perm (x.1 :: (os.flatMap (·.1) ++ rs.map (·.1))) := by
    rw [List.map_cons]; exact List.perm_middle
  rw [hp.nodup_iff, List.nodup_cons] at hn
  exact ⟨hn.2, h.ob, fun r hr => h.rw_ r (List.mem_cons_of_mem _ hr)⟩
theorem sep_perm {H : Heap} {os : List (List Nat × Heap)} {rs rs' : List (Nat × List Cell)} (h : Apt H os rs) (hp : rs.Perm rs') : Apt H os rs' :=
  ⟨((List.Perm.append_left _ (hp.map _)).nodup_iff).1 h.nd, h.ob, fun r hr => h.rw_ r (hp.mem_iff.2 hr)⟩
theorem sep_noob {H : Heap} {o : List Nat × Heap} {os : List (List Nat × Heap)} {rs : List (Nat × List Cell)} (h : Apt H (o :: os) rs) : Apt H os rs := by
  have hn := h.nd
  rw [List.flatMap_cons, List.append_assoc, List.nodup_append] at hn
  exact ⟨hn.2.1, fun x hx => h.ob x (List.mem_cons_of_mem _ hx), h.rw_⟩
theorem sep_out {H : Heap} {π : List Nat} {T : Heap} {os : List (List Nat × Heap)} {rs : List (Nat × List Cell)} (h : Apt H ((π, T) :: os) rs) {r : Nat × List Cell} (hr : r ∈ rs) : idx r.1 π = none := by
  have hn := h.nd
  rw [List.flatMap_cons, List.append_assoc, List.nodup_append] at hn
  exact idx_no fun hm => hn.2.2 _ hm _ (List.mem_append_right _ (List.mem_map.2 ⟨r, hr, rfl⟩)) rfl
theorem Apt.hnd {H : Heap} {π : List Nat} {T : Heap} {os : List (List Nat × Heap)} {rs : List (Nat × List Cell)} (h : Apt H ((π, T) :: os) rs) : π.Nodup := by
  have hn := h.nd
  rw [List.flatMap_cons, List.append_assoc, List.nodup_append] at hn
  exact hn.1
theorem Apt.hob {H : Heap} {π : List Nat} {T : Heap} {os : List (List Nat × Heap)} {rs : List (Nat × List Cell)} (h : Apt H ((π, T) :: os) rs) : Ojt H π T := h.ob _ (List.mem_cons_self ..)
theorem clo_mapc {α : Type} {k : IntKind} {g : α → Int} {l : List α} {n d : Nat} : ∀ c ∈ mapc k g l, clo n (d + 1) c = true := by
  intro c hc
  obtain ⟨a, _, rfl⟩ := List.mem_map.1 hc
  rfl
theorem bnd_mapc {α : Type} {k : IntKind} {g : α → Int} {l : List α} {q : Nat → Bool} {d : Nat} : ∀ c ∈ mapc k g l, bnd q (d + 1) c = true := by
  intro c hc
  obtain ⟨a, _, rfl⟩ := List.mem_map.1 hc
  rfl
theorem all_clo {α : Type} {k : IntKind} {g : α → Int} {l : List α} {n d : Nat} : (mapc k g l).all (clo n (d + 1)) = true := List.all_eq_true.2 clo_mapc
theorem all_bnd {α : Type} {k : IntKind} {g : α → Int} {l : List α} {q : Nat → Bool} {d : Nat} : (mapc k g l).all (bnd q (d + 1)) = true := List.all_eq_true.2 bnd_mapc
end Go.Abs

/- What functions of the program do, walked over the abstract machine. -/
namespace Go.Proofs.Ytklcckngmmklhaa
open Go Go.Abs Go.Proofs Go.Proofs.Ytklcckngmmklhaa.Ch Go.Proofs.Ytklcckngmmklhaa.Po Go.Proofs.Ytklcckngmmklhaa.Ae Go.Proofs.Ytklcckngmmklhaa.Wd
set_option maxRecDepth 20000
def cT (k r hash : List UInt8) (es sent : UInt64) (l : List UInt64) (wg wb : UInt64) : Heap := [some (chC es (grl l / 64) 2 (decide (es ≠ 0)) 4 6 (decide ((grl l / 64) ≠ 0)) 8 sent 1 (grl l) (decide (0 < (l : List UInt64).length)) hash), some (wcs true wg wb), some (cC (.ptr 3 0) 0), some (u8s (S0 k es.toNat)), cb (decide (es ≠ 0)) 5, kb (decide (es ≠ 0)) (S1 k es.toNat), some (cC (.ptr 7 0) 0), some (u8s (S0 r (grl l / 64).toNat)), cb (decide ((grl l / 64) ≠ 0)) 9, kb (decide ((grl l / 64) ≠ 0)) (S1 r (grl l / 64).toNat)]
theorem all_cb (q : Cell → Bool) {h : Bool} {p : Nat} (hq : q (.ptr p 0) = true ∧ q (c64 0) = true ∧ q (.bool true) = true) : blkC q (cb h p) = true := by
  cases h
  · rfl
  · show ([.ptr p 0, c64 0, .bool true] : List Cell).all q = true
    simp [hq]
theorem all_kb {q : Nat → Bool} {h : Bool} {K : List UInt8} : blkC (bnd q 8) (kb h K) = true := by
  cases h
  · rfl
  · exact all_bnd
theorem all_kc {n : Nat} {h : Bool} {K : List UInt8} : blkC (clo n 8) (kb h K) = true := by
  cases h
  · rfl
  · exact all_clo
theorem all_ch (q : Cell → Bool) {es er sent g : UInt64} {p0 p1 q0 q1 w : Nat} {h1 h3 any : Bool} {hash : List UInt8} (hp : ∀ p ∈ [p0, p1, q0, q1, w], q (.ptr p 0) = true) (hn : q .nilp = true) (hi : ∀ n : UInt64, q (c64 n) = true) (hb : ∀ b, q (.bool b) = true) (hh : (u8s hash).all q = true) :
    blkC q (some (chC es er p0 h1 p1 q0 h3 q1 sent w g any hash)) = true := by
  have k1 : q (kp h1 p1) = true := by cases h1; exact hn; exact hp _ (by simp)
  have k3 : q (kp h3 q1) = true := by cases h3; exact hn; exact hp _ (by simp)
  show List.all (chC es er p0 h1 p1 q0 h3 q1 sent w g any hash) q = true
  simp only [List.all_cons, hi, hb, k1, k3, hh, hp p0 (by simp), hp q0 (by simp), hp w (by simp), Bool.and_self]
theorem allb {q : Cell → Bool} {b : Option (List Cell)} {T : Heap} (h : blkC q b = true) (r : T.all (blkC q) = true) : (b :: T : Heap).all (blkC q) = true := by
  rw [List.all_cons, h, r]; rfl
theorem cT_clo (k r hash : List UInt8) (es sent : UInt64) (l : List UInt64) (wg wb : UInt64) : (cT k r hash es sent l wg wb).all (blkC (clo (cT k r hash es sent l wg wb).length 8)) = true := by
  show List.all (cT k r hash es sent l wg wb) (blkC (clo 10 8)) = true
  unfold cT
  exact (allb (all_ch _ (fun p hp => by revert p; decide) rfl (fun _ => rfl) (fun _ => rfl) all_clo) (allb rfl (allb rfl (allb all_clo (allb (all_cb _ ⟨rfl, rfl, rfl⟩) (allb all_kc (allb rfl (allb all_clo (allb (all_cb _ ⟨rfl, rfl, rfl⟩) (allb all_kc rfl))))))))))
theorem new_at {π : List Nat} {n m i : Nat} (h : π.length = m) : (cout π true n).fp (m + i) = some (n + i) := by
  show (match π[m + i]? with | some q => some q | none => some (n + (m + i - π.length))) = _
  rw [List.getElem?_eq_none (by omega)]
  simp only [Option.some.injEq]; omega
theorem res_new {π : List Nat} {n m i q len sz : Nat} (h : π.length = m) : vm (cm (cout π true n) 8) (.c (.slc (m + i) q len sz)) = .c (.slc (n + i) q len sz) := by
  simp only [vm, cm, new_at h]
theorem getD_old {π : List Nat} {n k j : Nat} (h : j < π.length) : (π ++ List.range' n k).getD j 0 = π.getD j 0 := by
  rw [List.getD_eq_getElem?_getD, List.getD_eq_getElem?_getD, List.getElem?_append_left h]
theorem getD_new {π : List Nat} {n k m i : Nat} (h : π.length = m) (hi : i < k) : (π ++ List.range' n k).getD (m + i) 0 = n + i := by
  rw [List.getD_eq_getElem?_getD, List.getElem?_append_right (by omega), List.getElem?_range' (by omega)]
  simp only [Option.getD_some]; omega
theorem at0 {π : List Nat} {p : Nat} (hl : π.length = 10) (h : π.getD 0 0 = p) : π[0]? = some p := by
  rw [List.getD_eq_getElem?_getD, List.getElem?_eq_getElem (by omega)] at h
  rw [List.getElem?_eq_getElem (by omega)]; exact congrArg some h
def sealT (k r hash : List UInt8) (es sent : UInt64) (l : List UInt64) (wg wb : UInt64) (c : List UInt8) : Heap := [some (chC (sent / 64) (grl l / 64) 10 (decide ((sent / 64) ≠ 0)) 12 6 (decide ((grl l / 64) ≠ 0)) 8 (sent + 1) 1 (grl l) (decide (0 < (l : List UInt64).length)) hash), some (wcs true wg wb), none, none, none, none, some (cC (.ptr 7 0) 0), some (u8s (S0 r (grl l / 64).toNat)), cb (decide ((grl l / 64) ≠ 0)) 9, kb (decide ((grl l / 64) ≠ 0)) (S1 r (grl l / 64).toNat), some (cC (.ptr 11 0) 0), some (u8s (S0 k (sent / 64).toNat)), cb (decide ((sent / 64) ≠ 0)) 13, kb (decide ((sent / 64) ≠ 0)) (S1 k (sent / 64).toNat), some (u8s (fr19 k hash sent c))]
theorem sealT_bnd (k r hash : List UInt8) (es sent : UInt64) (l : List UInt64) (wg wb : UInt64) (c : List UInt8) : (sealT k r hash es sent l wg wb c).all (blkC (bnd (fun p => Nat.blt p (sealT k r hash es sent l wg wb c).length) 8)) = true := by
  show List.all (sealT k r hash es sent l wg wb c) (blkC (bnd (fun p => Nat.blt p 15) 8)) = true
  unfold sealT
  exact (allb (all_ch _ (fun p hp => by revert p; decide) rfl (fun _ => rfl) (fun _ => rfl) all_bnd) (allb rfl (allb rfl (allb rfl (allb rfl (allb rfl (allb rfl (allb all_bnd (allb (all_cb _ ⟨rfl, rfl, rfl⟩) (allb all_kb (allb rfl (allb all_bnd (allb (all_cb _ ⟨rfl, rfl, rfl⟩) (allb all_kb (allb all_bnd rfl)))))))))))))))
theorem sealT_ren (k r hash : List UInt8) (es sent : UInt64) (l : List UInt64) (wg wb : UInt64) (c : List UInt8) : renL [(0, true), (1, true), (10, true), (11, true), (12, true), (13, true), (6, true), (7, true), (8, true), (9, true)] [(0, true), (1, true), (10, true), (11, true), (12, true), (13, true), (6, true), (7, true), (8, true), (9, true)] (sealT k r hash es sent l wg wb c) = cT k r hash (sent / 64) (sent + 1) l wg wb := (rlT rfl (chC_map rfl rfl rfl rfl rfl) (rlT rfl rfl (rlT rfl rfl (rlT rfl sees_m (rlB rfl (cb_map rfl) (rlB rfl kb_map (rlT rfl rfl (rlT rfl sees_m (rlB rfl (cb_map rfl) (rlB rfl kb_map rl0))))))))))
theorem sealT_tau (k r hash : List UInt8) (es sent : UInt64) (l : List UInt64) (wg wb : UInt64) (c : List UInt8) : ∀ x ∈ ([(0, true), (1, true), (10, true), (11, true), (12, true), (13, true), (6, true), (7, true), (8, true), (9, true)] : List (Nat × Bool)), ∀ cs, (sealT k r hash es sent l wg wb c)[x.1]? = some (some cs) → ∀ c ∈ cs, bnd (fun p => ([(0, true), (1, true), (10, true), (11, true), (12, true), (13, true), (6, true), (7, true), (8, true), (9, true)] : List (Nat × Bool)).contains (p, true)) 8 c = true := by
  intro x hx cs hcs
  have h : List.all (([(0, true), (1, true), (10, true), (11, true), (12, true), (13, true), (6, true), (7, true), (8, true), (9, true)] : List (Nat × Bool)).map fun x => ((sealT k r hash es sent l wg wb c)[x.1]?).getD none) (blkC (bnd (fun p => ([(0, true), (1, true), (10, true), (11, true), (12, true), (13, true), (6, true), (7, true), (8, true), (9, true)] : List (Nat × Bool)).contains (p, true)) 8)) = true := by
    unfold sealT
    simp only [List.map_cons, List.map_nil, List.getElem?_cons_zero, List.getElem?_cons_succ, Option.getD_some]
    exact (allb (all_ch _ (fun p hp => by revert p; decide) rfl (fun _ => rfl) (fun _ => rfl) all_bnd) (allb rfl (allb rfl (allb all_bnd (allb (all_cb _ ⟨rfl, rfl, rfl⟩) (allb all_kb (allb rfl (allb all_bnd (allb (all_cb _ ⟨rfl, rfl, rfl⟩) (allb all_kb rfl))))))))))
  have h2 := List.all_eq_true.1 h _ (List.mem_map.2 ⟨x, hx, rfl⟩)
  rw [hcs] at h2
  exact List.all_eq_true.1 h2
theorem seal_at (k r hash : List UInt8) (es sent : UInt64) (l : List UInt64) (wg wb : UInt64) (c : List UInt8) {H : Heap} {π : List Nat} {os : List (List Nat × Heap)} {rs : List (Nat × List Cell)} {p : Nat} (h : Apt H ((π, cT k r hash es sent l wg wb) :: os) rs) (h0 : π.getD 0 0 = p) : ∃ H2 π2, back π (cm (cout π true H.length) 8) H (sealT k r hash es sent l wg wb c) = H2 ∧ H2.length = H.length + 5 ∧ Apt H2 ((π2, cT k r hash (sent / 64) (sent + 1) l wg wb) :: os) ((H.length + 4, u8s (fr19 k hash sent c)) :: rs) ∧ π2.getD 0 0 = p ∧ π2.length = 10 := by
  have hl : π.length = 10 := h.hob.len.symm
  obtain ⟨H2, e, hn, hA⟩ := sep_call (T' := sealT k r hash es sent l wg wb c) h (by show 10 ≤ 15; decide) (sealT_bnd k r hash es sent l wg wb c)
  have hA2 := sep_sub hA [(0, true), (1, true), (10, true), (11, true), (12, true), (13, true), (6, true), (7, true), (8, true), (9, true)] [(14, u8s (fr19 k hash sent c))] (by rfl) (by show ([0, 1, 10, 11, 12, 13, 6, 7, 8, 9, 14] : List Nat).Nodup; decide) (by rfl) (by rfl) (sealT_ren k r hash es sent l wg wb c) (sealT_tau k r hash es sent l wg wb c) (fun r hr => by
    rw [List.mem_singleton.1 hr]; exact ⟨rfl, clo_mapc⟩)
  refine ⟨H2, ([(0, true), (1, true), (10, true), (11, true), (12, true), (13, true), (6, true), (7, true), (8, true), (9, true)] : List (Nat × Bool)).map (fun x => (π ++ List.range' H.length 5).getD x.1 0), e, hn, ?_, ?_, ?_⟩
  · have e14 : (π ++ List.range' H.length 5).getD 14 0 = H.length + 4 := getD_new (m := 10) (i := 4) hl (by decide)
    have := hA2
    simp only [List.map_cons, List.map_nil, List.cons_append, List.nil_append] at this ⊢
    rw [show ((sealT k r hash es sent l wg wb c).length - (cT k r hash es sent l wg wb).length) = 5 from rfl, e14] at this
    exact this
  · show (π ++ List.range' H.length 5).getD 0 0 = p
    rw [getD_old (by omega), h0]
  · rw [List.length_map]; rfl
def openT (k r hash : List UInt8) (es sent : UInt64) (l : List UInt64) (wg wb : UInt64) (fr : List UInt8) : Heap := [some (chC es (grl (op19 r hash l fr).2.2.2 / 64) 2 (decide (es ≠ 0)) 4 10 (decide ((grl (op19 r hash l fr).2.2.2 / 64) ≠ 0)) 12 sent 1 (grl (op19 r hash l fr).2.2.2) (decide (0 < (op19 r hash l fr).2.2.2.length)) hash), some (wcs true (wn (op19 r hash l fr) wg wb).1 (wn (op19 r hash l fr) wg wb).2), some (cC (.ptr 3 0) 0), some (u8s (S0 k es.toNat)), cb (decide (es ≠ 0)) 5, kb (decide (es ≠ 0)) (S1 k es.toNat), none, none, none, none, some (cC (.ptr 11 0) 0), some (u8s (S0 r (grl (op19 r hash l fr).2.2.2 / 64).toNat)), cb (decide ((grl (op19 r hash l fr).2.2.2 / 64) ≠ 0)) 13, kb (decide ((grl (op19 r hash l fr).2.2.2 / 64) ≠ 0)) (S1 r (grl (op19 r hash l fr).2.2.2 / 64).toNat), some (u8s (op19 r hash l fr).1)]
theorem openT_bnd (k r hash : List UInt8) (es sent : UInt64) (l : List UInt64) (wg wb : UInt64) (fr : List UInt8) : (openT k r hash es sent l wg wb fr).all (blkC (bnd (fun p => Nat.blt p (openT k r hash es sent l wg wb fr).length) 8)) = true := by
  show List.all (openT k r hash es sent l wg wb fr) (blkC (bnd (fun p => Nat.blt p 15) 8)) = true
  unfold openT
  exact (allb (all_ch _ (fun p hp => by revert p; decide) rfl (fun _ => rfl) (fun _ => rfl) all_bnd) (allb rfl (allb rfl (allb all_bnd (allb (all_cb _ ⟨rfl, rfl, rfl⟩) (allb all_kb (allb rfl (allb rfl (allb rfl (allb rfl (allb rfl (allb all_bnd (allb (all_cb _ ⟨rfl, rfl, rfl⟩) (allb all_kb (allb all_bnd rfl)))))))))))))))
theorem openT_ren (k r hash : List UInt8) (es sent : UInt64) (l : List UInt64) (wg wb : UInt64) (fr : List UInt8) : renL [(0, true), (1, true), (2, true), (3, true), (4, true), (5, true), (10, true), (11, true), (12, true), (13, true)] [(0, true), (1, true), (2, true), (3, true), (4, true), (5, true), (10, true), (11, true), (12, true), (13, true)] (openT k r hash es sent l wg wb fr) = cT k r hash es sent (op19 r hash l fr).2.2.2 (wn (op19 r hash l fr) wg wb).1 (wn (op19 r hash l fr) wg wb).2 := (rlT rfl (chC_map rfl rfl rfl rfl rfl) (rlT rfl rfl (rlT rfl rfl (rlT rfl sees_m (rlB rfl (cb_map rfl) (rlB rfl kb_map (rlT rfl rfl (rlT rfl sees_m (rlB rfl (cb_map rfl) (rlB rfl kb_map rl0))))))))))
theorem openT_tau (k r hash : List UInt8) (es sent : UInt64) (l : List UInt64) (wg wb : UInt64) (fr : List UInt8) : ∀ x ∈ ([(0, true), (1, true), (2, true), (3, true), (4, true), (5, true), (10, true), (11, true), (12, true), (13, true)] : List (Nat × Bool)), ∀ cs, (openT k r hash es sent l wg wb fr)[x.1]? = some (some cs) → ∀ c ∈ cs, bnd (fun p => ([(0, true), (1, true), (2, true), (3, true), (4, true), (5, true), (10, true), (11, true), (12, true), (13, true)] : List (Nat × Bool)).contains (p, true)) 8 c = true := by
  intro x hx cs hcs
  have h : List.all (([(0, true), (1, true), (2, true), (3, true), (4, true), (5, true), (10, true), (11, true), (12, true), (13, true)] : List (Nat × Bool)).map fun x => ((openT k r hash es sent l wg wb fr)[x.1]?).getD none) (blkC (bnd (fun p => ([(0, true), (1, true), (2, true), (3, true), (4, true), (5, true), (10, true), (11, true), (12, true), (13, true)] : List (Nat × Bool)).contains (p, true)) 8)) = true := by
    unfold openT
    simp only [List.map_cons, List.map_nil, List.getElem?_cons_zero, List.getElem?_cons_succ, Option.getD_some]
    exact (allb (all_ch _ (fun p hp => by revert p; decide) rfl (fun _ => rfl) (fun _ => rfl) all_bnd) (allb rfl (allb rfl (allb all_bnd (allb (all_cb _ ⟨rfl, rfl, rfl⟩) (allb all_kb (allb rfl (allb all_bnd (allb (all_cb _ ⟨rfl, rfl, rfl⟩) (allb all_kb rfl))))))))))
  have h2 := List.all_eq_true.1 h _ (List.mem_map.2 ⟨x, hx, rfl⟩)
  rw [hcs] at h2
  exact List.all_eq_true.1 h2
theorem open_at (k r hash : List UInt8) (es sent : UInt64) (l : List UInt64) (wg wb : UInt64) (fr : List UInt8) {H : Heap} {π : List Nat} {os : List (List Nat × Heap)} {rs : List (Nat × List Cell)} {p : Nat} (h : Apt H ((π, cT k r hash es sent l wg wb) :: os) rs) (h0 : π.getD 0 0 = p) : ∃ H2 π2, back π (cm (cout π true H.length) 8) H (openT k r hash es sent l wg wb fr) = H2 ∧ H2.length = H.length + 5 ∧ Apt H2 ((π2, cT k r hash es sent (op19 r hash l fr).2.2.2 (wn (op19 r hash l fr) wg wb).1 (wn (op19 r hash l fr) wg wb).2) :: os) ((H.length + 4, u8s ((op19 r hash l fr).1)) :: rs) ∧ π2.getD 0 0 = p ∧ π2.length = 10 := by
  have hl : π.length = 10 := h.hob.len.symm
  obtain ⟨H2, e, hn, hA⟩ := sep_call (T' := openT k r hash es sent l wg wb fr) h (by show 10 ≤ 15; decide) (openT_bnd k r hash es sent l wg wb fr)
  have hA2 := sep_sub hA [(0, true), (1, true), (2, true), (3, true), (4, true), (5, true), (10, true), (11, true), (12, true), (13, true)] [(14, u8s ((op19 r hash l fr).1))] (by rfl) (by show ([0, 1, 2, 3, 4, 5, 10, 11, 12, 13, 14] : List Nat).Nodup; decide) (by rfl) (by rfl) (openT_ren k r hash es sent l wg wb fr) (openT_tau k r hash es sent l wg wb fr) (fun r hr => by
    rw [List.mem_singleton.1 hr]; exact ⟨rfl, clo_mapc⟩)
  refine ⟨H2, ([(0, true), (1, true), (2, true), (3, true), (4, true), (5, true), (10, true), (11, true), (12, true), (13, true)] : List (Nat × Bool)).map (fun x => (π ++ List.range' H.length 5).getD x.1 0), e, hn, ?_, ?_, ?_⟩
  · have e14 : (π ++ List.range' H.length 5).getD 14 0 = H.length + 4 := getD_new (m := 10) (i := 4) hl (by decide)
    have := hA2
    simp only [List.map_cons, List.map_nil, List.cons_append, List.nil_append] at this ⊢
    rw [show ((openT k r hash es sent l wg wb fr).length - (cT k r hash es sent l wg wb).length) = 5 from rfl, e14] at this
    exact this
  · show (π ++ List.range' H.length 5).getD 0 0 = p
    rw [getD_old (by omega), h0]
  · rw [List.length_map]; rfl
end Go.Proofs.Ytklcckngmmklhaa

/- What functions of the program do, walked over the abstract machine. -/
namespace Go.Proofs.Ytklcckngmmklhaa
open Go Go.Abs Go.Proofs Go.Proofs.Ytklcckngmmklhaa.Ch Go.Proofs.Ytklcckngmmklhaa.Po Go.Proofs.Ytklcckngmmklhaa.Ae Go.Proofs.Ytklcckngmmklhaa.Wd
set_option maxRecDepth 20000
structure A19 where
  kind : Int
  b : List UInt8
  n : UInt64
  at_ : Int
abbrev a19 : A19 := ⟨0, [], 0, 0⟩
def cA (x : A19) : List Cell := [ci x.kind, .ro x.b.length (u8s x.b), c64 x.n, ci x.at_]
structure P19 (n : Nat) where
  i : Nat
  es : UInt64
  sent : UInt64
  l : List UInt64
  wg : UInt64
  wb : UInt64
  hi : i ≤ n
  I : Inv l wg wb
  hM : ∀ x ∈ l, x.toNat ≤ 281474976710655
  hs : sent.toNat ≤ i
  he : es ≤ sent / 64
  hg : (grl l).toNat / 64 ≤ 16 * i
  hl : l.length ≤ i
theorem at_ok (a : Int) {n : Nat} (hn : 0 < n) : ∃ j : Nat, j < n ∧ ((a.tmod n) + n).tmod n = (j : Int) ∧ -(n : Int) < a.tmod n ∧ a.tmod n < (n : Int) := by
  have h1 : -(n : Int) < a.tmod n := by
    rcases Int.le_total 0 a with h | h
    · have := Int.tmod_nonneg (n : Int) h; omega
    · have h2 := Int.tmod_nonneg (n : Int) (show 0 ≤ -a by omega)
      have h3 := Int.tmod_lt_of_pos (-a) (show (0 : Int) < n by omega)
      rw [Int.neg_tmod] at h2 h3; omega
  have h2 : 0 ≤ a.tmod n + n := by omega
  have h3 : a.tmod n < (n : Int) := Int.tmod_lt_of_pos a (by omega)
  refine ⟨((a.tmod n + n).tmod n).toNat, ?_, ?_, h1, h3⟩
  · have := Int.tmod_lt_of_pos (a.tmod n + n) (show (0 : Int) < n by omega)
    have := Int.tmod_nonneg (n : Int) h2; omega
  · have := Int.tmod_nonneg (n : Int) h2; omega
end Go.Proofs.Ytklcckngmmklhaa

/- What functions of the program do, walked over the abstract machine. -/
namespace Go.Proofs.Ytklcckngmmklhaa
open Go Go.Abs Go.Proofs Go.Proofs.Ytklcckngmmklhaa.Ch Go.Proofs.Ytklcckngmmklhaa.Po Go.Proofs.Ytklcckngmmklhaa.Ae Go.Proofs.Ytklcckngmmklhaa.Wd
set_option maxRecDepth 20000
abbrev cq (q : Nat) : Cell := .slc q 0 26 1
structure C1 (a b hash : List UInt8) (m : Nat) where
  i : Nat
  H : Heap
  π : List Nat
  πd : List Nat
  es : UInt64
  fb : Nat
  qs : List Nat
  frs : List (Nat × List Cell)
  hi : i ≤ m
  hA : Apt H [(π, cT a b hash es (UInt64.ofNat i) [] 0 0), (πd, cT b a hash 0 0 [] 0 0)] ((fb, qs.map cq) :: frs)
  hq : qs.length = i
  hf : ∀ j, j < i → ∃ q, qs[j]? = some q ∧ (q, u8s (fr19 a hash (UInt64.ofNat j) [UInt8.ofNat j, 7])) ∈ frs
  he : es ≤ UInt64.ofNat i / 64
  h0 : π.getD 0 0 = 3
  hd : πd.getD 0 0 = 13
structure C2 (a b hash : List UInt8) (m n : Nat) (R : List (Nat × List Cell)) where
  i : Nat
  H : Heap
  π : List Nat
  l : List UInt64
  wg : UInt64
  wb : UInt64
  cb : Nat
  came : List Int
  top : Int
  hi : i ≤ n
  hA : Apt H [(π, cT b a hash 0 0 l wg wb)] ((cb, i64s came) :: R)
  h0 : π.getD 0 0 = 13
  I : Inv l wg wb
  hM : ∀ x ∈ l, x.toNat ≤ 281474976710655
  hl : l = came.map fun z => UInt64.ofNat z.toNat
  hc : ∀ z ∈ came, 0 ≤ z ∧ z < m
  hn : came.length ≤ i
  ht : top = if came = [] then -1 else ((grl l).toNat : Int)
theorem ofNat_nat {i : Nat} (h : i ≤ 1000000) : (UInt64.ofNat i).toNat = i := by rw [UInt64.toNat_ofNat', Nat.mod_eq_of_lt (by omega)]
theorem came_grl {came : List Int} {m : Nat} (hm : m ≤ 200) (hc : ∀ z ∈ came, 0 ≤ z ∧ z < m) : (grl (came.map fun z => UInt64.ofNat z.toNat)).toNat ≤ 200 := by
  refine grl_le fun x hx => ?_
  obtain ⟨z, hz, rfl⟩ := List.mem_map.1 hx
  have := hc z hz
  rw [ofNat_nat (by omega)]; omega
theorem came_mem {came : List Int} {m N : Nat} (hm : m ≤ 200) (hc : ∀ z ∈ came, 0 ≤ z ∧ z < m) (hN : N < m) : (UInt64.ofNat N ∈ came.map fun z => UInt64.ofNat z.toNat) ↔ (N : Int) ∈ came := by
  constructor
  · intro h
    obtain ⟨z, hz, e⟩ := List.mem_map.1 h
    have hz2 := hc z hz
    have h1 := congrArg UInt64.toNat e
    rw [ofNat_nat (by omega), ofNat_nat (by omega)] at h1
    rw [show (N : Int) = z by omega]; exact hz
  · intro h
    exact List.mem_map.2 ⟨(N : Int), h, rfl⟩
def sB (came : List Int) (top : Int) (N : Nat) : Bool := decide (0 ≤ top ∧ (N : Int) + 64 ≤ top) || came.contains (N : Int)
theorem sB_iff {came : List Int} {top : Int} {m N : Nat} {l : List UInt64} (hm : m ≤ 200) (hc : ∀ z ∈ came, 0 ≤ z ∧ z < m) (hN : N < m) (hl : l = came.map fun z => UInt64.ofNat z.toNat) (ht : top = if came = [] then -1 else ((grl l).toNat : Int)) :
    sB came top N = true ↔ (UInt64.ofNat N ∈ l ∨ (0 < l.length ∧ UInt64.ofNat N + 64 ≤ grl l)) := by
  subst hl
  rw [came_mem hm hc hN]
  unfold sB
  rw [Bool.or_eq_true, decide_eq_true_eq, List.contains_iff_mem]
  have hg := came_grl hm hc
  have e : (UInt64.ofNat N + 64).toNat = N + 64 := by rw [UInt64.toNat_add, ofNat_nat (by omega), show (64 : UInt64).toNat = 64 from rfl, Nat.mod_eq_of_lt (by omega)]
  rw [UInt64.le_iff_toNat_le, e, List.length_map]
  by_cases h0 : came = []
  · subst h0; simp at ht; subst ht; simp
  · rw [if_neg h0] at ht
    have hp : 0 < came.length := List.length_pos_iff.2 h0
    constructor
    · rintro (h | h)
      · exact .inr ⟨hp, by omega⟩
      · exact .inl h
    · rintro (h | h)
      · exact .inr h
      · exact .inl ⟨by omega, by omega⟩
theorem top_next {came : List Int} {top : Int} {m N : Nat} {l : List UInt64} (hm : m ≤ 200) (hN : N < m) (ht : top = if came = [] then -1 else ((grl l).toNat : Int)) (hl : l = came.map fun z => UInt64.ofNat z.toNat) :
    (top < (N : Int) → (N : Int) = if came ++ [(N : Int)] = [] then -1 else ((grl (l ++ [UInt64.ofNat N])).toNat : Int)) ∧ (¬ top < (N : Int) → top = if came ++ [(N : Int)] = [] then -1 else ((grl (l ++ [UInt64.ofNat N])).toNat : Int)) := by
  have hN2 : (UInt64.ofNat N).toNat = N := ofNat_nat (by omega)
  have h1 : ¬ came ++ [(N : Int)] = [] := by simp
  rw [if_neg h1, grl_app]
  unfold mx
  by_cases h0 : came = []
  · subst h0; simp at ht; subst ht; subst hl
    constructor
    · intro _; split
      · omega
      · rename_i h; rw [UInt64.lt_iff_toNat_lt, hN2] at h
        have : (grl (([] : List Int).map fun z => UInt64.ofNat z.toNat)).toNat = 0 := rfl
        omega
    · intro h; omega
  · rw [if_neg h0] at ht
    constructor
    · intro h; rw [if_pos (by rw [UInt64.lt_iff_toNat_lt, hN2]; omega)]; omega
    · intro h; rw [if_neg (by rw [UInt64.lt_iff_toNat_lt, hN2]; omega)]; omega
theorem seen_step {came : List Int} {k : Nat} {N : Int} {B : Bool} (hk : k < came.length) : (B || (came.take (k + 1)).contains N) = ((B || (came.take k).contains N) || decide (came.getD k 0 = N)) := by
  rw [List.take_succ_eq_append_getElem hk, Bool.or_assoc]
  congr 1
  rw [List.getD_eq_getElem?_getD, List.getElem?_eq_getElem hk, Option.getD_some]
  rw [Bool.eq_iff_iff, Bool.or_eq_true, List.contains_iff_mem, List.contains_iff_mem, decide_eq_true_eq, List.mem_append, List.mem_singleton]
  exact or_congr_right eq_comm
def ObL (H : Heap) (π0 π : List Nat) (T : Heap) : Prop := ∀ (j p : Nat) (b : Option (List Cell)), π[j]? = some p → T[j]? = some b → H[p]? = some (b.map (List.map (cm (rlc π0) 8)))
theorem obl0 {H : Heap} {π0 : List Nat} : ObL H π0 [] [] := fun j p b h => by simp at h
theorem obl1 {H T : Heap} {π0 π : List Nat} {p : Nat} {b b' : Option (List Cell)} (hp : H[p]? = some b') (hb : b.map (List.map (cm (rlc π0) 8)) = b') (h : ObL H π0 π T) : ObL H π0 (p :: π) (b :: T) := by
  intro j q d h1 h2
  cases j with
  | zero => simp at h1 h2; subst h1; subst h2; rw [hp, hb]
  | succ j => exact h j q d (by simpa using h1) (by simpa using h2)
end Go.Proofs.Ytklcckngmmklhaa


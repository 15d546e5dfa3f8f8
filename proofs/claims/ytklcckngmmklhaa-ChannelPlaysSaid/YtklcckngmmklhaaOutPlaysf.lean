/- Texts that the proof stands on, put together: the abstract machine, and what functions do over it. -/
import Derived.Test.YtklcckngmmklhaaOutPlayse
/- What functions of the program do, walked over the abstract machine. -/
namespace Go.Proofs.Ytklcckngmmklhaa
open Go Go.Abs Go.Proofs Go.Proofs.Ytklcckngmmklhaa.Ch Go.Proofs.Ytklcckngmmklhaa.Po Go.Proofs.Ytklcckngmmklhaa.Ae Go.Proofs.Ytklcckngmmklhaa.Wd
set_option maxRecDepth 20000
theorem cnew_ (a b hash : List UInt8) (ha : a.length = 32) (hb : b.length = 32) (hh : hash.length = 32) : Good Try.prog 16 [.c (.ptr 0 0), .c (.ptr 2 0), .a (u8s hash)] [some (cC (.ptr 1 0) 0), some (u8s a), some (cC (.ptr 3 0) 0), some (u8s b)] (sc (.ptr 4 0)) [some (cC (.ptr 1 0) 0), some (u8s a), some (cC (.ptr 3 0) 0), some (u8s b), some (chC 0 0 6 false 0 7 false 0 0 5 0 false hash), some (wcs true 0 0), some (cC (.ptr 1 0) 0), some (cC (.ptr 3 0) 0)] := by
  refine good_frm 35 Try.func16 rfl rfl rfl rfl rfl rfl ?_
  refine awp_seq ?_
  refine rln ?_
  refine G2 (fun _ k_ => q_boxa k_) ?_
  refine As ?_
  refine gend ?_
  refine awp_seq ?_
  refine awp_seq ?_
  refine rln ?_
  refine Mv ?_
  refine G2 (fun _ k_ => q_callp (has_k (u8s a) _) k_ (ha := (cac (et rfl) (sees_key rfl rfl ha rfl rfl) ca0))) ?_
  refine G (q_notb ?_)
  refine Mv ?_
  refine Asp 11 (fun hb4 => ?_) (fun hb4 => ?_)
  · refine Gn ?_
    refine Gn ?_
    refine Gn ?_
    refine G (q_pkt ?_)
    refine gend ?_
    refine cndT ?_
    refine awp_seq ?_
    refine rln ?_
    refine As ?_
    refine gend ?_
    refine awp_ret ?_
    exact Bool.noConfusion hb4
  refine Gg (q_mv (s := .v (.c _)) ?_)
  refine G2g (fun _ k_ => q_callp (has_k (u8s b) _) k_ (ha := (cac (et rfl) (sees_key rfl rfl hb rfl rfl) ca0))) ?_
  refine Gg (q_notb ?_)
  refine G (q_pkf ?_)
  refine gend ?_
  refine cndbn (fun hc1 => ?_) (fun hc1 => ?_)
  · refine awp_seq ?_
    refine rln ?_
    refine As ?_
    refine gend ?_
    refine awp_ret ?_
    exact Bool.noConfusion hc1
  refine awp_skip ?_
  refine awp_seq ?_
  refine rdln [0, 3] [0, 0, 1, 1, 2] [1, 1, 1, 2, 2] ?_
  refine De2 (fun _ k_ => q_calln new k_ (ha := ca0)) ?_
  refine DLw ?_
  refine Dp (fun _ => q_bls (fkc rfl (et rfl) rfl (Nat.le_of_ble_eq_true rfl) (fka rfl (et rfl) ((mapc_length ..).trans hh) (by first | decide +kernel | decide) (fk0 ⟨rfl, rfl⟩)))) ?_
  refine De2 (fun _ k_ => q_boxa k_) ?_
  refine Dp (fun _ => q_as (s := .v (.c _)) ⟨rfl, rfl⟩) ?_
  refine dend ?_
  refine awp_seq ?_
  refine rdln [3, 5, 10, 15] [0, 0, 0, 0, 0, 1, 0, 0, 0, 2, 2, 0, 0, 0, 3, 3] [2, 3, 0, 1, 1, 2, 2, 2, 2, 2, 3, 3, 3, 3, 3, 4] ?_
  refine Dp (fun _ => q_mv (s := .v (.c _)) ⟨rfl, rfl⟩) ?_
  refine Dp (fun _ => q_mv (s := .v (.c _)) ⟨rfl, rfl⟩) ?_
  refine Dp (fun _ => q_mv (s := .v (.c _)) ⟨rfl, rfl⟩) ?_
  refine De2 (fun _ k_ => q_callv [0, 1] [some (cC (.ptr 1 0) 0), some (u8s a)] [some (cC (.ptr 1 0) 0)] (copy_k a 0) k_ (ha := (cac (et rfl) rfl ca0)) (e2 := (pl1 rfl rfl (pl1 rfl sees_m pl0))) (eL := (ml1 rfl (ml1 sees_m ml0))) (eM := (ml1 rfl ml0))) ?_
  refine Dp (fun _ => q_mv (s := .v (.c _)) ⟨rfl, rfl⟩) ?_
  refine De2 (fun _ k_ => q_callv [2, 3] [some (cC (.ptr 1 0) 0), some (u8s b)] [some (cC (.ptr 1 0) 0)] (copy_k b 0) k_ (ha := (cac (et rfl) rfl ca0)) (e2 := (pl1 rfl rfl (pl1 rfl sees_m pl0))) (eL := (ml1 rfl (ml1 sees_m ml0))) (eM := (ml1 rfl ml0))) ?_
  refine Dp (fun _ => q_ncp ⟨rfl, rfl⟩) ?_
  refine Dp (fun _ => q_fap0 ⟨rfl, rfl⟩) ?_
  refine Dp (fun _ => q_fap0 ⟨rfl, rfl⟩) ?_
  refine Dp (fun _ => q_ixp ⟨rfl, rfl⟩) ?_
  refine De20 (fun _ k_ => q_st k_) ?_
  refine Dp (fun _ => q_ncp ⟨rfl, rfl⟩) ?_
  refine Dp (fun _ => q_fap0 ⟨rfl, rfl⟩) ?_
  refine Dp (fun _ => q_fap ⟨rfl, rfl⟩) ?_
  refine Dp (fun _ => q_ixp ⟨rfl, rfl⟩) ?_
  refine De20 (fun _ k_ => q_st k_) ?_
  refine dend ?_
  refine awp_seq ?_
  refine rln ?_
  refine Mv ?_
  refine As ?_
  refine gend ?_
  refine awp_ret ?_
  exact fx1 [0, 1, 2, 3, 6, 5, 7, 8] (hm0 := rfl) (hH := (pl1 rfl rfl (pl1 rfl sees_m (pl1 rfl rfl (pl1 rfl sees_m (pl1 rfl (by rw [ch_spl hh]; show List.map (cm _ (7 + 1)) (chC 0 0 7 false 0 8 false 0 0 5 0 false hash) = _; exact chC_map rfl rfl rfl rfl rfl) (pl1 rfl rfl (pl1 rfl rfl (pl1 rfl rfl pl0))))))))) (hn := piB rfl)
end Go.Proofs.Ytklcckngmmklhaa

/- What functions of the program do, walked over the abstract machine. -/
namespace Go.Proofs.Ytklcckngmmklhaa
open Go Go.Abs Go.Proofs Go.Proofs.Ytklcckngmmklhaa.Ch Go.Proofs.Ytklcckngmmklhaa.Po Go.Proofs.Ytklcckngmmklhaa.Ae Go.Proofs.Ytklcckngmmklhaa.Wd
set_option maxRecDepth 20000
theorem ch_hash {a b c d e f g h i j : Cell} {hash : List UInt8} (hh : hash.length = 32) : ((a :: b :: c :: d :: e :: f :: g :: h :: i :: j :: u8s hash).drop 10).take (32 * 1) = u8s hash := by
  show (u8s hash).take 32 = _
  exact List.take_of_length_le (by rw [mapc_length, hh]; exact Nat.le_refl _)
set_option maxHeartbeats 1600000 in
theorem chseal_m0 (k r hash : List UInt8) (es er sent g : UInt64) (any : Bool) (wg wb : UInt64) (hk : k.length = 32) (hr : r.length = 32) (hh : hash.length = 32) (c : List UInt8) (n : Nat) (hc : c.length = n) (hn : n ≤ 4096) (hs : ¬ 281474976710655 < sent) (hm : mx es (sent / 64) = sent / 64) (he : (sent / 64).toNat % 2 = 0) : Good Try.prog 10 [.c (.ptr 0 0), .c (.ro n (u8s c))] [some (chC es er 2 (decide (es ≠ 0)) 4 6 (decide (er ≠ 0)) 8 sent 1 g any hash), some (wcs true wg wb), some (cC (.ptr 3 0) 0), some (u8s (S0 k es.toNat)), cb (decide (es ≠ 0)) 5, kb (decide (es ≠ 0)) (S1 k es.toNat), some (cC (.ptr 7 0) 0), some (u8s (S0 r er.toNat)), cb (decide (er ≠ 0)) 9, kb (decide (er ≠ 0)) (S1 r er.toNat)] (.t [.c (.slc 14 0 (8 + (n + 16)) 1), .c (cn 0)]) [some (chC (sent / 64) er 10 (decide ((sent / 64) ≠ 0)) 12 6 (decide (er ≠ 0)) 8 (sent + 1) 1 g any hash), some (wcs true wg wb), none, none, none, none, some (cC (.ptr 7 0) 0), some (u8s (S0 r er.toNat)), cb (decide (er ≠ 0)) 9, kb (decide (er ≠ 0)) (S1 r er.toNat), some (cC (.ptr 11 0) 0), some (u8s (S0 k (sent / 64).toNat)), cb (decide ((sent / 64) ≠ 0)) 13, kb (decide ((sent / 64) ≠ 0)) (S1 k (sent / 64).toNat), some (u8s (fr19 k hash sent c))] := by
  have hv := (S0_even (k := k) he).2.2
  have hA : (S0 k (sent / 64).toNat).length = 32 := S0_len hk _
  have hp : (sent / 64 % 2).toNat = 0 := (mod2_nat _).trans he
  have gm := move_s es er sent g (decide (er ≠ 0)) any hash k (S0 r er.toNat) (S1 r er.toNat) wg wb (sent / 64) hk
  rw [hm] at gm
  have gs := cseal_ok (S0 k (sent / 64).toNat) hash c sent 32 n hA hh (by decide) hc (by omega) (fun h => hs (by rw [h]; decide))
  have hXl := aseal_len (S0 k (sent / 64).toNat) (anonce sent) hash c
  have gp := put sent 8 (by decide) (by decide) (.inl rfl)
  have hPl := pwb_len sent 8 8
  rw [hc] at hXl
  rw [fr19, ← hv, ← pwb_fbl]
  obtain ⟨X, hX⟩ : ∃ z, aseal (S0 k (sent / 64).toNat) (anonce sent) hash c = z := ⟨_, rfl⟩
  rw [hX] at gs hXl ⊢
  obtain ⟨Y, hY⟩ : ∃ z, pwb sent 8 8 = z := ⟨_, rfl⟩
  rw [hY] at gp hPl ⊢
  refine good_frm 82 Try.func10 rfl rfl rfl rfl rfl rfl ?_
  refine awp_seq ?_
  refine rln ?_
  refine As ?_
  refine G (q_as (s := sc (cn 0)) ?_)
  refine gend ?_
  refine awp_seq ?_
  refine awp_block ?_
  refine awp_seq ?_
  refine rln ?_
  refine Mv ?_
  refine G2 (fun _ k_ => q_callp (cthere _ _ _ _ _ _ _ _ _ _ _) k_ (ha := (cac (et rfl) (sees_ch rfl rfl rfl rfl) ca0))) ?_
  refine G (q_notb ?_)
  refine As ?_
  refine gend ?_
  refine cndbnN (fun hc1 => ?_) ?_; rotate_left
  · exact rfl
  refine awp_seq ?_
  refine rln ?_
  refine Mv ?_
  refine G (q_leno ?_)
  refine G (q_gtrn (y := 4096) ?_)
  refine As ?_
  refine gend ?_
  refine cndN (fun hc2 => ?_) ?_; rotate_left
  · omega
  refine awp_seq ?_
  refine rln ?_
  refine Mv ?_
  refine G (q_ncp ?_)
  refine G (q_fap ?_)
  refine G (q_ldp ?_)
  refine G (q_gtr64 (y := 281474976710655) ?_)
  refine As ?_
  refine gend ?_
  refine cndN (fun hc3 => ?_) ?_; rotate_left
  · exact hs
  refine awp_skip ?_
  refine awp_seq ?_
  refine rdln [8] [] [0, 0, 0, 0, 0, 0, 0, 0, 1] ?_
  refine Dp (fun _ => q_mv (s := .v (.c _)) ⟨rfl, rfl⟩) ?_
  refine Dp (fun _ => q_ncp ⟨rfl, rfl⟩) ?_
  refine Dp (fun _ => q_fap ⟨rfl, rfl⟩) ?_
  refine Dp (fun _ => q_mv (s := .v (.c _)) ⟨rfl, rfl⟩) ?_
  refine Dp (fun _ => q_ncp ⟨rfl, rfl⟩) ?_
  refine Dp (fun _ => q_fap ⟨rfl, rfl⟩) ?_
  refine DLp ?_
  refine Dp (fun _ => q_quo64 (y := 64) ⟨rfl, rfl⟩ (hz := by decide)) ?_
  refine De2 (fun _ k_ => q_callv [0, 1, 2, 3, 4, 5, 6, 7, 8, 9] [some (chC (sent / 64) er 10 (decide ((sent / 64) ≠ 0)) 12 6 (decide (er ≠ 0)) 8 sent 1 g any hash), some (wcs true wg wb), none, none, none, none, some (cC (.ptr 7 0) 0), some (u8s (S0 r er.toNat)), cb (decide (er ≠ 0)) 9, kb (decide (er ≠ 0)) (S1 r er.toNat)] [some (cC (.ptr 11 0) 0), some (u8s (S0 k (sent / 64).toNat)), cb (decide ((sent / 64) ≠ 0)) 13, kb (decide ((sent / 64) ≠ 0)) (S1 k (sent / 64).toNat)] gm k_ (ha := (cac (et rfl) rfl (cac (et rfl) cm_int ca0))) (e2 := (pl1 rfl (chC_map rfl rfl rfl rfl rfl) (pl1 rfl rfl (pl1 rfl rfl (pl1 rfl sees_m (plb rfl (cb_map rfl) (plb rfl kb_map (pl1 rfl rfl (pl1 rfl sees_m (plb rfl (cb_map rfl) (plb rfl kb_map pl0))))))))))) (eL := (ml1 (chC_map rfl rfl rfl rfl rfl) (ml1 rfl (mln (mln (mln (mln (ml1 rfl (ml1 sees_m (mlb (cb_map rfl) (mlb kb_map ml0))))))))))) (eM := (ml1 rfl (ml1 sees_m (mlb (cb_map rfl) (mlb kb_map ml0)))))) ?_
  refine dend ?_
  refine awp_seq ?_
  refine rdln [8] [0, 0, 0, 0, 0, 0, 0, 0, 0, 1] [0, 0, 0, 0, 0, 0, 0, 0, 1, 1] ?_
  refine Dp (fun _ => q_mv (s := .v (.c _)) ⟨rfl, rfl⟩) ?_
  refine Dp (fun _ => q_ncp ⟨rfl, rfl⟩) ?_
  refine Dp (fun _ => q_fap ⟨rfl, rfl⟩) ?_
  refine Dp (fun _ => q_mv (s := .v (.c _)) ⟨rfl, rfl⟩) ?_
  refine Dp (fun _ => q_ncp ⟨rfl, rfl⟩) ?_
  refine Dp (fun _ => q_fap ⟨rfl, rfl⟩) ?_
  refine DLp ?_
  refine Dp (fun _ => q_quo64 (y := 64) ⟨rfl, rfl⟩ (hz := by decide)) ?_
  refine De2 (fun _ k_ => q_callv [0, 1, 10, 11, 12, 13, 6, 7, 8, 9] [some (chC (sent / 64) er 2 (decide ((sent / 64) ≠ 0)) 4 6 (decide (er ≠ 0)) 8 sent 1 g any hash), some (wcs true wg wb), some (cC (.ptr 3 0) 0), some (u8s (S0 k (sent / 64).toNat)), cb (decide ((sent / 64) ≠ 0)) 5, kb (decide ((sent / 64) ≠ 0)) (S1 k (sent / 64).toNat), some (cC (.ptr 7 0) 0), some (u8s (S0 r er.toNat)), cb (decide (er ≠ 0)) 9, kb (decide (er ≠ 0)) (S1 r er.toNat)] [some (cC (.ptr 3 0) 0)] (of_s0 (sent / 64) er sent g (decide ((sent / 64) ≠ 0)) (decide (er ≠ 0)) any hash (S0 k (sent / 64).toNat) (S1 k (sent / 64).toNat) (S0 r er.toNat) (S1 r er.toNat) wg wb (sent / 64) (UInt64.le_refl _) hp) k_ (ha := (cac (et rfl) rfl (cac (et rfl) cm_int ca0))) (e2 := (pl1 rfl (chC_map rfl rfl rfl rfl rfl) (pl1 rfl rfl (pl1 rfl rfl (pl1 rfl sees_m (plb rfl (cb_map rfl) (plb rfl kb_map (pl1 rfl rfl (pl1 rfl sees_m (plb rfl (cb_map rfl) (plb rfl kb_map pl0))))))))))) (eL := (ml1 (chC_map rfl rfl rfl rfl rfl) (ml1 rfl (ml1 rfl (ml1 sees_m (mlb (cb_map rfl) (mlb kb_map (ml1 rfl (ml1 sees_m (mlb (cb_map rfl) (mlb kb_map ml0))))))))))) (eM := (ml1 rfl ml0))) ?_
  refine Dp (fun _ => q_as (s := .v (.c _)) ⟨rfl, rfl⟩) ?_
  refine dend ?_
  refine awp_seq ?_
  refine rln ?_
  refine Mv ?_
  refine Mv ?_
  refine G (q_ncp ?_)
  refine G (q_fap ?_)
  refine G (q_ldp ?_)
  refine G2 (fun _ k_ => q_callv [14, 11] [some (cC (.ptr 1 0) sent), some (u8s (S0 k (sent / 64).toNat))] [] (setn_k (S0 k (sent / 64).toNat) 0 sent) k_ (ha := (cac (et rfl) rfl (cac (et rfl) cm_int ca0))) (e2 := (pl1 rfl rfl (pl1 rfl sees_m pl0))) (eL := (ml1 rfl (ml1 sees_m ml0))) (eM := ml0)) ?_
  refine gend ?_
  refine awp_seq ?_
  refine rln ?_
  refine Mv ?_
  refine Mv ?_
  refine G (q_ncp ?_)
  refine G (q_fap ?_)
  refine G (q_slp_no ?_)
  refine Mv ?_
  refine G2 (fun _ k_ => q_callv [14, 11] [some (cC (.ptr 1 0) (sent + 1)), some (u8s (S0 k (sent / 64).toNat))] [some (u8s X)] gs k_ (ha := (cac (et rfl) rfl (cac (et rfl) (sees_slc rfl rfl (ch_hash hh)) (cac (et rfl) sees_ro ca0)))) (e2 := (pl1 rfl rfl (pl1 rfl sees_m pl0))) (eL := (ml1 rfl (ml1 sees_m ml0))) (eM := (ml1 sees_m ml0))) ?_
  refine G (q_mv (s := .t _) ?_)
  refine G (q_ext (y := .c _) ?_)
  refine G (q_ext (y := .c _) ?_)
  refine As ?_
  refine As ?_
  refine gend ?_
  refine awp_seq ?_
  refine awp_seq ?_
  refine rln ?_
  refine Mv ?_
  refine G (q_neqn (y := 0) ?_)
  refine gend ?_
  refine cndN (fun hc4 => ?_) ?_; rotate_left
  · exact fun h => h rfl
  refine awp_skip ?_
  refine awp_seq ?_
  refine rln ?_
  refine Mv ?_
  refine G (q_ncp ?_)
  refine G (q_fap ?_)
  refine G (q_ldp ?_)
  refine G2 (fun _ k_ => q_calln gp k_ (ha := (cac (et rfl) cm_int (cac rfl cm_int ca0)))) ?_
  refine G (q_mv (s := .t _) ?_)
  refine G (q_ext (y := .c _) ?_)
  refine G (q_ext (y := .c _) ?_)
  refine As ?_
  refine As ?_
  refine gend ?_
  refine awp_seq ?_
  refine rln ?_
  refine Mv ?_
  refine Mv ?_
  refine G2 (fun _ k_ => q_app  k_ (eA := el_slc (xs := u8s Y) rfl (by rw [mapc_length]; omega) (cut_h hPl)) (eB := el_slc (xs := u8s X) rfl (by rw [mapc_length]; omega) (cut_h hXl))) ?_
  refine As ?_
  refine gend ?_
  refine awp_seq ?_
  refine rln ?_
  refine Mv ?_
  refine G (q_ncp ?_)
  refine G (q_fap ?_)
  refine G (q_ldp ?_)
  refine G (q_add64 (y := 1) ?_)
  refine G (q_ncp ?_)
  refine G (q_fap ?_)
  refine G20 (fun _ k_ => q_st k_) ?_
  refine gend ?_
  refine awp_seq ?_
  refine rln ?_
  refine Mv ?_
  refine As ?_
  refine G (q_as (s := sc (cn 0)) ?_)
  refine gend ?_
  refine awp_ret ?_
  exact fx2 [0, 1, 2, 3, 4, 5, 6, 7, 8, 9, 10, 11, 12, 13, 17] (hm0 := rfl) (hH := (pl1 rfl (chC_map rfl rfl rfl rfl rfl) (pl1 rfl rfl (plb rfl rfl (plb rfl rfl (plb rfl rfl (plb rfl rfl (pl1 rfl rfl (pl1 rfl sees_m (plb rfl (cb_map rfl) (plb rfl kb_map (pl1 rfl rfl (pl1 rfl sees_m (plb rfl (cb_map rfl) (plb rfl kb_map (pl1 rfl ((congrArg (List.map _) (mapc_append ..)).trans sees_m) pl0)))))))))))))))) (hn := piB rfl)
set_option maxHeartbeats 1600000 in
theorem chseal_m1 (k r hash : List UInt8) (es er sent g : UInt64) (any : Bool) (wg wb : UInt64) (hk : k.length = 32) (hr : r.length = 32) (hh : hash.length = 32) (c : List UInt8) (n : Nat) (hc : c.length = n) (hn : n ≤ 4096) (hs : ¬ 281474976710655 < sent) (hm : mx es (sent / 64) = sent / 64) (he : (sent / 64).toNat % 2 = 1) : Good Try.prog 10 [.c (.ptr 0 0), .c (.ro n (u8s c))] [some (chC es er 2 (decide (es ≠ 0)) 4 6 (decide (er ≠ 0)) 8 sent 1 g any hash), some (wcs true wg wb), some (cC (.ptr 3 0) 0), some (u8s (S0 k es.toNat)), cb (decide (es ≠ 0)) 5, kb (decide (es ≠ 0)) (S1 k es.toNat), some (cC (.ptr 7 0) 0), some (u8s (S0 r er.toNat)), cb (decide (er ≠ 0)) 9, kb (decide (er ≠ 0)) (S1 r er.toNat)] (.t [.c (.slc 14 0 (8 + (n + 16)) 1), .c (cn 0)]) [some (chC (sent / 64) er 10 true 12 6 (decide (er ≠ 0)) 8 (sent + 1) 1 g any hash), some (wcs true wg wb), none, none, none, none, some (cC (.ptr 7 0) 0), some (u8s (S0 r er.toNat)), cb (decide (er ≠ 0)) 9, kb (decide (er ≠ 0)) (S1 r er.toNat), some (cC (.ptr 11 0) 0), some (u8s (S0 k (sent / 64).toNat)), cb true 13, kb true (S1 k (sent / 64).toNat), some (u8s (fr19 k hash sent c))] := by
  have hv := (S1_odd (k := k) he).2.2
  have hA : (S1 k (sent / 64).toNat).length = 32 := S1_len hk _
  have hp : (sent / 64 % 2).toNat = 1 := (mod2_nat _).trans he
  have hd := ne_zero_odd he
  have gm := move_s es er sent g (decide (er ≠ 0)) any hash k (S0 r er.toNat) (S1 r er.toNat) wg wb (sent / 64) hk
  rw [hm, hd] at gm
  have gs := cseal_ok (S1 k (sent / 64).toNat) hash c sent 32 n hA hh (by decide) hc (by omega) (fun h => hs (by rw [h]; decide))
  have hXl := aseal_len (S1 k (sent / 64).toNat) (anonce sent) hash c
  have gp := put sent 8 (by decide) (by decide) (.inl rfl)
  have hPl := pwb_len sent 8 8
  rw [hc] at hXl
  rw [fr19, ← hv, ← pwb_fbl]
  obtain ⟨X, hX⟩ : ∃ z, aseal (S1 k (sent / 64).toNat) (anonce sent) hash c = z := ⟨_, rfl⟩
  rw [hX] at gs hXl ⊢
  obtain ⟨Y, hY⟩ : ∃ z, pwb sent 8 8 = z := ⟨_, rfl⟩
  rw [hY] at gp hPl ⊢
  refine good_frm 82 Try.func10 rfl rfl rfl rfl rfl rfl ?_
  refine awp_seq ?_
  refine rln ?_
  refine As ?_
  refine G (q_as (s := sc (cn 0)) ?_)
  refine gend ?_
  refine awp_seq ?_
  refine awp_block ?_
  refine awp_seq ?_
  refine rln ?_
  refine Mv ?_
  refine G2 (fun _ k_ => q_callp (cthere _ _ _ _ _ _ _ _ _ _ _) k_ (ha := (cac (et rfl) (sees_ch rfl rfl rfl rfl) ca0))) ?_
  refine G (q_notb ?_)
  refine As ?_
  refine gend ?_
  refine cndbnN (fun hc1 => ?_) ?_; rotate_left
  · exact rfl
  refine awp_seq ?_
  refine rln ?_
  refine Mv ?_
  refine G (q_leno ?_)
  refine G (q_gtrn (y := 4096) ?_)
  refine As ?_
  refine gend ?_
  refine cndN (fun hc2 => ?_) ?_; rotate_left
  · omega
  refine awp_seq ?_
  refine rln ?_
  refine Mv ?_
  refine G (q_ncp ?_)
  refine G (q_fap ?_)
  refine G (q_ldp ?_)
  refine G (q_gtr64 (y := 281474976710655) ?_)
  refine As ?_
  refine gend ?_
  refine cndN (fun hc3 => ?_) ?_; rotate_left
  · exact hs
  refine awp_skip ?_
  refine awp_seq ?_
  refine rdln [8] [] [0, 0, 0, 0, 0, 0, 0, 0, 1] ?_
  refine Dp (fun _ => q_mv (s := .v (.c _)) ⟨rfl, rfl⟩) ?_
  refine Dp (fun _ => q_ncp ⟨rfl, rfl⟩) ?_
  refine Dp (fun _ => q_fap ⟨rfl, rfl⟩) ?_
  refine Dp (fun _ => q_mv (s := .v (.c _)) ⟨rfl, rfl⟩) ?_
  refine Dp (fun _ => q_ncp ⟨rfl, rfl⟩) ?_
  refine Dp (fun _ => q_fap ⟨rfl, rfl⟩) ?_
  refine DLp ?_
  refine Dp (fun _ => q_quo64 (y := 64) ⟨rfl, rfl⟩ (hz := by decide)) ?_
  refine De2 (fun _ k_ => q_callv [0, 1, 2, 3, 4, 5, 6, 7, 8, 9] [some (chC (sent / 64) er 10 true 12 6 (decide (er ≠ 0)) 8 sent 1 g any hash), some (wcs true wg wb), none, none, none, none, some (cC (.ptr 7 0) 0), some (u8s (S0 r er.toNat)), cb (decide (er ≠ 0)) 9, kb (decide (er ≠ 0)) (S1 r er.toNat)] [some (cC (.ptr 11 0) 0), some (u8s (S0 k (sent / 64).toNat)), cb true 13, kb true (S1 k (sent / 64).toNat)] gm k_ (ha := (cac (et rfl) rfl (cac (et rfl) cm_int ca0))) (e2 := (pl1 rfl (chC_map rfl rfl rfl rfl rfl) (pl1 rfl rfl (pl1 rfl rfl (pl1 rfl sees_m (plb rfl (cb_map rfl) (plb rfl kb_map (pl1 rfl rfl (pl1 rfl sees_m (plb rfl (cb_map rfl) (plb rfl kb_map pl0))))))))))) (eL := (ml1 (chC_map rfl rfl rfl rfl rfl) (ml1 rfl (mln (mln (mln (mln (ml1 rfl (ml1 sees_m (mlb (cb_map rfl) (mlb kb_map ml0))))))))))) (eM := (ml1 rfl (ml1 sees_m (mlb (cb_map rfl) (mlb kb_map ml0)))))) ?_
  refine dend ?_
  refine awp_seq ?_
  refine rdln [8] [0, 0, 0, 0, 0, 0, 0, 0, 0, 1] [0, 0, 0, 0, 0, 0, 0, 0, 1, 1] ?_
  refine Dp (fun _ => q_mv (s := .v (.c _)) ⟨rfl, rfl⟩) ?_
  refine Dp (fun _ => q_ncp ⟨rfl, rfl⟩) ?_
  refine Dp (fun _ => q_fap ⟨rfl, rfl⟩) ?_
  refine Dp (fun _ => q_mv (s := .v (.c _)) ⟨rfl, rfl⟩) ?_
  refine Dp (fun _ => q_ncp ⟨rfl, rfl⟩) ?_
  refine Dp (fun _ => q_fap ⟨rfl, rfl⟩) ?_
  refine DLp ?_
  refine Dp (fun _ => q_quo64 (y := 64) ⟨rfl, rfl⟩ (hz := by decide)) ?_
  refine De2 (fun _ k_ => q_callv [0, 1, 10, 11, 12, 13, 6, 7, 8, 9] [some (chC (sent / 64) er 2 true 4 6 (decide (er ≠ 0)) 8 sent 1 g any hash), some (wcs true wg wb), some (cC (.ptr 3 0) 0), some (u8s (S0 k (sent / 64).toNat)), cb true 5, kb true (S1 k (sent / 64).toNat), some (cC (.ptr 7 0) 0), some (u8s (S0 r er.toNat)), cb (decide (er ≠ 0)) 9, kb (decide (er ≠ 0)) (S1 r er.toNat)] [some (cC (.ptr 5 0) 0)] (of_s1 (sent / 64) er sent g (decide (er ≠ 0)) any hash (S0 k (sent / 64).toNat) (S1 k (sent / 64).toNat) (S0 r er.toNat) (S1 r er.toNat) wg wb (sent / 64) (UInt64.le_refl _) hp) k_ (ha := (cac (et rfl) rfl (cac (et rfl) cm_int ca0))) (e2 := (pl1 rfl (chC_map rfl rfl rfl rfl rfl) (pl1 rfl rfl (pl1 rfl rfl (pl1 rfl sees_m (plb rfl (cb_map rfl) (plb rfl kb_map (pl1 rfl rfl (pl1 rfl sees_m (plb rfl (cb_map rfl) (plb rfl kb_map pl0))))))))))) (eL := (ml1 (chC_map rfl rfl rfl rfl rfl) (ml1 rfl (ml1 rfl (ml1 sees_m (mlb (cb_map rfl) (mlb kb_map (ml1 rfl (ml1 sees_m (mlb (cb_map rfl) (mlb kb_map ml0))))))))))) (eM := (ml1 rfl ml0))) ?_
  refine Dp (fun _ => q_as (s := .v (.c _)) ⟨rfl, rfl⟩) ?_
  refine dend ?_
  refine awp_seq ?_
  refine rln ?_
  refine Mv ?_
  refine Mv ?_
  refine G (q_ncp ?_)
  refine G (q_fap ?_)
  refine G (q_ldp ?_)
  refine G2 (fun _ k_ => q_callv [14, 13] [some (cC (.ptr 1 0) sent), some (u8s (S1 k (sent / 64).toNat))] [] (setn_k (S1 k (sent / 64).toNat) 0 sent) k_ (ha := (cac (et rfl) rfl (cac (et rfl) cm_int ca0))) (e2 := (pl1 rfl rfl (pl1 rfl sees_m pl0))) (eL := (ml1 rfl (ml1 sees_m ml0))) (eM := ml0)) ?_
  refine gend ?_
  refine awp_seq ?_
  refine rln ?_
  refine Mv ?_
  refine Mv ?_
  refine G (q_ncp ?_)
  refine G (q_fap ?_)
  refine G (q_slp_no ?_)
  refine Mv ?_
  refine G2 (fun _ k_ => q_callv [14, 13] [some (cC (.ptr 1 0) (sent + 1)), some (u8s (S1 k (sent / 64).toNat))] [some (u8s X)] gs k_ (ha := (cac (et rfl) rfl (cac (et rfl) (sees_slc rfl rfl (ch_hash hh)) (cac (et rfl) sees_ro ca0)))) (e2 := (pl1 rfl rfl (pl1 rfl sees_m pl0))) (eL := (ml1 rfl (ml1 sees_m ml0))) (eM := (ml1 sees_m ml0))) ?_
  refine G (q_mv (s := .t _) ?_)
  refine G (q_ext (y := .c _) ?_)
  refine G (q_ext (y := .c _) ?_)
  refine As ?_
  refine As ?_
  refine gend ?_
  refine awp_seq ?_
  refine awp_seq ?_
  refine rln ?_
  refine Mv ?_
  refine G (q_neqn (y := 0) ?_)
  refine gend ?_
  refine cndN (fun hc4 => ?_) ?_; rotate_left
  · exact fun h => h rfl
  refine awp_skip ?_
  refine awp_seq ?_
  refine rln ?_
  refine Mv ?_
  refine G (q_ncp ?_)
  refine G (q_fap ?_)
  refine G (q_ldp ?_)
  refine G2 (fun _ k_ => q_calln gp k_ (ha := (cac (et rfl) cm_int (cac rfl cm_int ca0)))) ?_
  refine G (q_mv (s := .t _) ?_)
  refine G (q_ext (y := .c _) ?_)
  refine G (q_ext (y := .c _) ?_)
  refine As ?_
  refine As ?_
  refine gend ?_
  refine awp_seq ?_
  refine rln ?_
  refine Mv ?_
  refine Mv ?_
  refine G2 (fun _ k_ => q_app  k_ (eA := el_slc (xs := u8s Y) rfl (by rw [mapc_length]; omega) (cut_h hPl)) (eB := el_slc (xs := u8s X) rfl (by rw [mapc_length]; omega) (cut_h hXl))) ?_
  refine As ?_
  refine gend ?_
  refine awp_seq ?_
  refine rln ?_
  refine Mv ?_
  refine G (q_ncp ?_)
  refine G (q_fap ?_)
  refine G (q_ldp ?_)
  refine G (q_add64 (y := 1) ?_)
  refine G (q_ncp ?_)
  refine G (q_fap ?_)
  refine G20 (fun _ k_ => q_st k_) ?_
  refine gend ?_
  refine awp_seq ?_
  refine rln ?_
  refine Mv ?_
  refine As ?_
  refine G (q_as (s := sc (cn 0)) ?_)
  refine gend ?_
  refine awp_ret ?_
  exact fx2 [0, 1, 2, 3, 4, 5, 6, 7, 8, 9, 10, 11, 12, 13, 17] (hm0 := rfl) (hH := (pl1 rfl (chC_map rfl rfl rfl rfl rfl) (pl1 rfl rfl (plb rfl rfl (plb rfl rfl (plb rfl rfl (plb rfl rfl (pl1 rfl rfl (pl1 rfl sees_m (plb rfl (cb_map rfl) (plb rfl kb_map (pl1 rfl rfl (pl1 rfl sees_m (pl1 rfl rfl (pl1 rfl sees_m (pl1 rfl ((congrArg (List.map _) (mapc_append ..)).trans sees_m) pl0)))))))))))))))) (hn := piB rfl)
theorem move_nr (es er sent g : UInt64) (h1 h3 any : Bool) (hash A0 A1 B0 B1 : List UInt8) (wg wb : UInt64) (ep : UInt64) (hle : ¬ er < ep) : Good Try.prog 27 [.c (.ptr 0 3), .c (c64 ep)] [some (chC es er 2 h1 4 6 h3 8 sent 1 g any hash), some (wcs true wg wb), some (cC (.ptr 3 0) 0), some (u8s A0), cb h1 5, kb h1 A1, some (cC (.ptr 7 0) 0), some (u8s B0), cb h3 9, kb h3 B1] (.t []) [some (chC es er 2 h1 4 6 h3 8 sent 1 g any hash), some (wcs true wg wb), some (cC (.ptr 3 0) 0), some (u8s A0), cb h1 5, kb h1 A1, some (cC (.ptr 7 0) 0), some (u8s B0), cb h3 9, kb h3 B1] := by
  refine good_frm 41 Try.func27 rfl rfl rfl rfl rfl rfl ?_
  refine awp_block ?_
  refine awp_loop (fun x : Unit => ⟨frm 41 [(0, sc (.ptr 0 3)), (1, sc (c64 ep))], [some (chC es er 2 h1 4 6 h3 8 sent 1 g any hash), some (wcs true wg wb), some (cC (.ptr 3 0) 0), some (u8s A0), cb h1 5, kb h1 A1, some (cC (.ptr 7 0) 0), some (u8s B0), cb h3 9, kb h3 B1]⟩) (fun x => 0) () (sle_sub ⟨rfl, rfl, trivial⟩ rfl) fun x => ?_
  refine awp_seq ?_
  refine awp_seq ?_
  refine rln ?_
  refine Mv ?_
  refine G (q_ncp ?_)
  refine G (q_fap ?_)
  refine G (q_ldp ?_)
  refine Mv ?_
  refine G (q_lss64 ?_)
  refine gend ?_
  refine cndN (fun hc1 => ?_) ?_; rotate_left
  · exact hle
  refine awp_exit ?_
  exact fx0 [0, 1, 2, 3, 4, 5, 6, 7, 8, 9] (hH := (pl1 rfl (chC_map rfl rfl rfl rfl rfl) (pl1 rfl rfl (pl1 rfl rfl (pl1 rfl sees_m (plb rfl (cb_map rfl) (plb rfl kb_map (pl1 rfl rfl (pl1 rfl sees_m (plb rfl (cb_map rfl) (plb rfl kb_map pl0))))))))))) (hn := piB rfl)
end Go.Proofs.Ytklcckngmmklhaa

/- What functions of the program do, walked over the abstract machine. -/
namespace Go.Proofs.Ytklcckngmmklhaa
open Go Go.Abs Go.Proofs Go.Proofs.Ytklcckngmmklhaa.Ch Go.Proofs.Ytklcckngmmklhaa.Po Go.Proofs.Ytklcckngmmklhaa.Ae Go.Proofs.Ytklcckngmmklhaa.Wd
set_option maxRecDepth 20000
theorem kE_add (k : List UInt8) (a : Nat) : ∀ b, kE (kE k a) b = kE k (a + b)
  | 0 => rfl
  | b + 1 => by rw [kE, kE_add k a b]; rfl
theorem ch_len {a b c d e f g h i j : Cell} {hash : List UInt8} (hh : hash.length = 32) : 10 + 32 * 1 ≤ (a :: b :: c :: d :: e :: f :: g :: h :: i :: j :: u8s hash).length := by
  simp only [List.length_cons, mapc_length, hh]; decide
theorem cut_hi {l : List UInt8} {f k : Nat} (_h : l.length = f) : ((u8s l).drop (0 * 1)).take (k * 1) = u8s (l.take k) := by
  rw [Nat.zero_mul, List.drop_zero, Nat.mul_one, mapc_take]
theorem chopen_long (k r hash : List UInt8) (es er sent g : UInt64) (any : Bool) (wg wb : UInt64) (hk : k.length = 32) (hr : r.length = 32) (hh : hash.length = 32) (fr : List UInt8) (f : Nat) (hL : 4120 < f) : Good Try.prog 11 [.c (.ptr 0 0), .c (.ro f (u8s fr))] [some (chC es er 2 (decide (es ≠ 0)) 4 6 (decide (er ≠ 0)) 8 sent 1 g any hash), some (wcs true wg wb), some (cC (.ptr 3 0) 0), some (u8s (S0 k es.toNat)), cb (decide (es ≠ 0)) 5, kb (decide (es ≠ 0)) (S1 k es.toNat), some (cC (.ptr 7 0) 0), some (u8s (S0 r er.toNat)), cb (decide (er ≠ 0)) 9, kb (decide (er ≠ 0)) (S1 r er.toNat)] (.t [.c .nils, .c (c64 0), .c (cn 3)]) [some (chC es er 2 (decide (es ≠ 0)) 4 6 (decide (er ≠ 0)) 8 sent 1 g any hash), some (wcs true wg wb), some (cC (.ptr 3 0) 0), some (u8s (S0 k es.toNat)), cb (decide (es ≠ 0)) 5, kb (decide (es ≠ 0)) (S1 k es.toNat), some (cC (.ptr 7 0) 0), some (u8s (S0 r er.toNat)), cb (decide (er ≠ 0)) 9, kb (decide (er ≠ 0)) (S1 r er.toNat)] := by
  refine good_frm 100 Try.func11 rfl rfl rfl rfl rfl rfl ?_
  refine awp_seq ?_
  refine rln ?_
  refine As ?_
  refine G (q_as (s := sc (c64 0)) ?_)
  refine G (q_as (s := sc (cn 0)) ?_)
  refine gend ?_
  refine awp_seq ?_
  refine awp_block ?_
  refine awp_seq ?_
  refine rln ?_
  refine Mv ?_
  refine G2 (fun _ k_ => q_callp (cthere _ _ _ _ _ _ _ _ _ _ _) k_ (ha := (cac (et rfl) (sees_ch rfl rfl rfl rfl) ca0))) ?_
  refine G (q_notb ?_)
  refine As ?_
  refine gend ?_
  refine cndbnN (fun hc1 => ?_) ?_; rotate_left
  · exact rfl
  refine awp_seq ?_
  refine rln ?_
  refine Mv ?_
  refine G (q_leno ?_)
  refine G (q_gtrn (y := 4120) ?_)
  refine As ?_
  refine gend ?_
  refine cndY (fun hc2 => ?_) ?_; rotate_left
  · exact hL
  refine awp_seq ?_
  refine rln ?_
  refine As ?_
  refine G (q_as (s := sc (c64 0)) ?_)
  refine G (q_as (s := sc (cn 3)) ?_)
  refine gend ?_
  refine awp_ret ?_
  exact fx3 [0, 1, 2, 3, 4, 5, 6, 7, 8, 9] (hm0 := rfl) (hH := (pl1 rfl (chC_map rfl rfl rfl rfl rfl) (pl1 rfl rfl (pl1 rfl rfl (pl1 rfl sees_m (plb rfl (cb_map rfl) (plb rfl kb_map (pl1 rfl rfl (pl1 rfl sees_m (plb rfl (cb_map rfl) (plb rfl kb_map pl0))))))))))) (hn := piB rfl)
theorem chopen_short (k r hash : List UInt8) (es er sent g : UInt64) (any : Bool) (wg wb : UInt64) (hk : k.length = 32) (hr : r.length = 32) (hh : hash.length = 32) (fr : List UInt8) (f : Nat) (hL : f < 24) : Good Try.prog 11 [.c (.ptr 0 0), .c (.ro f (u8s fr))] [some (chC es er 2 (decide (es ≠ 0)) 4 6 (decide (er ≠ 0)) 8 sent 1 g any hash), some (wcs true wg wb), some (cC (.ptr 3 0) 0), some (u8s (S0 k es.toNat)), cb (decide (es ≠ 0)) 5, kb (decide (es ≠ 0)) (S1 k es.toNat), some (cC (.ptr 7 0) 0), some (u8s (S0 r er.toNat)), cb (decide (er ≠ 0)) 9, kb (decide (er ≠ 0)) (S1 r er.toNat)] (.t [.c .nils, .c (c64 0), .c (cn 4)]) [some (chC es er 2 (decide (es ≠ 0)) 4 6 (decide (er ≠ 0)) 8 sent 1 g any hash), some (wcs true wg wb), some (cC (.ptr 3 0) 0), some (u8s (S0 k es.toNat)), cb (decide (es ≠ 0)) 5, kb (decide (es ≠ 0)) (S1 k es.toNat), some (cC (.ptr 7 0) 0), some (u8s (S0 r er.toNat)), cb (decide (er ≠ 0)) 9, kb (decide (er ≠ 0)) (S1 r er.toNat)] := by
  refine good_frm 100 Try.func11 rfl rfl rfl rfl rfl rfl ?_
  refine awp_seq ?_
  refine rln ?_
  refine As ?_
  refine G (q_as (s := sc (c64 0)) ?_)
  refine G (q_as (s := sc (cn 0)) ?_)
  refine gend ?_
  refine awp_seq ?_
  refine awp_block ?_
  refine awp_seq ?_
  refine rln ?_
  refine Mv ?_
  refine G2 (fun _ k_ => q_callp (cthere _ _ _ _ _ _ _ _ _ _ _) k_ (ha := (cac (et rfl) (sees_ch rfl rfl rfl rfl) ca0))) ?_
  refine G (q_notb ?_)
  refine As ?_
  refine gend ?_
  refine cndbnN (fun hc1 => ?_) ?_; rotate_left
  · exact rfl
  refine awp_seq ?_
  refine rln ?_
  refine Mv ?_
  refine G (q_leno ?_)
  refine G (q_gtrn (y := 4120) ?_)
  refine As ?_
  refine gend ?_
  refine cndN (fun hc2 => ?_) ?_; rotate_left
  · omega
  refine awp_seq ?_
  refine rln ?_
  refine Mv ?_
  refine G (q_leno ?_)
  refine G (q_lssn (y := 24) ?_)
  refine As ?_
  refine gend ?_
  refine cndY (fun hc3 => ?_) ?_; rotate_left
  · exact hL
  refine awp_seq ?_
  refine rln ?_
  refine As ?_
  refine G (q_as (s := sc (c64 0)) ?_)
  refine G (q_as (s := sc (cn 4)) ?_)
  refine gend ?_
  refine awp_ret ?_
  exact fx3 [0, 1, 2, 3, 4, 5, 6, 7, 8, 9] (hm0 := rfl) (hH := (pl1 rfl (chC_map rfl rfl rfl rfl rfl) (pl1 rfl rfl (pl1 rfl rfl (pl1 rfl sees_m (plb rfl (cb_map rfl) (plb rfl kb_map (pl1 rfl rfl (pl1 rfl sees_m (plb rfl (cb_map rfl) (plb rfl kb_map pl0))))))))))) (hn := piB rfl)
theorem chopen_far (k r hash : List UInt8) (es er sent g : UInt64) (any : Bool) (wg wb : UInt64) (hk : k.length = 32) (hr : r.length = 32) (hh : hash.length = 32) (fr : List UInt8) (f : Nat) (N : UInt64) (hf : fr.length = f) (h24 : 24 ≤ f) (hL : f ≤ 4120) (hN : gt (fr.take 8) = N) (hn : 281474976710655 < N) : Good Try.prog 11 [.c (.ptr 0 0), .c (.ro f (u8s fr))] [some (chC es er 2 (decide (es ≠ 0)) 4 6 (decide (er ≠ 0)) 8 sent 1 g any hash), some (wcs true wg wb), some (cC (.ptr 3 0) 0), some (u8s (S0 k es.toNat)), cb (decide (es ≠ 0)) 5, kb (decide (es ≠ 0)) (S1 k es.toNat), some (cC (.ptr 7 0) 0), some (u8s (S0 r er.toNat)), cb (decide (er ≠ 0)) 9, kb (decide (er ≠ 0)) (S1 r er.toNat)] (.t [.c .nils, .c (c64 0), .c (cn 4)]) [some (chC es er 2 (decide (es ≠ 0)) 4 6 (decide (er ≠ 0)) 8 sent 1 g any hash), some (wcs true wg wb), some (cC (.ptr 3 0) 0), some (u8s (S0 k es.toNat)), cb (decide (es ≠ 0)) 5, kb (decide (es ≠ 0)) (S1 k es.toNat), some (cC (.ptr 7 0) 0), some (u8s (S0 r er.toNat)), cb (decide (er ≠ 0)) 9, kb (decide (er ≠ 0)) (S1 r er.toNat)] := by
  have gg := get 8 (fr.take 8) (by rw [List.length_take]; omega) (by decide) (by decide)
  rw [hN] at gg
  refine good_frm 100 Try.func11 rfl rfl rfl rfl rfl rfl ?_
  refine awp_seq ?_
  refine rln ?_
  refine As ?_
  refine G (q_as (s := sc (c64 0)) ?_)
  refine G (q_as (s := sc (cn 0)) ?_)
  refine gend ?_
  refine awp_seq ?_
  refine awp_block ?_
  refine awp_seq ?_
  refine rln ?_
  refine Mv ?_
  refine G2 (fun _ k_ => q_callp (cthere _ _ _ _ _ _ _ _ _ _ _) k_ (ha := (cac (et rfl) (sees_ch rfl rfl rfl rfl) ca0))) ?_
  refine G (q_notb ?_)
  refine As ?_
  refine gend ?_
  refine cndbnN (fun hc1 => ?_) ?_; rotate_left
  · exact rfl
  refine awp_seq ?_
  refine rln ?_
  refine Mv ?_
  refine G (q_leno ?_)
  refine G (q_gtrn (y := 4120) ?_)
  refine As ?_
  refine gend ?_
  refine cndN (fun hc2 => ?_) ?_; rotate_left
  · omega
  refine awp_seq ?_
  refine rln ?_
  refine Mv ?_
  refine G (q_leno ?_)
  refine G (q_lssn (y := 24) ?_)
  refine As ?_
  refine gend ?_
  refine cndN (fun hc3 => ?_) ?_; rotate_left
  · omega
  refine awp_skip ?_
  refine awp_seq ?_
  refine rln ?_
  refine Mv ?_
  refine G (q_slo_hi (k := 8) ?_ (hc := cut_hi hf))
  refine G2 (fun _ k_ => q_callp gg k_ (ha := (cac (et rfl) sees_ro ca0))) ?_
  refine G (q_mv (s := .t _) ?_)
  refine G (q_ext (y := .c _) ?_)
  refine G (q_ext (y := .c _) ?_)
  refine As ?_
  refine As ?_
  refine gend ?_
  refine awp_seq ?_
  refine awp_seq ?_
  refine rln ?_
  refine Mv ?_
  refine G (q_gtr64 (y := 281474976710655) ?_)
  refine gend ?_
  refine cndY (fun hc4 => ?_) ?_; rotate_left
  · exact hn
  refine awp_seq ?_
  refine rln ?_
  refine As ?_
  refine G (q_as (s := sc (c64 0)) ?_)
  refine G (q_as (s := sc (cn 4)) ?_)
  refine gend ?_
  refine awp_ret ?_
  exact fx3 [0, 1, 2, 3, 4, 5, 6, 7, 8, 9] (hm0 := rfl) (hH := (pl1 rfl (chC_map rfl rfl rfl rfl rfl) (pl1 rfl rfl (pl1 rfl rfl (pl1 rfl sees_m (plb rfl (cb_map rfl) (plb rfl kb_map (pl1 rfl rfl (pl1 rfl sees_m (plb rfl (cb_map rfl) (plb rfl kb_map pl0))))))))))) (hn := piB rfl)
theorem chopen_old (k r hash : List UInt8) (es er sent g : UInt64) (any : Bool) (wg wb : UInt64) (hk : k.length = 32) (hr : r.length = 32) (hh : hash.length = 32) (fr : List UInt8) (f : Nat) (N : UInt64) (hf : fr.length = f) (h24 : 24 ≤ f) (hL : f ≤ 4120) (hN : gt (fr.take 8) = N) (hn : ¬ 281474976710655 < N) (z : Nat) (hw : wchk true wg wb N = z) (hz : z ≠ 0) : Good Try.prog 11 [.c (.ptr 0 0), .c (.ro f (u8s fr))] [some (chC es er 2 (decide (es ≠ 0)) 4 6 (decide (er ≠ 0)) 8 sent 1 g any hash), some (wcs true wg wb), some (cC (.ptr 3 0) 0), some (u8s (S0 k es.toNat)), cb (decide (es ≠ 0)) 5, kb (decide (es ≠ 0)) (S1 k es.toNat), some (cC (.ptr 7 0) 0), some (u8s (S0 r er.toNat)), cb (decide (er ≠ 0)) 9, kb (decide (er ≠ 0)) (S1 r er.toNat)] (.t [.c .nils, .c (c64 0), .c (cn z)]) [some (chC es er 2 (decide (es ≠ 0)) 4 6 (decide (er ≠ 0)) 8 sent 1 g any hash), some (wcs true wg wb), some (cC (.ptr 3 0) 0), some (u8s (S0 k es.toNat)), cb (decide (es ≠ 0)) 5, kb (decide (es ≠ 0)) (S1 k es.toNat), some (cC (.ptr 7 0) 0), some (u8s (S0 r er.toNat)), cb (decide (er ≠ 0)) 9, kb (decide (er ≠ 0)) (S1 r er.toNat)] := by
  have gg := get 8 (fr.take 8) (by rw [List.length_take]; omega) (by decide) (by decide)
  rw [hN] at gg
  have gc := check true wg wb N
  rw [hw] at gc
  refine good_frm 100 Try.func11 rfl rfl rfl rfl rfl rfl ?_
  refine awp_seq ?_
  refine rln ?_
  refine As ?_
  refine G (q_as (s := sc (c64 0)) ?_)
  refine G (q_as (s := sc (cn 0)) ?_)
  refine gend ?_
  refine awp_seq ?_
  refine awp_block ?_
  refine awp_seq ?_
  refine rln ?_
  refine Mv ?_
  refine G2 (fun _ k_ => q_callp (cthere _ _ _ _ _ _ _ _ _ _ _) k_ (ha := (cac (et rfl) (sees_ch rfl rfl rfl rfl) ca0))) ?_
  refine G (q_notb ?_)
  refine As ?_
  refine gend ?_
  refine cndbnN (fun hc1 => ?_) ?_; rotate_left
  · exact rfl
  refine awp_seq ?_
  refine rln ?_
  refine Mv ?_
  refine G (q_leno ?_)
  refine G (q_gtrn (y := 4120) ?_)
  refine As ?_
  refine gend ?_
  refine cndN (fun hc2 => ?_) ?_; rotate_left
  · omega
  refine awp_seq ?_
  refine rln ?_
  refine Mv ?_
  refine G (q_leno ?_)
  refine G (q_lssn (y := 24) ?_)
  refine As ?_
  refine gend ?_
  refine cndN (fun hc3 => ?_) ?_; rotate_left
  · omega
  refine awp_skip ?_
  refine awp_seq ?_
  refine rln ?_
  refine Mv ?_
  refine G (q_slo_hi (k := 8) ?_ (hc := cut_hi hf))
  refine G2 (fun _ k_ => q_callp gg k_ (ha := (cac (et rfl) sees_ro ca0))) ?_
  refine G (q_mv (s := .t _) ?_)
  refine G (q_ext (y := .c _) ?_)
  refine G (q_ext (y := .c _) ?_)
  refine As ?_
  refine As ?_
  refine gend ?_
  refine awp_seq ?_
  refine awp_seq ?_
  refine rln ?_
  refine Mv ?_
  refine G (q_gtr64 (y := 281474976710655) ?_)
  refine gend ?_
  refine cndN (fun hc4 => ?_) ?_; rotate_left
  · exact hn
  refine awp_skip ?_
  refine awp_seq ?_
  refine awp_seq ?_
  refine rln ?_
  refine Mv ?_
  refine G (q_ncp ?_)
  refine G (q_fap ?_)
  refine G (q_ldp ?_)
  refine Mv ?_
  refine G2 (fun _ k_ => q_callp gc k_ (ha := (cac (et rfl) (sees_ptr rfl rfl rfl rfl) (cac (et rfl) cm_int ca0)))) ?_
  refine As ?_
  refine gend ?_
  refine awp_seq ?_
  refine rln ?_
  refine Mv ?_
  refine G (q_neqn (y := 0) ?_)
  refine gend ?_
  refine cndY (fun hc5 => ?_) ?_; rotate_left
  · exact hz
  refine awp_seq ?_
  refine rln ?_
  refine Mv ?_
  refine As ?_
  refine G (q_as (s := sc (c64 0)) ?_)
  refine As ?_
  refine gend ?_
  refine awp_ret ?_
  exact fx3 [0, 1, 2, 3, 4, 5, 6, 7, 8, 9] (hm0 := rfl) (hH := (pl1 rfl (chC_map rfl rfl rfl rfl rfl) (pl1 rfl rfl (pl1 rfl rfl (pl1 rfl sees_m (plb rfl (cb_map rfl) (plb rfl kb_map (pl1 rfl rfl (pl1 rfl sees_m (plb rfl (cb_map rfl) (plb rfl kb_map pl0))))))))))) (hn := piB rfl)
theorem chopen_seq (k r hash : List UInt8) (es er sent g : UInt64) (any : Bool) (wg wb : UInt64) (hk : k.length = 32) (hr : r.length = 32) (hh : hash.length = 32) (fr : List UInt8) (f : Nat) (N : UInt64) (hf : fr.length = f) (h24 : 24 ≤ f) (hL : f ≤ 4120) (hN : gt (fr.take 8) = N) (hn : ¬ 281474976710655 < N) (hw : wchk true wg wb N = 0) (hq : er + 16 < N / 64) : Good Try.prog 11 [.c (.ptr 0 0), .c (.ro f (u8s fr))] [some (chC es er 2 (decide (es ≠ 0)) 4 6 (decide (er ≠ 0)) 8 sent 1 g any hash), some (wcs true wg wb), some (cC (.ptr 3 0) 0), some (u8s (S0 k es.toNat)), cb (decide (es ≠ 0)) 5, kb (decide (es ≠ 0)) (S1 k es.toNat), some (cC (.ptr 7 0) 0), some (u8s (S0 r er.toNat)), cb (decide (er ≠ 0)) 9, kb (decide (er ≠ 0)) (S1 r er.toNat)] (.t [.c .nils, .c (c64 0), .c (cn 9)]) [some (chC es er 2 (decide (es ≠ 0)) 4 6 (decide (er ≠ 0)) 8 sent 1 g any hash), some (wcs true wg wb), some (cC (.ptr 3 0) 0), some (u8s (S0 k es.toNat)), cb (decide (es ≠ 0)) 5, kb (decide (es ≠ 0)) (S1 k es.toNat), some (cC (.ptr 7 0) 0), some (u8s (S0 r er.toNat)), cb (decide (er ≠ 0)) 9, kb (decide (er ≠ 0)) (S1 r er.toNat)] := by
  have gg := get 8 (fr.take 8) (by rw [List.length_take]; omega) (by decide) (by decide)
  rw [hN] at gg
  have gc := check true wg wb N
  rw [hw] at gc
  refine good_frm 100 Try.func11 rfl rfl rfl rfl rfl rfl ?_
  refine awp_seq ?_
  refine rln ?_
  refine As ?_
  refine G (q_as (s := sc (c64 0)) ?_)
  refine G (q_as (s := sc (cn 0)) ?_)
  refine gend ?_
  refine awp_seq ?_
  refine awp_block ?_
  refine awp_seq ?_
  refine rln ?_
  refine Mv ?_
  refine G2 (fun _ k_ => q_callp (cthere _ _ _ _ _ _ _ _ _ _ _) k_ (ha := (cac (et rfl) (sees_ch rfl rfl rfl rfl) ca0))) ?_
  refine G (q_notb ?_)
  refine As ?_
  refine gend ?_
  refine cndbnN (fun hc1 => ?_) ?_; rotate_left
  · exact rfl
  refine awp_seq ?_
  refine rln ?_
  refine Mv ?_
  refine G (q_leno ?_)
  refine G (q_gtrn (y := 4120) ?_)
  refine As ?_
  refine gend ?_
  refine cndN (fun hc2 => ?_) ?_; rotate_left
  · omega
  refine awp_seq ?_
  refine rln ?_
  refine Mv ?_
  refine G (q_leno ?_)
  refine G (q_lssn (y := 24) ?_)
  refine As ?_
  refine gend ?_
  refine cndN (fun hc3 => ?_) ?_; rotate_left
  · omega
  refine awp_skip ?_
  refine awp_seq ?_
  refine rln ?_
  refine Mv ?_
  refine G (q_slo_hi (k := 8) ?_ (hc := cut_hi hf))
  refine G2 (fun _ k_ => q_callp gg k_ (ha := (cac (et rfl) sees_ro ca0))) ?_
  refine G (q_mv (s := .t _) ?_)
  refine G (q_ext (y := .c _) ?_)
  refine G (q_ext (y := .c _) ?_)
  refine As ?_
  refine As ?_
  refine gend ?_
  refine awp_seq ?_
  refine awp_seq ?_
  refine rln ?_
  refine Mv ?_
  refine G (q_gtr64 (y := 281474976710655) ?_)
  refine gend ?_
  refine cndN (fun hc4 => ?_) ?_; rotate_left
  · exact hn
  refine awp_skip ?_
  refine awp_seq ?_
  refine awp_seq ?_
  refine rln ?_
  refine Mv ?_
  refine G (q_ncp ?_)
  refine G (q_fap ?_)
  refine G (q_ldp ?_)
  refine Mv ?_
  refine G2 (fun _ k_ => q_callp gc k_ (ha := (cac (et rfl) (sees_ptr rfl rfl rfl rfl) (cac (et rfl) cm_int ca0)))) ?_
  refine As ?_
  refine gend ?_
  refine awp_seq ?_
  refine rln ?_
  refine Mv ?_
  refine G (q_neqn (y := 0) ?_)
  refine gend ?_
  refine cndN (fun hc5 => ?_) ?_; rotate_left
  · exact fun h => h rfl
  refine awp_skip ?_
  refine awp_seq ?_
  refine rln ?_
  refine Mv ?_
  refine G (q_quo64 (y := 64) ?_ (hz := by decide))
  refine As ?_
  refine gend ?_
  refine awp_seq ?_
  refine awp_seq ?_
  refine rln ?_
  refine Mv ?_
  refine Mv ?_
  refine G (q_ncp ?_)
  refine G (q_fap ?_)
  refine G (q_fap ?_)
  refine G (q_ldp ?_)
  refine G (q_add64 (y := 16) ?_)
  refine G (q_gtr64 ?_)
  refine gend ?_
  refine cndY (fun hc6 => ?_) ?_; rotate_left
  · exact hq
  refine awp_seq ?_
  refine rln ?_
  refine As ?_
  refine G (q_as (s := sc (c64 0)) ?_)
  refine G (q_as (s := sc (cn 9)) ?_)
  refine gend ?_
  refine awp_ret ?_
  exact fx3 [0, 1, 2, 3, 4, 5, 6, 7, 8, 9] (hm0 := rfl) (hH := (pl1 rfl (chC_map rfl rfl rfl rfl rfl) (pl1 rfl rfl (pl1 rfl rfl (pl1 rfl sees_m (plb rfl (cb_map rfl) (plb rfl kb_map (pl1 rfl rfl (pl1 rfl sees_m (plb rfl (cb_map rfl) (plb rfl kb_map pl0))))))))))) (hn := piB rfl)
end Go.Proofs.Ytklcckngmmklhaa

/- What functions of the program do, walked over the abstract machine. -/
namespace Go.Proofs.Ytklcckngmmklhaa
open Go Go.Abs Go.Proofs Go.Proofs.Ytklcckngmmklhaa.Ch Go.Proofs.Ytklcckngmmklhaa.Po Go.Proofs.Ytklcckngmmklhaa.Ae Go.Proofs.Ytklcckngmmklhaa.Wd
set_option maxRecDepth 20000
set_option maxHeartbeats 1600000 in
theorem chopen_n0_bad (k r hash : List UInt8) (es er sent g : UInt64) (any : Bool) (wg wb : UInt64) (hk : k.length = 32) (hr : r.length = 32) (hh : hash.length = 32) (fr : List UInt8) (f : Nat) (N : UInt64) (hf : fr.length = f) (h24 : 24 ≤ f) (hL : f ≤ 4120) (hN : gt (fr.take 8) = N) (hn : ¬ 281474976710655 < N) (hw : wchk true wg wb N = 0) (hq : ¬ er + 16 < N / 64) (hle : N / 64 ≤ er) (he : (N / 64).toNat % 2 = 0) (hK : (S0 r er.toNat) = kE r (N / 64).toNat) (hop : aopen (kE r (N / 64).toNat) (anonce N) hash (fr.drop 8) = none) : Good Try.prog 11 [.c (.ptr 0 0), .c (.ro f (u8s fr))] [some (chC es er 2 (decide (es ≠ 0)) 4 6 (decide (er ≠ 0)) 8 sent 1 g any hash), some (wcs true wg wb), some (cC (.ptr 3 0) 0), some (u8s (S0 k es.toNat)), cb (decide (es ≠ 0)) 5, kb (decide (es ≠ 0)) (S1 k es.toNat), some (cC (.ptr 7 0) 0), some (u8s (S0 r er.toNat)), cb (decide (er ≠ 0)) 9, kb (decide (er ≠ 0)) (S1 r er.toNat)] (.t [.c .nils, .c (c64 0), .c (cn 8)]) [some (chC es er 2 (decide (es ≠ 0)) 4 6 (decide (er ≠ 0)) 8 sent 1 g any hash), some (wcs true wg wb), some (cC (.ptr 3 0) 0), some (u8s (S0 k es.toNat)), cb (decide (es ≠ 0)) 5, kb (decide (es ≠ 0)) (S1 k es.toNat), some (cC (.ptr 7 0) 0), some (u8s (S0 r er.toNat)), cb (decide (er ≠ 0)) 9, kb (decide (er ≠ 0)) (S1 r er.toNat)] := by
  have gg := get 8 (fr.take 8) (by rw [List.length_take]; omega) (by decide) (by decide)
  rw [hN] at gg
  have gc := check true wg wb N
  rw [hw] at gc
  have hdl : (fr.drop 8).length = f - 8 := by rw [List.length_drop, hf]
  have go := of_r0 es er sent g (decide (es ≠ 0)) (decide (er ≠ 0)) any hash (S0 k es.toNat) (S1 k es.toNat) (S0 r er.toNat) (S1 r er.toNat) wg wb (N / 64) hle ((mod2_nat _).trans he)
  rw [← hK] at hop
  have hA : (S0 r er.toNat).length = 32 := S0_len hr _
  have gs := copen_bad (S0 r er.toNat) hash (fr.drop 8) N 32 (f - 8) hA hh (by decide) hdl (by omega) (fun h => hn (by rw [h]; decide)) hop
  refine good_frm 100 Try.func11 rfl rfl rfl rfl rfl rfl ?_
  refine awp_seq ?_
  refine rln ?_
  refine As ?_
  refine G (q_as (s := sc (c64 0)) ?_)
  refine G (q_as (s := sc (cn 0)) ?_)
  refine gend ?_
  refine awp_seq ?_
  refine awp_block ?_
  refine awp_seq ?_
  refine rln ?_
  refine Mv ?_
  refine G2 (fun _ k_ => q_callp (cthere _ _ _ _ _ _ _ _ _ _ _) k_ (ha := (cac (et rfl) (sees_ch rfl rfl rfl rfl) ca0))) ?_
  refine G (q_notb ?_)
  refine As ?_
  refine gend ?_
  refine cndbnN (fun hc1 => ?_) ?_; rotate_left
  · exact rfl
  refine awp_seq ?_
  refine rln ?_
  refine Mv ?_
  refine G (q_leno ?_)
  refine G (q_gtrn (y := 4120) ?_)
  refine As ?_
  refine gend ?_
  refine cndN (fun hc2 => ?_) ?_; rotate_left
  · omega
  refine awp_seq ?_
  refine rln ?_
  refine Mv ?_
  refine G (q_leno ?_)
  refine G (q_lssn (y := 24) ?_)
  refine As ?_
  refine gend ?_
  refine cndN (fun hc3 => ?_) ?_; rotate_left
  · omega
  refine awp_skip ?_
  refine awp_seq ?_
  refine rln ?_
  refine Mv ?_
  refine G (q_slo_hi (k := 8) ?_ (hc := cut_hi hf))
  refine G2 (fun _ k_ => q_callp gg k_ (ha := (cac (et rfl) sees_ro ca0))) ?_
  refine G (q_mv (s := .t _) ?_)
  refine G (q_ext (y := .c _) ?_)
  refine G (q_ext (y := .c _) ?_)
  refine As ?_
  refine As ?_
  refine gend ?_
  refine awp_seq ?_
  refine awp_seq ?_
  refine rln ?_
  refine Mv ?_
  refine G (q_gtr64 (y := 281474976710655) ?_)
  refine gend ?_
  refine cndN (fun hc4 => ?_) ?_; rotate_left
  · exact hn
  refine awp_skip ?_
  refine awp_seq ?_
  refine awp_seq ?_
  refine rln ?_
  refine Mv ?_
  refine G (q_ncp ?_)
  refine G (q_fap ?_)
  refine G (q_ldp ?_)
  refine Mv ?_
  refine G2 (fun _ k_ => q_callp gc k_ (ha := (cac (et rfl) (sees_ptr rfl rfl rfl rfl) (cac (et rfl) cm_int ca0)))) ?_
  refine As ?_
  refine gend ?_
  refine awp_seq ?_
  refine rln ?_
  refine Mv ?_
  refine G (q_neqn (y := 0) ?_)
  refine gend ?_
  refine cndN (fun hc5 => ?_) ?_; rotate_left
  · exact fun h => h rfl
  refine awp_skip ?_
  refine awp_seq ?_
  refine rln ?_
  refine Mv ?_
  refine G (q_quo64 (y := 64) ?_ (hz := by decide))
  refine As ?_
  refine gend ?_
  refine awp_seq ?_
  refine awp_seq ?_
  refine rln ?_
  refine Mv ?_
  refine Mv ?_
  refine G (q_ncp ?_)
  refine G (q_fap ?_)
  refine G (q_fap ?_)
  refine G (q_ldp ?_)
  refine G (q_add64 (y := 16) ?_)
  refine G (q_gtr64 ?_)
  refine gend ?_
  refine cndN (fun hc6 => ?_) ?_; rotate_left
  · exact hq
  refine awp_skip ?_
  refine awp_seq ?_
  refine rln ?_
  refine Mv ?_
  refine G (q_ncp ?_)
  refine G (q_fap ?_)
  refine Mv ?_
  refine G2 (fun _ k_ => q_callv [0, 1, 2, 3, 4, 5, 6, 7, 8, 9] [some (chC es er 2 (decide (es ≠ 0)) 4 6 (decide (er ≠ 0)) 8 sent 1 g any hash), some (wcs true wg wb), some (cC (.ptr 3 0) 0), some (u8s (S0 k es.toNat)), cb (decide (es ≠ 0)) 5, kb (decide (es ≠ 0)) (S1 k es.toNat), some (cC (.ptr 7 0) 0), some (u8s (S0 r er.toNat)), cb (decide (er ≠ 0)) 9, kb (decide (er ≠ 0)) (S1 r er.toNat)] [some (cC (.ptr 7 0) 0)] go k_ (ha := (cac (et rfl) rfl (cac (et rfl) cm_int ca0))) (e2 := (pl1 rfl (chC_map rfl rfl rfl rfl rfl) (pl1 rfl rfl (pl1 rfl rfl (pl1 rfl sees_m (plb rfl (cb_map rfl) (plb rfl kb_map (pl1 rfl rfl (pl1 rfl sees_m (plb rfl (cb_map rfl) (plb rfl kb_map pl0))))))))))) (eL := (ml1 (chC_map rfl rfl rfl rfl rfl) (ml1 rfl (ml1 rfl (ml1 sees_m (mlb (cb_map rfl) (mlb kb_map (ml1 rfl (ml1 sees_m (mlb (cb_map rfl) (mlb kb_map ml0))))))))))) (eM := (ml1 rfl ml0))) ?_
  refine As ?_
  refine gend ?_
  refine awp_seq ?_
  refine rln ?_
  refine Mv ?_
  refine Mv ?_
  refine G2 (fun _ k_ => q_callv [10, 7] [some (cC (.ptr 1 0) N), some (u8s (S0 r er.toNat))] [] (setn_k (S0 r er.toNat) 0 N) k_ (ha := (cac (et rfl) rfl (cac (et rfl) cm_int ca0))) (e2 := (pl1 rfl rfl (pl1 rfl sees_m pl0))) (eL := (ml1 rfl (ml1 sees_m ml0))) (eM := ml0)) ?_
  refine gend ?_
  refine awp_seq ?_
  refine rdln [7] [0, 0, 0, 0, 0, 0, 0, 0, 1, 1, 1, 1, 1] [0, 0, 0, 0, 0, 0, 0, 1, 1, 1, 1, 1, 1] ?_
  refine Dp (fun _ => q_mv (s := .v (.c _)) ⟨rfl, rfl⟩) ?_
  refine Dp (fun _ => q_mv (s := .v (.c _)) ⟨rfl, rfl⟩) ?_
  refine Dp (fun _ => q_ncp ⟨rfl, rfl⟩) ?_
  refine Dp (fun _ => q_fap ⟨rfl, rfl⟩) ?_
  refine DSp 0 rfl (fun _ hv => q_slp_no ⟨rfl, rfl⟩ (hp := hv) (hl := ch_len hh)) ?_
  refine Dp (fun _ => q_mv (s := .v (.c _)) ⟨rfl, rfl⟩) ?_
  refine Dp (fun _ => q_slo_lo (j := 8) ⟨rfl, rfl⟩ (hc := cut_drop hf)) ?_
  refine De2 (fun _ k_ => q_callv [10, 7] [some (cC (.ptr 1 0) N), some (u8s (S0 r er.toNat))] [] gs k_ (ha := (cac (et rfl) rfl (cac (et rfl) (sees_slc rfl rfl (ch_hash hh)) (cac (et rfl) sees_ro ca0)))) (e2 := (pl1 rfl rfl (pl1 rfl sees_m pl0))) (eL := (ml1 rfl (ml1 sees_m ml0))) (eM := ml0)) ?_
  refine Dp (fun _ => q_mv (s := .t _) ⟨rfl, rfl⟩) ?_
  refine Dp (fun _ => q_ext (y := .c _) ⟨rfl, rfl⟩) ?_
  refine Dp (fun _ => q_ext (y := .c _) ⟨rfl, rfl⟩) ?_
  refine Dp (fun _ => q_as (s := .v (.c _)) ⟨rfl, rfl⟩) ?_
  refine Dp (fun _ => q_as (s := .v (.c _)) ⟨rfl, rfl⟩) ?_
  refine dend ?_
  refine awp_seq ?_
  refine awp_seq ?_
  refine rln ?_
  refine Mv ?_
  refine G (q_neqn (y := 0) ?_)
  refine gend ?_
  refine cndY (fun hc7 => ?_) ?_; rotate_left
  · exact (by decide : (8 : Nat) ≠ 0)
  refine awp_seq ?_
  refine rln ?_
  refine Mv ?_
  refine As ?_
  refine G (q_as (s := sc (c64 0)) ?_)
  refine As ?_
  refine gend ?_
  refine awp_ret ?_
  exact fx3 [0, 1, 2, 3, 4, 5, 6, 7, 8, 9] (hm0 := rfl) (hH := (pl1 rfl (chC_map rfl rfl rfl rfl rfl) (pl1 rfl rfl (pl1 rfl rfl (pl1 rfl sees_m (plb rfl (cb_map rfl) (plb rfl kb_map (pl1 rfl rfl (pl1 rfl sees_m (plb rfl (cb_map rfl) (plb rfl kb_map pl0))))))))))) (hn := piB rfl)
set_option maxHeartbeats 1600000 in
theorem chopen_n0_ok (k r hash : List UInt8) (es er sent g : UInt64) (any : Bool) (wg wb : UInt64) (hk : k.length = 32) (hr : r.length = 32) (hh : hash.length = 32) (fr : List UInt8) (f : Nat) (N : UInt64) (hf : fr.length = f) (h24 : 24 ≤ f) (hL : f ≤ 4120) (hN : gt (fr.take 8) = N) (hn : ¬ 281474976710655 < N) (hw : wchk true wg wb N = 0) (hq : ¬ er + 16 < N / 64) (hle : N / 64 ≤ er) (he : (N / 64).toNat % 2 = 0) (hK : (S0 r er.toNat) = kE r (N / 64).toNat) (p : List UInt8) (hop : aopen (kE r (N / 64).toNat) (anonce N) hash (fr.drop 8) = some p) : Good Try.prog 11 [.c (.ptr 0 0), .c (.ro f (u8s fr))] [some (chC es er 2 (decide (es ≠ 0)) 4 6 (decide (er ≠ 0)) 8 sent 1 g any hash), some (wcs true wg wb), some (cC (.ptr 3 0) 0), some (u8s (S0 k es.toNat)), cb (decide (es ≠ 0)) 5, kb (decide (es ≠ 0)) (S1 k es.toNat), some (cC (.ptr 7 0) 0), some (u8s (S0 r er.toNat)), cb (decide (er ≠ 0)) 9, kb (decide (er ≠ 0)) (S1 r er.toNat)] (.t [.c (.slc 10 0 p.length 1), .c (c64 N), .c (cn 0)]) [some (chC es er 2 (decide (es ≠ 0)) 4 6 (decide (er ≠ 0)) 8 sent 1 (mx g N) true hash), some (wcs true (wnext true wg wb N).1 (wnext true wg wb N).2), some (cC (.ptr 3 0) 0), some (u8s (S0 k es.toNat)), cb (decide (es ≠ 0)) 5, kb (decide (es ≠ 0)) (S1 k es.toNat), some (cC (.ptr 7 0) 0), some (u8s (S0 r er.toNat)), cb (decide (er ≠ 0)) 9, kb (decide (er ≠ 0)) (S1 r er.toNat), some (u8s p)] := by
  have gg := get 8 (fr.take 8) (by rw [List.length_take]; omega) (by decide) (by decide)
  rw [hN] at gg
  have gc := check true wg wb N
  rw [hw] at gc
  have hdl : (fr.drop 8).length = f - 8 := by rw [List.length_drop, hf]
  have go := of_r0 es er sent g (decide (es ≠ 0)) (decide (er ≠ 0)) any hash (S0 k es.toNat) (S1 k es.toNat) (S0 r er.toNat) (S1 r er.toNat) wg wb (N / 64) hle ((mod2_nat _).trans he)
  rw [← hK] at hop
  have hA : (S0 r er.toNat).length = 32 := S0_len hr _
  have gs := copen_ok (S0 r er.toNat) hash (fr.drop 8) N 32 (f - 8) hA hh (by decide) hdl (by omega) (fun h => hn (by rw [h]; decide)) p hop
  have hpl := aopen_len hop
  have gm := move_nr es er sent g (decide (es ≠ 0)) (decide (er ≠ 0)) any hash (S0 k es.toNat) (S1 k es.toNat) (S0 r er.toNat) (S1 r er.toNat) (wnext true wg wb N).1 (wnext true wg wb N).2 (N / 64) (by rw [UInt64.lt_iff_toNat_lt]; have h := hle; rw [UInt64.le_iff_toNat_le] at h; omega)
  obtain ⟨ww, hww⟩ : ∃ z, wnext true wg wb N = z := ⟨_, rfl⟩
  have gt_ := take true wg wb N
  rw [hww] at gt_ gm ⊢
  refine good_frm 100 Try.func11 rfl rfl rfl rfl rfl rfl ?_
  refine awp_seq ?_
  refine rln ?_
  refine As ?_
  refine G (q_as (s := sc (c64 0)) ?_)
  refine G (q_as (s := sc (cn 0)) ?_)
  refine gend ?_
  refine awp_seq ?_
  refine awp_block ?_
  refine awp_seq ?_
  refine rln ?_
  refine Mv ?_
  refine G2 (fun _ k_ => q_callp (cthere _ _ _ _ _ _ _ _ _ _ _) k_ (ha := (cac (et rfl) (sees_ch rfl rfl rfl rfl) ca0))) ?_
  refine G (q_notb ?_)
  refine As ?_
  refine gend ?_
  refine cndbnN (fun hc1 => ?_) ?_; rotate_left
  · exact rfl
  refine awp_seq ?_
  refine rln ?_
  refine Mv ?_
  refine G (q_leno ?_)
  refine G (q_gtrn (y := 4120) ?_)
  refine As ?_
  refine gend ?_
  refine cndN (fun hc2 => ?_) ?_; rotate_left
  · omega
  refine awp_seq ?_
  refine rln ?_
  refine Mv ?_
  refine G (q_leno ?_)
  refine G (q_lssn (y := 24) ?_)
  refine As ?_
  refine gend ?_
  refine cndN (fun hc3 => ?_) ?_; rotate_left
  · omega
  refine awp_skip ?_
  refine awp_seq ?_
  refine rln ?_
  refine Mv ?_
  refine G (q_slo_hi (k := 8) ?_ (hc := cut_hi hf))
  refine G2 (fun _ k_ => q_callp gg k_ (ha := (cac (et rfl) sees_ro ca0))) ?_
  refine G (q_mv (s := .t _) ?_)
  refine G (q_ext (y := .c _) ?_)
  refine G (q_ext (y := .c _) ?_)
  refine As ?_
  refine As ?_
  refine gend ?_
  refine awp_seq ?_
  refine awp_seq ?_
  refine rln ?_
  refine Mv ?_
  refine G (q_gtr64 (y := 281474976710655) ?_)
  refine gend ?_
  refine cndN (fun hc4 => ?_) ?_; rotate_left
  · exact hn
  refine awp_skip ?_
  refine awp_seq ?_
  refine awp_seq ?_
  refine rln ?_
  refine Mv ?_
  refine G (q_ncp ?_)
  refine G (q_fap ?_)
  refine G (q_ldp ?_)
  refine Mv ?_
  refine G2 (fun _ k_ => q_callp gc k_ (ha := (cac (et rfl) (sees_ptr rfl rfl rfl rfl) (cac (et rfl) cm_int ca0)))) ?_
  refine As ?_
  refine gend ?_
  refine awp_seq ?_
  refine rln ?_
  refine Mv ?_
  refine G (q_neqn (y := 0) ?_)
  refine gend ?_
  refine cndN (fun hc5 => ?_) ?_; rotate_left
  · exact fun h => h rfl
  refine awp_skip ?_
  refine awp_seq ?_
  refine rln ?_
  refine Mv ?_
  refine G (q_quo64 (y := 64) ?_ (hz := by decide))
  refine As ?_
  refine gend ?_
  refine awp_seq ?_
  refine awp_seq ?_
  refine rln ?_
  refine Mv ?_
  refine Mv ?_
  refine G (q_ncp ?_)
  refine G (q_fap ?_)
  refine G (q_fap ?_)
  refine G (q_ldp ?_)
  refine G (q_add64 (y := 16) ?_)
  refine G (q_gtr64 ?_)
  refine gend ?_
  refine cndN (fun hc6 => ?_) ?_; rotate_left
  · exact hq
  refine awp_skip ?_
  refine awp_seq ?_
  refine rln ?_
  refine Mv ?_
  refine G (q_ncp ?_)
  refine G (q_fap ?_)
  refine Mv ?_
  refine G2 (fun _ k_ => q_callv [0, 1, 2, 3, 4, 5, 6, 7, 8, 9] [some (chC es er 2 (decide (es ≠ 0)) 4 6 (decide (er ≠ 0)) 8 sent 1 g any hash), some (wcs true wg wb), some (cC (.ptr 3 0) 0), some (u8s (S0 k es.toNat)), cb (decide (es ≠ 0)) 5, kb (decide (es ≠ 0)) (S1 k es.toNat), some (cC (.ptr 7 0) 0), some (u8s (S0 r er.toNat)), cb (decide (er ≠ 0)) 9, kb (decide (er ≠ 0)) (S1 r er.toNat)] [some (cC (.ptr 7 0) 0)] go k_ (ha := (cac (et rfl) rfl (cac (et rfl) cm_int ca0))) (e2 := (pl1 rfl (chC_map rfl rfl rfl rfl rfl) (pl1 rfl rfl (pl1 rfl rfl (pl1 rfl sees_m (plb rfl (cb_map rfl) (plb rfl kb_map (pl1 rfl rfl (pl1 rfl sees_m (plb rfl (cb_map rfl) (plb rfl kb_map pl0))))))))))) (eL := (ml1 (chC_map rfl rfl rfl rfl rfl) (ml1 rfl (ml1 rfl (ml1 sees_m (mlb (cb_map rfl) (mlb kb_map (ml1 rfl (ml1 sees_m (mlb (cb_map rfl) (mlb kb_map ml0))))))))))) (eM := (ml1 rfl ml0))) ?_
  refine As ?_
  refine gend ?_
  refine awp_seq ?_
  refine rln ?_
  refine Mv ?_
  refine Mv ?_
  refine G2 (fun _ k_ => q_callv [10, 7] [some (cC (.ptr 1 0) N), some (u8s (S0 r er.toNat))] [] (setn_k (S0 r er.toNat) 0 N) k_ (ha := (cac (et rfl) rfl (cac (et rfl) cm_int ca0))) (e2 := (pl1 rfl rfl (pl1 rfl sees_m pl0))) (eL := (ml1 rfl (ml1 sees_m ml0))) (eM := ml0)) ?_
  refine gend ?_
  refine awp_seq ?_
  refine rdln [7] [0, 0, 0, 0, 0, 0, 0, 0, 1, 1, 1, 1, 1] [0, 0, 0, 0, 0, 0, 0, 1, 1, 1, 1, 1, 1] ?_
  refine Dp (fun _ => q_mv (s := .v (.c _)) ⟨rfl, rfl⟩) ?_
  refine Dp (fun _ => q_mv (s := .v (.c _)) ⟨rfl, rfl⟩) ?_
  refine Dp (fun _ => q_ncp ⟨rfl, rfl⟩) ?_
  refine Dp (fun _ => q_fap ⟨rfl, rfl⟩) ?_
  refine DSp 0 rfl (fun _ hv => q_slp_no ⟨rfl, rfl⟩ (hp := hv) (hl := ch_len hh)) ?_
  refine Dp (fun _ => q_mv (s := .v (.c _)) ⟨rfl, rfl⟩) ?_
  refine Dp (fun _ => q_slo_lo (j := 8) ⟨rfl, rfl⟩ (hc := cut_drop hf)) ?_
  refine De2 (fun _ k_ => q_callv [10, 7] [some (cC (.ptr 1 0) (N + 1)), some (u8s (S0 r er.toNat))] [some (u8s p)] gs k_ (ha := (cac (et rfl) rfl (cac (et rfl) (sees_slc rfl rfl (ch_hash hh)) (cac (et rfl) sees_ro ca0)))) (e2 := (pl1 rfl rfl (pl1 rfl sees_m pl0))) (eL := (ml1 rfl (ml1 sees_m ml0))) (eM := (ml1 sees_m ml0))) ?_
  refine Dp (fun _ => q_mv (s := .t _) ⟨rfl, rfl⟩) ?_
  refine Dp (fun _ => q_ext (y := .c _) ⟨rfl, rfl⟩) ?_
  refine Dp (fun _ => q_ext (y := .c _) ⟨rfl, rfl⟩) ?_
  refine Dp (fun _ => q_as (s := .v (.c _)) ⟨rfl, rfl⟩) ?_
  refine Dp (fun _ => q_as (s := .v (.c _)) ⟨rfl, rfl⟩) ?_
  refine dend ?_
  refine awp_seq ?_
  refine awp_seq ?_
  refine rln ?_
  refine Mv ?_
  refine G (q_neqn (y := 0) ?_)
  refine gend ?_
  refine cndN (fun hc7 => ?_) ?_; rotate_left
  · exact fun h => h rfl
  refine awp_skip ?_
  refine awp_seq ?_
  refine rln ?_
  refine Mv ?_
  refine G (q_ncp ?_)
  refine G (q_fap ?_)
  refine G (q_ldp ?_)
  refine Mv ?_
  refine G2 (fun _ k_ => q_callw 1 gt_ k_ (ha := (cac (et rfl) rfl (cac (et rfl) cm_int ca0)))) ?_
  refine gend ?_
  refine awp_seq ?_
  refine rln ?_
  refine Mv ?_
  refine G (q_ncp ?_)
  refine G (q_fap ?_)
  refine Mv ?_
  refine G2 (fun _ k_ => q_callv [0, 1, 2, 3, 4, 5, 6, 7, 8, 9] [some (chC es er 2 (decide (es ≠ 0)) 4 6 (decide (er ≠ 0)) 8 sent 1 g any hash), some (wcs true ww.1 ww.2), some (cC (.ptr 3 0) 0), some (u8s (S0 k es.toNat)), cb (decide (es ≠ 0)) 5, kb (decide (es ≠ 0)) (S1 k es.toNat), some (cC (.ptr 7 0) 0), some (u8s (S0 r er.toNat)), cb (decide (er ≠ 0)) 9, kb (decide (er ≠ 0)) (S1 r er.toNat)] [] gm k_ (ha := (cac (et rfl) rfl (cac (et rfl) cm_int ca0))) (e2 := (pl1 rfl (chC_map rfl rfl rfl rfl rfl) (pl1 rfl rfl (pl1 rfl rfl (pl1 rfl sees_m (plb rfl (cb_map rfl) (plb rfl kb_map (pl1 rfl rfl (pl1 rfl sees_m (plb rfl (cb_map rfl) (plb rfl kb_map pl0))))))))))) (eL := (ml1 (chC_map rfl rfl rfl rfl rfl) (ml1 rfl (ml1 rfl (ml1 sees_m (mlb (cb_map rfl) (mlb kb_map (ml1 rfl (ml1 sees_m (mlb (cb_map rfl) (mlb kb_map ml0))))))))))) (eM := ml0)) ?_
  refine gend ?_
  refine awp_seq ?_
  refine rln ?_
  refine Mv ?_
  refine Mv ?_
  refine Mv ?_
  refine G (q_ncp ?_)
  refine G (q_fap ?_)
  refine G (q_ldp ?_)
  refine Mv ?_
  refine G (q_max64 ?_)
  refine G (q_ncp ?_)
  refine G (q_fap ?_)
  refine G20 (fun _ k_ => q_st k_) ?_
  refine G (q_ncp ?_)
  refine G (q_fap ?_)
  refine G20 (fun _ k_ => q_st (c := .bool true) k_) ?_
  refine gend ?_
  refine awp_seq ?_
  refine rln ?_
  refine Mv ?_
  refine Mv ?_
  refine As ?_
  refine As ?_
  refine G (q_as (s := sc (cn 0)) ?_)
  refine gend ?_
  refine awp_ret ?_
  rw [show p.length = f - 8 - 16 by omega]; exact fx3 [0, 1, 2, 3, 4, 5, 6, 7, 8, 9, 11] (hm0 := rfl) (hH := (pl1 rfl (chC_map rfl rfl rfl rfl rfl) (pl1 rfl rfl (pl1 rfl rfl (pl1 rfl sees_m (plb rfl (cb_map rfl) (plb rfl kb_map (pl1 rfl rfl (pl1 rfl sees_m (plb rfl (cb_map rfl) (plb rfl kb_map (pl1 rfl sees_m pl0)))))))))))) (hn := piB rfl)
set_option maxHeartbeats 1600000 in
theorem chopen_n1_bad (k r hash : List UInt8) (es er sent g : UInt64) (any : Bool) (wg wb : UInt64) (hk : k.length = 32) (hr : r.length = 32) (hh : hash.length = 32) (fr : List UInt8) (f : Nat) (N : UInt64) (hf : fr.length = f) (h24 : 24 ≤ f) (hL : f ≤ 4120) (hN : gt (fr.take 8) = N) (hn : ¬ 281474976710655 < N) (hw : wchk true wg wb N = 0) (hq : ¬ er + 16 < N / 64) (hle : N / 64 ≤ er) (he : (N / 64).toNat % 2 = 1) (hone : (decide (er ≠ 0)) = true) (hK : (S1 r er.toNat) = kE r (N / 64).toNat) (hop : aopen (kE r (N / 64).toNat) (anonce N) hash (fr.drop 8) = none) : Good Try.prog 11 [.c (.ptr 0 0), .c (.ro f (u8s fr))] [some (chC es er 2 (decide (es ≠ 0)) 4 6 (decide (er ≠ 0)) 8 sent 1 g any hash), some (wcs true wg wb), some (cC (.ptr 3 0) 0), some (u8s (S0 k es.toNat)), cb (decide (es ≠ 0)) 5, kb (decide (es ≠ 0)) (S1 k es.toNat), some (cC (.ptr 7 0) 0), some (u8s (S0 r er.toNat)), cb (decide (er ≠ 0)) 9, kb (decide (er ≠ 0)) (S1 r er.toNat)] (.t [.c .nils, .c (c64 0), .c (cn 8)]) [some (chC es er 2 (decide (es ≠ 0)) 4 6 (decide (er ≠ 0)) 8 sent 1 g any hash), some (wcs true wg wb), some (cC (.ptr 3 0) 0), some (u8s (S0 k es.toNat)), cb (decide (es ≠ 0)) 5, kb (decide (es ≠ 0)) (S1 k es.toNat), some (cC (.ptr 7 0) 0), some (u8s (S0 r er.toNat)), cb (decide (er ≠ 0)) 9, kb (decide (er ≠ 0)) (S1 r er.toNat)] := by
  have gg := get 8 (fr.take 8) (by rw [List.length_take]; omega) (by decide) (by decide)
  rw [hN] at gg
  have gc := check true wg wb N
  rw [hw] at gc
  have hdl : (fr.drop 8).length = f - 8 := by rw [List.length_drop, hf]
  have go := of_r1 es er sent g (decide (es ≠ 0)) any hash (S0 k es.toNat) (S1 k es.toNat) (S0 r er.toNat) (S1 r er.toNat) wg wb (N / 64) hle ((mod2_nat _).trans he)
  rw [← hK] at hop
  rw [hone]
  have hA : (S1 r er.toNat).length = 32 := S1_len hr _
  have gs := copen_bad (S1 r er.toNat) hash (fr.drop 8) N 32 (f - 8) hA hh (by decide) hdl (by omega) (fun h => hn (by rw [h]; decide)) hop
  refine good_frm 100 Try.func11 rfl rfl rfl rfl rfl rfl ?_
  refine awp_seq ?_
  refine rln ?_
  refine As ?_
  refine G (q_as (s := sc (c64 0)) ?_)
  refine G (q_as (s := sc (cn 0)) ?_)
  refine gend ?_
  refine awp_seq ?_
  refine awp_block ?_
  refine awp_seq ?_
  refine rln ?_
  refine Mv ?_
  refine G2 (fun _ k_ => q_callp (cthere _ _ _ _ _ _ _ _ _ _ _) k_ (ha := (cac (et rfl) (sees_ch rfl rfl rfl rfl) ca0))) ?_
  refine G (q_notb ?_)
  refine As ?_
  refine gend ?_
  refine cndbnN (fun hc1 => ?_) ?_; rotate_left
  · exact rfl
  refine awp_seq ?_
  refine rln ?_
  refine Mv ?_
  refine G (q_leno ?_)
  refine G (q_gtrn (y := 4120) ?_)
  refine As ?_
  refine gend ?_
  refine cndN (fun hc2 => ?_) ?_; rotate_left
  · omega
  refine awp_seq ?_
  refine rln ?_
  refine Mv ?_
  refine G (q_leno ?_)
  refine G (q_lssn (y := 24) ?_)
  refine As ?_
  refine gend ?_
  refine cndN (fun hc3 => ?_) ?_; rotate_left
  · omega
  refine awp_skip ?_
  refine awp_seq ?_
  refine rln ?_
  refine Mv ?_
  refine G (q_slo_hi (k := 8) ?_ (hc := cut_hi hf))
  refine G2 (fun _ k_ => q_callp gg k_ (ha := (cac (et rfl) sees_ro ca0))) ?_
  refine G (q_mv (s := .t _) ?_)
  refine G (q_ext (y := .c _) ?_)
  refine G (q_ext (y := .c _) ?_)
  refine As ?_
  refine As ?_
  refine gend ?_
  refine awp_seq ?_
  refine awp_seq ?_
  refine rln ?_
  refine Mv ?_
  refine G (q_gtr64 (y := 281474976710655) ?_)
  refine gend ?_
  refine cndN (fun hc4 => ?_) ?_; rotate_left
  · exact hn
  refine awp_skip ?_
  refine awp_seq ?_
  refine awp_seq ?_
  refine rln ?_
  refine Mv ?_
  refine G (q_ncp ?_)
  refine G (q_fap ?_)
  refine G (q_ldp ?_)
  refine Mv ?_
  refine G2 (fun _ k_ => q_callp gc k_ (ha := (cac (et rfl) (sees_ptr rfl rfl rfl rfl) (cac (et rfl) cm_int ca0)))) ?_
  refine As ?_
  refine gend ?_
  refine awp_seq ?_
  refine rln ?_
  refine Mv ?_
  refine G (q_neqn (y := 0) ?_)
  refine gend ?_
  refine cndN (fun hc5 => ?_) ?_; rotate_left
  · exact fun h => h rfl
  refine awp_skip ?_
  refine awp_seq ?_
  refine rln ?_
  refine Mv ?_
  refine G (q_quo64 (y := 64) ?_ (hz := by decide))
  refine As ?_
  refine gend ?_
  refine awp_seq ?_
  refine awp_seq ?_
  refine rln ?_
  refine Mv ?_
  refine Mv ?_
  refine G (q_ncp ?_)
  refine G (q_fap ?_)
  refine G (q_fap ?_)
  refine G (q_ldp ?_)
  refine G (q_add64 (y := 16) ?_)
  refine G (q_gtr64 ?_)
  refine gend ?_
  refine cndN (fun hc6 => ?_) ?_; rotate_left
  · exact hq
  refine awp_skip ?_
  refine awp_seq ?_
  refine rln ?_
  refine Mv ?_
  refine G (q_ncp ?_)
  refine G (q_fap ?_)
  refine Mv ?_
  refine G2 (fun _ k_ => q_callv [0, 1, 2, 3, 4, 5, 6, 7, 8, 9] [some (chC es er 2 (decide (es ≠ 0)) 4 6 true 8 sent 1 g any hash), some (wcs true wg wb), some (cC (.ptr 3 0) 0), some (u8s (S0 k es.toNat)), cb (decide (es ≠ 0)) 5, kb (decide (es ≠ 0)) (S1 k es.toNat), some (cC (.ptr 7 0) 0), some (u8s (S0 r er.toNat)), cb true 9, kb true (S1 r er.toNat)] [some (cC (.ptr 9 0) 0)] go k_ (ha := (cac (et rfl) rfl (cac (et rfl) cm_int ca0))) (e2 := (pl1 rfl (chC_map rfl rfl rfl rfl rfl) (pl1 rfl rfl (pl1 rfl rfl (pl1 rfl sees_m (plb rfl (cb_map rfl) (plb rfl kb_map (pl1 rfl rfl (pl1 rfl sees_m (pl1 rfl rfl (pl1 rfl sees_m pl0))))))))))) (eL := (ml1 (chC_map rfl rfl rfl rfl rfl) (ml1 rfl (ml1 rfl (ml1 sees_m (mlb (cb_map rfl) (mlb kb_map (ml1 rfl (ml1 sees_m (ml1 rfl (ml1 sees_m ml0))))))))))) (eM := (ml1 rfl ml0))) ?_
  refine As ?_
  refine gend ?_
  refine awp_seq ?_
  refine rln ?_
  refine Mv ?_
  refine Mv ?_
  refine G2 (fun _ k_ => q_callv [10, 9] [some (cC (.ptr 1 0) N), some (u8s (S1 r er.toNat))] [] (setn_k (S1 r er.toNat) 0 N) k_ (ha := (cac (et rfl) rfl (cac (et rfl) cm_int ca0))) (e2 := (pl1 rfl rfl (pl1 rfl sees_m pl0))) (eL := (ml1 rfl (ml1 sees_m ml0))) (eM := ml0)) ?_
  refine gend ?_
  refine awp_seq ?_
  refine rdln [7] [0, 0, 0, 0, 0, 0, 0, 0, 1, 1, 1, 1, 1] [0, 0, 0, 0, 0, 0, 0, 1, 1, 1, 1, 1, 1] ?_
  refine Dp (fun _ => q_mv (s := .v (.c _)) ⟨rfl, rfl⟩) ?_
  refine Dp (fun _ => q_mv (s := .v (.c _)) ⟨rfl, rfl⟩) ?_
  refine Dp (fun _ => q_ncp ⟨rfl, rfl⟩) ?_
  refine Dp (fun _ => q_fap ⟨rfl, rfl⟩) ?_
  refine DSp 0 rfl (fun _ hv => q_slp_no ⟨rfl, rfl⟩ (hp := hv) (hl := ch_len hh)) ?_
  refine Dp (fun _ => q_mv (s := .v (.c _)) ⟨rfl, rfl⟩) ?_
  refine Dp (fun _ => q_slo_lo (j := 8) ⟨rfl, rfl⟩ (hc := cut_drop hf)) ?_
  refine De2 (fun _ k_ => q_callv [10, 9] [some (cC (.ptr 1 0) N), some (u8s (S1 r er.toNat))] [] gs k_ (ha := (cac (et rfl) rfl (cac (et rfl) (sees_slc rfl rfl (ch_hash hh)) (cac (et rfl) sees_ro ca0)))) (e2 := (pl1 rfl rfl (pl1 rfl sees_m pl0))) (eL := (ml1 rfl (ml1 sees_m ml0))) (eM := ml0)) ?_
  refine Dp (fun _ => q_mv (s := .t _) ⟨rfl, rfl⟩) ?_
  refine Dp (fun _ => q_ext (y := .c _) ⟨rfl, rfl⟩) ?_
  refine Dp (fun _ => q_ext (y := .c _) ⟨rfl, rfl⟩) ?_
  refine Dp (fun _ => q_as (s := .v (.c _)) ⟨rfl, rfl⟩) ?_
  refine Dp (fun _ => q_as (s := .v (.c _)) ⟨rfl, rfl⟩) ?_
  refine dend ?_
  refine awp_seq ?_
  refine awp_seq ?_
  refine rln ?_
  refine Mv ?_
  refine G (q_neqn (y := 0) ?_)
  refine gend ?_
  refine cndY (fun hc7 => ?_) ?_; rotate_left
  · exact (by decide : (8 : Nat) ≠ 0)
  refine awp_seq ?_
  refine rln ?_
  refine Mv ?_
  refine As ?_
  refine G (q_as (s := sc (c64 0)) ?_)
  refine As ?_
  refine gend ?_
  refine awp_ret ?_
  exact fx3 [0, 1, 2, 3, 4, 5, 6, 7, 8, 9] (hm0 := rfl) (hH := (pl1 rfl (chC_map rfl rfl rfl rfl rfl) (pl1 rfl rfl (pl1 rfl rfl (pl1 rfl sees_m (plb rfl (cb_map rfl) (plb rfl kb_map (pl1 rfl rfl (pl1 rfl sees_m (pl1 rfl rfl (pl1 rfl sees_m pl0))))))))))) (hn := piB rfl)
set_option maxHeartbeats 1600000 in
theorem chopen_n1_ok (k r hash : List UInt8) (es er sent g : UInt64) (any : Bool) (wg wb : UInt64) (hk : k.length = 32) (hr : r.length = 32) (hh : hash.length = 32) (fr : List UInt8) (f : Nat) (N : UInt64) (hf : fr.length = f) (h24 : 24 ≤ f) (hL : f ≤ 4120) (hN : gt (fr.take 8) = N) (hn : ¬ 281474976710655 < N) (hw : wchk true wg wb N = 0) (hq : ¬ er + 16 < N / 64) (hle : N / 64 ≤ er) (he : (N / 64).toNat % 2 = 1) (hone : (decide (er ≠ 0)) = true) (hK : (S1 r er.toNat) = kE r (N / 64).toNat) (p : List UInt8) (hop : aopen (kE r (N / 64).toNat) (anonce N) hash (fr.drop 8) = some p) : Good Try.prog 11 [.c (.ptr 0 0), .c (.ro f (u8s fr))] [some (chC es er 2 (decide (es ≠ 0)) 4 6 (decide (er ≠ 0)) 8 sent 1 g any hash), some (wcs true wg wb), some (cC (.ptr 3 0) 0), some (u8s (S0 k es.toNat)), cb (decide (es ≠ 0)) 5, kb (decide (es ≠ 0)) (S1 k es.toNat), some (cC (.ptr 7 0) 0), some (u8s (S0 r er.toNat)), cb (decide (er ≠ 0)) 9, kb (decide (er ≠ 0)) (S1 r er.toNat)] (.t [.c (.slc 10 0 p.length 1), .c (c64 N), .c (cn 0)]) [some (chC es er 2 (decide (es ≠ 0)) 4 6 (decide (er ≠ 0)) 8 sent 1 (mx g N) true hash), some (wcs true (wnext true wg wb N).1 (wnext true wg wb N).2), some (cC (.ptr 3 0) 0), some (u8s (S0 k es.toNat)), cb (decide (es ≠ 0)) 5, kb (decide (es ≠ 0)) (S1 k es.toNat), some (cC (.ptr 7 0) 0), some (u8s (S0 r er.toNat)), cb (decide (er ≠ 0)) 9, kb (decide (er ≠ 0)) (S1 r er.toNat), some (u8s p)] := by
  have gg := get 8 (fr.take 8) (by rw [List.length_take]; omega) (by decide) (by decide)
  rw [hN] at gg
  have gc := check true wg wb N
  rw [hw] at gc
  have hdl : (fr.drop 8).length = f - 8 := by rw [List.length_drop, hf]
  have go := of_r1 es er sent g (decide (es ≠ 0)) any hash (S0 k es.toNat) (S1 k es.toNat) (S0 r er.toNat) (S1 r er.toNat) wg wb (N / 64) hle ((mod2_nat _).trans he)
  rw [← hK] at hop
  rw [hone]
  have hA : (S1 r er.toNat).length = 32 := S1_len hr _
  have gs := copen_ok (S1 r er.toNat) hash (fr.drop 8) N 32 (f - 8) hA hh (by decide) hdl (by omega) (fun h => hn (by rw [h]; decide)) p hop
  have hpl := aopen_len hop
  have gm := move_nr es er sent g (decide (es ≠ 0)) true any hash (S0 k es.toNat) (S1 k es.toNat) (S0 r er.toNat) (S1 r er.toNat) (wnext true wg wb N).1 (wnext true wg wb N).2 (N / 64) (by rw [UInt64.lt_iff_toNat_lt]; have h := hle; rw [UInt64.le_iff_toNat_le] at h; omega)
  obtain ⟨ww, hww⟩ : ∃ z, wnext true wg wb N = z := ⟨_, rfl⟩
  have gt_ := take true wg wb N
  rw [hww] at gt_ gm ⊢
  refine good_frm 100 Try.func11 rfl rfl rfl rfl rfl rfl ?_
  refine awp_seq ?_
  refine rln ?_
  refine As ?_
  refine G (q_as (s := sc (c64 0)) ?_)
  refine G (q_as (s := sc (cn 0)) ?_)
  refine gend ?_
  refine awp_seq ?_
  refine awp_block ?_
  refine awp_seq ?_
  refine rln ?_
  refine Mv ?_
  refine G2 (fun _ k_ => q_callp (cthere _ _ _ _ _ _ _ _ _ _ _) k_ (ha := (cac (et rfl) (sees_ch rfl rfl rfl rfl) ca0))) ?_
  refine G (q_notb ?_)
  refine As ?_
  refine gend ?_
  refine cndbnN (fun hc1 => ?_) ?_; rotate_left
  · exact rfl
  refine awp_seq ?_
  refine rln ?_
  refine Mv ?_
  refine G (q_leno ?_)
  refine G (q_gtrn (y := 4120) ?_)
  refine As ?_
  refine gend ?_
  refine cndN (fun hc2 => ?_) ?_; rotate_left
  · omega
  refine awp_seq ?_
  refine rln ?_
  refine Mv ?_
  refine G (q_leno ?_)
  refine G (q_lssn (y := 24) ?_)
  refine As ?_
  refine gend ?_
  refine cndN (fun hc3 => ?_) ?_; rotate_left
  · omega
  refine awp_skip ?_
  refine awp_seq ?_
  refine rln ?_
  refine Mv ?_
  refine G (q_slo_hi (k := 8) ?_ (hc := cut_hi hf))
  refine G2 (fun _ k_ => q_callp gg k_ (ha := (cac (et rfl) sees_ro ca0))) ?_
  refine G (q_mv (s := .t _) ?_)
  refine G (q_ext (y := .c _) ?_)
  refine G (q_ext (y := .c _) ?_)
  refine As ?_
  refine As ?_
  refine gend ?_
  refine awp_seq ?_
  refine awp_seq ?_
  refine rln ?_
  refine Mv ?_
  refine G (q_gtr64 (y := 281474976710655) ?_)
  refine gend ?_
  refine cndN (fun hc4 => ?_) ?_; rotate_left
  · exact hn
  refine awp_skip ?_
  refine awp_seq ?_
  refine awp_seq ?_
  refine rln ?_
  refine Mv ?_
  refine G (q_ncp ?_)
  refine G (q_fap ?_)
  refine G (q_ldp ?_)
  refine Mv ?_
  refine G2 (fun _ k_ => q_callp gc k_ (ha := (cac (et rfl) (sees_ptr rfl rfl rfl rfl) (cac (et rfl) cm_int ca0)))) ?_
  refine As ?_
  refine gend ?_
  refine awp_seq ?_
  refine rln ?_
  refine Mv ?_
  refine G (q_neqn (y := 0) ?_)
  refine gend ?_
  refine cndN (fun hc5 => ?_) ?_; rotate_left
  · exact fun h => h rfl
  refine awp_skip ?_
  refine awp_seq ?_
  refine rln ?_
  refine Mv ?_
  refine G (q_quo64 (y := 64) ?_ (hz := by decide))
  refine As ?_
  refine gend ?_
  refine awp_seq ?_
  refine awp_seq ?_
  refine rln ?_
  refine Mv ?_
  refine Mv ?_
  refine G (q_ncp ?_)
  refine G (q_fap ?_)
  refine G (q_fap ?_)
  refine G (q_ldp ?_)
  refine G (q_add64 (y := 16) ?_)
  refine G (q_gtr64 ?_)
  refine gend ?_
  refine cndN (fun hc6 => ?_) ?_; rotate_left
  · exact hq
  refine awp_skip ?_
  refine awp_seq ?_
  refine rln ?_
  refine Mv ?_
  refine G (q_ncp ?_)
  refine G (q_fap ?_)
  refine Mv ?_
  refine G2 (fun _ k_ => q_callv [0, 1, 2, 3, 4, 5, 6, 7, 8, 9] [some (chC es er 2 (decide (es ≠ 0)) 4 6 true 8 sent 1 g any hash), some (wcs true wg wb), some (cC (.ptr 3 0) 0), some (u8s (S0 k es.toNat)), cb (decide (es ≠ 0)) 5, kb (decide (es ≠ 0)) (S1 k es.toNat), some (cC (.ptr 7 0) 0), some (u8s (S0 r er.toNat)), cb true 9, kb true (S1 r er.toNat)] [some (cC (.ptr 9 0) 0)] go k_ (ha := (cac (et rfl) rfl (cac (et rfl) cm_int ca0))) (e2 := (pl1 rfl (chC_map rfl rfl rfl rfl rfl) (pl1 rfl rfl (pl1 rfl rfl (pl1 rfl sees_m (plb rfl (cb_map rfl) (plb rfl kb_map (pl1 rfl rfl (pl1 rfl sees_m (pl1 rfl rfl (pl1 rfl sees_m pl0))))))))))) (eL := (ml1 (chC_map rfl rfl rfl rfl rfl) (ml1 rfl (ml1 rfl (ml1 sees_m (mlb (cb_map rfl) (mlb kb_map (ml1 rfl (ml1 sees_m (ml1 rfl (ml1 sees_m ml0))))))))))) (eM := (ml1 rfl ml0))) ?_
  refine As ?_
  refine gend ?_
  refine awp_seq ?_
  refine rln ?_
  refine Mv ?_
  refine Mv ?_
  refine G2 (fun _ k_ => q_callv [10, 9] [some (cC (.ptr 1 0) N), some (u8s (S1 r er.toNat))] [] (setn_k (S1 r er.toNat) 0 N) k_ (ha := (cac (et rfl) rfl (cac (et rfl) cm_int ca0))) (e2 := (pl1 rfl rfl (pl1 rfl sees_m pl0))) (eL := (ml1 rfl (ml1 sees_m ml0))) (eM := ml0)) ?_
  refine gend ?_
  refine awp_seq ?_
  refine rdln [7] [0, 0, 0, 0, 0, 0, 0, 0, 1, 1, 1, 1, 1] [0, 0, 0, 0, 0, 0, 0, 1, 1, 1, 1, 1, 1] ?_
  refine Dp (fun _ => q_mv (s := .v (.c _)) ⟨rfl, rfl⟩) ?_
  refine Dp (fun _ => q_mv (s := .v (.c _)) ⟨rfl, rfl⟩) ?_
  refine Dp (fun _ => q_ncp ⟨rfl, rfl⟩) ?_
  refine Dp (fun _ => q_fap ⟨rfl, rfl⟩) ?_
  refine DSp 0 rfl (fun _ hv => q_slp_no ⟨rfl, rfl⟩ (hp := hv) (hl := ch_len hh)) ?_
  refine Dp (fun _ => q_mv (s := .v (.c _)) ⟨rfl, rfl⟩) ?_
  refine Dp (fun _ => q_slo_lo (j := 8) ⟨rfl, rfl⟩ (hc := cut_drop hf)) ?_
  refine De2 (fun _ k_ => q_callv [10, 9] [some (cC (.ptr 1 0) (N + 1)), some (u8s (S1 r er.toNat))] [some (u8s p)] gs k_ (ha := (cac (et rfl) rfl (cac (et rfl) (sees_slc rfl rfl (ch_hash hh)) (cac (et rfl) sees_ro ca0)))) (e2 := (pl1 rfl rfl (pl1 rfl sees_m pl0))) (eL := (ml1 rfl (ml1 sees_m ml0))) (eM := (ml1 sees_m ml0))) ?_
  refine Dp (fun _ => q_mv (s := .t _) ⟨rfl, rfl⟩) ?_
  refine Dp (fun _ => q_ext (y := .c _) ⟨rfl, rfl⟩) ?_
  refine Dp (fun _ => q_ext (y := .c _) ⟨rfl, rfl⟩) ?_
  refine Dp (fun _ => q_as (s := .v (.c _)) ⟨rfl, rfl⟩) ?_
  refine Dp (fun _ => q_as (s := .v (.c _)) ⟨rfl, rfl⟩) ?_
  refine dend ?_
  refine awp_seq ?_
  refine awp_seq ?_
  refine rln ?_
  refine Mv ?_
  refine G (q_neqn (y := 0) ?_)
  refine gend ?_
  refine cndN (fun hc7 => ?_) ?_; rotate_left
  · exact fun h => h rfl
  refine awp_skip ?_
  refine awp_seq ?_
  refine rln ?_
  refine Mv ?_
  refine G (q_ncp ?_)
  refine G (q_fap ?_)
  refine G (q_ldp ?_)
  refine Mv ?_
  refine G2 (fun _ k_ => q_callw 1 gt_ k_ (ha := (cac (et rfl) rfl (cac (et rfl) cm_int ca0)))) ?_
  refine gend ?_
  refine awp_seq ?_
  refine rln ?_
  refine Mv ?_
  refine G (q_ncp ?_)
  refine G (q_fap ?_)
  refine Mv ?_
  refine G2 (fun _ k_ => q_callv [0, 1, 2, 3, 4, 5, 6, 7, 8, 9] [some (chC es er 2 (decide (es ≠ 0)) 4 6 true 8 sent 1 g any hash), some (wcs true ww.1 ww.2), some (cC (.ptr 3 0) 0), some (u8s (S0 k es.toNat)), cb (decide (es ≠ 0)) 5, kb (decide (es ≠ 0)) (S1 k es.toNat), some (cC (.ptr 7 0) 0), some (u8s (S0 r er.toNat)), cb true 9, kb true (S1 r er.toNat)] [] gm k_ (ha := (cac (et rfl) rfl (cac (et rfl) cm_int ca0))) (e2 := (pl1 rfl (chC_map rfl rfl rfl rfl rfl) (pl1 rfl rfl (pl1 rfl rfl (pl1 rfl sees_m (plb rfl (cb_map rfl) (plb rfl kb_map (pl1 rfl rfl (pl1 rfl sees_m (pl1 rfl rfl (pl1 rfl sees_m pl0))))))))))) (eL := (ml1 (chC_map rfl rfl rfl rfl rfl) (ml1 rfl (ml1 rfl (ml1 sees_m (mlb (cb_map rfl) (mlb kb_map (ml1 rfl (ml1 sees_m (ml1 rfl (ml1 sees_m ml0))))))))))) (eM := ml0)) ?_
  refine gend ?_
  refine awp_seq ?_
  refine rln ?_
  refine Mv ?_
  refine Mv ?_
  refine Mv ?_
  refine G (q_ncp ?_)
  refine G (q_fap ?_)
  refine G (q_ldp ?_)
  refine Mv ?_
  refine G (q_max64 ?_)
  refine G (q_ncp ?_)
  refine G (q_fap ?_)
  refine G20 (fun _ k_ => q_st k_) ?_
  refine G (q_ncp ?_)
  refine G (q_fap ?_)
  refine G20 (fun _ k_ => q_st (c := .bool true) k_) ?_
  refine gend ?_
  refine awp_seq ?_
  refine rln ?_
  refine Mv ?_
  refine Mv ?_
  refine As ?_
  refine As ?_
  refine G (q_as (s := sc (cn 0)) ?_)
  refine gend ?_
  refine awp_ret ?_
  rw [show p.length = f - 8 - 16 by omega]; exact fx3 [0, 1, 2, 3, 4, 5, 6, 7, 8, 9, 11] (hm0 := rfl) (hH := (pl1 rfl (chC_map rfl rfl rfl rfl rfl) (pl1 rfl rfl (pl1 rfl rfl (pl1 rfl sees_m (plb rfl (cb_map rfl) (plb rfl kb_map (pl1 rfl rfl (pl1 rfl sees_m (pl1 rfl rfl (pl1 rfl sees_m (pl1 rfl sees_m pl0)))))))))))) (hn := piB rfl)
end Go.Proofs.Ytklcckngmmklhaa

/- What functions of the program do, walked over the abstract machine. -/
namespace Go.Proofs.Ytklcckngmmklhaa
open Go Go.Abs Go.Proofs Go.Proofs.Ytklcckngmmklhaa.Ch Go.Proofs.Ytklcckngmmklhaa.Po Go.Proofs.Ytklcckngmmklhaa.Ae Go.Proofs.Ytklcckngmmklhaa.Wd
set_option maxRecDepth 20000
set_option maxHeartbeats 1600000 in
theorem chopen_m0_bad (k r hash : List UInt8) (es er sent g : UInt64) (any : Bool) (wg wb : UInt64) (hk : k.length = 32) (hr : r.length = 32) (hh : hash.length = 32) (fr : List UInt8) (f : Nat) (N : UInt64) (hf : fr.length = f) (h24 : 24 ≤ f) (hL : f ≤ 4120) (hN : gt (fr.take 8) = N) (hn : ¬ 281474976710655 < N) (hw : wchk true wg wb N = 0) (hq : ¬ er + 16 < N / 64) (hle : ¬ N / 64 ≤ er) (he : er.toNat % 2 = 0) (hop : aopen (kE r (N / 64).toNat) (anonce N) hash (fr.drop 8) = none) : Good Try.prog 11 [.c (.ptr 0 0), .c (.ro f (u8s fr))] [some (chC es er 2 (decide (es ≠ 0)) 4 6 (decide (er ≠ 0)) 8 sent 1 g any hash), some (wcs true wg wb), some (cC (.ptr 3 0) 0), some (u8s (S0 k es.toNat)), cb (decide (es ≠ 0)) 5, kb (decide (es ≠ 0)) (S1 k es.toNat), some (cC (.ptr 7 0) 0), some (u8s (S0 r er.toNat)), cb (decide (er ≠ 0)) 9, kb (decide (er ≠ 0)) (S1 r er.toNat)] (.t [.c .nils, .c (c64 0), .c (cn 8)]) [some (chC es er 2 (decide (es ≠ 0)) 4 6 (decide (er ≠ 0)) 8 sent 1 g any hash), some (wcs true wg wb), some (cC (.ptr 3 0) 0), some (u8s (S0 k es.toNat)), cb (decide (es ≠ 0)) 5, kb (decide (es ≠ 0)) (S1 k es.toNat), some (cC (.ptr 7 0) 0), some (u8s (S0 r er.toNat)), cb (decide (er ≠ 0)) 9, kb (decide (er ≠ 0)) (S1 r er.toNat)] := by
  have gg := get 8 (fr.take 8) (by rw [List.length_take]; omega) (by decide) (by decide)
  rw [hN] at gg
  have gc := check true wg wb N
  rw [hw] at gc
  have hdl : (fr.drop 8).length = f - 8 := by rw [List.length_drop, hf]
  have hS : S0 r er.toNat = kE r er.toNat := (S0_even he).2.2
  have hN6 : er.toNat + (N / 64 - er).toNat = (N / 64).toNat := by
    have h := hle; rw [UInt64.le_iff_toNat_le] at h; rw [UInt64.toNat_sub_of_le _ _ (UInt64.le_iff_toNat_le.2 (by omega))]; omega
  have go := of_rf0 es er sent g (decide (es ≠ 0)) (decide (er ≠ 0)) any hash (S0 k es.toNat) (S1 k es.toNat) (S0 r er.toNat) (S1 r er.toNat) wg wb (N / 64) hle ((mod2_nat _).trans he) (S0_len hr _)
  rw [show kE (S0 r er.toNat) (N / 64 - er).toNat = kE r (N / 64).toNat by rw [hS, kE_add, hN6]] at go
  have hA : (kE r (N / 64).toNat).length = 32 := kE_len hr _
  have gs := copen_bad (kE r (N / 64).toNat) hash (fr.drop 8) N 32 (f - 8) hA hh (by decide) hdl (by omega) (fun h => hn (by rw [h]; decide)) hop
  refine good_frm 100 Try.func11 rfl rfl rfl rfl rfl rfl ?_
  refine awp_seq ?_
  refine rln ?_
  refine As ?_
  refine G (q_as (s := sc (c64 0)) ?_)
  refine G (q_as (s := sc (cn 0)) ?_)
  refine gend ?_
  refine awp_seq ?_
  refine awp_block ?_
  refine awp_seq ?_
  refine rln ?_
  refine Mv ?_
  refine G2 (fun _ k_ => q_callp (cthere _ _ _ _ _ _ _ _ _ _ _) k_ (ha := (cac (et rfl) (sees_ch rfl rfl rfl rfl) ca0))) ?_
  refine G (q_notb ?_)
  refine As ?_
  refine gend ?_
  refine cndbnN (fun hc1 => ?_) ?_; rotate_left
  · exact rfl
  refine awp_seq ?_
  refine rln ?_
  refine Mv ?_
  refine G (q_leno ?_)
  refine G (q_gtrn (y := 4120) ?_)
  refine As ?_
  refine gend ?_
  refine cndN (fun hc2 => ?_) ?_; rotate_left
  · omega
  refine awp_seq ?_
  refine rln ?_
  refine Mv ?_
  refine G (q_leno ?_)
  refine G (q_lssn (y := 24) ?_)
  refine As ?_
  refine gend ?_
  refine cndN (fun hc3 => ?_) ?_; rotate_left
  · omega
  refine awp_skip ?_
  refine awp_seq ?_
  refine rln ?_
  refine Mv ?_
  refine G (q_slo_hi (k := 8) ?_ (hc := cut_hi hf))
  refine G2 (fun _ k_ => q_callp gg k_ (ha := (cac (et rfl) sees_ro ca0))) ?_
  refine G (q_mv (s := .t _) ?_)
  refine G (q_ext (y := .c _) ?_)
  refine G (q_ext (y := .c _) ?_)
  refine As ?_
  refine As ?_
  refine gend ?_
  refine awp_seq ?_
  refine awp_seq ?_
  refine rln ?_
  refine Mv ?_
  refine G (q_gtr64 (y := 281474976710655) ?_)
  refine gend ?_
  refine cndN (fun hc4 => ?_) ?_; rotate_left
  · exact hn
  refine awp_skip ?_
  refine awp_seq ?_
  refine awp_seq ?_
  refine rln ?_
  refine Mv ?_
  refine G (q_ncp ?_)
  refine G (q_fap ?_)
  refine G (q_ldp ?_)
  refine Mv ?_
  refine G2 (fun _ k_ => q_callp gc k_ (ha := (cac (et rfl) (sees_ptr rfl rfl rfl rfl) (cac (et rfl) cm_int ca0)))) ?_
  refine As ?_
  refine gend ?_
  refine awp_seq ?_
  refine rln ?_
  refine Mv ?_
  refine G (q_neqn (y := 0) ?_)
  refine gend ?_
  refine cndN (fun hc5 => ?_) ?_; rotate_left
  · exact fun h => h rfl
  refine awp_skip ?_
  refine awp_seq ?_
  refine rln ?_
  refine Mv ?_
  refine G (q_quo64 (y := 64) ?_ (hz := by decide))
  refine As ?_
  refine gend ?_
  refine awp_seq ?_
  refine awp_seq ?_
  refine rln ?_
  refine Mv ?_
  refine Mv ?_
  refine G (q_ncp ?_)
  refine G (q_fap ?_)
  refine G (q_fap ?_)
  refine G (q_ldp ?_)
  refine G (q_add64 (y := 16) ?_)
  refine G (q_gtr64 ?_)
  refine gend ?_
  refine cndN (fun hc6 => ?_) ?_; rotate_left
  · exact hq
  refine awp_skip ?_
  refine awp_seq ?_
  refine rln ?_
  refine Mv ?_
  refine G (q_ncp ?_)
  refine G (q_fap ?_)
  refine Mv ?_
  refine G2 (fun _ k_ => q_callv [0, 1, 2, 3, 4, 5, 6, 7, 8, 9] [some (chC es er 2 (decide (es ≠ 0)) 4 6 (decide (er ≠ 0)) 8 sent 1 g any hash), some (wcs true wg wb), some (cC (.ptr 3 0) 0), some (u8s (S0 k es.toNat)), cb (decide (es ≠ 0)) 5, kb (decide (es ≠ 0)) (S1 k es.toNat), some (cC (.ptr 7 0) 0), some (u8s (S0 r er.toNat)), cb (decide (er ≠ 0)) 9, kb (decide (er ≠ 0)) (S1 r er.toNat)] [some (cC (.ptr 11 0) 0), some (u8s (kE r (N / 64).toNat))] go k_ (ha := (cac (et rfl) rfl (cac (et rfl) cm_int ca0))) (e2 := (pl1 rfl (chC_map rfl rfl rfl rfl rfl) (pl1 rfl rfl (pl1 rfl rfl (pl1 rfl sees_m (plb rfl (cb_map rfl) (plb rfl kb_map (pl1 rfl rfl (pl1 rfl sees_m (plb rfl (cb_map rfl) (plb rfl kb_map pl0))))))))))) (eL := (ml1 (chC_map rfl rfl rfl rfl rfl) (ml1 rfl (ml1 rfl (ml1 sees_m (mlb (cb_map rfl) (mlb kb_map (ml1 rfl (ml1 sees_m (mlb (cb_map rfl) (mlb kb_map ml0))))))))))) (eM := (ml1 rfl (ml1 sees_m ml0)))) ?_
  refine As ?_
  refine gend ?_
  refine awp_seq ?_
  refine rln ?_
  refine Mv ?_
  refine Mv ?_
  refine G2 (fun _ k_ => q_callv [10, 11] [some (cC (.ptr 1 0) N), some (u8s (kE r (N / 64).toNat))] [] (setn_k (kE r (N / 64).toNat) 0 N) k_ (ha := (cac (et rfl) rfl (cac (et rfl) cm_int ca0))) (e2 := (pl1 rfl rfl (pl1 rfl sees_m pl0))) (eL := (ml1 rfl (ml1 sees_m ml0))) (eM := ml0)) ?_
  refine gend ?_
  refine awp_seq ?_
  refine rdln [7] [0, 0, 0, 0, 0, 0, 0, 0, 1, 1, 1, 1, 1] [0, 0, 0, 0, 0, 0, 0, 1, 1, 1, 1, 1, 1] ?_
  refine Dp (fun _ => q_mv (s := .v (.c _)) ⟨rfl, rfl⟩) ?_
  refine Dp (fun _ => q_mv (s := .v (.c _)) ⟨rfl, rfl⟩) ?_
  refine Dp (fun _ => q_ncp ⟨rfl, rfl⟩) ?_
  refine Dp (fun _ => q_fap ⟨rfl, rfl⟩) ?_
  refine DSp 0 rfl (fun _ hv => q_slp_no ⟨rfl, rfl⟩ (hp := hv) (hl := ch_len hh)) ?_
  refine Dp (fun _ => q_mv (s := .v (.c _)) ⟨rfl, rfl⟩) ?_
  refine Dp (fun _ => q_slo_lo (j := 8) ⟨rfl, rfl⟩ (hc := cut_drop hf)) ?_
  refine De2 (fun _ k_ => q_callv [10, 11] [some (cC (.ptr 1 0) N), some (u8s (kE r (N / 64).toNat))] [] gs k_ (ha := (cac (et rfl) rfl (cac (et rfl) (sees_slc rfl rfl (ch_hash hh)) (cac (et rfl) sees_ro ca0)))) (e2 := (pl1 rfl rfl (pl1 rfl sees_m pl0))) (eL := (ml1 rfl (ml1 sees_m ml0))) (eM := ml0)) ?_
  refine Dp (fun _ => q_mv (s := .t _) ⟨rfl, rfl⟩) ?_
  refine Dp (fun _ => q_ext (y := .c _) ⟨rfl, rfl⟩) ?_
  refine Dp (fun _ => q_ext (y := .c _) ⟨rfl, rfl⟩) ?_
  refine Dp (fun _ => q_as (s := .v (.c _)) ⟨rfl, rfl⟩) ?_
  refine Dp (fun _ => q_as (s := .v (.c _)) ⟨rfl, rfl⟩) ?_
  refine dend ?_
  refine awp_seq ?_
  refine awp_seq ?_
  refine rln ?_
  refine Mv ?_
  refine G (q_neqn (y := 0) ?_)
  refine gend ?_
  refine cndY (fun hc7 => ?_) ?_; rotate_left
  · exact (by decide : (8 : Nat) ≠ 0)
  refine awp_seq ?_
  refine rln ?_
  refine Mv ?_
  refine As ?_
  refine G (q_as (s := sc (c64 0)) ?_)
  refine As ?_
  refine gend ?_
  refine awp_ret ?_
  exact fx3 [0, 1, 2, 3, 4, 5, 6, 7, 8, 9] (hm0 := rfl) (hH := (pl1 rfl (chC_map rfl rfl rfl rfl rfl) (pl1 rfl rfl (pl1 rfl rfl (pl1 rfl sees_m (plb rfl (cb_map rfl) (plb rfl kb_map (pl1 rfl rfl (pl1 rfl sees_m (plb rfl (cb_map rfl) (plb rfl kb_map pl0))))))))))) (hn := piB rfl)
set_option maxHeartbeats 1600000 in
theorem chopen_m0_ok (k r hash : List UInt8) (es er sent g : UInt64) (any : Bool) (wg wb : UInt64) (hk : k.length = 32) (hr : r.length = 32) (hh : hash.length = 32) (fr : List UInt8) (f : Nat) (N : UInt64) (hf : fr.length = f) (h24 : 24 ≤ f) (hL : f ≤ 4120) (hN : gt (fr.take 8) = N) (hn : ¬ 281474976710655 < N) (hw : wchk true wg wb N = 0) (hq : ¬ er + 16 < N / 64) (hle : ¬ N / 64 ≤ er) (he : er.toNat % 2 = 0) (p : List UInt8) (hop : aopen (kE r (N / 64).toNat) (anonce N) hash (fr.drop 8) = some p) : Good Try.prog 11 [.c (.ptr 0 0), .c (.ro f (u8s fr))] [some (chC es er 2 (decide (es ≠ 0)) 4 6 (decide (er ≠ 0)) 8 sent 1 g any hash), some (wcs true wg wb), some (cC (.ptr 3 0) 0), some (u8s (S0 k es.toNat)), cb (decide (es ≠ 0)) 5, kb (decide (es ≠ 0)) (S1 k es.toNat), some (cC (.ptr 7 0) 0), some (u8s (S0 r er.toNat)), cb (decide (er ≠ 0)) 9, kb (decide (er ≠ 0)) (S1 r er.toNat)] (.t [.c (.slc 14 0 p.length 1), .c (c64 N), .c (cn 0)]) [some (chC es (N / 64) 2 (decide (es ≠ 0)) 4 10 (decide ((N / 64) ≠ 0)) 12 sent 1 (mx g N) true hash), some (wcs true (wnext true wg wb N).1 (wnext true wg wb N).2), some (cC (.ptr 3 0) 0), some (u8s (S0 k es.toNat)), cb (decide (es ≠ 0)) 5, kb (decide (es ≠ 0)) (S1 k es.toNat), none, none, none, none, some (cC (.ptr 11 0) 0), some (u8s (S0 r (N / 64).toNat)), cb (decide ((N / 64) ≠ 0)) 13, kb (decide ((N / 64) ≠ 0)) (S1 r (N / 64).toNat), some (u8s p)] := by
  have gg := get 8 (fr.take 8) (by rw [List.length_take]; omega) (by decide) (by decide)
  rw [hN] at gg
  have gc := check true wg wb N
  rw [hw] at gc
  have hdl : (fr.drop 8).length = f - 8 := by rw [List.length_drop, hf]
  have hS : S0 r er.toNat = kE r er.toNat := (S0_even he).2.2
  have hN6 : er.toNat + (N / 64 - er).toNat = (N / 64).toNat := by
    have h := hle; rw [UInt64.le_iff_toNat_le] at h; rw [UInt64.toNat_sub_of_le _ _ (UInt64.le_iff_toNat_le.2 (by omega))]; omega
  have go := of_rf0 es er sent g (decide (es ≠ 0)) (decide (er ≠ 0)) any hash (S0 k es.toNat) (S1 k es.toNat) (S0 r er.toNat) (S1 r er.toNat) wg wb (N / 64) hle ((mod2_nat _).trans he) (S0_len hr _)
  rw [show kE (S0 r er.toNat) (N / 64 - er).toNat = kE r (N / 64).toNat by rw [hS, kE_add, hN6]] at go
  have hA : (kE r (N / 64).toNat).length = 32 := kE_len hr _
  have gs := copen_ok (kE r (N / 64).toNat) hash (fr.drop 8) N 32 (f - 8) hA hh (by decide) hdl (by omega) (fun h => hn (by rw [h]; decide)) p hop
  have hpl := aopen_len hop
  have gm := move_r es er sent g (decide (es ≠ 0)) any hash r (S0 k es.toNat) (S1 k es.toNat) (wnext true wg wb N).1 (wnext true wg wb N).2 (N / 64) hr
  rw [show mx er (N / 64) = N / 64 from if_pos (by rw [UInt64.lt_iff_toNat_lt]; have h := hle; rw [UInt64.le_iff_toNat_le] at h; omega)] at gm
  obtain ⟨ww, hww⟩ : ∃ z, wnext true wg wb N = z := ⟨_, rfl⟩
  have gt_ := take true wg wb N
  rw [hww] at gt_ gm ⊢
  refine good_frm 100 Try.func11 rfl rfl rfl rfl rfl rfl ?_
  refine awp_seq ?_
  refine rln ?_
  refine As ?_
  refine G (q_as (s := sc (c64 0)) ?_)
  refine G (q_as (s := sc (cn 0)) ?_)
  refine gend ?_
  refine awp_seq ?_
  refine awp_block ?_
  refine awp_seq ?_
  refine rln ?_
  refine Mv ?_
  refine G2 (fun _ k_ => q_callp (cthere _ _ _ _ _ _ _ _ _ _ _) k_ (ha := (cac (et rfl) (sees_ch rfl rfl rfl rfl) ca0))) ?_
  refine G (q_notb ?_)
  refine As ?_
  refine gend ?_
  refine cndbnN (fun hc1 => ?_) ?_; rotate_left
  · exact rfl
  refine awp_seq ?_
  refine rln ?_
  refine Mv ?_
  refine G (q_leno ?_)
  refine G (q_gtrn (y := 4120) ?_)
  refine As ?_
  refine gend ?_
  refine cndN (fun hc2 => ?_) ?_; rotate_left
  · omega
  refine awp_seq ?_
  refine rln ?_
  refine Mv ?_
  refine G (q_leno ?_)
  refine G (q_lssn (y := 24) ?_)
  refine As ?_
  refine gend ?_
  refine cndN (fun hc3 => ?_) ?_; rotate_left
  · omega
  refine awp_skip ?_
  refine awp_seq ?_
  refine rln ?_
  refine Mv ?_
  refine G (q_slo_hi (k := 8) ?_ (hc := cut_hi hf))
  refine G2 (fun _ k_ => q_callp gg k_ (ha := (cac (et rfl) sees_ro ca0))) ?_
  refine G (q_mv (s := .t _) ?_)
  refine G (q_ext (y := .c _) ?_)
  refine G (q_ext (y := .c _) ?_)
  refine As ?_
  refine As ?_
  refine gend ?_
  refine awp_seq ?_
  refine awp_seq ?_
  refine rln ?_
  refine Mv ?_
  refine G (q_gtr64 (y := 281474976710655) ?_)
  refine gend ?_
  refine cndN (fun hc4 => ?_) ?_; rotate_left
  · exact hn
  refine awp_skip ?_
  refine awp_seq ?_
  refine awp_seq ?_
  refine rln ?_
  refine Mv ?_
  refine G (q_ncp ?_)
  refine G (q_fap ?_)
  refine G (q_ldp ?_)
  refine Mv ?_
  refine G2 (fun _ k_ => q_callp gc k_ (ha := (cac (et rfl) (sees_ptr rfl rfl rfl rfl) (cac (et rfl) cm_int ca0)))) ?_
  refine As ?_
  refine gend ?_
  refine awp_seq ?_
  refine rln ?_
  refine Mv ?_
  refine G (q_neqn (y := 0) ?_)
  refine gend ?_
  refine cndN (fun hc5 => ?_) ?_; rotate_left
  · exact fun h => h rfl
  refine awp_skip ?_
  refine awp_seq ?_
  refine rln ?_
  refine Mv ?_
  refine G (q_quo64 (y := 64) ?_ (hz := by decide))
  refine As ?_
  refine gend ?_
  refine awp_seq ?_
  refine awp_seq ?_
  refine rln ?_
  refine Mv ?_
  refine Mv ?_
  refine G (q_ncp ?_)
  refine G (q_fap ?_)
  refine G (q_fap ?_)
  refine G (q_ldp ?_)
  refine G (q_add64 (y := 16) ?_)
  refine G (q_gtr64 ?_)
  refine gend ?_
  refine cndN (fun hc6 => ?_) ?_; rotate_left
  · exact hq
  refine awp_skip ?_
  refine awp_seq ?_
  refine rln ?_
  refine Mv ?_
  refine G (q_ncp ?_)
  refine G (q_fap ?_)
  refine Mv ?_
  refine G2 (fun _ k_ => q_callv [0, 1, 2, 3, 4, 5, 6, 7, 8, 9] [some (chC es er 2 (decide (es ≠ 0)) 4 6 (decide (er ≠ 0)) 8 sent 1 g any hash), some (wcs true wg wb), some (cC (.ptr 3 0) 0), some (u8s (S0 k es.toNat)), cb (decide (es ≠ 0)) 5, kb (decide (es ≠ 0)) (S1 k es.toNat), some (cC (.ptr 7 0) 0), some (u8s (S0 r er.toNat)), cb (decide (er ≠ 0)) 9, kb (decide (er ≠ 0)) (S1 r er.toNat)] [some (cC (.ptr 11 0) 0), some (u8s (kE r (N / 64).toNat))] go k_ (ha := (cac (et rfl) rfl (cac (et rfl) cm_int ca0))) (e2 := (pl1 rfl (chC_map rfl rfl rfl rfl rfl) (pl1 rfl rfl (pl1 rfl rfl (pl1 rfl sees_m (plb rfl (cb_map rfl) (plb rfl kb_map (pl1 rfl rfl (pl1 rfl sees_m (plb rfl (cb_map rfl) (plb rfl kb_map pl0))))))))))) (eL := (ml1 (chC_map rfl rfl rfl rfl rfl) (ml1 rfl (ml1 rfl (ml1 sees_m (mlb (cb_map rfl) (mlb kb_map (ml1 rfl (ml1 sees_m (mlb (cb_map rfl) (mlb kb_map ml0))))))))))) (eM := (ml1 rfl (ml1 sees_m ml0)))) ?_
  refine As ?_
  refine gend ?_
  refine awp_seq ?_
  refine rln ?_
  refine Mv ?_
  refine Mv ?_
  refine G2 (fun _ k_ => q_callv [10, 11] [some (cC (.ptr 1 0) N), some (u8s (kE r (N / 64).toNat))] [] (setn_k (kE r (N / 64).toNat) 0 N) k_ (ha := (cac (et rfl) rfl (cac (et rfl) cm_int ca0))) (e2 := (pl1 rfl rfl (pl1 rfl sees_m pl0))) (eL := (ml1 rfl (ml1 sees_m ml0))) (eM := ml0)) ?_
  refine gend ?_
  refine awp_seq ?_
  refine rdln [7] [0, 0, 0, 0, 0, 0, 0, 0, 1, 1, 1, 1, 1] [0, 0, 0, 0, 0, 0, 0, 1, 1, 1, 1, 1, 1] ?_
  refine Dp (fun _ => q_mv (s := .v (.c _)) ⟨rfl, rfl⟩) ?_
  refine Dp (fun _ => q_mv (s := .v (.c _)) ⟨rfl, rfl⟩) ?_
  refine Dp (fun _ => q_ncp ⟨rfl, rfl⟩) ?_
  refine Dp (fun _ => q_fap ⟨rfl, rfl⟩) ?_
  refine DSp 0 rfl (fun _ hv => q_slp_no ⟨rfl, rfl⟩ (hp := hv) (hl := ch_len hh)) ?_
  refine Dp (fun _ => q_mv (s := .v (.c _)) ⟨rfl, rfl⟩) ?_
  refine Dp (fun _ => q_slo_lo (j := 8) ⟨rfl, rfl⟩ (hc := cut_drop hf)) ?_
  refine De2 (fun _ k_ => q_callv [10, 11] [some (cC (.ptr 1 0) (N + 1)), some (u8s (kE r (N / 64).toNat))] [some (u8s p)] gs k_ (ha := (cac (et rfl) rfl (cac (et rfl) (sees_slc rfl rfl (ch_hash hh)) (cac (et rfl) sees_ro ca0)))) (e2 := (pl1 rfl rfl (pl1 rfl sees_m pl0))) (eL := (ml1 rfl (ml1 sees_m ml0))) (eM := (ml1 sees_m ml0))) ?_
  refine Dp (fun _ => q_mv (s := .t _) ⟨rfl, rfl⟩) ?_
  refine Dp (fun _ => q_ext (y := .c _) ⟨rfl, rfl⟩) ?_
  refine Dp (fun _ => q_ext (y := .c _) ⟨rfl, rfl⟩) ?_
  refine Dp (fun _ => q_as (s := .v (.c _)) ⟨rfl, rfl⟩) ?_
  refine Dp (fun _ => q_as (s := .v (.c _)) ⟨rfl, rfl⟩) ?_
  refine dend ?_
  refine awp_seq ?_
  refine awp_seq ?_
  refine rln ?_
  refine Mv ?_
  refine G (q_neqn (y := 0) ?_)
  refine gend ?_
  refine cndN (fun hc7 => ?_) ?_; rotate_left
  · exact fun h => h rfl
  refine awp_skip ?_
  refine awp_seq ?_
  refine rln ?_
  refine Mv ?_
  refine G (q_ncp ?_)
  refine G (q_fap ?_)
  refine G (q_ldp ?_)
  refine Mv ?_
  refine G2 (fun _ k_ => q_callw 1 gt_ k_ (ha := (cac (et rfl) rfl (cac (et rfl) cm_int ca0)))) ?_
  refine gend ?_
  refine awp_seq ?_
  refine rln ?_
  refine Mv ?_
  refine G (q_ncp ?_)
  refine G (q_fap ?_)
  refine Mv ?_
  refine G2 (fun _ k_ => q_callv [0, 1, 2, 3, 4, 5, 6, 7, 8, 9] [some (chC es (N / 64) 2 (decide (es ≠ 0)) 4 10 (decide ((N / 64) ≠ 0)) 12 sent 1 g any hash), some (wcs true ww.1 ww.2), some (cC (.ptr 3 0) 0), some (u8s (S0 k es.toNat)), cb (decide (es ≠ 0)) 5, kb (decide (es ≠ 0)) (S1 k es.toNat), none, none, none, none] [some (cC (.ptr 11 0) 0), some (u8s (S0 r (N / 64).toNat)), cb (decide ((N / 64) ≠ 0)) 13, kb (decide ((N / 64) ≠ 0)) (S1 r (N / 64).toNat)] gm k_ (ha := (cac (et rfl) rfl (cac (et rfl) cm_int ca0))) (e2 := (pl1 rfl (chC_map rfl rfl rfl rfl rfl) (pl1 rfl rfl (pl1 rfl rfl (pl1 rfl sees_m (plb rfl (cb_map rfl) (plb rfl kb_map (pl1 rfl rfl (pl1 rfl sees_m (plb rfl (cb_map rfl) (plb rfl kb_map pl0))))))))))) (eL := (ml1 (chC_map rfl rfl rfl rfl rfl) (ml1 rfl (ml1 rfl (ml1 sees_m (mlb (cb_map rfl) (mlb kb_map (mln (mln (mln (mln ml0))))))))))) (eM := (ml1 rfl (ml1 sees_m (mlb (cb_map rfl) (mlb kb_map ml0)))))) ?_
  refine gend ?_
  refine awp_seq ?_
  refine rln ?_
  refine Mv ?_
  refine Mv ?_
  refine Mv ?_
  refine G (q_ncp ?_)
  refine G (q_fap ?_)
  refine G (q_ldp ?_)
  refine Mv ?_
  refine G (q_max64 ?_)
  refine G (q_ncp ?_)
  refine G (q_fap ?_)
  refine G20 (fun _ k_ => q_st k_) ?_
  refine G (q_ncp ?_)
  refine G (q_fap ?_)
  refine G20 (fun _ k_ => q_st (c := .bool true) k_) ?_
  refine gend ?_
  refine awp_seq ?_
  refine rln ?_
  refine Mv ?_
  refine Mv ?_
  refine As ?_
  refine As ?_
  refine G (q_as (s := sc (cn 0)) ?_)
  refine gend ?_
  refine awp_ret ?_
  rw [show p.length = f - 8 - 16 by omega]; exact fx3 [0, 1, 2, 3, 4, 5, 6, 7, 8, 9, 13, 14, 15, 16, 12] (hm0 := rfl) (hH := (pl1 rfl (chC_map rfl rfl rfl rfl rfl) (pl1 rfl rfl (pl1 rfl rfl (pl1 rfl sees_m (plb rfl (cb_map rfl) (plb rfl kb_map (plb rfl rfl (plb rfl rfl (plb rfl rfl (plb rfl rfl (pl1 rfl rfl (pl1 rfl sees_m (plb rfl (cb_map rfl) (plb rfl kb_map (pl1 rfl sees_m pl0)))))))))))))))) (hn := piB rfl)
set_option maxHeartbeats 1600000 in
theorem chopen_m1_bad (k r hash : List UInt8) (es er sent g : UInt64) (any : Bool) (wg wb : UInt64) (hk : k.length = 32) (hr : r.length = 32) (hh : hash.length = 32) (fr : List UInt8) (f : Nat) (N : UInt64) (hf : fr.length = f) (h24 : 24 ≤ f) (hL : f ≤ 4120) (hN : gt (fr.take 8) = N) (hn : ¬ 281474976710655 < N) (hw : wchk true wg wb N = 0) (hq : ¬ er + 16 < N / 64) (hle : ¬ N / 64 ≤ er) (he : er.toNat % 2 = 1) (hop : aopen (kE r (N / 64).toNat) (anonce N) hash (fr.drop 8) = none) : Good Try.prog 11 [.c (.ptr 0 0), .c (.ro f (u8s fr))] [some (chC es er 2 (decide (es ≠ 0)) 4 6 (decide (er ≠ 0)) 8 sent 1 g any hash), some (wcs true wg wb), some (cC (.ptr 3 0) 0), some (u8s (S0 k es.toNat)), cb (decide (es ≠ 0)) 5, kb (decide (es ≠ 0)) (S1 k es.toNat), some (cC (.ptr 7 0) 0), some (u8s (S0 r er.toNat)), cb (decide (er ≠ 0)) 9, kb (decide (er ≠ 0)) (S1 r er.toNat)] (.t [.c .nils, .c (c64 0), .c (cn 8)]) [some (chC es er 2 (decide (es ≠ 0)) 4 6 (decide (er ≠ 0)) 8 sent 1 g any hash), some (wcs true wg wb), some (cC (.ptr 3 0) 0), some (u8s (S0 k es.toNat)), cb (decide (es ≠ 0)) 5, kb (decide (es ≠ 0)) (S1 k es.toNat), some (cC (.ptr 7 0) 0), some (u8s (S0 r er.toNat)), cb (decide (er ≠ 0)) 9, kb (decide (er ≠ 0)) (S1 r er.toNat)] := by
  have gg := get 8 (fr.take 8) (by rw [List.length_take]; omega) (by decide) (by decide)
  rw [hN] at gg
  have gc := check true wg wb N
  rw [hw] at gc
  have hdl : (fr.drop 8).length = f - 8 := by rw [List.length_drop, hf]
  have hS : S1 r er.toNat = kE r er.toNat := (S1_odd he).2.2
  have hN6 : er.toNat + (N / 64 - er).toNat = (N / 64).toNat := by
    have h := hle; rw [UInt64.le_iff_toNat_le] at h; rw [UInt64.toNat_sub_of_le _ _ (UInt64.le_iff_toNat_le.2 (by omega))]; omega
  have go := of_rf1 es er sent g (decide (es ≠ 0)) any hash (S0 k es.toNat) (S1 k es.toNat) (S0 r er.toNat) (S1 r er.toNat) wg wb (N / 64) hle ((mod2_nat _).trans he) (S1_len hr _)
  rw [show kE (S1 r er.toNat) (N / 64 - er).toNat = kE r (N / 64).toNat by rw [hS, kE_add, hN6]] at go
  have hone := ne_zero_odd he
  rw [hone]
  have hA : (kE r (N / 64).toNat).length = 32 := kE_len hr _
  have gs := copen_bad (kE r (N / 64).toNat) hash (fr.drop 8) N 32 (f - 8) hA hh (by decide) hdl (by omega) (fun h => hn (by rw [h]; decide)) hop
  refine good_frm 100 Try.func11 rfl rfl rfl rfl rfl rfl ?_
  refine awp_seq ?_
  refine rln ?_
  refine As ?_
  refine G (q_as (s := sc (c64 0)) ?_)
  refine G (q_as (s := sc (cn 0)) ?_)
  refine gend ?_
  refine awp_seq ?_
  refine awp_block ?_
  refine awp_seq ?_
  refine rln ?_
  refine Mv ?_
  refine G2 (fun _ k_ => q_callp (cthere _ _ _ _ _ _ _ _ _ _ _) k_ (ha := (cac (et rfl) (sees_ch rfl rfl rfl rfl) ca0))) ?_
  refine G (q_notb ?_)
  refine As ?_
  refine gend ?_
  refine cndbnN (fun hc1 => ?_) ?_; rotate_left
  · exact rfl
  refine awp_seq ?_
  refine rln ?_
  refine Mv ?_
  refine G (q_leno ?_)
  refine G (q_gtrn (y := 4120) ?_)
  refine As ?_
  refine gend ?_
  refine cndN (fun hc2 => ?_) ?_; rotate_left
  · omega
  refine awp_seq ?_
  refine rln ?_
  refine Mv ?_
  refine G (q_leno ?_)
  refine G (q_lssn (y := 24) ?_)
  refine As ?_
  refine gend ?_
  refine cndN (fun hc3 => ?_) ?_; rotate_left
  · omega
  refine awp_skip ?_
  refine awp_seq ?_
  refine rln ?_
  refine Mv ?_
  refine G (q_slo_hi (k := 8) ?_ (hc := cut_hi hf))
  refine G2 (fun _ k_ => q_callp gg k_ (ha := (cac (et rfl) sees_ro ca0))) ?_
  refine G (q_mv (s := .t _) ?_)
  refine G (q_ext (y := .c _) ?_)
  refine G (q_ext (y := .c _) ?_)
  refine As ?_
  refine As ?_
  refine gend ?_
  refine awp_seq ?_
  refine awp_seq ?_
  refine rln ?_
  refine Mv ?_
  refine G (q_gtr64 (y := 281474976710655) ?_)
  refine gend ?_
  refine cndN (fun hc4 => ?_) ?_; rotate_left
  · exact hn
  refine awp_skip ?_
  refine awp_seq ?_
  refine awp_seq ?_
  refine rln ?_
  refine Mv ?_
  refine G (q_ncp ?_)
  refine G (q_fap ?_)
  refine G (q_ldp ?_)
  refine Mv ?_
  refine G2 (fun _ k_ => q_callp gc k_ (ha := (cac (et rfl) (sees_ptr rfl rfl rfl rfl) (cac (et rfl) cm_int ca0)))) ?_
  refine As ?_
  refine gend ?_
  refine awp_seq ?_
  refine rln ?_
  refine Mv ?_
  refine G (q_neqn (y := 0) ?_)
  refine gend ?_
  refine cndN (fun hc5 => ?_) ?_; rotate_left
  · exact fun h => h rfl
  refine awp_skip ?_
  refine awp_seq ?_
  refine rln ?_
  refine Mv ?_
  refine G (q_quo64 (y := 64) ?_ (hz := by decide))
  refine As ?_
  refine gend ?_
  refine awp_seq ?_
  refine awp_seq ?_
  refine rln ?_
  refine Mv ?_
  refine Mv ?_
  refine G (q_ncp ?_)
  refine G (q_fap ?_)
  refine G (q_fap ?_)
  refine G (q_ldp ?_)
  refine G (q_add64 (y := 16) ?_)
  refine G (q_gtr64 ?_)
  refine gend ?_
  refine cndN (fun hc6 => ?_) ?_; rotate_left
  · exact hq
  refine awp_skip ?_
  refine awp_seq ?_
  refine rln ?_
  refine Mv ?_
  refine G (q_ncp ?_)
  refine G (q_fap ?_)
  refine Mv ?_
  refine G2 (fun _ k_ => q_callv [0, 1, 2, 3, 4, 5, 6, 7, 8, 9] [some (chC es er 2 (decide (es ≠ 0)) 4 6 true 8 sent 1 g any hash), some (wcs true wg wb), some (cC (.ptr 3 0) 0), some (u8s (S0 k es.toNat)), cb (decide (es ≠ 0)) 5, kb (decide (es ≠ 0)) (S1 k es.toNat), some (cC (.ptr 7 0) 0), some (u8s (S0 r er.toNat)), cb true 9, kb true (S1 r er.toNat)] [some (cC (.ptr 11 0) 0), some (u8s (kE r (N / 64).toNat))] go k_ (ha := (cac (et rfl) rfl (cac (et rfl) cm_int ca0))) (e2 := (pl1 rfl (chC_map rfl rfl rfl rfl rfl) (pl1 rfl rfl (pl1 rfl rfl (pl1 rfl sees_m (plb rfl (cb_map rfl) (plb rfl kb_map (pl1 rfl rfl (pl1 rfl sees_m (pl1 rfl rfl (pl1 rfl sees_m pl0))))))))))) (eL := (ml1 (chC_map rfl rfl rfl rfl rfl) (ml1 rfl (ml1 rfl (ml1 sees_m (mlb (cb_map rfl) (mlb kb_map (ml1 rfl (ml1 sees_m (ml1 rfl (ml1 sees_m ml0))))))))))) (eM := (ml1 rfl (ml1 sees_m ml0)))) ?_
  refine As ?_
  refine gend ?_
  refine awp_seq ?_
  refine rln ?_
  refine Mv ?_
  refine Mv ?_
  refine G2 (fun _ k_ => q_callv [10, 11] [some (cC (.ptr 1 0) N), some (u8s (kE r (N / 64).toNat))] [] (setn_k (kE r (N / 64).toNat) 0 N) k_ (ha := (cac (et rfl) rfl (cac (et rfl) cm_int ca0))) (e2 := (pl1 rfl rfl (pl1 rfl sees_m pl0))) (eL := (ml1 rfl (ml1 sees_m ml0))) (eM := ml0)) ?_
  refine gend ?_
  refine awp_seq ?_
  refine rdln [7] [0, 0, 0, 0, 0, 0, 0, 0, 1, 1, 1, 1, 1] [0, 0, 0, 0, 0, 0, 0, 1, 1, 1, 1, 1, 1] ?_
  refine Dp (fun _ => q_mv (s := .v (.c _)) ⟨rfl, rfl⟩) ?_
  refine Dp (fun _ => q_mv (s := .v (.c _)) ⟨rfl, rfl⟩) ?_
  refine Dp (fun _ => q_ncp ⟨rfl, rfl⟩) ?_
  refine Dp (fun _ => q_fap ⟨rfl, rfl⟩) ?_
  refine DSp 0 rfl (fun _ hv => q_slp_no ⟨rfl, rfl⟩ (hp := hv) (hl := ch_len hh)) ?_
  refine Dp (fun _ => q_mv (s := .v (.c _)) ⟨rfl, rfl⟩) ?_
  refine Dp (fun _ => q_slo_lo (j := 8) ⟨rfl, rfl⟩ (hc := cut_drop hf)) ?_
  refine De2 (fun _ k_ => q_callv [10, 11] [some (cC (.ptr 1 0) N), some (u8s (kE r (N / 64).toNat))] [] gs k_ (ha := (cac (et rfl) rfl (cac (et rfl) (sees_slc rfl rfl (ch_hash hh)) (cac (et rfl) sees_ro ca0)))) (e2 := (pl1 rfl rfl (pl1 rfl sees_m pl0))) (eL := (ml1 rfl (ml1 sees_m ml0))) (eM := ml0)) ?_
  refine Dp (fun _ => q_mv (s := .t _) ⟨rfl, rfl⟩) ?_
  refine Dp (fun _ => q_ext (y := .c _) ⟨rfl, rfl⟩) ?_
  refine Dp (fun _ => q_ext (y := .c _) ⟨rfl, rfl⟩) ?_
  refine Dp (fun _ => q_as (s := .v (.c _)) ⟨rfl, rfl⟩) ?_
  refine Dp (fun _ => q_as (s := .v (.c _)) ⟨rfl, rfl⟩) ?_
  refine dend ?_
  refine awp_seq ?_
  refine awp_seq ?_
  refine rln ?_
  refine Mv ?_
  refine G (q_neqn (y := 0) ?_)
  refine gend ?_
  refine cndY (fun hc7 => ?_) ?_; rotate_left
  · exact (by decide : (8 : Nat) ≠ 0)
  refine awp_seq ?_
  refine rln ?_
  refine Mv ?_
  refine As ?_
  refine G (q_as (s := sc (c64 0)) ?_)
  refine As ?_
  refine gend ?_
  refine awp_ret ?_
  exact fx3 [0, 1, 2, 3, 4, 5, 6, 7, 8, 9] (hm0 := rfl) (hH := (pl1 rfl (chC_map rfl rfl rfl rfl rfl) (pl1 rfl rfl (pl1 rfl rfl (pl1 rfl sees_m (plb rfl (cb_map rfl) (plb rfl kb_map (pl1 rfl rfl (pl1 rfl sees_m (pl1 rfl rfl (pl1 rfl sees_m pl0))))))))))) (hn := piB rfl)
set_option maxHeartbeats 1600000 in
theorem chopen_m1_ok (k r hash : List UInt8) (es er sent g : UInt64) (any : Bool) (wg wb : UInt64) (hk : k.length = 32) (hr : r.length = 32) (hh : hash.length = 32) (fr : List UInt8) (f : Nat) (N : UInt64) (hf : fr.length = f) (h24 : 24 ≤ f) (hL : f ≤ 4120) (hN : gt (fr.take 8) = N) (hn : ¬ 281474976710655 < N) (hw : wchk true wg wb N = 0) (hq : ¬ er + 16 < N / 64) (hle : ¬ N / 64 ≤ er) (he : er.toNat % 2 = 1) (p : List UInt8) (hop : aopen (kE r (N / 64).toNat) (anonce N) hash (fr.drop 8) = some p) : Good Try.prog 11 [.c (.ptr 0 0), .c (.ro f (u8s fr))] [some (chC es er 2 (decide (es ≠ 0)) 4 6 (decide (er ≠ 0)) 8 sent 1 g any hash), some (wcs true wg wb), some (cC (.ptr 3 0) 0), some (u8s (S0 k es.toNat)), cb (decide (es ≠ 0)) 5, kb (decide (es ≠ 0)) (S1 k es.toNat), some (cC (.ptr 7 0) 0), some (u8s (S0 r er.toNat)), cb (decide (er ≠ 0)) 9, kb (decide (er ≠ 0)) (S1 r er.toNat)] (.t [.c (.slc 14 0 p.length 1), .c (c64 N), .c (cn 0)]) [some (chC es (N / 64) 2 (decide (es ≠ 0)) 4 10 (decide ((N / 64) ≠ 0)) 12 sent 1 (mx g N) true hash), some (wcs true (wnext true wg wb N).1 (wnext true wg wb N).2), some (cC (.ptr 3 0) 0), some (u8s (S0 k es.toNat)), cb (decide (es ≠ 0)) 5, kb (decide (es ≠ 0)) (S1 k es.toNat), none, none, none, none, some (cC (.ptr 11 0) 0), some (u8s (S0 r (N / 64).toNat)), cb (decide ((N / 64) ≠ 0)) 13, kb (decide ((N / 64) ≠ 0)) (S1 r (N / 64).toNat), some (u8s p)] := by
  have gg := get 8 (fr.take 8) (by rw [List.length_take]; omega) (by decide) (by decide)
  rw [hN] at gg
  have gc := check true wg wb N
  rw [hw] at gc
  have hdl : (fr.drop 8).length = f - 8 := by rw [List.length_drop, hf]
  have hS : S1 r er.toNat = kE r er.toNat := (S1_odd he).2.2
  have hN6 : er.toNat + (N / 64 - er).toNat = (N / 64).toNat := by
    have h := hle; rw [UInt64.le_iff_toNat_le] at h; rw [UInt64.toNat_sub_of_le _ _ (UInt64.le_iff_toNat_le.2 (by omega))]; omega
  have go := of_rf1 es er sent g (decide (es ≠ 0)) any hash (S0 k es.toNat) (S1 k es.toNat) (S0 r er.toNat) (S1 r er.toNat) wg wb (N / 64) hle ((mod2_nat _).trans he) (S1_len hr _)
  rw [show kE (S1 r er.toNat) (N / 64 - er).toNat = kE r (N / 64).toNat by rw [hS, kE_add, hN6]] at go
  have hone := ne_zero_odd he
  rw [hone]
  have hA : (kE r (N / 64).toNat).length = 32 := kE_len hr _
  have gs := copen_ok (kE r (N / 64).toNat) hash (fr.drop 8) N 32 (f - 8) hA hh (by decide) hdl (by omega) (fun h => hn (by rw [h]; decide)) p hop
  have hpl := aopen_len hop
  have gm := move_r es er sent g (decide (es ≠ 0)) any hash r (S0 k es.toNat) (S1 k es.toNat) (wnext true wg wb N).1 (wnext true wg wb N).2 (N / 64) hr
  rw [show mx er (N / 64) = N / 64 from if_pos (by rw [UInt64.lt_iff_toNat_lt]; have h := hle; rw [UInt64.le_iff_toNat_le] at h; omega)] at gm
  rw [hone] at gm
  obtain ⟨ww, hww⟩ : ∃ z, wnext true wg wb N = z := ⟨_, rfl⟩
  have gt_ := take true wg wb N
  rw [hww] at gt_ gm ⊢
  refine good_frm 100 Try.func11 rfl rfl rfl rfl rfl rfl ?_
  refine awp_seq ?_
  refine rln ?_
  refine As ?_
  refine G (q_as (s := sc (c64 0)) ?_)
  refine G (q_as (s := sc (cn 0)) ?_)
  refine gend ?_
  refine awp_seq ?_
  refine awp_block ?_
  refine awp_seq ?_
  refine rln ?_
  refine Mv ?_
  refine G2 (fun _ k_ => q_callp (cthere _ _ _ _ _ _ _ _ _ _ _) k_ (ha := (cac (et rfl) (sees_ch rfl rfl rfl rfl) ca0))) ?_
  refine G (q_notb ?_)
  refine As ?_
  refine gend ?_
  refine cndbnN (fun hc1 => ?_) ?_; rotate_left
  · exact rfl
  refine awp_seq ?_
  refine rln ?_
  refine Mv ?_
  refine G (q_leno ?_)
  refine G (q_gtrn (y := 4120) ?_)
  refine As ?_
  refine gend ?_
  refine cndN (fun hc2 => ?_) ?_; rotate_left
  · omega
  refine awp_seq ?_
  refine rln ?_
  refine Mv ?_
  refine G (q_leno ?_)
  refine G (q_lssn (y := 24) ?_)
  refine As ?_
  refine gend ?_
  refine cndN (fun hc3 => ?_) ?_; rotate_left
  · omega
  refine awp_skip ?_
  refine awp_seq ?_
  refine rln ?_
  refine Mv ?_
  refine G (q_slo_hi (k := 8) ?_ (hc := cut_hi hf))
  refine G2 (fun _ k_ => q_callp gg k_ (ha := (cac (et rfl) sees_ro ca0))) ?_
  refine G (q_mv (s := .t _) ?_)
  refine G (q_ext (y := .c _) ?_)
  refine G (q_ext (y := .c _) ?_)
  refine As ?_
  refine As ?_
  refine gend ?_
  refine awp_seq ?_
  refine awp_seq ?_
  refine rln ?_
  refine Mv ?_
  refine G (q_gtr64 (y := 281474976710655) ?_)
  refine gend ?_
  refine cndN (fun hc4 => ?_) ?_; rotate_left
  · exact hn
  refine awp_skip ?_
  refine awp_seq ?_
  refine awp_seq ?_
  refine rln ?_
  refine Mv ?_
  refine G (q_ncp ?_)
  refine G (q_fap ?_)
  refine G (q_ldp ?_)
  refine Mv ?_
  refine G2 (fun _ k_ => q_callp gc k_ (ha := (cac (et rfl) (sees_ptr rfl rfl rfl rfl) (cac (et rfl) cm_int ca0)))) ?_
  refine As ?_
  refine gend ?_
  refine awp_seq ?_
  refine rln ?_
  refine Mv ?_
  refine G (q_neqn (y := 0) ?_)
  refine gend ?_
  refine cndN (fun hc5 => ?_) ?_; rotate_left
  · exact fun h => h rfl
  refine awp_skip ?_
  refine awp_seq ?_
  refine rln ?_
  refine Mv ?_
  refine G (q_quo64 (y := 64) ?_ (hz := by decide))
  refine As ?_
  refine gend ?_
  refine awp_seq ?_
  refine awp_seq ?_
  refine rln ?_
  refine Mv ?_
  refine Mv ?_
  refine G (q_ncp ?_)
  refine G (q_fap ?_)
  refine G (q_fap ?_)
  refine G (q_ldp ?_)
  refine G (q_add64 (y := 16) ?_)
  refine G (q_gtr64 ?_)
  refine gend ?_
  refine cndN (fun hc6 => ?_) ?_; rotate_left
  · exact hq
  refine awp_skip ?_
  refine awp_seq ?_
  refine rln ?_
  refine Mv ?_
  refine G (q_ncp ?_)
  refine G (q_fap ?_)
  refine Mv ?_
  refine G2 (fun _ k_ => q_callv [0, 1, 2, 3, 4, 5, 6, 7, 8, 9] [some (chC es er 2 (decide (es ≠ 0)) 4 6 true 8 sent 1 g any hash), some (wcs true wg wb), some (cC (.ptr 3 0) 0), some (u8s (S0 k es.toNat)), cb (decide (es ≠ 0)) 5, kb (decide (es ≠ 0)) (S1 k es.toNat), some (cC (.ptr 7 0) 0), some (u8s (S0 r er.toNat)), cb true 9, kb true (S1 r er.toNat)] [some (cC (.ptr 11 0) 0), some (u8s (kE r (N / 64).toNat))] go k_ (ha := (cac (et rfl) rfl (cac (et rfl) cm_int ca0))) (e2 := (pl1 rfl (chC_map rfl rfl rfl rfl rfl) (pl1 rfl rfl (pl1 rfl rfl (pl1 rfl sees_m (plb rfl (cb_map rfl) (plb rfl kb_map (pl1 rfl rfl (pl1 rfl sees_m (pl1 rfl rfl (pl1 rfl sees_m pl0))))))))))) (eL := (ml1 (chC_map rfl rfl rfl rfl rfl) (ml1 rfl (ml1 rfl (ml1 sees_m (mlb (cb_map rfl) (mlb kb_map (ml1 rfl (ml1 sees_m (ml1 rfl (ml1 sees_m ml0))))))))))) (eM := (ml1 rfl (ml1 sees_m ml0)))) ?_
  refine As ?_
  refine gend ?_
  refine awp_seq ?_
  refine rln ?_
  refine Mv ?_
  refine Mv ?_
  refine G2 (fun _ k_ => q_callv [10, 11] [some (cC (.ptr 1 0) N), some (u8s (kE r (N / 64).toNat))] [] (setn_k (kE r (N / 64).toNat) 0 N) k_ (ha := (cac (et rfl) rfl (cac (et rfl) cm_int ca0))) (e2 := (pl1 rfl rfl (pl1 rfl sees_m pl0))) (eL := (ml1 rfl (ml1 sees_m ml0))) (eM := ml0)) ?_
  refine gend ?_
  refine awp_seq ?_
  refine rdln [7] [0, 0, 0, 0, 0, 0, 0, 0, 1, 1, 1, 1, 1] [0, 0, 0, 0, 0, 0, 0, 1, 1, 1, 1, 1, 1] ?_
  refine Dp (fun _ => q_mv (s := .v (.c _)) ⟨rfl, rfl⟩) ?_
  refine Dp (fun _ => q_mv (s := .v (.c _)) ⟨rfl, rfl⟩) ?_
  refine Dp (fun _ => q_ncp ⟨rfl, rfl⟩) ?_
  refine Dp (fun _ => q_fap ⟨rfl, rfl⟩) ?_
  refine DSp 0 rfl (fun _ hv => q_slp_no ⟨rfl, rfl⟩ (hp := hv) (hl := ch_len hh)) ?_
  refine Dp (fun _ => q_mv (s := .v (.c _)) ⟨rfl, rfl⟩) ?_
  refine Dp (fun _ => q_slo_lo (j := 8) ⟨rfl, rfl⟩ (hc := cut_drop hf)) ?_
  refine De2 (fun _ k_ => q_callv [10, 11] [some (cC (.ptr 1 0) (N + 1)), some (u8s (kE r (N / 64).toNat))] [some (u8s p)] gs k_ (ha := (cac (et rfl) rfl (cac (et rfl) (sees_slc rfl rfl (ch_hash hh)) (cac (et rfl) sees_ro ca0)))) (e2 := (pl1 rfl rfl (pl1 rfl sees_m pl0))) (eL := (ml1 rfl (ml1 sees_m ml0))) (eM := (ml1 sees_m ml0))) ?_
  refine Dp (fun _ => q_mv (s := .t _) ⟨rfl, rfl⟩) ?_
  refine Dp (fun _ => q_ext (y := .c _) ⟨rfl, rfl⟩) ?_
  refine Dp (fun _ => q_ext (y := .c _) ⟨rfl, rfl⟩) ?_
  refine Dp (fun _ => q_as (s := .v (.c _)) ⟨rfl, rfl⟩) ?_
  refine Dp (fun _ => q_as (s := .v (.c _)) ⟨rfl, rfl⟩) ?_
  refine dend ?_
  refine awp_seq ?_
  refine awp_seq ?_
  refine rln ?_
  refine Mv ?_
  refine G (q_neqn (y := 0) ?_)
  refine gend ?_
  refine cndN (fun hc7 => ?_) ?_; rotate_left
  · exact fun h => h rfl
  refine awp_skip ?_
  refine awp_seq ?_
  refine rln ?_
  refine Mv ?_
  refine G (q_ncp ?_)
  refine G (q_fap ?_)
  refine G (q_ldp ?_)
  refine Mv ?_
  refine G2 (fun _ k_ => q_callw 1 gt_ k_ (ha := (cac (et rfl) rfl (cac (et rfl) cm_int ca0)))) ?_
  refine gend ?_
  refine awp_seq ?_
  refine rln ?_
  refine Mv ?_
  refine G (q_ncp ?_)
  refine G (q_fap ?_)
  refine Mv ?_
  refine G2 (fun _ k_ => q_callv [0, 1, 2, 3, 4, 5, 6, 7, 8, 9] [some (chC es (N / 64) 2 (decide (es ≠ 0)) 4 10 (decide ((N / 64) ≠ 0)) 12 sent 1 g any hash), some (wcs true ww.1 ww.2), some (cC (.ptr 3 0) 0), some (u8s (S0 k es.toNat)), cb (decide (es ≠ 0)) 5, kb (decide (es ≠ 0)) (S1 k es.toNat), none, none, none, none] [some (cC (.ptr 11 0) 0), some (u8s (S0 r (N / 64).toNat)), cb (decide ((N / 64) ≠ 0)) 13, kb (decide ((N / 64) ≠ 0)) (S1 r (N / 64).toNat)] gm k_ (ha := (cac (et rfl) rfl (cac (et rfl) cm_int ca0))) (e2 := (pl1 rfl (chC_map rfl rfl rfl rfl rfl) (pl1 rfl rfl (pl1 rfl rfl (pl1 rfl sees_m (plb rfl (cb_map rfl) (plb rfl kb_map (pl1 rfl rfl (pl1 rfl sees_m (pl1 rfl rfl (pl1 rfl sees_m pl0))))))))))) (eL := (ml1 (chC_map rfl rfl rfl rfl rfl) (ml1 rfl (ml1 rfl (ml1 sees_m (mlb (cb_map rfl) (mlb kb_map (mln (mln (mln (mln ml0))))))))))) (eM := (ml1 rfl (ml1 sees_m (mlb (cb_map rfl) (mlb kb_map ml0)))))) ?_
  refine gend ?_
  refine awp_seq ?_
  refine rln ?_
  refine Mv ?_
  refine Mv ?_
  refine Mv ?_
  refine G (q_ncp ?_)
  refine G (q_fap ?_)
  refine G (q_ldp ?_)
  refine Mv ?_
  refine G (q_max64 ?_)
  refine G (q_ncp ?_)
  refine G (q_fap ?_)
  refine G20 (fun _ k_ => q_st k_) ?_
  refine G (q_ncp ?_)
  refine G (q_fap ?_)
  refine G20 (fun _ k_ => q_st (c := .bool true) k_) ?_
  refine gend ?_
  refine awp_seq ?_
  refine rln ?_
  refine Mv ?_
  refine Mv ?_
  refine As ?_
  refine As ?_
  refine G (q_as (s := sc (cn 0)) ?_)
  refine gend ?_
  refine awp_ret ?_
  rw [show p.length = f - 8 - 16 by omega]; exact fx3 [0, 1, 2, 3, 4, 5, 6, 7, 8, 9, 13, 14, 15, 16, 12] (hm0 := rfl) (hH := (pl1 rfl (chC_map rfl rfl rfl rfl rfl) (pl1 rfl rfl (pl1 rfl rfl (pl1 rfl sees_m (plb rfl (cb_map rfl) (plb rfl kb_map (plb rfl rfl (plb rfl rfl (plb rfl rfl (plb rfl rfl (pl1 rfl rfl (pl1 rfl sees_m (plb rfl (cb_map rfl) (plb rfl kb_map (pl1 rfl sees_m pl0)))))))))))))))) (hn := piB rfl)
end Go.Proofs.Ytklcckngmmklhaa

/- What functions of the program do, walked over the abstract machine. -/
namespace Go.Proofs.Ytklcckngmmklhaa
open Go Go.Abs Go.Proofs Go.Proofs.Ytklcckngmmklhaa.Ch Go.Proofs.Ytklcckngmmklhaa.Po Go.Proofs.Ytklcckngmmklhaa.Ae Go.Proofs.Ytklcckngmmklhaa.Wd
set_option maxRecDepth 20000
def kq4 : Nat → Nat → Nat
  | 0, a => a
  | _ + 1, _ => 4
end Go.Proofs.Ytklcckngmmklhaa

/- What functions of the program do, walked over the abstract machine. -/
namespace Go.Proofs.Ytklcckngmmklhaa
open Go Go.Abs Go.Proofs Go.Proofs.Ytklcckngmmklhaa.Ch Go.Proofs.Ytklcckngmmklhaa.Po Go.Proofs.Ytklcckngmmklhaa.Ae Go.Proofs.Ytklcckngmmklhaa.Wd
set_option maxRecDepth 20000
def wn (o : List UInt8 × UInt64 × Nat × List UInt64) (wg wb : UInt64) : UInt64 × UInt64 := if o.2.2.1 = 0 then wnext true wg wb o.2.1 else (wg, wb)
theorem slot0 {k : List UInt8} {e n : Nat} (h1 : n ≤ e) (h2 : e ≤ n + 1) (hp : n % 2 = 0) : S0 k e = kE k n := by
  unfold S0; congr 1; omega
theorem slot1 {k : List UInt8} {e n : Nat} (h1 : n ≤ e) (h2 : e ≤ n + 1) (hp : n % 2 = 1) : S1 k e = kE k n := by
  unfold S1; congr 1; split <;> omega
theorem grl_app (l : List UInt64) (n : UInt64) : grl (l ++ [n]) = mx (grl l) n := by
  unfold grl mx; rw [List.foldl_append]; rfl
theorem grl_le {l : List UInt64} {m : Nat} (h : ∀ x ∈ l, x.toNat ≤ m) : (grl l).toNat ≤ m := by
  rcases (grl_spec l).2 with h1 | h1
  · rw [h1]; exact Nat.zero_le _
  · exact h _ h1
theorem d64 (n : UInt64) : (n / 64).toNat = n.toNat / 64 := by rw [UInt64.toNat_div]; rfl
theorem rchk_0 {l : List UInt64} {n : UInt64} (hM : ∀ x ∈ l, x.toNat ≤ 281474976710655) (hn : n.toNat ≤ 281474976710655) (h1 : n ∉ l) (h2 : ¬ (0 < l.length ∧ n + 64 ≤ grl l)) : rchk l n = 0 := by
  have hg := grl_le hM
  have ho : rold l n = false := by
    by_cases hp : 0 < l.length
    · have h3 : ¬ n + 64 ≤ grl l := fun h => h2 ⟨hp, h⟩
      rw [UInt64.le_iff_toNat_le, UInt64.toNat_add, show (64 : UInt64).toNat = 64 from rfl, Nat.mod_eq_of_lt (by omega)] at h3
      by_cases hlt : n < grl l
      · have h4 : ¬ 64 ≤ grl l - n := by
          rw [UInt64.le_iff_toNat_le, UInt64.toNat_sub_of_le _ _ (UInt64.le_of_lt hlt), show (64 : UInt64).toNat = 64 from rfl]; omega
        simp [rold, h4]
      · simp [rold, hlt]
    · simp [rold, hp]
  simp [rchk, rcame, h1, ho]
theorem rchk_10 {l : List UInt64} {n : UInt64} (hM : ∀ x ∈ l, x.toNat ≤ 281474976710655) (hn : n.toNat ≤ 281474976710655) (h : n ∈ l ∨ (0 < l.length ∧ n + 64 ≤ grl l)) : rchk l n = 10 := by
  have hg := grl_le hM
  rcases h with h | ⟨h1, h2⟩
  · cases ho : rold l n <;> simp [rchk, rcame, h, ho]
  · rw [UInt64.le_iff_toNat_le, UInt64.toNat_add, show (64 : UInt64).toNat = 64 from rfl, Nat.mod_eq_of_lt (by omega)] at h2
    have hlt : n < grl l := by rw [UInt64.lt_iff_toNat_lt]; omega
    have h4 : 64 ≤ grl l - n := by
      rw [UInt64.le_iff_toNat_le, UInt64.toNat_sub_of_le _ _ (UInt64.le_of_lt hlt), show (64 : UInt64).toNat = 64 from rfl]; omega
    simp [rchk, rold, h1, hlt, h4]
theorem op19_inv {r h : List UInt8} {l : List UInt64} {fr : List UInt8} {wg wb : UInt64} (I : Inv l wg wb) (hM : ∀ x ∈ l, x.toNat ≤ 281474976710655) : Inv (op19 r h l fr).2.2.2 (wn (op19 r h l fr) wg wb).1 (wn (op19 r h l fr) wg wb).2 ∧ ∀ x ∈ (op19 r h l fr).2.2.2, x.toNat ≤ 281474976710655 := by
  unfold op19
  split
  · exact ⟨I, hM⟩
  split
  · exact ⟨I, hM⟩
  split
  · exact ⟨I, hM⟩
  rename_i h3
  have hn : (rg (fr.take 8)).toNat ≤ 281474976710655 := by rw [UInt64.le_iff_toNat_le, show (281474976710656 : UInt64).toNat = 281474976710656 from rfl] at h3; omega
  split
  · exact ⟨I, hM⟩
  rename_i h4
  split
  · exact ⟨I, hM⟩
  rename_i h5
  split
  · exact ⟨I, hM⟩
  split
  · exact ⟨I, hM⟩
  · have h6 := rchk_0 hM hn h4 h5
    rw [← (chk_inv I _).1] at h6
    refine ⟨take_inv I h6, fun x hx => ?_⟩
    rcases List.mem_append.1 hx with hx | hx
    · exact hM x hx
    · rw [List.mem_singleton.1 hx]; exact hn
theorem ne_zero_of {a b : UInt64} (h : a.toNat % 2 = 1) (hl : a.toNat ≤ b.toNat) : decide (b ≠ 0) = true := by
  refine decide_eq_true (fun hh => ?_)
  rw [hh] at hl
  have : (0 : UInt64).toNat = 0 := rfl
  omega
set_option maxHeartbeats 1600000 in
theorem chopen_u (k r hash : List UInt8) (es sent : UInt64) (l : List UInt64) (wg wb : UInt64) (hk : k.length = 32) (hr : r.length = 32) (hh : hash.length = 32) (I : Inv l wg wb) (hM : ∀ x ∈ l, x.toNat ≤ 281474976710655) (fr : List UInt8) (f : Nat) (hf : fr.length = f) : Good Try.prog 11 [.c (.ptr 0 0), .c (.ro f (u8s fr))] [some (chC es (grl l / 64) 2 (decide (es ≠ 0)) 4 6 (decide ((grl l / 64) ≠ 0)) 8 sent 1 (grl l) (decide (0 < l.length)) hash), some (wcs true wg wb), some (cC (.ptr 3 0) 0), some (u8s (S0 k es.toNat)), cb (decide (es ≠ 0)) 5, kb (decide (es ≠ 0)) (S1 k es.toNat), some (cC (.ptr 7 0) 0), some (u8s (S0 r (grl l / 64).toNat)), cb (decide ((grl l / 64) ≠ 0)) 9, kb (decide ((grl l / 64) ≠ 0)) (S1 r (grl l / 64).toNat)] (.t [.c (.slc 14 0 (op19 r hash l fr).1.length 1), .c (c64 (op19 r hash l fr).2.1), .c (cn (op19 r hash l fr).2.2.1)]) [some (chC es (grl (op19 r hash l fr).2.2.2 / 64) 2 (decide (es ≠ 0)) 4 10 (decide ((grl (op19 r hash l fr).2.2.2 / 64) ≠ 0)) 12 sent 1 (grl (op19 r hash l fr).2.2.2) (decide (0 < (op19 r hash l fr).2.2.2.length)) hash), some (wcs true (wn (op19 r hash l fr) wg wb).1 (wn (op19 r hash l fr) wg wb).2), some (cC (.ptr 3 0) 0), some (u8s (S0 k es.toNat)), cb (decide (es ≠ 0)) 5, kb (decide (es ≠ 0)) (S1 k es.toNat), none, none, none, none, some (cC (.ptr 11 0) 0), some (u8s (S0 r (grl (op19 r hash l fr).2.2.2 / 64).toNat)), cb (decide ((grl (op19 r hash l fr).2.2.2 / 64) ≠ 0)) 13, kb (decide ((grl (op19 r hash l fr).2.2.2 / 64) ≠ 0)) (S1 r (grl (op19 r hash l fr).2.2.2 / 64).toNat), some (u8s (op19 r hash l fr).1)] := by
  by_cases h1 : 4120 < f
  · have e : op19 r hash l fr = ([], 0, 3, l) := by unfold op19; rw [if_pos (by rw [hf]; exact h1)]
    rw [e]
    show Good _ _ _ _ (.t [.c (.slc 14 0 ([] : List UInt8).length 1), .c (c64 0), .c (cn 3)]) [some (chC es (grl l / 64) 2 (decide (es ≠ 0)) 4 10 (decide ((grl l / 64) ≠ 0)) 12 sent 1 (grl l) (decide (0 < l.length)) hash), some (wcs true wg wb), some (cC (.ptr 3 0) 0), some (u8s (S0 k es.toNat)), cb (decide (es ≠ 0)) 5, kb (decide (es ≠ 0)) (S1 k es.toNat), none, none, none, none, some (cC (.ptr 11 0) 0), some (u8s (S0 r (grl l / 64).toNat)), cb (decide ((grl l / 64) ≠ 0)) 13, kb (decide ((grl l / 64) ≠ 0)) (S1 r (grl l / 64).toNat), some (u8s ([] : List UInt8))]
    exact (Good.emp (chopen_long k r hash es (grl l / 64) sent (grl l) (decide (0 < l.length)) wg wb hk hr hh fr f h1) 1).ren' [(0, true), (1, true), (2, true), (3, true), (4, true), (5, true), (6, false), (7, false), (8, false), (9, false), (6, true), (7, true), (8, true), (9, true), (10, true)] (rlT rfl (chC_map rfl rfl rfl rfl rfl) (rlT rfl rfl (rlT rfl rfl (rlT rfl sees_m (rlB rfl (cb_map rfl) (rlB rfl kb_map (rlF (rlF (rlF (rlF (rlT rfl rfl (rlT rfl sees_m (rlB rfl (cb_map rfl) (rlB rfl kb_map (rlT rfl rfl rl0)))))))))))))))
  by_cases h2 : f < 24
  · have e : op19 r hash l fr = ([], 0, 4, l) := by unfold op19; rw [if_neg (by rw [hf]; exact h1), if_pos (by rw [hf]; exact h2)]
    rw [e]
    show Good _ _ _ _ (.t [.c (.slc 14 0 ([] : List UInt8).length 1), .c (c64 0), .c (cn 4)]) [some (chC es (grl l / 64) 2 (decide (es ≠ 0)) 4 10 (decide ((grl l / 64) ≠ 0)) 12 sent 1 (grl l) (decide (0 < l.length)) hash), some (wcs true wg wb), some (cC (.ptr 3 0) 0), some (u8s (S0 k es.toNat)), cb (decide (es ≠ 0)) 5, kb (decide (es ≠ 0)) (S1 k es.toNat), none, none, none, none, some (cC (.ptr 11 0) 0), some (u8s (S0 r (grl l / 64).toNat)), cb (decide ((grl l / 64) ≠ 0)) 13, kb (decide ((grl l / 64) ≠ 0)) (S1 r (grl l / 64).toNat), some (u8s ([] : List UInt8))]
    exact (Good.emp (chopen_short k r hash es (grl l / 64) sent (grl l) (decide (0 < l.length)) wg wb hk hr hh fr f h2) 1).ren' [(0, true), (1, true), (2, true), (3, true), (4, true), (5, true), (6, false), (7, false), (8, false), (9, false), (6, true), (7, true), (8, true), (9, true), (10, true)] (rlT rfl (chC_map rfl rfl rfl rfl rfl) (rlT rfl rfl (rlT rfl rfl (rlT rfl sees_m (rlB rfl (cb_map rfl) (rlB rfl kb_map (rlF (rlF (rlF (rlF (rlT rfl rfl (rlT rfl sees_m (rlB rfl (cb_map rfl) (rlB rfl kb_map (rlT rfl rfl rl0)))))))))))))))
  obtain ⟨N, hN⟩ : ∃ z, gt (fr.take 8) = z := ⟨_, rfl⟩
  have hR : rg (fr.take 8) = N := by rw [← gt_rg]; exact hN
  by_cases h3 : 281474976710656 ≤ rg (fr.take 8)
  · have e : op19 r hash l fr = ([], 0, 4, l) := by unfold op19; rw [if_neg (by rw [hf]; exact h1), if_neg (by rw [hf]; exact h2), if_pos h3]
    rw [e]
    show Good _ _ _ _ (.t [.c (.slc 14 0 ([] : List UInt8).length 1), .c (c64 0), .c (cn 4)]) [some (chC es (grl l / 64) 2 (decide (es ≠ 0)) 4 10 (decide ((grl l / 64) ≠ 0)) 12 sent 1 (grl l) (decide (0 < l.length)) hash), some (wcs true wg wb), some (cC (.ptr 3 0) 0), some (u8s (S0 k es.toNat)), cb (decide (es ≠ 0)) 5, kb (decide (es ≠ 0)) (S1 k es.toNat), none, none, none, none, some (cC (.ptr 11 0) 0), some (u8s (S0 r (grl l / 64).toNat)), cb (decide ((grl l / 64) ≠ 0)) 13, kb (decide ((grl l / 64) ≠ 0)) (S1 r (grl l / 64).toNat), some (u8s ([] : List UInt8))]
    exact (Good.emp (chopen_far k r hash es (grl l / 64) sent (grl l) (decide (0 < l.length)) wg wb hk hr hh fr f N hf (by omega) (by omega) hN (by rw [← hR, UInt64.lt_iff_toNat_lt, show (281474976710655 : UInt64).toNat = 281474976710655 from rfl]; rw [UInt64.le_iff_toNat_le, show (281474976710656 : UInt64).toNat = 281474976710656 from rfl] at h3; omega)) 1).ren' [(0, true), (1, true), (2, true), (3, true), (4, true), (5, true), (6, false), (7, false), (8, false), (9, false), (6, true), (7, true), (8, true), (9, true), (10, true)] (rlT rfl (chC_map rfl rfl rfl rfl rfl) (rlT rfl rfl (rlT rfl rfl (rlT rfl sees_m (rlB rfl (cb_map rfl) (rlB rfl kb_map (rlF (rlF (rlF (rlF (rlT rfl rfl (rlT rfl sees_m (rlB rfl (cb_map rfl) (rlB rfl kb_map (rlT rfl rfl rl0)))))))))))))))
  have hn : N.toNat ≤ 281474976710655 := by rw [UInt64.le_iff_toNat_le, show (281474976710656 : UInt64).toNat = 281474976710656 from rfl, hR] at h3; omega
  have hn' : ¬ 281474976710655 < N := by rw [UInt64.lt_iff_toNat_lt, show (281474976710655 : UInt64).toNat = 281474976710655 from rfl]; omega
  have hc := (chk_inv I N).1
  by_cases h4 : rg (fr.take 8) ∈ l
  · have e : op19 r hash l fr = ([], 0, 10, l) := by unfold op19; rw [if_neg (by rw [hf]; exact h1), if_neg (by rw [hf]; exact h2), if_neg h3, if_pos h4]
    rw [e]
    show Good _ _ _ _ (.t [.c (.slc 14 0 ([] : List UInt8).length 1), .c (c64 0), .c (cn 10)]) [some (chC es (grl l / 64) 2 (decide (es ≠ 0)) 4 10 (decide ((grl l / 64) ≠ 0)) 12 sent 1 (grl l) (decide (0 < l.length)) hash), some (wcs true wg wb), some (cC (.ptr 3 0) 0), some (u8s (S0 k es.toNat)), cb (decide (es ≠ 0)) 5, kb (decide (es ≠ 0)) (S1 k es.toNat), none, none, none, none, some (cC (.ptr 11 0) 0), some (u8s (S0 r (grl l / 64).toNat)), cb (decide ((grl l / 64) ≠ 0)) 13, kb (decide ((grl l / 64) ≠ 0)) (S1 r (grl l / 64).toNat), some (u8s ([] : List UInt8))]
    exact (Good.emp (chopen_old k r hash es (grl l / 64) sent (grl l) (decide (0 < l.length)) wg wb hk hr hh fr f N hf (by omega) (by omega) hN hn' 10 (hc.trans (rchk_10 hM hn ((.inl (hR ▸ h4))))) (by decide)) 1).ren' [(0, true), (1, true), (2, true), (3, true), (4, true), (5, true), (6, false), (7, false), (8, false), (9, false), (6, true), (7, true), (8, true), (9, true), (10, true)] (rlT rfl (chC_map rfl rfl rfl rfl rfl) (rlT rfl rfl (rlT rfl rfl (rlT rfl sees_m (rlB rfl (cb_map rfl) (rlB rfl kb_map (rlF (rlF (rlF (rlF (rlT rfl rfl (rlT rfl sees_m (rlB rfl (cb_map rfl) (rlB rfl kb_map (rlT rfl rfl rl0)))))))))))))))
  by_cases h5 : 0 < l.length ∧ rg (fr.take 8) + 64 ≤ grl l
  · have e : op19 r hash l fr = ([], 0, 10, l) := by unfold op19; rw [if_neg (by rw [hf]; exact h1), if_neg (by rw [hf]; exact h2), if_neg h3, if_neg h4, if_pos h5]
    rw [e]
    show Good _ _ _ _ (.t [.c (.slc 14 0 ([] : List UInt8).length 1), .c (c64 0), .c (cn 10)]) [some (chC es (grl l / 64) 2 (decide (es ≠ 0)) 4 10 (decide ((grl l / 64) ≠ 0)) 12 sent 1 (grl l) (decide (0 < l.length)) hash), some (wcs true wg wb), some (cC (.ptr 3 0) 0), some (u8s (S0 k es.toNat)), cb (decide (es ≠ 0)) 5, kb (decide (es ≠ 0)) (S1 k es.toNat), none, none, none, none, some (cC (.ptr 11 0) 0), some (u8s (S0 r (grl l / 64).toNat)), cb (decide ((grl l / 64) ≠ 0)) 13, kb (decide ((grl l / 64) ≠ 0)) (S1 r (grl l / 64).toNat), some (u8s ([] : List UInt8))]
    exact (Good.emp (chopen_old k r hash es (grl l / 64) sent (grl l) (decide (0 < l.length)) wg wb hk hr hh fr f N hf (by omega) (by omega) hN hn' 10 (hc.trans (rchk_10 hM hn ((.inr (hR ▸ h5))))) (by decide)) 1).ren' [(0, true), (1, true), (2, true), (3, true), (4, true), (5, true), (6, false), (7, false), (8, false), (9, false), (6, true), (7, true), (8, true), (9, true), (10, true)] (rlT rfl (chC_map rfl rfl rfl rfl rfl) (rlT rfl rfl (rlT rfl rfl (rlT rfl sees_m (rlB rfl (cb_map rfl) (rlB rfl kb_map (rlF (rlF (rlF (rlF (rlT rfl rfl (rlT rfl sees_m (rlB rfl (cb_map rfl) (rlB rfl kb_map (rlT rfl rfl rl0)))))))))))))))
  have hw := hc.trans (rchk_0 hM hn (hR ▸ h4) (hR ▸ h5))
  by_cases h6 : grl l / 64 + 16 < rg (fr.take 8) / 64
  · have e : op19 r hash l fr = ([], 0, 9, l) := by unfold op19; rw [if_neg (by rw [hf]; exact h1), if_neg (by rw [hf]; exact h2), if_neg h3, if_neg h4, if_neg h5, if_pos h6]
    rw [e]
    show Good _ _ _ _ (.t [.c (.slc 14 0 ([] : List UInt8).length 1), .c (c64 0), .c (cn 9)]) [some (chC es (grl l / 64) 2 (decide (es ≠ 0)) 4 10 (decide ((grl l / 64) ≠ 0)) 12 sent 1 (grl l) (decide (0 < l.length)) hash), some (wcs true wg wb), some (cC (.ptr 3 0) 0), some (u8s (S0 k es.toNat)), cb (decide (es ≠ 0)) 5, kb (decide (es ≠ 0)) (S1 k es.toNat), none, none, none, none, some (cC (.ptr 11 0) 0), some (u8s (S0 r (grl l / 64).toNat)), cb (decide ((grl l / 64) ≠ 0)) 13, kb (decide ((grl l / 64) ≠ 0)) (S1 r (grl l / 64).toNat), some (u8s ([] : List UInt8))]
    exact (Good.emp (chopen_seq k r hash es (grl l / 64) sent (grl l) (decide (0 < l.length)) wg wb hk hr hh fr f N hf (by omega) (by omega) hN hn' hw (hR ▸ h6)) 1).ren' [(0, true), (1, true), (2, true), (3, true), (4, true), (5, true), (6, false), (7, false), (8, false), (9, false), (6, true), (7, true), (8, true), (9, true), (10, true)] (rlT rfl (chC_map rfl rfl rfl rfl rfl) (rlT rfl rfl (rlT rfl rfl (rlT rfl sees_m (rlB rfl (cb_map rfl) (rlB rfl kb_map (rlF (rlF (rlF (rlF (rlT rfl rfl (rlT rfl sees_m (rlB rfl (cb_map rfl) (rlB rfl kb_map (rlT rfl rfl rl0)))))))))))))))
  have hq : ¬ grl l / 64 + 16 < N / 64 := hR ▸ h6
  have hg9 := grl_le hM
  have hdE := d64 (grl l)
  have hdN := d64 N
  by_cases hle : N / 64 ≤ grl l / 64
  · have hle' := hle
    rw [UInt64.le_iff_toNat_le] at hle'
    have h1' : (grl l / 64).toNat ≤ (N / 64).toNat + 1 := by
      by_cases hp : 0 < l.length
      · have h7 : ¬ N + 64 ≤ grl l := fun h => h5 ⟨hp, hR ▸ h⟩
        rw [UInt64.le_iff_toNat_le, UInt64.toNat_add, show (64 : UInt64).toNat = 64 from rfl, Nat.mod_eq_of_lt (by omega)] at h7
        omega
      · rw [show l = [] from List.eq_nil_of_length_eq_zero (by omega)] at hdE ⊢; rw [hdE]; exact Nat.zero_le _
    have eE : grl (l ++ [N]) / 64 = grl l / 64 := by
      rw [grl_app]; unfold mx; split
      · rename_i hx; rw [UInt64.lt_iff_toNat_lt] at hx; apply UInt64.toNat_inj.1; omega
      · rfl
    cases hop : aopen (kE r (N / 64).toNat) (anonce N) hash (fr.drop 8) with
    | none =>
      have e : op19 r hash l fr = ([], 0, 8, l) := by unfold op19; rw [if_neg (by rw [hf]; exact h1), if_neg (by rw [hf]; exact h2), if_neg h3, if_neg h4, if_neg h5, if_neg h6, hR, hop]
      rw [e]
      show Good _ _ _ _ (.t [.c (.slc 14 0 ([] : List UInt8).length 1), .c (c64 0), .c (cn 8)]) [some (chC es (grl l / 64) 2 (decide (es ≠ 0)) 4 10 (decide ((grl l / 64) ≠ 0)) 12 sent 1 (grl l) (decide (0 < l.length)) hash), some (wcs true wg wb), some (cC (.ptr 3 0) 0), some (u8s (S0 k es.toNat)), cb (decide (es ≠ 0)) 5, kb (decide (es ≠ 0)) (S1 k es.toNat), none, none, none, none, some (cC (.ptr 11 0) 0), some (u8s (S0 r (grl l / 64).toNat)), cb (decide ((grl l / 64) ≠ 0)) 13, kb (decide ((grl l / 64) ≠ 0)) (S1 r (grl l / 64).toNat), some (u8s ([] : List UInt8))]
      rcases Nat.mod_two_eq_zero_or_one (N / 64).toNat with he | he
      · exact (Good.emp (chopen_n0_bad k r hash es (grl l / 64) sent (grl l) (decide (0 < l.length)) wg wb hk hr hh fr f N hf (by omega) (by omega) hN hn' hw hq hle he (slot0 hle' h1' he) hop) 1).ren' [(0, true), (1, true), (2, true), (3, true), (4, true), (5, true), (6, false), (7, false), (8, false), (9, false), (6, true), (7, true), (8, true), (9, true), (10, true)] (rlT rfl (chC_map rfl rfl rfl rfl rfl) (rlT rfl rfl (rlT rfl rfl (rlT rfl sees_m (rlB rfl (cb_map rfl) (rlB rfl kb_map (rlF (rlF (rlF (rlF (rlT rfl rfl (rlT rfl sees_m (rlB rfl (cb_map rfl) (rlB rfl kb_map (rlT rfl rfl rl0)))))))))))))))
      · exact (Good.emp (chopen_n1_bad k r hash es (grl l / 64) sent (grl l) (decide (0 < l.length)) wg wb hk hr hh fr f N hf (by omega) (by omega) hN hn' hw hq hle he (ne_zero_of he hle') (slot1 hle' h1' he) hop) 1).ren' [(0, true), (1, true), (2, true), (3, true), (4, true), (5, true), (6, false), (7, false), (8, false), (9, false), (6, true), (7, true), (8, true), (9, true), (10, true)] (rlT rfl (chC_map rfl rfl rfl rfl rfl) (rlT rfl rfl (rlT rfl rfl (rlT rfl sees_m (rlB rfl (cb_map rfl) (rlB rfl kb_map (rlF (rlF (rlF (rlF (rlT rfl rfl (rlT rfl sees_m (rlB rfl (cb_map rfl) (rlB rfl kb_map (rlT rfl rfl rl0)))))))))))))))
    | some p =>
      have e : op19 r hash l fr = (p, N, 0, l ++ [N]) := by unfold op19; rw [if_neg (by rw [hf]; exact h1), if_neg (by rw [hf]; exact h2), if_neg h3, if_neg h4, if_neg h5, if_neg h6, hR, hop]
      rw [e]
      show Good _ _ _ _ (.t [.c (.slc 14 0 p.length 1), .c (c64 N), .c (cn 0)]) [some (chC es (grl (l ++ [N]) / 64) 2 (decide (es ≠ 0)) 4 10 (decide ((grl (l ++ [N]) / 64) ≠ 0)) 12 sent 1 (grl (l ++ [N])) (decide (0 < (l ++ [N]).length)) hash), some (wcs true (wnext true wg wb N).1 (wnext true wg wb N).2), some (cC (.ptr 3 0) 0), some (u8s (S0 k es.toNat)), cb (decide (es ≠ 0)) 5, kb (decide (es ≠ 0)) (S1 k es.toNat), none, none, none, none, some (cC (.ptr 11 0) 0), some (u8s (S0 r (grl (l ++ [N]) / 64).toNat)), cb (decide ((grl (l ++ [N]) / 64) ≠ 0)) 13, kb (decide ((grl (l ++ [N]) / 64) ≠ 0)) (S1 r (grl (l ++ [N]) / 64).toNat), some (u8s p)]
      rw [eE, grl_app, show decide (0 < (l ++ [N]).length) = true by simp]
      rcases Nat.mod_two_eq_zero_or_one (N / 64).toNat with he | he
      · exact (chopen_n0_ok k r hash es (grl l / 64) sent (grl l) (decide (0 < l.length)) wg wb hk hr hh fr f N hf (by omega) (by omega) hN hn' hw hq hle he (slot0 hle' h1' he) p hop).ren' [(0, true), (1, true), (2, true), (3, true), (4, true), (5, true), (6, false), (7, false), (8, false), (9, false), (6, true), (7, true), (8, true), (9, true), (10, true)] (rlT rfl (chC_map rfl rfl rfl rfl rfl) (rlT rfl rfl (rlT rfl rfl (rlT rfl sees_m (rlB rfl (cb_map rfl) (rlB rfl kb_map (rlF (rlF (rlF (rlF (rlT rfl rfl (rlT rfl sees_m (rlB rfl (cb_map rfl) (rlB rfl kb_map (rlT rfl sees_m rl0)))))))))))))))
      · exact (chopen_n1_ok k r hash es (grl l / 64) sent (grl l) (decide (0 < l.length)) wg wb hk hr hh fr f N hf (by omega) (by omega) hN hn' hw hq hle he (ne_zero_of he hle') (slot1 hle' h1' he) p hop).ren' [(0, true), (1, true), (2, true), (3, true), (4, true), (5, true), (6, false), (7, false), (8, false), (9, false), (6, true), (7, true), (8, true), (9, true), (10, true)] (rlT rfl (chC_map rfl rfl rfl rfl rfl) (rlT rfl rfl (rlT rfl rfl (rlT rfl sees_m (rlB rfl (cb_map rfl) (rlB rfl kb_map (rlF (rlF (rlF (rlF (rlT rfl rfl (rlT rfl sees_m (rlB rfl (cb_map rfl) (rlB rfl kb_map (rlT rfl sees_m rl0)))))))))))))))
  · have hle' := hle
    rw [UInt64.le_iff_toNat_le] at hle'
    have eE : grl (l ++ [N]) / 64 = N / 64 := by
      rw [grl_app]; unfold mx; rw [if_pos (by rw [UInt64.lt_iff_toNat_lt]; omega)]
    cases hop : aopen (kE r (N / 64).toNat) (anonce N) hash (fr.drop 8) with
    | none =>
      have e : op19 r hash l fr = ([], 0, 8, l) := by unfold op19; rw [if_neg (by rw [hf]; exact h1), if_neg (by rw [hf]; exact h2), if_neg h3, if_neg h4, if_neg h5, if_neg h6, hR, hop]
      rw [e]
      show Good _ _ _ _ (.t [.c (.slc 14 0 ([] : List UInt8).length 1), .c (c64 0), .c (cn 8)]) [some (chC es (grl l / 64) 2 (decide (es ≠ 0)) 4 10 (decide ((grl l / 64) ≠ 0)) 12 sent 1 (grl l) (decide (0 < l.length)) hash), some (wcs true wg wb), some (cC (.ptr 3 0) 0), some (u8s (S0 k es.toNat)), cb (decide (es ≠ 0)) 5, kb (decide (es ≠ 0)) (S1 k es.toNat), none, none, none, none, some (cC (.ptr 11 0) 0), some (u8s (S0 r (grl l / 64).toNat)), cb (decide ((grl l / 64) ≠ 0)) 13, kb (decide ((grl l / 64) ≠ 0)) (S1 r (grl l / 64).toNat), some (u8s ([] : List UInt8))]
      rcases Nat.mod_two_eq_zero_or_one (grl l / 64).toNat with he | he
      · exact (Good.emp (chopen_m0_bad k r hash es (grl l / 64) sent (grl l) (decide (0 < l.length)) wg wb hk hr hh fr f N hf (by omega) (by omega) hN hn' hw hq hle he hop) 1).ren' [(0, true), (1, true), (2, true), (3, true), (4, true), (5, true), (6, false), (7, false), (8, false), (9, false), (6, true), (7, true), (8, true), (9, true), (10, true)] (rlT rfl (chC_map rfl rfl rfl rfl rfl) (rlT rfl rfl (rlT rfl rfl (rlT rfl sees_m (rlB rfl (cb_map rfl) (rlB rfl kb_map (rlF (rlF (rlF (rlF (rlT rfl rfl (rlT rfl sees_m (rlB rfl (cb_map rfl) (rlB rfl kb_map (rlT rfl rfl rl0)))))))))))))))
      · exact (Good.emp (chopen_m1_bad k r hash es (grl l / 64) sent (grl l) (decide (0 < l.length)) wg wb hk hr hh fr f N hf (by omega) (by omega) hN hn' hw hq hle he hop) 1).ren' [(0, true), (1, true), (2, true), (3, true), (4, true), (5, true), (6, false), (7, false), (8, false), (9, false), (6, true), (7, true), (8, true), (9, true), (10, true)] (rlT rfl (chC_map rfl rfl rfl rfl rfl) (rlT rfl rfl (rlT rfl rfl (rlT rfl sees_m (rlB rfl (cb_map rfl) (rlB rfl kb_map (rlF (rlF (rlF (rlF (rlT rfl rfl (rlT rfl sees_m (rlB rfl (cb_map rfl) (rlB rfl kb_map (rlT rfl rfl rl0)))))))))))))))
    | some p =>
      have e : op19 r hash l fr = (p, N, 0, l ++ [N]) := by unfold op19; rw [if_neg (by rw [hf]; exact h1), if_neg (by rw [hf]; exact h2), if_neg h3, if_neg h4, if_neg h5, if_neg h6, hR, hop]
      rw [e]
      show Good _ _ _ _ (.t [.c (.slc 14 0 p.length 1), .c (c64 N), .c (cn 0)]) [some (chC es (grl (l ++ [N]) / 64) 2 (decide (es ≠ 0)) 4 10 (decide ((grl (l ++ [N]) / 64) ≠ 0)) 12 sent 1 (grl (l ++ [N])) (decide (0 < (l ++ [N]).length)) hash), some (wcs true (wnext true wg wb N).1 (wnext true wg wb N).2), some (cC (.ptr 3 0) 0), some (u8s (S0 k es.toNat)), cb (decide (es ≠ 0)) 5, kb (decide (es ≠ 0)) (S1 k es.toNat), none, none, none, none, some (cC (.ptr 11 0) 0), some (u8s (S0 r (grl (l ++ [N]) / 64).toNat)), cb (decide ((grl (l ++ [N]) / 64) ≠ 0)) 13, kb (decide ((grl (l ++ [N]) / 64) ≠ 0)) (S1 r (grl (l ++ [N]) / 64).toNat), some (u8s p)]
      rw [eE, grl_app, show decide (0 < (l ++ [N]).length) = true by simp]
      rcases Nat.mod_two_eq_zero_or_one (grl l / 64).toNat with he | he
      · exact chopen_m0_ok k r hash es (grl l / 64) sent (grl l) (decide (0 < l.length)) wg wb hk hr hh fr f N hf (by omega) (by omega) hN hn' hw hq hle he p hop
      · exact chopen_m1_ok k r hash es (grl l / 64) sent (grl l) (decide (0 < l.length)) wg wb hk hr hh fr f N hf (by omega) (by omega) hN hn' hw hq hle he p hop
set_option maxHeartbeats 1600000 in
theorem chopen_e (k r hash : List UInt8) (es sent : UInt64) (l : List UInt64) (wg wb : UInt64) (hk : k.length = 32) (hr : r.length = 32) (hh : hash.length = 32) (I : Inv l wg wb) (hM : ∀ x ∈ l, x.toNat ≤ 281474976710655) (fr : List UInt8) (f : Nat) (hf : fr.length = f) (hz : (op19 r hash l fr).2.2.1 ≠ 0) : Good Try.prog 11 [.c (.ptr 0 0), .c (.ro f (u8s fr))] [some (chC es (grl l / 64) 2 (decide (es ≠ 0)) 4 6 (decide ((grl l / 64) ≠ 0)) 8 sent 1 (grl l) (decide (0 < l.length)) hash), some (wcs true wg wb), some (cC (.ptr 3 0) 0), some (u8s (S0 k es.toNat)), cb (decide (es ≠ 0)) 5, kb (decide (es ≠ 0)) (S1 k es.toNat), some (cC (.ptr 7 0) 0), some (u8s (S0 r (grl l / 64).toNat)), cb (decide ((grl l / 64) ≠ 0)) 9, kb (decide ((grl l / 64) ≠ 0)) (S1 r (grl l / 64).toNat)] (.t [.c .nils, .c (c64 0), .c (cn (op19 r hash l fr).2.2.1)]) [some (chC es (grl l / 64) 2 (decide (es ≠ 0)) 4 6 (decide ((grl l / 64) ≠ 0)) 8 sent 1 (grl l) (decide (0 < l.length)) hash), some (wcs true wg wb), some (cC (.ptr 3 0) 0), some (u8s (S0 k es.toNat)), cb (decide (es ≠ 0)) 5, kb (decide (es ≠ 0)) (S1 k es.toNat), some (cC (.ptr 7 0) 0), some (u8s (S0 r (grl l / 64).toNat)), cb (decide ((grl l / 64) ≠ 0)) 9, kb (decide ((grl l / 64) ≠ 0)) (S1 r (grl l / 64).toNat)] := by
  by_cases h1 : 4120 < f
  · have e : op19 r hash l fr = ([], 0, 3, l) := by unfold op19; rw [if_pos (by rw [hf]; exact h1)]
    rw [e]
    exact chopen_long k r hash es (grl l / 64) sent (grl l) (decide (0 < l.length)) wg wb hk hr hh fr f h1
  by_cases h2 : f < 24
  · have e : op19 r hash l fr = ([], 0, 4, l) := by unfold op19; rw [if_neg (by rw [hf]; exact h1), if_pos (by rw [hf]; exact h2)]
    rw [e]
    exact chopen_short k r hash es (grl l / 64) sent (grl l) (decide (0 < l.length)) wg wb hk hr hh fr f h2
  obtain ⟨N, hN⟩ : ∃ z, gt (fr.take 8) = z := ⟨_, rfl⟩
  have hR : rg (fr.take 8) = N := by rw [← gt_rg]; exact hN
  by_cases h3 : 281474976710656 ≤ rg (fr.take 8)
  · have e : op19 r hash l fr = ([], 0, 4, l) := by unfold op19; rw [if_neg (by rw [hf]; exact h1), if_neg (by rw [hf]; exact h2), if_pos h3]
    rw [e]
    exact chopen_far k r hash es (grl l / 64) sent (grl l) (decide (0 < l.length)) wg wb hk hr hh fr f N hf (by omega) (by omega) hN (by rw [← hR, UInt64.lt_iff_toNat_lt, show (281474976710655 : UInt64).toNat = 281474976710655 from rfl]; rw [UInt64.le_iff_toNat_le, show (281474976710656 : UInt64).toNat = 281474976710656 from rfl] at h3; omega)
  have hn : N.toNat ≤ 281474976710655 := by rw [UInt64.le_iff_toNat_le, show (281474976710656 : UInt64).toNat = 281474976710656 from rfl, hR] at h3; omega
  have hn' : ¬ 281474976710655 < N := by rw [UInt64.lt_iff_toNat_lt, show (281474976710655 : UInt64).toNat = 281474976710655 from rfl]; omega
  have hc := (chk_inv I N).1
  by_cases h4 : rg (fr.take 8) ∈ l
  · have e : op19 r hash l fr = ([], 0, 10, l) := by unfold op19; rw [if_neg (by rw [hf]; exact h1), if_neg (by rw [hf]; exact h2), if_neg h3, if_pos h4]
    rw [e]
    exact chopen_old k r hash es (grl l / 64) sent (grl l) (decide (0 < l.length)) wg wb hk hr hh fr f N hf (by omega) (by omega) hN hn' 10 (hc.trans (rchk_10 hM hn ((.inl (hR ▸ h4))))) (by decide)
  by_cases h5 : 0 < l.length ∧ rg (fr.take 8) + 64 ≤ grl l
  · have e : op19 r hash l fr = ([], 0, 10, l) := by unfold op19; rw [if_neg (by rw [hf]; exact h1), if_neg (by rw [hf]; exact h2), if_neg h3, if_neg h4, if_pos h5]
    rw [e]
    exact chopen_old k r hash es (grl l / 64) sent (grl l) (decide (0 < l.length)) wg wb hk hr hh fr f N hf (by omega) (by omega) hN hn' 10 (hc.trans (rchk_10 hM hn ((.inr (hR ▸ h5))))) (by decide)
  have hw := hc.trans (rchk_0 hM hn (hR ▸ h4) (hR ▸ h5))
  by_cases h6 : grl l / 64 + 16 < rg (fr.take 8) / 64
  · have e : op19 r hash l fr = ([], 0, 9, l) := by unfold op19; rw [if_neg (by rw [hf]; exact h1), if_neg (by rw [hf]; exact h2), if_neg h3, if_neg h4, if_neg h5, if_pos h6]
    rw [e]
    exact chopen_seq k r hash es (grl l / 64) sent (grl l) (decide (0 < l.length)) wg wb hk hr hh fr f N hf (by omega) (by omega) hN hn' hw (hR ▸ h6)
  have hq : ¬ grl l / 64 + 16 < N / 64 := hR ▸ h6
  have hg9 := grl_le hM
  have hdE := d64 (grl l)
  have hdN := d64 N
  by_cases hle : N / 64 ≤ grl l / 64
  · have hle' := hle
    rw [UInt64.le_iff_toNat_le] at hle'
    have h1' : (grl l / 64).toNat ≤ (N / 64).toNat + 1 := by
      by_cases hp : 0 < l.length
      · have h7 : ¬ N + 64 ≤ grl l := fun h => h5 ⟨hp, hR ▸ h⟩
        rw [UInt64.le_iff_toNat_le, UInt64.toNat_add, show (64 : UInt64).toNat = 64 from rfl, Nat.mod_eq_of_lt (by omega)] at h7
        omega
      · rw [show l = [] from List.eq_nil_of_length_eq_zero (by omega)] at hdE ⊢; rw [hdE]; exact Nat.zero_le _
    have eE : grl (l ++ [N]) / 64 = grl l / 64 := by
      rw [grl_app]; unfold mx; split
      · rename_i hx; rw [UInt64.lt_iff_toNat_lt] at hx; apply UInt64.toNat_inj.1; omega
      · rfl
    cases hop : aopen (kE r (N / 64).toNat) (anonce N) hash (fr.drop 8) with
    | none =>
      have e : op19 r hash l fr = ([], 0, 8, l) := by unfold op19; rw [if_neg (by rw [hf]; exact h1), if_neg (by rw [hf]; exact h2), if_neg h3, if_neg h4, if_neg h5, if_neg h6, hR, hop]
      rw [e]
      skip
      rcases Nat.mod_two_eq_zero_or_one (N / 64).toNat with he | he
      · exact chopen_n0_bad k r hash es (grl l / 64) sent (grl l) (decide (0 < l.length)) wg wb hk hr hh fr f N hf (by omega) (by omega) hN hn' hw hq hle he (slot0 hle' h1' he) hop
      · exact chopen_n1_bad k r hash es (grl l / 64) sent (grl l) (decide (0 < l.length)) wg wb hk hr hh fr f N hf (by omega) (by omega) hN hn' hw hq hle he (ne_zero_of he hle') (slot1 hle' h1' he) hop
    | some p =>
      exact absurd (by unfold op19; rw [if_neg (by rw [hf]; exact h1), if_neg (by rw [hf]; exact h2), if_neg h3, if_neg h4, if_neg h5, if_neg h6, hR, hop]) hz
  · have hle' := hle
    rw [UInt64.le_iff_toNat_le] at hle'
    have eE : grl (l ++ [N]) / 64 = N / 64 := by
      rw [grl_app]; unfold mx; rw [if_pos (by rw [UInt64.lt_iff_toNat_lt]; omega)]
    cases hop : aopen (kE r (N / 64).toNat) (anonce N) hash (fr.drop 8) with
    | none =>
      have e : op19 r hash l fr = ([], 0, 8, l) := by unfold op19; rw [if_neg (by rw [hf]; exact h1), if_neg (by rw [hf]; exact h2), if_neg h3, if_neg h4, if_neg h5, if_neg h6, hR, hop]
      rw [e]
      skip
      rcases Nat.mod_two_eq_zero_or_one (grl l / 64).toNat with he | he
      · exact chopen_m0_bad k r hash es (grl l / 64) sent (grl l) (decide (0 < l.length)) wg wb hk hr hh fr f N hf (by omega) (by omega) hN hn' hw hq hle he hop
      · exact chopen_m1_bad k r hash es (grl l / 64) sent (grl l) (decide (0 < l.length)) wg wb hk hr hh fr f N hf (by omega) (by omega) hN hn' hw hq hle he hop
    | some p =>
      exact absurd (by unfold op19; rw [if_neg (by rw [hf]; exact h1), if_neg (by rw [hf]; exact h2), if_neg h3, if_neg h4, if_neg h5, if_neg h6, hR, hop]) hz
theorem chseal_u (k r hash : List UInt8) (es er sent g : UInt64) (any : Bool) (wg wb : UInt64) (hk : k.length = 32) (hr : r.length = 32) (hh : hash.length = 32) (c : List UInt8) (n : Nat) (hc : c.length = n) (hn : n ≤ 4096) (hs : ¬ 281474976710655 < sent) (hm : es ≤ sent / 64) : Good Try.prog 10 [.c (.ptr 0 0), .c (.ro n (u8s c))] [some (chC es er 2 (decide (es ≠ 0)) 4 6 (decide (er ≠ 0)) 8 sent 1 g any hash), some (wcs true wg wb), some (cC (.ptr 3 0) 0), some (u8s (S0 k es.toNat)), cb (decide (es ≠ 0)) 5, kb (decide (es ≠ 0)) (S1 k es.toNat), some (cC (.ptr 7 0) 0), some (u8s (S0 r er.toNat)), cb (decide (er ≠ 0)) 9, kb (decide (er ≠ 0)) (S1 r er.toNat)] (.t [.c (.slc 14 0 (8 + (n + 16)) 1), .c (cn 0)]) [some (chC (sent / 64) er 10 (decide ((sent / 64) ≠ 0)) 12 6 (decide (er ≠ 0)) 8 (sent + 1) 1 g any hash), some (wcs true wg wb), none, none, none, none, some (cC (.ptr 7 0) 0), some (u8s (S0 r er.toNat)), cb (decide (er ≠ 0)) 9, kb (decide (er ≠ 0)) (S1 r er.toNat), some (cC (.ptr 11 0) 0), some (u8s (S0 k (sent / 64).toNat)), cb (decide ((sent / 64) ≠ 0)) 13, kb (decide ((sent / 64) ≠ 0)) (S1 k (sent / 64).toNat), some (u8s (fr19 k hash sent c))] := by
  have hm' : mx es (sent / 64) = sent / 64 := by
    unfold mx; split
    · rfl
    · rename_i h; rw [UInt64.lt_iff_toNat_lt] at h; rw [UInt64.le_iff_toNat_le] at hm; exact UInt64.toNat_inj.1 (by omega)
  rcases Nat.mod_two_eq_zero_or_one (sent / 64).toNat with he | he
  · exact chseal_m0 k r hash es er sent g any wg wb hk hr hh c n hc hn hs hm' he
  · have hg := chseal_m1 k r hash es er sent g any wg wb hk hr hh c n hc hn hs hm' he
    rw [ne_zero_odd he]; exact hg
end Go.Proofs.Ytklcckngmmklhaa

/- What functions of the program do, walked over the abstract machine. -/
namespace Go.Proofs.Ytklcckngmmklhaa
open Go Go.Abs Go.Proofs Go.Proofs.Ytklcckngmmklhaa.Ch Go.Proofs.Ytklcckngmmklhaa.Po Go.Proofs.Ytklcckngmmklhaa.Ae Go.Proofs.Ytklcckngmmklhaa.Wd
set_option maxRecDepth 20000
theorem rop_ (s r h : List UInt8) (n : UInt64) (l : List UInt64) (hs : s.length = 32) (hr : r.length = 32) (hh : h.length = 32) (h9 : l.length ≤ 100000) (fr : List UInt8) (f : Nat) (hf : fr.length = f) (hf9 : f ≤ 140737488351232) : Good Try.prog 19 [.c (.ptr 0 0), .c (.ro f (u8s fr))] [some (rH s r h n (.slc 1 0 l.length 1)), some (u64s l)] (.t [.c (.slc 3 0 (op19 r h l fr).1.length 1), .c (c64 (op19 r h l fr).2.1), .c (cn (op19 r h l fr).2.2.1)]) [some (rH s r h n (.slc 2 0 (op19 r h l fr).2.2.2.length 1)), none, some (u64s (op19 r h l fr).2.2.2), some (u8s (op19 r h l fr).1)] := by
  cases hop : aopen (kE r ((rg (fr.take 8)) / 64).toNat) (anonce (rg (fr.take 8))) h (fr.drop 8) with
  | none => exact rop_none s r h n l hs hr hh h9 fr f hf hf9 hop
  | some p => exact rop_some s r h n l hs hr hh h9 fr f hf hf9 p hop
theorem ch0_map {es er sent g : UInt64} {p0 p1 q0 q1 w p0' p1' q0' q1' w' d : Nat} {any : Bool} {hash : List UInt8} {m : CM} (a : m.fp p0 = some p0') (c : m.fp q0 = some q0') (f : m.fp w = some w') :
    (chC es er p0 false p1 q0 false q1 sent w g any hash).map (cm m (d + 1)) = chC es er p0' false p1' q0' false q1' sent w' g any hash := by
  show cm m (d + 1) (c64 es) :: cm m (d + 1) (.ptr p0 0) :: .nilp :: cm m (d + 1) (c64 er) :: cm m (d + 1) (.ptr q0 0) :: .nilp :: cm m (d + 1) (c64 sent) :: cm m (d + 1) (.ptr w 0) :: cm m (d + 1) (c64 g) :: cm m (d + 1) (.bool any) :: (u8s hash).map (cm m (d + 1)) = _
  rw [pt_cmm a, pt_cmm c, pt_cmm f, mapc_cm]; rfl
theorem two0 (a b hash : List UInt8) (ha : a.length = 32) (hb : b.length = 32) (hh : hash.length = 32) : Good Try.prog 9 [.a (u8s a), .a (u8s b), .a (u8s hash)] [] (.t [.c (.ptr 0 0), .c (.ptr 6 0)]) [some (chC 0 0 2 false 0 4 false 0 0 1 0 false hash), some (wcs true 0 0), some (cC (.ptr 3 0) 0), some (u8s a), some (cC (.ptr 5 0) 0), some (u8s b), some (chC 0 0 8 false 0 10 false 0 0 7 0 false hash), some (wcs true 0 0), some (cC (.ptr 9 0) 0), some (u8s b), some (cC (.ptr 11 0) 0), some (u8s a)] := by
  refine good_frm 20 Try.func9 rfl rfl rfl rfl rfl rfl ?_
  refine awp_seq ?_
  refine rln ?_
  refine G2 (fun _ k_ => q_boxa k_) ?_
  refine G2 (fun _ k_ => q_boxa k_) ?_
  refine G2 (fun _ k_ => q_boxa k_) ?_
  refine As ?_
  refine As ?_
  refine gend ?_
  refine awp_seq ?_
  refine rdln [1, 3, 5, 7, 9, 11] [0, 0, 0, 1, 0, 2, 0, 3, 0, 4, 0, 5, 6, 6] [0, 1, 1, 2, 2, 3, 3, 4, 4, 5, 5, 6, 6, 6] ?_
  refine DLw ?_
  refine De2 (fun _ k_ => q_callv [] [] [some (u8s a), some (cC (.ptr 0 0) 0)] (new_ a ha) k_ (ha := (caa (et rfl) sees_m ca0)) (e2 := pl0) (eL := ml0) (eM := (ml1 sees_m (ml1 rfl ml0)))) ?_
  refine DLw ?_
  refine De2 (fun _ k_ => q_callv [] [] [some (u8s b), some (cC (.ptr 0 0) 0)] (new_ b hb) k_ (ha := (caa (et rfl) sees_m ca0)) (e2 := pl0) (eL := ml0) (eM := (ml1 sees_m (ml1 rfl ml0)))) ?_
  refine DLw ?_
  refine De2 (fun _ k_ => q_callv [4, 3, 6, 5] [some (cC (.ptr 1 0) 0), some (u8s a), some (cC (.ptr 3 0) 0), some (u8s b)] [some (chC 0 0 6 false 0 7 false 0 0 5 0 false hash), some (wcs true 0 0), some (cC (.ptr 1 0) 0), some (cC (.ptr 3 0) 0)] (cnew_ a b hash ha hb hh) k_ (ha := (cac (et rfl) rfl (cac (et rfl) rfl (caa (et rfl) sees_m ca0)))) (e2 := (pl1 rfl rfl (pl1 rfl sees_m (pl1 rfl rfl (pl1 rfl sees_m pl0))))) (eL := (ml1 rfl (ml1 sees_m (ml1 rfl (ml1 sees_m ml0))))) (eM := (ml1 (ch0_map (p1' := 0) (q1' := 0) rfl rfl rfl) (ml1 rfl (ml1 rfl (ml1 rfl ml0)))))) ?_
  refine DLw ?_
  refine De2 (fun _ k_ => q_callv [] [] [some (u8s b), some (cC (.ptr 0 0) 0)] (new_ b hb) k_ (ha := (caa (et rfl) sees_m ca0)) (e2 := pl0) (eL := ml0) (eM := (ml1 sees_m (ml1 rfl ml0)))) ?_
  refine DLw ?_
  refine De2 (fun _ k_ => q_callv [] [] [some (u8s a), some (cC (.ptr 0 0) 0)] (new_ a ha) k_ (ha := (caa (et rfl) sees_m ca0)) (e2 := pl0) (eL := ml0) (eM := (ml1 sees_m (ml1 rfl ml0)))) ?_
  refine DLw ?_
  refine De2 (fun _ k_ => q_callv [12, 11, 14, 13] [some (cC (.ptr 1 0) 0), some (u8s b), some (cC (.ptr 3 0) 0), some (u8s a)] [some (chC 0 0 6 false 0 7 false 0 0 5 0 false hash), some (wcs true 0 0), some (cC (.ptr 1 0) 0), some (cC (.ptr 3 0) 0)] (cnew_ b a hash hb ha hh) k_ (ha := (cac (et rfl) rfl (cac (et rfl) rfl (caa (et rfl) sees_m ca0)))) (e2 := (pl1 rfl rfl (pl1 rfl sees_m (pl1 rfl rfl (pl1 rfl sees_m pl0))))) (eL := (ml1 rfl (ml1 sees_m (ml1 rfl (ml1 sees_m ml0))))) (eM := (ml1 (ch0_map (p1' := 0) (q1' := 0) rfl rfl rfl) (ml1 rfl (ml1 rfl (ml1 rfl ml0)))))) ?_
  refine Dp (fun _ => q_as (s := .v (.c _)) ⟨rfl, rfl⟩) ?_
  refine Dp (fun _ => q_as (s := .v (.c _)) ⟨rfl, rfl⟩) ?_
  refine dend ?_
  refine awp_ret ?_
  exact fx2 [7, 8, 9, 3, 10, 5, 15, 16, 17, 11, 18, 13] (hm0 := rfl) (hH := (pl1 rfl (ch0_map rfl rfl rfl) (pl1 rfl rfl (pl1 rfl rfl (pl1 rfl sees_m (pl1 rfl rfl (pl1 rfl sees_m (pl1 rfl (ch0_map rfl rfl rfl) (pl1 rfl rfl (pl1 rfl rfl (pl1 rfl sees_m (pl1 rfl rfl (pl1 rfl sees_m pl0))))))))))))) (hn := (fun p h => absurd h (Nat.not_lt_zero _)))
theorem two_ (a b hash : List UInt8) (ha : a.length = 32) (hb : b.length = 32) (hh : hash.length = 32) : Good Try.prog 9 [.a (u8s a), .a (u8s b), .a (u8s hash)] [] (.t [.c (.ptr 0 0), .c (.ptr 10 0)]) [some (chC (0 : UInt64) (grl [] / 64) 2 (decide ((0 : UInt64) ≠ 0)) 4 6 (decide ((grl [] / 64) ≠ 0)) 8 (0 : UInt64) 1 (grl []) (decide (0 < ([] : List UInt64).length)) hash), some (wcs true 0 0), some (cC (.ptr 3 0) 0), some (u8s (S0 a (0 : UInt64).toNat)), cb (decide ((0 : UInt64) ≠ 0)) 5, kb (decide ((0 : UInt64) ≠ 0)) (S1 a (0 : UInt64).toNat), some (cC (.ptr 7 0) 0), some (u8s (S0 b (grl [] / 64).toNat)), cb (decide ((grl [] / 64) ≠ 0)) 9, kb (decide ((grl [] / 64) ≠ 0)) (S1 b (grl [] / 64).toNat), some (chC (0 : UInt64) (grl [] / 64) 12 (decide ((0 : UInt64) ≠ 0)) 14 16 (decide ((grl [] / 64) ≠ 0)) 18 (0 : UInt64) 11 (grl []) (decide (0 < ([] : List UInt64).length)) hash), some (wcs true 0 0), some (cC (.ptr 13 0) 0), some (u8s (S0 b (0 : UInt64).toNat)), cb (decide ((0 : UInt64) ≠ 0)) 15, kb (decide ((0 : UInt64) ≠ 0)) (S1 b (0 : UInt64).toNat), some (cC (.ptr 17 0) 0), some (u8s (S0 a (grl [] / 64).toNat)), cb (decide ((grl [] / 64) ≠ 0)) 19, kb (decide ((grl [] / 64) ≠ 0)) (S1 a (grl [] / 64).toNat)] :=
  (two0 a b hash ha hb hh).ren' [(0, true), (1, true), (2, true), (3, true), (0, false), (0, false), (4, true), (5, true), (0, false), (0, false), (6, true), (7, true), (8, true), (9, true), (0, false), (0, false), (10, true), (11, true), (0, false), (0, false)] (rlT rfl (ch0_map rfl rfl rfl) (rlT rfl rfl (rlT rfl rfl (rlT rfl sees_m (rlF (rlF (rlT rfl rfl (rlT rfl sees_m (rlF (rlF (rlT rfl (ch0_map rfl rfl rfl) (rlT rfl rfl (rlT rfl rfl (rlT rfl sees_m (rlF (rlF (rlT rfl rfl (rlT rfl sees_m (rlF (rlF rl0))))))))))))))))))))
end Go.Proofs.Ytklcckngmmklhaa

/- What functions of the program do, walked over the abstract machine. -/
namespace Go.Proofs.Ytklcckngmmklhaa
open Go Go.Abs Go.Proofs Go.Proofs.Ytklcckngmmklhaa.Ch Go.Proofs.Ytklcckngmmklhaa.Po Go.Proofs.Ytklcckngmmklhaa.Ae Go.Proofs.Ytklcckngmmklhaa.Wd
set_option maxRecDepth 20000
theorem rg_app (l : List UInt8) (c : UInt8) : rg (l ++ [c]) = rg l * 256 + c.toUInt64 := by simp [rg]
theorem fbl_rg (n : UInt64) : ∀ j, j ≤ 8 → (rg (fbl n j)).toNat = n.toNat / 2 ^ (64 - 8 * j)
  | 0, _ => by
    have := n.toNat_lt
    show 0 = _
    rw [Nat.div_eq_of_lt (by simpa using this)]
  | j + 1, h => by
    have ih := fbl_rg n j (by omega)
    have hn := n.toNat_lt
    rw [fbl, rg_app, UInt64.toNat_add, UInt64.toNat_mul, ih, UInt8.toNat_toUInt64, UInt64.toNat_toUInt8, show (256 : UInt64).toNat = 256 from rfl]
    rw [show (UInt64.ofNat (8 * (7 - j))).toNat = 8 * (7 - j) by rw [UInt64.toNat_ofNat', Nat.mod_eq_of_lt (by omega)], shr_nat n _ (by omega)]
    match j, h with
    | 0, _ => simp only [show 64 - 8 * 0 = 64 from rfl, show 8 * (7 - 0) = 56 from rfl, show 64 - 8 * (0 + 1) = 56 from rfl]; omega
    | 1, _ => simp only [show 64 - 8 * 1 = 56 from rfl, show 8 * (7 - 1) = 48 from rfl, show 64 - 8 * (1 + 1) = 48 from rfl]; omega
    | 2, _ => simp only [show 64 - 8 * 2 = 48 from rfl, show 8 * (7 - 2) = 40 from rfl, show 64 - 8 * (2 + 1) = 40 from rfl]; omega
    | 3, _ => simp only [show 64 - 8 * 3 = 40 from rfl, show 8 * (7 - 3) = 32 from rfl, show 64 - 8 * (3 + 1) = 32 from rfl]; omega
    | 4, _ => simp only [show 64 - 8 * 4 = 32 from rfl, show 8 * (7 - 4) = 24 from rfl, show 64 - 8 * (4 + 1) = 24 from rfl]; omega
    | 5, _ => simp only [show 64 - 8 * 5 = 24 from rfl, show 8 * (7 - 5) = 16 from rfl, show 64 - 8 * (5 + 1) = 16 from rfl]; omega
    | 6, _ => simp only [show 64 - 8 * 6 = 16 from rfl, show 8 * (7 - 6) = 8 from rfl, show 64 - 8 * (6 + 1) = 8 from rfl]; omega
    | 7, _ => simp only [show 64 - 8 * 7 = 8 from rfl, show 8 * (7 - 7) = 0 from rfl, show 64 - 8 * (7 + 1) = 0 from rfl]; omega
theorem rg_fbl (n : UInt64) : rg (fbl n 8) = n := by
  apply UInt64.toNat_inj.1
  rw [fbl_rg n 8 (Nat.le_refl _)]; simp
theorem fr19_take (s h c : List UInt8) (n : UInt64) : rg ((fr19 s h n c).take 8) = n := by
  rw [fr19, List.take_left' (fbl_len n 8), rg_fbl]
theorem fr19_drop (s h c : List UInt8) (n : UInt64) : (fr19 s h n c).drop 8 = aseal (kE s (n / 64).toNat) (anonce n) h c := by
  rw [fr19, List.drop_left' (fbl_len n 8)]
theorem op19_fr {r h c : List UInt8} {l : List UInt64} {n : UInt64} (hc : c.length ≤ 4096) (hn : n.toNat ≤ 281474976710655) (h1 : n ∉ l) (h2 : ¬ (0 < l.length ∧ n + 64 ≤ grl l)) (h3 : ¬ grl l / 64 + 16 < n / 64) : op19 r h l (fr19 r h n c) = (c, n, 0, l ++ [n]) := by
  unfold op19
  rw [fr19_take, fr19_drop, fr19_len, if_neg (by omega), if_neg (by omega), if_neg (by rw [UInt64.le_iff_toNat_le, show (281474976710656 : UInt64).toNat = 281474976710656 from rfl]; omega), if_neg h1, if_neg h2, if_neg h3, aopen_aseal]
theorem op19_rep {r s h c : List UInt8} {l : List UInt64} {n : UInt64} (hc : c.length ≤ 4096) (hn : n.toNat ≤ 281474976710655) (h1 : n ∈ l ∨ (0 < l.length ∧ n + 64 ≤ grl l)) : op19 r h l (fr19 s h n c) = ([], 0, 10, l) := by
  unfold op19
  rw [fr19_take, fr19_len, if_neg (by omega), if_neg (by omega), if_neg (by rw [UInt64.le_iff_toNat_le, show (281474976710656 : UInt64).toNat = 281474976710656 from rfl]; omega)]
  by_cases h : n ∈ l
  · rw [if_pos h]
  · rw [if_neg h, if_pos (h1.resolve_left h)]
theorem key1 {K : List UInt8} {x : UInt8} (h : (x :: List.replicate 31 0 : List UInt8) = K) {m : CM} {d : Nat} : ((u8s (List.replicate 32 0)).set (0 * 1) (c8 x)).map (cm m d) = u8s K := by
  subst h
  rw [show (u8s (List.replicate 32 0)).set (0 * 1) (c8 x) = u8s (x :: List.replicate 31 0) from rfl]
  exact sees_m
set_option maxHeartbeats 1600000 in
theorem known_ : Good Try.prog 8 [] [] (sc (.bool true)) [] := by
  obtain ⟨A, hA⟩ : ∃ z, (1 :: List.replicate 31 0 : List UInt8) = z := ⟨_, rfl⟩
  have hAl : A.length = 32 := by rw [← hA]; rfl
  obtain ⟨B, hB⟩ : ∃ z, (2 :: List.replicate 31 0 : List UInt8) = z := ⟨_, rfl⟩
  have hBl : B.length = 32 := by rw [← hB]; rfl
  obtain ⟨X, hX⟩ : ∃ z, (3 :: List.replicate 31 0 : List UInt8) = z := ⟨_, rfl⟩
  have hXl : X.length = 32 := by rw [← hX]; rfl
  have o1 : op19 A X [] (fr19 A X ((0 : UInt64) + 1) [121]) = ([121], (0 + 1), 0, [0 + 1]) := op19_fr (by decide) (by decide) (by decide) (by decide) (by decide)
  have o2 : op19 A X [0 + 1] (fr19 A X (0 : UInt64) [120]) = ([120], 0, 0, [0 + 1, 0]) := op19_fr (by decide) (by decide) (by decide) (by decide) (by decide)
  have o3 : op19 A X [0 + 1, 0] (fr19 A X (0 : UInt64) [120]) = ([], 0, 10, [0 + 1, 0]) := op19_rep (by decide) (by decide) (by decide)
  have hx := fr19_len (s := A) (h := X) (n := 0) (c := [120])
  have hy := fr19_len (s := A) (h := X) (n := 0 + 1) (c := [121])
  obtain ⟨x0, e0⟩ : ∃ z, (fr19 A X (0 : UInt64) [120]) = z := ⟨_, rfl⟩
  obtain ⟨y0, e1⟩ : ∃ z, (fr19 A X ((0 : UInt64) + 1) [121]) = z := ⟨_, rfl⟩
  rw [e0] at o2 o3 hx
  rw [e1] at o1 hy
  have I1 := op19_inv (r := A) (h := X) (fr := y0) inv_nil (fun _ h => absurd h List.not_mem_nil)
  rw [o1] at I1
  have I2 := op19_inv (r := A) (h := X) (fr := x0) I1.1 I1.2
  rw [o2] at I2
  have g1 : Good Try.prog 11 [.c (.ptr 0 0), .c (.ro 25 (u8s y0))] [some (chC (0 : UInt64) (grl [] / 64) 2 (decide ((0 : UInt64) ≠ 0)) 4 6 (decide ((grl [] / 64) ≠ 0)) 8 (0 : UInt64) 1 (grl []) (decide (0 < ([] : List UInt64).length)) X), some (wcs true 0 0), some (cC (.ptr 3 0) 0), some (u8s (S0 B (0 : UInt64).toNat)), cb (decide ((0 : UInt64) ≠ 0)) 5, kb (decide ((0 : UInt64) ≠ 0)) (S1 B (0 : UInt64).toNat), some (cC (.ptr 7 0) 0), some (u8s (S0 A (grl [] / 64).toNat)), cb (decide ((grl [] / 64) ≠ 0)) 9, kb (decide ((grl [] / 64) ≠ 0)) (S1 A (grl [] / 64).toNat)] (.t [.c (.slc 14 0 ([121] : List UInt8).length 1), .c (c64 (0 + 1)), .c (cn 0)]) [some (chC (0 : UInt64) (grl [0 + 1] / 64) 2 (decide ((0 : UInt64) ≠ 0)) 4 10 (decide ((grl [0 + 1] / 64) ≠ 0)) 12 (0 : UInt64) 1 (grl [0 + 1]) (decide (0 < ([0 + 1] : List UInt64).length)) X), some (wcs true (wn ([121], 0 + 1, 0, [0 + 1]) 0 0).1 (wn ([121], 0 + 1, 0, [0 + 1]) 0 0).2), some (cC (.ptr 3 0) 0), some (u8s (S0 B (0 : UInt64).toNat)), cb (decide ((0 : UInt64) ≠ 0)) 5, kb (decide ((0 : UInt64) ≠ 0)) (S1 B (0 : UInt64).toNat), none, none, none, none, some (cC (.ptr 11 0) 0), some (u8s (S0 A (grl [0 + 1] / 64).toNat)), cb (decide ((grl [0 + 1] / 64) ≠ 0)) 13, kb (decide ((grl [0 + 1] / 64) ≠ 0)) (S1 A (grl [0 + 1] / 64).toNat), some (u8s [121])] := by
    have h := chopen_u B A X (0 : UInt64) (0 : UInt64) [] 0 0 hBl hAl hXl inv_nil (fun _ h => absurd h List.not_mem_nil) y0 25 hy
    rw [o1] at h
    exact h
  have g2 : Good Try.prog 11 [.c (.ptr 0 0), .c (.ro 25 (u8s x0))] [some (chC (0 : UInt64) (grl [0 + 1] / 64) 2 (decide ((0 : UInt64) ≠ 0)) 4 6 (decide ((grl [0 + 1] / 64) ≠ 0)) 8 (0 : UInt64) 1 (grl [0 + 1]) (decide (0 < ([0 + 1] : List UInt64).length)) X), some (wcs true (wn ([121], 0 + 1, 0, [0 + 1]) 0 0).1 (wn ([121], 0 + 1, 0, [0 + 1]) 0 0).2), some (cC (.ptr 3 0) 0), some (u8s (S0 B (0 : UInt64).toNat)), cb (decide ((0 : UInt64) ≠ 0)) 5, kb (decide ((0 : UInt64) ≠ 0)) (S1 B (0 : UInt64).toNat), some (cC (.ptr 7 0) 0), some (u8s (S0 A (grl [0 + 1] / 64).toNat)), cb (decide ((grl [0 + 1] / 64) ≠ 0)) 9, kb (decide ((grl [0 + 1] / 64) ≠ 0)) (S1 A (grl [0 + 1] / 64).toNat)] (.t [.c (.slc 14 0 ([120] : List UInt8).length 1), .c (c64 0), .c (cn 0)]) [some (chC (0 : UInt64) (grl [0 + 1, 0] / 64) 2 (decide ((0 : UInt64) ≠ 0)) 4 10 (decide ((grl [0 + 1, 0] / 64) ≠ 0)) 12 (0 : UInt64) 1 (grl [0 + 1, 0]) (decide (0 < ([0 + 1, 0] : List UInt64).length)) X), some (wcs true (wn ([120], 0, 0, [0 + 1, 0]) (wn ([121], 0 + 1, 0, [0 + 1]) 0 0).1 (wn ([121], 0 + 1, 0, [0 + 1]) 0 0).2).1 (wn ([120], 0, 0, [0 + 1, 0]) (wn ([121], 0 + 1, 0, [0 + 1]) 0 0).1 (wn ([121], 0 + 1, 0, [0 + 1]) 0 0).2).2), some (cC (.ptr 3 0) 0), some (u8s (S0 B (0 : UInt64).toNat)), cb (decide ((0 : UInt64) ≠ 0)) 5, kb (decide ((0 : UInt64) ≠ 0)) (S1 B (0 : UInt64).toNat), none, none, none, none, some (cC (.ptr 11 0) 0), some (u8s (S0 A (grl [0 + 1, 0] / 64).toNat)), cb (decide ((grl [0 + 1, 0] / 64) ≠ 0)) 13, kb (decide ((grl [0 + 1, 0] / 64) ≠ 0)) (S1 A (grl [0 + 1, 0] / 64).toNat), some (u8s [120])] := by
    have h := chopen_u B A X (0 : UInt64) (0 : UInt64) [0 + 1] (wn ([121], 0 + 1, 0, [0 + 1]) 0 0).1 (wn ([121], 0 + 1, 0, [0 + 1]) 0 0).2 hBl hAl hXl I1.1 I1.2 x0 25 hx
    rw [o2] at h
    exact h
  have g3 : Good Try.prog 11 [.c (.ptr 0 0), .c (.ro 25 (u8s x0))] [some (chC (0 : UInt64) (grl [0 + 1, 0] / 64) 2 (decide ((0 : UInt64) ≠ 0)) 4 6 (decide ((grl [0 + 1, 0] / 64) ≠ 0)) 8 (0 : UInt64) 1 (grl [0 + 1, 0]) (decide (0 < ([0 + 1, 0] : List UInt64).length)) X), some (wcs true (wn ([120], 0, 0, [0 + 1, 0]) (wn ([121], 0 + 1, 0, [0 + 1]) 0 0).1 (wn ([121], 0 + 1, 0, [0 + 1]) 0 0).2).1 (wn ([120], 0, 0, [0 + 1, 0]) (wn ([121], 0 + 1, 0, [0 + 1]) 0 0).1 (wn ([121], 0 + 1, 0, [0 + 1]) 0 0).2).2), some (cC (.ptr 3 0) 0), some (u8s (S0 B (0 : UInt64).toNat)), cb (decide ((0 : UInt64) ≠ 0)) 5, kb (decide ((0 : UInt64) ≠ 0)) (S1 B (0 : UInt64).toNat), some (cC (.ptr 7 0) 0), some (u8s (S0 A (grl [0 + 1, 0] / 64).toNat)), cb (decide ((grl [0 + 1, 0] / 64) ≠ 0)) 9, kb (decide ((grl [0 + 1, 0] / 64) ≠ 0)) (S1 A (grl [0 + 1, 0] / 64).toNat)] (.t [.c (.slc 14 0 (([] : List UInt8) : List UInt8).length 1), .c (c64 0), .c (cn 10)]) [some (chC (0 : UInt64) (grl [0 + 1, 0] / 64) 2 (decide ((0 : UInt64) ≠ 0)) 4 10 (decide ((grl [0 + 1, 0] / 64) ≠ 0)) 12 (0 : UInt64) 1 (grl [0 + 1, 0]) (decide (0 < ([0 + 1, 0] : List UInt64).length)) X), some (wcs true (wn ([120], 0, 0, [0 + 1, 0]) (wn ([121], 0 + 1, 0, [0 + 1]) 0 0).1 (wn ([121], 0 + 1, 0, [0 + 1]) 0 0).2).1 (wn ([120], 0, 0, [0 + 1, 0]) (wn ([121], 0 + 1, 0, [0 + 1]) 0 0).1 (wn ([121], 0 + 1, 0, [0 + 1]) 0 0).2).2), some (cC (.ptr 3 0) 0), some (u8s (S0 B (0 : UInt64).toNat)), cb (decide ((0 : UInt64) ≠ 0)) 5, kb (decide ((0 : UInt64) ≠ 0)) (S1 B (0 : UInt64).toNat), none, none, none, none, some (cC (.ptr 11 0) 0), some (u8s (S0 A (grl [0 + 1, 0] / 64).toNat)), cb (decide ((grl [0 + 1, 0] / 64) ≠ 0)) 13, kb (decide ((grl [0 + 1, 0] / 64) ≠ 0)) (S1 A (grl [0 + 1, 0] / 64).toNat), some (u8s ([] : List UInt8))] := by
    have h := chopen_u B A X (0 : UInt64) (0 : UInt64) [0 + 1, 0] (wn ([120], 0, 0, [0 + 1, 0]) (wn ([121], 0 + 1, 0, [0 + 1]) 0 0).1 (wn ([121], 0 + 1, 0, [0 + 1]) 0 0).2).1 (wn ([120], 0, 0, [0 + 1, 0]) (wn ([121], 0 + 1, 0, [0 + 1]) 0 0).1 (wn ([121], 0 + 1, 0, [0 + 1]) 0 0).2).2 hBl hAl hXl I2.1 I2.2 x0 25 hx
    rw [o3] at h
    exact h
  have q1 := chseal_u A B X (0 : UInt64) (grl [] / 64) (0 : UInt64) (grl []) (decide (0 < ([] : List UInt64).length)) 0 0 hAl hBl hXl [120] 1 rfl (by decide) (by decide) (by decide)
  have q2 := chseal_u A B X ((0 : UInt64) / 64) (grl [] / 64) ((0 : UInt64) + 1) (grl []) (decide (0 < ([] : List UInt64).length)) 0 0 hAl hBl hXl [121] 1 rfl (by decide) (by decide) (by decide)
  rw [e0] at q1
  rw [e1] at q2
  refine good_frm 94 Try.func8 rfl rfl rfl rfl rfl rfl ?_
  refine awp_seq ?_
  refine rln ?_
  refine As ?_
  refine gend ?_
  refine awp_seq ?_
  refine rln ?_
  refine G (q_bla (fkc (c := c8 1) rfl rfl rfl (Nat.le_of_ble_eq_true rfl) (fk0 ?_)))
  refine G (q_bla (fkc (c := c8 2) rfl rfl rfl (Nat.le_of_ble_eq_true rfl) (fk0 ?_)))
  refine G (q_bla (fkc (c := c8 3) rfl rfl rfl (Nat.le_of_ble_eq_true rfl) (fk0 ?_)))
  refine G2 (fun _ k_ => q_callv [] [] [some (chC (0 : UInt64) (grl [] / 64) 2 (decide ((0 : UInt64) ≠ 0)) 4 6 (decide ((grl [] / 64) ≠ 0)) 8 (0 : UInt64) 1 (grl []) (decide (0 < ([] : List UInt64).length)) X), some (wcs true 0 0), some (cC (.ptr 3 0) 0), some (u8s (S0 A (0 : UInt64).toNat)), cb (decide ((0 : UInt64) ≠ 0)) 5, kb (decide ((0 : UInt64) ≠ 0)) (S1 A (0 : UInt64).toNat), some (cC (.ptr 7 0) 0), some (u8s (S0 B (grl [] / 64).toNat)), cb (decide ((grl [] / 64) ≠ 0)) 9, kb (decide ((grl [] / 64) ≠ 0)) (S1 B (grl [] / 64).toNat), some (chC (0 : UInt64) (grl [] / 64) 12 (decide ((0 : UInt64) ≠ 0)) 14 16 (decide ((grl [] / 64) ≠ 0)) 18 (0 : UInt64) 11 (grl []) (decide (0 < ([] : List UInt64).length)) X), some (wcs true 0 0), some (cC (.ptr 13 0) 0), some (u8s (S0 B (0 : UInt64).toNat)), cb (decide ((0 : UInt64) ≠ 0)) 15, kb (decide ((0 : UInt64) ≠ 0)) (S1 B (0 : UInt64).toNat), some (cC (.ptr 17 0) 0), some (u8s (S0 A (grl [] / 64).toNat)), cb (decide ((grl [] / 64) ≠ 0)) 19, kb (decide ((grl [] / 64) ≠ 0)) (S1 A (grl [] / 64).toNat)] (two_ A B X hAl hBl hXl) k_ (ha := (caa (et rfl) (key1 hA) (caa (et rfl) (key1 hB) (caa (et rfl) (key1 hX) ca0)))) (e2 := pl0) (eL := ml0) (eM := (ml1 (chC_map rfl rfl rfl rfl rfl) (ml1 rfl (ml1 rfl (ml1 sees_m (mlb (cb_map rfl) (mlb kb_map (ml1 rfl (ml1 sees_m (mlb (cb_map rfl) (mlb kb_map (ml1 (chC_map rfl rfl rfl rfl rfl) (ml1 rfl (ml1 rfl (ml1 sees_m (mlb (cb_map rfl) (mlb kb_map (ml1 rfl (ml1 sees_m (mlb (cb_map rfl) (mlb kb_map ml0)))))))))))))))))))))) ?_
  refine G (q_mv (s := .t _) ?_)
  refine G (q_ext (y := .c _) ?_)
  refine G (q_ext (y := .c _) ?_)
  refine As ?_
  refine As ?_
  refine gend ?_
  refine awp_seq ?_
  refine rln ?_
  refine Mv ?_
  refine G2 (fun _ k_ => q_bsl (fkc (c := c8 120) rfl rfl rfl (Nat.le_of_ble_eq_true rfl) (fk0 k_))) ?_
  refine G (q_css ?_)
  refine G2 (fun _ k_ => q_callv [0, 1, 2, 3, 4, 5, 6, 7, 8, 9] [some (chC ((0 : UInt64) / 64) (grl [] / 64) 10 (decide (((0 : UInt64) / 64) ≠ 0)) 12 6 (decide ((grl [] / 64) ≠ 0)) 8 ((0 : UInt64) + 1) 1 (grl []) (decide (0 < ([] : List UInt64).length)) X), some (wcs true 0 0), none, none, none, none, some (cC (.ptr 7 0) 0), some (u8s (S0 B (grl [] / 64).toNat)), cb (decide ((grl [] / 64) ≠ 0)) 9, kb (decide ((grl [] / 64) ≠ 0)) (S1 B (grl [] / 64).toNat)] [some (cC (.ptr 11 0) 0), some (u8s (S0 A ((0 : UInt64) / 64).toNat)), cb (decide (((0 : UInt64) / 64) ≠ 0)) 13, kb (decide (((0 : UInt64) / 64) ≠ 0)) (S1 A ((0 : UInt64) / 64).toNat), some (u8s x0)] q1 k_ (ha := (cac (et rfl) rfl (cac (et rfl) (sees_slc rfl rfl rfl) ca0))) (e2 := (pl1 rfl (chC_map rfl rfl rfl rfl rfl) (pl1 rfl rfl (pl1 rfl rfl (pl1 rfl sees_m (plb rfl (cb_map rfl) (plb rfl kb_map (pl1 rfl rfl (pl1 rfl sees_m (plb rfl (cb_map rfl) (plb rfl kb_map pl0))))))))))) (eL := (ml1 (chC_map rfl rfl rfl rfl rfl) (ml1 rfl (mln (mln (mln (mln (ml1 rfl (ml1 sees_m (mlb (cb_map rfl) (mlb kb_map ml0))))))))))) (eM := (ml1 rfl (ml1 sees_m (mlb (cb_map rfl) (mlb kb_map (ml1 sees_m ml0)))))) (e3 := (vt2 rfl rfl))) ?_
  refine G (q_mv (s := .t _) ?_)
  refine G (q_ext (y := .c _) ?_)
  refine G (q_ext (y := .c _) ?_)
  refine As ?_
  refine As ?_
  refine gend ?_
  refine awp_seq ?_
  refine rln ?_
  refine Mv ?_
  refine G2 (fun _ k_ => q_bsl (fkc (c := c8 121) rfl rfl rfl (Nat.le_of_ble_eq_true rfl) (fk0 k_))) ?_
  refine G (q_css ?_)
  refine G2 (fun _ k_ => q_callv [0, 1, 21, 22, 23, 24, 6, 7, 8, 9] [some (chC (((0 : UInt64) + 1) / 64) (grl [] / 64) 10 (decide ((((0 : UInt64) + 1) / 64) ≠ 0)) 12 6 (decide ((grl [] / 64) ≠ 0)) 8 (((0 : UInt64) + 1) + 1) 1 (grl []) (decide (0 < ([] : List UInt64).length)) X), some (wcs true 0 0), none, none, none, none, some (cC (.ptr 7 0) 0), some (u8s (S0 B (grl [] / 64).toNat)), cb (decide ((grl [] / 64) ≠ 0)) 9, kb (decide ((grl [] / 64) ≠ 0)) (S1 B (grl [] / 64).toNat)] [some (cC (.ptr 11 0) 0), some (u8s (S0 A (((0 : UInt64) + 1) / 64).toNat)), cb (decide ((((0 : UInt64) + 1) / 64) ≠ 0)) 13, kb (decide ((((0 : UInt64) + 1) / 64) ≠ 0)) (S1 A (((0 : UInt64) + 1) / 64).toNat), some (u8s y0)] q2 k_ (ha := (cac (et rfl) rfl (cac (et rfl) (sees_slc rfl rfl rfl) ca0))) (e2 := (pl1 rfl (chC_map rfl rfl rfl rfl rfl) (pl1 rfl rfl (pl1 rfl rfl (pl1 rfl sees_m (plb rfl (cb_map rfl) (plb rfl kb_map (pl1 rfl rfl (pl1 rfl sees_m (plb rfl (cb_map rfl) (plb rfl kb_map pl0))))))))))) (eL := (ml1 (chC_map rfl rfl rfl rfl rfl) (ml1 rfl (mln (mln (mln (mln (ml1 rfl (ml1 sees_m (mlb (cb_map rfl) (mlb kb_map ml0))))))))))) (eM := (ml1 rfl (ml1 sees_m (mlb (cb_map rfl) (mlb kb_map (ml1 sees_m ml0)))))) (e3 := (vt2 rfl rfl))) ?_
  refine G (q_mv (s := .t _) ?_)
  refine G (q_ext (y := .c _) ?_)
  refine G (q_ext (y := .c _) ?_)
  refine As ?_
  refine As ?_
  refine gend ?_
  refine awp_seq ?_
  refine rln ?_
  refine Mv ?_
  refine Mv ?_
  refine G2 (fun _ k_ => q_callv [10, 11, 12, 13, 14, 15, 16, 17, 18, 19] [some (chC (0 : UInt64) (grl [0 + 1] / 64) 2 (decide ((0 : UInt64) ≠ 0)) 4 10 (decide ((grl [0 + 1] / 64) ≠ 0)) 12 (0 : UInt64) 1 (grl [0 + 1]) (decide (0 < ([0 + 1] : List UInt64).length)) X), some (wcs true (wn ([121], 0 + 1, 0, [0 + 1]) 0 0).1 (wn ([121], 0 + 1, 0, [0 + 1]) 0 0).2), some (cC (.ptr 3 0) 0), some (u8s (S0 B (0 : UInt64).toNat)), cb (decide ((0 : UInt64) ≠ 0)) 5, kb (decide ((0 : UInt64) ≠ 0)) (S1 B (0 : UInt64).toNat), none, none, none, none] [some (cC (.ptr 11 0) 0), some (u8s (S0 A (grl [0 + 1] / 64).toNat)), cb (decide ((grl [0 + 1] / 64) ≠ 0)) 13, kb (decide ((grl [0 + 1] / 64) ≠ 0)) (S1 A (grl [0 + 1] / 64).toNat), some (u8s [121])] g1 k_ (ha := (cac (et rfl) rfl (cac (et rfl) (sees_slc rfl rfl (cut_h hy)) ca0))) (e2 := (pl1 rfl (chC_map rfl rfl rfl rfl rfl) (pl1 rfl rfl (pl1 rfl rfl (pl1 rfl sees_m (plb rfl (cb_map rfl) (plb rfl kb_map (pl1 rfl rfl (pl1 rfl sees_m (plb rfl (cb_map rfl) (plb rfl kb_map pl0))))))))))) (eL := (ml1 (chC_map rfl rfl rfl rfl rfl) (ml1 rfl (ml1 rfl (ml1 sees_m (mlb (cb_map rfl) (mlb kb_map (mln (mln (mln (mln ml0))))))))))) (eM := (ml1 rfl (ml1 sees_m (mlb (cb_map rfl) (mlb kb_map (ml1 sees_m ml0)))))) (e3 := (vt3 rfl rfl rfl))) ?_
  refine G (q_mv (s := .t _) ?_)
  refine G (q_ext (y := .c _) ?_)
  refine G (q_ext (y := .c _) ?_)
  refine G (q_ext (y := .c _) ?_)
  refine As ?_
  refine As ?_
  refine As ?_
  refine gend ?_
  refine awp_seq ?_
  refine rln ?_
  refine Mv ?_
  refine Mv ?_
  refine G2 (fun _ k_ => q_callv [10, 11, 12, 13, 14, 15, 32, 33, 34, 35] [some (chC (0 : UInt64) (grl [0 + 1, 0] / 64) 2 (decide ((0 : UInt64) ≠ 0)) 4 10 (decide ((grl [0 + 1, 0] / 64) ≠ 0)) 12 (0 : UInt64) 1 (grl [0 + 1, 0]) (decide (0 < ([0 + 1, 0] : List UInt64).length)) X), some (wcs true (wn ([120], 0, 0, [0 + 1, 0]) (wn ([121], 0 + 1, 0, [0 + 1]) 0 0).1 (wn ([121], 0 + 1, 0, [0 + 1]) 0 0).2).1 (wn ([120], 0, 0, [0 + 1, 0]) (wn ([121], 0 + 1, 0, [0 + 1]) 0 0).1 (wn ([121], 0 + 1, 0, [0 + 1]) 0 0).2).2), some (cC (.ptr 3 0) 0), some (u8s (S0 B (0 : UInt64).toNat)), cb (decide ((0 : UInt64) ≠ 0)) 5, kb (decide ((0 : UInt64) ≠ 0)) (S1 B (0 : UInt64).toNat), none, none, none, none] [some (cC (.ptr 11 0) 0), some (u8s (S0 A (grl [0 + 1, 0] / 64).toNat)), cb (decide ((grl [0 + 1, 0] / 64) ≠ 0)) 13, kb (decide ((grl [0 + 1, 0] / 64) ≠ 0)) (S1 A (grl [0 + 1, 0] / 64).toNat), some (u8s [120])] g2 k_ (ha := (cac (et rfl) rfl (cac (et rfl) (sees_slc rfl rfl (cut_h hx)) ca0))) (e2 := (pl1 rfl (chC_map rfl rfl rfl rfl rfl) (pl1 rfl rfl (pl1 rfl rfl (pl1 rfl sees_m (plb rfl (cb_map rfl) (plb rfl kb_map (pl1 rfl rfl (pl1 rfl sees_m (plb rfl (cb_map rfl) (plb rfl kb_map pl0))))))))))) (eL := (ml1 (chC_map rfl rfl rfl rfl rfl) (ml1 rfl (ml1 rfl (ml1 sees_m (mlb (cb_map rfl) (mlb kb_map (mln (mln (mln (mln ml0))))))))))) (eM := (ml1 rfl (ml1 sees_m (mlb (cb_map rfl) (mlb kb_map (ml1 sees_m ml0)))))) (e3 := (vt3 rfl rfl rfl))) ?_
  refine G (q_mv (s := .t _) ?_)
  refine G (q_ext (y := .c _) ?_)
  refine G (q_ext (y := .c _) ?_)
  refine G (q_ext (y := .c _) ?_)
  refine As ?_
  refine As ?_
  refine As ?_
  refine gend ?_
  refine awp_seq ?_
  refine rln ?_
  refine Mv ?_
  refine Mv ?_
  refine G2 (fun _ k_ => q_callv [10, 11, 12, 13, 14, 15, 37, 38, 39, 40] [some (chC (0 : UInt64) (grl [0 + 1, 0] / 64) 2 (decide ((0 : UInt64) ≠ 0)) 4 10 (decide ((grl [0 + 1, 0] / 64) ≠ 0)) 12 (0 : UInt64) 1 (grl [0 + 1, 0]) (decide (0 < ([0 + 1, 0] : List UInt64).length)) X), some (wcs true (wn ([120], 0, 0, [0 + 1, 0]) (wn ([121], 0 + 1, 0, [0 + 1]) 0 0).1 (wn ([121], 0 + 1, 0, [0 + 1]) 0 0).2).1 (wn ([120], 0, 0, [0 + 1, 0]) (wn ([121], 0 + 1, 0, [0 + 1]) 0 0).1 (wn ([121], 0 + 1, 0, [0 + 1]) 0 0).2).2), some (cC (.ptr 3 0) 0), some (u8s (S0 B (0 : UInt64).toNat)), cb (decide ((0 : UInt64) ≠ 0)) 5, kb (decide ((0 : UInt64) ≠ 0)) (S1 B (0 : UInt64).toNat), none, none, none, none] [some (cC (.ptr 11 0) 0), some (u8s (S0 A (grl [0 + 1, 0] / 64).toNat)), cb (decide ((grl [0 + 1, 0] / 64) ≠ 0)) 13, kb (decide ((grl [0 + 1, 0] / 64) ≠ 0)) (S1 A (grl [0 + 1, 0] / 64).toNat), some (u8s ([] : List UInt8))] g3 k_ (ha := (cac (et rfl) rfl (cac (et rfl) (sees_slc rfl rfl (cut_h hx)) ca0))) (e2 := (pl1 rfl (chC_map rfl rfl rfl rfl rfl) (pl1 rfl rfl (pl1 rfl rfl (pl1 rfl sees_m (plb rfl (cb_map rfl) (plb rfl kb_map (pl1 rfl rfl (pl1 rfl sees_m (plb rfl (cb_map rfl) (plb rfl kb_map pl0))))))))))) (eL := (ml1 (chC_map rfl rfl rfl rfl rfl) (ml1 rfl (ml1 rfl (ml1 sees_m (mlb (cb_map rfl) (mlb kb_map (mln (mln (mln (mln ml0))))))))))) (eM := (ml1 rfl (ml1 sees_m (mlb (cb_map rfl) (mlb kb_map (ml1 sees_m ml0)))))) (e3 := (vt3 rfl rfl rfl))) ?_
  refine G (q_mv (s := .t _) ?_)
  refine G (q_ext (y := .c _) ?_)
  refine G (q_ext (y := .c _) ?_)
  refine G (q_ext (y := .c _) ?_)
  refine As ?_
  refine As ?_
  refine As ?_
  refine gend ?_
  refine awp_seq ?_
  refine rln ?_
  refine Mv ?_
  refine G (q_eqln (y := 0) ?_)
  refine Mv ?_
  refine Aknd 60 (fun hb3 => ?_) ?_; rotate_left
  · exact rfl
  refine Gg (q_mv (s := .v (.c _)) ?_)
  refine Gg (q_eqln (y := 0) ?_)
  refine G (q_pkt ?_)
  refine Mv ?_
  refine Aknd 64 (fun hb7 => ?_) ?_; rotate_left
  · exact rfl
  refine Gg (q_mv (s := .v (.c _)) ?_)
  refine Gg (q_eqln (y := 0) ?_)
  refine G (q_pkt ?_)
  refine Mv ?_
  refine Aknd 68 (fun hb11 => ?_) ?_; rotate_left
  · exact rfl
  refine Gg (q_mv (s := .v (.c _)) ?_)
  refine Gg (q_eqln (y := 0) ?_)
  refine G (q_pkt ?_)
  refine Mv ?_
  refine Aknd 72 (fun hb15 => ?_) ?_; rotate_left
  · exact rfl
  refine Gg (q_mv (s := .v (.c _)) ?_)
  refine Gg (q_eqln (y := 10) ?_)
  refine G (q_pkt ?_)
  refine Mv ?_
  refine Aknd 76 (fun hb19 => ?_) ?_; rotate_left
  · exact rfl
  refine Gg (q_mv (s := .v (.c _)) ?_)
  refine Gg (q_csl ?_)
  refine Gg (q_eqls ?_)
  refine G (q_pkt ?_)
  refine Mv ?_
  refine Aknd 81 (fun hb24 => ?_) ?_; rotate_left
  · exact rfl
  refine Gg (q_mv (s := .v (.c _)) ?_)
  refine Gg (q_csl ?_)
  refine Gg (q_eqls ?_)
  refine G (q_pkt ?_)
  refine Mv ?_
  refine Aknd 86 (fun hb29 => ?_) ?_; rotate_left
  · exact rfl
  refine Gg (q_mv (s := .v (.c _)) ?_)
  refine Gg (q_eql64 (y := 1) ?_)
  refine G (q_pkt ?_)
  refine Mv ?_
  refine Aknd 90 (fun hb33 => ?_) ?_; rotate_left
  · exact rfl
  refine Gg (q_mv (s := .v (.c _)) ?_)
  refine Gg (q_eql64 (y := 0) ?_)
  refine G (q_pkt ?_)
  refine As ?_
  refine gend ?_
  refine awp_ret ?_
  exact fp1
end Go.Proofs.Ytklcckngmmklhaa

/- What functions of the program do, walked over the abstract machine. -/
namespace Go.Proofs.Ytklcckngmmklhaa
open Go Go.Abs Go.Proofs Go.Proofs.Ytklcckngmmklhaa.Ch Go.Proofs.Ytklcckngmmklhaa.Po Go.Proofs.Ytklcckngmmklhaa.Ae Go.Proofs.Ytklcckngmmklhaa.Wd
set_option maxRecDepth 20000
structure A19 where
  kind : Int
  b : List UInt8
  n : UInt64
  at_ : Int
abbrev a19 : A19 := ⟨0, [], 0, 0⟩
def cA (x : A19) : List Cell := [ci x.kind, .ro x.b.length (u8s x.b), c64 x.n, ci x.at_]
theorem cA_len (x : A19) : (cA x).length = 4 := rfl
theorem cA_cm {f : Nat → Option Nat} {m : Nat → Option (List Cell)} {b : Bool} (x : A19) : (cA x).map (cm ⟨f, m, true, b⟩ 7) = cA x := by
  show [_, Cell.ro _ ((u8s x.b).map _), _, _] = _
  rw [mapc_cm]; rfl
structure P19 (n : Nat) where
  i : Nat
  es : UInt64
  sent : UInt64
  l : List UInt64
  wg : UInt64
  wb : UInt64
  hi : i ≤ n
  I : Inv l wg wb
  hM : ∀ x ∈ l, x.toNat ≤ 281474976710655
  hs : sent.toNat ≤ i
  he : es ≤ sent / 64
  hg : (grl l).toNat / 64 ≤ 16 * i
  hl : l.length ≤ i
theorem op19_next {r h : List UInt8} {l : List UInt64} {fr : List UInt8} : (grl (op19 r h l fr).2.2.2).toNat / 64 ≤ (grl l).toNat / 64 + 16 ∧ (op19 r h l fr).2.2.2.length ≤ l.length + 1 := by
  unfold op19
  split
  · exact ⟨Nat.le_add_right _ _, Nat.le_succ _⟩
  split
  · exact ⟨Nat.le_add_right _ _, Nat.le_succ _⟩
  split
  · exact ⟨Nat.le_add_right _ _, Nat.le_succ _⟩
  split
  · exact ⟨Nat.le_add_right _ _, Nat.le_succ _⟩
  split
  · exact ⟨Nat.le_add_right _ _, Nat.le_succ _⟩
  split
  · exact ⟨Nat.le_add_right _ _, Nat.le_succ _⟩
  rename_i h6
  split
  · exact ⟨Nat.le_add_right _ _, Nat.le_succ _⟩
  · refine ⟨?_, by simp⟩
    have hd := d64 (grl l)
    have hn := d64 (rg (fr.take 8))
    have hlt := (grl l).toNat_lt
    rw [UInt64.lt_iff_toNat_lt, UInt64.toNat_add, hd, hn, show (16 : UInt64).toNat = 16 from rfl, Nat.mod_eq_of_lt (by omega)] at h6
    show (grl (l ++ [_])).toNat / 64 ≤ _
    rw [grl_app]; unfold mx
    split
    · omega
    · omega
theorem rg_nat' : ∀ (l : List UInt8) (a : UInt64), (a.toNat + 1) * 256 ^ l.length ≤ 18446744073709551616 → (l.foldl (fun n c => n * 256 + c.toUInt64) a).toNat = l.foldl (fun n c => n * 256 + c.toNat) a.toNat
  | [], _, _ => rfl
  | c :: l, a, h => by
    have hc := c.toNat_lt
    rw [List.length_cons, Nat.pow_succ, Nat.mul_comm (256 ^ l.length) 256, ← Nat.mul_assoc] at h
    have hp : 1 ≤ 256 ^ l.length := Nat.pow_pos (by decide)
    have h1 : (a.toNat + 1) * 256 ≤ 18446744073709551616 := Nat.le_trans (Nat.le_mul_of_pos_right _ hp) h
    have e : (a * 256 + c.toUInt64).toNat = a.toNat * 256 + c.toNat := by
      rw [UInt64.toNat_add, UInt64.toNat_mul, UInt8.toNat_toUInt64, show (256 : UInt64).toNat = 256 from rfl]
      omega
    have h2 : ((a * 256 + c.toUInt64).toNat + 1) * 256 ^ l.length ≤ 18446744073709551616 := Nat.le_trans (Nat.mul_le_mul_right _ (by rw [e]; omega)) h
    rw [List.foldl_cons, List.foldl_cons, rg_nat' l _ h2, e]
theorem rg_nat (l : List UInt8) (h : l.length = 8) : (rg l).toNat = l.foldl (fun n c => n * 256 + c.toNat) 0 := by
  refine rg_nat' l 0 ?_
  rw [h]; decide
theorem spl_len {cs xs : List Cell} {q m n : Nat} (h1 : cs.length = n) (h2 : xs.length = m) (h : q + m ≤ n) : (splice cs q xs).length = n := by
  unfold splice
  simp only [List.length_append, List.length_take, List.length_drop, h1, h2]; omega
theorem op19_far {r h : List UInt8} {l : List UInt64} {fr : List UInt8} (h8 : 8 ≤ fr.length) (h0 : fr.getD 0 0 = 0) (h1 : fr.getD 1 0 = 0) (hx : fr.getD 2 0 ≠ 0 ∨ fr.getD 3 0 ≠ 0 ∨ fr.getD 4 0 ≠ 0 ∨ fr.getD 5 0 ≠ 0) (hg : (grl l).toNat / 64 ≤ 480) : (op19 r h l fr).2.2.1 ≠ 0 := by
  match fr, h8 with
  | b0 :: b1 :: b2 :: b3 :: b4 :: b5 :: b6 :: b7 :: t, _ =>
    have e : (b0 :: b1 :: b2 :: b3 :: b4 :: b5 :: b6 :: b7 :: t).take 8 = [b0, b1, b2, b3, b4, b5, b6, b7] := rfl
    have hn := rg_nat [b0, b1, b2, b3, b4, b5, b6, b7] rfl
    simp only [List.foldl_cons, List.foldl_nil] at hn
    have k2 : 0 < b2.toNat ∨ 0 < b3.toNat ∨ 0 < b4.toNat ∨ 0 < b5.toNat := by
      have nz : ∀ {b : UInt8}, b ≠ 0 → 0 < b.toNat := fun {b} hb => Nat.pos_of_ne_zero fun h => hb (UInt8.toNat_inj.1 h)
      rcases hx with h | h | h | h
      · exact .inl (nz h)
      · exact .inr (.inl (nz h))
      · exact .inr (.inr (.inl (nz h)))
      · exact .inr (.inr (.inr (nz h)))
    have hbig : 65536 ≤ (rg [b0, b1, b2, b3, b4, b5, b6, b7]).toNat := by rw [hn]; omega
    unfold op19
    rw [e]
    split
    · simp
    split
    · simp
    split
    · simp
    split
    · simp
    split
    · simp
    rw [if_pos]
    · simp
    · have hd := d64 (grl l)
      have hn2 := d64 (rg [b0, b1, b2, b3, b4, b5, b6, b7])
      rw [UInt64.lt_iff_toNat_lt, UInt64.toNat_add, hd, hn2, show (16 : UInt64).toNat = 16 from rfl, Nat.mod_eq_of_lt (by omega)]
      omega
theorem at_ok (a : Int) {n : Nat} (hn : 0 < n) : ∃ j : Nat, j < n ∧ ((a.tmod n) + n).tmod n = (j : Int) ∧ -(n : Int) < a.tmod n ∧ a.tmod n < (n : Int) := by
  have h1 : -(n : Int) < a.tmod n := by
    rcases Int.le_total 0 a with h | h
    · have := Int.tmod_nonneg (n : Int) h; omega
    · have h2 := Int.tmod_nonneg (n : Int) (show 0 ≤ -a by omega)
      have h3 := Int.tmod_lt_of_pos (-a) (show (0 : Int) < n by omega)
      rw [Int.neg_tmod] at h2 h3; omega
  have h2 : 0 ≤ a.tmod n + n := by omega
  have h3 : a.tmod n < (n : Int) := Int.tmod_lt_of_pos a (by omega)
  refine ⟨((a.tmod n + n).tmod n).toNat, ?_, ?_, h1, h3⟩
  · have := Int.tmod_lt_of_pos (a.tmod n + n) (show (0 : Int) < n by omega)
    have := Int.tmod_nonneg (n : Int) h2; omega
  · have := Int.tmod_nonneg (n : Int) h2; omega
theorem spl1 {a : List UInt8} (ha : a.length = 32) : (splice (u8s (List.replicate 96 0) ++ [c64 0, .nils]) 0 (u8s a)).length = 98 := spl_len rfl (u32l ha) (by decide)
theorem spl2 {a b : List UInt8} (ha : a.length = 32) (hb : b.length = 32) : (splice (splice (u8s (List.replicate 96 0) ++ [c64 0, .nils]) 0 (u8s a)) 32 (u8s b)).length = 98 := spl_len (spl1 ha) (u32l hb) (by decide)
theorem rH_new {s r h : List UInt8} (hs : s.length = 32) (hr : r.length = 32) (hh : h.length = 32) : splice (splice (splice (u8s (List.replicate 96 0) ++ [c64 0, .nils]) 0 (u8s s)) 32 (u8s r)) 64 (u8s h) = rH s r h 0 .nils := by
  have e1 : splice (u8s (List.replicate 96 0) ++ [c64 0, .nils]) 0 (u8s s) = u8s s ++ (u8s (List.replicate 64 0) ++ [c64 0, .nils]) := by
    unfold splice
    rw [List.take_zero, List.nil_append, u32l hs]; rfl
  have e2 : splice (u8s s ++ (u8s (List.replicate 64 0) ++ [c64 0, .nils])) 32 (u8s r) = u8s s ++ (u8s r ++ (u8s (List.replicate 32 0) ++ [c64 0, .nils])) := by
    unfold splice
    rw [List.take_append_of_le_length (by rw [u32l hs]; exact Nat.le_refl _), List.take_of_length_le (by rw [u32l hs]; exact Nat.le_refl _), u32l hr, List.drop_append, List.drop_of_length_le (by rw [u32l hs]; decide), u32l hs]; rfl
  have h2 : (u8s s ++ u8s r).length = 64 := by rw [List.length_append, u32l hs, u32l hr]
  rw [e1, e2, ← List.append_assoc]
  unfold splice
  rw [List.take_append_of_le_length (by rw [h2]; exact Nat.le_refl _), List.take_of_length_le (by rw [h2]; exact Nat.le_refl _), u32l hh, List.drop_append, List.drop_of_length_le (by rw [h2]; decide), h2, List.append_assoc]
  show u8s s ++ (u8s r ++ (u8s h ++ [c64 0, .nils])) = ((u8s s ++ u8s r) ++ u8s h) ++ [c64 0, .nils]
  rw [List.append_assoc, List.append_assoc]
theorem rH_e2 {s r h : List UInt8} {n : UInt64} {x : Cell} {q sz : Nat} : (rH s r h n x).map (e2 q sz) = rH s r h n (e2 q sz x) := by
  have he : ∀ l : List UInt8, (u8s l).map (e2 q sz) = u8s l := fun l => by simp only [mapc, List.map_map]; rfl
  rw [List.map_append, List.map_append, List.map_append, he, he, he]; rfl
theorem set_len {l : List UInt8} {n i : Nat} {c : UInt8} (h : l.length = n) : (l.set i c).length = n := by rw [List.length_set, h]
end Go.Proofs.Ytklcckngmmklhaa


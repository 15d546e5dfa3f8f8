/- Texts that the proof stands on, put together: the abstract machine, and what functions do over it. -/
import Derived.Test.YtklcckngmmklhaaOutEpochse
/- What functions of the program do, walked over the abstract machine. -/
namespace Go.Proofs.Ytklcckngmmklhaa
open Go Go.Abs Go.Proofs Go.Proofs.Ytklcckngmmklhaa.Ch Go.Proofs.Ytklcckngmmklhaa.Po Go.Proofs.Ytklcckngmmklhaa.Ae Go.Proofs.Ytklcckngmmklhaa.Wd

set_option maxRecDepth 20000
set_option maxHeartbeats 1600000 in
/-- (*channel.Channel).Open -/
theorem chopen_n0_bad (k r hash : List UInt8) (es er sent g : UInt64) (any : Bool) (wg wb : UInt64) (hk : k.length = 32) (hr : r.length = 32) (hh : hash.length = 32) (fr : List UInt8) (f : Nat) (N : UInt64) (hf : fr.length = f) (h24 : 24 ≤ f) (hL : f ≤ 4120) (hN : gt (fr.take 8) = N) (hn : ¬ 281474976710655 < N) (hw : wchk true wg wb N = 0) (hq : ¬ er + 16 < N / 64) (hle : N / 64 ≤ er) (he : (N / 64).toNat % 2 = 0) (hK : (S0 r er.toNat) = kE r (N / 64).toNat) (hop : aopen (kE r (N / 64).toNat) (anonce N) hash (fr.drop 8) = none) : Good Try.prog 11 [.c (.ptr 0 0), .c (.ro f (u8s fr))] [some (chC es er 2 (decide (es ≠ 0)) 4 6 (decide (er ≠ 0)) 8 sent 1 g any hash), some (wcs true wg wb), some (cC (.ptr 3 0) 0), some (u8s (S0 k es.toNat)), cb (decide (es ≠ 0)) 5, kb (decide (es ≠ 0)) (S1 k es.toNat), some (cC (.ptr 7 0) 0), some (u8s (S0 r er.toNat)), cb (decide (er ≠ 0)) 9, kb (decide (er ≠ 0)) (S1 r er.toNat)] (.t [.c .nils, .c (c64 0), .c (cn 8)]) [some (chC es er 2 (decide (es ≠ 0)) 4 6 (decide (er ≠ 0)) 8 sent 1 g any hash), some (wcs true wg wb), some (cC (.ptr 3 0) 0), some (u8s (S0 k es.toNat)), cb (decide (es ≠ 0)) 5, kb (decide (es ≠ 0)) (S1 k es.toNat), some (cC (.ptr 7 0) 0), some (u8s (S0 r er.toNat)), cb (decide (er ≠ 0)) 9, kb (decide (er ≠ 0)) (S1 r er.toNat)] := by
  have gg := get 8 (fr.take 8) (by rw [List.length_take]; omega) (by decide) (by decide)
  rw [hN] at gg
  have gc := check true wg wb N
  rw [hw] at gc
  have hdl : (fr.drop 8).length = f - 8 := by rw [List.length_drop, hf]
  have go := of_r0 es er sent g (decide (es ≠ 0)) (decide (er ≠ 0)) any hash (S0 k es.toNat) (S1 k es.toNat) (S0 r er.toNat) (S1 r er.toNat) wg wb (N / 64) hle ((mod2_nat _).trans he)
  rw [← hK] at hop
  have hA : (S0 r er.toNat).length = 32 := S0_len hr _
  have gs := copen_bad (S0 r er.toNat) hash (fr.drop 8) N 32 (f - 8) hA hh (by decide) hdl (by omega) (fun h => hn (by rw [h]; decide)) hop
  refine good_frm 100 Try.func11 rfl rfl rfl rfl rfl rfl ?_
  refine awp_seq ?_
  refine rln ?_
  refine As ?_
  refine G (q_as (s := sc (c64 0)) ?_)
  refine G (q_as (s := sc (cn 0)) ?_)
  refine gend ?_
  refine awp_seq ?_
  refine awp_block ?_
  refine awp_seq ?_
  refine rln ?_
  refine Mv ?_
  refine G2 (fun _ k_ => q_callp (cthere _ _ _ _ _ _ _ _ _ _ _) k_ (ha := (cac (et rfl) (sees_ch rfl rfl rfl rfl) ca0))) ?_
  refine G (q_notb ?_)
  refine As ?_
  refine gend ?_
  refine cndbnN (fun hc1 => ?_) ?_; rotate_left
  · exact rfl
  refine awp_seq ?_
  refine rln ?_
  refine Mv ?_
  refine G (q_leno ?_)
  refine G (q_gtrn (y := 4120) ?_)
  refine As ?_
  refine gend ?_
  refine cndN (fun hc2 => ?_) ?_; rotate_left
  · omega
  refine awp_seq ?_
  refine rln ?_
  refine Mv ?_
  refine G (q_leno ?_)
  refine G (q_lssn (y := 24) ?_)
  refine As ?_
  refine gend ?_
  refine cndN (fun hc3 => ?_) ?_; rotate_left
  · omega
  refine awp_skip ?_
  refine awp_seq ?_
  refine rln ?_
  refine Mv ?_
  refine G (q_slo_hi (k := 8) ?_ (hc := cut_hi hf))
  refine G2 (fun _ k_ => q_callp gg k_ (ha := (cac (et rfl) sees_ro ca0))) ?_
  refine G (q_mv (s := .t _) ?_)
  refine G (q_ext (y := .c _) ?_)
  refine G (q_ext (y := .c _) ?_)
  refine As ?_
  refine As ?_
  refine gend ?_
  refine awp_seq ?_
  refine awp_seq ?_
  refine rln ?_
  refine Mv ?_
  refine G (q_gtr64 (y := 281474976710655) ?_)
  refine gend ?_
  refine cndN (fun hc4 => ?_) ?_; rotate_left
  · exact hn
  refine awp_skip ?_
  refine awp_seq ?_
  refine awp_seq ?_
  refine rln ?_
  refine Mv ?_
  refine G (q_ncp ?_)
  refine G (q_fap ?_)
  refine G (q_ldp ?_)
  refine Mv ?_
  refine G2 (fun _ k_ => q_callp gc k_ (ha := (cac (et rfl) (sees_ptr rfl rfl rfl rfl) (cac (et rfl) cm_int ca0)))) ?_
  refine As ?_
  refine gend ?_
  refine awp_seq ?_
  refine rln ?_
  refine Mv ?_
  refine G (q_neqn (y := 0) ?_)
  refine gend ?_
  refine cndN (fun hc5 => ?_) ?_; rotate_left
  · exact fun h => h rfl
  refine awp_skip ?_
  refine awp_seq ?_
  refine rln ?_
  refine Mv ?_
  refine G (q_quo64 (y := 64) ?_ (hz := by decide))
  refine As ?_
  refine gend ?_
  refine awp_seq ?_
  refine awp_seq ?_
  refine rln ?_
  refine Mv ?_
  refine Mv ?_
  refine G (q_ncp ?_)
  refine G (q_fap ?_)
  refine G (q_fap ?_)
  refine G (q_ldp ?_)
  refine G (q_add64 (y := 16) ?_)
  refine G (q_gtr64 ?_)
  refine gend ?_
  refine cndN (fun hc6 => ?_) ?_; rotate_left
  · exact hq
  refine awp_skip ?_
  refine awp_seq ?_
  refine rln ?_
  refine Mv ?_
  refine G (q_ncp ?_)
  refine G (q_fap ?_)
  refine Mv ?_
  refine G2 (fun _ k_ => q_callv [0, 1, 2, 3, 4, 5, 6, 7, 8, 9] [some (chC es er 2 (decide (es ≠ 0)) 4 6 (decide (er ≠ 0)) 8 sent 1 g any hash), some (wcs true wg wb), some (cC (.ptr 3 0) 0), some (u8s (S0 k es.toNat)), cb (decide (es ≠ 0)) 5, kb (decide (es ≠ 0)) (S1 k es.toNat), some (cC (.ptr 7 0) 0), some (u8s (S0 r er.toNat)), cb (decide (er ≠ 0)) 9, kb (decide (er ≠ 0)) (S1 r er.toNat)] [some (cC (.ptr 7 0) 0)] go k_ (ha := (cac (et rfl) rfl (cac (et rfl) cm_int ca0))) (e2 := (pl1 rfl (chC_map rfl rfl rfl rfl rfl) (pl1 rfl rfl (pl1 rfl rfl (pl1 rfl sees_m (plb rfl (cb_map rfl) (plb rfl kb_map (pl1 rfl rfl (pl1 rfl sees_m (plb rfl (cb_map rfl) (plb rfl kb_map pl0))))))))))) (eL := (ml1 (chC_map rfl rfl rfl rfl rfl) (ml1 rfl (ml1 rfl (ml1 sees_m (mlb (cb_map rfl) (mlb kb_map (ml1 rfl (ml1 sees_m (mlb (cb_map rfl) (mlb kb_map ml0))))))))))) (eM := (ml1 rfl ml0))) ?_
  refine As ?_
  refine gend ?_
  refine awp_seq ?_
  refine rln ?_
  refine Mv ?_
  refine Mv ?_
  refine G2 (fun _ k_ => q_callv [10, 7] [some (cC (.ptr 1 0) N), some (u8s (S0 r er.toNat))] [] (setn_k (S0 r er.toNat) 0 N) k_ (ha := (cac (et rfl) rfl (cac (et rfl) cm_int ca0))) (e2 := (pl1 rfl rfl (pl1 rfl sees_m pl0))) (eL := (ml1 rfl (ml1 sees_m ml0))) (eM := ml0)) ?_
  refine gend ?_
  refine awp_seq ?_
  refine rdln [7] [0, 0, 0, 0, 0, 0, 0, 0, 1, 1, 1, 1, 1] [0, 0, 0, 0, 0, 0, 0, 1, 1, 1, 1, 1, 1] ?_
  refine Dp (fun _ => q_mv (s := .v (.c _)) ⟨rfl, rfl⟩) ?_
  refine Dp (fun _ => q_mv (s := .v (.c _)) ⟨rfl, rfl⟩) ?_
  refine Dp (fun _ => q_ncp ⟨rfl, rfl⟩) ?_
  refine Dp (fun _ => q_fap ⟨rfl, rfl⟩) ?_
  refine DSp 0 rfl (fun _ hv => q_slp_no ⟨rfl, rfl⟩ (hp := hv) (hl := ch_len hh)) ?_
  refine Dp (fun _ => q_mv (s := .v (.c _)) ⟨rfl, rfl⟩) ?_
  refine Dp (fun _ => q_slo_lo (j := 8) ⟨rfl, rfl⟩ (hc := cut_drop hf)) ?_
  refine De2 (fun _ k_ => q_callv [10, 7] [some (cC (.ptr 1 0) N), some (u8s (S0 r er.toNat))] [] gs k_ (ha := (cac (et rfl) rfl (cac (et rfl) (sees_slc rfl rfl (ch_hash hh)) (cac (et rfl) sees_ro ca0)))) (e2 := (pl1 rfl rfl (pl1 rfl sees_m pl0))) (eL := (ml1 rfl (ml1 sees_m ml0))) (eM := ml0)) ?_
  refine Dp (fun _ => q_mv (s := .t _) ⟨rfl, rfl⟩) ?_
  refine Dp (fun _ => q_ext (y := .c _) ⟨rfl, rfl⟩) ?_
  refine Dp (fun _ => q_ext (y := .c _) ⟨rfl, rfl⟩) ?_
  refine Dp (fun _ => q_as (s := .v (.c _)) ⟨rfl, rfl⟩) ?_
  refine Dp (fun _ => q_as (s := .v (.c _)) ⟨rfl, rfl⟩) ?_
  refine dend ?_
  refine awp_seq ?_
  refine awp_seq ?_
  refine rln ?_
  refine Mv ?_
  refine G (q_neqn (y := 0) ?_)
  refine gend ?_
  refine cndY (fun hc7 => ?_) ?_; rotate_left
  · exact (by decide : (8 : Nat) ≠ 0)
  refine awp_seq ?_
  refine rln ?_
  refine Mv ?_
  refine As ?_
  refine G (q_as (s := sc (c64 0)) ?_)
  refine As ?_
  refine gend ?_
  refine awp_ret ?_
  exact fx3 [0, 1, 2, 3, 4, 5, 6, 7, 8, 9] (hm0 := rfl) (hH := (pl1 rfl (chC_map rfl rfl rfl rfl rfl) (pl1 rfl rfl (pl1 rfl rfl (pl1 rfl sees_m (plb rfl (cb_map rfl) (plb rfl kb_map (pl1 rfl rfl (pl1 rfl sees_m (plb rfl (cb_map rfl) (plb rfl kb_map pl0))))))))))) (hn := piB rfl)
set_option maxHeartbeats 1600000 in
/-- (*channel.Channel).Open -/
theorem chopen_n0_ok (k r hash : List UInt8) (es er sent g : UInt64) (any : Bool) (wg wb : UInt64) (hk : k.length = 32) (hr : r.length = 32) (hh : hash.length = 32) (fr : List UInt8) (f : Nat) (N : UInt64) (hf : fr.length = f) (h24 : 24 ≤ f) (hL : f ≤ 4120) (hN : gt (fr.take 8) = N) (hn : ¬ 281474976710655 < N) (hw : wchk true wg wb N = 0) (hq : ¬ er + 16 < N / 64) (hle : N / 64 ≤ er) (he : (N / 64).toNat % 2 = 0) (hK : (S0 r er.toNat) = kE r (N / 64).toNat) (p : List UInt8) (hop : aopen (kE r (N / 64).toNat) (anonce N) hash (fr.drop 8) = some p) : Good Try.prog 11 [.c (.ptr 0 0), .c (.ro f (u8s fr))] [some (chC es er 2 (decide (es ≠ 0)) 4 6 (decide (er ≠ 0)) 8 sent 1 g any hash), some (wcs true wg wb), some (cC (.ptr 3 0) 0), some (u8s (S0 k es.toNat)), cb (decide (es ≠ 0)) 5, kb (decide (es ≠ 0)) (S1 k es.toNat), some (cC (.ptr 7 0) 0), some (u8s (S0 r er.toNat)), cb (decide (er ≠ 0)) 9, kb (decide (er ≠ 0)) (S1 r er.toNat)] (.t [.c (.slc 10 0 p.length 1), .c (c64 N), .c (cn 0)]) [some (chC es er 2 (decide (es ≠ 0)) 4 6 (decide (er ≠ 0)) 8 sent 1 (mx g N) true hash), some (wcs true (wnext true wg wb N).1 (wnext true wg wb N).2), some (cC (.ptr 3 0) 0), some (u8s (S0 k es.toNat)), cb (decide (es ≠ 0)) 5, kb (decide (es ≠ 0)) (S1 k es.toNat), some (cC (.ptr 7 0) 0), some (u8s (S0 r er.toNat)), cb (decide (er ≠ 0)) 9, kb (decide (er ≠ 0)) (S1 r er.toNat), some (u8s p)] := by
  have gg := get 8 (fr.take 8) (by rw [List.length_take]; omega) (by decide) (by decide)
  rw [hN] at gg
  have gc := check true wg wb N
  rw [hw] at gc
  have hdl : (fr.drop 8).length = f - 8 := by rw [List.length_drop, hf]
  have go := of_r0 es er sent g (decide (es ≠ 0)) (decide (er ≠ 0)) any hash (S0 k es.toNat) (S1 k es.toNat) (S0 r er.toNat) (S1 r er.toNat) wg wb (N / 64) hle ((mod2_nat _).trans he)
  rw [← hK] at hop
  have hA : (S0 r er.toNat).length = 32 := S0_len hr _
  have gs := copen_ok (S0 r er.toNat) hash (fr.drop 8) N 32 (f - 8) hA hh (by decide) hdl (by omega) (fun h => hn (by rw [h]; decide)) p hop
  have hpl := aopen_len hop
  have gm := move_nr es er sent g (decide (es ≠ 0)) (decide (er ≠ 0)) any hash (S0 k es.toNat) (S1 k es.toNat) (S0 r er.toNat) (S1 r er.toNat) (wnext true wg wb N).1 (wnext true wg wb N).2 (N / 64) (by rw [UInt64.lt_iff_toNat_lt]; have h := hle; rw [UInt64.le_iff_toNat_le] at h; omega)
  obtain ⟨ww, hww⟩ : ∃ z, wnext true wg wb N = z := ⟨_, rfl⟩
  have gt_ := take true wg wb N
  rw [hww] at gt_ gm ⊢
  refine good_frm 100 Try.func11 rfl rfl rfl rfl rfl rfl ?_
  refine awp_seq ?_
  refine rln ?_
  refine As ?_
  refine G (q_as (s := sc (c64 0)) ?_)
  refine G (q_as (s := sc (cn 0)) ?_)
  refine gend ?_
  refine awp_seq ?_
  refine awp_block ?_
  refine awp_seq ?_
  refine rln ?_
  refine Mv ?_
  refine G2 (fun _ k_ => q_callp (cthere _ _ _ _ _ _ _ _ _ _ _) k_ (ha := (cac (et rfl) (sees_ch rfl rfl rfl rfl) ca0))) ?_
  refine G (q_notb ?_)
  refine As ?_
  refine gend ?_
  refine cndbnN (fun hc1 => ?_) ?_; rotate_left
  · exact rfl
  refine awp_seq ?_
  refine rln ?_
  refine Mv ?_
  refine G (q_leno ?_)
  refine G (q_gtrn (y := 4120) ?_)
  refine As ?_
  refine gend ?_
  refine cndN (fun hc2 => ?_) ?_; rotate_left
  · omega
  refine awp_seq ?_
  refine rln ?_
  refine Mv ?_
  refine G (q_leno ?_)
  refine G (q_lssn (y := 24) ?_)
  refine As ?_
  refine gend ?_
  refine cndN (fun hc3 => ?_) ?_; rotate_left
  · omega
  refine awp_skip ?_
  refine awp_seq ?_
  refine rln ?_
  refine Mv ?_
  refine G (q_slo_hi (k := 8) ?_ (hc := cut_hi hf))
  refine G2 (fun _ k_ => q_callp gg k_ (ha := (cac (et rfl) sees_ro ca0))) ?_
  refine G (q_mv (s := .t _) ?_)
  refine G (q_ext (y := .c _) ?_)
  refine G (q_ext (y := .c _) ?_)
  refine As ?_
  refine As ?_
  refine gend ?_
  refine awp_seq ?_
  refine awp_seq ?_
  refine rln ?_
  refine Mv ?_
  refine G (q_gtr64 (y := 281474976710655) ?_)
  refine gend ?_
  refine cndN (fun hc4 => ?_) ?_; rotate_left
  · exact hn
  refine awp_skip ?_
  refine awp_seq ?_
  refine awp_seq ?_
  refine rln ?_
  refine Mv ?_
  refine G (q_ncp ?_)
  refine G (q_fap ?_)
  refine G (q_ldp ?_)
  refine Mv ?_
  refine G2 (fun _ k_ => q_callp gc k_ (ha := (cac (et rfl) (sees_ptr rfl rfl rfl rfl) (cac (et rfl) cm_int ca0)))) ?_
  refine As ?_
  refine gend ?_
  refine awp_seq ?_
  refine rln ?_
  refine Mv ?_
  refine G (q_neqn (y := 0) ?_)
  refine gend ?_
  refine cndN (fun hc5 => ?_) ?_; rotate_left
  · exact fun h => h rfl
  refine awp_skip ?_
  refine awp_seq ?_
  refine rln ?_
  refine Mv ?_
  refine G (q_quo64 (y := 64) ?_ (hz := by decide))
  refine As ?_
  refine gend ?_
  refine awp_seq ?_
  refine awp_seq ?_
  refine rln ?_
  refine Mv ?_
  refine Mv ?_
  refine G (q_ncp ?_)
  refine G (q_fap ?_)
  refine G (q_fap ?_)
  refine G (q_ldp ?_)
  refine G (q_add64 (y := 16) ?_)
  refine G (q_gtr64 ?_)
  refine gend ?_
  refine cndN (fun hc6 => ?_) ?_; rotate_left
  · exact hq
  refine awp_skip ?_
  refine awp_seq ?_
  refine rln ?_
  refine Mv ?_
  refine G (q_ncp ?_)
  refine G (q_fap ?_)
  refine Mv ?_
  refine G2 (fun _ k_ => q_callv [0, 1, 2, 3, 4, 5, 6, 7, 8, 9] [some (chC es er 2 (decide (es ≠ 0)) 4 6 (decide (er ≠ 0)) 8 sent 1 g any hash), some (wcs true wg wb), some (cC (.ptr 3 0) 0), some (u8s (S0 k es.toNat)), cb (decide (es ≠ 0)) 5, kb (decide (es ≠ 0)) (S1 k es.toNat), some (cC (.ptr 7 0) 0), some (u8s (S0 r er.toNat)), cb (decide (er ≠ 0)) 9, kb (decide (er ≠ 0)) (S1 r er.toNat)] [some (cC (.ptr 7 0) 0)] go k_ (ha := (cac (et rfl) rfl (cac (et rfl) cm_int ca0))) (e2 := (pl1 rfl (chC_map rfl rfl rfl rfl rfl) (pl1 rfl rfl (pl1 rfl rfl (pl1 rfl sees_m (plb rfl (cb_map rfl) (plb rfl kb_map (pl1 rfl rfl (pl1 rfl sees_m (plb rfl (cb_map rfl) (plb rfl kb_map pl0))))))))))) (eL := (ml1 (chC_map rfl rfl rfl rfl rfl) (ml1 rfl (ml1 rfl (ml1 sees_m (mlb (cb_map rfl) (mlb kb_map (ml1 rfl (ml1 sees_m (mlb (cb_map rfl) (mlb kb_map ml0))))))))))) (eM := (ml1 rfl ml0))) ?_
  refine As ?_
  refine gend ?_
  refine awp_seq ?_
  refine rln ?_
  refine Mv ?_
  refine Mv ?_
  refine G2 (fun _ k_ => q_callv [10, 7] [some (cC (.ptr 1 0) N), some (u8s (S0 r er.toNat))] [] (setn_k (S0 r er.toNat) 0 N) k_ (ha := (cac (et rfl) rfl (cac (et rfl) cm_int ca0))) (e2 := (pl1 rfl rfl (pl1 rfl sees_m pl0))) (eL := (ml1 rfl (ml1 sees_m ml0))) (eM := ml0)) ?_
  refine gend ?_
  refine awp_seq ?_
  refine rdln [7] [0, 0, 0, 0, 0, 0, 0, 0, 1, 1, 1, 1, 1] [0, 0, 0, 0, 0, 0, 0, 1, 1, 1, 1, 1, 1] ?_
  refine Dp (fun _ => q_mv (s := .v (.c _)) ⟨rfl, rfl⟩) ?_
  refine Dp (fun _ => q_mv (s := .v (.c _)) ⟨rfl, rfl⟩) ?_
  refine Dp (fun _ => q_ncp ⟨rfl, rfl⟩) ?_
  refine Dp (fun _ => q_fap ⟨rfl, rfl⟩) ?_
  refine DSp 0 rfl (fun _ hv => q_slp_no ⟨rfl, rfl⟩ (hp := hv) (hl := ch_len hh)) ?_
  refine Dp (fun _ => q_mv (s := .v (.c _)) ⟨rfl, rfl⟩) ?_
  refine Dp (fun _ => q_slo_lo (j := 8) ⟨rfl, rfl⟩ (hc := cut_drop hf)) ?_
  refine De2 (fun _ k_ => q_callv [10, 7] [some (cC (.ptr 1 0) (N + 1)), some (u8s (S0 r er.toNat))] [some (u8s p)] gs k_ (ha := (cac (et rfl) rfl (cac (et rfl) (sees_slc rfl rfl (ch_hash hh)) (cac (et rfl) sees_ro ca0)))) (e2 := (pl1 rfl rfl (pl1 rfl sees_m pl0))) (eL := (ml1 rfl (ml1 sees_m ml0))) (eM := (ml1 sees_m ml0))) ?_
  refine Dp (fun _ => q_mv (s := .t _) ⟨rfl, rfl⟩) ?_
  refine Dp (fun _ => q_ext (y := .c _) ⟨rfl, rfl⟩) ?_
  refine Dp (fun _ => q_ext (y := .c _) ⟨rfl, rfl⟩) ?_
  refine Dp (fun _ => q_as (s := .v (.c _)) ⟨rfl, rfl⟩) ?_
  refine Dp (fun _ => q_as (s := .v (.c _)) ⟨rfl, rfl⟩) ?_
  refine dend ?_
  refine awp_seq ?_
  refine awp_seq ?_
  refine rln ?_
  refine Mv ?_
  refine G (q_neqn (y := 0) ?_)
  refine gend ?_
  refine cndN (fun hc7 => ?_) ?_; rotate_left
  · exact fun h => h rfl
  refine awp_skip ?_
  refine awp_seq ?_
  refine rln ?_
  refine Mv ?_
  refine G (q_ncp ?_)
  refine G (q_fap ?_)
  refine G (q_ldp ?_)
  refine Mv ?_
  refine G2 (fun _ k_ => q_callw 1 gt_ k_ (ha := (cac (et rfl) rfl (cac (et rfl) cm_int ca0)))) ?_
  refine gend ?_
  refine awp_seq ?_
  refine rln ?_
  refine Mv ?_
  refine G (q_ncp ?_)
  refine G (q_fap ?_)
  refine Mv ?_
  refine G2 (fun _ k_ => q_callv [0, 1, 2, 3, 4, 5, 6, 7, 8, 9] [some (chC es er 2 (decide (es ≠ 0)) 4 6 (decide (er ≠ 0)) 8 sent 1 g any hash), some (wcs true ww.1 ww.2), some (cC (.ptr 3 0) 0), some (u8s (S0 k es.toNat)), cb (decide (es ≠ 0)) 5, kb (decide (es ≠ 0)) (S1 k es.toNat), some (cC (.ptr 7 0) 0), some (u8s (S0 r er.toNat)), cb (decide (er ≠ 0)) 9, kb (decide (er ≠ 0)) (S1 r er.toNat)] [] gm k_ (ha := (cac (et rfl) rfl (cac (et rfl) cm_int ca0))) (e2 := (pl1 rfl (chC_map rfl rfl rfl rfl rfl) (pl1 rfl rfl (pl1 rfl rfl (pl1 rfl sees_m (plb rfl (cb_map rfl) (plb rfl kb_map (pl1 rfl rfl (pl1 rfl sees_m (plb rfl (cb_map rfl) (plb rfl kb_map pl0))))))))))) (eL := (ml1 (chC_map rfl rfl rfl rfl rfl) (ml1 rfl (ml1 rfl (ml1 sees_m (mlb (cb_map rfl) (mlb kb_map (ml1 rfl (ml1 sees_m (mlb (cb_map rfl) (mlb kb_map ml0))))))))))) (eM := ml0)) ?_
  refine gend ?_
  refine awp_seq ?_
  refine rln ?_
  refine Mv ?_
  refine Mv ?_
  refine Mv ?_
  refine G (q_ncp ?_)
  refine G (q_fap ?_)
  refine G (q_ldp ?_)
  refine Mv ?_
  refine G (q_max64 ?_)
  refine G (q_ncp ?_)
  refine G (q_fap ?_)
  refine G20 (fun _ k_ => q_st k_) ?_
  refine G (q_ncp ?_)
  refine G (q_fap ?_)
  refine G20 (fun _ k_ => q_st (c := .bool true) k_) ?_
  refine gend ?_
  refine awp_seq ?_
  refine rln ?_
  refine Mv ?_
  refine Mv ?_
  refine As ?_
  refine As ?_
  refine G (q_as (s := sc (cn 0)) ?_)
  refine gend ?_
  refine awp_ret ?_
  rw [show p.length = f - 8 - 16 by omega]; exact fx3 [0, 1, 2, 3, 4, 5, 6, 7, 8, 9, 11] (hm0 := rfl) (hH := (pl1 rfl (chC_map rfl rfl rfl rfl rfl) (pl1 rfl rfl (pl1 rfl rfl (pl1 rfl sees_m (plb rfl (cb_map rfl) (plb rfl kb_map (pl1 rfl rfl (pl1 rfl sees_m (plb rfl (cb_map rfl) (plb rfl kb_map (pl1 rfl sees_m pl0)))))))))))) (hn := piB rfl)
set_option maxHeartbeats 1600000 in
/-- (*channel.Channel).Open -/
theorem chopen_n1_bad (k r hash : List UInt8) (es er sent g : UInt64) (any : Bool) (wg wb : UInt64) (hk : k.length = 32) (hr : r.length = 32) (hh : hash.length = 32) (fr : List UInt8) (f : Nat) (N : UInt64) (hf : fr.length = f) (h24 : 24 ≤ f) (hL : f ≤ 4120) (hN : gt (fr.take 8) = N) (hn : ¬ 281474976710655 < N) (hw : wchk true wg wb N = 0) (hq : ¬ er + 16 < N / 64) (hle : N / 64 ≤ er) (he : (N / 64).toNat % 2 = 1) (hone : (decide (er ≠ 0)) = true) (hK : (S1 r er.toNat) = kE r (N / 64).toNat) (hop : aopen (kE r (N / 64).toNat) (anonce N) hash (fr.drop 8) = none) : Good Try.prog 11 [.c (.ptr 0 0), .c (.ro f (u8s fr))] [some (chC es er 2 (decide (es ≠ 0)) 4 6 (decide (er ≠ 0)) 8 sent 1 g any hash), some (wcs true wg wb), some (cC (.ptr 3 0) 0), some (u8s (S0 k es.toNat)), cb (decide (es ≠ 0)) 5, kb (decide (es ≠ 0)) (S1 k es.toNat), some (cC (.ptr 7 0) 0), some (u8s (S0 r er.toNat)), cb (decide (er ≠ 0)) 9, kb (decide (er ≠ 0)) (S1 r er.toNat)] (.t [.c .nils, .c (c64 0), .c (cn 8)]) [some (chC es er 2 (decide (es ≠ 0)) 4 6 (decide (er ≠ 0)) 8 sent 1 g any hash), some (wcs true wg wb), some (cC (.ptr 3 0) 0), some (u8s (S0 k es.toNat)), cb (decide (es ≠ 0)) 5, kb (decide (es ≠ 0)) (S1 k es.toNat), some (cC (.ptr 7 0) 0), some (u8s (S0 r er.toNat)), cb (decide (er ≠ 0)) 9, kb (decide (er ≠ 0)) (S1 r er.toNat)] := by
  have gg := get 8 (fr.take 8) (by rw [List.length_take]; omega) (by decide) (by decide)
  rw [hN] at gg
  have gc := check true wg wb N
  rw [hw] at gc
  have hdl : (fr.drop 8).length = f - 8 := by rw [List.length_drop, hf]
  have go := of_r1 es er sent g (decide (es ≠ 0)) any hash (S0 k es.toNat) (S1 k es.toNat) (S0 r er.toNat) (S1 r er.toNat) wg wb (N / 64) hle ((mod2_nat _).trans he)
  rw [← hK] at hop
  rw [hone]
  have hA : (S1 r er.toNat).length = 32 := S1_len hr _
  have gs := copen_bad (S1 r er.toNat) hash (fr.drop 8) N 32 (f - 8) hA hh (by decide) hdl (by omega) (fun h => hn (by rw [h]; decide)) hop
  refine good_frm 100 Try.func11 rfl rfl rfl rfl rfl rfl ?_
  refine awp_seq ?_
  refine rln ?_
  refine As ?_
  refine G (q_as (s := sc (c64 0)) ?_)
  refine G (q_as (s := sc (cn 0)) ?_)
  refine gend ?_
  refine awp_seq ?_
  refine awp_block ?_
  refine awp_seq ?_
  refine rln ?_
  refine Mv ?_
  refine G2 (fun _ k_ => q_callp (cthere _ _ _ _ _ _ _ _ _ _ _) k_ (ha := (cac (et rfl) (sees_ch rfl rfl rfl rfl) ca0))) ?_
  refine G (q_notb ?_)
  refine As ?_
  refine gend ?_
  refine cndbnN (fun hc1 => ?_) ?_; rotate_left
  · exact rfl
  refine awp_seq ?_
  refine rln ?_
  refine Mv ?_
  refine G (q_leno ?_)
  refine G (q_gtrn (y := 4120) ?_)
  refine As ?_
  refine gend ?_
  refine cndN (fun hc2 => ?_) ?_; rotate_left
  · omega
  refine awp_seq ?_
  refine rln ?_
  refine Mv ?_
  refine G (q_leno ?_)
  refine G (q_lssn (y := 24) ?_)
  refine As ?_
  refine gend ?_
  refine cndN (fun hc3 => ?_) ?_; rotate_left
  · omega
  refine awp_skip ?_
  refine awp_seq ?_
  refine rln ?_
  refine Mv ?_
  refine G (q_slo_hi (k := 8) ?_ (hc := cut_hi hf))
  refine G2 (fun _ k_ => q_callp gg k_ (ha := (cac (et rfl) sees_ro ca0))) ?_
  refine G (q_mv (s := .t _) ?_)
  refine G (q_ext (y := .c _) ?_)
  refine G (q_ext (y := .c _) ?_)
  refine As ?_
  refine As ?_
  refine gend ?_
  refine awp_seq ?_
  refine awp_seq ?_
  refine rln ?_
  refine Mv ?_
  refine G (q_gtr64 (y := 281474976710655) ?_)
  refine gend ?_
  refine cndN (fun hc4 => ?_) ?_; rotate_left
  · exact hn
  refine awp_skip ?_
  refine awp_seq ?_
  refine awp_seq ?_
  refine rln ?_
  refine Mv ?_
  refine G (q_ncp ?_)
  refine G (q_fap ?_)
  refine G (q_ldp ?_)
  refine Mv ?_
  refine G2 (fun _ k_ => q_callp gc k_ (ha := (cac (et rfl) (sees_ptr rfl rfl rfl rfl) (cac (et rfl) cm_int ca0)))) ?_
  refine As ?_
  refine gend ?_
  refine awp_seq ?_
  refine rln ?_
  refine Mv ?_
  refine G (q_neqn (y := 0) ?_)
  refine gend ?_
  refine cndN (fun hc5 => ?_) ?_; rotate_left
  · exact fun h => h rfl
  refine awp_skip ?_
  refine awp_seq ?_
  refine rln ?_
  refine Mv ?_
  refine G (q_quo64 (y := 64) ?_ (hz := by decide))
  refine As ?_
  refine gend ?_
  refine awp_seq ?_
  refine awp_seq ?_
  refine rln ?_
  refine Mv ?_
  refine Mv ?_
  refine G (q_ncp ?_)
  refine G (q_fap ?_)
  refine G (q_fap ?_)
  refine G (q_ldp ?_)
  refine G (q_add64 (y := 16) ?_)
  refine G (q_gtr64 ?_)
  refine gend ?_
  refine cndN (fun hc6 => ?_) ?_; rotate_left
  · exact hq
  refine awp_skip ?_
  refine awp_seq ?_
  refine rln ?_
  refine Mv ?_
  refine G (q_ncp ?_)
  refine G (q_fap ?_)
  refine Mv ?_
  refine G2 (fun _ k_ => q_callv [0, 1, 2, 3, 4, 5, 6, 7, 8, 9] [some (chC es er 2 (decide (es ≠ 0)) 4 6 true 8 sent 1 g any hash), some (wcs true wg wb), some (cC (.ptr 3 0) 0), some (u8s (S0 k es.toNat)), cb (decide (es ≠ 0)) 5, kb (decide (es ≠ 0)) (S1 k es.toNat), some (cC (.ptr 7 0) 0), some (u8s (S0 r er.toNat)), cb true 9, kb true (S1 r er.toNat)] [some (cC (.ptr 9 0) 0)] go k_ (ha := (cac (et rfl) rfl (cac (et rfl) cm_int ca0))) (e2 := (pl1 rfl (chC_map rfl rfl rfl rfl rfl) (pl1 rfl rfl (pl1 rfl rfl (pl1 rfl sees_m (plb rfl (cb_map rfl) (plb rfl kb_map (pl1 rfl rfl (pl1 rfl sees_m (pl1 rfl rfl (pl1 rfl sees_m pl0))))))))))) (eL := (ml1 (chC_map rfl rfl rfl rfl rfl) (ml1 rfl (ml1 rfl (ml1 sees_m (mlb (cb_map rfl) (mlb kb_map (ml1 rfl (ml1 sees_m (ml1 rfl (ml1 sees_m ml0))))))))))) (eM := (ml1 rfl ml0))) ?_
  refine As ?_
  refine gend ?_
  refine awp_seq ?_
  refine rln ?_
  refine Mv ?_
  refine Mv ?_
  refine G2 (fun _ k_ => q_callv [10, 9] [some (cC (.ptr 1 0) N), some (u8s (S1 r er.toNat))] [] (setn_k (S1 r er.toNat) 0 N) k_ (ha := (cac (et rfl) rfl (cac (et rfl) cm_int ca0))) (e2 := (pl1 rfl rfl (pl1 rfl sees_m pl0))) (eL := (ml1 rfl (ml1 sees_m ml0))) (eM := ml0)) ?_
  refine gend ?_
  refine awp_seq ?_
  refine rdln [7] [0, 0, 0, 0, 0, 0, 0, 0, 1, 1, 1, 1, 1] [0, 0, 0, 0, 0, 0, 0, 1, 1, 1, 1, 1, 1] ?_
  refine Dp (fun _ => q_mv (s := .v (.c _)) ⟨rfl, rfl⟩) ?_
  refine Dp (fun _ => q_mv (s := .v (.c _)) ⟨rfl, rfl⟩) ?_
  refine Dp (fun _ => q_ncp ⟨rfl, rfl⟩) ?_
  refine Dp (fun _ => q_fap ⟨rfl, rfl⟩) ?_
  refine DSp 0 rfl (fun _ hv => q_slp_no ⟨rfl, rfl⟩ (hp := hv) (hl := ch_len hh)) ?_
  refine Dp (fun _ => q_mv (s := .v (.c _)) ⟨rfl, rfl⟩) ?_
  refine Dp (fun _ => q_slo_lo (j := 8) ⟨rfl, rfl⟩ (hc := cut_drop hf)) ?_
  refine De2 (fun _ k_ => q_callv [10, 9] [some (cC (.ptr 1 0) N), some (u8s (S1 r er.toNat))] [] gs k_ (ha := (cac (et rfl) rfl (cac (et rfl) (sees_slc rfl rfl (ch_hash hh)) (cac (et rfl) sees_ro ca0)))) (e2 := (pl1 rfl rfl (pl1 rfl sees_m pl0))) (eL := (ml1 rfl (ml1 sees_m ml0))) (eM := ml0)) ?_
  refine Dp (fun _ => q_mv (s := .t _) ⟨rfl, rfl⟩) ?_
  refine Dp (fun _ => q_ext (y := .c _) ⟨rfl, rfl⟩) ?_
  refine Dp (fun _ => q_ext (y := .c _) ⟨rfl, rfl⟩) ?_
  refine Dp (fun _ => q_as (s := .v (.c _)) ⟨rfl, rfl⟩) ?_
  refine Dp (fun _ => q_as (s := .v (.c _)) ⟨rfl, rfl⟩) ?_
  refine dend ?_
  refine awp_seq ?_
  refine awp_seq ?_
  refine rln ?_
  refine Mv ?_
  refine G (q_neqn (y := 0) ?_)
  refine gend ?_
  refine cndY (fun hc7 => ?_) ?_; rotate_left
  · exact (by decide : (8 : Nat) ≠ 0)
  refine awp_seq ?_
  refine rln ?_
  refine Mv ?_
  refine As ?_
  refine G (q_as (s := sc (c64 0)) ?_)
  refine As ?_
  refine gend ?_
  refine awp_ret ?_
  exact fx3 [0, 1, 2, 3, 4, 5, 6, 7, 8, 9] (hm0 := rfl) (hH := (pl1 rfl (chC_map rfl rfl rfl rfl rfl) (pl1 rfl rfl (pl1 rfl rfl (pl1 rfl sees_m (plb rfl (cb_map rfl) (plb rfl kb_map (pl1 rfl rfl (pl1 rfl sees_m (pl1 rfl rfl (pl1 rfl sees_m pl0))))))))))) (hn := piB rfl)
set_option maxHeartbeats 1600000 in
/-- (*channel.Channel).Open -/
theorem chopen_n1_ok (k r hash : List UInt8) (es er sent g : UInt64) (any : Bool) (wg wb : UInt64) (hk : k.length = 32) (hr : r.length = 32) (hh : hash.length = 32) (fr : List UInt8) (f : Nat) (N : UInt64) (hf : fr.length = f) (h24 : 24 ≤ f) (hL : f ≤ 4120) (hN : gt (fr.take 8) = N) (hn : ¬ 281474976710655 < N) (hw : wchk true wg wb N = 0) (hq : ¬ er + 16 < N / 64) (hle : N / 64 ≤ er) (he : (N / 64).toNat % 2 = 1) (hone : (decide (er ≠ 0)) = true) (hK : (S1 r er.toNat) = kE r (N / 64).toNat) (p : List UInt8) (hop : aopen (kE r (N / 64).toNat) (anonce N) hash (fr.drop 8) = some p) : Good Try.prog 11 [.c (.ptr 0 0), .c (.ro f (u8s fr))] [some (chC es er 2 (decide (es ≠ 0)) 4 6 (decide (er ≠ 0)) 8 sent 1 g any hash), some (wcs true wg wb), some (cC (.ptr 3 0) 0), some (u8s (S0 k es.toNat)), cb (decide (es ≠ 0)) 5, kb (decide (es ≠ 0)) (S1 k es.toNat), some (cC (.ptr 7 0) 0), some (u8s (S0 r er.toNat)), cb (decide (er ≠ 0)) 9, kb (decide (er ≠ 0)) (S1 r er.toNat)] (.t [.c (.slc 10 0 p.length 1), .c (c64 N), .c (cn 0)]) [some (chC es er 2 (decide (es ≠ 0)) 4 6 (decide (er ≠ 0)) 8 sent 1 (mx g N) true hash), some (wcs true (wnext true wg wb N).1 (wnext true wg wb N).2), some (cC (.ptr 3 0) 0), some (u8s (S0 k es.toNat)), cb (decide (es ≠ 0)) 5, kb (decide (es ≠ 0)) (S1 k es.toNat), some (cC (.ptr 7 0) 0), some (u8s (S0 r er.toNat)), cb (decide (er ≠ 0)) 9, kb (decide (er ≠ 0)) (S1 r er.toNat), some (u8s p)] := by
  have gg := get 8 (fr.take 8) (by rw [List.length_take]; omega) (by decide) (by decide)
  rw [hN] at gg
  have gc := check true wg wb N
  rw [hw] at gc
  have hdl : (fr.drop 8).length = f - 8 := by rw [List.length_drop, hf]
  have go := of_r1 es er sent g (decide (es ≠ 0)) any hash (S0 k es.toNat) (S1 k es.toNat) (S0 r er.toNat) (S1 r er.toNat) wg wb (N / 64) hle ((mod2_nat _).trans he)
  rw [← hK] at hop
  rw [hone]
  have hA : (S1 r er.toNat).length = 32 := S1_len hr _
  have gs := copen_ok (S1 r er.toNat) hash (fr.drop 8) N 32 (f - 8) hA hh (by decide) hdl (by omega) (fun h => hn (by rw [h]; decide)) p hop
  have hpl := aopen_len hop
  have gm := move_nr es er sent g (decide (es ≠ 0)) true any hash (S0 k es.toNat) (S1 k es.toNat) (S0 r er.toNat) (S1 r er.toNat) (wnext true wg wb N).1 (wnext true wg wb N).2 (N / 64) (by rw [UInt64.lt_iff_toNat_lt]; have h := hle; rw [UInt64.le_iff_toNat_le] at h; omega)
  obtain ⟨ww, hww⟩ : ∃ z, wnext true wg wb N = z := ⟨_, rfl⟩
  have gt_ := take true wg wb N
  rw [hww] at gt_ gm ⊢
  refine good_frm 100 Try.func11 rfl rfl rfl rfl rfl rfl ?_
  refine awp_seq ?_
  refine rln ?_
  refine As ?_
  refine G (q_as (s := sc (c64 0)) ?_)
  refine G (q_as (s := sc (cn 0)) ?_)
  refine gend ?_
  refine awp_seq ?_
  refine awp_block ?_
  refine awp_seq ?_
  refine rln ?_
  refine Mv ?_
  refine G2 (fun _ k_ => q_callp (cthere _ _ _ _ _ _ _ _ _ _ _) k_ (ha := (cac (et rfl) (sees_ch rfl rfl rfl rfl) ca0))) ?_
  refine G (q_notb ?_)
  refine As ?_
  refine gend ?_
  refine cndbnN (fun hc1 => ?_) ?_; rotate_left
  · exact rfl
  refine awp_seq ?_
  refine rln ?_
  refine Mv ?_
  refine G (q_leno ?_)
  refine G (q_gtrn (y := 4120) ?_)
  refine As ?_
  refine gend ?_
  refine cndN (fun hc2 => ?_) ?_; rotate_left
  · omega
  refine awp_seq ?_
  refine rln ?_
  refine Mv ?_
  refine G (q_leno ?_)
  refine G (q_lssn (y := 24) ?_)
  refine As ?_
  refine gend ?_
  refine cndN (fun hc3 => ?_) ?_; rotate_left
  · omega
  refine awp_skip ?_
  refine awp_seq ?_
  refine rln ?_
  refine Mv ?_
  refine G (q_slo_hi (k := 8) ?_ (hc := cut_hi hf))
  refine G2 (fun _ k_ => q_callp gg k_ (ha := (cac (et rfl) sees_ro ca0))) ?_
  refine G (q_mv (s := .t _) ?_)
  refine G (q_ext (y := .c _) ?_)
  refine G (q_ext (y := .c _) ?_)
  refine As ?_
  refine As ?_
  refine gend ?_
  refine awp_seq ?_
  refine awp_seq ?_
  refine rln ?_
  refine Mv ?_
  refine G (q_gtr64 (y := 281474976710655) ?_)
  refine gend ?_
  refine cndN (fun hc4 => ?_) ?_; rotate_left
  · exact hn
  refine awp_skip ?_
  refine awp_seq ?_
  refine awp_seq ?_
  refine rln ?_
  refine Mv ?_
  refine G (q_ncp ?_)
  refine G (q_fap ?_)
  refine G (q_ldp ?_)
  refine Mv ?_
  refine G2 (fun _ k_ => q_callp gc k_ (ha := (cac (et rfl) (sees_ptr rfl rfl rfl rfl) (cac (et rfl) cm_int ca0)))) ?_
  refine As ?_
  refine gend ?_
  refine awp_seq ?_
  refine rln ?_
  refine Mv ?_
  refine G (q_neqn (y := 0) ?_)
  refine gend ?_
  refine cndN (fun hc5 => ?_) ?_; rotate_left
  · exact fun h => h rfl
  refine awp_skip ?_
  refine awp_seq ?_
  refine rln ?_
  refine Mv ?_
  refine G (q_quo64 (y := 64) ?_ (hz := by decide))
  refine As ?_
  refine gend ?_
  refine awp_seq ?_
  refine awp_seq ?_
  refine rln ?_
  refine Mv ?_
  refine Mv ?_
  refine G (q_ncp ?_)
  refine G (q_fap ?_)
  refine G (q_fap ?_)
  refine G (q_ldp ?_)
  refine G (q_add64 (y := 16) ?_)
  refine G (q_gtr64 ?_)
  refine gend ?_
  refine cndN (fun hc6 => ?_) ?_; rotate_left
  · exact hq
  refine awp_skip ?_
  refine awp_seq ?_
  refine rln ?_
  refine Mv ?_
  refine G (q_ncp ?_)
  refine G (q_fap ?_)
  refine Mv ?_
  refine G2 (fun _ k_ => q_callv [0, 1, 2, 3, 4, 5, 6, 7, 8, 9] [some (chC es er 2 (decide (es ≠ 0)) 4 6 true 8 sent 1 g any hash), some (wcs true wg wb), some (cC (.ptr 3 0) 0), some (u8s (S0 k es.toNat)), cb (decide (es ≠ 0)) 5, kb (decide (es ≠ 0)) (S1 k es.toNat), some (cC (.ptr 7 0) 0), some (u8s (S0 r er.toNat)), cb true 9, kb true (S1 r er.toNat)] [some (cC (.ptr 9 0) 0)] go k_ (ha := (cac (et rfl) rfl (cac (et rfl) cm_int ca0))) (e2 := (pl1 rfl (chC_map rfl rfl rfl rfl rfl) (pl1 rfl rfl (pl1 rfl rfl (pl1 rfl sees_m (plb rfl (cb_map rfl) (plb rfl kb_map (pl1 rfl rfl (pl1 rfl sees_m (pl1 rfl rfl (pl1 rfl sees_m pl0))))))))))) (eL := (ml1 (chC_map rfl rfl rfl rfl rfl) (ml1 rfl (ml1 rfl (ml1 sees_m (mlb (cb_map rfl) (mlb kb_map (ml1 rfl (ml1 sees_m (ml1 rfl (ml1 sees_m ml0))))))))))) (eM := (ml1 rfl ml0))) ?_
  refine As ?_
  refine gend ?_
  refine awp_seq ?_
  refine rln ?_
  refine Mv ?_
  refine Mv ?_
  refine G2 (fun _ k_ => q_callv [10, 9] [some (cC (.ptr 1 0) N), some (u8s (S1 r er.toNat))] [] (setn_k (S1 r er.toNat) 0 N) k_ (ha := (cac (et rfl) rfl (cac (et rfl) cm_int ca0))) (e2 := (pl1 rfl rfl (pl1 rfl sees_m pl0))) (eL := (ml1 rfl (ml1 sees_m ml0))) (eM := ml0)) ?_
  refine gend ?_
  refine awp_seq ?_
  refine rdln [7] [0, 0, 0, 0, 0, 0, 0, 0, 1, 1, 1, 1, 1] [0, 0, 0, 0, 0, 0, 0, 1, 1, 1, 1, 1, 1] ?_
  refine Dp (fun _ => q_mv (s := .v (.c _)) ⟨rfl, rfl⟩) ?_
  refine Dp (fun _ => q_mv (s := .v (.c _)) ⟨rfl, rfl⟩) ?_
  refine Dp (fun _ => q_ncp ⟨rfl, rfl⟩) ?_
  refine Dp (fun _ => q_fap ⟨rfl, rfl⟩) ?_
  refine DSp 0 rfl (fun _ hv => q_slp_no ⟨rfl, rfl⟩ (hp := hv) (hl := ch_len hh)) ?_
  refine Dp (fun _ => q_mv (s := .v (.c _)) ⟨rfl, rfl⟩) ?_
  refine Dp (fun _ => q_slo_lo (j := 8) ⟨rfl, rfl⟩ (hc := cut_drop hf)) ?_
  refine De2 (fun _ k_ => q_callv [10, 9] [some (cC (.ptr 1 0) (N + 1)), some (u8s (S1 r er.toNat))] [some (u8s p)] gs k_ (ha := (cac (et rfl) rfl (cac (et rfl) (sees_slc rfl rfl (ch_hash hh)) (cac (et rfl) sees_ro ca0)))) (e2 := (pl1 rfl rfl (pl1 rfl sees_m pl0))) (eL := (ml1 rfl (ml1 sees_m ml0))) (eM := (ml1 sees_m ml0))) ?_
  refine Dp (fun _ => q_mv (s := .t _) ⟨rfl, rfl⟩) ?_
  refine Dp (fun _ => q_ext (y := .c _) ⟨rfl, rfl⟩) ?_
  refine Dp (fun _ => q_ext (y := .c _) ⟨rfl, rfl⟩) ?_
  refine Dp (fun _ => q_as (s := .v (.c _)) ⟨rfl, rfl⟩) ?_
  refine Dp (fun _ => q_as (s := .v (.c _)) ⟨rfl, rfl⟩) ?_
  refine dend ?_
  refine awp_seq ?_
  refine awp_seq ?_
  refine rln ?_
  refine Mv ?_
  refine G (q_neqn (y := 0) ?_)
  refine gend ?_
  refine cndN (fun hc7 => ?_) ?_; rotate_left
  · exact fun h => h rfl
  refine awp_skip ?_
  refine awp_seq ?_
  refine rln ?_
  refine Mv ?_
  refine G (q_ncp ?_)
  refine G (q_fap ?_)
  refine G (q_ldp ?_)
  refine Mv ?_
  refine G2 (fun _ k_ => q_callw 1 gt_ k_ (ha := (cac (et rfl) rfl (cac (et rfl) cm_int ca0)))) ?_
  refine gend ?_
  refine awp_seq ?_
  refine rln ?_
  refine Mv ?_
  refine G (q_ncp ?_)
  refine G (q_fap ?_)
  refine Mv ?_
  refine G2 (fun _ k_ => q_callv [0, 1, 2, 3, 4, 5, 6, 7, 8, 9] [some (chC es er 2 (decide (es ≠ 0)) 4 6 true 8 sent 1 g any hash), some (wcs true ww.1 ww.2), some (cC (.ptr 3 0) 0), some (u8s (S0 k es.toNat)), cb (decide (es ≠ 0)) 5, kb (decide (es ≠ 0)) (S1 k es.toNat), some (cC (.ptr 7 0) 0), some (u8s (S0 r er.toNat)), cb true 9, kb true (S1 r er.toNat)] [] gm k_ (ha := (cac (et rfl) rfl (cac (et rfl) cm_int ca0))) (e2 := (pl1 rfl (chC_map rfl rfl rfl rfl rfl) (pl1 rfl rfl (pl1 rfl rfl (pl1 rfl sees_m (plb rfl (cb_map rfl) (plb rfl kb_map (pl1 rfl rfl (pl1 rfl sees_m (pl1 rfl rfl (pl1 rfl sees_m pl0))))))))))) (eL := (ml1 (chC_map rfl rfl rfl rfl rfl) (ml1 rfl (ml1 rfl (ml1 sees_m (mlb (cb_map rfl) (mlb kb_map (ml1 rfl (ml1 sees_m (ml1 rfl (ml1 sees_m ml0))))))))))) (eM := ml0)) ?_
  refine gend ?_
  refine awp_seq ?_
  refine rln ?_
  refine Mv ?_
  refine Mv ?_
  refine Mv ?_
  refine G (q_ncp ?_)
  refine G (q_fap ?_)
  refine G (q_ldp ?_)
  refine Mv ?_
  refine G (q_max64 ?_)
  refine G (q_ncp ?_)
  refine G (q_fap ?_)
  refine G20 (fun _ k_ => q_st k_) ?_
  refine G (q_ncp ?_)
  refine G (q_fap ?_)
  refine G20 (fun _ k_ => q_st (c := .bool true) k_) ?_
  refine gend ?_
  refine awp_seq ?_
  refine rln ?_
  refine Mv ?_
  refine Mv ?_
  refine As ?_
  refine As ?_
  refine G (q_as (s := sc (cn 0)) ?_)
  refine gend ?_
  refine awp_ret ?_
  rw [show p.length = f - 8 - 16 by omega]; exact fx3 [0, 1, 2, 3, 4, 5, 6, 7, 8, 9, 11] (hm0 := rfl) (hH := (pl1 rfl (chC_map rfl rfl rfl rfl rfl) (pl1 rfl rfl (pl1 rfl rfl (pl1 rfl sees_m (plb rfl (cb_map rfl) (plb rfl kb_map (pl1 rfl rfl (pl1 rfl sees_m (pl1 rfl rfl (pl1 rfl sees_m (pl1 rfl sees_m pl0)))))))))))) (hn := piB rfl)
end Go.Proofs.Ytklcckngmmklhaa

/- What functions of the program do, walked over the abstract machine. -/
namespace Go.Proofs.Ytklcckngmmklhaa
open Go Go.Abs Go.Proofs Go.Proofs.Ytklcckngmmklhaa.Ch Go.Proofs.Ytklcckngmmklhaa.Po Go.Proofs.Ytklcckngmmklhaa.Ae Go.Proofs.Ytklcckngmmklhaa.Wd

set_option maxRecDepth 20000
set_option maxHeartbeats 1600000 in
/-- (*channel.Channel).Open -/
theorem chopen_m0_bad (k r hash : List UInt8) (es er sent g : UInt64) (any : Bool) (wg wb : UInt64) (hk : k.length = 32) (hr : r.length = 32) (hh : hash.length = 32) (fr : List UInt8) (f : Nat) (N : UInt64) (hf : fr.length = f) (h24 : 24 ≤ f) (hL : f ≤ 4120) (hN : gt (fr.take 8) = N) (hn : ¬ 281474976710655 < N) (hw : wchk true wg wb N = 0) (hq : ¬ er + 16 < N / 64) (hle : ¬ N / 64 ≤ er) (he : er.toNat % 2 = 0) (hop : aopen (kE r (N / 64).toNat) (anonce N) hash (fr.drop 8) = none) : Good Try.prog 11 [.c (.ptr 0 0), .c (.ro f (u8s fr))] [some (chC es er 2 (decide (es ≠ 0)) 4 6 (decide (er ≠ 0)) 8 sent 1 g any hash), some (wcs true wg wb), some (cC (.ptr 3 0) 0), some (u8s (S0 k es.toNat)), cb (decide (es ≠ 0)) 5, kb (decide (es ≠ 0)) (S1 k es.toNat), some (cC (.ptr 7 0) 0), some (u8s (S0 r er.toNat)), cb (decide (er ≠ 0)) 9, kb (decide (er ≠ 0)) (S1 r er.toNat)] (.t [.c .nils, .c (c64 0), .c (cn 8)]) [some (chC es er 2 (decide (es ≠ 0)) 4 6 (decide (er ≠ 0)) 8 sent 1 g any hash), some (wcs true wg wb), some (cC (.ptr 3 0) 0), some (u8s (S0 k es.toNat)), cb (decide (es ≠ 0)) 5, kb (decide (es ≠ 0)) (S1 k es.toNat), some (cC (.ptr 7 0) 0), some (u8s (S0 r er.toNat)), cb (decide (er ≠ 0)) 9, kb (decide (er ≠ 0)) (S1 r er.toNat)] := by
  have gg := get 8 (fr.take 8) (by rw [List.length_take]; omega) (by decide) (by decide)
  rw [hN] at gg
  have gc := check true wg wb N
  rw [hw] at gc
  have hdl : (fr.drop 8).length = f - 8 := by rw [List.length_drop, hf]
  have hS : S0 r er.toNat = kE r er.toNat := (S0_even he).2.2
  have hN6 : er.toNat + (N / 64 - er).toNat = (N / 64).toNat := by
    have h := hle; rw [UInt64.le_iff_toNat_le] at h; rw [UInt64.toNat_sub_of_le _ _ (UInt64.le_iff_toNat_le.2 (by omega))]; omega
  have go := of_rf0 es er sent g (decide (es ≠ 0)) (decide (er ≠ 0)) any hash (S0 k es.toNat) (S1 k es.toNat) (S0 r er.toNat) (S1 r er.toNat) wg wb (N / 64) hle ((mod2_nat _).trans he) (S0_len hr _)
  rw [show kE (S0 r er.toNat) (N / 64 - er).toNat = kE r (N / 64).toNat by rw [hS, kE_add, hN6]] at go
  have hA : (kE r (N / 64).toNat).length = 32 := kE_len hr _
  have gs := copen_bad (kE r (N / 64).toNat) hash (fr.drop 8) N 32 (f - 8) hA hh (by decide) hdl (by omega) (fun h => hn (by rw [h]; decide)) hop
  refine good_frm 100 Try.func11 rfl rfl rfl rfl rfl rfl ?_
  refine awp_seq ?_
  refine rln ?_
  refine As ?_
  refine G (q_as (s := sc (c64 0)) ?_)
  refine G (q_as (s := sc (cn 0)) ?_)
  refine gend ?_
  refine awp_seq ?_
  refine awp_block ?_
  refine awp_seq ?_
  refine rln ?_
  refine Mv ?_
  refine G2 (fun _ k_ => q_callp (cthere _ _ _ _ _ _ _ _ _ _ _) k_ (ha := (cac (et rfl) (sees_ch rfl rfl rfl rfl) ca0))) ?_
  refine G (q_notb ?_)
  refine As ?_
  refine gend ?_
  refine cndbnN (fun hc1 => ?_) ?_; rotate_left
  · exact rfl
  refine awp_seq ?_
  refine rln ?_
  refine Mv ?_
  refine G (q_leno ?_)
  refine G (q_gtrn (y := 4120) ?_)
  refine As ?_
  refine gend ?_
  refine cndN (fun hc2 => ?_) ?_; rotate_left
  · omega
  refine awp_seq ?_
  refine rln ?_
  refine Mv ?_
  refine G (q_leno ?_)
  refine G (q_lssn (y := 24) ?_)
  refine As ?_
  refine gend ?_
  refine cndN (fun hc3 => ?_) ?_; rotate_left
  · omega
  refine awp_skip ?_
  refine awp_seq ?_
  refine rln ?_
  refine Mv ?_
  refine G (q_slo_hi (k := 8) ?_ (hc := cut_hi hf))
  refine G2 (fun _ k_ => q_callp gg k_ (ha := (cac (et rfl) sees_ro ca0))) ?_
  refine G (q_mv (s := .t _) ?_)
  refine G (q_ext (y := .c _) ?_)
  refine G (q_ext (y := .c _) ?_)
  refine As ?_
  refine As ?_
  refine gend ?_
  refine awp_seq ?_
  refine awp_seq ?_
  refine rln ?_
  refine Mv ?_
  refine G (q_gtr64 (y := 281474976710655) ?_)
  refine gend ?_
  refine cndN (fun hc4 => ?_) ?_; rotate_left
  · exact hn
  refine awp_skip ?_
  refine awp_seq ?_
  refine awp_seq ?_
  refine rln ?_
  refine Mv ?_
  refine G (q_ncp ?_)
  refine G (q_fap ?_)
  refine G (q_ldp ?_)
  refine Mv ?_
  refine G2 (fun _ k_ => q_callp gc k_ (ha := (cac (et rfl) (sees_ptr rfl rfl rfl rfl) (cac (et rfl) cm_int ca0)))) ?_
  refine As ?_
  refine gend ?_
  refine awp_seq ?_
  refine rln ?_
  refine Mv ?_
  refine G (q_neqn (y := 0) ?_)
  refine gend ?_
  refine cndN (fun hc5 => ?_) ?_; rotate_left
  · exact fun h => h rfl
  refine awp_skip ?_
  refine awp_seq ?_
  refine rln ?_
  refine Mv ?_
  refine G (q_quo64 (y := 64) ?_ (hz := by decide))
  refine As ?_
  refine gend ?_
  refine awp_seq ?_
  refine awp_seq ?_
  refine rln ?_
  refine Mv ?_
  refine Mv ?_
  refine G (q_ncp ?_)
  refine G (q_fap ?_)
  refine G (q_fap ?_)
  refine G (q_ldp ?_)
  refine G (q_add64 (y := 16) ?_)
  refine G (q_gtr64 ?_)
  refine gend ?_
  refine cndN (fun hc6 => ?_) ?_; rotate_left
  · exact hq
  refine awp_skip ?_
  refine awp_seq ?_
  refine rln ?_
  refine Mv ?_
  refine G (q_ncp ?_)
  refine G (q_fap ?_)
  refine Mv ?_
  refine G2 (fun _ k_ => q_callv [0, 1, 2, 3, 4, 5, 6, 7, 8, 9] [some (chC es er 2 (decide (es ≠ 0)) 4 6 (decide (er ≠ 0)) 8 sent 1 g any hash), some (wcs true wg wb), some (cC (.ptr 3 0) 0), some (u8s (S0 k es.toNat)), cb (decide (es ≠ 0)) 5, kb (decide (es ≠ 0)) (S1 k es.toNat), some (cC (.ptr 7 0) 0), some (u8s (S0 r er.toNat)), cb (decide (er ≠ 0)) 9, kb (decide (er ≠ 0)) (S1 r er.toNat)] [some (cC (.ptr 11 0) 0), some (u8s (kE r (N / 64).toNat))] go k_ (ha := (cac (et rfl) rfl (cac (et rfl) cm_int ca0))) (e2 := (pl1 rfl (chC_map rfl rfl rfl rfl rfl) (pl1 rfl rfl (pl1 rfl rfl (pl1 rfl sees_m (plb rfl (cb_map rfl) (plb rfl kb_map (pl1 rfl rfl (pl1 rfl sees_m (plb rfl (cb_map rfl) (plb rfl kb_map pl0))))))))))) (eL := (ml1 (chC_map rfl rfl rfl rfl rfl) (ml1 rfl (ml1 rfl (ml1 sees_m (mlb (cb_map rfl) (mlb kb_map (ml1 rfl (ml1 sees_m (mlb (cb_map rfl) (mlb kb_map ml0))))))))))) (eM := (ml1 rfl (ml1 sees_m ml0)))) ?_
  refine As ?_
  refine gend ?_
  refine awp_seq ?_
  refine rln ?_
  refine Mv ?_
  refine Mv ?_
  refine G2 (fun _ k_ => q_callv [10, 11] [some (cC (.ptr 1 0) N), some (u8s (kE r (N / 64).toNat))] [] (setn_k (kE r (N / 64).toNat) 0 N) k_ (ha := (cac (et rfl) rfl (cac (et rfl) cm_int ca0))) (e2 := (pl1 rfl rfl (pl1 rfl sees_m pl0))) (eL := (ml1 rfl (ml1 sees_m ml0))) (eM := ml0)) ?_
  refine gend ?_
  refine awp_seq ?_
  refine rdln [7] [0, 0, 0, 0, 0, 0, 0, 0, 1, 1, 1, 1, 1] [0, 0, 0, 0, 0, 0, 0, 1, 1, 1, 1, 1, 1] ?_
  refine Dp (fun _ => q_mv (s := .v (.c _)) ⟨rfl, rfl⟩) ?_
  refine Dp (fun _ => q_mv (s := .v (.c _)) ⟨rfl, rfl⟩) ?_
  refine Dp (fun _ => q_ncp ⟨rfl, rfl⟩) ?_
  refine Dp (fun _ => q_fap ⟨rfl, rfl⟩) ?_
  refine DSp 0 rfl (fun _ hv => q_slp_no ⟨rfl, rfl⟩ (hp := hv) (hl := ch_len hh)) ?_
  refine Dp (fun _ => q_mv (s := .v (.c _)) ⟨rfl, rfl⟩) ?_
  refine Dp (fun _ => q_slo_lo (j := 8) ⟨rfl, rfl⟩ (hc := cut_drop hf)) ?_
  refine De2 (fun _ k_ => q_callv [10, 11] [some (cC (.ptr 1 0) N), some (u8s (kE r (N / 64).toNat))] [] gs k_ (ha := (cac (et rfl) rfl (cac (et rfl) (sees_slc rfl rfl (ch_hash hh)) (cac (et rfl) sees_ro ca0)))) (e2 := (pl1 rfl rfl (pl1 rfl sees_m pl0))) (eL := (ml1 rfl (ml1 sees_m ml0))) (eM := ml0)) ?_
  refine Dp (fun _ => q_mv (s := .t _) ⟨rfl, rfl⟩) ?_
  refine Dp (fun _ => q_ext (y := .c _) ⟨rfl, rfl⟩) ?_
  refine Dp (fun _ => q_ext (y := .c _) ⟨rfl, rfl⟩) ?_
  refine Dp (fun _ => q_as (s := .v (.c _)) ⟨rfl, rfl⟩) ?_
  refine Dp (fun _ => q_as (s := .v (.c _)) ⟨rfl, rfl⟩) ?_
  refine dend ?_
  refine awp_seq ?_
  refine awp_seq ?_
  refine rln ?_
  refine Mv ?_
  refine G (q_neqn (y := 0) ?_)
  refine gend ?_
  refine cndY (fun hc7 => ?_) ?_; rotate_left
  · exact (by decide : (8 : Nat) ≠ 0)
  refine awp_seq ?_
  refine rln ?_
  refine Mv ?_
  refine As ?_
  refine G (q_as (s := sc (c64 0)) ?_)
  refine As ?_
  refine gend ?_
  refine awp_ret ?_
  exact fx3 [0, 1, 2, 3, 4, 5, 6, 7, 8, 9] (hm0 := rfl) (hH := (pl1 rfl (chC_map rfl rfl rfl rfl rfl) (pl1 rfl rfl (pl1 rfl rfl (pl1 rfl sees_m (plb rfl (cb_map rfl) (plb rfl kb_map (pl1 rfl rfl (pl1 rfl sees_m (plb rfl (cb_map rfl) (plb rfl kb_map pl0))))))))))) (hn := piB rfl)
set_option maxHeartbeats 1600000 in
/-- (*channel.Channel).Open -/
theorem chopen_m0_ok (k r hash : List UInt8) (es er sent g : UInt64) (any : Bool) (wg wb : UInt64) (hk : k.length = 32) (hr : r.length = 32) (hh : hash.length = 32) (fr : List UInt8) (f : Nat) (N : UInt64) (hf : fr.length = f) (h24 : 24 ≤ f) (hL : f ≤ 4120) (hN : gt (fr.take 8) = N) (hn : ¬ 281474976710655 < N) (hw : wchk true wg wb N = 0) (hq : ¬ er + 16 < N / 64) (hle : ¬ N / 64 ≤ er) (he : er.toNat % 2 = 0) (p : List UInt8) (hop : aopen (kE r (N / 64).toNat) (anonce N) hash (fr.drop 8) = some p) : Good Try.prog 11 [.c (.ptr 0 0), .c (.ro f (u8s fr))] [some (chC es er 2 (decide (es ≠ 0)) 4 6 (decide (er ≠ 0)) 8 sent 1 g any hash), some (wcs true wg wb), some (cC (.ptr 3 0) 0), some (u8s (S0 k es.toNat)), cb (decide (es ≠ 0)) 5, kb (decide (es ≠ 0)) (S1 k es.toNat), some (cC (.ptr 7 0) 0), some (u8s (S0 r er.toNat)), cb (decide (er ≠ 0)) 9, kb (decide (er ≠ 0)) (S1 r er.toNat)] (.t [.c (.slc 14 0 p.length 1), .c (c64 N), .c (cn 0)]) [some (chC es (N / 64) 2 (decide (es ≠ 0)) 4 10 (decide ((N / 64) ≠ 0)) 12 sent 1 (mx g N) true hash), some (wcs true (wnext true wg wb N).1 (wnext true wg wb N).2), some (cC (.ptr 3 0) 0), some (u8s (S0 k es.toNat)), cb (decide (es ≠ 0)) 5, kb (decide (es ≠ 0)) (S1 k es.toNat), none, none, none, none, some (cC (.ptr 11 0) 0), some (u8s (S0 r (N / 64).toNat)), cb (decide ((N / 64) ≠ 0)) 13, kb (decide ((N / 64) ≠ 0)) (S1 r (N / 64).toNat), some (u8s p)] := by
  have gg := get 8 (fr.take 8) (by rw [List.length_take]; omega) (by decide) (by decide)
  rw [hN] at gg
  have gc := check true wg wb N
  rw [hw] at gc
  have hdl : (fr.drop 8).length = f - 8 := by rw [List.length_drop, hf]
  have hS : S0 r er.toNat = kE r er.toNat := (S0_even he).2.2
  have hN6 : er.toNat + (N / 64 - er).toNat = (N / 64).toNat := by
    have h := hle; rw [UInt64.le_iff_toNat_le] at h; rw [UInt64.toNat_sub_of_le _ _ (UInt64.le_iff_toNat_le.2 (by omega))]; omega
  have go := of_rf0 es er sent g (decide (es ≠ 0)) (decide (er ≠ 0)) any hash (S0 k es.toNat) (S1 k es.toNat) (S0 r er.toNat) (S1 r er.toNat) wg wb (N / 64) hle ((mod2_nat _).trans he) (S0_len hr _)
  rw [show kE (S0 r er.toNat) (N / 64 - er).toNat = kE r (N / 64).toNat by rw [hS, kE_add, hN6]] at go
  have hA : (kE r (N / 64).toNat).length = 32 := kE_len hr _
  have gs := copen_ok (kE r (N / 64).toNat) hash (fr.drop 8) N 32 (f - 8) hA hh (by decide) hdl (by omega) (fun h => hn (by rw [h]; decide)) p hop
  have hpl := aopen_len hop
  have gm := move_r es er sent g (decide (es ≠ 0)) any hash r (S0 k es.toNat) (S1 k es.toNat) (wnext true wg wb N).1 (wnext true wg wb N).2 (N / 64) hr
  rw [show mx er (N / 64) = N / 64 from if_pos (by rw [UInt64.lt_iff_toNat_lt]; have h := hle; rw [UInt64.le_iff_toNat_le] at h; omega)] at gm
  obtain ⟨ww, hww⟩ : ∃ z, wnext true wg wb N = z := ⟨_, rfl⟩
  have gt_ := take true wg wb N
  rw [hww] at gt_ gm ⊢
  refine good_frm 100 Try.func11 rfl rfl rfl rfl rfl rfl ?_
  refine awp_seq ?_
  refine rln ?_
  refine As ?_
  refine G (q_as (s := sc (c64 0)) ?_)
  refine G (q_as (s := sc (cn 0)) ?_)
  refine gend ?_
  refine awp_seq ?_
  refine awp_block ?_
  refine awp_seq ?_
  refine rln ?_
  refine Mv ?_
  refine G2 (fun _ k_ => q_callp (cthere _ _ _ _ _ _ _ _ _ _ _) k_ (ha := (cac (et rfl) (sees_ch rfl rfl rfl rfl) ca0))) ?_
  refine G (q_notb ?_)
  refine As ?_
  refine gend ?_
  refine cndbnN (fun hc1 => ?_) ?_; rotate_left
  · exact rfl
  refine awp_seq ?_
  refine rln ?_
  refine Mv ?_
  refine G (q_leno ?_)
  refine G (q_gtrn (y := 4120) ?_)
  refine As ?_
  refine gend ?_
  refine cndN (fun hc2 => ?_) ?_; rotate_left
  · omega
  refine awp_seq ?_
  refine rln ?_
  refine Mv ?_
  refine G (q_leno ?_)
  refine G (q_lssn (y := 24) ?_)
  refine As ?_
  refine gend ?_
  refine cndN (fun hc3 => ?_) ?_; rotate_left
  · omega
  refine awp_skip ?_
  refine awp_seq ?_
  refine rln ?_
  refine Mv ?_
  refine G (q_slo_hi (k := 8) ?_ (hc := cut_hi hf))
  refine G2 (fun _ k_ => q_callp gg k_ (ha := (cac (et rfl) sees_ro ca0))) ?_
  refine G (q_mv (s := .t _) ?_)
  refine G (q_ext (y := .c _) ?_)
  refine G (q_ext (y := .c _) ?_)
  refine As ?_
  refine As ?_
  refine gend ?_
  refine awp_seq ?_
  refine awp_seq ?_
  refine rln ?_
  refine Mv ?_
  refine G (q_gtr64 (y := 281474976710655) ?_)
  refine gend ?_
  refine cndN (fun hc4 => ?_) ?_; rotate_left
  · exact hn
  refine awp_skip ?_
  refine awp_seq ?_
  refine awp_seq ?_
  refine rln ?_
  refine Mv ?_
  refine G (q_ncp ?_)
  refine G (q_fap ?_)
  refine G (q_ldp ?_)
  refine Mv ?_
  refine G2 (fun _ k_ => q_callp gc k_ (ha := (cac (et rfl) (sees_ptr rfl rfl rfl rfl) (cac (et rfl) cm_int ca0)))) ?_
  refine As ?_
  refine gend ?_
  refine awp_seq ?_
  refine rln ?_
  refine Mv ?_
  refine G (q_neqn (y := 0) ?_)
  refine gend ?_
  refine cndN (fun hc5 => ?_) ?_; rotate_left
  · exact fun h => h rfl
  refine awp_skip ?_
  refine awp_seq ?_
  refine rln ?_
  refine Mv ?_
  refine G (q_quo64 (y := 64) ?_ (hz := by decide))
  refine As ?_
  refine gend ?_
  refine awp_seq ?_
  refine awp_seq ?_
  refine rln ?_
  refine Mv ?_
  refine Mv ?_
  refine G (q_ncp ?_)
  refine G (q_fap ?_)
  refine G (q_fap ?_)
  refine G (q_ldp ?_)
  refine G (q_add64 (y := 16) ?_)
  refine G (q_gtr64 ?_)
  refine gend ?_
  refine cndN (fun hc6 => ?_) ?_; rotate_left
  · exact hq
  refine awp_skip ?_
  refine awp_seq ?_
  refine rln ?_
  refine Mv ?_
  refine G (q_ncp ?_)
  refine G (q_fap ?_)
  refine Mv ?_
  refine G2 (fun _ k_ => q_callv [0, 1, 2, 3, 4, 5, 6, 7, 8, 9] [some (chC es er 2 (decide (es ≠ 0)) 4 6 (decide (er ≠ 0)) 8 sent 1 g any hash), some (wcs true wg wb), some (cC (.ptr 3 0) 0), some (u8s (S0 k es.toNat)), cb (decide (es ≠ 0)) 5, kb (decide (es ≠ 0)) (S1 k es.toNat), some (cC (.ptr 7 0) 0), some (u8s (S0 r er.toNat)), cb (decide (er ≠ 0)) 9, kb (decide (er ≠ 0)) (S1 r er.toNat)] [some (cC (.ptr 11 0) 0), some (u8s (kE r (N / 64).toNat))] go k_ (ha := (cac (et rfl) rfl (cac (et rfl) cm_int ca0))) (e2 := (pl1 rfl (chC_map rfl rfl rfl rfl rfl) (pl1 rfl rfl (pl1 rfl rfl (pl1 rfl sees_m (plb rfl (cb_map rfl) (plb rfl kb_map (pl1 rfl rfl (pl1 rfl sees_m (plb rfl (cb_map rfl) (plb rfl kb_map pl0))))))))))) (eL := (ml1 (chC_map rfl rfl rfl rfl rfl) (ml1 rfl (ml1 rfl (ml1 sees_m (mlb (cb_map rfl) (mlb kb_map (ml1 rfl (ml1 sees_m (mlb (cb_map rfl) (mlb kb_map ml0))))))))))) (eM := (ml1 rfl (ml1 sees_m ml0)))) ?_
  refine As ?_
  refine gend ?_
  refine awp_seq ?_
  refine rln ?_
  refine Mv ?_
  refine Mv ?_
  refine G2 (fun _ k_ => q_callv [10, 11] [some (cC (.ptr 1 0) N), some (u8s (kE r (N / 64).toNat))] [] (setn_k (kE r (N / 64).toNat) 0 N) k_ (ha := (cac (et rfl) rfl (cac (et rfl) cm_int ca0))) (e2 := (pl1 rfl rfl (pl1 rfl sees_m pl0))) (eL := (ml1 rfl (ml1 sees_m ml0))) (eM := ml0)) ?_
  refine gend ?_
  refine awp_seq ?_
  refine rdln [7] [0, 0, 0, 0, 0, 0, 0, 0, 1, 1, 1, 1, 1] [0, 0, 0, 0, 0, 0, 0, 1, 1, 1, 1, 1, 1] ?_
  refine Dp (fun _ => q_mv (s := .v (.c _)) ⟨rfl, rfl⟩) ?_
  refine Dp (fun _ => q_mv (s := .v (.c _)) ⟨rfl, rfl⟩) ?_
  refine Dp (fun _ => q_ncp ⟨rfl, rfl⟩) ?_
  refine Dp (fun _ => q_fap ⟨rfl, rfl⟩) ?_
  refine DSp 0 rfl (fun _ hv => q_slp_no ⟨rfl, rfl⟩ (hp := hv) (hl := ch_len hh)) ?_
  refine Dp (fun _ => q_mv (s := .v (.c _)) ⟨rfl, rfl⟩) ?_
  refine Dp (fun _ => q_slo_lo (j := 8) ⟨rfl, rfl⟩ (hc := cut_drop hf)) ?_
  refine De2 (fun _ k_ => q_callv [10, 11] [some (cC (.ptr 1 0) (N + 1)), some (u8s (kE r (N / 64).toNat))] [some (u8s p)] gs k_ (ha := (cac (et rfl) rfl (cac (et rfl) (sees_slc rfl rfl (ch_hash hh)) (cac (et rfl) sees_ro ca0)))) (e2 := (pl1 rfl rfl (pl1 rfl sees_m pl0))) (eL := (ml1 rfl (ml1 sees_m ml0))) (eM := (ml1 sees_m ml0))) ?_
  refine Dp (fun _ => q_mv (s := .t _) ⟨rfl, rfl⟩) ?_
  refine Dp (fun _ => q_ext (y := .c _) ⟨rfl, rfl⟩) ?_
  refine Dp (fun _ => q_ext (y := .c _) ⟨rfl, rfl⟩) ?_
  refine Dp (fun _ => q_as (s := .v (.c _)) ⟨rfl, rfl⟩) ?_
  refine Dp (fun _ => q_as (s := .v (.c _)) ⟨rfl, rfl⟩) ?_
  refine dend ?_
  refine awp_seq ?_
  refine awp_seq ?_
  refine rln ?_
  refine Mv ?_
  refine G (q_neqn (y := 0) ?_)
  refine gend ?_
  refine cndN (fun hc7 => ?_) ?_; rotate_left
  · exact fun h => h rfl
  refine awp_skip ?_
  refine awp_seq ?_
  refine rln ?_
  refine Mv ?_
  refine G (q_ncp ?_)
  refine G (q_fap ?_)
  refine G (q_ldp ?_)
  refine Mv ?_
  refine G2 (fun _ k_ => q_callw 1 gt_ k_ (ha := (cac (et rfl) rfl (cac (et rfl) cm_int ca0)))) ?_
  refine gend ?_
  refine awp_seq ?_
  refine rln ?_
  refine Mv ?_
  refine G (q_ncp ?_)
  refine G (q_fap ?_)
  refine Mv ?_
  refine G2 (fun _ k_ => q_callv [0, 1, 2, 3, 4, 5, 6, 7, 8, 9] [some (chC es (N / 64) 2 (decide (es ≠ 0)) 4 10 (decide ((N / 64) ≠ 0)) 12 sent 1 g any hash), some (wcs true ww.1 ww.2), some (cC (.ptr 3 0) 0), some (u8s (S0 k es.toNat)), cb (decide (es ≠ 0)) 5, kb (decide (es ≠ 0)) (S1 k es.toNat), none, none, none, none] [some (cC (.ptr 11 0) 0), some (u8s (S0 r (N / 64).toNat)), cb (decide ((N / 64) ≠ 0)) 13, kb (decide ((N / 64) ≠ 0)) (S1 r (N / 64).toNat)] gm k_ (ha := (cac (et rfl) rfl (cac (et rfl) cm_int ca0))) (e2 := (pl1 rfl (chC_map rfl rfl rfl rfl rfl) (pl1 rfl rfl (pl1 rfl rfl (pl1 rfl sees_m (plb rfl (cb_map rfl) (plb rfl kb_map (pl1 rfl rfl (pl1 rfl sees_m (plb rfl (cb_map rfl) (plb rfl kb_map pl0))))))))))) (eL := (ml1 (chC_map rfl rfl rfl rfl rfl) (ml1 rfl (ml1 rfl (ml1 sees_m (mlb (cb_map rfl) (mlb kb_map (mln (mln (mln (mln ml0))))))))))) (eM := (ml1 rfl (ml1 sees_m (mlb (cb_map rfl) (mlb kb_map ml0)))))) ?_
  refine gend ?_
  refine awp_seq ?_
  refine rln ?_
  refine Mv ?_
  refine Mv ?_
  refine Mv ?_
  refine G (q_ncp ?_)
  refine G (q_fap ?_)
  refine G (q_ldp ?_)
  refine Mv ?_
  refine G (q_max64 ?_)
  refine G (q_ncp ?_)
  refine G (q_fap ?_)
  refine G20 (fun _ k_ => q_st k_) ?_
  refine G (q_ncp ?_)
  refine G (q_fap ?_)
  refine G20 (fun _ k_ => q_st (c := .bool true) k_) ?_
  refine gend ?_
  refine awp_seq ?_
  refine rln ?_
  refine Mv ?_
  refine Mv ?_
  refine As ?_
  refine As ?_
  refine G (q_as (s := sc (cn 0)) ?_)
  refine gend ?_
  refine awp_ret ?_
  rw [show p.length = f - 8 - 16 by omega]; exact fx3 [0, 1, 2, 3, 4, 5, 6, 7, 8, 9, 13, 14, 15, 16, 12] (hm0 := rfl) (hH := (pl1 rfl (chC_map rfl rfl rfl rfl rfl) (pl1 rfl rfl (pl1 rfl rfl (pl1 rfl sees_m (plb rfl (cb_map rfl) (plb rfl kb_map (plb rfl rfl (plb rfl rfl (plb rfl rfl (plb rfl rfl (pl1 rfl rfl (pl1 rfl sees_m (plb rfl (cb_map rfl) (plb rfl kb_map (pl1 rfl sees_m pl0)))))))))))))))) (hn := piB rfl)
set_option maxHeartbeats 1600000 in
/-- (*channel.Channel).Open -/
theorem chopen_m1_bad (k r hash : List UInt8) (es er sent g : UInt64) (any : Bool) (wg wb : UInt64) (hk : k.length = 32) (hr : r.length = 32) (hh : hash.length = 32) (fr : List UInt8) (f : Nat) (N : UInt64) (hf : fr.length = f) (h24 : 24 ≤ f) (hL : f ≤ 4120) (hN : gt (fr.take 8) = N) (hn : ¬ 281474976710655 < N) (hw : wchk true wg wb N = 0) (hq : ¬ er + 16 < N / 64) (hle : ¬ N / 64 ≤ er) (he : er.toNat % 2 = 1) (hop : aopen (kE r (N / 64).toNat) (anonce N) hash (fr.drop 8) = none) : Good Try.prog 11 [.c (.ptr 0 0), .c (.ro f (u8s fr))] [some (chC es er 2 (decide (es ≠ 0)) 4 6 (decide (er ≠ 0)) 8 sent 1 g any hash), some (wcs true wg wb), some (cC (.ptr 3 0) 0), some (u8s (S0 k es.toNat)), cb (decide (es ≠ 0)) 5, kb (decide (es ≠ 0)) (S1 k es.toNat), some (cC (.ptr 7 0) 0), some (u8s (S0 r er.toNat)), cb (decide (er ≠ 0)) 9, kb (decide (er ≠ 0)) (S1 r er.toNat)] (.t [.c .nils, .c (c64 0), .c (cn 8)]) [some (chC es er 2 (decide (es ≠ 0)) 4 6 (decide (er ≠ 0)) 8 sent 1 g any hash), some (wcs true wg wb), some (cC (.ptr 3 0) 0), some (u8s (S0 k es.toNat)), cb (decide (es ≠ 0)) 5, kb (decide (es ≠ 0)) (S1 k es.toNat), some (cC (.ptr 7 0) 0), some (u8s (S0 r er.toNat)), cb (decide (er ≠ 0)) 9, kb (decide (er ≠ 0)) (S1 r er.toNat)] := by
  have gg := get 8 (fr.take 8) (by rw [List.length_take]; omega) (by decide) (by decide)
  rw [hN] at gg
  have gc := check true wg wb N
  rw [hw] at gc
  have hdl : (fr.drop 8).length = f - 8 := by rw [List.length_drop, hf]
  have hS : S1 r er.toNat = kE r er.toNat := (S1_odd he).2.2
  have hN6 : er.toNat + (N / 64 - er).toNat = (N / 64).toNat := by
    have h := hle; rw [UInt64.le_iff_toNat_le] at h; rw [UInt64.toNat_sub_of_le _ _ (UInt64.le_iff_toNat_le.2 (by omega))]; omega
  have go := of_rf1 es er sent g (decide (es ≠ 0)) any hash (S0 k es.toNat) (S1 k es.toNat) (S0 r er.toNat) (S1 r er.toNat) wg wb (N / 64) hle ((mod2_nat _).trans he) (S1_len hr _)
  rw [show kE (S1 r er.toNat) (N / 64 - er).toNat = kE r (N / 64).toNat by rw [hS, kE_add, hN6]] at go
  have hone := ne_zero_odd he
  rw [hone]
  have hA : (kE r (N / 64).toNat).length = 32 := kE_len hr _
  have gs := copen_bad (kE r (N / 64).toNat) hash (fr.drop 8) N 32 (f - 8) hA hh (by decide) hdl (by omega) (fun h => hn (by rw [h]; decide)) hop
  refine good_frm 100 Try.func11 rfl rfl rfl rfl rfl rfl ?_
  refine awp_seq ?_
  refine rln ?_
  refine As ?_
  refine G (q_as (s := sc (c64 0)) ?_)
  refine G (q_as (s := sc (cn 0)) ?_)
  refine gend ?_
  refine awp_seq ?_
  refine awp_block ?_
  refine awp_seq ?_
  refine rln ?_
  refine Mv ?_
  refine G2 (fun _ k_ => q_callp (cthere _ _ _ _ _ _ _ _ _ _ _) k_ (ha := (cac (et rfl) (sees_ch rfl rfl rfl rfl) ca0))) ?_
  refine G (q_notb ?_)
  refine As ?_
  refine gend ?_
  refine cndbnN (fun hc1 => ?_) ?_; rotate_left
  · exact rfl
  refine awp_seq ?_
  refine rln ?_
  refine Mv ?_
  refine G (q_leno ?_)
  refine G (q_gtrn (y := 4120) ?_)
  refine As ?_
  refine gend ?_
  refine cndN (fun hc2 => ?_) ?_; rotate_left
  · omega
  refine awp_seq ?_
  refine rln ?_
  refine Mv ?_
  refine G (q_leno ?_)
  refine G (q_lssn (y := 24) ?_)
  refine As ?_
  refine gend ?_
  refine cndN (fun hc3 => ?_) ?_; rotate_left
  · omega
  refine awp_skip ?_
  refine awp_seq ?_
  refine rln ?_
  refine Mv ?_
  refine G (q_slo_hi (k := 8) ?_ (hc := cut_hi hf))
  refine G2 (fun _ k_ => q_callp gg k_ (ha := (cac (et rfl) sees_ro ca0))) ?_
  refine G (q_mv (s := .t _) ?_)
  refine G (q_ext (y := .c _) ?_)
  refine G (q_ext (y := .c _) ?_)
  refine As ?_
  refine As ?_
  refine gend ?_
  refine awp_seq ?_
  refine awp_seq ?_
  refine rln ?_
  refine Mv ?_
  refine G (q_gtr64 (y := 281474976710655) ?_)
  refine gend ?_
  refine cndN (fun hc4 => ?_) ?_; rotate_left
  · exact hn
  refine awp_skip ?_
  refine awp_seq ?_
  refine awp_seq ?_
  refine rln ?_
  refine Mv ?_
  refine G (q_ncp ?_)
  refine G (q_fap ?_)
  refine G (q_ldp ?_)
  refine Mv ?_
  refine G2 (fun _ k_ => q_callp gc k_ (ha := (cac (et rfl) (sees_ptr rfl rfl rfl rfl) (cac (et rfl) cm_int ca0)))) ?_
  refine As ?_
  refine gend ?_
  refine awp_seq ?_
  refine rln ?_
  refine Mv ?_
  refine G (q_neqn (y := 0) ?_)
  refine gend ?_
  refine cndN (fun hc5 => ?_) ?_; rotate_left
  · exact fun h => h rfl
  refine awp_skip ?_
  refine awp_seq ?_
  refine rln ?_
  refine Mv ?_
  refine G (q_quo64 (y := 64) ?_ (hz := by decide))
  refine As ?_
  refine gend ?_
  refine awp_seq ?_
  refine awp_seq ?_
  refine rln ?_
  refine Mv ?_
  refine Mv ?_
  refine G (q_ncp ?_)
  refine G (q_fap ?_)
  refine G (q_fap ?_)
  refine G (q_ldp ?_)
  refine G (q_add64 (y := 16) ?_)
  refine G (q_gtr64 ?_)
  refine gend ?_
  refine cndN (fun hc6 => ?_) ?_; rotate_left
  · exact hq
  refine awp_skip ?_
  refine awp_seq ?_
  refine rln ?_
  refine Mv ?_
  refine G (q_ncp ?_)
  refine G (q_fap ?_)
  refine Mv ?_
  refine G2 (fun _ k_ => q_callv [0, 1, 2, 3, 4, 5, 6, 7, 8, 9] [some (chC es er 2 (decide (es ≠ 0)) 4 6 true 8 sent 1 g any hash), some (wcs true wg wb), some (cC (.ptr 3 0) 0), some (u8s (S0 k es.toNat)), cb (decide (es ≠ 0)) 5, kb (decide (es ≠ 0)) (S1 k es.toNat), some (cC (.ptr 7 0) 0), some (u8s (S0 r er.toNat)), cb true 9, kb true (S1 r er.toNat)] [some (cC (.ptr 11 0) 0), some (u8s (kE r (N / 64).toNat))] go k_ (ha := (cac (et rfl) rfl (cac (et rfl) cm_int ca0))) (e2 := (pl1 rfl (chC_map rfl rfl rfl rfl rfl) (pl1 rfl rfl (pl1 rfl rfl (pl1 rfl sees_m (plb rfl (cb_map rfl) (plb rfl kb_map (pl1 rfl rfl (pl1 rfl sees_m (pl1 rfl rfl (pl1 rfl sees_m pl0))))))))))) (eL := (ml1 (chC_map rfl rfl rfl rfl rfl) (ml1 rfl (ml1 rfl (ml1 sees_m (mlb (cb_map rfl) (mlb kb_map (ml1 rfl (ml1 sees_m (ml1 rfl (ml1 sees_m ml0))))))))))) (eM := (ml1 rfl (ml1 sees_m ml0)))) ?_
  refine As ?_
  refine gend ?_
  refine awp_seq ?_
  refine rln ?_
  refine Mv ?_
  refine Mv ?_
  refine G2 (fun _ k_ => q_callv [10, 11] [some (cC (.ptr 1 0) N), some (u8s (kE r (N / 64).toNat))] [] (setn_k (kE r (N / 64).toNat) 0 N) k_ (ha := (cac (et rfl) rfl (cac (et rfl) cm_int ca0))) (e2 := (pl1 rfl rfl (pl1 rfl sees_m pl0))) (eL := (ml1 rfl (ml1 sees_m ml0))) (eM := ml0)) ?_
  refine gend ?_
  refine awp_seq ?_
  refine rdln [7] [0, 0, 0, 0, 0, 0, 0, 0, 1, 1, 1, 1, 1] [0, 0, 0, 0, 0, 0, 0, 1, 1, 1, 1, 1, 1] ?_
  refine Dp (fun _ => q_mv (s := .v (.c _)) ⟨rfl, rfl⟩) ?_
  refine Dp (fun _ => q_mv (s := .v (.c _)) ⟨rfl, rfl⟩) ?_
  refine Dp (fun _ => q_ncp ⟨rfl, rfl⟩) ?_
  refine Dp (fun _ => q_fap ⟨rfl, rfl⟩) ?_
  refine DSp 0 rfl (fun _ hv => q_slp_no ⟨rfl, rfl⟩ (hp := hv) (hl := ch_len hh)) ?_
  refine Dp (fun _ => q_mv (s := .v (.c _)) ⟨rfl, rfl⟩) ?_
  refine Dp (fun _ => q_slo_lo (j := 8) ⟨rfl, rfl⟩ (hc := cut_drop hf)) ?_
  refine De2 (fun _ k_ => q_callv [10, 11] [some (cC (.ptr 1 0) N), some (u8s (kE r (N / 64).toNat))] [] gs k_ (ha := (cac (et rfl) rfl (cac (et rfl) (sees_slc rfl rfl (ch_hash hh)) (cac (et rfl) sees_ro ca0)))) (e2 := (pl1 rfl rfl (pl1 rfl sees_m pl0))) (eL := (ml1 rfl (ml1 sees_m ml0))) (eM := ml0)) ?_
  refine Dp (fun _ => q_mv (s := .t _) ⟨rfl, rfl⟩) ?_
  refine Dp (fun _ => q_ext (y := .c _) ⟨rfl, rfl⟩) ?_
  refine Dp (fun _ => q_ext (y := .c _) ⟨rfl, rfl⟩) ?_
  refine Dp (fun _ => q_as (s := .v (.c _)) ⟨rfl, rfl⟩) ?_
  refine Dp (fun _ => q_as (s := .v (.c _)) ⟨rfl, rfl⟩) ?_
  refine dend ?_
  refine awp_seq ?_
  refine awp_seq ?_
  refine rln ?_
  refine Mv ?_
  refine G (q_neqn (y := 0) ?_)
  refine gend ?_
  refine cndY (fun hc7 => ?_) ?_; rotate_left
  · exact (by decide : (8 : Nat) ≠ 0)
  refine awp_seq ?_
  refine rln ?_
  refine Mv ?_
  refine As ?_
  refine G (q_as (s := sc (c64 0)) ?_)
  refine As ?_
  refine gend ?_
  refine awp_ret ?_
  exact fx3 [0, 1, 2, 3, 4, 5, 6, 7, 8, 9] (hm0 := rfl) (hH := (pl1 rfl (chC_map rfl rfl rfl rfl rfl) (pl1 rfl rfl (pl1 rfl rfl (pl1 rfl sees_m (plb rfl (cb_map rfl) (plb rfl kb_map (pl1 rfl rfl (pl1 rfl sees_m (pl1 rfl rfl (pl1 rfl sees_m pl0))))))))))) (hn := piB rfl)
set_option maxHeartbeats 1600000 in
/-- (*channel.Channel).Open -/
theorem chopen_m1_ok (k r hash : List UInt8) (es er sent g : UInt64) (any : Bool) (wg wb : UInt64) (hk : k.length = 32) (hr : r.length = 32) (hh : hash.length = 32) (fr : List UInt8) (f : Nat) (N : UInt64) (hf : fr.length = f) (h24 : 24 ≤ f) (hL : f ≤ 4120) (hN : gt (fr.take 8) = N) (hn : ¬ 281474976710655 < N) (hw : wchk true wg wb N = 0) (hq : ¬ er + 16 < N / 64) (hle : ¬ N / 64 ≤ er) (he : er.toNat % 2 = 1) (p : List UInt8) (hop : aopen (kE r (N / 64).toNat) (anonce N) hash (fr.drop 8) = some p) : Good Try.prog 11 [.c (.ptr 0 0), .c (.ro f (u8s fr))] [some (chC es er 2 (decide (es ≠ 0)) 4 6 (decide (er ≠ 0)) 8 sent 1 g any hash), some (wcs true wg wb), some (cC (.ptr 3 0) 0), some (u8s (S0 k es.toNat)), cb (decide (es ≠ 0)) 5, kb (decide (es ≠ 0)) (S1 k es.toNat), some (cC (.ptr 7 0) 0), some (u8s (S0 r er.toNat)), cb (decide (er ≠ 0)) 9, kb (decide (er ≠ 0)) (S1 r er.toNat)] (.t [.c (.slc 14 0 p.length 1), .c (c64 N), .c (cn 0)]) [some (chC es (N / 64) 2 (decide (es ≠ 0)) 4 10 (decide ((N / 64) ≠ 0)) 12 sent 1 (mx g N) true hash), some (wcs true (wnext true wg wb N).1 (wnext true wg wb N).2), some (cC (.ptr 3 0) 0), some (u8s (S0 k es.toNat)), cb (decide (es ≠ 0)) 5, kb (decide (es ≠ 0)) (S1 k es.toNat), none, none, none, none, some (cC (.ptr 11 0) 0), some (u8s (S0 r (N / 64).toNat)), cb (decide ((N / 64) ≠ 0)) 13, kb (decide ((N / 64) ≠ 0)) (S1 r (N / 64).toNat), some (u8s p)] := by
  have gg := get 8 (fr.take 8) (by rw [List.length_take]; omega) (by decide) (by decide)
  rw [hN] at gg
  have gc := check true wg wb N
  rw [hw] at gc
  have hdl : (fr.drop 8).length = f - 8 := by rw [List.length_drop, hf]
  have hS : S1 r er.toNat = kE r er.toNat := (S1_odd he).2.2
  have hN6 : er.toNat + (N / 64 - er).toNat = (N / 64).toNat := by
    have h := hle; rw [UInt64.le_iff_toNat_le] at h; rw [UInt64.toNat_sub_of_le _ _ (UInt64.le_iff_toNat_le.2 (by omega))]; omega
  have go := of_rf1 es er sent g (decide (es ≠ 0)) any hash (S0 k es.toNat) (S1 k es.toNat) (S0 r er.toNat) (S1 r er.toNat) wg wb (N / 64) hle ((mod2_nat _).trans he) (S1_len hr _)
  rw [show kE (S1 r er.toNat) (N / 64 - er).toNat = kE r (N / 64).toNat by rw [hS, kE_add, hN6]] at go
  have hone := ne_zero_odd he
  rw [hone]
  have hA : (kE r (N / 64).toNat).length = 32 := kE_len hr _
  have gs := copen_ok (kE r (N / 64).toNat) hash (fr.drop 8) N 32 (f - 8) hA hh (by decide) hdl (by omega) (fun h => hn (by rw [h]; decide)) p hop
  have hpl := aopen_len hop
  have gm := move_r es er sent g (decide (es ≠ 0)) any hash r (S0 k es.toNat) (S1 k es.toNat) (wnext true wg wb N).1 (wnext true wg wb N).2 (N / 64) hr
  rw [show mx er (N / 64) = N / 64 from if_pos (by rw [UInt64.lt_iff_toNat_lt]; have h := hle; rw [UInt64.le_iff_toNat_le] at h; omega)] at gm
  rw [hone] at gm
  obtain ⟨ww, hww⟩ : ∃ z, wnext true wg wb N = z := ⟨_, rfl⟩
  have gt_ := take true wg wb N
  rw [hww] at gt_ gm ⊢
  refine good_frm 100 Try.func11 rfl rfl rfl rfl rfl rfl ?_
  refine awp_seq ?_
  refine rln ?_
  refine As ?_
  refine G (q_as (s := sc (c64 0)) ?_)
  refine G (q_as (s := sc (cn 0)) ?_)
  refine gend ?_
  refine awp_seq ?_
  refine awp_block ?_
  refine awp_seq ?_
  refine rln ?_
  refine Mv ?_
  refine G2 (fun _ k_ => q_callp (cthere _ _ _ _ _ _ _ _ _ _ _) k_ (ha := (cac (et rfl) (sees_ch rfl rfl rfl rfl) ca0))) ?_
  refine G (q_notb ?_)
  refine As ?_
  refine gend ?_
  refine cndbnN (fun hc1 => ?_) ?_; rotate_left
  · exact rfl
  refine awp_seq ?_
  refine rln ?_
  refine Mv ?_
  refine G (q_leno ?_)
  refine G (q_gtrn (y := 4120) ?_)
  refine As ?_
  refine gend ?_
  refine cndN (fun hc2 => ?_) ?_; rotate_left
  · omega
  refine awp_seq ?_
  refine rln ?_
  refine Mv ?_
  refine G (q_leno ?_)
  refine G (q_lssn (y := 24) ?_)
  refine As ?_
  refine gend ?_
  refine cndN (fun hc3 => ?_) ?_; rotate_left
  · omega
  refine awp_skip ?_
  refine awp_seq ?_
  refine rln ?_
  refine Mv ?_
  refine G (q_slo_hi (k := 8) ?_ (hc := cut_hi hf))
  refine G2 (fun _ k_ => q_callp gg k_ (ha := (cac (et rfl) sees_ro ca0))) ?_
  refine G (q_mv (s := .t _) ?_)
  refine G (q_ext (y := .c _) ?_)
  refine G (q_ext (y := .c _) ?_)
  refine As ?_
  refine As ?_
  refine gend ?_
  refine awp_seq ?_
  refine awp_seq ?_
  refine rln ?_
  refine Mv ?_
  refine G (q_gtr64 (y := 281474976710655) ?_)
  refine gend ?_
  refine cndN (fun hc4 => ?_) ?_; rotate_left
  · exact hn
  refine awp_skip ?_
  refine awp_seq ?_
  refine awp_seq ?_
  refine rln ?_
  refine Mv ?_
  refine G (q_ncp ?_)
  refine G (q_fap ?_)
  refine G (q_ldp ?_)
  refine Mv ?_
  refine G2 (fun _ k_ => q_callp gc k_ (ha := (cac (et rfl) (sees_ptr rfl rfl rfl rfl) (cac (et rfl) cm_int ca0)))) ?_
  refine As ?_
  refine gend ?_
  refine awp_seq ?_
  refine rln ?_
  refine Mv ?_
  refine G (q_neqn (y := 0) ?_)
  refine gend ?_
  refine cndN (fun hc5 => ?_) ?_; rotate_left
  · exact fun h => h rfl
  refine awp_skip ?_
  refine awp_seq ?_
  refine rln ?_
  refine Mv ?_
  refine G (q_quo64 (y := 64) ?_ (hz := by decide))
  refine As ?_
  refine gend ?_
  refine awp_seq ?_
  refine awp_seq ?_
  refine rln ?_
  refine Mv ?_
  refine Mv ?_
  refine G (q_ncp ?_)
  refine G (q_fap ?_)
  refine G (q_fap ?_)
  refine G (q_ldp ?_)
  refine G (q_add64 (y := 16) ?_)
  refine G (q_gtr64 ?_)
  refine gend ?_
  refine cndN (fun hc6 => ?_) ?_; rotate_left
  · exact hq
  refine awp_skip ?_
  refine awp_seq ?_
  refine rln ?_
  refine Mv ?_
  refine G (q_ncp ?_)
  refine G (q_fap ?_)
  refine Mv ?_
  refine G2 (fun _ k_ => q_callv [0, 1, 2, 3, 4, 5, 6, 7, 8, 9] [some (chC es er 2 (decide (es ≠ 0)) 4 6 true 8 sent 1 g any hash), some (wcs true wg wb), some (cC (.ptr 3 0) 0), some (u8s (S0 k es.toNat)), cb (decide (es ≠ 0)) 5, kb (decide (es ≠ 0)) (S1 k es.toNat), some (cC (.ptr 7 0) 0), some (u8s (S0 r er.toNat)), cb true 9, kb true (S1 r er.toNat)] [some (cC (.ptr 11 0) 0), some (u8s (kE r (N / 64).toNat))] go k_ (ha := (cac (et rfl) rfl (cac (et rfl) cm_int ca0))) (e2 := (pl1 rfl (chC_map rfl rfl rfl rfl rfl) (pl1 rfl rfl (pl1 rfl rfl (pl1 rfl sees_m (plb rfl (cb_map rfl) (plb rfl kb_map (pl1 rfl rfl (pl1 rfl sees_m (pl1 rfl rfl (pl1 rfl sees_m pl0))))))))))) (eL := (ml1 (chC_map rfl rfl rfl rfl rfl) (ml1 rfl (ml1 rfl (ml1 sees_m (mlb (cb_map rfl) (mlb kb_map (ml1 rfl (ml1 sees_m (ml1 rfl (ml1 sees_m ml0))))))))))) (eM := (ml1 rfl (ml1 sees_m ml0)))) ?_
  refine As ?_
  refine gend ?_
  refine awp_seq ?_
  refine rln ?_
  refine Mv ?_
  refine Mv ?_
  refine G2 (fun _ k_ => q_callv [10, 11] [some (cC (.ptr 1 0) N), some (u8s (kE r (N / 64).toNat))] [] (setn_k (kE r (N / 64).toNat) 0 N) k_ (ha := (cac (et rfl) rfl (cac (et rfl) cm_int ca0))) (e2 := (pl1 rfl rfl (pl1 rfl sees_m pl0))) (eL := (ml1 rfl (ml1 sees_m ml0))) (eM := ml0)) ?_
  refine gend ?_
  refine awp_seq ?_
  refine rdln [7] [0, 0, 0, 0, 0, 0, 0, 0, 1, 1, 1, 1, 1] [0, 0, 0, 0, 0, 0, 0, 1, 1, 1, 1, 1, 1] ?_
  refine Dp (fun _ => q_mv (s := .v (.c _)) ⟨rfl, rfl⟩) ?_
  refine Dp (fun _ => q_mv (s := .v (.c _)) ⟨rfl, rfl⟩) ?_
  refine Dp (fun _ => q_ncp ⟨rfl, rfl⟩) ?_
  refine Dp (fun _ => q_fap ⟨rfl, rfl⟩) ?_
  refine DSp 0 rfl (fun _ hv => q_slp_no ⟨rfl, rfl⟩ (hp := hv) (hl := ch_len hh)) ?_
  refine Dp (fun _ => q_mv (s := .v (.c _)) ⟨rfl, rfl⟩) ?_
  refine Dp (fun _ => q_slo_lo (j := 8) ⟨rfl, rfl⟩ (hc := cut_drop hf)) ?_
  refine De2 (fun _ k_ => q_callv [10, 11] [some (cC (.ptr 1 0) (N + 1)), some (u8s (kE r (N / 64).toNat))] [some (u8s p)] gs k_ (ha := (cac (et rfl) rfl (cac (et rfl) (sees_slc rfl rfl (ch_hash hh)) (cac (et rfl) sees_ro ca0)))) (e2 := (pl1 rfl rfl (pl1 rfl sees_m pl0))) (eL := (ml1 rfl (ml1 sees_m ml0))) (eM := (ml1 sees_m ml0))) ?_
  refine Dp (fun _ => q_mv (s := .t _) ⟨rfl, rfl⟩) ?_
  refine Dp (fun _ => q_ext (y := .c _) ⟨rfl, rfl⟩) ?_
  refine Dp (fun _ => q_ext (y := .c _) ⟨rfl, rfl⟩) ?_
  refine Dp (fun _ => q_as (s := .v (.c _)) ⟨rfl, rfl⟩) ?_
  refine Dp (fun _ => q_as (s := .v (.c _)) ⟨rfl, rfl⟩) ?_
  refine dend ?_
  refine awp_seq ?_
  refine awp_seq ?_
  refine rln ?_
  refine Mv ?_
  refine G (q_neqn (y := 0) ?_)
  refine gend ?_
  refine cndN (fun hc7 => ?_) ?_; rotate_left
  · exact fun h => h rfl
  refine awp_skip ?_
  refine awp_seq ?_
  refine rln ?_
  refine Mv ?_
  refine G (q_ncp ?_)
  refine G (q_fap ?_)
  refine G (q_ldp ?_)
  refine Mv ?_
  refine G2 (fun _ k_ => q_callw 1 gt_ k_ (ha := (cac (et rfl) rfl (cac (et rfl) cm_int ca0)))) ?_
  refine gend ?_
  refine awp_seq ?_
  refine rln ?_
  refine Mv ?_
  refine G (q_ncp ?_)
  refine G (q_fap ?_)
  refine Mv ?_
  refine G2 (fun _ k_ => q_callv [0, 1, 2, 3, 4, 5, 6, 7, 8, 9] [some (chC es (N / 64) 2 (decide (es ≠ 0)) 4 10 (decide ((N / 64) ≠ 0)) 12 sent 1 g any hash), some (wcs true ww.1 ww.2), some (cC (.ptr 3 0) 0), some (u8s (S0 k es.toNat)), cb (decide (es ≠ 0)) 5, kb (decide (es ≠ 0)) (S1 k es.toNat), none, none, none, none] [some (cC (.ptr 11 0) 0), some (u8s (S0 r (N / 64).toNat)), cb (decide ((N / 64) ≠ 0)) 13, kb (decide ((N / 64) ≠ 0)) (S1 r (N / 64).toNat)] gm k_ (ha := (cac (et rfl) rfl (cac (et rfl) cm_int ca0))) (e2 := (pl1 rfl (chC_map rfl rfl rfl rfl rfl) (pl1 rfl rfl (pl1 rfl rfl (pl1 rfl sees_m (plb rfl (cb_map rfl) (plb rfl kb_map (pl1 rfl rfl (pl1 rfl sees_m (pl1 rfl rfl (pl1 rfl sees_m pl0))))))))))) (eL := (ml1 (chC_map rfl rfl rfl rfl rfl) (ml1 rfl (ml1 rfl (ml1 sees_m (mlb (cb_map rfl) (mlb kb_map (mln (mln (mln (mln ml0))))))))))) (eM := (ml1 rfl (ml1 sees_m (mlb (cb_map rfl) (mlb kb_map ml0)))))) ?_
  refine gend ?_
  refine awp_seq ?_
  refine rln ?_
  refine Mv ?_
  refine Mv ?_
  refine Mv ?_
  refine G (q_ncp ?_)
  refine G (q_fap ?_)
  refine G (q_ldp ?_)
  refine Mv ?_
  refine G (q_max64 ?_)
  refine G (q_ncp ?_)
  refine G (q_fap ?_)
  refine G20 (fun _ k_ => q_st k_) ?_
  refine G (q_ncp ?_)
  refine G (q_fap ?_)
  refine G20 (fun _ k_ => q_st (c := .bool true) k_) ?_
  refine gend ?_
  refine awp_seq ?_
  refine rln ?_
  refine Mv ?_
  refine Mv ?_
  refine As ?_
  refine As ?_
  refine G (q_as (s := sc (cn 0)) ?_)
  refine gend ?_
  refine awp_ret ?_
  rw [show p.length = f - 8 - 16 by omega]; exact fx3 [0, 1, 2, 3, 4, 5, 6, 7, 8, 9, 13, 14, 15, 16, 12] (hm0 := rfl) (hH := (pl1 rfl (chC_map rfl rfl rfl rfl rfl) (pl1 rfl rfl (pl1 rfl rfl (pl1 rfl sees_m (plb rfl (cb_map rfl) (plb rfl kb_map (plb rfl rfl (plb rfl rfl (plb rfl rfl (plb rfl rfl (pl1 rfl rfl (pl1 rfl sees_m (plb rfl (cb_map rfl) (plb rfl kb_map (pl1 rfl sees_m pl0)))))))))))))))) (hn := piB rfl)
end Go.Proofs.Ytklcckngmmklhaa

/- What functions of the program do, walked over the abstract machine. -/
namespace Go.Proofs.Ytklcckngmmklhaa
open Go Go.Abs Go.Proofs Go.Proofs.Ytklcckngmmklhaa.Ch Go.Proofs.Ytklcckngmmklhaa.Po Go.Proofs.Ytklcckngmmklhaa.Ae Go.Proofs.Ytklcckngmmklhaa.Wd

set_option maxRecDepth 20000
/-- (*channel.keys).of -/
theorem of_k0 (K : List UInt8) (ep : UInt64) (hle : ep ≤ 0) (hp : (ep % 2).toNat = 0) : Good Try.prog 28 [.c (.ptr 0 0), .c (c64 ep)] [some [c64 0, .ptr 1 0, .nilp], some (cC (.ptr 2 0) 0), some (u8s K)] (sc (.ptr 3 0)) [some [c64 0, .ptr 1 0, .nilp], some (cC (.ptr 2 0) 0), some (u8s K), some (cC (.ptr 2 0) 0)] := by
  refine good_frm 43 Try.func28 rfl rfl rfl rfl rfl rfl ?_
  refine awp_seq ?_
  refine rln ?_
  refine As ?_
  refine gend ?_
  refine awp_seq ?_
  refine awp_seq ?_
  refine rln ?_
  refine Mv ?_
  refine Mv ?_
  refine G (q_ncp ?_)
  refine G (q_fap ?_)
  refine G (q_ldp ?_)
  refine G (q_leq64 ?_)
  refine gend ?_
  refine cndY (fun hc1 => ?_) ?_; rotate_left
  · exact hle
  refine awp_seq ?_
  refine rln ?_
  refine Mv ?_
  refine Mv ?_
  refine G (q_rem64 (y := 2) ?_ (hz := by decide))
  refine G (q_ncp ?_)
  refine G (q_fap ?_)
  refine G (q_ixp (j := 0) ?_ (hi := ix64j (et rfl) hp))
  refine G (q_ldp ?_)
  refine G2 (fun _ k_ => q_callv [1, 2] [some (cC (.ptr 1 0) 0), some (u8s K)] [some (cC (.ptr 1 0) 0)] (copy_k K 0) k_ (ha := (cac (et rfl) rfl ca0)) (e2 := (pl1 rfl rfl (pl1 rfl sees_m pl0))) (eL := (ml1 rfl (ml1 sees_m ml0))) (eM := (ml1 rfl ml0))) ?_
  refine As ?_
  refine gend ?_
  refine awp_ret ?_
  exact fx1 [0, 1, 2, 3] (hm0 := rfl) (hH := (pl1 rfl rfl (pl1 rfl rfl (pl1 rfl sees_m (pl1 rfl rfl pl0))))) (hn := piB rfl)
def kq4 : Nat → Nat → Nat
  | 0, a => a
  | _ + 1, _ => 4
theorem kq4_z {i a : Nat} (h : i = 0) : kq4 i a = a := by subst h; rfl
theorem kq4_p {i a : Nat} (h : 0 < i) : kq4 i a = 4 := by cases i; cases h; rfl
set_option maxHeartbeats 1600000 in
/-- (*channel.keys).of -/
theorem of_kf (K : List UInt8) (ep : UInt64) (hle : ¬ ep ≤ 0) (hK : K.length = 32) : Good Try.prog 28 [.c (.ptr 0 0), .c (c64 ep)] [some [c64 0, .ptr 1 0, .nilp], some (cC (.ptr 2 0) 0), some (u8s K)] (sc (.ptr 3 0)) [some [c64 0, .ptr 1 0, .nilp], some (cC (.ptr 2 0) 0), some (u8s K), some (cC (.ptr 4 0) 0), some (u8s (kE K (ep - 0).toNat))] := by
  refine good_frm 43 Try.func28 rfl rfl rfl rfl rfl rfl ?_
  refine awp_seq ?_
  refine rln ?_
  refine As ?_
  refine gend ?_
  refine awp_seq ?_
  refine awp_seq ?_
  refine rln ?_
  refine Mv ?_
  refine Mv ?_
  refine G (q_ncp ?_)
  refine G (q_fap ?_)
  refine G (q_ldp ?_)
  refine G (q_leq64 ?_)
  refine gend ?_
  refine cndN (fun hc1 => ?_) ?_; rotate_left
  · exact hle
  refine awp_skip ?_
  refine awp_seq ?_
  refine rdln [10] [0, 0, 0, 0, 0, 0, 0, 0, 0, 0, 0, 1] [0, 0, 0, 0, 0, 0, 0, 0, 0, 0, 1, 1] ?_
  refine Dp (fun _ => q_mv (s := .v (.c _)) ⟨rfl, rfl⟩) ?_
  refine Dp (fun _ => q_mv (s := .v (.c _)) ⟨rfl, rfl⟩) ?_
  refine Dp (fun _ => q_ncp ⟨rfl, rfl⟩) ?_
  refine Dp (fun _ => q_fap ⟨rfl, rfl⟩) ?_
  refine DLp ?_
  refine Dp (fun _ => q_rem64 (y := 2) ⟨rfl, rfl⟩ (hz := by decide)) ?_
  refine Dp (fun _ => q_ncp ⟨rfl, rfl⟩) ?_
  refine Dp (fun _ => q_fap ⟨rfl, rfl⟩) ?_
  refine Dp (fun _ => q_ixp (j := 0) ⟨rfl, rfl⟩ (hi := ix64j (et rfl) (by decide))) ?_
  refine DLp ?_
  refine De2 (fun _ k_ => q_callv [1, 2] [some (cC (.ptr 1 0) 0), some (u8s K)] [some (cC (.ptr 1 0) 0)] (copy_k K 0) k_ (ha := (cac (et rfl) rfl ca0)) (e2 := (pl1 rfl rfl (pl1 rfl sees_m pl0))) (eL := (ml1 rfl (ml1 sees_m ml0))) (eM := (ml1 rfl ml0))) ?_
  refine Dp (fun _ => q_as (s := .v (.c _)) ⟨rfl, rfl⟩) ?_
  refine dend ?_
  refine awp_seq ?_
  refine awp_seq ?_
  refine rln ?_
  refine Mv ?_
  refine Mv ?_
  refine G (q_ncp ?_)
  refine G (q_fap ?_)
  refine G (q_ldp ?_)
  refine G (q_sub64 ?_)
  refine G (q_mv (s := sc (c64 0)) ?_)
  refine gend ?_
  refine awp_block ?_
  refine awp_loop (fun x : {i : Nat // i ≤ (ep - 0).toNat} => ⟨frm 43 [(5, sc (.ptr 3 0)), (36, sc (c64 (ep - 0))), (37, sc (c64 (UInt64.ofNat x.1)))], [some [c64 0, .ptr 1 0, .nilp], some (cC (.ptr 2 0) 0), some (u8s K), some (cC (.ptr (kq4 x.1 2) 0) 0), kx x.1 K]⟩) (fun x => (ep - 0).toNat - x.1) ⟨0, Nat.zero_le _⟩ (sle_ren [(0, true), (1, true), (2, true), (3, true), (3, false)] rfl (piT rfl) ⟨rfl, rfl, rfl, trivial⟩ (Eq.symm (a := renL _ _ _) (rlT rfl rfl (rlT rfl rfl (rlT rfl sees_m (rlT rfl rfl (rlF rl0))))))) fun x => ?_   -- live: [5, 36, 37]
  have hlt := ofNat_lt (e := ep - 0) x.2
  refine awp_seq ?_
  refine rln ?_
  refine G (q_lss64 ?_)
  refine gend ?_
  refine awp_seq ?_
  refine cnd (fun hc2 => ?_) (fun hc2 => ?_); rotate_left
  · refine awp_exit ?_
    rw [show x.1 = (ep - 0).toNat from (by have := x.2; have := mt hlt.2 hc2; omega)]
    refine reheap [(5, sc (.ptr 3 0))] [some [c64 0, .ptr 1 0, .nilp], some (cC (.ptr 2 0) 0), some (u8s K), some (cC (.ptr 4 0) 0), some (u8s (kE K (ep - 0).toNat))] ?_ ⟨rfl, trivial⟩ (by rw [kq4_p (sub_pos hle), kx_p (sub_pos hle)])
    refine awp_seq ?_
    refine rln ?_
    refine Mv ?_
    refine As ?_
    refine gend ?_
    refine awp_ret ?_
    exact fx1 [0, 1, 2, 3, 4] (hm0 := rfl) (hH := (pl1 rfl rfl (pl1 rfl rfl (pl1 rfl sees_m (pl1 rfl rfl (pl1 rfl sees_m pl0)))))) (hn := piB rfl)
  refine awp_skip ?_
  rcases Nat.eq_zero_or_pos x.1 with h0 | h0
  · have hKl := hK
    refine reheap [(5, sc (.ptr 3 0)), (36, sc (c64 (ep - 0))), (37, sc (c64 (UInt64.ofNat x.1)))] [some [c64 0, .ptr 1 0, .nilp], some (cC (.ptr 2 0) 0), some (u8s K), some (cC (.ptr 2 0) 0), none] ?_ ⟨rfl, rfl, rfl, trivial⟩ (by rw [kq4_z h0, kx_z h0])
    refine awp_seq ?_
    refine awp_block ?_
    refine rln ?_
    refine Mv ?_
    refine G2 (fun _ k_ => q_callv [3, 2] [some (cC (.ptr 2 0) 0), some (u8s K)] [some (u8s (anext K))] (rekey_k K 0 hKl) k_ (ha := (cac (et rfl) rfl ca0)) (e2 := (pl1 rfl rfl (pl1 rfl sees_m pl0))) (eL := (ml1 rfl (ml1 sees_m ml0))) (eM := (ml1 sees_m ml0))) ?_
    refine gend ?_
    refine rln ?_
    refine G (q_add64 (y := 1) ?_)
    refine Mv ?_
    refine gend ?_
    exact ⟨⟨x.1 + 1, hlt.1 hc2⟩, by show (ep - 0).toNat - (x.1 + 1) < (ep - 0).toNat - x.1; have := hlt.1 hc2; omega, sle_ren [(0, true), (1, true), (2, true), (3, true), (5, true)] rfl (piT rfl) ⟨rfl, rfl, congrArg (fun z => sc (c64 z)) (ofNat_succ x.1), trivial⟩ (Eq.symm (a := renL _ _ _) (rlT rfl rfl (rlT rfl rfl (rlT rfl sees_m (rlT rfl rfl (rlT rfl (sees_m.trans (by rw [h0]; rfl)) rl0))))))⟩   -- endloop 1
  · have hKl := kE_len hK x.1
    refine reheap [(5, sc (.ptr 3 0)), (36, sc (c64 (ep - 0))), (37, sc (c64 (UInt64.ofNat x.1)))] [some [c64 0, .ptr 1 0, .nilp], some (cC (.ptr 2 0) 0), some (u8s K), some (cC (.ptr 4 0) 0), some (u8s (kE K x.1))] ?_ ⟨rfl, rfl, rfl, trivial⟩ (by rw [kq4_p h0, kx_p h0])
    refine awp_seq ?_
    refine awp_block ?_
    refine rln ?_
    refine Mv ?_
    refine G2 (fun _ k_ => q_callv [3, 4] [some (cC (.ptr 2 0) 0), some (u8s (kE K x.1))] [some (u8s (anext (kE K x.1)))] (rekey_k (kE K x.1) 0 hKl) k_ (ha := (cac (et rfl) rfl ca0)) (e2 := (pl1 rfl rfl (pl1 rfl sees_m pl0))) (eL := (ml1 rfl (ml1 sees_m ml0))) (eM := (ml1 sees_m ml0))) ?_
    refine gend ?_
    refine rln ?_
    refine G (q_add64 (y := 1) ?_)
    refine Mv ?_
    refine gend ?_
    exact ⟨⟨x.1 + 1, hlt.1 hc2⟩, by show (ep - 0).toNat - (x.1 + 1) < (ep - 0).toNat - x.1; have := hlt.1 hc2; omega, sle_ren [(0, true), (1, true), (2, true), (3, true), (5, true)] rfl (piT rfl) ⟨rfl, rfl, congrArg (fun z => sc (c64 z)) (ofNat_succ x.1), trivial⟩ (Eq.symm (a := renL _ _ _) (rlT rfl rfl (rlT rfl rfl (rlT rfl sees_m (rlT rfl rfl (rlT rfl sees_m rl0))))))⟩   -- endloop 1
/-- channel.Key -/
theorem chkey_far (K : List UInt8) (ep : UInt64) (hK : K.length = 32) (he : 1024 < ep) : Good Try.prog 12 [.c (.ptr 0 0), .c (c64 ep)] [some (cC (.ptr 1 0) 0), some (u8s K)] (.t [.c .nilp, .c (cn 11)]) [some (cC (.ptr 1 0) 0), some (u8s K)] := by
  refine good_frm 26 Try.func12 rfl rfl rfl rfl rfl rfl ?_
  refine awp_seq ?_
  refine rln ?_
  refine As ?_
  refine G (q_as (s := sc (cn 0)) ?_)
  refine gend ?_
  refine awp_seq ?_
  refine awp_block ?_
  refine awp_seq ?_
  refine rln ?_
  refine Mv ?_
  refine G2 (fun _ k_ => q_callp (has_k (u8s K) _) k_ (ha := (cac (et rfl) (sees_key rfl rfl hK rfl rfl) ca0))) ?_
  refine G (q_notb ?_)
  refine As ?_
  refine gend ?_
  refine cndbnN (fun hc1 => ?_) ?_; rotate_left
  · exact rfl
  refine awp_seq ?_
  refine rln ?_
  refine Mv ?_
  refine G (q_gtr64 (y := 1024) ?_)
  refine As ?_
  refine gend ?_
  refine cndY (fun hc2 => ?_) ?_; rotate_left
  · exact he
  refine awp_seq ?_
  refine rln ?_
  refine As ?_
  refine G (q_as (s := sc (cn 11)) ?_)
  refine gend ?_
  refine awp_ret ?_
  exact fx2 [0, 1] (hH := pl1 rfl rfl (pl1 rfl sees_m pl0))
/-- channel.Key -/
theorem chkey_0 (K : List UInt8) (hK : K.length = 32) : Good Try.prog 12 [.c (.ptr 0 0), .c (c64 0)] [some (cC (.ptr 1 0) 0), some (u8s K)] (.t [.c (.ptr 2 0), .c (cn 0)]) [some (cC (.ptr 1 0) 0), some (u8s K), some (cC (.ptr 1 0) 0)] := by
  refine good_frm 26 Try.func12 rfl rfl rfl rfl rfl rfl ?_
  refine awp_seq ?_
  refine rln ?_
  refine As ?_
  refine G (q_as (s := sc (cn 0)) ?_)
  refine gend ?_
  refine awp_seq ?_
  refine awp_block ?_
  refine awp_seq ?_
  refine rln ?_
  refine Mv ?_
  refine G2 (fun _ k_ => q_callp (has_k (u8s K) _) k_ (ha := (cac (et rfl) (sees_key rfl rfl hK rfl rfl) ca0))) ?_
  refine G (q_notb ?_)
  refine As ?_
  refine gend ?_
  refine cndbnN (fun hc1 => ?_) ?_; rotate_left
  · exact rfl
  refine awp_seq ?_
  refine rln ?_
  refine Mv ?_
  refine G (q_gtr64 (y := 1024) ?_)
  refine As ?_
  refine gend ?_
  refine cndN (fun hc2 => ?_) ?_; rotate_left
  · decide
  refine awp_skip ?_
  refine awp_seq ?_
  refine rln ?_
  refine Mv ?_
  refine G2 (fun _ k_ => q_callv [0, 1] [some (cC (.ptr 1 0) 0), some (u8s K)] [some (cC (.ptr 1 0) 0)] (copy_k K 0) k_ (ha := (cac (et rfl) rfl ca0)) (e2 := (pl1 rfl rfl (pl1 rfl sees_m pl0))) (eL := (ml1 rfl (ml1 sees_m ml0))) (eM := (ml1 rfl ml0))) ?_
  refine G (q_bla (fkc rfl (et rfl) rfl (Nat.le_of_ble_eq_true rfl) (fk0 ?_)))
  refine G (q_bls (fka rfl (et rfl) rfl (Nat.le_of_ble_eq_true rfl) (fk0 ?_)))
  refine G2 (fun _ k_ => q_boxa k_) ?_
  refine As ?_
  refine gend ?_
  refine awp_seq ?_
  refine rln ?_
  refine Mv ?_
  refine Mv ?_
  refine G2 (fun _ k_ => q_callv [3, 2, 1] [some [c64 0, .ptr 1 0, .nilp], some (cC (.ptr 2 0) 0), some (u8s K)] [some (cC (.ptr 2 0) 0)] (of_k0 K 0 (by decide) rfl) k_ (ha := (cac (et rfl) rfl (cac (et rfl) cm_int ca0))) (e2 := (pl1 rfl rfl (pl1 rfl rfl (pl1 rfl sees_m pl0)))) (eL := (ml1 rfl (ml1 rfl (ml1 sees_m ml0)))) (eM := (ml1 rfl ml0))) ?_
  refine As ?_
  refine gend ?_
  refine awp_seq ?_
  refine rln ?_
  refine Mv ?_
  refine G2 (fun _ k_ => q_callv [4, 1] [some (cC (.ptr 1 0) 0), some (u8s K)] [] (setn_k K 0 0) k_ (ha := (cac (et rfl) rfl (cac rfl cm_int ca0))) (e2 := (pl1 rfl rfl (pl1 rfl sees_m pl0))) (eL := (ml1 rfl (ml1 sees_m ml0))) (eM := ml0)) ?_
  refine gend ?_
  refine awp_seq ?_
  refine rln ?_
  refine Mv ?_
  refine As ?_
  refine G (q_as (s := sc (cn 0)) ?_)
  refine gend ?_
  refine awp_ret ?_
  exact fx2 [0, 1, 4] (hm0 := rfl) (hH := (pl1 rfl rfl (pl1 rfl sees_m (pl1 rfl rfl pl0)))) (hn := piB rfl)
/-- channel.Key -/
theorem chkey (K : List UInt8) (ep : UInt64) (hK : K.length = 32) (h0 : ¬ ep ≤ 0) (he : ¬ 1024 < ep) : Good Try.prog 12 [.c (.ptr 0 0), .c (c64 ep)] [some (cC (.ptr 1 0) 0), some (u8s K)] (.t [.c (.ptr 2 0), .c (cn 0)]) [some (cC (.ptr 1 0) 0), some (u8s K), some (cC (.ptr 3 0) 0), some (u8s (kE K (ep - 0).toNat))] := by
  have hX := kE_len hK (ep - 0).toNat
  refine good_frm 26 Try.func12 rfl rfl rfl rfl rfl rfl ?_
  refine awp_seq ?_
  refine rln ?_
  refine As ?_
  refine G (q_as (s := sc (cn 0)) ?_)
  refine gend ?_
  refine awp_seq ?_
  refine awp_block ?_
  refine awp_seq ?_
  refine rln ?_
  refine Mv ?_
  refine G2 (fun _ k_ => q_callp (has_k (u8s K) _) k_ (ha := (cac (et rfl) (sees_key rfl rfl hK rfl rfl) ca0))) ?_
  refine G (q_notb ?_)
  refine As ?_
  refine gend ?_
  refine cndbnN (fun hc1 => ?_) ?_; rotate_left
  · exact rfl
  refine awp_seq ?_
  refine rln ?_
  refine Mv ?_
  refine G (q_gtr64 (y := 1024) ?_)
  refine As ?_
  refine gend ?_
  refine cndN (fun hc2 => ?_) ?_; rotate_left
  · exact he
  refine awp_skip ?_
  refine awp_seq ?_
  refine rln ?_
  refine Mv ?_
  refine G2 (fun _ k_ => q_callv [0, 1] [some (cC (.ptr 1 0) 0), some (u8s K)] [some (cC (.ptr 1 0) 0)] (copy_k K 0) k_ (ha := (cac (et rfl) rfl ca0)) (e2 := (pl1 rfl rfl (pl1 rfl sees_m pl0))) (eL := (ml1 rfl (ml1 sees_m ml0))) (eM := (ml1 rfl ml0))) ?_
  refine G (q_bla (fkc rfl (et rfl) rfl (Nat.le_of_ble_eq_true rfl) (fk0 ?_)))
  refine G (q_bls (fka rfl (et rfl) rfl (Nat.le_of_ble_eq_true rfl) (fk0 ?_)))
  refine G2 (fun _ k_ => q_boxa k_) ?_
  refine As ?_
  refine gend ?_
  refine awp_seq ?_
  refine rln ?_
  refine Mv ?_
  refine Mv ?_
  refine G2 (fun _ k_ => q_callv [3, 2, 1] [some [c64 0, .ptr 1 0, .nilp], some (cC (.ptr 2 0) 0), some (u8s K)] [some (cC (.ptr 4 0) 0), some (u8s (kE K (ep - 0).toNat))] (of_kf K ep h0 hK) k_ (ha := (cac (et rfl) rfl (cac (et rfl) cm_int ca0))) (e2 := (pl1 rfl rfl (pl1 rfl rfl (pl1 rfl sees_m pl0)))) (eL := (ml1 rfl (ml1 rfl (ml1 sees_m ml0)))) (eM := (ml1 rfl (ml1 sees_m ml0)))) ?_
  refine As ?_
  refine gend ?_
  refine awp_seq ?_
  refine rln ?_
  refine Mv ?_
  refine G2 (fun _ k_ => q_callv [4, 5] [some (cC (.ptr 1 0) 0), some (u8s (kE K (ep - 0).toNat))] [] (setn_k (kE K (ep - 0).toNat) 0 0) k_ (ha := (cac (et rfl) rfl (cac rfl cm_int ca0))) (e2 := (pl1 rfl rfl (pl1 rfl sees_m pl0))) (eL := (ml1 rfl (ml1 sees_m ml0))) (eM := ml0)) ?_
  refine gend ?_
  refine awp_seq ?_
  refine rln ?_
  refine Mv ?_
  refine As ?_
  refine G (q_as (s := sc (cn 0)) ?_)
  refine gend ?_
  refine awp_ret ?_
  exact fx2 [0, 1, 4, 5] (hm0 := rfl) (hH := (pl1 rfl rfl (pl1 rfl sees_m (pl1 rfl rfl (pl1 rfl sees_m pl0))))) (hn := piB rfl)
end Go.Proofs.Ytklcckngmmklhaa

/- What functions of the program do, walked over the abstract machine. -/
namespace Go.Proofs.Ytklcckngmmklhaa
open Go Go.Abs Go.Proofs Go.Proofs.Ytklcckngmmklhaa.Ch Go.Proofs.Ytklcckngmmklhaa.Po Go.Proofs.Ytklcckngmmklhaa.Ae Go.Proofs.Ytklcckngmmklhaa.Wd

set_option maxRecDepth 20000
/-- The window after an opening. -/
def wn (o : List UInt8 × UInt64 × Nat × List UInt64) (wg wb : UInt64) : UInt64 × UInt64 := if o.2.2.1 = 0 then wnext true wg wb o.2.1 else (wg, wb)
theorem slot0 {k : List UInt8} {e n : Nat} (h1 : n ≤ e) (h2 : e ≤ n + 1) (hp : n % 2 = 0) : S0 k e = kE k n := by
  unfold S0; congr 1; omega
theorem slot1 {k : List UInt8} {e n : Nat} (h1 : n ≤ e) (h2 : e ≤ n + 1) (hp : n % 2 = 1) : S1 k e = kE k n := by
  unfold S1; congr 1; split <;> omega
theorem grl_app (l : List UInt64) (n : UInt64) : grl (l ++ [n]) = mx (grl l) n := by
  unfold grl mx; rw [List.foldl_append]; rfl
theorem grl_le {l : List UInt64} {m : Nat} (h : ∀ x ∈ l, x.toNat ≤ m) : (grl l).toNat ≤ m := by
  rcases (grl_spec l).2 with h1 | h1
  · rw [h1]; exact Nat.zero_le _
  · exact h _ h1
theorem d64 (n : UInt64) : (n / 64).toNat = n.toNat / 64 := by rw [UInt64.toNat_div]; rfl
theorem rchk_0 {l : List UInt64} {n : UInt64} (hM : ∀ x ∈ l, x.toNat ≤ 281474976710655) (hn : n.toNat ≤ 281474976710655) (h1 : n ∉ l) (h2 : ¬ (0 < l.length ∧ n + 64 ≤ grl l)) : rchk l n = 0 := by
  have hg := grl_le hM
  have ho : rold l n = false := by
    by_cases hp : 0 < l.length
    · have h3 : ¬ n + 64 ≤ grl l := fun h => h2 ⟨hp, h⟩
      rw [UInt64.le_iff_toNat_le, UInt64.toNat_add, show (64 : UInt64).toNat = 64 from rfl, Nat.mod_eq_of_lt (by omega)] at h3
      by_cases hlt : n < grl l
      · have h4 : ¬ 64 ≤ grl l - n := by
          rw [UInt64.le_iff_toNat_le, UInt64.toNat_sub_of_le _ _ (UInt64.le_of_lt hlt), show (64 : UInt64).toNat = 64 from rfl]; omega
        simp [rold, h4]
      · simp [rold, hlt]
    · simp [rold, hp]
  simp [rchk, rcame, h1, ho]
theorem rchk_10 {l : List UInt64} {n : UInt64} (hM : ∀ x ∈ l, x.toNat ≤ 281474976710655) (hn : n.toNat ≤ 281474976710655) (h : n ∈ l ∨ (0 < l.length ∧ n + 64 ≤ grl l)) : rchk l n = 10 := by
  have hg := grl_le hM
  rcases h with h | ⟨h1, h2⟩
  · cases ho : rold l n <;> simp [rchk, rcame, h, ho]
  · rw [UInt64.le_iff_toNat_le, UInt64.toNat_add, show (64 : UInt64).toNat = 64 from rfl, Nat.mod_eq_of_lt (by omega)] at h2
    have hlt : n < grl l := by rw [UInt64.lt_iff_toNat_lt]; omega
    have h4 : 64 ≤ grl l - n := by
      rw [UInt64.le_iff_toNat_le, UInt64.toNat_sub_of_le _ _ (UInt64.le_of_lt hlt), show (64 : UInt64).toNat = 64 from rfl]; omega
    simp [rchk, rold, h1, hlt, h4]
/-- The numbers that came, and their window, after an opening. -/
theorem op19_inv {r h : List UInt8} {l : List UInt64} {fr : List UInt8} {wg wb : UInt64} (I : Inv l wg wb) (hM : ∀ x ∈ l, x.toNat ≤ 281474976710655) : Inv (op19 r h l fr).2.2.2 (wn (op19 r h l fr) wg wb).1 (wn (op19 r h l fr) wg wb).2 ∧ ∀ x ∈ (op19 r h l fr).2.2.2, x.toNat ≤ 281474976710655 := by
  unfold op19
  split
  · exact ⟨I, hM⟩
  split
  · exact ⟨I, hM⟩
  split
  · exact ⟨I, hM⟩
  rename_i h3
  have hn : (rg (fr.take 8)).toNat ≤ 281474976710655 := by rw [UInt64.le_iff_toNat_le, show (281474976710656 : UInt64).toNat = 281474976710656 from rfl] at h3; omega
  split
  · exact ⟨I, hM⟩
  rename_i h4
  split
  · exact ⟨I, hM⟩
  rename_i h5
  split
  · exact ⟨I, hM⟩
  split
  · exact ⟨I, hM⟩
  · have h6 := rchk_0 hM hn h4 h5
    rw [← (chk_inv I _).1] at h6
    refine ⟨take_inv I h6, fun x hx => ?_⟩
    rcases List.mem_append.1 hx with hx | hx
    · exact hM x hx
    · rw [List.mem_singleton.1 hx]; exact hn
theorem ne_zero_of {a b : UInt64} (h : a.toNat % 2 = 1) (hl : a.toNat ≤ b.toNat) : decide (b ≠ 0) = true := by
  refine decide_eq_true (fun hh => ?_)
  rw [hh] at hl
  have : (0 : UInt64).toNat = 0 := rfl
  omega
set_option maxHeartbeats 1600000 in
theorem chopen_u (k r hash : List UInt8) (es sent : UInt64) (l : List UInt64) (wg wb : UInt64) (hk : k.length = 32) (hr : r.length = 32) (hh : hash.length = 32) (I : Inv l wg wb) (hM : ∀ x ∈ l, x.toNat ≤ 281474976710655) (fr : List UInt8) (f : Nat) (hf : fr.length = f) : Good Try.prog 11 [.c (.ptr 0 0), .c (.ro f (u8s fr))] [some (chC es (grl l / 64) 2 (decide (es ≠ 0)) 4 6 (decide ((grl l / 64) ≠ 0)) 8 sent 1 (grl l) (decide (0 < l.length)) hash), some (wcs true wg wb), some (cC (.ptr 3 0) 0), some (u8s (S0 k es.toNat)), cb (decide (es ≠ 0)) 5, kb (decide (es ≠ 0)) (S1 k es.toNat), some (cC (.ptr 7 0) 0), some (u8s (S0 r (grl l / 64).toNat)), cb (decide ((grl l / 64) ≠ 0)) 9, kb (decide ((grl l / 64) ≠ 0)) (S1 r (grl l / 64).toNat)] (.t [.c (.slc 14 0 (op19 r hash l fr).1.length 1), .c (c64 (op19 r hash l fr).2.1), .c (cn (op19 r hash l fr).2.2.1)]) [some (chC es (grl (op19 r hash l fr).2.2.2 / 64) 2 (decide (es ≠ 0)) 4 10 (decide ((grl (op19 r hash l fr).2.2.2 / 64) ≠ 0)) 12 sent 1 (grl (op19 r hash l fr).2.2.2) (decide (0 < (op19 r hash l fr).2.2.2.length)) hash), some (wcs true (wn (op19 r hash l fr) wg wb).1 (wn (op19 r hash l fr) wg wb).2), some (cC (.ptr 3 0) 0), some (u8s (S0 k es.toNat)), cb (decide (es ≠ 0)) 5, kb (decide (es ≠ 0)) (S1 k es.toNat), none, none, none, none, some (cC (.ptr 11 0) 0), some (u8s (S0 r (grl (op19 r hash l fr).2.2.2 / 64).toNat)), cb (decide ((grl (op19 r hash l fr).2.2.2 / 64) ≠ 0)) 13, kb (decide ((grl (op19 r hash l fr).2.2.2 / 64) ≠ 0)) (S1 r (grl (op19 r hash l fr).2.2.2 / 64).toNat), some (u8s (op19 r hash l fr).1)] := by
  by_cases h1 : 4120 < f
  · have e : op19 r hash l fr = ([], 0, 3, l) := by unfold op19; rw [if_pos (by rw [hf]; exact h1)]
    rw [e]
    show Good _ _ _ _ (.t [.c (.slc 14 0 ([] : List UInt8).length 1), .c (c64 0), .c (cn 3)]) [some (chC es (grl l / 64) 2 (decide (es ≠ 0)) 4 10 (decide ((grl l / 64) ≠ 0)) 12 sent 1 (grl l) (decide (0 < l.length)) hash), some (wcs true wg wb), some (cC (.ptr 3 0) 0), some (u8s (S0 k es.toNat)), cb (decide (es ≠ 0)) 5, kb (decide (es ≠ 0)) (S1 k es.toNat), none, none, none, none, some (cC (.ptr 11 0) 0), some (u8s (S0 r (grl l / 64).toNat)), cb (decide ((grl l / 64) ≠ 0)) 13, kb (decide ((grl l / 64) ≠ 0)) (S1 r (grl l / 64).toNat), some (u8s ([] : List UInt8))]
    exact (Good.emp (chopen_long k r hash es (grl l / 64) sent (grl l) (decide (0 < l.length)) wg wb hk hr hh fr f h1) 1).ren' [(0, true), (1, true), (2, true), (3, true), (4, true), (5, true), (6, false), (7, false), (8, false), (9, false), (6, true), (7, true), (8, true), (9, true), (10, true)] (rlT rfl (chC_map rfl rfl rfl rfl rfl) (rlT rfl rfl (rlT rfl rfl (rlT rfl sees_m (rlB rfl (cb_map rfl) (rlB rfl kb_map (rlF (rlF (rlF (rlF (rlT rfl rfl (rlT rfl sees_m (rlB rfl (cb_map rfl) (rlB rfl kb_map (rlT rfl rfl rl0)))))))))))))))
  by_cases h2 : f < 24
  · have e : op19 r hash l fr = ([], 0, 4, l) := by unfold op19; rw [if_neg (by rw [hf]; exact h1), if_pos (by rw [hf]; exact h2)]
    rw [e]
    show Good _ _ _ _ (.t [.c (.slc 14 0 ([] : List UInt8).length 1), .c (c64 0), .c (cn 4)]) [some (chC es (grl l / 64) 2 (decide (es ≠ 0)) 4 10 (decide ((grl l / 64) ≠ 0)) 12 sent 1 (grl l) (decide (0 < l.length)) hash), some (wcs true wg wb), some (cC (.ptr 3 0) 0), some (u8s (S0 k es.toNat)), cb (decide (es ≠ 0)) 5, kb (decide (es ≠ 0)) (S1 k es.toNat), none, none, none, none, some (cC (.ptr 11 0) 0), some (u8s (S0 r (grl l / 64).toNat)), cb (decide ((grl l / 64) ≠ 0)) 13, kb (decide ((grl l / 64) ≠ 0)) (S1 r (grl l / 64).toNat), some (u8s ([] : List UInt8))]
    exact (Good.emp (chopen_short k r hash es (grl l / 64) sent (grl l) (decide (0 < l.length)) wg wb hk hr hh fr f h2) 1).ren' [(0, true), (1, true), (2, true), (3, true), (4, true), (5, true), (6, false), (7, false), (8, false), (9, false), (6, true), (7, true), (8, true), (9, true), (10, true)] (rlT rfl (chC_map rfl rfl rfl rfl rfl) (rlT rfl rfl (rlT rfl rfl (rlT rfl sees_m (rlB rfl (cb_map rfl) (rlB rfl kb_map (rlF (rlF (rlF (rlF (rlT rfl rfl (rlT rfl sees_m (rlB rfl (cb_map rfl) (rlB rfl kb_map (rlT rfl rfl rl0)))))))))))))))
  obtain ⟨N, hN⟩ : ∃ z, gt (fr.take 8) = z := ⟨_, rfl⟩
  have hR : rg (fr.take 8) = N := by rw [← gt_rg]; exact hN
  by_cases h3 : 281474976710656 ≤ rg (fr.take 8)
  · have e : op19 r hash l fr = ([], 0, 4, l) := by unfold op19; rw [if_neg (by rw [hf]; exact h1), if_neg (by rw [hf]; exact h2), if_pos h3]
    rw [e]
    show Good _ _ _ _ (.t [.c (.slc 14 0 ([] : List UInt8).length 1), .c (c64 0), .c (cn 4)]) [some (chC es (grl l / 64) 2 (decide (es ≠ 0)) 4 10 (decide ((grl l / 64) ≠ 0)) 12 sent 1 (grl l) (decide (0 < l.length)) hash), some (wcs true wg wb), some (cC (.ptr 3 0) 0), some (u8s (S0 k es.toNat)), cb (decide (es ≠ 0)) 5, kb (decide (es ≠ 0)) (S1 k es.toNat), none, none, none, none, some (cC (.ptr 11 0) 0), some (u8s (S0 r (grl l / 64).toNat)), cb (decide ((grl l / 64) ≠ 0)) 13, kb (decide ((grl l / 64) ≠ 0)) (S1 r (grl l / 64).toNat), some (u8s ([] : List UInt8))]
    exact (Good.emp (chopen_far k r hash es (grl l / 64) sent (grl l) (decide (0 < l.length)) wg wb hk hr hh fr f N hf (by omega) (by omega) hN (by rw [← hR, UInt64.lt_iff_toNat_lt, show (281474976710655 : UInt64).toNat = 281474976710655 from rfl]; rw [UInt64.le_iff_toNat_le, show (281474976710656 : UInt64).toNat = 281474976710656 from rfl] at h3; omega)) 1).ren' [(0, true), (1, true), (2, true), (3, true), (4, true), (5, true), (6, false), (7, false), (8, false), (9, false), (6, true), (7, true), (8, true), (9, true), (10, true)] (rlT rfl (chC_map rfl rfl rfl rfl rfl) (rlT rfl rfl (rlT rfl rfl (rlT rfl sees_m (rlB rfl (cb_map rfl) (rlB rfl kb_map (rlF (rlF (rlF (rlF (rlT rfl rfl (rlT rfl sees_m (rlB rfl (cb_map rfl) (rlB rfl kb_map (rlT rfl rfl rl0)))))))))))))))
  have hn : N.toNat ≤ 281474976710655 := by rw [UInt64.le_iff_toNat_le, show (281474976710656 : UInt64).toNat = 281474976710656 from rfl, hR] at h3; omega
  have hn' : ¬ 281474976710655 < N := by rw [UInt64.lt_iff_toNat_lt, show (281474976710655 : UInt64).toNat = 281474976710655 from rfl]; omega
  have hc := (chk_inv I N).1
  by_cases h4 : rg (fr.take 8) ∈ l
  · have e : op19 r hash l fr = ([], 0, 10, l) := by unfold op19; rw [if_neg (by rw [hf]; exact h1), if_neg (by rw [hf]; exact h2), if_neg h3, if_pos h4]
    rw [e]
    show Good _ _ _ _ (.t [.c (.slc 14 0 ([] : List UInt8).length 1), .c (c64 0), .c (cn 10)]) [some (chC es (grl l / 64) 2 (decide (es ≠ 0)) 4 10 (decide ((grl l / 64) ≠ 0)) 12 sent 1 (grl l) (decide (0 < l.length)) hash), some (wcs true wg wb), some (cC (.ptr 3 0) 0), some (u8s (S0 k es.toNat)), cb (decide (es ≠ 0)) 5, kb (decide (es ≠ 0)) (S1 k es.toNat), none, none, none, none, some (cC (.ptr 11 0) 0), some (u8s (S0 r (grl l / 64).toNat)), cb (decide ((grl l / 64) ≠ 0)) 13, kb (decide ((grl l / 64) ≠ 0)) (S1 r (grl l / 64).toNat), some (u8s ([] : List UInt8))]
    exact (Good.emp (chopen_old k r hash es (grl l / 64) sent (grl l) (decide (0 < l.length)) wg wb hk hr hh fr f N hf (by omega) (by omega) hN hn' 10 (hc.trans (rchk_10 hM hn ((.inl (hR ▸ h4))))) (by decide)) 1).ren' [(0, true), (1, true), (2, true), (3, true), (4, true), (5, true), (6, false), (7, false), (8, false), (9, false), (6, true), (7, true), (8, true), (9, true), (10, true)] (rlT rfl (chC_map rfl rfl rfl rfl rfl) (rlT rfl rfl (rlT rfl rfl (rlT rfl sees_m (rlB rfl (cb_map rfl) (rlB rfl kb_map (rlF (rlF (rlF (rlF (rlT rfl rfl (rlT rfl sees_m (rlB rfl (cb_map rfl) (rlB rfl kb_map (rlT rfl rfl rl0)))))))))))))))
  by_cases h5 : 0 < l.length ∧ rg (fr.take 8) + 64 ≤ grl l
  · have e : op19 r hash l fr = ([], 0, 10, l) := by unfold op19; rw [if_neg (by rw [hf]; exact h1), if_neg (by rw [hf]; exact h2), if_neg h3, if_neg h4, if_pos h5]
    rw [e]
    show Good _ _ _ _ (.t [.c (.slc 14 0 ([] : List UInt8).length 1), .c (c64 0), .c (cn 10)]) [some (chC es (grl l / 64) 2 (decide (es ≠ 0)) 4 10 (decide ((grl l / 64) ≠ 0)) 12 sent 1 (grl l) (decide (0 < l.length)) hash), some (wcs true wg wb), some (cC (.ptr 3 0) 0), some (u8s (S0 k es.toNat)), cb (decide (es ≠ 0)) 5, kb (decide (es ≠ 0)) (S1 k es.toNat), none, none, none, none, some (cC (.ptr 11 0) 0), some (u8s (S0 r (grl l / 64).toNat)), cb (decide ((grl l / 64) ≠ 0)) 13, kb (decide ((grl l / 64) ≠ 0)) (S1 r (grl l / 64).toNat), some (u8s ([] : List UInt8))]
    exact (Good.emp (chopen_old k r hash es (grl l / 64) sent (grl l) (decide (0 < l.length)) wg wb hk hr hh fr f N hf (by omega) (by omega) hN hn' 10 (hc.trans (rchk_10 hM hn ((.inr (hR ▸ h5))))) (by decide)) 1).ren' [(0, true), (1, true), (2, true), (3, true), (4, true), (5, true), (6, false), (7, false), (8, false), (9, false), (6, true), (7, true), (8, true), (9, true), (10, true)] (rlT rfl (chC_map rfl rfl rfl rfl rfl) (rlT rfl rfl (rlT rfl rfl (rlT rfl sees_m (rlB rfl (cb_map rfl) (rlB rfl kb_map (rlF (rlF (rlF (rlF (rlT rfl rfl (rlT rfl sees_m (rlB rfl (cb_map rfl) (rlB rfl kb_map (rlT rfl rfl rl0)))))))))))))))
  have hw := hc.trans (rchk_0 hM hn (hR ▸ h4) (hR ▸ h5))
  by_cases h6 : grl l / 64 + 16 < rg (fr.take 8) / 64
  · have e : op19 r hash l fr = ([], 0, 9, l) := by unfold op19; rw [if_neg (by rw [hf]; exact h1), if_neg (by rw [hf]; exact h2), if_neg h3, if_neg h4, if_neg h5, if_pos h6]
    rw [e]
    show Good _ _ _ _ (.t [.c (.slc 14 0 ([] : List UInt8).length 1), .c (c64 0), .c (cn 9)]) [some (chC es (grl l / 64) 2 (decide (es ≠ 0)) 4 10 (decide ((grl l / 64) ≠ 0)) 12 sent 1 (grl l) (decide (0 < l.length)) hash), some (wcs true wg wb), some (cC (.ptr 3 0) 0), some (u8s (S0 k es.toNat)), cb (decide (es ≠ 0)) 5, kb (decide (es ≠ 0)) (S1 k es.toNat), none, none, none, none, some (cC (.ptr 11 0) 0), some (u8s (S0 r (grl l / 64).toNat)), cb (decide ((grl l / 64) ≠ 0)) 13, kb (decide ((grl l / 64) ≠ 0)) (S1 r (grl l / 64).toNat), some (u8s ([] : List UInt8))]
    exact (Good.emp (chopen_seq k r hash es (grl l / 64) sent (grl l) (decide (0 < l.length)) wg wb hk hr hh fr f N hf (by omega) (by omega) hN hn' hw (hR ▸ h6)) 1).ren' [(0, true), (1, true), (2, true), (3, true), (4, true), (5, true), (6, false), (7, false), (8, false), (9, false), (6, true), (7, true), (8, true), (9, true), (10, true)] (rlT rfl (chC_map rfl rfl rfl rfl rfl) (rlT rfl rfl (rlT rfl rfl (rlT rfl sees_m (rlB rfl (cb_map rfl) (rlB rfl kb_map (rlF (rlF (rlF (rlF (rlT rfl rfl (rlT rfl sees_m (rlB rfl (cb_map rfl) (rlB rfl kb_map (rlT rfl rfl rl0)))))))))))))))
  have hq : ¬ grl l / 64 + 16 < N / 64 := hR ▸ h6
  have hg9 := grl_le hM
  have hdE := d64 (grl l)
  have hdN := d64 N
  by_cases hle : N / 64 ≤ grl l / 64
  · have hle' := hle
    rw [UInt64.le_iff_toNat_le] at hle'
    have h1' : (grl l / 64).toNat ≤ (N / 64).toNat + 1 := by
      by_cases hp : 0 < l.length
      · have h7 : ¬ N + 64 ≤ grl l := fun h => h5 ⟨hp, hR ▸ h⟩
        rw [UInt64.le_iff_toNat_le, UInt64.toNat_add, show (64 : UInt64).toNat = 64 from rfl, Nat.mod_eq_of_lt (by omega)] at h7
        omega
      · rw [show l = [] from List.eq_nil_of_length_eq_zero (by omega)] at hdE ⊢; rw [hdE]; exact Nat.zero_le _
    have eE : grl (l ++ [N]) / 64 = grl l / 64 := by
      rw [grl_app]; unfold mx; split
      · rename_i hx; rw [UInt64.lt_iff_toNat_lt] at hx; apply UInt64.toNat_inj.1; omega
      · rfl
    cases hop : aopen (kE r (N / 64).toNat) (anonce N) hash (fr.drop 8) with
    | none =>
      have e : op19 r hash l fr = ([], 0, 8, l) := by unfold op19; rw [if_neg (by rw [hf]; exact h1), if_neg (by rw [hf]; exact h2), if_neg h3, if_neg h4, if_neg h5, if_neg h6, hR, hop]
      rw [e]
      show Good _ _ _ _ (.t [.c (.slc 14 0 ([] : List UInt8).length 1), .c (c64 0), .c (cn 8)]) [some (chC es (grl l / 64) 2 (decide (es ≠ 0)) 4 10 (decide ((grl l / 64) ≠ 0)) 12 sent 1 (grl l) (decide (0 < l.length)) hash), some (wcs true wg wb), some (cC (.ptr 3 0) 0), some (u8s (S0 k es.toNat)), cb (decide (es ≠ 0)) 5, kb (decide (es ≠ 0)) (S1 k es.toNat), none, none, none, none, some (cC (.ptr 11 0) 0), some (u8s (S0 r (grl l / 64).toNat)), cb (decide ((grl l / 64) ≠ 0)) 13, kb (decide ((grl l / 64) ≠ 0)) (S1 r (grl l / 64).toNat), some (u8s ([] : List UInt8))]
      rcases Nat.mod_two_eq_zero_or_one (N / 64).toNat with he | he
      · exact (Good.emp (chopen_n0_bad k r hash es (grl l / 64) sent (grl l) (decide (0 < l.length)) wg wb hk hr hh fr f N hf (by omega) (by omega) hN hn' hw hq hle he (slot0 hle' h1' he) hop) 1).ren' [(0, true), (1, true), (2, true), (3, true), (4, true), (5, true), (6, false), (7, false), (8, false), (9, false), (6, true), (7, true), (8, true), (9, true), (10, true)] (rlT rfl (chC_map rfl rfl rfl rfl rfl) (rlT rfl rfl (rlT rfl rfl (rlT rfl sees_m (rlB rfl (cb_map rfl) (rlB rfl kb_map (rlF (rlF (rlF (rlF (rlT rfl rfl (rlT rfl sees_m (rlB rfl (cb_map rfl) (rlB rfl kb_map (rlT rfl rfl rl0)))))))))))))))
      · exact (Good.emp (chopen_n1_bad k r hash es (grl l / 64) sent (grl l) (decide (0 < l.length)) wg wb hk hr hh fr f N hf (by omega) (by omega) hN hn' hw hq hle he (ne_zero_of he hle') (slot1 hle' h1' he) hop) 1).ren' [(0, true), (1, true), (2, true), (3, true), (4, true), (5, true), (6, false), (7, false), (8, false), (9, false), (6, true), (7, true), (8, true), (9, true), (10, true)] (rlT rfl (chC_map rfl rfl rfl rfl rfl) (rlT rfl rfl (rlT rfl rfl (rlT rfl sees_m (rlB rfl (cb_map rfl) (rlB rfl kb_map (rlF (rlF (rlF (rlF (rlT rfl rfl (rlT rfl sees_m (rlB rfl (cb_map rfl) (rlB rfl kb_map (rlT rfl rfl rl0)))))))))))))))
    | some p =>
      have e : op19 r hash l fr = (p, N, 0, l ++ [N]) := by unfold op19; rw [if_neg (by rw [hf]; exact h1), if_neg (by rw [hf]; exact h2), if_neg h3, if_neg h4, if_neg h5, if_neg h6, hR, hop]
      rw [e]
      show Good _ _ _ _ (.t [.c (.slc 14 0 p.length 1), .c (c64 N), .c (cn 0)]) [some (chC es (grl (l ++ [N]) / 64) 2 (decide (es ≠ 0)) 4 10 (decide ((grl (l ++ [N]) / 64) ≠ 0)) 12 sent 1 (grl (l ++ [N])) (decide (0 < (l ++ [N]).length)) hash), some (wcs true (wnext true wg wb N).1 (wnext true wg wb N).2), some (cC (.ptr 3 0) 0), some (u8s (S0 k es.toNat)), cb (decide (es ≠ 0)) 5, kb (decide (es ≠ 0)) (S1 k es.toNat), none, none, none, none, some (cC (.ptr 11 0) 0), some (u8s (S0 r (grl (l ++ [N]) / 64).toNat)), cb (decide ((grl (l ++ [N]) / 64) ≠ 0)) 13, kb (decide ((grl (l ++ [N]) / 64) ≠ 0)) (S1 r (grl (l ++ [N]) / 64).toNat), some (u8s p)]
      rw [eE, grl_app, show decide (0 < (l ++ [N]).length) = true by simp]
      rcases Nat.mod_two_eq_zero_or_one (N / 64).toNat with he | he
      · exact (chopen_n0_ok k r hash es (grl l / 64) sent (grl l) (decide (0 < l.length)) wg wb hk hr hh fr f N hf (by omega) (by omega) hN hn' hw hq hle he (slot0 hle' h1' he) p hop).ren' [(0, true), (1, true), (2, true), (3, true), (4, true), (5, true), (6, false), (7, false), (8, false), (9, false), (6, true), (7, true), (8, true), (9, true), (10, true)] (rlT rfl (chC_map rfl rfl rfl rfl rfl) (rlT rfl rfl (rlT rfl rfl (rlT rfl sees_m (rlB rfl (cb_map rfl) (rlB rfl kb_map (rlF (rlF (rlF (rlF (rlT rfl rfl (rlT rfl sees_m (rlB rfl (cb_map rfl) (rlB rfl kb_map (rlT rfl sees_m rl0)))))))))))))))
      · exact (chopen_n1_ok k r hash es (grl l / 64) sent (grl l) (decide (0 < l.length)) wg wb hk hr hh fr f N hf (by omega) (by omega) hN hn' hw hq hle he (ne_zero_of he hle') (slot1 hle' h1' he) p hop).ren' [(0, true), (1, true), (2, true), (3, true), (4, true), (5, true), (6, false), (7, false), (8, false), (9, false), (6, true), (7, true), (8, true), (9, true), (10, true)] (rlT rfl (chC_map rfl rfl rfl rfl rfl) (rlT rfl rfl (rlT rfl rfl (rlT rfl sees_m (rlB rfl (cb_map rfl) (rlB rfl kb_map (rlF (rlF (rlF (rlF (rlT rfl rfl (rlT rfl sees_m (rlB rfl (cb_map rfl) (rlB rfl kb_map (rlT rfl sees_m rl0)))))))))))))))
  · have hle' := hle
    rw [UInt64.le_iff_toNat_le] at hle'
    have eE : grl (l ++ [N]) / 64 = N / 64 := by
      rw [grl_app]; unfold mx; rw [if_pos (by rw [UInt64.lt_iff_toNat_lt]; omega)]
    cases hop : aopen (kE r (N / 64).toNat) (anonce N) hash (fr.drop 8) with
    | none =>
      have e : op19 r hash l fr = ([], 0, 8, l) := by unfold op19; rw [if_neg (by rw [hf]; exact h1), if_neg (by rw [hf]; exact h2), if_neg h3, if_neg h4, if_neg h5, if_neg h6, hR, hop]
      rw [e]
      show Good _ _ _ _ (.t [.c (.slc 14 0 ([] : List UInt8).length 1), .c (c64 0), .c (cn 8)]) [some (chC es (grl l / 64) 2 (decide (es ≠ 0)) 4 10 (decide ((grl l / 64) ≠ 0)) 12 sent 1 (grl l) (decide (0 < l.length)) hash), some (wcs true wg wb), some (cC (.ptr 3 0) 0), some (u8s (S0 k es.toNat)), cb (decide (es ≠ 0)) 5, kb (decide (es ≠ 0)) (S1 k es.toNat), none, none, none, none, some (cC (.ptr 11 0) 0), some (u8s (S0 r (grl l / 64).toNat)), cb (decide ((grl l / 64) ≠ 0)) 13, kb (decide ((grl l / 64) ≠ 0)) (S1 r (grl l / 64).toNat), some (u8s ([] : List UInt8))]
      rcases Nat.mod_two_eq_zero_or_one (grl l / 64).toNat with he | he
      · exact (Good.emp (chopen_m0_bad k r hash es (grl l / 64) sent (grl l) (decide (0 < l.length)) wg wb hk hr hh fr f N hf (by omega) (by omega) hN hn' hw hq hle he hop) 1).ren' [(0, true), (1, true), (2, true), (3, true), (4, true), (5, true), (6, false), (7, false), (8, false), (9, false), (6, true), (7, true), (8, true), (9, true), (10, true)] (rlT rfl (chC_map rfl rfl rfl rfl rfl) (rlT rfl rfl (rlT rfl rfl (rlT rfl sees_m (rlB rfl (cb_map rfl) (rlB rfl kb_map (rlF (rlF (rlF (rlF (rlT rfl rfl (rlT rfl sees_m (rlB rfl (cb_map rfl) (rlB rfl kb_map (rlT rfl rfl rl0)))))))))))))))
      · exact (Good.emp (chopen_m1_bad k r hash es (grl l / 64) sent (grl l) (decide (0 < l.length)) wg wb hk hr hh fr f N hf (by omega) (by omega) hN hn' hw hq hle he hop) 1).ren' [(0, true), (1, true), (2, true), (3, true), (4, true), (5, true), (6, false), (7, false), (8, false), (9, false), (6, true), (7, true), (8, true), (9, true), (10, true)] (rlT rfl (chC_map rfl rfl rfl rfl rfl) (rlT rfl rfl (rlT rfl rfl (rlT rfl sees_m (rlB rfl (cb_map rfl) (rlB rfl kb_map (rlF (rlF (rlF (rlF (rlT rfl rfl (rlT rfl sees_m (rlB rfl (cb_map rfl) (rlB rfl kb_map (rlT rfl rfl rl0)))))))))))))))
    | some p =>
      have e : op19 r hash l fr = (p, N, 0, l ++ [N]) := by unfold op19; rw [if_neg (by rw [hf]; exact h1), if_neg (by rw [hf]; exact h2), if_neg h3, if_neg h4, if_neg h5, if_neg h6, hR, hop]
      rw [e]
      show Good _ _ _ _ (.t [.c (.slc 14 0 p.length 1), .c (c64 N), .c (cn 0)]) [some (chC es (grl (l ++ [N]) / 64) 2 (decide (es ≠ 0)) 4 10 (decide ((grl (l ++ [N]) / 64) ≠ 0)) 12 sent 1 (grl (l ++ [N])) (decide (0 < (l ++ [N]).length)) hash), some (wcs true (wnext true wg wb N).1 (wnext true wg wb N).2), some (cC (.ptr 3 0) 0), some (u8s (S0 k es.toNat)), cb (decide (es ≠ 0)) 5, kb (decide (es ≠ 0)) (S1 k es.toNat), none, none, none, none, some (cC (.ptr 11 0) 0), some (u8s (S0 r (grl (l ++ [N]) / 64).toNat)), cb (decide ((grl (l ++ [N]) / 64) ≠ 0)) 13, kb (decide ((grl (l ++ [N]) / 64) ≠ 0)) (S1 r (grl (l ++ [N]) / 64).toNat), some (u8s p)]
      rw [eE, grl_app, show decide (0 < (l ++ [N]).length) = true by simp]
      rcases Nat.mod_two_eq_zero_or_one (grl l / 64).toNat with he | he
      · exact chopen_m0_ok k r hash es (grl l / 64) sent (grl l) (decide (0 < l.length)) wg wb hk hr hh fr f N hf (by omega) (by omega) hN hn' hw hq hle he p hop
      · exact chopen_m1_ok k r hash es (grl l / 64) sent (grl l) (decide (0 < l.length)) wg wb hk hr hh fr f N hf (by omega) (by omega) hN hn' hw hq hle he p hop
set_option maxHeartbeats 1600000 in
theorem chopen_e (k r hash : List UInt8) (es sent : UInt64) (l : List UInt64) (wg wb : UInt64) (hk : k.length = 32) (hr : r.length = 32) (hh : hash.length = 32) (I : Inv l wg wb) (hM : ∀ x ∈ l, x.toNat ≤ 281474976710655) (fr : List UInt8) (f : Nat) (hf : fr.length = f) (hz : (op19 r hash l fr).2.2.1 ≠ 0) : Good Try.prog 11 [.c (.ptr 0 0), .c (.ro f (u8s fr))] [some (chC es (grl l / 64) 2 (decide (es ≠ 0)) 4 6 (decide ((grl l / 64) ≠ 0)) 8 sent 1 (grl l) (decide (0 < l.length)) hash), some (wcs true wg wb), some (cC (.ptr 3 0) 0), some (u8s (S0 k es.toNat)), cb (decide (es ≠ 0)) 5, kb (decide (es ≠ 0)) (S1 k es.toNat), some (cC (.ptr 7 0) 0), some (u8s (S0 r (grl l / 64).toNat)), cb (decide ((grl l / 64) ≠ 0)) 9, kb (decide ((grl l / 64) ≠ 0)) (S1 r (grl l / 64).toNat)] (.t [.c .nils, .c (c64 0), .c (cn (op19 r hash l fr).2.2.1)]) [some (chC es (grl l / 64) 2 (decide (es ≠ 0)) 4 6 (decide ((grl l / 64) ≠ 0)) 8 sent 1 (grl l) (decide (0 < l.length)) hash), some (wcs true wg wb), some (cC (.ptr 3 0) 0), some (u8s (S0 k es.toNat)), cb (decide (es ≠ 0)) 5, kb (decide (es ≠ 0)) (S1 k es.toNat), some (cC (.ptr 7 0) 0), some (u8s (S0 r (grl l / 64).toNat)), cb (decide ((grl l / 64) ≠ 0)) 9, kb (decide ((grl l / 64) ≠ 0)) (S1 r (grl l / 64).toNat)] := by
  by_cases h1 : 4120 < f
  · have e : op19 r hash l fr = ([], 0, 3, l) := by unfold op19; rw [if_pos (by rw [hf]; exact h1)]
    rw [e]
    exact chopen_long k r hash es (grl l / 64) sent (grl l) (decide (0 < l.length)) wg wb hk hr hh fr f h1
  by_cases h2 : f < 24
  · have e : op19 r hash l fr = ([], 0, 4, l) := by unfold op19; rw [if_neg (by rw [hf]; exact h1), if_pos (by rw [hf]; exact h2)]
    rw [e]
    exact chopen_short k r hash es (grl l / 64) sent (grl l) (decide (0 < l.length)) wg wb hk hr hh fr f h2
  obtain ⟨N, hN⟩ : ∃ z, gt (fr.take 8) = z := ⟨_, rfl⟩
  have hR : rg (fr.take 8) = N := by rw [← gt_rg]; exact hN
  by_cases h3 : 281474976710656 ≤ rg (fr.take 8)
  · have e : op19 r hash l fr = ([], 0, 4, l) := by unfold op19; rw [if_neg (by rw [hf]; exact h1), if_neg (by rw [hf]; exact h2), if_pos h3]
    rw [e]
    exact chopen_far k r hash es (grl l / 64) sent (grl l) (decide (0 < l.length)) wg wb hk hr hh fr f N hf (by omega) (by omega) hN (by rw [← hR, UInt64.lt_iff_toNat_lt, show (281474976710655 : UInt64).toNat = 281474976710655 from rfl]; rw [UInt64.le_iff_toNat_le, show (281474976710656 : UInt64).toNat = 281474976710656 from rfl] at h3; omega)
  have hn : N.toNat ≤ 281474976710655 := by rw [UInt64.le_iff_toNat_le, show (281474976710656 : UInt64).toNat = 281474976710656 from rfl, hR] at h3; omega
  have hn' : ¬ 281474976710655 < N := by rw [UInt64.lt_iff_toNat_lt, show (281474976710655 : UInt64).toNat = 281474976710655 from rfl]; omega
  have hc := (chk_inv I N).1
  by_cases h4 : rg (fr.take 8) ∈ l
  · have e : op19 r hash l fr = ([], 0, 10, l) := by unfold op19; rw [if_neg (by rw [hf]; exact h1), if_neg (by rw [hf]; exact h2), if_neg h3, if_pos h4]
    rw [e]
    exact chopen_old k r hash es (grl l / 64) sent (grl l) (decide (0 < l.length)) wg wb hk hr hh fr f N hf (by omega) (by omega) hN hn' 10 (hc.trans (rchk_10 hM hn ((.inl (hR ▸ h4))))) (by decide)
  by_cases h5 : 0 < l.length ∧ rg (fr.take 8) + 64 ≤ grl l
  · have e : op19 r hash l fr = ([], 0, 10, l) := by unfold op19; rw [if_neg (by rw [hf]; exact h1), if_neg (by rw [hf]; exact h2), if_neg h3, if_neg h4, if_pos h5]
    rw [e]
    exact chopen_old k r hash es (grl l / 64) sent (grl l) (decide (0 < l.length)) wg wb hk hr hh fr f N hf (by omega) (by omega) hN hn' 10 (hc.trans (rchk_10 hM hn ((.inr (hR ▸ h5))))) (by decide)
  have hw := hc.trans (rchk_0 hM hn (hR ▸ h4) (hR ▸ h5))
  by_cases h6 : grl l / 64 + 16 < rg (fr.take 8) / 64
  · have e : op19 r hash l fr = ([], 0, 9, l) := by unfold op19; rw [if_neg (by rw [hf]; exact h1), if_neg (by rw [hf]; exact h2), if_neg h3, if_neg h4, if_neg h5, if_pos h6]
    rw [e]
    exact chopen_seq k r hash es (grl l / 64) sent (grl l) (decide (0 < l.length)) wg wb hk hr hh fr f N hf (by omega) (by omega) hN hn' hw (hR ▸ h6)
  have hq : ¬ grl l / 64 + 16 < N / 64 := hR ▸ h6
  have hg9 := grl_le hM
  have hdE := d64 (grl l)
  have hdN := d64 N
  by_cases hle : N / 64 ≤ grl l / 64
  · have hle' := hle
    rw [UInt64.le_iff_toNat_le] at hle'
    have h1' : (grl l / 64).toNat ≤ (N / 64).toNat + 1 := by
      by_cases hp : 0 < l.length
      · have h7 : ¬ N + 64 ≤ grl l := fun h => h5 ⟨hp, hR ▸ h⟩
        rw [UInt64.le_iff_toNat_le, UInt64.toNat_add, show (64 : UInt64).toNat = 64 from rfl, Nat.mod_eq_of_lt (by omega)] at h7
        omega
      · rw [show l = [] from List.eq_nil_of_length_eq_zero (by omega)] at hdE ⊢; rw [hdE]; exact Nat.zero_le _
    have eE : grl (l ++ [N]) / 64 = grl l / 64 := by
      rw [grl_app]; unfold mx; split
      · rename_i hx; rw [UInt64.lt_iff_toNat_lt] at hx; apply UInt64.toNat_inj.1; omega
      · rfl
    cases hop : aopen (kE r (N / 64).toNat) (anonce N) hash (fr.drop 8) with
    | none =>
      have e : op19 r hash l fr = ([], 0, 8, l) := by unfold op19; rw [if_neg (by rw [hf]; exact h1), if_neg (by rw [hf]; exact h2), if_neg h3, if_neg h4, if_neg h5, if_neg h6, hR, hop]
      rw [e]
      skip
      rcases Nat.mod_two_eq_zero_or_one (N / 64).toNat with he | he
      · exact chopen_n0_bad k r hash es (grl l / 64) sent (grl l) (decide (0 < l.length)) wg wb hk hr hh fr f N hf (by omega) (by omega) hN hn' hw hq hle he (slot0 hle' h1' he) hop
      · exact chopen_n1_bad k r hash es (grl l / 64) sent (grl l) (decide (0 < l.length)) wg wb hk hr hh fr f N hf (by omega) (by omega) hN hn' hw hq hle he (ne_zero_of he hle') (slot1 hle' h1' he) hop
    | some p =>
      exact absurd (by unfold op19; rw [if_neg (by rw [hf]; exact h1), if_neg (by rw [hf]; exact h2), if_neg h3, if_neg h4, if_neg h5, if_neg h6, hR, hop]) hz
  · have hle' := hle
    rw [UInt64.le_iff_toNat_le] at hle'
    have eE : grl (l ++ [N]) / 64 = N / 64 := by
      rw [grl_app]; unfold mx; rw [if_pos (by rw [UInt64.lt_iff_toNat_lt]; omega)]
    cases hop : aopen (kE r (N / 64).toNat) (anonce N) hash (fr.drop 8) with
    | none =>
      have e : op19 r hash l fr = ([], 0, 8, l) := by unfold op19; rw [if_neg (by rw [hf]; exact h1), if_neg (by rw [hf]; exact h2), if_neg h3, if_neg h4, if_neg h5, if_neg h6, hR, hop]
      rw [e]
      skip
      rcases Nat.mod_two_eq_zero_or_one (grl l / 64).toNat with he | he
      · exact chopen_m0_bad k r hash es (grl l / 64) sent (grl l) (decide (0 < l.length)) wg wb hk hr hh fr f N hf (by omega) (by omega) hN hn' hw hq hle he hop
      · exact chopen_m1_bad k r hash es (grl l / 64) sent (grl l) (decide (0 < l.length)) wg wb hk hr hh fr f N hf (by omega) (by omega) hN hn' hw hq hle he hop
    | some p =>
      exact absurd (by unfold op19; rw [if_neg (by rw [hf]; exact h1), if_neg (by rw [hf]; exact h2), if_neg h3, if_neg h4, if_neg h5, if_neg h6, hR, hop]) hz
theorem chseal_u (k r hash : List UInt8) (es er sent g : UInt64) (any : Bool) (wg wb : UInt64) (hk : k.length = 32) (hr : r.length = 32) (hh : hash.length = 32) (c : List UInt8) (n : Nat) (hc : c.length = n) (hn : n ≤ 4096) (hs : ¬ 281474976710655 < sent) (hm : es ≤ sent / 64) : Good Try.prog 10 [.c (.ptr 0 0), .c (.ro n (u8s c))] [some (chC es er 2 (decide (es ≠ 0)) 4 6 (decide (er ≠ 0)) 8 sent 1 g any hash), some (wcs true wg wb), some (cC (.ptr 3 0) 0), some (u8s (S0 k es.toNat)), cb (decide (es ≠ 0)) 5, kb (decide (es ≠ 0)) (S1 k es.toNat), some (cC (.ptr 7 0) 0), some (u8s (S0 r er.toNat)), cb (decide (er ≠ 0)) 9, kb (decide (er ≠ 0)) (S1 r er.toNat)] (.t [.c (.slc 14 0 (8 + (n + 16)) 1), .c (cn 0)]) [some (chC (sent / 64) er 10 (decide ((sent / 64) ≠ 0)) 12 6 (decide (er ≠ 0)) 8 (sent + 1) 1 g any hash), some (wcs true wg wb), none, none, none, none, some (cC (.ptr 7 0) 0), some (u8s (S0 r er.toNat)), cb (decide (er ≠ 0)) 9, kb (decide (er ≠ 0)) (S1 r er.toNat), some (cC (.ptr 11 0) 0), some (u8s (S0 k (sent / 64).toNat)), cb (decide ((sent / 64) ≠ 0)) 13, kb (decide ((sent / 64) ≠ 0)) (S1 k (sent / 64).toNat), some (u8s (fr19 k hash sent c))] := by
  have hm' : mx es (sent / 64) = sent / 64 := by
    unfold mx; split
    · rfl
    · rename_i h; rw [UInt64.lt_iff_toNat_lt] at h; rw [UInt64.le_iff_toNat_le] at hm; exact UInt64.toNat_inj.1 (by omega)
  rcases Nat.mod_two_eq_zero_or_one (sent / 64).toNat with he | he
  · exact chseal_m0 k r hash es er sent g any wg wb hk hr hh c n hc hn hs hm' he
  · have hg := chseal_m1 k r hash es er sent g any wg wb hk hr hh c n hc hn hs hm' he
    rw [ne_zero_odd he]; exact hg
end Go.Proofs.Ytklcckngmmklhaa

/- What functions of the program do, walked over the abstract machine. -/
namespace Go.Proofs.Ytklcckngmmklhaa
open Go Go.Abs Go.Proofs Go.Proofs.Ytklcckngmmklhaa.Ch Go.Proofs.Ytklcckngmmklhaa.Po Go.Proofs.Ytklcckngmmklhaa.Ae Go.Proofs.Ytklcckngmmklhaa.Wd

set_option maxRecDepth 20000
theorem ch0_map {es er sent g : UInt64} {p0 p1 q0 q1 w p0' p1' q0' q1' w' d : Nat} {any : Bool} {hash : List UInt8} {m : CM} (a : m.fp p0 = some p0') (c : m.fp q0 = some q0') (f : m.fp w = some w') :
    (chC es er p0 false p1 q0 false q1 sent w g any hash).map (cm m (d + 1)) = chC es er p0' false p1' q0' false q1' sent w' g any hash := by
  show cm m (d + 1) (c64 es) :: cm m (d + 1) (.ptr p0 0) :: .nilp :: cm m (d + 1) (c64 er) :: cm m (d + 1) (.ptr q0 0) :: .nilp :: cm m (d + 1) (c64 sent) :: cm m (d + 1) (.ptr w 0) :: cm m (d + 1) (c64 g) :: cm m (d + 1) (.bool any) :: (u8s hash).map (cm m (d + 1)) = _
  rw [pt_cmm a, pt_cmm c, pt_cmm f, mapc_cm]; rfl
/-- escutcheonlaw19.two -/
theorem two0 (a b hash : List UInt8) (ha : a.length = 32) (hb : b.length = 32) (hh : hash.length = 32) : Good Try.prog 9 [.a (u8s a), .a (u8s b), .a (u8s hash)] [] (.t [.c (.ptr 0 0), .c (.ptr 6 0)]) [some (chC 0 0 2 false 0 4 false 0 0 1 0 false hash), some (wcs true 0 0), some (cC (.ptr 3 0) 0), some (u8s a), some (cC (.ptr 5 0) 0), some (u8s b), some (chC 0 0 8 false 0 10 false 0 0 7 0 false hash), some (wcs true 0 0), some (cC (.ptr 9 0) 0), some (u8s b), some (cC (.ptr 11 0) 0), some (u8s a)] := by
  refine good_frm 20 Try.func9 rfl rfl rfl rfl rfl rfl ?_
  refine awp_seq ?_
  refine rln ?_
  refine G2 (fun _ k_ => q_boxa k_) ?_
  refine G2 (fun _ k_ => q_boxa k_) ?_
  refine G2 (fun _ k_ => q_boxa k_) ?_
  refine As ?_
  refine As ?_
  refine gend ?_
  refine awp_seq ?_
  refine rdln [1, 3, 5, 7, 9, 11] [0, 0, 0, 1, 0, 2, 0, 3, 0, 4, 0, 5, 6, 6] [0, 1, 1, 2, 2, 3, 3, 4, 4, 5, 5, 6, 6, 6] ?_
  refine DLw ?_
  refine De2 (fun _ k_ => q_callv [] [] [some (u8s a), some (cC (.ptr 0 0) 0)] (new_ a ha) k_ (ha := (caa (et rfl) sees_m ca0)) (e2 := pl0) (eL := ml0) (eM := (ml1 sees_m (ml1 rfl ml0)))) ?_
  refine DLw ?_
  refine De2 (fun _ k_ => q_callv [] [] [some (u8s b), some (cC (.ptr 0 0) 0)] (new_ b hb) k_ (ha := (caa (et rfl) sees_m ca0)) (e2 := pl0) (eL := ml0) (eM := (ml1 sees_m (ml1 rfl ml0)))) ?_
  refine DLw ?_
  refine De2 (fun _ k_ => q_callv [4, 3, 6, 5] [some (cC (.ptr 1 0) 0), some (u8s a), some (cC (.ptr 3 0) 0), some (u8s b)] [some (chC 0 0 6 false 0 7 false 0 0 5 0 false hash), some (wcs true 0 0), some (cC (.ptr 1 0) 0), some (cC (.ptr 3 0) 0)] (cnew_ a b hash ha hb hh) k_ (ha := (cac (et rfl) rfl (cac (et rfl) rfl (caa (et rfl) sees_m ca0)))) (e2 := (pl1 rfl rfl (pl1 rfl sees_m (pl1 rfl rfl (pl1 rfl sees_m pl0))))) (eL := (ml1 rfl (ml1 sees_m (ml1 rfl (ml1 sees_m ml0))))) (eM := (ml1 (ch0_map (p1' := 0) (q1' := 0) rfl rfl rfl) (ml1 rfl (ml1 rfl (ml1 rfl ml0)))))) ?_
  refine DLw ?_
  refine De2 (fun _ k_ => q_callv [] [] [some (u8s b), some (cC (.ptr 0 0) 0)] (new_ b hb) k_ (ha := (caa (et rfl) sees_m ca0)) (e2 := pl0) (eL := ml0) (eM := (ml1 sees_m (ml1 rfl ml0)))) ?_
  refine DLw ?_
  refine De2 (fun _ k_ => q_callv [] [] [some (u8s a), some (cC (.ptr 0 0) 0)] (new_ a ha) k_ (ha := (caa (et rfl) sees_m ca0)) (e2 := pl0) (eL := ml0) (eM := (ml1 sees_m (ml1 rfl ml0)))) ?_
  refine DLw ?_
  refine De2 (fun _ k_ => q_callv [12, 11, 14, 13] [some (cC (.ptr 1 0) 0), some (u8s b), some (cC (.ptr 3 0) 0), some (u8s a)] [some (chC 0 0 6 false 0 7 false 0 0 5 0 false hash), some (wcs true 0 0), some (cC (.ptr 1 0) 0), some (cC (.ptr 3 0) 0)] (cnew_ b a hash hb ha hh) k_ (ha := (cac (et rfl) rfl (cac (et rfl) rfl (caa (et rfl) sees_m ca0)))) (e2 := (pl1 rfl rfl (pl1 rfl sees_m (pl1 rfl rfl (pl1 rfl sees_m pl0))))) (eL := (ml1 rfl (ml1 sees_m (ml1 rfl (ml1 sees_m ml0))))) (eM := (ml1 (ch0_map (p1' := 0) (q1' := 0) rfl rfl rfl) (ml1 rfl (ml1 rfl (ml1 rfl ml0)))))) ?_
  refine Dp (fun _ => q_as (s := .v (.c _)) ⟨rfl, rfl⟩) ?_
  refine Dp (fun _ => q_as (s := .v (.c _)) ⟨rfl, rfl⟩) ?_
  refine dend ?_
  refine awp_ret ?_
  exact fx2 [7, 8, 9, 3, 10, 5, 15, 16, 17, 11, 18, 13] (hm0 := rfl) (hH := (pl1 rfl (ch0_map rfl rfl rfl) (pl1 rfl rfl (pl1 rfl rfl (pl1 rfl sees_m (pl1 rfl rfl (pl1 rfl sees_m (pl1 rfl (ch0_map rfl rfl rfl) (pl1 rfl rfl (pl1 rfl rfl (pl1 rfl sees_m (pl1 rfl rfl (pl1 rfl sees_m pl0))))))))))))) (hn := (fun p h => absurd h (Nat.not_lt_zero _)))
theorem two_ (a b hash : List UInt8) (ha : a.length = 32) (hb : b.length = 32) (hh : hash.length = 32) : Good Try.prog 9 [.a (u8s a), .a (u8s b), .a (u8s hash)] [] (.t [.c (.ptr 0 0), .c (.ptr 10 0)]) [some (chC (0 : UInt64) (grl [] / 64) 2 (decide ((0 : UInt64) ≠ 0)) 4 6 (decide ((grl [] / 64) ≠ 0)) 8 (0 : UInt64) 1 (grl []) (decide (0 < ([] : List UInt64).length)) hash), some (wcs true 0 0), some (cC (.ptr 3 0) 0), some (u8s (S0 a (0 : UInt64).toNat)), cb (decide ((0 : UInt64) ≠ 0)) 5, kb (decide ((0 : UInt64) ≠ 0)) (S1 a (0 : UInt64).toNat), some (cC (.ptr 7 0) 0), some (u8s (S0 b (grl [] / 64).toNat)), cb (decide ((grl [] / 64) ≠ 0)) 9, kb (decide ((grl [] / 64) ≠ 0)) (S1 b (grl [] / 64).toNat), some (chC (0 : UInt64) (grl [] / 64) 12 (decide ((0 : UInt64) ≠ 0)) 14 16 (decide ((grl [] / 64) ≠ 0)) 18 (0 : UInt64) 11 (grl []) (decide (0 < ([] : List UInt64).length)) hash), some (wcs true 0 0), some (cC (.ptr 13 0) 0), some (u8s (S0 b (0 : UInt64).toNat)), cb (decide ((0 : UInt64) ≠ 0)) 15, kb (decide ((0 : UInt64) ≠ 0)) (S1 b (0 : UInt64).toNat), some (cC (.ptr 17 0) 0), some (u8s (S0 a (grl [] / 64).toNat)), cb (decide ((grl [] / 64) ≠ 0)) 19, kb (decide ((grl [] / 64) ≠ 0)) (S1 a (grl [] / 64).toNat)] :=
  (two0 a b hash ha hb hh).ren' [(0, true), (1, true), (2, true), (3, true), (0, false), (0, false), (4, true), (5, true), (0, false), (0, false), (6, true), (7, true), (8, true), (9, true), (0, false), (0, false), (10, true), (11, true), (0, false), (0, false)] (rlT rfl (ch0_map rfl rfl rfl) (rlT rfl rfl (rlT rfl rfl (rlT rfl sees_m (rlF (rlF (rlT rfl rfl (rlT rfl sees_m (rlF (rlF (rlT rfl (ch0_map rfl rfl rfl) (rlT rfl rfl (rlT rfl rfl (rlT rfl sees_m (rlF (rlF (rlT rfl rfl (rlT rfl sees_m (rlF (rlF rl0))))))))))))))))))))
end Go.Proofs.Ytklcckngmmklhaa

/- What functions of the program do, walked over the abstract machine. -/
namespace Go.Proofs.Ytklcckngmmklhaa
open Go Go.Abs Go.Proofs Go.Proofs.Ytklcckngmmklhaa.Ch Go.Proofs.Ytklcckngmmklhaa.Po Go.Proofs.Ytklcckngmmklhaa.Ae Go.Proofs.Ytklcckngmmklhaa.Wd

set_option maxRecDepth 20000
theorem rg_app (l : List UInt8) (c : UInt8) : rg (l ++ [c]) = rg l * 256 + c.toUInt64 := by simp [rg]
theorem fbl_rg (n : UInt64) : ∀ j, j ≤ 8 → (rg (fbl n j)).toNat = n.toNat / 2 ^ (64 - 8 * j)
  | 0, _ => by
    have := n.toNat_lt
    show 0 = _
    rw [Nat.div_eq_of_lt (by simpa using this)]
  | j + 1, h => by
    have ih := fbl_rg n j (by omega)
    have hn := n.toNat_lt
    rw [fbl, rg_app, UInt64.toNat_add, UInt64.toNat_mul, ih, UInt8.toNat_toUInt64, UInt64.toNat_toUInt8, show (256 : UInt64).toNat = 256 from rfl]
    rw [show (UInt64.ofNat (8 * (7 - j))).toNat = 8 * (7 - j) by rw [UInt64.toNat_ofNat', Nat.mod_eq_of_lt (by omega)], shr_nat n _ (by omega)]
    match j, h with
    | 0, _ => simp only [show 64 - 8 * 0 = 64 from rfl, show 8 * (7 - 0) = 56 from rfl, show 64 - 8 * (0 + 1) = 56 from rfl]; omega
    | 1, _ => simp only [show 64 - 8 * 1 = 56 from rfl, show 8 * (7 - 1) = 48 from rfl, show 64 - 8 * (1 + 1) = 48 from rfl]; omega
    | 2, _ => simp only [show 64 - 8 * 2 = 48 from rfl, show 8 * (7 - 2) = 40 from rfl, show 64 - 8 * (2 + 1) = 40 from rfl]; omega
    | 3, _ => simp only [show 64 - 8 * 3 = 40 from rfl, show 8 * (7 - 3) = 32 from rfl, show 64 - 8 * (3 + 1) = 32 from rfl]; omega
    | 4, _ => simp only [show 64 - 8 * 4 = 32 from rfl, show 8 * (7 - 4) = 24 from rfl, show 64 - 8 * (4 + 1) = 24 from rfl]; omega
    | 5, _ => simp only [show 64 - 8 * 5 = 24 from rfl, show 8 * (7 - 5) = 16 from rfl, show 64 - 8 * (5 + 1) = 16 from rfl]; omega
    | 6, _ => simp only [show 64 - 8 * 6 = 16 from rfl, show 8 * (7 - 6) = 8 from rfl, show 64 - 8 * (6 + 1) = 8 from rfl]; omega
    | 7, _ => simp only [show 64 - 8 * 7 = 8 from rfl, show 8 * (7 - 7) = 0 from rfl, show 64 - 8 * (7 + 1) = 0 from rfl]; omega
theorem rg_fbl (n : UInt64) : rg (fbl n 8) = n := by
  apply UInt64.toNat_inj.1
  rw [fbl_rg n 8 (Nat.le_refl _)]; simp
theorem fr19_take (s h c : List UInt8) (n : UInt64) : rg ((fr19 s h n c).take 8) = n := by
  rw [fr19, List.take_left' (fbl_len n 8), rg_fbl]
theorem fr19_drop (s h c : List UInt8) (n : UInt64) : (fr19 s h n c).drop 8 = aseal (kE s (n / 64).toNat) (anonce n) h c := by
  rw [fr19, List.drop_left' (fbl_len n 8)]
/-- What is opened of a frame that is right. -/
theorem op19_fr {r h c : List UInt8} {l : List UInt64} {n : UInt64} (hc : c.length ≤ 4096) (hn : n.toNat ≤ 281474976710655) (h1 : n ∉ l) (h2 : ¬ (0 < l.length ∧ n + 64 ≤ grl l)) (h3 : ¬ grl l / 64 + 16 < n / 64) : op19 r h l (fr19 r h n c) = (c, n, 0, l ++ [n]) := by
  unfold op19
  rw [fr19_take, fr19_drop, fr19_len, if_neg (by omega), if_neg (by omega), if_neg (by rw [UInt64.le_iff_toNat_le, show (281474976710656 : UInt64).toNat = 281474976710656 from rfl]; omega), if_neg h1, if_neg h2, if_neg h3, aopen_aseal]
theorem op19_seq {r h c : List UInt8} {l : List UInt64} {n : UInt64} (hc : c.length ≤ 4096) (hn : n.toNat ≤ 281474976710655) (h1 : n ∉ l) (h2 : ¬ (0 < l.length ∧ n + 64 ≤ grl l)) (h3 : grl l / 64 + 16 < n / 64) : op19 r h l (fr19 r h n c) = ([], 0, 9, l) := by
  unfold op19
  rw [fr19_take, fr19_drop, fr19_len, if_neg (by omega), if_neg (by omega), if_neg (by rw [UInt64.le_iff_toNat_le, show (281474976710656 : UInt64).toNat = 281474976710656 from rfl]; omega), if_neg h1, if_neg h2, if_pos h3]
theorem op19_rep {r s h c : List UInt8} {l : List UInt64} {n : UInt64} (hc : c.length ≤ 4096) (hn : n.toNat ≤ 281474976710655) (h1 : n ∈ l ∨ (0 < l.length ∧ n + 64 ≤ grl l)) : op19 r h l (fr19 s h n c) = ([], 0, 10, l) := by
  unfold op19
  rw [fr19_take, fr19_len, if_neg (by omega), if_neg (by omega), if_neg (by rw [UInt64.le_iff_toNat_le, show (281474976710656 : UInt64).toNat = 281474976710656 from rfl]; omega)]
  by_cases h : n ∈ l
  · rw [if_pos h]
  · rw [if_neg h, if_pos (h1.resolve_left h)]
theorem key1 {K : List UInt8} {x : UInt8} (h : (x :: List.replicate 31 0 : List UInt8) = K) {m : CM} {d : Nat} : ((u8s (List.replicate 32 0)).set (0 * 1) (c8 x)).map (cm m d) = u8s K := by
  subst h
  rw [show (u8s (List.replicate 32 0)).set (0 * 1) (c8 x) = u8s (x :: List.replicate 31 0) from rfl]
  exact sees_m
set_option maxHeartbeats 1600000 in
/-- escutcheonlaw19.known -/
theorem known_ : Good Try.prog 8 [] [] (sc (.bool true)) [] := by
  obtain ⟨A, hA⟩ : ∃ z, (1 :: List.replicate 31 0 : List UInt8) = z := ⟨_, rfl⟩
  have hAl : A.length = 32 := by rw [← hA]; rfl
  obtain ⟨B, hB⟩ : ∃ z, (2 :: List.replicate 31 0 : List UInt8) = z := ⟨_, rfl⟩
  have hBl : B.length = 32 := by rw [← hB]; rfl
  obtain ⟨X, hX⟩ : ∃ z, (3 :: List.replicate 31 0 : List UInt8) = z := ⟨_, rfl⟩
  have hXl : X.length = 32 := by rw [← hX]; rfl
  have o1 : op19 A X [] (fr19 A X ((0 : UInt64) + 1) [121]) = ([121], (0 + 1), 0, [0 + 1]) := op19_fr (by decide) (by decide) (by decide) (by decide) (by decide)
  have o2 : op19 A X [0 + 1] (fr19 A X (0 : UInt64) [120]) = ([120], 0, 0, [0 + 1, 0]) := op19_fr (by decide) (by decide) (by decide) (by decide) (by decide)
  have o3 : op19 A X [0 + 1, 0] (fr19 A X (0 : UInt64) [120]) = ([], 0, 10, [0 + 1, 0]) := op19_rep (by decide) (by decide) (by decide)
  have hx := fr19_len (s := A) (h := X) (n := 0) (c := [120])
  have hy := fr19_len (s := A) (h := X) (n := 0 + 1) (c := [121])
  obtain ⟨x0, e0⟩ : ∃ z, (fr19 A X (0 : UInt64) [120]) = z := ⟨_, rfl⟩
  obtain ⟨y0, e1⟩ : ∃ z, (fr19 A X ((0 : UInt64) + 1) [121]) = z := ⟨_, rfl⟩
  rw [e0] at o2 o3 hx
  rw [e1] at o1 hy
  have I1 := op19_inv (r := A) (h := X) (fr := y0) inv_nil (fun _ h => absurd h List.not_mem_nil)
  rw [o1] at I1
  have I2 := op19_inv (r := A) (h := X) (fr := x0) I1.1 I1.2
  rw [o2] at I2
  have g1 : Good Try.prog 11 [.c (.ptr 0 0), .c (.ro 25 (u8s y0))] [some (chC (0 : UInt64) (grl [] / 64) 2 (decide ((0 : UInt64) ≠ 0)) 4 6 (decide ((grl [] / 64) ≠ 0)) 8 (0 : UInt64) 1 (grl []) (decide (0 < ([] : List UInt64).length)) X), some (wcs true 0 0), some (cC (.ptr 3 0) 0), some (u8s (S0 B (0 : UInt64).toNat)), cb (decide ((0 : UInt64) ≠ 0)) 5, kb (decide ((0 : UInt64) ≠ 0)) (S1 B (0 : UInt64).toNat), some (cC (.ptr 7 0) 0), some (u8s (S0 A (grl [] / 64).toNat)), cb (decide ((grl [] / 64) ≠ 0)) 9, kb (decide ((grl [] / 64) ≠ 0)) (S1 A (grl [] / 64).toNat)] (.t [.c (.slc 14 0 ([121] : List UInt8).length 1), .c (c64 (0 + 1)), .c (cn 0)]) [some (chC (0 : UInt64) (grl [0 + 1] / 64) 2 (decide ((0 : UInt64) ≠ 0)) 4 10 (decide ((grl [0 + 1] / 64) ≠ 0)) 12 (0 : UInt64) 1 (grl [0 + 1]) (decide (0 < ([0 + 1] : List UInt64).length)) X), some (wcs true (wn ([121], 0 + 1, 0, [0 + 1]) 0 0).1 (wn ([121], 0 + 1, 0, [0 + 1]) 0 0).2), some (cC (.ptr 3 0) 0), some (u8s (S0 B (0 : UInt64).toNat)), cb (decide ((0 : UInt64) ≠ 0)) 5, kb (decide ((0 : UInt64) ≠ 0)) (S1 B (0 : UInt64).toNat), none, none, none, none, some (cC (.ptr 11 0) 0), some (u8s (S0 A (grl [0 + 1] / 64).toNat)), cb (decide ((grl [0 + 1] / 64) ≠ 0)) 13, kb (decide ((grl [0 + 1] / 64) ≠ 0)) (S1 A (grl [0 + 1] / 64).toNat), some (u8s [121])] := by
    have h := chopen_u B A X (0 : UInt64) (0 : UInt64) [] 0 0 hBl hAl hXl inv_nil (fun _ h => absurd h List.not_mem_nil) y0 25 hy
    rw [o1] at h
    exact h
  have g2 : Good Try.prog 11 [.c (.ptr 0 0), .c (.ro 25 (u8s x0))] [some (chC (0 : UInt64) (grl [0 + 1] / 64) 2 (decide ((0 : UInt64) ≠ 0)) 4 6 (decide ((grl [0 + 1] / 64) ≠ 0)) 8 (0 : UInt64) 1 (grl [0 + 1]) (decide (0 < ([0 + 1] : List UInt64).length)) X), some (wcs true (wn ([121], 0 + 1, 0, [0 + 1]) 0 0).1 (wn ([121], 0 + 1, 0, [0 + 1]) 0 0).2), some (cC (.ptr 3 0) 0), some (u8s (S0 B (0 : UInt64).toNat)), cb (decide ((0 : UInt64) ≠ 0)) 5, kb (decide ((0 : UInt64) ≠ 0)) (S1 B (0 : UInt64).toNat), some (cC (.ptr 7 0) 0), some (u8s (S0 A (grl [0 + 1] / 64).toNat)), cb (decide ((grl [0 + 1] / 64) ≠ 0)) 9, kb (decide ((grl [0 + 1] / 64) ≠ 0)) (S1 A (grl [0 + 1] / 64).toNat)] (.t [.c (.slc 14 0 ([120] : List UInt8).length 1), .c (c64 0), .c (cn 0)]) [some (chC (0 : UInt64) (grl [0 + 1, 0] / 64) 2 (decide ((0 : UInt64) ≠ 0)) 4 10 (decide ((grl [0 + 1, 0] / 64) ≠ 0)) 12 (0 : UInt64) 1 (grl [0 + 1, 0]) (decide (0 < ([0 + 1, 0] : List UInt64).length)) X), some (wcs true (wn ([120], 0, 0, [0 + 1, 0]) (wn ([121], 0 + 1, 0, [0 + 1]) 0 0).1 (wn ([121], 0 + 1, 0, [0 + 1]) 0 0).2).1 (wn ([120], 0, 0, [0 + 1, 0]) (wn ([121], 0 + 1, 0, [0 + 1]) 0 0).1 (wn ([121], 0 + 1, 0, [0 + 1]) 0 0).2).2), some (cC (.ptr 3 0) 0), some (u8s (S0 B (0 : UInt64).toNat)), cb (decide ((0 : UInt64) ≠ 0)) 5, kb (decide ((0 : UInt64) ≠ 0)) (S1 B (0 : UInt64).toNat), none, none, none, none, some (cC (.ptr 11 0) 0), some (u8s (S0 A (grl [0 + 1, 0] / 64).toNat)), cb (decide ((grl [0 + 1, 0] / 64) ≠ 0)) 13, kb (decide ((grl [0 + 1, 0] / 64) ≠ 0)) (S1 A (grl [0 + 1, 0] / 64).toNat), some (u8s [120])] := by
    have h := chopen_u B A X (0 : UInt64) (0 : UInt64) [0 + 1] (wn ([121], 0 + 1, 0, [0 + 1]) 0 0).1 (wn ([121], 0 + 1, 0, [0 + 1]) 0 0).2 hBl hAl hXl I1.1 I1.2 x0 25 hx
    rw [o2] at h
    exact h
  have g3 : Good Try.prog 11 [.c (.ptr 0 0), .c (.ro 25 (u8s x0))] [some (chC (0 : UInt64) (grl [0 + 1, 0] / 64) 2 (decide ((0 : UInt64) ≠ 0)) 4 6 (decide ((grl [0 + 1, 0] / 64) ≠ 0)) 8 (0 : UInt64) 1 (grl [0 + 1, 0]) (decide (0 < ([0 + 1, 0] : List UInt64).length)) X), some (wcs true (wn ([120], 0, 0, [0 + 1, 0]) (wn ([121], 0 + 1, 0, [0 + 1]) 0 0).1 (wn ([121], 0 + 1, 0, [0 + 1]) 0 0).2).1 (wn ([120], 0, 0, [0 + 1, 0]) (wn ([121], 0 + 1, 0, [0 + 1]) 0 0).1 (wn ([121], 0 + 1, 0, [0 + 1]) 0 0).2).2), some (cC (.ptr 3 0) 0), some (u8s (S0 B (0 : UInt64).toNat)), cb (decide ((0 : UInt64) ≠ 0)) 5, kb (decide ((0 : UInt64) ≠ 0)) (S1 B (0 : UInt64).toNat), some (cC (.ptr 7 0) 0), some (u8s (S0 A (grl [0 + 1, 0] / 64).toNat)), cb (decide ((grl [0 + 1, 0] / 64) ≠ 0)) 9, kb (decide ((grl [0 + 1, 0] / 64) ≠ 0)) (S1 A (grl [0 + 1, 0] / 64).toNat)] (.t [.c (.slc 14 0 (([] : List UInt8) : List UInt8).length 1), .c (c64 0), .c (cn 10)]) [some (chC (0 : UInt64) (grl [0 + 1, 0] / 64) 2 (decide ((0 : UInt64) ≠ 0)) 4 10 (decide ((grl [0 + 1, 0] / 64) ≠ 0)) 12 (0 : UInt64) 1 (grl [0 + 1, 0]) (decide (0 < ([0 + 1, 0] : List UInt64).length)) X), some (wcs true (wn ([120], 0, 0, [0 + 1, 0]) (wn ([121], 0 + 1, 0, [0 + 1]) 0 0).1 (wn ([121], 0 + 1, 0, [0 + 1]) 0 0).2).1 (wn ([120], 0, 0, [0 + 1, 0]) (wn ([121], 0 + 1, 0, [0 + 1]) 0 0).1 (wn ([121], 0 + 1, 0, [0 + 1]) 0 0).2).2), some (cC (.ptr 3 0) 0), some (u8s (S0 B (0 : UInt64).toNat)), cb (decide ((0 : UInt64) ≠ 0)) 5, kb (decide ((0 : UInt64) ≠ 0)) (S1 B (0 : UInt64).toNat), none, none, none, none, some (cC (.ptr 11 0) 0), some (u8s (S0 A (grl [0 + 1, 0] / 64).toNat)), cb (decide ((grl [0 + 1, 0] / 64) ≠ 0)) 13, kb (decide ((grl [0 + 1, 0] / 64) ≠ 0)) (S1 A (grl [0 + 1, 0] / 64).toNat), some (u8s ([] : List UInt8))] := by
    have h := chopen_u B A X (0 : UInt64) (0 : UInt64) [0 + 1, 0] (wn ([120], 0, 0, [0 + 1, 0]) (wn ([121], 0 + 1, 0, [0 + 1]) 0 0).1 (wn ([121], 0 + 1, 0, [0 + 1]) 0 0).2).1 (wn ([120], 0, 0, [0 + 1, 0]) (wn ([121], 0 + 1, 0, [0 + 1]) 0 0).1 (wn ([121], 0 + 1, 0, [0 + 1]) 0 0).2).2 hBl hAl hXl I2.1 I2.2 x0 25 hx
    rw [o3] at h
    exact h
  have q1 := chseal_u A B X (0 : UInt64) (grl [] / 64) (0 : UInt64) (grl []) (decide (0 < ([] : List UInt64).length)) 0 0 hAl hBl hXl [120] 1 rfl (by decide) (by decide) (by decide)
  have q2 := chseal_u A B X ((0 : UInt64) / 64) (grl [] / 64) ((0 : UInt64) + 1) (grl []) (decide (0 < ([] : List UInt64).length)) 0 0 hAl hBl hXl [121] 1 rfl (by decide) (by decide) (by decide)
  rw [e0] at q1
  rw [e1] at q2
  refine good_frm 94 Try.func8 rfl rfl rfl rfl rfl rfl ?_
  refine awp_seq ?_
  refine rln ?_
  refine As ?_
  refine gend ?_
  refine awp_seq ?_
  refine rln ?_
  refine G (q_bla (fkc (c := c8 1) rfl rfl rfl (Nat.le_of_ble_eq_true rfl) (fk0 ?_)))
  refine G (q_bla (fkc (c := c8 2) rfl rfl rfl (Nat.le_of_ble_eq_true rfl) (fk0 ?_)))
  refine G (q_bla (fkc (c := c8 3) rfl rfl rfl (Nat.le_of_ble_eq_true rfl) (fk0 ?_)))
  refine G2 (fun _ k_ => q_callv [] [] [some (chC (0 : UInt64) (grl [] / 64) 2 (decide ((0 : UInt64) ≠ 0)) 4 6 (decide ((grl [] / 64) ≠ 0)) 8 (0 : UInt64) 1 (grl []) (decide (0 < ([] : List UInt64).length)) X), some (wcs true 0 0), some (cC (.ptr 3 0) 0), some (u8s (S0 A (0 : UInt64).toNat)), cb (decide ((0 : UInt64) ≠ 0)) 5, kb (decide ((0 : UInt64) ≠ 0)) (S1 A (0 : UInt64).toNat), some (cC (.ptr 7 0) 0), some (u8s (S0 B (grl [] / 64).toNat)), cb (decide ((grl [] / 64) ≠ 0)) 9, kb (decide ((grl [] / 64) ≠ 0)) (S1 B (grl [] / 64).toNat), some (chC (0 : UInt64) (grl [] / 64) 12 (decide ((0 : UInt64) ≠ 0)) 14 16 (decide ((grl [] / 64) ≠ 0)) 18 (0 : UInt64) 11 (grl []) (decide (0 < ([] : List UInt64).length)) X), some (wcs true 0 0), some (cC (.ptr 13 0) 0), some (u8s (S0 B (0 : UInt64).toNat)), cb (decide ((0 : UInt64) ≠ 0)) 15, kb (decide ((0 : UInt64) ≠ 0)) (S1 B (0 : UInt64).toNat), some (cC (.ptr 17 0) 0), some (u8s (S0 A (grl [] / 64).toNat)), cb (decide ((grl [] / 64) ≠ 0)) 19, kb (decide ((grl [] / 64) ≠ 0)) (S1 A (grl [] / 64).toNat)] (two_ A B X hAl hBl hXl) k_ (ha := (caa (et rfl) (key1 hA) (caa (et rfl) (key1 hB) (caa (et rfl) (key1 hX) ca0)))) (e2 := pl0) (eL := ml0) (eM := (ml1 (chC_map rfl rfl rfl rfl rfl) (ml1 rfl (ml1 rfl (ml1 sees_m (mlb (cb_map rfl) (mlb kb_map (ml1 rfl (ml1 sees_m (mlb (cb_map rfl) (mlb kb_map (ml1 (chC_map rfl rfl rfl rfl rfl) (ml1 rfl (ml1 rfl (ml1 sees_m (mlb (cb_map rfl) (mlb kb_map (ml1 rfl (ml1 sees_m (mlb (cb_map rfl) (mlb kb_map ml0)))))))))))))))))))))) ?_
  refine G (q_mv (s := .t _) ?_)
  refine G (q_ext (y := .c _) ?_)
  refine G (q_ext (y := .c _) ?_)
  refine As ?_
  refine As ?_
  refine gend ?_
  refine awp_seq ?_
  refine rln ?_
  refine Mv ?_
  refine G2 (fun _ k_ => q_bsl (fkc (c := c8 120) rfl rfl rfl (Nat.le_of_ble_eq_true rfl) (fk0 k_))) ?_
  refine G (q_css ?_)
  refine G2 (fun _ k_ => q_callv [0, 1, 2, 3, 4, 5, 6, 7, 8, 9] [some (chC ((0 : UInt64) / 64) (grl [] / 64) 10 (decide (((0 : UInt64) / 64) ≠ 0)) 12 6 (decide ((grl [] / 64) ≠ 0)) 8 ((0 : UInt64) + 1) 1 (grl []) (decide (0 < ([] : List UInt64).length)) X), some (wcs true 0 0), none, none, none, none, some (cC (.ptr 7 0) 0), some (u8s (S0 B (grl [] / 64).toNat)), cb (decide ((grl [] / 64) ≠ 0)) 9, kb (decide ((grl [] / 64) ≠ 0)) (S1 B (grl [] / 64).toNat)] [some (cC (.ptr 11 0) 0), some (u8s (S0 A ((0 : UInt64) / 64).toNat)), cb (decide (((0 : UInt64) / 64) ≠ 0)) 13, kb (decide (((0 : UInt64) / 64) ≠ 0)) (S1 A ((0 : UInt64) / 64).toNat), some (u8s x0)] q1 k_ (ha := (cac (et rfl) rfl (cac (et rfl) (sees_slc rfl rfl rfl) ca0))) (e2 := (pl1 rfl (chC_map rfl rfl rfl rfl rfl) (pl1 rfl rfl (pl1 rfl rfl (pl1 rfl sees_m (plb rfl (cb_map rfl) (plb rfl kb_map (pl1 rfl rfl (pl1 rfl sees_m (plb rfl (cb_map rfl) (plb rfl kb_map pl0))))))))))) (eL := (ml1 (chC_map rfl rfl rfl rfl rfl) (ml1 rfl (mln (mln (mln (mln (ml1 rfl (ml1 sees_m (mlb (cb_map rfl) (mlb kb_map ml0))))))))))) (eM := (ml1 rfl (ml1 sees_m (mlb (cb_map rfl) (mlb kb_map (ml1 sees_m ml0))))))) ?_
  refine G (q_mv (s := .t _) ?_)
  refine G (q_ext (y := .c _) ?_)
  refine G (q_ext (y := .c _) ?_)
  refine As ?_
  refine As ?_
  refine gend ?_
  refine awp_seq ?_
  refine rln ?_
  refine Mv ?_
  refine G2 (fun _ k_ => q_bsl (fkc (c := c8 121) rfl rfl rfl (Nat.le_of_ble_eq_true rfl) (fk0 k_))) ?_
  refine G (q_css ?_)
  refine G2 (fun _ k_ => q_callv [0, 1, 21, 22, 23, 24, 6, 7, 8, 9] [some (chC (((0 : UInt64) + 1) / 64) (grl [] / 64) 10 (decide ((((0 : UInt64) + 1) / 64) ≠ 0)) 12 6 (decide ((grl [] / 64) ≠ 0)) 8 (((0 : UInt64) + 1) + 1) 1 (grl []) (decide (0 < ([] : List UInt64).length)) X), some (wcs true 0 0), none, none, none, none, some (cC (.ptr 7 0) 0), some (u8s (S0 B (grl [] / 64).toNat)), cb (decide ((grl [] / 64) ≠ 0)) 9, kb (decide ((grl [] / 64) ≠ 0)) (S1 B (grl [] / 64).toNat)] [some (cC (.ptr 11 0) 0), some (u8s (S0 A (((0 : UInt64) + 1) / 64).toNat)), cb (decide ((((0 : UInt64) + 1) / 64) ≠ 0)) 13, kb (decide ((((0 : UInt64) + 1) / 64) ≠ 0)) (S1 A (((0 : UInt64) + 1) / 64).toNat), some (u8s y0)] q2 k_ (ha := (cac (et rfl) rfl (cac (et rfl) (sees_slc rfl rfl rfl) ca0))) (e2 := (pl1 rfl (chC_map rfl rfl rfl rfl rfl) (pl1 rfl rfl (pl1 rfl rfl (pl1 rfl sees_m (plb rfl (cb_map rfl) (plb rfl kb_map (pl1 rfl rfl (pl1 rfl sees_m (plb rfl (cb_map rfl) (plb rfl kb_map pl0))))))))))) (eL := (ml1 (chC_map rfl rfl rfl rfl rfl) (ml1 rfl (mln (mln (mln (mln (ml1 rfl (ml1 sees_m (mlb (cb_map rfl) (mlb kb_map ml0))))))))))) (eM := (ml1 rfl (ml1 sees_m (mlb (cb_map rfl) (mlb kb_map (ml1 sees_m ml0))))))) ?_
  refine G (q_mv (s := .t _) ?_)
  refine G (q_ext (y := .c _) ?_)
  refine G (q_ext (y := .c _) ?_)
  refine As ?_
  refine As ?_
  refine gend ?_
  refine awp_seq ?_
  refine rln ?_
  refine Mv ?_
  refine Mv ?_
  refine G2 (fun _ k_ => q_callv [10, 11, 12, 13, 14, 15, 16, 17, 18, 19] [some (chC (0 : UInt64) (grl [0 + 1] / 64) 2 (decide ((0 : UInt64) ≠ 0)) 4 10 (decide ((grl [0 + 1] / 64) ≠ 0)) 12 (0 : UInt64) 1 (grl [0 + 1]) (decide (0 < ([0 + 1] : List UInt64).length)) X), some (wcs true (wn ([121], 0 + 1, 0, [0 + 1]) 0 0).1 (wn ([121], 0 + 1, 0, [0 + 1]) 0 0).2), some (cC (.ptr 3 0) 0), some (u8s (S0 B (0 : UInt64).toNat)), cb (decide ((0 : UInt64) ≠ 0)) 5, kb (decide ((0 : UInt64) ≠ 0)) (S1 B (0 : UInt64).toNat), none, none, none, none] [some (cC (.ptr 11 0) 0), some (u8s (S0 A (grl [0 + 1] / 64).toNat)), cb (decide ((grl [0 + 1] / 64) ≠ 0)) 13, kb (decide ((grl [0 + 1] / 64) ≠ 0)) (S1 A (grl [0 + 1] / 64).toNat), some (u8s [121])] g1 k_ (ha := (cac (et rfl) rfl (cac (et rfl) (sees_slc rfl rfl (cut_h hy)) ca0))) (e2 := (pl1 rfl (chC_map rfl rfl rfl rfl rfl) (pl1 rfl rfl (pl1 rfl rfl (pl1 rfl sees_m (plb rfl (cb_map rfl) (plb rfl kb_map (pl1 rfl rfl (pl1 rfl sees_m (plb rfl (cb_map rfl) (plb rfl kb_map pl0))))))))))) (eL := (ml1 (chC_map rfl rfl rfl rfl rfl) (ml1 rfl (ml1 rfl (ml1 sees_m (mlb (cb_map rfl) (mlb kb_map (mln (mln (mln (mln ml0))))))))))) (eM := (ml1 rfl (ml1 sees_m (mlb (cb_map rfl) (mlb kb_map (ml1 sees_m ml0))))))) ?_
  refine G (q_mv (s := .t _) ?_)
  refine G (q_ext (y := .c _) ?_)
  refine G (q_ext (y := .c _) ?_)
  refine G (q_ext (y := .c _) ?_)
  refine As ?_
  refine As ?_
  refine As ?_
  refine gend ?_
  refine awp_seq ?_
  refine rln ?_
  refine Mv ?_
  refine Mv ?_
  refine G2 (fun _ k_ => q_callv [10, 11, 12, 13, 14, 15, 32, 33, 34, 35] [some (chC (0 : UInt64) (grl [0 + 1, 0] / 64) 2 (decide ((0 : UInt64) ≠ 0)) 4 10 (decide ((grl [0 + 1, 0] / 64) ≠ 0)) 12 (0 : UInt64) 1 (grl [0 + 1, 0]) (decide (0 < ([0 + 1, 0] : List UInt64).length)) X), some (wcs true (wn ([120], 0, 0, [0 + 1, 0]) (wn ([121], 0 + 1, 0, [0 + 1]) 0 0).1 (wn ([121], 0 + 1, 0, [0 + 1]) 0 0).2).1 (wn ([120], 0, 0, [0 + 1, 0]) (wn ([121], 0 + 1, 0, [0 + 1]) 0 0).1 (wn ([121], 0 + 1, 0, [0 + 1]) 0 0).2).2), some (cC (.ptr 3 0) 0), some (u8s (S0 B (0 : UInt64).toNat)), cb (decide ((0 : UInt64) ≠ 0)) 5, kb (decide ((0 : UInt64) ≠ 0)) (S1 B (0 : UInt64).toNat), none, none, none, none] [some (cC (.ptr 11 0) 0), some (u8s (S0 A (grl [0 + 1, 0] / 64).toNat)), cb (decide ((grl [0 + 1, 0] / 64) ≠ 0)) 13, kb (decide ((grl [0 + 1, 0] / 64) ≠ 0)) (S1 A (grl [0 + 1, 0] / 64).toNat), some (u8s [120])] g2 k_ (ha := (cac (et rfl) rfl (cac (et rfl) (sees_slc rfl rfl (cut_h hx)) ca0))) (e2 := (pl1 rfl (chC_map rfl rfl rfl rfl rfl) (pl1 rfl rfl (pl1 rfl rfl (pl1 rfl sees_m (plb rfl (cb_map rfl) (plb rfl kb_map (pl1 rfl rfl (pl1 rfl sees_m (plb rfl (cb_map rfl) (plb rfl kb_map pl0))))))))))) (eL := (ml1 (chC_map rfl rfl rfl rfl rfl) (ml1 rfl (ml1 rfl (ml1 sees_m (mlb (cb_map rfl) (mlb kb_map (mln (mln (mln (mln ml0))))))))))) (eM := (ml1 rfl (ml1 sees_m (mlb (cb_map rfl) (mlb kb_map (ml1 sees_m ml0))))))) ?_
  refine G (q_mv (s := .t _) ?_)
  refine G (q_ext (y := .c _) ?_)
  refine G (q_ext (y := .c _) ?_)
  refine G (q_ext (y := .c _) ?_)
  refine As ?_
  refine As ?_
  refine As ?_
  refine gend ?_
  refine awp_seq ?_
  refine rln ?_
  refine Mv ?_
  refine Mv ?_
  refine G2 (fun _ k_ => q_callv [10, 11, 12, 13, 14, 15, 37, 38, 39, 40] [some (chC (0 : UInt64) (grl [0 + 1, 0] / 64) 2 (decide ((0 : UInt64) ≠ 0)) 4 10 (decide ((grl [0 + 1, 0] / 64) ≠ 0)) 12 (0 : UInt64) 1 (grl [0 + 1, 0]) (decide (0 < ([0 + 1, 0] : List UInt64).length)) X), some (wcs true (wn ([120], 0, 0, [0 + 1, 0]) (wn ([121], 0 + 1, 0, [0 + 1]) 0 0).1 (wn ([121], 0 + 1, 0, [0 + 1]) 0 0).2).1 (wn ([120], 0, 0, [0 + 1, 0]) (wn ([121], 0 + 1, 0, [0 + 1]) 0 0).1 (wn ([121], 0 + 1, 0, [0 + 1]) 0 0).2).2), some (cC (.ptr 3 0) 0), some (u8s (S0 B (0 : UInt64).toNat)), cb (decide ((0 : UInt64) ≠ 0)) 5, kb (decide ((0 : UInt64) ≠ 0)) (S1 B (0 : UInt64).toNat), none, none, none, none] [some (cC (.ptr 11 0) 0), some (u8s (S0 A (grl [0 + 1, 0] / 64).toNat)), cb (decide ((grl [0 + 1, 0] / 64) ≠ 0)) 13, kb (decide ((grl [0 + 1, 0] / 64) ≠ 0)) (S1 A (grl [0 + 1, 0] / 64).toNat), some (u8s ([] : List UInt8))] g3 k_ (ha := (cac (et rfl) rfl (cac (et rfl) (sees_slc rfl rfl (cut_h hx)) ca0))) (e2 := (pl1 rfl (chC_map rfl rfl rfl rfl rfl) (pl1 rfl rfl (pl1 rfl rfl (pl1 rfl sees_m (plb rfl (cb_map rfl) (plb rfl kb_map (pl1 rfl rfl (pl1 rfl sees_m (plb rfl (cb_map rfl) (plb rfl kb_map pl0))))))))))) (eL := (ml1 (chC_map rfl rfl rfl rfl rfl) (ml1 rfl (ml1 rfl (ml1 sees_m (mlb (cb_map rfl) (mlb kb_map (mln (mln (mln (mln ml0))))))))))) (eM := (ml1 rfl (ml1 sees_m (mlb (cb_map rfl) (mlb kb_map (ml1 sees_m ml0))))))) ?_
  refine G (q_mv (s := .t _) ?_)
  refine G (q_ext (y := .c _) ?_)
  refine G (q_ext (y := .c _) ?_)
  refine G (q_ext (y := .c _) ?_)
  refine As ?_
  refine As ?_
  refine As ?_
  refine gend ?_
  refine awp_seq ?_
  refine rln ?_
  refine Mv ?_
  refine G (q_eqln (y := 0) ?_)
  refine Mv ?_
  refine Aknd 60 (fun hb3 => ?_) ?_; rotate_left
  · exact rfl
  refine Gg (q_mv (s := .v (.c _)) ?_)
  refine Gg (q_eqln (y := 0) ?_)
  refine G (q_pkt ?_)
  refine Mv ?_
  refine Aknd 64 (fun hb7 => ?_) ?_; rotate_left
  · exact rfl
  refine Gg (q_mv (s := .v (.c _)) ?_)
  refine Gg (q_eqln (y := 0) ?_)
  refine G (q_pkt ?_)
  refine Mv ?_
  refine Aknd 68 (fun hb11 => ?_) ?_; rotate_left
  · exact rfl
  refine Gg (q_mv (s := .v (.c _)) ?_)
  refine Gg (q_eqln (y := 0) ?_)
  refine G (q_pkt ?_)
  refine Mv ?_
  refine Aknd 72 (fun hb15 => ?_) ?_; rotate_left
  · exact rfl
  refine Gg (q_mv (s := .v (.c _)) ?_)
  refine Gg (q_eqln (y := 10) ?_)
  refine G (q_pkt ?_)
  refine Mv ?_
  refine Aknd 76 (fun hb19 => ?_) ?_; rotate_left
  · exact rfl
  refine Gg (q_mv (s := .v (.c _)) ?_)
  refine Gg (q_csl ?_)
  refine Gg (q_eqls ?_)
  refine G (q_pkt ?_)
  refine Mv ?_
  refine Aknd 81 (fun hb24 => ?_) ?_; rotate_left
  · exact rfl
  refine Gg (q_mv (s := .v (.c _)) ?_)
  refine Gg (q_csl ?_)
  refine Gg (q_eqls ?_)
  refine G (q_pkt ?_)
  refine Mv ?_
  refine Aknd 86 (fun hb29 => ?_) ?_; rotate_left
  · exact rfl
  refine Gg (q_mv (s := .v (.c _)) ?_)
  refine Gg (q_eql64 (y := 1) ?_)
  refine G (q_pkt ?_)
  refine Mv ?_
  refine Aknd 90 (fun hb33 => ?_) ?_; rotate_left
  · exact rfl
  refine Gg (q_mv (s := .v (.c _)) ?_)
  refine Gg (q_eql64 (y := 0) ?_)
  refine G (q_pkt ?_)
  refine As ?_
  refine gend ?_
  refine awp_ret ?_
  exact fp1
end Go.Proofs.Ytklcckngmmklhaa

/- What functions of the program do, walked over the abstract machine. -/
namespace Go.Proofs.Ytklcckngmmklhaa
open Go Go.Abs Go.Proofs Go.Proofs.Ytklcckngmmklhaa.Ch Go.Proofs.Ytklcckngmmklhaa.Po Go.Proofs.Ytklcckngmmklhaa.Ae Go.Proofs.Ytklcckngmmklhaa.Wd

set_option maxRecDepth 20000
theorem ep_n {ep tt : UInt64} (h : ¬ 60 < ep) (h2 : ¬ 63 < tt) : (64 * ep + tt).toNat = 64 * ep.toNat + tt.toNat ∧ (64 * ep + tt) / 64 = ep ∧ (64 * ep + tt).toNat ≤ 5000 := by
  rw [UInt64.lt_iff_toNat_lt, show (60 : UInt64).toNat = 60 from rfl] at h
  rw [UInt64.lt_iff_toNat_lt, show (63 : UInt64).toNat = 63 from rfl] at h2
  have e1 : (64 * ep + tt).toNat = 64 * ep.toNat + tt.toNat := by
    rw [UInt64.toNat_add, UInt64.toNat_mul, show (64 : UInt64).toNat = 64 from rfl]
    omega
  refine ⟨e1, ?_, by omega⟩
  apply UInt64.toNat_inj.1
  rw [UInt64.toNat_div, e1, show (64 : UInt64).toNat = 64 from rfl]
  omega
theorem cnewU (a b hash : List UInt8) (ha : a.length = 32) (hb : b.length = 32) (hh : hash.length = 32) : Good Try.prog 16 [.c (.ptr 0 0), .c (.ptr 2 0), .a (u8s hash)] [some (cC (.ptr 1 0) 0), some (u8s a), some (cC (.ptr 3 0) 0), some (u8s b)] (sc (.ptr 4 0)) [some (cC (.ptr 1 0) 0), some (u8s (S0 a (0 : UInt64).toNat)), some (cC (.ptr 3 0) 0), some (u8s (S0 b (grl [] / 64).toNat)), some (chC (0 : UInt64) (grl [] / 64) 6 (decide ((0 : UInt64) ≠ 0)) 7 9 (decide ((grl [] / 64) ≠ 0)) 10 (0 : UInt64) 5 (grl []) (decide (0 < ([] : List UInt64).length)) hash), some (wcs true 0 0), some (cC (.ptr 1 0) 0), cb (decide ((0 : UInt64) ≠ 0)) 8, kb (decide ((0 : UInt64) ≠ 0)) (S1 a (0 : UInt64).toNat), some (cC (.ptr 3 0) 0), cb (decide ((grl [] / 64) ≠ 0)) 11, kb (decide ((grl [] / 64) ≠ 0)) (S1 b (grl [] / 64).toNat)] :=
  (cnew_ a b hash ha hb hh).ren' [(0, true), (1, true), (2, true), (3, true), (4, true), (5, true), (6, true), (0, false), (0, false), (7, true), (0, false), (0, false)] (rlT rfl rfl (rlT rfl sees_m (rlT rfl rfl (rlT rfl sees_m (rlT rfl (ch0_map rfl rfl rfl) (rlT rfl rfl (rlT rfl rfl (rlF (rlF (rlT rfl rfl (rlF (rlF rl0))))))))))))
/-- escutcheonlaw19.ChannelEpochs -/
theorem epochs_big1 (a hash : List UInt8) (ep tt : UInt64) (ha : a.length = 32) (hh : hash.length = 32) (h60 : 60 < ep) : Good Try.prog 4 [.a (u8s a), .a (u8s hash), .c (c64 ep), .c (c64 tt)] [] (sc (.bool true)) [] := by
  refine good_frm 131 Try.func4 rfl rfl rfl rfl rfl rfl ?_
  refine awp_seq ?_
  refine rln ?_
  refine G2 (fun _ k_ => q_boxa k_) ?_
  refine G2 (fun _ k_ => q_boxa k_) ?_
  refine As ?_
  refine gend ?_
  refine awp_seq ?_
  refine awp_seq ?_
  refine rln ?_
  refine Mv ?_
  refine G (q_gtr64 (y := 60) ?_)
  refine Mv ?_
  refine Aknd 25 (fun hb3 => ?_) ?_; rotate_left
  · exact h60
  refine Gn ?_
  refine Gn ?_
  refine G (q_pkt ?_)
  refine gend ?_
  refine cndT ?_
  refine awp_seq ?_
  refine rln ?_
  refine G2 (fun _ k_ => q_callp known_ k_) ?_
  refine As ?_
  refine gend ?_
  refine awp_ret ?_
  exact fp1
/-- escutcheonlaw19.ChannelEpochs -/
theorem epochs_big2 (a hash : List UInt8) (ep tt : UInt64) (ha : a.length = 32) (hh : hash.length = 32) (h60 : ¬ 60 < ep) (h63 : 63 < tt) : Good Try.prog 4 [.a (u8s a), .a (u8s hash), .c (c64 ep), .c (c64 tt)] [] (sc (.bool true)) [] := by
  refine good_frm 131 Try.func4 rfl rfl rfl rfl rfl rfl ?_
  refine awp_seq ?_
  refine rln ?_
  refine G2 (fun _ k_ => q_boxa k_) ?_
  refine G2 (fun _ k_ => q_boxa k_) ?_
  refine As ?_
  refine gend ?_
  refine awp_seq ?_
  refine awp_seq ?_
  refine rln ?_
  refine Mv ?_
  refine G (q_gtr64 (y := 60) ?_)
  refine Mv ?_
  refine Akfd 25 (fun hb3 => ?_) ?_; rotate_left
  · exact h60
  refine Gg (q_mv (s := .v (.c _)) ?_)
  refine Gg (q_gtr64 (y := 63) ?_)
  refine G (q_pkf ?_)
  refine gend ?_
  refine cndY (fun hc1 => ?_) ?_; rotate_left
  · exact h63
  refine awp_seq ?_
  refine rln ?_
  refine G2 (fun _ k_ => q_callp known_ k_) ?_
  refine As ?_
  refine gend ?_
  refine awp_ret ?_
  exact fp1
set_option maxHeartbeats 3200000 in
/-- escutcheonlaw19.ChannelEpochs -/
theorem epochs_z (a hash : List UInt8) (ep tt : UInt64) (ha : a.length = 32) (hh : hash.length = 32) (h60 : ¬ 60 < ep) (h63 : ¬ 63 < tt) (he : ep = 0) : Good Try.prog 4 [.a (u8s a), .a (u8s hash), .c (c64 ep), .c (c64 tt)] [] (sc (.bool true)) [] := by
  subst he
  have h16 : ¬ (16 : UInt64) < 0 := by decide
  obtain ⟨hn1, hn2, hn3⟩ := ep_n h60 h63
  obtain ⟨Y, hY⟩ : ∃ z, (8 :: List.replicate 31 0 : List UInt8) = z := ⟨_, rfl⟩
  have hYl : Y.length = 32 := by rw [← hY]; rfl
  obtain ⟨V, hV⟩ : ∃ z, (9 :: List.replicate 31 0 : List UInt8) = z := ⟨_, rfl⟩
  have hVl : V.length = 32 := by rw [← hV]; rfl
  have hK := kE_len ha (0 : UInt64).toNat
  have g15 := rkey_ a 0 ha
  have hXl := aseal_len (kE a (0 : UInt64).toNat) (anonce 0) [] [122]
  have gS := cseal_ok (kE a (0 : UInt64).toNat) [] [122] 0 0 1 hK rfl (by decide) rfl (by decide) (by decide)
  obtain ⟨X, hX⟩ : ∃ z, aseal (kE a (0 : UInt64).toNat) (anonce 0) [] [122] = z := ⟨_, rfl⟩
  rw [hX] at gS hXl
  replace hXl : X.length = 17 := hXl
  have o1 : op19 a hash [] (fr19 a hash (64 * 0 + tt) [113]) = ([113], (64 * 0 + tt), 0, [(64 * 0 + tt)]) := op19_fr (by decide) (by omega) (by simp) (by simp) (by rw [hn2]; exact h16)
  have g17 := rframe_ a hash [113] (64 * 0 + tt) 1 ha hh rfl (by decide)
  have hfl : (fr19 a hash (64 * 0 + tt) [113]).length = 25 := fr19_len
  obtain ⟨fr, hfr⟩ : ∃ z, fr19 a hash (64 * 0 + tt) [113] = z := ⟨_, rfl⟩
  rw [hfr] at o1 g17 hfl
  have gO : Good Try.prog 11 [.c (.ptr 0 0), .c (.ro 25 (u8s fr))] [some (chC (0 : UInt64) (grl [] / 64) 2 (decide ((0 : UInt64) ≠ 0)) 4 6 (decide ((grl [] / 64) ≠ 0)) 8 (0 : UInt64) 1 (grl []) (decide (0 < ([] : List UInt64).length)) hash), some (wcs true 0 0), some (cC (.ptr 3 0) 0), some (u8s (S0 Y (0 : UInt64).toNat)), cb (decide ((0 : UInt64) ≠ 0)) 5, kb (decide ((0 : UInt64) ≠ 0)) (S1 Y (0 : UInt64).toNat), some (cC (.ptr 7 0) 0), some (u8s (S0 a (grl [] / 64).toNat)), cb (decide ((grl [] / 64) ≠ 0)) 9, kb (decide ((grl [] / 64) ≠ 0)) (S1 a (grl [] / 64).toNat)] (.t [.c (.slc 14 0 ([113] : List UInt8).length 1), .c (c64 (64 * 0 + tt)), .c (cn 0)]) [some (chC (0 : UInt64) (grl [(64 * 0 + tt)] / 64) 2 (decide ((0 : UInt64) ≠ 0)) 4 10 (decide ((grl [(64 * 0 + tt)] / 64) ≠ 0)) 12 (0 : UInt64) 1 (grl [(64 * 0 + tt)]) (decide (0 < ([(64 * 0 + tt)] : List UInt64).length)) hash), some (wcs true (wn ([113], (64 * 0 + tt), 0, [(64 * 0 + tt)]) 0 0).1 (wn ([113], (64 * 0 + tt), 0, [(64 * 0 + tt)]) 0 0).2), some (cC (.ptr 3 0) 0), some (u8s (S0 Y (0 : UInt64).toNat)), cb (decide ((0 : UInt64) ≠ 0)) 5, kb (decide ((0 : UInt64) ≠ 0)) (S1 Y (0 : UInt64).toNat), none, none, none, none, some (cC (.ptr 11 0) 0), some (u8s (S0 a (grl [(64 * 0 + tt)] / 64).toNat)), cb (decide ((grl [(64 * 0 + tt)] / 64) ≠ 0)) 13, kb (decide ((grl [(64 * 0 + tt)] / 64) ≠ 0)) (S1 a (grl [(64 * 0 + tt)] / 64).toNat), some (u8s [113])] := by
    have h := chopen_u Y a hash (0 : UInt64) (0 : UInt64) [] 0 0 hYl ha hh inv_nil (fun _ h => absurd h List.not_mem_nil) fr 25 hfl
    rw [o1] at h
    exact h
  refine good_frm 131 Try.func4 rfl rfl rfl rfl rfl rfl ?_
  refine awp_seq ?_
  refine rln ?_
  refine G2 (fun _ k_ => q_boxa k_) ?_
  refine G2 (fun _ k_ => q_boxa k_) ?_
  refine As ?_
  refine gend ?_
  refine awp_seq ?_
  refine awp_seq ?_
  refine rln ?_
  refine Mv ?_
  refine G (q_gtr64 (y := 60) ?_)
  refine Mv ?_
  refine Akfd 25 (fun hb3 => ?_) ?_; rotate_left
  · exact h60
  refine Gg (q_mv (s := .v (.c _)) ?_)
  refine Gg (q_gtr64 (y := 63) ?_)
  refine G (q_pkf ?_)
  refine gend ?_
  refine cndN (fun hc1 => ?_) ?_; rotate_left
  · exact h63
  refine awp_skip ?_
  refine awp_seq ?_
  refine rln ?_
  refine G (q_ldw ?_)
  refine G2 (fun _ k_ => q_callv [] [] [some (u8s a), some (cC (.ptr 0 0) 0)] (new_ a ha) k_ (ha := (caa (et rfl) sees_m ca0)) (e2 := pl0) (eL := ml0) (eM := (ml1 sees_m (ml1 rfl ml0)))) ?_
  refine Mv ?_
  refine G2 (fun _ k_ => q_callv [3, 2] [some (cC (.ptr 1 0) 0), some (u8s a)] [some (cC (.ptr 1 0) 0)] (chkey_0 a ha) k_ (ha := (cac (et rfl) rfl (cac rfl cm_int ca0))) (e2 := (pl1 rfl rfl (pl1 rfl sees_m pl0))) (eL := (ml1 rfl (ml1 sees_m ml0))) (eM := (ml1 rfl ml0))) ?_
  refine G (q_mv (s := .t _) ?_)
  refine G (q_ext (y := .c _) ?_)
  refine G (q_ext (y := .c _) ?_)
  refine As ?_
  refine As ?_
  refine gend ?_
  refine awp_seq ?_
  refine rln ?_
  refine Mv ?_
  refine G2 (fun _ k_ => q_bsl (fkc (c := c8 122) rfl rfl rfl (Nat.le_of_ble_eq_true rfl) (fk0 k_))) ?_
  refine G (q_css ?_)
  refine G2 (fun _ k_ => q_callv [4, 2] [some (cC (.ptr 1 0) 1), some (u8s (kE a (0 : UInt64).toNat))] [some (u8s X)] gS k_ (ha := (cac (et rfl) rfl (cac rfl sees_nil8 (cac (et rfl) (sees_slc rfl rfl rfl) ca0)))) (e2 := (pl1 rfl rfl (pl1 rfl sees_m pl0))) (eL := (ml1 rfl (ml1 sees_m ml0))) (eM := (ml1 sees_m ml0))) ?_
  refine G (q_mv (s := .t _) ?_)
  refine G (q_ext (y := .c _) ?_)
  refine G (q_ext (y := .c _) ?_)
  refine As ?_
  refine As ?_
  refine gend ?_
  refine awp_seq ?_
  refine rln ?_
  refine G (q_ldw ?_)
  refine Mv ?_
  refine G2 (fun _ k_ => q_callp g15 k_ (ha := (caa (et rfl) sees_m (cac (et rfl) cm_int ca0)))) ?_
  refine G2 (fun _ k_ => q_callv [] [] [some (u8s (kE a (0 : UInt64).toNat)), some (cC (.ptr 0 0) 0)] (new_ (kE a (0 : UInt64).toNat) hK) k_ (ha := (caa (et rfl) sees_m ca0)) (e2 := pl0) (eL := ml0) (eM := (ml1 sees_m (ml1 rfl ml0)))) ?_
  refine G2 (fun _ k_ => q_bsl (fkc (c := c8 122) rfl rfl rfl (Nat.le_of_ble_eq_true rfl) (fk0 k_))) ?_
  refine G (q_css ?_)
  refine G2 (fun _ k_ => q_callv [8, 7] [some (cC (.ptr 1 0) 1), some (u8s (kE a (0 : UInt64).toNat))] [some (u8s X)] gS k_ (ha := (cac (et rfl) rfl (cac rfl sees_nil8 (cac (et rfl) (sees_slc rfl rfl rfl) ca0)))) (e2 := (pl1 rfl rfl (pl1 rfl sees_m pl0))) (eL := (ml1 rfl (ml1 sees_m ml0))) (eM := (ml1 sees_m ml0))) ?_
  refine G (q_mv (s := .t _) ?_)
  refine G (q_ext (y := .c _) ?_)
  refine G (q_ext (y := .c _) ?_)
  refine As ?_
  refine As ?_
  refine gend ?_
  refine awp_seq ?_
  refine awp_seq ?_
  refine rln ?_
  refine Mv ?_
  refine G (q_neqn (y := 0) ?_)
  refine Mv ?_
  refine Akfd 56 (fun hb3 => ?_) ?_; rotate_left
  · exact by decide
  refine Gg (q_mv (s := .v (.c _)) ?_)
  refine Gg (q_neqn (y := 0) ?_)
  refine G (q_pkf ?_)
  refine Mv ?_
  refine Akfd 60 (fun hb7 => ?_) ?_; rotate_left
  · exact by decide
  refine Gg (q_mv (s := .v (.c _)) ?_)
  refine Gg (q_neqn (y := 0) ?_)
  refine G (q_pkf ?_)
  refine Mv ?_
  refine Akfd 64 (fun hb11 => ?_) ?_; rotate_left
  · exact by decide
  refine Gg (q_mv (s := .v (.c _)) ?_)
  refine Gg (q_csl ?_)
  refine Gg (q_mv (s := .v (.c _)) ?_)
  refine Gg (q_csl ?_)
  refine Gg (q_neqs ?_)
  refine G (q_pkf ?_)
  refine gend ?_
  refine cndnN (fun hc2 => ?_) ?_; rotate_left
  · exact by simp [kE]
  refine awp_skip ?_
  refine awp_seq ?_
  refine rln ?_
  refine G (q_bla (fkc (c := c8 9) rfl rfl rfl (Nat.le_of_ble_eq_true rfl) (fk0 ?_)))
  refine G (q_ldw ?_)
  refine G (q_ldw ?_)
  refine G2 (fun _ k_ => q_callv [] [] [some (chC (0 : UInt64) (grl [] / 64) 2 (decide ((0 : UInt64) ≠ 0)) 4 6 (decide ((grl [] / 64) ≠ 0)) 8 (0 : UInt64) 1 (grl []) (decide (0 < ([] : List UInt64).length)) hash), some (wcs true 0 0), some (cC (.ptr 3 0) 0), some (u8s (S0 V (0 : UInt64).toNat)), cb (decide ((0 : UInt64) ≠ 0)) 5, kb (decide ((0 : UInt64) ≠ 0)) (S1 V (0 : UInt64).toNat), some (cC (.ptr 7 0) 0), some (u8s (S0 a (grl [] / 64).toNat)), cb (decide ((grl [] / 64) ≠ 0)) 9, kb (decide ((grl [] / 64) ≠ 0)) (S1 a (grl [] / 64).toNat), some (chC (0 : UInt64) (grl [] / 64) 12 (decide ((0 : UInt64) ≠ 0)) 14 16 (decide ((grl [] / 64) ≠ 0)) 18 (0 : UInt64) 11 (grl []) (decide (0 < ([] : List UInt64).length)) hash), some (wcs true 0 0), some (cC (.ptr 13 0) 0), some (u8s (S0 a (0 : UInt64).toNat)), cb (decide ((0 : UInt64) ≠ 0)) 15, kb (decide ((0 : UInt64) ≠ 0)) (S1 a (0 : UInt64).toNat), some (cC (.ptr 17 0) 0), some (u8s (S0 V (grl [] / 64).toNat)), cb (decide ((grl [] / 64) ≠ 0)) 19, kb (decide ((grl [] / 64) ≠ 0)) (S1 V (grl [] / 64).toNat)] (two_ V a hash hVl ha hh) k_ (ha := (caa (et rfl) (key1 hV) (caa (et rfl) sees_m (caa (et rfl) sees_m ca0)))) (e2 := pl0) (eL := ml0) (eM := (ml1 (chC_map rfl rfl rfl rfl rfl) (ml1 rfl (ml1 rfl (ml1 sees_m (mlb (cb_map rfl) (mlb kb_map (ml1 rfl (ml1 sees_m (mlb (cb_map rfl) (mlb kb_map (ml1 (chC_map rfl rfl rfl rfl rfl) (ml1 rfl (ml1 rfl (ml1 sees_m (mlb (cb_map rfl) (mlb kb_map (ml1 rfl (ml1 sees_m (mlb (cb_map rfl) (mlb kb_map ml0)))))))))))))))))))))) ?_
  refine G (q_mv (s := .t _) ?_)
  refine G (q_ext (y := .c _) ?_)
  refine G (q_ext (y := .c _) ?_)
  refine As ?_
  refine As ?_
  refine gend ?_
  refine awp_seq ?_
  refine rdln [1, 3, 5] [0, 0, 0, 1, 0, 2, 3] [0, 1, 1, 2, 2, 3, 3] ?_
  refine Dp (fun _ => q_bla (fkc (c := c8 8) rfl rfl rfl (Nat.le_of_ble_eq_true rfl) (fk0 ⟨rfl, rfl⟩))) ?_
  refine De2 (fun _ k_ => q_callv [] [] [some (u8s Y), some (cC (.ptr 0 0) 0)] (new_ Y hYl) k_ (ha := (caa (et rfl) (key1 hY) ca0)) (e2 := pl0) (eL := ml0) (eM := (ml1 sees_m (ml1 rfl ml0)))) ?_
  refine DLw ?_
  refine De2 (fun _ k_ => q_callv [] [] [some (u8s a), some (cC (.ptr 0 0) 0)] (new_ a ha) k_ (ha := (caa (et rfl) sees_m ca0)) (e2 := pl0) (eL := ml0) (eM := (ml1 sees_m (ml1 rfl ml0)))) ?_
  refine DLw ?_
  refine De2 (fun _ k_ => q_callv [32, 31, 34, 33] [some (cC (.ptr 1 0) 0), some (u8s (S0 Y (0 : UInt64).toNat)), some (cC (.ptr 3 0) 0), some (u8s (S0 a (grl [] / 64).toNat))] [some (chC (0 : UInt64) (grl [] / 64) 6 (decide ((0 : UInt64) ≠ 0)) 7 9 (decide ((grl [] / 64) ≠ 0)) 10 (0 : UInt64) 5 (grl []) (decide (0 < ([] : List UInt64).length)) hash), some (wcs true 0 0), some (cC (.ptr 1 0) 0), cb (decide ((0 : UInt64) ≠ 0)) 8, kb (decide ((0 : UInt64) ≠ 0)) (S1 Y (0 : UInt64).toNat), some (cC (.ptr 3 0) 0), cb (decide ((grl [] / 64) ≠ 0)) 11, kb (decide ((grl [] / 64) ≠ 0)) (S1 a (grl [] / 64).toNat)] (cnewU Y a hash hYl ha hh) k_ (ha := (cac (et rfl) rfl (cac (et rfl) rfl (caa (et rfl) sees_m ca0)))) (e2 := (pl1 rfl rfl (pl1 rfl sees_m (pl1 rfl rfl (pl1 rfl sees_m pl0))))) (eL := (ml1 rfl (ml1 sees_m (ml1 rfl (ml1 sees_m ml0))))) (eM := (ml1 (chC_map rfl rfl rfl rfl rfl) (ml1 rfl (ml1 rfl (mlb (cb_map rfl) (mlb kb_map (ml1 rfl (mlb (cb_map rfl) (mlb kb_map ml0)))))))))) ?_
  refine Dp (fun _ => q_as (s := .v (.c _)) ⟨rfl, rfl⟩) ?_
  refine dend ?_
  refine awp_seq ?_
  refine rln ?_
  refine Mv ?_
  refine G (q_ldw ?_)
  refine G (q_ldw ?_)
  refine Mv ?_
  refine G (q_mul64 (x := 64) ?_)
  refine Mv ?_
  refine G (q_add64 ?_)
  refine G2 (fun _ k_ => q_bsl (fkc (c := c8 113) rfl rfl rfl (Nat.le_of_ble_eq_true rfl) (fk0 k_))) ?_
  refine G (q_css ?_)
  refine G2 (fun _ k_ => q_calln g17 k_ (ha := (caa (et rfl) sees_m (caa (et rfl) sees_m (cac (et rfl) cm_int (cac (et rfl) (sees_slc rfl rfl rfl) ca0)))))) ?_
  refine G2 (fun _ k_ => q_callv [35, 36, 37, 31, 38, 39, 40, 33, 41, 42] [some (chC (0 : UInt64) (grl [(64 * 0 + tt)] / 64) 2 (decide ((0 : UInt64) ≠ 0)) 4 10 (decide ((grl [(64 * 0 + tt)] / 64) ≠ 0)) 12 (0 : UInt64) 1 (grl [(64 * 0 + tt)]) (decide (0 < ([(64 * 0 + tt)] : List UInt64).length)) hash), some (wcs true (wn ([113], (64 * 0 + tt), 0, [(64 * 0 + tt)]) 0 0).1 (wn ([113], (64 * 0 + tt), 0, [(64 * 0 + tt)]) 0 0).2), some (cC (.ptr 3 0) 0), some (u8s (S0 Y (0 : UInt64).toNat)), cb (decide ((0 : UInt64) ≠ 0)) 5, kb (decide ((0 : UInt64) ≠ 0)) (S1 Y (0 : UInt64).toNat), none, none, none, none] [some (cC (.ptr 11 0) 0), some (u8s (S0 a (grl [(64 * 0 + tt)] / 64).toNat)), cb (decide ((grl [(64 * 0 + tt)] / 64) ≠ 0)) 13, kb (decide ((grl [(64 * 0 + tt)] / 64) ≠ 0)) (S1 a (grl [(64 * 0 + tt)] / 64).toNat), some (u8s [113])] gO k_ (ha := (cac (et rfl) rfl (cac (et rfl) (sees_slc rfl rfl (cut_h hfl)) ca0))) (e2 := (pl1 rfl (chC_map rfl rfl rfl rfl rfl) (pl1 rfl rfl (pl1 rfl rfl (pl1 rfl sees_m (plb rfl (cb_map rfl) (plb rfl kb_map (pl1 rfl rfl (pl1 rfl sees_m (plb rfl (cb_map rfl) (plb rfl kb_map pl0))))))))))) (eL := (ml1 (chC_map rfl rfl rfl rfl rfl) (ml1 rfl (ml1 rfl (ml1 sees_m (mlb (cb_map rfl) (mlb kb_map (mln (mln (mln (mln ml0))))))))))) (eM := (ml1 rfl (ml1 sees_m (mlb (cb_map rfl) (mlb kb_map (ml1 sees_m ml0))))))) ?_
  refine G (q_mv (s := .t _) ?_)
  refine G (q_ext (y := .c _) ?_)
  refine G (q_ext (y := .c _) ?_)
  refine G (q_ext (y := .c _) ?_)
  refine As ?_
  refine As ?_
  refine As ?_
  refine gend ?_
  refine awp_seq ?_
  refine rln ?_
  refine G (q_ldw ?_)
  refine G2 (fun _ k_ => q_callv [] [] [some (u8s a), some (cC (.ptr 0 0) 0)] (new_ a ha) k_ (ha := (caa (et rfl) sees_m ca0)) (e2 := pl0) (eL := ml0) (eM := (ml1 sees_m (ml1 rfl ml0)))) ?_
  refine G2 (fun _ k_ => q_callv [51, 50] [some (cC (.ptr 1 0) 0), some (u8s a)] [] (chkey_far a 1025 ha (by decide)) k_ (ha := (cac (et rfl) rfl (cac rfl cm_int ca0))) (e2 := (pl1 rfl rfl (pl1 rfl sees_m pl0))) (eL := (ml1 rfl (ml1 sees_m ml0))) (eM := ml0)) ?_
  refine G (q_mv (s := .t _) ?_)
  refine G (q_ext (y := .c _) ?_)
  refine G (q_ext (y := .c _) ?_)
  refine As ?_
  refine As ?_
  refine gend ?_
  refine awp_seq ?_
  refine awp_seq ?_
  refine rln ?_
  refine Mv ?_
  refine G (q_eqlp ?_)
  refine Mv ?_
  refine Akf 107 (fun hb3 => ?_) ?_; rotate_left
  · exact rfl
  refine Gg (q_mv (s := .v (.c _)) ?_)
  refine Gg (q_neqn (y := 11) ?_)
  refine G (q_pkf ?_)
  refine gend ?_
  refine cndN (fun hc3 => ?_) ?_; rotate_left
  · exact by decide
  refine awp_skip ?_
  refine awp_seq ?_
  refine awp_seq ?_
  refine rln ?_
  refine Mv ?_
  refine G (q_gtr64 (y := 16) ?_)
  refine gend ?_
  refine cndN (fun hc4 => ?_) ?_; rotate_left
  · exact h16
  refine awp_skip ?_
  refine awp_seq ?_
  refine rln ?_
  refine Mv ?_
  refine G (q_eqln (y := 0) ?_)
  refine Mv ?_
  refine Aknd 120 (fun hb3 => ?_) ?_; rotate_left
  · exact rfl
  refine Gg (q_mv (s := .v (.c _)) ?_)
  refine Gg (q_mv (s := .v (.c _)) ?_)
  refine Gg (q_mul64 (x := 64) ?_)
  refine Gg (q_mv (s := .v (.c _)) ?_)
  refine Gg (q_add64 ?_)
  refine Gg (q_eql64 ?_)
  refine G (q_pkt ?_)
  refine Mv ?_
  refine Aknd 128 (fun hb11 => ?_) ?_; rotate_left
  · exact rfl
  refine G2g (fun _ k_ => q_callp known_ k_) ?_
  refine G (q_pkt ?_)
  refine As ?_
  refine gend ?_
  refine awp_ret ?_
  exact fp1
set_option maxHeartbeats 3200000 in
/-- escutcheonlaw19.ChannelEpochs -/
theorem epochs_p (a hash : List UInt8) (ep tt : UInt64) (ha : a.length = 32) (hh : hash.length = 32) (h60 : ¬ 60 < ep) (h63 : ¬ 63 < tt) (h0 : ¬ ep ≤ 0) (h16 : ¬ 16 < ep) : Good Try.prog 4 [.a (u8s a), .a (u8s hash), .c (c64 ep), .c (c64 tt)] [] (sc (.bool true)) [] := by
  obtain ⟨hn1, hn2, hn3⟩ := ep_n h60 h63
  obtain ⟨Y, hY⟩ : ∃ z, (8 :: List.replicate 31 0 : List UInt8) = z := ⟨_, rfl⟩
  have hYl : Y.length = 32 := by rw [← hY]; rfl
  obtain ⟨V, hV⟩ : ∃ z, (9 :: List.replicate 31 0 : List UInt8) = z := ⟨_, rfl⟩
  have hVl : V.length = 32 := by rw [← hV]; rfl
  have hK := kE_len ha (ep : UInt64).toNat
  have g15 := rkey_ a ep ha
  have g12 := chkey a ep ha h0 (fun h => h60 (UInt64.lt_trans (by decide) h))
  rw [UInt64.sub_zero] at g12
  have hXl := aseal_len (kE a (ep : UInt64).toNat) (anonce 0) [] [122]
  have gS := cseal_ok (kE a (ep : UInt64).toNat) [] [122] 0 0 1 hK rfl (by decide) rfl (by decide) (by decide)
  obtain ⟨X, hX⟩ : ∃ z, aseal (kE a (ep : UInt64).toNat) (anonce 0) [] [122] = z := ⟨_, rfl⟩
  rw [hX] at gS hXl
  replace hXl : X.length = 17 := hXl
  have o1 : op19 a hash [] (fr19 a hash (64 * ep + tt) [113]) = ([113], (64 * ep + tt), 0, [(64 * ep + tt)]) := op19_fr (by decide) (by omega) (by simp) (by simp) (by rw [hn2]; exact h16)
  have g17 := rframe_ a hash [113] (64 * ep + tt) 1 ha hh rfl (by decide)
  have hfl : (fr19 a hash (64 * ep + tt) [113]).length = 25 := fr19_len
  obtain ⟨fr, hfr⟩ : ∃ z, fr19 a hash (64 * ep + tt) [113] = z := ⟨_, rfl⟩
  rw [hfr] at o1 g17 hfl
  have gO : Good Try.prog 11 [.c (.ptr 0 0), .c (.ro 25 (u8s fr))] [some (chC (0 : UInt64) (grl [] / 64) 2 (decide ((0 : UInt64) ≠ 0)) 4 6 (decide ((grl [] / 64) ≠ 0)) 8 (0 : UInt64) 1 (grl []) (decide (0 < ([] : List UInt64).length)) hash), some (wcs true 0 0), some (cC (.ptr 3 0) 0), some (u8s (S0 Y (0 : UInt64).toNat)), cb (decide ((0 : UInt64) ≠ 0)) 5, kb (decide ((0 : UInt64) ≠ 0)) (S1 Y (0 : UInt64).toNat), some (cC (.ptr 7 0) 0), some (u8s (S0 a (grl [] / 64).toNat)), cb (decide ((grl [] / 64) ≠ 0)) 9, kb (decide ((grl [] / 64) ≠ 0)) (S1 a (grl [] / 64).toNat)] (.t [.c (.slc 14 0 ([113] : List UInt8).length 1), .c (c64 (64 * ep + tt)), .c (cn 0)]) [some (chC (0 : UInt64) (grl [(64 * ep + tt)] / 64) 2 (decide ((0 : UInt64) ≠ 0)) 4 10 (decide ((grl [(64 * ep + tt)] / 64) ≠ 0)) 12 (0 : UInt64) 1 (grl [(64 * ep + tt)]) (decide (0 < ([(64 * ep + tt)] : List UInt64).length)) hash), some (wcs true (wn ([113], (64 * ep + tt), 0, [(64 * ep + tt)]) 0 0).1 (wn ([113], (64 * ep + tt), 0, [(64 * ep + tt)]) 0 0).2), some (cC (.ptr 3 0) 0), some (u8s (S0 Y (0 : UInt64).toNat)), cb (decide ((0 : UInt64) ≠ 0)) 5, kb (decide ((0 : UInt64) ≠ 0)) (S1 Y (0 : UInt64).toNat), none, none, none, none, some (cC (.ptr 11 0) 0), some (u8s (S0 a (grl [(64 * ep + tt)] / 64).toNat)), cb (decide ((grl [(64 * ep + tt)] / 64) ≠ 0)) 13, kb (decide ((grl [(64 * ep + tt)] / 64) ≠ 0)) (S1 a (grl [(64 * ep + tt)] / 64).toNat), some (u8s [113])] := by
    have h := chopen_u Y a hash (0 : UInt64) (0 : UInt64) [] 0 0 hYl ha hh inv_nil (fun _ h => absurd h List.not_mem_nil) fr 25 hfl
    rw [o1] at h
    exact h
  refine good_frm 131 Try.func4 rfl rfl rfl rfl rfl rfl ?_
  refine awp_seq ?_
  refine rln ?_
  refine G2 (fun _ k_ => q_boxa k_) ?_
  refine G2 (fun _ k_ => q_boxa k_) ?_
  refine As ?_
  refine gend ?_
  refine awp_seq ?_
  refine awp_seq ?_
  refine rln ?_
  refine Mv ?_
  refine G (q_gtr64 (y := 60) ?_)
  refine Mv ?_
  refine Akfd 25 (fun hb3 => ?_) ?_; rotate_left
  · exact h60
  refine Gg (q_mv (s := .v (.c _)) ?_)
  refine Gg (q_gtr64 (y := 63) ?_)
  refine G (q_pkf ?_)
  refine gend ?_
  refine cndN (fun hc1 => ?_) ?_; rotate_left
  · exact h63
  refine awp_skip ?_
  refine awp_seq ?_
  refine rln ?_
  refine G (q_ldw ?_)
  refine G2 (fun _ k_ => q_callv [] [] [some (u8s a), some (cC (.ptr 0 0) 0)] (new_ a ha) k_ (ha := (caa (et rfl) sees_m ca0)) (e2 := pl0) (eL := ml0) (eM := (ml1 sees_m (ml1 rfl ml0)))) ?_
  refine Mv ?_
  refine G2 (fun _ k_ => q_callv [3, 2] [some (cC (.ptr 1 0) 0), some (u8s a)] [some (cC (.ptr 3 0) 0), some (u8s (kE a ep.toNat))] g12 k_ (ha := (cac (et rfl) rfl (cac (et rfl) cm_int ca0))) (e2 := (pl1 rfl rfl (pl1 rfl sees_m pl0))) (eL := (ml1 rfl (ml1 sees_m ml0))) (eM := (ml1 rfl (ml1 sees_m ml0)))) ?_
  refine G (q_mv (s := .t _) ?_)
  refine G (q_ext (y := .c _) ?_)
  refine G (q_ext (y := .c _) ?_)
  refine As ?_
  refine As ?_
  refine gend ?_
  refine awp_seq ?_
  refine rln ?_
  refine Mv ?_
  refine G2 (fun _ k_ => q_bsl (fkc (c := c8 122) rfl rfl rfl (Nat.le_of_ble_eq_true rfl) (fk0 k_))) ?_
  refine G (q_css ?_)
  refine G2 (fun _ k_ => q_callv [4, 5] [some (cC (.ptr 1 0) 1), some (u8s (kE a ep.toNat))] [some (u8s X)] gS k_ (ha := (cac (et rfl) rfl (cac rfl sees_nil8 (cac (et rfl) (sees_slc rfl rfl rfl) ca0)))) (e2 := (pl1 rfl rfl (pl1 rfl sees_m pl0))) (eL := (ml1 rfl (ml1 sees_m ml0))) (eM := (ml1 sees_m ml0))) ?_
  refine G (q_mv (s := .t _) ?_)
  refine G (q_ext (y := .c _) ?_)
  refine G (q_ext (y := .c _) ?_)
  refine As ?_
  refine As ?_
  refine gend ?_
  refine awp_seq ?_
  refine rln ?_
  refine G (q_ldw ?_)
  refine Mv ?_
  refine G2 (fun _ k_ => q_callp g15 k_ (ha := (caa (et rfl) sees_m (cac (et rfl) cm_int ca0)))) ?_
  refine G2 (fun _ k_ => q_callv [] [] [some (u8s (kE a (ep : UInt64).toNat)), some (cC (.ptr 0 0) 0)] (new_ (kE a (ep : UInt64).toNat) hK) k_ (ha := (caa (et rfl) sees_m ca0)) (e2 := pl0) (eL := ml0) (eM := (ml1 sees_m (ml1 rfl ml0)))) ?_
  refine G2 (fun _ k_ => q_bsl (fkc (c := c8 122) rfl rfl rfl (Nat.le_of_ble_eq_true rfl) (fk0 k_))) ?_
  refine G (q_css ?_)
  refine G2 (fun _ k_ => q_callv [9, 8] [some (cC (.ptr 1 0) 1), some (u8s (kE a (ep : UInt64).toNat))] [some (u8s X)] gS k_ (ha := (cac (et rfl) rfl (cac rfl sees_nil8 (cac (et rfl) (sees_slc rfl rfl rfl) ca0)))) (e2 := (pl1 rfl rfl (pl1 rfl sees_m pl0))) (eL := (ml1 rfl (ml1 sees_m ml0))) (eM := (ml1 sees_m ml0))) ?_
  refine G (q_mv (s := .t _) ?_)
  refine G (q_ext (y := .c _) ?_)
  refine G (q_ext (y := .c _) ?_)
  refine As ?_
  refine As ?_
  refine gend ?_
  refine awp_seq ?_
  refine awp_seq ?_
  refine rln ?_
  refine Mv ?_
  refine G (q_neqn (y := 0) ?_)
  refine Mv ?_
  refine Akfd 56 (fun hb3 => ?_) ?_; rotate_left
  · exact by decide
  refine Gg (q_mv (s := .v (.c _)) ?_)
  refine Gg (q_neqn (y := 0) ?_)
  refine G (q_pkf ?_)
  refine Mv ?_
  refine Akfd 60 (fun hb7 => ?_) ?_; rotate_left
  · exact by decide
  refine Gg (q_mv (s := .v (.c _)) ?_)
  refine Gg (q_neqn (y := 0) ?_)
  refine G (q_pkf ?_)
  refine Mv ?_
  refine Akfd 64 (fun hb11 => ?_) ?_; rotate_left
  · exact by decide
  refine Gg (q_mv (s := .v (.c _)) ?_)
  refine Gg (q_csl ?_)
  refine Gg (q_mv (s := .v (.c _)) ?_)
  refine Gg (q_csl ?_)
  refine Gg (q_neqs ?_)
  refine G (q_pkf ?_)
  refine gend ?_
  refine cndnN (fun hc2 => ?_) ?_; rotate_left
  · exact by simp [kE]
  refine awp_skip ?_
  refine awp_seq ?_
  refine rln ?_
  refine G (q_bla (fkc (c := c8 9) rfl rfl rfl (Nat.le_of_ble_eq_true rfl) (fk0 ?_)))
  refine G (q_ldw ?_)
  refine G (q_ldw ?_)
  refine G2 (fun _ k_ => q_callv [] [] [some (chC (0 : UInt64) (grl [] / 64) 2 (decide ((0 : UInt64) ≠ 0)) 4 6 (decide ((grl [] / 64) ≠ 0)) 8 (0 : UInt64) 1 (grl []) (decide (0 < ([] : List UInt64).length)) hash), some (wcs true 0 0), some (cC (.ptr 3 0) 0), some (u8s (S0 V (0 : UInt64).toNat)), cb (decide ((0 : UInt64) ≠ 0)) 5, kb (decide ((0 : UInt64) ≠ 0)) (S1 V (0 : UInt64).toNat), some (cC (.ptr 7 0) 0), some (u8s (S0 a (grl [] / 64).toNat)), cb (decide ((grl [] / 64) ≠ 0)) 9, kb (decide ((grl [] / 64) ≠ 0)) (S1 a (grl [] / 64).toNat), some (chC (0 : UInt64) (grl [] / 64) 12 (decide ((0 : UInt64) ≠ 0)) 14 16 (decide ((grl [] / 64) ≠ 0)) 18 (0 : UInt64) 11 (grl []) (decide (0 < ([] : List UInt64).length)) hash), some (wcs true 0 0), some (cC (.ptr 13 0) 0), some (u8s (S0 a (0 : UInt64).toNat)), cb (decide ((0 : UInt64) ≠ 0)) 15, kb (decide ((0 : UInt64) ≠ 0)) (S1 a (0 : UInt64).toNat), some (cC (.ptr 17 0) 0), some (u8s (S0 V (grl [] / 64).toNat)), cb (decide ((grl [] / 64) ≠ 0)) 19, kb (decide ((grl [] / 64) ≠ 0)) (S1 V (grl [] / 64).toNat)] (two_ V a hash hVl ha hh) k_ (ha := (caa (et rfl) (key1 hV) (caa (et rfl) sees_m (caa (et rfl) sees_m ca0)))) (e2 := pl0) (eL := ml0) (eM := (ml1 (chC_map rfl rfl rfl rfl rfl) (ml1 rfl (ml1 rfl (ml1 sees_m (mlb (cb_map rfl) (mlb kb_map (ml1 rfl (ml1 sees_m (mlb (cb_map rfl) (mlb kb_map (ml1 (chC_map rfl rfl rfl rfl rfl) (ml1 rfl (ml1 rfl (ml1 sees_m (mlb (cb_map rfl) (mlb kb_map (ml1 rfl (ml1 sees_m (mlb (cb_map rfl) (mlb kb_map ml0)))))))))))))))))))))) ?_
  refine G (q_mv (s := .t _) ?_)
  refine G (q_ext (y := .c _) ?_)
  refine G (q_ext (y := .c _) ?_)
  refine As ?_
  refine As ?_
  refine gend ?_
  refine awp_seq ?_
  refine rdln [1, 3, 5] [0, 0, 0, 1, 0, 2, 3] [0, 1, 1, 2, 2, 3, 3] ?_
  refine Dp (fun _ => q_bla (fkc (c := c8 8) rfl rfl rfl (Nat.le_of_ble_eq_true rfl) (fk0 ⟨rfl, rfl⟩))) ?_
  refine De2 (fun _ k_ => q_callv [] [] [some (u8s Y), some (cC (.ptr 0 0) 0)] (new_ Y hYl) k_ (ha := (caa (et rfl) (key1 hY) ca0)) (e2 := pl0) (eL := ml0) (eM := (ml1 sees_m (ml1 rfl ml0)))) ?_
  refine DLw ?_
  refine De2 (fun _ k_ => q_callv [] [] [some (u8s a), some (cC (.ptr 0 0) 0)] (new_ a ha) k_ (ha := (caa (et rfl) sees_m ca0)) (e2 := pl0) (eL := ml0) (eM := (ml1 sees_m (ml1 rfl ml0)))) ?_
  refine DLw ?_
  refine De2 (fun _ k_ => q_callv [33, 32, 35, 34] [some (cC (.ptr 1 0) 0), some (u8s (S0 Y (0 : UInt64).toNat)), some (cC (.ptr 3 0) 0), some (u8s (S0 a (grl [] / 64).toNat))] [some (chC (0 : UInt64) (grl [] / 64) 6 (decide ((0 : UInt64) ≠ 0)) 7 9 (decide ((grl [] / 64) ≠ 0)) 10 (0 : UInt64) 5 (grl []) (decide (0 < ([] : List UInt64).length)) hash), some (wcs true 0 0), some (cC (.ptr 1 0) 0), cb (decide ((0 : UInt64) ≠ 0)) 8, kb (decide ((0 : UInt64) ≠ 0)) (S1 Y (0 : UInt64).toNat), some (cC (.ptr 3 0) 0), cb (decide ((grl [] / 64) ≠ 0)) 11, kb (decide ((grl [] / 64) ≠ 0)) (S1 a (grl [] / 64).toNat)] (cnewU Y a hash hYl ha hh) k_ (ha := (cac (et rfl) rfl (cac (et rfl) rfl (caa (et rfl) sees_m ca0)))) (e2 := (pl1 rfl rfl (pl1 rfl sees_m (pl1 rfl rfl (pl1 rfl sees_m pl0))))) (eL := (ml1 rfl (ml1 sees_m (ml1 rfl (ml1 sees_m ml0))))) (eM := (ml1 (chC_map rfl rfl rfl rfl rfl) (ml1 rfl (ml1 rfl (mlb (cb_map rfl) (mlb kb_map (ml1 rfl (mlb (cb_map rfl) (mlb kb_map ml0)))))))))) ?_
  refine Dp (fun _ => q_as (s := .v (.c _)) ⟨rfl, rfl⟩) ?_
  refine dend ?_
  refine awp_seq ?_
  refine rln ?_
  refine Mv ?_
  refine G (q_ldw ?_)
  refine G (q_ldw ?_)
  refine Mv ?_
  refine G (q_mul64 (x := 64) ?_)
  refine Mv ?_
  refine G (q_add64 ?_)
  refine G2 (fun _ k_ => q_bsl (fkc (c := c8 113) rfl rfl rfl (Nat.le_of_ble_eq_true rfl) (fk0 k_))) ?_
  refine G (q_css ?_)
  refine G2 (fun _ k_ => q_calln g17 k_ (ha := (caa (et rfl) sees_m (caa (et rfl) sees_m (cac (et rfl) cm_int (cac (et rfl) (sees_slc rfl rfl rfl) ca0)))))) ?_
  refine G2 (fun _ k_ => q_callv [36, 37, 38, 32, 39, 40, 41, 34, 42, 43] [some (chC (0 : UInt64) (grl [(64 * ep + tt)] / 64) 2 (decide ((0 : UInt64) ≠ 0)) 4 10 (decide ((grl [(64 * ep + tt)] / 64) ≠ 0)) 12 (0 : UInt64) 1 (grl [(64 * ep + tt)]) (decide (0 < ([(64 * ep + tt)] : List UInt64).length)) hash), some (wcs true (wn ([113], (64 * ep + tt), 0, [(64 * ep + tt)]) 0 0).1 (wn ([113], (64 * ep + tt), 0, [(64 * ep + tt)]) 0 0).2), some (cC (.ptr 3 0) 0), some (u8s (S0 Y (0 : UInt64).toNat)), cb (decide ((0 : UInt64) ≠ 0)) 5, kb (decide ((0 : UInt64) ≠ 0)) (S1 Y (0 : UInt64).toNat), none, none, none, none] [some (cC (.ptr 11 0) 0), some (u8s (S0 a (grl [(64 * ep + tt)] / 64).toNat)), cb (decide ((grl [(64 * ep + tt)] / 64) ≠ 0)) 13, kb (decide ((grl [(64 * ep + tt)] / 64) ≠ 0)) (S1 a (grl [(64 * ep + tt)] / 64).toNat), some (u8s [113])] gO k_ (ha := (cac (et rfl) rfl (cac (et rfl) (sees_slc rfl rfl (cut_h hfl)) ca0))) (e2 := (pl1 rfl (chC_map rfl rfl rfl rfl rfl) (pl1 rfl rfl (pl1 rfl rfl (pl1 rfl sees_m (plb rfl (cb_map rfl) (plb rfl kb_map (pl1 rfl rfl (pl1 rfl sees_m (plb rfl (cb_map rfl) (plb rfl kb_map pl0))))))))))) (eL := (ml1 (chC_map rfl rfl rfl rfl rfl) (ml1 rfl (ml1 rfl (ml1 sees_m (mlb (cb_map rfl) (mlb kb_map (mln (mln (mln (mln ml0))))))))))) (eM := (ml1 rfl (ml1 sees_m (mlb (cb_map rfl) (mlb kb_map (ml1 sees_m ml0))))))) ?_
  refine G (q_mv (s := .t _) ?_)
  refine G (q_ext (y := .c _) ?_)
  refine G (q_ext (y := .c _) ?_)
  refine G (q_ext (y := .c _) ?_)
  refine As ?_
  refine As ?_
  refine As ?_
  refine gend ?_
  refine awp_seq ?_
  refine rln ?_
  refine G (q_ldw ?_)
  refine G2 (fun _ k_ => q_callv [] [] [some (u8s a), some (cC (.ptr 0 0) 0)] (new_ a ha) k_ (ha := (caa (et rfl) sees_m ca0)) (e2 := pl0) (eL := ml0) (eM := (ml1 sees_m (ml1 rfl ml0)))) ?_
  refine G2 (fun _ k_ => q_callv [52, 51] [some (cC (.ptr 1 0) 0), some (u8s a)] [] (chkey_far a 1025 ha (by decide)) k_ (ha := (cac (et rfl) rfl (cac rfl cm_int ca0))) (e2 := (pl1 rfl rfl (pl1 rfl sees_m pl0))) (eL := (ml1 rfl (ml1 sees_m ml0))) (eM := ml0)) ?_
  refine G (q_mv (s := .t _) ?_)
  refine G (q_ext (y := .c _) ?_)
  refine G (q_ext (y := .c _) ?_)
  refine As ?_
  refine As ?_
  refine gend ?_
  refine awp_seq ?_
  refine awp_seq ?_
  refine rln ?_
  refine Mv ?_
  refine G (q_eqlp ?_)
  refine Mv ?_
  refine Akf 107 (fun hb3 => ?_) ?_; rotate_left
  · exact rfl
  refine Gg (q_mv (s := .v (.c _)) ?_)
  refine Gg (q_neqn (y := 11) ?_)
  refine G (q_pkf ?_)
  refine gend ?_
  refine cndN (fun hc3 => ?_) ?_; rotate_left
  · exact by decide
  refine awp_skip ?_
  refine awp_seq ?_
  refine awp_seq ?_
  refine rln ?_
  refine Mv ?_
  refine G (q_gtr64 (y := 16) ?_)
  refine gend ?_
  refine cndN (fun hc4 => ?_) ?_; rotate_left
  · exact h16
  refine awp_skip ?_
  refine awp_seq ?_
  refine rln ?_
  refine Mv ?_
  refine G (q_eqln (y := 0) ?_)
  refine Mv ?_
  refine Aknd 120 (fun hb3 => ?_) ?_; rotate_left
  · exact rfl
  refine Gg (q_mv (s := .v (.c _)) ?_)
  refine Gg (q_mv (s := .v (.c _)) ?_)
  refine Gg (q_mul64 (x := 64) ?_)
  refine Gg (q_mv (s := .v (.c _)) ?_)
  refine Gg (q_add64 ?_)
  refine Gg (q_eql64 ?_)
  refine G (q_pkt ?_)
  refine Mv ?_
  refine Aknd 128 (fun hb11 => ?_) ?_; rotate_left
  · exact rfl
  refine G2g (fun _ k_ => q_callp known_ k_) ?_
  refine G (q_pkt ?_)
  refine As ?_
  refine gend ?_
  refine awp_ret ?_
  exact fp1
set_option maxHeartbeats 3200000 in
/-- escutcheonlaw19.ChannelEpochs -/
theorem epochs_far (a hash : List UInt8) (ep tt : UInt64) (ha : a.length = 32) (hh : hash.length = 32) (h60 : ¬ 60 < ep) (h63 : ¬ 63 < tt) (h0 : ¬ ep ≤ 0) (h16 : 16 < ep) : Good Try.prog 4 [.a (u8s a), .a (u8s hash), .c (c64 ep), .c (c64 tt)] [] (sc (.bool true)) [] := by
  obtain ⟨hn1, hn2, hn3⟩ := ep_n h60 h63
  obtain ⟨Y, hY⟩ : ∃ z, (8 :: List.replicate 31 0 : List UInt8) = z := ⟨_, rfl⟩
  have hYl : Y.length = 32 := by rw [← hY]; rfl
  obtain ⟨V, hV⟩ : ∃ z, (9 :: List.replicate 31 0 : List UInt8) = z := ⟨_, rfl⟩
  have hVl : V.length = 32 := by rw [← hV]; rfl
  have hK := kE_len ha (ep : UInt64).toNat
  have g15 := rkey_ a ep ha
  have g12 := chkey a ep ha h0 (fun h => h60 (UInt64.lt_trans (by decide) h))
  rw [UInt64.sub_zero] at g12
  have hXl := aseal_len (kE a (ep : UInt64).toNat) (anonce 0) [] [122]
  have gS := cseal_ok (kE a (ep : UInt64).toNat) [] [122] 0 0 1 hK rfl (by decide) rfl (by decide) (by decide)
  obtain ⟨X, hX⟩ : ∃ z, aseal (kE a (ep : UInt64).toNat) (anonce 0) [] [122] = z := ⟨_, rfl⟩
  rw [hX] at gS hXl
  replace hXl : X.length = 17 := hXl
  have o1 : op19 a hash [] (fr19 a hash (64 * ep + tt) [113]) = ([], 0, 9, []) := op19_seq (by decide) (by omega) (by simp) (by simp) (by rw [hn2]; exact h16)
  have g17 := rframe_ a hash [113] (64 * ep + tt) 1 ha hh rfl (by decide)
  have hfl : (fr19 a hash (64 * ep + tt) [113]).length = 25 := fr19_len
  obtain ⟨fr, hfr⟩ : ∃ z, fr19 a hash (64 * ep + tt) [113] = z := ⟨_, rfl⟩
  rw [hfr] at o1 g17 hfl
  have gO : Good Try.prog 11 [.c (.ptr 0 0), .c (.ro 25 (u8s fr))] [some (chC (0 : UInt64) (grl [] / 64) 2 (decide ((0 : UInt64) ≠ 0)) 4 6 (decide ((grl [] / 64) ≠ 0)) 8 (0 : UInt64) 1 (grl []) (decide (0 < ([] : List UInt64).length)) hash), some (wcs true 0 0), some (cC (.ptr 3 0) 0), some (u8s (S0 Y (0 : UInt64).toNat)), cb (decide ((0 : UInt64) ≠ 0)) 5, kb (decide ((0 : UInt64) ≠ 0)) (S1 Y (0 : UInt64).toNat), some (cC (.ptr 7 0) 0), some (u8s (S0 a (grl [] / 64).toNat)), cb (decide ((grl [] / 64) ≠ 0)) 9, kb (decide ((grl [] / 64) ≠ 0)) (S1 a (grl [] / 64).toNat)] (.t [.c .nils, .c (c64 0), .c (cn 9)]) [some (chC (0 : UInt64) (grl [] / 64) 2 (decide ((0 : UInt64) ≠ 0)) 4 6 (decide ((grl [] / 64) ≠ 0)) 8 (0 : UInt64) 1 (grl []) (decide (0 < ([] : List UInt64).length)) hash), some (wcs true 0 0), some (cC (.ptr 3 0) 0), some (u8s (S0 Y (0 : UInt64).toNat)), cb (decide ((0 : UInt64) ≠ 0)) 5, kb (decide ((0 : UInt64) ≠ 0)) (S1 Y (0 : UInt64).toNat), some (cC (.ptr 7 0) 0), some (u8s (S0 a (grl [] / 64).toNat)), cb (decide ((grl [] / 64) ≠ 0)) 9, kb (decide ((grl [] / 64) ≠ 0)) (S1 a (grl [] / 64).toNat)] := by
    have h := chopen_e Y a hash 0 0 [] 0 0 hYl ha hh inv_nil (fun _ h => absurd h List.not_mem_nil) fr 25 hfl (by rw [o1]; decide)
    rw [o1] at h
    exact h
  refine good_frm 131 Try.func4 rfl rfl rfl rfl rfl rfl ?_
  refine awp_seq ?_
  refine rln ?_
  refine G2 (fun _ k_ => q_boxa k_) ?_
  refine G2 (fun _ k_ => q_boxa k_) ?_
  refine As ?_
  refine gend ?_
  refine awp_seq ?_
  refine awp_seq ?_
  refine rln ?_
  refine Mv ?_
  refine G (q_gtr64 (y := 60) ?_)
  refine Mv ?_
  refine Akfd 25 (fun hb3 => ?_) ?_; rotate_left
  · exact h60
  refine Gg (q_mv (s := .v (.c _)) ?_)
  refine Gg (q_gtr64 (y := 63) ?_)
  refine G (q_pkf ?_)
  refine gend ?_
  refine cndN (fun hc1 => ?_) ?_; rotate_left
  · exact h63
  refine awp_skip ?_
  refine awp_seq ?_
  refine rln ?_
  refine G (q_ldw ?_)
  refine G2 (fun _ k_ => q_callv [] [] [some (u8s a), some (cC (.ptr 0 0) 0)] (new_ a ha) k_ (ha := (caa (et rfl) sees_m ca0)) (e2 := pl0) (eL := ml0) (eM := (ml1 sees_m (ml1 rfl ml0)))) ?_
  refine Mv ?_
  refine G2 (fun _ k_ => q_callv [3, 2] [some (cC (.ptr 1 0) 0), some (u8s a)] [some (cC (.ptr 3 0) 0), some (u8s (kE a ep.toNat))] g12 k_ (ha := (cac (et rfl) rfl (cac (et rfl) cm_int ca0))) (e2 := (pl1 rfl rfl (pl1 rfl sees_m pl0))) (eL := (ml1 rfl (ml1 sees_m ml0))) (eM := (ml1 rfl (ml1 sees_m ml0)))) ?_
  refine G (q_mv (s := .t _) ?_)
  refine G (q_ext (y := .c _) ?_)
  refine G (q_ext (y := .c _) ?_)
  refine As ?_
  refine As ?_
  refine gend ?_
  refine awp_seq ?_
  refine rln ?_
  refine Mv ?_
  refine G2 (fun _ k_ => q_bsl (fkc (c := c8 122) rfl rfl rfl (Nat.le_of_ble_eq_true rfl) (fk0 k_))) ?_
  refine G (q_css ?_)
  refine G2 (fun _ k_ => q_callv [4, 5] [some (cC (.ptr 1 0) 1), some (u8s (kE a ep.toNat))] [some (u8s X)] gS k_ (ha := (cac (et rfl) rfl (cac rfl sees_nil8 (cac (et rfl) (sees_slc rfl rfl rfl) ca0)))) (e2 := (pl1 rfl rfl (pl1 rfl sees_m pl0))) (eL := (ml1 rfl (ml1 sees_m ml0))) (eM := (ml1 sees_m ml0))) ?_
  refine G (q_mv (s := .t _) ?_)
  refine G (q_ext (y := .c _) ?_)
  refine G (q_ext (y := .c _) ?_)
  refine As ?_
  refine As ?_
  refine gend ?_
  refine awp_seq ?_
  refine rln ?_
  refine G (q_ldw ?_)
  refine Mv ?_
  refine G2 (fun _ k_ => q_callp g15 k_ (ha := (caa (et rfl) sees_m (cac (et rfl) cm_int ca0)))) ?_
  refine G2 (fun _ k_ => q_callv [] [] [some (u8s (kE a (ep : UInt64).toNat)), some (cC (.ptr 0 0) 0)] (new_ (kE a (ep : UInt64).toNat) hK) k_ (ha := (caa (et rfl) sees_m ca0)) (e2 := pl0) (eL := ml0) (eM := (ml1 sees_m (ml1 rfl ml0)))) ?_
  refine G2 (fun _ k_ => q_bsl (fkc (c := c8 122) rfl rfl rfl (Nat.le_of_ble_eq_true rfl) (fk0 k_))) ?_
  refine G (q_css ?_)
  refine G2 (fun _ k_ => q_callv [9, 8] [some (cC (.ptr 1 0) 1), some (u8s (kE a (ep : UInt64).toNat))] [some (u8s X)] gS k_ (ha := (cac (et rfl) rfl (cac rfl sees_nil8 (cac (et rfl) (sees_slc rfl rfl rfl) ca0)))) (e2 := (pl1 rfl rfl (pl1 rfl sees_m pl0))) (eL := (ml1 rfl (ml1 sees_m ml0))) (eM := (ml1 sees_m ml0))) ?_
  refine G (q_mv (s := .t _) ?_)
  refine G (q_ext (y := .c _) ?_)
  refine G (q_ext (y := .c _) ?_)
  refine As ?_
  refine As ?_
  refine gend ?_
  refine awp_seq ?_
  refine awp_seq ?_
  refine rln ?_
  refine Mv ?_
  refine G (q_neqn (y := 0) ?_)
  refine Mv ?_
  refine Akfd 56 (fun hb3 => ?_) ?_; rotate_left
  · exact by decide
  refine Gg (q_mv (s := .v (.c _)) ?_)
  refine Gg (q_neqn (y := 0) ?_)
  refine G (q_pkf ?_)
  refine Mv ?_
  refine Akfd 60 (fun hb7 => ?_) ?_; rotate_left
  · exact by decide
  refine Gg (q_mv (s := .v (.c _)) ?_)
  refine Gg (q_neqn (y := 0) ?_)
  refine G (q_pkf ?_)
  refine Mv ?_
  refine Akfd 64 (fun hb11 => ?_) ?_; rotate_left
  · exact by decide
  refine Gg (q_mv (s := .v (.c _)) ?_)
  refine Gg (q_csl ?_)
  refine Gg (q_mv (s := .v (.c _)) ?_)
  refine Gg (q_csl ?_)
  refine Gg (q_neqs ?_)
  refine G (q_pkf ?_)
  refine gend ?_
  refine cndnN (fun hc2 => ?_) ?_; rotate_left
  · exact by simp [kE]
  refine awp_skip ?_
  refine awp_seq ?_
  refine rln ?_
  refine G (q_bla (fkc (c := c8 9) rfl rfl rfl (Nat.le_of_ble_eq_true rfl) (fk0 ?_)))
  refine G (q_ldw ?_)
  refine G (q_ldw ?_)
  refine G2 (fun _ k_ => q_callv [] [] [some (chC (0 : UInt64) (grl [] / 64) 2 (decide ((0 : UInt64) ≠ 0)) 4 6 (decide ((grl [] / 64) ≠ 0)) 8 (0 : UInt64) 1 (grl []) (decide (0 < ([] : List UInt64).length)) hash), some (wcs true 0 0), some (cC (.ptr 3 0) 0), some (u8s (S0 V (0 : UInt64).toNat)), cb (decide ((0 : UInt64) ≠ 0)) 5, kb (decide ((0 : UInt64) ≠ 0)) (S1 V (0 : UInt64).toNat), some (cC (.ptr 7 0) 0), some (u8s (S0 a (grl [] / 64).toNat)), cb (decide ((grl [] / 64) ≠ 0)) 9, kb (decide ((grl [] / 64) ≠ 0)) (S1 a (grl [] / 64).toNat), some (chC (0 : UInt64) (grl [] / 64) 12 (decide ((0 : UInt64) ≠ 0)) 14 16 (decide ((grl [] / 64) ≠ 0)) 18 (0 : UInt64) 11 (grl []) (decide (0 < ([] : List UInt64).length)) hash), some (wcs true 0 0), some (cC (.ptr 13 0) 0), some (u8s (S0 a (0 : UInt64).toNat)), cb (decide ((0 : UInt64) ≠ 0)) 15, kb (decide ((0 : UInt64) ≠ 0)) (S1 a (0 : UInt64).toNat), some (cC (.ptr 17 0) 0), some (u8s (S0 V (grl [] / 64).toNat)), cb (decide ((grl [] / 64) ≠ 0)) 19, kb (decide ((grl [] / 64) ≠ 0)) (S1 V (grl [] / 64).toNat)] (two_ V a hash hVl ha hh) k_ (ha := (caa (et rfl) (key1 hV) (caa (et rfl) sees_m (caa (et rfl) sees_m ca0)))) (e2 := pl0) (eL := ml0) (eM := (ml1 (chC_map rfl rfl rfl rfl rfl) (ml1 rfl (ml1 rfl (ml1 sees_m (mlb (cb_map rfl) (mlb kb_map (ml1 rfl (ml1 sees_m (mlb (cb_map rfl) (mlb kb_map (ml1 (chC_map rfl rfl rfl rfl rfl) (ml1 rfl (ml1 rfl (ml1 sees_m (mlb (cb_map rfl) (mlb kb_map (ml1 rfl (ml1 sees_m (mlb (cb_map rfl) (mlb kb_map ml0)))))))))))))))))))))) ?_
  refine G (q_mv (s := .t _) ?_)
  refine G (q_ext (y := .c _) ?_)
  refine G (q_ext (y := .c _) ?_)
  refine As ?_
  refine As ?_
  refine gend ?_
  refine awp_seq ?_
  refine rdln [1, 3, 5] [0, 0, 0, 1, 0, 2, 3] [0, 1, 1, 2, 2, 3, 3] ?_
  refine Dp (fun _ => q_bla (fkc (c := c8 8) rfl rfl rfl (Nat.le_of_ble_eq_true rfl) (fk0 ⟨rfl, rfl⟩))) ?_
  refine De2 (fun _ k_ => q_callv [] [] [some (u8s Y), some (cC (.ptr 0 0) 0)] (new_ Y hYl) k_ (ha := (caa (et rfl) (key1 hY) ca0)) (e2 := pl0) (eL := ml0) (eM := (ml1 sees_m (ml1 rfl ml0)))) ?_
  refine DLw ?_
  refine De2 (fun _ k_ => q_callv [] [] [some (u8s a), some (cC (.ptr 0 0) 0)] (new_ a ha) k_ (ha := (caa (et rfl) sees_m ca0)) (e2 := pl0) (eL := ml0) (eM := (ml1 sees_m (ml1 rfl ml0)))) ?_
  refine DLw ?_
  refine De2 (fun _ k_ => q_callv [33, 32, 35, 34] [some (cC (.ptr 1 0) 0), some (u8s (S0 Y (0 : UInt64).toNat)), some (cC (.ptr 3 0) 0), some (u8s (S0 a (grl [] / 64).toNat))] [some (chC (0 : UInt64) (grl [] / 64) 6 (decide ((0 : UInt64) ≠ 0)) 7 9 (decide ((grl [] / 64) ≠ 0)) 10 (0 : UInt64) 5 (grl []) (decide (0 < ([] : List UInt64).length)) hash), some (wcs true 0 0), some (cC (.ptr 1 0) 0), cb (decide ((0 : UInt64) ≠ 0)) 8, kb (decide ((0 : UInt64) ≠ 0)) (S1 Y (0 : UInt64).toNat), some (cC (.ptr 3 0) 0), cb (decide ((grl [] / 64) ≠ 0)) 11, kb (decide ((grl [] / 64) ≠ 0)) (S1 a (grl [] / 64).toNat)] (cnewU Y a hash hYl ha hh) k_ (ha := (cac (et rfl) rfl (cac (et rfl) rfl (caa (et rfl) sees_m ca0)))) (e2 := (pl1 rfl rfl (pl1 rfl sees_m (pl1 rfl rfl (pl1 rfl sees_m pl0))))) (eL := (ml1 rfl (ml1 sees_m (ml1 rfl (ml1 sees_m ml0))))) (eM := (ml1 (chC_map rfl rfl rfl rfl rfl) (ml1 rfl (ml1 rfl (mlb (cb_map rfl) (mlb kb_map (ml1 rfl (mlb (cb_map rfl) (mlb kb_map ml0)))))))))) ?_
  refine Dp (fun _ => q_as (s := .v (.c _)) ⟨rfl, rfl⟩) ?_
  refine dend ?_
  refine awp_seq ?_
  refine rln ?_
  refine Mv ?_
  refine G (q_ldw ?_)
  refine G (q_ldw ?_)
  refine Mv ?_
  refine G (q_mul64 (x := 64) ?_)
  refine Mv ?_
  refine G (q_add64 ?_)
  refine G2 (fun _ k_ => q_bsl (fkc (c := c8 113) rfl rfl rfl (Nat.le_of_ble_eq_true rfl) (fk0 k_))) ?_
  refine G (q_css ?_)
  refine G2 (fun _ k_ => q_calln g17 k_ (ha := (caa (et rfl) sees_m (caa (et rfl) sees_m (cac (et rfl) cm_int (cac (et rfl) (sees_slc rfl rfl rfl) ca0)))))) ?_
  refine G2 (fun _ k_ => q_callv [36, 37, 38, 32, 39, 40, 41, 34, 42, 43] [some (chC (0 : UInt64) (grl [] / 64) 2 (decide ((0 : UInt64) ≠ 0)) 4 6 (decide ((grl [] / 64) ≠ 0)) 8 (0 : UInt64) 1 (grl []) (decide (0 < ([] : List UInt64).length)) hash), some (wcs true 0 0), some (cC (.ptr 3 0) 0), some (u8s (S0 Y (0 : UInt64).toNat)), cb (decide ((0 : UInt64) ≠ 0)) 5, kb (decide ((0 : UInt64) ≠ 0)) (S1 Y (0 : UInt64).toNat), some (cC (.ptr 7 0) 0), some (u8s (S0 a (grl [] / 64).toNat)), cb (decide ((grl [] / 64) ≠ 0)) 9, kb (decide ((grl [] / 64) ≠ 0)) (S1 a (grl [] / 64).toNat)] [] gO k_ (ha := (cac (et rfl) rfl (cac (et rfl) (sees_slc rfl rfl (cut_h hfl)) ca0))) (e2 := (pl1 rfl (chC_map rfl rfl rfl rfl rfl) (pl1 rfl rfl (pl1 rfl rfl (pl1 rfl sees_m (plb rfl (cb_map rfl) (plb rfl kb_map (pl1 rfl rfl (pl1 rfl sees_m (plb rfl (cb_map rfl) (plb rfl kb_map pl0))))))))))) (eL := (ml1 (chC_map rfl rfl rfl rfl rfl) (ml1 rfl (ml1 rfl (ml1 sees_m (mlb (cb_map rfl) (mlb kb_map (ml1 rfl (ml1 sees_m (mlb (cb_map rfl) (mlb kb_map ml0))))))))))) (eM := ml0)) ?_
  refine G (q_mv (s := .t _) ?_)
  refine G (q_ext (y := .c _) ?_)
  refine G (q_ext (y := .c _) ?_)
  refine G (q_ext (y := .c _) ?_)
  refine As ?_
  refine As ?_
  refine As ?_
  refine gend ?_
  refine awp_seq ?_
  refine rln ?_
  refine G (q_ldw ?_)
  refine G2 (fun _ k_ => q_callv [] [] [some (u8s a), some (cC (.ptr 0 0) 0)] (new_ a ha) k_ (ha := (caa (et rfl) sees_m ca0)) (e2 := pl0) (eL := ml0) (eM := (ml1 sees_m (ml1 rfl ml0)))) ?_
  refine G2 (fun _ k_ => q_callv [47, 46] [some (cC (.ptr 1 0) 0), some (u8s a)] [] (chkey_far a 1025 ha (by decide)) k_ (ha := (cac (et rfl) rfl (cac rfl cm_int ca0))) (e2 := (pl1 rfl rfl (pl1 rfl sees_m pl0))) (eL := (ml1 rfl (ml1 sees_m ml0))) (eM := ml0)) ?_
  refine G (q_mv (s := .t _) ?_)
  refine G (q_ext (y := .c _) ?_)
  refine G (q_ext (y := .c _) ?_)
  refine As ?_
  refine As ?_
  refine gend ?_
  refine awp_seq ?_
  refine awp_seq ?_
  refine rln ?_
  refine Mv ?_
  refine G (q_eqlp ?_)
  refine Mv ?_
  refine Akf 107 (fun hb3 => ?_) ?_; rotate_left
  · exact rfl
  refine Gg (q_mv (s := .v (.c _)) ?_)
  refine Gg (q_neqn (y := 11) ?_)
  refine G (q_pkf ?_)
  refine gend ?_
  refine cndN (fun hc3 => ?_) ?_; rotate_left
  · exact by decide
  refine awp_skip ?_
  refine awp_seq ?_
  refine awp_seq ?_
  refine rln ?_
  refine Mv ?_
  refine G (q_gtr64 (y := 16) ?_)
  refine gend ?_
  refine cndY (fun hc4 => ?_) ?_; rotate_left
  · exact h16
  refine awp_seq ?_
  refine rln ?_
  refine Mv ?_
  refine G (q_eqln (y := 9) ?_)
  refine Mv ?_
  refine Aknd 115 (fun hb3 => ?_) ?_; rotate_left
  · exact rfl
  refine G2g (fun _ k_ => q_callp known_ k_) ?_
  refine G (q_pkt ?_)
  refine As ?_
  refine gend ?_
  refine awp_ret ?_
  exact fp1
theorem epochs_ (a hash : List UInt8) (ep tt : UInt64) (ha : a.length = 32) (hh : hash.length = 32) : Good Try.prog 4 [.a (u8s a), .a (u8s hash), .c (c64 ep), .c (c64 tt)] [] (sc (.bool true)) [] := by
  by_cases h60 : 60 < ep
  · exact epochs_big1 a hash ep tt ha hh h60
  by_cases h63 : 63 < tt
  · exact epochs_big2 a hash ep tt ha hh h60 h63
  by_cases h0 : ep ≤ 0
  · exact epochs_z a hash ep tt ha hh h60 h63 (UInt64.toNat_inj.1 (by rw [UInt64.le_iff_toNat_le] at h0; exact Nat.le_zero.1 h0))
  by_cases h16 : 16 < ep
  · exact epochs_far a hash ep tt ha hh h60 h63 h0 h16
  · exact epochs_p a hash ep tt ha hh h60 h63 h0 h16
end Go.Proofs.Ytklcckngmmklhaa


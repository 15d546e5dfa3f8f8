/- Texts that the proof stands on, put together: the abstract machine, and what functions do over it. -/
import Derived.Test.YtklcckngmmklhaaOutPlaysf
/- What functions of the program do, walked over the abstract machine. -/
namespace Go.Proofs.Ytklcckngmmklhaa
open Go Go.Abs Go.Proofs Go.Proofs.Ytklcckngmmklhaa.Ch Go.Proofs.Ytklcckngmmklhaa.Po Go.Proofs.Ytklcckngmmklhaa.Ae Go.Proofs.Ytklcckngmmklhaa.Wd
set_option maxRecDepth 20000
set_option maxHeartbeats 6400000 in
theorem plays_ (a b hash : List UInt8) (ha : a.length = 32) (hb : b.length = 32) (hh : hash.length = 32) (l : List A19) (n : Nat) (hl : l.length = n) (hl9 : n ≤ 140737488351232) : Good Try.prog 5 [.a (u8s a), .a (u8s b), .a (u8s hash), .c (.ro n (l.flatMap cA))] [] (sc (.bool true)) [] := by
  refine good_frm 327 Try.func5 rfl rfl rfl rfl rfl rfl ?_
  refine awp_seq ?_
  refine rln ?_
  refine G2 (fun _ k_ => q_boxa k_) ?_
  refine G2 (fun _ k_ => q_boxa k_) ?_
  refine G2 (fun _ k_ => q_boxa k_) ?_
  refine As ?_
  refine gend ?_
  refine awp_seq ?_
  refine awp_seq ?_
  refine rln ?_
  refine Mv ?_
  refine G (q_leno ?_)
  refine G (q_gtrn (y := 30) ?_)
  refine gend ?_
  refine cnd (fun hc1 => ?_) (fun hc1 => ?_)
  · refine awp_seq ?_
    refine rln ?_
    refine G2 (fun _ k_ => q_callp known_ k_) ?_
    refine As ?_
    refine gend ?_
    refine awp_ret ?_
    exact fp1
  refine awp_skip ?_
  refine awp_seq ?_
  refine rln ?_
  refine G (q_ldw ?_)
  refine G (q_ldw ?_)
  refine G (q_ldw ?_)
  refine G2 (fun _ k_ => q_callv [] [] [some (chC (0 : UInt64) (grl [] / 64) 2 (decide ((0 : UInt64) ≠ 0)) 4 6 (decide ((grl [] / 64) ≠ 0)) 8 (0 : UInt64) 1 (grl []) (decide (0 < ([] : List UInt64).length)) hash), some (wcs true 0 0), some (cC (.ptr 3 0) 0), some (u8s (S0 a (0 : UInt64).toNat)), cb (decide ((0 : UInt64) ≠ 0)) 5, kb (decide ((0 : UInt64) ≠ 0)) (S1 a (0 : UInt64).toNat), some (cC (.ptr 7 0) 0), some (u8s (S0 b (grl [] / 64).toNat)), cb (decide ((grl [] / 64) ≠ 0)) 9, kb (decide ((grl [] / 64) ≠ 0)) (S1 b (grl [] / 64).toNat), some (chC (0 : UInt64) (grl [] / 64) 12 (decide ((0 : UInt64) ≠ 0)) 14 16 (decide ((grl [] / 64) ≠ 0)) 18 (0 : UInt64) 11 (grl []) (decide (0 < ([] : List UInt64).length)) hash), some (wcs true 0 0), some (cC (.ptr 13 0) 0), some (u8s (S0 b (0 : UInt64).toNat)), cb (decide ((0 : UInt64) ≠ 0)) 15, kb (decide ((0 : UInt64) ≠ 0)) (S1 b (0 : UInt64).toNat), some (cC (.ptr 17 0) 0), some (u8s (S0 a (grl [] / 64).toNat)), cb (decide ((grl [] / 64) ≠ 0)) 19, kb (decide ((grl [] / 64) ≠ 0)) (S1 a (grl [] / 64).toNat)] (two_ a b hash ha hb hh) k_ (ha := (caa (et rfl) sees_m (caa (et rfl) sees_m (caa (et rfl) sees_m ca0)))) (e2 := pl0) (eL := ml0) (eM := (ml1 (chC_map rfl rfl rfl rfl rfl) (ml1 rfl (ml1 rfl (ml1 sees_m (mlb (cb_map rfl) (mlb kb_map (ml1 rfl (ml1 sees_m (mlb (cb_map rfl) (mlb kb_map (ml1 (chC_map rfl rfl rfl rfl rfl) (ml1 rfl (ml1 rfl (ml1 sees_m (mlb (cb_map rfl) (mlb kb_map (ml1 rfl (ml1 sees_m (mlb (cb_map rfl) (mlb kb_map ml0)))))))))))))))))))))) ?_
  refine G (q_mv (s := .t _) ?_)
  refine G (q_ext (y := .c _) ?_)
  refine G (q_ext (y := .c _) ?_)
  refine As ?_
  refine As ?_
  refine gend ?_
  refine awp_seq ?_
  refine rln ?_
  refine G (q_ldw ?_)
  refine G (q_ldw ?_)
  refine G (q_ldw ?_)
  refine G (q_bls (fka rfl (et rfl) ((mapc_length ..).trans ha) (Nat.le_of_ble_eq_true rfl) (fka rfl (et rfl) ((mapc_length ..).trans hb) (Nat.le_trans (by decide : 64 ≤ 98) (Nat.le_of_eq (spl1 ha).symm)) (fka rfl (et rfl) ((mapc_length ..).trans hh) (Nat.le_trans (by decide : 96 ≤ 98) (Nat.le_of_eq (spl2 ha hb).symm)) (fk0 ?_)))))
  refine G2 (fun _ k_ => q_boxa k_) ?_
  refine As ?_
  refine gend ?_
  refine awp_seq ?_
  refine awp_seq ?_
  refine rln ?_
  refine G (q_as (s := sc (cn 0)) ?_)
  refine gend ?_
  refine awp_le (sle_nb 23 1 rfl (Nat.zero_le _) rfl) ?_
  refine awp_block ?_
  refine awp_loop (fun x : P19 n => ⟨frm 327 [(3, sc (.ro n (l.flatMap cA))), (5, sc (.ptr 1 0)), (6, sc (.ptr 2 0)), (9, sc (.ptr 3 0)), (11, sc (.ptr 13 0)), (12, sc (cn x.i))], [some (u8s a), some (u8s b), some (u8s hash), some (chC x.es (grl x.l / 64) 5 (decide (x.es ≠ 0)) 7 9 (decide ((grl x.l / 64) ≠ 0)) 11 x.sent 4 (grl x.l) (decide (0 < (x.l : List UInt64).length)) hash), some (wcs true x.wg x.wb), some (cC (.ptr 6 0) 0), some (u8s (S0 a x.es.toNat)), cb (decide (x.es ≠ 0)) 8, kb (decide (x.es ≠ 0)) (S1 a x.es.toNat), some (cC (.ptr 10 0) 0), some (u8s (S0 b (grl x.l / 64).toNat)), cb (decide ((grl x.l / 64) ≠ 0)) 12, kb (decide ((grl x.l / 64) ≠ 0)) (S1 b (grl x.l / 64).toNat), some (rH a b hash x.sent (.slc 14 0 x.l.length 1)), some (u64s x.l)]⟩) (fun x => n - x.i) ⟨0, 0, 0, [], 0, 0, Nat.zero_le _, inv_nil, (fun _ h => absurd h List.not_mem_nil), Nat.le_refl _, UInt64.le_refl _, Nat.le_refl _, Nat.le_refl _⟩ (sle_ren [(0, true), (1, true), (2, true), (3, true), (4, true), (5, true), (6, true), (7, true), (8, true), (9, true), (10, true), (11, true), (12, true), (23, true), (24, true)] rfl (fun p h => absurd h (Nat.not_lt_zero _)) ⟨rs_fl (fun y => cA_cm y), rfl, rfl, rfl, rfl, rfl, trivial⟩ (Eq.symm (a := renL _ _ _) (rlT rfl sees_m (rlT rfl sees_m (rlT rfl sees_m (rlT rfl (chC_map rfl rfl rfl rfl rfl) (rlT rfl rfl (rlT rfl rfl (rlT rfl sees_m (rlB rfl (cb_map rfl) (rlB rfl kb_map (rlT rfl rfl (rlT rfl sees_m (rlB rfl (cb_map rfl) (rlB rfl kb_map (rlT rfl ((congrArg (List.map _) ((congrArg (List.map _) (rH_new ha hb hh)).trans rH_e2)).trans (rH_cm.trans rfl)) (rlT rfl rfl rl0))))))))))))))))) fun x => ?_
  obtain ⟨z, hz⟩ : ∃ z, l.getD x.i a19 = z := ⟨_, rfl⟩
  have hxi := x.hi
  have hxs := x.hs
  have hxl := x.hl
  have hxg := x.hg
  have hL0 := rH_len (n := x.sent) (x := .slc 14 0 x.l.length 1) ha hb hh
  refine awp_seq ?_
  refine awp_seq ?_
  refine rln ?_
  refine Mv ?_
  refine Mv ?_
  refine G (q_leno ?_)
  refine G (q_lssn ?_)
  refine gend ?_
  refine cnd (fun hc2 => ?_) (fun hc2 => ?_); rotate_left
  · refine awp_exit ?_
    refine awp_seq ?_
    refine rln ?_
    refine G2 (fun _ k_ => q_callp known_ k_) ?_
    refine As ?_
    refine gend ?_
    refine awp_ret ?_
    exact fp1
  refine awp_skip ?_
  refine awp_seq ?_
  refine awp_block ?_
  refine awp_seq ?_
  refine rln ?_
  refine Mv ?_
  refine Mv ?_
  refine G (q_ixe (l := l) hz cA_len ?_)
  refine G (q_ldar ?_)
  refine G2 (fun _ k_ => q_al k_) ?_
  refine G20 (fun _ k_ => q_stw k_) ?_
  refine gend ?_
  refine awp_seq ?_
  refine awp_cut (α := {t : Bool // t = false → ¬ 5000 < z.b.length ∧ (¬ z.kind ≠ 2 ∨ ¬ 200 < z.b.length) ∧ (¬ 5000 < z.n ∨ ¬ z.n < 281474976710656)}) (fun cq => ⟨frm 327 [(3, sc (.ro n (l.flatMap cA))), (5, sc (.ptr 1 0)), (6, sc (.ptr 2 0)), (9, sc (.ptr 3 0)), (11, sc (.ptr 13 0)), (12, sc (cn x.i)), (13, sc (.ptr 15 0)), (84, sc (.bool cq.1))], [some (u8s a), some (u8s b), some (u8s hash), some (chC x.es (grl x.l / 64) 5 (decide (x.es ≠ 0)) 7 9 (decide ((grl x.l / 64) ≠ 0)) 11 x.sent 4 (grl x.l) (decide (0 < (x.l : List UInt64).length)) hash), some (wcs true x.wg x.wb), some (cC (.ptr 6 0) 0), some (u8s (S0 a x.es.toNat)), cb (decide (x.es ≠ 0)) 8, kb (decide (x.es ≠ 0)) (S1 a x.es.toNat), some (cC (.ptr 10 0) 0), some (u8s (S0 b (grl x.l / 64).toNat)), cb (decide ((grl x.l / 64) ≠ 0)) 12, kb (decide ((grl x.l / 64) ≠ 0)) (S1 b (grl x.l / 64).toNat), some (rH a b hash x.sent (.slc 14 0 x.l.length 1)), some (u64s x.l), some [ci z.kind, .ro z.b.length (u8s z.b), c64 z.n, ci z.at_]]⟩) ?_ (fun cq => ?_)
  · refine rln ?_
    refine G (q_fap0 ?_)
    refine G (q_ldp ?_)
    refine G (q_leno ?_)
    refine G (q_gtrn (y := 5000) ?_)
    refine Mv ?_
    refine Aspd 64 (fun hb5 => ?_) (fun hb5 => ?_)
    · refine Gn ?_
      refine Gn ?_
      refine Gn ?_
      refine Gn ?_
      refine Gu ?_
      refine Gu ?_
      refine Gu ?_
      refine Gu ?_
      refine Gn ?_
      refine G (q_pkt ?_)
      refine Mv ?_
      refine Gn ?_
      refine Gn ?_
      refine Gn ?_
      refine Gn ?_
      refine Gu ?_
      refine Gu ?_
      refine Gu ?_
      refine Gn ?_
      refine G (q_pkt ?_)
      refine gend ?_
      exact (by refine ⟨⟨_, ?_⟩, sle_sub ⟨rfl, rfl, rfl, rfl, rfl, rfl, rfl, rfl, trivial⟩ rfl⟩; first | exact (fun h => Bool.noConfusion h) | exact (fun hd_ => ⟨by assumption, by first | exact .inl (by assumption) | exact .inr (by assumption), by first | exact .inl (by assumption) | exact .inr (by assumption) | exact .inr (of_decide_eq_false hd_)⟩))
    refine Gg (q_fap0 ?_)
    refine Gg (q_ldp ?_)
    refine Gg (q_neqi (y := 2) ?_)
    refine Gg (q_mv (s := .v (.c _)) ?_)
    refine Aspd 68 (fun hb9 => ?_) (fun hb9 => ?_)
    · refine Gg (q_fap0 ?_)
      refine Gg (q_ldp ?_)
      refine Gg (q_leno ?_)
      refine Gg (q_gtrn (y := 200) ?_)
      refine Gg (q_pkt ?_)
      refine G (q_pkf ?_)
      refine Mv ?_
      refine Aspd 75 (fun hb16 => ?_) (fun hb16 => ?_)
      · refine Gn ?_
        refine Gn ?_
        refine Gn ?_
        refine Gn ?_
        refine Gu ?_
        refine Gu ?_
        refine Gu ?_
        refine Gn ?_
        refine G (q_pkt ?_)
        refine gend ?_
        exact (by refine ⟨⟨_, ?_⟩, sle_sub ⟨rfl, rfl, rfl, rfl, rfl, rfl, rfl, rfl, trivial⟩ rfl⟩; first | exact (fun h => Bool.noConfusion h) | exact (fun hd_ => ⟨by assumption, by first | exact .inl (by assumption) | exact .inr (by assumption), by first | exact .inl (by assumption) | exact .inr (by assumption) | exact .inr (of_decide_eq_false hd_)⟩))
      refine Gg (q_fap0 ?_)
      refine Gg (q_ldp ?_)
      refine Gg (q_gtr64 (y := 5000) ?_)
      refine Gg (q_mv (s := .v (.c _)) ?_)
      refine Aspd 79 (fun hb20 => ?_) (fun hb20 => ?_)
      · refine Gg (q_fap0 ?_)
        refine Gg (q_ldp ?_)
        refine Gg (q_lss64 (y := 281474976710656) ?_)
        refine Gg (q_pkt ?_)
        refine G (q_pkf ?_)
        refine gend ?_
        exact (by refine ⟨⟨_, ?_⟩, sle_sub ⟨rfl, rfl, rfl, rfl, rfl, rfl, rfl, rfl, trivial⟩ rfl⟩; first | exact (fun h => Bool.noConfusion h) | exact (fun hd_ => ⟨by assumption, by first | exact .inl (by assumption) | exact .inr (by assumption), by first | exact .inl (by assumption) | exact .inr (by assumption) | exact .inr (of_decide_eq_false hd_)⟩))
      refine Gn ?_
      refine Gn ?_
      refine Gn ?_
      refine Gg (q_pkf ?_)
      refine G (q_pkf ?_)
      refine gend ?_
      exact (by refine ⟨⟨_, ?_⟩, sle_sub ⟨rfl, rfl, rfl, rfl, rfl, rfl, rfl, rfl, trivial⟩ rfl⟩; first | exact (fun h => Bool.noConfusion h) | exact (fun hd_ => ⟨by assumption, by first | exact .inl (by assumption) | exact .inr (by assumption), by first | exact .inl (by assumption) | exact .inr (by assumption) | exact .inr (of_decide_eq_false hd_)⟩))
    refine Gn ?_
    refine Gn ?_
    refine Gn ?_
    refine Gn ?_
    refine Gg (q_pkf ?_)
    refine G (q_pkf ?_)
    refine Mv ?_
    refine Gg (q_fap0 ?_)
    refine Gg (q_ldp ?_)
    refine Gg (q_gtr64 (y := 5000) ?_)
    refine Gg (q_mv (s := .v (.c _)) ?_)
    refine Aspd 79 (fun hb20 => ?_) (fun hb20 => ?_)
    · refine Gg (q_fap0 ?_)
      refine Gg (q_ldp ?_)
      refine Gg (q_lss64 (y := 281474976710656) ?_)
      refine Gg (q_pkt ?_)
      refine G (q_pkf ?_)
      refine gend ?_
      exact (by refine ⟨⟨_, ?_⟩, sle_sub ⟨rfl, rfl, rfl, rfl, rfl, rfl, rfl, rfl, trivial⟩ rfl⟩; first | exact (fun h => Bool.noConfusion h) | exact (fun hd_ => ⟨by assumption, by first | exact .inl (by assumption) | exact .inr (by assumption), by first | exact .inl (by assumption) | exact .inr (by assumption) | exact .inr (of_decide_eq_false hd_)⟩))
    refine Gn ?_
    refine Gn ?_
    refine Gn ?_
    refine Gg (q_pkf ?_)
    refine G (q_pkf ?_)
    refine gend ?_
    exact (by refine ⟨⟨_, ?_⟩, sle_sub ⟨rfl, rfl, rfl, rfl, rfl, rfl, rfl, rfl, trivial⟩ rfl⟩; first | exact (fun h => Bool.noConfusion h) | exact (fun hd_ => ⟨by assumption, by first | exact .inl (by assumption) | exact .inr (by assumption), by first | exact .inl (by assumption) | exact .inr (by assumption) | exact .inr (of_decide_eq_false hd_)⟩))
  refine cndb (fun hc3 => ?_) (fun hc3 => ?_)
  · refine awp_seq ?_
    refine rln ?_
    refine G2 (fun _ k_ => q_callp known_ k_) ?_
    refine As ?_
    refine gend ?_
    refine awp_ret ?_
    exact fp1
  refine awp_skip ?_
  rcases (show (z.kind = 1) ∨ (z.kind ≠ 1 ∧ z.kind ≠ 2 ∧ z.kind ≠ 3 ∧ z.kind ≠ 4) ∨ (z.kind = 2) ∨ (z.kind = 3 ∧ ¬ 281474976710656 ≤ z.n) ∨ (z.kind = 3 ∧ 281474976710656 ≤ z.n) ∨ (z.kind = 4 ∧ ¬ 281474976710656 ≤ z.n) ∨ (z.kind = 4 ∧ 281474976710656 ≤ z.n) from (by by_cases h1 : z.kind = 1 <;> by_cases h2 : z.kind = 2 <;> by_cases h3 : z.kind = 3 <;> by_cases h4 : z.kind = 4 <;> by_cases h5 : 281474976710656 ≤ z.n <;> simp [*] <;> omega)) with hk | hk | hk | hk | hk | hk | hk
  · have h9 := cq.2 hc3
    have hs1 : ¬ 281474976710655 < x.sent := by rw [UInt64.lt_iff_toNat_lt, show (281474976710655 : UInt64).toNat = 281474976710655 from rfl]; omega
    have hs2 : (x.sent + 1).toNat = x.sent.toNat + 1 := by rw [UInt64.toNat_add, show (1 : UInt64).toNat = 1 from rfl, Nat.mod_eq_of_lt (by omega)]
    have he2 : x.sent / 64 ≤ (x.sent + 1) / 64 := by rw [UInt64.le_iff_toNat_le, d64, d64, hs2]; omega
    have hb9 : z.b.length ≤ 200 := by omega
    have q1 := chseal_u a b hash x.es (grl x.l / 64) x.sent (grl x.l) (decide (0 < x.l.length)) x.wg x.wb ha hb hh z.b _ rfl (by omega) hs1 x.he
    have q2 := rsl_ a b hash x.sent x.l ha hb hh (by omega) z.b _ rfl (by omega)
    have hFl := fr19_len (s := a) (h := hash) (n := x.sent) (c := z.b)
    have hL1 := rH_len (n := x.sent + 1) (x := .slc 14 0 x.l.length 1) ha hb hh
    obtain ⟨F, hF⟩ : ∃ t, fr19 a hash x.sent z.b = t := ⟨_, rfl⟩
    rw [hF] at q1 q2 hFl
    refine awp_seq ?_
    refine awp_seq ?_
    refine rln ?_
    refine G (q_fap0 ?_)
    refine G (q_ldp ?_)
    refine gend ?_
    refine awp_block ?_
    refine awp_seq ?_
    refine rln ?_
    refine G (q_eqli (y := 1) ?_)
    refine As ?_
    refine gend ?_
    refine cndY (fun hc4 => ?_) ?_; rotate_left
    · exact hk
    refine awp_seq ?_
    refine rln ?_
    refine Mv ?_
    refine G (q_fap0 ?_)
    refine G (q_ldp ?_)
    refine G2 (fun _ k_ => q_callv [3, 4, 5, 6, 7, 8, 9, 10, 11, 12] [some (chC (x.sent / 64) (grl x.l / 64) 10 (decide ((x.sent / 64) ≠ 0)) 12 6 (decide ((grl x.l / 64) ≠ 0)) 8 (x.sent + 1) 1 (grl x.l) (decide (0 < (x.l : List UInt64).length)) hash), some (wcs true x.wg x.wb), none, none, none, none, some (cC (.ptr 7 0) 0), some (u8s (S0 b (grl x.l / 64).toNat)), cb (decide ((grl x.l / 64) ≠ 0)) 9, kb (decide ((grl x.l / 64) ≠ 0)) (S1 b (grl x.l / 64).toNat)] [some (cC (.ptr 11 0) 0), some (u8s (S0 a (x.sent / 64).toNat)), cb (decide ((x.sent / 64) ≠ 0)) 13, kb (decide ((x.sent / 64) ≠ 0)) (S1 a (x.sent / 64).toNat), some (u8s F)] q1 k_ (ha := (cac (et rfl) rfl (cac (et rfl) sees_ro ca0))) (e2 := (pl1 rfl (chC_map rfl rfl rfl rfl rfl) (pl1 rfl rfl (pl1 rfl rfl (pl1 rfl sees_m (plb rfl (cb_map rfl) (plb rfl kb_map (pl1 rfl rfl (pl1 rfl sees_m (plb rfl (cb_map rfl) (plb rfl kb_map pl0))))))))))) (eL := (ml1 (chC_map rfl rfl rfl rfl rfl) (ml1 rfl (mln (mln (mln (mln (ml1 rfl (ml1 sees_m (mlb (cb_map rfl) (mlb kb_map ml0))))))))))) (eM := (ml1 rfl (ml1 sees_m (mlb (cb_map rfl) (mlb kb_map (ml1 sees_m ml0)))))) (e3 := (vt2 rfl rfl))) ?_
    refine G (q_mv (s := .t _) ?_)
    refine G (q_ext (y := .c _) ?_)
    refine G (q_ext (y := .c _) ?_)
    refine As ?_
    refine As ?_
    refine gend ?_
    refine awp_seq ?_
    refine rln ?_
    refine Mv ?_
    refine G (q_fap0 ?_)
    refine G (q_ldp ?_)
    refine G2 (fun _ k_ => q_callv [13, 14] [some (rH a b hash (x.sent + 1) (.slc 1 0 x.l.length 1)), some (u64s x.l)] [some (u8s F)] q2 k_ (ha := (cac (et rfl) rfl (cac (et rfl) sees_ro ca0))) (e2 := (pl1 rfl (rH_cm.trans rfl) (pl1 rfl sees_m pl0))) (eL := (ml1 (rH_cm.trans rfl) (ml1 sees_m ml0))) (eM := (ml1 sees_m ml0))) ?_
    refine G (q_mv (s := .t _) ?_)
    refine G (q_ext (y := .c _) ?_)
    refine G (q_ext (y := .c _) ?_)
    refine As ?_
    refine As ?_
    refine gend ?_
    refine awp_seq ?_
    refine rln ?_
    refine Mv ?_
    refine Mv ?_
    refine G (q_neqn ?_)
    refine Mv ?_
    refine Akfd 107 (fun hb4 => ?_) ?_; rotate_left
    · exact fun h => h rfl
    refine Gg (q_mv (s := .v (.c _)) ?_)
    refine Gg (q_csl ?_)
    refine Gg (q_mv (s := .v (.c _)) ?_)
    refine Gg (q_csl ?_)
    refine Gg (q_neqs ?_)
    refine G (q_pkf ?_)
    refine gend ?_
    refine cndnN (fun hc5 => ?_) ?_; rotate_left
    · simp
    refine awp_skip ?_
    refine awp_seq ?_
    refine rln ?_
    refine Mv ?_
    refine G2 (fun _ k_ => q_callp (cgreat _ _ _ _ _ _ _ _ _ _ _) k_ (ha := (cac (et rfl) (sees_ch rfl rfl rfl rfl) ca0))) ?_
    refine G (q_mv (s := .t _) ?_)
    refine G (q_ext (y := .c _) ?_)
    refine G (q_ext (y := .c _) ?_)
    refine As ?_
    refine As ?_
    refine gend ?_
    refine awp_seq ?_
    refine rln ?_
    refine Mv ?_
    refine G2 (fun _ k_ => q_callp (rgr_ a b hash (x.sent + 1) x.l ha hb hh (by omega)) k_ (ha := (cac (et rfl) (sees_rH ha rfl rfl rfl rfl) ca0))) ?_
    refine G (q_mv (s := .t _) ?_)
    refine G (q_ext (y := .c _) ?_)
    refine G (q_ext (y := .c _) ?_)
    refine As ?_
    refine As ?_
    refine gend ?_
    refine awp_seq ?_
    refine rdln [1, 19] [0, 0, 0, 0, 0, 0, 1, 1, 1, 1, 1, 1, 1, 1, 1, 1, 1, 1, 1, 1, 1, 2, 2] [0, 1, 1, 1, 1, 1, 1, 1, 1, 1, 1, 1, 1, 1, 1, 1, 1, 1, 1, 2, 2, 2, 2] ?_
    refine Dp (fun _ => q_mv (s := .v (.c _)) ⟨rfl, rfl⟩) ?_
    refine De2 (fun _ k_ => q_callp (csent _ _ _ _ _ _ _ _ _ _ _) k_ (ha := (cac (et rfl) (sees_ch rfl rfl rfl rfl) ca0))) ?_
    refine Dp (fun _ => q_mv (s := .v (.c _)) ⟨rfl, rfl⟩) ?_
    refine Dp (fun _ => q_ncp ⟨rfl, rfl⟩) ?_
    refine Dp (fun _ => q_fap0 ⟨rfl, rfl⟩) ?_
    refine DLp  ?_ (hc := rH_n ha hb hh)
    refine Dp (fun _ => q_neq64 ⟨rfl, rfl⟩) ?_
    refine Dp (fun _ => q_mv (s := .v (.c _)) ⟨rfl, rfl⟩) ?_
    refine Dkfd 310 (fun hb8 => ?_) ?_; rotate_left
    · exact fun h => h rfl
    refine Dpg (fun _ => q_mv (s := .v (.c _)) ⟨rfl, rfl⟩) ?_
    refine Dpg (fun _ => q_mv (s := .v (.c _)) ⟨rfl, rfl⟩) ?_
    refine Dpg (fun _ => q_neq64 ⟨rfl, rfl⟩) ?_
    refine Dp (fun _ => q_pkf ⟨rfl, rfl⟩) ?_
    refine Dp (fun _ => q_mv (s := .v (.c _)) ⟨rfl, rfl⟩) ?_
    refine Dkfd 315 (fun hb13 => ?_) ?_; rotate_left
    · exact fun h => h rfl
    refine Dpg (fun _ => q_mv (s := .v (.c _)) ⟨rfl, rfl⟩) ?_
    refine Dpg (fun _ => q_mv (s := .v (.c _)) ⟨rfl, rfl⟩) ?_
    refine Dpg (fun _ => q_neqb ⟨rfl, rfl⟩) ?_
    refine Dp (fun _ => q_pkf ⟨rfl, rfl⟩) ?_
    refine Dp (fun _ => q_mv (s := .v (.c _)) ⟨rfl, rfl⟩) ?_
    refine Dkf 320 (fun hb18 => ?_) ?_; rotate_left
    · simp
    refine Dpg (fun _ => q_mv (s := .v (.c _)) ⟨rfl, rfl⟩) ?_
    refine De2g (fun _ k_ => q_callp (chash _ _ _ _ _ _ _ _ _ _ _ hh) k_ (ha := (cac (et rfl) (sees_ch rfl rfl rfl rfl) ca0))) ?_
    refine DLwg ?_
    refine Dpg (fun _ => q_nea8 ⟨rfl, rfl⟩) ?_
    refine Dp (fun _ => q_pkf ⟨rfl, rfl⟩) ?_
    refine dend ?_
    refine cndnN (fun hc6 => ?_) ?_; rotate_left
    · simp
    refine awp_skip ?_
    refine rln ?_
    refine Mv ?_
    refine G (q_addn (y := 1) ?_)
    refine As ?_
    refine gend ?_
    exact ⟨⟨x.i + 1, (x.sent / 64), (x.sent + 1), x.l, x.wg, x.wb, by omega, x.I, x.hM, by omega, he2, by omega, by omega⟩, by show n - (x.i + 1) < n - x.i; omega, sle_ren [(0, true), (1, true), (2, true), (3, true), (4, true), (16, true), (17, true), (18, true), (19, true), (9, true), (10, true), (11, true), (12, true), (13, true), (14, true)] rfl (fun p h => absurd h (Nat.not_lt_zero _)) ⟨rs_fl (fun y => cA_cm y), rfl, rfl, rfl, rfl, rfl, trivial⟩ (Eq.symm (a := renL _ _ _) (rlT rfl sees_m (rlT rfl sees_m (rlT rfl sees_m (rlT rfl (chC_map rfl rfl rfl rfl rfl) (rlT rfl rfl (rlT rfl rfl (rlT rfl sees_m (rlB rfl (cb_map rfl) (rlB rfl kb_map (rlT rfl rfl (rlT rfl sees_m (rlB rfl (cb_map rfl) (rlB rfl kb_map (rlT rfl (rH_cm.trans rfl) (rlT rfl sees_m rl0))))))))))))))))⟩
  · skip
    refine awp_seq ?_
    refine awp_seq ?_
    refine rln ?_
    refine G (q_fap0 ?_)
    refine G (q_ldp ?_)
    refine gend ?_
    refine awp_block ?_
    refine awp_seq ?_
    refine rln ?_
    refine G (q_eqli (y := 1) ?_)
    refine As ?_
    refine gend ?_
    refine cndN (fun hc4 => ?_) ?_; rotate_left
    · omega
    refine awp_seq ?_
    refine awp_seq ?_
    refine rln ?_
    refine G (q_eqli (y := 2) ?_)
    refine As ?_
    refine gend ?_
    refine cndN (fun hc5 => ?_) ?_; rotate_left
    · omega
    refine awp_seq ?_
    refine rln ?_
    refine G (q_eqli (y := 3) ?_)
    refine As ?_
    refine gend ?_
    refine cndN (fun hc6 => ?_) ?_; rotate_left
    · omega
    refine rln ?_
    refine G (q_eqli (y := 4) ?_)
    refine As ?_
    refine gend ?_
    refine cndN (fun hc7 => ?_) ?_; rotate_left
    · omega
    refine awp_skip ?_
    refine awp_seq ?_
    refine rln ?_
    refine Mv ?_
    refine G2 (fun _ k_ => q_callp (cgreat _ _ _ _ _ _ _ _ _ _ _) k_ (ha := (cac (et rfl) (sees_ch rfl rfl rfl rfl) ca0))) ?_
    refine G (q_mv (s := .t _) ?_)
    refine G (q_ext (y := .c _) ?_)
    refine G (q_ext (y := .c _) ?_)
    refine As ?_
    refine As ?_
    refine gend ?_
    refine awp_seq ?_
    refine rln ?_
    refine Mv ?_
    refine G2 (fun _ k_ => q_callp (rgr_ a b hash x.sent x.l ha hb hh (by omega)) k_ (ha := (cac (et rfl) (sees_rH ha rfl rfl rfl rfl) ca0))) ?_
    refine G (q_mv (s := .t _) ?_)
    refine G (q_ext (y := .c _) ?_)
    refine G (q_ext (y := .c _) ?_)
    refine As ?_
    refine As ?_
    refine gend ?_
    refine awp_seq ?_
    refine rdln [1, 19] [0, 0, 0, 0, 0, 0, 1, 1, 1, 1, 1, 1, 1, 1, 1, 1, 1, 1, 1, 1, 1, 2, 2] [0, 1, 1, 1, 1, 1, 1, 1, 1, 1, 1, 1, 1, 1, 1, 1, 1, 1, 1, 2, 2, 2, 2] ?_
    refine Dp (fun _ => q_mv (s := .v (.c _)) ⟨rfl, rfl⟩) ?_
    refine De2 (fun _ k_ => q_callp (csent _ _ _ _ _ _ _ _ _ _ _) k_ (ha := (cac (et rfl) (sees_ch rfl rfl rfl rfl) ca0))) ?_
    refine Dp (fun _ => q_mv (s := .v (.c _)) ⟨rfl, rfl⟩) ?_
    refine Dp (fun _ => q_ncp ⟨rfl, rfl⟩) ?_
    refine Dp (fun _ => q_fap0 ⟨rfl, rfl⟩) ?_
    refine DLp  ?_ (hc := rH_n ha hb hh)
    refine Dp (fun _ => q_neq64 ⟨rfl, rfl⟩) ?_
    refine Dp (fun _ => q_mv (s := .v (.c _)) ⟨rfl, rfl⟩) ?_
    refine Dkfd 310 (fun hb8 => ?_) ?_; rotate_left
    · exact fun h => h rfl
    refine Dpg (fun _ => q_mv (s := .v (.c _)) ⟨rfl, rfl⟩) ?_
    refine Dpg (fun _ => q_mv (s := .v (.c _)) ⟨rfl, rfl⟩) ?_
    refine Dpg (fun _ => q_neq64 ⟨rfl, rfl⟩) ?_
    refine Dp (fun _ => q_pkf ⟨rfl, rfl⟩) ?_
    refine Dp (fun _ => q_mv (s := .v (.c _)) ⟨rfl, rfl⟩) ?_
    refine Dkfd 315 (fun hb13 => ?_) ?_; rotate_left
    · exact fun h => h rfl
    refine Dpg (fun _ => q_mv (s := .v (.c _)) ⟨rfl, rfl⟩) ?_
    refine Dpg (fun _ => q_mv (s := .v (.c _)) ⟨rfl, rfl⟩) ?_
    refine Dpg (fun _ => q_neqb ⟨rfl, rfl⟩) ?_
    refine Dp (fun _ => q_pkf ⟨rfl, rfl⟩) ?_
    refine Dp (fun _ => q_mv (s := .v (.c _)) ⟨rfl, rfl⟩) ?_
    refine Dkf 320 (fun hb18 => ?_) ?_; rotate_left
    · simp
    refine Dpg (fun _ => q_mv (s := .v (.c _)) ⟨rfl, rfl⟩) ?_
    refine De2g (fun _ k_ => q_callp (chash _ _ _ _ _ _ _ _ _ _ _ hh) k_ (ha := (cac (et rfl) (sees_ch rfl rfl rfl rfl) ca0))) ?_
    refine DLwg ?_
    refine Dpg (fun _ => q_nea8 ⟨rfl, rfl⟩) ?_
    refine Dp (fun _ => q_pkf ⟨rfl, rfl⟩) ?_
    refine dend ?_
    refine cndnN (fun hc8 => ?_) ?_; rotate_left
    · simp
    refine awp_skip ?_
    refine rln ?_
    refine Mv ?_
    refine G (q_addn (y := 1) ?_)
    refine As ?_
    refine gend ?_
    exact ⟨⟨x.i + 1, x.es, x.sent, x.l, x.wg, x.wb, by omega, x.I, x.hM, by omega, x.he, by omega, by omega⟩, by show n - (x.i + 1) < n - x.i; omega, sle_ren [(0, true), (1, true), (2, true), (3, true), (4, true), (5, true), (6, true), (7, true), (8, true), (9, true), (10, true), (11, true), (12, true), (13, true), (14, true)] rfl (fun p h => absurd h (Nat.not_lt_zero _)) ⟨rs_fl (fun y => cA_cm y), rfl, rfl, rfl, rfl, rfl, trivial⟩ (Eq.symm (a := renL _ _ _) (rlT rfl sees_m (rlT rfl sees_m (rlT rfl sees_m (rlT rfl (chC_map rfl rfl rfl rfl rfl) (rlT rfl rfl (rlT rfl rfl (rlT rfl sees_m (rlB rfl (cb_map rfl) (rlB rfl kb_map (rlT rfl rfl (rlT rfl sees_m (rlB rfl (cb_map rfl) (rlB rfl kb_map (rlT rfl (rH_cm.trans rfl) (rlT rfl sees_m rl0))))))))))))))))⟩
  · have h9 := cq.2 hc3
    have far : (8 ≤ z.b.length ∧ z.b.getD 0 0 = 0 ∧ z.b.getD 1 0 = 0 ∧ (z.b.getD 2 0 ≠ 0 ∨ z.b.getD 3 0 ≠ 0 ∨ z.b.getD 4 0 ≠ 0 ∨ z.b.getD 5 0 ≠ 0)) → (op19 b hash x.l z.b).2.2.1 ≠ 0 := fun h => op19_far h.1 h.2.1 h.2.2.1 h.2.2.2 (by omega)
    have q3 := chopen_e a b hash x.es x.sent x.l x.wg x.wb ha hb hh x.I x.hM z.b _ rfl
    have q1 := chopen_u a b hash x.es x.sent x.l x.wg x.wb ha hb hh x.I x.hM z.b _ rfl
    have q2 := rop_ a b hash x.sent x.l ha hb hh (by omega) z.b _ rfl (by omega)
    have I2 := op19_inv (r := b) (h := hash) (fr := z.b) x.I x.hM
    have nx := op19_next (r := b) (h := hash) (l := x.l) (fr := z.b)
    obtain ⟨o, ho⟩ : ∃ t, op19 b hash x.l z.b = t := ⟨_, rfl⟩
    rw [ho] at q1 q2 I2 nx q3 far
    have hL1 := rH_len (n := x.sent) (x := .slc 14 0 o.2.2.2.length 1) ha hb hh
    refine awp_seq ?_
    refine awp_seq ?_
    refine rln ?_
    refine G (q_fap0 ?_)
    refine G (q_ldp ?_)
    refine gend ?_
    refine awp_block ?_
    refine awp_seq ?_
    refine rln ?_
    refine G (q_eqli (y := 1) ?_)
    refine As ?_
    refine gend ?_
    refine cndN (fun hc4 => ?_) ?_; rotate_left
    · omega
    refine awp_seq ?_
    refine awp_seq ?_
    refine rln ?_
    refine G (q_eqli (y := 2) ?_)
    refine As ?_
    refine gend ?_
    refine cndY (fun hc5 => ?_) ?_; rotate_left
    · exact hk
    refine awp_skip ?_
    refine cndT ?_
    refine awp_seq ?_
    refine rln ?_
    refine G (q_fap0 ?_)
    refine G (q_ldp ?_)
    refine As ?_
    refine gend ?_
    refine awp_seq ?_
    refine awp_seq ?_
    refine rln ?_
    refine G (q_fap0 ?_)
    refine G (q_ldp ?_)
    refine G (q_neqi (y := 2) ?_)
    refine gend ?_
    refine cndN (fun hc6 => ?_) ?_; rotate_left
    · exact fun h => h hk
    refine awp_skip ?_
    refine awp_seq ?_
    refine awp_seq ?_
    refine rln ?_
    refine G (q_fap0 ?_)
    refine G (q_ldp ?_)
    refine G (q_eqli (y := 4) ?_)
    refine gend ?_
    refine cndN (fun hc7 => ?_) ?_; rotate_left
    · omega
    refine awp_skip ?_
    refine awp_seq ?_
    refine awp_cut (α := {t : Bool // t = true → 8 ≤ z.b.length ∧ z.b.getD 0 0 = 0 ∧ z.b.getD 1 0 = 0 ∧ (z.b.getD 2 0 ≠ 0 ∨ z.b.getD 3 0 ≠ 0 ∨ z.b.getD 4 0 ≠ 0 ∨ z.b.getD 5 0 ≠ 0)}) (fun cq => ⟨frm 327 [(3, sc (.ro n (l.flatMap cA))), (5, sc (.ptr 1 0)), (6, sc (.ptr 2 0)), (9, sc (.ptr 3 0)), (11, sc (.ptr 13 0)), (12, sc (cn x.i)), (13, sc (.ptr 15 0)), (18, sc (.ro z.b.length (u8s z.b))), (254, sc (.bool cq.1))], [some (u8s a), some (u8s b), some (u8s hash), some (chC x.es (grl x.l / 64) 5 (decide (x.es ≠ 0)) 7 9 (decide ((grl x.l / 64) ≠ 0)) 11 x.sent 4 (grl x.l) (decide (0 < (x.l : List UInt64).length)) hash), some (wcs true x.wg x.wb), some (cC (.ptr 6 0) 0), some (u8s (S0 a x.es.toNat)), cb (decide (x.es ≠ 0)) 8, kb (decide (x.es ≠ 0)) (S1 a x.es.toNat), some (cC (.ptr 10 0) 0), some (u8s (S0 b (grl x.l / 64).toNat)), cb (decide ((grl x.l / 64) ≠ 0)) 12, kb (decide ((grl x.l / 64) ≠ 0)) (S1 b (grl x.l / 64).toNat), some (rH a b hash x.sent (.slc 14 0 x.l.length 1)), some (u64s x.l), some [ci z.kind, .ro z.b.length (u8s z.b), c64 z.n, ci z.at_]]⟩) ?_ (fun cq => ?_)
    · refine rln ?_
      refine G (q_fap0 ?_)
      refine G (q_ldp ?_)
      refine G (q_eqli (y := 2) ?_)
      refine Mv ?_
      refine Aknd 214 (fun hb4 => ?_) ?_; rotate_left
      · exact hk
      refine Gg (q_mv (s := .v (.c _)) ?_)
      refine Gg (q_leno ?_)
      refine Gg (q_geqn (y := 8) ?_)
      refine G (q_pkt ?_)
      refine Mv ?_
      refine Aspd 219 (fun hb9 => ?_) (fun hb9 => ?_)
      · refine Gg (q_mv (s := .v (.c _)) ?_)
        refine Gg (q_ixo1 ?_)
        refine Gg (q_ldrd ?_)
        refine Gg (q_eql8 (y := 0) ?_)
        refine G (q_pkt ?_)
        refine Mv ?_
        refine Aspd 225 (fun hb15 => ?_) (fun hb15 => ?_)
        · refine Gg (q_mv (s := .v (.c _)) ?_)
          refine Gg (q_ixo1 ?_)
          refine Gg (q_ldrd ?_)
          refine Gg (q_eql8 (y := 0) ?_)
          refine G (q_pkt ?_)
          refine Mv ?_
          refine Aspd 231 (fun hb21 => ?_) (fun hb21 => ?_)
          · refine Gg (q_mv (s := .v (.c _)) ?_)
            refine Gg (q_ixo1 ?_)
            refine Gg (q_ldrd ?_)
            refine Gg (q_neq8 (y := 0) ?_)
            refine Gg (q_mv (s := .v (.c _)) ?_)
            refine Aspd 236 (fun hb26 => ?_) (fun hb26 => ?_)
            · refine Gn ?_
              refine Gn ?_
              refine Gn ?_
              refine Gn ?_
              refine Gg (q_pkt ?_)
              refine Gg (q_mv (s := .v (.c _)) ?_)
              refine Gn ?_
              refine Gn ?_
              refine Gn ?_
              refine Gn ?_
              refine Gg (q_pkt ?_)
              refine Gg (q_mv (s := .v (.c _)) ?_)
              refine Gn ?_
              refine Gn ?_
              refine Gn ?_
              refine Gn ?_
              refine Gg (q_pkt ?_)
              refine G (q_pkt ?_)
              refine gend ?_
              exact (by refine ⟨⟨_, ?_⟩, sle_sub ⟨rfl, rfl, rfl, rfl, rfl, rfl, rfl, rfl, rfl, trivial⟩ rfl⟩; first | exact (fun h => Bool.noConfusion h) | exact (fun hd_ => ⟨by assumption, by assumption, by assumption, by first | exact .inl (by assumption) | exact .inr (.inl (by assumption)) | exact .inr (.inr (.inl (by assumption))) | exact .inr (.inr (.inr (by assumption))) | exact .inr (.inr (.inr (of_decide_eq_true hd_)))⟩))
            refine Gg (q_mv (s := .v (.c _)) ?_)
            refine Gg (q_ixo1 ?_)
            refine Gg (q_ldrd ?_)
            refine Gg (q_neq8 (y := 0) ?_)
            refine Gg (q_pkf ?_)
            refine Gg (q_mv (s := .v (.c _)) ?_)
            refine Aspd 242 (fun hb32 => ?_) (fun hb32 => ?_)
            · refine Gn ?_
              refine Gn ?_
              refine Gn ?_
              refine Gn ?_
              refine Gg (q_pkt ?_)
              refine Gg (q_mv (s := .v (.c _)) ?_)
              refine Gn ?_
              refine Gn ?_
              refine Gn ?_
              refine Gn ?_
              refine Gg (q_pkt ?_)
              refine G (q_pkt ?_)
              refine gend ?_
              exact (by refine ⟨⟨_, ?_⟩, sle_sub ⟨rfl, rfl, rfl, rfl, rfl, rfl, rfl, rfl, rfl, trivial⟩ rfl⟩; first | exact (fun h => Bool.noConfusion h) | exact (fun hd_ => ⟨by assumption, by assumption, by assumption, by first | exact .inl (by assumption) | exact .inr (.inl (by assumption)) | exact .inr (.inr (.inl (by assumption))) | exact .inr (.inr (.inr (by assumption))) | exact .inr (.inr (.inr (of_decide_eq_true hd_)))⟩))
            refine Gg (q_mv (s := .v (.c _)) ?_)
            refine Gg (q_ixo1 ?_)
            refine Gg (q_ldrd ?_)
            refine Gg (q_neq8 (y := 0) ?_)
            refine Gg (q_pkf ?_)
            refine Gg (q_mv (s := .v (.c _)) ?_)
            refine Aspd 248 (fun hb38 => ?_) (fun hb38 => ?_)
            · refine Gn ?_
              refine Gn ?_
              refine Gn ?_
              refine Gn ?_
              refine Gg (q_pkt ?_)
              refine G (q_pkt ?_)
              refine gend ?_
              exact (by refine ⟨⟨_, ?_⟩, sle_sub ⟨rfl, rfl, rfl, rfl, rfl, rfl, rfl, rfl, rfl, trivial⟩ rfl⟩; first | exact (fun h => Bool.noConfusion h) | exact (fun hd_ => ⟨by assumption, by assumption, by assumption, by first | exact .inl (by assumption) | exact .inr (.inl (by assumption)) | exact .inr (.inr (.inl (by assumption))) | exact .inr (.inr (.inr (by assumption))) | exact .inr (.inr (.inr (of_decide_eq_true hd_)))⟩))
            refine Gg (q_mv (s := .v (.c _)) ?_)
            refine Gg (q_ixo1 ?_)
            refine Gg (q_ldrd ?_)
            refine Gg (q_neq8 (y := 0) ?_)
            refine Gg (q_pkf ?_)
            refine G (q_pkt ?_)
            refine gend ?_
            exact (by refine ⟨⟨_, ?_⟩, sle_sub ⟨rfl, rfl, rfl, rfl, rfl, rfl, rfl, rfl, rfl, trivial⟩ rfl⟩; first | exact (fun h => Bool.noConfusion h) | exact (fun hd_ => ⟨by assumption, by assumption, by assumption, by first | exact .inl (by assumption) | exact .inr (.inl (by assumption)) | exact .inr (.inr (.inl (by assumption))) | exact .inr (.inr (.inr (by assumption))) | exact .inr (.inr (.inr (of_decide_eq_true hd_)))⟩))
          refine Gn ?_
          refine Gn ?_
          refine Gn ?_
          refine Gn ?_
          refine Gn ?_
          refine Gu ?_
          refine Gu ?_
          refine Gu ?_
          refine Gu ?_
          refine Gn ?_
          refine Gn ?_
          refine Gu ?_
          refine Gu ?_
          refine Gu ?_
          refine Gu ?_
          refine Gn ?_
          refine Gn ?_
          refine Gu ?_
          refine Gu ?_
          refine Gu ?_
          refine Gu ?_
          refine Gn ?_
          refine G (q_pkf ?_)
          refine gend ?_
          exact (by refine ⟨⟨_, ?_⟩, sle_sub ⟨rfl, rfl, rfl, rfl, rfl, rfl, rfl, rfl, rfl, trivial⟩ rfl⟩; first | exact (fun h => Bool.noConfusion h) | exact (fun hd_ => ⟨by assumption, by assumption, by assumption, by first | exact .inl (by assumption) | exact .inr (.inl (by assumption)) | exact .inr (.inr (.inl (by assumption))) | exact .inr (.inr (.inr (by assumption))) | exact .inr (.inr (.inr (of_decide_eq_true hd_)))⟩))
        refine Gn ?_
        refine Gn ?_
        refine Gn ?_
        refine Gn ?_
        refine G (q_pkf ?_)
        refine Mv ?_
        refine Gn ?_
        refine Gn ?_
        refine Gn ?_
        refine Gn ?_
        refine Gn ?_
        refine Gu ?_
        refine Gu ?_
        refine Gu ?_
        refine Gu ?_
        refine Gn ?_
        refine Gn ?_
        refine Gu ?_
        refine Gu ?_
        refine Gu ?_
        refine Gu ?_
        refine Gn ?_
        refine Gn ?_
        refine Gu ?_
        refine Gu ?_
        refine Gu ?_
        refine Gu ?_
        refine Gn ?_
        refine G (q_pkf ?_)
        refine gend ?_
        exact (by refine ⟨⟨_, ?_⟩, sle_sub ⟨rfl, rfl, rfl, rfl, rfl, rfl, rfl, rfl, rfl, trivial⟩ rfl⟩; first | exact (fun h => Bool.noConfusion h) | exact (fun hd_ => ⟨by assumption, by assumption, by assumption, by first | exact .inl (by assumption) | exact .inr (.inl (by assumption)) | exact .inr (.inr (.inl (by assumption))) | exact .inr (.inr (.inr (by assumption))) | exact .inr (.inr (.inr (of_decide_eq_true hd_)))⟩))
      refine Gn ?_
      refine Gn ?_
      refine Gn ?_
      refine Gn ?_
      refine G (q_pkf ?_)
      refine Mv ?_
      refine Gn ?_
      refine Gn ?_
      refine Gn ?_
      refine Gn ?_
      refine G (q_pkf ?_)
      refine Mv ?_
      refine Gn ?_
      refine Gn ?_
      refine Gn ?_
      refine Gn ?_
      refine Gn ?_
      refine Gu ?_
      refine Gu ?_
      refine Gu ?_
      refine Gu ?_
      refine Gn ?_
      refine Gn ?_
      refine Gu ?_
      refine Gu ?_
      refine Gu ?_
      refine Gu ?_
      refine Gn ?_
      refine Gn ?_
      refine Gu ?_
      refine Gu ?_
      refine Gu ?_
      refine Gu ?_
      refine Gn ?_
      refine G (q_pkf ?_)
      refine gend ?_
      exact (by refine ⟨⟨_, ?_⟩, sle_sub ⟨rfl, rfl, rfl, rfl, rfl, rfl, rfl, rfl, rfl, trivial⟩ rfl⟩; first | exact (fun h => Bool.noConfusion h) | exact (fun hd_ => ⟨by assumption, by assumption, by assumption, by first | exact .inl (by assumption) | exact .inr (.inl (by assumption)) | exact .inr (.inr (.inl (by assumption))) | exact .inr (.inr (.inr (by assumption))) | exact .inr (.inr (.inr (of_decide_eq_true hd_)))⟩))
    refine cndb (fun hc8 => ?_) (fun hc8 => ?_)
    · refine awp_seq ?_
      refine rln ?_
      refine Mv ?_
      refine Mv ?_
      refine G2 (fun _ k_ => q_callv [3, 4, 5, 6, 7, 8, 9, 10, 11, 12] [some (chC x.es (grl x.l / 64) 2 (decide (x.es ≠ 0)) 4 6 (decide ((grl x.l / 64) ≠ 0)) 8 x.sent 1 (grl x.l) (decide (0 < (x.l : List UInt64).length)) hash), some (wcs true x.wg x.wb), some (cC (.ptr 3 0) 0), some (u8s (S0 a x.es.toNat)), cb (decide (x.es ≠ 0)) 5, kb (decide (x.es ≠ 0)) (S1 a x.es.toNat), some (cC (.ptr 7 0) 0), some (u8s (S0 b (grl x.l / 64).toNat)), cb (decide ((grl x.l / 64) ≠ 0)) 9, kb (decide ((grl x.l / 64) ≠ 0)) (S1 b (grl x.l / 64).toNat)] [] (q3 (far (cq.2 hc8))) k_ (ha := (cac (et rfl) rfl (cac (et rfl) sees_ro ca0))) (e2 := (pl1 rfl (chC_map rfl rfl rfl rfl rfl) (pl1 rfl rfl (pl1 rfl rfl (pl1 rfl sees_m (plb rfl (cb_map rfl) (plb rfl kb_map (pl1 rfl rfl (pl1 rfl sees_m (plb rfl (cb_map rfl) (plb rfl kb_map pl0))))))))))) (eL := (ml1 (chC_map rfl rfl rfl rfl rfl) (ml1 rfl (ml1 rfl (ml1 sees_m (mlb (cb_map rfl) (mlb kb_map (ml1 rfl (ml1 sees_m (mlb (cb_map rfl) (mlb kb_map ml0))))))))))) (eM := ml0) (e3 := (vt3 rfl rfl rfl))) ?_
      refine G (q_mv (s := .t _) ?_)
      refine G (q_ext (y := .c _) ?_)
      refine G (q_ext (y := .c _) ?_)
      refine G (q_ext (y := .c _) ?_)
      refine As ?_
      refine As ?_
      refine As ?_
      refine gend ?_
      refine awp_seq ?_
      refine awp_seq ?_
      refine rln ?_
      refine Mv ?_
      refine G (q_eqln (y := 0) ?_)
      refine gend ?_
      refine cndN (fun hc9 => ?_) ?_; rotate_left
      · exact far (cq.2 hc8)
      refine awp_skip ?_
      refine awp_exit ?_
      refine rln ?_
      refine Mv ?_
      refine G (q_addn (y := 1) ?_)
      refine As ?_
      refine gend ?_
      exact ⟨⟨x.i + 1, x.es, x.sent, x.l, x.wg, x.wb, by omega, x.I, x.hM, by omega, x.he, by omega, by omega⟩, by show n - (x.i + 1) < n - x.i; omega, sle_ren [(0, true), (1, true), (2, true), (3, true), (4, true), (5, true), (6, true), (7, true), (8, true), (9, true), (10, true), (11, true), (12, true), (13, true), (14, true)] rfl (fun p h => absurd h (Nat.not_lt_zero _)) ⟨rs_fl (fun y => cA_cm y), rfl, rfl, rfl, rfl, rfl, trivial⟩ (Eq.symm (a := renL _ _ _) (rlT rfl sees_m (rlT rfl sees_m (rlT rfl sees_m (rlT rfl (chC_map rfl rfl rfl rfl rfl) (rlT rfl rfl (rlT rfl rfl (rlT rfl sees_m (rlB rfl (cb_map rfl) (rlB rfl kb_map (rlT rfl rfl (rlT rfl sees_m (rlB rfl (cb_map rfl) (rlB rfl kb_map (rlT rfl (rH_cm.trans rfl) (rlT rfl sees_m rl0))))))))))))))))⟩
    refine awp_skip ?_
    refine awp_seq ?_
    refine rln ?_
    refine Mv ?_
    refine Mv ?_
    refine G2 (fun _ k_ => q_callv [3, 4, 5, 6, 7, 8, 9, 10, 11, 12] [some (chC x.es (grl o.2.2.2 / 64) 2 (decide (x.es ≠ 0)) 4 10 (decide ((grl o.2.2.2 / 64) ≠ 0)) 12 x.sent 1 (grl o.2.2.2) (decide (0 < (o.2.2.2 : List UInt64).length)) hash), some (wcs true (wn o x.wg x.wb).1 (wn o x.wg x.wb).2), some (cC (.ptr 3 0) 0), some (u8s (S0 a x.es.toNat)), cb (decide (x.es ≠ 0)) 5, kb (decide (x.es ≠ 0)) (S1 a x.es.toNat), none, none, none, none] [some (cC (.ptr 11 0) 0), some (u8s (S0 b (grl o.2.2.2 / 64).toNat)), cb (decide ((grl o.2.2.2 / 64) ≠ 0)) 13, kb (decide ((grl o.2.2.2 / 64) ≠ 0)) (S1 b (grl o.2.2.2 / 64).toNat), some (u8s o.1)] q1 k_ (ha := (cac (et rfl) rfl (cac (et rfl) sees_ro ca0))) (e2 := (pl1 rfl (chC_map rfl rfl rfl rfl rfl) (pl1 rfl rfl (pl1 rfl rfl (pl1 rfl sees_m (plb rfl (cb_map rfl) (plb rfl kb_map (pl1 rfl rfl (pl1 rfl sees_m (plb rfl (cb_map rfl) (plb rfl kb_map pl0))))))))))) (eL := (ml1 (chC_map rfl rfl rfl rfl rfl) (ml1 rfl (ml1 rfl (ml1 sees_m (mlb (cb_map rfl) (mlb kb_map (mln (mln (mln (mln ml0))))))))))) (eM := (ml1 rfl (ml1 sees_m (mlb (cb_map rfl) (mlb kb_map (ml1 sees_m ml0)))))) (e3 := (vt3 rfl rfl rfl))) ?_
    refine G (q_mv (s := .t _) ?_)
    refine G (q_ext (y := .c _) ?_)
    refine G (q_ext (y := .c _) ?_)
    refine G (q_ext (y := .c _) ?_)
    refine As ?_
    refine As ?_
    refine As ?_
    refine gend ?_
    refine awp_seq ?_
    refine rln ?_
    refine Mv ?_
    refine Mv ?_
    refine G2 (fun _ k_ => q_callv [13, 14] [some (rH a b hash x.sent (.slc 2 0 o.2.2.2.length 1)), none] [some (u64s o.2.2.2), some (u8s o.1)] q2 k_ (ha := (cac (et rfl) rfl (cac (et rfl) sees_ro ca0))) (e2 := (pl1 rfl (rH_cm.trans rfl) (pl1 rfl sees_m pl0))) (eL := (ml1 (rH_cm.trans rfl) (mln ml0))) (eM := (ml1 sees_m (ml1 sees_m ml0))) (e3 := (vt3 rfl rfl rfl))) ?_
    refine G (q_mv (s := .t _) ?_)
    refine G (q_ext (y := .c _) ?_)
    refine G (q_ext (y := .c _) ?_)
    refine G (q_ext (y := .c _) ?_)
    refine As ?_
    refine As ?_
    refine As ?_
    refine gend ?_
    refine awp_seq ?_
    refine rln ?_
    refine Mv ?_
    refine Mv ?_
    refine G (q_neqn ?_)
    refine Mv ?_
    refine Akfd 281 (fun hb4 => ?_) ?_; rotate_left
    · exact fun h => h rfl
    refine Gg (q_mv (s := .v (.c _)) ?_)
    refine Gg (q_mv (s := .v (.c _)) ?_)
    refine Gg (q_neq64 ?_)
    refine G (q_pkf ?_)
    refine Mv ?_
    refine Akfd 286 (fun hb9 => ?_) ?_; rotate_left
    · exact fun h => h rfl
    refine Gg (q_mv (s := .v (.c _)) ?_)
    refine Gg (q_csl ?_)
    refine Gg (q_mv (s := .v (.c _)) ?_)
    refine Gg (q_csl ?_)
    refine Gg (q_neqs ?_)
    refine G (q_pkf ?_)
    refine gend ?_
    refine cndnN (fun hc10 => ?_) ?_; rotate_left
    · simp
    refine awp_skip ?_
    refine awp_seq ?_
    refine rln ?_
    refine Mv ?_
    refine G2 (fun _ k_ => q_callp (cgreat _ _ _ _ _ _ _ _ _ _ _) k_ (ha := (cac (et rfl) (sees_ch rfl rfl rfl rfl) ca0))) ?_
    refine G (q_mv (s := .t _) ?_)
    refine G (q_ext (y := .c _) ?_)
    refine G (q_ext (y := .c _) ?_)
    refine As ?_
    refine As ?_
    refine gend ?_
    refine awp_seq ?_
    refine rln ?_
    refine Mv ?_
    refine G2 (fun _ k_ => q_callp (rgr_ a b hash x.sent o.2.2.2 ha hb hh (by omega)) k_ (ha := (cac (et rfl) (sees_rH ha rfl rfl rfl rfl) ca0))) ?_
    refine G (q_mv (s := .t _) ?_)
    refine G (q_ext (y := .c _) ?_)
    refine G (q_ext (y := .c _) ?_)
    refine As ?_
    refine As ?_
    refine gend ?_
    refine awp_seq ?_
    refine rdln [1, 19] [0, 0, 0, 0, 0, 0, 1, 1, 1, 1, 1, 1, 1, 1, 1, 1, 1, 1, 1, 1, 1, 2, 2] [0, 1, 1, 1, 1, 1, 1, 1, 1, 1, 1, 1, 1, 1, 1, 1, 1, 1, 1, 2, 2, 2, 2] ?_
    refine Dp (fun _ => q_mv (s := .v (.c _)) ⟨rfl, rfl⟩) ?_
    refine De2 (fun _ k_ => q_callp (csent _ _ _ _ _ _ _ _ _ _ _) k_ (ha := (cac (et rfl) (sees_ch rfl rfl rfl rfl) ca0))) ?_
    refine Dp (fun _ => q_mv (s := .v (.c _)) ⟨rfl, rfl⟩) ?_
    refine Dp (fun _ => q_ncp ⟨rfl, rfl⟩) ?_
    refine Dp (fun _ => q_fap0 ⟨rfl, rfl⟩) ?_
    refine DLp  ?_ (hc := rH_n ha hb hh)
    refine Dp (fun _ => q_neq64 ⟨rfl, rfl⟩) ?_
    refine Dp (fun _ => q_mv (s := .v (.c _)) ⟨rfl, rfl⟩) ?_
    refine Dkfd 310 (fun hb8 => ?_) ?_; rotate_left
    · exact fun h => h rfl
    refine Dpg (fun _ => q_mv (s := .v (.c _)) ⟨rfl, rfl⟩) ?_
    refine Dpg (fun _ => q_mv (s := .v (.c _)) ⟨rfl, rfl⟩) ?_
    refine Dpg (fun _ => q_neq64 ⟨rfl, rfl⟩) ?_
    refine Dp (fun _ => q_pkf ⟨rfl, rfl⟩) ?_
    refine Dp (fun _ => q_mv (s := .v (.c _)) ⟨rfl, rfl⟩) ?_
    refine Dkfd 315 (fun hb13 => ?_) ?_; rotate_left
    · exact fun h => h rfl
    refine Dpg (fun _ => q_mv (s := .v (.c _)) ⟨rfl, rfl⟩) ?_
    refine Dpg (fun _ => q_mv (s := .v (.c _)) ⟨rfl, rfl⟩) ?_
    refine Dpg (fun _ => q_neqb ⟨rfl, rfl⟩) ?_
    refine Dp (fun _ => q_pkf ⟨rfl, rfl⟩) ?_
    refine Dp (fun _ => q_mv (s := .v (.c _)) ⟨rfl, rfl⟩) ?_
    refine Dkf 320 (fun hb18 => ?_) ?_; rotate_left
    · simp
    refine Dpg (fun _ => q_mv (s := .v (.c _)) ⟨rfl, rfl⟩) ?_
    refine De2g (fun _ k_ => q_callp (chash _ _ _ _ _ _ _ _ _ _ _ hh) k_ (ha := (cac (et rfl) (sees_ch rfl rfl rfl rfl) ca0))) ?_
    refine DLwg ?_
    refine Dpg (fun _ => q_nea8 ⟨rfl, rfl⟩) ?_
    refine Dp (fun _ => q_pkf ⟨rfl, rfl⟩) ?_
    refine dend ?_
    refine cndnN (fun hc11 => ?_) ?_; rotate_left
    · simp
    refine awp_skip ?_
    refine rln ?_
    refine Mv ?_
    refine G (q_addn (y := 1) ?_)
    refine As ?_
    refine gend ?_
    exact ⟨⟨x.i + 1, x.es, x.sent, o.2.2.2, (wn o x.wg x.wb).1, (wn o x.wg x.wb).2, by omega, I2.1, I2.2, by omega, x.he, by omega, by omega⟩, by show n - (x.i + 1) < n - x.i; omega, sle_ren [(0, true), (1, true), (2, true), (3, true), (4, true), (5, true), (6, true), (7, true), (8, true), (16, true), (17, true), (18, true), (19, true), (13, true), (21, true)] rfl (fun p h => absurd h (Nat.not_lt_zero _)) ⟨rs_fl (fun y => cA_cm y), rfl, rfl, rfl, rfl, rfl, trivial⟩ (Eq.symm (a := renL _ _ _) (rlT rfl sees_m (rlT rfl sees_m (rlT rfl sees_m (rlT rfl (chC_map rfl rfl rfl rfl rfl) (rlT rfl rfl (rlT rfl rfl (rlT rfl sees_m (rlB rfl (cb_map rfl) (rlB rfl kb_map (rlT rfl rfl (rlT rfl sees_m (rlB rfl (cb_map rfl) (rlB rfl kb_map (rlT rfl (rH_cm.trans rfl) (rlT rfl sees_m rl0))))))))))))))))⟩
  · have h9 := cq.2 hc3
    have hb9 : z.b.length ≤ 200 := by omega
    have g17 := rframe_ b hash z.b z.n _ hb hh rfl (by omega)
    have hFl := fr19_len (s := b) (h := hash) (n := z.n) (c := z.b)
    obtain ⟨F, hF⟩ : ∃ t, fr19 b hash z.n z.b = t := ⟨_, rfl⟩
    rw [hF] at g17 hFl
    have hF1 : F.length = (8 + (z.b.length + 16)) := hFl
    have hFR : F.length = (8 + (z.b.length + 16)) := hF1
    have q1 := chopen_u a b hash x.es x.sent x.l x.wg x.wb ha hb hh x.I x.hM F _ hFR
    have q2 := rop_ a b hash x.sent x.l ha hb hh (by omega) F _ hFR (by omega)
    have I2 := op19_inv (r := b) (h := hash) (fr := F) x.I x.hM
    have nx := op19_next (r := b) (h := hash) (l := x.l) (fr := F)
    obtain ⟨o, ho⟩ : ∃ t, op19 b hash x.l F = t := ⟨_, rfl⟩
    rw [ho] at q1 q2 I2 nx
    have hL1 := rH_len (n := x.sent) (x := .slc 14 0 o.2.2.2.length 1) ha hb hh
    refine awp_seq ?_
    refine awp_seq ?_
    refine rln ?_
    refine G (q_fap0 ?_)
    refine G (q_ldp ?_)
    refine gend ?_
    refine awp_block ?_
    refine awp_seq ?_
    refine rln ?_
    refine G (q_eqli (y := 1) ?_)
    refine As ?_
    refine gend ?_
    refine cndN (fun hc4 => ?_) ?_; rotate_left
    · omega
    refine awp_seq ?_
    refine awp_seq ?_
    refine rln ?_
    refine G (q_eqli (y := 2) ?_)
    refine As ?_
    refine gend ?_
    refine cndN (fun hc5 => ?_) ?_; rotate_left
    · omega
    refine awp_seq ?_
    refine rln ?_
    refine G (q_eqli (y := 3) ?_)
    refine As ?_
    refine gend ?_
    refine cndY (fun hc6 => ?_) ?_; rotate_left
    · omega
    refine awp_skip ?_
    refine cndT ?_
    refine awp_seq ?_
    refine rln ?_
    refine G (q_fap0 ?_)
    refine G (q_ldp ?_)
    refine As ?_
    refine gend ?_
    refine awp_seq ?_
    refine awp_seq ?_
    refine rln ?_
    refine G (q_fap0 ?_)
    refine G (q_ldp ?_)
    refine G (q_neqi (y := 2) ?_)
    refine gend ?_
    refine cndY (fun hc7 => ?_) ?_; rotate_left
    · omega
    refine awp_seq ?_
    refine rln ?_
    refine G (q_fap0 ?_)
    refine G (q_ldp ?_)
    refine As ?_
    refine gend ?_
    refine awp_seq ?_
    refine rln ?_
    refine Mv ?_
    refine G (q_geq64 (y := 281474976710656) ?_)
    refine gend ?_
    refine cndN (fun hc8 => ?_) ?_; rotate_left
    · exact hk.2
    refine rln ?_
    refine G (q_ldw ?_)
    refine G (q_ldw ?_)
    refine Mv ?_
    refine G (q_fap0 ?_)
    refine G (q_ldp ?_)
    refine G2 (fun _ k_ => q_calln g17 k_ (ha := (caa (et rfl) sees_m (caa (et rfl) sees_m (cac (et rfl) cm_int (cac (et rfl) sees_ro ca0)))))) ?_
    refine As ?_
    refine gend ?_
    refine awp_seq ?_
    refine awp_seq ?_
    refine rln ?_
    refine G (q_fap0 ?_)
    refine G (q_ldp ?_)
    refine G (q_eqli (y := 4) ?_)
    refine gend ?_
    refine cndN (fun hc9 => ?_) ?_; rotate_left
    · omega
    refine awp_skip ?_
    refine awp_seq ?_
    refine awp_seq ?_
    refine rln ?_
    refine G (q_fap0 ?_)
    refine G (q_ldp ?_)
    refine G (q_eqli (y := 2) ?_)
    refine Mv ?_
    refine Akfd 214 (fun hb4 => ?_) ?_; rotate_left
    · omega
    refine Gn ?_
    refine Gn ?_
    refine Gn ?_
    refine G (q_pkf ?_)
    refine Mv ?_
    refine Gn ?_
    refine Gn ?_
    refine Gn ?_
    refine Gn ?_
    refine G (q_pkf ?_)
    refine Mv ?_
    refine Gn ?_
    refine Gn ?_
    refine Gn ?_
    refine Gn ?_
    refine G (q_pkf ?_)
    refine Mv ?_
    refine Gn ?_
    refine Gn ?_
    refine Gn ?_
    refine Gn ?_
    refine Gn ?_
    refine Gu ?_
    refine Gu ?_
    refine Gu ?_
    refine Gu ?_
    refine Gn ?_
    refine Gn ?_
    refine Gu ?_
    refine Gu ?_
    refine Gu ?_
    refine Gu ?_
    refine Gn ?_
    refine Gn ?_
    refine Gu ?_
    refine Gu ?_
    refine Gu ?_
    refine Gu ?_
    refine Gn ?_
    refine G (q_pkf ?_)
    refine gend ?_
    refine cndF ?_
    refine awp_skip ?_
    refine awp_seq ?_
    refine rln ?_
    refine Mv ?_
    refine Mv ?_
    refine G2 (fun _ k_ => q_callv [3, 4, 5, 6, 7, 8, 9, 10, 11, 12] [some (chC x.es (grl o.2.2.2 / 64) 2 (decide (x.es ≠ 0)) 4 10 (decide ((grl o.2.2.2 / 64) ≠ 0)) 12 x.sent 1 (grl o.2.2.2) (decide (0 < (o.2.2.2 : List UInt64).length)) hash), some (wcs true (wn o x.wg x.wb).1 (wn o x.wg x.wb).2), some (cC (.ptr 3 0) 0), some (u8s (S0 a x.es.toNat)), cb (decide (x.es ≠ 0)) 5, kb (decide (x.es ≠ 0)) (S1 a x.es.toNat), none, none, none, none] [some (cC (.ptr 11 0) 0), some (u8s (S0 b (grl o.2.2.2 / 64).toNat)), cb (decide ((grl o.2.2.2 / 64) ≠ 0)) 13, kb (decide ((grl o.2.2.2 / 64) ≠ 0)) (S1 b (grl o.2.2.2 / 64).toNat), some (u8s o.1)] q1 k_ (ha := (cac (et rfl) rfl (cac (et rfl) (sees_slc rfl rfl (cut_h hFR)) ca0))) (e2 := (pl1 rfl (chC_map rfl rfl rfl rfl rfl) (pl1 rfl rfl (pl1 rfl rfl (pl1 rfl sees_m (plb rfl (cb_map rfl) (plb rfl kb_map (pl1 rfl rfl (pl1 rfl sees_m (plb rfl (cb_map rfl) (plb rfl kb_map pl0))))))))))) (eL := (ml1 (chC_map rfl rfl rfl rfl rfl) (ml1 rfl (ml1 rfl (ml1 sees_m (mlb (cb_map rfl) (mlb kb_map (mln (mln (mln (mln ml0))))))))))) (eM := (ml1 rfl (ml1 sees_m (mlb (cb_map rfl) (mlb kb_map (ml1 sees_m ml0)))))) (e3 := (vt3 rfl rfl rfl))) ?_
    refine G (q_mv (s := .t _) ?_)
    refine G (q_ext (y := .c _) ?_)
    refine G (q_ext (y := .c _) ?_)
    refine G (q_ext (y := .c _) ?_)
    refine As ?_
    refine As ?_
    refine As ?_
    refine gend ?_
    refine awp_seq ?_
    refine rln ?_
    refine Mv ?_
    refine Mv ?_
    refine G2 (fun _ k_ => q_callv [13, 14] [some (rH a b hash x.sent (.slc 2 0 o.2.2.2.length 1)), none] [some (u64s o.2.2.2), some (u8s o.1)] q2 k_ (ha := (cac (et rfl) rfl (cac (et rfl) (sees_slc rfl rfl (cut_h hFR)) ca0))) (e2 := (pl1 rfl (rH_cm.trans rfl) (pl1 rfl sees_m pl0))) (eL := (ml1 (rH_cm.trans rfl) (mln ml0))) (eM := (ml1 sees_m (ml1 sees_m ml0))) (e3 := (vt3 rfl rfl rfl))) ?_
    refine G (q_mv (s := .t _) ?_)
    refine G (q_ext (y := .c _) ?_)
    refine G (q_ext (y := .c _) ?_)
    refine G (q_ext (y := .c _) ?_)
    refine As ?_
    refine As ?_
    refine As ?_
    refine gend ?_
    refine awp_seq ?_
    refine rln ?_
    refine Mv ?_
    refine Mv ?_
    refine G (q_neqn ?_)
    refine Mv ?_
    refine Akfd 281 (fun hb4 => ?_) ?_; rotate_left
    · exact fun h => h rfl
    refine Gg (q_mv (s := .v (.c _)) ?_)
    refine Gg (q_mv (s := .v (.c _)) ?_)
    refine Gg (q_neq64 ?_)
    refine G (q_pkf ?_)
    refine Mv ?_
    refine Akfd 286 (fun hb9 => ?_) ?_; rotate_left
    · exact fun h => h rfl
    refine Gg (q_mv (s := .v (.c _)) ?_)
    refine Gg (q_csl ?_)
    refine Gg (q_mv (s := .v (.c _)) ?_)
    refine Gg (q_csl ?_)
    refine Gg (q_neqs ?_)
    refine G (q_pkf ?_)
    refine gend ?_
    refine cndnN (fun hc10 => ?_) ?_; rotate_left
    · simp
    refine awp_skip ?_
    refine awp_seq ?_
    refine rln ?_
    refine Mv ?_
    refine G2 (fun _ k_ => q_callp (cgreat _ _ _ _ _ _ _ _ _ _ _) k_ (ha := (cac (et rfl) (sees_ch rfl rfl rfl rfl) ca0))) ?_
    refine G (q_mv (s := .t _) ?_)
    refine G (q_ext (y := .c _) ?_)
    refine G (q_ext (y := .c _) ?_)
    refine As ?_
    refine As ?_
    refine gend ?_
    refine awp_seq ?_
    refine rln ?_
    refine Mv ?_
    refine G2 (fun _ k_ => q_callp (rgr_ a b hash x.sent o.2.2.2 ha hb hh (by omega)) k_ (ha := (cac (et rfl) (sees_rH ha rfl rfl rfl rfl) ca0))) ?_
    refine G (q_mv (s := .t _) ?_)
    refine G (q_ext (y := .c _) ?_)
    refine G (q_ext (y := .c _) ?_)
    refine As ?_
    refine As ?_
    refine gend ?_
    refine awp_seq ?_
    refine rdln [1, 19] [0, 0, 0, 0, 0, 0, 1, 1, 1, 1, 1, 1, 1, 1, 1, 1, 1, 1, 1, 1, 1, 2, 2] [0, 1, 1, 1, 1, 1, 1, 1, 1, 1, 1, 1, 1, 1, 1, 1, 1, 1, 1, 2, 2, 2, 2] ?_
    refine Dp (fun _ => q_mv (s := .v (.c _)) ⟨rfl, rfl⟩) ?_
    refine De2 (fun _ k_ => q_callp (csent _ _ _ _ _ _ _ _ _ _ _) k_ (ha := (cac (et rfl) (sees_ch rfl rfl rfl rfl) ca0))) ?_
    refine Dp (fun _ => q_mv (s := .v (.c _)) ⟨rfl, rfl⟩) ?_
    refine Dp (fun _ => q_ncp ⟨rfl, rfl⟩) ?_
    refine Dp (fun _ => q_fap0 ⟨rfl, rfl⟩) ?_
    refine DLp  ?_ (hc := rH_n ha hb hh)
    refine Dp (fun _ => q_neq64 ⟨rfl, rfl⟩) ?_
    refine Dp (fun _ => q_mv (s := .v (.c _)) ⟨rfl, rfl⟩) ?_
    refine Dkfd 310 (fun hb8 => ?_) ?_; rotate_left
    · exact fun h => h rfl
    refine Dpg (fun _ => q_mv (s := .v (.c _)) ⟨rfl, rfl⟩) ?_
    refine Dpg (fun _ => q_mv (s := .v (.c _)) ⟨rfl, rfl⟩) ?_
    refine Dpg (fun _ => q_neq64 ⟨rfl, rfl⟩) ?_
    refine Dp (fun _ => q_pkf ⟨rfl, rfl⟩) ?_
    refine Dp (fun _ => q_mv (s := .v (.c _)) ⟨rfl, rfl⟩) ?_
    refine Dkfd 315 (fun hb13 => ?_) ?_; rotate_left
    · exact fun h => h rfl
    refine Dpg (fun _ => q_mv (s := .v (.c _)) ⟨rfl, rfl⟩) ?_
    refine Dpg (fun _ => q_mv (s := .v (.c _)) ⟨rfl, rfl⟩) ?_
    refine Dpg (fun _ => q_neqb ⟨rfl, rfl⟩) ?_
    refine Dp (fun _ => q_pkf ⟨rfl, rfl⟩) ?_
    refine Dp (fun _ => q_mv (s := .v (.c _)) ⟨rfl, rfl⟩) ?_
    refine Dkf 320 (fun hb18 => ?_) ?_; rotate_left
    · simp
    refine Dpg (fun _ => q_mv (s := .v (.c _)) ⟨rfl, rfl⟩) ?_
    refine De2g (fun _ k_ => q_callp (chash _ _ _ _ _ _ _ _ _ _ _ hh) k_ (ha := (cac (et rfl) (sees_ch rfl rfl rfl rfl) ca0))) ?_
    refine DLwg ?_
    refine Dpg (fun _ => q_nea8 ⟨rfl, rfl⟩) ?_
    refine Dp (fun _ => q_pkf ⟨rfl, rfl⟩) ?_
    refine dend ?_
    refine cndnN (fun hc11 => ?_) ?_; rotate_left
    · simp
    refine awp_skip ?_
    refine rln ?_
    refine Mv ?_
    refine G (q_addn (y := 1) ?_)
    refine As ?_
    refine gend ?_
    exact ⟨⟨x.i + 1, x.es, x.sent, o.2.2.2, (wn o x.wg x.wb).1, (wn o x.wg x.wb).2, by omega, I2.1, I2.2, by omega, x.he, by omega, by omega⟩, by show n - (x.i + 1) < n - x.i; omega, sle_ren [(0, true), (1, true), (2, true), (3, true), (4, true), (5, true), (6, true), (7, true), (8, true), (17, true), (18, true), (19, true), (20, true), (13, true), (22, true)] rfl (fun p h => absurd h (Nat.not_lt_zero _)) ⟨rs_fl (fun y => cA_cm y), rfl, rfl, rfl, rfl, rfl, trivial⟩ (Eq.symm (a := renL _ _ _) (rlT rfl sees_m (rlT rfl sees_m (rlT rfl sees_m (rlT rfl (chC_map rfl rfl rfl rfl rfl) (rlT rfl rfl (rlT rfl rfl (rlT rfl sees_m (rlB rfl (cb_map rfl) (rlB rfl kb_map (rlT rfl rfl (rlT rfl sees_m (rlB rfl (cb_map rfl) (rlB rfl kb_map (rlT rfl (rH_cm.trans rfl) (rlT rfl sees_m rl0))))))))))))))))⟩
  · have h9 := cq.2 hc3
    have hb9 : z.b.length ≤ 200 := by omega
    have g17 := rframe_ b hash z.b 0 _ hb hh rfl (by omega)
    have hFl := fr19_len (s := b) (h := hash) (n := 0) (c := z.b)
    obtain ⟨F, hF⟩ : ∃ t, fr19 b hash 0 z.b = t := ⟨_, rfl⟩
    rw [hF] at g17 hFl
    have hF1 : (F.set 0 255).length = (8 + (z.b.length + 16)) := set_len hFl
    have hFR : (F.set 0 255).length = (8 + (z.b.length + 16)) := hF1
    have q1 := chopen_u a b hash x.es x.sent x.l x.wg x.wb ha hb hh x.I x.hM (F.set 0 255) _ hFR
    have q2 := rop_ a b hash x.sent x.l ha hb hh (by omega) (F.set 0 255) _ hFR (by omega)
    have I2 := op19_inv (r := b) (h := hash) (fr := (F.set 0 255)) x.I x.hM
    have nx := op19_next (r := b) (h := hash) (l := x.l) (fr := (F.set 0 255))
    obtain ⟨o, ho⟩ : ∃ t, op19 b hash x.l (F.set 0 255) = t := ⟨_, rfl⟩
    rw [ho] at q1 q2 I2 nx
    have hL1 := rH_len (n := x.sent) (x := .slc 14 0 o.2.2.2.length 1) ha hb hh
    refine awp_seq ?_
    refine awp_seq ?_
    refine rln ?_
    refine G (q_fap0 ?_)
    refine G (q_ldp ?_)
    refine gend ?_
    refine awp_block ?_
    refine awp_seq ?_
    refine rln ?_
    refine G (q_eqli (y := 1) ?_)
    refine As ?_
    refine gend ?_
    refine cndN (fun hc4 => ?_) ?_; rotate_left
    · omega
    refine awp_seq ?_
    refine awp_seq ?_
    refine rln ?_
    refine G (q_eqli (y := 2) ?_)
    refine As ?_
    refine gend ?_
    refine cndN (fun hc5 => ?_) ?_; rotate_left
    · omega
    refine awp_seq ?_
    refine rln ?_
    refine G (q_eqli (y := 3) ?_)
    refine As ?_
    refine gend ?_
    refine cndY (fun hc6 => ?_) ?_; rotate_left
    · omega
    refine awp_skip ?_
    refine cndT ?_
    refine awp_seq ?_
    refine rln ?_
    refine G (q_fap0 ?_)
    refine G (q_ldp ?_)
    refine As ?_
    refine gend ?_
    refine awp_seq ?_
    refine awp_seq ?_
    refine rln ?_
    refine G (q_fap0 ?_)
    refine G (q_ldp ?_)
    refine G (q_neqi (y := 2) ?_)
    refine gend ?_
    refine cndY (fun hc7 => ?_) ?_; rotate_left
    · omega
    refine awp_seq ?_
    refine rln ?_
    refine G (q_fap0 ?_)
    refine G (q_ldp ?_)
    refine As ?_
    refine gend ?_
    refine awp_seq ?_
    refine rln ?_
    refine Mv ?_
    refine G (q_geq64 (y := 281474976710656) ?_)
    refine gend ?_
    refine cndY (fun hc8 => ?_) ?_; rotate_left
    · exact hk.2
    refine awp_seq ?_
    refine rln ?_
    refine G (q_ldw ?_)
    refine G (q_ldw ?_)
    refine G (q_fap0 ?_)
    refine G (q_ldp ?_)
    refine G2 (fun _ k_ => q_calln g17 k_ (ha := (caa (et rfl) sees_m (caa (et rfl) sees_m (cac rfl cm_int (cac (et rfl) sees_ro ca0)))))) ?_
    refine As ?_
    refine gend ?_
    refine rln ?_
    refine Mv ?_
    refine G (q_ixs1 ?_)
    refine G20 (fun _ k_ => q_stm (x := (255 : UInt8)) k_) ?_
    refine gend ?_
    refine awp_seq ?_
    refine awp_seq ?_
    refine rln ?_
    refine G (q_fap0 ?_)
    refine G (q_ldp ?_)
    refine G (q_eqli (y := 4) ?_)
    refine gend ?_
    refine cndN (fun hc9 => ?_) ?_; rotate_left
    · omega
    refine awp_skip ?_
    refine awp_seq ?_
    refine awp_seq ?_
    refine rln ?_
    refine G (q_fap0 ?_)
    refine G (q_ldp ?_)
    refine G (q_eqli (y := 2) ?_)
    refine Mv ?_
    refine Akfd 214 (fun hb4 => ?_) ?_; rotate_left
    · omega
    refine Gn ?_
    refine Gn ?_
    refine Gn ?_
    refine G (q_pkf ?_)
    refine Mv ?_
    refine Gn ?_
    refine Gn ?_
    refine Gn ?_
    refine Gn ?_
    refine G (q_pkf ?_)
    refine Mv ?_
    refine Gn ?_
    refine Gn ?_
    refine Gn ?_
    refine Gn ?_
    refine G (q_pkf ?_)
    refine Mv ?_
    refine Gn ?_
    refine Gn ?_
    refine Gn ?_
    refine Gn ?_
    refine Gn ?_
    refine Gu ?_
    refine Gu ?_
    refine Gu ?_
    refine Gu ?_
    refine Gn ?_
    refine Gn ?_
    refine Gu ?_
    refine Gu ?_
    refine Gu ?_
    refine Gu ?_
    refine Gn ?_
    refine Gn ?_
    refine Gu ?_
    refine Gu ?_
    refine Gu ?_
    refine Gu ?_
    refine Gn ?_
    refine G (q_pkf ?_)
    refine gend ?_
    refine cndF ?_
    refine awp_skip ?_
    refine awp_seq ?_
    refine rln ?_
    refine Mv ?_
    refine Mv ?_
    refine G2 (fun _ k_ => q_callv [3, 4, 5, 6, 7, 8, 9, 10, 11, 12] [some (chC x.es (grl o.2.2.2 / 64) 2 (decide (x.es ≠ 0)) 4 10 (decide ((grl o.2.2.2 / 64) ≠ 0)) 12 x.sent 1 (grl o.2.2.2) (decide (0 < (o.2.2.2 : List UInt64).length)) hash), some (wcs true (wn o x.wg x.wb).1 (wn o x.wg x.wb).2), some (cC (.ptr 3 0) 0), some (u8s (S0 a x.es.toNat)), cb (decide (x.es ≠ 0)) 5, kb (decide (x.es ≠ 0)) (S1 a x.es.toNat), none, none, none, none] [some (cC (.ptr 11 0) 0), some (u8s (S0 b (grl o.2.2.2 / 64).toNat)), cb (decide ((grl o.2.2.2 / 64) ≠ 0)) 13, kb (decide ((grl o.2.2.2 / 64) ≠ 0)) (S1 b (grl o.2.2.2 / 64).toNat), some (u8s o.1)] q1 k_ (ha := (cac (et rfl) rfl (cac (et rfl) (sees_slc rfl rfl (cut_h hFR)) ca0))) (e2 := (pl1 rfl (chC_map rfl rfl rfl rfl rfl) (pl1 rfl rfl (pl1 rfl rfl (pl1 rfl sees_m (plb rfl (cb_map rfl) (plb rfl kb_map (pl1 rfl rfl (pl1 rfl sees_m (plb rfl (cb_map rfl) (plb rfl kb_map pl0))))))))))) (eL := (ml1 (chC_map rfl rfl rfl rfl rfl) (ml1 rfl (ml1 rfl (ml1 sees_m (mlb (cb_map rfl) (mlb kb_map (mln (mln (mln (mln ml0))))))))))) (eM := (ml1 rfl (ml1 sees_m (mlb (cb_map rfl) (mlb kb_map (ml1 sees_m ml0)))))) (e3 := (vt3 rfl rfl rfl))) ?_
    refine G (q_mv (s := .t _) ?_)
    refine G (q_ext (y := .c _) ?_)
    refine G (q_ext (y := .c _) ?_)
    refine G (q_ext (y := .c _) ?_)
    refine As ?_
    refine As ?_
    refine As ?_
    refine gend ?_
    refine awp_seq ?_
    refine rln ?_
    refine Mv ?_
    refine Mv ?_
    refine G2 (fun _ k_ => q_callv [13, 14] [some (rH a b hash x.sent (.slc 2 0 o.2.2.2.length 1)), none] [some (u64s o.2.2.2), some (u8s o.1)] q2 k_ (ha := (cac (et rfl) rfl (cac (et rfl) (sees_slc rfl rfl (cut_h hFR)) ca0))) (e2 := (pl1 rfl (rH_cm.trans rfl) (pl1 rfl sees_m pl0))) (eL := (ml1 (rH_cm.trans rfl) (mln ml0))) (eM := (ml1 sees_m (ml1 sees_m ml0))) (e3 := (vt3 rfl rfl rfl))) ?_
    refine G (q_mv (s := .t _) ?_)
    refine G (q_ext (y := .c _) ?_)
    refine G (q_ext (y := .c _) ?_)
    refine G (q_ext (y := .c _) ?_)
    refine As ?_
    refine As ?_
    refine As ?_
    refine gend ?_
    refine awp_seq ?_
    refine rln ?_
    refine Mv ?_
    refine Mv ?_
    refine G (q_neqn ?_)
    refine Mv ?_
    refine Akfd 281 (fun hb4 => ?_) ?_; rotate_left
    · exact fun h => h rfl
    refine Gg (q_mv (s := .v (.c _)) ?_)
    refine Gg (q_mv (s := .v (.c _)) ?_)
    refine Gg (q_neq64 ?_)
    refine G (q_pkf ?_)
    refine Mv ?_
    refine Akfd 286 (fun hb9 => ?_) ?_; rotate_left
    · exact fun h => h rfl
    refine Gg (q_mv (s := .v (.c _)) ?_)
    refine Gg (q_csl ?_)
    refine Gg (q_mv (s := .v (.c _)) ?_)
    refine Gg (q_csl ?_)
    refine Gg (q_neqs ?_)
    refine G (q_pkf ?_)
    refine gend ?_
    refine cndnN (fun hc10 => ?_) ?_; rotate_left
    · simp
    refine awp_skip ?_
    refine awp_seq ?_
    refine rln ?_
    refine Mv ?_
    refine G2 (fun _ k_ => q_callp (cgreat _ _ _ _ _ _ _ _ _ _ _) k_ (ha := (cac (et rfl) (sees_ch rfl rfl rfl rfl) ca0))) ?_
    refine G (q_mv (s := .t _) ?_)
    refine G (q_ext (y := .c _) ?_)
    refine G (q_ext (y := .c _) ?_)
    refine As ?_
    refine As ?_
    refine gend ?_
    refine awp_seq ?_
    refine rln ?_
    refine Mv ?_
    refine G2 (fun _ k_ => q_callp (rgr_ a b hash x.sent o.2.2.2 ha hb hh (by omega)) k_ (ha := (cac (et rfl) (sees_rH ha rfl rfl rfl rfl) ca0))) ?_
    refine G (q_mv (s := .t _) ?_)
    refine G (q_ext (y := .c _) ?_)
    refine G (q_ext (y := .c _) ?_)
    refine As ?_
    refine As ?_
    refine gend ?_
    refine awp_seq ?_
    refine rdln [1, 19] [0, 0, 0, 0, 0, 0, 1, 1, 1, 1, 1, 1, 1, 1, 1, 1, 1, 1, 1, 1, 1, 2, 2] [0, 1, 1, 1, 1, 1, 1, 1, 1, 1, 1, 1, 1, 1, 1, 1, 1, 1, 1, 2, 2, 2, 2] ?_
    refine Dp (fun _ => q_mv (s := .v (.c _)) ⟨rfl, rfl⟩) ?_
    refine De2 (fun _ k_ => q_callp (csent _ _ _ _ _ _ _ _ _ _ _) k_ (ha := (cac (et rfl) (sees_ch rfl rfl rfl rfl) ca0))) ?_
    refine Dp (fun _ => q_mv (s := .v (.c _)) ⟨rfl, rfl⟩) ?_
    refine Dp (fun _ => q_ncp ⟨rfl, rfl⟩) ?_
    refine Dp (fun _ => q_fap0 ⟨rfl, rfl⟩) ?_
    refine DLp  ?_ (hc := rH_n ha hb hh)
    refine Dp (fun _ => q_neq64 ⟨rfl, rfl⟩) ?_
    refine Dp (fun _ => q_mv (s := .v (.c _)) ⟨rfl, rfl⟩) ?_
    refine Dkfd 310 (fun hb8 => ?_) ?_; rotate_left
    · exact fun h => h rfl
    refine Dpg (fun _ => q_mv (s := .v (.c _)) ⟨rfl, rfl⟩) ?_
    refine Dpg (fun _ => q_mv (s := .v (.c _)) ⟨rfl, rfl⟩) ?_
    refine Dpg (fun _ => q_neq64 ⟨rfl, rfl⟩) ?_
    refine Dp (fun _ => q_pkf ⟨rfl, rfl⟩) ?_
    refine Dp (fun _ => q_mv (s := .v (.c _)) ⟨rfl, rfl⟩) ?_
    refine Dkfd 315 (fun hb13 => ?_) ?_; rotate_left
    · exact fun h => h rfl
    refine Dpg (fun _ => q_mv (s := .v (.c _)) ⟨rfl, rfl⟩) ?_
    refine Dpg (fun _ => q_mv (s := .v (.c _)) ⟨rfl, rfl⟩) ?_
    refine Dpg (fun _ => q_neqb ⟨rfl, rfl⟩) ?_
    refine Dp (fun _ => q_pkf ⟨rfl, rfl⟩) ?_
    refine Dp (fun _ => q_mv (s := .v (.c _)) ⟨rfl, rfl⟩) ?_
    refine Dkf 320 (fun hb18 => ?_) ?_; rotate_left
    · simp
    refine Dpg (fun _ => q_mv (s := .v (.c _)) ⟨rfl, rfl⟩) ?_
    refine De2g (fun _ k_ => q_callp (chash _ _ _ _ _ _ _ _ _ _ _ hh) k_ (ha := (cac (et rfl) (sees_ch rfl rfl rfl rfl) ca0))) ?_
    refine DLwg ?_
    refine Dpg (fun _ => q_nea8 ⟨rfl, rfl⟩) ?_
    refine Dp (fun _ => q_pkf ⟨rfl, rfl⟩) ?_
    refine dend ?_
    refine cndnN (fun hc11 => ?_) ?_; rotate_left
    · simp
    refine awp_skip ?_
    refine rln ?_
    refine Mv ?_
    refine G (q_addn (y := 1) ?_)
    refine As ?_
    refine gend ?_
    exact ⟨⟨x.i + 1, x.es, x.sent, o.2.2.2, (wn o x.wg x.wb).1, (wn o x.wg x.wb).2, by omega, I2.1, I2.2, by omega, x.he, by omega, by omega⟩, by show n - (x.i + 1) < n - x.i; omega, sle_ren [(0, true), (1, true), (2, true), (3, true), (4, true), (5, true), (6, true), (7, true), (8, true), (17, true), (18, true), (19, true), (20, true), (13, true), (22, true)] rfl (fun p h => absurd h (Nat.not_lt_zero _)) ⟨rs_fl (fun y => cA_cm y), rfl, rfl, rfl, rfl, rfl, trivial⟩ (Eq.symm (a := renL _ _ _) (rlT rfl sees_m (rlT rfl sees_m (rlT rfl sees_m (rlT rfl (chC_map rfl rfl rfl rfl rfl) (rlT rfl rfl (rlT rfl rfl (rlT rfl sees_m (rlB rfl (cb_map rfl) (rlB rfl kb_map (rlT rfl rfl (rlT rfl sees_m (rlB rfl (cb_map rfl) (rlB rfl kb_map (rlT rfl (rH_cm.trans rfl) (rlT rfl sees_m rl0))))))))))))))))⟩
  · have h9 := cq.2 hc3
    have hb9 : z.b.length ≤ 200 := by omega
    have g17 := rframe_ b hash z.b z.n _ hb hh rfl (by omega)
    have hFl := fr19_len (s := b) (h := hash) (n := z.n) (c := z.b)
    obtain ⟨F, hF⟩ : ∃ t, fr19 b hash z.n z.b = t := ⟨_, rfl⟩
    rw [hF] at g17 hFl
    obtain ⟨j, hj, hje, hjl, hju⟩ := at_ok z.at_ (n := (8 + (z.b.length + 16))) (by omega)
    have hF1 : F.length = (8 + (z.b.length + 16)) := hFl
    have hFR : (F.set ((8 + (z.b.length + 16)) - 1 - j) (F.getD ((8 + (z.b.length + 16)) - 1 - j) 0 ^^^ 1)).length = (8 + (z.b.length + 16)) := set_len hF1
    have q1 := chopen_u a b hash x.es x.sent x.l x.wg x.wb ha hb hh x.I x.hM (F.set ((8 + (z.b.length + 16)) - 1 - j) (F.getD ((8 + (z.b.length + 16)) - 1 - j) 0 ^^^ 1)) _ hFR
    have q2 := rop_ a b hash x.sent x.l ha hb hh (by omega) (F.set ((8 + (z.b.length + 16)) - 1 - j) (F.getD ((8 + (z.b.length + 16)) - 1 - j) 0 ^^^ 1)) _ hFR (by omega)
    have I2 := op19_inv (r := b) (h := hash) (fr := (F.set ((8 + (z.b.length + 16)) - 1 - j) (F.getD ((8 + (z.b.length + 16)) - 1 - j) 0 ^^^ 1))) x.I x.hM
    have nx := op19_next (r := b) (h := hash) (l := x.l) (fr := (F.set ((8 + (z.b.length + 16)) - 1 - j) (F.getD ((8 + (z.b.length + 16)) - 1 - j) 0 ^^^ 1)))
    obtain ⟨o, ho⟩ : ∃ t, op19 b hash x.l (F.set ((8 + (z.b.length + 16)) - 1 - j) (F.getD ((8 + (z.b.length + 16)) - 1 - j) 0 ^^^ 1)) = t := ⟨_, rfl⟩
    rw [ho] at q1 q2 I2 nx
    have hL1 := rH_len (n := x.sent) (x := .slc 14 0 o.2.2.2.length 1) ha hb hh
    refine awp_seq ?_
    refine awp_seq ?_
    refine rln ?_
    refine G (q_fap0 ?_)
    refine G (q_ldp ?_)
    refine gend ?_
    refine awp_block ?_
    refine awp_seq ?_
    refine rln ?_
    refine G (q_eqli (y := 1) ?_)
    refine As ?_
    refine gend ?_
    refine cndN (fun hc4 => ?_) ?_; rotate_left
    · omega
    refine awp_seq ?_
    refine awp_seq ?_
    refine rln ?_
    refine G (q_eqli (y := 2) ?_)
    refine As ?_
    refine gend ?_
    refine cndN (fun hc5 => ?_) ?_; rotate_left
    · omega
    refine awp_seq ?_
    refine rln ?_
    refine G (q_eqli (y := 3) ?_)
    refine As ?_
    refine gend ?_
    refine cndN (fun hc6 => ?_) ?_; rotate_left
    · omega
    refine rln ?_
    refine G (q_eqli (y := 4) ?_)
    refine As ?_
    refine gend ?_
    refine cndY (fun hc7 => ?_) ?_; rotate_left
    · omega
    refine awp_seq ?_
    refine rln ?_
    refine G (q_fap0 ?_)
    refine G (q_ldp ?_)
    refine As ?_
    refine gend ?_
    refine awp_seq ?_
    refine awp_seq ?_
    refine rln ?_
    refine G (q_fap0 ?_)
    refine G (q_ldp ?_)
    refine G (q_neqi (y := 2) ?_)
    refine gend ?_
    refine cndY (fun hc8 => ?_) ?_; rotate_left
    · omega
    refine awp_seq ?_
    refine rln ?_
    refine G (q_fap0 ?_)
    refine G (q_ldp ?_)
    refine As ?_
    refine gend ?_
    refine awp_seq ?_
    refine rln ?_
    refine Mv ?_
    refine G (q_geq64 (y := 281474976710656) ?_)
    refine gend ?_
    refine cndN (fun hc9 => ?_) ?_; rotate_left
    · exact hk.2
    refine rln ?_
    refine G (q_ldw ?_)
    refine G (q_ldw ?_)
    refine Mv ?_
    refine G (q_fap0 ?_)
    refine G (q_ldp ?_)
    refine G2 (fun _ k_ => q_calln g17 k_ (ha := (caa (et rfl) sees_m (caa (et rfl) sees_m (cac (et rfl) cm_int (cac (et rfl) sees_ro ca0)))))) ?_
    refine As ?_
    refine gend ?_
    refine awp_seq ?_
    refine awp_seq ?_
    refine rln ?_
    refine G (q_fap0 ?_)
    refine G (q_ldp ?_)
    refine G (q_eqli (y := 4) ?_)
    refine gend ?_
    refine cndY (fun hc10 => ?_) ?_; rotate_left
    · omega
    refine awp_mid ⟨frm 327 [(3, sc (.ro n (l.flatMap cA))), (5, sc (.ptr 1 0)), (6, sc (.ptr 2 0)), (9, sc (.ptr 3 0)), (11, sc (.ptr 13 0)), (12, sc (cn x.i)), (13, sc (.ptr 15 0)), (18, sc (.slc 16 0 (8 + (z.b.length + 16)) 1)), (20, sc (cn j))], [some (u8s a), some (u8s b), some (u8s hash), some (chC x.es (grl x.l / 64) 5 (decide (x.es ≠ 0)) 7 9 (decide ((grl x.l / 64) ≠ 0)) 11 x.sent 4 (grl x.l) (decide (0 < (x.l : List UInt64).length)) hash), some (wcs true x.wg x.wb), some (cC (.ptr 6 0) 0), some (u8s (S0 a x.es.toNat)), cb (decide (x.es ≠ 0)) 8, kb (decide (x.es ≠ 0)) (S1 a x.es.toNat), some (cC (.ptr 10 0) 0), some (u8s (S0 b (grl x.l / 64).toNat)), cb (decide ((grl x.l / 64) ≠ 0)) 12, kb (decide ((grl x.l / 64) ≠ 0)) (S1 b (grl x.l / 64).toNat), some (rH a b hash x.sent (.slc 14 0 x.l.length 1)), some (u64s x.l), some [ci z.kind, .ro z.b.length (u8s z.b), c64 z.n, ci z.at_], some (u8s F)]⟩ ?_ ?_
    · refine rln ?_
      refine G (q_fap0 ?_)
      refine G (q_ldp ?_)
      refine Mv ?_
      refine G (q_lenc ?_)
      refine G (q_remi ?_)
      refine Mv ?_
      refine G (q_lenc ?_)
      refine G (q_addi ?_)
      refine Mv ?_
      refine G (q_lenc ?_)
      refine G (q_remi ?_)
      refine As ?_
      refine gend ?_
      exact sle_sub ⟨rfl, rfl, rfl, rfl, rfl, rfl, rfl, rfl, congrArg (fun t => sc (ci t)) hje, trivial⟩ rfl
    refine awp_seq ?_
    refine rln ?_
    refine Mv ?_
    refine Mv ?_
    refine G (q_lenc ?_)
    refine G (q_subn (y := 1) ?_)
    refine Mv ?_
    refine G (q_subn ?_)
    refine Mv ?_
    refine Mv ?_
    refine G (q_lenc ?_)
    refine G (q_subn (y := 1) ?_)
    refine Mv ?_
    refine G (q_subn ?_)
    refine G (q_ixs1 ?_)
    refine G (q_ldp ?_)
    refine G (q_xor8 (y := 1) ?_)
    refine G (q_ixs1 ?_)
    refine G20 (fun _ k_ => q_stm k_) ?_
    refine gend ?_
    refine awp_cut (α := Bool) (fun cq => ⟨frm 327 [(3, sc (.ro n (l.flatMap cA))), (5, sc (.ptr 1 0)), (6, sc (.ptr 2 0)), (9, sc (.ptr 3 0)), (11, sc (.ptr 13 0)), (12, sc (cn x.i)), (13, sc (.ptr 15 0)), (18, sc (.slc 16 0 (8 + (z.b.length + 16)) 1)), (210, sc (.bool cq))], [some (u8s a), some (u8s b), some (u8s hash), some (chC x.es (grl x.l / 64) 5 (decide (x.es ≠ 0)) 7 9 (decide ((grl x.l / 64) ≠ 0)) 11 x.sent 4 (grl x.l) (decide (0 < (x.l : List UInt64).length)) hash), some (wcs true x.wg x.wb), some (cC (.ptr 6 0) 0), some (u8s (S0 a x.es.toNat)), cb (decide (x.es ≠ 0)) 8, kb (decide (x.es ≠ 0)) (S1 a x.es.toNat), some (cC (.ptr 10 0) 0), some (u8s (S0 b (grl x.l / 64).toNat)), cb (decide ((grl x.l / 64) ≠ 0)) 12, kb (decide ((grl x.l / 64) ≠ 0)) (S1 b (grl x.l / 64).toNat), some (rH a b hash x.sent (.slc 14 0 x.l.length 1)), some (u64s x.l), some [ci z.kind, .ro z.b.length (u8s z.b), c64 z.n, ci z.at_], some (u8s (F.set ((8 + (z.b.length + 16)) - 1 - j) (F.getD ((8 + (z.b.length + 16)) - 1 - j) 0 ^^^ 1)))]⟩) ?_ (fun cq => ?_)
    · refine rln ?_
      refine Mv ?_
      refine Mv ?_
      refine G (q_lenc ?_)
      refine G (q_subn (y := 8) ?_)
      refine G (q_geqn ?_)
      refine Mv ?_
      refine Aspd 175 (fun hb6 => ?_) (fun hb6 => ?_)
      · refine Gg (q_mv (s := .v (.c _)) ?_)
        refine Gg (q_ixs1 ?_)
        refine Gg (q_ldp ?_)
        refine Gg (q_eql8 (y := 0) ?_)
        refine G (q_pkt ?_)
        refine Mv ?_
        refine Aspd 181 (fun hb12 => ?_) (fun hb12 => ?_)
        · refine Gg (q_mv (s := .v (.c _)) ?_)
          refine Gg (q_ixs1 ?_)
          refine Gg (q_ldp ?_)
          refine Gg (q_eql8 (y := 0) ?_)
          refine G (q_pkt ?_)
          refine Mv ?_
          refine Aspd 187 (fun hb18 => ?_) (fun hb18 => ?_)
          · refine Gg (q_mv (s := .v (.c _)) ?_)
            refine Gg (q_ixs1 ?_)
            refine Gg (q_ldp ?_)
            refine Gg (q_neq8 (y := 0) ?_)
            refine Gg (q_mv (s := .v (.c _)) ?_)
            refine Aspd 192 (fun hb23 => ?_) (fun hb23 => ?_)
            · refine Gn ?_
              refine Gn ?_
              refine Gn ?_
              refine Gn ?_
              refine Gg (q_pkt ?_)
              refine Gg (q_mv (s := .v (.c _)) ?_)
              refine Gn ?_
              refine Gn ?_
              refine Gn ?_
              refine Gn ?_
              refine Gg (q_pkt ?_)
              refine Gg (q_mv (s := .v (.c _)) ?_)
              refine Gn ?_
              refine Gn ?_
              refine Gn ?_
              refine Gn ?_
              refine Gg (q_pkt ?_)
              refine G (q_pkt ?_)
              refine gend ?_
              exact ⟨_, sle_sub ⟨rfl, rfl, rfl, rfl, rfl, rfl, rfl, rfl, rfl, trivial⟩ rfl⟩
            refine Gg (q_mv (s := .v (.c _)) ?_)
            refine Gg (q_ixs1 ?_)
            refine Gg (q_ldp ?_)
            refine Gg (q_neq8 (y := 0) ?_)
            refine Gg (q_pkf ?_)
            refine Gg (q_mv (s := .v (.c _)) ?_)
            refine Aspd 198 (fun hb29 => ?_) (fun hb29 => ?_)
            · refine Gn ?_
              refine Gn ?_
              refine Gn ?_
              refine Gn ?_
              refine Gg (q_pkt ?_)
              refine Gg (q_mv (s := .v (.c _)) ?_)
              refine Gn ?_
              refine Gn ?_
              refine Gn ?_
              refine Gn ?_
              refine Gg (q_pkt ?_)
              refine G (q_pkt ?_)
              refine gend ?_
              exact ⟨_, sle_sub ⟨rfl, rfl, rfl, rfl, rfl, rfl, rfl, rfl, rfl, trivial⟩ rfl⟩
            refine Gg (q_mv (s := .v (.c _)) ?_)
            refine Gg (q_ixs1 ?_)
            refine Gg (q_ldp ?_)
            refine Gg (q_neq8 (y := 0) ?_)
            refine Gg (q_pkf ?_)
            refine Gg (q_mv (s := .v (.c _)) ?_)
            refine Aspd 204 (fun hb35 => ?_) (fun hb35 => ?_)
            · refine Gn ?_
              refine Gn ?_
              refine Gn ?_
              refine Gn ?_
              refine Gg (q_pkt ?_)
              refine G (q_pkt ?_)
              refine gend ?_
              exact ⟨_, sle_sub ⟨rfl, rfl, rfl, rfl, rfl, rfl, rfl, rfl, rfl, trivial⟩ rfl⟩
            refine Gg (q_mv (s := .v (.c _)) ?_)
            refine Gg (q_ixs1 ?_)
            refine Gg (q_ldp ?_)
            refine Gg (q_neq8 (y := 0) ?_)
            refine Gg (q_pkf ?_)
            refine G (q_pkt ?_)
            refine gend ?_
            exact ⟨_, sle_sub ⟨rfl, rfl, rfl, rfl, rfl, rfl, rfl, rfl, rfl, trivial⟩ rfl⟩
          refine Gn ?_
          refine Gn ?_
          refine Gn ?_
          refine Gn ?_
          refine Gn ?_
          refine Gu ?_
          refine Gu ?_
          refine Gu ?_
          refine Gu ?_
          refine Gn ?_
          refine Gn ?_
          refine Gu ?_
          refine Gu ?_
          refine Gu ?_
          refine Gu ?_
          refine Gn ?_
          refine Gn ?_
          refine Gu ?_
          refine Gu ?_
          refine Gu ?_
          refine Gu ?_
          refine Gn ?_
          refine G (q_pkf ?_)
          refine gend ?_
          exact ⟨_, sle_sub ⟨rfl, rfl, rfl, rfl, rfl, rfl, rfl, rfl, rfl, trivial⟩ rfl⟩
        refine Gn ?_
        refine Gn ?_
        refine Gn ?_
        refine Gn ?_
        refine G (q_pkf ?_)
        refine Mv ?_
        refine Gn ?_
        refine Gn ?_
        refine Gn ?_
        refine Gn ?_
        refine Gn ?_
        refine Gu ?_
        refine Gu ?_
        refine Gu ?_
        refine Gu ?_
        refine Gn ?_
        refine Gn ?_
        refine Gu ?_
        refine Gu ?_
        refine Gu ?_
        refine Gu ?_
        refine Gn ?_
        refine Gn ?_
        refine Gu ?_
        refine Gu ?_
        refine Gu ?_
        refine Gu ?_
        refine Gn ?_
        refine G (q_pkf ?_)
        refine gend ?_
        exact ⟨_, sle_sub ⟨rfl, rfl, rfl, rfl, rfl, rfl, rfl, rfl, rfl, trivial⟩ rfl⟩
      refine Gn ?_
      refine Gn ?_
      refine Gn ?_
      refine Gn ?_
      refine G (q_pkf ?_)
      refine Mv ?_
      refine Gn ?_
      refine Gn ?_
      refine Gn ?_
      refine Gn ?_
      refine G (q_pkf ?_)
      refine Mv ?_
      refine Gn ?_
      refine Gn ?_
      refine Gn ?_
      refine Gn ?_
      refine Gn ?_
      refine Gu ?_
      refine Gu ?_
      refine Gu ?_
      refine Gu ?_
      refine Gn ?_
      refine Gn ?_
      refine Gu ?_
      refine Gu ?_
      refine Gu ?_
      refine Gu ?_
      refine Gn ?_
      refine Gn ?_
      refine Gu ?_
      refine Gu ?_
      refine Gu ?_
      refine Gu ?_
      refine Gn ?_
      refine G (q_pkf ?_)
      refine gend ?_
      exact ⟨_, sle_sub ⟨rfl, rfl, rfl, rfl, rfl, rfl, rfl, rfl, rfl, trivial⟩ rfl⟩
    refine cndb (fun hc11 => ?_) (fun hc11 => ?_)
    · refine awp_exit ?_
      refine rln ?_
      refine Mv ?_
      refine G (q_addn (y := 1) ?_)
      refine As ?_
      refine gend ?_
      exact ⟨⟨x.i + 1, x.es, x.sent, x.l, x.wg, x.wb, by omega, x.I, x.hM, by omega, x.he, by omega, by omega⟩, by show n - (x.i + 1) < n - x.i; omega, sle_ren [(0, true), (1, true), (2, true), (3, true), (4, true), (5, true), (6, true), (7, true), (8, true), (9, true), (10, true), (11, true), (12, true), (13, true), (14, true)] rfl (fun p h => absurd h (Nat.not_lt_zero _)) ⟨rs_fl (fun y => cA_cm y), rfl, rfl, rfl, rfl, rfl, trivial⟩ (Eq.symm (a := renL _ _ _) (rlT rfl sees_m (rlT rfl sees_m (rlT rfl sees_m (rlT rfl (chC_map rfl rfl rfl rfl rfl) (rlT rfl rfl (rlT rfl rfl (rlT rfl sees_m (rlB rfl (cb_map rfl) (rlB rfl kb_map (rlT rfl rfl (rlT rfl sees_m (rlB rfl (cb_map rfl) (rlB rfl kb_map (rlT rfl (rH_cm.trans rfl) (rlT rfl sees_m rl0))))))))))))))))⟩
    refine awp_skip ?_
    refine awp_seq ?_
    refine awp_seq ?_
    refine rln ?_
    refine G (q_fap0 ?_)
    refine G (q_ldp ?_)
    refine G (q_eqli (y := 2) ?_)
    refine Mv ?_
    refine Akfd 214 (fun hb4 => ?_) ?_; rotate_left
    · omega
    refine Gn ?_
    refine Gn ?_
    refine Gn ?_
    refine G (q_pkf ?_)
    refine Mv ?_
    refine Gn ?_
    refine Gn ?_
    refine Gn ?_
    refine Gn ?_
    refine G (q_pkf ?_)
    refine Mv ?_
    refine Gn ?_
    refine Gn ?_
    refine Gn ?_
    refine Gn ?_
    refine G (q_pkf ?_)
    refine Mv ?_
    refine Gn ?_
    refine Gn ?_
    refine Gn ?_
    refine Gn ?_
    refine Gn ?_
    refine Gu ?_
    refine Gu ?_
    refine Gu ?_
    refine Gu ?_
    refine Gn ?_
    refine Gn ?_
    refine Gu ?_
    refine Gu ?_
    refine Gu ?_
    refine Gu ?_
    refine Gn ?_
    refine Gn ?_
    refine Gu ?_
    refine Gu ?_
    refine Gu ?_
    refine Gu ?_
    refine Gn ?_
    refine G (q_pkf ?_)
    refine gend ?_
    refine cndF ?_
    refine awp_skip ?_
    refine awp_seq ?_
    refine rln ?_
    refine Mv ?_
    refine Mv ?_
    refine G2 (fun _ k_ => q_callv [3, 4, 5, 6, 7, 8, 9, 10, 11, 12] [some (chC x.es (grl o.2.2.2 / 64) 2 (decide (x.es ≠ 0)) 4 10 (decide ((grl o.2.2.2 / 64) ≠ 0)) 12 x.sent 1 (grl o.2.2.2) (decide (0 < (o.2.2.2 : List UInt64).length)) hash), some (wcs true (wn o x.wg x.wb).1 (wn o x.wg x.wb).2), some (cC (.ptr 3 0) 0), some (u8s (S0 a x.es.toNat)), cb (decide (x.es ≠ 0)) 5, kb (decide (x.es ≠ 0)) (S1 a x.es.toNat), none, none, none, none] [some (cC (.ptr 11 0) 0), some (u8s (S0 b (grl o.2.2.2 / 64).toNat)), cb (decide ((grl o.2.2.2 / 64) ≠ 0)) 13, kb (decide ((grl o.2.2.2 / 64) ≠ 0)) (S1 b (grl o.2.2.2 / 64).toNat), some (u8s o.1)] q1 k_ (ha := (cac (et rfl) rfl (cac (et rfl) (sees_slc rfl rfl (cut_h hFR)) ca0))) (e2 := (pl1 rfl (chC_map rfl rfl rfl rfl rfl) (pl1 rfl rfl (pl1 rfl rfl (pl1 rfl sees_m (plb rfl (cb_map rfl) (plb rfl kb_map (pl1 rfl rfl (pl1 rfl sees_m (plb rfl (cb_map rfl) (plb rfl kb_map pl0))))))))))) (eL := (ml1 (chC_map rfl rfl rfl rfl rfl) (ml1 rfl (ml1 rfl (ml1 sees_m (mlb (cb_map rfl) (mlb kb_map (mln (mln (mln (mln ml0))))))))))) (eM := (ml1 rfl (ml1 sees_m (mlb (cb_map rfl) (mlb kb_map (ml1 sees_m ml0)))))) (e3 := (vt3 rfl rfl rfl))) ?_
    refine G (q_mv (s := .t _) ?_)
    refine G (q_ext (y := .c _) ?_)
    refine G (q_ext (y := .c _) ?_)
    refine G (q_ext (y := .c _) ?_)
    refine As ?_
    refine As ?_
    refine As ?_
    refine gend ?_
    refine awp_seq ?_
    refine rln ?_
    refine Mv ?_
    refine Mv ?_
    refine G2 (fun _ k_ => q_callv [13, 14] [some (rH a b hash x.sent (.slc 2 0 o.2.2.2.length 1)), none] [some (u64s o.2.2.2), some (u8s o.1)] q2 k_ (ha := (cac (et rfl) rfl (cac (et rfl) (sees_slc rfl rfl (cut_h hFR)) ca0))) (e2 := (pl1 rfl (rH_cm.trans rfl) (pl1 rfl sees_m pl0))) (eL := (ml1 (rH_cm.trans rfl) (mln ml0))) (eM := (ml1 sees_m (ml1 sees_m ml0))) (e3 := (vt3 rfl rfl rfl))) ?_
    refine G (q_mv (s := .t _) ?_)
    refine G (q_ext (y := .c _) ?_)
    refine G (q_ext (y := .c _) ?_)
    refine G (q_ext (y := .c _) ?_)
    refine As ?_
    refine As ?_
    refine As ?_
    refine gend ?_
    refine awp_seq ?_
    refine rln ?_
    refine Mv ?_
    refine Mv ?_
    refine G (q_neqn ?_)
    refine Mv ?_
    refine Akfd 281 (fun hb4 => ?_) ?_; rotate_left
    · exact fun h => h rfl
    refine Gg (q_mv (s := .v (.c _)) ?_)
    refine Gg (q_mv (s := .v (.c _)) ?_)
    refine Gg (q_neq64 ?_)
    refine G (q_pkf ?_)
    refine Mv ?_
    refine Akfd 286 (fun hb9 => ?_) ?_; rotate_left
    · exact fun h => h rfl
    refine Gg (q_mv (s := .v (.c _)) ?_)
    refine Gg (q_csl ?_)
    refine Gg (q_mv (s := .v (.c _)) ?_)
    refine Gg (q_csl ?_)
    refine Gg (q_neqs ?_)
    refine G (q_pkf ?_)
    refine gend ?_
    refine cndnN (fun hc12 => ?_) ?_; rotate_left
    · simp
    refine awp_skip ?_
    refine awp_seq ?_
    refine rln ?_
    refine Mv ?_
    refine G2 (fun _ k_ => q_callp (cgreat _ _ _ _ _ _ _ _ _ _ _) k_ (ha := (cac (et rfl) (sees_ch rfl rfl rfl rfl) ca0))) ?_
    refine G (q_mv (s := .t _) ?_)
    refine G (q_ext (y := .c _) ?_)
    refine G (q_ext (y := .c _) ?_)
    refine As ?_
    refine As ?_
    refine gend ?_
    refine awp_seq ?_
    refine rln ?_
    refine Mv ?_
    refine G2 (fun _ k_ => q_callp (rgr_ a b hash x.sent o.2.2.2 ha hb hh (by omega)) k_ (ha := (cac (et rfl) (sees_rH ha rfl rfl rfl rfl) ca0))) ?_
    refine G (q_mv (s := .t _) ?_)
    refine G (q_ext (y := .c _) ?_)
    refine G (q_ext (y := .c _) ?_)
    refine As ?_
    refine As ?_
    refine gend ?_
    refine awp_seq ?_
    refine rdln [1, 19] [0, 0, 0, 0, 0, 0, 1, 1, 1, 1, 1, 1, 1, 1, 1, 1, 1, 1, 1, 1, 1, 2, 2] [0, 1, 1, 1, 1, 1, 1, 1, 1, 1, 1, 1, 1, 1, 1, 1, 1, 1, 1, 2, 2, 2, 2] ?_
    refine Dp (fun _ => q_mv (s := .v (.c _)) ⟨rfl, rfl⟩) ?_
    refine De2 (fun _ k_ => q_callp (csent _ _ _ _ _ _ _ _ _ _ _) k_ (ha := (cac (et rfl) (sees_ch rfl rfl rfl rfl) ca0))) ?_
    refine Dp (fun _ => q_mv (s := .v (.c _)) ⟨rfl, rfl⟩) ?_
    refine Dp (fun _ => q_ncp ⟨rfl, rfl⟩) ?_
    refine Dp (fun _ => q_fap0 ⟨rfl, rfl⟩) ?_
    refine DLp  ?_ (hc := rH_n ha hb hh)
    refine Dp (fun _ => q_neq64 ⟨rfl, rfl⟩) ?_
    refine Dp (fun _ => q_mv (s := .v (.c _)) ⟨rfl, rfl⟩) ?_
    refine Dkfd 310 (fun hb8 => ?_) ?_; rotate_left
    · exact fun h => h rfl
    refine Dpg (fun _ => q_mv (s := .v (.c _)) ⟨rfl, rfl⟩) ?_
    refine Dpg (fun _ => q_mv (s := .v (.c _)) ⟨rfl, rfl⟩) ?_
    refine Dpg (fun _ => q_neq64 ⟨rfl, rfl⟩) ?_
    refine Dp (fun _ => q_pkf ⟨rfl, rfl⟩) ?_
    refine Dp (fun _ => q_mv (s := .v (.c _)) ⟨rfl, rfl⟩) ?_
    refine Dkfd 315 (fun hb13 => ?_) ?_; rotate_left
    · exact fun h => h rfl
    refine Dpg (fun _ => q_mv (s := .v (.c _)) ⟨rfl, rfl⟩) ?_
    refine Dpg (fun _ => q_mv (s := .v (.c _)) ⟨rfl, rfl⟩) ?_
    refine Dpg (fun _ => q_neqb ⟨rfl, rfl⟩) ?_
    refine Dp (fun _ => q_pkf ⟨rfl, rfl⟩) ?_
    refine Dp (fun _ => q_mv (s := .v (.c _)) ⟨rfl, rfl⟩) ?_
    refine Dkf 320 (fun hb18 => ?_) ?_; rotate_left
    · simp
    refine Dpg (fun _ => q_mv (s := .v (.c _)) ⟨rfl, rfl⟩) ?_
    refine De2g (fun _ k_ => q_callp (chash _ _ _ _ _ _ _ _ _ _ _ hh) k_ (ha := (cac (et rfl) (sees_ch rfl rfl rfl rfl) ca0))) ?_
    refine DLwg ?_
    refine Dpg (fun _ => q_nea8 ⟨rfl, rfl⟩) ?_
    refine Dp (fun _ => q_pkf ⟨rfl, rfl⟩) ?_
    refine dend ?_
    refine cndnN (fun hc13 => ?_) ?_; rotate_left
    · simp
    refine awp_skip ?_
    refine rln ?_
    refine Mv ?_
    refine G (q_addn (y := 1) ?_)
    refine As ?_
    refine gend ?_
    exact ⟨⟨x.i + 1, x.es, x.sent, o.2.2.2, (wn o x.wg x.wb).1, (wn o x.wg x.wb).2, by omega, I2.1, I2.2, by omega, x.he, by omega, by omega⟩, by show n - (x.i + 1) < n - x.i; omega, sle_ren [(0, true), (1, true), (2, true), (3, true), (4, true), (5, true), (6, true), (7, true), (8, true), (17, true), (18, true), (19, true), (20, true), (13, true), (22, true)] rfl (fun p h => absurd h (Nat.not_lt_zero _)) ⟨rs_fl (fun y => cA_cm y), rfl, rfl, rfl, rfl, rfl, trivial⟩ (Eq.symm (a := renL _ _ _) (rlT rfl sees_m (rlT rfl sees_m (rlT rfl sees_m (rlT rfl (chC_map rfl rfl rfl rfl rfl) (rlT rfl rfl (rlT rfl rfl (rlT rfl sees_m (rlB rfl (cb_map rfl) (rlB rfl kb_map (rlT rfl rfl (rlT rfl sees_m (rlB rfl (cb_map rfl) (rlB rfl kb_map (rlT rfl (rH_cm.trans rfl) (rlT rfl sees_m rl0))))))))))))))))⟩
  · have h9 := cq.2 hc3
    have hb9 : z.b.length ≤ 200 := by omega
    have g17 := rframe_ b hash z.b 0 _ hb hh rfl (by omega)
    have hFl := fr19_len (s := b) (h := hash) (n := 0) (c := z.b)
    obtain ⟨F, hF⟩ : ∃ t, fr19 b hash 0 z.b = t := ⟨_, rfl⟩
    rw [hF] at g17 hFl
    obtain ⟨j, hj, hje, hjl, hju⟩ := at_ok z.at_ (n := (8 + (z.b.length + 16))) (by omega)
    have hF1 : (F.set 0 255).length = (8 + (z.b.length + 16)) := set_len hFl
    have hFR : ((F.set 0 255).set ((8 + (z.b.length + 16)) - 1 - j) ((F.set 0 255).getD ((8 + (z.b.length + 16)) - 1 - j) 0 ^^^ 1)).length = (8 + (z.b.length + 16)) := set_len hF1
    have q1 := chopen_u a b hash x.es x.sent x.l x.wg x.wb ha hb hh x.I x.hM ((F.set 0 255).set ((8 + (z.b.length + 16)) - 1 - j) ((F.set 0 255).getD ((8 + (z.b.length + 16)) - 1 - j) 0 ^^^ 1)) _ hFR
    have q2 := rop_ a b hash x.sent x.l ha hb hh (by omega) ((F.set 0 255).set ((8 + (z.b.length + 16)) - 1 - j) ((F.set 0 255).getD ((8 + (z.b.length + 16)) - 1 - j) 0 ^^^ 1)) _ hFR (by omega)
    have I2 := op19_inv (r := b) (h := hash) (fr := ((F.set 0 255).set ((8 + (z.b.length + 16)) - 1 - j) ((F.set 0 255).getD ((8 + (z.b.length + 16)) - 1 - j) 0 ^^^ 1))) x.I x.hM
    have nx := op19_next (r := b) (h := hash) (l := x.l) (fr := ((F.set 0 255).set ((8 + (z.b.length + 16)) - 1 - j) ((F.set 0 255).getD ((8 + (z.b.length + 16)) - 1 - j) 0 ^^^ 1)))
    obtain ⟨o, ho⟩ : ∃ t, op19 b hash x.l ((F.set 0 255).set ((8 + (z.b.length + 16)) - 1 - j) ((F.set 0 255).getD ((8 + (z.b.length + 16)) - 1 - j) 0 ^^^ 1)) = t := ⟨_, rfl⟩
    rw [ho] at q1 q2 I2 nx
    have hL1 := rH_len (n := x.sent) (x := .slc 14 0 o.2.2.2.length 1) ha hb hh
    refine awp_seq ?_
    refine awp_seq ?_
    refine rln ?_
    refine G (q_fap0 ?_)
    refine G (q_ldp ?_)
    refine gend ?_
    refine awp_block ?_
    refine awp_seq ?_
    refine rln ?_
    refine G (q_eqli (y := 1) ?_)
    refine As ?_
    refine gend ?_
    refine cndN (fun hc4 => ?_) ?_; rotate_left
    · omega
    refine awp_seq ?_
    refine awp_seq ?_
    refine rln ?_
    refine G (q_eqli (y := 2) ?_)
    refine As ?_
    refine gend ?_
    refine cndN (fun hc5 => ?_) ?_; rotate_left
    · omega
    refine awp_seq ?_
    refine rln ?_
    refine G (q_eqli (y := 3) ?_)
    refine As ?_
    refine gend ?_
    refine cndN (fun hc6 => ?_) ?_; rotate_left
    · omega
    refine rln ?_
    refine G (q_eqli (y := 4) ?_)
    refine As ?_
    refine gend ?_
    refine cndY (fun hc7 => ?_) ?_; rotate_left
    · omega
    refine awp_seq ?_
    refine rln ?_
    refine G (q_fap0 ?_)
    refine G (q_ldp ?_)
    refine As ?_
    refine gend ?_
    refine awp_seq ?_
    refine awp_seq ?_
    refine rln ?_
    refine G (q_fap0 ?_)
    refine G (q_ldp ?_)
    refine G (q_neqi (y := 2) ?_)
    refine gend ?_
    refine cndY (fun hc8 => ?_) ?_; rotate_left
    · omega
    refine awp_seq ?_
    refine rln ?_
    refine G (q_fap0 ?_)
    refine G (q_ldp ?_)
    refine As ?_
    refine gend ?_
    refine awp_seq ?_
    refine rln ?_
    refine Mv ?_
    refine G (q_geq64 (y := 281474976710656) ?_)
    refine gend ?_
    refine cndY (fun hc9 => ?_) ?_; rotate_left
    · exact hk.2
    refine awp_seq ?_
    refine rln ?_
    refine G (q_ldw ?_)
    refine G (q_ldw ?_)
    refine G (q_fap0 ?_)
    refine G (q_ldp ?_)
    refine G2 (fun _ k_ => q_calln g17 k_ (ha := (caa (et rfl) sees_m (caa (et rfl) sees_m (cac rfl cm_int (cac (et rfl) sees_ro ca0)))))) ?_
    refine As ?_
    refine gend ?_
    refine rln ?_
    refine Mv ?_
    refine G (q_ixs1 ?_)
    refine G20 (fun _ k_ => q_stm (x := (255 : UInt8)) k_) ?_
    refine gend ?_
    refine awp_seq ?_
    refine awp_seq ?_
    refine rln ?_
    refine G (q_fap0 ?_)
    refine G (q_ldp ?_)
    refine G (q_eqli (y := 4) ?_)
    refine gend ?_
    refine cndY (fun hc10 => ?_) ?_; rotate_left
    · omega
    refine awp_mid ⟨frm 327 [(3, sc (.ro n (l.flatMap cA))), (5, sc (.ptr 1 0)), (6, sc (.ptr 2 0)), (9, sc (.ptr 3 0)), (11, sc (.ptr 13 0)), (12, sc (cn x.i)), (13, sc (.ptr 15 0)), (18, sc (.slc 16 0 (8 + (z.b.length + 16)) 1)), (20, sc (cn j))], [some (u8s a), some (u8s b), some (u8s hash), some (chC x.es (grl x.l / 64) 5 (decide (x.es ≠ 0)) 7 9 (decide ((grl x.l / 64) ≠ 0)) 11 x.sent 4 (grl x.l) (decide (0 < (x.l : List UInt64).length)) hash), some (wcs true x.wg x.wb), some (cC (.ptr 6 0) 0), some (u8s (S0 a x.es.toNat)), cb (decide (x.es ≠ 0)) 8, kb (decide (x.es ≠ 0)) (S1 a x.es.toNat), some (cC (.ptr 10 0) 0), some (u8s (S0 b (grl x.l / 64).toNat)), cb (decide ((grl x.l / 64) ≠ 0)) 12, kb (decide ((grl x.l / 64) ≠ 0)) (S1 b (grl x.l / 64).toNat), some (rH a b hash x.sent (.slc 14 0 x.l.length 1)), some (u64s x.l), some [ci z.kind, .ro z.b.length (u8s z.b), c64 z.n, ci z.at_], some (u8s (F.set 0 255))]⟩ ?_ ?_
    · refine rln ?_
      refine G (q_fap0 ?_)
      refine G (q_ldp ?_)
      refine Mv ?_
      refine G (q_lenc ?_)
      refine G (q_remi ?_)
      refine Mv ?_
      refine G (q_lenc ?_)
      refine G (q_addi ?_)
      refine Mv ?_
      refine G (q_lenc ?_)
      refine G (q_remi ?_)
      refine As ?_
      refine gend ?_
      exact sle_sub ⟨rfl, rfl, rfl, rfl, rfl, rfl, rfl, rfl, congrArg (fun t => sc (ci t)) hje, trivial⟩ rfl
    refine awp_seq ?_
    refine rln ?_
    refine Mv ?_
    refine Mv ?_
    refine G (q_lenc ?_)
    refine G (q_subn (y := 1) ?_)
    refine Mv ?_
    refine G (q_subn ?_)
    refine Mv ?_
    refine Mv ?_
    refine G (q_lenc ?_)
    refine G (q_subn (y := 1) ?_)
    refine Mv ?_
    refine G (q_subn ?_)
    refine G (q_ixs1 ?_)
    refine G (q_ldp ?_)
    refine G (q_xor8 (y := 1) ?_)
    refine G (q_ixs1 ?_)
    refine G20 (fun _ k_ => q_stm k_) ?_
    refine gend ?_
    refine awp_cut (α := Bool) (fun cq => ⟨frm 327 [(3, sc (.ro n (l.flatMap cA))), (5, sc (.ptr 1 0)), (6, sc (.ptr 2 0)), (9, sc (.ptr 3 0)), (11, sc (.ptr 13 0)), (12, sc (cn x.i)), (13, sc (.ptr 15 0)), (18, sc (.slc 16 0 (8 + (z.b.length + 16)) 1)), (210, sc (.bool cq))], [some (u8s a), some (u8s b), some (u8s hash), some (chC x.es (grl x.l / 64) 5 (decide (x.es ≠ 0)) 7 9 (decide ((grl x.l / 64) ≠ 0)) 11 x.sent 4 (grl x.l) (decide (0 < (x.l : List UInt64).length)) hash), some (wcs true x.wg x.wb), some (cC (.ptr 6 0) 0), some (u8s (S0 a x.es.toNat)), cb (decide (x.es ≠ 0)) 8, kb (decide (x.es ≠ 0)) (S1 a x.es.toNat), some (cC (.ptr 10 0) 0), some (u8s (S0 b (grl x.l / 64).toNat)), cb (decide ((grl x.l / 64) ≠ 0)) 12, kb (decide ((grl x.l / 64) ≠ 0)) (S1 b (grl x.l / 64).toNat), some (rH a b hash x.sent (.slc 14 0 x.l.length 1)), some (u64s x.l), some [ci z.kind, .ro z.b.length (u8s z.b), c64 z.n, ci z.at_], some (u8s ((F.set 0 255).set ((8 + (z.b.length + 16)) - 1 - j) ((F.set 0 255).getD ((8 + (z.b.length + 16)) - 1 - j) 0 ^^^ 1)))]⟩) ?_ (fun cq => ?_)
    · refine rln ?_
      refine Mv ?_
      refine Mv ?_
      refine G (q_lenc ?_)
      refine G (q_subn (y := 8) ?_)
      refine G (q_geqn ?_)
      refine Mv ?_
      refine Aspd 175 (fun hb6 => ?_) (fun hb6 => ?_)
      · refine Gg (q_mv (s := .v (.c _)) ?_)
        refine Gg (q_ixs1 ?_)
        refine Gg (q_ldp ?_)
        refine Gg (q_eql8 (y := 0) ?_)
        refine G (q_pkt ?_)
        refine Mv ?_
        refine Aspd 181 (fun hb12 => ?_) (fun hb12 => ?_)
        · refine Gg (q_mv (s := .v (.c _)) ?_)
          refine Gg (q_ixs1 ?_)
          refine Gg (q_ldp ?_)
          refine Gg (q_eql8 (y := 0) ?_)
          refine G (q_pkt ?_)
          refine Mv ?_
          refine Aspd 187 (fun hb18 => ?_) (fun hb18 => ?_)
          · refine Gg (q_mv (s := .v (.c _)) ?_)
            refine Gg (q_ixs1 ?_)
            refine Gg (q_ldp ?_)
            refine Gg (q_neq8 (y := 0) ?_)
            refine Gg (q_mv (s := .v (.c _)) ?_)
            refine Aspd 192 (fun hb23 => ?_) (fun hb23 => ?_)
            · refine Gn ?_
              refine Gn ?_
              refine Gn ?_
              refine Gn ?_
              refine Gg (q_pkt ?_)
              refine Gg (q_mv (s := .v (.c _)) ?_)
              refine Gn ?_
              refine Gn ?_
              refine Gn ?_
              refine Gn ?_
              refine Gg (q_pkt ?_)
              refine Gg (q_mv (s := .v (.c _)) ?_)
              refine Gn ?_
              refine Gn ?_
              refine Gn ?_
              refine Gn ?_
              refine Gg (q_pkt ?_)
              refine G (q_pkt ?_)
              refine gend ?_
              exact ⟨_, sle_sub ⟨rfl, rfl, rfl, rfl, rfl, rfl, rfl, rfl, rfl, trivial⟩ rfl⟩
            refine Gg (q_mv (s := .v (.c _)) ?_)
            refine Gg (q_ixs1 ?_)
            refine Gg (q_ldp ?_)
            refine Gg (q_neq8 (y := 0) ?_)
            refine Gg (q_pkf ?_)
            refine Gg (q_mv (s := .v (.c _)) ?_)
            refine Aspd 198 (fun hb29 => ?_) (fun hb29 => ?_)
            · refine Gn ?_
              refine Gn ?_
              refine Gn ?_
              refine Gn ?_
              refine Gg (q_pkt ?_)
              refine Gg (q_mv (s := .v (.c _)) ?_)
              refine Gn ?_
              refine Gn ?_
              refine Gn ?_
              refine Gn ?_
              refine Gg (q_pkt ?_)
              refine G (q_pkt ?_)
              refine gend ?_
              exact ⟨_, sle_sub ⟨rfl, rfl, rfl, rfl, rfl, rfl, rfl, rfl, rfl, trivial⟩ rfl⟩
            refine Gg (q_mv (s := .v (.c _)) ?_)
            refine Gg (q_ixs1 ?_)
            refine Gg (q_ldp ?_)
            refine Gg (q_neq8 (y := 0) ?_)
            refine Gg (q_pkf ?_)
            refine Gg (q_mv (s := .v (.c _)) ?_)
            refine Aspd 204 (fun hb35 => ?_) (fun hb35 => ?_)
            · refine Gn ?_
              refine Gn ?_
              refine Gn ?_
              refine Gn ?_
              refine Gg (q_pkt ?_)
              refine G (q_pkt ?_)
              refine gend ?_
              exact ⟨_, sle_sub ⟨rfl, rfl, rfl, rfl, rfl, rfl, rfl, rfl, rfl, trivial⟩ rfl⟩
            refine Gg (q_mv (s := .v (.c _)) ?_)
            refine Gg (q_ixs1 ?_)
            refine Gg (q_ldp ?_)
            refine Gg (q_neq8 (y := 0) ?_)
            refine Gg (q_pkf ?_)
            refine G (q_pkt ?_)
            refine gend ?_
            exact ⟨_, sle_sub ⟨rfl, rfl, rfl, rfl, rfl, rfl, rfl, rfl, rfl, trivial⟩ rfl⟩
          refine Gn ?_
          refine Gn ?_
          refine Gn ?_
          refine Gn ?_
          refine Gn ?_
          refine Gu ?_
          refine Gu ?_
          refine Gu ?_
          refine Gu ?_
          refine Gn ?_
          refine Gn ?_
          refine Gu ?_
          refine Gu ?_
          refine Gu ?_
          refine Gu ?_
          refine Gn ?_
          refine Gn ?_
          refine Gu ?_
          refine Gu ?_
          refine Gu ?_
          refine Gu ?_
          refine Gn ?_
          refine G (q_pkf ?_)
          refine gend ?_
          exact ⟨_, sle_sub ⟨rfl, rfl, rfl, rfl, rfl, rfl, rfl, rfl, rfl, trivial⟩ rfl⟩
        refine Gn ?_
        refine Gn ?_
        refine Gn ?_
        refine Gn ?_
        refine G (q_pkf ?_)
        refine Mv ?_
        refine Gn ?_
        refine Gn ?_
        refine Gn ?_
        refine Gn ?_
        refine Gn ?_
        refine Gu ?_
        refine Gu ?_
        refine Gu ?_
        refine Gu ?_
        refine Gn ?_
        refine Gn ?_
        refine Gu ?_
        refine Gu ?_
        refine Gu ?_
        refine Gu ?_
        refine Gn ?_
        refine Gn ?_
        refine Gu ?_
        refine Gu ?_
        refine Gu ?_
        refine Gu ?_
        refine Gn ?_
        refine G (q_pkf ?_)
        refine gend ?_
        exact ⟨_, sle_sub ⟨rfl, rfl, rfl, rfl, rfl, rfl, rfl, rfl, rfl, trivial⟩ rfl⟩
      refine Gn ?_
      refine Gn ?_
      refine Gn ?_
      refine Gn ?_
      refine G (q_pkf ?_)
      refine Mv ?_
      refine Gn ?_
      refine Gn ?_
      refine Gn ?_
      refine Gn ?_
      refine G (q_pkf ?_)
      refine Mv ?_
      refine Gn ?_
      refine Gn ?_
      refine Gn ?_
      refine Gn ?_
      refine Gn ?_
      refine Gu ?_
      refine Gu ?_
      refine Gu ?_
      refine Gu ?_
      refine Gn ?_
      refine Gn ?_
      refine Gu ?_
      refine Gu ?_
      refine Gu ?_
      refine Gu ?_
      refine Gn ?_
      refine Gn ?_
      refine Gu ?_
      refine Gu ?_
      refine Gu ?_
      refine Gu ?_
      refine Gn ?_
      refine G (q_pkf ?_)
      refine gend ?_
      exact ⟨_, sle_sub ⟨rfl, rfl, rfl, rfl, rfl, rfl, rfl, rfl, rfl, trivial⟩ rfl⟩
    refine cndb (fun hc11 => ?_) (fun hc11 => ?_)
    · refine awp_exit ?_
      refine rln ?_
      refine Mv ?_
      refine G (q_addn (y := 1) ?_)
      refine As ?_
      refine gend ?_
      exact ⟨⟨x.i + 1, x.es, x.sent, x.l, x.wg, x.wb, by omega, x.I, x.hM, by omega, x.he, by omega, by omega⟩, by show n - (x.i + 1) < n - x.i; omega, sle_ren [(0, true), (1, true), (2, true), (3, true), (4, true), (5, true), (6, true), (7, true), (8, true), (9, true), (10, true), (11, true), (12, true), (13, true), (14, true)] rfl (fun p h => absurd h (Nat.not_lt_zero _)) ⟨rs_fl (fun y => cA_cm y), rfl, rfl, rfl, rfl, rfl, trivial⟩ (Eq.symm (a := renL _ _ _) (rlT rfl sees_m (rlT rfl sees_m (rlT rfl sees_m (rlT rfl (chC_map rfl rfl rfl rfl rfl) (rlT rfl rfl (rlT rfl rfl (rlT rfl sees_m (rlB rfl (cb_map rfl) (rlB rfl kb_map (rlT rfl rfl (rlT rfl sees_m (rlB rfl (cb_map rfl) (rlB rfl kb_map (rlT rfl (rH_cm.trans rfl) (rlT rfl sees_m rl0))))))))))))))))⟩
    refine awp_skip ?_
    refine awp_seq ?_
    refine awp_seq ?_
    refine rln ?_
    refine G (q_fap0 ?_)
    refine G (q_ldp ?_)
    refine G (q_eqli (y := 2) ?_)
    refine Mv ?_
    refine Akfd 214 (fun hb4 => ?_) ?_; rotate_left
    · omega
    refine Gn ?_
    refine Gn ?_
    refine Gn ?_
    refine G (q_pkf ?_)
    refine Mv ?_
    refine Gn ?_
    refine Gn ?_
    refine Gn ?_
    refine Gn ?_
    refine G (q_pkf ?_)
    refine Mv ?_
    refine Gn ?_
    refine Gn ?_
    refine Gn ?_
    refine Gn ?_
    refine G (q_pkf ?_)
    refine Mv ?_
    refine Gn ?_
    refine Gn ?_
    refine Gn ?_
    refine Gn ?_
    refine Gn ?_
    refine Gu ?_
    refine Gu ?_
    refine Gu ?_
    refine Gu ?_
    refine Gn ?_
    refine Gn ?_
    refine Gu ?_
    refine Gu ?_
    refine Gu ?_
    refine Gu ?_
    refine Gn ?_
    refine Gn ?_
    refine Gu ?_
    refine Gu ?_
    refine Gu ?_
    refine Gu ?_
    refine Gn ?_
    refine G (q_pkf ?_)
    refine gend ?_
    refine cndF ?_
    refine awp_skip ?_
    refine awp_seq ?_
    refine rln ?_
    refine Mv ?_
    refine Mv ?_
    refine G2 (fun _ k_ => q_callv [3, 4, 5, 6, 7, 8, 9, 10, 11, 12] [some (chC x.es (grl o.2.2.2 / 64) 2 (decide (x.es ≠ 0)) 4 10 (decide ((grl o.2.2.2 / 64) ≠ 0)) 12 x.sent 1 (grl o.2.2.2) (decide (0 < (o.2.2.2 : List UInt64).length)) hash), some (wcs true (wn o x.wg x.wb).1 (wn o x.wg x.wb).2), some (cC (.ptr 3 0) 0), some (u8s (S0 a x.es.toNat)), cb (decide (x.es ≠ 0)) 5, kb (decide (x.es ≠ 0)) (S1 a x.es.toNat), none, none, none, none] [some (cC (.ptr 11 0) 0), some (u8s (S0 b (grl o.2.2.2 / 64).toNat)), cb (decide ((grl o.2.2.2 / 64) ≠ 0)) 13, kb (decide ((grl o.2.2.2 / 64) ≠ 0)) (S1 b (grl o.2.2.2 / 64).toNat), some (u8s o.1)] q1 k_ (ha := (cac (et rfl) rfl (cac (et rfl) (sees_slc rfl rfl (cut_h hFR)) ca0))) (e2 := (pl1 rfl (chC_map rfl rfl rfl rfl rfl) (pl1 rfl rfl (pl1 rfl rfl (pl1 rfl sees_m (plb rfl (cb_map rfl) (plb rfl kb_map (pl1 rfl rfl (pl1 rfl sees_m (plb rfl (cb_map rfl) (plb rfl kb_map pl0))))))))))) (eL := (ml1 (chC_map rfl rfl rfl rfl rfl) (ml1 rfl (ml1 rfl (ml1 sees_m (mlb (cb_map rfl) (mlb kb_map (mln (mln (mln (mln ml0))))))))))) (eM := (ml1 rfl (ml1 sees_m (mlb (cb_map rfl) (mlb kb_map (ml1 sees_m ml0)))))) (e3 := (vt3 rfl rfl rfl))) ?_
    refine G (q_mv (s := .t _) ?_)
    refine G (q_ext (y := .c _) ?_)
    refine G (q_ext (y := .c _) ?_)
    refine G (q_ext (y := .c _) ?_)
    refine As ?_
    refine As ?_
    refine As ?_
    refine gend ?_
    refine awp_seq ?_
    refine rln ?_
    refine Mv ?_
    refine Mv ?_
    refine G2 (fun _ k_ => q_callv [13, 14] [some (rH a b hash x.sent (.slc 2 0 o.2.2.2.length 1)), none] [some (u64s o.2.2.2), some (u8s o.1)] q2 k_ (ha := (cac (et rfl) rfl (cac (et rfl) (sees_slc rfl rfl (cut_h hFR)) ca0))) (e2 := (pl1 rfl (rH_cm.trans rfl) (pl1 rfl sees_m pl0))) (eL := (ml1 (rH_cm.trans rfl) (mln ml0))) (eM := (ml1 sees_m (ml1 sees_m ml0))) (e3 := (vt3 rfl rfl rfl))) ?_
    refine G (q_mv (s := .t _) ?_)
    refine G (q_ext (y := .c _) ?_)
    refine G (q_ext (y := .c _) ?_)
    refine G (q_ext (y := .c _) ?_)
    refine As ?_
    refine As ?_
    refine As ?_
    refine gend ?_
    refine awp_seq ?_
    refine rln ?_
    refine Mv ?_
    refine Mv ?_
    refine G (q_neqn ?_)
    refine Mv ?_
    refine Akfd 281 (fun hb4 => ?_) ?_; rotate_left
    · exact fun h => h rfl
    refine Gg (q_mv (s := .v (.c _)) ?_)
    refine Gg (q_mv (s := .v (.c _)) ?_)
    refine Gg (q_neq64 ?_)
    refine G (q_pkf ?_)
    refine Mv ?_
    refine Akfd 286 (fun hb9 => ?_) ?_; rotate_left
    · exact fun h => h rfl
    refine Gg (q_mv (s := .v (.c _)) ?_)
    refine Gg (q_csl ?_)
    refine Gg (q_mv (s := .v (.c _)) ?_)
    refine Gg (q_csl ?_)
    refine Gg (q_neqs ?_)
    refine G (q_pkf ?_)
    refine gend ?_
    refine cndnN (fun hc12 => ?_) ?_; rotate_left
    · simp
    refine awp_skip ?_
    refine awp_seq ?_
    refine rln ?_
    refine Mv ?_
    refine G2 (fun _ k_ => q_callp (cgreat _ _ _ _ _ _ _ _ _ _ _) k_ (ha := (cac (et rfl) (sees_ch rfl rfl rfl rfl) ca0))) ?_
    refine G (q_mv (s := .t _) ?_)
    refine G (q_ext (y := .c _) ?_)
    refine G (q_ext (y := .c _) ?_)
    refine As ?_
    refine As ?_
    refine gend ?_
    refine awp_seq ?_
    refine rln ?_
    refine Mv ?_
    refine G2 (fun _ k_ => q_callp (rgr_ a b hash x.sent o.2.2.2 ha hb hh (by omega)) k_ (ha := (cac (et rfl) (sees_rH ha rfl rfl rfl rfl) ca0))) ?_
    refine G (q_mv (s := .t _) ?_)
    refine G (q_ext (y := .c _) ?_)
    refine G (q_ext (y := .c _) ?_)
    refine As ?_
    refine As ?_
    refine gend ?_
    refine awp_seq ?_
    refine rdln [1, 19] [0, 0, 0, 0, 0, 0, 1, 1, 1, 1, 1, 1, 1, 1, 1, 1, 1, 1, 1, 1, 1, 2, 2] [0, 1, 1, 1, 1, 1, 1, 1, 1, 1, 1, 1, 1, 1, 1, 1, 1, 1, 1, 2, 2, 2, 2] ?_
    refine Dp (fun _ => q_mv (s := .v (.c _)) ⟨rfl, rfl⟩) ?_
    refine De2 (fun _ k_ => q_callp (csent _ _ _ _ _ _ _ _ _ _ _) k_ (ha := (cac (et rfl) (sees_ch rfl rfl rfl rfl) ca0))) ?_
    refine Dp (fun _ => q_mv (s := .v (.c _)) ⟨rfl, rfl⟩) ?_
    refine Dp (fun _ => q_ncp ⟨rfl, rfl⟩) ?_
    refine Dp (fun _ => q_fap0 ⟨rfl, rfl⟩) ?_
    refine DLp  ?_ (hc := rH_n ha hb hh)
    refine Dp (fun _ => q_neq64 ⟨rfl, rfl⟩) ?_
    refine Dp (fun _ => q_mv (s := .v (.c _)) ⟨rfl, rfl⟩) ?_
    refine Dkfd 310 (fun hb8 => ?_) ?_; rotate_left
    · exact fun h => h rfl
    refine Dpg (fun _ => q_mv (s := .v (.c _)) ⟨rfl, rfl⟩) ?_
    refine Dpg (fun _ => q_mv (s := .v (.c _)) ⟨rfl, rfl⟩) ?_
    refine Dpg (fun _ => q_neq64 ⟨rfl, rfl⟩) ?_
    refine Dp (fun _ => q_pkf ⟨rfl, rfl⟩) ?_
    refine Dp (fun _ => q_mv (s := .v (.c _)) ⟨rfl, rfl⟩) ?_
    refine Dkfd 315 (fun hb13 => ?_) ?_; rotate_left
    · exact fun h => h rfl
    refine Dpg (fun _ => q_mv (s := .v (.c _)) ⟨rfl, rfl⟩) ?_
    refine Dpg (fun _ => q_mv (s := .v (.c _)) ⟨rfl, rfl⟩) ?_
    refine Dpg (fun _ => q_neqb ⟨rfl, rfl⟩) ?_
    refine Dp (fun _ => q_pkf ⟨rfl, rfl⟩) ?_
    refine Dp (fun _ => q_mv (s := .v (.c _)) ⟨rfl, rfl⟩) ?_
    refine Dkf 320 (fun hb18 => ?_) ?_; rotate_left
    · simp
    refine Dpg (fun _ => q_mv (s := .v (.c _)) ⟨rfl, rfl⟩) ?_
    refine De2g (fun _ k_ => q_callp (chash _ _ _ _ _ _ _ _ _ _ _ hh) k_ (ha := (cac (et rfl) (sees_ch rfl rfl rfl rfl) ca0))) ?_
    refine DLwg ?_
    refine Dpg (fun _ => q_nea8 ⟨rfl, rfl⟩) ?_
    refine Dp (fun _ => q_pkf ⟨rfl, rfl⟩) ?_
    refine dend ?_
    refine cndnN (fun hc13 => ?_) ?_; rotate_left
    · simp
    refine awp_skip ?_
    refine rln ?_
    refine Mv ?_
    refine G (q_addn (y := 1) ?_)
    refine As ?_
    refine gend ?_
    exact ⟨⟨x.i + 1, x.es, x.sent, o.2.2.2, (wn o x.wg x.wb).1, (wn o x.wg x.wb).2, by omega, I2.1, I2.2, by omega, x.he, by omega, by omega⟩, by show n - (x.i + 1) < n - x.i; omega, sle_ren [(0, true), (1, true), (2, true), (3, true), (4, true), (5, true), (6, true), (7, true), (8, true), (17, true), (18, true), (19, true), (20, true), (13, true), (22, true)] rfl (fun p h => absurd h (Nat.not_lt_zero _)) ⟨rs_fl (fun y => cA_cm y), rfl, rfl, rfl, rfl, rfl, trivial⟩ (Eq.symm (a := renL _ _ _) (rlT rfl sees_m (rlT rfl sees_m (rlT rfl sees_m (rlT rfl (chC_map rfl rfl rfl rfl rfl) (rlT rfl rfl (rlT rfl rfl (rlT rfl sees_m (rlB rfl (cb_map rfl) (rlB rfl kb_map (rlT rfl rfl (rlT rfl sees_m (rlB rfl (cb_map rfl) (rlB rfl kb_map (rlT rfl (rH_cm.trans rfl) (rlT rfl sees_m rl0))))))))))))))))⟩
end Go.Proofs.Ytklcckngmmklhaa


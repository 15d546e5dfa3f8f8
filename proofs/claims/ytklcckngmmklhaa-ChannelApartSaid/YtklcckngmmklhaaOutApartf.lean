/- Texts that the proof stands on, put together: the abstract machine, and what functions do over it. -/
import Derived.Test.YtklcckngmmklhaaOutAparte
/- What functions of the program do, walked over the abstract machine. -/
namespace Go.Proofs.Ytklcckngmmklhaa
open Go Go.Abs Go.Proofs Go.Proofs.Ytklcckngmmklhaa.Ch Go.Proofs.Ytklcckngmmklhaa.Po Go.Proofs.Ytklcckngmmklhaa.Ae Go.Proofs.Ytklcckngmmklhaa.Wd

set_option maxRecDepth 20000
theorem chopen_z (k r hash : List UInt8) (es sent : UInt64) (hk : k.length = 32) (hr : r.length = 32) (hh : hash.length = 32) (c : List UInt8) (n : Nat) (hc : c.length = n) (hn : n ≤ 4096) : Good Try.prog 11 [.c (.ptr 0 0), .c (.ro (8 + (n + 16)) (u8s (fr19 r hash 0 c)))] [some (chC es (grl [] / 64) 2 (decide (es ≠ 0)) 4 6 (decide ((grl [] / 64) ≠ 0)) 8 sent 1 (grl []) (decide (0 < ([] : List UInt64).length)) hash), some (wcs true 0 0), some (cC (.ptr 3 0) 0), some (u8s (S0 k es.toNat)), cb (decide (es ≠ 0)) 5, kb (decide (es ≠ 0)) (S1 k es.toNat), some (cC (.ptr 7 0) 0), some (u8s (S0 r (grl [] / 64).toNat)), cb (decide ((grl [] / 64) ≠ 0)) 9, kb (decide ((grl [] / 64) ≠ 0)) (S1 r (grl [] / 64).toNat)] (.t [.c (.slc 10 0 n 1), .c (c64 0), .c (cn 0)]) [some (chC es (grl [] / 64) 2 (decide (es ≠ 0)) 4 6 (decide ((grl [] / 64) ≠ 0)) 8 sent 1 (mx (grl []) 0) true hash), some (wcs true (wnext true 0 0 0).1 (wnext true 0 0 0).2), some (cC (.ptr 3 0) 0), some (u8s (S0 k es.toNat)), cb (decide (es ≠ 0)) 5, kb (decide (es ≠ 0)) (S1 k es.toNat), some (cC (.ptr 7 0) 0), some (u8s (S0 r (grl [] / 64).toNat)), cb (decide ((grl [] / 64) ≠ 0)) 9, kb (decide ((grl [] / 64) ≠ 0)) (S1 r (grl [] / 64).toNat), some (u8s c)] := by
  have h := chopen_n0_ok k r hash es (grl [] / 64) sent (grl []) (decide (0 < ([] : List UInt64).length)) 0 0 hk hr hh (fr19 r hash 0 c) (8 + (n + 16)) 0 (by rw [fr19_len, hc]) (by omega) (by omega) (by rw [gt_rg, fr19_take]) (by decide) (by decide) (by decide) (by decide) (by decide) rfl c (by rw [fr19_drop]; exact aopen_aseal ..)
  rw [hc] at h
  exact h
set_option maxHeartbeats 800000 in
/-- escutcheonlaw19.ChannelApart -/
theorem apart_bad (a b hash content bytes : List UInt8) (n f : Nat) (ha : a.length = 32) (hb : b.length = 32) (hh : hash.length = 32) (hc : content.length = n) (hf : bytes.length = f) (hz : (op19 a hash [] bytes).2.2.1 ≠ 0) : Good Try.prog 6 [.a (u8s a), .a (u8s b), .a (u8s hash), .c (.ro n (u8s content)), .c (.ro f (u8s bytes))] [] (sc (.bool true)) [] := by
  refine good_frm 197 Try.func6 rfl rfl rfl rfl rfl rfl ?_
  refine awp_seq ?_
  refine rln ?_
  refine G2 (fun _ k_ => q_boxa k_) ?_
  refine G2 (fun _ k_ => q_boxa k_) ?_
  refine G2 (fun _ k_ => q_boxa k_) ?_
  refine As ?_
  refine gend ?_
  refine awp_seq ?_
  refine awp_cut (α := {z : Bool // z = false → n ≤ 200 ∧ f ≤ 300}) (fun cq => ⟨frm 197 [(3, sc (.ro n (u8s content))), (4, sc (.ro f (u8s bytes))), (5, sc (.ptr 0 0)), (6, sc (.ptr 1 0)), (7, sc (.ptr 2 0)), (79, sc (.bool cq.1))], [some (u8s a), some (u8s b), some (u8s hash)]⟩) ?_ (fun cq => ?_)
  · refine rln ?_
    refine Mv ?_
    refine G (q_leno ?_)
    refine G (q_gtrn (y := 200) ?_)
    refine Mv ?_
    refine Aspd 34 (fun hb4 => ?_) (fun hb4 => ?_)
    · refine Gn ?_
      refine Gn ?_
      refine Gn ?_
      refine G (q_pkt ?_)
      refine Mv ?_
      refine Gn ?_
      refine Gn ?_
      refine Gn ?_
      refine Gn ?_
      refine Gu ?_
      refine Gu ?_
      refine Gu ?_
      refine Gu ?_
      refine Gu ?_
      refine Gu ?_
      refine Gu ?_
      refine Gu ?_
      refine Gu ?_
      refine Gu ?_
      refine Gu ?_
      refine Gu ?_
      refine Gu ?_
      refine Gu ?_
      refine Gu ?_
      refine Gu ?_
      refine Gu ?_
      refine Gu ?_
      refine Gu ?_
      refine Gu ?_
      refine Gu ?_
      refine Gu ?_
      refine Gu ?_
      refine Gu ?_
      refine Gu ?_
      refine Gu ?_
      refine Gu ?_
      refine Gu ?_
      refine Gu ?_
      refine Gu ?_
      refine Gu ?_
      refine Gu ?_
      refine Gu ?_
      refine Gu ?_
      refine Gn ?_
      refine G (q_pkt ?_)
      refine gend ?_
      exact (by refine ⟨⟨_, ?_⟩, sle_sub ⟨rfl, rfl, rfl, rfl, rfl, rfl, trivial⟩ rfl⟩; first | exact (fun h => Bool.noConfusion h) | exact (fun _ => by omega))
    refine Gg (q_mv (s := .v (.c _)) ?_)
    refine Gg (q_leno ?_)
    refine Gg (q_gtrn (y := 300) ?_)
    refine G (q_pkf ?_)
    refine Mv ?_
    refine Aspd 39 (fun hb9 => ?_) (fun hb9 => ?_)
    · refine Gn ?_
      refine Gn ?_
      refine Gn ?_
      refine Gn ?_
      refine Gu ?_
      refine Gu ?_
      refine Gu ?_
      refine Gu ?_
      refine Gu ?_
      refine Gu ?_
      refine Gu ?_
      refine Gu ?_
      refine Gu ?_
      refine Gu ?_
      refine Gu ?_
      refine Gu ?_
      refine Gu ?_
      refine Gu ?_
      refine Gu ?_
      refine Gu ?_
      refine Gu ?_
      refine Gu ?_
      refine Gu ?_
      refine Gu ?_
      refine Gu ?_
      refine Gu ?_
      refine Gu ?_
      refine Gu ?_
      refine Gu ?_
      refine Gu ?_
      refine Gu ?_
      refine Gu ?_
      refine Gu ?_
      refine Gu ?_
      refine Gu ?_
      refine Gu ?_
      refine Gu ?_
      refine Gu ?_
      refine Gn ?_
      refine G (q_pkt ?_)
      refine gend ?_
      exact (by refine ⟨⟨_, ?_⟩, sle_sub ⟨rfl, rfl, rfl, rfl, rfl, rfl, trivial⟩ rfl⟩; first | exact (fun h => Bool.noConfusion h) | exact (fun _ => by omega))
    refine Gg (q_mv (s := .v (.c _)) ?_)
    refine Gg (q_leno ?_)
    refine Gg (q_geqn (y := 8) ?_)
    refine Gg (q_mv (s := .v (.c _)) ?_)
    refine Aspd 43 (fun hb13 => ?_) (fun hb13 => ?_)
    · refine Gg (q_mv (s := .v (.c _)) ?_)
      refine Gg (q_ixo1 ?_)
      refine Gg (q_ldrd ?_)
      refine Gg (q_neq8 (y := 0) ?_)
      refine Gg (q_mv (s := .v (.c _)) ?_)
      refine Aspd 48 (fun hb18 => ?_) (fun hb18 => ?_)
      · refine Gn ?_
        refine Gn ?_
        refine Gn ?_
        refine Gn ?_
        refine Gg (q_pkt ?_)
        refine Gg (q_mv (s := .v (.c _)) ?_)
        refine Gn ?_
        refine Gn ?_
        refine Gn ?_
        refine Gn ?_
        refine Gg (q_pkt ?_)
        refine Gg (q_mv (s := .v (.c _)) ?_)
        refine Gn ?_
        refine Gn ?_
        refine Gn ?_
        refine Gn ?_
        refine Gg (q_pkt ?_)
        refine Gg (q_mv (s := .v (.c _)) ?_)
        refine Gn ?_
        refine Gn ?_
        refine Gn ?_
        refine Gn ?_
        refine Gg (q_pkt ?_)
        refine Gg (q_mv (s := .v (.c _)) ?_)
        refine Gn ?_
        refine Gn ?_
        refine Gn ?_
        refine Gn ?_
        refine Gg (q_pkt ?_)
        refine Gg (q_pkt ?_)
        refine G (q_pkf ?_)
        refine gend ?_
        exact (by refine ⟨⟨_, ?_⟩, sle_sub ⟨rfl, rfl, rfl, rfl, rfl, rfl, trivial⟩ rfl⟩; first | exact (fun h => Bool.noConfusion h) | exact (fun _ => by omega))
      refine Gg (q_mv (s := .v (.c _)) ?_)
      refine Gg (q_ixo1 ?_)
      refine Gg (q_ldrd ?_)
      refine Gg (q_neq8 (y := 0) ?_)
      refine Gg (q_pkf ?_)
      refine Gg (q_mv (s := .v (.c _)) ?_)
      refine Aspd 54 (fun hb24 => ?_) (fun hb24 => ?_)
      · refine Gn ?_
        refine Gn ?_
        refine Gn ?_
        refine Gn ?_
        refine Gg (q_pkt ?_)
        refine Gg (q_mv (s := .v (.c _)) ?_)
        refine Gn ?_
        refine Gn ?_
        refine Gn ?_
        refine Gn ?_
        refine Gg (q_pkt ?_)
        refine Gg (q_mv (s := .v (.c _)) ?_)
        refine Gn ?_
        refine Gn ?_
        refine Gn ?_
        refine Gn ?_
        refine Gg (q_pkt ?_)
        refine Gg (q_mv (s := .v (.c _)) ?_)
        refine Gn ?_
        refine Gn ?_
        refine Gn ?_
        refine Gn ?_
        refine Gg (q_pkt ?_)
        refine Gg (q_pkt ?_)
        refine G (q_pkf ?_)
        refine gend ?_
        exact (by refine ⟨⟨_, ?_⟩, sle_sub ⟨rfl, rfl, rfl, rfl, rfl, rfl, trivial⟩ rfl⟩; first | exact (fun h => Bool.noConfusion h) | exact (fun _ => by omega))
      refine Gg (q_mv (s := .v (.c _)) ?_)
      refine Gg (q_ixo1 ?_)
      refine Gg (q_ldrd ?_)
      refine Gg (q_neq8 (y := 0) ?_)
      refine Gg (q_pkf ?_)
      refine Gg (q_mv (s := .v (.c _)) ?_)
      refine Aspd 60 (fun hb30 => ?_) (fun hb30 => ?_)
      · refine Gn ?_
        refine Gn ?_
        refine Gn ?_
        refine Gn ?_
        refine Gg (q_pkt ?_)
        refine Gg (q_mv (s := .v (.c _)) ?_)
        refine Gn ?_
        refine Gn ?_
        refine Gn ?_
        refine Gn ?_
        refine Gg (q_pkt ?_)
        refine Gg (q_mv (s := .v (.c _)) ?_)
        refine Gn ?_
        refine Gn ?_
        refine Gn ?_
        refine Gn ?_
        refine Gg (q_pkt ?_)
        refine Gg (q_pkt ?_)
        refine G (q_pkf ?_)
        refine gend ?_
        exact (by refine ⟨⟨_, ?_⟩, sle_sub ⟨rfl, rfl, rfl, rfl, rfl, rfl, trivial⟩ rfl⟩; first | exact (fun h => Bool.noConfusion h) | exact (fun _ => by omega))
      refine Gg (q_mv (s := .v (.c _)) ?_)
      refine Gg (q_ixo1 ?_)
      refine Gg (q_ldrd ?_)
      refine Gg (q_neq8 (y := 0) ?_)
      refine Gg (q_pkf ?_)
      refine Gg (q_mv (s := .v (.c _)) ?_)
      refine Aspd 66 (fun hb36 => ?_) (fun hb36 => ?_)
      · refine Gn ?_
        refine Gn ?_
        refine Gn ?_
        refine Gn ?_
        refine Gg (q_pkt ?_)
        refine Gg (q_mv (s := .v (.c _)) ?_)
        refine Gn ?_
        refine Gn ?_
        refine Gn ?_
        refine Gn ?_
        refine Gg (q_pkt ?_)
        refine Gg (q_pkt ?_)
        refine G (q_pkf ?_)
        refine gend ?_
        exact (by refine ⟨⟨_, ?_⟩, sle_sub ⟨rfl, rfl, rfl, rfl, rfl, rfl, trivial⟩ rfl⟩; first | exact (fun h => Bool.noConfusion h) | exact (fun _ => by omega))
      refine Gg (q_mv (s := .v (.c _)) ?_)
      refine Gg (q_ixo1 ?_)
      refine Gg (q_ldrd ?_)
      refine Gg (q_neq8 (y := 0) ?_)
      refine Gg (q_pkf ?_)
      refine Gg (q_mv (s := .v (.c _)) ?_)
      refine Aspd 72 (fun hb42 => ?_) (fun hb42 => ?_)
      · refine Gn ?_
        refine Gn ?_
        refine Gn ?_
        refine Gn ?_
        refine Gg (q_pkt ?_)
        refine Gg (q_pkt ?_)
        refine G (q_pkf ?_)
        refine gend ?_
        exact (by refine ⟨⟨_, ?_⟩, sle_sub ⟨rfl, rfl, rfl, rfl, rfl, rfl, trivial⟩ rfl⟩; first | exact (fun h => Bool.noConfusion h) | exact (fun _ => by omega))
      refine Gg (q_mv (s := .v (.c _)) ?_)
      refine Gg (q_ixo1 ?_)
      refine Gg (q_ldrd ?_)
      refine Gg (q_neq8 (y := 0) ?_)
      refine Gg (q_pkf ?_)
      refine Gg (q_pkt ?_)
      refine G (q_pkf ?_)
      refine gend ?_
      exact (by refine ⟨⟨_, ?_⟩, sle_sub ⟨rfl, rfl, rfl, rfl, rfl, rfl, trivial⟩ rfl⟩; first | exact (fun h => Bool.noConfusion h) | exact (fun _ => by omega))
    refine Gn ?_
    refine Gn ?_
    refine Gn ?_
    refine Gn ?_
    refine Gn ?_
    refine Gu ?_
    refine Gu ?_
    refine Gu ?_
    refine Gu ?_
    refine Gn ?_
    refine Gn ?_
    refine Gu ?_
    refine Gu ?_
    refine Gu ?_
    refine Gu ?_
    refine Gn ?_
    refine Gn ?_
    refine Gu ?_
    refine Gu ?_
    refine Gu ?_
    refine Gu ?_
    refine Gn ?_
    refine Gn ?_
    refine Gu ?_
    refine Gu ?_
    refine Gu ?_
    refine Gu ?_
    refine Gn ?_
    refine Gn ?_
    refine Gu ?_
    refine Gu ?_
    refine Gu ?_
    refine Gu ?_
    refine Gn ?_
    refine Gg (q_pkf ?_)
    refine G (q_pkf ?_)
    refine gend ?_
    exact (by refine ⟨⟨_, ?_⟩, sle_sub ⟨rfl, rfl, rfl, rfl, rfl, rfl, trivial⟩ rfl⟩; first | exact (fun h => Bool.noConfusion h) | exact (fun _ => by omega))
  refine cndb (fun hc1 => ?_) (fun hc1 => ?_)
  · refine awp_seq ?_
    refine rln ?_
    refine G2 (fun _ k_ => q_callp known_ k_) ?_
    refine As ?_
    refine gend ?_
    refine awp_ret ?_
    exact fp1
  have hn9 := (cq.2 hc1).1
  have hfl := fr19_len (s := a) (h := hash) (n := 0) (c := content)
  have hfl1 := fr19_len (s := a) (h := hash) (n := 0 + 1) (c := content)
  rw [hc] at hfl hfl1
  obtain ⟨F0, hF0⟩ : ∃ z, fr19 a hash 0 content = z := ⟨_, rfl⟩
  obtain ⟨F1, hF1⟩ : ∃ z, fr19 a hash (0 + 1) content = z := ⟨_, rfl⟩
  rw [hF0] at hfl
  rw [hF1] at hfl1
  have q1 := (chseal_n0 a b hash (0 : UInt64) (grl [] / 64) (0 : UInt64) (grl []) (decide (0 < ([] : List UInt64).length)) 0 0 ha hb hh content n hc (by omega) (by decide) (by decide) (by decide))
  rw [hF0] at q1
  have q11 := chopen_z b a hash (0 : UInt64) (0 : UInt64) hb ha hh content n hc (by omega)
  rw [hF0] at q11
  have q12 := chopen_z b a hash (0 : UInt64) (0 : UInt64) hb ha hh content n hc (by omega)
  rw [hF0] at q12
  have q2 := (chseal_n0 a b hash ((0 : UInt64) / 64) (grl [] / 64) ((0 : UInt64) + 1) (grl []) (decide (0 < ([] : List UInt64).length)) 0 0 ha hb hh content n hc (by omega) (by decide) (by decide) (by decide))
  rw [hF1] at q2
  have q3 := (chseal_n0 a b hash ((0 : UInt64) / 64) (grl [] / 64) ((0 : UInt64) + 1) (grl []) (decide (0 < ([] : List UInt64).length)) 0 0 ha hb hh content n hc (by omega) (by decide) (by decide) (by decide))
  rw [hF1] at q3
  refine awp_skip ?_
  refine awp_seq ?_
  refine rln ?_
  refine G (q_ldw ?_)
  refine G (q_ldw ?_)
  refine G (q_ldw ?_)
  refine G2 (fun _ k_ => q_callv [] [] [some (chC (0 : UInt64) (grl [] / 64) 2 (decide ((0 : UInt64) ≠ 0)) 4 6 (decide ((grl [] / 64) ≠ 0)) 8 (0 : UInt64) 1 (grl []) (decide (0 < ([] : List UInt64).length)) hash), some (wcs true 0 0), some (cC (.ptr 3 0) 0), some (u8s (S0 a (0 : UInt64).toNat)), cb (decide ((0 : UInt64) ≠ 0)) 5, kb (decide ((0 : UInt64) ≠ 0)) (S1 a (0 : UInt64).toNat), some (cC (.ptr 7 0) 0), some (u8s (S0 b (grl [] / 64).toNat)), cb (decide ((grl [] / 64) ≠ 0)) 9, kb (decide ((grl [] / 64) ≠ 0)) (S1 b (grl [] / 64).toNat), some (chC (0 : UInt64) (grl [] / 64) 12 (decide ((0 : UInt64) ≠ 0)) 14 16 (decide ((grl [] / 64) ≠ 0)) 18 (0 : UInt64) 11 (grl []) (decide (0 < ([] : List UInt64).length)) hash), some (wcs true 0 0), some (cC (.ptr 13 0) 0), some (u8s (S0 b (0 : UInt64).toNat)), cb (decide ((0 : UInt64) ≠ 0)) 15, kb (decide ((0 : UInt64) ≠ 0)) (S1 b (0 : UInt64).toNat), some (cC (.ptr 17 0) 0), some (u8s (S0 a (grl [] / 64).toNat)), cb (decide ((grl [] / 64) ≠ 0)) 19, kb (decide ((grl [] / 64) ≠ 0)) (S1 a (grl [] / 64).toNat)] (two_ a b hash ha hb hh) k_ (ha := (caa (et rfl) sees_m (caa (et rfl) sees_m (caa (et rfl) sees_m ca0)))) (e2 := pl0) (eL := ml0) (eM := (ml1 (chC_map rfl rfl rfl rfl rfl) (ml1 rfl (ml1 rfl (ml1 sees_m (mlb (cb_map rfl) (mlb kb_map (ml1 rfl (ml1 sees_m (mlb (cb_map rfl) (mlb kb_map (ml1 (chC_map rfl rfl rfl rfl rfl) (ml1 rfl (ml1 rfl (ml1 sees_m (mlb (cb_map rfl) (mlb kb_map (ml1 rfl (ml1 sees_m (mlb (cb_map rfl) (mlb kb_map ml0)))))))))))))))))))))) ?_
  refine G (q_mv (s := .t _) ?_)
  refine G (q_ext (y := .c _) ?_)
  refine G (q_ext (y := .c _) ?_)
  refine As ?_
  refine As ?_
  refine gend ?_
  refine awp_seq ?_
  refine rln ?_
  refine Mv ?_
  refine Mv ?_
  refine G2 (fun _ k_ => q_callv [3, 4, 5, 6, 7, 8, 9, 10, 11, 12] [some (chC ((0 : UInt64) / 64) (grl [] / 64) 2 (decide (((0 : UInt64) / 64) ≠ 0)) 4 6 (decide ((grl [] / 64) ≠ 0)) 8 ((0 : UInt64) + 1) 1 (grl []) (decide (0 < ([] : List UInt64).length)) hash), some (wcs true 0 0), some (cC (.ptr 3 0) 0), some (u8s (S0 a ((0 : UInt64) / 64).toNat)), cb (decide (((0 : UInt64) / 64) ≠ 0)) 5, kb (decide (((0 : UInt64) / 64) ≠ 0)) (S1 a ((0 : UInt64) / 64).toNat), some (cC (.ptr 7 0) 0), some (u8s (S0 b (grl [] / 64).toNat)), cb (decide ((grl [] / 64) ≠ 0)) 9, kb (decide ((grl [] / 64) ≠ 0)) (S1 b (grl [] / 64).toNat)] [some (u8s F0)] q1 k_ (ha := (cac (et rfl) rfl (cac (et rfl) sees_ro ca0))) (e2 := (pl1 rfl (chC_map rfl rfl rfl rfl rfl) (pl1 rfl rfl (pl1 rfl rfl (pl1 rfl sees_m (plb rfl (cb_map rfl) (plb rfl kb_map (pl1 rfl rfl (pl1 rfl sees_m (plb rfl (cb_map rfl) (plb rfl kb_map pl0))))))))))) (eL := (ml1 (chC_map rfl rfl rfl rfl rfl) (ml1 rfl (ml1 rfl (ml1 sees_m (mlb (cb_map rfl) (mlb kb_map (ml1 rfl (ml1 sees_m (mlb (cb_map rfl) (mlb kb_map ml0))))))))))) (eM := (ml1 sees_m ml0))) ?_
  refine G (q_mv (s := .t _) ?_)
  refine G (q_ext (y := .c _) ?_)
  refine G (q_ext (y := .c _) ?_)
  refine As ?_
  refine As ?_
  refine gend ?_
  refine awp_seq ?_
  refine rln ?_
  refine Mv ?_
  refine G2 (fun _ k_ => q_callv [13, 14, 15, 16, 17, 18, 19, 20, 21, 22] [some (chC (0 : UInt64) (grl [] / 64) 2 (decide ((0 : UInt64) ≠ 0)) 4 6 (decide ((grl [] / 64) ≠ 0)) 8 (0 : UInt64) 1 (grl []) (decide (0 < ([] : List UInt64).length)) hash), some (wcs true 0 0), some (cC (.ptr 3 0) 0), some (u8s (S0 b (0 : UInt64).toNat)), cb (decide ((0 : UInt64) ≠ 0)) 5, kb (decide ((0 : UInt64) ≠ 0)) (S1 b (0 : UInt64).toNat), some (cC (.ptr 7 0) 0), some (u8s (S0 a (grl [] / 64).toNat)), cb (decide ((grl [] / 64) ≠ 0)) 9, kb (decide ((grl [] / 64) ≠ 0)) (S1 a (grl [] / 64).toNat)] [some (chC (0 : UInt64) (grl [] / 64) 2 (decide ((0 : UInt64) ≠ 0)) 4 6 (decide ((grl [] / 64) ≠ 0)) 8 (0 : UInt64) 11 (grl []) (decide (0 < ([] : List UInt64).length)) hash), some (wcs true 0 0)] (chcopy (0 : UInt64) (grl [] / 64) (0 : UInt64) (grl []) (decide ((0 : UInt64) ≠ 0)) (decide ((grl [] / 64) ≠ 0)) (decide (0 < ([] : List UInt64).length)) hash (S0 b (0 : UInt64).toNat) (S1 b (0 : UInt64).toNat) (S0 a (grl [] / 64).toNat) (S1 a (grl [] / 64).toNat) 0 0 hh) k_ (ha := (cac (et rfl) rfl ca0)) (e2 := (pl1 rfl (chC_map rfl rfl rfl rfl rfl) (pl1 rfl rfl (pl1 rfl rfl (pl1 rfl sees_m (plb rfl (cb_map rfl) (plb rfl kb_map (pl1 rfl rfl (pl1 rfl sees_m (plb rfl (cb_map rfl) (plb rfl kb_map pl0))))))))))) (eL := (ml1 (chC_map rfl rfl rfl rfl rfl) (ml1 rfl (ml1 rfl (ml1 sees_m (mlb (cb_map rfl) (mlb kb_map (ml1 rfl (ml1 sees_m (mlb (cb_map rfl) (mlb kb_map ml0))))))))))) (eM := (ml1 (chC_map rfl rfl rfl rfl rfl) (ml1 rfl ml0)))) ?_
  refine As ?_
  refine gend ?_
  refine awp_seq ?_
  refine rln ?_
  refine Mv ?_
  refine Mv ?_
  refine G2 (fun _ k_ => q_callv [13, 14, 15, 16, 17, 18, 19, 20, 21, 22] [some (chC (0 : UInt64) (grl [] / 64) 2 (decide ((0 : UInt64) ≠ 0)) 4 6 (decide ((grl [] / 64) ≠ 0)) 8 (0 : UInt64) 1 (grl []) (decide (0 < ([] : List UInt64).length)) hash), some (wcs true 0 0), some (cC (.ptr 3 0) 0), some (u8s (S0 b (0 : UInt64).toNat)), cb (decide ((0 : UInt64) ≠ 0)) 5, kb (decide ((0 : UInt64) ≠ 0)) (S1 b (0 : UInt64).toNat), some (cC (.ptr 7 0) 0), some (u8s (S0 a (grl [] / 64).toNat)), cb (decide ((grl [] / 64) ≠ 0)) 9, kb (decide ((grl [] / 64) ≠ 0)) (S1 a (grl [] / 64).toNat)] [] (chopen_e b a hash (0 : UInt64) (0 : UInt64) [] 0 0 hb ha hh inv_nil (fun _ h => absurd h List.not_mem_nil) bytes f hf hz) k_ (ha := (cac (et rfl) rfl (cac (et rfl) sees_ro ca0))) (e2 := (pl1 rfl (chC_map rfl rfl rfl rfl rfl) (pl1 rfl rfl (pl1 rfl rfl (pl1 rfl sees_m (plb rfl (cb_map rfl) (plb rfl kb_map (pl1 rfl rfl (pl1 rfl sees_m (plb rfl (cb_map rfl) (plb rfl kb_map pl0))))))))))) (eL := (ml1 (chC_map rfl rfl rfl rfl rfl) (ml1 rfl (ml1 rfl (ml1 sees_m (mlb (cb_map rfl) (mlb kb_map (ml1 rfl (ml1 sees_m (mlb (cb_map rfl) (mlb kb_map ml0))))))))))) (eM := ml0)) ?_
  refine G (q_mv (s := .t _) ?_)
  refine G (q_ext (y := .c _) ?_)
  refine G (q_ext (y := .c _) ?_)
  refine G (q_ext (y := .c _) ?_)
  refine As ?_
  refine As ?_
  refine As ?_
  refine gend ?_
  refine awp_seq ?_
  refine awp_seq ?_
  refine rln ?_
  refine Mv ?_
  refine G (q_eqln (y := 0) ?_)
  refine gend ?_
  refine cndN (fun hc2 => ?_) ?_; rotate_left
  · exact hz
  refine awp_skip ?_
  refine awp_seq ?_
  refine rln ?_
  refine Mv ?_
  refine Mv ?_
  refine G2 (fun _ k_ => q_callv [13, 14, 15, 16, 17, 18, 19, 20, 21, 22] [some (chC (0 : UInt64) (grl [] / 64) 2 (decide ((0 : UInt64) ≠ 0)) 4 6 (decide ((grl [] / 64) ≠ 0)) 8 (0 : UInt64) 1 (mx (grl []) 0) true hash), some (wcs true (wnext true 0 0 0).1 (wnext true 0 0 0).2), some (cC (.ptr 3 0) 0), some (u8s (S0 b (0 : UInt64).toNat)), cb (decide ((0 : UInt64) ≠ 0)) 5, kb (decide ((0 : UInt64) ≠ 0)) (S1 b (0 : UInt64).toNat), some (cC (.ptr 7 0) 0), some (u8s (S0 a (grl [] / 64).toNat)), cb (decide ((grl [] / 64) ≠ 0)) 9, kb (decide ((grl [] / 64) ≠ 0)) (S1 a (grl [] / 64).toNat)] [some (u8s content)] q11 k_ (ha := (cac (et rfl) rfl (cac (et rfl) (sees_slc rfl rfl (cut_h hfl)) ca0))) (e2 := (pl1 rfl (chC_map rfl rfl rfl rfl rfl) (pl1 rfl rfl (pl1 rfl rfl (pl1 rfl sees_m (plb rfl (cb_map rfl) (plb rfl kb_map (pl1 rfl rfl (pl1 rfl sees_m (plb rfl (cb_map rfl) (plb rfl kb_map pl0))))))))))) (eL := (ml1 (chC_map rfl rfl rfl rfl rfl) (ml1 rfl (ml1 rfl (ml1 sees_m (mlb (cb_map rfl) (mlb kb_map (ml1 rfl (ml1 sees_m (mlb (cb_map rfl) (mlb kb_map ml0))))))))))) (eM := (ml1 sees_m ml0))) ?_
  refine G (q_mv (s := .t _) ?_)
  refine G (q_ext (y := .c _) ?_)
  refine G (q_ext (y := .c _) ?_)
  refine G (q_ext (y := .c _) ?_)
  refine As ?_
  refine As ?_
  refine As ?_
  refine gend ?_
  refine awp_seq ?_
  refine rln ?_
  refine Mv ?_
  refine Mv ?_
  refine G2 (fun _ k_ => q_callv [24, 25, 15, 16, 17, 18, 19, 20, 21, 22] [some (chC (0 : UInt64) (grl [] / 64) 2 (decide ((0 : UInt64) ≠ 0)) 4 6 (decide ((grl [] / 64) ≠ 0)) 8 (0 : UInt64) 1 (mx (grl []) 0) true hash), some (wcs true (wnext true 0 0 0).1 (wnext true 0 0 0).2), some (cC (.ptr 3 0) 0), some (u8s (S0 b (0 : UInt64).toNat)), cb (decide ((0 : UInt64) ≠ 0)) 5, kb (decide ((0 : UInt64) ≠ 0)) (S1 b (0 : UInt64).toNat), some (cC (.ptr 7 0) 0), some (u8s (S0 a (grl [] / 64).toNat)), cb (decide ((grl [] / 64) ≠ 0)) 9, kb (decide ((grl [] / 64) ≠ 0)) (S1 a (grl [] / 64).toNat)] [some (u8s content)] q12 k_ (ha := (cac (et rfl) rfl (cac (et rfl) (sees_slc rfl rfl (cut_h hfl)) ca0))) (e2 := (pl1 rfl (chC_map rfl rfl rfl rfl rfl) (pl1 rfl rfl (pl1 rfl rfl (pl1 rfl sees_m (plb rfl (cb_map rfl) (plb rfl kb_map (pl1 rfl rfl (pl1 rfl sees_m (plb rfl (cb_map rfl) (plb rfl kb_map pl0))))))))))) (eL := (ml1 (chC_map rfl rfl rfl rfl rfl) (ml1 rfl (ml1 rfl (ml1 sees_m (mlb (cb_map rfl) (mlb kb_map (ml1 rfl (ml1 sees_m (mlb (cb_map rfl) (mlb kb_map ml0))))))))))) (eM := (ml1 sees_m ml0))) ?_
  refine G (q_mv (s := .t _) ?_)
  refine G (q_ext (y := .c _) ?_)
  refine G (q_ext (y := .c _) ?_)
  refine G (q_ext (y := .c _) ?_)
  refine As ?_
  refine As ?_
  refine As ?_
  refine gend ?_
  refine awp_seq ?_
  refine rln ?_
  refine Mv ?_
  refine G2 (fun _ k_ => q_callv [24, 25, 15, 16, 17, 18, 19, 20, 21, 22] [some (chC (0 : UInt64) (grl [] / 64) 2 (decide ((0 : UInt64) ≠ 0)) 4 6 (decide ((grl [] / 64) ≠ 0)) 8 (0 : UInt64) 1 (mx (grl []) 0) true hash), some (wcs true (wnext true 0 0 0).1 (wnext true 0 0 0).2), some (cC (.ptr 3 0) 0), some (u8s (S0 b (0 : UInt64).toNat)), cb (decide ((0 : UInt64) ≠ 0)) 5, kb (decide ((0 : UInt64) ≠ 0)) (S1 b (0 : UInt64).toNat), some (cC (.ptr 7 0) 0), some (u8s (S0 a (grl [] / 64).toNat)), cb (decide ((grl [] / 64) ≠ 0)) 9, kb (decide ((grl [] / 64) ≠ 0)) (S1 a (grl [] / 64).toNat)] [some (chC (0 : UInt64) (grl [] / 64) 2 (decide ((0 : UInt64) ≠ 0)) 4 6 (decide ((grl [] / 64) ≠ 0)) 8 (0 : UInt64) 11 (mx (grl []) 0) true hash), some (wcs true (wnext true 0 0 0).1 (wnext true 0 0 0).2)] (chcopy (0 : UInt64) (grl [] / 64) (0 : UInt64) (mx (grl []) 0) (decide ((0 : UInt64) ≠ 0)) (decide ((grl [] / 64) ≠ 0)) true hash (S0 b (0 : UInt64).toNat) (S1 b (0 : UInt64).toNat) (S0 a (grl [] / 64).toNat) (S1 a (grl [] / 64).toNat) (wnext true 0 0 0).1 (wnext true 0 0 0).2 hh) k_ (ha := (cac (et rfl) rfl ca0)) (e2 := (pl1 rfl (chC_map rfl rfl rfl rfl rfl) (pl1 rfl rfl (pl1 rfl rfl (pl1 rfl sees_m (plb rfl (cb_map rfl) (plb rfl kb_map (pl1 rfl rfl (pl1 rfl sees_m (plb rfl (cb_map rfl) (plb rfl kb_map pl0))))))))))) (eL := (ml1 (chC_map rfl rfl rfl rfl rfl) (ml1 rfl (ml1 rfl (ml1 sees_m (mlb (cb_map rfl) (mlb kb_map (ml1 rfl (ml1 sees_m (mlb (cb_map rfl) (mlb kb_map ml0))))))))))) (eM := (ml1 (chC_map rfl rfl rfl rfl rfl) (ml1 rfl ml0)))) ?_
  refine G2 (fun _ k_ => q_callp (cgreat _ _ _ _ _ _ _ _ _ _ _) k_ (ha := (cac (et rfl) (sees_ch rfl rfl rfl rfl) ca0))) ?_
  refine G (q_mv (s := .t _) ?_)
  refine G (q_ext (y := .c _) ?_)
  refine G (q_ext (y := .c _) ?_)
  refine As ?_
  refine As ?_
  refine gend ?_
  refine awp_seq ?_
  refine rln ?_
  refine Mv ?_
  refine G2 (fun _ k_ => q_callv [3, 4, 5, 6, 7, 8, 9, 10, 11, 12] [some (chC ((0 : UInt64) / 64) (grl [] / 64) 2 (decide (((0 : UInt64) / 64) ≠ 0)) 4 6 (decide ((grl [] / 64) ≠ 0)) 8 ((0 : UInt64) + 1) 1 (grl []) (decide (0 < ([] : List UInt64).length)) hash), some (wcs true 0 0), some (cC (.ptr 3 0) 0), some (u8s (S0 a ((0 : UInt64) / 64).toNat)), cb (decide (((0 : UInt64) / 64) ≠ 0)) 5, kb (decide (((0 : UInt64) / 64) ≠ 0)) (S1 a ((0 : UInt64) / 64).toNat), some (cC (.ptr 7 0) 0), some (u8s (S0 b (grl [] / 64).toNat)), cb (decide ((grl [] / 64) ≠ 0)) 9, kb (decide ((grl [] / 64) ≠ 0)) (S1 b (grl [] / 64).toNat)] [some (chC ((0 : UInt64) / 64) (grl [] / 64) 2 (decide (((0 : UInt64) / 64) ≠ 0)) 4 6 (decide ((grl [] / 64) ≠ 0)) 8 ((0 : UInt64) + 1) 11 (grl []) (decide (0 < ([] : List UInt64).length)) hash), some (wcs true 0 0)] (chcopy ((0 : UInt64) / 64) (grl [] / 64) ((0 : UInt64) + 1) (grl []) (decide (((0 : UInt64) / 64) ≠ 0)) (decide ((grl [] / 64) ≠ 0)) (decide (0 < ([] : List UInt64).length)) hash (S0 a ((0 : UInt64) / 64).toNat) (S1 a ((0 : UInt64) / 64).toNat) (S0 b (grl [] / 64).toNat) (S1 b (grl [] / 64).toNat) 0 0 hh) k_ (ha := (cac (et rfl) rfl ca0)) (e2 := (pl1 rfl (chC_map rfl rfl rfl rfl rfl) (pl1 rfl rfl (pl1 rfl rfl (pl1 rfl sees_m (plb rfl (cb_map rfl) (plb rfl kb_map (pl1 rfl rfl (pl1 rfl sees_m (plb rfl (cb_map rfl) (plb rfl kb_map pl0))))))))))) (eL := (ml1 (chC_map rfl rfl rfl rfl rfl) (ml1 rfl (ml1 rfl (ml1 sees_m (mlb (cb_map rfl) (mlb kb_map (ml1 rfl (ml1 sees_m (mlb (cb_map rfl) (mlb kb_map ml0))))))))))) (eM := (ml1 (chC_map rfl rfl rfl rfl rfl) (ml1 rfl ml0)))) ?_
  refine Mv ?_
  refine G2 (fun _ k_ => q_callv [30, 31, 5, 6, 7, 8, 9, 10, 11, 12] [some (chC (((0 : UInt64) + 1) / 64) (grl [] / 64) 2 (decide ((((0 : UInt64) + 1) / 64) ≠ 0)) 4 6 (decide ((grl [] / 64) ≠ 0)) 8 (((0 : UInt64) + 1) + 1) 1 (grl []) (decide (0 < ([] : List UInt64).length)) hash), some (wcs true 0 0), some (cC (.ptr 3 0) 0), some (u8s (S0 a (((0 : UInt64) + 1) / 64).toNat)), cb (decide ((((0 : UInt64) + 1) / 64) ≠ 0)) 5, kb (decide ((((0 : UInt64) + 1) / 64) ≠ 0)) (S1 a (((0 : UInt64) + 1) / 64).toNat), some (cC (.ptr 7 0) 0), some (u8s (S0 b (grl [] / 64).toNat)), cb (decide ((grl [] / 64) ≠ 0)) 9, kb (decide ((grl [] / 64) ≠ 0)) (S1 b (grl [] / 64).toNat)] [some (u8s F1)] q2 k_ (ha := (cac (et rfl) rfl (cac (et rfl) sees_ro ca0))) (e2 := (pl1 rfl (chC_map rfl rfl rfl rfl rfl) (pl1 rfl rfl (pl1 rfl rfl (pl1 rfl sees_m (plb rfl (cb_map rfl) (plb rfl kb_map (pl1 rfl rfl (pl1 rfl sees_m (plb rfl (cb_map rfl) (plb rfl kb_map pl0))))))))))) (eL := (ml1 (chC_map rfl rfl rfl rfl rfl) (ml1 rfl (ml1 rfl (ml1 sees_m (mlb (cb_map rfl) (mlb kb_map (ml1 rfl (ml1 sees_m (mlb (cb_map rfl) (mlb kb_map ml0))))))))))) (eM := (ml1 sees_m ml0))) ?_
  refine G (q_mv (s := .t _) ?_)
  refine G (q_ext (y := .c _) ?_)
  refine G (q_ext (y := .c _) ?_)
  refine As ?_
  refine As ?_
  refine gend ?_
  refine awp_seq ?_
  refine rln ?_
  refine Mv ?_
  refine Mv ?_
  refine G2 (fun _ k_ => q_callv [3, 4, 5, 6, 7, 8, 9, 10, 11, 12] [some (chC (((0 : UInt64) + 1) / 64) (grl [] / 64) 2 (decide ((((0 : UInt64) + 1) / 64) ≠ 0)) 4 6 (decide ((grl [] / 64) ≠ 0)) 8 (((0 : UInt64) + 1) + 1) 1 (grl []) (decide (0 < ([] : List UInt64).length)) hash), some (wcs true 0 0), some (cC (.ptr 3 0) 0), some (u8s (S0 a (((0 : UInt64) + 1) / 64).toNat)), cb (decide ((((0 : UInt64) + 1) / 64) ≠ 0)) 5, kb (decide ((((0 : UInt64) + 1) / 64) ≠ 0)) (S1 a (((0 : UInt64) + 1) / 64).toNat), some (cC (.ptr 7 0) 0), some (u8s (S0 b (grl [] / 64).toNat)), cb (decide ((grl [] / 64) ≠ 0)) 9, kb (decide ((grl [] / 64) ≠ 0)) (S1 b (grl [] / 64).toNat)] [some (u8s F1)] q3 k_ (ha := (cac (et rfl) rfl (cac (et rfl) sees_ro ca0))) (e2 := (pl1 rfl (chC_map rfl rfl rfl rfl rfl) (pl1 rfl rfl (pl1 rfl rfl (pl1 rfl sees_m (plb rfl (cb_map rfl) (plb rfl kb_map (pl1 rfl rfl (pl1 rfl sees_m (plb rfl (cb_map rfl) (plb rfl kb_map pl0))))))))))) (eL := (ml1 (chC_map rfl rfl rfl rfl rfl) (ml1 rfl (ml1 rfl (ml1 sees_m (mlb (cb_map rfl) (mlb kb_map (ml1 rfl (ml1 sees_m (mlb (cb_map rfl) (mlb kb_map ml0))))))))))) (eM := (ml1 sees_m ml0))) ?_
  refine G (q_mv (s := .t _) ?_)
  refine G (q_ext (y := .c _) ?_)
  refine G (q_ext (y := .c _) ?_)
  refine As ?_
  refine As ?_
  refine gend ?_
  refine awp_seq ?_
  refine rln ?_
  refine Mv ?_
  refine G (q_eqln (y := 0) ?_)
  refine Mv ?_
  refine Aknd 141 (fun hb3 => ?_) ?_; rotate_left
  · exact rfl
  refine Gg (q_mv (s := .v (.c _)) ?_)
  refine Gg (q_eqln (y := 0) ?_)
  refine G (q_pkt ?_)
  refine Mv ?_
  refine Aknd 145 (fun hb7 => ?_) ?_; rotate_left
  · exact rfl
  refine Gg (q_mv (s := .v (.c _)) ?_)
  refine Gg (q_eqln (y := 0) ?_)
  refine G (q_pkt ?_)
  refine Mv ?_
  refine Aknd 149 (fun hb11 => ?_) ?_; rotate_left
  · exact rfl
  refine Gg (q_mv (s := .v (.c _)) ?_)
  refine Gg (q_eql64 (y := 0) ?_)
  refine G (q_pkt ?_)
  refine Mv ?_
  refine Aknd 153 (fun hb15 => ?_) ?_; rotate_left
  · exact rfl
  refine Gg (q_mv (s := .v (.c _)) ?_)
  refine Gg (q_eql64 (y := 0) ?_)
  refine G (q_pkt ?_)
  refine Mv ?_
  refine Aknd 157 (fun hb19 => ?_) ?_; rotate_left
  · exact rfl
  refine Gg (q_mv (s := .v (.c _)) ?_)
  refine G (q_pkt ?_)
  refine Mv ?_
  refine Akn 160 (fun hb22 => ?_) ?_; rotate_left
  · exact rfl
  refine Gg (q_mv (s := .v (.c _)) ?_)
  refine Gg (q_eqln (y := 0) ?_)
  refine G (q_pkt ?_)
  refine Mv ?_
  refine Aknd 164 (fun hb26 => ?_) ?_; rotate_left
  · exact rfl
  refine Gg (q_mv (s := .v (.c _)) ?_)
  refine Gg (q_eqln (y := 0) ?_)
  refine G (q_pkt ?_)
  refine Mv ?_
  refine Aknd 168 (fun hb30 => ?_) ?_; rotate_left
  · exact rfl
  refine Gg (q_mv (s := .v (.c _)) ?_)
  refine Gg (q_csl ?_)
  refine Gg (q_mv (s := .v (.c _)) ?_)
  refine Gg (q_cso ?_)
  refine Gg (q_eqls ?_)
  refine G (q_pkt ?_)
  refine Mv ?_
  refine Aknd 175 (fun hb37 => ?_) ?_; rotate_left
  · exact congrArg (fun z : List UInt8 => (⟨z.toArray⟩ : ByteArray)) (List.take_of_length_le (Nat.le_of_eq hc))
  refine Gg (q_mv (s := .v (.c _)) ?_)
  refine Gg (q_csl ?_)
  refine Gg (q_mv (s := .v (.c _)) ?_)
  refine Gg (q_cso ?_)
  refine Gg (q_eqls ?_)
  refine G (q_pkt ?_)
  refine Mv ?_
  refine Aknd 182 (fun hb44 => ?_) ?_; rotate_left
  · exact congrArg (fun z : List UInt8 => (⟨z.toArray⟩ : ByteArray)) (List.take_of_length_le (Nat.le_of_eq hc))
  refine Gg (q_mv (s := .v (.c _)) ?_)
  refine Gg (q_csl ?_)
  refine Gg (q_mv (s := .v (.c _)) ?_)
  refine Gg (q_csl ?_)
  refine Gg (q_eqls ?_)
  refine G (q_pkt ?_)
  refine Mv ?_
  refine Aknd 189 (fun hb51 => ?_) ?_; rotate_left
  · exact rfl
  refine Gg (q_mv (s := .v (.c _)) ?_)
  refine G2g (fun _ k_ => q_callp (csent _ _ _ _ _ _ _ _ _ _ _) k_ (ha := (cac (et rfl) (sees_ch rfl rfl rfl rfl) ca0))) ?_
  refine Gg (q_eql64 (y := 2) ?_)
  refine G (q_pkt ?_)
  refine Mv ?_
  refine Aknd 194 (fun hb56 => ?_) ?_; rotate_left
  · exact rfl
  refine G2g (fun _ k_ => q_callp known_ k_) ?_
  refine G (q_pkt ?_)
  refine As ?_
  refine gend ?_
  refine awp_ret ?_
  exact fp1
set_option maxHeartbeats 800000 in
/-- escutcheonlaw19.ChannelApart -/
theorem apart_ok (a b hash content bytes : List UInt8) (n f : Nat) (ha : a.length = 32) (hb : b.length = 32) (hh : hash.length = 32) (hc : content.length = n) (hf : bytes.length = f) (hz : (op19 a hash [] bytes).2.2.1 = 0) : Good Try.prog 6 [.a (u8s a), .a (u8s b), .a (u8s hash), .c (.ro n (u8s content)), .c (.ro f (u8s bytes))] [] (sc (.bool true)) [] := by
  refine good_frm 197 Try.func6 rfl rfl rfl rfl rfl rfl ?_
  refine awp_seq ?_
  refine rln ?_
  refine G2 (fun _ k_ => q_boxa k_) ?_
  refine G2 (fun _ k_ => q_boxa k_) ?_
  refine G2 (fun _ k_ => q_boxa k_) ?_
  refine As ?_
  refine gend ?_
  refine awp_seq ?_
  refine awp_cut (α := {z : Bool // z = false → n ≤ 200 ∧ f ≤ 300}) (fun cq => ⟨frm 197 [(3, sc (.ro n (u8s content))), (4, sc (.ro f (u8s bytes))), (5, sc (.ptr 0 0)), (6, sc (.ptr 1 0)), (7, sc (.ptr 2 0)), (79, sc (.bool cq.1))], [some (u8s a), some (u8s b), some (u8s hash)]⟩) ?_ (fun cq => ?_)
  · refine rln ?_
    refine Mv ?_
    refine G (q_leno ?_)
    refine G (q_gtrn (y := 200) ?_)
    refine Mv ?_
    refine Aspd 34 (fun hb4 => ?_) (fun hb4 => ?_)
    · refine Gn ?_
      refine Gn ?_
      refine Gn ?_
      refine G (q_pkt ?_)
      refine Mv ?_
      refine Gn ?_
      refine Gn ?_
      refine Gn ?_
      refine Gn ?_
      refine Gu ?_
      refine Gu ?_
      refine Gu ?_
      refine Gu ?_
      refine Gu ?_
      refine Gu ?_
      refine Gu ?_
      refine Gu ?_
      refine Gu ?_
      refine Gu ?_
      refine Gu ?_
      refine Gu ?_
      refine Gu ?_
      refine Gu ?_
      refine Gu ?_
      refine Gu ?_
      refine Gu ?_
      refine Gu ?_
      refine Gu ?_
      refine Gu ?_
      refine Gu ?_
      refine Gu ?_
      refine Gu ?_
      refine Gu ?_
      refine Gu ?_
      refine Gu ?_
      refine Gu ?_
      refine Gu ?_
      refine Gu ?_
      refine Gu ?_
      refine Gu ?_
      refine Gu ?_
      refine Gu ?_
      refine Gu ?_
      refine Gn ?_
      refine G (q_pkt ?_)
      refine gend ?_
      exact (by refine ⟨⟨_, ?_⟩, sle_sub ⟨rfl, rfl, rfl, rfl, rfl, rfl, trivial⟩ rfl⟩; first | exact (fun h => Bool.noConfusion h) | exact (fun _ => by omega))
    refine Gg (q_mv (s := .v (.c _)) ?_)
    refine Gg (q_leno ?_)
    refine Gg (q_gtrn (y := 300) ?_)
    refine G (q_pkf ?_)
    refine Mv ?_
    refine Aspd 39 (fun hb9 => ?_) (fun hb9 => ?_)
    · refine Gn ?_
      refine Gn ?_
      refine Gn ?_
      refine Gn ?_
      refine Gu ?_
      refine Gu ?_
      refine Gu ?_
      refine Gu ?_
      refine Gu ?_
      refine Gu ?_
      refine Gu ?_
      refine Gu ?_
      refine Gu ?_
      refine Gu ?_
      refine Gu ?_
      refine Gu ?_
      refine Gu ?_
      refine Gu ?_
      refine Gu ?_
      refine Gu ?_
      refine Gu ?_
      refine Gu ?_
      refine Gu ?_
      refine Gu ?_
      refine Gu ?_
      refine Gu ?_
      refine Gu ?_
      refine Gu ?_
      refine Gu ?_
      refine Gu ?_
      refine Gu ?_
      refine Gu ?_
      refine Gu ?_
      refine Gu ?_
      refine Gu ?_
      refine Gu ?_
      refine Gu ?_
      refine Gu ?_
      refine Gn ?_
      refine G (q_pkt ?_)
      refine gend ?_
      exact (by refine ⟨⟨_, ?_⟩, sle_sub ⟨rfl, rfl, rfl, rfl, rfl, rfl, trivial⟩ rfl⟩; first | exact (fun h => Bool.noConfusion h) | exact (fun _ => by omega))
    refine Gg (q_mv (s := .v (.c _)) ?_)
    refine Gg (q_leno ?_)
    refine Gg (q_geqn (y := 8) ?_)
    refine Gg (q_mv (s := .v (.c _)) ?_)
    refine Aspd 43 (fun hb13 => ?_) (fun hb13 => ?_)
    · refine Gg (q_mv (s := .v (.c _)) ?_)
      refine Gg (q_ixo1 ?_)
      refine Gg (q_ldrd ?_)
      refine Gg (q_neq8 (y := 0) ?_)
      refine Gg (q_mv (s := .v (.c _)) ?_)
      refine Aspd 48 (fun hb18 => ?_) (fun hb18 => ?_)
      · refine Gn ?_
        refine Gn ?_
        refine Gn ?_
        refine Gn ?_
        refine Gg (q_pkt ?_)
        refine Gg (q_mv (s := .v (.c _)) ?_)
        refine Gn ?_
        refine Gn ?_
        refine Gn ?_
        refine Gn ?_
        refine Gg (q_pkt ?_)
        refine Gg (q_mv (s := .v (.c _)) ?_)
        refine Gn ?_
        refine Gn ?_
        refine Gn ?_
        refine Gn ?_
        refine Gg (q_pkt ?_)
        refine Gg (q_mv (s := .v (.c _)) ?_)
        refine Gn ?_
        refine Gn ?_
        refine Gn ?_
        refine Gn ?_
        refine Gg (q_pkt ?_)
        refine Gg (q_mv (s := .v (.c _)) ?_)
        refine Gn ?_
        refine Gn ?_
        refine Gn ?_
        refine Gn ?_
        refine Gg (q_pkt ?_)
        refine Gg (q_pkt ?_)
        refine G (q_pkf ?_)
        refine gend ?_
        exact (by refine ⟨⟨_, ?_⟩, sle_sub ⟨rfl, rfl, rfl, rfl, rfl, rfl, trivial⟩ rfl⟩; first | exact (fun h => Bool.noConfusion h) | exact (fun _ => by omega))
      refine Gg (q_mv (s := .v (.c _)) ?_)
      refine Gg (q_ixo1 ?_)
      refine Gg (q_ldrd ?_)
      refine Gg (q_neq8 (y := 0) ?_)
      refine Gg (q_pkf ?_)
      refine Gg (q_mv (s := .v (.c _)) ?_)
      refine Aspd 54 (fun hb24 => ?_) (fun hb24 => ?_)
      · refine Gn ?_
        refine Gn ?_
        refine Gn ?_
        refine Gn ?_
        refine Gg (q_pkt ?_)
        refine Gg (q_mv (s := .v (.c _)) ?_)
        refine Gn ?_
        refine Gn ?_
        refine Gn ?_
        refine Gn ?_
        refine Gg (q_pkt ?_)
        refine Gg (q_mv (s := .v (.c _)) ?_)
        refine Gn ?_
        refine Gn ?_
        refine Gn ?_
        refine Gn ?_
        refine Gg (q_pkt ?_)
        refine Gg (q_mv (s := .v (.c _)) ?_)
        refine Gn ?_
        refine Gn ?_
        refine Gn ?_
        refine Gn ?_
        refine Gg (q_pkt ?_)
        refine Gg (q_pkt ?_)
        refine G (q_pkf ?_)
        refine gend ?_
        exact (by refine ⟨⟨_, ?_⟩, sle_sub ⟨rfl, rfl, rfl, rfl, rfl, rfl, trivial⟩ rfl⟩; first | exact (fun h => Bool.noConfusion h) | exact (fun _ => by omega))
      refine Gg (q_mv (s := .v (.c _)) ?_)
      refine Gg (q_ixo1 ?_)
      refine Gg (q_ldrd ?_)
      refine Gg (q_neq8 (y := 0) ?_)
      refine Gg (q_pkf ?_)
      refine Gg (q_mv (s := .v (.c _)) ?_)
      refine Aspd 60 (fun hb30 => ?_) (fun hb30 => ?_)
      · refine Gn ?_
        refine Gn ?_
        refine Gn ?_
        refine Gn ?_
        refine Gg (q_pkt ?_)
        refine Gg (q_mv (s := .v (.c _)) ?_)
        refine Gn ?_
        refine Gn ?_
        refine Gn ?_
        refine Gn ?_
        refine Gg (q_pkt ?_)
        refine Gg (q_mv (s := .v (.c _)) ?_)
        refine Gn ?_
        refine Gn ?_
        refine Gn ?_
        refine Gn ?_
        refine Gg (q_pkt ?_)
        refine Gg (q_pkt ?_)
        refine G (q_pkf ?_)
        refine gend ?_
        exact (by refine ⟨⟨_, ?_⟩, sle_sub ⟨rfl, rfl, rfl, rfl, rfl, rfl, trivial⟩ rfl⟩; first | exact (fun h => Bool.noConfusion h) | exact (fun _ => by omega))
      refine Gg (q_mv (s := .v (.c _)) ?_)
      refine Gg (q_ixo1 ?_)
      refine Gg (q_ldrd ?_)
      refine Gg (q_neq8 (y := 0) ?_)
      refine Gg (q_pkf ?_)
      refine Gg (q_mv (s := .v (.c _)) ?_)
      refine Aspd 66 (fun hb36 => ?_) (fun hb36 => ?_)
      · refine Gn ?_
        refine Gn ?_
        refine Gn ?_
        refine Gn ?_
        refine Gg (q_pkt ?_)
        refine Gg (q_mv (s := .v (.c _)) ?_)
        refine Gn ?_
        refine Gn ?_
        refine Gn ?_
        refine Gn ?_
        refine Gg (q_pkt ?_)
        refine Gg (q_pkt ?_)
        refine G (q_pkf ?_)
        refine gend ?_
        exact (by refine ⟨⟨_, ?_⟩, sle_sub ⟨rfl, rfl, rfl, rfl, rfl, rfl, trivial⟩ rfl⟩; first | exact (fun h => Bool.noConfusion h) | exact (fun _ => by omega))
      refine Gg (q_mv (s := .v (.c _)) ?_)
      refine Gg (q_ixo1 ?_)
      refine Gg (q_ldrd ?_)
      refine Gg (q_neq8 (y := 0) ?_)
      refine Gg (q_pkf ?_)
      refine Gg (q_mv (s := .v (.c _)) ?_)
      refine Aspd 72 (fun hb42 => ?_) (fun hb42 => ?_)
      · refine Gn ?_
        refine Gn ?_
        refine Gn ?_
        refine Gn ?_
        refine Gg (q_pkt ?_)
        refine Gg (q_pkt ?_)
        refine G (q_pkf ?_)
        refine gend ?_
        exact (by refine ⟨⟨_, ?_⟩, sle_sub ⟨rfl, rfl, rfl, rfl, rfl, rfl, trivial⟩ rfl⟩; first | exact (fun h => Bool.noConfusion h) | exact (fun _ => by omega))
      refine Gg (q_mv (s := .v (.c _)) ?_)
      refine Gg (q_ixo1 ?_)
      refine Gg (q_ldrd ?_)
      refine Gg (q_neq8 (y := 0) ?_)
      refine Gg (q_pkf ?_)
      refine Gg (q_pkt ?_)
      refine G (q_pkf ?_)
      refine gend ?_
      exact (by refine ⟨⟨_, ?_⟩, sle_sub ⟨rfl, rfl, rfl, rfl, rfl, rfl, trivial⟩ rfl⟩; first | exact (fun h => Bool.noConfusion h) | exact (fun _ => by omega))
    refine Gn ?_
    refine Gn ?_
    refine Gn ?_
    refine Gn ?_
    refine Gn ?_
    refine Gu ?_
    refine Gu ?_
    refine Gu ?_
    refine Gu ?_
    refine Gn ?_
    refine Gn ?_
    refine Gu ?_
    refine Gu ?_
    refine Gu ?_
    refine Gu ?_
    refine Gn ?_
    refine Gn ?_
    refine Gu ?_
    refine Gu ?_
    refine Gu ?_
    refine Gu ?_
    refine Gn ?_
    refine Gn ?_
    refine Gu ?_
    refine Gu ?_
    refine Gu ?_
    refine Gu ?_
    refine Gn ?_
    refine Gn ?_
    refine Gu ?_
    refine Gu ?_
    refine Gu ?_
    refine Gu ?_
    refine Gn ?_
    refine Gg (q_pkf ?_)
    refine G (q_pkf ?_)
    refine gend ?_
    exact (by refine ⟨⟨_, ?_⟩, sle_sub ⟨rfl, rfl, rfl, rfl, rfl, rfl, trivial⟩ rfl⟩; first | exact (fun h => Bool.noConfusion h) | exact (fun _ => by omega))
  refine cndb (fun hc1 => ?_) (fun hc1 => ?_)
  · refine awp_seq ?_
    refine rln ?_
    refine G2 (fun _ k_ => q_callp known_ k_) ?_
    refine As ?_
    refine gend ?_
    refine awp_ret ?_
    exact fp1
  have hn9 := (cq.2 hc1).1
  have hfl := fr19_len (s := a) (h := hash) (n := 0) (c := content)
  have hfl1 := fr19_len (s := a) (h := hash) (n := 0 + 1) (c := content)
  rw [hc] at hfl hfl1
  obtain ⟨F0, hF0⟩ : ∃ z, fr19 a hash 0 content = z := ⟨_, rfl⟩
  obtain ⟨F1, hF1⟩ : ∃ z, fr19 a hash (0 + 1) content = z := ⟨_, rfl⟩
  rw [hF0] at hfl
  rw [hF1] at hfl1
  have q1 := (chseal_n0 a b hash (0 : UInt64) (grl [] / 64) (0 : UInt64) (grl []) (decide (0 < ([] : List UInt64).length)) 0 0 ha hb hh content n hc (by omega) (by decide) (by decide) (by decide))
  rw [hF0] at q1
  refine awp_skip ?_
  refine awp_seq ?_
  refine rln ?_
  refine G (q_ldw ?_)
  refine G (q_ldw ?_)
  refine G (q_ldw ?_)
  refine G2 (fun _ k_ => q_callv [] [] [some (chC (0 : UInt64) (grl [] / 64) 2 (decide ((0 : UInt64) ≠ 0)) 4 6 (decide ((grl [] / 64) ≠ 0)) 8 (0 : UInt64) 1 (grl []) (decide (0 < ([] : List UInt64).length)) hash), some (wcs true 0 0), some (cC (.ptr 3 0) 0), some (u8s (S0 a (0 : UInt64).toNat)), cb (decide ((0 : UInt64) ≠ 0)) 5, kb (decide ((0 : UInt64) ≠ 0)) (S1 a (0 : UInt64).toNat), some (cC (.ptr 7 0) 0), some (u8s (S0 b (grl [] / 64).toNat)), cb (decide ((grl [] / 64) ≠ 0)) 9, kb (decide ((grl [] / 64) ≠ 0)) (S1 b (grl [] / 64).toNat), some (chC (0 : UInt64) (grl [] / 64) 12 (decide ((0 : UInt64) ≠ 0)) 14 16 (decide ((grl [] / 64) ≠ 0)) 18 (0 : UInt64) 11 (grl []) (decide (0 < ([] : List UInt64).length)) hash), some (wcs true 0 0), some (cC (.ptr 13 0) 0), some (u8s (S0 b (0 : UInt64).toNat)), cb (decide ((0 : UInt64) ≠ 0)) 15, kb (decide ((0 : UInt64) ≠ 0)) (S1 b (0 : UInt64).toNat), some (cC (.ptr 17 0) 0), some (u8s (S0 a (grl [] / 64).toNat)), cb (decide ((grl [] / 64) ≠ 0)) 19, kb (decide ((grl [] / 64) ≠ 0)) (S1 a (grl [] / 64).toNat)] (two_ a b hash ha hb hh) k_ (ha := (caa (et rfl) sees_m (caa (et rfl) sees_m (caa (et rfl) sees_m ca0)))) (e2 := pl0) (eL := ml0) (eM := (ml1 (chC_map rfl rfl rfl rfl rfl) (ml1 rfl (ml1 rfl (ml1 sees_m (mlb (cb_map rfl) (mlb kb_map (ml1 rfl (ml1 sees_m (mlb (cb_map rfl) (mlb kb_map (ml1 (chC_map rfl rfl rfl rfl rfl) (ml1 rfl (ml1 rfl (ml1 sees_m (mlb (cb_map rfl) (mlb kb_map (ml1 rfl (ml1 sees_m (mlb (cb_map rfl) (mlb kb_map ml0)))))))))))))))))))))) ?_
  refine G (q_mv (s := .t _) ?_)
  refine G (q_ext (y := .c _) ?_)
  refine G (q_ext (y := .c _) ?_)
  refine As ?_
  refine As ?_
  refine gend ?_
  refine awp_seq ?_
  refine rln ?_
  refine Mv ?_
  refine Mv ?_
  refine G2 (fun _ k_ => q_callv [3, 4, 5, 6, 7, 8, 9, 10, 11, 12] [some (chC ((0 : UInt64) / 64) (grl [] / 64) 2 (decide (((0 : UInt64) / 64) ≠ 0)) 4 6 (decide ((grl [] / 64) ≠ 0)) 8 ((0 : UInt64) + 1) 1 (grl []) (decide (0 < ([] : List UInt64).length)) hash), some (wcs true 0 0), some (cC (.ptr 3 0) 0), some (u8s (S0 a ((0 : UInt64) / 64).toNat)), cb (decide (((0 : UInt64) / 64) ≠ 0)) 5, kb (decide (((0 : UInt64) / 64) ≠ 0)) (S1 a ((0 : UInt64) / 64).toNat), some (cC (.ptr 7 0) 0), some (u8s (S0 b (grl [] / 64).toNat)), cb (decide ((grl [] / 64) ≠ 0)) 9, kb (decide ((grl [] / 64) ≠ 0)) (S1 b (grl [] / 64).toNat)] [some (u8s F0)] q1 k_ (ha := (cac (et rfl) rfl (cac (et rfl) sees_ro ca0))) (e2 := (pl1 rfl (chC_map rfl rfl rfl rfl rfl) (pl1 rfl rfl (pl1 rfl rfl (pl1 rfl sees_m (plb rfl (cb_map rfl) (plb rfl kb_map (pl1 rfl rfl (pl1 rfl sees_m (plb rfl (cb_map rfl) (plb rfl kb_map pl0))))))))))) (eL := (ml1 (chC_map rfl rfl rfl rfl rfl) (ml1 rfl (ml1 rfl (ml1 sees_m (mlb (cb_map rfl) (mlb kb_map (ml1 rfl (ml1 sees_m (mlb (cb_map rfl) (mlb kb_map ml0))))))))))) (eM := (ml1 sees_m ml0))) ?_
  refine G (q_mv (s := .t _) ?_)
  refine G (q_ext (y := .c _) ?_)
  refine G (q_ext (y := .c _) ?_)
  refine As ?_
  refine As ?_
  refine gend ?_
  refine awp_seq ?_
  refine rln ?_
  refine Mv ?_
  refine G2 (fun _ k_ => q_callv [13, 14, 15, 16, 17, 18, 19, 20, 21, 22] [some (chC (0 : UInt64) (grl [] / 64) 2 (decide ((0 : UInt64) ≠ 0)) 4 6 (decide ((grl [] / 64) ≠ 0)) 8 (0 : UInt64) 1 (grl []) (decide (0 < ([] : List UInt64).length)) hash), some (wcs true 0 0), some (cC (.ptr 3 0) 0), some (u8s (S0 b (0 : UInt64).toNat)), cb (decide ((0 : UInt64) ≠ 0)) 5, kb (decide ((0 : UInt64) ≠ 0)) (S1 b (0 : UInt64).toNat), some (cC (.ptr 7 0) 0), some (u8s (S0 a (grl [] / 64).toNat)), cb (decide ((grl [] / 64) ≠ 0)) 9, kb (decide ((grl [] / 64) ≠ 0)) (S1 a (grl [] / 64).toNat)] [some (chC (0 : UInt64) (grl [] / 64) 2 (decide ((0 : UInt64) ≠ 0)) 4 6 (decide ((grl [] / 64) ≠ 0)) 8 (0 : UInt64) 11 (grl []) (decide (0 < ([] : List UInt64).length)) hash), some (wcs true 0 0)] (chcopy (0 : UInt64) (grl [] / 64) (0 : UInt64) (grl []) (decide ((0 : UInt64) ≠ 0)) (decide ((grl [] / 64) ≠ 0)) (decide (0 < ([] : List UInt64).length)) hash (S0 b (0 : UInt64).toNat) (S1 b (0 : UInt64).toNat) (S0 a (grl [] / 64).toNat) (S1 a (grl [] / 64).toNat) 0 0 hh) k_ (ha := (cac (et rfl) rfl ca0)) (e2 := (pl1 rfl (chC_map rfl rfl rfl rfl rfl) (pl1 rfl rfl (pl1 rfl rfl (pl1 rfl sees_m (plb rfl (cb_map rfl) (plb rfl kb_map (pl1 rfl rfl (pl1 rfl sees_m (plb rfl (cb_map rfl) (plb rfl kb_map pl0))))))))))) (eL := (ml1 (chC_map rfl rfl rfl rfl rfl) (ml1 rfl (ml1 rfl (ml1 sees_m (mlb (cb_map rfl) (mlb kb_map (ml1 rfl (ml1 sees_m (mlb (cb_map rfl) (mlb kb_map ml0))))))))))) (eM := (ml1 (chC_map rfl rfl rfl rfl rfl) (ml1 rfl ml0)))) ?_
  refine As ?_
  refine gend ?_
  refine awp_seq ?_
  refine rln ?_
  refine Mv ?_
  refine Mv ?_
  refine G2 (fun _ k_ => q_callv [13, 14, 15, 16, 17, 18, 19, 20, 21, 22] [some (chC (0 : UInt64) (grl (op19 a hash [] bytes).2.2.2 / 64) 2 (decide ((0 : UInt64) ≠ 0)) 4 10 (decide ((grl (op19 a hash [] bytes).2.2.2 / 64) ≠ 0)) 12 (0 : UInt64) 1 (grl (op19 a hash [] bytes).2.2.2) (decide (0 < ((op19 a hash [] bytes).2.2.2 : List UInt64).length)) hash), some (wcs true (wn (op19 a hash [] bytes) 0 0).1 (wn (op19 a hash [] bytes) 0 0).2), some (cC (.ptr 3 0) 0), some (u8s (S0 b (0 : UInt64).toNat)), cb (decide ((0 : UInt64) ≠ 0)) 5, kb (decide ((0 : UInt64) ≠ 0)) (S1 b (0 : UInt64).toNat), none, none, none, none] [some (cC (.ptr 11 0) 0), some (u8s (S0 a (grl (op19 a hash [] bytes).2.2.2 / 64).toNat)), cb (decide ((grl (op19 a hash [] bytes).2.2.2 / 64) ≠ 0)) 13, kb (decide ((grl (op19 a hash [] bytes).2.2.2 / 64) ≠ 0)) (S1 a (grl (op19 a hash [] bytes).2.2.2 / 64).toNat), some (u8s (op19 a hash [] bytes).1)] (chopen_u b a hash (0 : UInt64) (0 : UInt64) [] 0 0 hb ha hh inv_nil (fun _ h => absurd h List.not_mem_nil) bytes f hf) k_ (ha := (cac (et rfl) rfl (cac (et rfl) sees_ro ca0))) (e2 := (pl1 rfl (chC_map rfl rfl rfl rfl rfl) (pl1 rfl rfl (pl1 rfl rfl (pl1 rfl sees_m (plb rfl (cb_map rfl) (plb rfl kb_map (pl1 rfl rfl (pl1 rfl sees_m (plb rfl (cb_map rfl) (plb rfl kb_map pl0))))))))))) (eL := (ml1 (chC_map rfl rfl rfl rfl rfl) (ml1 rfl (ml1 rfl (ml1 sees_m (mlb (cb_map rfl) (mlb kb_map (mln (mln (mln (mln ml0))))))))))) (eM := (ml1 rfl (ml1 sees_m (mlb (cb_map rfl) (mlb kb_map (ml1 sees_m ml0))))))) ?_
  refine G (q_mv (s := .t _) ?_)
  refine G (q_ext (y := .c _) ?_)
  refine G (q_ext (y := .c _) ?_)
  refine G (q_ext (y := .c _) ?_)
  refine As ?_
  refine As ?_
  refine As ?_
  refine gend ?_
  refine awp_seq ?_
  refine awp_seq ?_
  refine rln ?_
  refine Mv ?_
  refine G (q_eqln (y := 0) ?_)
  refine gend ?_
  refine cndY (fun hc2 => ?_) ?_; rotate_left
  · exact hz
  refine awp_seq ?_
  refine rln ?_
  refine G2 (fun _ k_ => q_callp known_ k_) ?_
  refine As ?_
  refine gend ?_
  refine awp_ret ?_
  exact fp1
theorem apart_ (a b hash content bytes : List UInt8) (n f : Nat) (ha : a.length = 32) (hb : b.length = 32) (hh : hash.length = 32) (hc : content.length = n) (hf : bytes.length = f) : Good Try.prog 6 [.a (u8s a), .a (u8s b), .a (u8s hash), .c (.ro n (u8s content)), .c (.ro f (u8s bytes))] [] (sc (.bool true)) [] := by
  by_cases hz : (op19 a hash [] bytes).2.2.1 = 0
  · exact apart_ok a b hash content bytes n f ha hb hh hc hf hz
  · exact apart_bad a b hash content bytes n f ha hb hh hc hf hz
end Go.Proofs.Ytklcckngmmklhaa


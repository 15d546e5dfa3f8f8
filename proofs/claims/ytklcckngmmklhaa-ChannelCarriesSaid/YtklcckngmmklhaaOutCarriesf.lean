/- Texts that the proof stands on, put together: the abstract machine, and what functions do over it. -/
import Derived.Test.YtklcckngmmklhaaOutCarriese
/- What functions of the program do, walked over the abstract machine. -/
namespace Go.Proofs.Ytklcckngmmklhaa
open Go Go.Abs Go.Proofs Go.Proofs.Ytklcckngmmklhaa.Ch Go.Proofs.Ytklcckngmmklhaa.Po Go.Proofs.Ytklcckngmmklhaa.Ae Go.Proofs.Ytklcckngmmklhaa.Wd
set_option maxRecDepth 20000
theorem start_ (a b hash : List UInt8) : Apt ([some (u8s a), some (u8s b), some (u8s hash), some (chC (0 : UInt64) (grl [] / 64) 5 (decide ((0 : UInt64) ≠ 0)) 7 9 (decide ((grl [] / 64) ≠ 0)) 11 (0 : UInt64) 4 (grl []) (decide (0 < ([] : List UInt64).length)) hash), some (wcs true 0 0), some (cC (.ptr 6 0) 0), some (u8s (S0 a (0 : UInt64).toNat)), cb (decide ((0 : UInt64) ≠ 0)) 8, kb (decide ((0 : UInt64) ≠ 0)) (S1 a (0 : UInt64).toNat), some (cC (.ptr 10 0) 0), some (u8s (S0 b (grl [] / 64).toNat)), cb (decide ((grl [] / 64) ≠ 0)) 12, kb (decide ((grl [] / 64) ≠ 0)) (S1 b (grl [] / 64).toNat), some (chC (0 : UInt64) (grl [] / 64) 15 (decide ((0 : UInt64) ≠ 0)) 17 19 (decide ((grl [] / 64) ≠ 0)) 21 (0 : UInt64) 14 (grl []) (decide (0 < ([] : List UInt64).length)) hash), some (wcs true 0 0), some (cC (.ptr 16 0) 0), some (u8s (S0 b (0 : UInt64).toNat)), cb (decide ((0 : UInt64) ≠ 0)) 18, kb (decide ((0 : UInt64) ≠ 0)) (S1 b (0 : UInt64).toNat), some (cC (.ptr 20 0) 0), some (u8s (S0 a (grl [] / 64).toNat)), cb (decide ((grl [] / 64) ≠ 0)) 22, kb (decide ((grl [] / 64) ≠ 0)) (S1 a (grl [] / 64).toNat)] ++ [some []]) [([3, 4, 5, 6, 7, 8, 9, 10, 11, 12], cT a b hash 0 (UInt64.ofNat 0) [] 0 0), ([13, 14, 15, 16, 17, 18, 19, 20, 21, 22], cT b a hash 0 0 [] 0 0)] ((23, ([] : List Nat).map cq) :: []) := by
  refine ⟨by show ([3, 4, 5, 6, 7, 8, 9, 10, 11, 12, 13, 14, 15, 16, 17, 18, 19, 20, 21, 22, 23] : List Nat).Nodup; decide, fun o ho => ?_, fun r hr => ?_⟩
  · rcases List.mem_cons.1 ho with rfl | ho
    · exact ⟨rfl, (obl1 rfl (congrArg some (chC_map rfl rfl rfl rfl rfl)) (obl1 rfl rfl (obl1 rfl rfl (obl1 rfl (congrArg some sees_m) (obl1 rfl (cb_map rfl) (obl1 rfl kb_map (obl1 rfl rfl (obl1 rfl (congrArg some sees_m) (obl1 rfl (cb_map rfl) (obl1 rfl kb_map obl0))))))))))⟩
    · rw [List.mem_singleton.1 ho]; exact ⟨rfl, (obl1 rfl (congrArg some (chC_map rfl rfl rfl rfl rfl)) (obl1 rfl rfl (obl1 rfl rfl (obl1 rfl (congrArg some sees_m) (obl1 rfl (cb_map rfl) (obl1 rfl kb_map (obl1 rfl rfl (obl1 rfl (congrArg some sees_m) (obl1 rfl (cb_map rfl) (obl1 rfl kb_map obl0))))))))))⟩
  · rw [List.mem_singleton.1 hr]; rfl
theorem carries_b1 (a b hash : List UInt8) (ha : a.length = 32) (hb : b.length = 32) (hh : hash.length = 32) (many : Int) (order : List Int) (n : Nat) (h1 : many < 1) : Good Try.prog 3 [.a (u8s a), .a (u8s b), .a (u8s hash), .c (ci many), .c (.ro n (i64s order))] [] (sc (.bool true)) [] := by
  refine good_frm 142 Try.func3 rfl rfl rfl rfl rfl rfl ?_
  refine awp_seq ?_
  refine rln ?_
  refine G2 (fun _ k_ => q_boxa k_) ?_
  refine G2 (fun _ k_ => q_boxa k_) ?_
  refine G2 (fun _ k_ => q_boxa k_) ?_
  refine As ?_
  refine gend ?_
  refine awp_seq ?_
  refine awp_seq ?_
  refine rln ?_
  refine Mv ?_
  refine G (q_lssi (y := 1) ?_)
  refine Mv ?_
  refine Aknd 28 (fun hb3 => ?_) ?_; rotate_left
  · exact h1
  refine Gn ?_
  refine Gn ?_
  refine G (q_pkt ?_)
  refine Mv ?_
  refine Gn ?_
  refine Gn ?_
  refine Gn ?_
  refine G (q_pkt ?_)
  refine gend ?_
  refine cndT ?_
  refine awp_seq ?_
  refine rln ?_
  refine G2 (fun _ k_ => q_callp known_ k_) ?_
  refine As ?_
  refine gend ?_
  refine awp_ret ?_
  exact fp1
theorem carries_b2 (a b hash : List UInt8) (ha : a.length = 32) (hb : b.length = 32) (hh : hash.length = 32) (many : Int) (order : List Int) (n : Nat) (h1 : ¬ many < 1) (h2 : 200 < many) : Good Try.prog 3 [.a (u8s a), .a (u8s b), .a (u8s hash), .c (ci many), .c (.ro n (i64s order))] [] (sc (.bool true)) [] := by
  refine good_frm 142 Try.func3 rfl rfl rfl rfl rfl rfl ?_
  refine awp_seq ?_
  refine rln ?_
  refine G2 (fun _ k_ => q_boxa k_) ?_
  refine G2 (fun _ k_ => q_boxa k_) ?_
  refine G2 (fun _ k_ => q_boxa k_) ?_
  refine As ?_
  refine gend ?_
  refine awp_seq ?_
  refine awp_seq ?_
  refine rln ?_
  refine Mv ?_
  refine G (q_lssi (y := 1) ?_)
  refine Mv ?_
  refine Akfd 28 (fun hb3 => ?_) ?_; rotate_left
  · exact h1
  refine Gg (q_mv (s := .v (.c _)) ?_)
  refine Gg (q_gtri (y := 200) ?_)
  refine G (q_pkf ?_)
  refine Mv ?_
  refine Aknd 32 (fun hb7 => ?_) ?_; rotate_left
  · exact h2
  refine Gn ?_
  refine Gn ?_
  refine Gn ?_
  refine G (q_pkt ?_)
  refine gend ?_
  refine cndT ?_
  refine awp_seq ?_
  refine rln ?_
  refine G2 (fun _ k_ => q_callp known_ k_) ?_
  refine As ?_
  refine gend ?_
  refine awp_ret ?_
  exact fp1
theorem carries_b3 (a b hash : List UInt8) (ha : a.length = 32) (hb : b.length = 32) (hh : hash.length = 32) (many : Int) (order : List Int) (n : Nat) (h1 : ¬ many < 1) (h2 : ¬ 200 < many) (h3 : 100 < n) : Good Try.prog 3 [.a (u8s a), .a (u8s b), .a (u8s hash), .c (ci many), .c (.ro n (i64s order))] [] (sc (.bool true)) [] := by
  refine good_frm 142 Try.func3 rfl rfl rfl rfl rfl rfl ?_
  refine awp_seq ?_
  refine rln ?_
  refine G2 (fun _ k_ => q_boxa k_) ?_
  refine G2 (fun _ k_ => q_boxa k_) ?_
  refine G2 (fun _ k_ => q_boxa k_) ?_
  refine As ?_
  refine gend ?_
  refine awp_seq ?_
  refine awp_seq ?_
  refine rln ?_
  refine Mv ?_
  refine G (q_lssi (y := 1) ?_)
  refine Mv ?_
  refine Akfd 28 (fun hb3 => ?_) ?_; rotate_left
  · exact h1
  refine Gg (q_mv (s := .v (.c _)) ?_)
  refine Gg (q_gtri (y := 200) ?_)
  refine G (q_pkf ?_)
  refine Mv ?_
  refine Akfd 32 (fun hb7 => ?_) ?_; rotate_left
  · exact h2
  refine Gg (q_mv (s := .v (.c _)) ?_)
  refine Gg (q_leno ?_)
  refine Gg (q_gtrn (y := 100) ?_)
  refine G (q_pkf ?_)
  refine gend ?_
  refine cndY (fun hc1 => ?_) ?_; rotate_left
  · exact h3
  refine awp_seq ?_
  refine rln ?_
  refine G2 (fun _ k_ => q_callp known_ k_) ?_
  refine As ?_
  refine gend ?_
  refine awp_ret ?_
  exact fp1
theorem nx1_ {H : Heap} {π πd : List Nat} {a b hash : List UInt8} {es : UInt64} {i : Nat} {T : Heap} {x1 x2 x3 : Nat × List Cell} {p q : Nat} {qs : List Nat} {frs : List (Nat × List Cell)} (h : Apt H [(π, cT a b hash es (UInt64.ofNat i + 1) [] 0 0), (πd, T)] ((p, qs.map cq ++ [cq q]) :: x1 :: x2 :: x3 :: frs)) :
    Apt H [(π, cT a b hash es (UInt64.ofNat (i + 1)) [] 0 0), (πd, T)] ((p, (qs ++ [q]).map cq) :: x2 :: frs) := by
  rw [ofNat_succ, show qs.map cq ++ [cq q] = (qs ++ [q]).map cq by simp] at h
  exact sep_perm (sep_less (sep_perm (sep_less (sep_perm h (List.perm_middle (l₁ := [_]) (l₂ := x2 :: x3 :: frs)))) (List.perm_middle (l₁ := [_, _]) (l₂ := frs)))) (List.Perm.refl _)
theorem nf1_ {a hash : List UInt8} {i q : Nat} {qs : List Nat} {frs : List (Nat × List Cell)} (hf : ∀ j, j < i → ∃ q, qs[j]? = some q ∧ (q, u8s (fr19 a hash (UInt64.ofNat j) [UInt8.ofNat j, 7])) ∈ frs) (hq : qs.length = i) :
    ∀ j, j < i + 1 → ∃ q', (qs ++ [q])[j]? = some q' ∧ (q', u8s (fr19 a hash (UInt64.ofNat j) [UInt8.ofNat j, 7])) ∈ (q, u8s (fr19 a hash (UInt64.ofNat i) [UInt8.ofNat i, 7])) :: frs := by
  intro j hj
  by_cases h : j < i
  · obtain ⟨q', h1, h2⟩ := hf j h
    exact ⟨q', by rw [List.getElem?_append_left (by omega)]; exact h1, List.mem_cons_of_mem _ h2⟩
  · obtain rfl : j = i := by omega
    exact ⟨q, by rw [List.getElem?_append_right (by omega), hq, Nat.sub_self]; rfl, List.mem_cons_self ..⟩
theorem ne1_ {i : Nat} (h : i ≤ 200) : UInt64.ofNat i / 64 ≤ UInt64.ofNat (i + 1) / 64 := by
  rw [UInt64.le_iff_toNat_le, d64, d64, ofNat_nat (by omega), ofNat_nat (by omega)]; omega
theorem i64_at {l : List Int} {k : Nat} (h : k < l.length) : (i64s l)[k]? = some (ci (l.getD k 0)) := by
  simp only [mapc, List.getElem?_map, List.getElem?_eq_getElem h, Option.map_some, List.getD_eq_getElem?_getD, Option.getD_some]
theorem cT_bnd (k r hash : List UInt8) (es sent : UInt64) (l : List UInt64) (wg wb : UInt64) : (cT k r hash es sent l wg wb).all (blkC (bnd (fun p => Nat.blt p (cT k r hash es sent l wg wb).length) 8)) = true := by
  show List.all (cT k r hash es sent l wg wb) (blkC (bnd (fun p => Nat.blt p 10) 8)) = true
  unfold cT
  exact (allb (all_ch _ (fun p hp => by revert p; decide) rfl (fun _ => rfl) (fun _ => rfl) all_bnd) (allb rfl (allb rfl (allb all_bnd (allb (all_cb _ ⟨rfl, rfl, rfl⟩) (allb all_kb (allb rfl (allb all_bnd (allb (all_cb _ ⟨rfl, rfl, rfl⟩) (allb all_kb rfl))))))))))
theorem nx2_ {H : Heap} {os : List (List Nat × Heap)} {x0 x1 x2 x3 : Nat × List Cell} {R : List (Nat × List Cell)} (h : Apt H os (x0 :: x1 :: x2 :: x3 :: R)) : Apt H os (x0 :: R) :=
  sep_less (sep_perm (sep_less (sep_perm (sep_less (sep_perm h (List.perm_middle (l₁ := [_]) (l₂ := x2 :: x3 :: R)))) (List.perm_middle (l₁ := [_]) (l₂ := x3 :: R)))) (List.perm_middle (l₁ := [_]) (l₂ := R)))
set_option maxHeartbeats 3200000 in
theorem carries_ (a b hash : List UInt8) (ha : a.length = 32) (hb : b.length = 32) (hh : hash.length = 32) (m : Nat) (hm1 : 1 ≤ m) (hm2 : m ≤ 200) (order : List Int) (n : Nat) (hn : order.length = n) (hn2 : n ≤ 100) : Good Try.prog 3 [.a (u8s a), .a (u8s b), .a (u8s hash), .c (cn m), .c (.ro n (i64s order))] [] (sc (.bool true)) [] := by
  refine good_frm 142 Try.func3 rfl rfl rfl rfl rfl rfl ?_
  refine awp_seq ?_
  refine rln ?_
  refine G2 (fun _ k_ => q_boxa k_) ?_
  refine G2 (fun _ k_ => q_boxa k_) ?_
  refine G2 (fun _ k_ => q_boxa k_) ?_
  refine As ?_
  refine gend ?_
  refine awp_seq ?_
  refine awp_seq ?_
  refine rln ?_
  refine Mv ?_
  refine G (q_lssn (y := 1) ?_)
  refine Mv ?_
  refine Akfd 28 (fun hb3 => ?_) ?_; rotate_left
  · omega
  refine Gg (q_mv (s := .v (.c _)) ?_)
  refine Gg (q_gtrn (y := 200) ?_)
  refine G (q_pkf ?_)
  refine Mv ?_
  refine Akfd 32 (fun hb7 => ?_) ?_; rotate_left
  · omega
  refine Gg (q_mv (s := .v (.c _)) ?_)
  refine Gg (q_leno ?_)
  refine Gg (q_gtrn (y := 100) ?_)
  refine G (q_pkf ?_)
  refine gend ?_
  refine cndN (fun hc1 => ?_) ?_; rotate_left
  · omega
  refine awp_skip ?_
  refine awp_seq ?_
  refine rln ?_
  refine G (q_ldw ?_)
  refine G (q_ldw ?_)
  refine G (q_ldw ?_)
  refine G2 (fun _ k_ => q_callv [] [] [some (chC (0 : UInt64) (grl [] / 64) 2 (decide ((0 : UInt64) ≠ 0)) 4 6 (decide ((grl [] / 64) ≠ 0)) 8 (0 : UInt64) 1 (grl []) (decide (0 < ([] : List UInt64).length)) hash), some (wcs true 0 0), some (cC (.ptr 3 0) 0), some (u8s (S0 a (0 : UInt64).toNat)), cb (decide ((0 : UInt64) ≠ 0)) 5, kb (decide ((0 : UInt64) ≠ 0)) (S1 a (0 : UInt64).toNat), some (cC (.ptr 7 0) 0), some (u8s (S0 b (grl [] / 64).toNat)), cb (decide ((grl [] / 64) ≠ 0)) 9, kb (decide ((grl [] / 64) ≠ 0)) (S1 b (grl [] / 64).toNat), some (chC (0 : UInt64) (grl [] / 64) 12 (decide ((0 : UInt64) ≠ 0)) 14 16 (decide ((grl [] / 64) ≠ 0)) 18 (0 : UInt64) 11 (grl []) (decide (0 < ([] : List UInt64).length)) hash), some (wcs true 0 0), some (cC (.ptr 13 0) 0), some (u8s (S0 b (0 : UInt64).toNat)), cb (decide ((0 : UInt64) ≠ 0)) 15, kb (decide ((0 : UInt64) ≠ 0)) (S1 b (0 : UInt64).toNat), some (cC (.ptr 17 0) 0), some (u8s (S0 a (grl [] / 64).toNat)), cb (decide ((grl [] / 64) ≠ 0)) 19, kb (decide ((grl [] / 64) ≠ 0)) (S1 a (grl [] / 64).toNat)] (two_ a b hash ha hb hh) k_ (ha := (caa (et rfl) sees_m (caa (et rfl) sees_m (caa (et rfl) sees_m ca0)))) (e2 := pl0) (eL := ml0) (eM := (ml1 (chC_map rfl rfl rfl rfl rfl) (ml1 rfl (ml1 rfl (ml1 sees_m (mlb (cb_map rfl) (mlb kb_map (ml1 rfl (ml1 sees_m (mlb (cb_map rfl) (mlb kb_map (ml1 (chC_map rfl rfl rfl rfl rfl) (ml1 rfl (ml1 rfl (ml1 sees_m (mlb (cb_map rfl) (mlb kb_map (ml1 rfl (ml1 sees_m (mlb (cb_map rfl) (mlb kb_map ml0)))))))))))))))))))))) ?_
  refine G (q_mv (s := .t _) ?_)
  refine G (q_ext (y := .c _) ?_)
  refine G (q_ext (y := .c _) ?_)
  refine As ?_
  refine As ?_
  refine gend ?_
  refine awp_seq ?_
  refine rln ?_
  refine As ?_
  refine gend ?_
  refine awp_seq ?_
  refine awp_seq ?_
  refine rln ?_
  refine G (q_as (s := sc (cn 0)) ?_)
  refine gend ?_
  refine awp_block ?_
  refine awp_loop (fun x : C1 a b hash m => ⟨frm 142 [(3, sc (cn m)), (4, sc (.ro n (i64s order))), (11, sc (.ptr 3 0)), (12, sc (.ptr 13 0)), (13, sc (.slc x.fb 0 x.i 1)), (14, sc (cn x.i))], x.H⟩) (fun x => m - x.i) ⟨0, [some (u8s a), some (u8s b), some (u8s hash), some (chC (0 : UInt64) (grl [] / 64) 5 (decide ((0 : UInt64) ≠ 0)) 7 9 (decide ((grl [] / 64) ≠ 0)) 11 (0 : UInt64) 4 (grl []) (decide (0 < ([] : List UInt64).length)) hash), some (wcs true 0 0), some (cC (.ptr 6 0) 0), some (u8s (S0 a (0 : UInt64).toNat)), cb (decide ((0 : UInt64) ≠ 0)) 8, kb (decide ((0 : UInt64) ≠ 0)) (S1 a (0 : UInt64).toNat), some (cC (.ptr 10 0) 0), some (u8s (S0 b (grl [] / 64).toNat)), cb (decide ((grl [] / 64) ≠ 0)) 12, kb (decide ((grl [] / 64) ≠ 0)) (S1 b (grl [] / 64).toNat), some (chC (0 : UInt64) (grl [] / 64) 15 (decide ((0 : UInt64) ≠ 0)) 17 19 (decide ((grl [] / 64) ≠ 0)) 21 (0 : UInt64) 14 (grl []) (decide (0 < ([] : List UInt64).length)) hash), some (wcs true 0 0), some (cC (.ptr 16 0) 0), some (u8s (S0 b (0 : UInt64).toNat)), cb (decide ((0 : UInt64) ≠ 0)) 18, kb (decide ((0 : UInt64) ≠ 0)) (S1 b (0 : UInt64).toNat), some (cC (.ptr 20 0) 0), some (u8s (S0 a (grl [] / 64).toNat)), cb (decide ((grl [] / 64) ≠ 0)) 22, kb (decide ((grl [] / 64) ≠ 0)) (S1 a (grl [] / 64).toNat)] ++ [some []], [3, 4, 5, 6, 7, 8, 9, 10, 11, 12], [13, 14, 15, 16, 17, 18, 19, 20, 21, 22], 0, 23, [], [], Nat.zero_le _, start_ a b hash, rfl, fun j h => absurd h (Nat.not_lt_zero _), UInt64.le_refl _, rfl, rfl⟩ (sle_empty 1 (Nat.zero_le _) ⟨.inl rfl, .inl rfl, .inl rfl, .inl rfl, .inr ⟨rfl, rfl⟩, .inl rfl, trivial⟩) fun x => ?_
  have hxi := x.hi
  have hi9 : (UInt64.ofNat x.i).toNat = x.i := ofNat_nat (by omega)
  have hs1 : ¬ 281474976710655 < UInt64.ofNat x.i := by rw [UInt64.lt_iff_toNat_lt, hi9, show (281474976710655 : UInt64).toNat = 281474976710655 from rfl]; omega
  have hA1 := sep_new x.hA (u8s [UInt8.ofNat x.i, 7])
  obtain ⟨H2, π2, e2, hn2, hA2, h02, hl2⟩ := seal_at a b hash x.es (UInt64.ofNat x.i) [] 0 0 [UInt8.ofNat x.i, 7] hA1 x.h0
  have q1 : Good Try.prog 10 [.c (.ptr 0 0), .c (.ro 2 (u8s [UInt8.ofNat x.i, 7]))] (cT a b hash x.es (UInt64.ofNat x.i) [] 0 0) (.t [.c (.slc 14 0 (8 + (2 + 16)) 1), .c (cn 0)]) (sealT a b hash x.es (UInt64.ofNat x.i) [] 0 0 [UInt8.ofNat x.i, 7]) := chseal_u a b hash x.es (grl [] / 64) (UInt64.ofNat x.i) (grl []) (decide (0 < ([] : List UInt64).length)) 0 0 ha hb hh [UInt8.ofNat x.i, 7] 2 rfl (by decide) hs1 x.he
  have hq1 := x.hq
  have hA3 := sep_new hA2 [cq ((x.H ++ [some (u8s [UInt8.ofNat x.i, 7])]).length + 4)]
  have hf3 := hA3.rw_ (x.fb, x.qs.map cq) (by simp)
  have hg3 := hA3.rw_ (H2.length, [cq ((x.H ++ [some (u8s [UInt8.ofNat x.i, 7])]).length + 4)]) (by simp)
  have hA4 := sep_new (sep_drop (b := none) (sep_perm hA3 (List.perm_middle (l₁ := [_, _, _]) (l₂ := x.frs)))) (x.qs.map cq ++ [cq ((x.H ++ [some (u8s [UInt8.ofNat x.i, 7])]).length + 4)])
  rw [show ((H2 ++ [some [cq ((x.H ++ [some (u8s [UInt8.ofNat x.i, 7])]).length + 4)]]).set x.fb none).length = H2.length + 1 by simp] at hA4
  skip
  refine awp_seq ?_
  refine awp_seq ?_
  refine rln ?_
  refine Mv ?_
  refine Mv ?_
  refine G (q_lssn ?_)
  refine gend ?_
  refine cnd (fun hc2 => ?_) (fun hc2 => ?_); rotate_left
  · refine awp_exit ?_
    have hxm : x.i = m := by have := x.hi; omega
    refine awp_seq ?_
    refine rln ?_
    refine As ?_
    refine gend ?_
    refine awp_seq ?_
    refine rln ?_
    refine As ?_
    refine gend ?_
    refine awp_seq ?_
    refine awp_seq ?_
    refine rln ?_
    refine G (q_as (s := sc (cn 0)) ?_)
    refine gend ?_
    refine awp_block ?_
    refine awp_loop (fun x2 : C2 a b hash m n ((x.fb, x.qs.map cq) :: x.frs) => ⟨frm 142 [(3, sc (cn m)), (4, sc (.ro n (i64s order))), (12, sc (.ptr 13 0)), (13, sc (.slc x.fb 0 x.i 1)), (17, sc (.slc x2.cb 0 x2.came.length 1)), (18, sc (ci x2.top)), (19, sc (cn x2.i))], x2.H⟩) (fun x2 => n - x2.i) ⟨0, x.H ++ [some []], x.πd, [], 0, 0, x.H.length, [], -1, Nat.zero_le _, sep_new (sep_noob x.hA) [], x.hd, inv_nil, (fun _ h => absurd h List.not_mem_nil), rfl, (fun z h => absurd h List.not_mem_nil), Nat.le_refl _, by rw [if_pos rfl]⟩ (sle_empty 1 (Nat.zero_le _) ⟨.inl rfl, .inl rfl, .inl rfl, .inl rfl, .inr ⟨rfl, rfl⟩, .inl rfl, .inl rfl, trivial⟩) fun x2 => ?_
    obtain ⟨N, hN, hNe, hNl, hNu⟩ := at_ok (order.getD x2.i 0) (n := m) (by omega)
    have hx2i := x2.hi
    have hx2n := x2.hn
    obtain ⟨q, hq0, hqm⟩ := x.hf N (by omega)
    have hFl := fr19_len (s := a) (h := hash) (n := UInt64.ofNat N) (c := [UInt8.ofNat N, 7])
    obtain ⟨FR, hFR⟩ : ∃ t, fr19 a hash (UInt64.ofNat N) [UInt8.ofNat N, 7] = t := ⟨_, rfl⟩
    rw [hFR] at hFl hqm
    replace hFl : FR.length = 26 := hFl
    have hN9 : (UInt64.ofNat N).toNat = N := ofNat_nat (by omega)
    have hsB := sB_iff hm2 x2.hc hN x2.hl x2.ht
    have hm3 : (q, u8s FR) ∈ (x2.cb, i64s x2.came) :: (x.fb, x.qs.map cq) :: x.frs := by simp [hqm]
    have hfb := x2.hA.rw_ (x.fb, x.qs.map cq) (by simp)
    have hcb := x2.hA.rw_ (x2.cb, i64s x2.came) (by simp)
    have hqN : (x.qs.map cq)[N]? = some (cq q) := by rw [List.getElem?_map, hq0]; rfl
    refine awp_seq ?_
    refine awp_seq ?_
    refine rln ?_
    refine Mv ?_
    refine Mv ?_
    refine G (q_leno ?_)
    refine G (q_lssn ?_)
    refine gend ?_
    refine cnd (fun hc3 => ?_) (fun hc3 => ?_); rotate_left
    · refine awp_exit ?_
      refine awp_seq ?_
      refine rln ?_
      refine G2 (fun _ k_ => q_callp known_ k_) ?_
      refine As ?_
      refine gend ?_
      refine awp_ret ?_
      exact fp1
    refine awp_skip ?_
    refine awp_seq ?_
    refine awp_block ?_
    refine awp_mid ⟨frm 142 [(3, sc (cn m)), (4, sc (.ro n (i64s order))), (12, sc (.ptr 13 0)), (13, sc (.slc x.fb 0 x.i 1)), (17, sc (.slc x2.cb 0 x2.came.length 1)), (18, sc (ci x2.top)), (19, sc (cn x2.i)), (20, sc (cn N))], x2.H⟩ ?_ ?_
    · refine rln ?_
      refine Mv ?_
      refine Mv ?_
      refine G (q_ixo1 ?_)
      refine G (q_ldrd ?_)
      refine Mv ?_
      refine G (q_remi ?_)
      refine Mv ?_
      refine G (q_addi ?_)
      refine Mv ?_
      refine G (q_remi ?_)
      refine As ?_
      refine gend ?_
      exact sle_sub ⟨rfl, rfl, rfl, rfl, rfl, rfl, rfl, congrArg (fun t => sc (ci t)) hNe, trivial⟩ rfl
    refine awp_mid ⟨frm 142 [(3, sc (cn m)), (4, sc (.ro n (i64s order))), (12, sc (.ptr 13 0)), (13, sc (.slc x.fb 0 x.i 1)), (17, sc (.slc x2.cb 0 x2.came.length 1)), (18, sc (ci x2.top)), (19, sc (cn x2.i)), (20, sc (cn N)), (21, sc (.bool (decide (0 ≤ x2.top ∧ (N : Int) + 64 ≤ x2.top))))], x2.H⟩ ?_ ?_
    · refine rln ?_
      refine Mv ?_
      refine G (q_geqi (y := 0) ?_)
      refine Mv ?_
      refine Aspd 82 (fun hb3 => ?_) (fun hb3 => ?_)
      · refine Gg (q_mv (s := .v (.c _)) ?_)
        refine Gg (q_addn (y := 64) ?_)
        refine Gg (q_mv (s := .v (.c _)) ?_)
        refine Gg (q_leqi ?_)
        refine G (q_pkt ?_)
        refine As ?_
        refine gend ?_
        exact sle_sub ⟨rfl, rfl, rfl, rfl, rfl, rfl, rfl, rfl, congrArg (fun t => sc (.bool t)) (by first | exact (decide_eq_decide.2 ⟨fun h => ⟨by assumption, h⟩, fun h => h.2⟩) | exact (decide_eq_false (fun h => absurd h.1 (by assumption))).symm), trivial⟩ rfl
      refine Gn ?_
      refine Gn ?_
      refine Gn ?_
      refine Gn ?_
      refine G (q_pkf ?_)
      refine As ?_
      refine gend ?_
      exact sle_sub ⟨rfl, rfl, rfl, rfl, rfl, rfl, rfl, rfl, congrArg (fun t => sc (.bool t)) (by first | exact (decide_eq_decide.2 ⟨fun h => ⟨by assumption, h⟩, fun h => h.2⟩) | exact (decide_eq_false (fun h => absurd h.1 (by assumption))).symm), trivial⟩ rfl
    refine awp_seq ?_
    refine awp_seq ?_
    refine rln ?_
    refine G (q_as (s := sc (cn 0)) ?_)
    refine gend ?_
    refine awp_block ?_
    refine awp_loop (fun x3 : {k : Nat // k ≤ x2.came.length} => ⟨frm 142 [(3, sc (cn m)), (4, sc (.ro n (i64s order))), (12, sc (.ptr 13 0)), (13, sc (.slc x.fb 0 x.i 1)), (17, sc (.slc x2.cb 0 x2.came.length 1)), (18, sc (ci x2.top)), (19, sc (cn x2.i)), (20, sc (cn N)), (21, sc (.bool (decide (0 ≤ x2.top ∧ (N : Int) + 64 ≤ x2.top) || (x2.came.take x3.1).contains (N : Int)))), (22, sc (cn x3.1))], x2.H⟩) (fun x3 => x2.came.length - x3.1) ⟨0, Nat.zero_le _⟩ (sle_sub ⟨rfl, rfl, rfl, rfl, rfl, rfl, rfl, rfl, congrArg (fun t => sc (.bool t)) (Bool.or_false _).symm, rfl, trivial⟩ rfl) fun x3 => ?_
    refine awp_seq ?_
    refine awp_seq ?_
    refine rln ?_
    refine Mv ?_
    refine Mv ?_
    refine G (q_lenc ?_)
    refine G (q_lssn ?_)
    refine gend ?_
    refine cnd (fun hc4 => ?_) (fun hc4 => ?_); rotate_left
    · refine awp_exit ?_
      have hk3 : x3.1 = x2.came.length := by have := x3.2; omega
      have hS : (decide (0 ≤ x2.top ∧ (N : Int) + 64 ≤ x2.top) || (x2.came.take x3.1).contains (N : Int)) = sB x2.came x2.top N := by rw [hk3, List.take_length]; rfl
      rcases hsv : sB x2.came x2.top N with _ | _
      · have hnot := mt hsB.2 (by rw [hsv]; decide)
        have hg9 := came_grl hm2 x2.hc
        rw [← x2.hl] at hg9
        have o1 : op19 a hash x2.l FR = ([UInt8.ofNat N, 7], UInt64.ofNat N, 0, x2.l ++ [UInt64.ofNat N]) := by
          rw [← hFR]
          refine op19_fr (by simp) (by omega) (fun h => hnot (.inl h)) (fun h => hnot (.inr h)) ?_
          rw [UInt64.lt_iff_toNat_lt, UInt64.toNat_add, d64, d64, hN9, show (16 : UInt64).toNat = 16 from rfl, Nat.mod_eq_of_lt (by omega)]; omega
        have qo : Good Try.prog 11 [.c (.ptr 0 0), .c (.ro 26 (u8s FR))] (cT b a hash 0 0 x2.l x2.wg x2.wb) (.t [.c (.slc 14 0 (op19 a hash x2.l FR).1.length 1), .c (c64 (op19 a hash x2.l FR).2.1), .c (cn (op19 a hash x2.l FR).2.2.1)]) (openT b a hash 0 0 x2.l x2.wg x2.wb FR) := chopen_u b a hash 0 0 x2.l x2.wg x2.wb hb ha hh x2.I x2.hM FR 26 hFl
        obtain ⟨H2, π2, e2, hn2, hA2, h02, hl2⟩ := open_at b a hash 0 0 x2.l x2.wg x2.wb FR x2.hA x2.h0
        rw [o1] at hA2
        have I2 := op19_inv (r := a) (h := hash) (fr := FR) x2.I x2.hM
        rw [o1] at I2
        have hA3 := sep_new hA2 (u8s [UInt8.ofNat N, 7])
        have hA4 := sep_new hA3 [cn N]
        have hA5 := nx2_ (sep_new (sep_drop (b := none) (sep_perm hA4 (List.perm_middle (l₁ := [_, _, _]) (l₂ := (x.fb, x.qs.map cq) :: x.frs)))) (i64s x2.came ++ [cn N]))
        rw [show ((H2 ++ [some (u8s [UInt8.ofNat N, 7])] ++ [some [cn N]]).set x2.cb none).length = H2.length + 1 + 1 by simp] at hA5
        rw [show i64s x2.came ++ [cn N] = i64s (x2.came ++ [(N : Int)]) by simp [mapc]] at hA5
        have htn := top_next hm2 hN x2.ht x2.hl
        have hln : x2.l ++ [UInt64.ofNat N] = (x2.came ++ [(N : Int)]).map fun z => UInt64.ofNat z.toNat := by rw [List.map_append, ← x2.hl]; rfl
        have hcn : ∀ z ∈ x2.came ++ [(N : Int)], 0 ≤ z ∧ z < m := by
          intro z hz
          rcases List.mem_append.1 hz with hz | hz
          · exact x2.hc z hz
          · rw [List.mem_singleton.1 hz]; omega
        refine retell [(3, sc (cn m)), (4, sc (.ro n (i64s order))), (12, sc (.ptr 13 0)), (13, sc (.slc x.fb 0 x.i 1)), (17, sc (.slc x2.cb 0 x2.came.length 1)), (18, sc (ci x2.top)), (19, sc (cn x2.i)), (20, sc (cn N)), (21, sc (.bool false))] ?_ ⟨rfl, rfl, rfl, rfl, rfl, rfl, rfl, rfl, congrArg (fun t => sc (.bool t)) (hS.trans hsv), trivial⟩
        refine awp_seq ?_
        refine rln ?_
        refine Mv ?_
        refine Mv ?_
        refine Mv ?_
        refine G (q_ixs1 ?_)
        refine G (q_ldp ?_ (hp := hfb) (hc := hqN))
        refine G2 (fun _ k_ => q_callo qo x2.hA.hob x2.hA.hnd (cT_clo ..) e2 k_ (ha := (cac (et rfl) (ptr_in x2.hA.hnd (at0 x2.hA.hob.len.symm x2.h0)) (cac (et rfl) (sees_slc (sep_out x2.hA hm3) (x2.hA.rw_ _ hm3) (cut_h hFl)) ca0))) (s := .t [.c (.slc (x2.H.length + 4) 0 2 1), .c (c64 (UInt64.ofNat N)), .c (cn 0)]) (e3 := (by rw [o1]; exact vt3 (res_new (m := 10) (i := 4) x2.hA.hob.len.symm) vs_int vs_int))) ?_
        refine G (q_mv (s := .t _) ?_)
        refine G (q_ext (y := .c _) ?_)
        refine G (q_ext (y := .c _) ?_)
        refine G (q_ext (y := .c _) ?_)
        refine As ?_
        refine As ?_
        refine As ?_
        refine gend ?_
        refine awp_seq ?_
        refine awp_seq ?_
        refine rln ?_
        refine Mv ?_
        refine gend ?_
        refine cndbN (fun hc5 => ?_) ?_; rotate_left
        · exact rfl
        refine awp_skip ?_
        refine awp_seq ?_
        refine awp_seq ?_
        refine rln ?_
        refine Mv ?_
        refine G (q_neqn (y := 0) ?_)
        refine Mv ?_
        refine Akfd 118 (fun hb3 => ?_) ?_; rotate_left
        · exact fun h => h rfl
        refine Gg (q_mv (s := .v (.c _)) ?_)
        refine Gg (q_mv (s := .v (.c _)) ?_)
        refine Gg (q_cv0_64 ?_)
        refine Gg (q_neq64 ?_)
        refine G (q_pkf ?_)
        refine Mv ?_
        refine Akfd 124 (fun hb9 => ?_) ?_; rotate_left
        · exact fun h => h rfl
        refine Gg (q_mv (s := .v (.c _)) ?_)
        refine Gg (q_csl  ?_ (hp := hA2.rw_ (x2.H.length + 4, u8s [UInt8.ofNat N, 7]) (by simp)) (l := [UInt8.ofNat N, 7]) (hc := rfl))
        refine Gg (q_mv (s := .v (.c _)) ?_)
        refine Gg (q_cv0_8 ?_)
        refine G2g (fun _ k_ => q_bsl (hm := rfl) (fkc rfl (et rfl) rfl (Nat.le_of_ble_eq_true rfl) (fkc (c := c8 7) rfl rfl rfl (Nat.le_of_ble_eq_true rfl) (fk0 k_)))) ?_
        refine Gg (q_csl  ?_ (hp := hA3.rw_ (H2.length, u8s [UInt8.ofNat N, 7]) (by simp)) (l := [UInt8.ofNat N, 7]) (hc := rfl))
        refine Gg (q_neqs ?_)
        refine G (q_pkf ?_)
        refine gend ?_
        refine cndnN (fun hc6 => ?_) ?_; rotate_left
        · simp
        refine awp_skip ?_
        refine awp_seq ?_
        refine rln ?_
        refine Mv ?_
        refine Mv ?_
        refine G2 (fun _ k_ => q_bsl (hm := rfl) (fkc rfl (et rfl) rfl (Nat.le_of_ble_eq_true rfl) (fk0 k_))) ?_
        refine G2 (fun _ k_ => q_app  k_ (eA := el_slc (xs := i64s x2.came) (hA4.rw_ (x2.cb, i64s x2.came) (by simp)) (by rw [mapc_length]; omega) (by rw [List.drop_zero, List.take_of_length_le (by rw [mapc_length]; omega)])) (eB := el_slc (xs := [cn N]) (hA4.rw_ _ (List.mem_cons_self ..)) (Nat.le_refl 1) rfl)) ?_ (hH := rfl)
        refine As ?_
        refine gend ?_
        refine awp_seq ?_
        refine rln ?_
        refine Mv ?_
        refine Mv ?_
        refine G (q_gtri ?_)
        refine gend ?_
        refine cnd (fun hc7 => ?_) (fun hc7 => ?_)
        · refine rln ?_
          refine Mv ?_
          refine As ?_
          refine gend ?_
          refine rln ?_
          refine Mv ?_
          refine G (q_addn (y := 1) ?_)
          refine As ?_
          refine gend ?_
          exact ⟨⟨x2.i + 1, _, π2, x2.l ++ [UInt64.ofNat N], _, _, _, x2.came ++ [(N : Int)], (N : Int), by omega, hA5, h02, I2.1, I2.2, hln, hcn, by rw [List.length_append]; show x2.came.length + 1 ≤ _; omega, htn.1 hc7⟩, by show n - (x2.i + 1) < n - x2.i; omega, sle_sub ⟨rfl, rfl, rfl, rfl, congrArg (fun t => sc (.slc (H2.length + 1 + 1) 0 t 1)) (show x2.came.length + 1 = (x2.came ++ [(N : Int)]).length by simp), rfl, rfl, trivial⟩ (congrArg (fun t => (H2 ++ [some (u8s [UInt8.ofNat N, 7])] ++ [some [cn N]]).set x2.cb none ++ [some t]) (show i64s x2.came ++ [cn N] = i64s (x2.came ++ [(N : Int)]) by simp [mapc]))⟩
        refine awp_skip ?_
        refine rln ?_
        refine Mv ?_
        refine G (q_addn (y := 1) ?_)
        refine As ?_
        refine gend ?_
        exact ⟨⟨x2.i + 1, _, π2, x2.l ++ [UInt64.ofNat N], _, _, _, x2.came ++ [(N : Int)], x2.top, by omega, hA5, h02, I2.1, I2.2, hln, hcn, by rw [List.length_append]; show x2.came.length + 1 ≤ _; omega, htn.2 hc7⟩, by show n - (x2.i + 1) < n - x2.i; omega, sle_sub ⟨rfl, rfl, rfl, rfl, congrArg (fun t => sc (.slc (H2.length + 1 + 1) 0 t 1)) (show x2.came.length + 1 = (x2.came ++ [(N : Int)]).length by simp), rfl, rfl, trivial⟩ (congrArg (fun t => (H2 ++ [some (u8s [UInt8.ofNat N, 7])] ++ [some [cn N]]).set x2.cb none ++ [some t]) (show i64s x2.came ++ [cn N] = i64s (x2.came ++ [(N : Int)]) by simp [mapc]))⟩
      · have o1 : op19 a hash x2.l FR = ([], 0, 10, x2.l) := by rw [← hFR]; exact op19_rep (by simp) (by omega) (hsB.1 hsv)
        have qo : Good Try.prog 11 [.c (.ptr 0 0), .c (.ro 26 (u8s FR))] (cT b a hash 0 0 x2.l x2.wg x2.wb) (.t [.c .nils, .c (c64 0), .c (cn 10)]) (cT b a hash 0 0 x2.l x2.wg x2.wb) := by
          have h := chopen_e b a hash 0 0 x2.l x2.wg x2.wb hb ha hh x2.I x2.hM FR 26 hFl (by rw [o1]; simp)
          rw [o1] at h
          exact h
        obtain ⟨H2, e2, hn2, hA2⟩ := sep_call (T' := cT b a hash 0 0 x2.l x2.wg x2.wb) x2.hA (Nat.le_refl _) (cT_bnd ..)
        rw [Nat.sub_self, show List.range' (List.length x2.H) 0 = [] from rfl, List.append_nil] at hA2
        refine retell [(3, sc (cn m)), (4, sc (.ro n (i64s order))), (12, sc (.ptr 13 0)), (13, sc (.slc x.fb 0 x.i 1)), (17, sc (.slc x2.cb 0 x2.came.length 1)), (18, sc (ci x2.top)), (19, sc (cn x2.i)), (20, sc (cn N)), (21, sc (.bool true))] ?_ ⟨rfl, rfl, rfl, rfl, rfl, rfl, rfl, rfl, congrArg (fun t => sc (.bool t)) (hS.trans hsv), trivial⟩
        refine awp_seq ?_
        refine rln ?_
        refine Mv ?_
        refine Mv ?_
        refine Mv ?_
        refine G (q_ixs1 ?_)
        refine G (q_ldp ?_ (hp := hfb) (hc := hqN))
        refine G2 (fun _ k_ => q_callo qo x2.hA.hob x2.hA.hnd (cT_clo ..) e2 k_ (ha := (cac (et rfl) (ptr_in x2.hA.hnd (at0 x2.hA.hob.len.symm x2.h0)) (cac (et rfl) (sees_slc (sep_out x2.hA hm3) (x2.hA.rw_ _ hm3) (cut_h hFl)) ca0))) (e3 := vt3 vs_nils vs_int vs_int)) ?_
        refine G (q_mv (s := .t _) ?_)
        refine G (q_ext (y := .c _) ?_)
        refine G (q_ext (y := .c _) ?_)
        refine G (q_ext (y := .c _) ?_)
        refine As ?_
        refine As ?_
        refine As ?_
        refine gend ?_
        refine awp_seq ?_
        refine awp_seq ?_
        refine rln ?_
        refine Mv ?_
        refine gend ?_
        refine cndbY (fun hc5 => ?_) ?_; rotate_left
        · exact rfl
        refine awp_seq ?_
        refine awp_seq ?_
        refine rln ?_
        refine Mv ?_
        refine G (q_neqn (y := 10) ?_)
        refine gend ?_
        refine cndN (fun hc6 => ?_) ?_; rotate_left
        · exact fun h => h rfl
        refine awp_skip ?_
        refine awp_exit ?_
        refine rln ?_
        refine Mv ?_
        refine G (q_addn (y := 1) ?_)
        refine As ?_
        refine gend ?_
        exact ⟨⟨x2.i + 1, H2, x2.π, x2.l, x2.wg, x2.wb, x2.cb, x2.came, x2.top, by omega, hA2, x2.h0, x2.I, x2.hM, x2.hl, x2.hc, by omega, x2.ht⟩, by show n - (x2.i + 1) < n - x2.i; omega, sle_sub ⟨rfl, rfl, rfl, rfl, rfl, rfl, rfl, trivial⟩ rfl⟩
    refine awp_skip ?_
    refine awp_seq ?_
    refine awp_block ?_
    refine rln ?_
    refine Mv ?_
    refine Mv ?_
    refine Asp 95 (fun hb2 => ?_) (fun hb2 => ?_)
    · refine Gn ?_
      refine Gn ?_
      refine Gn ?_
      refine Gn ?_
      refine Gn ?_
      refine Gn ?_
      refine G (q_pkt ?_)
      refine As ?_
      refine gend ?_
      refine rln ?_
      refine Mv ?_
      refine G (q_addn (y := 1) ?_)
      refine As ?_
      refine gend ?_
      exact ⟨⟨x3.1 + 1, by omega⟩, by show x2.came.length - (x3.1 + 1) < x2.came.length - x3.1; omega, sle_sub ⟨rfl, rfl, rfl, rfl, rfl, rfl, rfl, rfl, congrArg (fun t => sc (.bool t)) (by rw [seen_step hc4, hb2]; rfl), rfl, trivial⟩ rfl⟩
    refine Gg (q_mv (s := .v (.c _)) ?_)
    refine Gg (q_mv (s := .v (.c _)) ?_)
    refine Gg (q_ixs1 ?_)
    refine Gg (q_ldp  ?_ (hp := hcb) (hc := i64_at hc4))
    refine Gg (q_mv (s := .v (.c _)) ?_)
    refine Gg (q_eqli (y := (N : Int)) ?_)
    refine G (q_pkf ?_)
    refine As ?_
    refine gend ?_
    refine rln ?_
    refine Mv ?_
    refine G (q_addn (y := 1) ?_)
    refine As ?_
    refine gend ?_
    exact ⟨⟨x3.1 + 1, by omega⟩, by show x2.came.length - (x3.1 + 1) < x2.came.length - x3.1; omega, sle_sub ⟨rfl, rfl, rfl, rfl, rfl, rfl, rfl, rfl, congrArg (fun t => sc (.bool t)) (by rw [seen_step hc4, hb2, Bool.false_or]), rfl, trivial⟩ rfl⟩
  refine awp_skip ?_
  refine awp_seq ?_
  refine awp_block ?_
  refine awp_seq ?_
  refine rln ?_
  refine Mv ?_
  refine Mv ?_
  refine G (q_cv0_8 ?_)
  refine G2 (fun _ k_ => q_bsl (hm := rfl) (fkc rfl (et rfl) rfl (Nat.le_of_ble_eq_true rfl) (fkc (c := c8 7) rfl rfl rfl (Nat.le_of_ble_eq_true rfl) (fk0 k_)))) ?_
  refine G2 (fun _ k_ => q_callo q1 hA1.hob hA1.hnd (cT_clo ..) e2 k_ (ha := (cac (et rfl) (ptr_in hA1.hnd (at0 hA1.hob.len.symm x.h0)) (cac (et rfl) (sees_slc (sep_out hA1 (List.mem_cons_self ..)) (hA1.rw_ _ (List.mem_cons_self ..)) rfl) ca0))) (e3 := vt2 (res_new (m := 10) (i := 4) hA1.hob.len.symm) vs_int)) ?_
  refine G (q_mv (s := .t _) ?_)
  refine G (q_ext (y := .c _) ?_)
  refine G (q_ext (y := .c _) ?_)
  refine As ?_
  refine As ?_
  refine gend ?_
  refine awp_seq ?_
  refine awp_seq ?_
  refine rln ?_
  refine Mv ?_
  refine G (q_neqn (y := 0) ?_)
  refine gend ?_
  refine cndN (fun hc8 => ?_) ?_; rotate_left
  · exact fun h => h rfl
  refine awp_skip ?_
  refine rln ?_
  refine Mv ?_
  refine Mv ?_
  refine G2 (fun _ k_ => q_bsl (hm := rfl) (fkc rfl (et rfl) rfl (Nat.le_of_ble_eq_true rfl) (fk0 k_))) ?_
  refine G2 (fun _ k_ => q_app  k_ (eA := el_slc (xs := x.qs.map cq) hf3 (by rw [List.length_map]; omega) (by rw [List.drop_zero, List.take_of_length_le (by rw [List.length_map]; omega)])) (eB := el_slc (xs := [cq ((x.H ++ [some (u8s [UInt8.ofNat x.i, 7])]).length + 4)]) hg3 (Nat.le_refl 1) rfl)) ?_ (hH := rfl)
  refine As ?_
  refine gend ?_
  refine rln ?_
  refine Mv ?_
  refine G (q_addn (y := 1) ?_)
  refine As ?_
  refine gend ?_
  exact ⟨⟨x.i + 1, _, π2, x.πd, UInt64.ofNat x.i / 64, _, x.qs ++ [(x.H ++ [some (u8s [UInt8.ofNat x.i, 7])]).length + 4], _, by omega, nx1_ hA4, by rw [List.length_append, hq1]; rfl, nf1_ x.hf hq1, ne1_ (by omega), h02, x.hd⟩, by show m - (x.i + 1) < m - x.i; omega, sle_sub ⟨rfl, rfl, rfl, rfl, rfl, rfl, trivial⟩ rfl⟩
theorem carries_all (a b hash : List UInt8) (ha : a.length = 32) (hb : b.length = 32) (hh : hash.length = 32) (many : Int) (order : List Int) (n : Nat) (hn : order.length = n) : Good Try.prog 3 [.a (u8s a), .a (u8s b), .a (u8s hash), .c (ci many), .c (.ro n (i64s order))] [] (sc (.bool true)) [] := by
  by_cases h1 : many < 1
  · exact carries_b1 a b hash ha hb hh many order n h1
  by_cases h2 : 200 < many
  · exact carries_b2 a b hash ha hb hh many order n h1 h2
  by_cases h3 : 100 < n
  · exact carries_b3 a b hash ha hb hh many order n h1 h2 h3
  obtain ⟨m, rfl⟩ : ∃ m : Nat, many = (m : Int) := ⟨many.toNat, by omega⟩
  exact carries_ a b hash ha hb hh m (by omega) (by omega) order n hn (by omega)
end Go.Proofs.Ytklcckngmmklhaa


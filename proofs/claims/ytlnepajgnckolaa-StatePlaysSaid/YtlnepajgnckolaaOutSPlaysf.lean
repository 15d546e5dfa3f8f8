/- Texts that the proof stands on, put together: the abstract machine, and what functions do over it. -/
import Derived.Test.YtlnepajgnckolaaOutSPlayse
/- What functions of the program do, walked over the abstract machine. -/
namespace Go.Proofs.Ytlnepajgnckolaa
open Go Go.Abs Go.Proofs Go.Proofs.Ytlnepajgnckolaa.Ch Go.Proofs.Ytlnepajgnckolaa.Po Go.Proofs.Ytlnepajgnckolaa.Ae Go.Proofs.Ytlnepajgnckolaa.Bl

set_option maxRecDepth 20000
theorem sees_nk {H : Heap} {q d : Nat} {n : UInt64} {π : List Nat} (hq : idx q π = none) (hC : H[q]? = some (some (cC .nilp n))) : cm (cin π true H) (d + 2) (.ptr q 0) = .rop [.nilp, c64 n, .bool true] := by
  have he : (cC .nilp n).isEmpty = false := rfl
  simp only [cm, cin, hq, joinH, hC, if_true, he, Bool.false_eq_true, if_false, List.drop_zero, List.map_cons, List.map_nil]
theorem sees_st {H : Heap} {p : Nat} {π : List Nat} {cp : Cell} {h ck : List UInt8} {c : List Cell} (hp : idx p π = none) (hS : H[p]? = some (some (sC cp h ck))) (hc : cm (cin π true H) 7 cp = .rop c) : cm (cin π true H) 8 (.ptr p 0) = .rop (.rop c :: (u8s h ++ u8s ck)) :=
  sees_ptr hp hS rfl (by rw [List.drop_zero, sC_map, hc])
/-- (*cipher.State).MixHash -/
theorem mixhash_0 (h ck : List UInt8) (hh : h.length = 32) (hk : ck.length = 32) (n : UInt64) (b : List UInt8) (a : Nat) (hb : b.length = a) (ha : a ≤ 10000) : Good Try.prog 22 [.c (.ptr 0 0), .c (.ro a (u8s b))] [some (sC (.ptr 1 0) h ck), some (cC .nilp n)] (.t []) [some (sC (.ptr 1 0) (bsum (h ++ b)) ck), some (cC .nilp n)] := by
  have hL : (sC (.ptr 1 0) h ck).length = 65 := sC_len hh hk
  have g1 := sum_ [h, b] 2 rfl (by decide) (by simp; omega)
  rw [show ([h, b] : List (List UInt8)).flatten = h ++ b by simp] at g1
  obtain ⟨B, hB⟩ : ∃ z, bsum (h ++ b) = z := ⟨_, rfl⟩
  have hBl : B.length = 32 := by rw [← hB]; exact bsum_len _
  rw [hB] at g1 ⊢
  refine good_frm 16 Try.func22 rfl rfl rfl rfl rfl rfl ?_
  refine awp_seq ?_
  refine rln ?_
  refine Mv ?_
  refine G2 (fun _ k_ => q_callp (is_ _ _) k_ (ha := (cac (et rfl) (sees_st rfl rfl (sees_nk rfl rfl)) ca0))) ?_
  refine gend ?_
  refine cndbY (fun hc1 => ?_) ?_; rotate_left
  · exact rfl
  refine rln ?_
  refine Mv ?_
  refine Mv ?_
  refine G (q_ncp ?_)
  refine G (q_fap0 ?_)
  refine G (q_slp_no ?_)
  refine Mv ?_
  refine G2 (fun _ k_ => q_bsl (fkc rfl (et rfl) rfl (Nat.le_of_ble_eq_true rfl) (fkc rfl (et rfl) rfl (Nat.le_of_ble_eq_true rfl) (fk0 k_)))) ?_
  refine G2 (fun _ k_ => q_callp g1 k_ (ha := (cac (et rfl) (sees_parts rfl rfl (pq_slc rfl rfl (sC_h hh) hh (pq_ro hb pq0))) ca0))) ?_
  refine G (q_ncp ?_)
  refine G (q_fap0 ?_)
  refine G20 (fun _ k_ => q_sta k_) ?_ (hH := by simp only [List.set_cons_zero, List.cons_append, List.nil_append]; exact congrArg (fun z => some z :: _) (sC_seth hh hBl))
  refine gend ?_
  exact fx0 [0, 1] (hH := pl1 rfl (sC_map.trans rfl) (pl1 rfl rfl pl0))
/-- (*cipher.State).MixHash -/
theorem mixhash_k (h ck : List UInt8) (hh : h.length = 32) (hk : ck.length = 32) (key : List UInt8) (n : UInt64) (hkey : key.length = 32) (b : List UInt8) (a : Nat) (hb : b.length = a) (ha : a ≤ 10000) : Good Try.prog 22 [.c (.ptr 0 0), .c (.ro a (u8s b))] [some (sC (.ptr 1 0) h ck), some (cC (.ptr 2 0) n), some (u8s key)] (.t []) [some (sC (.ptr 1 0) (bsum (h ++ b)) ck), some (cC (.ptr 2 0) n), some (u8s key)] := by
  have hL : (sC (.ptr 1 0) h ck).length = 65 := sC_len hh hk
  have g1 := sum_ [h, b] 2 rfl (by decide) (by simp; omega)
  rw [show ([h, b] : List (List UInt8)).flatten = h ++ b by simp] at g1
  obtain ⟨B, hB⟩ : ∃ z, bsum (h ++ b) = z := ⟨_, rfl⟩
  have hBl : B.length = 32 := by rw [← hB]; exact bsum_len _
  rw [hB] at g1 ⊢
  refine good_frm 16 Try.func22 rfl rfl rfl rfl rfl rfl ?_
  refine awp_seq ?_
  refine rln ?_
  refine Mv ?_
  refine G2 (fun _ k_ => q_callp (is_ _ _) k_ (ha := (cac (et rfl) (sees_st rfl rfl (sees_key rfl rfl hkey rfl rfl)) ca0))) ?_
  refine gend ?_
  refine cndbY (fun hc1 => ?_) ?_; rotate_left
  · exact rfl
  refine rln ?_
  refine Mv ?_
  refine Mv ?_
  refine G (q_ncp ?_)
  refine G (q_fap0 ?_)
  refine G (q_slp_no ?_)
  refine Mv ?_
  refine G2 (fun _ k_ => q_bsl (fkc rfl (et rfl) rfl (Nat.le_of_ble_eq_true rfl) (fkc rfl (et rfl) rfl (Nat.le_of_ble_eq_true rfl) (fk0 k_)))) ?_
  refine G2 (fun _ k_ => q_callp g1 k_ (ha := (cac (et rfl) (sees_parts rfl rfl (pq_slc rfl rfl (sC_h hh) hh (pq_ro hb pq0))) ca0))) ?_
  refine G (q_ncp ?_)
  refine G (q_fap0 ?_)
  refine G20 (fun _ k_ => q_sta k_) ?_ (hH := by simp only [List.set_cons_zero, List.cons_append, List.nil_append]; exact congrArg (fun z => some z :: _) (sC_seth hh hBl))
  refine gend ?_
  exact fx0 [0, 1, 2] (hH := pl1 rfl (sC_map.trans rfl) (pl1 rfl rfl (pl1 rfl sees_m pl0)))
/-- What a short name becomes. -/
def pad32 (s : ByteArray) : List UInt8 := s.data.toList ++ List.replicate (32 - s.size) 0
theorem pad32_len {s : ByteArray} (h : s.size ≤ 32) : (pad32 s).length = 32 := by
  have hs : s.data.toList.length = s.size := rfl
  rw [pad32, List.length_append, List.length_replicate, hs]; omega
theorem begin_cpy {s : ByteArray} (h : s.size ≤ 32) {cp : Cell} : splice (cp :: u8s (List.replicate 64 0)) 1 (List.take (min s.size 32 * 1) (u8s s.data.toList)) = sC cp (pad32 s) (List.replicate 32 0) := by
  have hs : s.data.toList.length = s.size := rfl
  unfold splice
  rw [Nat.min_eq_left h, Nat.mul_one, List.take_of_length_le (l := u8s s.data.toList) (by rw [mapc_length, hs]; exact Nat.le_refl _), mapc_length, hs]
  show cp :: ([] ++ (u8s s.data.toList ++ (cp :: u8s (List.replicate 64 0)).drop (1 + s.size))) = cp :: _
  rw [Nat.add_comm 1, List.drop_succ_cons, List.nil_append, mapc_drop, List.drop_replicate, mapc_append, mapc_append, pad32, List.append_assoc, List.replicate_append_replicate, show 32 - s.size + 32 = 64 - s.size by omega]
/-- cipher.Begin -/
theorem begin_s (s : ByteArray) (h : s.size ≤ 32) : Good Try.prog 21 [.c (.str s)] [] (sc (.ptr 1 0)) [some (cC .nilp 0), some (sC (.ptr 0 0) (pad32 s) (pad32 s))] := by
  have hP := pad32_len h
  have hL := sC_len (cp := .ptr 0 0) hP (show (List.replicate 32 (0 : UInt8)).length = 32 from rfl)
  refine good_frm 31 Try.func21 rfl rfl rfl rfl rfl rfl ?_
  refine awp_seq ?_
  refine rln ?_
  refine As ?_
  refine gend ?_
  refine awp_seq ?_
  refine rln ?_
  refine G2 (fun _ k_ => q_calln none_ k_ (ha := ca0)) ?_
  refine G (q_bls (fkc rfl (et rfl) rfl (Nat.le_of_ble_eq_true rfl) (fk0 ?_)))
  refine G2 (fun _ k_ => q_boxa k_) ?_
  refine As ?_
  refine gend ?_
  refine awp_seq ?_
  refine awp_seq ?_
  refine rln ?_
  refine Mv ?_
  refine G (q_lens ?_)
  refine G (q_leqn (y := 32) ?_)
  refine gend ?_
  refine cndY (fun hc1 => ?_) ?_; rotate_left
  · exact h
  refine rln ?_
  refine Mv ?_
  refine G (q_ncp ?_)
  refine G (q_fap0 ?_)
  refine G (q_slp_no ?_)
  refine Mv ?_
  refine G2 (fun _ k_ => q_cpy k_) ?_ (hH := by simp only [List.set_cons_zero, List.set_cons_succ, List.cons_append, List.nil_append]; exact congrArg (fun z => [some (cC .nilp 0), some z]) (begin_cpy h))
  refine gend ?_
  refine awp_seq ?_
  refine rln ?_
  refine Mv ?_
  refine Mv ?_
  refine G (q_ncp ?_)
  refine G (q_fap0 ?_)
  refine G (q_lda (xs := u8s (pad32 s)) ?_ (hc := sC_h hP))
  refine G (q_ncp ?_)
  refine G (q_fap0 ?_)
  refine G20 (fun _ k_ => q_sta k_) ?_ (hH := by simp only [List.set_cons_zero, List.set_cons_succ, List.cons_append, List.nil_append]; exact congrArg (fun z => [some (cC .nilp 0), some z]) (sC_setk hP rfl hP))
  refine gend ?_
  refine awp_seq ?_
  refine rln ?_
  refine Mv ?_
  refine As ?_
  refine gend ?_
  refine awp_ret ?_
  exact fx1 [0, 1] (hm0 := rfl) (hH := pl1 rfl rfl (pl1 rfl (sC_map.trans rfl) pl0))
end Go.Proofs.Ytlnepajgnckolaa

/- What functions of the program do, walked over the abstract machine. -/
namespace Go.Proofs.Ytlnepajgnckolaa
open Go Go.Abs Go.Proofs Go.Proofs.Ytlnepajgnckolaa.Ch Go.Proofs.Ytlnepajgnckolaa.Po Go.Proofs.Ytlnepajgnckolaa.Ae Go.Proofs.Ytlnepajgnckolaa.Bl

set_option maxRecDepth 20000
theorem cm_st {π : List Nat} {H : Heap} {c : List Cell} {h ck : List UInt8} (hc : cm (cin π true H) 7 (.rop c) = .rop c) : cm (cin π true H) 8 (.rop (.rop c :: (u8s h ++ u8s ck))) = .rop (.rop c :: (u8s h ++ u8s ck)) := by
  show Cell.rop ((Cell.rop c :: (u8s h ++ u8s ck)).map (cm (cin π true H) 7)) = _
  rw [List.map_cons, hc, mapc_append, mapc_cm]
theorem zs_seth {cp : Cell} {h : List UInt8} (hh : h.length = 32) : splice (([Cell.nilp] ++ u8s (List.replicate 64 0)).set 0 cp) 1 (u8s h) = sC cp h (List.replicate 32 0) :=
  (congrArg (fun z => splice z 1 (u8s h)) (show ([Cell.nilp] ++ u8s (List.replicate 64 0)).set 0 cp = sC cp (List.replicate 32 0) (List.replicate 32 0) from rfl)).trans (sC_seth rfl hh)
theorem zs_len {cp : Cell} {h : List UInt8} (hh : h.length = 32) : (splice (([Cell.nilp] ++ u8s (List.replicate 64 0)).set 0 cp) 1 (u8s h)).length = 65 := by
  rw [zs_seth hh]; exact sC_len hh rfl
theorem zs_all {cp : Cell} {h ck : List UInt8} (hh : h.length = 32) (hk : ck.length = 32) : splice (splice (([Cell.nilp] ++ u8s (List.replicate 64 0)).set 0 cp) 1 (u8s h)) 33 (u8s ck) = sC cp h ck :=
  (congrArg (fun z => splice z 33 (u8s ck)) (zs_seth hh)).trans (sC_setk hh rfl hk)
set_option maxHeartbeats 1600000 in
/-- (*cipher.State).MixKey -/
theorem mixkey_0 (h ck : List UInt8) (hh : h.length = 32) (hk : ck.length = 32) (n : UInt64) (b : List UInt8) (a : Nat) (hb : b.length = a) (ha : a ≤ 10000) : Good Try.prog 23 [.c (.ptr 0 0), .c (.ro a (u8s b))] [some (sC (.ptr 1 0) h ck), some (cC .nilp n)] (.t []) [some (sC (.ptr 3 0) h (h3x ck b)), some (cC .nilp n), some (u8s (h3y ck b)), some (cC (.ptr 2 0) 0)] := by
  have hL : (sC (.ptr 1 0) h ck).length = 65 := sC_len hh hk
  have g1 := two_ ck b a hk hb ha
  obtain ⟨X, hX⟩ : ∃ z, h3x ck b = z := ⟨_, rfl⟩
  obtain ⟨Y, hY⟩ : ∃ z, h3y ck b = z := ⟨_, rfl⟩
  have hXl : X.length = 32 := by rw [← hX]; exact h3x_len _ _
  have hYl : Y.length = 32 := by rw [← hY]; exact h3y_len _ _
  rw [hX, hY] at g1 ⊢
  refine good_frm 26 Try.func23 rfl rfl rfl rfl rfl rfl ?_
  refine awp_seq ?_
  refine rln ?_
  refine Mv ?_
  refine G2 (fun _ k_ => q_callp (is_ _ _) k_ (ha := (cac (et rfl) (sees_st rfl rfl (sees_nk rfl rfl)) ca0))) ?_
  refine gend ?_
  refine cndbY (fun hc1 => ?_) ?_; rotate_left
  · exact rfl
  refine awp_seq ?_
  refine rln ?_
  refine Mv ?_
  refine G (q_ncp ?_)
  refine G (q_fap0 ?_)
  refine G (q_lda (xs := u8s ck) ?_ (hc := sC_k hh hk))
  refine Mv ?_
  refine G2 (fun _ k_ => q_callp g1 k_ (ha := (caa (et rfl) sees_m (cac (et rfl) sees_ro ca0)))) ?_
  refine G (q_mv (s := .t _) ?_)
  refine G (q_ext (y := .a _) ?_)
  refine G (q_ext (y := .a _) ?_)
  refine G2 (fun _ k_ => q_al k_) ?_
  refine G2 (fun _ k_ => q_al k_) ?_
  refine G20 (fun _ k_ => q_stw k_) ?_
  refine G20 (fun _ k_ => q_stw k_) ?_
  refine gend ?_
  refine rdln [4, 7, 10] [0, 0, 0, 0, 0, 1, 1, 1, 2, 2, 2] [1, 2, 1, 0, 1, 1, 1, 2, 2, 2, 3] ?_
  refine Dp (fun _ => q_mv (s := .v (.c _)) ⟨rfl, rfl⟩) ?_
  refine Dp (fun _ => q_mv (s := .v (.c _)) ⟨rfl, rfl⟩) ?_
  refine DLw ?_
  refine DLw ?_
  refine De2 (fun _ k_ => q_callv [] [] [some (u8s Y), some (cC (.ptr 0 0) 0)] (new_ Y hYl) k_ (ha := (caa (et rfl) sees_m ca0)) (eM := (ml1 sees_m (ml1 rfl ml0)))) ?_
  refine Dp (fun _ => q_ncp ⟨rfl, rfl⟩) ?_
  refine Dp (fun _ => q_fap0 ⟨rfl, rfl⟩) ?_
  refine De20 (fun _ k_ => q_sta k_) ?_ (hH := by simp only [List.set_cons_zero, List.cons_append, List.nil_append]; exact congrArg (fun z => some z :: _) (sC_setk hh hk hXl))
  refine Dp (fun _ => q_ncp ⟨rfl, rfl⟩) ?_
  refine Dp (fun _ => q_fap0 ⟨rfl, rfl⟩) ?_
  refine De20 (fun _ k_ => q_st k_) ?_
  refine dend ?_
  exact fx0 [0, 1, 4, 5] (hH := pl1 rfl (sC_map.trans rfl) (pl1 rfl rfl (pl1 rfl sees_m (pl1 rfl rfl pl0)))) (hn := piB rfl)
set_option maxHeartbeats 1600000 in
/-- (*cipher.State).Copy -/
theorem scopy_0 (h ck : List UInt8) (hh : h.length = 32) (hk : ck.length = 32) (n : UInt64) : Good Try.prog 30 [.c (.ptr 0 0)] [some (sC (.ptr 1 0) h ck), some (cC .nilp n)] (sc (.ptr 3 0)) [some (sC (.ptr 1 0) h ck), some (cC .nilp n), some (cC .nilp n), some (sC (.ptr 2 0) h ck)] := by
  have hL : (sC (.ptr 1 0) h ck).length = 65 := sC_len hh hk
  refine good_frm 21 Try.func30 rfl rfl rfl rfl rfl rfl ?_
  refine awp_seq ?_
  refine rln ?_
  refine As ?_
  refine gend ?_
  refine awp_seq ?_
  refine awp_seq ?_
  refine rln ?_
  refine Mv ?_
  refine G2 (fun _ k_ => q_callp (is_ _ _) k_ (ha := (cac (et rfl) (sees_st rfl rfl (sees_nk rfl rfl)) ca0))) ?_
  refine G (q_notb ?_)
  refine gend ?_
  refine cndbnN (fun hc1 => ?_) ?_; rotate_left
  · exact rfl
  refine awp_skip ?_
  refine awp_seq ?_
  refine rdln [4, 14] [0, 0, 0, 0, 0, 0, 0, 0, 0, 0, 0, 0, 0, 1, 1, 2] [0, 0, 0, 0, 1, 1, 1, 1, 1, 1, 1, 1, 1, 1, 2, 2] ?_
  refine Dp (fun _ => q_mv (s := .v (.c _)) ⟨rfl, rfl⟩) ?_
  refine Dp (fun _ => q_ncp ⟨rfl, rfl⟩) ?_
  refine Dp (fun _ => q_fap0 ⟨rfl, rfl⟩) ?_
  refine DLp ?_
  refine De2 (fun _ k_ => q_callv [1] [some (cC .nilp n)] [some (cC .nilp n)] (copy_0 n) k_ (ha := (cac (et rfl) rfl ca0)) (eL := (ml1 rfl ml0)) (eM := (ml1 rfl ml0))) ?_
  refine Dp (fun _ => q_mv (s := .v (.c _)) ⟨rfl, rfl⟩) ?_
  refine Dp (fun _ => q_ncp ⟨rfl, rfl⟩) ?_
  refine Dp (fun _ => q_fap0 ⟨rfl, rfl⟩) ?_
  refine DLa (xs := u8s h) ?_ (hc := sC_h hh)
  refine Dp (fun _ => q_mv (s := .v (.c _)) ⟨rfl, rfl⟩) ?_
  refine Dp (fun _ => q_ncp ⟨rfl, rfl⟩) ?_
  refine Dp (fun _ => q_fap0 ⟨rfl, rfl⟩) ?_
  refine DLa (xs := u8s ck) ?_ (hc := sC_k hh hk)
  refine Dp (fun _ => q_bls (fkc rfl (et rfl) rfl (Nat.le_of_ble_eq_true rfl) (fka rfl (et rfl) ((mapc_length ..).trans hh) (Nat.le_of_ble_eq_true rfl) (fka rfl (et rfl) ((mapc_length ..).trans hk) (Nat.le_of_eq (zs_len hh).symm) (fk0 ⟨rfl, rfl⟩))))) ?_
  refine De2 (fun _ k_ => q_boxa k_) ?_
  refine Dp (fun _ => q_as (s := .v (.c _)) ⟨rfl, rfl⟩) ?_
  refine dend ?_
  refine awp_ret ?_
  exact fx1 [0, 1, 2, 3] (hm0 := rfl) (hH := pl1 rfl (sC_map.trans rfl) (pl1 rfl rfl (pl1 rfl rfl (pl1 rfl ((congrArg (List.map _) (zs_all hh hk)).trans (sC_map.trans rfl)) pl0)))) (hn := piB rfl)
set_option maxHeartbeats 1600000 in
/-- (*cipher.State).MixKey -/
theorem mixkey_k (h ck : List UInt8) (hh : h.length = 32) (hk : ck.length = 32) (key : List UInt8) (n : UInt64) (hkey : key.length = 32) (b : List UInt8) (a : Nat) (hb : b.length = a) (ha : a ≤ 10000) : Good Try.prog 23 [.c (.ptr 0 0), .c (.ro a (u8s b))] [some (sC (.ptr 1 0) h ck), some (cC (.ptr 2 0) n), some (u8s key)] (.t []) [some (sC (.ptr 4 0) h (h3x ck b)), some (cC (.ptr 2 0) n), some (u8s key), some (u8s (h3y ck b)), some (cC (.ptr 3 0) 0)] := by
  have hL : (sC (.ptr 1 0) h ck).length = 65 := sC_len hh hk
  have g1 := two_ ck b a hk hb ha
  obtain ⟨X, hX⟩ : ∃ z, h3x ck b = z := ⟨_, rfl⟩
  obtain ⟨Y, hY⟩ : ∃ z, h3y ck b = z := ⟨_, rfl⟩
  have hXl : X.length = 32 := by rw [← hX]; exact h3x_len _ _
  have hYl : Y.length = 32 := by rw [← hY]; exact h3y_len _ _
  rw [hX, hY] at g1 ⊢
  refine good_frm 26 Try.func23 rfl rfl rfl rfl rfl rfl ?_
  refine awp_seq ?_
  refine rln ?_
  refine Mv ?_
  refine G2 (fun _ k_ => q_callp (is_ _ _) k_ (ha := (cac (et rfl) (sees_st rfl rfl (sees_key rfl rfl hkey rfl rfl)) ca0))) ?_
  refine gend ?_
  refine cndbY (fun hc1 => ?_) ?_; rotate_left
  · exact rfl
  refine awp_seq ?_
  refine rln ?_
  refine Mv ?_
  refine G (q_ncp ?_)
  refine G (q_fap0 ?_)
  refine G (q_lda (xs := u8s ck) ?_ (hc := sC_k hh hk))
  refine Mv ?_
  refine G2 (fun _ k_ => q_callp g1 k_ (ha := (caa (et rfl) sees_m (cac (et rfl) sees_ro ca0)))) ?_
  refine G (q_mv (s := .t _) ?_)
  refine G (q_ext (y := .a _) ?_)
  refine G (q_ext (y := .a _) ?_)
  refine G2 (fun _ k_ => q_al k_) ?_
  refine G2 (fun _ k_ => q_al k_) ?_
  refine G20 (fun _ k_ => q_stw k_) ?_
  refine G20 (fun _ k_ => q_stw k_) ?_
  refine gend ?_
  refine rdln [4, 7, 10] [0, 0, 0, 0, 0, 1, 1, 1, 2, 2, 2] [1, 2, 1, 0, 1, 1, 1, 2, 2, 2, 3] ?_
  refine Dp (fun _ => q_mv (s := .v (.c _)) ⟨rfl, rfl⟩) ?_
  refine Dp (fun _ => q_mv (s := .v (.c _)) ⟨rfl, rfl⟩) ?_
  refine DLw ?_
  refine DLw ?_
  refine De2 (fun _ k_ => q_callv [] [] [some (u8s Y), some (cC (.ptr 0 0) 0)] (new_ Y hYl) k_ (ha := (caa (et rfl) sees_m ca0)) (eM := (ml1 sees_m (ml1 rfl ml0)))) ?_
  refine Dp (fun _ => q_ncp ⟨rfl, rfl⟩) ?_
  refine Dp (fun _ => q_fap0 ⟨rfl, rfl⟩) ?_
  refine De20 (fun _ k_ => q_sta k_) ?_ (hH := by simp only [List.set_cons_zero, List.cons_append, List.nil_append]; exact congrArg (fun z => some z :: _) (sC_setk hh hk hXl))
  refine Dp (fun _ => q_ncp ⟨rfl, rfl⟩) ?_
  refine Dp (fun _ => q_fap0 ⟨rfl, rfl⟩) ?_
  refine De20 (fun _ k_ => q_st k_) ?_
  refine dend ?_
  exact fx0 [0, 1, 2, 5, 6] (hH := pl1 rfl (sC_map.trans rfl) (pl1 rfl rfl (pl1 rfl sees_m (pl1 rfl sees_m (pl1 rfl rfl pl0))))) (hn := piB rfl)
set_option maxHeartbeats 1600000 in
/-- (*cipher.State).Copy -/
theorem scopy_k (h ck : List UInt8) (hh : h.length = 32) (hk : ck.length = 32) (key : List UInt8) (n : UInt64) (hkey : key.length = 32) : Good Try.prog 30 [.c (.ptr 0 0)] [some (sC (.ptr 1 0) h ck), some (cC (.ptr 2 0) n), some (u8s key)] (sc (.ptr 4 0)) [some (sC (.ptr 1 0) h ck), some (cC (.ptr 2 0) n), some (u8s key), some (cC (.ptr 2 0) n), some (sC (.ptr 3 0) h ck)] := by
  have hL : (sC (.ptr 1 0) h ck).length = 65 := sC_len hh hk
  refine good_frm 21 Try.func30 rfl rfl rfl rfl rfl rfl ?_
  refine awp_seq ?_
  refine rln ?_
  refine As ?_
  refine gend ?_
  refine awp_seq ?_
  refine awp_seq ?_
  refine rln ?_
  refine Mv ?_
  refine G2 (fun _ k_ => q_callp (is_ _ _) k_ (ha := (cac (et rfl) (sees_st rfl rfl (sees_key rfl rfl hkey rfl rfl)) ca0))) ?_
  refine G (q_notb ?_)
  refine gend ?_
  refine cndbnN (fun hc1 => ?_) ?_; rotate_left
  · exact rfl
  refine awp_skip ?_
  refine awp_seq ?_
  refine rdln [4, 14] [0, 0, 0, 0, 0, 0, 0, 0, 0, 0, 0, 0, 0, 1, 1, 2] [0, 0, 0, 0, 1, 1, 1, 1, 1, 1, 1, 1, 1, 1, 2, 2] ?_
  refine Dp (fun _ => q_mv (s := .v (.c _)) ⟨rfl, rfl⟩) ?_
  refine Dp (fun _ => q_ncp ⟨rfl, rfl⟩) ?_
  refine Dp (fun _ => q_fap0 ⟨rfl, rfl⟩) ?_
  refine DLp ?_
  refine De2 (fun _ k_ => q_callv [1, 2] [some (cC (.ptr 1 0) n), some (u8s key)] [some (cC (.ptr 1 0) n)] (copy_k key n) k_ (ha := (cac (et rfl) rfl ca0)) (eL := (ml1 rfl (ml1 sees_m ml0))) (eM := (ml1 rfl ml0))) ?_
  refine Dp (fun _ => q_mv (s := .v (.c _)) ⟨rfl, rfl⟩) ?_
  refine Dp (fun _ => q_ncp ⟨rfl, rfl⟩) ?_
  refine Dp (fun _ => q_fap0 ⟨rfl, rfl⟩) ?_
  refine DLa (xs := u8s h) ?_ (hc := sC_h hh)
  refine Dp (fun _ => q_mv (s := .v (.c _)) ⟨rfl, rfl⟩) ?_
  refine Dp (fun _ => q_ncp ⟨rfl, rfl⟩) ?_
  refine Dp (fun _ => q_fap0 ⟨rfl, rfl⟩) ?_
  refine DLa (xs := u8s ck) ?_ (hc := sC_k hh hk)
  refine Dp (fun _ => q_bls (fkc rfl (et rfl) rfl (Nat.le_of_ble_eq_true rfl) (fka rfl (et rfl) ((mapc_length ..).trans hh) (Nat.le_of_ble_eq_true rfl) (fka rfl (et rfl) ((mapc_length ..).trans hk) (Nat.le_of_eq (zs_len hh).symm) (fk0 ⟨rfl, rfl⟩))))) ?_
  refine De2 (fun _ k_ => q_boxa k_) ?_
  refine Dp (fun _ => q_as (s := .v (.c _)) ⟨rfl, rfl⟩) ?_
  refine dend ?_
  refine awp_ret ?_
  exact fx1 [0, 1, 2, 3, 4] (hm0 := rfl) (hH := pl1 rfl (sC_map.trans rfl) (pl1 rfl rfl (pl1 rfl sees_m (pl1 rfl rfl (pl1 rfl ((congrArg (List.map _) (zs_all hh hk)).trans (sC_map.trans rfl)) pl0))))) (hn := piB rfl)
/-- (*cipher.State).Hash -/
theorem hash_ (c : List Cell) (h ck : List UInt8) (hh : h.length = 32) (hk : ck.length = 32) (hc : ∀ (π : List Nat) (H : Heap), cm (cin π true H) 7 (.rop c) = .rop c) : Good Try.prog 26 [.c (.rop (.rop c :: (u8s h ++ u8s ck)))] [] (sa (u8s h)) [] := by
  have hL : (sC (.rop c) h ck).length = 65 := sC_len hh hk
  refine good_frm 11 Try.func26 rfl rfl rfl rfl rfl rfl ?_
  refine awp_seq ?_
  refine rln ?_
  refine G2 (fun _ k_ => q_al k_) ?_
  refine gend ?_
  refine awp_seq ?_
  refine awp_seq ?_
  refine rln ?_
  refine Mv ?_
  refine G2 (fun _ k_ => q_callp (is_ _ _) k_ (ha := (cac (et rfl) (cm_st (hc _ _)) ca0))) ?_
  refine G (q_notb ?_)
  refine gend ?_
  refine cndbnN (fun hc1 => ?_) ?_; rotate_left
  · exact rfl
  refine awp_skip ?_
  refine awp_seq ?_
  refine rln ?_
  refine Mv ?_
  refine G (q_ncr ?_)
  refine G (q_far ?_)
  refine G (q_ldar (xs := u8s h) ?_ (hc := sC_h hh))
  refine G20 (fun _ k_ => q_stw k_) ?_
  refine gend ?_
  refine awp_ret ?_
  exact fpc (t := 23) (a := 2) (hn := (mapc_length ..).trans hh)
/-- (*cipher.State).Chain -/
theorem chain_ (c : List Cell) (h ck : List UInt8) (hh : h.length = 32) (hk : ck.length = 32) (hc : ∀ (π : List Nat) (H : Heap), cm (cin π true H) 7 (.rop c) = .rop c) : Good Try.prog 27 [.c (.rop (.rop c :: (u8s h ++ u8s ck)))] [] (sa (u8s ck)) [] := by
  have hL : (sC (.rop c) h ck).length = 65 := sC_len hh hk
  refine good_frm 11 Try.func27 rfl rfl rfl rfl rfl rfl ?_
  refine awp_seq ?_
  refine rln ?_
  refine G2 (fun _ k_ => q_al k_) ?_
  refine gend ?_
  refine awp_seq ?_
  refine awp_seq ?_
  refine rln ?_
  refine Mv ?_
  refine G2 (fun _ k_ => q_callp (is_ _ _) k_ (ha := (cac (et rfl) (cm_st (hc _ _)) ca0))) ?_
  refine G (q_notb ?_)
  refine gend ?_
  refine cndbnN (fun hc1 => ?_) ?_; rotate_left
  · exact rfl
  refine awp_skip ?_
  refine awp_seq ?_
  refine rln ?_
  refine Mv ?_
  refine G (q_ncr ?_)
  refine G (q_far ?_)
  refine G (q_ldar (xs := u8s ck) ?_ (hc := sC_k hh hk))
  refine G20 (fun _ k_ => q_stw k_) ?_
  refine gend ?_
  refine awp_ret ?_
  exact fpc (t := 23) (a := 2) (hn := (mapc_length ..).trans hk)
/-- The reference cipher's cells. -/
abbrev rC (b : Bool) (key : List UInt8) (n : UInt64) : List Cell := .bool b :: (u8s key ++ [c64 n])
theorem rC_k {b : Bool} {key : List UInt8} {n : UInt64} (hk : key.length = 32) : ((rC b key n).drop 1).take 32 = u8s key := by
  show (u8s key ++ [c64 n]).take 32 = _
  rw [List.take_append_of_le_length (by rw [mapc_length, hk]; exact Nat.le_refl _), List.take_of_length_le (by rw [mapc_length, hk]; exact Nat.le_refl _)]
theorem rC_n {b : Bool} {key : List UInt8} {n : UInt64} (hk : key.length = 32) : (rC b key n)[33]? = some (c64 n) := by
  show (u8s key ++ [c64 n])[32]? = _
  rw [List.getElem?_append_right (by rw [mapc_length, hk]; exact Nat.le_refl _), mapc_length, hk]; rfl
theorem rC_set {b : Bool} {key : List UInt8} {n m : UInt64} (hk : key.length = 32) : (rC b key n).set 33 (c64 m) = rC b key m := by
  show Cell.bool b :: (u8s key ++ [c64 n]).set 32 (c64 m) = _
  rw [List.set_append_right _ _ (by rw [mapc_length, hk]; exact Nat.le_refl _), mapc_length, hk]; rfl
theorem rC_len {b : Bool} {key : List UInt8} {n : UInt64} (hk : key.length = 32) : (rC b key n).length = 34 := by
  show (u8s key ++ [c64 n]).length + 1 = 34
  rw [List.length_append, mapc_length, hk]; rfl
theorem rC_map {b : Bool} {key : List UInt8} {n : UInt64} {m : CM} {d : Nat} : (rC b key n).map (cm m (d + 1)) = rC b key n := by
  show Cell.bool b :: (u8s key ++ [c64 n]).map _ = _
  rw [List.map_append, mapc_cm]; rfl
end Go.Proofs.Ytlnepajgnckolaa

/- What functions of the program do, walked over the abstract machine. -/
namespace Go.Proofs.Ytlnepajgnckolaa
open Go Go.Abs Go.Proofs Go.Proofs.Ytlnepajgnckolaa.Ch Go.Proofs.Ytlnepajgnckolaa.Po Go.Proofs.Ytlnepajgnckolaa.Ae Go.Proofs.Ytlnepajgnckolaa.Bl

set_option maxRecDepth 20000
abbrev W32 : TI := ⟨34, 48, some ([.bool false] ++ u8s (List.replicate 32 0) ++ [c64 0]), .struct [(0, 4), (1, 23), (33, 30)], true⟩
theorem w32 : tiOf Try.prog 32 = some W32 := by kernel_rfl
instance : TiOf Try.prog 32 W32 := ⟨w32⟩
instance : ZT Try.prog 32 W32 ([.bool false] ++ u8s (List.replicate 32 0) ++ [c64 0]) := ⟨w32, rfl⟩
instance : StT Try.prog 32 W32 [(0, 4), (1, 23), (33, 30)] := ⟨w32, rfl⟩
instance : FdT Try.prog 32 0 W32 [(0, 4), (1, 23), (33, 30)] 0 4 T4 1 := ⟨w32, rfl, rfl, y4, rfl⟩
instance : FdT Try.prog 32 1 W32 [(0, 4), (1, 23), (33, 30)] 1 23 T23 32 := ⟨w32, rfl, rfl, y23, rfl⟩
instance : FdT Try.prog 32 2 W32 [(0, 4), (1, 23), (33, 30)] 33 30 T30 1 := ⟨w32, rfl, rfl, y30, rfl⟩
set_option maxHeartbeats 1600000 in
/-- (*escutcheonref16.Cipher).Seal -/
theorem rseal_ok (key ad l : List UInt8) (n : UInt64) (a k : Nat) (hkey : key.length = 32) (had : ad.length = a) (ha9 : a ≤ 10000) (hl : l.length = k) (hk9 : k ≤ 10000) (h : n ≠ 18446744073709551615) : Good Try.prog 13 [.c (.ptr 0 0), .c (.ro a (u8s ad)), .c (.ro k (u8s l))] [some (rC true key n)] (.t [.c (.slc 1 0 (k + 16) 1), .c (cn 0)]) [some (rC true key (n + 1)), some (u8s (aseal key (anonce n) ad l))] := by
  have hNl := anonce_len n
  have g2 := rnonce_ n
  obtain ⟨N, hN⟩ : ∃ z, anonce n = z := ⟨_, rfl⟩
  rw [hN] at hNl g2
  rw [hN]
  have g3 := rseal_ key N ad l a k hkey hNl had ha9 hl hk9
  have hn1 : n + 1 - 1 = n := UInt64.add_sub_cancel ..
  have g2' : Good Try.prog 42 [.c (c64 (n + 1 - 1))] [] (sa (u8s N)) [] := by rw [hn1]; exact g2
  have hL : ∀ n, (rC true key n).length = 34 := fun n => rC_len hkey
  have hL1 := hL n
  have hL2 := hL (n + 1)
  refine good_frm 41 Try.func13 rfl rfl rfl rfl rfl rfl ?_
  refine awp_seq ?_
  refine rln ?_
  refine As ?_
  refine G (q_as (s := sc (cn 0)) ?_)
  refine gend ?_
  refine awp_seq ?_
  refine awp_seq ?_
  refine rln ?_
  refine Mv ?_
  refine G (q_ncp ?_)
  refine G (q_fap0 ?_)
  refine G  (q_ldp ?_)
  refine G (q_notb ?_)
  refine gend ?_
  refine cndbnN (fun hc1 => ?_) ?_; rotate_left
  · exact rfl
  refine awp_skip ?_
  refine awp_seq ?_
  refine awp_seq ?_
  refine rln ?_
  refine Mv ?_
  refine G (q_ncp ?_)
  refine G (q_fap0 ?_)
  refine G (q_ldp ?_ (hc := rC_n hkey))
  refine G (q_eql64 (y := 18446744073709551615) ?_)
  refine gend ?_
  refine cndN (fun hc2 => ?_) ?_; rotate_left
  · exact h
  refine awp_skip ?_
  refine awp_seq ?_
  refine rln ?_
  refine Mv ?_
  refine Mv ?_
  refine G (q_ncp ?_)
  refine G (q_fap0 ?_)
  refine G (q_ldp ?_ (hc := rC_n hkey))
  refine G (q_add64 (y := 1) ?_)
  refine G (q_ncp ?_)
  refine G (q_fap0 ?_)
  refine G20 (fun _ k_ => q_st k_) ?_ (hH := by simp only [List.set_cons_zero]; exact congrArg (fun z => [some z]) (rC_set hkey))
  refine gend ?_
  refine awp_seq ?_
  refine rdln [12] [0, 0, 0, 0, 0, 0, 0, 0, 0, 0, 0, 0, 0, 1, 1] [0, 0, 0, 0, 0, 0, 0, 0, 0, 0, 0, 0, 1, 1, 1] ?_
  refine Dp (fun _ => q_mv (s := .v (.c _)) ⟨rfl, rfl⟩) ?_
  refine Dp (fun _ => q_ncp ⟨rfl, rfl⟩) ?_
  refine Dp (fun _ => q_fap0 ⟨rfl, rfl⟩) ?_
  refine DLa (xs := u8s key) ?_ (hc := rC_k hkey)
  refine Dp (fun _ => q_mv (s := .v (.c _)) ⟨rfl, rfl⟩) ?_
  refine Dp (fun _ => q_ncp ⟨rfl, rfl⟩) ?_
  refine Dp (fun _ => q_fap0 ⟨rfl, rfl⟩) ?_
  refine DLp ?_ (hc := rC_n hkey)
  refine Dp (fun _ => q_sub64 (y := 1) ⟨rfl, rfl⟩) ?_
  refine Dp (fun _ => q_callp g2' ⟨rfl, rfl⟩ (ha := (cac (et rfl) cm_int ca0))) ?_
  refine Dp (fun _ => q_mv (s := .v (.c _)) ⟨rfl, rfl⟩) ?_
  refine Dp (fun _ => q_mv (s := .v (.c _)) ⟨rfl, rfl⟩) ?_
  refine De2 (fun _ k_ => q_calln g3 k_ (ha := (caa (et rfl) sees_m (caa (et rfl) sees_m (cac (et rfl) sees_ro (cac (et rfl) sees_ro ca0)))))) ?_
  refine Dp (fun _ => q_as (s := .v (.c _)) ⟨rfl, rfl⟩) ?_
  refine Dp (fun _ => q_as (s := sc (cn 0)) ⟨rfl, rfl⟩) ?_
  refine dend ?_
  refine awp_ret ?_
  exact fx2 [0, 1] (hm0 := rfl) (hH := pl1 rfl rC_map (pl1 rfl sees_m pl0)) (hn := piB rfl)
end Go.Proofs.Ytlnepajgnckolaa

/- What functions of the program do, walked over the abstract machine. -/
namespace Go.Proofs.Ytlnepajgnckolaa
open Go Go.Abs Go.Proofs Go.Proofs.Ytlnepajgnckolaa.Ch Go.Proofs.Ytlnepajgnckolaa.Po Go.Proofs.Ytlnepajgnckolaa.Ae Go.Proofs.Ytlnepajgnckolaa.Bl

set_option maxRecDepth 20000
/-- The reference cipher behind some cells. -/
theorem rP_b {P : List Cell} {p : Nat} (hP : P.length = p) {b : Bool} {key : List UInt8} {n : UInt64} : (P ++ rC b key n)[p]? = some (.bool b) := by
  rw [List.getElem?_append_right (by omega), hP, Nat.sub_self]; rfl
theorem rP_n {P : List Cell} {p : Nat} (hP : P.length = p) {b : Bool} {key : List UInt8} {n : UInt64} (hk : key.length = 32) : (P ++ rC b key n)[p + 33]? = some (c64 n) := by
  rw [List.getElem?_append_right (by omega), hP, Nat.add_sub_cancel_left]; exact rC_n hk
theorem rP_k {P : List Cell} {p : Nat} (hP : P.length = p) {b : Bool} {key : List UInt8} {n : UInt64} (hk : key.length = 32) : ((P ++ rC b key n).drop (p + 1)).take 32 = u8s key := by
  rw [← List.drop_drop, List.drop_append_of_le_length (by omega), List.drop_of_length_le (l := P) (by omega), List.nil_append]; exact rC_k hk
theorem rP_set {P : List Cell} {p : Nat} (hP : P.length = p) {b : Bool} {key : List UInt8} {n m : UInt64} (hk : key.length = 32) : (P ++ rC b key n).set (p + 33) (c64 m) = P ++ rC b key m := by
  rw [List.set_append_right _ _ (by omega), hP, Nat.add_sub_cancel_left, rC_set hk]
theorem rP_len {P : List Cell} {p : Nat} (hP : P.length = p) {b : Bool} {key : List UInt8} {n : UInt64} (hk : key.length = 32) : (P ++ rC b key n).length = p + 34 := by
  rw [List.length_append, hP, rC_len hk]
end Go.Proofs.Ytlnepajgnckolaa

/- What functions of the program do, walked over the abstract machine. -/
namespace Go.Proofs.Ytlnepajgnckolaa
open Go Go.Abs Go.Proofs Go.Proofs.Ytlnepajgnckolaa.Ch Go.Proofs.Ytlnepajgnckolaa.Po Go.Proofs.Ytlnepajgnckolaa.Ae Go.Proofs.Ytlnepajgnckolaa.Bl

set_option maxRecDepth 20000
set_option maxHeartbeats 1600000 in
/-- (*cipher.State).Seal -/
theorem sseal_k (h ck key l : List UInt8) (n : UInt64) (k : Nat) (hh : h.length = 32) (hk : ck.length = 32) (hkey : key.length = 32) (hl : l.length = k) (hk9 : k ≤ 9000) (hn : n ≠ 18446744073709551615) : Good Try.prog 24 [.c (.ptr 0 0), .c (.ro k (u8s l))] [some (sC (.ptr 1 0) h ck), some (cC (.ptr 2 0) n), some (u8s key)] (.t [.c (.slc 3 0 (k + 16) 1), .c (cn 0)]) [some (sC (.ptr 1 0) (bsum (h ++ aseal key (anonce n) h l)) ck), some (cC (.ptr 2 0) (n + 1)), some (u8s key), some (u8s (aseal key (anonce n) h l))] := by
  have hL : (sC (.ptr 1 0) h ck).length = 65 := sC_len hh hk
  have g1 := cseal_ok key h l n 32 k hkey hh (by decide) hl (by omega) hn
  have hSl := aseal_len key (anonce n) h l
  obtain ⟨S, hS⟩ : ∃ z, aseal key (anonce n) h l = z := ⟨_, rfl⟩
  rw [hS] at hSl g1 ⊢
  rw [hl] at hSl
  have gm := mixhash_k h ck hh hk key (n + 1) hkey S (k + 16) hSl (by omega)
  obtain ⟨B, hB⟩ : ∃ z, bsum (h ++ S) = z := ⟨_, rfl⟩
  rw [hB] at gm ⊢
  refine good_frm 31 Try.func24 rfl rfl rfl rfl rfl rfl ?_
  refine awp_seq ?_
  refine rln ?_
  refine As ?_
  refine G (q_as (s := sc (cn 0)) ?_)
  refine gend ?_
  refine awp_seq ?_
  refine awp_seq ?_
  refine rln ?_
  refine Mv ?_
  refine G2 (fun _ k_ => q_callp (is_ _ _) k_ (ha := (cac (et rfl) (sees_st rfl rfl (sees_key rfl rfl hkey rfl rfl)) ca0))) ?_
  refine G (q_notb ?_)
  refine gend ?_
  refine cndbnN (fun hc1 => ?_) ?_; rotate_left
  · exact rfl
  refine awp_skip ?_
  refine awp_seq ?_
  refine rdln [9] [0, 0, 0, 0, 0, 0, 0, 0, 0, 0, 1, 1, 1, 1, 1] [0, 0, 0, 0, 0, 0, 0, 0, 0, 1, 1, 1, 1, 1, 1] ?_
  refine Dp (fun _ => q_mv (s := .v (.c _)) ⟨rfl, rfl⟩) ?_
  refine Dp (fun _ => q_ncp ⟨rfl, rfl⟩) ?_
  refine Dp (fun _ => q_fap0 ⟨rfl, rfl⟩) ?_
  refine DLp ?_
  refine Dp (fun _ => q_mv (s := .v (.c _)) ⟨rfl, rfl⟩) ?_
  refine Dp (fun _ => q_ncp ⟨rfl, rfl⟩) ?_
  refine Dp (fun _ => q_fap0 ⟨rfl, rfl⟩) ?_
  refine DSp 0 rfl (fun _ hv => q_slp_no ⟨rfl, rfl⟩ (hp := hv)) ?_
  refine Dp (fun _ => q_mv (s := .v (.c _)) ⟨rfl, rfl⟩) ?_
  refine De2 (fun _ k_ => q_callv [1, 2] [some (cC (.ptr 1 0) (n + 1)), some (u8s key)] [some (u8s S)] g1 k_ (ha := (cac (et rfl) rfl (cac (et rfl) (sees_slc rfl rfl (sC_h hh)) (cac (et rfl) sees_ro ca0)))) (eL := (ml1 rfl (ml1 sees_m ml0))) (eM := (ml1 sees_m ml0))) ?_
  refine Dp (fun _ => q_mv (s := .t _) ⟨rfl, rfl⟩) ?_
  refine Dp (fun _ => q_ext (y := .c _) ⟨rfl, rfl⟩) ?_
  refine Dp (fun _ => q_ext (y := .c _) ⟨rfl, rfl⟩) ?_
  refine Dp (fun _ => q_as (s := .v (.c _)) ⟨rfl, rfl⟩) ?_
  refine Dp (fun _ => q_as (s := .v (.c _)) ⟨rfl, rfl⟩) ?_
  refine dend ?_
  refine awp_seq ?_
  refine awp_seq ?_
  refine rln ?_
  refine Mv ?_
  refine G (q_eqln (y := 0) ?_)
  refine gend ?_
  refine cndY (fun hc2 => ?_) ?_; rotate_left
  · exact rfl
  refine rln ?_
  refine Mv ?_
  refine Mv ?_
  refine G2 (fun _ k_ => q_callv [0, 1, 2] [some (sC (.ptr 1 0) B ck), some (cC (.ptr 2 0) (n + 1)), some (u8s key)] [] gm k_ (ha := (cac (et rfl) rfl (cac (et rfl) (sees_slc rfl rfl (cut_h hSl)) ca0))) (eL := (ml1 (sC_map.trans rfl) (ml1 rfl (ml1 sees_m ml0)))) (eM := ml0) (e2 := pl1 rfl (sC_map.trans rfl) (pl1 rfl rfl (pl1 rfl sees_m pl0)))) ?_
  refine gend ?_
  refine awp_seq ?_
  refine rln ?_
  refine Mv ?_
  refine Mv ?_
  refine As ?_
  refine As ?_
  refine gend ?_
  refine awp_ret ?_
  exact fx2 [0, 1, 2, 3] (hm0 := rfl) (hH := pl1 rfl (sC_map.trans rfl) (pl1 rfl rfl (pl1 rfl sees_m (pl1 rfl sees_m pl0)))) (hn := piB rfl)
set_option maxHeartbeats 1600000 in
/-- (*cipher.State).Open -/
theorem sopen_k (h ck key l p : List UInt8) (n : UInt64) (k : Nat) (hh : h.length = 32) (hk : ck.length = 32) (hkey : key.length = 32) (hl : l.length = k) (hk9 : k ≤ 9000) (hn : n ≠ 18446744073709551615) (hp : aopen key (anonce n) h l = some p) : Good Try.prog 25 [.c (.ptr 0 0), .c (.ro k (u8s l))] [some (sC (.ptr 1 0) h ck), some (cC (.ptr 2 0) n), some (u8s key)] (.t [.c (.slc 3 0 (k - 16) 1), .c (cn 0)]) [some (sC (.ptr 1 0) (bsum (h ++ l)) ck), some (cC (.ptr 2 0) (n + 1)), some (u8s key), some (u8s p)] := by
  have hL : (sC (.ptr 1 0) h ck).length = 65 := sC_len hh hk
  have g1 := copen_ok key h l n 32 k hkey hh (by decide) hl (by omega) hn p hp
  have gm := mixhash_k h ck hh hk key (n + 1) hkey l k hl (by omega)
  obtain ⟨B, hB⟩ : ∃ z, bsum (h ++ l) = z := ⟨_, rfl⟩
  rw [hB] at gm ⊢
  refine good_frm 31 Try.func25 rfl rfl rfl rfl rfl rfl ?_
  refine awp_seq ?_
  refine rln ?_
  refine As ?_
  refine G (q_as (s := sc (cn 0)) ?_)
  refine gend ?_
  refine awp_seq ?_
  refine awp_seq ?_
  refine rln ?_
  refine Mv ?_
  refine G2 (fun _ k_ => q_callp (is_ _ _) k_ (ha := (cac (et rfl) (sees_st rfl rfl (sees_key rfl rfl hkey rfl rfl)) ca0))) ?_
  refine G (q_notb ?_)
  refine gend ?_
  refine cndbnN (fun hc1 => ?_) ?_; rotate_left
  · exact rfl
  refine awp_skip ?_
  refine awp_seq ?_
  refine rdln [9] [0, 0, 0, 0, 0, 0, 0, 0, 0, 0, 1, 1, 1, 1, 1] [0, 0, 0, 0, 0, 0, 0, 0, 0, 1, 1, 1, 1, 1, 1] ?_
  refine Dp (fun _ => q_mv (s := .v (.c _)) ⟨rfl, rfl⟩) ?_
  refine Dp (fun _ => q_ncp ⟨rfl, rfl⟩) ?_
  refine Dp (fun _ => q_fap0 ⟨rfl, rfl⟩) ?_
  refine DLp ?_
  refine Dp (fun _ => q_mv (s := .v (.c _)) ⟨rfl, rfl⟩) ?_
  refine Dp (fun _ => q_ncp ⟨rfl, rfl⟩) ?_
  refine Dp (fun _ => q_fap0 ⟨rfl, rfl⟩) ?_
  refine DSp 0 rfl (fun _ hv => q_slp_no ⟨rfl, rfl⟩ (hp := hv)) ?_
  refine Dp (fun _ => q_mv (s := .v (.c _)) ⟨rfl, rfl⟩) ?_
  refine De2 (fun _ k_ => q_callv [1, 2] [some (cC (.ptr 1 0) (n + 1)), some (u8s key)] [some (u8s p)] g1 k_ (ha := (cac (et rfl) rfl (cac (et rfl) (sees_slc rfl rfl (sC_h hh)) (cac (et rfl) sees_ro ca0)))) (eL := (ml1 rfl (ml1 sees_m ml0))) (eM := (ml1 sees_m ml0))) ?_
  refine Dp (fun _ => q_mv (s := .t _) ⟨rfl, rfl⟩) ?_
  refine Dp (fun _ => q_ext (y := .c _) ⟨rfl, rfl⟩) ?_
  refine Dp (fun _ => q_ext (y := .c _) ⟨rfl, rfl⟩) ?_
  refine Dp (fun _ => q_as (s := .v (.c _)) ⟨rfl, rfl⟩) ?_
  refine Dp (fun _ => q_as (s := .v (.c _)) ⟨rfl, rfl⟩) ?_
  refine dend ?_
  refine awp_seq ?_
  refine awp_seq ?_
  refine rln ?_
  refine Mv ?_
  refine G (q_eqln (y := 0) ?_)
  refine gend ?_
  refine cndY (fun hc2 => ?_) ?_; rotate_left
  · exact rfl
  refine rln ?_
  refine Mv ?_
  refine Mv ?_
  refine G2 (fun _ k_ => q_callv [0, 1, 2] [some (sC (.ptr 1 0) B ck), some (cC (.ptr 2 0) (n + 1)), some (u8s key)] [] gm k_ (ha := (cac (et rfl) rfl (cac (et rfl) sees_ro ca0))) (eL := (ml1 (sC_map.trans rfl) (ml1 rfl (ml1 sees_m ml0)))) (eM := ml0) (e2 := pl1 rfl (sC_map.trans rfl) (pl1 rfl rfl (pl1 rfl sees_m pl0)))) ?_
  refine gend ?_
  refine awp_seq ?_
  refine rln ?_
  refine Mv ?_
  refine Mv ?_
  refine As ?_
  refine As ?_
  refine gend ?_
  refine awp_ret ?_
  exact fx2 [0, 1, 2, 3] (hm0 := rfl) (hH := pl1 rfl (sC_map.trans rfl) (pl1 rfl rfl (pl1 rfl sees_m (pl1 rfl sees_m pl0)))) (hn := piB rfl)
set_option maxHeartbeats 1600000 in
/-- (*cipher.State).Seal -/
theorem sseal_0 (h ck l : List UInt8) (n : UInt64) (k : Nat) (hh : h.length = 32) (hk : ck.length = 32) (hl : l.length = k) (hk9 : k ≤ 9000) : Good Try.prog 24 [.c (.ptr 0 0), .c (.ro k (u8s l))] [some (sC (.ptr 1 0) h ck), some (cC .nilp n)] (.t [.c (.slc 2 0 k 1), .c (cn 0)]) [some (sC (.ptr 1 0) (bsum (h ++ l)) ck), some (cC .nilp n), some (u8s l)] := by
  have hL : (sC (.ptr 1 0) h ck).length = 65 := sC_len hh hk
  have g1 := cseal_0 h l n 32 k hl (by omega)
  have gm := mixhash_0 h ck hh hk n l k hl (by omega)
  obtain ⟨B, hB⟩ : ∃ z, bsum (h ++ l) = z := ⟨_, rfl⟩
  rw [hB] at gm ⊢
  refine good_frm 31 Try.func24 rfl rfl rfl rfl rfl rfl ?_
  refine awp_seq ?_
  refine rln ?_
  refine As ?_
  refine G (q_as (s := sc (cn 0)) ?_)
  refine gend ?_
  refine awp_seq ?_
  refine awp_seq ?_
  refine rln ?_
  refine Mv ?_
  refine G2 (fun _ k_ => q_callp (is_ _ _) k_ (ha := (cac (et rfl) (sees_st rfl rfl (sees_nk rfl rfl)) ca0))) ?_
  refine G (q_notb ?_)
  refine gend ?_
  refine cndbnN (fun hc1 => ?_) ?_; rotate_left
  · exact rfl
  refine awp_skip ?_
  refine awp_seq ?_
  refine rdln [9] [0, 0, 0, 0, 0, 0, 0, 0, 0, 0, 1, 1, 1, 1, 1] [0, 0, 0, 0, 0, 0, 0, 0, 0, 1, 1, 1, 1, 1, 1] ?_
  refine Dp (fun _ => q_mv (s := .v (.c _)) ⟨rfl, rfl⟩) ?_
  refine Dp (fun _ => q_ncp ⟨rfl, rfl⟩) ?_
  refine Dp (fun _ => q_fap0 ⟨rfl, rfl⟩) ?_
  refine DLp ?_
  refine Dp (fun _ => q_mv (s := .v (.c _)) ⟨rfl, rfl⟩) ?_
  refine Dp (fun _ => q_ncp ⟨rfl, rfl⟩) ?_
  refine Dp (fun _ => q_fap0 ⟨rfl, rfl⟩) ?_
  refine DSp 0 rfl (fun _ hv => q_slp_no ⟨rfl, rfl⟩ (hp := hv)) ?_
  refine Dp (fun _ => q_mv (s := .v (.c _)) ⟨rfl, rfl⟩) ?_
  refine De2 (fun _ k_ => q_callv [1] [some (cC .nilp n)] [some (u8s l)] g1 k_ (ha := (cac (et rfl) rfl (cac (et rfl) (sees_slc rfl rfl (sC_h hh)) (cac (et rfl) sees_ro ca0)))) (eL := (ml1 rfl ml0)) (eM := (ml1 sees_m ml0))) ?_
  refine Dp (fun _ => q_mv (s := .t _) ⟨rfl, rfl⟩) ?_
  refine Dp (fun _ => q_ext (y := .c _) ⟨rfl, rfl⟩) ?_
  refine Dp (fun _ => q_ext (y := .c _) ⟨rfl, rfl⟩) ?_
  refine Dp (fun _ => q_as (s := .v (.c _)) ⟨rfl, rfl⟩) ?_
  refine Dp (fun _ => q_as (s := .v (.c _)) ⟨rfl, rfl⟩) ?_
  refine dend ?_
  refine awp_seq ?_
  refine awp_seq ?_
  refine rln ?_
  refine Mv ?_
  refine G (q_eqln (y := 0) ?_)
  refine gend ?_
  refine cndY (fun hc2 => ?_) ?_; rotate_left
  · exact rfl
  refine rln ?_
  refine Mv ?_
  refine Mv ?_
  refine G2 (fun _ k_ => q_callv [0, 1] [some (sC (.ptr 1 0) B ck), some (cC .nilp n)] [] gm k_ (ha := (cac (et rfl) rfl (cac (et rfl) (sees_slc rfl rfl (cut_h hl)) ca0))) (eL := (ml1 (sC_map.trans rfl) (ml1 rfl ml0))) (eM := ml0) (e2 := pl1 rfl (sC_map.trans rfl) (pl1 rfl rfl pl0))) ?_
  refine gend ?_
  refine awp_seq ?_
  refine rln ?_
  refine Mv ?_
  refine Mv ?_
  refine As ?_
  refine As ?_
  refine gend ?_
  refine awp_ret ?_
  exact fx2 [0, 1, 2] (hm0 := rfl) (hH := pl1 rfl (sC_map.trans rfl) (pl1 rfl rfl (pl1 rfl sees_m pl0))) (hn := piB rfl)
set_option maxHeartbeats 1600000 in
/-- (*cipher.State).Open -/
theorem sopen_0 (h ck l : List UInt8) (n : UInt64) (k : Nat) (hh : h.length = 32) (hk : ck.length = 32) (hl : l.length = k) (hk9 : k ≤ 9000) : Good Try.prog 25 [.c (.ptr 0 0), .c (.ro k (u8s l))] [some (sC (.ptr 1 0) h ck), some (cC .nilp n)] (.t [.c (.slc 2 0 k 1), .c (cn 0)]) [some (sC (.ptr 1 0) (bsum (h ++ l)) ck), some (cC .nilp n), some (u8s l)] := by
  have hL : (sC (.ptr 1 0) h ck).length = 65 := sC_len hh hk
  have g1 := copen_0 h l n 32 k hl (by omega)
  have gm := mixhash_0 h ck hh hk n l k hl (by omega)
  obtain ⟨B, hB⟩ : ∃ z, bsum (h ++ l) = z := ⟨_, rfl⟩
  rw [hB] at gm ⊢
  refine good_frm 31 Try.func25 rfl rfl rfl rfl rfl rfl ?_
  refine awp_seq ?_
  refine rln ?_
  refine As ?_
  refine G (q_as (s := sc (cn 0)) ?_)
  refine gend ?_
  refine awp_seq ?_
  refine awp_seq ?_
  refine rln ?_
  refine Mv ?_
  refine G2 (fun _ k_ => q_callp (is_ _ _) k_ (ha := (cac (et rfl) (sees_st rfl rfl (sees_nk rfl rfl)) ca0))) ?_
  refine G (q_notb ?_)
  refine gend ?_
  refine cndbnN (fun hc1 => ?_) ?_; rotate_left
  · exact rfl
  refine awp_skip ?_
  refine awp_seq ?_
  refine rdln [9] [0, 0, 0, 0, 0, 0, 0, 0, 0, 0, 1, 1, 1, 1, 1] [0, 0, 0, 0, 0, 0, 0, 0, 0, 1, 1, 1, 1, 1, 1] ?_
  refine Dp (fun _ => q_mv (s := .v (.c _)) ⟨rfl, rfl⟩) ?_
  refine Dp (fun _ => q_ncp ⟨rfl, rfl⟩) ?_
  refine Dp (fun _ => q_fap0 ⟨rfl, rfl⟩) ?_
  refine DLp ?_
  refine Dp (fun _ => q_mv (s := .v (.c _)) ⟨rfl, rfl⟩) ?_
  refine Dp (fun _ => q_ncp ⟨rfl, rfl⟩) ?_
  refine Dp (fun _ => q_fap0 ⟨rfl, rfl⟩) ?_
  refine DSp 0 rfl (fun _ hv => q_slp_no ⟨rfl, rfl⟩ (hp := hv)) ?_
  refine Dp (fun _ => q_mv (s := .v (.c _)) ⟨rfl, rfl⟩) ?_
  refine De2 (fun _ k_ => q_callv [1] [some (cC .nilp n)] [some (u8s l)] g1 k_ (ha := (cac (et rfl) rfl (cac (et rfl) (sees_slc rfl rfl (sC_h hh)) (cac (et rfl) sees_ro ca0)))) (eL := (ml1 rfl ml0)) (eM := (ml1 sees_m ml0))) ?_
  refine Dp (fun _ => q_mv (s := .t _) ⟨rfl, rfl⟩) ?_
  refine Dp (fun _ => q_ext (y := .c _) ⟨rfl, rfl⟩) ?_
  refine Dp (fun _ => q_ext (y := .c _) ⟨rfl, rfl⟩) ?_
  refine Dp (fun _ => q_as (s := .v (.c _)) ⟨rfl, rfl⟩) ?_
  refine Dp (fun _ => q_as (s := .v (.c _)) ⟨rfl, rfl⟩) ?_
  refine dend ?_
  refine awp_seq ?_
  refine awp_seq ?_
  refine rln ?_
  refine Mv ?_
  refine G (q_eqln (y := 0) ?_)
  refine gend ?_
  refine cndY (fun hc2 => ?_) ?_; rotate_left
  · exact rfl
  refine rln ?_
  refine Mv ?_
  refine Mv ?_
  refine G2 (fun _ k_ => q_callv [0, 1] [some (sC (.ptr 1 0) B ck), some (cC .nilp n)] [] gm k_ (ha := (cac (et rfl) rfl (cac (et rfl) sees_ro ca0))) (eL := (ml1 (sC_map.trans rfl) (ml1 rfl ml0))) (eM := ml0) (e2 := pl1 rfl (sC_map.trans rfl) (pl1 rfl rfl pl0))) ?_
  refine gend ?_
  refine awp_seq ?_
  refine rln ?_
  refine Mv ?_
  refine Mv ?_
  refine As ?_
  refine As ?_
  refine gend ?_
  refine awp_ret ?_
  exact fx2 [0, 1, 2] (hm0 := rfl) (hH := pl1 rfl (sC_map.trans rfl) (pl1 rfl rfl (pl1 rfl sees_m pl0))) (hn := piB rfl)
set_option maxHeartbeats 1600000 in
/-- (*cipher.State).Split -/
theorem split_0 (h ck : List UInt8) (hh : h.length = 32) (hk : ck.length = 32) (n : UInt64) : Good Try.prog 28 [.c (.ptr 0 0)] [some (sC (.ptr 1 0) h ck), some (cC .nilp n)] (.t [.c (.ptr 3 0), .c (.ptr 5 0)]) [some (sC (.ptr 1 0) h ck), some (cC .nilp n), some (u8s (h3x ck [])), some (cC (.ptr 2 0) 0), some (u8s (h3y ck [])), some (cC (.ptr 4 0) 0)] := by
  have hL : (sC (.ptr 1 0) h ck).length = 65 := sC_len hh hk
  have g1 := two_ ck [] 0 hk rfl (by decide)
  obtain ⟨X, hX⟩ : ∃ z, h3x ck [] = z := ⟨_, rfl⟩
  obtain ⟨Y, hY⟩ : ∃ z, h3y ck [] = z := ⟨_, rfl⟩
  have hXl : X.length = 32 := by rw [← hX]; exact h3x_len _ _
  have hYl : Y.length = 32 := by rw [← hY]; exact h3y_len _ _
  rw [hX, hY] at g1 ⊢
  refine good_frm 21 Try.func28 rfl rfl rfl rfl rfl rfl ?_
  refine awp_seq ?_
  refine rln ?_
  refine As ?_
  refine As ?_
  refine gend ?_
  refine awp_seq ?_
  refine awp_seq ?_
  refine rln ?_
  refine Mv ?_
  refine G2 (fun _ k_ => q_callp (is_ _ _) k_ (ha := (cac (et rfl) (sees_st rfl rfl (sees_nk rfl rfl)) ca0))) ?_
  refine G (q_notb ?_)
  refine gend ?_
  refine cndbnN (fun hc1 => ?_) ?_; rotate_left
  · exact rfl
  refine awp_skip ?_
  refine awp_seq ?_
  refine rln ?_
  refine Mv ?_
  refine G (q_ncp ?_)
  refine G (q_fap0 ?_)
  refine G (q_lda (xs := u8s ck) ?_ (hc := sC_k hh hk))
  refine G2 (fun _ k_ => q_callp g1 k_ (ha := (caa (et rfl) sees_m (cac rfl sees_nil8 ca0)))) ?_
  refine G (q_mv (s := .t _) ?_)
  refine G (q_ext (y := .a _) ?_)
  refine G (q_ext (y := .a _) ?_)
  refine G2 (fun _ k_ => q_al k_) ?_
  refine G2 (fun _ k_ => q_al k_) ?_
  refine G20 (fun _ k_ => q_stw k_) ?_
  refine G20 (fun _ k_ => q_stw k_) ?_
  refine gend ?_
  refine awp_seq ?_
  refine rdln [1, 3] [0, 0, 0, 1, 2, 2] [0, 1, 1, 2, 2, 2] ?_
  refine DLw ?_
  refine De2 (fun _ k_ => q_callv [] [] [some (u8s X), some (cC (.ptr 0 0) 0)] (new_ X hXl) k_ (ha := (caa (et rfl) sees_m ca0)) (eL := ml0) (eM := (ml1 sees_m (ml1 rfl ml0)))) ?_
  refine DLw ?_
  refine De2 (fun _ k_ => q_callv [] [] [some (u8s Y), some (cC (.ptr 0 0) 0)] (new_ Y hYl) k_ (ha := (caa (et rfl) sees_m ca0)) (eL := ml0) (eM := (ml1 sees_m (ml1 rfl ml0)))) ?_
  refine Dp (fun _ => q_as (s := .v (.c _)) ⟨rfl, rfl⟩) ?_
  refine Dp (fun _ => q_as (s := .v (.c _)) ⟨rfl, rfl⟩) ?_
  refine dend ?_
  refine awp_ret ?_
  exact fx2 [0, 1, 4, 5, 6, 7] (hm0 := rfl) (hm1 := rfl) (hH := pl1 rfl (sC_map.trans rfl) (pl1 rfl rfl (pl1 rfl sees_m (pl1 rfl rfl (pl1 rfl sees_m (pl1 rfl rfl pl0)))))) (hn := piB rfl)
set_option maxHeartbeats 1600000 in
/-- (*cipher.State).Split -/
theorem split_k (h ck : List UInt8) (hh : h.length = 32) (hk : ck.length = 32) (key : List UInt8) (n : UInt64) (hkey : key.length = 32) : Good Try.prog 28 [.c (.ptr 0 0)] [some (sC (.ptr 1 0) h ck), some (cC (.ptr 2 0) n), some (u8s key)] (.t [.c (.ptr 4 0), .c (.ptr 6 0)]) [some (sC (.ptr 1 0) h ck), some (cC (.ptr 2 0) n), some (u8s key), some (u8s (h3x ck [])), some (cC (.ptr 3 0) 0), some (u8s (h3y ck [])), some (cC (.ptr 5 0) 0)] := by
  have hL : (sC (.ptr 1 0) h ck).length = 65 := sC_len hh hk
  have g1 := two_ ck [] 0 hk rfl (by decide)
  obtain ⟨X, hX⟩ : ∃ z, h3x ck [] = z := ⟨_, rfl⟩
  obtain ⟨Y, hY⟩ : ∃ z, h3y ck [] = z := ⟨_, rfl⟩
  have hXl : X.length = 32 := by rw [← hX]; exact h3x_len _ _
  have hYl : Y.length = 32 := by rw [← hY]; exact h3y_len _ _
  rw [hX, hY] at g1 ⊢
  refine good_frm 21 Try.func28 rfl rfl rfl rfl rfl rfl ?_
  refine awp_seq ?_
  refine rln ?_
  refine As ?_
  refine As ?_
  refine gend ?_
  refine awp_seq ?_
  refine awp_seq ?_
  refine rln ?_
  refine Mv ?_
  refine G2 (fun _ k_ => q_callp (is_ _ _) k_ (ha := (cac (et rfl) (sees_st rfl rfl (sees_key rfl rfl hkey rfl rfl)) ca0))) ?_
  refine G (q_notb ?_)
  refine gend ?_
  refine cndbnN (fun hc1 => ?_) ?_; rotate_left
  · exact rfl
  refine awp_skip ?_
  refine awp_seq ?_
  refine rln ?_
  refine Mv ?_
  refine G (q_ncp ?_)
  refine G (q_fap0 ?_)
  refine G (q_lda (xs := u8s ck) ?_ (hc := sC_k hh hk))
  refine G2 (fun _ k_ => q_callp g1 k_ (ha := (caa (et rfl) sees_m (cac rfl sees_nil8 ca0)))) ?_
  refine G (q_mv (s := .t _) ?_)
  refine G (q_ext (y := .a _) ?_)
  refine G (q_ext (y := .a _) ?_)
  refine G2 (fun _ k_ => q_al k_) ?_
  refine G2 (fun _ k_ => q_al k_) ?_
  refine G20 (fun _ k_ => q_stw k_) ?_
  refine G20 (fun _ k_ => q_stw k_) ?_
  refine gend ?_
  refine awp_seq ?_
  refine rdln [1, 3] [0, 0, 0, 1, 2, 2] [0, 1, 1, 2, 2, 2] ?_
  refine DLw ?_
  refine De2 (fun _ k_ => q_callv [] [] [some (u8s X), some (cC (.ptr 0 0) 0)] (new_ X hXl) k_ (ha := (caa (et rfl) sees_m ca0)) (eL := ml0) (eM := (ml1 sees_m (ml1 rfl ml0)))) ?_
  refine DLw ?_
  refine De2 (fun _ k_ => q_callv [] [] [some (u8s Y), some (cC (.ptr 0 0) 0)] (new_ Y hYl) k_ (ha := (caa (et rfl) sees_m ca0)) (eL := ml0) (eM := (ml1 sees_m (ml1 rfl ml0)))) ?_
  refine Dp (fun _ => q_as (s := .v (.c _)) ⟨rfl, rfl⟩) ?_
  refine Dp (fun _ => q_as (s := .v (.c _)) ⟨rfl, rfl⟩) ?_
  refine dend ?_
  refine awp_ret ?_
  exact fx2 [0, 1, 2, 5, 6, 7, 8] (hm0 := rfl) (hm1 := rfl) (hH := pl1 rfl (sC_map.trans rfl) (pl1 rfl rfl (pl1 rfl sees_m (pl1 rfl sees_m (pl1 rfl rfl (pl1 rfl sees_m (pl1 rfl rfl pl0))))))) (hn := piB rfl)
theorem zs_h {cp : Cell} {h : List UInt8} (hh : h.length = 32) : splice (cp :: u8s (List.replicate 64 0)) 1 (u8s h) = sC cp h (List.replicate 32 0) :=
  (congrArg (fun z => splice z 1 (u8s h)) (show (cp :: u8s (List.replicate 64 0)) = sC cp (List.replicate 32 0) (List.replicate 32 0) from rfl)).trans (sC_seth rfl hh)
/-- cipher.Begin -/
theorem begin_l (s : ByteArray) (h : ¬ s.size ≤ 32) (h9 : s.size ≤ 10000) : Good Try.prog 21 [.c (.str s)] [] (sc (.ptr 1 0)) [some (cC .nilp 0), some (sC (.ptr 0 0) (bsum s.data.toList) (bsum s.data.toList))] := by
  have hs : s.data.toList.length = s.size := rfl
  have g1 := sum_ [s.data.toList] 1 rfl (by decide) (by simp; omega)
  rw [show ([s.data.toList] : List (List UInt8)).flatten = s.data.toList by simp] at g1
  obtain ⟨B, hB⟩ : ∃ z, bsum s.data.toList = z := ⟨_, rfl⟩
  have hBl : B.length = 32 := by rw [← hB]; exact bsum_len _
  rw [hB] at g1 ⊢
  have hL := sC_len (cp := .ptr 0 0) hBl (show (List.replicate 32 (0 : UInt8)).length = 32 from rfl)
  refine good_frm 31 Try.func21 rfl rfl rfl rfl rfl rfl ?_
  refine awp_seq ?_
  refine rln ?_
  refine As ?_
  refine gend ?_
  refine awp_seq ?_
  refine rln ?_
  refine G2 (fun _ k_ => q_calln none_ k_ (ha := ca0)) ?_
  refine G (q_bls (fkc rfl (et rfl) rfl (Nat.le_of_ble_eq_true rfl) (fk0 ?_)))
  refine G2 (fun _ k_ => q_boxa k_) ?_
  refine As ?_
  refine gend ?_
  refine awp_seq ?_
  refine awp_seq ?_
  refine rln ?_
  refine Mv ?_
  refine G (q_lens ?_)
  refine G (q_leqn (y := 32) ?_)
  refine gend ?_
  refine cndN (fun hc1 => ?_) ?_; rotate_left
  · exact h
  refine rln ?_
  refine Mv ?_
  refine Mv ?_
  refine G2 (fun _ k_ => q_ctb k_) ?_
  refine G2 (fun _ k_ => q_bsl (fkc rfl (et rfl) rfl (Nat.le_of_ble_eq_true rfl) (fk0 k_))) ?_
  refine G2 (fun _ k_ => q_callp g1 k_ (ha := (cac (et rfl) (sees_parts rfl rfl (pq_slc rfl rfl (cut_h hs) hs pq0)) ca0))) ?_
  refine G (q_ncp ?_)
  refine G (q_fap0 ?_)
  refine G20 (fun _ k_ => q_sta  k_) ?_ (hH := by simp only [List.set_cons_zero, List.set_cons_succ, List.cons_append, List.nil_append]; exact congrArg (fun z => some (cC .nilp 0) :: some z :: _) (zs_h hBl))
  refine gend ?_
  refine awp_seq ?_
  refine rln ?_
  refine Mv ?_
  refine Mv ?_
  refine G (q_ncp ?_)
  refine G (q_fap0 ?_)
  refine G (q_lda (xs := u8s B) ?_ (hc := sC_h hBl))
  refine G (q_ncp ?_)
  refine G (q_fap0 ?_)
  refine G20 (fun _ k_ => q_sta k_) ?_ (hH := by simp only [List.set_cons_zero, List.set_cons_succ, List.cons_append, List.nil_append]; exact congrArg (fun z => some (cC .nilp 0) :: some z :: _) (sC_setk hBl rfl hBl))
  refine gend ?_
  refine awp_seq ?_
  refine rln ?_
  refine Mv ?_
  refine As ?_
  refine gend ?_
  refine awp_ret ?_
  exact fx1 [0, 1] (hm0 := rfl) (hH := pl1 rfl rfl (pl1 rfl (sC_map.trans rfl) pl0))
set_option maxHeartbeats 1600000 in
/-- (*cipher.State).Open -/
theorem sopen_bad (h ck key l : List UInt8) (n : UInt64) (k : Nat) (hh : h.length = 32) (hk : ck.length = 32) (hkey : key.length = 32) (hl : l.length = k) (hk9 : k ≤ 9000) (hn : n ≠ 18446744073709551615) (hp : aopen key (anonce n) h l = none) : Good Try.prog 25 [.c (.ptr 0 0), .c (.ro k (u8s l))] [some (sC (.ptr 1 0) h ck), some (cC (.ptr 2 0) n), some (u8s key)] (.t [.c .nils, .c (cn 8)]) [some (sC (.ptr 1 0) h ck), some (cC (.ptr 2 0) n), some (u8s key)] := by
  have hL : (sC (.ptr 1 0) h ck).length = 65 := sC_len hh hk
  have g1 := copen_bad key h l n 32 k hkey hh (by decide) hl (by omega) hn hp
  refine good_frm 31 Try.func25 rfl rfl rfl rfl rfl rfl ?_
  refine awp_seq ?_
  refine rln ?_
  refine As ?_
  refine G (q_as (s := sc (cn 0)) ?_)
  refine gend ?_
  refine awp_seq ?_
  refine awp_seq ?_
  refine rln ?_
  refine Mv ?_
  refine G2 (fun _ k_ => q_callp (is_ _ _) k_ (ha := (cac (et rfl) (sees_st rfl rfl (sees_key rfl rfl hkey rfl rfl)) ca0))) ?_
  refine G (q_notb ?_)
  refine gend ?_
  refine cndbnN (fun hc1 => ?_) ?_; rotate_left
  · exact rfl
  refine awp_skip ?_
  refine awp_seq ?_
  refine rdln [9] [0, 0, 0, 0, 0, 0, 0, 0, 0, 0, 1, 1, 1, 1, 1] [0, 0, 0, 0, 0, 0, 0, 0, 0, 1, 1, 1, 1, 1, 1] ?_
  refine Dp (fun _ => q_mv (s := .v (.c _)) ⟨rfl, rfl⟩) ?_
  refine Dp (fun _ => q_ncp ⟨rfl, rfl⟩) ?_
  refine Dp (fun _ => q_fap0 ⟨rfl, rfl⟩) ?_
  refine DLp ?_
  refine Dp (fun _ => q_mv (s := .v (.c _)) ⟨rfl, rfl⟩) ?_
  refine Dp (fun _ => q_ncp ⟨rfl, rfl⟩) ?_
  refine Dp (fun _ => q_fap0 ⟨rfl, rfl⟩) ?_
  refine DSp 0 rfl (fun _ hv => q_slp_no ⟨rfl, rfl⟩ (hp := hv)) ?_
  refine Dp (fun _ => q_mv (s := .v (.c _)) ⟨rfl, rfl⟩) ?_
  refine De2 (fun _ k_ => q_callv [1, 2] [some (cC (.ptr 1 0) n), some (u8s key)] [] g1 k_ (ha := (cac (et rfl) rfl (cac (et rfl) (sees_slc rfl rfl (sC_h hh)) (cac (et rfl) sees_ro ca0)))) (eL := (ml1 rfl (ml1 sees_m ml0))) (eM := ml0)) ?_
  refine Dp (fun _ => q_mv (s := .t _) ⟨rfl, rfl⟩) ?_
  refine Dp (fun _ => q_ext (y := .c _) ⟨rfl, rfl⟩) ?_
  refine Dp (fun _ => q_ext (y := .c _) ⟨rfl, rfl⟩) ?_
  refine Dp (fun _ => q_as (s := .v (.c _)) ⟨rfl, rfl⟩) ?_
  refine Dp (fun _ => q_as (s := .v (.c _)) ⟨rfl, rfl⟩) ?_
  refine dend ?_
  refine awp_seq ?_
  refine awp_seq ?_
  refine rln ?_
  refine Mv ?_
  refine G (q_eqln (y := 0) ?_)
  refine gend ?_
  refine cndN (fun hc2 => ?_) ?_; rotate_left
  · exact by decide
  refine awp_skip ?_
  refine awp_seq ?_
  refine rln ?_
  refine Mv ?_
  refine Mv ?_
  refine As ?_
  refine As ?_
  refine gend ?_
  refine awp_ret ?_
  exact fx2 [0, 1, 2] (hH := pl1 rfl (sC_map.trans rfl) (pl1 rfl rfl (pl1 rfl sees_m pl0)))
end Go.Proofs.Ytlnepajgnckolaa

/- The abstract machine: a block is told under another number, and no longer under its old one. -/
namespace Go.Abs
open Go

/-- What a slot holds is told as before, or as a slice or a pointer into the new number. -/
def SubM (p q : Nat) (al : List (Nat × S)) : List (Nat × S) → Prop
  | [] => True
  | (t, s) :: r => (lkp al t = s ∨ (∃ o n sz, lkp al t = sc (.slc p o n sz) ∧ s = sc (.slc q o n sz)) ∨ (∃ o, lkp al t = sc (.ptr p o) ∧ s = sc (.ptr q o))) ∧ SubM p q al r

end Go.Abs

/- The abstract machine: what a function does is told of more memory, and its outcome in other words; memory under other numbers. -/
namespace Go.Abs
open Go

/-! What a function does, told of more memory: as a call does it. -/
theorem argVs_tmps : ∀ (pre args : List V) (post : List S), argVs ((pre ++ args).map S.v ++ post) ((List.range' pre.length args.length).map Operand.tmp) = some args
  | pre, [], post => rfl
  | pre, a :: r, post => by
    have h := argVs_tmps (pre ++ [a]) r post
    rw [List.append_assoc] at h
    simp only [List.length_cons, List.range'_succ, List.map_cons, argVs]
    have e : ev ((pre ++ a :: r).map S.v ++ post) (.tmp pre.length) = .v a := by
      simp [ev]
    rw [e]
    have h' : argVs ((pre ++ a :: r).map S.v ++ post) ((List.range' (pre.length + 1) r.length).map Operand.tmp) = some r := by
      simpa using h
    rw [h']

theorem vsrel_at {R : Rl} : ∀ {xs : List V} {vs : List Value}, VsRel R xs vs → ∀ (i : Nat) x, xs[i]? = some x → ∃ v, vs[i]? = some v ∧ VRel R x v
  | [], vs, _, i, x, h => by simp at h
  | y :: xs, vs, k, i, x, h => by
    simp only [VsRel] at k
    obtain ⟨v, vs', rfl, h1, h2⟩ := k
    cases i with
    | zero => simp at h; subst h; exact ⟨v, rfl, h1⟩
    | succ i => simpa using vsrel_at h2 i x (by simpa using h)

theorem Good.call {P : Program} {k : FuncId} {args : List V} {H Hl' : Heap} {v : S} (π : List Nat) (lend : Bool) (hnd : π.Nodup) (hπ : ∀ p ∈ π, p < H.length)
    (hg : Good P k (args.map (vm (cm (cin π lend H) 8))) (π.map (pick H (cm (cin π lend H) 8))) v Hl') :
    Good P k args H (sm (cm (cout π lend H.length) 8) v) (back π (cm (cout π lend H.length) 8) H Hl') := by
  obtain ⟨fn, hfn, hbody, hname⟩ := hg.2.1
  let fr : List S := args.map S.v ++ [ud]
  let xs : List Operand := (List.range' 0 args.length).map Operand.tmp
  have hargs : argVs fr xs = some args := by
    have := argVs_tmps [] args [ud]
    simpa [fr, xs] using this
  let o : Oper := { dst := some args.length, op := .call ⟨.value (.func k), xs.toArray, #[]⟩, type := 0, pos := "", after := #[], guard := none }
  have hg' : Good P k ((args ++ ([] : List Cell).map V.c).map (vm (cm (cin π lend H) 8))) (π.map (pick H (cm (cin π lend H) 8))) v Hl' := by simpa using hg
  have hop := opg_call (P := P) (o := o) (fr := fr) (H := H) (f := .func k) (args := xs.toArray) (ats := #[]) π lend rfl (by rfl : ev fr (.func k) = sc (.fn k [])) hargs hfn hbody hname hnd hπ hg'
  refine ⟨hop.1, ⟨fn, hfn, hbody, hname⟩, ?_⟩
  intro E ρ w rargs hE hw himg hH hrel
  subst hw
  have hlen := vsrel_length hrel
  let a : Act := ⟨(rargs ++ [undef]).toArray, []⟩
  have hs : Sim E ρ ⟨fr, H⟩ a E.w0 := by
    refine ⟨⟨rfl, by simp [a, fr, hlen], fun i s hi => ?_⟩, hH⟩
    by_cases hlt : i < args.length
    · simp only [fr] at hi
      rw [List.getElem?_append_left (by simpa using hlt)] at hi
      simp only [List.getElem?_map, Option.map_eq_some_iff] at hi
      obtain ⟨x, h1, rfl⟩ := hi
      obtain ⟨v, h2, h3⟩ := vsrel_at hrel i x h1
      refine ⟨v, ?_, h3⟩
      have hlt' : i < rargs.length := by omega
      simp only [a, List.getElem?_toArray]
      rw [List.getElem?_append_left hlt']
      exact h2
    · have h1 := (List.getElem?_eq_some_iff.1 hi).1
      simp [fr] at h1
      have hi' : i = args.length := by omega
      subst hi'
      simp [fr] at hi
      subst hi
      exact ⟨undef, by simp [a, hlen.symm], by simp [ud, SRel, VRel, CRel]⟩
  have hrun : (execOp a.eval o).run P E.w0 = .ok (.enter k rargs.toArray) E.w0 := by
    have hb : fn.body.isNone = false := by cases hfb : fn.body with
      | none => rw [hfb] at hbody; cases hbody
      | some c => rfl
    have hev : xs.toArray.map a.eval = rargs.toArray := by
      apply Array.ext'
      simp only [xs, List.map_toArray, List.map_map]
      apply List.ext_getElem?
      intro i
      simp only [List.getElem?_map, List.getElem?_range']
      by_cases hi : i < args.length
      · have hi' : i < rargs.length := by omega
        simp [hi, a, Act.eval, Array.getD_eq_getD_getElem?, hi', List.getElem?_append_left]
      · rw [List.getElem?_eq_none (l := rargs) (by omega)]
        simp [hi]
    simp only [execOp, o, resolve, Act.eval, Deferred.ofValue, invoke, callFunc, Sem.run_bind, Sem.run_pure, Result.andThen_ok, run_program, hfn, hname, hb, Bool.false_eq_true, if_false, Array.empty_append, Array.append_empty]
    exact congrArg (fun z => Result.ok (Next.enter k z) E.w0) hev
  have key := hop.2 E ρ a E.w0 hE hs (fun a' w' => ∃ ρ', (∀ p, p < H.length → ρ' p = ρ p) ∧ HRel E ρ' w' (back π (cm (cout π lend H.length) 8) H Hl') ∧ SRel (E.rl (back π (cm (cout π lend H.length) 8) H Hl').length ρ') (sm (cm (cout π lend H.length) 8) v) (a'.tmps.getD args.length undef)) (fun _ _ _ => False) ?_
  · unfold Oper.wp at key
    rw [hrun, Oper.upon_enter] at key
    refine key.mono ?_
    intro e w' h
    cases e with
    | returned rv =>
      obtain ⟨ρ', h1, h2, h3⟩ := h
      refine ⟨rv, ρ', rfl, h1, h2, ?_⟩
      have : (a.put o.dst rv).tmps.getD args.length undef = rv := by
        simp [Act.put, o, a, Array.getD_eq_getD_getElem?, hlen.symm]
      rw [this] at h3
      exact h3
    | panicked chain => exact h.elim
    | outgrown => exact absurd h (by simp [LetsOut])
  · intro rv w' ρ' h1 h2 h3
    refine ⟨ρ', h1, h2, ?_⟩
    have : (a.put o.dst rv).tmps.getD args.length undef = rv := by
      simp [Act.put, o, a, Array.getD_eq_getD_getElem?, hlen.symm]
    rw [this]
    exact h3

/-! The outcome told in other words. -/
theorem Good.out {P : Program} {k : FuncId} {args : List V} {H H' H2 : Heap} {v v2 : S} (hg : Good P k args H v H') (hl : H.length ≤ H2.length) (hle : SLe H.length ⟨[v], H'⟩ ⟨[v2], H2⟩) : Good P k args H v2 H2 := by
  refine ⟨hl, hg.2.1, fun E ρ w rargs hE hw himg hH hrel => ?_⟩
  refine (hg.2.2 E ρ w rargs hE hw himg hH hrel).mono ?_
  rintro e w' ⟨rv, ρ', rfl, h1, h2, h3⟩
  obtain ⟨ρ2, k1, k2⟩ := hle E ρ' ⟨#[rv], []⟩ w' ⟨⟨rfl, rfl, fun i s hi => by
    cases i with
    | zero => simp at hi; subst hi; exact ⟨rv, rfl, h3⟩
    | succ i => simp at hi⟩, h2⟩
  refine ⟨rv, ρ2, rfl, fun p hp => (k1 p hp).trans (h1 p hp), k2.heap, ?_⟩
  obtain ⟨v', g1, g2⟩ := k2.fr.2.2 0 v2 rfl
  simp at g1
  subst g1
  exact g2

/-- A nil slice as an empty one of this block. -/
def e2 (q sz : Nat) : Cell → Cell
  | .nils => .slc q 0 0 sz
  | c => c
theorem e2_sound {R R' : Rl} {q sz : Nat} (h : R.Le R') (hq : q < R'.n) (c : Cell) (v : Value) (k : CRel R c v) : CRel R' (e2 q sz c) v := by
  by_cases hc : c = .nils
  · subst hc
    simp only [CRel] at k
    subst k
    simp only [e2, CRel]
    exact ⟨hq, none, 0, rfl, Nat.le_refl _, .inr rfl⟩
  · have : e2 q sz c = c := by unfold e2; split <;> first | exact absurd rfl hc | rfl
    rw [this]; exact CRel.mono h c v k
/-- The same with an empty block behind all others. -/
theorem emp_sim {E : Env} {ρ : Nat → Place} {w : World} {H : Heap} (hh : HRel E ρ w H) : ∃ ρ', (∀ p, p < H.length → ρ' p = ρ p) ∧ HRel E ρ' w (H ++ [some []]) := by
  let ρ' : Nat → Place := fun p => if p = H.length then ⟨0, 0, 0⟩ else ρ p
  have hρ : ∀ p, p < H.length → ρ' p = ρ p := fun p hp => if_neg (by omega)
  have hle : (E.rl H.length ρ).Le (E.rl (H ++ [some []]).length ρ') := ⟨fun b hb => ⟨hb, rfl⟩, fun p hp => ⟨by
    show p < (H ++ [some []]).length
    have hp' : p < H.length := hp
    simp; omega, hρ p hp⟩⟩
  have hget : ∀ p cs, (H ++ [some ([] : List Cell)])[p]? = some (some cs) → (ρ' p).room ≠ 0 → p < H.length ∧ H[p]? = some (some cs) := by
    intro p cs hp hr
    by_cases hlt : p < H.length
    · rw [List.getElem?_append_left hlt] at hp; exact ⟨hlt, hp⟩
    · have := (List.getElem?_eq_some_iff.1 hp).1
      simp at this
      have : p = H.length := by omega
      subst this
      simp [ρ'] at hr
  refine ⟨ρ', hρ, hh.os, hh.tape, hh.output, hh.size, hh.frame, fun p cs hp hr => ?_, fun p q cs ds hp hq hrp hrq he => ?_, fun p cs hp hr => ?_, fun p cs hp hr => ?_⟩
  · obtain ⟨h1, h2⟩ := hget p cs hp hr
    rw [hρ p h1] at hr ⊢
    exact hh.fresh p cs h2 hr
  · obtain ⟨h1, h2⟩ := hget p cs hp hrp
    obtain ⟨h3, h4⟩ := hget q ds hq hrq
    rw [hρ p h1] at hrp he
    rw [hρ q h3] at hrq he
    exact hh.inj p q cs ds h2 h4 hrp hrq he
  · obtain ⟨h1, h2⟩ := hget p cs hp hr
    rw [hρ p h1] at hr ⊢
    exact (hh.blk p cs h2 hr).mono hle rfl
  · by_cases hlt : p < H.length
    · rw [List.getElem?_append_left hlt] at hp
      rw [hρ p hlt] at hr
      exact hh.emp p cs hp hr
    · have := (List.getElem?_eq_some_iff.1 hp).1
      simp at this
      have : p = H.length := by omega
      subst this
      simpa using hp
theorem sle_emp2 {n : Nat} {v : S} {H : Heap} (sz : Nat) (hn : n ≤ H.length) : SLe n ⟨[v], H⟩ ⟨[sm (e2 H.length sz) v], H ++ [some []]⟩ := by
  intro E ρ a w hs
  obtain ⟨ρ', h1, h2⟩ := emp_sim hs.heap
  have hle : (E.rl H.length ρ).Le (E.rl (H ++ [some []]).length ρ') := ⟨fun b hb => ⟨hb, rfl⟩, fun p hp => ⟨by
    show p < (H ++ [some []]).length
    have hp' : p < H.length := hp
    simp; omega, h1 p hp⟩⟩
  refine ⟨ρ', fun p hp => h1 p (Nat.lt_of_lt_of_le hp hn), ⟨hs.fr.1, hs.fr.2.1, fun i s hi => ?_⟩, h2⟩
  cases i with
  | zero =>
    simp at hi
    subst hi
    obtain ⟨u, k1, k2⟩ := hs.fr.2.2 0 v rfl
    exact ⟨u, k1, sm_sound (fun c v k => e2_sound hle (by show H.length < (H ++ [some []]).length; simp) c v k) k2⟩
  | succ i => simp at hi
/-- What was nil is an empty slice of a new, empty block. -/
theorem Good.emp {P : Program} {k : FuncId} {args : List V} {H H' : Heap} {v v2 : S} (hg : Good P k args H v H') (sz : Nat) (hv : sm (e2 H'.length sz) v = v2 := by rfl) : Good P k args H v2 (H' ++ [some []]) := by
  subst hv
  exact hg.out (H2 := H' ++ [some []]) (Nat.le_trans hg.1 (by simp)) (sle_emp2 sz hg.1)

/-! Memory under other numbers: for each new block the old one, and whether it is told of. -/
def nfi (p : Nat) (b : Bool) : List (Nat × Bool) → Option Nat
  | [] => none
  | (q, c) :: r => if Nat.beq q p && (!b || c) then some 0 else (nfi p b r).map (· + 1)
theorem nfi_get {p : Nat} {b : Bool} : ∀ {l : List (Nat × Bool)} {j : Nat}, nfi p b l = some j → (l[j]?).map (·.1) = some p
  | [], j, h => by simp [nfi] at h
  | (q, c) :: r, j, h => by
    simp only [nfi] at h
    split at h
    · rename_i hq
      simp at h
      subst h
      simp at hq
      simp [hq.1]
    · rw [Option.map_eq_some_iff] at h
      obtain ⟨i, h1, rfl⟩ := h
      simpa using nfi_get h1
def nph (τ : List (Nat × Bool)) (p : Nat) : Option Nat := match nfi p true τ with
  | some j => some j
  | none => nfi p false τ
theorem nph_get {τ : List (Nat × Bool)} {p j : Nat} (h : nph τ p = some j) : (τ[j]?).map (·.1) = some p := by
  unfold nph at h
  split at h
  · rename_i h1; simp at h; subst h; exact nfi_get h1
  · exact nfi_get h
abbrev nm (τ : List (Nat × Bool)) : Cell → Cell := cm ⟨nph τ, fun _ => none, true, false⟩ 8
def renB (τ : List (Nat × Bool)) (H : Heap) : Heap := τ.map fun x => if x.2 then pick H (nm τ) x.1 else none
def uniqT : List (Nat × Bool) → Bool
  | [] => true
  | (p, b) :: r => (!b || r.all fun x => !(x.2 && Nat.beq x.1 p)) && uniqT r
theorem uniqT_ok : ∀ {τ : List (Nat × Bool)}, uniqT τ = true → ∀ {i j p : Nat}, τ[i]? = some (p, true) → τ[j]? = some (p, true) → i = j
  | [], _, i, j, p, h1, _ => by simp at h1
  | (q, b) :: r, h, i, j, p, h1, h2 => by
    simp only [uniqT, Bool.and_eq_true] at h
    have no : ∀ k : Nat, b = true → q = p → r[k]? = some (p, true) → False := by
      intro k hb hq hk
      have h3 := h.1
      rw [hb] at h3
      simp only [Bool.not_true, Bool.false_or] at h3
      have := List.all_eq_true.1 h3 _ (List.mem_of_getElem? hk)
      simp [hq] at this
    cases i with
    | zero =>
      simp at h1
      cases j with
      | zero => rfl
      | succ j => simp at h2; exact (no j h1.2 h1.1 h2).elim
    | succ i =>
      simp at h1
      cases j with
      | zero => simp at h2; exact (no i h2.2 h2.1 h1).elim
      | succ j => simp at h2; rw [uniqT_ok h.2 h1 h2]
theorem ren_sim {τ : List (Nat × Bool)} {E : Env} {ρ : Nat → Place} {w : World} {H : Heap} (hu : uniqT τ = true) (hh : HRel E ρ w H) :
    HRel E (fun j => ρ ((τ.getD j (0, false)).1)) w (renB τ H) ∧ ∀ c v, CRel (E.rl H.length ρ) c v → CRel (E.rl (renB τ H).length fun j => ρ ((τ.getD j (0, false)).1)) (nm τ c) v := by
  have key : ∀ c v, CRel (E.rl H.length ρ) c v → CRel (E.rl (renB τ H).length fun j => ρ ((τ.getD j (0, false)).1)) (nm τ c) v := by
    refine cm_sound (R := E.rl H.length ρ) (R' := E.rl (renB τ H).length fun j => ρ ((τ.getD j (0, false)).1)) (m := ⟨nph τ, fun _ => none, true, false⟩) ⟨fun p q hq hp => ?_, fun p cs hcs => by simp at hcs, fun _ b hb => ⟨hb, rfl⟩⟩ 8
    have := nph_get hq
    rw [Option.map_eq_some_iff] at this
    obtain ⟨x, h1, h2⟩ := this
    have hlt := (List.getElem?_eq_some_iff.1 h1).1
    refine ⟨by show q < (renB τ H).length; simpa [renB] using hlt, ?_⟩
    show ρ ((τ.getD q (0, false)).1) = ρ p
    rw [List.getD_eq_getElem?_getD, h1]; exact congrArg ρ h2
  have hget : ∀ (j : Nat) cs, (renB τ H)[j]? = some (some cs) → ∃ p c0, τ[j]? = some (p, true) ∧ H[p]? = some (some c0) ∧ cs = c0.map (nm τ) ∧ (τ.getD j (0, false)).1 = p := by
    intro j cs hj
    simp only [renB, List.getElem?_map, Option.map_eq_some_iff] at hj
    obtain ⟨⟨p, b⟩, h1, h2⟩ := hj
    cases b with
    | false => simp at h2
    | true =>
      simp only [if_true] at h2
      obtain ⟨c0, h3, h4⟩ := pick_get h2
      exact ⟨p, c0, h1, h3, h4, by rw [List.getD_eq_getElem?_getD, h1]; rfl⟩
  refine ⟨⟨hh.os, hh.tape, hh.output, hh.size, hh.frame, fun p cs hp hr => ?_, fun p q cs ds hp hq hr1 hr2 he => ?_, fun p cs hp hr => ?_, fun p cs hp hr => ?_⟩, key⟩
  · obtain ⟨q, c0, h1, h2, h3, h4⟩ := hget p cs hp
    simp only [h4] at hr ⊢
    exact hh.fresh q c0 h2 hr
  · obtain ⟨p', c0, h1, h2, h3, h4⟩ := hget p cs hp
    obtain ⟨q', d0, k1, k2, k3, k4⟩ := hget q ds hq
    simp only [h4] at hr1 he
    simp only [k4] at hr2 he
    have := hh.inj p' q' c0 d0 h2 k2 hr1 hr2 he
    subst this
    exact uniqT_ok hu h1 k1
  · obtain ⟨q, c0, h1, h2, h3, h4⟩ := hget p cs hp
    simp only [h4] at hr ⊢
    obtain ⟨arr, el, fr, b1, b2, b3, b4, b5⟩ := hh.blk q c0 h2 hr
    refine ⟨arr, el, fr, b1, b2, b3, by rw [h3]; simpa using b4, fun i c hi => ?_⟩
    rw [h3, List.getElem?_map, Option.map_eq_some_iff] at hi
    obtain ⟨c1, h5, rfl⟩ := hi
    obtain ⟨v, h6, ho, h7⟩ := b5 i c1 h5
    exact ⟨v, h6, ho, key _ _ h7⟩
  · obtain ⟨q, c0, h1, h2, h3, h4⟩ := hget p cs hp
    simp only [h4] at hr
    rw [h3, hh.emp q c0 h2 hr]; rfl
theorem sle_renS {n : Nat} {fr : List S} {H : Heap} (τ : List (Nat × Bool)) (hu : uniqT τ = true) (hn : ∀ p, p < n → (τ[p]?).map (·.1) = some p) : SLe n ⟨fr, H⟩ ⟨fr.map (sm (nm τ)), renB τ H⟩ := by
  intro E ρ a w hs
  obtain ⟨h1, h2⟩ := ren_sim (τ := τ) hu hs.heap
  refine ⟨_, fun p hp => ?_, ⟨hs.fr.1, by simpa using hs.fr.2.1, fun i s hi => ?_⟩, h1⟩
  · have := hn p hp
    rw [Option.map_eq_some_iff] at this
    obtain ⟨x, k1, k2⟩ := this
    show ρ ((τ.getD p (0, false)).1) = ρ p
    rw [List.getD_eq_getElem?_getD, k1]; exact congrArg ρ k2
  · rw [List.getElem?_map, Option.map_eq_some_iff] at hi
    obtain ⟨s0, k1, rfl⟩ := hi
    obtain ⟨v, k2, k3⟩ := hs.fr.2.2 i s0 k1
    exact ⟨v, k2, sm_sound h2 k3⟩
theorem piT {τ : List (Nat × Bool)} {n : Nat} (h : ((List.range n).all fun p => (τ[p]?).map (·.1) == some p) = true) : ∀ p, p < n → (τ[p]?).map (·.1) = some p := fun p hp => by
  have := List.all_eq_true.1 h p (List.mem_range.2 hp)
  simpa using this
theorem Good.ren {P : Program} {k : FuncId} {args : List V} {H H' H2 : Heap} {v v2 : S} (hg : Good P k args H v H') (τ : List (Nat × Bool)) (hu : uniqT τ = true) (hn : ∀ p, p < H.length → (τ[p]?).map (·.1) = some p)
    (hv : sm (nm τ) v = v2) (hH : renB τ H' = H2) : Good P k args H v2 H2 := by
  subst hv hH
  refine hg.out ?_ (sle_renS τ hu hn)
  rcases Nat.eq_zero_or_pos H.length with h | h
  · omega
  · have := hn (H.length - 1) (by omega)
    rw [Option.map_eq_some_iff] at this
    obtain ⟨x, h1, _⟩ := this
    have := (List.getElem?_eq_some_iff.1 h1).1
    simp only [renB, List.length_map]
    omega
theorem frm_map (f : Cell → Cell) {N : Nat} {al : List (Nat × S)} {t : Nat} : lkp (al.map fun x => (x.1, sm f x.2)) t = sm f (lkp al t) ∨ (lkp al t = ud ∧ lkp (al.map fun x => (x.1, sm f x.2)) t = ud) := by
  induction al with
  | nil => exact .inr ⟨rfl, rfl⟩
  | cons x r ih =>
    obtain ⟨i, s⟩ := x
    simp only [List.map_cons, lkp]
    cases Nat.beq i t with
    | true => exact .inl rfl
    | false => exact ih
/-- As a frame says it. -/
theorem sle_ren {n N : Nat} {al al' : List (Nat × S)} {H H' : Heap} (τ : List (Nat × Bool)) (hu : uniqT τ = true) (hn : ∀ p, p < n → (τ[p]?).map (·.1) = some p)
    (hf : SubL (al.map fun x => (x.1, sm (nm τ) x.2)) al') (hH : H' = renB τ H) : SLe n ⟨frm N al, H⟩ ⟨frm N al', H'⟩ := by
  intro E ρ a w hs
  obtain ⟨ρ', h1, h2⟩ := sle_renS (n := n) (fr := frm N al) (H := H) τ hu hn E ρ a w hs
  subst hH
  refine ⟨ρ', h1, ⟨h2.fr.1, by rw [frm_length]; have := hs.fr.2.1; rwa [frm_length] at this, fun t s ht => ?_⟩, h2.heap⟩
  have hlt : t < N := by
    have := (List.getElem?_eq_some_iff.1 ht).1
    rwa [frm_length] at this
  rw [frm_get hlt] at ht
  obtain rfl := Option.some.inj ht
  obtain ⟨v, k1, k2⟩ := h2.fr.2.2 t _ (by rw [List.getElem?_map, frm_get hlt]; rfl)
  refine ⟨v, k1, ?_⟩
  rcases sub_get hf t with h | h
  · rw [h]; simp [ud, SRel, VRel, CRel]
  · rw [h]
    rcases frm_map (N := N) (nm τ) (al := al) (t := t) with g | ⟨_, g⟩
    · rw [g]; exact k2
    · rw [g]; simp [ud, SRel, VRel, CRel]
end Go.Abs

/- The abstract machine: words for memory where a block may be told of or not. -/
namespace Go.Abs
open Go

/-- What a function does, told of more memory: block by block. -/
theorem Good.callv {P : Program} {k : FuncId} {args args' : List V} {H Hl H2 L L' M M' : Heap} {v s : S} (π : List Nat) (hg : Good P k args' Hl v (L ++ M)) (ha : args.map (vm (cm (cin π true H) 8)) = args')
    (e2 : π.map (pick H (cm (cin π true H) 8)) = Hl) (hl : L.length = π.length) (eL : L.map (Option.map (List.map (cm (cout π true H.length) 8))) = L') (eM : M.map (Option.map (List.map (cm (cout π true H.length) 8))) = M')
    (e3 : sm (cm (cout π true H.length) 8) v = s) (hH : setB π L' H ++ M' = H2) (hnd : π.Nodup := by decide) (hπ : (π.all fun p => Nat.blt p H.length) = true := by exact rfl) : Good P k args H s H2 := by
  subst ha e2
  have h := Good.call π true hnd (allB hπ) hg
  rwa [back_split hnd hl, eL, eM, e3, hH] at h
theorem am1 {f : Cell → Cell} {x x' : V} (h : vm f x = x') : [x].map (vm f) = [x'] := by simp [h]
theorem am2 {f : Cell → Cell} {x x' y y' : V} (h : vm f x = x') (h1 : vm f y = y') : [x, y].map (vm f) = [x', y'] := by simp [h, h1]
theorem vs_ro {α : Type} {k : IntKind} {g : α → Int} {l : List α} {n : Nat} {f : Nat → Option Nat} {x : Nat → Option (List Cell)} {b : Bool} : vm (cm ⟨f, x, true, b⟩ 8) (.c (.ro n (mapc k g l))) = .c (.ro n (mapc k g l)) := by
  have h := rs_ro (k := k) (g := g) (l := l) (n := n) (f := f) (x := x) (b := b)
  simp only [sm, S.v.injEq] at h
  exact h
/-- A block that may be told of or not. -/
theorem plb {H Hl : Heap} {f : Cell → Cell} {p : Nat} {π : List Nat} {b b' : Option (List Cell)} (hp : H[p]? = some b) (hc : b.map (List.map f) = b') (h : π.map (pick H f) = Hl) : (p :: π).map (pick H f) = b' :: Hl := by
  subst hc
  cases b <;> simp [pick, hp, ← h]
theorem mlb {f : Cell → Cell} {L L' : Heap} {b b' : Option (List Cell)} (hx : b.map (List.map f) = b') (h : L.map (Option.map (List.map f)) = L') : (b :: L).map (Option.map (List.map f)) = b' :: L' := by
  simp [hx, h]
/-- Bytes, if there are any to be told of. -/
def kb (has : Bool) (key : List UInt8) : Option (List Cell) := bif has then some (u8s key) else none
theorem kb_map {has : Bool} {key : List UInt8} {m : CM} {d : Nat} : (kb has key).map (List.map (cm m d)) = kb has key := by
  cases has
  · rfl
  · simp [kb, mapc_cm]
/-- A pointer to them, or none. -/
def kp (has : Bool) (p : Nat) : Cell := bif has then .ptr p 0 else .nilp
/-- The same, looked at. -/
def kr (has : Bool) (key : List UInt8) : Cell := bif has then .rop (u8s key) else .nilp
/-! Blocks under other numbers, one by one. -/
def renL (τ0 τ : List (Nat × Bool)) (H : Heap) : Heap := τ.map fun x => if x.2 then pick H (nm τ0) x.1 else none
theorem rl0 {τ0 : List (Nat × Bool)} {H : Heap} : renL τ0 [] H = [] := rfl
theorem rlT {τ0 τ : List (Nat × Bool)} {H R : Heap} {p : Nat} {cs cs' : List Cell} (hp : H[p]? = some (some cs)) (hc : cs.map (nm τ0) = cs') (h : renL τ0 τ H = R) : renL τ0 ((p, true) :: τ) H = some cs' :: R := by
  subst hc h; simp [renL, pick, hp]
theorem rlF {τ0 τ : List (Nat × Bool)} {H R : Heap} {p : Nat} (h : renL τ0 τ H = R) : renL τ0 ((p, false) :: τ) H = none :: R := by
  subst h; simp [renL]
theorem rlB {τ0 τ : List (Nat × Bool)} {H R : Heap} {p : Nat} {b b' : Option (List Cell)} (hp : H[p]? = some b) (hc : b.map (List.map (nm τ0)) = b') (h : renL τ0 τ H = R) : renL τ0 ((p, true) :: τ) H = b' :: R := by
  subst hc h; cases b <;> simp [renL, pick, hp]
theorem Good.ren' {P : Program} {k : FuncId} {args : List V} {H H' H2 : Heap} {v v2 : S} (hg : Good P k args H v H') (τ : List (Nat × Bool)) (hH : renL τ τ H' = H2) (hv : sm (nm τ) v = v2 := by rfl) (hu : uniqT τ = true := by rfl) (hn : ((List.range H.length).all fun p => (τ[p]?).map (·.1) == some p) = true := by rfl) : Good P k args H v2 H2 :=
  hg.ren τ hu (piT hn) hv hH
end Go.Abs

/- What functions of the program do, walked over the abstract machine. -/
namespace Go.Proofs.Ytlnepajgnckolaa
open Go Go.Abs Go.Proofs Go.Proofs.Ytlnepajgnckolaa.Ch Go.Proofs.Ytlnepajgnckolaa.Po Go.Proofs.Ytlnepajgnckolaa.Ae Go.Proofs.Ytlnepajgnckolaa.Bl

set_option maxRecDepth 20000
def cSl (has : Bool) (key : List UInt8) (n : UInt64) (ad l : List UInt8) : List UInt8 × UInt64 × Nat :=
  bif has then (if n = 18446744073709551615 then ([], n, 11) else (aseal key (anonce n) ad l, n + 1, 0)) else (l, n, 0)
def cOp (has : Bool) (key : List UInt8) (n : UInt64) (ad l : List UInt8) : List UInt8 × UInt64 × Nat :=
  bif has then (if n = 18446744073709551615 then ([], n, 11) else match aopen key (anonce n) ad l with | none => ([], n, 8) | some p => (p, n + 1, 0)) else (l, n, 0)
theorem cSl_len {has : Bool} {key ad l : List UInt8} {n : UInt64} : (cSl has key n ad l).1.length ≤ l.length + 16 := by
  cases has
  · exact Nat.le_add_right ..
  · simp only [cSl, cond_true]; split
    · exact Nat.zero_le _
    · exact Nat.le_of_eq (aseal_len ..)
/-- What was sealed is opened. -/
theorem cOp_cSl {has : Bool} {key ad l : List UInt8} {n : UInt64} (h : (cSl has key n ad l).2.2 = 0) : cOp has key n ad (cSl has key n ad l).1 = (l, (cSl has key n ad l).2.1, 0) := by
  cases has
  · rfl
  · by_cases hn : n = 18446744073709551615
    · exfalso; revert h; simp [cSl, hn]
    · simp [cSl, cOp, hn, aopen_aseal]
theorem sees_ku {H : Heap} {has : Bool} {key : List UInt8} {p q d : Nat} {n : UInt64} {π : List Nat} (hp : idx p π = none) (hq : idx q π = none) (hk : key.length = 32) (hC : H[q]? = some (some (cC (kp has p) n))) (hK : H[p]? = some (kb has key)) : cm (cin π true H) (d + 2) (.ptr q 0) = .rop [kr has key, c64 n, .bool true] := by
  cases has
  · exact sees_nk hq hC
  · exact sees_key hp hq hk hC hK
end Go.Proofs.Ytlnepajgnckolaa

/- What functions of the program do, walked over the abstract machine. -/
namespace Go.Proofs.Ytlnepajgnckolaa
open Go Go.Abs Go.Proofs Go.Proofs.Ytlnepajgnckolaa.Ch Go.Proofs.Ytlnepajgnckolaa.Po Go.Proofs.Ytlnepajgnckolaa.Ae Go.Proofs.Ytlnepajgnckolaa.Bl

set_option maxRecDepth 20000
end Go.Proofs.Ytlnepajgnckolaa

/- The abstract machine: elements of a slice of structs that may be looked at. -/
namespace Go.Abs
open Go

theorem flat_at {α β : Type} {g : α → List β} {sz : Nat} (hg : ∀ x, (g x).length = sz) : ∀ (l : List α) (j : Nat) (d : α), j < l.length → (l.flatMap g).drop (j * sz) = g (l.getD j d) ++ (l.drop (j + 1)).flatMap g
  | [], j, d, h => by simp at h
  | a :: r, 0, d, h => by simp
  | a :: r, j + 1, d, h => by
    have hj : (j + 1) * sz = sz + j * sz := by rw [Nat.succ_mul]; omega
    rw [List.flatMap_cons, hj, ← List.drop_drop, List.drop_append_of_le_length (by rw [hg]; exact Nat.le_refl _), List.drop_of_length_le (l := g a) (by rw [hg]; exact Nat.le_refl _), List.nil_append, flat_at hg r j d (by simpa using h)]
    simp
theorem flat_len {α β : Type} {g : α → List β} {sz : Nat} (hg : ∀ x, (g x).length = sz) : ∀ l : List α, (l.flatMap g).length = l.length * sz
  | [] => by simp
  | a :: r => by rw [List.flatMap_cons, List.length_append, hg, flat_len hg r, List.length_cons, Nat.succ_mul]; omega
theorem flat_cm {α : Type} {g : α → List Cell} {f : Cell → Cell} (hg : ∀ x, (g x).map f = g x) (l : List α) : (l.flatMap g).map f = l.flatMap g := by
  rw [List.map_flatMap]; exact congrArg (fun z => List.flatMap z l) (funext hg)
theorem rs_fl {α : Type} {g : α → List Cell} {l : List α} {n : Nat} {f : Nat → Option Nat} {x : Nat → Option (List Cell)} {b : Bool} (hg : ∀ y, (g y).map (cm ⟨f, x, true, b⟩ 7) = g y) : sm (cm ⟨f, x, true, b⟩ 8) (sc (.ro n (l.flatMap g))) = sc (.ro n (l.flatMap g)) := by
  show S.v (V.c (.ro n ((l.flatMap g).map (cm ⟨f, x, true, b⟩ 7)))) = _
  rw [flat_cm hg]
section
variable {P : Program} {fr : List S} {H : Heap} {K : S → Heap → Prop} {od : Option Nat} {oty : TypeId} {ops_ : String} {oaf : Array Edge} {ogu : Option (Nat × Bool)} {t u : TypeId} {a b i : Operand} {ti : TI}
/-- An element of a slice of structs, told by its parts. -/
theorem q_ixe {α : Type} {g : α → List Cell} {l : List α} {m e j : Nat} {ei : TI} {sz_ : Nat} {d x : α} (hx_ : l.getD j d = x) (hg : ∀ x, (g x).length = sz_) [it_ : SlT P t ti e ei sz_] (h : K (sc (.rop (g x ++ (l.drop (j + 1)).flatMap g))) H) (hz : Nat.blt 0 sz_ = true := by exact rfl)
    (hi : Ix (ev fr i) j := by first | exact ixn (et rfl) | exact ixn rfl | exact ix64 (et rfl) | exact ix8 (et rfl) | exact ix32 (et rfl)) (hx : ev fr a = sc (.ro m (l.flatMap g)) := by first | exact et rfl | exact rfl) (hm : l.length = m := by first | with_reducible assumption | exact rfl)
    (hlt : j < m := by first | omega | with_reducible assumption) : ostep P ⟨od, .indexAddr t a i, oty, ops_, oaf, ogu⟩ fr H K := by
  have hz' : 0 < sz_ := by simpa [Nat.blt_eq] using hz
  have hj : j < l.length := by omega
  refine q_ixo (cs := l.flatMap g) (j := j) ?_ hi hx hlt ?_
  · rw [flat_at hg l j d hj, hx_]; exact h
  · rw [flat_len hg]
    have : (j + 1) * sz_ ≤ l.length * sz_ := Nat.mul_le_mul_right _ hj
    rw [Nat.succ_mul] at this
    omega
end
end Go.Abs

/- What functions of the program do, walked over the abstract machine. -/
namespace Go.Proofs.Ytlnepajgnckolaa
open Go Go.Abs Go.Proofs Go.Proofs.Ytlnepajgnckolaa.Ch Go.Proofs.Ytlnepajgnckolaa.Po Go.Proofs.Ytlnepajgnckolaa.Ae Go.Proofs.Ytlnepajgnckolaa.Bl

set_option maxRecDepth 20000
/-- An act, as the statement's slice holds it. -/
structure A16 where
  kind : Int
  ad : List UInt8
  b : List UInt8
  n : UInt64
abbrev a16 : A16 := ⟨0, [], [], 0⟩
def aC (x : A16) : List Cell := [ci x.kind, .ro x.ad.length (u8s x.ad), .ro x.b.length (u8s x.b), c64 x.n]
def fewB (l : List A16) : Bool := (l.all fun x => decide (x.ad.length ≤ 200) && decide (x.b.length ≤ 200)) && decide (l.length ≤ 40)
structure FP (l : List A16) where
  i : Nat
  hi : i ≤ l.length
  ok : ∀ j, j < i → (l.getD j a16).ad.length ≤ 200 ∧ (l.getD j a16).b.length ≤ 200
end Go.Proofs.Ytlnepajgnckolaa

/- What functions of the program do, walked over the abstract machine. -/
namespace Go.Proofs.Ytlnepajgnckolaa
open Go Go.Abs Go.Proofs Go.Proofs.Ytlnepajgnckolaa.Ch Go.Proofs.Ytlnepajgnckolaa.Po Go.Proofs.Ytlnepajgnckolaa.Ae Go.Proofs.Ytlnepajgnckolaa.Bl

set_option maxRecDepth 20000
def kz (has : Bool) (key : List UInt8) : List UInt8 := bif has then key else List.replicate 32 0
theorem kC_map {has : Bool} {p q d : Nat} {n : UInt64} {m : CM} (h : m.fp p = some q) : (cC (kp has p) n).map (cm m (d + 1)) = cC (kp has q) n := by
  cases has
  · rfl
  · show [cm m (d + 1) (.ptr p 0), _, _] = _
    simp [kp, cm, h]
structure LP (n : Nat) where
  i : Nat
  key : List UInt8
  num : UInt64
  hi : i ≤ n
  hk : key.length = 32
end Go.Proofs.Ytlnepajgnckolaa

/- What functions of the program do, walked over the abstract machine. -/
namespace Go.Proofs.Ytlnepajgnckolaa
open Go Go.Abs Go.Proofs Go.Proofs.Ytlnepajgnckolaa.Ch Go.Proofs.Ytlnepajgnckolaa.Po Go.Proofs.Ytlnepajgnckolaa.Ae Go.Proofs.Ytlnepajgnckolaa.Bl

set_option maxRecDepth 20000
/-- What a state's hash is when it opened. -/
def sOh (has : Bool) (key : List UInt8) (n : UInt64) (h l : List UInt8) : List UInt8 := if (cOp has key n h l).2.2 = 0 then bsum (h ++ l) else h
theorem sOh_len {has : Bool} {key : List UInt8} {n : UInt64} {h l : List UInt8} (hh : h.length = 32) : (sOh has key n h l).length = 32 := by
  unfold sOh; split
  · exact bsum_len _
  · exact hh
theorem cSl_ok {has : Bool} {key ad l : List UInt8} {n : UInt64} (hn : n ≠ 18446744073709551615) : (cSl has key n ad l).2.2 = 0 := by
  cases has
  · rfl
  · simp [cSl, hn]
theorem kr_cm {has : Bool} {key : List UInt8} {n : UInt64} {π : List Nat} {H : Heap} : cm (cin π true H) 7 (.rop [kr has key, c64 n, .bool true]) = .rop [kr has key, c64 n, .bool true] := by
  cases has
  · rfl
  · show Cell.rop [Cell.rop ((u8s key).map _), _, _] = _
    rw [mapc_cm]; rfl
theorem smixhash_u (has : Bool) (h ck : List UInt8) (hh : h.length = 32) (hk : ck.length = 32) (key : List UInt8) (n : UInt64) (hkey : key.length = 32) (b : List UInt8) (a : Nat) (hb : b.length = a) (ha : a ≤ 10000) : Good Try.prog 22 [.c (.ptr 0 0), .c (.ro a (u8s b))] [some (sC (.ptr 1 0) h ck), some (cC (kp has 2) n), kb has key] (.t []) [some (sC (.ptr 1 0) (bsum (h ++ b)) ck), some (cC (kp has 2) n), kb has key] := by
  cases has with
  | false => exact Good.callv [0, 1] (L := [some (sC (.ptr 1 0) (bsum (h ++ b)) ck), some (cC .nilp n)]) (M := []) (mixhash_0 h ck hh hk n b a hb ha) (am2 rfl vs_ro) (pl1 rfl (sC_map.trans rfl) (pl1 rfl rfl pl0)) rfl (ml1 (sC_map.trans rfl) (ml1 rfl ml0)) ml0 rfl rfl
  | true => exact mixhash_k h ck hh hk key n hkey b a hb ha
theorem smixkey_u (has : Bool) (h ck : List UInt8) (hh : h.length = 32) (hk : ck.length = 32) (key : List UInt8) (n : UInt64) (hkey : key.length = 32) (b : List UInt8) (a : Nat) (hb : b.length = a) (ha : a ≤ 10000) : Good Try.prog 23 [.c (.ptr 0 0), .c (.ro a (u8s b))] [some (sC (.ptr 1 0) h ck), some (cC (kp has 2) n), kb has key] (.t []) [some (sC (.ptr 3 0) h (h3x ck b)), none, none, some (cC (kp true 4) 0), kb true (h3y ck b)] := by
  cases has with
  | false =>
    have g : Good Try.prog 23 [.c (.ptr 0 0), .c (.ro a (u8s b))] [some (sC (.ptr 1 0) h ck), some (cC .nilp n), none] (.t []) [some (sC (.ptr 4 0) h (h3x ck b)), some (cC .nilp n), none, some (u8s (h3y ck b)), some (cC (.ptr 3 0) 0)] :=
      Good.callv [0, 1] (L := [some (sC (.ptr 3 0) h (h3x ck b)), some (cC .nilp n)]) (M := [some (u8s (h3y ck b)), some (cC (.ptr 2 0) 0)]) (mixkey_0 h ck hh hk n b a hb ha) (am2 rfl vs_ro) (pl1 rfl (sC_map.trans rfl) (pl1 rfl rfl pl0)) rfl (ml1 (sC_map.trans rfl) (ml1 rfl ml0)) (ml1 sees_m (ml1 rfl ml0)) rfl rfl
    exact g.ren' [(0, true), (1, false), (2, false), (4, true), (3, true)] (rlT rfl (sC_map.trans rfl) (rlF (rlF (rlT rfl rfl (rlT rfl sees_m rl0)))))
  | true => exact (mixkey_k h ck hh hk key n hkey b a hb ha).ren' [(0, true), (1, false), (2, false), (4, true), (3, true)] (rlT rfl (sC_map.trans rfl) (rlF (rlF (rlT rfl rfl (rlT rfl sees_m rl0)))))
theorem sseal_u (has : Bool) (h ck : List UInt8) (hh : h.length = 32) (hk : ck.length = 32) (key : List UInt8) (n : UInt64) (hkey : key.length = 32) (l : List UInt8) (k : Nat) (hl : l.length = k) (hk9 : k ≤ 9000) (hn : n ≠ 18446744073709551615) : Good Try.prog 24 [.c (.ptr 0 0), .c (.ro k (u8s l))] [some (sC (.ptr 1 0) h ck), some (cC (kp has 2) n), kb has key] (.t [.c (.slc 3 0 (cSl has key n h l).1.length 1), .c (cn 0)]) [some (sC (.ptr 1 0) (bsum (h ++ (cSl has key n h l).1)) ck), some (cC (kp has 2) (cSl has key n h l).2.1), kb has key, some (u8s (cSl has key n h l).1)] := by
  cases has with
  | false =>
    subst hl
    exact Good.callv [0, 1] (L := [some (sC (.ptr 1 0) (bsum (h ++ l)) ck), some (cC .nilp n)]) (M := [some (u8s l)]) (sseal_0 h ck l n _ hh hk rfl hk9) (am2 rfl vs_ro) (pl1 rfl (sC_map.trans rfl) (pl1 rfl rfl pl0)) rfl (ml1 (sC_map.trans rfl) (ml1 rfl ml0)) (ml1 sees_m ml0) rfl rfl
  | true =>
    have e : cSl true key n h l = (aseal key (anonce n) h l, n + 1, 0) := by simp [cSl, hn]
    have g := sseal_k h ck key l n k hh hk hkey hl hk9 hn
    have hs := aseal_len key (anonce n) h l
    rw [hl] at hs
    rw [e]
    show Good _ _ _ _ (.t [.c (.slc 3 0 (aseal key (anonce n) h l).length 1), _]) _
    rw [hs]; exact g
theorem sopen_u (has : Bool) (h ck : List UInt8) (hh : h.length = 32) (hk : ck.length = 32) (key : List UInt8) (n : UInt64) (hkey : key.length = 32) (l : List UInt8) (k : Nat) (hl : l.length = k) (hk9 : k ≤ 9000) (hn : n ≠ 18446744073709551615) : Good Try.prog 25 [.c (.ptr 0 0), .c (.ro k (u8s l))] [some (sC (.ptr 1 0) h ck), some (cC (kp has 2) n), kb has key] (.t [.c (.slc 3 0 (cOp has key n h l).1.length 1), .c (cn (cOp has key n h l).2.2)]) [some (sC (.ptr 1 0) (sOh has key n h l) ck), some (cC (kp has 2) (cOp has key n h l).2.1), kb has key, some (u8s (cOp has key n h l).1)] := by
  cases has with
  | false =>
    subst hl
    exact Good.callv [0, 1] (L := [some (sC (.ptr 1 0) (bsum (h ++ l)) ck), some (cC .nilp n)]) (M := [some (u8s l)]) (sopen_0 h ck l n _ hh hk rfl hk9) (am2 rfl vs_ro) (pl1 rfl (sC_map.trans rfl) (pl1 rfl rfl pl0)) rfl (ml1 (sC_map.trans rfl) (ml1 rfl ml0)) (ml1 sees_m ml0) rfl rfl
  | true =>
    cases hp : aopen key (anonce n) h l with
    | none =>
      have e : cOp true key n h l = ([], n, 8) := by simp [cOp, hn, hp]
      have e2 : sOh true key n h l = h := by simp [sOh, e]
      rw [e2, e]
      exact (sopen_bad h ck key l n k hh hk hkey hl hk9 hn hp).emp 1
    | some p =>
      have e : cOp true key n h l = (p, n + 1, 0) := by simp [cOp, hn, hp]
      have e2 : sOh true key n h l = bsum (h ++ l) := by simp [sOh, e]
      have g := sopen_k h ck key l p n k hh hk hkey hl hk9 hn hp
      have hs := aopen_len hp
      rw [e2, e]
      show Good _ _ _ _ (.t [.c (.slc 3 0 p.length 1), _]) _
      rw [show p.length = k - 16 by omega]; exact g
theorem scopy_u (has : Bool) (h ck : List UInt8) (hh : h.length = 32) (hk : ck.length = 32) (key : List UInt8) (n : UInt64) (hkey : key.length = 32) : Good Try.prog 30 [.c (.ptr 0 0)] [some (sC (.ptr 1 0) h ck), some (cC (kp has 2) n), kb has key] (sc (.ptr 4 0)) [some (sC (.ptr 1 0) h ck), some (cC (kp has 2) n), kb has key, some (cC (kp has 2) n), some (sC (.ptr 3 0) h ck)] := by
  cases has with
  | false => exact Good.callv [0, 1] (L := [some (sC (.ptr 1 0) h ck), some (cC .nilp n)]) (M := [some (cC .nilp n), some (sC (.ptr 2 0) h ck)]) (scopy_0 h ck hh hk n) (am1 rfl) (pl1 rfl (sC_map.trans rfl) (pl1 rfl rfl pl0)) rfl (ml1 (sC_map.trans rfl) (ml1 rfl ml0)) (ml1 rfl (ml1 (sC_map.trans rfl) ml0)) rfl rfl
  | true => exact scopy_k h ck hh hk key n hkey
theorem split_u (has : Bool) (h ck : List UInt8) (hh : h.length = 32) (hk : ck.length = 32) (key : List UInt8) (n : UInt64) (hkey : key.length = 32) : Good Try.prog 28 [.c (.ptr 0 0)] [some (sC (.ptr 1 0) h ck), some (cC (kp has 2) n), kb has key] (.t [.c (.ptr 4 0), .c (.ptr 6 0)]) [some (sC (.ptr 1 0) h ck), some (cC (kp has 2) n), kb has key, some (u8s (h3x ck [])), some (cC (.ptr 3 0) 0), some (u8s (h3y ck [])), some (cC (.ptr 5 0) 0)] := by
  cases has with
  | false => exact Good.callv [0, 1] (L := [some (sC (.ptr 1 0) h ck), some (cC .nilp n)]) (M := [some (u8s (h3x ck [])), some (cC (.ptr 2 0) 0), some (u8s (h3y ck [])), some (cC (.ptr 4 0) 0)]) (split_0 h ck hh hk n) (am1 rfl) (pl1 rfl (sC_map.trans rfl) (pl1 rfl rfl pl0)) rfl (ml1 (sC_map.trans rfl) (ml1 rfl ml0)) (ml1 sees_m (ml1 rfl (ml1 sees_m (ml1 rfl ml0)))) rfl rfl
  | true => exact split_k h ck hh hk key n hkey
theorem hash_u (has : Bool) (h ck : List UInt8) (hh : h.length = 32) (hk : ck.length = 32) (key : List UInt8) (n : UInt64) (hkey : key.length = 32) : Good Try.prog 26 [.c (.rop (.rop [kr has key, c64 n, .bool true] :: (u8s h ++ u8s ck)))] [] (sa (u8s h)) [] := hash_ _ h ck hh hk (fun _ _ => kr_cm)
theorem chain_u (has : Bool) (h ck : List UInt8) (hh : h.length = 32) (hk : ck.length = 32) (key : List UInt8) (n : UInt64) (hkey : key.length = 32) : Good Try.prog 27 [.c (.rop (.rop [kr has key, c64 n, .bool true] :: (u8s h ++ u8s ck)))] [] (sa (u8s ck)) [] := chain_ _ h ck hh hk (fun _ _ => kr_cm)
theorem sees_su {H : Heap} {has : Bool} {key h ck : List UInt8} {s p q : Nat} {n : UInt64} {π : List Nat} (hs : idx s π = none) (hp : idx p π = none) (hq : idx q π = none) (hk : key.length = 32) (hS : H[s]? = some (some (sC (.ptr q 0) h ck))) (hC : H[q]? = some (some (cC (kp has p) n))) (hK : H[p]? = some (kb has key)) : cm (cin π true H) 8 (.ptr s 0) = .rop (.rop [kr has key, c64 n, .bool true] :: (u8s h ++ u8s ck)) :=
  sees_st hs hS (sees_ku hp hq hk hC hK)
end Go.Proofs.Ytlnepajgnckolaa

/- What functions of the program do, walked over the abstract machine. -/
namespace Go.Proofs.Ytlnepajgnckolaa
open Go Go.Abs Go.Proofs Go.Proofs.Ytlnepajgnckolaa.Ch Go.Proofs.Ytlnepajgnckolaa.Po Go.Proofs.Ytlnepajgnckolaa.Ae Go.Proofs.Ytlnepajgnckolaa.Bl

set_option maxRecDepth 20000
/-- The reference state's cells. -/
abbrev rS (h ck : List UInt8) (b : Bool) (key : List UInt8) (n : UInt64) : List Cell := (u8s h ++ u8s ck) ++ rC b key n
theorem l3_0 {A B R : List Cell} (ha : A.length = 32) : (((A ++ B) ++ R).drop 0).take 32 = A := by
  rw [List.drop_zero, List.append_assoc, List.take_append_of_le_length (by omega), List.take_of_length_le (by omega)]
theorem l3_1 {A B R : List Cell} (ha : A.length = 32) (hb : B.length = 32) : (((A ++ B) ++ R).drop 32).take 32 = B := by
  rw [List.append_assoc, List.drop_append_of_le_length (by omega), List.drop_of_length_le (l := A) (by omega), List.nil_append, List.take_append_of_le_length (by omega), List.take_of_length_le (by omega)]
theorem s3_0 {A B R A' : List Cell} (ha : A.length = 32) (ha' : A'.length = 32) : splice ((A ++ B) ++ R) 0 A' = (A' ++ B) ++ R := by
  unfold splice
  rw [List.take_zero, List.nil_append, ha', Nat.zero_add, List.append_assoc, List.drop_append_of_le_length (by omega), List.drop_of_length_le (l := A) (by omega), List.nil_append, List.append_assoc]
theorem s3_1 {A B R B' : List Cell} (ha : A.length = 32) (hb : B.length = 32) (hb' : B'.length = 32) : splice ((A ++ B) ++ R) 32 B' = (A ++ B') ++ R := by
  unfold splice
  rw [hb', List.append_assoc, List.take_append_of_le_length (by omega), List.take_of_length_le (by omega), ← List.append_assoc, ← List.append_assoc, List.drop_append_of_le_length (by rw [List.length_append]; omega), List.drop_of_length_le (l := A ++ B) (by rw [List.length_append]; omega), List.nil_append]
theorem s3_2 {A B R R' : List Cell} (ha : A.length = 32) (hb : B.length = 32) (hr : R'.length = R.length) : splice ((A ++ B) ++ R) 64 R' = (A ++ B) ++ R' := by
  unfold splice
  rw [List.take_append_of_le_length (by rw [List.length_append]; omega), List.take_of_length_le (l := A ++ B) (by rw [List.length_append]; omega), List.drop_of_length_le (l := (A ++ B) ++ R) (by rw [List.length_append, List.length_append]; omega), List.append_nil]
theorem u32l {l : List UInt8} (h : l.length = 32) : (u8s l).length = 32 := (mapc_length ..).trans h
theorem rS_P {h ck : List UInt8} (hh : h.length = 32) (hk : ck.length = 32) : (u8s h ++ u8s ck).length = 64 := by rw [List.length_append, u32l hh, u32l hk]
theorem rS_Pm {h ck : List UInt8} (m : CM) (d : Nat) : (u8s h ++ u8s ck).map (cm m (d + 1)) = u8s h ++ u8s ck := by rw [List.map_append, mapc_cm, mapc_cm]
theorem rS_map {h ck key : List UInt8} {b : Bool} {n : UInt64} {m : CM} {d : Nat} : (rS h ck b key n).map (cm m (d + 1)) = rS h ck b key n := by rw [List.map_append, rS_Pm, rC_map]
theorem rS_len {h ck key : List UInt8} {b : Bool} {n : UInt64} (hh : h.length = 32) (hk : ck.length = 32) (hkey : key.length = 32) : (rS h ck b key n).length = 98 := by rw [List.length_append, rS_P hh hk, rC_len hkey]
theorem app_cut {l m : List UInt8} {n : Nat} (h : l.length + m.length = n) : ((u8s l ++ u8s m).drop 0).take (n * 1) = u8s (l ++ m) := by
  rw [mapc_append]; exact cut_h (by rw [List.length_append]; exact h)
theorem key1' {X Y : List UInt8} (h : X.length = 32) (h2 : Y.length = 32) : ((u8s (X ++ Y)).drop (0 + 1 * 32)).take 32 = u8s Y := by
  rw [cut_m, List.drop_append_of_le_length (by omega), List.drop_of_length_le (by omega)]; simp [← h2]
theorem rP_cut {P X : List Cell} {ad : List UInt8} (hp : 32 ≤ P.length) (hc : (P.drop 0).take 32 = u8s ad) : ((P ++ X).drop 0).take (32 * 1) = u8s ad := by
  rw [← hc, List.drop_zero, List.drop_zero, List.take_append_of_le_length (by omega)]
/-- (*escutcheonref16.Cipher).Seal -/
theorem rsealS_0 (P : List Cell) (p : Nat) (hP : P.length = p) (hPm : ∀ (m : CM) (d : Nat), P.map (cm m (d + 1)) = P) (key l : List UInt8) (n : UInt64) (k : Nat) (hkey : key.length = 32) (hl : l.length = k) (hk9 : k ≤ 10000) : Good Try.prog 13 [.c (.ptr 0 p), .c (.slc 0 0 32 1), .c (.ro k (u8s l))] [some (P ++ rC false key n)] (.t [.c (.slc 1 0 k 1), .c (cn 0)]) [some (P ++ rC false key n), some (u8s l)] := by
  refine good_frm 41 Try.func13 rfl rfl rfl rfl rfl rfl ?_
  refine awp_seq ?_
  refine rln ?_
  refine As ?_
  refine G (q_as (s := sc (cn 0)) ?_)
  refine gend ?_
  refine awp_seq ?_
  refine awp_seq ?_
  refine rln ?_
  refine Mv ?_
  refine G (q_ncp ?_)
  refine G (q_fap ?_)
  refine G  (q_ldp ?_ (hc := rP_b hP))
  refine G (q_notb ?_)
  refine gend ?_
  refine cndbnY (fun hc1 => ?_) ?_; rotate_left
  · exact rfl
  refine awp_seq ?_
  refine rln ?_
  refine Mv ?_
  refine G2 (fun _ k_ => q_app k_ (eA := el_nil) (eB := el_ro (by rw [mapc_length, hl, Nat.mul_one]))) ?_
  refine As ?_
  refine G (q_as (s := sc (cn 0)) ?_)
  refine gend ?_
  refine awp_ret ?_
  exact fx2 [0, 1] (hm0 := by rw [Nat.zero_add]) (hH := pl1 rfl (by rw [List.map_append, hPm, rC_map]) (pl1 rfl sees_m pl0)) (hn := piB rfl)
/-- (*escutcheonref16.Cipher).Open -/
theorem ropenS_0 (P : List Cell) (p : Nat) (hP : P.length = p) (hPm : ∀ (m : CM) (d : Nat), P.map (cm m (d + 1)) = P) (key l : List UInt8) (n : UInt64) (k : Nat) (hkey : key.length = 32) (hl : l.length = k) (hk9 : k ≤ 10000) : Good Try.prog 15 [.c (.ptr 0 p), .c (.slc 0 0 32 1), .c (.ro k (u8s l))] [some (P ++ rC false key n)] (.t [.c (.slc 1 0 k 1), .c (cn 0)]) [some (P ++ rC false key n), some (u8s l)] := by
  refine good_frm 48 Try.func15 rfl rfl rfl rfl rfl rfl ?_
  refine awp_seq ?_
  refine rln ?_
  refine As ?_
  refine G (q_as (s := sc (cn 0)) ?_)
  refine gend ?_
  refine awp_seq ?_
  refine awp_seq ?_
  refine rln ?_
  refine Mv ?_
  refine G (q_ncp ?_)
  refine G (q_fap ?_)
  refine G  (q_ldp ?_ (hc := rP_b hP))
  refine G (q_notb ?_)
  refine gend ?_
  refine cndbnY (fun hc1 => ?_) ?_; rotate_left
  · exact rfl
  refine awp_seq ?_
  refine rln ?_
  refine Mv ?_
  refine G2 (fun _ k_ => q_app k_ (eA := el_nil) (eB := el_ro (by rw [mapc_length, hl, Nat.mul_one]))) ?_
  refine As ?_
  refine G (q_as (s := sc (cn 0)) ?_)
  refine gend ?_
  refine awp_ret ?_
  exact fx2 [0, 1] (hm0 := by rw [Nat.zero_add]) (hH := pl1 rfl (by rw [List.map_append, hPm, rC_map]) (pl1 rfl sees_m pl0)) (hn := piB rfl)
set_option maxHeartbeats 1600000 in
/-- (*escutcheonref16.Cipher).Seal -/
theorem rsealS_ok (P : List Cell) (p : Nat) (hP : P.length = p) (hPm : ∀ (m : CM) (d : Nat), P.map (cm m (d + 1)) = P) (key ad l : List UInt8) (n : UInt64) (k : Nat) (hkey : key.length = 32) (had : ad.length = 32) (hp32 : 32 ≤ P.length) (hcut : (P.drop 0).take 32 = u8s ad) (hl : l.length = k) (hk9 : k ≤ 10000) (h : n ≠ 18446744073709551615) : Good Try.prog 13 [.c (.ptr 0 p), .c (.slc 0 0 32 1), .c (.ro k (u8s l))] [some (P ++ rC true key n)] (.t [.c (.slc 1 0 (k + 16) 1), .c (cn 0)]) [some (P ++ rC true key (n + 1)), some (u8s (aseal key (anonce n) ad l))] := by
  have hNl := anonce_len n
  have g2 := rnonce_ n
  obtain ⟨N, hN⟩ : ∃ z, anonce n = z := ⟨_, rfl⟩
  rw [hN] at hNl g2
  rw [hN]
  have g3 := rseal_ key N ad l 32 k hkey hNl had (by decide) hl hk9
  have hn1 : n + 1 - 1 = n := UInt64.add_sub_cancel ..
  have g2' : Good Try.prog 42 [.c (c64 (n + 1 - 1))] [] (sa (u8s N)) [] := by rw [hn1]; exact g2
  have hL1 := rP_len (b := true) (n := n) hP hkey
  have hL2 := rP_len (b := true) (n := n + 1) hP hkey
  refine good_frm 41 Try.func13 rfl rfl rfl rfl rfl rfl ?_
  refine awp_seq ?_
  refine rln ?_
  refine As ?_
  refine G (q_as (s := sc (cn 0)) ?_)
  refine gend ?_
  refine awp_seq ?_
  refine awp_seq ?_
  refine rln ?_
  refine Mv ?_
  refine G (q_ncp ?_)
  refine G (q_fap ?_)
  refine G  (q_ldp ?_ (hc := rP_b hP))
  refine G (q_notb ?_)
  refine gend ?_
  refine cndbnN (fun hc1 => ?_) ?_; rotate_left
  · exact rfl
  refine awp_skip ?_
  refine awp_seq ?_
  refine awp_seq ?_
  refine rln ?_
  refine Mv ?_
  refine G (q_ncp ?_)
  refine G (q_fap ?_)
  refine G (q_ldp ?_ (hc := rP_n hP hkey))
  refine G (q_eql64 (y := 18446744073709551615) ?_)
  refine gend ?_
  refine cndN (fun hc2 => ?_) ?_; rotate_left
  · exact h
  refine awp_skip ?_
  refine awp_seq ?_
  refine rln ?_
  refine Mv ?_
  refine Mv ?_
  refine G (q_ncp ?_)
  refine G (q_fap ?_)
  refine G (q_ldp ?_ (hc := rP_n hP hkey))
  refine G (q_add64 (y := 1) ?_)
  refine G (q_ncp ?_)
  refine G (q_fap ?_)
  refine G20 (fun _ k_ => q_st k_) ?_ (hH := by simp only [List.set_cons_zero]; exact congrArg (fun z => [some z]) (rP_set hP hkey))
  refine gend ?_
  refine awp_seq ?_
  refine rdln [12] [0, 0, 0, 0, 0, 0, 0, 0, 0, 0, 0, 0, 0, 1, 1] [0, 0, 0, 0, 0, 0, 0, 0, 0, 0, 0, 0, 1, 1, 1] ?_
  refine Dp (fun _ => q_mv (s := .v (.c _)) ⟨rfl, rfl⟩) ?_
  refine Dp (fun _ => q_ncp ⟨rfl, rfl⟩) ?_
  refine Dp (fun _ => q_fap ⟨rfl, rfl⟩) ?_
  refine DLa (xs := u8s key) ?_ (hc := rP_k hP hkey)
  refine Dp (fun _ => q_mv (s := .v (.c _)) ⟨rfl, rfl⟩) ?_
  refine Dp (fun _ => q_ncp ⟨rfl, rfl⟩) ?_
  refine Dp (fun _ => q_fap ⟨rfl, rfl⟩) ?_
  refine DLp ?_ (hc := rP_n hP hkey)
  refine Dp (fun _ => q_sub64 (y := 1) ⟨rfl, rfl⟩) ?_
  refine Dp (fun _ => q_callp g2' ⟨rfl, rfl⟩ (ha := (cac (et rfl) cm_int ca0))) ?_
  refine Dp (fun _ => q_mv (s := .v (.c _)) ⟨rfl, rfl⟩) ?_
  refine Dp (fun _ => q_mv (s := .v (.c _)) ⟨rfl, rfl⟩) ?_
  refine De2 (fun _ k_ => q_calln g3 k_ (ha := (caa (et rfl) sees_m (caa (et rfl) sees_m (cac (et rfl) (sees_slc rfl rfl (rP_cut hp32 hcut)) (cac (et rfl) sees_ro ca0)))))) ?_
  refine Dp (fun _ => q_as (s := .v (.c _)) ⟨rfl, rfl⟩) ?_
  refine Dp (fun _ => q_as (s := sc (cn 0)) ⟨rfl, rfl⟩) ?_
  refine dend ?_
  refine awp_ret ?_
  exact fx2 [0, 1] (hm0 := rfl) (hH := pl1 rfl (by rw [List.map_append, hPm, rC_map]) (pl1 rfl sees_m pl0)) (hn := piB rfl)
set_option maxHeartbeats 1600000 in
/-- (*escutcheonref16.Cipher).Open -/
theorem ropenS_ok (P : List Cell) (p : Nat) (hP : P.length = p) (hPm : ∀ (m : CM) (d : Nat), P.map (cm m (d + 1)) = P) (key ad l : List UInt8) (n : UInt64) (k : Nat) (hkey : key.length = 32) (had : ad.length = 32) (hp32 : 32 ≤ P.length) (hcut : (P.drop 0).take 32 = u8s ad) (hl : l.length = k) (hk9 : k ≤ 10000) (h : n ≠ 18446744073709551615) (q : List UInt8) (hp : aopen key (anonce n) ad l = some q) : Good Try.prog 15 [.c (.ptr 0 p), .c (.slc 0 0 32 1), .c (.ro k (u8s l))] [some (P ++ rC true key n)] (.t [.c (.slc 1 0 (k - 16) 1), .c (cn 0)]) [some (P ++ rC true key (n + 1)), some (u8s q)] := by
  have hNl := anonce_len n
  have g2 := rnonce_ n
  obtain ⟨N, hN⟩ : ∃ z, anonce n = z := ⟨_, rfl⟩
  rw [hN] at hNl g2
  rw [hN] at hp
  have g3 := ropen_some key N ad l 32 k hkey hNl had (by decide) hl hk9 q hp
  have hL1 := rP_len (b := true) (n := n) hP hkey
  have hL2 := rP_len (b := true) (n := n + 1) hP hkey
  refine good_frm 48 Try.func15 rfl rfl rfl rfl rfl rfl ?_
  refine awp_seq ?_
  refine rln ?_
  refine As ?_
  refine G (q_as (s := sc (cn 0)) ?_)
  refine gend ?_
  refine awp_seq ?_
  refine awp_seq ?_
  refine rln ?_
  refine Mv ?_
  refine G (q_ncp ?_)
  refine G (q_fap ?_)
  refine G  (q_ldp ?_ (hc := rP_b hP))
  refine G (q_notb ?_)
  refine gend ?_
  refine cndbnN (fun hc1 => ?_) ?_; rotate_left
  · exact rfl
  refine awp_skip ?_
  refine awp_seq ?_
  refine awp_seq ?_
  refine rln ?_
  refine Mv ?_
  refine G (q_ncp ?_)
  refine G (q_fap ?_)
  refine G (q_ldp ?_ (hc := rP_n hP hkey))
  refine G (q_eql64 (y := 18446744073709551615) ?_)
  refine gend ?_
  refine cndN (fun hc2 => ?_) ?_; rotate_left
  · exact h
  refine awp_skip ?_
  refine awp_seq ?_
  refine rdln [11] [0, 0, 0, 0, 0, 0, 0, 0, 0, 0, 0, 0, 1, 1, 1, 1, 1] [0, 0, 0, 0, 0, 0, 0, 0, 0, 0, 0, 1, 1, 1, 1, 1, 1] ?_
  refine Dp (fun _ => q_mv (s := .v (.c _)) ⟨rfl, rfl⟩) ?_
  refine Dp (fun _ => q_ncp ⟨rfl, rfl⟩) ?_
  refine Dp (fun _ => q_fap ⟨rfl, rfl⟩) ?_
  refine DLa (xs := u8s key) ?_ (hc := rP_k hP hkey)
  refine Dp (fun _ => q_mv (s := .v (.c _)) ⟨rfl, rfl⟩) ?_
  refine Dp (fun _ => q_ncp ⟨rfl, rfl⟩) ?_
  refine Dp (fun _ => q_fap ⟨rfl, rfl⟩) ?_
  refine DLp ?_ (hc := rP_n hP hkey)
  refine Dp (fun _ => q_callp g2 ⟨rfl, rfl⟩ (ha := (cac (et rfl) cm_int ca0))) ?_
  refine Dp (fun _ => q_mv (s := .v (.c _)) ⟨rfl, rfl⟩) ?_
  refine Dp (fun _ => q_mv (s := .v (.c _)) ⟨rfl, rfl⟩) ?_
  refine De2 (fun _ k_ => q_calln g3 k_ (ha := (caa (et rfl) sees_m (caa (et rfl) sees_m (cac (et rfl) (sees_slc rfl rfl (rP_cut hp32 hcut)) (cac (et rfl) sees_ro ca0)))))) ?_
  refine Dp (fun _ => q_mv (s := .t _) ⟨rfl, rfl⟩) ?_
  refine Dp (fun _ => q_ext (y := .c _) ⟨rfl, rfl⟩) ?_
  refine Dp (fun _ => q_ext (y := .c _) ⟨rfl, rfl⟩) ?_
  refine Dp (fun _ => q_as (s := .v (.c _)) ⟨rfl, rfl⟩) ?_
  refine Dp (fun _ => q_as (s := .v (.c _)) ⟨rfl, rfl⟩) ?_
  refine dend ?_
  refine awp_seq ?_
  refine awp_seq ?_
  refine rln ?_
  refine Mv ?_
  refine G (q_notb ?_)
  refine gend ?_
  refine cndbnN (fun hc3 => ?_) ?_; rotate_left
  · exact rfl
  refine awp_skip ?_
  refine awp_seq ?_
  refine rln ?_
  refine Mv ?_
  refine Mv ?_
  refine G (q_ncp ?_)
  refine G (q_fap ?_)
  refine G (q_ldp ?_ (hc := rP_n hP hkey))
  refine G (q_add64 (y := 1) ?_)
  refine G (q_ncp ?_)
  refine G (q_fap ?_)
  refine G20 (fun _ k_ => q_st k_) ?_ (hH := by simp only [List.set_cons_zero, List.cons_append, List.nil_append]; exact congrArg (fun z => some z :: _) (rP_set hP hkey))
  refine gend ?_
  refine awp_seq ?_
  refine rln ?_
  refine Mv ?_
  refine As ?_
  refine G (q_as (s := sc (cn 0)) ?_)
  refine gend ?_
  refine awp_ret ?_
  exact fx2 [0, 1] (hm0 := rfl) (hH := pl1 rfl (by rw [List.map_append, hPm, rC_map]) (pl1 rfl sees_m pl0)) (hn := piB rfl)
set_option maxHeartbeats 1600000 in
/-- (*escutcheonref16.Cipher).Open -/
theorem ropenS_bad (P : List Cell) (p : Nat) (hP : P.length = p) (hPm : ∀ (m : CM) (d : Nat), P.map (cm m (d + 1)) = P) (key ad l : List UInt8) (n : UInt64) (k : Nat) (hkey : key.length = 32) (had : ad.length = 32) (hp32 : 32 ≤ P.length) (hcut : (P.drop 0).take 32 = u8s ad) (hl : l.length = k) (hk9 : k ≤ 10000) (h : n ≠ 18446744073709551615) (hp : aopen key (anonce n) ad l = none) : Good Try.prog 15 [.c (.ptr 0 p), .c (.slc 0 0 32 1), .c (.ro k (u8s l))] [some (P ++ rC true key n)] (.t [.c .nils, .c (cn 8)]) [some (P ++ rC true key n)] := by
  have hNl := anonce_len n
  have g2 := rnonce_ n
  obtain ⟨N, hN⟩ : ∃ z, anonce n = z := ⟨_, rfl⟩
  rw [hN] at hNl g2
  rw [hN] at hp
  have g3 := ropen_none key N ad l 32 k hkey hNl had (by decide) hl hk9 hp
  have hL1 := rP_len (b := true) (n := n) hP hkey
  have hL2 := rP_len (b := true) (n := n + 1) hP hkey
  refine good_frm 48 Try.func15 rfl rfl rfl rfl rfl rfl ?_
  refine awp_seq ?_
  refine rln ?_
  refine As ?_
  refine G (q_as (s := sc (cn 0)) ?_)
  refine gend ?_
  refine awp_seq ?_
  refine awp_seq ?_
  refine rln ?_
  refine Mv ?_
  refine G (q_ncp ?_)
  refine G (q_fap ?_)
  refine G  (q_ldp ?_ (hc := rP_b hP))
  refine G (q_notb ?_)
  refine gend ?_
  refine cndbnN (fun hc1 => ?_) ?_; rotate_left
  · exact rfl
  refine awp_skip ?_
  refine awp_seq ?_
  refine awp_seq ?_
  refine rln ?_
  refine Mv ?_
  refine G (q_ncp ?_)
  refine G (q_fap ?_)
  refine G (q_ldp ?_ (hc := rP_n hP hkey))
  refine G (q_eql64 (y := 18446744073709551615) ?_)
  refine gend ?_
  refine cndN (fun hc2 => ?_) ?_; rotate_left
  · exact h
  refine awp_skip ?_
  refine awp_seq ?_
  refine rdln [] [] [] ?_
  refine Dp (fun _ => q_mv (s := .v (.c _)) ⟨rfl, rfl⟩) ?_
  refine Dp (fun _ => q_ncp ⟨rfl, rfl⟩) ?_
  refine Dp (fun _ => q_fap ⟨rfl, rfl⟩) ?_
  refine DLa (xs := u8s key) ?_ (hc := rP_k hP hkey)
  refine Dp (fun _ => q_mv (s := .v (.c _)) ⟨rfl, rfl⟩) ?_
  refine Dp (fun _ => q_ncp ⟨rfl, rfl⟩) ?_
  refine Dp (fun _ => q_fap ⟨rfl, rfl⟩) ?_
  refine DLp ?_ (hc := rP_n hP hkey)
  refine Dp (fun _ => q_callp g2 ⟨rfl, rfl⟩ (ha := (cac (et rfl) cm_int ca0))) ?_
  refine Dp (fun _ => q_mv (s := .v (.c _)) ⟨rfl, rfl⟩) ?_
  refine Dp (fun _ => q_mv (s := .v (.c _)) ⟨rfl, rfl⟩) ?_
  refine DSp 0 rfl (fun _ hv => q_callp g3 ⟨rfl, rfl⟩ (ha := (caa (et rfl) sees_m (caa (et rfl) sees_m (cac (et rfl) (sees_slc rfl hv (rP_cut hp32 hcut)) (cac (et rfl) sees_ro ca0)))))) ?_
  refine Dp (fun _ => q_mv (s := .t _) ⟨rfl, rfl⟩) ?_
  refine Dp (fun _ => q_ext (y := .c _) ⟨rfl, rfl⟩) ?_
  refine Dp (fun _ => q_ext (y := .c _) ⟨rfl, rfl⟩) ?_
  refine Dp (fun _ => q_as (s := .v (.c _)) ⟨rfl, rfl⟩) ?_
  refine Dp (fun _ => q_as (s := .v (.c _)) ⟨rfl, rfl⟩) ?_
  refine dend ?_
  refine awp_seq ?_
  refine awp_seq ?_
  refine rln ?_
  refine Mv ?_
  refine G (q_notb ?_)
  refine gend ?_
  refine cndbnY (fun hc3 => ?_) ?_; rotate_left
  · exact rfl
  refine awp_seq ?_
  refine rln ?_
  refine As ?_
  refine G (q_as (s := sc (cn 8)) ?_)
  refine gend ?_
  refine awp_ret ?_
  exact fx2 [0] (hH := pl1 rfl (by rw [List.map_append, hPm, rC_map]) pl0)
theorem rsealS_u (P : List Cell) (p : Nat) (hP : P.length = p) (hPm : ∀ (m : CM) (d : Nat), P.map (cm m (d + 1)) = P) (has : Bool) (key ad l : List UInt8) (n : UInt64) (k : Nat) (hkey : key.length = 32) (had : ad.length = 32) (hp32 : 32 ≤ P.length) (hcut : (P.drop 0).take 32 = u8s ad) (hl : l.length = k) (hk9 : k ≤ 10000) (hn : n ≠ 18446744073709551615) : Good Try.prog 13 [.c (.ptr 0 p), .c (.slc 0 0 32 1), .c (.ro k (u8s l))] [some (P ++ rC has key n)] (.t [.c (.slc 1 0 (cSl has key n ad l).1.length 1), .c (cn 0)]) [some (P ++ rC has key (cSl has key n ad l).2.1), some (u8s (cSl has key n ad l).1)] := by
  cases has with
  | false => subst hl; exact rsealS_0 P p hP hPm key l n _ hkey rfl hk9
  | true =>
    have e : cSl true key n ad l = (aseal key (anonce n) ad l, n + 1, 0) := by simp [cSl, hn]
    have g := rsealS_ok P p hP hPm key ad l n k hkey had hp32 hcut hl hk9 hn
    have hs := aseal_len key (anonce n) ad l
    rw [hl] at hs
    rw [e]
    show Good _ _ _ _ (.t [.c (.slc 1 0 (aseal key (anonce n) ad l).length 1), _]) _
    rw [hs]; exact g
theorem ropenS_u (P : List Cell) (p : Nat) (hP : P.length = p) (hPm : ∀ (m : CM) (d : Nat), P.map (cm m (d + 1)) = P) (has : Bool) (key ad l : List UInt8) (n : UInt64) (k : Nat) (hkey : key.length = 32) (had : ad.length = 32) (hp32 : 32 ≤ P.length) (hcut : (P.drop 0).take 32 = u8s ad) (hl : l.length = k) (hk9 : k ≤ 10000) (hn : n ≠ 18446744073709551615) : Good Try.prog 15 [.c (.ptr 0 p), .c (.slc 0 0 32 1), .c (.ro k (u8s l))] [some (P ++ rC has key n)] (.t [.c (.slc 1 0 (cOp has key n ad l).1.length 1), .c (cn (cOp has key n ad l).2.2)]) [some (P ++ rC has key (cOp has key n ad l).2.1), some (u8s (cOp has key n ad l).1)] := by
  cases has with
  | false => subst hl; exact ropenS_0 P p hP hPm key l n _ hkey rfl hk9
  | true =>
    cases hp : aopen key (anonce n) ad l with
    | none =>
      have e : cOp true key n ad l = ([], n, 8) := by simp [cOp, hn, hp]
      rw [e]
      exact (ropenS_bad P p hP hPm key ad l n k hkey had hp32 hcut hl hk9 hn hp).emp 1
    | some q =>
      have e : cOp true key n ad l = (q, n + 1, 0) := by simp [cOp, hn, hp]
      have g := ropenS_ok P p hP hPm key ad l n k hkey had hp32 hcut hl hk9 hn q hp
      have hs := aopen_len hp
      rw [e]
      show Good _ _ _ _ (.t [.c (.slc 1 0 q.length 1), _]) _
      rw [show q.length = k - 16 by omega]; exact g
set_option maxHeartbeats 1600000 in
/-- (*escutcheonref16.State).MixHash -/
theorem rmixhash_ (h ck key : List UInt8) (has : Bool) (n : UInt64) (hh : h.length = 32) (hk : ck.length = 32) (hkey : key.length = 32) (b : List UInt8) (a : Nat) (hb : b.length = a) (ha : a ≤ 10000) : Good Try.prog 32 [.c (.ptr 0 0), .c (.ro a (u8s b))] [some (rS h ck has key n)] (.t []) [some (rS (bsum (h ++ b)) ck has key n)] := by
  have hL := rS_len (b := has) (n := n) hh hk hkey
  have g1 := rsum_ (h ++ b) (32 + a) (by rw [List.length_append, hh, hb]) (by omega)
  rw [rsum_bsum] at g1
  obtain ⟨B, hB⟩ : ∃ z, bsum (h ++ b) = z := ⟨_, rfl⟩
  have hBl : B.length = 32 := by rw [← hB]; exact bsum_len _
  rw [hB] at g1 ⊢
  refine good_frm 15 Try.func32 rfl rfl rfl rfl rfl rfl ?_
  refine rln ?_
  refine Mv ?_
  refine Mv ?_
  refine G (q_ncp ?_)
  refine G (q_fap0 ?_)
  refine G (q_slp_no ?_)
  refine G2 (fun _ k_ => q_app k_ (eA := el_nil) (eB := el_slc (xs := u8s h) rfl (by rw [hL]; decide) (l3_0 (u32l hh)))) ?_
  refine Mv ?_
  refine G2 (fun _ k_ => q_app k_ (eA := el_slc (xs := u8s h) rfl (by rw [u32l hh]; decide) (cut_h hh)) (eB := el_ro (by rw [mapc_length, hb, Nat.mul_one])))  ?_
  refine G2 (fun _ k_ => q_callp g1 k_ (ha := (cac (et rfl) (sees_slc rfl rfl (app_cut (by rw [hh, hb]))) ca0))) ?_
  refine G (q_ncp ?_)
  refine G (q_fap0 ?_)
  refine G20 (fun _ k_ => q_sta k_) ?_ (hH := by simp only [List.set_cons_zero, List.set_cons_succ, List.cons_append, List.nil_append]; exact congrArg (fun z => some z :: _) (s3_0 (u32l hh) (u32l hBl)))
  refine gend ?_
  exact fx0 [0] (hH := pl1 rfl rS_map pl0)
end Go.Proofs.Ytlnepajgnckolaa

/- What functions of the program do, walked over the abstract machine. -/
namespace Go.Proofs.Ytlnepajgnckolaa
open Go Go.Abs Go.Proofs Go.Proofs.Ytlnepajgnckolaa.Ch Go.Proofs.Ytlnepajgnckolaa.Po Go.Proofs.Ytlnepajgnckolaa.Ae Go.Proofs.Ytlnepajgnckolaa.Bl

set_option maxRecDepth 20000
theorem rbegin_cpy {s : ByteArray} (h : s.size ≤ 32) {R : List Cell} : splice ((u8s (List.replicate 32 0) ++ u8s (List.replicate 32 0)) ++ R) 0 (List.take (min s.size 32 * 1) (u8s s.data.toList)) = (u8s (pad32 s) ++ u8s (List.replicate 32 0)) ++ R := by
  have hs : s.data.toList.length = s.size := rfl
  unfold splice
  rw [Nat.min_eq_left h, Nat.mul_one, List.take_of_length_le (l := u8s s.data.toList) (by rw [mapc_length, hs]; exact Nat.le_refl _), mapc_length, hs, List.take_zero, List.nil_append, Nat.zero_add, List.append_assoc, List.drop_append_of_le_length (by rw [mapc_length, List.length_replicate]; exact h), mapc_drop, List.drop_replicate, show u8s (pad32 s) = u8s s.data.toList ++ u8s (List.replicate (32 - s.size) 0) from (mapc_append ..).symm, List.append_assoc, List.append_assoc]
theorem rC_new {key : List UInt8} (hk : key.length = 32) : splice (([Cell.bool false] ++ u8s (List.replicate 32 0) ++ [c64 0]).set 0 (.bool true)) 1 (u8s key) = rC true key 0 := by
  unfold splice
  rw [mapc_length, hk]; rfl
/-- (*escutcheonref16.State).MixKey -/
theorem rmixkey_ (h ck key : List UInt8) (has : Bool) (n : UInt64) (hh : h.length = 32) (hk : ck.length = 32) (hkey : key.length = 32) (b : List UInt8) (a : Nat) (hb : b.length = a) (ha : a ≤ 10000) : Good Try.prog 33 [.c (.ptr 0 0), .c (.ro a (u8s b))] [some (rS h ck has key n)] (.t []) [some (rS h (h3x ck b) true (h3y ck b) 0)] := by
  have hL := rS_len (b := has) (n := n) hh hk hkey
  have g1 := outs_ ck b a 2 hk hb ha (by decide)
  rw [allb_2] at g1
  obtain ⟨X, hX⟩ : ∃ z, h3x ck b = z := ⟨_, rfl⟩
  have hXl : X.length = 32 := by rw [← hX]; exact h3x_len _ _
  obtain ⟨Y, hY⟩ : ∃ z, h3y ck b = z := ⟨_, rfl⟩
  have hYl : Y.length = 32 := by rw [← hY]; exact h3y_len _ _
  rw [hX, hY] at g1
  rw [hX, hY]
  have hXYl : (X ++ Y).length = 64 := by rw [List.length_append, hXl, hYl]
  have hL2 := rS_len (b := has) (n := n) hh hXl hkey
  refine good_frm 24 Try.func33 rfl rfl rfl rfl rfl rfl ?_
  refine awp_seq ?_
  refine rln ?_
  refine Mv ?_
  refine G (q_ncp ?_)
  refine G (q_fap0 ?_)
  refine G  (q_lda (xs := u8s ck) ?_ (hc := l3_1 (u32l hh) (u32l hk)))
  refine Mv ?_
  refine G2 (fun _ k_ => q_calln g1 k_ (ha := (caa (et rfl) sees_m (cac (et rfl) sees_ro (cac rfl cm_int ca0))))) ?_
  refine As ?_
  refine gend ?_
  refine awp_seq ?_
  refine rln ?_
  refine Mv ?_
  refine Mv ?_
  refine G (q_ixs ?_)
  refine G  (q_lda (xs := u8s X) ?_ (hc := key_0 hXl))
  refine G (q_ncp ?_)
  refine G (q_fap0 ?_)
  refine G20 (fun _ k_ => q_sta  k_) ?_ (hH := by simp only [List.set_cons_zero, List.set_cons_succ, List.cons_append, List.nil_append]; exact congrArg (fun z => some z :: _) (s3_1 (u32l hh) (u32l hk) (u32l hXl)))
  refine gend ?_
  refine rln ?_
  refine Mv ?_
  refine Mv ?_
  refine G (q_ixs ?_)
  refine G  (q_lda (xs := u8s Y) ?_ (hc := key1' hXl hYl))
  refine G (q_bls (fkc (c := .bool true) rfl rfl rfl (Nat.le_of_ble_eq_true rfl) (fka rfl (et rfl) ((mapc_length ..).trans hYl) (Nat.le_of_ble_eq_true rfl) (fk0 ?_))))
  refine G (q_ncp ?_)
  refine G (q_fap0 ?_)
  refine G20 (fun _ k_ => q_sta  k_ (hl := by rw [rC_new hYl]; exact rC_len hYl) (hq := by rw [hL2]; decide)) ?_ (hH := by simp only [List.set_cons_zero, List.set_cons_succ, List.cons_append, List.nil_append]; exact congrArg (fun z => some z :: _) ((congrArg (splice _ 64) (rC_new hYl)).trans (s3_2 (u32l hh) (u32l hXl) ((rC_len hYl).trans (rC_len hkey).symm))))
  refine gend ?_
  exact fx0 [0] (hH := pl1 rfl rS_map pl0)
/-- (*escutcheonref16.State).Split -/
theorem rsplit_ (h ck key : List UInt8) (has : Bool) (n : UInt64) (hh : h.length = 32) (hk : ck.length = 32) (hkey : key.length = 32) : Good Try.prog 36 [.c (.rop (rS h ck has key n))] [] (.t [.a (u8s (h3x ck [])), .a (u8s (h3y ck []))]) [] := by
  have hL := rS_len (b := has) (n := n) hh hk hkey
  have g1 := outs_ ck [] 0 2 hk rfl (by decide) (by decide)
  rw [allb_2] at g1
  obtain ⟨X, hX⟩ : ∃ z, h3x ck [] = z := ⟨_, rfl⟩
  have hXl : X.length = 32 := by rw [← hX]; exact h3x_len _ _
  obtain ⟨Y, hY⟩ : ∃ z, h3y ck [] = z := ⟨_, rfl⟩
  have hYl : Y.length = 32 := by rw [← hY]; exact h3y_len _ _
  rw [hX, hY] at g1
  rw [hX, hY]
  have hXYl : (X ++ Y).length = 64 := by rw [List.length_append, hXl, hYl]
  refine good_frm 16 Try.func36 rfl rfl rfl rfl rfl rfl ?_
  refine awp_seq ?_
  refine rln ?_
  refine G2 (fun _ k_ => q_al k_) ?_
  refine G2 (fun _ k_ => q_al k_) ?_
  refine gend ?_
  refine awp_seq ?_
  refine rln ?_
  refine Mv ?_
  refine G (q_ncr ?_)
  refine G (q_far ?_)
  refine G (q_ldar (xs := u8s ck) ?_ (hc := l3_1 (u32l hh) (u32l hk)) (hl := by rw [List.length_drop, hL]; decide))
  refine G2 (fun _ k_ => q_calln g1 k_ (ha := (caa (et rfl) sees_m (cac rfl sees_nil8 (cac rfl cm_int ca0))))) ?_
  refine As ?_
  refine gend ?_
  refine awp_seq ?_
  refine rdln [6, 7] [0, 0, 0, 0, 0, 0, 0, 1] [0, 0, 0, 1, 1, 1, 1, 2] ?_
  refine Dp (fun _ => q_mv (s := .v (.c _)) ⟨rfl, rfl⟩) ?_
  refine Dp (fun _ => q_ixs ⟨rfl, rfl⟩) ?_
  refine DLa (xs := u8s X) ?_ (hc := key_0 hXl)
  refine Dp (fun _ => q_mv (s := .v (.c _)) ⟨rfl, rfl⟩) ?_
  refine Dp (fun _ => q_ixs ⟨rfl, rfl⟩) ?_
  refine DLa (xs := u8s Y) ?_ (hc := key1' hXl hYl)
  refine De20 (fun _ k_ => q_stw k_) ?_
  refine De20 (fun _ k_ => q_stw k_) ?_
  refine dend ?_
  refine awp_ret ?_
  exact fpc2 (a0 := 2) (t0 := 23) (a1 := 3) (t1 := 23) (hn0 := (mapc_length ..).trans hXl) (hn1 := (mapc_length ..).trans hYl)
/-- escutcheonref16.Begin -/
theorem rbegin_s (s : ByteArray) (h : s.size ≤ 32) : Good Try.prog 31 [.c (.str s)] [] (sc (.ptr 0 0)) [some (rS (pad32 s) (pad32 s) false (List.replicate 32 0) 0)] := by
  have hP := pad32_len h
  have hZ : (List.replicate 32 (0 : UInt8)).length = 32 := rfl
  have hL := rS_len (b := false) (n := 0) hP hZ hZ
  refine good_frm 29 Try.func31 rfl rfl rfl rfl rfl rfl ?_
  refine awp_seq ?_
  refine rln ?_
  refine As ?_
  refine gend ?_
  refine awp_seq ?_
  refine rln ?_
  refine G (q_bls (fk0 ?_))
  refine G2 (fun _ k_ => q_boxa k_) ?_
  refine As ?_
  refine gend ?_
  refine awp_seq ?_
  refine awp_seq ?_
  refine rln ?_
  refine Mv ?_
  refine G (q_lens ?_)
  refine G (q_leqn (y := 32) ?_)
  refine gend ?_
  refine cndY (fun hc1 => ?_) ?_; rotate_left
  · exact h
  refine rln ?_
  refine Mv ?_
  refine G (q_ncp ?_)
  refine G (q_fap0 ?_)
  refine G (q_slp_no ?_)
  refine Mv ?_
  refine G2 (fun _ k_ => q_cpy k_) ?_ (hH := by simp only [List.set_cons_zero, List.set_cons_succ, List.cons_append, List.nil_append]; exact congrArg (fun z => [some z]) (rbegin_cpy h))
  refine gend ?_
  refine awp_seq ?_
  refine rln ?_
  refine Mv ?_
  refine Mv ?_
  refine G (q_ncp ?_)
  refine G (q_fap0 ?_)
  refine G (q_lda (xs := u8s (pad32 s)) ?_ (hc := l3_0 (u32l hP)))
  refine G (q_ncp ?_)
  refine G (q_fap0 ?_)
  refine G20 (fun _ k_ => q_sta k_) ?_ (hH := by simp only [List.set_cons_zero, List.set_cons_succ, List.cons_append, List.nil_append]; exact congrArg (fun z => [some z]) (s3_1 (u32l hP) (u32l hZ) (u32l hP)))
  refine gend ?_
  refine awp_seq ?_
  refine rln ?_
  refine Mv ?_
  refine As ?_
  refine gend ?_
  refine awp_ret ?_
  exact fx1 [0] (hm0 := rfl) (hH := pl1 rfl rS_map pl0)
/-- escutcheonref16.Begin -/
theorem rbegin_l (s : ByteArray) (h : ¬ s.size ≤ 32) (h9 : s.size ≤ 10000) : Good Try.prog 31 [.c (.str s)] [] (sc (.ptr 0 0)) [some (rS (bsum s.data.toList) (bsum s.data.toList) false (List.replicate 32 0) 0)] := by
  have hs : s.data.toList.length = s.size := rfl
  have g1 := rsum_ s.data.toList s.size hs (by omega)
  rw [rsum_bsum] at g1
  obtain ⟨B, hB⟩ : ∃ z, bsum s.data.toList = z := ⟨_, rfl⟩
  have hBl : B.length = 32 := by rw [← hB]; exact bsum_len _
  rw [hB] at g1 ⊢
  have hZ : (List.replicate 32 (0 : UInt8)).length = 32 := rfl
  have hL := rS_len (b := false) (n := 0) hBl hZ hZ
  refine good_frm 29 Try.func31 rfl rfl rfl rfl rfl rfl ?_
  refine awp_seq ?_
  refine rln ?_
  refine As ?_
  refine gend ?_
  refine awp_seq ?_
  refine rln ?_
  refine G (q_bls (fk0 ?_))
  refine G2 (fun _ k_ => q_boxa k_) ?_
  refine As ?_
  refine gend ?_
  refine awp_seq ?_
  refine awp_seq ?_
  refine rln ?_
  refine Mv ?_
  refine G (q_lens ?_)
  refine G (q_leqn (y := 32) ?_)
  refine gend ?_
  refine cndN (fun hc1 => ?_) ?_; rotate_left
  · exact h
  refine rln ?_
  refine Mv ?_
  refine Mv ?_
  refine G2 (fun _ k_ => q_ctb k_) ?_
  refine G2 (fun _ k_ => q_callp g1 k_ (ha := (cac (et rfl) (sees_slc rfl rfl (cut_h hs)) ca0))) ?_
  refine G (q_ncp ?_)
  refine G (q_fap0 ?_)
  refine G20 (fun _ k_ => q_sta  k_) ?_ (hH := by simp only [List.set_cons_zero, List.set_cons_succ, List.cons_append, List.nil_append]; exact congrArg (fun z => some z :: _) (s3_0 (A := u8s (List.replicate 32 0)) (B := u8s (List.replicate 32 0)) (R := rC false (List.replicate 32 0) 0) (u32l hZ) (u32l hBl)))
  refine gend ?_
  refine awp_seq ?_
  refine rln ?_
  refine Mv ?_
  refine Mv ?_
  refine G (q_ncp ?_)
  refine G (q_fap0 ?_)
  refine G (q_lda (xs := u8s B) ?_ (hc := l3_0 (u32l hBl)))
  refine G (q_ncp ?_)
  refine G (q_fap0 ?_)
  refine G20 (fun _ k_ => q_sta k_) ?_ (hH := by simp only [List.set_cons_zero, List.set_cons_succ, List.cons_append, List.nil_append]; exact congrArg (fun z => some z :: _) (s3_1 (u32l hBl) (u32l hZ) (u32l hBl)))
  refine gend ?_
  refine awp_seq ?_
  refine rln ?_
  refine Mv ?_
  refine As ?_
  refine gend ?_
  refine awp_ret ?_
  exact fx1 [0] (hm0 := rfl) (hH := pl1 rfl rS_map pl0)
/-- (*escutcheonref16.State).Seal -/
theorem rsseal_ (h ck key : List UInt8) (has : Bool) (n : UInt64) (hh : h.length = 32) (hk : ck.length = 32) (hkey : key.length = 32) (l : List UInt8) (k : Nat) (hl : l.length = k) (hk9 : k ≤ 9000) (hn : n ≠ 18446744073709551615) : Good Try.prog 34 [.c (.ptr 0 0), .c (.ro k (u8s l))] [some (rS h ck has key n)] (.t [.c (.slc 1 0 (cSl has key n h l).1.length 1), .c (cn 0)]) [some (rS (bsum (h ++ (cSl has key n h l).1)) ck has key (cSl has key n h l).2.1), some (u8s (cSl has key n h l).1)] := by
  have hL := rS_len (b := has) (n := n) hh hk hkey
  have g1 := rsealS_u _ 64 (rS_P hh hk) rS_Pm has key h l n k hkey hh (by rw [rS_P hh hk]; decide) (by rw [List.drop_zero, List.take_append_of_le_length (by rw [u32l hh]; decide), List.take_of_length_le (by rw [u32l hh]; decide)]) hl (by omega) hn
  have hSl := cSl_len (has := has) (key := key) (ad := h) (l := l) (n := n)
  refine good_frm 27 Try.func34 rfl rfl rfl rfl rfl rfl ?_
  refine awp_seq ?_
  refine rln ?_
  refine As ?_
  refine G (q_as (s := sc (cn 0)) ?_)
  refine gend ?_
  refine awp_seq ?_
  refine rdln [8] [0, 0, 0, 0, 0, 0, 0, 0, 0, 1, 1, 1, 1, 1] [0, 0, 0, 0, 0, 0, 0, 0, 1, 1, 1, 1, 1, 1] ?_
  refine Dp (fun _ => q_mv (s := .v (.c _)) ⟨rfl, rfl⟩) ?_
  refine Dp (fun _ => q_ncp ⟨rfl, rfl⟩) ?_
  refine Dp (fun _ => q_fap0 ⟨rfl, rfl⟩) ?_
  refine Dp (fun _ => q_mv (s := .v (.c _)) ⟨rfl, rfl⟩) ?_
  refine Dp (fun _ => q_ncp ⟨rfl, rfl⟩) ?_
  refine Dp (fun _ => q_fap0 ⟨rfl, rfl⟩) ?_
  refine DSp 0 rfl (fun _ hv => q_slp_no ⟨rfl, rfl⟩ (hp := hv)) ?_
  refine Dp (fun _ => q_mv (s := .v (.c _)) ⟨rfl, rfl⟩) ?_
  refine De2 (fun _ k_ => q_callv [0] [some (rS h ck has key (cSl has key n h l).2.1)] [some (u8s (cSl has key n h l).1)] g1 k_ (ha := (cac (et rfl) rfl (cac (et rfl) rfl (cac (et rfl) sees_ro ca0)))) (e2 := pl1 rfl rS_map pl0) (eL := ml1 rS_map ml0) (eM := ml1 sees_m ml0)) ?_
  refine Dp (fun _ => q_mv (s := .t _) ⟨rfl, rfl⟩) ?_
  refine Dp (fun _ => q_ext (y := .c _) ⟨rfl, rfl⟩) ?_
  refine Dp (fun _ => q_ext (y := .c _) ⟨rfl, rfl⟩) ?_
  refine Dp (fun _ => q_as (s := .v (.c _)) ⟨rfl, rfl⟩) ?_
  refine Dp (fun _ => q_as (s := .v (.c _)) ⟨rfl, rfl⟩) ?_
  refine dend ?_
  refine awp_seq ?_
  refine awp_seq ?_
  refine rln ?_
  refine Mv ?_
  refine G (q_eqln (y := 0) ?_)
  refine gend ?_
  refine cndY (fun hc1 => ?_) ?_; rotate_left
  · exact rfl
  refine rln ?_
  refine Mv ?_
  refine Mv ?_
  refine G2 (fun _ k_ => q_callv [0] [some (rS (bsum (h ++ (cSl has key n h l).1)) ck has key (cSl has key n h l).2.1)] [] (rmixhash_ h ck key has (cSl has key n h l).2.1 hh hk hkey (cSl has key n h l).1 _ rfl (by omega)) k_ (ha := (cac (et rfl) rfl (cac (et rfl) (sees_slc rfl rfl (cut_h rfl)) ca0))) (e2 := pl1 rfl rS_map pl0) (eL := ml1 rS_map ml0) (eM := ml0)) ?_
  refine gend ?_
  refine awp_seq ?_
  refine rln ?_
  refine Mv ?_
  refine Mv ?_
  refine As ?_
  refine As ?_
  refine gend ?_
  refine awp_ret ?_
  exact fx2 [0, 1] (hm0 := rfl) (hH := pl1 rfl rS_map (pl1 rfl sees_m pl0)) (hn := piB rfl)
/-- (*escutcheonref16.State).Open -/
theorem rsopen_y (h ck key : List UInt8) (has : Bool) (n : UInt64) (hh : h.length = 32) (hk : ck.length = 32) (hkey : key.length = 32) (l : List UInt8) (k : Nat) (hl : l.length = k) (hk9 : k ≤ 9000) (hn : n ≠ 18446744073709551615) (h0 : (cOp has key n h l).2.2 = 0) : Good Try.prog 35 [.c (.ptr 0 0), .c (.ro k (u8s l))] [some (rS h ck has key n)] (.t [.c (.slc 1 0 (cOp has key n h l).1.length 1), .c (cn (cOp has key n h l).2.2)]) [some (rS (sOh has key n h l) ck has key (cOp has key n h l).2.1), some (u8s (cOp has key n h l).1)] := by
  rw [show sOh has key n h l = bsum (h ++ l) from if_pos h0]
  have hL := rS_len (b := has) (n := n) hh hk hkey
  have g1 := ropenS_u _ 64 (rS_P hh hk) rS_Pm has key h l n k hkey hh (by rw [rS_P hh hk]; decide) (by rw [List.drop_zero, List.take_append_of_le_length (by rw [u32l hh]; decide), List.take_of_length_le (by rw [u32l hh]; decide)]) hl (by omega) hn
  refine good_frm 27 Try.func35 rfl rfl rfl rfl rfl rfl ?_
  refine awp_seq ?_
  refine rln ?_
  refine As ?_
  refine G (q_as (s := sc (cn 0)) ?_)
  refine gend ?_
  refine awp_seq ?_
  refine rdln [8] [0, 0, 0, 0, 0, 0, 0, 0, 0, 1, 1, 1, 1, 1] [0, 0, 0, 0, 0, 0, 0, 0, 1, 1, 1, 1, 1, 1] ?_
  refine Dp (fun _ => q_mv (s := .v (.c _)) ⟨rfl, rfl⟩) ?_
  refine Dp (fun _ => q_ncp ⟨rfl, rfl⟩) ?_
  refine Dp (fun _ => q_fap0 ⟨rfl, rfl⟩) ?_
  refine Dp (fun _ => q_mv (s := .v (.c _)) ⟨rfl, rfl⟩) ?_
  refine Dp (fun _ => q_ncp ⟨rfl, rfl⟩) ?_
  refine Dp (fun _ => q_fap0 ⟨rfl, rfl⟩) ?_
  refine DSp 0 rfl (fun _ hv => q_slp_no ⟨rfl, rfl⟩ (hp := hv)) ?_
  refine Dp (fun _ => q_mv (s := .v (.c _)) ⟨rfl, rfl⟩) ?_
  refine De2 (fun _ k_ => q_callv [0] [some (rS h ck has key (cOp has key n h l).2.1)] [some (u8s (cOp has key n h l).1)] g1 k_ (ha := (cac (et rfl) rfl (cac (et rfl) rfl (cac (et rfl) sees_ro ca0)))) (e2 := pl1 rfl rS_map pl0) (eL := ml1 rS_map ml0) (eM := ml1 sees_m ml0)) ?_
  refine Dp (fun _ => q_mv (s := .t _) ⟨rfl, rfl⟩) ?_
  refine Dp (fun _ => q_ext (y := .c _) ⟨rfl, rfl⟩) ?_
  refine Dp (fun _ => q_ext (y := .c _) ⟨rfl, rfl⟩) ?_
  refine Dp (fun _ => q_as (s := .v (.c _)) ⟨rfl, rfl⟩) ?_
  refine Dp (fun _ => q_as (s := .v (.c _)) ⟨rfl, rfl⟩) ?_
  refine dend ?_
  refine awp_seq ?_
  refine awp_seq ?_
  refine rln ?_
  refine Mv ?_
  refine G (q_eqln (y := 0) ?_)
  refine gend ?_
  refine cndY (fun hc1 => ?_) ?_; rotate_left
  · exact h0
  refine rln ?_
  refine Mv ?_
  refine Mv ?_
  refine G2 (fun _ k_ => q_callv [0] [some (rS (bsum (h ++ l)) ck has key (cOp has key n h l).2.1)] [] (rmixhash_ h ck key has (cOp has key n h l).2.1 hh hk hkey l _ hl (by omega)) k_ (ha := (cac (et rfl) rfl (cac (et rfl) sees_ro ca0))) (e2 := pl1 rfl rS_map pl0) (eL := ml1 rS_map ml0) (eM := ml0)) ?_
  refine gend ?_
  refine awp_seq ?_
  refine rln ?_
  refine Mv ?_
  refine Mv ?_
  refine As ?_
  refine As ?_
  refine gend ?_
  refine awp_ret ?_
  exact fx2 [0, 1] (hm0 := rfl) (hH := pl1 rfl rS_map (pl1 rfl sees_m pl0)) (hn := piB rfl)
/-- (*escutcheonref16.State).Open -/
theorem rsopen_n (h ck key : List UInt8) (has : Bool) (n : UInt64) (hh : h.length = 32) (hk : ck.length = 32) (hkey : key.length = 32) (l : List UInt8) (k : Nat) (hl : l.length = k) (hk9 : k ≤ 9000) (hn : n ≠ 18446744073709551615) (h0 : ¬ (cOp has key n h l).2.2 = 0) : Good Try.prog 35 [.c (.ptr 0 0), .c (.ro k (u8s l))] [some (rS h ck has key n)] (.t [.c (.slc 1 0 (cOp has key n h l).1.length 1), .c (cn (cOp has key n h l).2.2)]) [some (rS (sOh has key n h l) ck has key (cOp has key n h l).2.1), some (u8s (cOp has key n h l).1)] := by
  rw [show sOh has key n h l = h from if_neg h0]
  have hL := rS_len (b := has) (n := n) hh hk hkey
  have g1 := ropenS_u _ 64 (rS_P hh hk) rS_Pm has key h l n k hkey hh (by rw [rS_P hh hk]; decide) (by rw [List.drop_zero, List.take_append_of_le_length (by rw [u32l hh]; decide), List.take_of_length_le (by rw [u32l hh]; decide)]) hl (by omega) hn
  refine good_frm 27 Try.func35 rfl rfl rfl rfl rfl rfl ?_
  refine awp_seq ?_
  refine rln ?_
  refine As ?_
  refine G (q_as (s := sc (cn 0)) ?_)
  refine gend ?_
  refine awp_seq ?_
  refine rdln [8] [0, 0, 0, 0, 0, 0, 0, 0, 0, 1, 1, 1, 1, 1] [0, 0, 0, 0, 0, 0, 0, 0, 1, 1, 1, 1, 1, 1] ?_
  refine Dp (fun _ => q_mv (s := .v (.c _)) ⟨rfl, rfl⟩) ?_
  refine Dp (fun _ => q_ncp ⟨rfl, rfl⟩) ?_
  refine Dp (fun _ => q_fap0 ⟨rfl, rfl⟩) ?_
  refine Dp (fun _ => q_mv (s := .v (.c _)) ⟨rfl, rfl⟩) ?_
  refine Dp (fun _ => q_ncp ⟨rfl, rfl⟩) ?_
  refine Dp (fun _ => q_fap0 ⟨rfl, rfl⟩) ?_
  refine DSp 0 rfl (fun _ hv => q_slp_no ⟨rfl, rfl⟩ (hp := hv)) ?_
  refine Dp (fun _ => q_mv (s := .v (.c _)) ⟨rfl, rfl⟩) ?_
  refine De2 (fun _ k_ => q_callv [0] [some (rS h ck has key (cOp has key n h l).2.1)] [some (u8s (cOp has key n h l).1)] g1 k_ (ha := (cac (et rfl) rfl (cac (et rfl) rfl (cac (et rfl) sees_ro ca0)))) (e2 := pl1 rfl rS_map pl0) (eL := ml1 rS_map ml0) (eM := ml1 sees_m ml0)) ?_
  refine Dp (fun _ => q_mv (s := .t _) ⟨rfl, rfl⟩) ?_
  refine Dp (fun _ => q_ext (y := .c _) ⟨rfl, rfl⟩) ?_
  refine Dp (fun _ => q_ext (y := .c _) ⟨rfl, rfl⟩) ?_
  refine Dp (fun _ => q_as (s := .v (.c _)) ⟨rfl, rfl⟩) ?_
  refine Dp (fun _ => q_as (s := .v (.c _)) ⟨rfl, rfl⟩) ?_
  refine dend ?_
  refine awp_seq ?_
  refine awp_seq ?_
  refine rln ?_
  refine Mv ?_
  refine G (q_eqln (y := 0) ?_)
  refine gend ?_
  refine cndN (fun hc1 => ?_) ?_; rotate_left
  · exact h0
  refine awp_skip ?_
  refine awp_seq ?_
  refine rln ?_
  refine Mv ?_
  refine Mv ?_
  refine As ?_
  refine As ?_
  refine gend ?_
  refine awp_ret ?_
  exact fx2 [0, 1] (hm0 := rfl) (hH := pl1 rfl rS_map (pl1 rfl sees_m pl0)) (hn := piB rfl)
theorem rsopen_ (h ck key : List UInt8) (has : Bool) (n : UInt64) (hh : h.length = 32) (hk : ck.length = 32) (hkey : key.length = 32) (l : List UInt8) (k : Nat) (hl : l.length = k) (hk9 : k ≤ 9000) (hn : n ≠ 18446744073709551615) : Good Try.prog 35 [.c (.ptr 0 0), .c (.ro k (u8s l))] [some (rS h ck has key n)] (.t [.c (.slc 1 0 (cOp has key n h l).1.length 1), .c (cn (cOp has key n h l).2.2)]) [some (rS (sOh has key n h l) ck has key (cOp has key n h l).2.1), some (u8s (cOp has key n h l).1)] := by
  by_cases h0 : (cOp has key n h l).2.2 = 0
  · exact rsopen_y h ck key has n hh hk hkey l k hl hk9 hn h0
  · exact rsopen_n h ck key has n hh hk hkey l k hl hk9 hn h0
end Go.Proofs.Ytlnepajgnckolaa

/- What functions of the program do, walked over the abstract machine. -/
namespace Go.Proofs.Ytlnepajgnckolaa
open Go Go.Abs Go.Proofs Go.Proofs.Ytlnepajgnckolaa.Ch Go.Proofs.Ytlnepajgnckolaa.Po Go.Proofs.Ytlnepajgnckolaa.Ae Go.Proofs.Ytlnepajgnckolaa.Bl

set_option maxRecDepth 20000
/-- A step, as the statement's slice holds it. -/
structure B16 where
  kind : Int
  b : List UInt8
abbrev b16 : B16 := ⟨0, []⟩
def bC (x : B16) : List Cell := [ci x.kind, .ro x.b.length (u8s x.b)]
theorem bC_len (x : B16) : (bC x).length = 2 := rfl
theorem bC_cm {f : Nat → Option Nat} {m : Nat → Option (List Cell)} {b : Bool} (x : B16) : (bC x).map (cm ⟨f, m, true, b⟩ 7) = bC x := by
  show [_, Cell.ro _ ((u8s x.b).map _)] = _
  rw [mapc_cm]; rfl
theorem add1_le (n : UInt64) : (n + 1).toNat ≤ n.toNat + 1 := by
  rw [UInt64.toNat_add]; exact Nat.mod_le _ _
theorem cSl_num {has : Bool} {key ad l : List UInt8} {n : UInt64} : (cSl has key n ad l).2.1.toNat ≤ n.toNat + 1 := by
  cases has
  · exact Nat.le_succ _
  · simp only [cSl, cond_true]; split
    · exact Nat.le_succ _
    · exact add1_le n
theorem cOp_num {has : Bool} {key ad l : List UInt8} {n : UInt64} : (cOp has key n ad l).2.1.toNat ≤ n.toNat + 1 := by
  cases has
  · exact Nat.le_succ _
  · simp only [cOp, cond_true]; split
    · exact Nat.le_succ _
    · split
      · exact Nat.le_succ _
      · exact add1_le n
/-- A state's hash at its begin. -/
def bH (s : ByteArray) : List UInt8 := if s.size ≤ 32 then pad32 s else bsum s.data.toList
theorem bH_len (s : ByteArray) : (bH s).length = 32 := by
  unfold bH; split
  · rename_i h; exact pad32_len h
  · exact bsum_len _
theorem begin_u (s : ByteArray) (h9 : s.size ≤ 10000) : Good Try.prog 21 [.c (.str s)] [] (sc (.ptr 1 0)) [some (cC .nilp 0), some (sC (.ptr 0 0) (bH s) (bH s))] := by
  by_cases h : s.size ≤ 32
  · rw [show bH s = pad32 s from if_pos h]; exact begin_s s h
  · rw [show bH s = bsum s.data.toList from if_neg h]; exact begin_l s h h9
theorem rbegin_u (s : ByteArray) (h9 : s.size ≤ 10000) : Good Try.prog 31 [.c (.str s)] [] (sc (.ptr 0 0)) [some (rS (bH s) (bH s) false (List.replicate 32 0) 0)] := by
  by_cases h : s.size ≤ 32
  · rw [show bH s = pad32 s from if_pos h]; exact rbegin_s s h
  · rw [show bH s = bsum s.data.toList from if_neg h]; exact rbegin_l s h h9
theorem rS_le0 {h ck key : List UInt8} {b : Bool} {n : UInt64} (hh : h.length = 32) (hk : ck.length = 32) (hkey : key.length = 32) : 0 + 32 ≤ (rS h ck b key n).length := by rw [rS_len hh hk hkey]; decide
theorem rS_le1 {h ck key : List UInt8} {b : Bool} {n : UInt64} (hh : h.length = 32) (hk : ck.length = 32) (hkey : key.length = 32) : 32 + 32 ≤ (rS h ck b key n).length := by rw [rS_len hh hk hkey]; decide
theorem rS_ne {h ck key : List UInt8} {b : Bool} {n : UInt64} (hh : h.length = 32) : (rS h ck b key n).isEmpty = false := by
  cases h with
  | nil => simp at hh
  | cons x r => rfl
structure SP (n : Nat) where
  i : Nat
  has : Bool
  h : List UInt8
  ck : List UInt8
  key : List UInt8
  num : UInt64
  hi : i ≤ n
  hh : h.length = 32
  hk : ck.length = 32
  hkey : key.length = 32
  hn : num.toNat ≤ i
theorem not_max {n : UInt64} {i : Nat} (h : n.toNat ≤ i) (hi : i ≤ 1000) : n ≠ 18446744073709551615 := fun e => by
  rw [e] at h
  have : (18446744073709551615 : UInt64).toNat = 18446744073709551615 := rfl
  omega
set_option maxHeartbeats 800000 in
/-- escutcheonlaw16.StatePlays -/
theorem splays_ (s : ByteArray) (l : List B16) (n : Nat) (hl : l.length = n) (hl9 : n ≤ 140737488351232) : Good Try.prog 6 [.c (.str s), .c (.ro n (l.flatMap bC))] [] (sc (.bool true)) [] := by
  refine good_frm 238 Try.func6 rfl rfl rfl rfl rfl rfl ?_
  refine awp_seq ?_
  refine rln ?_
  refine As ?_
  refine gend ?_
  refine awp_seq ?_
  refine awp_seq ?_
  refine rln ?_
  refine Mv ?_
  refine G (q_lens ?_)
  refine G (q_gtrn (y := 200) ?_)
  refine Mv ?_
  refine Aspd 33 (fun hb4 => ?_) (fun hb4 => ?_)
  · refine Gn ?_
    refine Gn ?_
    refine Gn ?_
    refine G (q_pkt ?_)
    refine gend ?_
    refine cndT ?_
    refine awp_seq ?_
    refine rln ?_
    refine G2 (fun _ k_ => q_callp known_ k_) ?_
    refine As ?_
    refine gend ?_
    refine awp_ret ?_
    exact fp1
  refine Gg (q_mv (s := .v (.c _)) ?_)
  refine Gg (q_leno ?_)
  refine Gg (q_gtrn (y := 30) ?_)
  refine G (q_pkf ?_)
  refine gend ?_
  refine cnd (fun hc1 => ?_) (fun hc1 => ?_)
  · refine awp_seq ?_
    refine rln ?_
    refine G2 (fun _ k_ => q_callp known_ k_) ?_
    refine As ?_
    refine gend ?_
    refine awp_ret ?_
    exact fp1
  refine awp_skip ?_
  refine awp_seq ?_
  refine rln ?_
  refine Mv ?_
  refine G2 (fun _ k_ => q_callv [] [] [some (cC .nilp 0), some (sC (.ptr 0 0) (bH s) (bH s))] (begin_u s (by omega)) k_ (ha := (cac (et rfl) cm_str ca0)) (e2 := pl0) (eL := ml0) (eM := ml1 rfl (ml1 (sC_map.trans rfl) ml0))) ?_
  refine Mv ?_
  refine G2 (fun _ k_ => q_callv [] [] [some (rS (bH s) (bH s) false (List.replicate 32 0) 0)] (rbegin_u s (by omega)) k_ (ha := (cac (et rfl) cm_str ca0)) (e2 := pl0) (eL := ml0) (eM := ml1 rS_map ml0)) ?_
  refine As ?_
  refine As ?_
  refine gend ?_
  refine awp_seq ?_
  refine awp_seq ?_
  refine rln ?_
  refine G (q_as (s := sc (cn 0)) ?_)
  refine gend ?_
  refine awp_block ?_
  refine awp_loop (fun x : SP n => ⟨frm 238 [(1, sc (.ro n (l.flatMap bC))), (5, sc (.ptr 0 0)), (6, sc (.ptr 3 0)), (7, sc (cn x.i))], [some (sC (.ptr 1 0) x.h x.ck), some (cC (kp x.has 2) x.num), kb x.has x.key, some (rS x.h x.ck x.has x.key x.num)]⟩) (fun x => n - x.i) ⟨0, false, bH s, bH s, List.replicate 32 0, 0, Nat.zero_le _, bH_len s, bH_len s, rfl, Nat.le_refl _⟩ (sle_ren [(1, true), (0, true), (0, false), (2, true)] rfl (fun p h => absurd h (Nat.not_lt_zero _)) ⟨rs_fl (fun y => bC_cm y), rfl, rfl, rfl, trivial⟩ (Eq.symm (a := renL _ _ _) (rlT rfl (sC_map.trans rfl) (rlT rfl rfl (rlF (rlT rfl rS_map rl0)))))) fun x => ?_   -- live: [1, 5, 6, 7]
  obtain ⟨a, ha⟩ : ∃ a, l.getD x.i b16 = a := ⟨_, rfl⟩
  have hxi := x.hi
  have hxh := x.hh
  have hxk := x.hk
  have hnM := not_max x.hn (by omega)
  refine awp_seq ?_
  refine awp_seq ?_
  refine rln ?_
  refine Mv ?_
  refine Mv ?_
  refine G (q_leno ?_)
  refine G (q_lssn ?_)
  refine gend ?_
  refine cnd (fun hc2 => ?_) (fun hc2 => ?_); rotate_left
  · refine awp_exit ?_
    have gsp := split_u x.has x.h x.ck x.hh x.hk x.key x.num x.hkey
    have grs := rsplit_ x.h x.ck x.key x.has x.num x.hh x.hk x.hkey
    obtain ⟨X, hX⟩ : ∃ z, h3x x.ck [] = z := ⟨_, rfl⟩
    have hXl : X.length = 32 := by rw [← hX]; exact h3x_len _ _
    obtain ⟨Y, hY⟩ : ∃ z, h3y x.ck [] = z := ⟨_, rfl⟩
    have hYl : Y.length = 32 := by rw [← hY]; exact h3y_len _ _
    rw [hX, hY] at gsp grs
    have gX := cseal_ok X [] [120] 0 0 1 hXl rfl (by decide) rfl (by decide) (by decide)
    have rX := rseal_ok X [] [120] 0 0 1 hXl rfl (by decide) rfl (by decide) (by decide)
    have hSXl : (aseal X (anonce 0) [] [120]).length = 1 + 16 := aseal_len _ _ _ _
    obtain ⟨SX, hSX⟩ : ∃ z, aseal X (anonce 0) [] [120] = z := ⟨_, rfl⟩
    rw [hSX] at gX rX hSXl
    have gY := cseal_ok Y [] [120] 0 0 1 hYl rfl (by decide) rfl (by decide) (by decide)
    have rY := rseal_ok Y [] [120] 0 0 1 hYl rfl (by decide) rfl (by decide) (by decide)
    have hSYl : (aseal Y (anonce 0) [] [120]).length = 1 + 16 := aseal_len _ _ _ _
    obtain ⟨SY, hSY⟩ : ∃ z, aseal Y (anonce 0) [] [120] = z := ⟨_, rfl⟩
    rw [hSY] at gY rY hSYl
    refine awp_seq ?_
    refine rln ?_
    refine Mv ?_
    refine G2 (fun _ k_ => q_callv [0, 1, 2] [some (sC (.ptr 1 0) x.h x.ck), some (cC (kp x.has 2) x.num), kb x.has x.key] [some (u8s X), some (cC (.ptr 3 0) 0), some (u8s Y), some (cC (.ptr 5 0) 0)] gsp k_ (ha := (cac (et rfl) rfl ca0)) (e2 := pl1 rfl (sC_map.trans rfl) (pl1 rfl (kC_map rfl) (plb rfl kb_map pl0))) (eL := ml1 (sC_map.trans rfl) (ml1 (kC_map rfl) (mlb kb_map ml0))) (eM := ml1 sees_m (ml1 rfl (ml1 sees_m (ml1 rfl ml0))))) ?_
    refine G (q_mv (s := .t _) ?_)
    refine G (q_ext (y := .c _) ?_)
    refine G (q_ext (y := .c _) ?_)
    refine As ?_
    refine As ?_
    refine gend ?_
    refine awp_seq ?_
    refine rln ?_
    refine Mv ?_
    refine G2 (fun _ k_ => q_callp grs k_ (ha := (cac (et rfl) (sees_ptr rfl rfl (rS_ne x.hh) rS_map) ca0))) ?_
    refine G (q_mv (s := .t _) ?_)
    refine G (q_ext (y := .a _) ?_)
    refine G (q_ext (y := .a _) ?_)
    refine G2 (fun _ k_ => q_al k_) ?_
    refine G2 (fun _ k_ => q_al k_) ?_
    refine G20 (fun _ k_ => q_stw k_) ?_
    refine G20 (fun _ k_ => q_stw k_) ?_
    refine gend ?_
    refine awp_seq ?_
    refine rln ?_
    refine Mv ?_
    refine G2 (fun _ k_ => q_bsl (fkc (c := c8 120) rfl rfl rfl (Nat.le_of_ble_eq_true rfl) (fk0 k_))) ?_
    refine G (q_css ?_)
    refine G2 (fun _ k_ => q_callv [5, 4] [some (cC (.ptr 1 0) (0 + 1)), some (u8s X)] [some (u8s SX)] gX k_ (ha := (cac (et rfl) rfl (cac rfl sees_nil8 (cac (et rfl) (sees_slc rfl rfl rfl) ca0)))) (e2 := pl1 rfl rfl (pl1 rfl sees_m pl0)) (eL := ml1 rfl (ml1 sees_m ml0)) (eM := ml1 sees_m ml0)) ?_
    refine G (q_mv (s := .t _) ?_)
    refine G (q_ext (y := .c _) ?_)
    refine G (q_ext (y := .c _) ?_)
    refine As ?_
    refine As ?_
    refine gend ?_
    refine awp_seq ?_
    refine rln ?_
    refine Mv ?_
    refine G2 (fun _ k_ => q_bsl (fkc (c := c8 120) rfl rfl rfl (Nat.le_of_ble_eq_true rfl) (fk0 k_))) ?_
    refine G (q_css ?_)
    refine G2 (fun _ k_ => q_callv [7, 6] [some (cC (.ptr 1 0) (0 + 1)), some (u8s Y)] [some (u8s SY)] gY k_ (ha := (cac (et rfl) rfl (cac rfl sees_nil8 (cac (et rfl) (sees_slc rfl rfl rfl) ca0)))) (e2 := pl1 rfl rfl (pl1 rfl sees_m pl0)) (eL := ml1 rfl (ml1 sees_m ml0)) (eM := ml1 sees_m ml0)) ?_
    refine G (q_mv (s := .t _) ?_)
    refine G (q_ext (y := .c _) ?_)
    refine G (q_ext (y := .c _) ?_)
    refine As ?_
    refine As ?_
    refine gend ?_
    refine awp_seq ?_
    refine rdm [2, 5] [⟨[0, 1, 2, 3, 4, 5, 6, 7], [2, 5], [2, 5], [0, 0, 0, 0, 0, 1, 1, 2], [0, 0, 1, 1, 1, 2, 2, 2]⟩, ⟨[0, 1, 3, 4, 5, 2, 6, 7], [5, 2], [4, 5], [0, 0, 0, 0, 0, 1, 2, 2], [1, 1, 0, 0, 1, 2, 2, 2]⟩] ⟨?_, ?_, trivial⟩   -- region 40
    · refine DLw ?_
      refine Dp (fun _ => q_bls (fkc rfl rfl rfl (Nat.le_of_ble_eq_true rfl) (fka rfl (et rfl) ((mapc_length ..).trans hXl) (Nat.le_of_ble_eq_true rfl) (fk0 ⟨rfl, rfl⟩)))) ?_
      refine De2 (fun _ k_ => q_boxa k_) ?_
      refine DLw ?_
      refine Dp (fun _ => q_bls (fkc rfl rfl rfl (Nat.le_of_ble_eq_true rfl) (fka rfl (et rfl) ((mapc_length ..).trans hYl) (Nat.le_of_ble_eq_true rfl) (fk0 ⟨rfl, rfl⟩)))) ?_
      refine De2 (fun _ k_ => q_boxa k_) ?_
      refine Dp (fun _ => q_as (s := .v (.c _)) ⟨rfl, rfl⟩) ?_
      refine Dp (fun _ => q_as (s := .v (.c _)) ⟨rfl, rfl⟩) ?_
      refine dend ?_
      refine awp_seq ?_
      refine rln ?_
      refine Mv ?_
      refine G2 (fun _ k_ => q_bsl (fkc (c := c8 120) rfl rfl rfl (Nat.le_of_ble_eq_true rfl) (fk0 k_))) ?_
      refine G (q_css ?_)
      refine G2 (fun _ k_ => q_callv [14] [some (rC true X (0 + 1))] [some (u8s SX)] rX k_ (ha := (cac (et rfl) rfl (cac rfl sees_nil8 (cac (et rfl) (sees_slc rfl rfl rfl) ca0)))) (e2 := pl1 rfl ((congrArg (List.map _) (rC_new hXl)).trans rC_map) pl0) (eL := ml1 rC_map ml0) (eM := ml1 sees_m ml0)) ?_
      refine G (q_mv (s := .t _) ?_)
      refine G (q_ext (y := .c _) ?_)
      refine G (q_ext (y := .c _) ?_)
      refine As ?_
      refine As ?_
      refine gend ?_
      refine awp_seq ?_
      refine rln ?_
      refine Mv ?_
      refine G2 (fun _ k_ => q_bsl (fkc (c := c8 120) rfl rfl rfl (Nat.le_of_ble_eq_true rfl) (fk0 k_))) ?_
      refine G (q_css ?_)
      refine G2 (fun _ k_ => q_callv [15] [some (rC true Y (0 + 1))] [some (u8s SY)] rY k_ (ha := (cac (et rfl) rfl (cac rfl sees_nil8 (cac (et rfl) (sees_slc rfl rfl rfl) ca0)))) (e2 := pl1 rfl ((congrArg (List.map _) (rC_new hYl)).trans rC_map) pl0) (eL := ml1 rC_map ml0) (eM := ml1 sees_m ml0)) ?_
      refine G (q_mv (s := .t _) ?_)
      refine G (q_ext (y := .c _) ?_)
      refine G (q_ext (y := .c _) ?_)
      refine As ?_
      refine As ?_
      refine gend ?_
      refine awp_seq ?_
      refine rln ?_
      refine Mv ?_
      refine G (q_eqln (y := 0) ?_)
      refine Mv ?_
      refine Aknd 217 (fun hb3 => ?_) ?_; rotate_left
      · exact rfl
      refine Gg (q_mv (s := .v (.c _)) ?_)
      refine Gg (q_eqln (y := 0) ?_)
      refine G (q_pkt ?_)
      refine Mv ?_
      refine Aknd 221 (fun hb7 => ?_) ?_; rotate_left
      · exact rfl
      refine Gg (q_mv (s := .v (.c _)) ?_)
      refine Gg (q_csl ?_)
      refine Gg (q_mv (s := .v (.c _)) ?_)
      refine Gg (q_csl ?_)
      refine Gg (q_eqls ?_)
      refine G (q_pkt ?_)
      refine Mv ?_
      refine Aknd 228 (fun hb14 => ?_) ?_; rotate_left
      · simp
      refine Gg (q_mv (s := .v (.c _)) ?_)
      refine Gg (q_csl ?_)
      refine Gg (q_mv (s := .v (.c _)) ?_)
      refine Gg (q_csl ?_)
      refine Gg (q_eqls ?_)
      refine G (q_pkt ?_)
      refine Mv ?_
      refine Aknd 235 (fun hb21 => ?_) ?_; rotate_left
      · simp
      refine G2g (fun _ k_ => q_callp known_ k_) ?_
      refine G (q_pkt ?_)
      refine As ?_
      refine gend ?_
      refine awp_ret ?_
      exact fp1
    refine DLw ?_
    refine Dp (fun _ => q_bls (fkc rfl rfl rfl (Nat.le_of_ble_eq_true rfl) (fka rfl (et rfl) ((mapc_length ..).trans hXl) (Nat.le_of_ble_eq_true rfl) (fk0 ⟨rfl, rfl⟩)))) ?_
    refine DLw ?_
    refine Dp (fun _ => q_bls (fkc rfl rfl rfl (Nat.le_of_ble_eq_true rfl) (fka rfl (et rfl) ((mapc_length ..).trans hYl) (Nat.le_of_ble_eq_true rfl) (fk0 ⟨rfl, rfl⟩)))) ?_
    refine De2 (fun _ k_ => q_boxa k_) ?_
    refine De2 (fun _ k_ => q_boxa k_) ?_
    refine Dp (fun _ => q_as (s := .v (.c _)) ⟨rfl, rfl⟩) ?_
    refine Dp (fun _ => q_as (s := .v (.c _)) ⟨rfl, rfl⟩) ?_
    refine dend ?_
    refine awp_seq ?_
    refine rln ?_
    refine Mv ?_
    refine G2 (fun _ k_ => q_bsl (fkc (c := c8 120) rfl rfl rfl (Nat.le_of_ble_eq_true rfl) (fk0 k_))) ?_
    refine G (q_css ?_)
    refine G2 (fun _ k_ => q_callv [15] [some (rC true X (0 + 1))] [some (u8s SX)] rX k_ (ha := (cac (et rfl) rfl (cac rfl sees_nil8 (cac (et rfl) (sees_slc rfl rfl rfl) ca0)))) (e2 := pl1 rfl ((congrArg (List.map _) (rC_new hXl)).trans rC_map) pl0) (eL := ml1 rC_map ml0) (eM := ml1 sees_m ml0)) ?_
    refine G (q_mv (s := .t _) ?_)
    refine G (q_ext (y := .c _) ?_)
    refine G (q_ext (y := .c _) ?_)
    refine As ?_
    refine As ?_
    refine gend ?_
    refine awp_seq ?_
    refine rln ?_
    refine Mv ?_
    refine G2 (fun _ k_ => q_bsl (fkc (c := c8 120) rfl rfl rfl (Nat.le_of_ble_eq_true rfl) (fk0 k_))) ?_
    refine G (q_css ?_)
    refine G2 (fun _ k_ => q_callv [14] [some (rC true Y (0 + 1))] [some (u8s SY)] rY k_ (ha := (cac (et rfl) rfl (cac rfl sees_nil8 (cac (et rfl) (sees_slc rfl rfl rfl) ca0)))) (e2 := pl1 rfl ((congrArg (List.map _) (rC_new hYl)).trans rC_map) pl0) (eL := ml1 rC_map ml0) (eM := ml1 sees_m ml0)) ?_
    refine G (q_mv (s := .t _) ?_)
    refine G (q_ext (y := .c _) ?_)
    refine G (q_ext (y := .c _) ?_)
    refine As ?_
    refine As ?_
    refine gend ?_
    refine awp_seq ?_
    refine rln ?_
    refine Mv ?_
    refine G (q_eqln (y := 0) ?_)
    refine Mv ?_
    refine Aknd 217 (fun hb3 => ?_) ?_; rotate_left
    · exact rfl
    refine Gg (q_mv (s := .v (.c _)) ?_)
    refine Gg (q_eqln (y := 0) ?_)
    refine G (q_pkt ?_)
    refine Mv ?_
    refine Aknd 221 (fun hb7 => ?_) ?_; rotate_left
    · exact rfl
    refine Gg (q_mv (s := .v (.c _)) ?_)
    refine Gg (q_csl ?_)
    refine Gg (q_mv (s := .v (.c _)) ?_)
    refine Gg (q_csl ?_)
    refine Gg (q_eqls ?_)
    refine G (q_pkt ?_)
    refine Mv ?_
    refine Aknd 228 (fun hb14 => ?_) ?_; rotate_left
    · simp
    refine Gg (q_mv (s := .v (.c _)) ?_)
    refine Gg (q_csl ?_)
    refine Gg (q_mv (s := .v (.c _)) ?_)
    refine Gg (q_csl ?_)
    refine Gg (q_eqls ?_)
    refine G (q_pkt ?_)
    refine Mv ?_
    refine Aknd 235 (fun hb21 => ?_) ?_; rotate_left
    · simp
    refine G2g (fun _ k_ => q_callp known_ k_) ?_
    refine G (q_pkt ?_)
    refine As ?_
    refine gend ?_
    refine awp_ret ?_
    exact fp1
  refine awp_skip ?_
  refine awp_seq ?_
  refine awp_block ?_
  refine awp_seq ?_
  refine rln ?_
  refine Mv ?_
  refine Mv ?_
  refine G (q_ixe (l := l) ha bC_len ?_)
  refine G (q_far ?_)
  refine G (q_ldr ?_)
  refine As ?_
  refine gend ?_
  refine awp_seq ?_
  refine awp_seq ?_
  refine rln ?_
  refine Mv ?_
  refine G (q_leno ?_)
  refine G (q_gtrn (y := 200) ?_)
  refine gend ?_
  refine cnd (fun hc3 => ?_) (fun hc3 => ?_)
  · refine awp_seq ?_
    refine rln ?_
    refine G2 (fun _ k_ => q_callp known_ k_) ?_
    refine As ?_
    refine gend ?_
    refine awp_ret ?_
    exact fp1
  refine awp_skip ?_
  refine awp_seq ?_
  refine rln ?_
  refine As ?_
  refine As ?_
  refine gend ?_
  refine awp_seq ?_
  refine rln ?_
  refine G (q_as (s := sc (cn 0)) ?_)
  refine G (q_as (s := sc (cn 0)) ?_)
  refine gend ?_
  refine awp_seq ?_
  refine awp_seq ?_
  refine rln ?_
  refine Mv ?_
  refine Mv ?_
  refine G (q_ixe (l := l) ha bC_len ?_)
  refine G (q_far ?_)
  refine G (q_ldr ?_)
  refine gend ?_
  refine awp_block ?_
  refine awp_seq ?_
  refine rln ?_
  refine G (q_eqli (y := 1) ?_)
  refine As ?_
  refine gend ?_
  refine cnd (fun hc4 => ?_) (fun hc4 => ?_)
  · have gm := smixhash_u x.has x.h x.ck x.hh x.hk x.key x.num x.hkey a.b _ rfl (by omega)
    have gr := rmixhash_ x.h x.ck x.key x.has x.num x.hh x.hk x.hkey a.b _ rfl (by omega)
    obtain ⟨B, hB⟩ : ∃ z, bsum (x.h ++ a.b) = z := ⟨_, rfl⟩
    have hBl : B.length = 32 := by rw [← hB]; exact bsum_len _
    rw [hB] at gm gr
    refine awp_seq ?_
    refine rln ?_
    refine Mv ?_
    refine Mv ?_
    refine G2 (fun _ k_ => q_callv [0, 1, 2] [some (sC (.ptr 1 0) B x.ck), some (cC (kp x.has 2) x.num), kb x.has x.key] [] gm k_ (ha := (cac (et rfl) rfl (cac (et rfl) sees_ro ca0))) (e2 := pl1 rfl (sC_map.trans rfl) (pl1 rfl (kC_map rfl) (plb rfl kb_map pl0))) (eL := ml1 (sC_map.trans rfl) (ml1 (kC_map rfl) (mlb kb_map ml0))) (eM := ml0)) ?_
    refine gend ?_
    refine rln ?_
    refine Mv ?_
    refine Mv ?_
    refine G2 (fun _ k_ => q_callv [3] [some (rS B x.ck x.has x.key x.num)] [] gr k_ (ha := (cac (et rfl) rfl (cac (et rfl) sees_ro ca0))) (e2 := pl1 rfl rS_map pl0) (eL := ml1 rS_map ml0) (eM := ml0)) ?_
    refine gend ?_
    refine awp_seq ?_
    refine rdln [12, 21] [0, 0, 0, 0, 0, 0, 0, 0, 0, 0, 0, 0, 0, 0, 0, 0, 0, 1, 1, 1, 1, 1, 1, 1, 1, 1, 2, 2] [0, 0, 0, 0, 0, 0, 0, 0, 0, 0, 0, 0, 1, 1, 1, 1, 1, 1, 1, 1, 1, 2, 2, 2, 2, 2, 2, 2] ?_
    refine Dp (fun _ => q_mv (s := .v (.c _)) ⟨rfl, rfl⟩) ?_
    refine Dp (fun _ => q_mv (s := .v (.c _)) ⟨rfl, rfl⟩) ?_
    refine Dp (fun _ => q_neqn ⟨rfl, rfl⟩) ?_
    refine Dp (fun _ => q_mv (s := .v (.c _)) ⟨rfl, rfl⟩) ?_
    refine Dkfd 146 (fun hb4 => ?_) ?_; rotate_left
    · exact fun h => h rfl
    refine Dpg (fun _ => q_mv (s := .v (.c _)) ⟨rfl, rfl⟩) ?_
    refine Dpg (fun _ => q_csn ⟨rfl, rfl⟩) ?_
    refine Dpg (fun _ => q_mv (s := .v (.c _)) ⟨rfl, rfl⟩) ?_
    refine Dpg (fun _ => q_csn ⟨rfl, rfl⟩) ?_
    refine Dpg (fun _ => q_neqs ⟨rfl, rfl⟩) ?_
    refine Dp (fun _ => q_pkf ⟨rfl, rfl⟩) ?_
    refine Dp (fun _ => q_mv (s := .v (.c _)) ⟨rfl, rfl⟩) ?_
    refine Dkf 153 (fun hb11 => ?_) ?_; rotate_left
    · simp
    refine Dpg (fun _ => q_mv (s := .v (.c _)) ⟨rfl, rfl⟩) ?_
    refine De2g (fun _ k_ => q_callp (hash_u x.has B x.ck hBl x.hk x.key x.num x.hkey) k_ (ha := (cac (et rfl) (sees_su rfl rfl rfl x.hkey rfl rfl rfl) ca0))) ?_
    refine Dpg (fun _ => q_mv (s := .v (.c _)) ⟨rfl, rfl⟩) ?_
    refine Dpg (fun _ => q_ncp ⟨rfl, rfl⟩) ?_
    refine Dpg (fun _ => q_fap0 ⟨rfl, rfl⟩) ?_
    refine DLag  ?_ (hc := by exact l3_0 (u32l hBl)) (hl := by exact rS_le0 hBl x.hk x.hkey)
    refine Dpg (fun _ => q_nea8 ⟨rfl, rfl⟩) ?_
    refine Dp (fun _ => q_pkf ⟨rfl, rfl⟩) ?_
    refine Dp (fun _ => q_mv (s := .v (.c _)) ⟨rfl, rfl⟩) ?_
    refine Dkf 162 (fun hb20 => ?_) ?_; rotate_left
    · simp
    refine Dpg (fun _ => q_mv (s := .v (.c _)) ⟨rfl, rfl⟩) ?_
    refine De2g (fun _ k_ => q_callp (chain_u x.has B x.ck hBl x.hk x.key x.num x.hkey) k_ (ha := (cac (et rfl) (sees_su rfl rfl rfl x.hkey rfl rfl rfl) ca0))) ?_
    refine Dpg (fun _ => q_mv (s := .v (.c _)) ⟨rfl, rfl⟩) ?_
    refine Dpg (fun _ => q_ncp ⟨rfl, rfl⟩) ?_
    refine Dpg (fun _ => q_fap0 ⟨rfl, rfl⟩) ?_
    refine DLag  ?_ (hc := by exact l3_1 (u32l hBl) (u32l x.hk)) (hl := by exact rS_le1 hBl x.hk x.hkey)
    refine Dpg (fun _ => q_nea8 ⟨rfl, rfl⟩) ?_
    refine Dp (fun _ => q_pkf ⟨rfl, rfl⟩) ?_
    refine dend ?_
    refine cndnN (fun hc5 => ?_) ?_; rotate_left
    · simp
    refine awp_skip ?_
    refine rln ?_
    refine Mv ?_
    refine G (q_addn (y := 1) ?_)
    refine As ?_
    refine gend ?_
    exact ⟨⟨x.i + 1, x.has, B, x.ck, x.key, x.num, by omega, hBl, x.hk, x.hkey, Nat.le_trans x.hn (Nat.le_succ _)⟩, by show n - (x.i + 1) < n - x.i; omega, sle_sub ⟨rfl, rfl, rfl, rfl, trivial⟩ rfl⟩   -- endloop 1
  refine awp_seq ?_
  refine rln ?_
  refine G (q_eqli (y := 2) ?_)
  refine As ?_
  refine gend ?_
  refine cnd (fun hc6 => ?_) (fun hc6 => ?_)
  · have gm := smixkey_u x.has x.h x.ck x.hh x.hk x.key x.num x.hkey a.b _ rfl (by omega)
    have gr := rmixkey_ x.h x.ck x.key x.has x.num x.hh x.hk x.hkey a.b _ rfl (by omega)
    obtain ⟨X, hX⟩ : ∃ z, h3x x.ck a.b = z := ⟨_, rfl⟩
    have hXl : X.length = 32 := by rw [← hX]; exact h3x_len _ _
    obtain ⟨Y, hY⟩ : ∃ z, h3y x.ck a.b = z := ⟨_, rfl⟩
    have hYl : Y.length = 32 := by rw [← hY]; exact h3y_len _ _
    rw [hX, hY] at gm gr
    refine awp_seq ?_
    refine rln ?_
    refine Mv ?_
    refine Mv ?_
    refine G2 (fun _ k_ => q_callv [0, 1, 2] [some (sC (.ptr 3 0) x.h X), none, none] [some (cC (kp true 4) 0), kb true Y] gm k_ (ha := (cac (et rfl) rfl (cac (et rfl) sees_ro ca0))) (e2 := pl1 rfl (sC_map.trans rfl) (pl1 rfl (kC_map rfl) (plb rfl kb_map pl0))) (eL := ml1 (sC_map.trans rfl) (mln (mln ml0))) (eM := ml1 (kC_map (q := 5) rfl) (mlb kb_map ml0))) ?_
    refine gend ?_
    refine rln ?_
    refine Mv ?_
    refine Mv ?_
    refine G2 (fun _ k_ => q_callv [3] [some (rS x.h X true Y 0)] [] gr k_ (ha := (cac (et rfl) rfl (cac (et rfl) sees_ro ca0))) (e2 := pl1 rfl rS_map pl0) (eL := ml1 rS_map ml0) (eM := ml0)) ?_
    refine gend ?_
    refine awp_seq ?_
    refine rdln [12, 21] [0, 0, 0, 0, 0, 0, 0, 0, 0, 0, 0, 0, 0, 0, 0, 0, 0, 1, 1, 1, 1, 1, 1, 1, 1, 1, 2, 2] [0, 0, 0, 0, 0, 0, 0, 0, 0, 0, 0, 0, 1, 1, 1, 1, 1, 1, 1, 1, 1, 2, 2, 2, 2, 2, 2, 2] ?_
    refine Dp (fun _ => q_mv (s := .v (.c _)) ⟨rfl, rfl⟩) ?_
    refine Dp (fun _ => q_mv (s := .v (.c _)) ⟨rfl, rfl⟩) ?_
    refine Dp (fun _ => q_neqn ⟨rfl, rfl⟩) ?_
    refine Dp (fun _ => q_mv (s := .v (.c _)) ⟨rfl, rfl⟩) ?_
    refine Dkfd 146 (fun hb4 => ?_) ?_; rotate_left
    · exact fun h => h rfl
    refine Dpg (fun _ => q_mv (s := .v (.c _)) ⟨rfl, rfl⟩) ?_
    refine Dpg (fun _ => q_csn ⟨rfl, rfl⟩) ?_
    refine Dpg (fun _ => q_mv (s := .v (.c _)) ⟨rfl, rfl⟩) ?_
    refine Dpg (fun _ => q_csn ⟨rfl, rfl⟩) ?_
    refine Dpg (fun _ => q_neqs ⟨rfl, rfl⟩) ?_
    refine Dp (fun _ => q_pkf ⟨rfl, rfl⟩) ?_
    refine Dp (fun _ => q_mv (s := .v (.c _)) ⟨rfl, rfl⟩) ?_
    refine Dkf 153 (fun hb11 => ?_) ?_; rotate_left
    · simp
    refine Dpg (fun _ => q_mv (s := .v (.c _)) ⟨rfl, rfl⟩) ?_
    refine De2g (fun _ k_ => q_callp (hash_u true x.h X x.hh hXl Y 0 hYl) k_ (ha := (cac (et rfl) (sees_su rfl rfl rfl hYl rfl rfl rfl) ca0))) ?_
    refine Dpg (fun _ => q_mv (s := .v (.c _)) ⟨rfl, rfl⟩) ?_
    refine Dpg (fun _ => q_ncp ⟨rfl, rfl⟩) ?_
    refine Dpg (fun _ => q_fap0 ⟨rfl, rfl⟩) ?_
    refine DLag  ?_ (hc := by exact l3_0 (u32l x.hh)) (hl := by exact rS_le0 x.hh hXl hYl)
    refine Dpg (fun _ => q_nea8 ⟨rfl, rfl⟩) ?_
    refine Dp (fun _ => q_pkf ⟨rfl, rfl⟩) ?_
    refine Dp (fun _ => q_mv (s := .v (.c _)) ⟨rfl, rfl⟩) ?_
    refine Dkf 162 (fun hb20 => ?_) ?_; rotate_left
    · simp
    refine Dpg (fun _ => q_mv (s := .v (.c _)) ⟨rfl, rfl⟩) ?_
    refine De2g (fun _ k_ => q_callp (chain_u true x.h X x.hh hXl Y 0 hYl) k_ (ha := (cac (et rfl) (sees_su rfl rfl rfl hYl rfl rfl rfl) ca0))) ?_
    refine Dpg (fun _ => q_mv (s := .v (.c _)) ⟨rfl, rfl⟩) ?_
    refine Dpg (fun _ => q_ncp ⟨rfl, rfl⟩) ?_
    refine Dpg (fun _ => q_fap0 ⟨rfl, rfl⟩) ?_
    refine DLag  ?_ (hc := by exact l3_1 (u32l x.hh) (u32l hXl)) (hl := by exact rS_le1 x.hh hXl hYl)
    refine Dpg (fun _ => q_nea8 ⟨rfl, rfl⟩) ?_
    refine Dp (fun _ => q_pkf ⟨rfl, rfl⟩) ?_
    refine dend ?_
    refine cndnN (fun hc7 => ?_) ?_; rotate_left
    · simp
    refine awp_skip ?_
    refine rln ?_
    refine Mv ?_
    refine G (q_addn (y := 1) ?_)
    refine As ?_
    refine gend ?_
    exact ⟨⟨x.i + 1, true, x.h, X, Y, 0, by omega, x.hh, hXl, hYl, Nat.zero_le _⟩, by show n - (x.i + 1) < n - x.i; omega, sle_ren [(0, true), (4, true), (5, true), (3, true)] rfl (fun p h => absurd h (Nat.not_lt_zero _)) ⟨rs_fl (fun y => bC_cm y), rfl, rfl, rfl, trivial⟩ (Eq.symm (a := renL _ _ _) (rlT rfl (sC_map.trans rfl) (rlT rfl (kC_map rfl) (rlB rfl kb_map (rlT rfl rS_map rl0)))))⟩   -- endloop 1
  refine awp_seq ?_
  refine rln ?_
  refine G (q_eqli (y := 3) ?_)
  refine As ?_
  refine gend ?_
  refine cnd (fun hc8 => ?_) (fun hc8 => ?_)
  · have gm := sseal_u x.has x.h x.ck x.hh x.hk x.key x.num x.hkey a.b _ rfl (by omega) hnM
    have gr := rsseal_ x.h x.ck x.key x.has x.num x.hh x.hk x.hkey a.b _ rfl (by omega) hnM
    have hSn := cSl_num (has := x.has) (key := x.key) (ad := x.h) (l := a.b) (n := x.num)
    obtain ⟨S, hS⟩ : ∃ z, cSl x.has x.key x.num x.h a.b = z := ⟨_, rfl⟩
    rw [hS] at gm gr hSn
    obtain ⟨B, hB⟩ : ∃ z, bsum (x.h ++ S.1) = z := ⟨_, rfl⟩
    have hBl : B.length = 32 := by rw [← hB]; exact bsum_len _
    rw [hB] at gm gr
    refine awp_seq ?_
    refine rln ?_
    refine Mv ?_
    refine Mv ?_
    refine G2 (fun _ k_ => q_callv [0, 1, 2] [some (sC (.ptr 1 0) B x.ck), some (cC (kp x.has 2) S.2.1), kb x.has x.key] [some (u8s S.1)] gm k_ (ha := (cac (et rfl) rfl (cac (et rfl) sees_ro ca0))) (e2 := pl1 rfl (sC_map.trans rfl) (pl1 rfl (kC_map rfl) (plb rfl kb_map pl0))) (eL := ml1 (sC_map.trans rfl) (ml1 (kC_map rfl) (mlb kb_map ml0))) (eM := ml1 sees_m ml0)) ?_
    refine G (q_mv (s := .t _) ?_)
    refine G (q_ext (y := .c _) ?_)
    refine G (q_ext (y := .c _) ?_)
    refine As ?_
    refine As ?_
    refine gend ?_
    refine rln ?_
    refine Mv ?_
    refine Mv ?_
    refine G2 (fun _ k_ => q_callv [3] [some (rS B x.ck x.has x.key S.2.1)] [some (u8s S.1)] gr k_ (ha := (cac (et rfl) rfl (cac (et rfl) sees_ro ca0))) (e2 := pl1 rfl rS_map pl0) (eL := ml1 rS_map ml0) (eM := ml1 sees_m ml0)) ?_
    refine G (q_mv (s := .t _) ?_)
    refine G (q_ext (y := .c _) ?_)
    refine G (q_ext (y := .c _) ?_)
    refine As ?_
    refine As ?_
    refine gend ?_
    refine awp_seq ?_
    refine rdln [12, 21] [0, 0, 0, 0, 0, 0, 0, 0, 0, 0, 0, 0, 0, 0, 0, 0, 0, 1, 1, 1, 1, 1, 1, 1, 1, 1, 2, 2] [0, 0, 0, 0, 0, 0, 0, 0, 0, 0, 0, 0, 1, 1, 1, 1, 1, 1, 1, 1, 1, 2, 2, 2, 2, 2, 2, 2] ?_
    refine Dp (fun _ => q_mv (s := .v (.c _)) ⟨rfl, rfl⟩) ?_
    refine Dp (fun _ => q_mv (s := .v (.c _)) ⟨rfl, rfl⟩) ?_
    refine Dp (fun _ => q_neqn ⟨rfl, rfl⟩) ?_
    refine Dp (fun _ => q_mv (s := .v (.c _)) ⟨rfl, rfl⟩) ?_
    refine Dkfd 146 (fun hb4 => ?_) ?_; rotate_left
    · exact fun h => h rfl
    refine Dpg (fun _ => q_mv (s := .v (.c _)) ⟨rfl, rfl⟩) ?_
    refine DCsg ?_
    refine Dpg (fun _ => q_mv (s := .v (.c _)) ⟨rfl, rfl⟩) ?_
    refine DCsg ?_
    refine Dpg (fun _ => q_neqs ⟨rfl, rfl⟩) ?_
    refine Dp (fun _ => q_pkf ⟨rfl, rfl⟩) ?_
    refine Dp (fun _ => q_mv (s := .v (.c _)) ⟨rfl, rfl⟩) ?_
    refine Dkf 153 (fun hb11 => ?_) ?_; rotate_left
    · simp
    refine Dpg (fun _ => q_mv (s := .v (.c _)) ⟨rfl, rfl⟩) ?_
    refine De2g (fun _ k_ => q_callp (hash_u x.has B x.ck hBl x.hk x.key S.2.1 x.hkey) k_ (ha := (cac (et rfl) (sees_su rfl rfl rfl x.hkey rfl rfl rfl) ca0))) ?_
    refine Dpg (fun _ => q_mv (s := .v (.c _)) ⟨rfl, rfl⟩) ?_
    refine Dpg (fun _ => q_ncp ⟨rfl, rfl⟩) ?_
    refine Dpg (fun _ => q_fap0 ⟨rfl, rfl⟩) ?_
    refine DLag  ?_ (hc := by exact l3_0 (u32l hBl)) (hl := by exact rS_le0 hBl x.hk x.hkey)
    refine Dpg (fun _ => q_nea8 ⟨rfl, rfl⟩) ?_
    refine Dp (fun _ => q_pkf ⟨rfl, rfl⟩) ?_
    refine Dp (fun _ => q_mv (s := .v (.c _)) ⟨rfl, rfl⟩) ?_
    refine Dkf 162 (fun hb20 => ?_) ?_; rotate_left
    · simp
    refine Dpg (fun _ => q_mv (s := .v (.c _)) ⟨rfl, rfl⟩) ?_
    refine De2g (fun _ k_ => q_callp (chain_u x.has B x.ck hBl x.hk x.key S.2.1 x.hkey) k_ (ha := (cac (et rfl) (sees_su rfl rfl rfl x.hkey rfl rfl rfl) ca0))) ?_
    refine Dpg (fun _ => q_mv (s := .v (.c _)) ⟨rfl, rfl⟩) ?_
    refine Dpg (fun _ => q_ncp ⟨rfl, rfl⟩) ?_
    refine Dpg (fun _ => q_fap0 ⟨rfl, rfl⟩) ?_
    refine DLag  ?_ (hc := by exact l3_1 (u32l hBl) (u32l x.hk)) (hl := by exact rS_le1 hBl x.hk x.hkey)
    refine Dpg (fun _ => q_nea8 ⟨rfl, rfl⟩) ?_
    refine Dp (fun _ => q_pkf ⟨rfl, rfl⟩) ?_
    refine dend ?_
    refine cndnN (fun hc9 => ?_) ?_; rotate_left
    · simp
    refine awp_skip ?_
    refine rln ?_
    refine Mv ?_
    refine G (q_addn (y := 1) ?_)
    refine As ?_
    refine gend ?_
    exact ⟨⟨x.i + 1, x.has, B, x.ck, x.key, S.2.1, by omega, hBl, x.hk, x.hkey, Nat.le_trans hSn (Nat.succ_le_succ x.hn)⟩, by show n - (x.i + 1) < n - x.i; omega, sle_ren [(0, true), (1, true), (2, true), (3, true)] rfl (fun p h => absurd h (Nat.not_lt_zero _)) ⟨rs_fl (fun y => bC_cm y), rfl, rfl, rfl, trivial⟩ (Eq.symm (a := renL _ _ _) (rlT rfl (sC_map.trans rfl) (rlT rfl (kC_map rfl) (rlB rfl kb_map (rlT rfl rS_map rl0)))))⟩   -- endloop 1
  refine awp_seq ?_
  refine rln ?_
  refine G (q_eqli (y := 4) ?_)
  refine As ?_
  refine gend ?_
  refine cnd (fun hc10 => ?_) (fun hc10 => ?_)
  · have gm := sopen_u x.has x.h x.ck x.hh x.hk x.key x.num x.hkey a.b _ rfl (by omega) hnM
    have gr := rsopen_ x.h x.ck x.key x.has x.num x.hh x.hk x.hkey a.b _ rfl (by omega) hnM
    have hSn := cOp_num (has := x.has) (key := x.key) (ad := x.h) (l := a.b) (n := x.num)
    obtain ⟨B, hB⟩ : ∃ z, sOh x.has x.key x.num x.h a.b = z := ⟨_, rfl⟩
    have hBl : B.length = 32 := by rw [← hB]; exact sOh_len x.hh
    rw [hB] at gm gr
    obtain ⟨O, hO⟩ : ∃ z, cOp x.has x.key x.num x.h a.b = z := ⟨_, rfl⟩
    rw [hO] at gm gr hSn
    refine awp_seq ?_
    refine rln ?_
    refine Mv ?_
    refine Mv ?_
    refine G2 (fun _ k_ => q_callv [0, 1, 2] [some (sC (.ptr 1 0) B x.ck), some (cC (kp x.has 2) O.2.1), kb x.has x.key] [some (u8s O.1)] gm k_ (ha := (cac (et rfl) rfl (cac (et rfl) sees_ro ca0))) (e2 := pl1 rfl (sC_map.trans rfl) (pl1 rfl (kC_map rfl) (plb rfl kb_map pl0))) (eL := ml1 (sC_map.trans rfl) (ml1 (kC_map rfl) (mlb kb_map ml0))) (eM := ml1 sees_m ml0)) ?_
    refine G (q_mv (s := .t _) ?_)
    refine G (q_ext (y := .c _) ?_)
    refine G (q_ext (y := .c _) ?_)
    refine As ?_
    refine As ?_
    refine gend ?_
    refine rln ?_
    refine Mv ?_
    refine Mv ?_
    refine G2 (fun _ k_ => q_callv [3] [some (rS B x.ck x.has x.key O.2.1)] [some (u8s O.1)] gr k_ (ha := (cac (et rfl) rfl (cac (et rfl) sees_ro ca0))) (e2 := pl1 rfl rS_map pl0) (eL := ml1 rS_map ml0) (eM := ml1 sees_m ml0)) ?_
    refine G (q_mv (s := .t _) ?_)
    refine G (q_ext (y := .c _) ?_)
    refine G (q_ext (y := .c _) ?_)
    refine As ?_
    refine As ?_
    refine gend ?_
    refine awp_seq ?_
    refine rdln [12, 21] [0, 0, 0, 0, 0, 0, 0, 0, 0, 0, 0, 0, 0, 0, 0, 0, 0, 1, 1, 1, 1, 1, 1, 1, 1, 1, 2, 2] [0, 0, 0, 0, 0, 0, 0, 0, 0, 0, 0, 0, 1, 1, 1, 1, 1, 1, 1, 1, 1, 2, 2, 2, 2, 2, 2, 2] ?_
    refine Dp (fun _ => q_mv (s := .v (.c _)) ⟨rfl, rfl⟩) ?_
    refine Dp (fun _ => q_mv (s := .v (.c _)) ⟨rfl, rfl⟩) ?_
    refine Dp (fun _ => q_neqn ⟨rfl, rfl⟩) ?_
    refine Dp (fun _ => q_mv (s := .v (.c _)) ⟨rfl, rfl⟩) ?_
    refine Dkfd 146 (fun hb4 => ?_) ?_; rotate_left
    · exact fun h => h rfl
    refine Dpg (fun _ => q_mv (s := .v (.c _)) ⟨rfl, rfl⟩) ?_
    refine DCsg ?_
    refine Dpg (fun _ => q_mv (s := .v (.c _)) ⟨rfl, rfl⟩) ?_
    refine DCsg ?_
    refine Dpg (fun _ => q_neqs ⟨rfl, rfl⟩) ?_
    refine Dp (fun _ => q_pkf ⟨rfl, rfl⟩) ?_
    refine Dp (fun _ => q_mv (s := .v (.c _)) ⟨rfl, rfl⟩) ?_
    refine Dkf 153 (fun hb11 => ?_) ?_; rotate_left
    · simp
    refine Dpg (fun _ => q_mv (s := .v (.c _)) ⟨rfl, rfl⟩) ?_
    refine De2g (fun _ k_ => q_callp (hash_u x.has B x.ck hBl x.hk x.key O.2.1 x.hkey) k_ (ha := (cac (et rfl) (sees_su rfl rfl rfl x.hkey rfl rfl rfl) ca0))) ?_
    refine Dpg (fun _ => q_mv (s := .v (.c _)) ⟨rfl, rfl⟩) ?_
    refine Dpg (fun _ => q_ncp ⟨rfl, rfl⟩) ?_
    refine Dpg (fun _ => q_fap0 ⟨rfl, rfl⟩) ?_
    refine DLag  ?_ (hc := by exact l3_0 (u32l hBl)) (hl := by exact rS_le0 hBl x.hk x.hkey)
    refine Dpg (fun _ => q_nea8 ⟨rfl, rfl⟩) ?_
    refine Dp (fun _ => q_pkf ⟨rfl, rfl⟩) ?_
    refine Dp (fun _ => q_mv (s := .v (.c _)) ⟨rfl, rfl⟩) ?_
    refine Dkf 162 (fun hb20 => ?_) ?_; rotate_left
    · simp
    refine Dpg (fun _ => q_mv (s := .v (.c _)) ⟨rfl, rfl⟩) ?_
    refine De2g (fun _ k_ => q_callp (chain_u x.has B x.ck hBl x.hk x.key O.2.1 x.hkey) k_ (ha := (cac (et rfl) (sees_su rfl rfl rfl x.hkey rfl rfl rfl) ca0))) ?_
    refine Dpg (fun _ => q_mv (s := .v (.c _)) ⟨rfl, rfl⟩) ?_
    refine Dpg (fun _ => q_ncp ⟨rfl, rfl⟩) ?_
    refine Dpg (fun _ => q_fap0 ⟨rfl, rfl⟩) ?_
    refine DLag  ?_ (hc := by exact l3_1 (u32l hBl) (u32l x.hk)) (hl := by exact rS_le1 hBl x.hk x.hkey)
    refine Dpg (fun _ => q_nea8 ⟨rfl, rfl⟩) ?_
    refine Dp (fun _ => q_pkf ⟨rfl, rfl⟩) ?_
    refine dend ?_
    refine cndnN (fun hc11 => ?_) ?_; rotate_left
    · simp
    refine awp_skip ?_
    refine rln ?_
    refine Mv ?_
    refine G (q_addn (y := 1) ?_)
    refine As ?_
    refine gend ?_
    exact ⟨⟨x.i + 1, x.has, B, x.ck, x.key, O.2.1, by omega, hBl, x.hk, x.hkey, Nat.le_trans hSn (Nat.succ_le_succ x.hn)⟩, by show n - (x.i + 1) < n - x.i; omega, sle_ren [(0, true), (1, true), (2, true), (3, true)] rfl (fun p h => absurd h (Nat.not_lt_zero _)) ⟨rs_fl (fun y => bC_cm y), rfl, rfl, rfl, trivial⟩ (Eq.symm (a := renL _ _ _) (rlT rfl (sC_map.trans rfl) (rlT rfl (kC_map rfl) (rlB rfl kb_map (rlT rfl rS_map rl0)))))⟩   -- endloop 1
  refine awp_seq ?_
  refine rln ?_
  refine G (q_eqli (y := 5) ?_)
  refine As ?_
  refine gend ?_
  refine cnd (fun hc12 => ?_) (fun hc12 => ?_)
  · have gc := scopy_u x.has x.h x.ck x.hh x.hk x.key x.num x.hkey
    have gm := sseal_u x.has x.h x.ck x.hh x.hk x.key x.num x.hkey a.b _ rfl (by omega) hnM
    have hSn := cSl_num (has := x.has) (key := x.key) (ad := x.h) (l := a.b) (n := x.num)
    have hSl := cSl_len (has := x.has) (key := x.key) (ad := x.h) (l := a.b) (n := x.num)
    have h0 : (cSl x.has x.key x.num x.h a.b).2.2 = 0 := cSl_ok hnM
    have g1 := sopen_u x.has x.h x.ck x.hh x.hk x.key x.num x.hkey (cSl x.has x.key x.num x.h a.b).1 _ rfl (by omega) hnM
    have g2 := rsopen_ x.h x.ck x.key x.has x.num x.hh x.hk x.hkey (cSl x.has x.key x.num x.h a.b).1 _ rfl (by omega) hnM
    have hso : sOh x.has x.key x.num x.h (cSl x.has x.key x.num x.h a.b).1 = bsum (x.h ++ (cSl x.has x.key x.num x.h a.b).1) := by unfold sOh; rw [if_pos (by rw [cOp_cSl h0])]
    rw [hso, cOp_cSl h0] at g1 g2
    obtain ⟨S, hS⟩ : ∃ z, cSl x.has x.key x.num x.h a.b = z := ⟨_, rfl⟩
    rw [hS] at gm hSn g1 g2
    obtain ⟨B, hB⟩ : ∃ z, bsum (x.h ++ S.1) = z := ⟨_, rfl⟩
    have hBl : B.length = 32 := by rw [← hB]; exact bsum_len _
    rw [hB] at gm g1 g2
    refine awp_seq ?_
    refine rln ?_
    refine Mv ?_
    refine G2 (fun _ k_ => q_callv [0, 1, 2] [some (sC (.ptr 1 0) x.h x.ck), some (cC (kp x.has 2) x.num), kb x.has x.key] [some (cC (kp x.has 2) x.num), some (sC (.ptr 3 0) x.h x.ck)] gc k_ (ha := (cac (et rfl) rfl ca0)) (e2 := pl1 rfl (sC_map.trans rfl) (pl1 rfl (kC_map rfl) (plb rfl kb_map pl0))) (eL := ml1 (sC_map.trans rfl) (ml1 (kC_map rfl) (mlb kb_map ml0))) (eM := ml1 (kC_map rfl) (ml1 (sC_map.trans rfl) ml0))) ?_
    refine As ?_
    refine gend ?_
    refine awp_seq ?_
    refine rln ?_
    refine Mv ?_
    refine Mv ?_
    refine G2 (fun _ k_ => q_callv [5, 4, 2] [some (sC (.ptr 1 0) B x.ck), some (cC (kp x.has 2) S.2.1), kb x.has x.key] [some (u8s S.1)] gm k_ (ha := (cac (et rfl) rfl (cac (et rfl) sees_ro ca0))) (e2 := pl1 rfl (sC_map.trans rfl) (pl1 rfl (kC_map rfl) (plb rfl kb_map pl0))) (eL := ml1 (sC_map.trans rfl) (ml1 (kC_map rfl) (mlb kb_map ml0))) (eM := ml1 sees_m ml0)) ?_
    refine G (q_mv (s := .t _) ?_)
    refine G (q_ext (y := .c _) ?_)
    refine G (q_ext (y := .c _) ?_)
    refine As ?_
    refine As ?_
    refine gend ?_
    refine awp_seq ?_
    refine awp_seq ?_
    refine rln ?_
    refine Mv ?_
    refine G (q_neqn (y := 0) ?_)
    refine gend ?_
    refine cndN (fun hc13 => ?_) ?_; rotate_left
    · exact fun h => h rfl
    refine awp_skip ?_
    refine awp_seq ?_
    refine rln ?_
    refine Mv ?_
    refine Mv ?_
    refine G2 (fun _ k_ => q_callv [0, 1, 2] [some (sC (.ptr 1 0) B x.ck), some (cC (kp x.has 2) S.2.1), kb x.has x.key] [some (u8s a.b)] g1 k_ (ha := (cac (et rfl) rfl (cac (et rfl) (sees_slc rfl rfl (cut_h rfl)) ca0))) (e2 := pl1 rfl (sC_map.trans rfl) (pl1 rfl (kC_map rfl) (plb rfl kb_map pl0))) (eL := ml1 (sC_map.trans rfl) (ml1 (kC_map rfl) (mlb kb_map ml0))) (eM := ml1 sees_m ml0)) ?_
    refine G (q_mv (s := .t _) ?_)
    refine G (q_ext (y := .c _) ?_)
    refine G (q_ext (y := .c _) ?_)
    refine As ?_
    refine As ?_
    refine gend ?_
    refine awp_seq ?_
    refine rln ?_
    refine Mv ?_
    refine Mv ?_
    refine G2 (fun _ k_ => q_callv [3] [some (rS B x.ck x.has x.key S.2.1)] [some (u8s a.b)] g2 k_ (ha := (cac (et rfl) rfl (cac (et rfl) (sees_slc rfl rfl (cut_h rfl)) ca0))) (e2 := pl1 rfl rS_map pl0) (eL := ml1 rS_map ml0) (eM := ml1 sees_m ml0)) ?_
    refine G (q_mv (s := .t _) ?_)
    refine G (q_ext (y := .c _) ?_)
    refine G (q_ext (y := .c _) ?_)
    refine As ?_
    refine As ?_
    refine gend ?_
    refine awp_seq ?_
    refine rln ?_
    refine Mv ?_
    refine G (q_csl ?_)
    refine Mv ?_
    refine G (q_cso ?_)
    refine G (q_neqs ?_)
    refine Mv ?_
    refine Akf 136 (fun hb6 => ?_) ?_; rotate_left
    · simp
    refine Gg (q_mv (s := .v (.c _)) ?_)
    refine G2g (fun _ k_ => q_callp (hash_u x.has B x.ck hBl x.hk x.key S.2.1 x.hkey) k_ (ha := (cac (et rfl) (sees_su rfl rfl rfl x.hkey rfl rfl rfl) ca0))) ?_
    refine Gg (q_mv (s := .v (.c _)) ?_)
    refine G2g (fun _ k_ => q_callp (hash_u x.has B x.ck hBl x.hk x.key S.2.1 x.hkey) k_ (ha := (cac (et rfl) (sees_su rfl rfl rfl x.hkey rfl rfl rfl) ca0))) ?_
    refine Gg (q_nea8 ?_)
    refine G (q_pkf ?_)
    refine gend ?_
    refine cndnN (fun hc14 => ?_) ?_; rotate_left
    · simp
    refine awp_skip ?_
    refine awp_seq ?_
    refine rdln [12, 21] [0, 0, 0, 0, 0, 0, 0, 0, 0, 0, 0, 0, 0, 0, 0, 0, 0, 1, 1, 1, 1, 1, 1, 1, 1, 1, 2, 2] [0, 0, 0, 0, 0, 0, 0, 0, 0, 0, 0, 0, 1, 1, 1, 1, 1, 1, 1, 1, 1, 2, 2, 2, 2, 2, 2, 2] ?_
    refine Dp (fun _ => q_mv (s := .v (.c _)) ⟨rfl, rfl⟩) ?_
    refine Dp (fun _ => q_mv (s := .v (.c _)) ⟨rfl, rfl⟩) ?_
    refine Dp (fun _ => q_neqn ⟨rfl, rfl⟩) ?_
    refine Dp (fun _ => q_mv (s := .v (.c _)) ⟨rfl, rfl⟩) ?_
    refine Dkfd 146 (fun hb4 => ?_) ?_; rotate_left
    · exact fun h => h rfl
    refine Dpg (fun _ => q_mv (s := .v (.c _)) ⟨rfl, rfl⟩) ?_
    refine DCsg ?_
    refine Dpg (fun _ => q_mv (s := .v (.c _)) ⟨rfl, rfl⟩) ?_
    refine DCsg ?_
    refine Dpg (fun _ => q_neqs ⟨rfl, rfl⟩) ?_
    refine Dp (fun _ => q_pkf ⟨rfl, rfl⟩) ?_
    refine Dp (fun _ => q_mv (s := .v (.c _)) ⟨rfl, rfl⟩) ?_
    refine Dkf 153 (fun hb11 => ?_) ?_; rotate_left
    · simp
    refine Dpg (fun _ => q_mv (s := .v (.c _)) ⟨rfl, rfl⟩) ?_
    refine De2g (fun _ k_ => q_callp (hash_u x.has B x.ck hBl x.hk x.key S.2.1 x.hkey) k_ (ha := (cac (et rfl) (sees_su rfl rfl rfl x.hkey rfl rfl rfl) ca0))) ?_
    refine Dpg (fun _ => q_mv (s := .v (.c _)) ⟨rfl, rfl⟩) ?_
    refine Dpg (fun _ => q_ncp ⟨rfl, rfl⟩) ?_
    refine Dpg (fun _ => q_fap0 ⟨rfl, rfl⟩) ?_
    refine DLag  ?_ (hc := by exact l3_0 (u32l hBl)) (hl := by exact rS_le0 hBl x.hk x.hkey)
    refine Dpg (fun _ => q_nea8 ⟨rfl, rfl⟩) ?_
    refine Dp (fun _ => q_pkf ⟨rfl, rfl⟩) ?_
    refine Dp (fun _ => q_mv (s := .v (.c _)) ⟨rfl, rfl⟩) ?_
    refine Dkf 162 (fun hb20 => ?_) ?_; rotate_left
    · simp
    refine Dpg (fun _ => q_mv (s := .v (.c _)) ⟨rfl, rfl⟩) ?_
    refine De2g (fun _ k_ => q_callp (chain_u x.has B x.ck hBl x.hk x.key S.2.1 x.hkey) k_ (ha := (cac (et rfl) (sees_su rfl rfl rfl x.hkey rfl rfl rfl) ca0))) ?_
    refine Dpg (fun _ => q_mv (s := .v (.c _)) ⟨rfl, rfl⟩) ?_
    refine Dpg (fun _ => q_ncp ⟨rfl, rfl⟩) ?_
    refine Dpg (fun _ => q_fap0 ⟨rfl, rfl⟩) ?_
    refine DLag  ?_ (hc := by exact l3_1 (u32l hBl) (u32l x.hk)) (hl := by exact rS_le1 hBl x.hk x.hkey)
    refine Dpg (fun _ => q_nea8 ⟨rfl, rfl⟩) ?_
    refine Dp (fun _ => q_pkf ⟨rfl, rfl⟩) ?_
    refine dend ?_
    refine cndnN (fun hc15 => ?_) ?_; rotate_left
    · simp
    refine awp_skip ?_
    refine rln ?_
    refine Mv ?_
    refine G (q_addn (y := 1) ?_)
    refine As ?_
    refine gend ?_
    exact ⟨⟨x.i + 1, x.has, B, x.ck, x.key, S.2.1, by omega, hBl, x.hk, x.hkey, Nat.le_trans hSn (Nat.succ_le_succ x.hn)⟩, by show n - (x.i + 1) < n - x.i; omega, sle_ren [(0, true), (1, true), (2, true), (3, true)] rfl (fun p h => absurd h (Nat.not_lt_zero _)) ⟨rs_fl (fun y => bC_cm y), rfl, rfl, rfl, trivial⟩ (Eq.symm (a := renL _ _ _) (rlT rfl (sC_map.trans rfl) (rlT rfl (kC_map rfl) (rlB rfl kb_map (rlT rfl rS_map rl0)))))⟩   -- endloop 1
  refine awp_skip ?_
  refine awp_seq ?_
  refine rdln [12, 21] [0, 0, 0, 0, 0, 0, 0, 0, 0, 0, 0, 0, 0, 0, 0, 0, 0, 1, 1, 1, 1, 1, 1, 1, 1, 1, 2, 2] [0, 0, 0, 0, 0, 0, 0, 0, 0, 0, 0, 0, 1, 1, 1, 1, 1, 1, 1, 1, 1, 2, 2, 2, 2, 2, 2, 2] ?_
  refine Dp (fun _ => q_mv (s := .v (.c _)) ⟨rfl, rfl⟩) ?_
  refine Dp (fun _ => q_mv (s := .v (.c _)) ⟨rfl, rfl⟩) ?_
  refine Dp (fun _ => q_neqn ⟨rfl, rfl⟩) ?_
  refine Dp (fun _ => q_mv (s := .v (.c _)) ⟨rfl, rfl⟩) ?_
  refine Dkfd 146 (fun hb4 => ?_) ?_; rotate_left
  · exact fun h => h rfl
  refine Dpg (fun _ => q_mv (s := .v (.c _)) ⟨rfl, rfl⟩) ?_
  refine Dpg (fun _ => q_csn ⟨rfl, rfl⟩) ?_
  refine Dpg (fun _ => q_mv (s := .v (.c _)) ⟨rfl, rfl⟩) ?_
  refine Dpg (fun _ => q_csn ⟨rfl, rfl⟩) ?_
  refine Dpg (fun _ => q_neqs ⟨rfl, rfl⟩) ?_
  refine Dp (fun _ => q_pkf ⟨rfl, rfl⟩) ?_
  refine Dp (fun _ => q_mv (s := .v (.c _)) ⟨rfl, rfl⟩) ?_
  refine Dkf 153 (fun hb11 => ?_) ?_; rotate_left
  · simp
  refine Dpg (fun _ => q_mv (s := .v (.c _)) ⟨rfl, rfl⟩) ?_
  refine De2g (fun _ k_ => q_callp (hash_u x.has x.h x.ck x.hh x.hk x.key x.num x.hkey) k_ (ha := (cac (et rfl) (sees_su rfl rfl rfl x.hkey rfl rfl rfl) ca0))) ?_
  refine Dpg (fun _ => q_mv (s := .v (.c _)) ⟨rfl, rfl⟩) ?_
  refine Dpg (fun _ => q_ncp ⟨rfl, rfl⟩) ?_
  refine Dpg (fun _ => q_fap0 ⟨rfl, rfl⟩) ?_
  refine DLag  ?_ (hc := by exact l3_0 (u32l x.hh)) (hl := by exact rS_le0 x.hh x.hk x.hkey)
  refine Dpg (fun _ => q_nea8 ⟨rfl, rfl⟩) ?_
  refine Dp (fun _ => q_pkf ⟨rfl, rfl⟩) ?_
  refine Dp (fun _ => q_mv (s := .v (.c _)) ⟨rfl, rfl⟩) ?_
  refine Dkf 162 (fun hb20 => ?_) ?_; rotate_left
  · simp
  refine Dpg (fun _ => q_mv (s := .v (.c _)) ⟨rfl, rfl⟩) ?_
  refine De2g (fun _ k_ => q_callp (chain_u x.has x.h x.ck x.hh x.hk x.key x.num x.hkey) k_ (ha := (cac (et rfl) (sees_su rfl rfl rfl x.hkey rfl rfl rfl) ca0))) ?_
  refine Dpg (fun _ => q_mv (s := .v (.c _)) ⟨rfl, rfl⟩) ?_
  refine Dpg (fun _ => q_ncp ⟨rfl, rfl⟩) ?_
  refine Dpg (fun _ => q_fap0 ⟨rfl, rfl⟩) ?_
  refine DLag  ?_ (hc := by exact l3_1 (u32l x.hh) (u32l x.hk)) (hl := by exact rS_le1 x.hh x.hk x.hkey)
  refine Dpg (fun _ => q_nea8 ⟨rfl, rfl⟩) ?_
  refine Dp (fun _ => q_pkf ⟨rfl, rfl⟩) ?_
  refine dend ?_
  refine cndnN (fun hc16 => ?_) ?_; rotate_left
  · simp
  refine awp_skip ?_
  refine rln ?_
  refine Mv ?_
  refine G (q_addn (y := 1) ?_)
  refine As ?_
  refine gend ?_
  exact ⟨⟨x.i + 1, x.has, x.h, x.ck, x.key, x.num, by omega, x.hh, x.hk, x.hkey, Nat.le_trans x.hn (Nat.le_succ _)⟩, by show n - (x.i + 1) < n - x.i; omega, sle_sub ⟨rfl, rfl, rfl, rfl, trivial⟩ rfl⟩   -- endloop 1
end Go.Proofs.Ytlnepajgnckolaa


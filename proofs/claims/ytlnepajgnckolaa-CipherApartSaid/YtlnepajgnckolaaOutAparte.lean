/- Texts that the proof stands on, put together: the abstract machine, and what functions do over it. -/
import Derived.Test.YtlnepajgnckolaaOutApartd
/- What functions of the program do, walked over the abstract machine. -/
namespace Go.Proofs.Ytlnepajgnckolaa
open Go Go.Abs Go.Proofs Go.Proofs.Ytlnepajgnckolaa.Ch Go.Proofs.Ytlnepajgnckolaa.Po Go.Proofs.Ytlnepajgnckolaa.Ae Go.Proofs.Ytlnepajgnckolaa.Bl

set_option maxRecDepth 20000
/-- A state's cells. -/
abbrev sC (cp : Cell) (h ck : List UInt8) : List Cell := cp :: (u8s h ++ u8s ck)
theorem sC_h {cp : Cell} {h ck : List UInt8} (hh : h.length = 32) : ((sC cp h ck).drop 1).take 32 = u8s h := by
  show (u8s h ++ u8s ck).take 32 = _
  rw [List.take_append_of_le_length (by rw [mapc_length, hh]; exact Nat.le_refl _), List.take_of_length_le (by rw [mapc_length, hh]; exact Nat.le_refl _)]
theorem sC_k {cp : Cell} {h ck : List UInt8} (hh : h.length = 32) (hk : ck.length = 32) : ((sC cp h ck).drop 33).take 32 = u8s ck := by
  show ((u8s h ++ u8s ck).drop 32).take 32 = _
  rw [List.drop_append_of_le_length (by rw [mapc_length, hh]; exact Nat.le_refl _), List.drop_of_length_le (by rw [mapc_length, hh]; exact Nat.le_refl _), List.nil_append, List.take_of_length_le (by rw [mapc_length, hk]; exact Nat.le_refl _)]
theorem sC_seth {cp : Cell} {h ck h' : List UInt8} (hh : h.length = 32) (hh' : h'.length = 32) : splice (sC cp h ck) 1 (u8s h') = sC cp h' ck := by
  unfold splice
  rw [mapc_length, hh']
  show cp :: ([] ++ (u8s h' ++ (u8s h ++ u8s ck).drop 32)) = _
  rw [List.drop_append_of_le_length (by rw [mapc_length, hh]; exact Nat.le_refl _), List.drop_of_length_le (by rw [mapc_length, hh]; exact Nat.le_refl _), List.nil_append, List.nil_append]
theorem sC_setk {cp : Cell} {h ck k' : List UInt8} (hh : h.length = 32) (hk : ck.length = 32) (hk' : k'.length = 32) : splice (sC cp h ck) 33 (u8s k') = sC cp h k' := by
  unfold splice
  rw [mapc_length, hk']
  show cp :: ((u8s h ++ u8s ck).take 32 ++ (u8s k' ++ (u8s h ++ u8s ck).drop 64)) = _
  rw [List.take_append_of_le_length (by rw [mapc_length, hh]; exact Nat.le_refl _), List.take_of_length_le (by rw [mapc_length, hh]; exact Nat.le_refl _), List.drop_of_length_le (by rw [List.length_append, mapc_length, mapc_length, hh, hk]; exact Nat.le_refl _), List.append_nil]
theorem sC_len {cp : Cell} {h ck : List UInt8} (hh : h.length = 32) (hk : ck.length = 32) : (sC cp h ck).length = 65 := by
  show (u8s h ++ u8s ck).length + 1 = 65
  rw [List.length_append, mapc_length, mapc_length, hh, hk]
theorem sC_map {cp : Cell} {h ck : List UInt8} {m : CM} {d : Nat} : (sC cp h ck).map (cm m d) = sC (cm m d cp) h ck := by
  show cm m d cp :: (u8s h ++ u8s ck).map (cm m d) = _
  rw [mapc_append, mapc_cm, ← mapc_append]
set_option maxHeartbeats 1600000 in
/-- (*cipher.Cipher).Rekey -/
theorem rekey_k (key : List UInt8) (n : UInt64) (hkey : key.length = 32) : Good Try.prog 16 [.c (.ptr 0 0)] [some (cC (.ptr 1 0) n), some (u8s key)] (.t []) [some (cC (.ptr 2 0) n), some (u8s key), some (u8s (anext key))] := by
  have hNl := anonce_len 18446744073709551615
  have g2 := nonce_ 18446744073709551615
  have hA := anext_len key
  have hS := aseal_len key (anonce 18446744073709551615) [] (List.replicate 32 0)
  have g3 := seal_ key (anonce 18446744073709551615) [] (List.replicate 32 0) 0 32 hkey hNl rfl (by decide) rfl (by decide)
  rw [show (List.replicate 32 (0 : UInt8)).length = 32 from rfl] at hS
  have hAS : anext key = (aseal key (anonce 18446744073709551615) [] (List.replicate 32 0)).take 32 := rfl
  obtain ⟨Sx, hSx⟩ : ∃ z, aseal key (anonce 18446744073709551615) [] (List.replicate 32 0) = z := ⟨_, rfl⟩
  obtain ⟨N, hN⟩ : ∃ z, anonce 18446744073709551615 = z := ⟨_, rfl⟩
  obtain ⟨A, hAA⟩ : ∃ z, anext key = z := ⟨_, rfl⟩
  rw [hSx] at hS hAS g3
  rw [hAA] at hA hAS ⊢
  rw [hN] at g2 g3 hNl
  refine good_frm 20 Try.func16 rfl rfl rfl rfl rfl rfl ?_
  refine awp_seq ?_
  refine rln ?_
  refine Mv ?_
  refine G2 (fun _ k_ => q_callp (has_k _ _) k_ (ha := (cac (et rfl) (sees_key rfl rfl hkey rfl rfl) ca0))) ?_
  refine gend ?_
  refine cndbY (fun hc1 => ?_) ?_; rotate_left
  · exact rfl
  refine awp_mid ⟨frm 20 [(0, sc (.ptr 0 0)), (2, sc (.ptr 2 0))], [some (cC (.ptr 1 0) n), some (u8s key), some (u8s A)]⟩ ?_ ?_
  · refine rdm [7, 8, 12, 13] [⟨[0, 1, 2, 3, 4, 5, 6, 7, 8, 9, 10, 11, 12, 13], [7, 8, 12, 13], [7, 8, 12, 13], [0, 0, 0, 0, 0, 0, 0, 0, 1, 2, 2, 2, 2, 3], [1, 1, 1, 1, 1, 1, 1, 1, 2, 3, 3, 3, 3, 4]⟩, ⟨[0, 1, 2, 3, 4, 5, 6, 7, 12, 8, 9, 10, 11, 13], [7, 12, 8, 13], [7, 8, 9, 13], [0, 0, 0, 0, 0, 0, 0, 0, 1, 2, 3, 3, 3, 3], [2, 2, 2, 2, 2, 2, 2, 1, 2, 3, 3, 3, 3, 4]⟩, ⟨[0, 1, 2, 3, 4, 5, 6, 12, 7, 8, 9, 10, 11, 13], [12, 7, 8, 13], [7, 8, 9, 13], [0, 0, 0, 0, 0, 0, 0, 0, 1, 2, 3, 3, 3, 3], [2, 2, 2, 2, 2, 2, 2, 1, 2, 3, 3, 3, 3, 4]⟩] ⟨?_, ?_, ?_, trivial⟩   -- region 1
    · refine Dp (fun _ => q_mv (s := .v (.c _)) ⟨rfl, rfl⟩) ?_
      refine Dp (fun _ => q_ncp ⟨rfl, rfl⟩) ?_
      refine Dp (fun _ => q_fap0 ⟨rfl, rfl⟩) ?_
      refine DLp ?_
      refine Dp (fun _ => q_ncp ⟨rfl, rfl⟩) ?_
      refine DLw ?_
      refine Dp (fun _ => q_callp g2 ⟨rfl, rfl⟩ (ha := (cac rfl cm_int ca0))) ?_
      refine De2 (fun _ k_ => q_mks k_) ?_
      refine De2 (fun _ k_ => q_calln g3 k_ (ha := (caa (et rfl) sees_m (caa (et rfl) sees_m (cac rfl sees_nil8 (cac (et rfl) (sees_slc rfl rfl rfl) ca0)))))) ?_
      refine Dp (fun _ => q_sls_hi (k := 32) ⟨rfl, rfl⟩) ?_
      refine Dp (fun _ => q_s2p ⟨rfl, rfl⟩) ?_
      refine DLa (xs := u8s A) ?_ (hc := by rw [hAS]; exact cut_pre2)
      refine De2 (fun _ k_ => q_al k_) ?_
      refine De20 (fun _ k_ => q_stw k_) ?_
      refine dend ?_
      exact sle_view [0, 1, 4] (piB rfl) (by decide) ⟨rfl, rfl, trivial⟩ (vh3 (pick_c rfl rfl) (pick_m rfl) (pick_m rfl))
    · refine Dp (fun _ => q_mv (s := .v (.c _)) ⟨rfl, rfl⟩) ?_
      refine Dp (fun _ => q_ncp ⟨rfl, rfl⟩) ?_
      refine Dp (fun _ => q_fap0 ⟨rfl, rfl⟩) ?_
      refine DLp ?_
      refine Dp (fun _ => q_ncp ⟨rfl, rfl⟩) ?_
      refine DLw ?_
      refine Dp (fun _ => q_callp g2 ⟨rfl, rfl⟩ (ha := (cac rfl cm_int ca0))) ?_
      refine De2 (fun _ k_ => q_mks k_) ?_
      refine De2 (fun _ k_ => q_al k_) ?_
      refine De2 (fun _ k_ => q_calln g3 k_ (ha := (caa (et rfl) sees_m (caa (et rfl) sees_m (cac rfl sees_nil8 (cac (et rfl) (sees_slc rfl rfl rfl) ca0)))))) ?_
      refine Dp (fun _ => q_sls_hi (k := 32) ⟨rfl, rfl⟩) ?_
      refine Dp (fun _ => q_s2p ⟨rfl, rfl⟩) ?_
      refine DLa (xs := u8s A) ?_ (hc := by rw [hAS]; exact cut_pre2)
      refine De20 (fun _ k_ => q_stw k_) ?_
      refine dend ?_
      exact sle_view [0, 1, 3] (piB rfl) (by decide) ⟨rfl, rfl, trivial⟩ (vh3 (pick_c rfl rfl) (pick_m rfl) (pick_m rfl))
    refine Dp (fun _ => q_mv (s := .v (.c _)) ⟨rfl, rfl⟩) ?_
    refine Dp (fun _ => q_ncp ⟨rfl, rfl⟩) ?_
    refine Dp (fun _ => q_fap0 ⟨rfl, rfl⟩) ?_
    refine DLp ?_
    refine Dp (fun _ => q_ncp ⟨rfl, rfl⟩) ?_
    refine DLw ?_
    refine Dp (fun _ => q_callp g2 ⟨rfl, rfl⟩ (ha := (cac rfl cm_int ca0))) ?_
    refine De2 (fun _ k_ => q_al k_) ?_
    refine De2 (fun _ k_ => q_mks k_) ?_
    refine De2 (fun _ k_ => q_calln g3 k_ (ha := (caa (et rfl) sees_m (caa (et rfl) sees_m (cac rfl sees_nil8 (cac (et rfl) (sees_slc rfl rfl rfl) ca0)))))) ?_
    refine Dp (fun _ => q_sls_hi (k := 32) ⟨rfl, rfl⟩) ?_
    refine Dp (fun _ => q_s2p ⟨rfl, rfl⟩) ?_
    refine DLa (xs := u8s A) ?_ (hc := by rw [hAS]; exact cut_pre2)
    refine De20 (fun _ k_ => q_stw k_) ?_
    refine dend ?_
    exact sle_view [0, 1, 2] (piB rfl) (by decide) ⟨rfl, rfl, trivial⟩ (vh3 (pick_c rfl rfl) (pick_m rfl) (pick_m rfl))
  refine rln ?_
  refine Mv ?_
  refine G (q_ncp ?_)
  refine G (q_fap0 ?_)
  refine G20 (fun _ k_ => q_st k_) ?_
  refine gend ?_
  exact fx0 [0, 1, 2] (hH := pl1 rfl rfl (pl1 rfl sees_m (pl1 rfl sees_m pl0))) (hn := piB rfl)
/-- (*cipher.Cipher).Copy -/
theorem copy_k (key : List UInt8) (n : UInt64) : Good Try.prog 29 [.c (.ptr 0 0)] [some (cC (.ptr 1 0) n), some (u8s key)] (sc (.ptr 2 0)) [some (cC (.ptr 1 0) n), some (u8s key), some (cC (.ptr 1 0) n)] := by
  refine good_frm 16 Try.func29 rfl rfl rfl rfl rfl rfl ?_
  refine awp_seq ?_
  refine rln ?_
  refine As ?_
  refine gend ?_
  refine awp_seq ?_
  refine awp_seq ?_
  refine rln ?_
  refine Mv ?_
  refine G (q_eqlp ?_)
  refine Mv ?_
  refine Gg (q_mv (s := .v (.c _)) ?_)
  refine Gg (q_ncp ?_)
  refine Gg (q_fap0 ?_)
  refine Gg (q_ldp ?_)
  refine Gg (q_notb ?_)
  refine G (q_pkf ?_)
  refine gend ?_
  refine cndbnN (fun hc1 => ?_) ?_; rotate_left
  · exact rfl
  refine awp_skip ?_
  refine awp_seq ?_
  refine rln ?_
  refine Mv ?_
  refine G (q_ncp ?_)
  refine G (q_ldw ?_)
  refine G2 (fun _ k_ => q_al k_) ?_
  refine G20 (fun _ k_ => q_stw k_) ?_
  refine gend ?_
  refine awp_seq ?_
  refine rln ?_
  refine As ?_
  refine gend ?_
  refine awp_ret ?_
  exact fx1 [0, 1, 2] (hm0 := rfl) (hH := pl1 rfl rfl (pl1 rfl sees_m (pl1 rfl rfl pl0))) (hn := piB rfl)
/-- (*cipher.Cipher).Copy -/
theorem copy_0 (n : UInt64) : Good Try.prog 29 [.c (.ptr 0 0)] [some (cC .nilp n)] (sc (.ptr 1 0)) [some (cC .nilp n), some (cC .nilp n)] := by
  refine good_frm 16 Try.func29 rfl rfl rfl rfl rfl rfl ?_
  refine awp_seq ?_
  refine rln ?_
  refine As ?_
  refine gend ?_
  refine awp_seq ?_
  refine awp_seq ?_
  refine rln ?_
  refine Mv ?_
  refine G (q_eqlp ?_)
  refine Mv ?_
  refine Gg (q_mv (s := .v (.c _)) ?_)
  refine Gg (q_ncp ?_)
  refine Gg (q_fap0 ?_)
  refine Gg (q_ldp ?_)
  refine Gg (q_notb ?_)
  refine G (q_pkf ?_)
  refine gend ?_
  refine cndbnN (fun hc1 => ?_) ?_; rotate_left
  · exact rfl
  refine awp_skip ?_
  refine awp_seq ?_
  refine rln ?_
  refine Mv ?_
  refine G (q_ncp ?_)
  refine G (q_ldw ?_)
  refine G2 (fun _ k_ => q_al k_) ?_
  refine G20 (fun _ k_ => q_stw k_) ?_
  refine gend ?_
  refine awp_seq ?_
  refine rln ?_
  refine As ?_
  refine gend ?_
  refine awp_ret ?_
  exact fx1 [0, 1] (hm0 := rfl) (hH := pl1 rfl rfl (pl1 rfl rfl pl0)) (hn := piB rfl)
/-- (*cipher.State).is -/
theorem is_ (c r : List Cell) : Good Try.prog 46 [.c (.rop (.rop c :: r))] [] (sc (.bool true)) [] := by
  refine good_frm 12 Try.func46 rfl rfl rfl rfl rfl rfl ?_
  refine awp_seq ?_
  refine rln ?_
  refine As ?_
  refine gend ?_
  refine awp_seq ?_
  refine rln ?_
  refine Mv ?_
  refine G (q_neqp ?_)
  refine Mv ?_
  refine Gg (q_mv (s := .v (.c _)) ?_)
  refine Gg (q_ncr ?_)
  refine Gg (q_far ?_)
  refine Gg (q_ldr ?_)
  refine Gg (q_neqp ?_)
  refine G (q_pkt ?_)
  refine As ?_
  refine gend ?_
  refine awp_ret ?_
  exact fp1
end Go.Proofs.Ytlnepajgnckolaa

/- What functions of the program do, walked over the abstract machine. -/
namespace Go.Proofs.Ytlnepajgnckolaa
open Go Go.Abs Go.Proofs Go.Proofs.Ytlnepajgnckolaa.Ch Go.Proofs.Ytlnepajgnckolaa.Po Go.Proofs.Ytlnepajgnckolaa.Ae Go.Proofs.Ytlnepajgnckolaa.Bl

set_option maxRecDepth 20000
theorem key1 {K : List UInt8} (h : (1 :: List.replicate 31 0 : List UInt8) = K) {m : CM} {d : Nat} : ((u8s (List.replicate 32 0)).set (0 * 1) (c8 1)).map (cm m d) = u8s K := by
  subst h; exact sees_m (l := 1 :: List.replicate 31 0)
set_option maxHeartbeats 1600000 in
/-- escutcheonlaw16.known -/
theorem known_ : Good Try.prog 9 [] [] (sc (.bool true)) [] := by
  obtain ⟨K, hK⟩ : ∃ z, (1 :: List.replicate 31 0 : List UInt8) = z := ⟨_, rfl⟩
  have hKl : K.length = 32 := by rw [← hK]; rfl
  have gn := new_ K hKl
  have xl := aseal_len K (anonce 0) [] [5]
  have xo := aopen_aseal K (anonce 0) [] [5]
  have gx := cseal_ok K [] [5] 0 0 1 hKl rfl (by decide) rfl (by decide) (by decide)
  have hnx := anonce_len 0
  have yl := aseal_len K (anonce (0 + 1)) [] [6]
  have yo := aopen_aseal K (anonce (0 + 1)) [] [6]
  have gy := cseal_ok K [] [6] (0 + 1) 0 1 hKl rfl (by decide) rfl (by decide) (by decide)
  have hny := anonce_len (0 + 1)
  generalize hSx : aseal K (anonce 0) [] [5] = Sx at *
  have ox := copen_ok K [] Sx 0 0 17 hKl rfl (by decide) xl (by decide) (by decide) [5] xo
  generalize hSy : aseal K (anonce (0 + 1)) [] [6] = Sy at *
  have oy := copen_ok K [] Sy (0 + 1) 0 17 hKl rfl (by decide) yl (by decide) (by decide) [6] yo
  refine good_frm 63 Try.func9 rfl rfl rfl rfl rfl rfl ?_
  refine awp_seq ?_
  refine rln ?_
  refine As ?_
  refine gend ?_
  refine awp_seq ?_
  refine rln ?_
  refine G (q_bla (fkc (c := c8 1) rfl rfl rfl (Nat.le_of_ble_eq_true rfl) (fk0 ?_)))
  refine G2 (fun _ k_ => q_callv [] [] [some (u8s K), some (cC (.ptr 0 0) 0)] gn k_ (ha := (caa (et rfl) (key1 hK) ca0)) (eM := (ml1 sees_m (ml1 rfl ml0)))) ?_
  refine G (q_bla (fkc (c := c8 1) rfl rfl rfl (Nat.le_of_ble_eq_true rfl) (fk0 ?_)))
  refine G2 (fun _ k_ => q_callv [] [] [some (u8s K), some (cC (.ptr 0 0) 0)] gn k_ (ha := (caa (et rfl) (key1 hK) ca0)) (eM := (ml1 sees_m (ml1 rfl ml0)))) ?_
  refine As ?_
  refine As ?_
  refine gend ?_
  refine awp_seq ?_
  refine rln ?_
  refine Mv ?_
  refine G2 (fun _ k_ => q_bsl (fkc (c := c8 5) rfl rfl rfl (Nat.le_of_ble_eq_true rfl) (fk0 k_))) ?_
  refine G2 (fun _ k_ => q_callv [1, 0] [some (cC (.ptr 1 0) (0 + 1)), some (u8s K)] [some (u8s Sx)] gx k_ (ha := (cac (et rfl) rfl (cac rfl sees_nil8 (cac (et rfl) (sees_slc rfl rfl rfl) ca0)))) (eL := (ml1 rfl (ml1 sees_m ml0))) (eM := (ml1 sees_m ml0))) ?_
  refine G (q_mv (s := .t _) ?_)
  refine G (q_ext (y := .c _) ?_)
  refine G (q_ext (y := .c _) ?_)
  refine As ?_
  refine As ?_
  refine gend ?_
  refine awp_seq ?_
  refine rln ?_
  refine Mv ?_
  refine G2 (fun _ k_ => q_bsl (fkc (c := c8 6) rfl rfl rfl (Nat.le_of_ble_eq_true rfl) (fk0 k_))) ?_
  refine G2 (fun _ k_ => q_callv [1, 0] [some (cC (.ptr 1 0) (0 + 1 + 1)), some (u8s K)] [some (u8s Sy)] gy k_ (ha := (cac (et rfl) rfl (cac rfl sees_nil8 (cac (et rfl) (sees_slc rfl rfl rfl) ca0)))) (eL := (ml1 rfl (ml1 sees_m ml0))) (eM := (ml1 sees_m ml0))) ?_
  refine G (q_mv (s := .t _) ?_)
  refine G (q_ext (y := .c _) ?_)
  refine G (q_ext (y := .c _) ?_)
  refine As ?_
  refine As ?_
  refine gend ?_
  refine awp_seq ?_
  refine rln ?_
  refine Mv ?_
  refine Mv ?_
  refine G2 (fun _ k_ => q_callv [3, 2] [some (cC (.ptr 1 0) (0 + 1)), some (u8s K)] [some (u8s [5])] ox k_ (ha := (cac (et rfl) rfl (cac rfl sees_nil8 (cac (et rfl) (sees_slc rfl rfl (cut_h xl)) ca0)))) (eL := (ml1 rfl (ml1 sees_m ml0))) (eM := (ml1 sees_m ml0))) ?_
  refine G (q_mv (s := .t _) ?_)
  refine G (q_ext (y := .c _) ?_)
  refine G (q_ext (y := .c _) ?_)
  refine As ?_
  refine As ?_
  refine gend ?_
  refine awp_seq ?_
  refine rln ?_
  refine Mv ?_
  refine Mv ?_
  refine G2 (fun _ k_ => q_callv [3, 2] [some (cC (.ptr 1 0) (0 + 1 + 1)), some (u8s K)] [some (u8s [6])] oy k_ (ha := (cac (et rfl) rfl (cac rfl sees_nil8 (cac (et rfl) (sees_slc rfl rfl (cut_h yl)) ca0)))) (eL := (ml1 rfl (ml1 sees_m ml0))) (eM := (ml1 sees_m ml0))) ?_
  refine G (q_mv (s := .t _) ?_)
  refine G (q_ext (y := .c _) ?_)
  refine G (q_ext (y := .c _) ?_)
  refine As ?_
  refine As ?_
  refine gend ?_
  refine awp_seq ?_
  refine rln ?_
  refine Mv ?_
  refine G (q_eqln (y := 0) ?_)
  refine Mv ?_
  refine Aknd 41 (fun hb3 => ?_) ?_; rotate_left
  · exact rfl
  refine Gg (q_mv (s := .v (.c _)) ?_)
  refine Gg (q_eqln (y := 0) ?_)
  refine G (q_pkt ?_)
  refine Mv ?_
  refine Aknd 45 (fun hb7 => ?_) ?_; rotate_left
  · exact rfl
  refine Gg (q_mv (s := .v (.c _)) ?_)
  refine Gg (q_eqln (y := 0) ?_)
  refine G (q_pkt ?_)
  refine Mv ?_
  refine Aknd 49 (fun hb11 => ?_) ?_; rotate_left
  · exact rfl
  refine Gg (q_mv (s := .v (.c _)) ?_)
  refine Gg (q_eqln (y := 0) ?_)
  refine G (q_pkt ?_)
  refine Mv ?_
  refine Aknd 53 (fun hb15 => ?_) ?_; rotate_left
  · exact rfl
  refine Gg (q_mv (s := .v (.c _)) ?_)
  refine Gg (q_csl ?_)
  refine Gg (q_eqls ?_)
  refine G (q_pkt ?_)
  refine Mv ?_
  refine Aknd 58 (fun hb20 => ?_) ?_; rotate_left
  · exact rfl
  refine Gg (q_mv (s := .v (.c _)) ?_)
  refine Gg (q_csl ?_)
  refine Gg (q_eqls ?_)
  refine G (q_pkt ?_)
  refine As ?_
  refine gend ?_
  refine awp_ret ?_
  exact fp1
end Go.Proofs.Ytlnepajgnckolaa

/- What functions of the program do, walked over the abstract machine. -/
namespace Go.Proofs.Ytlnepajgnckolaa
open Go Go.Abs Go.Proofs Go.Proofs.Ytlnepajgnckolaa.Ch Go.Proofs.Ytlnepajgnckolaa.Po Go.Proofs.Ytlnepajgnckolaa.Ae Go.Proofs.Ytlnepajgnckolaa.Bl

set_option maxRecDepth 20000
theorem sees_nk {H : Heap} {q d : Nat} {n : UInt64} {π : List Nat} (hq : idx q π = none) (hC : H[q]? = some (some (cC .nilp n))) : cm (cin π true H) (d + 2) (.ptr q 0) = .rop [.nilp, c64 n, .bool true] := by
  have he : (cC .nilp n).isEmpty = false := rfl
  simp only [cm, cin, hq, joinH, hC, if_true, he, Bool.false_eq_true, if_false, List.drop_zero, List.map_cons, List.map_nil]
theorem sees_st {H : Heap} {p : Nat} {π : List Nat} {cp : Cell} {h ck : List UInt8} {c : List Cell} (hp : idx p π = none) (hS : H[p]? = some (some (sC cp h ck))) (hc : cm (cin π true H) 7 cp = .rop c) : cm (cin π true H) 8 (.ptr p 0) = .rop (.rop c :: (u8s h ++ u8s ck)) :=
  sees_ptr hp hS rfl (by rw [List.drop_zero, sC_map, hc])
/-- (*cipher.State).MixHash -/
theorem mixhash_0 (h ck : List UInt8) (hh : h.length = 32) (hk : ck.length = 32) (n : UInt64) (b : List UInt8) (a : Nat) (hb : b.length = a) (ha : a ≤ 10000) : Good Try.prog 22 [.c (.ptr 0 0), .c (.ro a (u8s b))] [some (sC (.ptr 1 0) h ck), some (cC .nilp n)] (.t []) [some (sC (.ptr 1 0) (bsum (h ++ b)) ck), some (cC .nilp n)] := by
  have hL : (sC (.ptr 1 0) h ck).length = 65 := sC_len hh hk
  have g1 := sum_ [h, b] 2 rfl (by decide) (by simp; omega)
  rw [show ([h, b] : List (List UInt8)).flatten = h ++ b by simp] at g1
  obtain ⟨B, hB⟩ : ∃ z, bsum (h ++ b) = z := ⟨_, rfl⟩
  have hBl : B.length = 32 := by rw [← hB]; exact bsum_len _
  rw [hB] at g1 ⊢
  refine good_frm 16 Try.func22 rfl rfl rfl rfl rfl rfl ?_
  refine awp_seq ?_
  refine rln ?_
  refine Mv ?_
  refine G2 (fun _ k_ => q_callp (is_ _ _) k_ (ha := (cac (et rfl) (sees_st rfl rfl (sees_nk rfl rfl)) ca0))) ?_
  refine gend ?_
  refine cndbY (fun hc1 => ?_) ?_; rotate_left
  · exact rfl
  refine rln ?_
  refine Mv ?_
  refine Mv ?_
  refine G (q_ncp ?_)
  refine G (q_fap0 ?_)
  refine G (q_slp_no ?_)
  refine Mv ?_
  refine G2 (fun _ k_ => q_bsl (fkc rfl (et rfl) rfl (Nat.le_of_ble_eq_true rfl) (fkc rfl (et rfl) rfl (Nat.le_of_ble_eq_true rfl) (fk0 k_)))) ?_
  refine G2 (fun _ k_ => q_callp g1 k_ (ha := (cac (et rfl) (sees_parts rfl rfl (pq_slc rfl rfl (sC_h hh) hh (pq_ro hb pq0))) ca0))) ?_
  refine G (q_ncp ?_)
  refine G (q_fap0 ?_)
  refine G20 (fun _ k_ => q_sta k_) ?_ (hH := by simp only [List.set_cons_zero, List.cons_append, List.nil_append]; exact congrArg (fun z => some z :: _) (sC_seth hh hBl))
  refine gend ?_
  exact fx0 [0, 1] (hH := pl1 rfl (sC_map.trans rfl) (pl1 rfl rfl pl0))
/-- What a short name becomes. -/
def pad32 (s : ByteArray) : List UInt8 := s.data.toList ++ List.replicate (32 - s.size) 0
theorem pad32_len {s : ByteArray} (h : s.size ≤ 32) : (pad32 s).length = 32 := by
  have hs : s.data.toList.length = s.size := rfl
  rw [pad32, List.length_append, List.length_replicate, hs]; omega
theorem begin_cpy {s : ByteArray} (h : s.size ≤ 32) {cp : Cell} : splice (cp :: u8s (List.replicate 64 0)) 1 (List.take (min s.size 32 * 1) (u8s s.data.toList)) = sC cp (pad32 s) (List.replicate 32 0) := by
  have hs : s.data.toList.length = s.size := rfl
  unfold splice
  rw [Nat.min_eq_left h, Nat.mul_one, List.take_of_length_le (l := u8s s.data.toList) (by rw [mapc_length, hs]; exact Nat.le_refl _), mapc_length, hs]
  show cp :: ([] ++ (u8s s.data.toList ++ (cp :: u8s (List.replicate 64 0)).drop (1 + s.size))) = cp :: _
  rw [Nat.add_comm 1, List.drop_succ_cons, List.nil_append, mapc_drop, List.drop_replicate, mapc_append, mapc_append, pad32, List.append_assoc, List.replicate_append_replicate, show 32 - s.size + 32 = 64 - s.size by omega]
/-- cipher.Begin -/
theorem begin_s (s : ByteArray) (h : s.size ≤ 32) : Good Try.prog 21 [.c (.str s)] [] (sc (.ptr 1 0)) [some (cC .nilp 0), some (sC (.ptr 0 0) (pad32 s) (pad32 s))] := by
  have hP := pad32_len h
  have hL := sC_len (cp := .ptr 0 0) hP (show (List.replicate 32 (0 : UInt8)).length = 32 from rfl)
  refine good_frm 31 Try.func21 rfl rfl rfl rfl rfl rfl ?_
  refine awp_seq ?_
  refine rln ?_
  refine As ?_
  refine gend ?_
  refine awp_seq ?_
  refine rln ?_
  refine G2 (fun _ k_ => q_calln none_ k_ (ha := ca0)) ?_
  refine G (q_bls (fkc rfl (et rfl) rfl (Nat.le_of_ble_eq_true rfl) (fk0 ?_)))
  refine G2 (fun _ k_ => q_boxa k_) ?_
  refine As ?_
  refine gend ?_
  refine awp_seq ?_
  refine awp_seq ?_
  refine rln ?_
  refine Mv ?_
  refine G (q_lens ?_)
  refine G (q_leqn (y := 32) ?_)
  refine gend ?_
  refine cndY (fun hc1 => ?_) ?_; rotate_left
  · exact h
  refine rln ?_
  refine Mv ?_
  refine G (q_ncp ?_)
  refine G (q_fap0 ?_)
  refine G (q_slp_no ?_)
  refine Mv ?_
  refine G2 (fun _ k_ => q_cpy k_) ?_ (hH := by simp only [List.set_cons_zero, List.set_cons_succ, List.cons_append, List.nil_append]; exact congrArg (fun z => [some (cC .nilp 0), some z]) (begin_cpy h))
  refine gend ?_
  refine awp_seq ?_
  refine rln ?_
  refine Mv ?_
  refine Mv ?_
  refine G (q_ncp ?_)
  refine G (q_fap0 ?_)
  refine G (q_lda (xs := u8s (pad32 s)) ?_ (hc := sC_h hP))
  refine G (q_ncp ?_)
  refine G (q_fap0 ?_)
  refine G20 (fun _ k_ => q_sta k_) ?_ (hH := by simp only [List.set_cons_zero, List.set_cons_succ, List.cons_append, List.nil_append]; exact congrArg (fun z => [some (cC .nilp 0), some z]) (sC_setk hP rfl hP))
  refine gend ?_
  refine awp_seq ?_
  refine rln ?_
  refine Mv ?_
  refine As ?_
  refine gend ?_
  refine awp_ret ?_
  exact fx1 [0, 1] (hm0 := rfl) (hH := pl1 rfl rfl (pl1 rfl (sC_map.trans rfl) pl0))
end Go.Proofs.Ytlnepajgnckolaa

/- What functions of the program do, walked over the abstract machine. -/
namespace Go.Proofs.Ytlnepajgnckolaa
open Go Go.Abs Go.Proofs Go.Proofs.Ytlnepajgnckolaa.Ch Go.Proofs.Ytlnepajgnckolaa.Po Go.Proofs.Ytlnepajgnckolaa.Ae Go.Proofs.Ytlnepajgnckolaa.Bl

set_option maxRecDepth 20000
theorem cm_st {π : List Nat} {H : Heap} {c : List Cell} {h ck : List UInt8} (hc : cm (cin π true H) 7 (.rop c) = .rop c) : cm (cin π true H) 8 (.rop (.rop c :: (u8s h ++ u8s ck))) = .rop (.rop c :: (u8s h ++ u8s ck)) := by
  show Cell.rop ((Cell.rop c :: (u8s h ++ u8s ck)).map (cm (cin π true H) 7)) = _
  rw [List.map_cons, hc, mapc_append, mapc_cm]
theorem zs_seth {cp : Cell} {h : List UInt8} (hh : h.length = 32) : splice (([Cell.nilp] ++ u8s (List.replicate 64 0)).set 0 cp) 1 (u8s h) = sC cp h (List.replicate 32 0) :=
  (congrArg (fun z => splice z 1 (u8s h)) (show ([Cell.nilp] ++ u8s (List.replicate 64 0)).set 0 cp = sC cp (List.replicate 32 0) (List.replicate 32 0) from rfl)).trans (sC_seth rfl hh)
theorem zs_len {cp : Cell} {h : List UInt8} (hh : h.length = 32) : (splice (([Cell.nilp] ++ u8s (List.replicate 64 0)).set 0 cp) 1 (u8s h)).length = 65 := by
  rw [zs_seth hh]; exact sC_len hh rfl
theorem zs_all {cp : Cell} {h ck : List UInt8} (hh : h.length = 32) (hk : ck.length = 32) : splice (splice (([Cell.nilp] ++ u8s (List.replicate 64 0)).set 0 cp) 1 (u8s h)) 33 (u8s ck) = sC cp h ck :=
  (congrArg (fun z => splice z 33 (u8s ck)) (zs_seth hh)).trans (sC_setk hh rfl hk)
set_option maxHeartbeats 1600000 in
/-- (*cipher.State).MixKey -/
theorem mixkey_0 (h ck : List UInt8) (hh : h.length = 32) (hk : ck.length = 32) (n : UInt64) (b : List UInt8) (a : Nat) (hb : b.length = a) (ha : a ≤ 10000) : Good Try.prog 23 [.c (.ptr 0 0), .c (.ro a (u8s b))] [some (sC (.ptr 1 0) h ck), some (cC .nilp n)] (.t []) [some (sC (.ptr 3 0) h (h3x ck b)), some (cC .nilp n), some (u8s (h3y ck b)), some (cC (.ptr 2 0) 0)] := by
  have hL : (sC (.ptr 1 0) h ck).length = 65 := sC_len hh hk
  have g1 := two_ ck b a hk hb ha
  obtain ⟨X, hX⟩ : ∃ z, h3x ck b = z := ⟨_, rfl⟩
  obtain ⟨Y, hY⟩ : ∃ z, h3y ck b = z := ⟨_, rfl⟩
  have hXl : X.length = 32 := by rw [← hX]; exact h3x_len _ _
  have hYl : Y.length = 32 := by rw [← hY]; exact h3y_len _ _
  rw [hX, hY] at g1 ⊢
  refine good_frm 26 Try.func23 rfl rfl rfl rfl rfl rfl ?_
  refine awp_seq ?_
  refine rln ?_
  refine Mv ?_
  refine G2 (fun _ k_ => q_callp (is_ _ _) k_ (ha := (cac (et rfl) (sees_st rfl rfl (sees_nk rfl rfl)) ca0))) ?_
  refine gend ?_
  refine cndbY (fun hc1 => ?_) ?_; rotate_left
  · exact rfl
  refine awp_seq ?_
  refine rln ?_
  refine Mv ?_
  refine G (q_ncp ?_)
  refine G (q_fap0 ?_)
  refine G (q_lda (xs := u8s ck) ?_ (hc := sC_k hh hk))
  refine Mv ?_
  refine G2 (fun _ k_ => q_callp g1 k_ (ha := (caa (et rfl) sees_m (cac (et rfl) sees_ro ca0)))) ?_
  refine G (q_mv (s := .t _) ?_)
  refine G (q_ext (y := .a _) ?_)
  refine G (q_ext (y := .a _) ?_)
  refine G2 (fun _ k_ => q_al k_) ?_
  refine G2 (fun _ k_ => q_al k_) ?_
  refine G20 (fun _ k_ => q_stw k_) ?_
  refine G20 (fun _ k_ => q_stw k_) ?_
  refine gend ?_
  refine rdln [4, 7, 10] [0, 0, 0, 0, 0, 1, 1, 1, 2, 2, 2] [1, 2, 1, 0, 1, 1, 1, 2, 2, 2, 3] ?_
  refine Dp (fun _ => q_mv (s := .v (.c _)) ⟨rfl, rfl⟩) ?_
  refine Dp (fun _ => q_mv (s := .v (.c _)) ⟨rfl, rfl⟩) ?_
  refine DLw ?_
  refine DLw ?_
  refine De2 (fun _ k_ => q_callv [] [] [some (u8s Y), some (cC (.ptr 0 0) 0)] (new_ Y hYl) k_ (ha := (caa (et rfl) sees_m ca0)) (eM := (ml1 sees_m (ml1 rfl ml0)))) ?_
  refine Dp (fun _ => q_ncp ⟨rfl, rfl⟩) ?_
  refine Dp (fun _ => q_fap0 ⟨rfl, rfl⟩) ?_
  refine De20 (fun _ k_ => q_sta k_) ?_ (hH := by simp only [List.set_cons_zero, List.cons_append, List.nil_append]; exact congrArg (fun z => some z :: _) (sC_setk hh hk hXl))
  refine Dp (fun _ => q_ncp ⟨rfl, rfl⟩) ?_
  refine Dp (fun _ => q_fap0 ⟨rfl, rfl⟩) ?_
  refine De20 (fun _ k_ => q_st k_) ?_
  refine dend ?_
  exact fx0 [0, 1, 4, 5] (hH := pl1 rfl (sC_map.trans rfl) (pl1 rfl rfl (pl1 rfl sees_m (pl1 rfl rfl pl0)))) (hn := piB rfl)
set_option maxHeartbeats 1600000 in
/-- (*cipher.State).Copy -/
theorem scopy_0 (h ck : List UInt8) (hh : h.length = 32) (hk : ck.length = 32) (n : UInt64) : Good Try.prog 30 [.c (.ptr 0 0)] [some (sC (.ptr 1 0) h ck), some (cC .nilp n)] (sc (.ptr 3 0)) [some (sC (.ptr 1 0) h ck), some (cC .nilp n), some (cC .nilp n), some (sC (.ptr 2 0) h ck)] := by
  have hL : (sC (.ptr 1 0) h ck).length = 65 := sC_len hh hk
  refine good_frm 21 Try.func30 rfl rfl rfl rfl rfl rfl ?_
  refine awp_seq ?_
  refine rln ?_
  refine As ?_
  refine gend ?_
  refine awp_seq ?_
  refine awp_seq ?_
  refine rln ?_
  refine Mv ?_
  refine G2 (fun _ k_ => q_callp (is_ _ _) k_ (ha := (cac (et rfl) (sees_st rfl rfl (sees_nk rfl rfl)) ca0))) ?_
  refine G (q_notb ?_)
  refine gend ?_
  refine cndbnN (fun hc1 => ?_) ?_; rotate_left
  · exact rfl
  refine awp_skip ?_
  refine awp_seq ?_
  refine rdln [4, 14] [0, 0, 0, 0, 0, 0, 0, 0, 0, 0, 0, 0, 0, 1, 1, 2] [0, 0, 0, 0, 1, 1, 1, 1, 1, 1, 1, 1, 1, 1, 2, 2] ?_
  refine Dp (fun _ => q_mv (s := .v (.c _)) ⟨rfl, rfl⟩) ?_
  refine Dp (fun _ => q_ncp ⟨rfl, rfl⟩) ?_
  refine Dp (fun _ => q_fap0 ⟨rfl, rfl⟩) ?_
  refine DLp ?_
  refine De2 (fun _ k_ => q_callv [1] [some (cC .nilp n)] [some (cC .nilp n)] (copy_0 n) k_ (ha := (cac (et rfl) rfl ca0)) (eL := (ml1 rfl ml0)) (eM := (ml1 rfl ml0))) ?_
  refine Dp (fun _ => q_mv (s := .v (.c _)) ⟨rfl, rfl⟩) ?_
  refine Dp (fun _ => q_ncp ⟨rfl, rfl⟩) ?_
  refine Dp (fun _ => q_fap0 ⟨rfl, rfl⟩) ?_
  refine DLa (xs := u8s h) ?_ (hc := sC_h hh)
  refine Dp (fun _ => q_mv (s := .v (.c _)) ⟨rfl, rfl⟩) ?_
  refine Dp (fun _ => q_ncp ⟨rfl, rfl⟩) ?_
  refine Dp (fun _ => q_fap0 ⟨rfl, rfl⟩) ?_
  refine DLa (xs := u8s ck) ?_ (hc := sC_k hh hk)
  refine Dp (fun _ => q_bls (fkc rfl (et rfl) rfl (Nat.le_of_ble_eq_true rfl) (fka rfl (et rfl) ((mapc_length ..).trans hh) (Nat.le_of_ble_eq_true rfl) (fka rfl (et rfl) ((mapc_length ..).trans hk) (Nat.le_of_eq (zs_len hh).symm) (fk0 ⟨rfl, rfl⟩))))) ?_
  refine De2 (fun _ k_ => q_boxa k_) ?_
  refine Dp (fun _ => q_as (s := .v (.c _)) ⟨rfl, rfl⟩) ?_
  refine dend ?_
  refine awp_ret ?_
  exact fx1 [0, 1, 2, 3] (hm0 := rfl) (hH := pl1 rfl (sC_map.trans rfl) (pl1 rfl rfl (pl1 rfl rfl (pl1 rfl ((congrArg (List.map _) (zs_all hh hk)).trans (sC_map.trans rfl)) pl0)))) (hn := piB rfl)
/-- (*cipher.State).Hash -/
theorem hash_ (c : List Cell) (h ck : List UInt8) (hh : h.length = 32) (hk : ck.length = 32) (hc : ∀ (π : List Nat) (H : Heap), cm (cin π true H) 7 (.rop c) = .rop c) : Good Try.prog 26 [.c (.rop (.rop c :: (u8s h ++ u8s ck)))] [] (sa (u8s h)) [] := by
  have hL : (sC (.rop c) h ck).length = 65 := sC_len hh hk
  refine good_frm 11 Try.func26 rfl rfl rfl rfl rfl rfl ?_
  refine awp_seq ?_
  refine rln ?_
  refine G2 (fun _ k_ => q_al k_) ?_
  refine gend ?_
  refine awp_seq ?_
  refine awp_seq ?_
  refine rln ?_
  refine Mv ?_
  refine G2 (fun _ k_ => q_callp (is_ _ _) k_ (ha := (cac (et rfl) (cm_st (hc _ _)) ca0))) ?_
  refine G (q_notb ?_)
  refine gend ?_
  refine cndbnN (fun hc1 => ?_) ?_; rotate_left
  · exact rfl
  refine awp_skip ?_
  refine awp_seq ?_
  refine rln ?_
  refine Mv ?_
  refine G (q_ncr ?_)
  refine G (q_far ?_)
  refine G (q_ldar (xs := u8s h) ?_ (hc := sC_h hh))
  refine G20 (fun _ k_ => q_stw k_) ?_
  refine gend ?_
  refine awp_ret ?_
  exact fpc (t := 23) (a := 2) (hn := (mapc_length ..).trans hh)
/-- (*cipher.State).Chain -/
theorem chain_ (c : List Cell) (h ck : List UInt8) (hh : h.length = 32) (hk : ck.length = 32) (hc : ∀ (π : List Nat) (H : Heap), cm (cin π true H) 7 (.rop c) = .rop c) : Good Try.prog 27 [.c (.rop (.rop c :: (u8s h ++ u8s ck)))] [] (sa (u8s ck)) [] := by
  have hL : (sC (.rop c) h ck).length = 65 := sC_len hh hk
  refine good_frm 11 Try.func27 rfl rfl rfl rfl rfl rfl ?_
  refine awp_seq ?_
  refine rln ?_
  refine G2 (fun _ k_ => q_al k_) ?_
  refine gend ?_
  refine awp_seq ?_
  refine awp_seq ?_
  refine rln ?_
  refine Mv ?_
  refine G2 (fun _ k_ => q_callp (is_ _ _) k_ (ha := (cac (et rfl) (cm_st (hc _ _)) ca0))) ?_
  refine G (q_notb ?_)
  refine gend ?_
  refine cndbnN (fun hc1 => ?_) ?_; rotate_left
  · exact rfl
  refine awp_skip ?_
  refine awp_seq ?_
  refine rln ?_
  refine Mv ?_
  refine G (q_ncr ?_)
  refine G (q_far ?_)
  refine G (q_ldar (xs := u8s ck) ?_ (hc := sC_k hh hk))
  refine G20 (fun _ k_ => q_stw k_) ?_
  refine gend ?_
  refine awp_ret ?_
  exact fpc (t := 23) (a := 2) (hn := (mapc_length ..).trans hk)
/-- The reference cipher's cells. -/
abbrev rC (b : Bool) (key : List UInt8) (n : UInt64) : List Cell := .bool b :: (u8s key ++ [c64 n])
theorem rC_k {b : Bool} {key : List UInt8} {n : UInt64} (hk : key.length = 32) : ((rC b key n).drop 1).take 32 = u8s key := by
  show (u8s key ++ [c64 n]).take 32 = _
  rw [List.take_append_of_le_length (by rw [mapc_length, hk]; exact Nat.le_refl _), List.take_of_length_le (by rw [mapc_length, hk]; exact Nat.le_refl _)]
theorem rC_n {b : Bool} {key : List UInt8} {n : UInt64} (hk : key.length = 32) : (rC b key n)[33]? = some (c64 n) := by
  show (u8s key ++ [c64 n])[32]? = _
  rw [List.getElem?_append_right (by rw [mapc_length, hk]; exact Nat.le_refl _), mapc_length, hk]; rfl
theorem rC_set {b : Bool} {key : List UInt8} {n m : UInt64} (hk : key.length = 32) : (rC b key n).set 33 (c64 m) = rC b key m := by
  show Cell.bool b :: (u8s key ++ [c64 n]).set 32 (c64 m) = _
  rw [List.set_append_right _ _ (by rw [mapc_length, hk]; exact Nat.le_refl _), mapc_length, hk]; rfl
theorem rC_len {b : Bool} {key : List UInt8} {n : UInt64} (hk : key.length = 32) : (rC b key n).length = 34 := by
  show (u8s key ++ [c64 n]).length + 1 = 34
  rw [List.length_append, mapc_length, hk]; rfl
theorem rC_map {b : Bool} {key : List UInt8} {n : UInt64} {m : CM} {d : Nat} : (rC b key n).map (cm m (d + 1)) = rC b key n := by
  show Cell.bool b :: (u8s key ++ [c64 n]).map _ = _
  rw [List.map_append, mapc_cm]; rfl
end Go.Proofs.Ytlnepajgnckolaa

/- What functions of the program do, walked over the abstract machine. -/
namespace Go.Proofs.Ytlnepajgnckolaa
open Go Go.Abs Go.Proofs Go.Proofs.Ytlnepajgnckolaa.Ch Go.Proofs.Ytlnepajgnckolaa.Po Go.Proofs.Ytlnepajgnckolaa.Ae Go.Proofs.Ytlnepajgnckolaa.Bl

set_option maxRecDepth 20000
abbrev W32 : TI := ⟨34, 48, some ([.bool false] ++ u8s (List.replicate 32 0) ++ [c64 0]), .struct [(0, 4), (1, 23), (33, 30)], true⟩
theorem w32 : tiOf Try.prog 32 = some W32 := by kernel_rfl
instance : TiOf Try.prog 32 W32 := ⟨w32⟩
instance : ZT Try.prog 32 W32 ([.bool false] ++ u8s (List.replicate 32 0) ++ [c64 0]) := ⟨w32, rfl⟩
instance : StT Try.prog 32 W32 [(0, 4), (1, 23), (33, 30)] := ⟨w32, rfl⟩
instance : FdT Try.prog 32 0 W32 [(0, 4), (1, 23), (33, 30)] 0 4 T4 1 := ⟨w32, rfl, rfl, y4, rfl⟩
instance : FdT Try.prog 32 1 W32 [(0, 4), (1, 23), (33, 30)] 1 23 T23 32 := ⟨w32, rfl, rfl, y23, rfl⟩
instance : FdT Try.prog 32 2 W32 [(0, 4), (1, 23), (33, 30)] 33 30 T30 1 := ⟨w32, rfl, rfl, y30, rfl⟩
set_option maxHeartbeats 1600000 in
/-- (*escutcheonref16.Cipher).Seal -/
theorem rseal_ok (key ad l : List UInt8) (n : UInt64) (a k : Nat) (hkey : key.length = 32) (had : ad.length = a) (ha9 : a ≤ 10000) (hl : l.length = k) (hk9 : k ≤ 10000) (h : n ≠ 18446744073709551615) : Good Try.prog 13 [.c (.ptr 0 0), .c (.ro a (u8s ad)), .c (.ro k (u8s l))] [some (rC true key n)] (.t [.c (.slc 1 0 (k + 16) 1), .c (cn 0)]) [some (rC true key (n + 1)), some (u8s (aseal key (anonce n) ad l))] := by
  have hNl := anonce_len n
  have g2 := rnonce_ n
  obtain ⟨N, hN⟩ : ∃ z, anonce n = z := ⟨_, rfl⟩
  rw [hN] at hNl g2
  rw [hN]
  have g3 := rseal_ key N ad l a k hkey hNl had ha9 hl hk9
  have hn1 : n + 1 - 1 = n := UInt64.add_sub_cancel ..
  have g2' : Good Try.prog 42 [.c (c64 (n + 1 - 1))] [] (sa (u8s N)) [] := by rw [hn1]; exact g2
  have hL : ∀ n, (rC true key n).length = 34 := fun n => rC_len hkey
  have hL1 := hL n
  have hL2 := hL (n + 1)
  refine good_frm 41 Try.func13 rfl rfl rfl rfl rfl rfl ?_
  refine awp_seq ?_
  refine rln ?_
  refine As ?_
  refine G (q_as (s := sc (cn 0)) ?_)
  refine gend ?_
  refine awp_seq ?_
  refine awp_seq ?_
  refine rln ?_
  refine Mv ?_
  refine G (q_ncp ?_)
  refine G (q_fap0 ?_)
  refine G  (q_ldp ?_)
  refine G (q_notb ?_)
  refine gend ?_
  refine cndbnN (fun hc1 => ?_) ?_; rotate_left
  · exact rfl
  refine awp_skip ?_
  refine awp_seq ?_
  refine awp_seq ?_
  refine rln ?_
  refine Mv ?_
  refine G (q_ncp ?_)
  refine G (q_fap0 ?_)
  refine G (q_ldp ?_ (hc := rC_n hkey))
  refine G (q_eql64 (y := 18446744073709551615) ?_)
  refine gend ?_
  refine cndN (fun hc2 => ?_) ?_; rotate_left
  · exact h
  refine awp_skip ?_
  refine awp_seq ?_
  refine rln ?_
  refine Mv ?_
  refine Mv ?_
  refine G (q_ncp ?_)
  refine G (q_fap0 ?_)
  refine G (q_ldp ?_ (hc := rC_n hkey))
  refine G (q_add64 (y := 1) ?_)
  refine G (q_ncp ?_)
  refine G (q_fap0 ?_)
  refine G20 (fun _ k_ => q_st k_) ?_ (hH := by simp only [List.set_cons_zero]; exact congrArg (fun z => [some z]) (rC_set hkey))
  refine gend ?_
  refine awp_seq ?_
  refine rdln [12] [0, 0, 0, 0, 0, 0, 0, 0, 0, 0, 0, 0, 0, 1, 1] [0, 0, 0, 0, 0, 0, 0, 0, 0, 0, 0, 0, 1, 1, 1] ?_
  refine Dp (fun _ => q_mv (s := .v (.c _)) ⟨rfl, rfl⟩) ?_
  refine Dp (fun _ => q_ncp ⟨rfl, rfl⟩) ?_
  refine Dp (fun _ => q_fap0 ⟨rfl, rfl⟩) ?_
  refine DLa (xs := u8s key) ?_ (hc := rC_k hkey)
  refine Dp (fun _ => q_mv (s := .v (.c _)) ⟨rfl, rfl⟩) ?_
  refine Dp (fun _ => q_ncp ⟨rfl, rfl⟩) ?_
  refine Dp (fun _ => q_fap0 ⟨rfl, rfl⟩) ?_
  refine DLp ?_ (hc := rC_n hkey)
  refine Dp (fun _ => q_sub64 (y := 1) ⟨rfl, rfl⟩) ?_
  refine Dp (fun _ => q_callp g2' ⟨rfl, rfl⟩ (ha := (cac (et rfl) cm_int ca0))) ?_
  refine Dp (fun _ => q_mv (s := .v (.c _)) ⟨rfl, rfl⟩) ?_
  refine Dp (fun _ => q_mv (s := .v (.c _)) ⟨rfl, rfl⟩) ?_
  refine De2 (fun _ k_ => q_calln g3 k_ (ha := (caa (et rfl) sees_m (caa (et rfl) sees_m (cac (et rfl) sees_ro (cac (et rfl) sees_ro ca0)))))) ?_
  refine Dp (fun _ => q_as (s := .v (.c _)) ⟨rfl, rfl⟩) ?_
  refine Dp (fun _ => q_as (s := sc (cn 0)) ⟨rfl, rfl⟩) ?_
  refine dend ?_
  refine awp_ret ?_
  exact fx2 [0, 1] (hm0 := rfl) (hH := pl1 rfl rC_map (pl1 rfl sees_m pl0)) (hn := piB rfl)
end Go.Proofs.Ytlnepajgnckolaa

/- What functions of the program do, walked over the abstract machine. -/
namespace Go.Proofs.Ytlnepajgnckolaa
open Go Go.Abs Go.Proofs Go.Proofs.Ytlnepajgnckolaa.Ch Go.Proofs.Ytlnepajgnckolaa.Po Go.Proofs.Ytlnepajgnckolaa.Ae Go.Proofs.Ytlnepajgnckolaa.Bl

set_option maxRecDepth 20000
theorem rc_new {key : List UInt8} (hk : key.length = 32) : splice (([Cell.bool false] ++ u8s (List.replicate 32 0) ++ [c64 0]).set 0 (.bool true)) 1 (u8s key) = rC true key 0 := by
  unfold splice
  rw [mapc_length, hk]; rfl
set_option maxHeartbeats 3200000 in
/-- escutcheonlaw16.CipherApart -/
theorem apart_ (key a b : List UInt8) (n m : Nat) (hkey : key.length = 32) (ha : a.length = n) (hb : b.length = m) : Good Try.prog 5 [.a (u8s key), .c (.ro n (u8s a)), .c (.ro m (u8s b))] [] (sc (.bool true)) [] := by
  refine good_frm 95 Try.func5 rfl rfl rfl rfl rfl rfl ?_
  refine awp_seq ?_
  refine rln ?_
  refine G2 (fun _ k_ => q_boxa  k_) ?_
  refine As ?_
  refine gend ?_
  refine awp_seq ?_
  refine awp_seq ?_
  refine rln ?_
  refine Mv ?_
  refine G (q_leno ?_)
  refine G (q_gtrn (y := 200) ?_)
  refine Mv ?_
  refine Aspd 19 (fun hb4 => ?_) (fun hb4 => ?_)
  · refine Gn ?_
    refine Gn ?_
    refine Gn ?_
    refine G (q_pkt ?_)
    refine gend ?_
    refine cndT ?_
    refine awp_seq ?_
    refine rln ?_
    refine G2 (fun _ k_ => q_callp known_ k_) ?_
    refine As ?_
    refine gend ?_
    refine awp_ret ?_
    exact fp1
  refine Gg (q_mv (s := .v (.c _)) ?_)
  refine Gg (q_leno ?_)
  refine Gg (q_gtrn (y := 200) ?_)
  refine G (q_pkf ?_)
  refine gend ?_
  refine cnd (fun hc1 => ?_) (fun hc1 => ?_)
  · refine awp_seq ?_
    refine rln ?_
    refine G2 (fun _ k_ => q_callp known_ k_) ?_
    refine As ?_
    refine gend ?_
    refine awp_ret ?_
    exact fp1
  have hn9 : n ≤ 200 := by omega
  have hm9 : m ≤ 200 := by omega
  have hSl := aseal_len key (anonce 0) a b
  have g1 := cseal_ok key a b 0 n m hkey ha (by omega) hb (by omega) (by decide)
  have g2 := rseal_ok key a b 0 n m hkey ha (by omega) hb (by omega) (by decide)
  have gk := rekey_k key 0 hkey
  obtain ⟨S, hS⟩ : ∃ z, aseal key (anonce 0) a b = z := ⟨_, rfl⟩
  rw [hS] at g1 g2 hSl
  rw [hb] at hSl
  obtain ⟨Q, hQ⟩ : ∃ z, anext key = z := ⟨_, rfl⟩
  have hQl : Q.length = 32 := by rw [← hQ]; exact anext_len key
  rw [hQ] at gk
  have gs := setn_k Q 0 7
  have gb := begin_s ⟨#[110]⟩ (by decide)
  obtain ⟨P, hP⟩ : ∃ z, pad32 ⟨#[110]⟩ = z := ⟨_, rfl⟩
  have hPl : P.length = 32 := by rw [← hP]; exact pad32_len (by decide)
  rw [hP] at gb
  have gc := scopy_0 P P hPl hPl 0
  have gm := mixhash_0 P P hPl hPl 0 a n ha (by omega)
  obtain ⟨B, hB⟩ : ∃ z, bsum (P ++ a) = z := ⟨_, rfl⟩
  have hBl : B.length = 32 := by rw [← hB]; exact bsum_len _
  rw [hB] at gm
  have gx := mixkey_0 B P hBl hPl 0 b m hb (by omega)
  obtain ⟨X, hX⟩ : ∃ z, h3x P b = z := ⟨_, rfl⟩
  have hXl : X.length = 32 := by rw [← hX]; exact h3x_len _ _
  obtain ⟨Y, hY⟩ : ∃ z, h3y P b = z := ⟨_, rfl⟩
  have hYl : Y.length = 32 := by rw [← hY]; exact h3y_len _ _
  rw [hX, hY] at gx
  have gh := hash_ [.nilp, c64 0, .bool true] P P hPl hPl (fun _ _ => rfl)
  have gq := chain_ [.nilp, c64 0, .bool true] P P hPl hPl (fun _ _ => rfl)
  refine awp_skip ?_
  refine awp_seq ?_
  refine rln ?_
  refine G (q_ldw ?_)
  refine G2 (fun _ k_ => q_callv [] [] [some (u8s key), some (cC (.ptr 0 0) 0)] (new_ key hkey) k_ (ha := (caa (et rfl) sees_m ca0)) (eL := ml0) (eM := (ml1 sees_m (ml1 rfl ml0)))) ?_
  refine As ?_
  refine gend ?_
  refine awp_seq ?_
  refine rln ?_
  refine Mv ?_
  refine G2 (fun _ k_ => q_callv [2, 1] [some (cC (.ptr 1 0) 0), some (u8s key)] [some (cC (.ptr 1 0) 0)] (copy_k key 0) k_ (ha := (cac (et rfl) rfl ca0)) (eL := (ml1 rfl (ml1 sees_m ml0))) (eM := (ml1 rfl ml0))) ?_
  refine As ?_
  refine gend ?_
  refine awp_seq ?_
  refine rln ?_
  refine Mv ?_
  refine G2 (fun _ k_ => q_callv [2, 1] [some (cC (.ptr 2 0) 0), some (u8s key)] [some (u8s Q)] gk k_ (ha := (cac (et rfl) rfl ca0)) (eL := (ml1 rfl (ml1 sees_m ml0))) (eM := (ml1 sees_m ml0))) ?_
  refine gend ?_
  refine awp_seq ?_
  refine rln ?_
  refine Mv ?_
  refine G2 (fun _ k_ => q_callv [2, 4] [some (cC (.ptr 1 0) 7), some (u8s Q)] [] gs k_ (ha := (cac (et rfl) rfl (cac rfl cm_int ca0))) (eL := (ml1 rfl (ml1 sees_m ml0))) (eM := ml0)) ?_
  refine gend ?_
  refine awp_seq ?_
  refine rln ?_
  refine Mv ?_
  refine Mv ?_
  refine Mv ?_
  refine G2 (fun _ k_ => q_callv [3, 1] [some (cC (.ptr 1 0) (0 + 1)), some (u8s key)] [some (u8s S)] g1 k_ (ha := (cac (et rfl) rfl (cac (et rfl) sees_ro (cac (et rfl) sees_ro ca0)))) (eL := (ml1 rfl (ml1 sees_m ml0))) (eM := (ml1 sees_m ml0))) ?_
  refine G (q_mv (s := .t _) ?_)
  refine G (q_ext (y := .c _) ?_)
  refine G (q_ext (y := .c _) ?_)
  refine As ?_
  refine As ?_
  refine gend ?_
  refine awp_seq ?_
  refine rln ?_
  refine G (q_ldw ?_)
  refine G (q_bls (fkc rfl rfl rfl (Nat.le_of_ble_eq_true rfl) (fka rfl (et rfl) ((mapc_length ..).trans hkey) (Nat.le_of_ble_eq_true rfl) (fk0 ?_))))
  refine G2 (fun _ k_ => q_boxa k_) ?_ (hH := by simp only [List.cons_append, List.nil_append]; exact congrArg (fun z => [_, _, _, _, _, _, some z]) (rc_new hkey))
  refine As ?_
  refine gend ?_
  refine awp_seq ?_
  refine rln ?_
  refine Mv ?_
  refine Mv ?_
  refine Mv ?_
  refine G2 (fun _ k_ => q_callv [6] [some (rC true key (0 + 1))] [some (u8s S)] g2 k_ (ha := (cac (et rfl) rfl (cac (et rfl) sees_ro (cac (et rfl) sees_ro ca0)))) (eL := (ml1 rC_map ml0)) (eM := (ml1 sees_m ml0)) (e2 := pl1 rfl rC_map pl0)) ?_
  refine G (q_mv (s := .t _) ?_)
  refine G (q_ext (y := .c _) ?_)
  refine G (q_ext (y := .c _) ?_)
  refine As ?_
  refine As ?_
  refine gend ?_
  refine awp_seq ?_
  refine rln ?_
  refine G2 (fun _ k_ => q_callv [] [] [some (cC .nilp 0), some (sC (.ptr 0 0) P P)] gb k_ (ha := (cac rfl cm_str ca0)) (eL := ml0) (eM := (ml1 rfl (ml1 (sC_map.trans rfl) ml0)))) ?_
  refine As ?_
  refine gend ?_
  refine awp_seq ?_
  refine rln ?_
  refine Mv ?_
  refine G2 (fun _ k_ => q_callv [9, 8] [some (sC (.ptr 1 0) P P), some (cC .nilp 0)] [some (cC .nilp 0), some (sC (.ptr 2 0) P P)] gc k_ (ha := (cac (et rfl) rfl ca0)) (eL := (ml1 (sC_map.trans rfl) (ml1 rfl ml0))) (eM := (ml1 rfl (ml1 (sC_map.trans rfl) ml0))) (e2 := pl1 rfl (sC_map.trans rfl) (pl1 rfl rfl pl0))) ?_
  refine As ?_
  refine gend ?_
  refine awp_seq ?_
  refine rln ?_
  refine Mv ?_
  refine Mv ?_
  refine G2 (fun _ k_ => q_callv [9, 8] [some (sC (.ptr 1 0) B P), some (cC .nilp 0)] [] gm k_ (ha := (cac (et rfl) rfl (cac (et rfl) sees_ro ca0))) (eL := (ml1 (sC_map.trans rfl) (ml1 rfl ml0))) (eM := ml0) (e2 := pl1 rfl (sC_map.trans rfl) (pl1 rfl rfl pl0))) ?_
  refine gend ?_
  refine awp_seq ?_
  refine rln ?_
  refine Mv ?_
  refine Mv ?_
  refine G2 (fun _ k_ => q_callv [9, 8] [some (sC (.ptr 3 0) B X), some (cC .nilp 0)] [some (u8s Y), some (cC (.ptr 2 0) 0)] gx k_ (ha := (cac (et rfl) rfl (cac (et rfl) sees_ro ca0))) (eL := (ml1 (sC_map.trans rfl) (ml1 rfl ml0))) (eM := (ml1 sees_m (ml1 rfl ml0))) (e2 := pl1 rfl (sC_map.trans rfl) (pl1 rfl rfl pl0))) ?_
  refine gend ?_
  refine awp_seq ?_
  refine rln ?_
  refine Mv ?_
  refine G (q_eqln (y := 0) ?_)
  refine Mv ?_
  refine Aknd 61 (fun hb3 => ?_) ?_; rotate_left
  · exact by decide
  refine Gg (q_mv (s := .v (.c _)) ?_)
  refine Gg (q_csl ?_)
  refine Gg (q_mv (s := .v (.c _)) ?_)
  refine Gg (q_csl ?_)
  refine Gg (q_eqls ?_)
  refine G (q_pkt ?_)
  refine Mv ?_
  refine Aknd 68 (fun hb10 => ?_) ?_; rotate_left
  · exact rfl
  refine Gg (q_mv (s := .v (.c _)) ?_)
  refine G2g (fun _ k_ => q_callp (n_ _ _ _) k_ (ha := (cac (et rfl) (sees_key rfl rfl hQl rfl rfl) ca0))) ?_
  refine Gg (q_eql64 (y := 7) ?_)
  refine G (q_pkt ?_)
  refine Mv ?_
  refine Aknd 73 (fun hb15 => ?_) ?_; rotate_left
  · exact by decide
  refine Gg (q_mv (s := .v (.c _)) ?_)
  refine G2g (fun _ k_ => q_callp (n_ _ _ _) k_ (ha := (cac (et rfl) (sees_key rfl rfl hkey rfl rfl) ca0))) ?_
  refine Gg (q_eql64 (y := 1) ?_)
  refine G (q_pkt ?_)
  refine Mv ?_
  refine Aknd 78 (fun hb20 => ?_) ?_; rotate_left
  · exact by decide
  refine Gg (q_mv (s := .v (.c _)) ?_)
  refine G2g (fun _ k_ => q_callp gh k_ (ha := (cac (et rfl) (sees_st rfl rfl (sees_nk rfl rfl)) ca0))) ?_
  refine G2g (fun _ k_ => q_callv [] [] [some (cC .nilp 0), some (sC (.ptr 0 0) P P)] gb k_ (ha := (cac rfl cm_str ca0)) (eL := ml0) (eM := (ml1 rfl (ml1 (sC_map.trans rfl) ml0)))) ?_
  refine G2g (fun _ k_ => q_callp gh k_ (ha := (cac (et rfl) (sees_st rfl rfl (sees_nk rfl rfl)) ca0))) ?_
  refine Gg (q_eqa8 ?_)
  refine G (q_pkt ?_)
  refine Mv ?_
  refine Aknd 85 (fun hb27 => ?_) ?_; rotate_left
  · exact rfl
  refine Gg (q_mv (s := .v (.c _)) ?_)
  refine G2g (fun _ k_ => q_callp gq k_ (ha := (cac (et rfl) (sees_st rfl rfl (sees_nk rfl rfl)) ca0))) ?_
  refine G2g (fun _ k_ => q_callv [] [] [some (cC .nilp 0), some (sC (.ptr 0 0) P P)] gb k_ (ha := (cac rfl cm_str ca0)) (eL := ml0) (eM := (ml1 rfl (ml1 (sC_map.trans rfl) ml0)))) ?_
  refine G2g (fun _ k_ => q_callp gq k_ (ha := (cac (et rfl) (sees_st rfl rfl (sees_nk rfl rfl)) ca0))) ?_
  refine Gg (q_eqa8 ?_)
  refine G (q_pkt ?_)
  refine Mv ?_
  refine Aknd 92 (fun hb34 => ?_) ?_; rotate_left
  · exact rfl
  refine G2g (fun _ k_ => q_callp known_ k_) ?_
  refine G (q_pkt ?_)
  refine As ?_
  refine gend ?_
  refine awp_ret ?_
  exact fp1
end Go.Proofs.Ytlnepajgnckolaa


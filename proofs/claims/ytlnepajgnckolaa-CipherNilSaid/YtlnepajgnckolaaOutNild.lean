/- Texts that the proof stands on, put together: the abstract machine, and what functions do over it. -/
import Derived.Test.YtlnepajgnckolaaOutNilc
/- What functions of the program do, walked over the abstract machine. -/
namespace Go.Proofs.Ytlnepajgnckolaa
open Go Go.Abs Go.Proofs Go.Proofs.Ytlnepajgnckolaa.Ch Go.Proofs.Ytlnepajgnckolaa.Po Go.Proofs.Ytlnepajgnckolaa.Ae Go.Proofs.Ytlnepajgnckolaa.Bl

set_option maxRecDepth 20000
abbrev W70 : TI := ⟨1, 24, some ([.nils]), .slice 27, true⟩
theorem w70 : tiOf Try.prog 70 = some W70 := by kernel_rfl
instance : TiOf Try.prog 70 W70 := ⟨w70⟩
instance : SlT Try.prog 70 W70 27 T27 1 := ⟨w70, rfl, y27, rfl⟩
abbrev W73 : TI := ⟨1, 24, some ([.nils]), .slice 47, true⟩
theorem w73 : tiOf Try.prog 73 = some W73 := by kernel_rfl
instance : TiOf Try.prog 73 W73 := ⟨w73⟩
instance : SlT Try.prog 73 W73 47 T47 1 := ⟨w73, rfl, y47, rfl⟩
set_option maxHeartbeats 3200000 in
/-- escutcheonlaw16.CipherNil -/
theorem cipherNil : Good Try.prog 7 [] [] (sc (.bool true)) [] := by
  refine good_frm 126 Try.func7 rfl rfl rfl rfl rfl rfl ?_
  refine awp_seq ?_
  refine rln ?_
  refine As ?_
  refine gend ?_
  refine awp_seq ?_
  refine rln ?_
  refine G2 (fun _ k_ => q_al k_) ?_
  refine gend ?_
  refine awp_seq ?_
  refine rln ?_
  refine G2 (fun _ k_ => q_bsl (fkc rfl rfl rfl (Nat.le_of_ble_eq_true rfl) (fkc rfl (et rfl) rfl (Nat.le_of_ble_eq_true rfl) (fk0 k_)))) ?_
  refine As ?_
  refine gend ?_
  refine awp_seq ?_
  refine awp_seq ?_
  refine rln ?_
  refine G (q_as (s := sc (cn 0)) ?_)
  refine gend ?_
  refine awp_block ?_
  refine awp_loop (fun x : {i : Nat // i ≤ 2} => ⟨frm 126 [(2, sc (.slc 1 0 2 1)), (3, sc (cn x.1))], [some zC, some [.nilp, .ptr 0 0]]⟩) (fun x => 2 - x.1) ⟨0, Nat.zero_le _⟩ (sle_sub ⟨rfl, rfl, trivial⟩ rfl) fun x => ?_   -- live: [2, 3]
  refine awp_seq ?_
  refine awp_seq ?_
  refine rln ?_
  refine Mv ?_
  refine Mv ?_
  refine G (q_lenc ?_)
  refine G (q_lssn ?_)
  refine gend ?_
  refine cnd (fun hc1 => ?_) (fun hc1 => ?_); rotate_left
  · refine awp_exit ?_
    rw [show x.1 = 2 from (by have := x.2; omega)]
    refine awp_seq ?_
    refine rln ?_
    refine G2 (fun _ k_ => q_al k_) ?_
    refine gend ?_
    refine awp_seq ?_
    refine rln ?_
    refine G2 (fun _ k_ => q_bsl (fkc rfl rfl rfl (Nat.le_of_ble_eq_true rfl) (fkc rfl (et rfl) rfl (Nat.le_of_ble_eq_true rfl) (fk0 k_)))) ?_
    refine As ?_
    refine gend ?_
    refine awp_seq ?_
    refine awp_seq ?_
    refine rln ?_
    refine G (q_as (s := sc (cn 0)) ?_)
    refine gend ?_
    refine awp_block ?_
    refine awp_loop (fun x2 : {i : Nat // i ≤ 2} => ⟨frm 126 [(10, sc (.slc 3 0 2 1)), (11, sc (cn x2.1))], [some zC, some [.nilp, .ptr 0 0], some zS, some [.nilp, .ptr 2 0]]⟩) (fun x2 => 2 - x2.1) ⟨0, Nat.zero_le _⟩ (sle_sub ⟨rfl, rfl, trivial⟩ rfl) fun x2 => ?_   -- live: [10, 11]
    refine awp_seq ?_
    refine awp_seq ?_
    refine rln ?_
    refine Mv ?_
    refine Mv ?_
    refine G (q_lenc ?_)
    refine G (q_lssn ?_)
    refine gend ?_
    refine cnd (fun hc2 => ?_) (fun hc2 => ?_); rotate_left
    · refine awp_exit ?_
      rw [show x2.1 = 2 from (by have := x2.2; omega)]
      refine awp_seq ?_
      refine rln ?_
      refine G2 (fun _ k_ => q_callp known_ k_) ?_
      refine As ?_
      refine gend ?_
      refine awp_ret ?_
      exact fp1
    obtain ⟨x2, hx_⟩ := x2
    have hc_ : x2 < 2 := hc2
    rcases (show x2 = 0 ∨ x2 = 1 by omega) with rfl | rfl
    · refine awp_skip ?_
      refine awp_seq ?_
      refine awp_block ?_
      refine awp_seq ?_
      refine rln ?_
      refine Mv ?_
      refine Mv ?_
      refine G (q_ixs1 ?_)
      refine G (q_ldp ?_)
      refine As ?_
      refine gend ?_
      refine awp_seq ?_
      refine rln ?_
      refine Mv ?_
      refine G2 (fun _ k_ => q_callp mixhash_nil k_ (ha := (cac (et rfl) rfl (cac rfl sees_nil8 ca0)))) ?_
      refine gend ?_
      refine awp_seq ?_
      refine rln ?_
      refine Mv ?_
      refine G2 (fun _ k_ => q_callp mixkey_nil k_ (ha := (cac (et rfl) rfl (cac rfl sees_nil8 ca0)))) ?_
      refine gend ?_
      refine awp_seq ?_
      refine rln ?_
      refine Mv ?_
      refine G2 (fun _ k_ => q_callp sseal_nil k_ (ha := (cac (et rfl) rfl (cac rfl sees_nil8 ca0)))) ?_
      refine G (q_mv (s := .t _) ?_)
      refine G (q_ext (y := .c _) ?_)
      refine G (q_ext (y := .c _) ?_)
      refine As ?_
      refine As ?_
      refine gend ?_
      refine awp_seq ?_
      refine rln ?_
      refine Mv ?_
      refine G2 (fun _ k_ => q_callp sopen_nil k_ (ha := (cac (et rfl) rfl (cac rfl sees_nil8 ca0)))) ?_
      refine G (q_mv (s := .t _) ?_)
      refine G (q_ext (y := .c _) ?_)
      refine G (q_ext (y := .c _) ?_)
      refine As ?_
      refine As ?_
      refine gend ?_
      refine awp_seq ?_
      refine rln ?_
      refine Mv ?_
      refine G2 (fun _ k_ => q_callp split_nil k_ (ha := (cac (et rfl) rfl ca0))) ?_
      refine G (q_mv (s := .t _) ?_)
      refine G (q_ext (y := .c _) ?_)
      refine G (q_ext (y := .c _) ?_)
      refine As ?_
      refine As ?_
      refine gend ?_
      refine awp_seq ?_
      refine rln ?_
      refine Mv ?_
      refine G (q_neqn (y := 1) ?_)
      refine Mv ?_
      refine Akfd 96 (fun hb3 => ?_) ?_; rotate_left
      · exact by decide
      refine Gg (q_mv (s := .v (.c _)) ?_)
      refine Gg (q_neqn (y := 1) ?_)
      refine G (q_pkf ?_)
      refine Mv ?_
      refine Akfd 100 (fun hb7 => ?_) ?_; rotate_left
      · exact by decide
      refine Gg (q_mv (s := .v (.c _)) ?_)
      refine Gg (q_neqp ?_)
      refine G (q_pkf ?_)
      refine Mv ?_
      refine Akf 104 (fun hb11 => ?_) ?_; rotate_left
      · exact by decide
      refine Gg (q_mv (s := .v (.c _)) ?_)
      refine Gg (q_neqp ?_)
      refine G (q_pkf ?_)
      refine Mv ?_
      refine Akf 108 (fun hb15 => ?_) ?_; rotate_left
      · exact by decide
      refine Gg (q_mv (s := .v (.c _)) ?_)
      refine G2g (fun _ k_ => q_callp hash_nil k_ (ha := (cac (et rfl) rfl ca0))) ?_
      refine Gg (q_bla (fk0 ?_))
      refine Gg (q_nea8 ?_)
      refine G (q_pkf ?_)
      refine Mv ?_
      refine Akf 114 (fun hb21 => ?_) ?_; rotate_left
      · exact by decide
      refine Gg (q_mv (s := .v (.c _)) ?_)
      refine G2g (fun _ k_ => q_callp chain_nil k_ (ha := (cac (et rfl) rfl ca0))) ?_
      refine Gg (q_bla (fk0 ?_))
      refine Gg (q_nea8 ?_)
      refine G (q_pkf ?_)
      refine Mv ?_
      refine Akf 120 (fun hb27 => ?_) ?_; rotate_left
      · exact by decide
      refine Gg (q_mv (s := .v (.c _)) ?_)
      refine G2g (fun _ k_ => q_callp scopy_nil k_ (ha := (cac (et rfl) rfl ca0))) ?_
      refine Gg (q_neqp ?_)
      refine G (q_pkf ?_)
      refine gend ?_
      refine cndF ?_
      refine awp_skip ?_
      refine rln ?_
      refine Mv ?_
      refine G (q_addn (y := 1) ?_)
      refine As ?_
      refine gend ?_
      exact ⟨⟨0 + 1, by omega⟩, by show 2 - (0 + 1) < 2 - 0; omega, sle_sub ⟨rfl, rfl, trivial⟩ rfl⟩   -- endloop 2
    · refine awp_skip ?_
      refine awp_seq ?_
      refine awp_block ?_
      refine awp_seq ?_
      refine rln ?_
      refine Mv ?_
      refine Mv ?_
      refine G (q_ixs1 ?_)
      refine G (q_ldp ?_)
      refine As ?_
      refine gend ?_
      refine awp_seq ?_
      refine rln ?_
      refine Mv ?_
      refine G2 (fun _ k_ => q_callv [2] [some zS] [] mixhash_zero k_ (ha := (cac (et rfl) rfl (cac rfl sees_nil8 ca0))) (eL := (ml1 zS_map ml0)) (eM := ml0)) ?_
      refine gend ?_
      refine awp_seq ?_
      refine rln ?_
      refine Mv ?_
      refine G2 (fun _ k_ => q_callv [2] [some zS] [] mixkey_zero k_ (ha := (cac (et rfl) rfl (cac rfl sees_nil8 ca0))) (eL := (ml1 zS_map ml0)) (eM := ml0)) ?_
      refine gend ?_
      refine awp_seq ?_
      refine rln ?_
      refine Mv ?_
      refine G2 (fun _ k_ => q_callv [2] [some zS] [] sseal_zero k_ (ha := (cac (et rfl) rfl (cac rfl sees_nil8 ca0))) (eL := (ml1 zS_map ml0)) (eM := ml0)) ?_
      refine G (q_mv (s := .t _) ?_)
      refine G (q_ext (y := .c _) ?_)
      refine G (q_ext (y := .c _) ?_)
      refine As ?_
      refine As ?_
      refine gend ?_
      refine awp_seq ?_
      refine rln ?_
      refine Mv ?_
      refine G2 (fun _ k_ => q_callv [2] [some zS] [] sopen_zero k_ (ha := (cac (et rfl) rfl (cac rfl sees_nil8 ca0))) (eL := (ml1 zS_map ml0)) (eM := ml0)) ?_
      refine G (q_mv (s := .t _) ?_)
      refine G (q_ext (y := .c _) ?_)
      refine G (q_ext (y := .c _) ?_)
      refine As ?_
      refine As ?_
      refine gend ?_
      refine awp_seq ?_
      refine rln ?_
      refine Mv ?_
      refine G2 (fun _ k_ => q_callv [2] [some zS] [] split_zero k_ (ha := (cac (et rfl) rfl ca0)) (eL := (ml1 zS_map ml0)) (eM := ml0)) ?_
      refine G (q_mv (s := .t _) ?_)
      refine G (q_ext (y := .c _) ?_)
      refine G (q_ext (y := .c _) ?_)
      refine As ?_
      refine As ?_
      refine gend ?_
      refine awp_seq ?_
      refine rln ?_
      refine Mv ?_
      refine G (q_neqn (y := 1) ?_)
      refine Mv ?_
      refine Akfd 96 (fun hb3 => ?_) ?_; rotate_left
      · exact by decide
      refine Gg (q_mv (s := .v (.c _)) ?_)
      refine Gg (q_neqn (y := 1) ?_)
      refine G (q_pkf ?_)
      refine Mv ?_
      refine Akfd 100 (fun hb7 => ?_) ?_; rotate_left
      · exact by decide
      refine Gg (q_mv (s := .v (.c _)) ?_)
      refine Gg (q_neqp ?_)
      refine G (q_pkf ?_)
      refine Mv ?_
      refine Akf 104 (fun hb11 => ?_) ?_; rotate_left
      · exact by decide
      refine Gg (q_mv (s := .v (.c _)) ?_)
      refine Gg (q_neqp ?_)
      refine G (q_pkf ?_)
      refine Mv ?_
      refine Akf 108 (fun hb15 => ?_) ?_; rotate_left
      · exact by decide
      refine Gg (q_mv (s := .v (.c _)) ?_)
      refine G2g (fun _ k_ => q_callp hash_zero k_ (ha := (cac (et rfl) (sees_zS rfl rfl) ca0))) ?_
      refine Gg (q_bla (fk0 ?_))
      refine Gg (q_nea8 ?_)
      refine G (q_pkf ?_)
      refine Mv ?_
      refine Akf 114 (fun hb21 => ?_) ?_; rotate_left
      · exact by decide
      refine Gg (q_mv (s := .v (.c _)) ?_)
      refine G2g (fun _ k_ => q_callp chain_zero k_ (ha := (cac (et rfl) (sees_zS rfl rfl) ca0))) ?_
      refine Gg (q_bla (fk0 ?_))
      refine Gg (q_nea8 ?_)
      refine G (q_pkf ?_)
      refine Mv ?_
      refine Akf 120 (fun hb27 => ?_) ?_; rotate_left
      · exact by decide
      refine Gg (q_mv (s := .v (.c _)) ?_)
      refine G2g (fun _ k_ => q_callv [2] [some zS] [] scopy_zero k_ (ha := (cac (et rfl) rfl ca0)) (eL := (ml1 zS_map ml0)) (eM := ml0)) ?_
      refine Gg (q_neqp ?_)
      refine G (q_pkf ?_)
      refine gend ?_
      refine cndF ?_
      refine awp_skip ?_
      refine rln ?_
      refine Mv ?_
      refine G (q_addn (y := 1) ?_)
      refine As ?_
      refine gend ?_
      exact ⟨⟨1 + 1, by omega⟩, by show 2 - (1 + 1) < 2 - 1; omega, sle_sub ⟨rfl, rfl, trivial⟩ rfl⟩   -- endloop 2
  obtain ⟨x, hx_⟩ := x
  have hc_ : x < 2 := hc1
  rcases (show x = 0 ∨ x = 1 by omega) with rfl | rfl
  · refine awp_skip ?_
    refine awp_seq ?_
    refine awp_block ?_
    refine awp_seq ?_
    refine rln ?_
    refine Mv ?_
    refine Mv ?_
    refine G (q_ixs1 ?_)
    refine G (q_ldp ?_)
    refine As ?_
    refine gend ?_
    refine awp_seq ?_
    refine rln ?_
    refine Mv ?_
    refine G2 (fun _ k_ => q_callp rekey_nil k_ (ha := (cac (et rfl) rfl ca0))) ?_
    refine gend ?_
    refine awp_seq ?_
    refine rln ?_
    refine Mv ?_
    refine G2 (fun _ k_ => q_callp (setn_nil 5) k_ (ha := (cac (et rfl) rfl (cac rfl cm_int ca0)))) ?_
    refine gend ?_
    refine awp_seq ?_
    refine rln ?_
    refine Mv ?_
    refine G2 (fun _ k_ => q_callp cseal_nil k_ (ha := (cac (et rfl) rfl (cac rfl sees_nil8 (cac rfl sees_nil8 ca0))))) ?_
    refine G (q_mv (s := .t _) ?_)
    refine G (q_ext (y := .c _) ?_)
    refine G (q_ext (y := .c _) ?_)
    refine As ?_
    refine As ?_
    refine gend ?_
    refine awp_seq ?_
    refine rln ?_
    refine Mv ?_
    refine G2 (fun _ k_ => q_callp copen_nil k_ (ha := (cac (et rfl) rfl (cac rfl sees_nil8 (cac rfl sees_nil8 ca0))))) ?_
    refine G (q_mv (s := .t _) ?_)
    refine G (q_ext (y := .c _) ?_)
    refine G (q_ext (y := .c _) ?_)
    refine As ?_
    refine As ?_
    refine gend ?_
    refine awp_seq ?_
    refine rln ?_
    refine Mv ?_
    refine G (q_neqn (y := 1) ?_)
    refine Mv ?_
    refine Akfd 46 (fun hb3 => ?_) ?_; rotate_left
    · exact by decide
    refine Gg (q_mv (s := .v (.c _)) ?_)
    refine Gg (q_neqn (y := 1) ?_)
    refine G (q_pkf ?_)
    refine Mv ?_
    refine Akfd 50 (fun hb7 => ?_) ?_; rotate_left
    · exact by decide
    refine Gg (q_mv (s := .v (.c _)) ?_)
    refine G2g (fun _ k_ => q_callp n_nil k_ (ha := (cac (et rfl) rfl ca0))) ?_
    refine Gg (q_neq64 (y := 0) ?_)
    refine G (q_pkf ?_)
    refine Mv ?_
    refine Akfd 55 (fun hb12 => ?_) ?_; rotate_left
    · exact by decide
    refine Gg (q_mv (s := .v (.c _)) ?_)
    refine G2g (fun _ k_ => q_callp has_nil k_ (ha := (cac (et rfl) rfl ca0))) ?_
    refine G (q_pkf ?_)
    refine Mv ?_
    refine Akf 59 (fun hb16 => ?_) ?_; rotate_left
    · exact by decide
    refine Gg (q_mv (s := .v (.c _)) ?_)
    refine G2g (fun _ k_ => q_callp copy_nil k_ (ha := (cac (et rfl) rfl ca0))) ?_
    refine Gg (q_neqp ?_)
    refine G (q_pkf ?_)
    refine gend ?_
    refine cndF ?_
    refine awp_skip ?_
    refine rln ?_
    refine Mv ?_
    refine G (q_addn (y := 1) ?_)
    refine As ?_
    refine gend ?_
    exact ⟨⟨0 + 1, by omega⟩, by show 2 - (0 + 1) < 2 - 0; omega, sle_sub ⟨rfl, rfl, trivial⟩ rfl⟩   -- endloop 1
  · refine awp_skip ?_
    refine awp_seq ?_
    refine awp_block ?_
    refine awp_seq ?_
    refine rln ?_
    refine Mv ?_
    refine Mv ?_
    refine G (q_ixs1 ?_)
    refine G (q_ldp ?_)
    refine As ?_
    refine gend ?_
    refine awp_seq ?_
    refine rln ?_
    refine Mv ?_
    refine G2 (fun _ k_ => q_callv [0] [some zC] [] rekey_zero k_ (ha := (cac (et rfl) rfl ca0)) (eL := (ml1 rfl ml0)) (eM := ml0)) ?_
    refine gend ?_
    refine awp_seq ?_
    refine rln ?_
    refine Mv ?_
    refine G2 (fun _ k_ => q_callv [0] [some zC] [] (setn_zero 5) k_ (ha := (cac (et rfl) rfl (cac rfl cm_int ca0))) (eL := (ml1 rfl ml0)) (eM := ml0)) ?_
    refine gend ?_
    refine awp_seq ?_
    refine rln ?_
    refine Mv ?_
    refine G2 (fun _ k_ => q_callv [0] [some zC] [] cseal_zero k_ (ha := (cac (et rfl) rfl (cac rfl sees_nil8 (cac rfl sees_nil8 ca0)))) (eL := (ml1 rfl ml0)) (eM := ml0)) ?_
    refine G (q_mv (s := .t _) ?_)
    refine G (q_ext (y := .c _) ?_)
    refine G (q_ext (y := .c _) ?_)
    refine As ?_
    refine As ?_
    refine gend ?_
    refine awp_seq ?_
    refine rln ?_
    refine Mv ?_
    refine G2 (fun _ k_ => q_callv [0] [some zC] [] copen_zero k_ (ha := (cac (et rfl) rfl (cac rfl sees_nil8 (cac rfl sees_nil8 ca0)))) (eL := (ml1 rfl ml0)) (eM := ml0)) ?_
    refine G (q_mv (s := .t _) ?_)
    refine G (q_ext (y := .c _) ?_)
    refine G (q_ext (y := .c _) ?_)
    refine As ?_
    refine As ?_
    refine gend ?_
    refine awp_seq ?_
    refine rln ?_
    refine Mv ?_
    refine G (q_neqn (y := 1) ?_)
    refine Mv ?_
    refine Akfd 46 (fun hb3 => ?_) ?_; rotate_left
    · exact by decide
    refine Gg (q_mv (s := .v (.c _)) ?_)
    refine Gg (q_neqn (y := 1) ?_)
    refine G (q_pkf ?_)
    refine Mv ?_
    refine Akfd 50 (fun hb7 => ?_) ?_; rotate_left
    · exact by decide
    refine Gg (q_mv (s := .v (.c _)) ?_)
    refine G2g (fun _ k_ => q_callp (n_ .nilp 0 [.bool false]) k_ (ha := (cac (et rfl) (sees_ptr rfl rfl rfl rfl) ca0))) ?_
    refine Gg (q_neq64 (y := 0) ?_)
    refine G (q_pkf ?_)
    refine Mv ?_
    refine Akfd 55 (fun hb12 => ?_) ?_; rotate_left
    · exact by decide
    refine Gg (q_mv (s := .v (.c _)) ?_)
    refine G2g (fun _ k_ => q_callp has_zero k_ (ha := (cac (et rfl) (sees_ptr rfl rfl rfl rfl) ca0))) ?_
    refine G (q_pkf ?_)
    refine Mv ?_
    refine Akf 59 (fun hb16 => ?_) ?_; rotate_left
    · exact by decide
    refine Gg (q_mv (s := .v (.c _)) ?_)
    refine G2g (fun _ k_ => q_callp copy_zero k_ (ha := (cac (et rfl) (sees_ptr rfl rfl rfl rfl) ca0))) ?_
    refine Gg (q_neqp ?_)
    refine G (q_pkf ?_)
    refine gend ?_
    refine cndF ?_
    refine awp_skip ?_
    refine rln ?_
    refine Mv ?_
    refine G (q_addn (y := 1) ?_)
    refine As ?_
    refine gend ?_
    exact ⟨⟨1 + 1, by omega⟩, by show 2 - (1 + 1) < 2 - 1; omega, sle_sub ⟨rfl, rfl, trivial⟩ rfl⟩   -- endloop 1
end Go.Proofs.Ytlnepajgnckolaa


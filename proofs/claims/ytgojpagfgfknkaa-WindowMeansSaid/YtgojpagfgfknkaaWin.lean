/- What functions of the program do, walked over the abstract machine. -/
import Derived.Test.YtgojpagfgfknkaaTi
namespace Go.Proofs.Ytgojpagfgfknkaa
open Go Go.Abs Go.Proofs

/-- Is a number below the greatest one, of a window to which some came? -/
def wb (g b n : UInt64) : Bool := decide (b ≠ 0) && decide (n ≤ g)
abbrev wbit (b d : UInt64) : Prop := shr64n b d.toNat &&& 1 = 1
def wchk (m : Bool) (g b n : UInt64) : Nat := if m then (if wb g b n then (if 64 ≤ g - n ∨ wbit b (g - n) then 10 else 0) else 0) else 1
def wcame (m : Bool) (g b n : UInt64) : Bool := m && (wb g b n && (decide (g - n < 64) && decide (wbit b (g - n))))
abbrev wcs (m : Bool) (g b : UInt64) : List Cell := [c64 g, c64 b, .bool m]
def wtake (g b n : UInt64) : UInt64 × UInt64 := if wb g b n then (g, b ||| shl64n 1 (g - n).toNat) else if b = 0 then (n, 1) else if 64 ≤ n - g then (n, 0 ||| 1) else (n, shl64n b (n - g).toNat ||| 1)
def wnext (m : Bool) (g b n : UInt64) : UInt64 × UInt64 := if wchk m g b n = 0 then wtake g b n else (g, b)
/-- (*window.Window).there -/
theorem there (m : Bool) (g b : UInt64) : Good Try.prog 18 [.c (.rop (wcs m g b))] [] (sc (.bool m)) [] := by
  refine good_frm 11 Try.func18 rfl rfl rfl rfl rfl rfl ?_
  refine awp_seq ?_
  refine rl ?_
  refine As ?_
  refine gend ?_
  refine awp_seq ?_
  refine rl ?_
  refine Mv ?_
  refine G (q_neqp ?_)
  refine Mv ?_
  refine Gg (q_mv (s := .v (.c _)) ?_)
  refine Gg (q_ncr ?_)
  refine Gg (q_far ?_)
  refine Gg (q_ldr ?_)
  refine G (q_pkt ?_)
  refine As ?_
  refine gend ?_
  refine awp_ret ?_
  exact fp1
/-- (*window.Window).there -/
theorem there_nil : Good Try.prog 18 [.c .nilp] [] (sc (.bool false)) [] := by
  refine good_frm 11 Try.func18 rfl rfl rfl rfl rfl rfl ?_
  refine awp_seq ?_
  refine rl ?_
  refine As ?_
  refine gend ?_
  refine awp_seq ?_
  refine rl ?_
  refine Mv ?_
  refine G (q_neqp ?_)
  refine Mv ?_
  refine Gn ?_
  refine Gn ?_
  refine Gn ?_
  refine Gn ?_
  refine G (q_pkf ?_)
  refine As ?_
  refine gend ?_
  refine awp_ret ?_
  exact fp1
/-- (*window.Window).below -/
theorem below (m : Bool) (g b n : UInt64) : Good Try.prog 17 [.c (.rop (wcs m g b)), .c (c64 n)] [] (.t [.c (c64 (g - n)), .c (.bool (wb g b n))]) [] := by
  refine good_frm 25 Try.func17 rfl rfl rfl rfl rfl rfl ?_
  refine awp_seq ?_
  refine rl ?_
  refine G (q_as (s := sc (c64 0)) ?_)
  refine As ?_
  refine gend ?_
  refine awp_seq ?_
  refine rdl [] [] [] ?_
  refine Dp (fun _ => q_mv (s := .v (.c _)) ⟨rfl, rfl⟩) ?_
  refine Dp (fun _ => q_ncr ⟨rfl, rfl⟩) ?_
  refine Dp (fun _ => q_far ⟨rfl, rfl⟩) ?_
  refine Dp (fun _ => q_ldr ⟨rfl, rfl⟩) ?_
  refine Dp (fun _ => q_mv (s := .v (.c _)) ⟨rfl, rfl⟩) ?_
  refine Dp (fun _ => q_sub64 ⟨rfl, rfl⟩) ?_
  refine Dp (fun _ => q_mv (s := .v (.c _)) ⟨rfl, rfl⟩) ?_
  refine Dp (fun _ => q_ncr ⟨rfl, rfl⟩) ?_
  refine Dp (fun _ => q_far ⟨rfl, rfl⟩) ?_
  refine Dp (fun _ => q_ldr ⟨rfl, rfl⟩) ?_
  refine Dp (fun _ => q_neq64 (y := 0) ⟨rfl, rfl⟩) ?_
  refine Dp (fun _ => q_mv (s := .v (.c _)) ⟨rfl, rfl⟩) ?_
  refine Dspd 17 (fun hb12 => ?_) (fun hb12 => ?_)
  · refine Dpg (fun _ => q_mv (s := .v (.c _)) ⟨rfl, rfl⟩) ?_
    refine Dpg (fun _ => q_mv (s := .v (.c _)) ⟨rfl, rfl⟩) ?_
    refine Dpg (fun _ => q_ncr ⟨rfl, rfl⟩) ?_
    refine Dpg (fun _ => q_far ⟨rfl, rfl⟩) ?_
    refine Dpg (fun _ => q_ldr ⟨rfl, rfl⟩) ?_
    refine Dpg (fun _ => q_leq64 ⟨rfl, rfl⟩) ?_
    refine Dp (fun _ => q_pkt ⟨rfl, rfl⟩) ?_
    refine Dp (fun _ => q_as (s := .v (.c _)) ⟨rfl, rfl⟩) ?_
    refine Dp (fun _ => q_as (s := .v (.c _)) ⟨rfl, rfl⟩) ?_
    refine dend ?_
    refine awp_ret ?_
    exact fp2 (hv := by simp [wb, hb12])
  refine Dn ?_
  refine Dn ?_
  refine Dn ?_
  refine Dn ?_
  refine Dn ?_
  refine Dn ?_
  refine Dp (fun _ => q_pkf ⟨rfl, rfl⟩) ?_
  refine Dp (fun _ => q_as (s := .v (.c _)) ⟨rfl, rfl⟩) ?_
  refine Dp (fun _ => q_as (s := .v (.c _)) ⟨rfl, rfl⟩) ?_
  refine dend ?_
  refine awp_ret ?_
  exact fp2 (hv := by simp [wb, hb12])
/-- (*window.Window).Check -/
theorem check (m : Bool) (g b n : UInt64) : Good Try.prog 15 [.c (.rop (wcs m g b)), .c (c64 n)] [] (sc (cn (wchk m g b n))) [] := by
  refine good_frm 30 Try.func15 rfl rfl rfl rfl rfl rfl ?_
  refine awp_seq ?_
  refine rl ?_
  refine G (q_as (s := sc (cn 0)) ?_)
  refine gend ?_
  refine awp_scope 0 (fun s => (m = true ∧ wb g b n = false) ∧ ∃ al H, s = ⟨frm 30 al, H⟩) rfl ?_ ?_; rotate_left
  · rintro _ ⟨⟨hm, hw⟩, al, H, rfl⟩
    refine awp_seq ?_
    refine awp_skip ?_
    refine awp_seq ?_
    refine rl ?_
    refine G (q_as (s := sc (cn 0)) ?_)
    refine gend ?_
    refine awp_ret ?_
    exact fp1 (hv := by simp [wchk, wbit, *])
  refine awp_seq ?_
  refine awp_seq ?_
  refine rl ?_
  refine Mv ?_
  refine G (q_callp (there _ _ _/- (*escutcheon/window.Window).there -/) ?_)
  refine G (q_notb ?_)
  refine gend ?_
  refine cndbn (fun hc1 => ?_) (fun hc1 => ?_)
  · refine awp_seq ?_
    refine rl ?_
    refine G (q_as (s := sc (cn 1)) ?_)
    refine gend ?_
    refine awp_ret ?_
    exact fp1 (hv := by simp [wchk, wbit, *])
  refine awp_skip ?_
  refine awp_seq ?_
  refine rl ?_
  refine Mv ?_
  refine Mv ?_
  refine G (q_callp (below _ _ _ _/- (*escutcheon/window.Window).below -/) ?_)
  refine G (q_mv (s := .t _) ?_)
  refine G (q_ext (y := .c _) ?_)
  refine G (q_ext (y := .c _) ?_)
  refine As ?_
  refine As ?_
  refine gend ?_
  refine awp_seq ?_
  refine awp_seq ?_
  refine rl ?_
  refine Mv ?_
  refine G (q_notb ?_)
  refine gend ?_
  refine cndbn (fun hc2 => ?_) (fun hc2 => ?_)
  · refine awp_goto ?_
    exact ⟨rfl, ⟨by assumption, by assumption⟩, _, _, rfl⟩
  refine awp_skip ?_
  refine awp_seq ?_
  refine awp_seq ?_
  refine rl ?_
  refine Mv ?_
  refine G (q_geq64 (y := 64) ?_)
  refine Mv ?_
  refine Aspd 20 (fun hb3 => ?_) (fun hb3 => ?_)
  · refine Gn ?_
    refine Gn ?_
    refine Gn ?_
    refine Gn ?_
    refine Gn ?_
    refine Gn ?_
    refine Gn ?_
    refine Gn ?_
    refine G (q_pkt ?_)
    refine gend ?_
    refine cndT ?_
    refine awp_seq ?_
    refine rl ?_
    refine G (q_as (s := sc (cn 10)) ?_)
    refine gend ?_
    refine awp_ret ?_
    exact fp1 (hv := by simp [wchk, wbit, *])
  refine Gg (q_mv (s := .v (.c _)) ?_)
  refine Gg (q_ncr ?_)
  refine Gg (q_far ?_)
  refine Gg (q_ldr ?_)
  refine Gg (q_mv (s := .v (.c _)) ?_)
  refine Gg (q_shr64_64 ?_)
  refine Gg (q_and64 (y := 1) ?_)
  refine Gg (q_eql64 (y := 1) ?_)
  refine G (q_pkf ?_)
  refine gend ?_
  refine cnd (fun hc3 => ?_) (fun hc3 => ?_)
  · refine awp_seq ?_
    refine rl ?_
    refine G (q_as (s := sc (cn 10)) ?_)
    refine gend ?_
    refine awp_ret ?_
    exact fp1 (hv := by simp [wchk, wbit, *])
  refine awp_skip ?_
  refine awp_seq ?_
  refine awp_label ?_
  refine awp_seq ?_
  refine rl ?_
  refine G (q_as (s := sc (cn 0)) ?_)
  refine gend ?_
  refine awp_ret ?_
  exact fp1 (hv := by simp [wchk, wbit, *])
/-- (*window.Window).Check -/
theorem check_nil (n : UInt64) : Good Try.prog 15 [.c .nilp, .c (c64 n)] [] (sc (cn 1)) [] := by
  refine good_frm 30 Try.func15 rfl rfl rfl rfl rfl rfl ?_
  refine awp_seq ?_
  refine rl ?_
  refine G (q_as (s := sc (cn 0)) ?_)
  refine gend ?_
  refine awp_scope 0 (fun s => False ∧ ∃ al H, s = ⟨frm 30 al, H⟩) rfl ?_ ?_; rotate_left
  · rintro _ ⟨hF, al, H, rfl⟩
    refine awp_seq ?_
    refine awp_skip ?_
    refine awp_seq ?_
    refine rl ?_
    refine G (q_as (s := sc (cn 0)) ?_)
    refine gend ?_
    refine awp_ret ?_
    exact hF.elim
  refine awp_seq ?_
  refine awp_seq ?_
  refine rl ?_
  refine Mv ?_
  refine G (q_callp (there_nil/- (*escutcheon/window.Window).there -/) ?_)
  refine G (q_notb ?_)
  refine gend ?_
  refine cndT ?_
  refine awp_seq ?_
  refine rl ?_
  refine G (q_as (s := sc (cn 1)) ?_)
  refine gend ?_
  refine awp_ret ?_
  exact fp1
/-- (*window.Window).Came -/
theorem came (m : Bool) (g b n : UInt64) : Good Try.prog 16 [.c (.rop (wcs m g b)), .c (c64 n)] [] (sc (.bool (wcame m g b n))) [] := by
  refine good_frm 31 Try.func16 rfl rfl rfl rfl rfl rfl ?_
  refine awp_seq ?_
  refine rl ?_
  refine As ?_
  refine gend ?_
  refine awp_seq ?_
  refine awp_seq ?_
  refine rl ?_
  refine Mv ?_
  refine G (q_callp (there _ _ _/- (*escutcheon/window.Window).there -/) ?_)
  refine G (q_notb ?_)
  refine gend ?_
  refine cndbn (fun hc1 => ?_) (fun hc1 => ?_)
  · refine awp_seq ?_
    refine rl ?_
    refine As ?_
    refine gend ?_
    refine awp_ret ?_
    exact fp1 (hv := by simp [wcame, wbit, *])
  refine awp_skip ?_
  refine awp_seq ?_
  refine rl ?_
  refine Mv ?_
  refine Mv ?_
  refine G (q_callp (below _ _ _ _/- (*escutcheon/window.Window).below -/) ?_)
  refine G (q_mv (s := .t _) ?_)
  refine G (q_ext (y := .c _) ?_)
  refine G (q_ext (y := .c _) ?_)
  refine As ?_
  refine As ?_
  refine gend ?_
  refine awp_seq ?_
  refine rl ?_
  refine Mv ?_
  refine Mv ?_
  refine Asp 17 (fun hb2 => ?_) (fun hb2 => ?_)
  · refine Gg (q_mv (s := .v (.c _)) ?_)
    refine Gg (q_lss64 (y := 64) ?_)
    refine G (q_pkt ?_)
    refine Mv ?_
    refine Aspd 21 (fun hb6 => ?_) (fun hb6 => ?_)
    · refine Gg (q_mv (s := .v (.c _)) ?_)
      refine Gg (q_ncr ?_)
      refine Gg (q_far ?_)
      refine Gg (q_ldr ?_)
      refine Gg (q_mv (s := .v (.c _)) ?_)
      refine Gg (q_shr64_64 ?_)
      refine Gg (q_and64 (y := 1) ?_)
      refine Gg (q_eql64 (y := 1) ?_)
      refine G (q_pkt ?_)
      refine As ?_
      refine gend ?_
      refine awp_ret ?_
      exact fp1 (hv := by simp [wcame, wbit, *])
    refine Gn ?_
    refine Gn ?_
    refine Gn ?_
    refine Gn ?_
    refine Gn ?_
    refine Gn ?_
    refine Gn ?_
    refine Gn ?_
    refine G (q_pkf ?_)
    refine As ?_
    refine gend ?_
    refine awp_ret ?_
    exact fp1 (hv := by simp [wcame, wbit, *])
  refine Gn ?_
  refine Gn ?_
  refine G (q_pkf ?_)
  refine Mv ?_
  refine Gn ?_
  refine Gn ?_
  refine Gn ?_
  refine Gn ?_
  refine Gn ?_
  refine Gn ?_
  refine Gn ?_
  refine Gn ?_
  refine G (q_pkf ?_)
  refine As ?_
  refine gend ?_
  refine awp_ret ?_
  exact fp1 (hv := by simp [wcame, wbit, *])
/-- (*window.Window).Greatest -/
theorem greatest (m : Bool) (g b : UInt64) : Good Try.prog 14 [.c (.rop (wcs m g b))] [] (.t [.c (c64 (if m && decide (b ≠ 0) then g else 0)), .c (.bool (m && decide (b ≠ 0)))]) [] := by
  refine good_frm 18 Try.func14 rfl rfl rfl rfl rfl rfl ?_
  refine awp_seq ?_
  refine rl ?_
  refine G (q_as (s := sc (c64 0)) ?_)
  refine As ?_
  refine gend ?_
  refine awp_seq ?_
  refine awp_seq ?_
  refine rl ?_
  refine Mv ?_
  refine G (q_callp (there _ _ _/- (*escutcheon/window.Window).there -/) ?_)
  refine G (q_notb ?_)
  refine Mv ?_
  refine Asp 7 (fun hb4 => ?_) (fun hb4 => ?_)
  · refine Gn ?_
    refine Gn ?_
    refine Gn ?_
    refine Gn ?_
    refine Gn ?_
    refine G (q_pkt ?_)
    refine gend ?_
    refine cndT ?_
    refine awp_seq ?_
    refine rl ?_
    refine G (q_as (s := sc (c64 0)) ?_)
    refine As ?_
    refine gend ?_
    refine awp_ret ?_
    exact fp2 (hv := by simp at hb4; simp [hb4])
  refine Gg (q_mv (s := .v (.c _)) ?_)
  refine Gg (q_ncr ?_)
  refine Gg (q_far ?_)
  refine Gg (q_ldr ?_)
  refine Gg (q_eql64 (y := 0) ?_)
  refine G (q_pkf ?_)
  refine gend ?_
  refine cnd (fun hc1 => ?_) (fun hc1 => ?_)
  · refine awp_seq ?_
    refine rl ?_
    refine G (q_as (s := sc (c64 0)) ?_)
    refine As ?_
    refine gend ?_
    refine awp_ret ?_
    exact fp2 (hv := by simp at hb4; simp [hb4, hc1])
  refine awp_skip ?_
  refine awp_seq ?_
  refine rl ?_
  refine Mv ?_
  refine G (q_ncr ?_)
  refine G (q_far ?_)
  refine G (q_ldr ?_)
  refine As ?_
  refine As ?_
  refine gend ?_
  refine awp_ret ?_
  exact fp2 (hv := by simp at hb4; simp [hb4, hc1])
/-- (*window.Window).Copy -/
theorem copy (m : Bool) (g b : UInt64) (hm : m = true) : Good Try.prog 11 [.c (.rop (wcs m g b))] [] (sc (.ptr 0 0)) [some (wcs m g b)] := by
  refine good_frm 10 Try.func11 rfl rfl rfl rfl rfl rfl ?_
  refine awp_seq ?_
  refine rl ?_
  refine As ?_
  refine gend ?_
  refine awp_seq ?_
  refine awp_seq ?_
  refine rl ?_
  refine Mv ?_
  refine G (q_callp (there _ _ _/- (*escutcheon/window.Window).there -/) ?_)
  refine G (q_notb ?_)
  refine gend ?_
  refine cndbn (fun hc1 => ?_) (fun hc1 => ?_)
  · refine awp_seq ?_
    refine rl ?_
    refine As ?_
    refine gend ?_
    refine awp_ret ?_
    subst hm; cases hc1
  refine awp_skip ?_
  refine awp_seq ?_
  refine rl ?_
  refine Mv ?_
  refine G (q_ncr ?_)
  refine G (q_ldar ?_)
  refine G (q_al ?_)
  refine G0 (q_stw ?_)
  refine gend ?_
  refine awp_seq ?_
  refine rl ?_
  refine As ?_
  refine gend ?_
  refine awp_ret ?_
  exact fn1 0 (hc := by exact rfl)
/-- window.New -/
theorem new : Good Try.prog 8 [] [] (sc (.ptr 0 0)) [some (wcs true 0 0)] := by
  refine good_frm 3 Try.func8 rfl rfl rfl rfl rfl rfl ?_
  refine awp_seq ?_
  refine rl ?_
  refine As ?_
  refine gend ?_
  refine awp_seq ?_
  refine rl ?_
  refine G (q_bls (fkc rfl rfl rfl (by decide) (fk0 ?_)))
  refine G (q_boxa ?_)
  refine As ?_
  refine gend ?_
  refine awp_ret ?_
  exact fn1 0
/-- escutcheonlaw18.num -/
theorem num (n : Nat) : Good Try.prog 9 [.c (cn n)] [] (sc (cn n)) [] := by
  refine good_frm 4 Try.func9 rfl rfl rfl rfl rfl rfl ?_
  refine awp_seq ?_
  refine rl ?_
  refine G (q_as (s := sc (cn 0)) ?_)
  refine gend ?_
  refine awp_seq ?_
  refine rl ?_
  refine Mv ?_
  refine As ?_
  refine gend ?_
  refine awp_ret ?_
  exact fp1
/-- (*window.Window).Take -/
theorem take (m : Bool) (g b n : UInt64) : Good Try.prog 10 [.c (.ptr 0 0), .c (c64 n)] [some (wcs m g b)] (sc (cn (wchk m g b n))) [some (wcs m (wnext m g b n).1 (wnext m g b n).2)] := by
  refine good_frm 75 Try.func10 rfl rfl rfl rfl rfl rfl ?_
  refine awp_seq ?_
  refine rl ?_
  refine G (q_as (s := sc (cn 0)) ?_)
  refine gend ?_
  refine awp_seq ?_
  refine rl ?_
  refine Mv ?_
  refine Mv ?_
  refine G (q_callp (check _ _ _ _/- (*escutcheon/window.Window).Check -/) ?_)
  refine As ?_
  refine gend ?_
  refine awp_seq ?_
  refine awp_seq ?_
  refine rl ?_
  refine Mv ?_
  refine G (q_neqn (y := 0) ?_)
  refine gend ?_
  refine cnd (fun hc1 => ?_) (fun hc1 => ?_)
  · refine awp_seq ?_
    refine rl ?_
    refine Mv ?_
    refine As ?_
    refine gend ?_
    refine awp_ret ?_
    exact fw1 (hH := by simp [wnext, hc1])
  refine awp_skip ?_
  refine awp_seq ?_
  refine rl ?_
  refine Mv ?_
  refine Mv ?_
  refine G (q_callp (below _ _ _ _/- (*escutcheon/window.Window).below -/) ?_)
  refine G (q_mv (s := .t _) ?_)
  refine G (q_ext (y := .c _) ?_)
  refine G (q_ext (y := .c _) ?_)
  refine As ?_
  refine As ?_
  refine gend ?_
  refine awp_seq ?_
  refine awp_block ?_
  refine awp_seq ?_
  refine rl ?_
  refine Mv ?_
  refine As ?_
  refine gend ?_
  refine cndb (fun hc2 => ?_) (fun hc2 => ?_)
  · refine rl ?_
    refine Mv ?_
    refine G (q_ncp ?_)
    refine G (q_fap0 ?_)
    refine G (q_ldp ?_)
    refine Mv ?_
    refine G (q_shl64_64 (x := 1) ?_)
    refine G (q_or64 ?_)
    refine G (q_ncp ?_)
    refine G (q_fap0 ?_)
    refine G0 (q_st ?_)
    refine gend ?_
    refine awp_seq ?_
    refine rl ?_
    refine G (q_as (s := sc (cn 0)) ?_)
    refine gend ?_
    refine awp_ret ?_
    exact fw1 (hH := by simp only [wnext, if_pos (Decidable.not_not.1 hc1)]; simp [wtake, hc2]) (hv := by rw [Decidable.not_not.1 hc1])
  refine awp_seq ?_
  refine rl ?_
  refine Mv ?_
  refine G (q_ncp ?_)
  refine G (q_fap0 ?_)
  refine G (q_ldp ?_)
  refine G (q_eql64 (y := 0) ?_)
  refine As ?_
  refine gend ?_
  refine cnd (fun hc3 => ?_) (fun hc3 => ?_)
  · refine rl ?_
    refine Mv ?_
    refine Mv ?_
    refine Mv ?_
    refine G (q_ncp ?_)
    refine G (q_fap0 ?_)
    refine G0 (q_st ?_)
    refine G (q_ncp ?_)
    refine G (q_fap0 ?_)
    refine G0 (q_st (c := c64 1) ?_)
    refine gend ?_
    refine awp_seq ?_
    refine rl ?_
    refine G (q_as (s := sc (cn 0)) ?_)
    refine gend ?_
    refine awp_ret ?_
    exact fw1 (hH := by simp only [wnext, if_pos (Decidable.not_not.1 hc1)]; rw [show wtake g b n = (n, 1) from by unfold wtake; rw [if_neg (by rw [hc2]; decide), if_pos hc3]]) (hv := by rw [Decidable.not_not.1 hc1])
  refine awp_seq ?_
  refine rl ?_
  refine Mv ?_
  refine Mv ?_
  refine G (q_ncp ?_)
  refine G (q_fap0 ?_)
  refine G (q_ldp ?_)
  refine G (q_sub64 ?_)
  refine As ?_
  refine gend ?_
  refine awp_seq ?_
  refine rl ?_
  refine Mv ?_
  refine Mv ?_
  refine G (q_ncp ?_)
  refine G (q_fap0 ?_)
  refine G0 (q_st ?_)
  refine gend ?_
  refine awp_seq ?_
  refine awp_seq ?_
  refine rl ?_
  refine Mv ?_
  refine G (q_geq64 (y := 64) ?_)
  refine gend ?_
  refine cnd (fun hc4 => ?_) (fun hc4 => ?_)
  · refine rl ?_
    refine Mv ?_
    refine G (q_ncp ?_)
    refine G (q_fap0 ?_)
    refine G0 (q_st (c := c64 0) ?_)
    refine gend ?_
    refine rl ?_
    refine Mv ?_
    refine G (q_ncp ?_)
    refine G (q_fap0 ?_)
    refine G (q_ldp ?_)
    refine G (q_or64 (y := 1) ?_)
    refine G (q_ncp ?_)
    refine G (q_fap0 ?_)
    refine G0 (q_st ?_)
    refine gend ?_
    refine awp_seq ?_
    refine rl ?_
    refine G (q_as (s := sc (cn 0)) ?_)
    refine gend ?_
    refine awp_ret ?_
    exact fw1 (hH := by simp only [wnext, if_pos (Decidable.not_not.1 hc1)]; simp [wtake, *]) (hv := by rw [Decidable.not_not.1 hc1])
  refine rl ?_
  refine Mv ?_
  refine G (q_ncp ?_)
  refine G (q_fap0 ?_)
  refine G (q_ldp ?_)
  refine Mv ?_
  refine G (q_shl64_64 ?_)
  refine G (q_ncp ?_)
  refine G (q_fap0 ?_)
  refine G0 (q_st ?_)
  refine gend ?_
  refine rl ?_
  refine Mv ?_
  refine G (q_ncp ?_)
  refine G (q_fap0 ?_)
  refine G (q_ldp ?_)
  refine G (q_or64 (y := 1) ?_)
  refine G (q_ncp ?_)
  refine G (q_fap0 ?_)
  refine G0 (q_st ?_)
  refine gend ?_
  refine awp_seq ?_
  refine rl ?_
  refine G (q_as (s := sc (cn 0)) ?_)
  refine gend ?_
  refine awp_ret ?_
  exact fw1 (hH := by simp only [wnext, if_pos (Decidable.not_not.1 hc1)]; simp [wtake, *]) (hv := by rw [Decidable.not_not.1 hc1])
def s1 : UInt64 × UInt64 := wnext true 0 0 70
def s2 : UInt64 × UInt64 := wnext true s1.1 s1.2 7
def s3 : UInt64 × UInt64 := wnext true s2.1 s2.2 6
def s4 : UInt64 × UInt64 := wnext true s3.1 s3.2 70
theorem known_1 : wchk true 0 0 70 + wchk true s1.1 s1.2 7 + wchk true s4.1 s4.2 8 = 0 := by decide +kernel
theorem known_2 : wchk true s2.1 s2.2 6 = 10 := by decide +kernel
theorem known_3 : wchk true s3.1 s3.2 70 = 10 := by decide +kernel
theorem known_le (m : Bool) (g b n : UInt64) : wchk m g b n ≤ 10 := by unfold wchk; split <;> (try split) <;> (try split) <;> decide
/-- escutcheonlaw18.known -/
theorem known : Good Try.prog 7 [] [] (sc (.bool true)) [] := by
  refine good_frm 39 Try.func7 rfl rfl rfl rfl rfl rfl ?_
  refine awp_seq ?_
  refine rl ?_
  refine As ?_
  refine gend ?_
  refine awp_seq ?_
  refine rl ?_
  refine G (q_calln (new/- escutcheon/window.New -/) ?_)
  refine As ?_
  refine gend ?_
  refine awp_seq ?_
  refine awp_seq ?_
  refine rl ?_
  refine Mv ?_
  refine G (q_eqlp ?_)
  refine gend ?_
  refine cndF ?_
  refine awp_skip ?_
  refine awp_seq ?_
  refine rl ?_
  refine Mv ?_
  refine G (q_callw 0 (take true 0 0 70/- (*escutcheon/window.Window).Take -/) ?_)
  refine Mv ?_
  refine G (q_callw 0 (take true s1.1 s1.2 7/- (*escutcheon/window.Window).Take -/) ?_)
  refine Mv ?_
  refine G (q_callw 0 (take true s2.1 s2.2 6/- (*escutcheon/window.Window).Take -/) ?_)
  refine Mv ?_
  refine G (q_callw 0 (take true s3.1 s3.2 70/- (*escutcheon/window.Window).Take -/) ?_)
  refine Mv ?_
  refine G (q_callw 0 (take true s4.1 s4.2 8/- (*escutcheon/window.Window).Take -/) ?_)
  refine As ?_
  refine As ?_
  refine As ?_
  refine As ?_
  refine As ?_
  refine gend ?_
  refine awp_seq ?_
  refine rl ?_
  refine Mv ?_
  refine G (q_callp (num _/- escutcheon/escutcheonlaw18.num -/) ?_)
  refine Mv ?_
  refine G (q_callp (num _/- escutcheon/escutcheonlaw18.num -/) ?_)
  refine G (q_addn ?_ (hb := by have := known_1; omega))
  refine Mv ?_
  refine G (q_callp (num _/- escutcheon/escutcheonlaw18.num -/) ?_)
  refine G (q_addn ?_ (hb := by have := known_1; omega))
  refine G (q_eqln (y := 0) ?_)
  refine Mv ?_
  refine Aspd 29 (fun hb10 => ?_) (fun hb10 => ?_)
  · refine Gg (q_mv (s := .v (.c _)) ?_)
    refine Gg (q_callp (num _/- escutcheon/escutcheonlaw18.num -/) ?_)
    refine Gg (q_eqln (y := 10) ?_)
    refine G (q_pkt ?_)
    refine Mv ?_
    refine Aspd 34 (fun hb15 => ?_) (fun hb15 => ?_)
    · refine Gg (q_mv (s := .v (.c _)) ?_)
      refine Gg (q_callp (num _/- escutcheon/escutcheonlaw18.num -/) ?_)
      refine Gg (q_eqln (y := 10) ?_)
      refine G (q_pkt ?_)
      refine As ?_
      refine gend ?_
      refine awp_ret ?_
      exact fp1 (hv := by simp [known_3])
    refine Gn ?_
    refine Gn ?_
    refine Gn ?_
    refine G (q_pkf ?_)
    refine As ?_
    refine gend ?_
    refine awp_ret ?_
    exact absurd known_2 (by simpa using hb15)
  refine Gn ?_
  refine Gn ?_
  refine Gn ?_
  refine G (q_pkf ?_)
  refine Mv ?_
  refine Gn ?_
  refine Gn ?_
  refine Gn ?_
  refine G (q_pkf ?_)
  refine As ?_
  refine gend ?_
  refine awp_ret ?_
  exact absurd known_1 (by simpa using hb10)
end Go.Proofs.Ytgojpagfgfknkaa

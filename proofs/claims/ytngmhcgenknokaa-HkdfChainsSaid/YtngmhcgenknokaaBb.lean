/- What functions of the program do, walked over the abstract machine. -/
import Derived.Test.YtngmhcgenknokaaBa
namespace Go.Proofs.Ytngmhcgenknokaa
open Go Go.Abs Go.Proofs

theorem tk2 (h : List UInt32) (hh : h.length = 8) : (((u32s h).drop 0).take (8 * 1)).take (min 8 8 * 1) = u32s h := by
  rw [List.drop_zero, List.take_of_length_le (by rw [List.length_take, mapc_length]; omega), List.take_of_length_le (by rw [mapc_length]; omega)]
theorem cpy1 (h : List UInt32) (hh : h.length = 8) : splice (u32s (List.replicate 16 0)) 0 ((((u32s h).drop 0).take (8 * 1)).take (min 8 8 * 1)) = u32s (h ++ List.replicate 8 0) := by
  rw [tk2 h hh]
  simp [splice, mapc, hh]
theorem cpy2 (h f : List UInt32) (hh : h.length = 8) (hf : f.length = 8) : splice (u32s (h ++ List.replicate 8 0)) 8 ((((u32s f).drop 0).take (8 * 1)).take (min 8 8 * 1)) = u32s (h ++ f) := by
  rw [tk2 f hf]
  simp [splice, mapc, hh, hf, List.take_append, List.drop_append]
set_option maxHeartbeats 1600000 in
/-- blake.press -/
theorem press_ (h f : List UInt32) (l : List UInt8) (t : UInt64) (last : Bool) (hh : h.length = 8) (hf : f.length = 8) (hl : l.length = 64) : Good Try.prog 21 [.a (u32s h), .a (u32s f), .c (.rop (i64s ordz)), .c (.ro 64 (u8s l)), .c (c64 t), .c (.bool last)] [] (sa (u32s (press h f l t last))) [] := by
  refine good_frm 141 Try.func21 rfl rfl rfl rfl rfl rfl ?_
  refine awp_seq ?_
  refine rl ?_
  refine G (q_boxa ?_)
  refine G (q_boxa ?_)
  refine G (q_al ?_)
  refine gend ?_
  refine awp_seq ?_
  refine rl ?_
  refine G (q_al ?_)
  refine G (q_al ?_)
  refine gend ?_
  refine awp_seq ?_
  refine awp_seq ?_
  refine rl ?_
  refine Mv ?_
  refine G (q_leno ?_)
  refine G (q_mv (s := sc (cn 0)) ?_)
  refine gend ?_
  refine awp_block ?_
  refine awp_loop (fun x : {i : Nat // i ≤ 64} => ⟨frm 141 [(24, sc (.ro 64 (u8s l))), (25, sc (cn 64)), (26, sc (cn x.1)), (2, sc (.rop (i64s ordz))), (4, sc (c64 t)), (5, sc (.bool last)), (6, sc (.ptr 0 0)), (7, sc (.ptr 1 0)), (12, sc (.ptr 2 0)), (13, sc (.ptr 3 0)), (14, sc (.ptr 4 0))], [some (u32s h), some (u32s f), some (u32s (List.replicate 8 0)), some (u32s (mw l x.1)), some (u32s (List.replicate 16 0))]⟩) (fun x => 64 - x.1) ⟨0, Nat.zero_le _⟩ (sle_sub ⟨rfl, rfl, rfl, rfl, rfl, rfl, rfl, rfl, rfl, rfl, rfl, trivial⟩ rfl) fun x => ?_   -- live: [13, 24, 25, 26]
  have hm := mw_len l x.1
  refine awp_seq ?_
  refine rl ?_
  refine G (q_lssn ?_)
  refine gend ?_
  refine awp_seq ?_
  refine cnd (fun hc1 => ?_) (fun hc1 => ?_); rotate_left
  · refine awp_exit ?_
    rw [show x.1 = 64 from (by have := x.2; omega)]
    have hm := mw_len l 64
    generalize hM : mw l 64 = M at hm ⊢
    have hvl := vini_len h f t last hh hf
    have hhf : (h ++ f).length = 16 := by rw [List.length_append]; omega
    have hh8 : (h ++ List.replicate 8 (0 : UInt32)).length = 16 := by rw [List.length_append, List.length_replicate]; omega
    refine awp_mid ⟨frm 141 [(2, sc (.rop (i64s ordz))), (4, sc (c64 t)), (5, sc (.bool last)), (6, sc (.ptr 0 0)), (7, sc (.ptr 1 0)), (12, sc (.ptr 2 0)), (13, sc (.ptr 3 0)), (14, sc (.ptr 4 0))], [some (u32s h), some (u32s f), some (u32s (List.replicate 8 0)), some (u32s M), some (u32s (h ++ List.replicate 8 0))]⟩ ?_ ?_
    · refine rdl [2] [] [0, 0, 1] ?_
      refine DSp 4 rfl (fun _ hv => q_slp_hi (k := 8) ⟨rfl, rfl⟩ (hp := hv)) ?_
      refine DSp 0 rfl (fun _ hv => q_slp_no ⟨rfl, rfl⟩ (hp := hv)) ?_
      refine De (q_cpy  (pw ?_) (eB := el_slc rfl (by rw [mapc_length, hh]; decide) rfl))
      refine dend ?_
      exact sle_sub ⟨rfl, rfl, rfl, rfl, rfl, rfl, rfl, rfl, trivial⟩ (congrArg (fun z => [some (u32s h), some (u32s f), some (u32s (List.replicate 8 0)), some (u32s M), some z]) (cpy1 h hh))
    refine awp_mid ⟨frm 141 [(2, sc (.rop (i64s ordz))), (4, sc (c64 t)), (5, sc (.bool last)), (6, sc (.ptr 0 0)), (7, sc (.ptr 1 0)), (12, sc (.ptr 2 0)), (13, sc (.ptr 3 0)), (14, sc (.ptr 4 0))], [some (u32s h), some (u32s f), some (u32s (List.replicate 8 0)), some (u32s M), some (u32s (h ++ f))]⟩ ?_ ?_
    · refine rdl [2] [] [0, 0, 1] ?_
      refine DSp 4 rfl (fun _ hv => q_slp_lo (j := 8) ⟨rfl, rfl⟩ (hp := hv)) ?_
      refine DSp 1 rfl (fun _ hv => q_slp_no ⟨rfl, rfl⟩ (hp := hv)) ?_
      refine De (q_cpy  (pw ?_) (eB := el_slc rfl (by rw [mapc_length, hf]; decide) rfl))
      refine dend ?_
      exact sle_sub ⟨rfl, rfl, rfl, rfl, rfl, rfl, rfl, rfl, trivial⟩ (congrArg (fun z => [some (u32s h), some (u32s f), some (u32s (List.replicate 8 0)), some (u32s M), some z]) (cpy2 h f hh hf))
    refine awp_seq ?_
    refine rl ?_
    refine G (q_ixp1 ?_)
    refine G (q_ldp ?_)
    refine Mv ?_
    refine G (q_cv64_32 ?_)
    refine G (q_xor32 ?_)
    refine G (q_ixp1 ?_)
    refine G0 (q_stm ?_)
    refine gend ?_
    refine awp_seq ?_
    refine rl ?_
    refine G (q_ixp1 ?_)
    refine G (q_ldp ?_)
    refine Mv ?_
    refine G (q_shr64_64 (n := 32) ?_)
    refine G (q_cv64_32 ?_)
    refine G (q_xor32 ?_)
    refine G (q_ixp1 ?_)
    refine G0 (q_stm ?_)
    refine gend ?_
    refine awp_mid ⟨frm 141 [(2, sc (.rop (i64s ordz))), (4, sc (c64 t)), (5, sc (.bool last)), (6, sc (.ptr 0 0)), (7, sc (.ptr 1 0)), (12, sc (.ptr 2 0)), (13, sc (.ptr 3 0)), (14, sc (.ptr 4 0))], [some (u32s h), some (u32s f), some (u32s (List.replicate 8 0)), some (u32s M), some (u32s (vini h f t last))]⟩ ?_ ?_
    · refine awp_seq ?_
      refine rl ?_
      refine Mv ?_
      refine gend ?_
      refine cndb (fun hc2 => ?_) (fun hc2 => ?_)
      · refine rl ?_
        refine G (q_ixp1 ?_)
        refine G (q_ldp ?_)
        refine G (q_not32 ?_)
        refine G (q_ixp1 ?_)
        refine G0 (q_stm ?_)
        refine gend ?_
        exact sle_sub ⟨rfl, rfl, rfl, rfl, rfl, rfl, rfl, rfl, trivial⟩ (congrArg (fun z => [some (u32s h), some (u32s f), some (u32s (List.replicate 8 0)), some (u32s M), some (u32s z)]) (by rw [hc2]; rfl))
      refine awp_skip ?_
      exact sle_sub ⟨rfl, rfl, rfl, rfl, rfl, rfl, rfl, rfl, trivial⟩ (congrArg (fun z => [some (u32s h), some (u32s f), some (u32s (List.replicate 8 0)), some (u32s M), some (u32s z)]) (by rw [hc2]; rfl))
    refine awp_seq ?_
    refine rl ?_
    generalize hV : vini h f t last = V at hvl ⊢
    refine G (q_mkf ?_ (caps1 (et rfl) rfl caps0))
    refine As ?_
    refine gend ?_
    refine awp_seq ?_
    refine awp_seq ?_
    refine rl ?_
    refine G (q_mv (s := sc (cn 0)) ?_)
    refine gend ?_
    refine awp_block ?_
    refine awp_loop (fun r : {i : Nat // i ≤ 10} => ⟨frm 141 [(2, sc (.rop (i64s ordz))), (6, sc (.ptr 0 0)), (12, sc (.ptr 2 0)), (13, sc (.ptr 3 0)), (14, sc (.ptr 4 0)), (17, sc (.fn 24 [.ptr 4 0])), (69, sc (cn r.1))], [some (u32s h), some (u32s f), some (u32s (List.replicate 8 0)), some (u32s M), some (u32s (rnds M V r.1))]⟩) (fun r => 10 - r.1) ⟨0, Nat.zero_le _⟩ (sle_sub ⟨rfl, rfl, rfl, rfl, rfl, rfl, rfl, trivial⟩ rfl) fun r => ?_   -- live: [2, 13, 17, 69]
    have hr := (rnds_len M V r.1).trans hvl
    refine awp_seq ?_
    refine rl ?_
    refine G (q_lssn (y := 10) ?_)
    refine gend ?_
    refine awp_seq ?_
    refine cnd (fun hc3 => ?_) (fun hc3 => ?_); rotate_left
    · refine awp_exit ?_
      rw [show r.1 = 10 from (by have := r.2; omega)]
      have hr := (rnds_len M V 10).trans hvl
      generalize hR : rnds M V 10 = R at hr ⊢
      refine awp_seq ?_
      refine awp_seq ?_
      refine rl ?_
      refine G (q_mv (s := sc (cn 0)) ?_)
      refine gend ?_
      refine awp_block ?_
      refine awp_loop (fun y : {i : Nat // i ≤ 8} => ⟨frm 141 [(6, sc (.ptr 0 0)), (12, sc (.ptr 2 0)), (14, sc (.ptr 4 0)), (123, sc (cn y.1))], [some (u32s (hxr h R y.1)), some (u32s f), some (u32s (List.replicate 8 0)), some (u32s M), some (u32s R)]⟩) (fun y => 8 - y.1) ⟨0, Nat.zero_le _⟩ (sle_sub ⟨rfl, rfl, rfl, rfl, trivial⟩ rfl) fun y => ?_   -- live: [6, 14, 123]
      have hy := (hxr_len h R y.1).trans hh
      refine awp_seq ?_
      refine rl ?_
      refine G (q_lssn (y := 8) ?_)
      refine gend ?_
      refine awp_seq ?_
      refine cnd (fun hc4 => ?_) (fun hc4 => ?_); rotate_left
      · refine awp_exit ?_
        rw [show y.1 = 8 from (by have := y.2; omega)]
        have hy := (hxr_len h R 8).trans hh
        refine awp_seq ?_
        refine rl ?_
        refine G (q_ldw  ?_ (hl := (mapc_length ..).trans hy))
        refine G0 (q_stw  ?_ (hl := (mapc_length ..).trans hy) (hc := (mapc_length ..).trans (List.length_replicate ..)))
        refine gend ?_
        refine awp_ret ?_
        exact fpc (t := 43) (a := 12) (hn := by exact (mapc_length ..).trans hy) (hv := by rw [press, hM, hV, hR])
      refine awp_skip ?_
      refine awp_seq ?_
      refine awp_block ?_
      refine awp_seq ?_
      refine rl ?_
      refine Mv ?_
      refine As ?_
      refine gend ?_
      refine rdl [13] [] [0, 0, 0, 0, 0, 0, 0, 0, 0, 0, 0, 0, 0, 1] ?_
      refine Dp (fun _ => q_mv (s := .v (.c _)) ⟨rfl, rfl⟩) ?_
      refine Dp (fun _ => q_ixp1 ⟨rfl, rfl⟩) ?_
      refine DLp ?_
      refine Dp (fun _ => q_mv (s := .v (.c _)) ⟨rfl, rfl⟩) ?_
      refine Dp (fun _ => q_ixp1 ⟨rfl, rfl⟩) ?_
      refine DLp ?_
      refine Dp (fun _ => q_mv (s := .v (.c _)) ⟨rfl, rfl⟩) ?_
      refine Dp (fun _ => q_addn (y := 8) ⟨rfl, rfl⟩) ?_
      refine Dp (fun _ => q_ixp1 ⟨rfl, rfl⟩) ?_
      refine DLp ?_
      refine Dp (fun _ => q_xor32 ⟨rfl, rfl⟩) ?_
      refine Dp (fun _ => q_xor32 ⟨rfl, rfl⟩) ?_
      refine Dp (fun _ => q_ixp1 ⟨rfl, rfl⟩) ?_
      refine De0 (q_stm (pw ?_))
      refine dend ?_
      refine rl ?_
      refine G (q_addn (y := 1) ?_)
      refine Mv ?_
      refine gend ?_
      exact ⟨⟨y.1 + 1, by omega⟩, by show 8 - (y.1 + 1) < 8 - y.1; omega, sle_sub ⟨rfl, rfl, rfl, rfl, trivial⟩ rfl⟩   -- endloop 3
    refine awp_skip ?_
    refine awp_seq ?_
    refine awp_block ?_
    refine awp_seq ?_
    refine rl ?_
    refine Mv ?_
    refine As ?_
    refine gend ?_
    refine awp_seq ?_
    refine rl ?_
    refine G (q_mv (s := sc (cn 0)) ?_)
    refine gend ?_
    refine awp_block ?_
    refine awp_loop (fun i : {i : Nat // i ≤ 8} => ⟨frm 141 [(2, sc (.rop (i64s ordz))), (6, sc (.ptr 0 0)), (12, sc (.ptr 2 0)), (13, sc (.ptr 3 0)), (14, sc (.ptr 4 0)), (17, sc (.fn 24 [.ptr 4 0])), (69, sc (cn r.1)), (18, sc (cn r.1)), (72, sc (cn i.1))], [some (u32s h), some (u32s f), some (u32s (List.replicate 8 0)), some (u32s M), some (u32s (ins M r.1 (rnds M V r.1) i.1))]⟩) (fun i => 8 - i.1) ⟨0, Nat.zero_le _⟩ (sle_sub ⟨rfl, rfl, rfl, rfl, rfl, rfl, rfl, rfl, rfl, trivial⟩ rfl) fun i => ?_   -- live: [2, 13, 17, 18, 72]
    have hi := (ins_len M r.1 (rnds M V r.1) i.1).trans hr
    have ho1 := ords_lt (r.1 * 16 + 2 * i.1 * 1)
    have ho2 := ords_lt (r.1 * 16 + (2 * i.1 + 1) * 1)
    obtain ⟨p1, hp1⟩ : ∃ p, ords.getD (r.1 * 16 + 2 * i.1 * 1) 0 = p := ⟨_, rfl⟩
    obtain ⟨p2, hp2⟩ : ∃ p, ords.getD (r.1 * 16 + (2 * i.1 + 1) * 1) 0 = p := ⟨_, rfl⟩
    rw [hp1] at ho1
    rw [hp2] at ho2
    refine awp_seq ?_
    refine rl ?_
    refine G (q_lssn (y := 8) ?_)
    refine gend ?_
    refine awp_seq ?_
    refine cnd (fun hc5 => ?_) (fun hc5 => ?_); rotate_left
    · refine awp_exit ?_
      rw [show i.1 = 8 from (by have := i.2; omega)]
      refine rl ?_
      refine G (q_addn (y := 1) ?_)
      refine Mv ?_
      refine gend ?_
      exact ⟨⟨r.1 + 1, by omega⟩, by show 10 - (r.1 + 1) < 10 - r.1; omega, sle_sub ⟨rfl, rfl, rfl, rfl, rfl, rfl, rfl, trivial⟩ rfl⟩   -- endloop 2
    refine awp_skip ?_
    refine awp_seq ?_
    refine awp_block ?_
    refine awp_seq ?_
    refine rl ?_
    refine Mv ?_
    refine As ?_
    refine gend ?_
    refine awp_seq ?_
    refine rl ?_
    refine Mv ?_
    refine G (q_quon (y := 4) ?_)
    refine As ?_
    refine gend ?_
    refine awp_seq ?_
    refine rdl [] [] [] ?_
    refine Dp (fun _ => q_mv (s := .v (.c _)) ⟨rfl, rfl⟩) ?_
    refine Dp (fun _ => q_mv (s := .v (.c _)) ⟨rfl, rfl⟩) ?_
    refine Dp (fun _ => q_mv (s := .v (.c _)) ⟨rfl, rfl⟩) ?_
    refine Dp (fun _ => q_muln (x := 2) ⟨rfl, rfl⟩) ?_
    refine Dp (fun _ => q_ncr ⟨rfl, rfl⟩) ?_
    refine Dp (fun _ => q_ixr ⟨rfl, rfl⟩) ?_
    refine Dp (fun _ => q_ixr ⟨rfl, rfl⟩) ?_
    refine Dp (fun _ => q_ldrd  ⟨rfl, rfl⟩ (hc := (ords_at2 _ _ (by omega)).trans (by rw [hp1]))) ?_
    refine Dp (fun _ => q_ixp1 ⟨rfl, rfl⟩) ?_
    refine DLp ?_
    refine Dp (fun _ => q_mv (s := .v (.c _)) ⟨rfl, rfl⟩) ?_
    refine Dp (fun _ => q_mv (s := .v (.c _)) ⟨rfl, rfl⟩) ?_
    refine Dp (fun _ => q_mv (s := .v (.c _)) ⟨rfl, rfl⟩) ?_
    refine Dp (fun _ => q_muln (x := 2) ⟨rfl, rfl⟩) ?_
    refine Dp (fun _ => q_addn (y := 1) ⟨rfl, rfl⟩) ?_
    refine Dp (fun _ => q_ncr ⟨rfl, rfl⟩) ?_
    refine Dp (fun _ => q_ixr ⟨rfl, rfl⟩) ?_
    refine Dp (fun _ => q_ixr ⟨rfl, rfl⟩) ?_
    refine Dp (fun _ => q_ldrd  ⟨rfl, rfl⟩ (hc := (ords_at2 _ _ (by omega)).trans (by rw [hp2]))) ?_
    refine Dp (fun _ => q_ixp1 ⟨rfl, rfl⟩) ?_
    refine DLp ?_
    refine Dp (fun _ => q_as (s := .v (.c _)) ⟨rfl, rfl⟩) ?_
    refine Dp (fun _ => q_as (s := .v (.c _)) ⟨rfl, rfl⟩) ?_
    refine dend ?_
    refine rl ?_
    refine Mv ?_
    refine Mv ?_
    refine G (q_remn (y := 4) ?_)
    refine Mv ?_
    refine Mv ?_
    refine G (q_addn ?_)
    refine G (q_remn (y := 4) ?_)
    refine G (q_addn (x := 4) ?_)
    refine Mv ?_
    refine Mv ?_
    refine G (q_muln (x := 2) ?_)
    refine G (q_addn ?_)
    refine G (q_remn (y := 4) ?_)
    refine G (q_addn (x := 8) ?_)
    refine Mv ?_
    refine Mv ?_
    refine G (q_muln (x := 3) ?_)
    refine G (q_addn ?_)
    refine G (q_remn (y := 4) ?_)
    refine G (q_addn (x := 12) ?_)
    refine Mv ?_
    refine Mv ?_
    refine G (q_callcw 4 (mix_ _ (i.1 % 4) (4 + (i.1 + i.1 / 4) % 4) (8 + (i.1 + 2 * (i.1 / 4)) % 4) (12 + (i.1 + 3 * (i.1 / 4)) % 4) (M.getD p1 0) (M.getD p2 0) (by omega) (by omega) (by omega) (by omega) hi) ?_ (ha := cac (et rfl) cm_int (cac (et rfl) cm_int (cac (et rfl) cm_int (cac (et rfl) cm_int (cac (et rfl) cm_int (cac (et rfl) cm_int ca0)))))))
    refine gend ?_
    refine rl ?_
    refine G (q_addn (y := 1) ?_)
    refine Mv ?_
    refine gend ?_
    exact ⟨⟨i.1 + 1, by omega⟩, by show 8 - (i.1 + 1) < 8 - i.1; omega, sle_sub ⟨rfl, rfl, rfl, rfl, rfl, rfl, rfl, rfl, rfl, trivial⟩ (by show _ = [some (u32s h), some (u32s f), some (u32s (List.replicate 8 0)), some (u32s M), some (u32s (ins M r.1 (rnds M V r.1) (i.1 + 1)))]; rw [ins, hp1, hp2]; rfl)⟩   -- endloop 4
  refine awp_skip ?_
  refine awp_seq ?_
  refine awp_block ?_
  refine awp_seq ?_
  refine rl ?_
  refine Mv ?_
  refine G (q_ixo1 ?_)
  refine G (q_ldrd ?_)
  refine As ?_
  refine As ?_
  refine gend ?_
  refine rdl [12] [] [0, 0, 0, 0, 0, 0, 0, 0, 0, 0, 0, 0, 1] ?_
  refine Dp (fun _ => q_mv (s := .v (.c _)) ⟨rfl, rfl⟩) ?_
  refine Dp (fun _ => q_quon (y := 4) ⟨rfl, rfl⟩) ?_
  refine Dp (fun _ => q_ixp1 ⟨rfl, rfl⟩) ?_
  refine DLp ?_
  refine Dp (fun _ => q_mv (s := .v (.c _)) ⟨rfl, rfl⟩) ?_
  refine Dp (fun _ => q_cv8_32 ⟨rfl, rfl⟩) ?_
  refine Dp (fun _ => q_mv (s := .v (.c _)) ⟨rfl, rfl⟩) ?_
  refine Dp (fun _ => q_remn (y := 4) ⟨rfl, rfl⟩) ?_
  refine Dp (fun _ => q_muln (x := 8) ⟨rfl, rfl⟩) ?_
  refine Dp (fun _ => q_shl32_0 ⟨rfl, rfl⟩) ?_
  refine Dp (fun _ => q_or32 ⟨rfl, rfl⟩) ?_
  refine Dp (fun _ => q_ixp1 ⟨rfl, rfl⟩) ?_
  refine De0 (q_stm (pw ?_))
  refine dend ?_
  refine rl ?_
  refine G (q_addn (y := 1) ?_)
  refine Mv ?_
  refine gend ?_
  exact ⟨⟨x.1 + 1, by omega⟩, by show 64 - (x.1 + 1) < 64 - x.1; omega, sle_sub ⟨rfl, rfl, rfl, rfl, rfl, rfl, rfl, rfl, rfl, rfl, rfl, trivial⟩ rfl⟩   -- endloop 1
end Go.Proofs.Ytngmhcgenknokaa

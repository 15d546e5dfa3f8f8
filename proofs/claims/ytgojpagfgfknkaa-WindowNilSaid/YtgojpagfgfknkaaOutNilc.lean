/- Texts that the proof stands on, put together: the abstract machine, and what functions do over it. -/
import Derived.Test.YtgojpagfgfknkaaOutNilb
/- What functions of the program do, walked over the abstract machine. -/
namespace Go.Proofs.Ytgojpagfgfknkaa.Wd
open Go Go.Abs Go.Proofs

def t1 : UInt64 × UInt64 := wnext true 0 0 0
def t2 : UInt64 × UInt64 := wnext true t1.1 t1.2 0
def t3 : UInt64 × UInt64 := wnext true t2.1 t2.2 18446744073709551615
def t4 : UInt64 × UInt64 := wnext true t3.1 t3.2 0
def t5 : UInt64 × UInt64 := wnext true t4.1 t4.2 (18446744073709551615 - 63)
def t6 : UInt64 × UInt64 := wnext true t5.1 t5.2 (18446744073709551615 - 64)
theorem nil_1 : wchk true 0 0 0 + wchk true t2.1 t2.2 18446744073709551615 + wchk true t4.1 t4.2 (18446744073709551615 - 63) = 0 := by decide +kernel
theorem nil_2 : wchk true t1.1 t1.2 0 = 10 := by decide +kernel
theorem nil_3 : wchk true t3.1 t3.2 0 = 10 := by decide +kernel
theorem nil_4 : wchk true t5.1 t5.2 (18446744073709551615 - 64) = 10 := by decide +kernel
theorem nil_5 : wcame true t6.1 t6.2 18446744073709551615 = true := by decide +kernel
theorem nil_6 : wcame true t6.1 t6.2 0 = false := by decide +kernel
theorem nil_7 : wchk false 0 0 1 = 1 := by decide +kernel
theorem nil_8 : wnext false 0 0 1 = (0, 0) := by decide +kernel
theorem nil_9 : wcame false 0 0 0 = false := by decide +kernel
theorem take_00 : Good Try.prog 10 [.c (.ptr 0 0), .c (c64 1)] [some (wcs false 0 0)] (sc (cn 1)) [some (wcs false 0 0)] := by
  have h := take false 0 0 1
  rwa [nil_7, nil_8] at h
set_option maxHeartbeats 800000 in
/-- escutcheonlaw18.WindowNil -/
theorem wnil : Good Try.prog 6 [] [] (sc (.bool true)) [] := by
  refine good_frm 135 Try.func6 rfl rfl rfl rfl rfl rfl ?_
  refine awp_seq ?_
  refine rln ?_
  refine As ?_
  refine gend ?_
  refine awp_seq ?_
  refine rln ?_
  refine As ?_
  refine gend ?_
  refine awp_seq ?_
  refine rln ?_
  refine G (q_bls (fk0 ?_))
  refine G2 (fun _ k_ => q_boxa k_) ?_
  refine As ?_
  refine gend ?_
  refine awp_seq ?_
  refine rln ?_
  refine G2 (fun _ k_ => q_calln new k_) ?_
  refine As ?_
  refine gend ?_
  refine awp_seq ?_
  refine awp_seq ?_
  refine rln ?_
  refine Mv ?_
  refine G (q_eqlp ?_)
  refine gend ?_
  refine cndF ?_
  refine awp_skip ?_
  refine awp_seq ?_
  refine rln ?_
  refine G (q_as (s := sc (c64 18446744073709551615)) ?_)
  refine gend ?_
  refine awp_seq ?_
  refine rln ?_
  refine Mv ?_
  refine G2 (fun _ k_ => q_callp (greatest_nil) k_) ?_
  refine G (q_mv (s := .t _) ?_)
  refine G (q_ext (y := .c _) ?_)
  refine G (q_ext (y := .c _) ?_)
  refine As ?_
  refine As ?_
  refine gend ?_
  refine awp_seq ?_
  refine rln ?_
  refine Mv ?_
  refine G2 (fun _ k_ => q_callp (greatest false 0 0) k_) ?_
  refine G (q_mv (s := .t _) ?_)
  refine G (q_ext (y := .c _) ?_)
  refine G (q_ext (y := .c _) ?_)
  refine As ?_
  refine As ?_
  refine gend ?_
  refine awp_seq ?_
  refine rln ?_
  refine Mv ?_
  refine G2 (fun _ k_ => q_callp (greatest true 0 0) k_) ?_
  refine G (q_mv (s := .t _) ?_)
  refine G (q_ext (y := .c _) ?_)
  refine G (q_ext (y := .c _) ?_)
  refine As ?_
  refine As ?_
  refine gend ?_
  refine awp_seq ?_
  refine rln ?_
  refine Mv ?_
  refine G2 (fun _ k_ => q_callw 1 (take true 0 0 0) k_) ?_
  refine Mv ?_
  refine G2 (fun _ k_ => q_callw 1 (take true t1.1 t1.2 0) k_) ?_
  refine Mv ?_
  refine Mv ?_
  refine G2 (fun _ k_ => q_callw 1 (take true t2.1 t2.2 18446744073709551615) k_) ?_
  refine Mv ?_
  refine G2 (fun _ k_ => q_callw 1 (take true t3.1 t3.2 0) k_) ?_
  refine As ?_
  refine As ?_
  refine As ?_
  refine As ?_
  refine gend ?_
  refine awp_seq ?_
  refine rln ?_
  refine Mv ?_
  refine Mv ?_
  refine G (q_sub64 (y := 63) ?_)
  refine G2 (fun _ k_ => q_callw 1 (take true t4.1 t4.2 (18446744073709551615 - 63)) k_) ?_
  refine Mv ?_
  refine Mv ?_
  refine G (q_sub64 (y := 64) ?_)
  refine G2 (fun _ k_ => q_callw 1 (take true t5.1 t5.2 (18446744073709551615 - 64)) k_) ?_
  refine As ?_
  refine As ?_
  refine gend ?_
  refine awp_seq ?_
  refine rln ?_
  refine Mv ?_
  refine G (q_notb ?_)
  refine Mv ?_
  refine Akn 56 (fun hb3 => ?_) ?_; rotate_left
  · first | exact rfl | (simp [nil_1, nil_2, nil_3, nil_4, nil_5, nil_6, nil_9]; done)
  refine Gg (q_mv (s := .v (.c _)) ?_)
  refine Gg (q_notb ?_)
  refine G (q_pkt ?_)
  refine Mv ?_
  refine Akn 60 (fun hb7 => ?_) ?_; rotate_left
  · first | exact rfl | (simp [nil_1, nil_2, nil_3, nil_4, nil_5, nil_6, nil_9]; done)
  refine Gg (q_mv (s := .v (.c _)) ?_)
  refine Gg (q_notb ?_)
  refine G (q_pkt ?_)
  refine Mv ?_
  refine Akn 64 (fun hb11 => ?_) ?_; rotate_left
  · first | exact rfl | (simp [nil_1, nil_2, nil_3, nil_4, nil_5, nil_6, nil_9]; done)
  refine Gg (q_mv (s := .v (.c _)) ?_)
  refine G2g (fun _ k_ => q_callp (check_nil 1) k_) ?_
  refine G2g (fun _ k_ => q_callp (num _/- escutcheon/escutcheonlaw18.num -/) k_) ?_
  refine Gg (q_eqln (y := 1) ?_)
  refine G (q_pkt ?_)
  refine Mv ?_
  refine Aknd 70 (fun hb17 => ?_) ?_; rotate_left
  · first | exact rfl | (simp [nil_1, nil_2, nil_3, nil_4, nil_5, nil_6, nil_9]; done)
  refine Gg (q_mv (s := .v (.c _)) ?_)
  refine G2g (fun _ k_ => q_callw 0 take_00 k_) ?_
  refine G2g (fun _ k_ => q_callp (num _/- escutcheon/escutcheonlaw18.num -/) k_) ?_
  refine Gg (q_eqln (y := 1) ?_)
  refine G (q_pkt ?_)
  refine Mv ?_
  refine Aknd 76 (fun hb23 => ?_) ?_; rotate_left
  · first | exact rfl | (simp [nil_1, nil_2, nil_3, nil_4, nil_5, nil_6, nil_9]; done)
  refine Gg (q_mv (s := .v (.c _)) ?_)
  refine G2g (fun _ k_ => q_callp (came_nil 0) k_) ?_
  refine Gg (q_notb ?_)
  refine G (q_pkt ?_)
  refine Mv ?_
  refine Akn 81 (fun hb28 => ?_) ?_; rotate_left
  · first | exact rfl | (simp [nil_1, nil_2, nil_3, nil_4, nil_5, nil_6, nil_9]; done)
  refine Gg (q_mv (s := .v (.c _)) ?_)
  refine G2g (fun _ k_ => q_callp (came false 0 0 0) k_) ?_
  refine Gg (q_notb ?_)
  refine G (q_pkt ?_)
  refine Mv ?_
  refine Akn 86 (fun hb33 => ?_) ?_; rotate_left
  · first | exact rfl | (simp [nil_1, nil_2, nil_3, nil_4, nil_5, nil_6, nil_9]; done)
  refine Gg (q_mv (s := .v (.c _)) ?_)
  refine G2g (fun _ k_ => q_callp (copy_nil) k_) ?_
  refine Gg (q_eqlp ?_)
  refine G (q_pkt ?_)
  refine Mv ?_
  refine Gg (q_mv (s := .v (.c _)) ?_)
  refine G2g (fun _ k_ => q_callp (copy_0 0 0) k_) ?_
  refine Gg (q_eqlp ?_)
  refine G (q_pkt ?_)
  refine Mv ?_
  refine Gg (q_mv (s := .v (.c _)) ?_)
  refine G2g (fun _ k_ => q_callp (num _/- escutcheon/escutcheonlaw18.num -/) k_) ?_
  refine Gg (q_mv (s := .v (.c _)) ?_)
  refine G2g (fun _ k_ => q_callp (num _/- escutcheon/escutcheonlaw18.num -/) k_) ?_
  refine Gg (q_addn ?_)
  refine Gg (q_mv (s := .v (.c _)) ?_)
  refine G2g (fun _ k_ => q_callp (num _/- escutcheon/escutcheonlaw18.num -/) k_) ?_
  refine Gg (q_addn ?_)
  refine Gg (q_eqln (y := 0) ?_)
  refine G (q_pkt ?_)
  refine Mv ?_
  refine Aknd 107 (fun hb54 => ?_) ?_; rotate_left
  · first | exact rfl | (simp [nil_1, nil_2, nil_3, nil_4, nil_5, nil_6, nil_9]; done)
  refine Gg (q_mv (s := .v (.c _)) ?_)
  refine G2g (fun _ k_ => q_callp (num _/- escutcheon/escutcheonlaw18.num -/) k_) ?_
  refine Gg (q_eqln (y := 10) ?_)
  refine G (q_pkt ?_)
  refine Mv ?_
  refine Aknd 112 (fun hb59 => ?_) ?_; rotate_left
  · first | exact rfl | (simp [nil_1, nil_2, nil_3, nil_4, nil_5, nil_6, nil_9]; done)
  refine Gg (q_mv (s := .v (.c _)) ?_)
  refine G2g (fun _ k_ => q_callp (num _/- escutcheon/escutcheonlaw18.num -/) k_) ?_
  refine Gg (q_eqln (y := 10) ?_)
  refine G (q_pkt ?_)
  refine Mv ?_
  refine Aknd 117 (fun hb64 => ?_) ?_; rotate_left
  · first | exact rfl | (simp [nil_1, nil_2, nil_3, nil_4, nil_5, nil_6, nil_9]; done)
  refine Gg (q_mv (s := .v (.c _)) ?_)
  refine G2g (fun _ k_ => q_callp (num _/- escutcheon/escutcheonlaw18.num -/) k_) ?_
  refine Gg (q_eqln (y := 10) ?_)
  refine G (q_pkt ?_)
  refine Mv ?_
  refine Aknd 122 (fun hb69 => ?_) ?_; rotate_left
  · first | exact rfl | (simp [nil_1, nil_2, nil_3, nil_4, nil_5, nil_6, nil_9]; done)
  refine Gg (q_mv (s := .v (.c _)) ?_)
  refine Gg (q_mv (s := .v (.c _)) ?_)
  refine G2g (fun _ k_ => q_callp (came true t6.1 t6.2 18446744073709551615) k_) ?_
  refine G (q_pkt ?_)
  refine Mv ?_
  refine Akn 127 (fun hb74 => ?_) ?_; rotate_left
  · first | exact rfl | (simp [nil_1, nil_2, nil_3, nil_4, nil_5, nil_6, nil_9]; done)
  refine Gg (q_mv (s := .v (.c _)) ?_)
  refine G2g (fun _ k_ => q_callp (came true t6.1 t6.2 0) k_) ?_
  refine Gg (q_notb ?_)
  refine G (q_pkt ?_)
  refine Mv ?_
  refine Akn 132 (fun hb79 => ?_) ?_; rotate_left
  · first | exact rfl | (simp [nil_1, nil_2, nil_3, nil_4, nil_5, nil_6, nil_9]; done)
  refine G2g (fun _ k_ => q_callp (known/- escutcheon/escutcheonlaw18.known -/) k_) ?_
  refine G (q_pkt ?_)
  refine As ?_
  refine gend ?_
  refine awp_ret ?_
  exact fp1
end Go.Proofs.Ytgojpagfgfknkaa.Wd


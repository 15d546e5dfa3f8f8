/- What functions of the program do, walked over the abstract machine. -/
import Derived.Test.YtedpdnicpicjdaaWi
namespace Go.Proofs.Ytedpdnicpicjdaa
open Go Go.Abs Go.Proofs

/-- A reader's cells: where it is in the bytes, how many are left, and did it fail. -/
abbrev rd (q n : Nat) (b : Bool) : List Cell := [.slc 0 q n 1, .bool b, .bool true]
/-- slices.Clone[[]byte,byte] -/
theorem clone (k : Nat) (l : List UInt8) (h0 : 0 < k) (hl : l.length = k) (hk : k ≤ 140737488351232) : Good Try.prog 31 [.c (.ro k (u8s l))] [] (sc (.slc 0 0 k 1)) [some (u8s l)] := by
  refine good_frm 8 Try.func31 rfl rfl rfl rfl rfl rfl ?_
  refine awp_seq ?_
  refine rl ?_
  refine As ?_
  refine gend ?_
  refine awp_seq ?_
  refine awp_seq ?_
  refine rl ?_
  refine Mv ?_
  refine G (q_eqlsl ?_)
  refine gend ?_
  refine cndF ?_
  refine awp_skip ?_
  refine awp_seq ?_
  refine rl ?_
  refine G (q_bsl (fk0 ?_))
  refine Mv ?_
  refine G (q_app ?_)
  refine As ?_
  refine gend ?_
  refine awp_ret ?_
  exact fx1 [1] (hv := by rw [Nat.zero_add]; rfl)
/-- slices.Clone[[]byte,byte] -/
theorem clone_nil : Good Try.prog 31 [.c .nils] [] (sc .nils) [] := by
  refine good_frm 8 Try.func31 rfl rfl rfl rfl rfl rfl ?_
  refine awp_seq ?_
  refine rl ?_
  refine As ?_
  refine gend ?_
  refine awp_seq ?_
  refine awp_seq ?_
  refine rl ?_
  refine Mv ?_
  refine G (q_eqlsl ?_)
  refine gend ?_
  refine cndT ?_
  refine awp_seq ?_
  refine rl ?_
  refine As ?_
  refine gend ?_
  refine awp_ret ?_
  exact fp1
/-- wire.Read -/
theorem read (k : Nat) (l : List UInt8) (h0 : 0 < k) (hl : l.length = k) (hk : k ≤ 140737488351232) : Good Try.prog 14 [.c (.ro k (u8s l))] [] (sc (.ptr 1 0)) [some (u8s l), some (rd 0 k false)] := by
  refine good_frm 7 Try.func14 rfl rfl rfl rfl rfl rfl ?_
  refine awp_seq ?_
  refine rl ?_
  refine As ?_
  refine gend ?_
  refine awp_seq ?_
  refine rl ?_
  refine Mv ?_
  refine G (q_calln (clone k l h0 hl hk/- slices.Clone[[]byte,byte] -/) ?_)
  refine G (q_bls (fkc rfl (et rfl) rfl (Nat.le_of_ble_eq_true rfl) (fkc rfl rfl rfl (Nat.le_of_ble_eq_true rfl) (fk0 ?_))))
  refine G (q_boxa ?_)
  refine As ?_
  refine gend ?_
  refine awp_ret ?_
  exact fx1 [0, 1]
/-- (*wire.Reader).there -/
theorem there (c : Cell) (b h : Bool) : Good Try.prog 33 [.c (.rop [c, .bool b, .bool h])] [] (sc (.bool h)) [] := by
  refine good_frm 11 Try.func33 rfl rfl rfl rfl rfl rfl ?_
  refine awp_seq ?_
  refine rl ?_
  refine As ?_
  refine gend ?_
  refine awp_seq ?_
  refine rl ?_
  refine Mv ?_
  refine G (q_neqp ?_)
  refine Mv ?_
  refine Gg (q_mv (s := .v (.c _)) ?_)
  refine Gg (q_ncr ?_)
  refine Gg (q_far ?_)
  refine Gg (q_ldr ?_)
  refine G (q_pkt ?_)
  refine As ?_
  refine gend ?_
  refine awp_ret ?_
  exact fp1
/-- (*wire.Reader).there -/
theorem there_nil : Good Try.prog 33 [.c .nilp] [] (sc (.bool false)) [] := by
  refine good_frm 11 Try.func33 rfl rfl rfl rfl rfl rfl ?_
  refine awp_seq ?_
  refine rl ?_
  refine As ?_
  refine gend ?_
  refine awp_seq ?_
  refine rl ?_
  refine Mv ?_
  refine G (q_neqp ?_)
  refine Mv ?_
  refine Gn ?_
  refine Gn ?_
  refine Gn ?_
  refine Gn ?_
  refine G (q_pkf ?_)
  refine As ?_
  refine gend ?_
  refine awp_ret ?_
  exact fp1
/-- (*wire.Reader).cut -/
theorem cut (D : List UInt8) (q n m : Nat) (h : m ≤ n) (hD : q + n ≤ D.length) : Good Try.prog 32 [.c (.ptr 1 0), .c (cn m)] [some (u8s D), some (rd q n false)] (.t [.c (.slc 0 q m 1), .c (.bool true)]) [some (u8s D), some (rd (q + m * 1) (n - m) false)] := by
  refine good_frm 47 Try.func32 rfl rfl rfl rfl rfl rfl ?_
  refine awp_seq ?_
  refine rl ?_
  refine As ?_
  refine As ?_
  refine gend ?_
  refine awp_seq ?_
  refine awp_seq ?_
  refine rl ?_
  refine Mv ?_
  refine G (q_callp (there _ _ _/- (*escutcheon/wire.Reader).there -/) ?_)
  refine G (q_notb ?_)
  refine gend ?_
  refine cndbnN (fun hc1 => ?_) ?_; rotate_left
  · rfl
  refine awp_skip ?_
  refine awp_seq ?_
  refine awp_seq ?_
  refine rl ?_
  refine Mv ?_
  refine G (q_ncp ?_)
  refine G (q_fap0 ?_)
  refine G (q_ldp ?_)
  refine Mv ?_
  refine Akf 14 (fun hb5 => ?_) ?_; rotate_left
  · rfl
  refine Gg (q_mv (s := .v (.c _)) ?_)
  refine Gg (q_lssn (y := 0) ?_)
  refine G (q_pkf ?_)
  refine Mv ?_
  refine Akfd 18 (fun hb9 => ?_) ?_; rotate_left
  · omega
  refine Gg (q_mv (s := .v (.c _)) ?_)
  refine Gg (q_mv (s := .v (.c _)) ?_)
  refine Gg (q_ncp ?_)
  refine Gg (q_fap0 ?_)
  refine Gg (q_ldp ?_)
  refine Gg (q_lenc ?_)
  refine Gg (q_gtrn ?_)
  refine G (q_pkf ?_)
  refine gend ?_
  refine cndN (fun hc2 => ?_) ?_; rotate_left
  · omega
  refine awp_skip ?_
  refine awp_seq ?_
  refine rl ?_
  refine Mv ?_
  refine G (q_ncp ?_)
  refine G (q_fap0 ?_)
  refine G (q_ldp ?_)
  refine Mv ?_
  refine Mv ?_
  refine G (q_sls_mx ?_)
  refine As ?_
  refine gend ?_
  refine awp_seq ?_
  refine rl ?_
  refine Mv ?_
  refine Mv ?_
  refine G (q_ncp ?_)
  refine G (q_fap0 ?_)
  refine G (q_ldp ?_)
  refine Mv ?_
  refine G (q_sls_lo ?_)
  refine G (q_ncp ?_)
  refine G (q_fap0 ?_)
  refine G0 (q_st ?_)
  refine gend ?_
  refine awp_seq ?_
  refine rl ?_
  refine Mv ?_
  refine As ?_
  refine As ?_
  refine gend ?_
  refine awp_ret ?_
  exact fx2 [0, 1]
/-- (*wire.Reader).cut -/
theorem cut_big (D : List UInt8) (q n m : Nat) (h : n < m) : Good Try.prog 32 [.c (.ptr 1 0), .c (cn m)] [some (u8s D), some (rd q n false)] (.t [.c .nils, .c (.bool false)]) [some (u8s D), some (rd q n true)] := by
  refine good_frm 47 Try.func32 rfl rfl rfl rfl rfl rfl ?_
  refine awp_seq ?_
  refine rl ?_
  refine As ?_
  refine As ?_
  refine gend ?_
  refine awp_seq ?_
  refine awp_seq ?_
  refine rl ?_
  refine Mv ?_
  refine G (q_callp (there _ _ _/- (*escutcheon/wire.Reader).there -/) ?_)
  refine G (q_notb ?_)
  refine gend ?_
  refine cndbnN (fun hc1 => ?_) ?_; rotate_left
  · rfl
  refine awp_skip ?_
  refine awp_seq ?_
  refine awp_seq ?_
  refine rl ?_
  refine Mv ?_
  refine G (q_ncp ?_)
  refine G (q_fap0 ?_)
  refine G (q_ldp ?_)
  refine Mv ?_
  refine Akf 14 (fun hb5 => ?_) ?_; rotate_left
  · rfl
  refine Gg (q_mv (s := .v (.c _)) ?_)
  refine Gg (q_lssn (y := 0) ?_)
  refine G (q_pkf ?_)
  refine Mv ?_
  refine Akfd 18 (fun hb9 => ?_) ?_; rotate_left
  · omega
  refine Gg (q_mv (s := .v (.c _)) ?_)
  refine Gg (q_mv (s := .v (.c _)) ?_)
  refine Gg (q_ncp ?_)
  refine Gg (q_fap0 ?_)
  refine Gg (q_ldp ?_)
  refine Gg (q_lenc ?_)
  refine Gg (q_gtrn ?_)
  refine G (q_pkf ?_)
  refine gend ?_
  refine cndY (fun hc2 => ?_) ?_; rotate_left
  · exact h
  refine awp_seq ?_
  refine rl ?_
  refine Mv ?_
  refine G (q_ncp ?_)
  refine G (q_fap0 ?_)
  refine G0 (q_st (c := .bool true) ?_)
  refine gend ?_
  refine awp_seq ?_
  refine rl ?_
  refine As ?_
  refine As ?_
  refine gend ?_
  refine awp_ret ?_
  exact fx2 [0, 1]
/-- (*wire.Reader).cut -/
theorem cut_bad (D : List UInt8) (q n m : Nat) : Good Try.prog 32 [.c (.ptr 1 0), .c (cn m)] [some (u8s D), some (rd q n true)] (.t [.c .nils, .c (.bool false)]) [some (u8s D), some (rd q n true)] := by
  refine good_frm 47 Try.func32 rfl rfl rfl rfl rfl rfl ?_
  refine awp_seq ?_
  refine rl ?_
  refine As ?_
  refine As ?_
  refine gend ?_
  refine awp_seq ?_
  refine awp_seq ?_
  refine rl ?_
  refine Mv ?_
  refine G (q_callp (there _ _ _/- (*escutcheon/wire.Reader).there -/) ?_)
  refine G (q_notb ?_)
  refine gend ?_
  refine cndbnN (fun hc1 => ?_) ?_; rotate_left
  · rfl
  refine awp_skip ?_
  refine awp_seq ?_
  refine awp_seq ?_
  refine rl ?_
  refine Mv ?_
  refine G (q_ncp ?_)
  refine G (q_fap0 ?_)
  refine G (q_ldp ?_)
  refine Mv ?_
  refine Akn 14 (fun hb5 => ?_) ?_; rotate_left
  · rfl
  refine Gn ?_
  refine Gn ?_
  refine G (q_pkt ?_)
  refine Mv ?_
  refine Gn ?_
  refine Gn ?_
  refine Gn ?_
  refine Gn ?_
  refine Gn ?_
  refine Gn ?_
  refine Gn ?_
  refine G (q_pkt ?_)
  refine gend ?_
  refine cndT ?_
  refine awp_seq ?_
  refine rl ?_
  refine Mv ?_
  refine G (q_ncp ?_)
  refine G (q_fap0 ?_)
  refine G0 (q_st (c := .bool true) ?_)
  refine gend ?_
  refine awp_seq ?_
  refine rl ?_
  refine As ?_
  refine As ?_
  refine gend ?_
  refine awp_ret ?_
  exact fx2 [0, 1]
/-- (*wire.Reader).cut -/
theorem cut_nil (m : Nat) : Good Try.prog 32 [.c .nilp, .c (cn m)] [] (.t [.c .nils, .c (.bool false)]) [] := by
  refine good_frm 47 Try.func32 rfl rfl rfl rfl rfl rfl ?_
  refine awp_seq ?_
  refine rl ?_
  refine As ?_
  refine As ?_
  refine gend ?_
  refine awp_seq ?_
  refine awp_seq ?_
  refine rl ?_
  refine Mv ?_
  refine G (q_callp (there_nil/- (*escutcheon/wire.Reader).there -/) ?_)
  refine G (q_notb ?_)
  refine gend ?_
  refine cndT ?_
  refine awp_seq ?_
  refine rl ?_
  refine As ?_
  refine As ?_
  refine gend ?_
  refine awp_ret ?_
  exact fp2
/-- (*wire.Reader).Number -/
theorem number (D : List UInt8) (q n m : Nat) (h1 : 1 ≤ m) (h8 : m ≤ 8) (h : m ≤ n) (hD : q + n ≤ D.length) : Good Try.prog 15 [.c (.ptr 1 0), .c (cn m)] [some (u8s D), some (rd q n false)] (sc (c64 (gt ((D.drop q).take m)))) [some (u8s D), some (rd (q + m * 1) (n - m) false)] := by
  refine good_frm 29 Try.func15 rfl rfl rfl rfl rfl rfl ?_
  refine awp_seq ?_
  refine rl ?_
  refine G (q_as (s := sc (c64 0)) ?_)
  refine gend ?_
  refine awp_seq ?_
  refine awp_seq ?_
  refine rl ?_
  refine Mv ?_
  refine G (q_lssn (y := 1) ?_)
  refine Mv ?_
  refine Akfd 11 (fun hb3 => ?_) ?_; rotate_left
  · omega
  refine Gg (q_mv (s := .v (.c _)) ?_)
  refine Gg (q_gtrn (y := 8) ?_)
  refine G (q_pkf ?_)
  refine gend ?_
  refine cndN (fun hc1 => ?_) ?_; rotate_left
  · omega
  refine awp_skip ?_
  refine awp_seq ?_
  refine rl ?_
  refine Mv ?_
  refine Mv ?_
  refine G (q_callv [0, 1] [_, _] [] (cut D q n m h hD/- (*escutcheon/wire.Reader).cut -/) ?_)
  refine G (q_mv (s := .t _) ?_)
  refine G (q_ext (y := .c _) ?_)
  refine G (q_ext (y := .c _) ?_)
  refine As ?_
  refine As ?_
  refine gend ?_
  refine awp_seq ?_
  refine awp_seq ?_
  refine rl ?_
  refine Mv ?_
  refine G (q_notb ?_)
  refine gend ?_
  refine cndbnN (fun hc2 => ?_) ?_; rotate_left
  · rfl
  refine awp_skip ?_
  refine awp_seq ?_
  refine rl ?_
  refine Mv ?_
  refine G (q_callp (get m ((D.drop q).take (m * 1)) (by simp only [List.length_take, List.length_drop]; omega) h1 h8/- escutcheon/wire.Get -/) ?_)
  refine G (q_mv (s := .t _) ?_)
  refine G (q_ext (y := .c _) ?_)
  refine G (q_ext (y := .c _) ?_)
  refine As ?_
  refine As ?_
  refine gend ?_
  refine awp_seq ?_
  refine rl ?_
  refine Mv ?_
  refine As ?_
  refine gend ?_
  refine awp_ret ?_
  exact fx1 [0, 1] (hv := by rw [Nat.mul_one])
/-- (*wire.Reader).Number -/
theorem number_big (D : List UInt8) (q n m : Nat) (h1 : 1 ≤ m) (h8 : m ≤ 8) (h : n < m) : Good Try.prog 15 [.c (.ptr 1 0), .c (cn m)] [some (u8s D), some (rd q n false)] (sc (c64 0)) [some (u8s D), some (rd q n true)] := by
  refine good_frm 29 Try.func15 rfl rfl rfl rfl rfl rfl ?_
  refine awp_seq ?_
  refine rl ?_
  refine G (q_as (s := sc (c64 0)) ?_)
  refine gend ?_
  refine awp_seq ?_
  refine awp_seq ?_
  refine rl ?_
  refine Mv ?_
  refine G (q_lssn (y := 1) ?_)
  refine Mv ?_
  refine Akfd 11 (fun hb3 => ?_) ?_; rotate_left
  · omega
  refine Gg (q_mv (s := .v (.c _)) ?_)
  refine Gg (q_gtrn (y := 8) ?_)
  refine G (q_pkf ?_)
  refine gend ?_
  refine cndN (fun hc1 => ?_) ?_; rotate_left
  · omega
  refine awp_skip ?_
  refine awp_seq ?_
  refine rl ?_
  refine Mv ?_
  refine Mv ?_
  refine G (q_callv [0, 1] [_, _] [] (cut_big D q n m h/- (*escutcheon/wire.Reader).cut -/) ?_)
  refine G (q_mv (s := .t _) ?_)
  refine G (q_ext (y := .c _) ?_)
  refine G (q_ext (y := .c _) ?_)
  refine As ?_
  refine As ?_
  refine gend ?_
  refine awp_seq ?_
  refine awp_seq ?_
  refine rl ?_
  refine Mv ?_
  refine G (q_notb ?_)
  refine gend ?_
  refine cndbnY (fun hc2 => ?_) ?_; rotate_left
  · rfl
  refine awp_seq ?_
  refine rl ?_
  refine G (q_as (s := sc (c64 0)) ?_)
  refine gend ?_
  refine awp_ret ?_
  exact fx1 [0, 1]
/-- (*wire.Reader).Number -/
theorem number_bad (D : List UInt8) (q n m : Nat) (h1 : 1 ≤ m) (h8 : m ≤ 8) : Good Try.prog 15 [.c (.ptr 1 0), .c (cn m)] [some (u8s D), some (rd q n true)] (sc (c64 0)) [some (u8s D), some (rd q n true)] := by
  refine good_frm 29 Try.func15 rfl rfl rfl rfl rfl rfl ?_
  refine awp_seq ?_
  refine rl ?_
  refine G (q_as (s := sc (c64 0)) ?_)
  refine gend ?_
  refine awp_seq ?_
  refine awp_seq ?_
  refine rl ?_
  refine Mv ?_
  refine G (q_lssn (y := 1) ?_)
  refine Mv ?_
  refine Akfd 11 (fun hb3 => ?_) ?_; rotate_left
  · omega
  refine Gg (q_mv (s := .v (.c _)) ?_)
  refine Gg (q_gtrn (y := 8) ?_)
  refine G (q_pkf ?_)
  refine gend ?_
  refine cndN (fun hc1 => ?_) ?_; rotate_left
  · omega
  refine awp_skip ?_
  refine awp_seq ?_
  refine rl ?_
  refine Mv ?_
  refine Mv ?_
  refine G (q_callv [0, 1] [_, _] [] (cut_bad D q n m/- (*escutcheon/wire.Reader).cut -/) ?_)
  refine G (q_mv (s := .t _) ?_)
  refine G (q_ext (y := .c _) ?_)
  refine G (q_ext (y := .c _) ?_)
  refine As ?_
  refine As ?_
  refine gend ?_
  refine awp_seq ?_
  refine awp_seq ?_
  refine rl ?_
  refine Mv ?_
  refine G (q_notb ?_)
  refine gend ?_
  refine cndbnY (fun hc2 => ?_) ?_; rotate_left
  · rfl
  refine awp_seq ?_
  refine rl ?_
  refine G (q_as (s := sc (c64 0)) ?_)
  refine gend ?_
  refine awp_ret ?_
  exact fx1 [0, 1]
/-- (*wire.Reader).Number -/
theorem number_nil (m : Nat) (h1 : 1 ≤ m) (h8 : m ≤ 8) : Good Try.prog 15 [.c .nilp, .c (cn m)] [] (sc (c64 0)) [] := by
  refine good_frm 29 Try.func15 rfl rfl rfl rfl rfl rfl ?_
  refine awp_seq ?_
  refine rl ?_
  refine G (q_as (s := sc (c64 0)) ?_)
  refine gend ?_
  refine awp_seq ?_
  refine awp_seq ?_
  refine rl ?_
  refine Mv ?_
  refine G (q_lssn (y := 1) ?_)
  refine Mv ?_
  refine Akfd 11 (fun hb3 => ?_) ?_; rotate_left
  · omega
  refine Gg (q_mv (s := .v (.c _)) ?_)
  refine Gg (q_gtrn (y := 8) ?_)
  refine G (q_pkf ?_)
  refine gend ?_
  refine cndN (fun hc1 => ?_) ?_; rotate_left
  · omega
  refine awp_skip ?_
  refine awp_seq ?_
  refine rl ?_
  refine Mv ?_
  refine Mv ?_
  refine G (q_callp (cut_nil m/- (*escutcheon/wire.Reader).cut -/) ?_)
  refine G (q_mv (s := .t _) ?_)
  refine G (q_ext (y := .c _) ?_)
  refine G (q_ext (y := .c _) ?_)
  refine As ?_
  refine As ?_
  refine gend ?_
  refine awp_seq ?_
  refine awp_seq ?_
  refine rl ?_
  refine Mv ?_
  refine G (q_notb ?_)
  refine gend ?_
  refine cndbnY (fun hc2 => ?_) ?_; rotate_left
  · rfl
  refine awp_seq ?_
  refine rl ?_
  refine G (q_as (s := sc (c64 0)) ?_)
  refine gend ?_
  refine awp_ret ?_
  exact fp1
/-- (*wire.Reader).Bytes -/
theorem bytes (D : List UInt8) (q n m : Nat) (h : m ≤ n) (hD : q + n ≤ D.length) : Good Try.prog 16 [.c (.ptr 1 0), .c (cn m)] [some (u8s D), some (rd q n false)] (sc (.slc 0 q m 1)) [some (u8s D), some (rd (q + m * 1) (n - m) false)] := by
  refine good_frm 14 Try.func16 rfl rfl rfl rfl rfl rfl ?_
  refine awp_seq ?_
  refine rl ?_
  refine As ?_
  refine gend ?_
  refine awp_seq ?_
  refine rl ?_
  refine Mv ?_
  refine Mv ?_
  refine G (q_callv [0, 1] [_, _] [] (cut D q n m h hD/- (*escutcheon/wire.Reader).cut -/) ?_)
  refine G (q_mv (s := .t _) ?_)
  refine G (q_ext (y := .c _) ?_)
  refine G (q_ext (y := .c _) ?_)
  refine As ?_
  refine As ?_
  refine gend ?_
  refine awp_seq ?_
  refine rl ?_
  refine Mv ?_
  refine As ?_
  refine gend ?_
  refine awp_ret ?_
  exact fx1 [0, 1]
/-- (*wire.Reader).Bytes -/
theorem bytes_nil (m : Nat) : Good Try.prog 16 [.c .nilp, .c (cn m)] [] (sc .nils) [] := by
  refine good_frm 14 Try.func16 rfl rfl rfl rfl rfl rfl ?_
  refine awp_seq ?_
  refine rl ?_
  refine As ?_
  refine gend ?_
  refine awp_seq ?_
  refine rl ?_
  refine Mv ?_
  refine Mv ?_
  refine G (q_callp (cut_nil m/- (*escutcheon/wire.Reader).cut -/) ?_)
  refine G (q_mv (s := .t _) ?_)
  refine G (q_ext (y := .c _) ?_)
  refine G (q_ext (y := .c _) ?_)
  refine As ?_
  refine As ?_
  refine gend ?_
  refine awp_seq ?_
  refine rl ?_
  refine Mv ?_
  refine As ?_
  refine gend ?_
  refine awp_ret ?_
  exact fp1
/-- (*wire.Reader).Blob -/
theorem blob (D : List UInt8) (q n : Nat) (v : UInt64) (hv : v = gt ((D.drop q).take 2)) (h2 : 2 ≤ n) (h : v.toNat ≤ n - 2) (hn : n ≤ 140737488351232) (hD : q + n ≤ D.length) : Good Try.prog 17 [.c (.ptr 1 0)] [some (u8s D), some (rd q n false)] (sc (.slc 0 (q + 2 * 1) v.toNat 1)) [some (u8s D), some (rd (q + 2 * 1 + v.toNat * 1) (n - 2 - v.toNat) false)] := by
  refine good_frm 8 Try.func17 rfl rfl rfl rfl rfl rfl ?_
  refine awp_seq ?_
  refine rl ?_
  refine As ?_
  refine gend ?_
  refine awp_seq ?_
  refine rl ?_
  refine Mv ?_
  refine Mv ?_
  refine G (q_callv [0, 1] [_, _] [] (number D q n 2 (by decide) (by decide) h2 hD/- (*escutcheon/wire.Reader).Number -/) ?_)
  rw [← hv]
  refine G (q_cv64_0 ?_)
  refine G (q_callv [0, 1] [_, _] [] (bytes D (q + 2 * 1) (n - 2) v.toNat h (by omega)/- (*escutcheon/wire.Reader).Bytes -/) ?_)
  refine As ?_
  refine gend ?_
  refine awp_ret ?_
  exact fx1 [0, 1]
/-- (*wire.Reader).Blob -/
theorem blob_nil : Good Try.prog 17 [.c .nilp] [] (sc .nils) [] := by
  refine good_frm 8 Try.func17 rfl rfl rfl rfl rfl rfl ?_
  refine awp_seq ?_
  refine rl ?_
  refine As ?_
  refine gend ?_
  refine awp_seq ?_
  refine rl ?_
  refine Mv ?_
  refine Mv ?_
  refine G (q_callp (number_nil 2 (by decide) (by decide)/- (*escutcheon/wire.Reader).Number -/) ?_)
  refine G (q_cv64_0 ?_)
  refine G (q_callp (bytes_nil _/- (*escutcheon/wire.Reader).Bytes -/) ?_)
  refine As ?_
  refine gend ?_
  refine awp_ret ?_
  exact fp1
/-- (*wire.Reader).Key -/
theorem key_nil : Good Try.prog 18 [.c .nilp] [] (sa (u8s (List.replicate 32 0))) [] := by
  refine good_frm 14 Try.func18 rfl rfl rfl rfl rfl rfl ?_
  refine awp_seq ?_
  refine rl ?_
  refine G (q_al ?_)
  refine gend ?_
  refine awp_seq ?_
  refine rl ?_
  refine Mv ?_
  refine G (q_callp (cut_nil 32/- (*escutcheon/wire.Reader).cut -/) ?_)
  refine G (q_mv (s := .t _) ?_)
  refine G (q_ext (y := .c _) ?_)
  refine G (q_ext (y := .c _) ?_)
  refine As ?_
  refine As ?_
  refine gend ?_
  refine awp_seq ?_
  refine rl ?_
  refine G (q_slp_no ?_)
  refine Mv ?_
  refine G (q_cpy ?_)
  refine gend ?_
  refine awp_seq ?_
  refine rl ?_
  refine G (q_ldw ?_)
  refine G0 (q_stw ?_)
  refine gend ?_
  refine awp_ret ?_
  exact fpc (t := 43) (a := 2) (hn := by exact rfl)
/-- (*wire.Reader).Left -/
theorem left (c : Cell) (n : Nat) (cs : List Cell) (b : Bool) (hn : n ≤ 140737488351232) : Good Try.prog 19 [.c (.rop [.ro n cs, .bool b, .bool true])] [] (sc (cn (if b then 0 else n))) [] := by
  refine good_frm 17 Try.func19 rfl rfl rfl rfl rfl rfl ?_
  refine awp_seq ?_
  refine rl ?_
  refine G (q_as (s := sc (cn 0)) ?_)
  refine gend ?_
  refine awp_seq ?_
  refine awp_seq ?_
  refine rl ?_
  refine Mv ?_
  refine G (q_callp (there _ _ _/- (*escutcheon/wire.Reader).there -/) ?_)
  refine G (q_notb ?_)
  refine Mv ?_
  refine Akf 6 (fun hb4 => ?_) ?_; rotate_left
  · rfl
  refine Gg (q_mv (s := .v (.c _)) ?_)
  refine Gg (q_ncr ?_)
  refine Gg (q_far ?_)
  refine Gg (q_ldr ?_)
  refine G (q_pkf ?_)
  refine gend ?_
  refine cndb (fun hc1 => ?_) (fun hc1 => ?_)
  · refine awp_seq ?_
    refine rl ?_
    refine G (q_as (s := sc (cn 0)) ?_)
    refine gend ?_
    refine awp_ret ?_
    exact fp1 (hv := by rw [hc1]; rfl)
  refine awp_skip ?_
  refine awp_seq ?_
  refine rl ?_
  refine Mv ?_
  refine G (q_ncr ?_)
  refine G (q_far ?_)
  refine G (q_ldr ?_)
  refine G (q_leno ?_)
  refine As ?_
  refine gend ?_
  refine awp_ret ?_
  exact fp1 (hv := by rw [hc1]; rfl)
/-- (*wire.Reader).Left -/
theorem left_zero (c : Cell) (b : Bool) : Good Try.prog 19 [.c (.rop [c, .bool b, .bool false])] [] (sc (cn 0)) [] := by
  refine good_frm 17 Try.func19 rfl rfl rfl rfl rfl rfl ?_
  refine awp_seq ?_
  refine rl ?_
  refine G (q_as (s := sc (cn 0)) ?_)
  refine gend ?_
  refine awp_seq ?_
  refine awp_seq ?_
  refine rl ?_
  refine Mv ?_
  refine G (q_callp (there _ _ _/- (*escutcheon/wire.Reader).there -/) ?_)
  refine G (q_notb ?_)
  refine Mv ?_
  refine Akn 6 (fun hb4 => ?_) ?_; rotate_left
  · rfl
  refine Gn ?_
  refine Gn ?_
  refine Gn ?_
  refine Gn ?_
  refine G (q_pkt ?_)
  refine gend ?_
  refine cndT ?_
  refine awp_seq ?_
  refine rl ?_
  refine G (q_as (s := sc (cn 0)) ?_)
  refine gend ?_
  refine awp_ret ?_
  exact fp1
/-- (*wire.Reader).Left -/
theorem left_nil : Good Try.prog 19 [.c .nilp] [] (sc (cn 0)) [] := by
  refine good_frm 17 Try.func19 rfl rfl rfl rfl rfl rfl ?_
  refine awp_seq ?_
  refine rl ?_
  refine G (q_as (s := sc (cn 0)) ?_)
  refine gend ?_
  refine awp_seq ?_
  refine awp_seq ?_
  refine rl ?_
  refine Mv ?_
  refine G (q_callp (there_nil/- (*escutcheon/wire.Reader).there -/) ?_)
  refine G (q_notb ?_)
  refine Mv ?_
  refine Akn 6 (fun hb4 => ?_) ?_; rotate_left
  · rfl
  refine Gn ?_
  refine Gn ?_
  refine Gn ?_
  refine Gn ?_
  refine G (q_pkt ?_)
  refine gend ?_
  refine cndT ?_
  refine awp_seq ?_
  refine rl ?_
  refine G (q_as (s := sc (cn 0)) ?_)
  refine gend ?_
  refine awp_ret ?_
  exact fp1
/-- (*wire.Reader).End -/
theorem end_ (n : Nat) (cs : List Cell) (b : Bool) (hn : n ≤ 140737488351232) : Good Try.prog 20 [.c (.rop [.ro n cs, .bool b, .bool true])] [] (sc (cn (if b = true ∨ 0 < n then 4 else 0))) [] := by
  refine good_frm 20 Try.func20 rfl rfl rfl rfl rfl rfl ?_
  refine awp_seq ?_
  refine rl ?_
  refine G (q_as (s := sc (cn 0)) ?_)
  refine gend ?_
  refine awp_seq ?_
  refine awp_block ?_
  refine awp_seq ?_
  refine rl ?_
  refine Mv ?_
  refine G (q_callp (there _ _ _/- (*escutcheon/wire.Reader).there -/) ?_)
  refine G (q_notb ?_)
  refine As ?_
  refine gend ?_
  refine cndbnN (fun hc1 => ?_) ?_; rotate_left
  · rfl
  refine awp_seq ?_
  refine rl ?_
  refine Mv ?_
  refine G (q_ncr ?_)
  refine G (q_far ?_)
  refine G (q_ldr ?_)
  refine Mv ?_
  refine Asp 12 (fun hb5 => ?_) (fun hb5 => ?_)
  · refine Gn ?_
    refine Gn ?_
    refine Gn ?_
    refine Gn ?_
    refine Gn ?_
    refine Gn ?_
    refine G (q_pkt ?_)
    refine As ?_
    refine gend ?_
    refine cndT ?_
    refine awp_seq ?_
    refine rl ?_
    refine G (q_as (s := sc (cn 4)) ?_)
    refine gend ?_
    refine awp_ret ?_
    exact fp1 (hv := by rw [if_pos (.inl hb5)])
  refine Gg (q_mv (s := .v (.c _)) ?_)
  refine Gg (q_ncr ?_)
  refine Gg (q_far ?_)
  refine Gg (q_ldr ?_)
  refine Gg (q_leno ?_)
  refine Gg (q_gtrn (y := 0) ?_)
  refine G (q_pkf ?_)
  refine As ?_
  refine gend ?_
  refine cnd (fun hc2 => ?_) (fun hc2 => ?_)
  · refine awp_seq ?_
    refine rl ?_
    refine G (q_as (s := sc (cn 4)) ?_)
    refine gend ?_
    refine awp_ret ?_
    exact fp1 (hv := by rw [if_pos (.inr hc2)])
  refine awp_skip ?_
  refine awp_seq ?_
  refine rl ?_
  refine G (q_as (s := sc (cn 0)) ?_)
  refine gend ?_
  refine awp_ret ?_
  exact fp1 (hv := by rw [if_neg (fun h => h.elim (fun h => by rw [hb5] at h; cases h) hc2)])
/-- (*wire.Reader).End -/
theorem end_zero (c : Cell) (b : Bool) : Good Try.prog 20 [.c (.rop [c, .bool b, .bool false])] [] (sc (cn 1)) [] := by
  refine good_frm 20 Try.func20 rfl rfl rfl rfl rfl rfl ?_
  refine awp_seq ?_
  refine rl ?_
  refine G (q_as (s := sc (cn 0)) ?_)
  refine gend ?_
  refine awp_seq ?_
  refine awp_block ?_
  refine awp_seq ?_
  refine rl ?_
  refine Mv ?_
  refine G (q_callp (there _ _ _/- (*escutcheon/wire.Reader).there -/) ?_)
  refine G (q_notb ?_)
  refine As ?_
  refine gend ?_
  refine cndbnY (fun hc1 => ?_) ?_; rotate_left
  · rfl
  refine awp_seq ?_
  refine rl ?_
  refine G (q_as (s := sc (cn 1)) ?_)
  refine gend ?_
  refine awp_ret ?_
  exact fp1
/-- (*wire.Reader).End -/
theorem end_nil : Good Try.prog 20 [.c .nilp] [] (sc (cn 1)) [] := by
  refine good_frm 20 Try.func20 rfl rfl rfl rfl rfl rfl ?_
  refine awp_seq ?_
  refine rl ?_
  refine G (q_as (s := sc (cn 0)) ?_)
  refine gend ?_
  refine awp_seq ?_
  refine awp_block ?_
  refine awp_seq ?_
  refine rl ?_
  refine Mv ?_
  refine G (q_callp (there_nil/- (*escutcheon/wire.Reader).there -/) ?_)
  refine G (q_notb ?_)
  refine As ?_
  refine gend ?_
  refine cndbnY (fun hc1 => ?_) ?_; rotate_left
  · rfl
  refine awp_seq ?_
  refine rl ?_
  refine G (q_as (s := sc (cn 1)) ?_)
  refine gend ?_
  refine awp_ret ?_
  exact fp1
end Go.Proofs.Ytedpdnicpicjdaa

/- What functions of the program do, walked over the abstract machine. -/
import Derived.Test.YtedpdnicpicjdaaWr
namespace Go.Proofs.Ytedpdnicpicjdaa
open Go Go.Abs Go.Proofs

/-- wire.Get -/
theorem get_0 (k : Nat) (l : List UInt8) (h : k < 1) : Good Try.prog 9 [.c (.ro k (u8s l))] [] (.t [.c (c64 0), .c (cn 2)]) [] := by
  refine good_frm 28 Try.func9 rfl rfl rfl rfl rfl rfl ?_
  refine awp_seq ?_
  refine rl ?_
  refine G (q_as (s := sc (c64 0)) ?_)
  refine G (q_as (s := sc (cn 0)) ?_)
  refine gend ?_
  refine awp_seq ?_
  refine awp_seq ?_
  refine rl ?_
  refine Mv ?_
  refine G (q_leno ?_)
  refine G (q_lssn (y := 1) ?_)
  refine Mv ?_
  refine Aknd 10 (fun hb4 => ?_) ?_; rotate_left
  · exact h
  refine Gn ?_
  refine Gn ?_
  refine Gn ?_
  refine G (q_pkt ?_)
  refine gend ?_
  refine cndT ?_
  refine awp_seq ?_
  refine rl ?_
  refine G (q_as (s := sc (c64 0)) ?_)
  refine G (q_as (s := sc (cn 2)) ?_)
  refine gend ?_
  refine awp_ret ?_
  exact fp2
/-- wire.Get -/
theorem get_9 (k : Nat) (l : List UInt8) (h : 8 < k) (hk : k ≤ 140737488351232) : Good Try.prog 9 [.c (.ro k (u8s l))] [] (.t [.c (c64 0), .c (cn 2)]) [] := by
  refine good_frm 28 Try.func9 rfl rfl rfl rfl rfl rfl ?_
  refine awp_seq ?_
  refine rl ?_
  refine G (q_as (s := sc (c64 0)) ?_)
  refine G (q_as (s := sc (cn 0)) ?_)
  refine gend ?_
  refine awp_seq ?_
  refine awp_seq ?_
  refine rl ?_
  refine Mv ?_
  refine G (q_leno ?_)
  refine G (q_lssn (y := 1) ?_)
  refine Mv ?_
  refine Akfd 10 (fun hb4 => ?_) ?_; rotate_left
  · omega
  refine Gg (q_mv (s := .v (.c _)) ?_)
  refine Gg (q_leno ?_)
  refine Gg (q_gtrn (y := 8) ?_)
  refine G (q_pkf ?_)
  refine gend ?_
  refine cndY (fun hc1 => ?_) ?_; rotate_left
  · exact h
  refine awp_seq ?_
  refine rl ?_
  refine G (q_as (s := sc (c64 0)) ?_)
  refine G (q_as (s := sc (cn 2)) ?_)
  refine gend ?_
  refine awp_ret ?_
  exact fp2
/-- escutcheonref01.Fits -/
theorem fits_neg (n : UInt64) (m : Int) (h : m < 1) : Good Try.prog 10 [.c (c64 n), .c (ci m)] [] (sc (.bool false)) [] := by
  refine good_frm 21 Try.func10 rfl rfl rfl rfl rfl rfl ?_
  refine awp_seq ?_
  refine rl ?_
  refine As ?_
  refine gend ?_
  refine awp_seq ?_
  refine awp_seq ?_
  refine rl ?_
  refine Mv ?_
  refine G (q_lssi (y := 1) ?_)
  refine Mv ?_
  refine Aknd 8 (fun hb3 => ?_) ?_; rotate_left
  · exact h
  refine Gn ?_
  refine Gn ?_
  refine G (q_pkt ?_)
  refine gend ?_
  refine cndT ?_
  refine awp_seq ?_
  refine rl ?_
  refine As ?_
  refine gend ?_
  refine awp_ret ?_
  exact fp1
/-- escutcheonref01.Fits -/
theorem fits_gt (n : UInt64) (s : Nat) (h : 8 < s) : Good Try.prog 10 [.c (c64 n), .c (cn s)] [] (sc (.bool false)) [] := by
  refine good_frm 21 Try.func10 rfl rfl rfl rfl rfl rfl ?_
  refine awp_seq ?_
  refine rl ?_
  refine As ?_
  refine gend ?_
  refine awp_seq ?_
  refine awp_seq ?_
  refine rl ?_
  refine Mv ?_
  refine G (q_lssn (y := 1) ?_)
  refine Mv ?_
  refine Akfd 8 (fun hb3 => ?_) ?_; rotate_left
  · omega
  refine Gg (q_mv (s := .v (.c _)) ?_)
  refine Gg (q_gtrn (y := 8) ?_)
  refine G (q_pkf ?_)
  refine gend ?_
  refine cndY (fun hc1 => ?_) ?_; rotate_left
  · exact h
  refine awp_seq ?_
  refine rl ?_
  refine As ?_
  refine gend ?_
  refine awp_ret ?_
  exact fp1
end Go.Proofs.Ytedpdnicpicjdaa

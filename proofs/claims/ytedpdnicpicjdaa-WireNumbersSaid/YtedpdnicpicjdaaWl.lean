/- What functions of the program do, walked over the abstract machine. -/
import Derived.Test.YtedpdnicpicjdaaWk
import Derived.Test.YtedpdnicpicjdaaWq
namespace Go.Proofs.Ytedpdnicpicjdaa
open Go Go.Abs Go.Proofs

/-- escutcheonlaw01.WireNumbers -/
theorem num_bad_0 (n : UInt64) (m : Int) (k : Nat) (l : List UInt8) (hl : l.length = k) (hk : k ≤ 140737488351232) (hk9 : k ≤ 9000) (hP : Good Try.prog 8 [.c (c64 n), .c (ci m)] [] (.t [.c .nils, .c (cn 2)]) []) (hF : Good Try.prog 10 [.c (c64 n), .c (ci m)] [] (sc (.bool false)) []) (h : k < 1) : Good Try.prog 3 [.c (c64 n), .c (ci m), .c (.ro k (u8s l))] [] (sc (.bool true)) [] := by
  refine good_frm 80 Try.func3 rfl rfl rfl rfl rfl rfl ?_
  refine awp_seq ?_
  refine rl ?_
  refine As ?_
  refine gend ?_
  refine awp_seq ?_
  refine awp_seq ?_
  refine rl ?_
  refine Mv ?_
  refine G (q_leno ?_)
  refine G (q_gtrn (y := 9000) ?_)
  refine gend ?_
  refine cndN (fun hc1 => ?_) ?_; rotate_left
  · omega
  refine awp_skip ?_
  refine awp_seq ?_
  refine rl ?_
  refine Mv ?_
  refine Mv ?_
  refine G (q_callp (hP/- escutcheon/wire.Put -/) ?_)
  refine G (q_mv (s := .t _) ?_)
  refine G (q_ext (y := .c _) ?_)
  refine G (q_ext (y := .c _) ?_)
  refine As ?_
  refine As ?_
  refine gend ?_
  refine awp_seq ?_
  refine rl ?_
  refine Mv ?_
  refine G (q_callp (get_0 k l h/- escutcheon/wire.Get -/) ?_)
  refine G (q_mv (s := .t _) ?_)
  refine G (q_ext (y := .c _) ?_)
  refine G (q_ext (y := .c _) ?_)
  refine As ?_
  refine As ?_
  refine gend ?_
  refine awp_seq ?_
  refine awp_seq ?_
  refine rl ?_
  refine Mv ?_
  refine Mv ?_
  refine G (q_callp (hF/- escutcheon/escutcheonref01.Fits -/) ?_)
  refine G (q_notb ?_)
  refine gend ?_
  refine cndbnY (fun hc2 => ?_) ?_; rotate_left
  · rfl
  refine awp_seq ?_
  refine rl ?_
  refine Mv ?_
  refine G (q_lenn ?_)
  refine G (q_neqn (y := 0) ?_)
  refine Mv ?_
  refine Akfd 33 (fun hb4 => ?_) ?_; rotate_left
  · exact fun h => h rfl
  refine Gg (q_mv (s := .v (.c _)) ?_)
  refine Gg (q_callp (num _/- escutcheon/escutcheonlaw01.num -/) ?_)
  refine Gg (q_neqn (y := 2) ?_)
  refine G (q_pkf ?_)
  refine gend ?_
  refine cndN (fun hc3 => ?_) ?_; rotate_left
  · exact fun h => h rfl
  refine awp_skip ?_
  refine awp_seq ?_
  refine awp_seq ?_
  refine rl ?_
  refine Mv ?_
  refine G (q_leno ?_)
  refine G (q_lssn (y := 1) ?_)
  refine Mv ?_
  refine Aknd 53 (fun hb4 => ?_) ?_; rotate_left
  · exact h
  refine Gn ?_
  refine Gn ?_
  refine Gn ?_
  refine G (q_pkt ?_)
  refine gend ?_
  refine cndT ?_
  refine awp_seq ?_
  refine rl ?_
  refine Mv ?_
  refine G (q_eql64 (y := 0) ?_)
  refine Mv ?_
  refine Aknd 60 (fun hb3 => ?_) ?_; rotate_left
  · rfl
  refine Gg (q_mv (s := .v (.c _)) ?_)
  refine Gg (q_callp (num _/- escutcheon/escutcheonlaw01.num -/) ?_)
  refine Gg (q_eqln (y := 2) ?_)
  refine G (q_pkt ?_)
  refine Mv ?_
  refine Aknd 65 (fun hb8 => ?_) ?_; rotate_left
  · rfl
  refine Gg (q_callp (known/- escutcheon/escutcheonlaw01.known -/) ?_)
  refine G (q_pkt ?_)
  refine As ?_
  refine gend ?_
  refine awp_ret ?_
  exact fp1
/-- escutcheonlaw01.WireNumbers -/
theorem num_bad_9 (n : UInt64) (m : Int) (k : Nat) (l : List UInt8) (hl : l.length = k) (hk : k ≤ 140737488351232) (hk9 : k ≤ 9000) (hP : Good Try.prog 8 [.c (c64 n), .c (ci m)] [] (.t [.c .nils, .c (cn 2)]) []) (hF : Good Try.prog 10 [.c (c64 n), .c (ci m)] [] (sc (.bool false)) []) (h : 8 < k) : Good Try.prog 3 [.c (c64 n), .c (ci m), .c (.ro k (u8s l))] [] (sc (.bool true)) [] := by
  refine good_frm 80 Try.func3 rfl rfl rfl rfl rfl rfl ?_
  refine awp_seq ?_
  refine rl ?_
  refine As ?_
  refine gend ?_
  refine awp_seq ?_
  refine awp_seq ?_
  refine rl ?_
  refine Mv ?_
  refine G (q_leno ?_)
  refine G (q_gtrn (y := 9000) ?_)
  refine gend ?_
  refine cndN (fun hc1 => ?_) ?_; rotate_left
  · omega
  refine awp_skip ?_
  refine awp_seq ?_
  refine rl ?_
  refine Mv ?_
  refine Mv ?_
  refine G (q_callp (hP/- escutcheon/wire.Put -/) ?_)
  refine G (q_mv (s := .t _) ?_)
  refine G (q_ext (y := .c _) ?_)
  refine G (q_ext (y := .c _) ?_)
  refine As ?_
  refine As ?_
  refine gend ?_
  refine awp_seq ?_
  refine rl ?_
  refine Mv ?_
  refine G (q_callp (get_9 k l h hk/- escutcheon/wire.Get -/) ?_)
  refine G (q_mv (s := .t _) ?_)
  refine G (q_ext (y := .c _) ?_)
  refine G (q_ext (y := .c _) ?_)
  refine As ?_
  refine As ?_
  refine gend ?_
  refine awp_seq ?_
  refine awp_seq ?_
  refine rl ?_
  refine Mv ?_
  refine Mv ?_
  refine G (q_callp (hF/- escutcheon/escutcheonref01.Fits -/) ?_)
  refine G (q_notb ?_)
  refine gend ?_
  refine cndbnY (fun hc2 => ?_) ?_; rotate_left
  · rfl
  refine awp_seq ?_
  refine rl ?_
  refine Mv ?_
  refine G (q_lenn ?_)
  refine G (q_neqn (y := 0) ?_)
  refine Mv ?_
  refine Akfd 33 (fun hb4 => ?_) ?_; rotate_left
  · exact fun h => h rfl
  refine Gg (q_mv (s := .v (.c _)) ?_)
  refine Gg (q_callp (num _/- escutcheon/escutcheonlaw01.num -/) ?_)
  refine Gg (q_neqn (y := 2) ?_)
  refine G (q_pkf ?_)
  refine gend ?_
  refine cndN (fun hc3 => ?_) ?_; rotate_left
  · exact fun h => h rfl
  refine awp_skip ?_
  refine awp_seq ?_
  refine awp_seq ?_
  refine rl ?_
  refine Mv ?_
  refine G (q_leno ?_)
  refine G (q_lssn (y := 1) ?_)
  refine Mv ?_
  refine Akfd 53 (fun hb4 => ?_) ?_; rotate_left
  · omega
  refine Gg (q_mv (s := .v (.c _)) ?_)
  refine Gg (q_leno ?_)
  refine Gg (q_gtrn (y := 8) ?_)
  refine G (q_pkf ?_)
  refine gend ?_
  refine cndY (fun hc4 => ?_) ?_; rotate_left
  · exact h
  refine awp_seq ?_
  refine rl ?_
  refine Mv ?_
  refine G (q_eql64 (y := 0) ?_)
  refine Mv ?_
  refine Aknd 60 (fun hb3 => ?_) ?_; rotate_left
  · rfl
  refine Gg (q_mv (s := .v (.c _)) ?_)
  refine Gg (q_callp (num _/- escutcheon/escutcheonlaw01.num -/) ?_)
  refine Gg (q_eqln (y := 2) ?_)
  refine G (q_pkt ?_)
  refine Mv ?_
  refine Aknd 65 (fun hb8 => ?_) ?_; rotate_left
  · rfl
  refine Gg (q_callp (known/- escutcheon/escutcheonlaw01.known -/) ?_)
  refine G (q_pkt ?_)
  refine As ?_
  refine gend ?_
  refine awp_ret ?_
  exact fp1
/-- escutcheonlaw01.WireNumbers -/
theorem num_bad (n : UInt64) (m : Int) (k : Nat) (l : List UInt8) (hl : l.length = k) (hk : k ≤ 140737488351232) (hk9 : k ≤ 9000) (hP : Good Try.prog 8 [.c (c64 n), .c (ci m)] [] (.t [.c .nils, .c (cn 2)]) []) (hF : Good Try.prog 10 [.c (c64 n), .c (ci m)] [] (sc (.bool false)) []) (h1 : 1 ≤ k) (h8 : k ≤ 8) (hg : gt l = rg l) : Good Try.prog 3 [.c (c64 n), .c (ci m), .c (.ro k (u8s l))] [] (sc (.bool true)) [] := by
  refine good_frm 80 Try.func3 rfl rfl rfl rfl rfl rfl ?_
  refine awp_seq ?_
  refine rl ?_
  refine As ?_
  refine gend ?_
  refine awp_seq ?_
  refine awp_seq ?_
  refine rl ?_
  refine Mv ?_
  refine G (q_leno ?_)
  refine G (q_gtrn (y := 9000) ?_)
  refine gend ?_
  refine cndN (fun hc1 => ?_) ?_; rotate_left
  · omega
  refine awp_skip ?_
  refine awp_seq ?_
  refine rl ?_
  refine Mv ?_
  refine Mv ?_
  refine G (q_callp (hP/- escutcheon/wire.Put -/) ?_)
  refine G (q_mv (s := .t _) ?_)
  refine G (q_ext (y := .c _) ?_)
  refine G (q_ext (y := .c _) ?_)
  refine As ?_
  refine As ?_
  refine gend ?_
  refine awp_seq ?_
  refine rl ?_
  refine Mv ?_
  refine G (q_callp (get k l hl h1 h8/- escutcheon/wire.Get -/) ?_)
  refine G (q_mv (s := .t _) ?_)
  refine G (q_ext (y := .c _) ?_)
  refine G (q_ext (y := .c _) ?_)
  refine As ?_
  refine As ?_
  refine gend ?_
  refine awp_seq ?_
  refine awp_seq ?_
  refine rl ?_
  refine Mv ?_
  refine Mv ?_
  refine G (q_callp (hF/- escutcheon/escutcheonref01.Fits -/) ?_)
  refine G (q_notb ?_)
  refine gend ?_
  refine cndbnY (fun hc2 => ?_) ?_; rotate_left
  · rfl
  refine awp_seq ?_
  refine rl ?_
  refine Mv ?_
  refine G (q_lenn ?_)
  refine G (q_neqn (y := 0) ?_)
  refine Mv ?_
  refine Akfd 33 (fun hb4 => ?_) ?_; rotate_left
  · exact fun h => h rfl
  refine Gg (q_mv (s := .v (.c _)) ?_)
  refine Gg (q_callp (num _/- escutcheon/escutcheonlaw01.num -/) ?_)
  refine Gg (q_neqn (y := 2) ?_)
  refine G (q_pkf ?_)
  refine gend ?_
  refine cndN (fun hc3 => ?_) ?_; rotate_left
  · exact fun h => h rfl
  refine awp_skip ?_
  refine awp_seq ?_
  refine awp_seq ?_
  refine rl ?_
  refine Mv ?_
  refine G (q_leno ?_)
  refine G (q_lssn (y := 1) ?_)
  refine Mv ?_
  refine Akfd 53 (fun hb4 => ?_) ?_; rotate_left
  · omega
  refine Gg (q_mv (s := .v (.c _)) ?_)
  refine Gg (q_leno ?_)
  refine Gg (q_gtrn (y := 8) ?_)
  refine G (q_pkf ?_)
  refine gend ?_
  refine cndN (fun hc4 => ?_) ?_; rotate_left
  · omega
  refine awp_skip ?_
  refine awp_seq ?_
  refine rl ?_
  refine Mv ?_
  refine Mv ?_
  refine G (q_callp (rget k l hl (by omega)/- escutcheon/escutcheonref01.Get -/) ?_)
  refine G (q_eql64 ?_)
  refine Mv ?_
  refine Aknd 72 (fun hb5 => ?_) ?_; rotate_left
  · exact hg
  refine Gg (q_mv (s := .v (.c _)) ?_)
  refine Gg (q_callp (num _/- escutcheon/escutcheonlaw01.num -/) ?_)
  refine Gg (q_eqln (y := 0) ?_)
  refine G (q_pkt ?_)
  refine Mv ?_
  refine Aknd 77 (fun hb10 => ?_) ?_; rotate_left
  · rfl
  refine Gg (q_callp (known/- escutcheon/escutcheonlaw01.known -/) ?_)
  refine G (q_pkt ?_)
  refine As ?_
  refine gend ?_
  refine awp_ret ?_
  exact fp1
/-- escutcheonlaw01.WireNumbers -/
theorem num_ok_0 (n : UInt64) (m : Int) (k : Nat) (l : List UInt8) (hl : l.length = k) (hk : k ≤ 140737488351232) (hk9 : k ≤ 9000) (X : List UInt8) (s : Nat) (hX : X.length = s) (hs : s ≤ 8) (hP : Good Try.prog 8 [.c (c64 n), .c (ci m)] [] (.t [.c (.slc 0 0 s 1), .c (cn 0)]) [some (u8s X)]) (hF : Good Try.prog 10 [.c (c64 n), .c (ci m)] [] (sc (.bool true)) []) (hR : Good Try.prog 12 [.c (c64 n), .c (ci m)] [] (sc (.slc 0 0 s 1)) [some (u8s X)]) (h : k < 1) : Good Try.prog 3 [.c (c64 n), .c (ci m), .c (.ro k (u8s l))] [] (sc (.bool true)) [] := by
  refine good_frm 80 Try.func3 rfl rfl rfl rfl rfl rfl ?_
  refine awp_seq ?_
  refine rl ?_
  refine As ?_
  refine gend ?_
  refine awp_seq ?_
  refine awp_seq ?_
  refine rl ?_
  refine Mv ?_
  refine G (q_leno ?_)
  refine G (q_gtrn (y := 9000) ?_)
  refine gend ?_
  refine cndN (fun hc1 => ?_) ?_; rotate_left
  · omega
  refine awp_skip ?_
  refine awp_seq ?_
  refine rl ?_
  refine Mv ?_
  refine Mv ?_
  refine G (q_calln (hP/- escutcheon/wire.Put -/) ?_)
  refine G (q_mv (s := .t _) ?_)
  refine G (q_ext (y := .c _) ?_)
  refine G (q_ext (y := .c _) ?_)
  refine As ?_
  refine As ?_
  refine gend ?_
  refine awp_seq ?_
  refine rl ?_
  refine Mv ?_
  refine G (q_callp (get_0 k l h/- escutcheon/wire.Get -/) ?_)
  refine G (q_mv (s := .t _) ?_)
  refine G (q_ext (y := .c _) ?_)
  refine G (q_ext (y := .c _) ?_)
  refine As ?_
  refine As ?_
  refine gend ?_
  refine awp_seq ?_
  refine awp_seq ?_
  refine rl ?_
  refine Mv ?_
  refine Mv ?_
  refine G (q_callp (hF/- escutcheon/escutcheonref01.Fits -/) ?_)
  refine G (q_notb ?_)
  refine gend ?_
  refine cndbnN (fun hc2 => ?_) ?_; rotate_left
  · rfl
  refine awp_seq ?_
  refine rdl [4, 9] [0, 0, 0, 0, 0, 1, 1, 1, 1, 1, 2, 2] [1, 1, 0, 0, 1, 1, 1, 1, 1, 2, 2, 2] ?_
  refine Dp (fun _ => q_mv (s := .v (.c _)) ⟨rfl, rfl⟩) ?_
  refine DCs ?_
  refine Dp (fun _ => q_mv (s := .v (.c _)) ⟨rfl, rfl⟩) ?_
  refine Dp (fun _ => q_mv (s := .v (.c _)) ⟨rfl, rfl⟩) ?_
  refine De (q_calln (hR/- escutcheon/escutcheonref01.Put -/) (pw ?_))
  refine DCs ?_
  refine Dp (fun _ => q_neqs ⟨rfl, rfl⟩) ?_
  refine Dp (fun _ => q_mv (s := .v (.c _)) ⟨rfl, rfl⟩) ?_
  refine Dkf 45 (fun hb8 => ?_) ?_; rotate_left
  · simp
  refine Dpg (fun _ => q_mv (s := .v (.c _)) ⟨rfl, rfl⟩) ?_
  refine Deg (q_callp (num _/- escutcheon/escutcheonlaw01.num -/) (pw ?_))
  refine Dpg (fun _ => q_neqn (y := 0) ⟨rfl, rfl⟩) ?_
  refine Dp (fun _ => q_pkf ⟨rfl, rfl⟩) ?_
  refine dend ?_
  refine cndN (fun hc3 => ?_) ?_; rotate_left
  · exact fun h => h rfl
  refine awp_skip ?_
  refine awp_seq ?_
  refine awp_seq ?_
  refine rl ?_
  refine Mv ?_
  refine G (q_leno ?_)
  refine G (q_lssn (y := 1) ?_)
  refine Mv ?_
  refine Aknd 53 (fun hb4 => ?_) ?_; rotate_left
  · exact h
  refine Gn ?_
  refine Gn ?_
  refine Gn ?_
  refine G (q_pkt ?_)
  refine gend ?_
  refine cndT ?_
  refine awp_seq ?_
  refine rl ?_
  refine Mv ?_
  refine G (q_eql64 (y := 0) ?_)
  refine Mv ?_
  refine Aknd 60 (fun hb3 => ?_) ?_; rotate_left
  · rfl
  refine Gg (q_mv (s := .v (.c _)) ?_)
  refine Gg (q_callp (num _/- escutcheon/escutcheonlaw01.num -/) ?_)
  refine Gg (q_eqln (y := 2) ?_)
  refine G (q_pkt ?_)
  refine Mv ?_
  refine Aknd 65 (fun hb8 => ?_) ?_; rotate_left
  · rfl
  refine Gg (q_callp (known/- escutcheon/escutcheonlaw01.known -/) ?_)
  refine G (q_pkt ?_)
  refine As ?_
  refine gend ?_
  refine awp_ret ?_
  exact fp1
/-- escutcheonlaw01.WireNumbers -/
theorem num_ok_9 (n : UInt64) (m : Int) (k : Nat) (l : List UInt8) (hl : l.length = k) (hk : k ≤ 140737488351232) (hk9 : k ≤ 9000) (X : List UInt8) (s : Nat) (hX : X.length = s) (hs : s ≤ 8) (hP : Good Try.prog 8 [.c (c64 n), .c (ci m)] [] (.t [.c (.slc 0 0 s 1), .c (cn 0)]) [some (u8s X)]) (hF : Good Try.prog 10 [.c (c64 n), .c (ci m)] [] (sc (.bool true)) []) (hR : Good Try.prog 12 [.c (c64 n), .c (ci m)] [] (sc (.slc 0 0 s 1)) [some (u8s X)]) (h : 8 < k) : Good Try.prog 3 [.c (c64 n), .c (ci m), .c (.ro k (u8s l))] [] (sc (.bool true)) [] := by
  refine good_frm 80 Try.func3 rfl rfl rfl rfl rfl rfl ?_
  refine awp_seq ?_
  refine rl ?_
  refine As ?_
  refine gend ?_
  refine awp_seq ?_
  refine awp_seq ?_
  refine rl ?_
  refine Mv ?_
  refine G (q_leno ?_)
  refine G (q_gtrn (y := 9000) ?_)
  refine gend ?_
  refine cndN (fun hc1 => ?_) ?_; rotate_left
  · omega
  refine awp_skip ?_
  refine awp_seq ?_
  refine rl ?_
  refine Mv ?_
  refine Mv ?_
  refine G (q_calln (hP/- escutcheon/wire.Put -/) ?_)
  refine G (q_mv (s := .t _) ?_)
  refine G (q_ext (y := .c _) ?_)
  refine G (q_ext (y := .c _) ?_)
  refine As ?_
  refine As ?_
  refine gend ?_
  refine awp_seq ?_
  refine rl ?_
  refine Mv ?_
  refine G (q_callp (get_9 k l h hk/- escutcheon/wire.Get -/) ?_)
  refine G (q_mv (s := .t _) ?_)
  refine G (q_ext (y := .c _) ?_)
  refine G (q_ext (y := .c _) ?_)
  refine As ?_
  refine As ?_
  refine gend ?_
  refine awp_seq ?_
  refine awp_seq ?_
  refine rl ?_
  refine Mv ?_
  refine Mv ?_
  refine G (q_callp (hF/- escutcheon/escutcheonref01.Fits -/) ?_)
  refine G (q_notb ?_)
  refine gend ?_
  refine cndbnN (fun hc2 => ?_) ?_; rotate_left
  · rfl
  refine awp_seq ?_
  refine rdl [4, 9] [0, 0, 0, 0, 0, 1, 1, 1, 1, 1, 2, 2] [1, 1, 0, 0, 1, 1, 1, 1, 1, 2, 2, 2] ?_
  refine Dp (fun _ => q_mv (s := .v (.c _)) ⟨rfl, rfl⟩) ?_
  refine DCs ?_
  refine Dp (fun _ => q_mv (s := .v (.c _)) ⟨rfl, rfl⟩) ?_
  refine Dp (fun _ => q_mv (s := .v (.c _)) ⟨rfl, rfl⟩) ?_
  refine De (q_calln (hR/- escutcheon/escutcheonref01.Put -/) (pw ?_))
  refine DCs ?_
  refine Dp (fun _ => q_neqs ⟨rfl, rfl⟩) ?_
  refine Dp (fun _ => q_mv (s := .v (.c _)) ⟨rfl, rfl⟩) ?_
  refine Dkf 45 (fun hb8 => ?_) ?_; rotate_left
  · simp
  refine Dpg (fun _ => q_mv (s := .v (.c _)) ⟨rfl, rfl⟩) ?_
  refine Deg (q_callp (num _/- escutcheon/escutcheonlaw01.num -/) (pw ?_))
  refine Dpg (fun _ => q_neqn (y := 0) ⟨rfl, rfl⟩) ?_
  refine Dp (fun _ => q_pkf ⟨rfl, rfl⟩) ?_
  refine dend ?_
  refine cndN (fun hc3 => ?_) ?_; rotate_left
  · exact fun h => h rfl
  refine awp_skip ?_
  refine awp_seq ?_
  refine awp_seq ?_
  refine rl ?_
  refine Mv ?_
  refine G (q_leno ?_)
  refine G (q_lssn (y := 1) ?_)
  refine Mv ?_
  refine Akfd 53 (fun hb4 => ?_) ?_; rotate_left
  · omega
  refine Gg (q_mv (s := .v (.c _)) ?_)
  refine Gg (q_leno ?_)
  refine Gg (q_gtrn (y := 8) ?_)
  refine G (q_pkf ?_)
  refine gend ?_
  refine cndY (fun hc4 => ?_) ?_; rotate_left
  · exact h
  refine awp_seq ?_
  refine rl ?_
  refine Mv ?_
  refine G (q_eql64 (y := 0) ?_)
  refine Mv ?_
  refine Aknd 60 (fun hb3 => ?_) ?_; rotate_left
  · rfl
  refine Gg (q_mv (s := .v (.c _)) ?_)
  refine Gg (q_callp (num _/- escutcheon/escutcheonlaw01.num -/) ?_)
  refine Gg (q_eqln (y := 2) ?_)
  refine G (q_pkt ?_)
  refine Mv ?_
  refine Aknd 65 (fun hb8 => ?_) ?_; rotate_left
  · rfl
  refine Gg (q_callp (known/- escutcheon/escutcheonlaw01.known -/) ?_)
  refine G (q_pkt ?_)
  refine As ?_
  refine gend ?_
  refine awp_ret ?_
  exact fp1
/-- escutcheonlaw01.WireNumbers -/
theorem num_ok (n : UInt64) (m : Int) (k : Nat) (l : List UInt8) (hl : l.length = k) (hk : k ≤ 140737488351232) (hk9 : k ≤ 9000) (X : List UInt8) (s : Nat) (hX : X.length = s) (hs : s ≤ 8) (hP : Good Try.prog 8 [.c (c64 n), .c (ci m)] [] (.t [.c (.slc 0 0 s 1), .c (cn 0)]) [some (u8s X)]) (hF : Good Try.prog 10 [.c (c64 n), .c (ci m)] [] (sc (.bool true)) []) (hR : Good Try.prog 12 [.c (c64 n), .c (ci m)] [] (sc (.slc 0 0 s 1)) [some (u8s X)]) (h1 : 1 ≤ k) (h8 : k ≤ 8) (hg : gt l = rg l) : Good Try.prog 3 [.c (c64 n), .c (ci m), .c (.ro k (u8s l))] [] (sc (.bool true)) [] := by
  refine good_frm 80 Try.func3 rfl rfl rfl rfl rfl rfl ?_
  refine awp_seq ?_
  refine rl ?_
  refine As ?_
  refine gend ?_
  refine awp_seq ?_
  refine awp_seq ?_
  refine rl ?_
  refine Mv ?_
  refine G (q_leno ?_)
  refine G (q_gtrn (y := 9000) ?_)
  refine gend ?_
  refine cndN (fun hc1 => ?_) ?_; rotate_left
  · omega
  refine awp_skip ?_
  refine awp_seq ?_
  refine rl ?_
  refine Mv ?_
  refine Mv ?_
  refine G (q_calln (hP/- escutcheon/wire.Put -/) ?_)
  refine G (q_mv (s := .t _) ?_)
  refine G (q_ext (y := .c _) ?_)
  refine G (q_ext (y := .c _) ?_)
  refine As ?_
  refine As ?_
  refine gend ?_
  refine awp_seq ?_
  refine rl ?_
  refine Mv ?_
  refine G (q_callp (get k l hl h1 h8/- escutcheon/wire.Get -/) ?_)
  refine G (q_mv (s := .t _) ?_)
  refine G (q_ext (y := .c _) ?_)
  refine G (q_ext (y := .c _) ?_)
  refine As ?_
  refine As ?_
  refine gend ?_
  refine awp_seq ?_
  refine awp_seq ?_
  refine rl ?_
  refine Mv ?_
  refine Mv ?_
  refine G (q_callp (hF/- escutcheon/escutcheonref01.Fits -/) ?_)
  refine G (q_notb ?_)
  refine gend ?_
  refine cndbnN (fun hc2 => ?_) ?_; rotate_left
  · rfl
  refine awp_seq ?_
  refine rdl [4, 9] [0, 0, 0, 0, 0, 1, 1, 1, 1, 1, 2, 2] [1, 1, 0, 0, 1, 1, 1, 1, 1, 2, 2, 2] ?_
  refine Dp (fun _ => q_mv (s := .v (.c _)) ⟨rfl, rfl⟩) ?_
  refine DCs ?_
  refine Dp (fun _ => q_mv (s := .v (.c _)) ⟨rfl, rfl⟩) ?_
  refine Dp (fun _ => q_mv (s := .v (.c _)) ⟨rfl, rfl⟩) ?_
  refine De (q_calln (hR/- escutcheon/escutcheonref01.Put -/) (pw ?_))
  refine DCs ?_
  refine Dp (fun _ => q_neqs ⟨rfl, rfl⟩) ?_
  refine Dp (fun _ => q_mv (s := .v (.c _)) ⟨rfl, rfl⟩) ?_
  refine Dkf 45 (fun hb8 => ?_) ?_; rotate_left
  · simp
  refine Dpg (fun _ => q_mv (s := .v (.c _)) ⟨rfl, rfl⟩) ?_
  refine Deg (q_callp (num _/- escutcheon/escutcheonlaw01.num -/) (pw ?_))
  refine Dpg (fun _ => q_neqn (y := 0) ⟨rfl, rfl⟩) ?_
  refine Dp (fun _ => q_pkf ⟨rfl, rfl⟩) ?_
  refine dend ?_
  refine cndN (fun hc3 => ?_) ?_; rotate_left
  · exact fun h => h rfl
  refine awp_skip ?_
  refine awp_seq ?_
  refine awp_seq ?_
  refine rl ?_
  refine Mv ?_
  refine G (q_leno ?_)
  refine G (q_lssn (y := 1) ?_)
  refine Mv ?_
  refine Akfd 53 (fun hb4 => ?_) ?_; rotate_left
  · omega
  refine Gg (q_mv (s := .v (.c _)) ?_)
  refine Gg (q_leno ?_)
  refine Gg (q_gtrn (y := 8) ?_)
  refine G (q_pkf ?_)
  refine gend ?_
  refine cndN (fun hc4 => ?_) ?_; rotate_left
  · omega
  refine awp_skip ?_
  refine awp_seq ?_
  refine rl ?_
  refine Mv ?_
  refine Mv ?_
  refine G (q_callp (rget k l hl (by omega)/- escutcheon/escutcheonref01.Get -/) ?_)
  refine G (q_eql64 ?_)
  refine Mv ?_
  refine Aknd 72 (fun hb5 => ?_) ?_; rotate_left
  · exact hg
  refine Gg (q_mv (s := .v (.c _)) ?_)
  refine Gg (q_callp (num _/- escutcheon/escutcheonlaw01.num -/) ?_)
  refine Gg (q_eqln (y := 0) ?_)
  refine G (q_pkt ?_)
  refine Mv ?_
  refine Aknd 77 (fun hb10 => ?_) ?_; rotate_left
  · rfl
  refine Gg (q_callp (known/- escutcheon/escutcheonlaw01.known -/) ?_)
  refine G (q_pkt ?_)
  refine As ?_
  refine gend ?_
  refine awp_ret ?_
  exact fp1
/-- escutcheonlaw01.WireNumbers -/
theorem num_long (n : UInt64) (m : Int) (k : Nat) (l : List UInt8) (hk : k ≤ 140737488351232) (h : 9000 < k) : Good Try.prog 3 [.c (c64 n), .c (ci m), .c (.ro k (u8s l))] [] (sc (.bool true)) [] := by
  refine good_frm 80 Try.func3 rfl rfl rfl rfl rfl rfl ?_
  refine awp_seq ?_
  refine rl ?_
  refine As ?_
  refine gend ?_
  refine awp_seq ?_
  refine awp_seq ?_
  refine rl ?_
  refine Mv ?_
  refine G (q_leno ?_)
  refine G (q_gtrn (y := 9000) ?_)
  refine gend ?_
  refine cndY (fun hc1 => ?_) ?_; rotate_left
  · exact h
  refine awp_seq ?_
  refine rl ?_
  refine G (q_callp (known/- escutcheon/escutcheonlaw01.known -/) ?_)
  refine As ?_
  refine gend ?_
  refine awp_ret ?_
  exact fp1
end Go.Proofs.Ytedpdnicpicjdaa

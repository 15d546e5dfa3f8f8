/- What functions of the program do, walked over the abstract machine. -/
import Derived.Test.YtedpdnicpicjdaaWr
namespace Go.Proofs.Ytedpdnicpicjdaa
open Go Go.Abs Go.Proofs

/-- escutcheonlaw01.known -/
theorem known : Good Try.prog 7 [] [] (sc (.bool true)) [] := by
  refine good_frm 66 Try.func7 rfl rfl rfl rfl rfl rfl ?_
  refine awp_seq ?_
  refine rl ?_
  refine As ?_
  refine gend ?_
  refine awp_seq ?_
  refine rl ?_
  refine G (q_calln (put 258 3 (by decide) (by decide) (.inr (by decide +kernel))/- escutcheon/wire.Put -/) ?_)
  refine G (q_mv (s := .t _) ?_)
  refine G (q_ext (y := .c _) ?_)
  refine G (q_ext (y := .c _) ?_)
  refine As ?_
  refine As ?_
  refine gend ?_
  refine awp_seq ?_
  refine rl ?_
  refine G (q_callp (put_big 256 1 (by decide) (by decide) (by decide +kernel)/- escutcheon/wire.Put -/) ?_)
  refine G (q_mv (s := .t _) ?_)
  refine G (q_ext (y := .c _) ?_)
  refine G (q_ext (y := .c _) ?_)
  refine As ?_
  refine As ?_
  refine gend ?_
  refine awp_seq ?_
  refine rl ?_
  refine G (q_bsl (fkc (c := c8 0) rfl rfl rfl (Nat.le_of_ble_eq_true rfl) (fkc (c := c8 1) rfl rfl rfl (Nat.le_of_ble_eq_true rfl) (fkc (c := c8 2) rfl rfl rfl (Nat.le_of_ble_eq_true rfl) (fk0 ?_)))))
  refine G (q_callp (get 3 [0, 1, 2] rfl (by decide) (by decide)/- escutcheon/wire.Get -/) ?_)
  refine G (q_mv (s := .t _) ?_)
  refine G (q_ext (y := .c _) ?_)
  refine G (q_ext (y := .c _) ?_)
  refine As ?_
  refine As ?_
  refine gend ?_
  refine awp_seq ?_
  refine rl ?_
  refine G (q_bsl (fkc (c := c8 0) rfl rfl rfl (Nat.le_of_ble_eq_true rfl) (fkc (c := c8 2) rfl rfl rfl (Nat.le_of_ble_eq_true rfl) (fkc (c := c8 7) rfl rfl rfl (Nat.le_of_ble_eq_true rfl) (fkc (c := c8 8) rfl rfl rfl (Nat.le_of_ble_eq_true rfl) (fkc (c := c8 9) rfl rfl rfl (Nat.le_of_ble_eq_true rfl) (fk0 ?_)))))))
  refine G (q_callv [] [] [_, _] (read 5 [0, 2, 7, 8, 9] (by decide) rfl (by decide)/- escutcheon/wire.Read -/) ?_)
  refine As ?_
  refine gend ?_
  refine awp_seq ?_
  refine awp_seq ?_
  refine rl ?_
  refine Mv ?_
  refine G (q_eqlp ?_)
  refine gend ?_
  refine cndF ?_
  refine awp_skip ?_
  refine awp_seq ?_
  refine rl ?_
  refine Mv ?_
  refine G (q_callv [3, 4] [_, _] [] (blob [0, 2, 7, 8, 9] 0 5 2 (by decide +kernel) (by decide) (by decide) (by decide) (by decide)/- (*escutcheon/wire.Reader).Blob -/) ?_)
  refine Mv ?_
  refine G (q_callv [3, 4] [_, _] [] (number [0, 2, 7, 8, 9] 4 1 1 (by decide) (by decide) (by decide) (by decide)/- (*escutcheon/wire.Reader).Number -/) ?_)
  refine As ?_
  refine As ?_
  refine gend ?_
  refine awp_seq ?_
  refine rl ?_
  refine Mv ?_
  refine G (q_csl ?_)
  refine G (q_eqls ?_)
  refine Mv ?_
  refine Aknd 34 (fun hb4 => ?_) ?_; rotate_left
  · first | decide +kernel | exact rfl
  refine Gg (q_mv (s := .v (.c _)) ?_)
  refine Gg (q_callp (num _/- escutcheon/escutcheonlaw01.num -/) ?_)
  refine Gg (q_mv (s := .v (.c _)) ?_)
  refine Gg (q_callp (num _/- escutcheon/escutcheonlaw01.num -/) ?_)
  refine Gg (q_addn ?_)
  refine Gg (q_eqln (y := 0) ?_)
  refine G (q_pkt ?_)
  refine Mv ?_
  refine Aknd 42 (fun hb12 => ?_) ?_; rotate_left
  · first | decide +kernel | exact rfl
  refine Gg (q_mv (s := .v (.c _)) ?_)
  refine Gg (q_callp (num _/- escutcheon/escutcheonlaw01.num -/) ?_)
  refine Gg (q_eqln (y := 2) ?_)
  refine G (q_pkt ?_)
  refine Mv ?_
  refine Aknd 47 (fun hb17 => ?_) ?_; rotate_left
  · first | decide +kernel | exact rfl
  refine Gg (q_mv (s := .v (.c _)) ?_)
  refine Gg (q_eql64 (y := 258) ?_)
  refine G (q_pkt ?_)
  refine Mv ?_
  refine Aknd 51 (fun hb21 => ?_) ?_; rotate_left
  · first | decide +kernel | exact rfl
  refine Gg (q_mv (s := .v (.c _)) ?_)
  refine Gg (q_csl ?_)
  refine Gg (q_eqls ?_)
  refine G (q_pkt ?_)
  refine Mv ?_
  refine Aknd 56 (fun hb26 => ?_) ?_; rotate_left
  · first | decide +kernel | exact rfl
  refine Gg (q_mv (s := .v (.c _)) ?_)
  refine Gg (q_eql64 (y := 9) ?_)
  refine G (q_pkt ?_)
  refine Mv ?_
  refine Aknd 60 (fun hb30 => ?_) ?_; rotate_left
  · first | decide +kernel | exact rfl
  refine Gg (q_mv (s := .v (.c _)) ?_)
  refine Gg (q_callp (end_ 0 _ false (by decide)/- (*escutcheon/wire.Reader).End -/) ?_)
  refine Gg (q_callp (num _/- escutcheon/escutcheonlaw01.num -/) ?_)
  refine Gg (q_eqln (y := 0) ?_)
  refine G (q_pkt ?_)
  refine As ?_
  refine gend ?_
  refine awp_ret ?_
  exact fp1
end Go.Proofs.Ytedpdnicpicjdaa

/- What functions of the program do, walked over the abstract machine. -/
import Derived.Test.YtedpdnicpicjdaaWk
namespace Go.Proofs.Ytedpdnicpicjdaa
open Go Go.Abs Go.Proofs

/-- escutcheonlaw01.WireNil -/
theorem nil_ : Good Try.prog 4 [] [] (sc (.bool true)) [] := by
  refine good_frm 81 Try.func4 rfl rfl rfl rfl rfl rfl ?_
  refine awp_seq ?_
  refine rl ?_
  refine As ?_
  refine gend ?_
  refine awp_seq ?_
  refine rl ?_
  refine As ?_
  refine gend ?_
  refine awp_seq ?_
  refine rl ?_
  refine G (q_bls (fk0 ?_))
  refine G (q_boxa ?_)
  refine As ?_
  refine gend ?_
  refine awp_seq ?_
  refine rl ?_
  refine G (q_bsl (fkc (c := c8 1) rfl rfl rfl (Nat.le_of_ble_eq_true rfl) (fkc (c := c8 2) rfl rfl rfl (Nat.le_of_ble_eq_true rfl) (fk0 ?_))))
  refine G (q_callv [] [] [_, _] (read 2 [1, 2] (by decide) rfl (by decide)/- escutcheon/wire.Read -/) ?_)
  refine As ?_
  refine gend ?_
  refine awp_seq ?_
  refine awp_seq ?_
  refine rl ?_
  refine Mv ?_
  refine G (q_eqlp ?_)
  refine gend ?_
  refine cndF ?_
  refine awp_skip ?_
  refine awp_seq ?_
  refine rl ?_
  refine Mv ?_
  refine G (q_callv [2, 3] [_, _] [] (number_big [1, 2] 0 2 3 (by decide) (by decide) (by decide)/- (*escutcheon/wire.Reader).Number -/) ?_)
  refine Mv ?_
  refine G (q_callv [2, 3] [_, _] [] (number_bad [1, 2] 0 2 1 (by decide) (by decide)/- (*escutcheon/wire.Reader).Number -/) ?_)
  refine As ?_
  refine As ?_
  refine gend ?_
  refine awp_seq ?_
  refine rl ?_
  refine Mv ?_
  refine G (q_callp (number_nil 1 (by decide) (by decide)/- (*escutcheon/wire.Reader).Number -/) ?_)
  refine G (q_eql64 (y := 0) ?_)
  refine Mv ?_
  refine Aknd 19 (fun hb4 => ?_) ?_; rotate_left
  · first | exact rfl | decide +kernel
  refine Gg (q_mv (s := .v (.c _)) ?_)
  refine Gg (q_callp (bytes_nil 0/- (*escutcheon/wire.Reader).Bytes -/) ?_)
  refine Gg (q_lenn ?_)
  refine Gg (q_eqln (y := 0) ?_)
  refine G (q_pkt ?_)
  refine Mv ?_
  refine Aknd 25 (fun hb10 => ?_) ?_; rotate_left
  · first | exact rfl | decide +kernel
  refine Gg (q_mv (s := .v (.c _)) ?_)
  refine Gg (q_callp (blob_nil/- (*escutcheon/wire.Reader).Blob -/) ?_)
  refine Gg (q_lenn ?_)
  refine Gg (q_eqln (y := 0) ?_)
  refine G (q_pkt ?_)
  refine Mv ?_
  refine Aknd 31 (fun hb16 => ?_) ?_; rotate_left
  · first | exact rfl | decide +kernel
  refine Gg (q_mv (s := .v (.c _)) ?_)
  refine Gg (q_callp (key_nil/- (*escutcheon/wire.Reader).Key -/) ?_)
  refine Gg (q_bla (fk0 ?_))
  refine Gg (q_eqa8 ?_)
  refine G (q_pkt ?_)
  refine Mv ?_
  refine Aknd 37 (fun hb22 => ?_) ?_; rotate_left
  · first | exact rfl | decide +kernel
  refine Gg (q_mv (s := .v (.c _)) ?_)
  refine Gg (q_callp (left_nil/- (*escutcheon/wire.Reader).Left -/) ?_)
  refine Gg (q_eqln (y := 0) ?_)
  refine G (q_pkt ?_)
  refine Mv ?_
  refine Aknd 42 (fun hb27 => ?_) ?_; rotate_left
  · first | exact rfl | decide +kernel
  refine Gg (q_mv (s := .v (.c _)) ?_)
  refine Gg (q_callp (end_nil/- (*escutcheon/wire.Reader).End -/) ?_)
  refine Gg (q_callp (num _/- escutcheon/escutcheonlaw01.num -/) ?_)
  refine Gg (q_eqln (y := 1) ?_)
  refine G (q_pkt ?_)
  refine Mv ?_
  refine Aknd 48 (fun hb33 => ?_) ?_; rotate_left
  · first | exact rfl | decide +kernel
  refine Gg (q_mv (s := .v (.c _)) ?_)
  refine Gg (q_callp (end_zero _ false/- (*escutcheon/wire.Reader).End -/) ?_)
  refine Gg (q_callp (num _/- escutcheon/escutcheonlaw01.num -/) ?_)
  refine Gg (q_eqln (y := 1) ?_)
  refine G (q_pkt ?_)
  refine Mv ?_
  refine Aknd 54 (fun hb39 => ?_) ?_; rotate_left
  · first | exact rfl | decide +kernel
  refine Gg (q_mv (s := .v (.c _)) ?_)
  refine Gg (q_callp (left_zero _ false/- (*escutcheon/wire.Reader).Left -/) ?_)
  refine Gg (q_eqln (y := 0) ?_)
  refine G (q_pkt ?_)
  refine Mv ?_
  refine Aknd 59 (fun hb44 => ?_) ?_; rotate_left
  · first | exact rfl | decide +kernel
  refine Gg (q_mv (s := .v (.c _)) ?_)
  refine Gg (q_eql64 (y := 0) ?_)
  refine G (q_pkt ?_)
  refine Mv ?_
  refine Aknd 63 (fun hb48 => ?_) ?_; rotate_left
  · first | exact rfl | decide +kernel
  refine Gg (q_mv (s := .v (.c _)) ?_)
  refine Gg (q_eql64 (y := 0) ?_)
  refine G (q_pkt ?_)
  refine Mv ?_
  refine Aknd 67 (fun hb52 => ?_) ?_; rotate_left
  · first | exact rfl | decide +kernel
  refine Gg (q_mv (s := .v (.c _)) ?_)
  refine Gg (q_callp (left .nils 2 _ true (by decide)/- (*escutcheon/wire.Reader).Left -/) ?_)
  refine Gg (q_eqln (y := 0) ?_)
  refine G (q_pkt ?_)
  refine Mv ?_
  refine Aknd 72 (fun hb57 => ?_) ?_; rotate_left
  · first | exact rfl | decide +kernel
  refine Gg (q_mv (s := .v (.c _)) ?_)
  refine Gg (q_callp (end_ 2 _ true (by decide)/- (*escutcheon/wire.Reader).End -/) ?_)
  refine Gg (q_callp (num _/- escutcheon/escutcheonlaw01.num -/) ?_)
  refine Gg (q_eqln (y := 4) ?_)
  refine G (q_pkt ?_)
  refine Mv ?_
  refine Aknd 78 (fun hb63 => ?_) ?_; rotate_left
  · first | exact rfl | decide +kernel
  refine Gg (q_callp (known/- escutcheon/escutcheonlaw01.known -/) ?_)
  refine G (q_pkt ?_)
  refine As ?_
  refine gend ?_
  refine awp_ret ?_
  exact fp1
end Go.Proofs.Ytedpdnicpicjdaa

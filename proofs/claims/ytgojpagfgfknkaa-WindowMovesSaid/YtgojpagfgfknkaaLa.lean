/- What functions of the program do, walked over the abstract machine. -/
import Derived.Test.YtgojpagfgfknkaaTi
import Derived.Test.YtgojpagfgfknkaaWin
import Derived.Test.YtgojpagfgfknkaaRef
import Derived.Test.YtgojpagfgfknkaaPl
namespace Go.Proofs.Ytgojpagfgfknkaa
open Go Go.Abs Go.Proofs

theorem rem_lt (x : UInt64) : (x % 4611686018427387904).toNat < 4611686018427387904 := by
  rw [UInt64.toNat_mod]; exact Nat.mod_lt _ (by decide)
/-- escutcheonlaw18.WindowMoves -/
theorem moves (n : Nat) (l : List UInt64) (s : UInt64) (hn : l.length = n) (hb : n ≤ 9223372036854775807) : Good Try.prog 4 [.c (.ro n (u64s l)), .c (c64 s)] [] (sc (.bool true)) [] := by
  refine good_frm 43 Try.func4 rfl rfl rfl rfl rfl rfl ?_
  refine awp_seq ?_
  refine rl ?_
  refine As ?_
  refine gend ?_
  refine awp_seq ?_
  refine awp_seq ?_
  refine rl ?_
  refine Mv ?_
  refine G (q_leno ?_)
  refine G (q_gtrn (y := 200) ?_)
  refine gend ?_
  refine cnd (fun hc1 => ?_) (fun hc1 => ?_)
  · refine awp_seq ?_
    refine rl ?_
    refine G (q_callp (known/- escutcheon/escutcheonlaw18.known -/) ?_)
    refine As ?_
    refine gend ?_
    refine awp_ret ?_
    exact fp1
  refine awp_skip ?_
  refine awp_seq ?_
  refine rl ?_
  refine G (q_calln (new/- escutcheon/window.New -/) ?_)
  refine G (q_calln (new/- escutcheon/window.New -/) ?_)
  refine As ?_
  refine As ?_
  refine gend ?_
  refine awp_seq ?_
  refine awp_seq ?_
  refine rl ?_
  refine Mv ?_
  refine G (q_eqlp ?_)
  refine Mv ?_
  refine Gg (q_mv (s := .v (.c _)) ?_)
  refine Gg (q_eqlp ?_)
  refine G (q_pkf ?_)
  refine gend ?_
  refine cndF ?_
  refine awp_skip ?_
  refine awp_seq ?_
  refine awp_seq ?_
  refine rl ?_
  refine G (q_as (s := sc (cn 0)) ?_)
  refine gend ?_
  refine awp_block ?_
  refine awp_loop (fun y : {y : Nat × (UInt64 × UInt64) × (UInt64 × UInt64) // y.1 ≤ n ∧ Mv2 (s % 4611686018427387904) y.2.1 y.2.2} => ⟨frm 43 [(0, sc (.ro n (u64s l))), (1, sc (c64 s)), (5, sc (.ptr 0 0)), (6, sc (.ptr 1 0)), (7, sc (cn y.1.1))], [some (wcs true y.1.2.1.1 y.1.2.1.2), some (wcs true y.1.2.2.1 y.1.2.2.2)]⟩) (fun y => n - y.1.1) ⟨(0, (0, 0), (0, 0)), Nat.zero_le _, rfl, .inl rfl⟩ (sle_sub ⟨rfl, rfl, rfl, rfl, rfl, trivial⟩ rfl) fun y => ?_   -- live: [0, 1, 5, 6, 7]
  refine awp_seq ?_
  refine awp_seq ?_
  refine rl ?_
  refine Mv ?_
  refine Mv ?_
  refine G (q_leno ?_)
  refine G (q_lssn ?_)
  refine gend ?_
  refine cnd (fun hc2 => ?_) (fun hc2 => ?_); rotate_left
  · refine awp_exit ?_
    refine awp_seq ?_
    refine rl ?_
    refine G (q_callp (known/- escutcheon/escutcheonlaw18.known -/) ?_)
    refine As ?_
    refine gend ?_
    refine awp_ret ?_
    exact fp1
  refine awp_skip ?_
  refine awp_seq ?_
  refine awp_block ?_
  refine awp_seq ?_
  refine rl ?_
  refine Mv ?_
  refine Mv ?_
  refine G (q_ixo1 ?_)
  refine G (q_ldrd ?_)
  refine G (q_rem64 (y := 4611686018427387904) ?_ (hz := by decide))
  refine As ?_
  refine gend ?_
  refine awp_seq ?_
  refine rl ?_
  refine Mv ?_
  refine Mv ?_
  refine G (q_callw 0 (take true y.1.2.1.1 y.1.2.1.2 (l.getD y.1.1 0 % 4611686018427387904)/- (*escutcheon/window.Window).Take -/) ?_)
  refine Mv ?_
  refine Mv ?_
  refine Mv ?_
  refine G (q_rem64 (y := 4611686018427387904) ?_ (hz := by decide))
  refine G (q_add64 ?_)
  refine G (q_callw 1 (take true y.1.2.2.1 y.1.2.2.2 (l.getD y.1.1 0 % 4611686018427387904 + s % 4611686018427387904)/- (*escutcheon/window.Window).Take -/) ?_)
  refine G (q_neqn ?_)
  refine gend ?_
  refine cnd (fun hc3 => ?_) (fun hc3 => ?_)
  · refine awp_seq ?_
    refine rl ?_
    refine As ?_
    refine gend ?_
    refine awp_ret ?_
    exact absurd (by rw [(moves_step (n := l.getD y.1.1 0 % 4611686018427387904) y.2.2 (rem_lt _) (rem_lt _)).1]) hc3
  refine awp_skip ?_
  refine rl ?_
  refine Mv ?_
  refine G (q_addn (y := 1) ?_)
  refine As ?_
  refine gend ?_
  have hy := y.2.1
  have hm := moves_step (n := l.getD y.1.1 0 % 4611686018427387904) y.2.2 (rem_lt _) (rem_lt _)
  exact ⟨⟨(y.1.1 + 1, wnext true y.1.2.1.1 y.1.2.1.2 (l.getD y.1.1 0 % 4611686018427387904), wnext true y.1.2.2.1 y.1.2.2.2 (l.getD y.1.1 0 % 4611686018427387904 + s % 4611686018427387904)), by show y.1.1 + 1 ≤ n; omega, hm.2⟩, by show n - (y.1.1 + 1) < n - y.1.1; omega, sle_sub ⟨rfl, rfl, rfl, rfl, rfl, trivial⟩ rfl⟩   -- endloop 1
end Go.Proofs.Ytgojpagfgfknkaa

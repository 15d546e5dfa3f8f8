/- What functions of the program do, walked over the abstract machine. -/
import Derived.Test.YtngmhcgenknokaaBc
namespace Go.Proofs.Ytngmhcgenknokaa
open Go Go.Abs Go.Proofs

/-- The reference's root: the whole part of the prime's, and the bits behind it. -/
def primes : List UInt64 := [2, 3, 5, 7, 11, 13, 17, 19]
def whole (i : Nat) : Nat := [1, 1, 2, 2, 3, 3, 4, 4].getD i 0
theorem whole_le (i : Nat) : whole i ≤ 4 := by
  by_cases h : i < 8
  · have : ∀ i : Fin 8, whole i.1 ≤ 4 := by decide +kernel
    exact this ⟨i, h⟩
  · rw [whole, List.getD_eq_getElem?_getD, List.getElem?_eq_none (by simp; omega)]; decide
theorem whole_iff (i : Nat) (hi : i < 8) (j : Nat) (hj : j ≤ whole i) : (UInt64.ofNat j + 1) * (UInt64.ofNat j + 1) ≤ primes.getD i 0 ↔ j < whole i := by
  have : ∀ i : Fin 8, ∀ j : Fin 5, j.1 ≤ whole i.1 → (decide ((UInt64.ofNat j.1 + 1) * (UInt64.ofNat j.1 + 1) ≤ primes.getD i.1 0) = decide (j.1 < whole i.1)) := by decide +kernel
  have h := this ⟨i, hi⟩ ⟨j, by have := whole_le i; omega⟩ hj
  simpa using h
def frac (w r : UInt64) : Nat → UInt64
  | 0 => 0
  | j + 1 =>
    let g := frac w r j + shl64n 1 (UInt64.ofNat (31 - j)).toNat
    if 2 * w * g + shr64n (g * g) (UInt64.toNat 32) < shl64n r (UInt64.toNat 32) ∨ (2 * w * g + shr64n (g * g) (UInt64.toNat 32) = shl64n r (UInt64.toNat 32) ∧ g * g % 4294967296 = 0) then g else frac w r j
def rstart (i : Nat) : UInt32 := (frac (UInt64.ofNat (whole i)) (primes.getD i 0 - UInt64.ofNat (whole i) * UInt64.ofNat (whole i)) 32).toUInt32
theorem rstart_eq (i : Nat) (h : i < 8) : rstart i = fst8.getD i 0 := by
  have : ∀ i : Fin 8, rstart i.1 = fst8.getD i.1 0 := by decide +kernel
  exact this ⟨i, h⟩
def row (k : Nat) : List Int := (ordz.drop (16 * k)).take 16
set_option maxHeartbeats 800000 in
/-- escutcheonref11.Start -/
theorem rstart_ (e : Nat) (hi : e < 8) : Good Try.prog 16 [.c (cn e)] [] (sc (c32 (rstart e))) [] := by
  refine good_frm 81 Try.func16 rfl rfl rfl rfl rfl rfl ?_
  refine awp_seq ?_
  refine rl ?_
  refine G (q_as (s := sc (c32 0)) ?_)
  refine gend ?_
  refine awp_seq ?_
  refine rl ?_
  refine G (q_bsl (fkC (out := u64s [2, 3, 5, 7, 11, 13, 17, 19]) ?_))
  refine As ?_
  refine gend ?_
  refine awp_seq ?_
  refine awp_seq ?_
  refine rl ?_
  refine Mv ?_
  refine G (q_lssn (y := 0) ?_)
  refine Mv ?_
  refine Akfd 15 (fun hb3 => ?_) ?_; rotate_left
  · omega
  refine Gg (q_mv (s := .v (.c _)) ?_)
  refine Gg (q_mv (s := .v (.c _)) ?_)
  refine Gg (q_lenc ?_)
  refine Gg (q_geqn ?_)
  refine G (q_pkf ?_)
  refine gend ?_
  refine cndN (fun hc1 => ?_) ?_; rotate_left
  · omega
  refine awp_skip ?_
  refine awp_seq ?_
  refine rl ?_
  refine G (q_as (s := sc (c64 0)) ?_)
  refine gend ?_
  refine awp_seq ?_
  refine awp_block ?_
  refine awp_loop (fun x : {i : Nat // i ≤ (whole e)} => ⟨frm 81 [(0, sc (cn e)), (3, sc (.slc 0 0 8 1)), (4, sc (c64 (UInt64.ofNat x.1)))], [some (u64s primes)]⟩) (fun x => (whole e) - x.1) ⟨0, Nat.zero_le _⟩ (sle_sub ⟨rfl, rfl, rfl, trivial⟩ rfl) fun x => ?_   -- live: [0, 3, 4]
  have hiff := whole_iff e hi x.1 x.2
  refine awp_seq ?_
  refine awp_seq ?_
  refine rl ?_
  refine Mv ?_
  refine G (q_add64 (y := 1) ?_)
  refine Mv ?_
  refine G (q_add64 (y := 1) ?_)
  refine G (q_mul64 ?_)
  refine Mv ?_
  refine Mv ?_
  refine G (q_ixs1 ?_)
  refine G (q_ldp ?_)
  refine G (q_leq64 ?_)
  refine gend ?_
  refine cnd (fun hc2 => ?_) (fun hc2 => ?_); rotate_left
  · refine awp_exit ?_
    have hc2' := mt hiff.2 hc2
    rw [show x.1 = (whole e) from (by have := x.2; omega)]
    refine awp_seq ?_
    refine rl ?_
    refine Mv ?_
    refine Mv ?_
    refine G (q_ixs1 ?_)
    refine G (q_ldp ?_)
    refine Mv ?_
    refine Mv ?_
    refine G (q_mul64 ?_)
    refine G (q_sub64 ?_)
    refine As ?_
    refine gend ?_
    refine awp_seq ?_
    refine rl ?_
    refine G (q_as (s := sc (c64 0)) ?_)
    refine gend ?_
    refine awp_seq ?_
    refine awp_seq ?_
    refine rl ?_
    refine G (q_as (s := sc (cn 31)) ?_)
    refine gend ?_
    refine awp_block ?_
    refine awp_loop (fun y : {i : Nat // i ≤ 32} => ⟨frm 81 [(4, sc (c64 (UInt64.ofNat (whole e)))), (5, sc (c64 (primes.getD e 0 - UInt64.ofNat (whole e) * UInt64.ofNat (whole e)))), (6, sc (c64 (frac (UInt64.ofNat (whole e)) (primes.getD e 0 - UInt64.ofNat (whole e) * UInt64.ofNat (whole e)) y.1))), (7, sc (ci (31 - (y.1 : Int))))], [some (u64s primes)]⟩) (fun y => 32 - y.1) ⟨0, Nat.zero_le _⟩ (sle_sub ⟨rfl, rfl, rfl, rfl, trivial⟩ rfl) fun y => ?_   -- live: [4, 5, 6, 7]
    refine awp_seq ?_
    refine awp_seq ?_
    refine rl ?_
    refine Mv ?_
    refine G (q_geqi (y := 0) ?_)
    refine gend ?_
    refine cnd (fun hc3 => ?_) (fun hc3 => ?_); rotate_left
    · refine awp_exit ?_
      rw [show y.1 = 32 from (by have := y.2; omega)]
      refine awp_seq ?_
      refine rl ?_
      refine Mv ?_
      refine G (q_cv64_32 ?_)
      refine As ?_
      refine gend ?_
      refine awp_ret ?_
      exact fp1
    refine awp_skip ?_
    refine retell [(4, sc (c64 (UInt64.ofNat (whole e)))), (5, sc (c64 (primes.getD e 0 - UInt64.ofNat (whole e) * UInt64.ofNat (whole e)))), (6, sc (c64 (frac (UInt64.ofNat (whole e)) (primes.getD e 0 - UInt64.ofNat (whole e) * UInt64.ofNat (whole e)) y.1))), (7, sc (cn (31 - y.1)))] ?_ ⟨rfl, rfl, rfl, congrArg (fun i => sc (ci i)) (by omega), trivial⟩
    refine awp_seq ?_
    refine awp_block ?_
    refine awp_seq ?_
    refine rl ?_
    refine Mv ?_
    refine Mv ?_
    refine G (q_cv0_64 ?_)
    refine G (q_shl64_64 (x := 1) ?_)
    refine G (q_add64 ?_)
    refine As ?_
    refine gend ?_
    refine awp_seq ?_
    refine rl ?_
    refine Mv ?_
    refine Mv ?_
    refine G (q_mul64 ?_)
    refine G (q_shr64_64 (n := 32) ?_)
    refine Mv ?_
    refine Mv ?_
    refine G (q_mul64 ?_)
    refine G (q_rem64 (y := 4294967296) ?_ (hz := by decide))
    refine As ?_
    refine As ?_
    refine gend ?_
    refine awp_seq ?_
    refine rl ?_
    refine Mv ?_
    refine G (q_mul64 (x := 2) ?_)
    refine Mv ?_
    refine G (q_mul64 ?_)
    refine Mv ?_
    refine G (q_add64 ?_)
    refine As ?_
    refine gend ?_
    refine awp_seq ?_
    refine rl ?_
    refine Mv ?_
    refine Mv ?_
    refine G (q_shl64_64 (n := 32) ?_)
    refine G (q_lss64 ?_)
    refine Mv ?_
    refine Aspd 68 (fun hb5 => ?_) (fun hb5 => ?_)
    · refine Gn ?_
      refine Gn ?_
      refine Gn ?_
      refine Gn ?_
      refine Gn ?_
      refine Gu ?_
      refine Gu ?_
      refine Gn ?_
      refine G (q_pkt ?_)
      refine gend ?_
      refine cndT ?_
      refine rl ?_
      refine Mv ?_
      refine As ?_
      refine gend ?_
      refine rl ?_
      refine Mv ?_
      refine G (q_subi (y := 1) ?_)
      refine As ?_
      refine gend ?_
      exact ⟨⟨y.1 + 1, by omega⟩, by show 32 - (y.1 + 1) < 32 - y.1; omega, sle_sub ⟨rfl, rfl, congrArg (fun z => sc (c64 z)) (by show _ = frac (UInt64.ofNat (whole e)) (primes.getD e 0 - UInt64.ofNat (whole e) * UInt64.ofNat (whole e)) (y.1 + 1); rw [frac]; generalize frac (UInt64.ofNat (whole e)) (primes.getD e 0 - UInt64.ofNat (whole e) * UInt64.ofNat (whole e)) y.1 + shl64n 1 (UInt64.ofNat (31 - y.1)).toNat = g at *; first | rw [if_pos (.inl (by assumption))] | rw [if_pos (.inr ⟨by assumption, by assumption⟩)] | rw [if_neg (by rintro (h | ⟨h, h'⟩) <;> contradiction)]), congrArg (fun i => sc (ci i)) (by show ((31 - y.1 : Nat) : Int) - 1 = 31 - ((y.1 + 1 : Nat) : Int); omega), trivial⟩ rfl⟩   -- endloop 2
    refine Gg (q_mv (s := .v (.c _)) ?_)
    refine Gg (q_mv (s := .v (.c _)) ?_)
    refine Gg (q_shl64_64 (n := 32) ?_)
    refine Gg (q_eql64 ?_)
    refine Gg (q_mv (s := .v (.c _)) ?_)
    refine Aspd 73 (fun hb10 => ?_) (fun hb10 => ?_)
    · refine Gg (q_mv (s := .v (.c _)) ?_)
      refine Gg (q_eql64 (y := 0) ?_)
      refine Gg (q_pkt ?_)
      refine G (q_pkf ?_)
      refine gend ?_
      refine cnd (fun hc4 => ?_) (fun hc4 => ?_)
      · refine rl ?_
        refine Mv ?_
        refine As ?_
        refine gend ?_
        refine rl ?_
        refine Mv ?_
        refine G (q_subi (y := 1) ?_)
        refine As ?_
        refine gend ?_
        exact ⟨⟨y.1 + 1, by omega⟩, by show 32 - (y.1 + 1) < 32 - y.1; omega, sle_sub ⟨rfl, rfl, congrArg (fun z => sc (c64 z)) (by show _ = frac (UInt64.ofNat (whole e)) (primes.getD e 0 - UInt64.ofNat (whole e) * UInt64.ofNat (whole e)) (y.1 + 1); rw [frac]; generalize frac (UInt64.ofNat (whole e)) (primes.getD e 0 - UInt64.ofNat (whole e) * UInt64.ofNat (whole e)) y.1 + shl64n 1 (UInt64.ofNat (31 - y.1)).toNat = g at *; first | rw [if_pos (.inl (by assumption))] | rw [if_pos (.inr ⟨by assumption, by assumption⟩)] | rw [if_neg (by rintro (h | ⟨h, h'⟩) <;> contradiction)]), congrArg (fun i => sc (ci i)) (by show ((31 - y.1 : Nat) : Int) - 1 = 31 - ((y.1 + 1 : Nat) : Int); omega), trivial⟩ rfl⟩   -- endloop 2
      refine awp_skip ?_
      refine rl ?_
      refine Mv ?_
      refine G (q_subi (y := 1) ?_)
      refine As ?_
      refine gend ?_
      exact ⟨⟨y.1 + 1, by omega⟩, by show 32 - (y.1 + 1) < 32 - y.1; omega, sle_sub ⟨rfl, rfl, congrArg (fun z => sc (c64 z)) (by show _ = frac (UInt64.ofNat (whole e)) (primes.getD e 0 - UInt64.ofNat (whole e) * UInt64.ofNat (whole e)) (y.1 + 1); rw [frac]; generalize frac (UInt64.ofNat (whole e)) (primes.getD e 0 - UInt64.ofNat (whole e) * UInt64.ofNat (whole e)) y.1 + shl64n 1 (UInt64.ofNat (31 - y.1)).toNat = g at *; first | rw [if_pos (.inl (by assumption))] | rw [if_pos (.inr ⟨by assumption, by assumption⟩)] | rw [if_neg (by rintro (h | ⟨h, h'⟩) <;> contradiction)]), congrArg (fun i => sc (ci i)) (by show ((31 - y.1 : Nat) : Int) - 1 = 31 - ((y.1 + 1 : Nat) : Int); omega), trivial⟩ rfl⟩   -- endloop 2
    refine Gn ?_
    refine Gn ?_
    refine Gg (q_pkf ?_)
    refine G (q_pkf ?_)
    refine gend ?_
    refine cndF ?_
    refine awp_skip ?_
    refine rl ?_
    refine Mv ?_
    refine G (q_subi (y := 1) ?_)
    refine As ?_
    refine gend ?_
    exact ⟨⟨y.1 + 1, by omega⟩, by show 32 - (y.1 + 1) < 32 - y.1; omega, sle_sub ⟨rfl, rfl, congrArg (fun z => sc (c64 z)) (by show _ = frac (UInt64.ofNat (whole e)) (primes.getD e 0 - UInt64.ofNat (whole e) * UInt64.ofNat (whole e)) (y.1 + 1); rw [frac]; generalize frac (UInt64.ofNat (whole e)) (primes.getD e 0 - UInt64.ofNat (whole e) * UInt64.ofNat (whole e)) y.1 + shl64n 1 (UInt64.ofNat (31 - y.1)).toNat = g at *; first | rw [if_pos (.inl (by assumption))] | rw [if_pos (.inr ⟨by assumption, by assumption⟩)] | rw [if_neg (by rintro (h | ⟨h, h'⟩) <;> contradiction)]), congrArg (fun i => sc (ci i)) (by show ((31 - y.1 : Nat) : Int) - 1 = 31 - ((y.1 + 1 : Nat) : Int); omega), trivial⟩ rfl⟩   -- endloop 2
  refine awp_skip ?_
  refine awp_block ?_
  refine rl ?_
  refine Mv ?_
  refine G (q_add64 (y := 1) ?_)
  refine As ?_
  refine gend ?_
  exact ⟨⟨x.1 + 1, by have := hiff.1 hc2; omega⟩, by show (whole e) - (x.1 + 1) < (whole e) - x.1; have := hiff.1 hc2; omega, sle_sub ⟨rfl, rfl, congrArg (fun z => sc (c64 z)) (num_succ _), trivial⟩ rfl⟩   -- endloop 1
end Go.Proofs.Ytngmhcgenknokaa

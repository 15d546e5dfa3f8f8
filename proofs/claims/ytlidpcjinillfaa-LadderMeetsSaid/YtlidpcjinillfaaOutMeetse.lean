/- Texts that the proof stands on, put together: the abstract machine, and what functions do over it. -/
import Derived.Test.YtlidpcjinillfaaOutMeetsd
/- What functions of the program do, walked over the abstract machine. -/
namespace Go.Proofs.Ytlidpcjinillfaa.Ld
open Go Go.Abs Go.Proofs Go.Proofs.Ytlidpcjinillfaa.Fd Go.Proofs.Ytlidpcjinillfaa.Rn

open Go.Nt Fd Rn
theorem cl_a : ∀ x : UInt8, x / 8 * 8 = x &&& ~~~7 := by
  have h : ∀ i : Fin 256, UInt8.ofNat i.val / 8 * 8 = UInt8.ofNat i.val &&& ~~~7 := by decide +kernel
  intro x
  have := h ⟨x.toNat, x.toNat_lt⟩
  simpa using this
theorem cl_b : ∀ x : UInt8, x % 64 + 64 = (x &&& 127) ||| 64 := by
  have h : ∀ i : Fin 256, UInt8.ofNat i.val % 64 + 64 = (UInt8.ofNat i.val &&& 127) ||| 64 := by decide +kernel
  intro x
  have := h ⟨x.toNat, x.toNat_lt⟩
  simpa using this
theorem clampR (k : List UInt8) : (k.set 0 (k.getD 0 0 / 8 * 8)).set 31 ((k.set 0 (k.getD 0 0 / 8 * 8)).getD 31 0 % 64 + 64) = clamp k := by rw [clamp, cl_a, cl_b]
theorem rbitB (k : List UInt8) (j : Nat) (h : j < 256) : decide (shr8n (k.getD (j / 8) 0) (UInt64.ofNat (j % 8)).toNat % 2 = 1) = (bv k).testBit j := by
  rw [← tbit k j h, decide_eq_decide, rbit k j h]
/-- escutcheonref03.Clamp -/
theorem rclamp_ (k : List UInt8) (hk : k.length = 32) : Good Try.prog 17 [.a (u8s k)] [] (sa (u8s (clamp k))) [] := by
  have hl : (clamp k).length = 32 := (clamp_len k).trans hk
  rw [← clampR] at hl ⊢
  refine good_frm 14 Try.func17 rfl rfl rfl rfl rfl rfl ?_
  refine awp_seq ?_
  refine rln ?_
  refine G2 (fun _ k_ => q_boxa k_) ?_
  refine G2 (fun _ k_ => q_al k_) ?_
  refine gend ?_
  refine awp_seq ?_
  refine rln ?_
  refine G (q_ixp1 ?_)
  refine G (q_ldp ?_)
  refine G (q_quo8 (y := 8) ?_ (hz := by decide))
  refine G (q_mul8 (y := 8) ?_)
  refine G (q_ixp1 ?_)
  refine G20 (fun _ k_ => q_stm k_) ?_
  refine gend ?_
  refine awp_seq ?_
  refine rln ?_
  refine G (q_ixp1 ?_)
  refine G (q_ldp ?_)
  refine G (q_rem8 (y := 64) ?_ (hz := by decide))
  refine G (q_add8 (y := 64) ?_)
  refine G (q_ixp1 ?_)
  refine G20 (fun _ k_ => q_stm k_) ?_
  refine gend ?_
  refine awp_seq ?_
  refine rln ?_
  refine G (q_ldw ?_)
  refine G20 (fun _ k_ => q_stw k_) ?_
  refine gend ?_
  refine awp_ret ?_
  exact fpc (t := 23) (a := 2) (hn := by exact (mapc_length ..).trans hl)
theorem rsmall_k : Good Try.prog 16 [.c (c64 121665)] [] (sa (u64s (de 121665))) [] := Rn.small_ 121665
set_option maxHeartbeats 3200000 in
/-- escutcheonref04.Mul -/
theorem rmul_ (k x x' : List UInt8) (hk : k.length = 32) (hx : x.length = 32) (hx' : x.set 31 (x.getD 31 0 % 128) = x') : Good Try.prog 7 [.a (u8s k), .a (u8s x)] [] (sa (u8s (bye (ladder (bv (clamp k)) (fb x))))) [] := by
  have gC := rclamp_ k hk
  have hK : (clamp k).length = 32 := (clamp_len k).trans hk
  have hs31 : x'.length = 32 := by rw [← hx']; exact List.length_set.trans hx
  have gO := Rn.of_ x' hs31
  have hq := num_fb x hx
  rw [hx'] at hq
  rw [hq] at gO
  have hlt : bv x % 57896044618658097711785492504343953926634992332820282019728792003956564819968 < 57896044618658097711785492504343953926634992332820282019728792003956564819968 := Nat.mod_lt _ (by decide)
  have gA := Rn.add_ (bv x % 57896044618658097711785492504343953926634992332820282019728792003956564819968) 0 (by omega) (by decide)
  rw [Nat.add_zero, show dg (bv x % 57896044618658097711785492504343953926634992332820282019728792003956564819968 % P) = de (fb x) from rfl] at gA
  have hOl := dg_len (bv x % 57896044618658097711785492504343953926634992332820282019728792003956564819968)
  generalize dg (bv x % 57896044618658097711785492504343953926634992332820282019728792003956564819968) = O at gO gA hOl
  generalize fb x = X at gA ⊢
  have hXl := de_len X
  have h1l := de_len 1
  have h0l := de_len 0
  refine good_frm 116 Try.func7 rfl rfl rfl rfl rfl rfl ?_
  refine awp_seq ?_
  refine rln ?_
  refine G2 (fun _ k_ => q_boxa k_) ?_
  refine G2 (fun _ k_ => q_boxa k_) ?_
  refine G2 (fun _ k_ => q_al k_) ?_
  refine gend ?_
  refine awp_seq ?_
  refine rln ?_
  refine G (q_ldw ?_)
  refine G2 (fun _ k_ => q_callp gC k_) ?_
  refine G2 (fun _ k_ => q_al k_) ?_
  refine G20 (fun _ k_ => q_stw k_) ?_
  refine gend ?_
  refine awp_seq ?_
  refine rln ?_
  refine G (q_ixp1 ?_)
  refine G (q_ldp ?_)
  refine G (q_rem8 (y := 128) ?_ (hz := by decide))
  refine G (q_ixp1 ?_)
  refine G20 (fun _ k_ => q_stm  k_) ?_
  rw [hx']
  refine gend ?_
  refine awp_seq ?_
  refine rln ?_
  refine G (q_ldw ?_)
  refine G2 (fun _ k_ => q_callp (gO) k_) ?_
  refine G (q_bla (fk0 ?_))
  rw [show u64s (List.replicate 16 0) = u64s (dg 0) from congrArg u64s rep_de]
  refine G2 (fun _ k_ => q_callp (gA) k_) ?_
  refine G2 (fun _ k_ => q_al k_) ?_
  refine G20 (fun _ k_ => q_stw k_) ?_
  refine gend ?_
  refine awp_seq ?_
  refine rln ?_
  refine G2 (fun _ k_ => q_callp (Rn.small_1) k_ (ha := (cac rfl cm_int ca0))) ?_
  refine G2 (fun _ k_ => q_al k_) ?_
  refine G20 (fun _ k_ => q_stw k_) ?_
  refine gend ?_
  refine awp_mid ⟨frm 116 [(4, sc (.ptr 2 0)), (5, sc (.ptr 3 0)), (6, sc (.ptr 4 0)), (8, sc (.ptr 6 0)), (9, sc (.ptr 7 0)), (10, sc (.ptr 8 0)), (11, sc (.ptr 9 0))], [some (u8s k), some (u8s x'), some (u8s (List.replicate 32 0)), some (u8s (clamp k)), some (u64s (de X)), some (u64s (de 1)), some (u64s (de 1)), some (u64s (de 0)), some (u64s (de X)), some (u64s (de 1))]⟩ ?_ ?_
  · refine rdm [4, 5, 6, 7, 8, 9, 10, 11] [⟨[0, 1, 2, 3, 4, 5, 6, 7, 8, 9, 10, 11], [4, 5, 6, 7, 8, 9, 10, 11], [4, 5, 6, 7, 8, 9, 10, 11], [0, 0, 0, 0, 0, 1, 2, 3, 4, 5, 6, 7], [4, 5, 6, 7, 1, 2, 3, 4, 5, 6, 7, 8]⟩, ⟨[0, 1, 2, 3, 4, 5, 7, 6, 8, 9, 10, 11], [4, 5, 7, 6, 8, 9, 10, 11], [4, 5, 6, 7, 8, 9, 10, 11], [0, 0, 0, 0, 0, 1, 2, 3, 4, 5, 6, 7], [4, 5, 6, 7, 1, 2, 3, 4, 5, 6, 7, 8]⟩, ⟨[0, 1, 2, 3, 4, 6, 5, 7, 8, 9, 10, 11], [4, 6, 5, 7, 8, 9, 10, 11], [4, 5, 6, 7, 8, 9, 10, 11], [0, 0, 0, 0, 0, 1, 2, 3, 4, 5, 6, 7], [4, 5, 6, 7, 1, 2, 3, 4, 5, 6, 7, 8]⟩, ⟨[0, 1, 2, 3, 4, 6, 7, 5, 8, 9, 10, 11], [4, 6, 7, 5, 8, 9, 10, 11], [4, 5, 6, 7, 8, 9, 10, 11], [0, 0, 0, 0, 0, 1, 2, 3, 4, 5, 6, 7], [4, 5, 6, 7, 1, 2, 3, 4, 5, 6, 7, 8]⟩, ⟨[0, 1, 2, 3, 4, 7, 5, 6, 8, 9, 10, 11], [4, 7, 5, 6, 8, 9, 10, 11], [4, 5, 6, 7, 8, 9, 10, 11], [0, 0, 0, 0, 0, 1, 2, 3, 4, 5, 6, 7], [4, 5, 6, 7, 1, 2, 3, 4, 5, 6, 7, 8]⟩, ⟨[0, 1, 2, 3, 4, 7, 6, 5, 8, 9, 10, 11], [4, 7, 6, 5, 8, 9, 10, 11], [4, 5, 6, 7, 8, 9, 10, 11], [0, 0, 0, 0, 0, 1, 2, 3, 4, 5, 6, 7], [4, 5, 6, 7, 1, 2, 3, 4, 5, 6, 7, 8]⟩, ⟨[0, 1, 2, 3, 5, 4, 6, 7, 8, 9, 10, 11], [5, 4, 6, 7, 8, 9, 10, 11], [4, 5, 6, 7, 8, 9, 10, 11], [0, 0, 0, 0, 0, 1, 2, 3, 4, 5, 6, 7], [4, 5, 6, 7, 1, 2, 3, 4, 5, 6, 7, 8]⟩, ⟨[0, 1, 2, 3, 5, 4, 7, 6, 8, 9, 10, 11], [5, 4, 7, 6, 8, 9, 10, 11], [4, 5, 6, 7, 8, 9, 10, 11], [0, 0, 0, 0, 0, 1, 2, 3, 4, 5, 6, 7], [4, 5, 6, 7, 1, 2, 3, 4, 5, 6, 7, 8]⟩, ⟨[0, 1, 2, 3, 5, 6, 4, 7, 8, 9, 10, 11], [5, 6, 4, 7, 8, 9, 10, 11], [4, 5, 6, 7, 8, 9, 10, 11], [0, 0, 0, 0, 0, 1, 2, 3, 4, 5, 6, 7], [4, 5, 6, 7, 1, 2, 3, 4, 5, 6, 7, 8]⟩, ⟨[0, 1, 2, 3, 5, 6, 7, 4, 8, 9, 10, 11], [5, 6, 7, 4, 8, 9, 10, 11], [4, 5, 6, 7, 8, 9, 10, 11], [0, 0, 0, 0, 0, 1, 2, 3, 4, 5, 6, 7], [4, 5, 6, 7, 1, 2, 3, 4, 5, 6, 7, 8]⟩, ⟨[0, 1, 2, 3, 5, 7, 4, 6, 8, 9, 10, 11], [5, 7, 4, 6, 8, 9, 10, 11], [4, 5, 6, 7, 8, 9, 10, 11], [0, 0, 0, 0, 0, 1, 2, 3, 4, 5, 6, 7], [4, 5, 6, 7, 1, 2, 3, 4, 5, 6, 7, 8]⟩, ⟨[0, 1, 2, 3, 5, 7, 6, 4, 8, 9, 10, 11], [5, 7, 6, 4, 8, 9, 10, 11], [4, 5, 6, 7, 8, 9, 10, 11], [0, 0, 0, 0, 0, 1, 2, 3, 4, 5, 6, 7], [4, 5, 6, 7, 1, 2, 3, 4, 5, 6, 7, 8]⟩, ⟨[0, 1, 2, 3, 6, 4, 5, 7, 8, 9, 10, 11], [6, 4, 5, 7, 8, 9, 10, 11], [4, 5, 6, 7, 8, 9, 10, 11], [0, 0, 0, 0, 0, 1, 2, 3, 4, 5, 6, 7], [4, 5, 6, 7, 1, 2, 3, 4, 5, 6, 7, 8]⟩, ⟨[0, 1, 2, 3, 6, 4, 7, 5, 8, 9, 10, 11], [6, 4, 7, 5, 8, 9, 10, 11], [4, 5, 6, 7, 8, 9, 10, 11], [0, 0, 0, 0, 0, 1, 2, 3, 4, 5, 6, 7], [4, 5, 6, 7, 1, 2, 3, 4, 5, 6, 7, 8]⟩, ⟨[0, 1, 2, 3, 6, 5, 4, 7, 8, 9, 10, 11], [6, 5, 4, 7, 8, 9, 10, 11], [4, 5, 6, 7, 8, 9, 10, 11], [0, 0, 0, 0, 0, 1, 2, 3, 4, 5, 6, 7], [4, 5, 6, 7, 1, 2, 3, 4, 5, 6, 7, 8]⟩, ⟨[0, 1, 2, 3, 6, 5, 7, 4, 8, 9, 10, 11], [6, 5, 7, 4, 8, 9, 10, 11], [4, 5, 6, 7, 8, 9, 10, 11], [0, 0, 0, 0, 0, 1, 2, 3, 4, 5, 6, 7], [4, 5, 6, 7, 1, 2, 3, 4, 5, 6, 7, 8]⟩, ⟨[0, 1, 2, 3, 6, 7, 4, 5, 8, 9, 10, 11], [6, 7, 4, 5, 8, 9, 10, 11], [4, 5, 6, 7, 8, 9, 10, 11], [0, 0, 0, 0, 0, 1, 2, 3, 4, 5, 6, 7], [4, 5, 6, 7, 1, 2, 3, 4, 5, 6, 7, 8]⟩, ⟨[0, 1, 2, 3, 6, 7, 5, 4, 8, 9, 10, 11], [6, 7, 5, 4, 8, 9, 10, 11], [4, 5, 6, 7, 8, 9, 10, 11], [0, 0, 0, 0, 0, 1, 2, 3, 4, 5, 6, 7], [4, 5, 6, 7, 1, 2, 3, 4, 5, 6, 7, 8]⟩, ⟨[0, 1, 2, 3, 7, 4, 5, 6, 8, 9, 10, 11], [7, 4, 5, 6, 8, 9, 10, 11], [4, 5, 6, 7, 8, 9, 10, 11], [0, 0, 0, 0, 0, 1, 2, 3, 4, 5, 6, 7], [4, 5, 6, 7, 1, 2, 3, 4, 5, 6, 7, 8]⟩, ⟨[0, 1, 2, 3, 7, 4, 6, 5, 8, 9, 10, 11], [7, 4, 6, 5, 8, 9, 10, 11], [4, 5, 6, 7, 8, 9, 10, 11], [0, 0, 0, 0, 0, 1, 2, 3, 4, 5, 6, 7], [4, 5, 6, 7, 1, 2, 3, 4, 5, 6, 7, 8]⟩, ⟨[0, 1, 2, 3, 7, 5, 4, 6, 8, 9, 10, 11], [7, 5, 4, 6, 8, 9, 10, 11], [4, 5, 6, 7, 8, 9, 10, 11], [0, 0, 0, 0, 0, 1, 2, 3, 4, 5, 6, 7], [4, 5, 6, 7, 1, 2, 3, 4, 5, 6, 7, 8]⟩, ⟨[0, 1, 2, 3, 7, 5, 6, 4, 8, 9, 10, 11], [7, 5, 6, 4, 8, 9, 10, 11], [4, 5, 6, 7, 8, 9, 10, 11], [0, 0, 0, 0, 0, 1, 2, 3, 4, 5, 6, 7], [4, 5, 6, 7, 1, 2, 3, 4, 5, 6, 7, 8]⟩, ⟨[0, 1, 2, 3, 7, 6, 4, 5, 8, 9, 10, 11], [7, 6, 4, 5, 8, 9, 10, 11], [4, 5, 6, 7, 8, 9, 10, 11], [0, 0, 0, 0, 0, 1, 2, 3, 4, 5, 6, 7], [4, 5, 6, 7, 1, 2, 3, 4, 5, 6, 7, 8]⟩, ⟨[0, 1, 2, 3, 7, 6, 5, 4, 8, 9, 10, 11], [7, 6, 5, 4, 8, 9, 10, 11], [4, 5, 6, 7, 8, 9, 10, 11], [0, 0, 0, 0, 0, 1, 2, 3, 4, 5, 6, 7], [4, 5, 6, 7, 1, 2, 3, 4, 5, 6, 7, 8]⟩] ⟨?_, ?_, ?_, ?_, ?_, ?_, ?_, ?_, ?_, ?_, ?_, ?_, ?_, ?_, ?_, ?_, ?_, ?_, ?_, ?_, ?_, ?_, ?_, ?_, trivial⟩   -- region 5
    · refine DLw ?_
      refine Dp (fun _ => q_bla (fk0 ⟨rfl, rfl⟩)) ?_
      refine DLw ?_
      refine DLw ?_
      refine De2 (fun _ k_ => q_al k_) ?_
      refine De2 (fun _ k_ => q_al k_) ?_
      refine De2 (fun _ k_ => q_al k_) ?_
      refine De2 (fun _ k_ => q_al k_) ?_
      refine De20 (fun _ k_ => q_stw k_) ?_
      refine De20 (fun _ k_ => q_stw k_) ?_
      refine De20 (fun _ k_ => q_stw k_) ?_
      refine De20 (fun _ k_ => q_stw k_) ?_
      refine dend ?_
      exact sle_sub ⟨rfl, rfl, rfl, rfl, rfl, rfl, rfl, trivial⟩ rfl
    · refine DLw ?_
      refine Dp (fun _ => q_bla (fk0 ⟨rfl, rfl⟩)) ?_
      refine DLw ?_
      refine DLw ?_
      refine De2 (fun _ k_ => q_al k_) ?_
      refine De2 (fun _ k_ => q_al k_) ?_
      refine De2 (fun _ k_ => q_al k_) ?_
      refine De2 (fun _ k_ => q_al k_) ?_
      refine De20 (fun _ k_ => q_stw k_) ?_
      refine De20 (fun _ k_ => q_stw k_) ?_
      refine De20 (fun _ k_ => q_stw k_) ?_
      refine De20 (fun _ k_ => q_stw k_) ?_
      refine dend ?_
      exact sle_view [0, 1, 2, 3, 4, 5, 6, 7, 9, 8] (fun p h => absurd h (Nat.not_lt_zero _)) (by decide) ⟨rfl, rfl, rfl, rfl, rfl, rfl, rfl, trivial⟩ (Eq.symm (pl1 rfl sees_m (pl1 rfl sees_m (pl1 rfl sees_m (pl1 rfl sees_m (pl1 rfl sees_m (pl1 rfl sees_m (pl1 rfl sees_m (pl1 rfl sees_m (pl1 rfl sees_m (pl1 rfl sees_m pl0)))))))))))
    · refine DLw ?_
      refine Dp (fun _ => q_bla (fk0 ⟨rfl, rfl⟩)) ?_
      refine DLw ?_
      refine DLw ?_
      refine De2 (fun _ k_ => q_al k_) ?_
      refine De2 (fun _ k_ => q_al k_) ?_
      refine De2 (fun _ k_ => q_al k_) ?_
      refine De2 (fun _ k_ => q_al k_) ?_
      refine De20 (fun _ k_ => q_stw k_) ?_
      refine De20 (fun _ k_ => q_stw k_) ?_
      refine De20 (fun _ k_ => q_stw k_) ?_
      refine De20 (fun _ k_ => q_stw k_) ?_
      refine dend ?_
      exact sle_view [0, 1, 2, 3, 4, 5, 6, 8, 7, 9] (fun p h => absurd h (Nat.not_lt_zero _)) (by decide) ⟨rfl, rfl, rfl, rfl, rfl, rfl, rfl, trivial⟩ (Eq.symm (pl1 rfl sees_m (pl1 rfl sees_m (pl1 rfl sees_m (pl1 rfl sees_m (pl1 rfl sees_m (pl1 rfl sees_m (pl1 rfl sees_m (pl1 rfl sees_m (pl1 rfl sees_m (pl1 rfl sees_m pl0)))))))))))
    · refine DLw ?_
      refine Dp (fun _ => q_bla (fk0 ⟨rfl, rfl⟩)) ?_
      refine DLw ?_
      refine DLw ?_
      refine De2 (fun _ k_ => q_al k_) ?_
      refine De2 (fun _ k_ => q_al k_) ?_
      refine De2 (fun _ k_ => q_al k_) ?_
      refine De2 (fun _ k_ => q_al k_) ?_
      refine De20 (fun _ k_ => q_stw k_) ?_
      refine De20 (fun _ k_ => q_stw k_) ?_
      refine De20 (fun _ k_ => q_stw k_) ?_
      refine De20 (fun _ k_ => q_stw k_) ?_
      refine dend ?_
      exact sle_view [0, 1, 2, 3, 4, 5, 6, 9, 7, 8] (fun p h => absurd h (Nat.not_lt_zero _)) (by decide) ⟨rfl, rfl, rfl, rfl, rfl, rfl, rfl, trivial⟩ (Eq.symm (pl1 rfl sees_m (pl1 rfl sees_m (pl1 rfl sees_m (pl1 rfl sees_m (pl1 rfl sees_m (pl1 rfl sees_m (pl1 rfl sees_m (pl1 rfl sees_m (pl1 rfl sees_m (pl1 rfl sees_m pl0)))))))))))
    · refine DLw ?_
      refine Dp (fun _ => q_bla (fk0 ⟨rfl, rfl⟩)) ?_
      refine DLw ?_
      refine DLw ?_
      refine De2 (fun _ k_ => q_al k_) ?_
      refine De2 (fun _ k_ => q_al k_) ?_
      refine De2 (fun _ k_ => q_al k_) ?_
      refine De2 (fun _ k_ => q_al k_) ?_
      refine De20 (fun _ k_ => q_stw k_) ?_
      refine De20 (fun _ k_ => q_stw k_) ?_
      refine De20 (fun _ k_ => q_stw k_) ?_
      refine De20 (fun _ k_ => q_stw k_) ?_
      refine dend ?_
      exact sle_view [0, 1, 2, 3, 4, 5, 6, 8, 9, 7] (fun p h => absurd h (Nat.not_lt_zero _)) (by decide) ⟨rfl, rfl, rfl, rfl, rfl, rfl, rfl, trivial⟩ (Eq.symm (pl1 rfl sees_m (pl1 rfl sees_m (pl1 rfl sees_m (pl1 rfl sees_m (pl1 rfl sees_m (pl1 rfl sees_m (pl1 rfl sees_m (pl1 rfl sees_m (pl1 rfl sees_m (pl1 rfl sees_m pl0)))))))))))
    · refine DLw ?_
      refine Dp (fun _ => q_bla (fk0 ⟨rfl, rfl⟩)) ?_
      refine DLw ?_
      refine DLw ?_
      refine De2 (fun _ k_ => q_al k_) ?_
      refine De2 (fun _ k_ => q_al k_) ?_
      refine De2 (fun _ k_ => q_al k_) ?_
      refine De2 (fun _ k_ => q_al k_) ?_
      refine De20 (fun _ k_ => q_stw k_) ?_
      refine De20 (fun _ k_ => q_stw k_) ?_
      refine De20 (fun _ k_ => q_stw k_) ?_
      refine De20 (fun _ k_ => q_stw k_) ?_
      refine dend ?_
      exact sle_view [0, 1, 2, 3, 4, 5, 6, 9, 8, 7] (fun p h => absurd h (Nat.not_lt_zero _)) (by decide) ⟨rfl, rfl, rfl, rfl, rfl, rfl, rfl, trivial⟩ (Eq.symm (pl1 rfl sees_m (pl1 rfl sees_m (pl1 rfl sees_m (pl1 rfl sees_m (pl1 rfl sees_m (pl1 rfl sees_m (pl1 rfl sees_m (pl1 rfl sees_m (pl1 rfl sees_m (pl1 rfl sees_m pl0)))))))))))
    · refine DLw ?_
      refine Dp (fun _ => q_bla (fk0 ⟨rfl, rfl⟩)) ?_
      refine DLw ?_
      refine DLw ?_
      refine De2 (fun _ k_ => q_al k_) ?_
      refine De2 (fun _ k_ => q_al k_) ?_
      refine De2 (fun _ k_ => q_al k_) ?_
      refine De2 (fun _ k_ => q_al k_) ?_
      refine De20 (fun _ k_ => q_stw k_) ?_
      refine De20 (fun _ k_ => q_stw k_) ?_
      refine De20 (fun _ k_ => q_stw k_) ?_
      refine De20 (fun _ k_ => q_stw k_) ?_
      refine dend ?_
      exact sle_view [0, 1, 2, 3, 4, 5, 7, 6, 8, 9] (fun p h => absurd h (Nat.not_lt_zero _)) (by decide) ⟨rfl, rfl, rfl, rfl, rfl, rfl, rfl, trivial⟩ (Eq.symm (pl1 rfl sees_m (pl1 rfl sees_m (pl1 rfl sees_m (pl1 rfl sees_m (pl1 rfl sees_m (pl1 rfl sees_m (pl1 rfl sees_m (pl1 rfl sees_m (pl1 rfl sees_m (pl1 rfl sees_m pl0)))))))))))
    · refine DLw ?_
      refine Dp (fun _ => q_bla (fk0 ⟨rfl, rfl⟩)) ?_
      refine DLw ?_
      refine DLw ?_
      refine De2 (fun _ k_ => q_al k_) ?_
      refine De2 (fun _ k_ => q_al k_) ?_
      refine De2 (fun _ k_ => q_al k_) ?_
      refine De2 (fun _ k_ => q_al k_) ?_
      refine De20 (fun _ k_ => q_stw k_) ?_
      refine De20 (fun _ k_ => q_stw k_) ?_
      refine De20 (fun _ k_ => q_stw k_) ?_
      refine De20 (fun _ k_ => q_stw k_) ?_
      refine dend ?_
      exact sle_view [0, 1, 2, 3, 4, 5, 7, 6, 9, 8] (fun p h => absurd h (Nat.not_lt_zero _)) (by decide) ⟨rfl, rfl, rfl, rfl, rfl, rfl, rfl, trivial⟩ (Eq.symm (pl1 rfl sees_m (pl1 rfl sees_m (pl1 rfl sees_m (pl1 rfl sees_m (pl1 rfl sees_m (pl1 rfl sees_m (pl1 rfl sees_m (pl1 rfl sees_m (pl1 rfl sees_m (pl1 rfl sees_m pl0)))))))))))
    · refine DLw ?_
      refine Dp (fun _ => q_bla (fk0 ⟨rfl, rfl⟩)) ?_
      refine DLw ?_
      refine DLw ?_
      refine De2 (fun _ k_ => q_al k_) ?_
      refine De2 (fun _ k_ => q_al k_) ?_
      refine De2 (fun _ k_ => q_al k_) ?_
      refine De2 (fun _ k_ => q_al k_) ?_
      refine De20 (fun _ k_ => q_stw k_) ?_
      refine De20 (fun _ k_ => q_stw k_) ?_
      refine De20 (fun _ k_ => q_stw k_) ?_
      refine De20 (fun _ k_ => q_stw k_) ?_
      refine dend ?_
      exact sle_view [0, 1, 2, 3, 4, 5, 8, 6, 7, 9] (fun p h => absurd h (Nat.not_lt_zero _)) (by decide) ⟨rfl, rfl, rfl, rfl, rfl, rfl, rfl, trivial⟩ (Eq.symm (pl1 rfl sees_m (pl1 rfl sees_m (pl1 rfl sees_m (pl1 rfl sees_m (pl1 rfl sees_m (pl1 rfl sees_m (pl1 rfl sees_m (pl1 rfl sees_m (pl1 rfl sees_m (pl1 rfl sees_m pl0)))))))))))
    · refine DLw ?_
      refine Dp (fun _ => q_bla (fk0 ⟨rfl, rfl⟩)) ?_
      refine DLw ?_
      refine DLw ?_
      refine De2 (fun _ k_ => q_al k_) ?_
      refine De2 (fun _ k_ => q_al k_) ?_
      refine De2 (fun _ k_ => q_al k_) ?_
      refine De2 (fun _ k_ => q_al k_) ?_
      refine De20 (fun _ k_ => q_stw k_) ?_
      refine De20 (fun _ k_ => q_stw k_) ?_
      refine De20 (fun _ k_ => q_stw k_) ?_
      refine De20 (fun _ k_ => q_stw k_) ?_
      refine dend ?_
      exact sle_view [0, 1, 2, 3, 4, 5, 9, 6, 7, 8] (fun p h => absurd h (Nat.not_lt_zero _)) (by decide) ⟨rfl, rfl, rfl, rfl, rfl, rfl, rfl, trivial⟩ (Eq.symm (pl1 rfl sees_m (pl1 rfl sees_m (pl1 rfl sees_m (pl1 rfl sees_m (pl1 rfl sees_m (pl1 rfl sees_m (pl1 rfl sees_m (pl1 rfl sees_m (pl1 rfl sees_m (pl1 rfl sees_m pl0)))))))))))
    · refine DLw ?_
      refine Dp (fun _ => q_bla (fk0 ⟨rfl, rfl⟩)) ?_
      refine DLw ?_
      refine DLw ?_
      refine De2 (fun _ k_ => q_al k_) ?_
      refine De2 (fun _ k_ => q_al k_) ?_
      refine De2 (fun _ k_ => q_al k_) ?_
      refine De2 (fun _ k_ => q_al k_) ?_
      refine De20 (fun _ k_ => q_stw k_) ?_
      refine De20 (fun _ k_ => q_stw k_) ?_
      refine De20 (fun _ k_ => q_stw k_) ?_
      refine De20 (fun _ k_ => q_stw k_) ?_
      refine dend ?_
      exact sle_view [0, 1, 2, 3, 4, 5, 8, 6, 9, 7] (fun p h => absurd h (Nat.not_lt_zero _)) (by decide) ⟨rfl, rfl, rfl, rfl, rfl, rfl, rfl, trivial⟩ (Eq.symm (pl1 rfl sees_m (pl1 rfl sees_m (pl1 rfl sees_m (pl1 rfl sees_m (pl1 rfl sees_m (pl1 rfl sees_m (pl1 rfl sees_m (pl1 rfl sees_m (pl1 rfl sees_m (pl1 rfl sees_m pl0)))))))))))
    · refine DLw ?_
      refine Dp (fun _ => q_bla (fk0 ⟨rfl, rfl⟩)) ?_
      refine DLw ?_
      refine DLw ?_
      refine De2 (fun _ k_ => q_al k_) ?_
      refine De2 (fun _ k_ => q_al k_) ?_
      refine De2 (fun _ k_ => q_al k_) ?_
      refine De2 (fun _ k_ => q_al k_) ?_
      refine De20 (fun _ k_ => q_stw k_) ?_
      refine De20 (fun _ k_ => q_stw k_) ?_
      refine De20 (fun _ k_ => q_stw k_) ?_
      refine De20 (fun _ k_ => q_stw k_) ?_
      refine dend ?_
      exact sle_view [0, 1, 2, 3, 4, 5, 9, 6, 8, 7] (fun p h => absurd h (Nat.not_lt_zero _)) (by decide) ⟨rfl, rfl, rfl, rfl, rfl, rfl, rfl, trivial⟩ (Eq.symm (pl1 rfl sees_m (pl1 rfl sees_m (pl1 rfl sees_m (pl1 rfl sees_m (pl1 rfl sees_m (pl1 rfl sees_m (pl1 rfl sees_m (pl1 rfl sees_m (pl1 rfl sees_m (pl1 rfl sees_m pl0)))))))))))
    · refine DLw ?_
      refine Dp (fun _ => q_bla (fk0 ⟨rfl, rfl⟩)) ?_
      refine DLw ?_
      refine DLw ?_
      refine De2 (fun _ k_ => q_al k_) ?_
      refine De2 (fun _ k_ => q_al k_) ?_
      refine De2 (fun _ k_ => q_al k_) ?_
      refine De2 (fun _ k_ => q_al k_) ?_
      refine De20 (fun _ k_ => q_stw k_) ?_
      refine De20 (fun _ k_ => q_stw k_) ?_
      refine De20 (fun _ k_ => q_stw k_) ?_
      refine De20 (fun _ k_ => q_stw k_) ?_
      refine dend ?_
      exact sle_view [0, 1, 2, 3, 4, 5, 7, 8, 6, 9] (fun p h => absurd h (Nat.not_lt_zero _)) (by decide) ⟨rfl, rfl, rfl, rfl, rfl, rfl, rfl, trivial⟩ (Eq.symm (pl1 rfl sees_m (pl1 rfl sees_m (pl1 rfl sees_m (pl1 rfl sees_m (pl1 rfl sees_m (pl1 rfl sees_m (pl1 rfl sees_m (pl1 rfl sees_m (pl1 rfl sees_m (pl1 rfl sees_m pl0)))))))))))
    · refine DLw ?_
      refine Dp (fun _ => q_bla (fk0 ⟨rfl, rfl⟩)) ?_
      refine DLw ?_
      refine DLw ?_
      refine De2 (fun _ k_ => q_al k_) ?_
      refine De2 (fun _ k_ => q_al k_) ?_
      refine De2 (fun _ k_ => q_al k_) ?_
      refine De2 (fun _ k_ => q_al k_) ?_
      refine De20 (fun _ k_ => q_stw k_) ?_
      refine De20 (fun _ k_ => q_stw k_) ?_
      refine De20 (fun _ k_ => q_stw k_) ?_
      refine De20 (fun _ k_ => q_stw k_) ?_
      refine dend ?_
      exact sle_view [0, 1, 2, 3, 4, 5, 7, 9, 6, 8] (fun p h => absurd h (Nat.not_lt_zero _)) (by decide) ⟨rfl, rfl, rfl, rfl, rfl, rfl, rfl, trivial⟩ (Eq.symm (pl1 rfl sees_m (pl1 rfl sees_m (pl1 rfl sees_m (pl1 rfl sees_m (pl1 rfl sees_m (pl1 rfl sees_m (pl1 rfl sees_m (pl1 rfl sees_m (pl1 rfl sees_m (pl1 rfl sees_m pl0)))))))))))
    · refine DLw ?_
      refine Dp (fun _ => q_bla (fk0 ⟨rfl, rfl⟩)) ?_
      refine DLw ?_
      refine DLw ?_
      refine De2 (fun _ k_ => q_al k_) ?_
      refine De2 (fun _ k_ => q_al k_) ?_
      refine De2 (fun _ k_ => q_al k_) ?_
      refine De2 (fun _ k_ => q_al k_) ?_
      refine De20 (fun _ k_ => q_stw k_) ?_
      refine De20 (fun _ k_ => q_stw k_) ?_
      refine De20 (fun _ k_ => q_stw k_) ?_
      refine De20 (fun _ k_ => q_stw k_) ?_
      refine dend ?_
      exact sle_view [0, 1, 2, 3, 4, 5, 8, 7, 6, 9] (fun p h => absurd h (Nat.not_lt_zero _)) (by decide) ⟨rfl, rfl, rfl, rfl, rfl, rfl, rfl, trivial⟩ (Eq.symm (pl1 rfl sees_m (pl1 rfl sees_m (pl1 rfl sees_m (pl1 rfl sees_m (pl1 rfl sees_m (pl1 rfl sees_m (pl1 rfl sees_m (pl1 rfl sees_m (pl1 rfl sees_m (pl1 rfl sees_m pl0)))))))))))
    · refine DLw ?_
      refine Dp (fun _ => q_bla (fk0 ⟨rfl, rfl⟩)) ?_
      refine DLw ?_
      refine DLw ?_
      refine De2 (fun _ k_ => q_al k_) ?_
      refine De2 (fun _ k_ => q_al k_) ?_
      refine De2 (fun _ k_ => q_al k_) ?_
      refine De2 (fun _ k_ => q_al k_) ?_
      refine De20 (fun _ k_ => q_stw k_) ?_
      refine De20 (fun _ k_ => q_stw k_) ?_
      refine De20 (fun _ k_ => q_stw k_) ?_
      refine De20 (fun _ k_ => q_stw k_) ?_
      refine dend ?_
      exact sle_view [0, 1, 2, 3, 4, 5, 9, 7, 6, 8] (fun p h => absurd h (Nat.not_lt_zero _)) (by decide) ⟨rfl, rfl, rfl, rfl, rfl, rfl, rfl, trivial⟩ (Eq.symm (pl1 rfl sees_m (pl1 rfl sees_m (pl1 rfl sees_m (pl1 rfl sees_m (pl1 rfl sees_m (pl1 rfl sees_m (pl1 rfl sees_m (pl1 rfl sees_m (pl1 rfl sees_m (pl1 rfl sees_m pl0)))))))))))
    · refine DLw ?_
      refine Dp (fun _ => q_bla (fk0 ⟨rfl, rfl⟩)) ?_
      refine DLw ?_
      refine DLw ?_
      refine De2 (fun _ k_ => q_al k_) ?_
      refine De2 (fun _ k_ => q_al k_) ?_
      refine De2 (fun _ k_ => q_al k_) ?_
      refine De2 (fun _ k_ => q_al k_) ?_
      refine De20 (fun _ k_ => q_stw k_) ?_
      refine De20 (fun _ k_ => q_stw k_) ?_
      refine De20 (fun _ k_ => q_stw k_) ?_
      refine De20 (fun _ k_ => q_stw k_) ?_
      refine dend ?_
      exact sle_view [0, 1, 2, 3, 4, 5, 8, 9, 6, 7] (fun p h => absurd h (Nat.not_lt_zero _)) (by decide) ⟨rfl, rfl, rfl, rfl, rfl, rfl, rfl, trivial⟩ (Eq.symm (pl1 rfl sees_m (pl1 rfl sees_m (pl1 rfl sees_m (pl1 rfl sees_m (pl1 rfl sees_m (pl1 rfl sees_m (pl1 rfl sees_m (pl1 rfl sees_m (pl1 rfl sees_m (pl1 rfl sees_m pl0)))))))))))
    · refine DLw ?_
      refine Dp (fun _ => q_bla (fk0 ⟨rfl, rfl⟩)) ?_
      refine DLw ?_
      refine DLw ?_
      refine De2 (fun _ k_ => q_al k_) ?_
      refine De2 (fun _ k_ => q_al k_) ?_
      refine De2 (fun _ k_ => q_al k_) ?_
      refine De2 (fun _ k_ => q_al k_) ?_
      refine De20 (fun _ k_ => q_stw k_) ?_
      refine De20 (fun _ k_ => q_stw k_) ?_
      refine De20 (fun _ k_ => q_stw k_) ?_
      refine De20 (fun _ k_ => q_stw k_) ?_
      refine dend ?_
      exact sle_view [0, 1, 2, 3, 4, 5, 9, 8, 6, 7] (fun p h => absurd h (Nat.not_lt_zero _)) (by decide) ⟨rfl, rfl, rfl, rfl, rfl, rfl, rfl, trivial⟩ (Eq.symm (pl1 rfl sees_m (pl1 rfl sees_m (pl1 rfl sees_m (pl1 rfl sees_m (pl1 rfl sees_m (pl1 rfl sees_m (pl1 rfl sees_m (pl1 rfl sees_m (pl1 rfl sees_m (pl1 rfl sees_m pl0)))))))))))
    · refine DLw ?_
      refine Dp (fun _ => q_bla (fk0 ⟨rfl, rfl⟩)) ?_
      refine DLw ?_
      refine DLw ?_
      refine De2 (fun _ k_ => q_al k_) ?_
      refine De2 (fun _ k_ => q_al k_) ?_
      refine De2 (fun _ k_ => q_al k_) ?_
      refine De2 (fun _ k_ => q_al k_) ?_
      refine De20 (fun _ k_ => q_stw k_) ?_
      refine De20 (fun _ k_ => q_stw k_) ?_
      refine De20 (fun _ k_ => q_stw k_) ?_
      refine De20 (fun _ k_ => q_stw k_) ?_
      refine dend ?_
      exact sle_view [0, 1, 2, 3, 4, 5, 7, 8, 9, 6] (fun p h => absurd h (Nat.not_lt_zero _)) (by decide) ⟨rfl, rfl, rfl, rfl, rfl, rfl, rfl, trivial⟩ (Eq.symm (pl1 rfl sees_m (pl1 rfl sees_m (pl1 rfl sees_m (pl1 rfl sees_m (pl1 rfl sees_m (pl1 rfl sees_m (pl1 rfl sees_m (pl1 rfl sees_m (pl1 rfl sees_m (pl1 rfl sees_m pl0)))))))))))
    · refine DLw ?_
      refine Dp (fun _ => q_bla (fk0 ⟨rfl, rfl⟩)) ?_
      refine DLw ?_
      refine DLw ?_
      refine De2 (fun _ k_ => q_al k_) ?_
      refine De2 (fun _ k_ => q_al k_) ?_
      refine De2 (fun _ k_ => q_al k_) ?_
      refine De2 (fun _ k_ => q_al k_) ?_
      refine De20 (fun _ k_ => q_stw k_) ?_
      refine De20 (fun _ k_ => q_stw k_) ?_
      refine De20 (fun _ k_ => q_stw k_) ?_
      refine De20 (fun _ k_ => q_stw k_) ?_
      refine dend ?_
      exact sle_view [0, 1, 2, 3, 4, 5, 7, 9, 8, 6] (fun p h => absurd h (Nat.not_lt_zero _)) (by decide) ⟨rfl, rfl, rfl, rfl, rfl, rfl, rfl, trivial⟩ (Eq.symm (pl1 rfl sees_m (pl1 rfl sees_m (pl1 rfl sees_m (pl1 rfl sees_m (pl1 rfl sees_m (pl1 rfl sees_m (pl1 rfl sees_m (pl1 rfl sees_m (pl1 rfl sees_m (pl1 rfl sees_m pl0)))))))))))
    · refine DLw ?_
      refine Dp (fun _ => q_bla (fk0 ⟨rfl, rfl⟩)) ?_
      refine DLw ?_
      refine DLw ?_
      refine De2 (fun _ k_ => q_al k_) ?_
      refine De2 (fun _ k_ => q_al k_) ?_
      refine De2 (fun _ k_ => q_al k_) ?_
      refine De2 (fun _ k_ => q_al k_) ?_
      refine De20 (fun _ k_ => q_stw k_) ?_
      refine De20 (fun _ k_ => q_stw k_) ?_
      refine De20 (fun _ k_ => q_stw k_) ?_
      refine De20 (fun _ k_ => q_stw k_) ?_
      refine dend ?_
      exact sle_view [0, 1, 2, 3, 4, 5, 8, 7, 9, 6] (fun p h => absurd h (Nat.not_lt_zero _)) (by decide) ⟨rfl, rfl, rfl, rfl, rfl, rfl, rfl, trivial⟩ (Eq.symm (pl1 rfl sees_m (pl1 rfl sees_m (pl1 rfl sees_m (pl1 rfl sees_m (pl1 rfl sees_m (pl1 rfl sees_m (pl1 rfl sees_m (pl1 rfl sees_m (pl1 rfl sees_m (pl1 rfl sees_m pl0)))))))))))
    · refine DLw ?_
      refine Dp (fun _ => q_bla (fk0 ⟨rfl, rfl⟩)) ?_
      refine DLw ?_
      refine DLw ?_
      refine De2 (fun _ k_ => q_al k_) ?_
      refine De2 (fun _ k_ => q_al k_) ?_
      refine De2 (fun _ k_ => q_al k_) ?_
      refine De2 (fun _ k_ => q_al k_) ?_
      refine De20 (fun _ k_ => q_stw k_) ?_
      refine De20 (fun _ k_ => q_stw k_) ?_
      refine De20 (fun _ k_ => q_stw k_) ?_
      refine De20 (fun _ k_ => q_stw k_) ?_
      refine dend ?_
      exact sle_view [0, 1, 2, 3, 4, 5, 9, 7, 8, 6] (fun p h => absurd h (Nat.not_lt_zero _)) (by decide) ⟨rfl, rfl, rfl, rfl, rfl, rfl, rfl, trivial⟩ (Eq.symm (pl1 rfl sees_m (pl1 rfl sees_m (pl1 rfl sees_m (pl1 rfl sees_m (pl1 rfl sees_m (pl1 rfl sees_m (pl1 rfl sees_m (pl1 rfl sees_m (pl1 rfl sees_m (pl1 rfl sees_m pl0)))))))))))
    · refine DLw ?_
      refine Dp (fun _ => q_bla (fk0 ⟨rfl, rfl⟩)) ?_
      refine DLw ?_
      refine DLw ?_
      refine De2 (fun _ k_ => q_al k_) ?_
      refine De2 (fun _ k_ => q_al k_) ?_
      refine De2 (fun _ k_ => q_al k_) ?_
      refine De2 (fun _ k_ => q_al k_) ?_
      refine De20 (fun _ k_ => q_stw k_) ?_
      refine De20 (fun _ k_ => q_stw k_) ?_
      refine De20 (fun _ k_ => q_stw k_) ?_
      refine De20 (fun _ k_ => q_stw k_) ?_
      refine dend ?_
      exact sle_view [0, 1, 2, 3, 4, 5, 8, 9, 7, 6] (fun p h => absurd h (Nat.not_lt_zero _)) (by decide) ⟨rfl, rfl, rfl, rfl, rfl, rfl, rfl, trivial⟩ (Eq.symm (pl1 rfl sees_m (pl1 rfl sees_m (pl1 rfl sees_m (pl1 rfl sees_m (pl1 rfl sees_m (pl1 rfl sees_m (pl1 rfl sees_m (pl1 rfl sees_m (pl1 rfl sees_m (pl1 rfl sees_m pl0)))))))))))
    refine DLw ?_
    refine Dp (fun _ => q_bla (fk0 ⟨rfl, rfl⟩)) ?_
    refine DLw ?_
    refine DLw ?_
    refine De2 (fun _ k_ => q_al k_) ?_
    refine De2 (fun _ k_ => q_al k_) ?_
    refine De2 (fun _ k_ => q_al k_) ?_
    refine De2 (fun _ k_ => q_al k_) ?_
    refine De20 (fun _ k_ => q_stw k_) ?_
    refine De20 (fun _ k_ => q_stw k_) ?_
    refine De20 (fun _ k_ => q_stw k_) ?_
    refine De20 (fun _ k_ => q_stw k_) ?_
    refine dend ?_
    exact sle_view [0, 1, 2, 3, 4, 5, 9, 8, 7, 6] (fun p h => absurd h (Nat.not_lt_zero _)) (by decide) ⟨rfl, rfl, rfl, rfl, rfl, rfl, rfl, trivial⟩ (Eq.symm (pl1 rfl sees_m (pl1 rfl sees_m (pl1 rfl sees_m (pl1 rfl sees_m (pl1 rfl sees_m (pl1 rfl sees_m (pl1 rfl sees_m (pl1 rfl sees_m (pl1 rfl sees_m (pl1 rfl sees_m pl0)))))))))))
  refine awp_seq ?_
  refine awp_seq ?_
  refine rln ?_
  refine G (q_as (s := sc (cn 254)) ?_)
  refine gend ?_
  refine awp_block ?_
  refine awp_loop (fun i : {i : Nat // i ≤ 255} => ⟨frm 116 [(4, sc (.ptr 2 0)), (5, sc (.ptr 3 0)), (6, sc (.ptr 4 0)), (8, sc (.ptr 6 0)), (9, sc (.ptr 7 0)), (10, sc (.ptr 8 0)), (11, sc (.ptr 9 0)), (12, sc (ci (254 - (i.1 : Int))))], [some (u8s k), some (u8s x'), some (u8s (List.replicate 32 0)), some (u8s (clamp k)), some (u64s (de X)), some (u64s (de 1)), some (u64s (de (lad (bv (clamp k)) X i.1).a)), some (u64s (de (lad (bv (clamp k)) X i.1).b)), some (u64s (de (lad (bv (clamp k)) X i.1).c)), some (u64s (de (lad (bv (clamp k)) X i.1).d))]⟩) (fun i => 255 - i.1) ⟨0, Nat.zero_le _⟩ (sle_sub ⟨rfl, rfl, rfl, rfl, rfl, rfl, rfl, rfl, trivial⟩ rfl) fun i => ?_   -- live: [5, 6, 8, 9, 10, 11, 12]
  refine awp_seq ?_
  refine awp_seq ?_
  refine rln ?_
  refine Mv ?_
  refine G (q_geqi (y := 0) ?_)
  refine gend ?_
  refine cnd (fun hc1 => ?_) (fun hc1 => ?_); rotate_left
  · refine awp_exit ?_
    rw [show i.1 = 255 from (by have := i.2; omega)]
    have hfa := de_len (lad (bv (clamp k)) X 255).a
    have hfb := de_len (lad (bv (clamp k)) X 255).b
    have gI := Rn.inv_ (lad (bv (clamp k)) X 255).b
    have gF := Rn.mul_e (lad (bv (clamp k)) X 255).a (inv (lad (bv (clamp k)) X 255).b)
    have gB := Rn.bytes_ (ladder (bv (clamp k)) X).val
    have hB := by32_len (ladder (bv (clamp k)) X).val
    rw [show (lad (bv (clamp k)) X 255).a * inv (lad (bv (clamp k)) X 255).b = ladder (bv (clamp k)) X from rfl] at gF
    refine awp_seq ?_
    refine rdln [2, 3, 4, 5] [0, 0, 0, 1, 2, 3] [1, 0, 1, 2, 3, 4] ?_
    refine DLw ?_
    refine DLw ?_
    refine De2 (fun _ k_ => q_callp (gI) k_) ?_
    refine De2 (fun _ k_ => q_callp (gF) k_) ?_
    refine De2 (fun _ k_ => q_callp (gB) k_) ?_
    refine De20 (fun _ k_ => q_stw k_) ?_
    refine dend ?_
    refine awp_ret ?_
    exact fpc (t := 23) (a := 4) (hn := by exact (mapc_length ..).trans hB)
  refine awp_skip ?_
  have hi4 : i.1 ≤ 254 := by omega
  obtain ⟨s, hs⟩ : ∃ s, lswap ((bv (clamp k)).testBit (254 - i.1)) (lad (bv (clamp k)) X i.1) = s := ⟨_, rfl⟩
  have hl1 : lad (bv (clamp k)) X (i.1 + 1) = lswap ((bv (clamp k)).testBit (254 - i.1)) (lstep X s) := by rw [← hs]; rfl
  obtain ⟨sum, h_sum⟩ : ∃ z, s.a + s.b = z := ⟨_, rfl⟩
  have hl_sum := de_len sum
  obtain ⟨dif, h_dif⟩ : ∃ z, s.a - s.b = z := ⟨_, rfl⟩
  have hl_dif := de_len dif
  obtain ⟨u, h_u⟩ : ∃ z, sum * sum = z := ⟨_, rfl⟩
  have hl_u := de_len u
  obtain ⟨v, h_v⟩ : ∃ z, dif * dif = z := ⟨_, rfl⟩
  have hl_v := de_len v
  obtain ⟨e, h_e⟩ : ∃ z, u - v = z := ⟨_, rfl⟩
  have hl_e := de_len e
  obtain ⟨mm, h_mm⟩ : ∃ z, (s.c + s.d) * dif = z := ⟨_, rfl⟩
  have hl_mm := de_len mm
  obtain ⟨nn, h_nn⟩ : ∃ z, (s.c - s.d) * sum = z := ⟨_, rfl⟩
  have hl_nn := de_len nn
  obtain ⟨pp, h_pp⟩ : ∃ z, mm + nn = z := ⟨_, rfl⟩
  have hl_pp := de_len pp
  obtain ⟨qq, h_qq⟩ : ∃ z, mm - nn = z := ⟨_, rfl⟩
  have hl_qq := de_len qq
  have q1 := Rn.add_e s.a s.b
  rw [h_sum] at q1
  have q2 := Rn.sub_e s.a s.b
  rw [h_dif] at q2
  have q3 := Rn.mul_e sum sum
  rw [h_u] at q3
  have q4 := Rn.mul_e dif dif
  rw [h_v] at q4
  have q5 := Rn.sub_e u v
  rw [h_e] at q5
  have q6 := Rn.mul_e (s.c + s.d) dif
  rw [h_mm] at q6
  have q7 := Rn.mul_e (s.c - s.d) sum
  rw [h_nn] at q7
  have q8 := Rn.add_e mm nn
  rw [h_pp] at q8
  have q9 := Rn.sub_e mm nn
  rw [h_qq] at q9
  have hl2 : lstep X s = ⟨u * v, e * (u + 121665 * e), pp * pp, X * (qq * qq)⟩ := by subst h_qq h_pp h_nn h_mm h_e h_v h_u h_dif h_sum; rfl
  rw [hl2] at hl1
  have k0 := de_len (s.a)
  have k1 := de_len (s.b)
  have k2 := de_len (s.c)
  have k3 := de_len (s.d)
  have k4 := de_len (u * v)
  have k5 := de_len (e * (u + 121665 * e))
  have k6 := de_len (pp * pp)
  have k7 := de_len (X * (qq * qq))
  have k8 := de_len (qq * qq)
  have k9 := de_len ((lad (bv (clamp k)) X i.1).a)
  have k10 := de_len ((lad (bv (clamp k)) X i.1).b)
  have k11 := de_len ((lad (bv (clamp k)) X i.1).c)
  have k12 := de_len ((lad (bv (clamp k)) X i.1).d)
  refine retell [(4, sc (.ptr 2 0)), (5, sc (.ptr 3 0)), (6, sc (.ptr 4 0)), (8, sc (.ptr 6 0)), (9, sc (.ptr 7 0)), (10, sc (.ptr 8 0)), (11, sc (.ptr 9 0)), (12, sc (cn (254 - i.1)))] ?_ ⟨rfl, rfl, rfl, rfl, rfl, rfl, rfl, congrArg (fun z => sc (ci z)) (by omega), trivial⟩
  refine awp_seq ?_
  refine awp_block ?_
  refine awp_mid ⟨frm 116 [(4, sc (.ptr 2 0)), (5, sc (.ptr 3 0)), (6, sc (.ptr 4 0)), (8, sc (.ptr 6 0)), (9, sc (.ptr 7 0)), (10, sc (.ptr 8 0)), (11, sc (.ptr 9 0)), (12, sc (cn (254 - i.1))), (13, sc (.bool ((bv (clamp k)).testBit (254 - i.1))))], [some (u8s k), some (u8s x'), some (u8s (List.replicate 32 0)), some (u8s (clamp k)), some (u64s (de X)), some (u64s (de 1)), some (u64s (de (lad (bv (clamp k)) X i.1).a)), some (u64s (de (lad (bv (clamp k)) X i.1).b)), some (u64s (de (lad (bv (clamp k)) X i.1).c)), some (u64s (de (lad (bv (clamp k)) X i.1).d))]⟩ ?_ ?_
  · refine rln ?_
    refine Mv ?_
    refine G (q_quon (y := 8) ?_)
    refine G (q_ixp1 ?_)
    refine G (q_ldp ?_)
    refine Mv ?_
    refine G (q_remn (y := 8) ?_)
    refine G (q_cv0_64 ?_)
    refine G (q_shr8_64 ?_)
    refine G (q_rem8 (y := 2) ?_ (hz := by decide))
    refine G (q_eql8 (y := 1) ?_)
    refine As ?_
    refine gend ?_
    exact sle_sub ⟨rfl, rfl, rfl, rfl, rfl, rfl, rfl, rfl, congrArg (fun b => sc (.bool b)) (rbitB (clamp k) (254 - i.1) (by omega)), trivial⟩ rfl
  refine awp_mid ⟨frm 116 [(4, sc (.ptr 2 0)), (5, sc (.ptr 3 0)), (6, sc (.ptr 4 0)), (8, sc (.ptr 6 0)), (9, sc (.ptr 7 0)), (10, sc (.ptr 8 0)), (11, sc (.ptr 9 0)), (12, sc (cn (254 - i.1))), (13, sc (.bool ((bv (clamp k)).testBit (254 - i.1))))], [some (u8s k), some (u8s x'), some (u8s (List.replicate 32 0)), some (u8s (clamp k)), some (u64s (de X)), some (u64s (de 1)), some (u64s (de s.a)), some (u64s (de s.b)), some (u64s (de s.c)), some (u64s (de s.d))]⟩ ?_ ?_
  · refine awp_seq ?_
    refine rln ?_
    refine Mv ?_
    refine gend ?_
    refine cndb (fun hc2 => ?_) (fun hc2 => ?_)
    · refine rdln [4, 5, 6, 7] [0, 0, 0, 0, 0, 1, 2, 3] [0, 1, 0, 0, 1, 2, 3, 4] ?_
      refine DLw ?_
      refine DLw ?_
      refine DLw ?_
      refine DLw ?_
      refine De20 (fun _ k_ => q_stw k_) ?_
      refine De20 (fun _ k_ => q_stw k_) ?_
      refine De20 (fun _ k_ => q_stw k_) ?_
      refine De20 (fun _ k_ => q_stw k_) ?_
      refine dend ?_
      exact sle_sub ⟨rfl, rfl, rfl, rfl, rfl, rfl, rfl, rfl, rfl, trivial⟩ (by first | (rw [← hs, show (bv (clamp k)).testBit (254 - i.1) = true from by assumption]; rfl) | (rw [← hs, show (bv (clamp k)).testBit (254 - i.1) = false from by assumption]; rfl))
    refine awp_skip ?_
    exact sle_sub ⟨rfl, rfl, rfl, rfl, rfl, rfl, rfl, rfl, rfl, trivial⟩ (by first | (rw [← hs, show (bv (clamp k)).testBit (254 - i.1) = true from by assumption]; rfl) | (rw [← hs, show (bv (clamp k)).testBit (254 - i.1) = false from by assumption]; rfl))
  refine awp_mid ⟨frm 116 [(4, sc (.ptr 2 0)), (5, sc (.ptr 3 0)), (6, sc (.ptr 4 0)), (8, sc (.ptr 6 0)), (9, sc (.ptr 7 0)), (10, sc (.ptr 8 0)), (11, sc (.ptr 9 0)), (12, sc (cn (254 - i.1))), (13, sc (.bool ((bv (clamp k)).testBit (254 - i.1)))), (14, sc (.ptr 10 0)), (15, sc (.ptr 11 0))], [some (u8s k), some (u8s x'), some (u8s (List.replicate 32 0)), some (u8s (clamp k)), some (u64s (de X)), some (u64s (de 1)), some (u64s (de s.a)), some (u64s (de s.b)), some (u64s (de s.c)), some (u64s (de s.d)), some (u64s (de sum)), some (u64s (de dif))]⟩ ?_ ?_
  · refine rdm [2, 5, 6, 7, 8, 9] [⟨[0, 1, 2, 3, 4, 5, 6, 7, 8, 9], [2, 5, 6, 7, 8, 9], [2, 5, 6, 7, 8, 9], [0, 0, 0, 0, 0, 1, 2, 3, 4, 5], [0, 0, 1, 1, 1, 2, 3, 4, 5, 6]⟩, ⟨[0, 1, 2, 3, 4, 5, 7, 6, 8, 9], [2, 5, 7, 6, 8, 9], [2, 5, 6, 7, 8, 9], [0, 0, 0, 0, 0, 1, 2, 3, 4, 5], [0, 0, 1, 1, 1, 2, 3, 4, 5, 6]⟩, ⟨[0, 1, 2, 3, 4, 6, 5, 7, 8, 9], [2, 6, 5, 7, 8, 9], [2, 5, 6, 7, 8, 9], [0, 0, 0, 0, 0, 1, 2, 3, 4, 5], [0, 0, 1, 2, 2, 2, 3, 4, 5, 6]⟩, ⟨[0, 1, 2, 3, 4, 6, 7, 5, 8, 9], [2, 6, 7, 5, 8, 9], [2, 5, 6, 7, 8, 9], [0, 0, 0, 0, 0, 1, 2, 3, 4, 5], [0, 0, 1, 3, 3, 2, 3, 4, 5, 6]⟩, ⟨[0, 1, 2, 3, 4, 7, 5, 6, 8, 9], [2, 7, 5, 6, 8, 9], [2, 5, 6, 7, 8, 9], [0, 0, 0, 0, 0, 1, 2, 3, 4, 5], [0, 0, 1, 2, 2, 2, 3, 4, 5, 6]⟩, ⟨[0, 1, 2, 3, 4, 7, 6, 5, 8, 9], [2, 7, 6, 5, 8, 9], [2, 5, 6, 7, 8, 9], [0, 0, 0, 0, 0, 1, 2, 3, 4, 5], [0, 0, 1, 3, 3, 2, 3, 4, 5, 6]⟩, ⟨[0, 1, 3, 4, 6, 2, 5, 7, 8, 9], [6, 2, 5, 7, 8, 9], [4, 5, 6, 7, 8, 9], [0, 0, 0, 0, 0, 1, 2, 3, 4, 5], [1, 1, 2, 2, 1, 2, 3, 4, 5, 6]⟩, ⟨[0, 1, 3, 4, 6, 2, 7, 5, 8, 9], [6, 2, 7, 5, 8, 9], [4, 5, 6, 7, 8, 9], [0, 0, 0, 0, 0, 1, 2, 3, 4, 5], [1, 1, 3, 3, 1, 2, 3, 4, 5, 6]⟩, ⟨[0, 1, 3, 4, 6, 7, 2, 5, 8, 9], [6, 7, 2, 5, 8, 9], [4, 5, 6, 7, 8, 9], [0, 0, 0, 0, 0, 1, 2, 3, 4, 5], [2, 2, 3, 3, 1, 2, 3, 4, 5, 6]⟩, ⟨[0, 1, 3, 4, 7, 2, 5, 6, 8, 9], [7, 2, 5, 6, 8, 9], [4, 5, 6, 7, 8, 9], [0, 0, 0, 0, 0, 1, 2, 3, 4, 5], [1, 1, 2, 2, 1, 2, 3, 4, 5, 6]⟩, ⟨[0, 1, 3, 4, 7, 2, 6, 5, 8, 9], [7, 2, 6, 5, 8, 9], [4, 5, 6, 7, 8, 9], [0, 0, 0, 0, 0, 1, 2, 3, 4, 5], [1, 1, 3, 3, 1, 2, 3, 4, 5, 6]⟩, ⟨[0, 1, 3, 4, 7, 6, 2, 5, 8, 9], [7, 6, 2, 5, 8, 9], [4, 5, 6, 7, 8, 9], [0, 0, 0, 0, 0, 1, 2, 3, 4, 5], [2, 2, 3, 3, 1, 2, 3, 4, 5, 6]⟩] ⟨?_, ?_, ?_, ?_, ?_, ?_, ?_, ?_, ?_, ?_, ?_, ?_, trivial⟩   -- region 12
    · refine DLw ?_
      refine DLw ?_
      refine De2 (fun _ k_ => q_callp (q1) k_) ?_
      refine DLw ?_
      refine DLw ?_
      refine De2 (fun _ k_ => q_callp (q2) k_) ?_
      refine De2 (fun _ k_ => q_al k_) ?_
      refine De2 (fun _ k_ => q_al k_) ?_
      refine De20 (fun _ k_ => q_stw k_) ?_
      refine De20 (fun _ k_ => q_stw k_) ?_
      refine dend ?_
      exact sle_sub ⟨rfl, rfl, rfl, rfl, rfl, rfl, rfl, rfl, rfl, rfl, rfl, trivial⟩ rfl
    · refine DLw ?_
      refine DLw ?_
      refine De2 (fun _ k_ => q_callp (q1) k_) ?_
      refine DLw ?_
      refine DLw ?_
      refine De2 (fun _ k_ => q_callp (q2) k_) ?_
      refine De2 (fun _ k_ => q_al k_) ?_
      refine De2 (fun _ k_ => q_al k_) ?_
      refine De20 (fun _ k_ => q_stw k_) ?_
      refine De20 (fun _ k_ => q_stw k_) ?_
      refine dend ?_
      exact sle_view [0, 1, 2, 3, 4, 5, 6, 7, 8, 9, 11, 10] (fun p h => absurd h (Nat.not_lt_zero _)) (by decide) ⟨rfl, rfl, rfl, rfl, rfl, rfl, rfl, rfl, rfl, rfl, rfl, trivial⟩ (Eq.symm (pl1 rfl sees_m (pl1 rfl sees_m (pl1 rfl sees_m (pl1 rfl sees_m (pl1 rfl sees_m (pl1 rfl sees_m (pl1 rfl sees_m (pl1 rfl sees_m (pl1 rfl sees_m (pl1 rfl sees_m (pl1 rfl sees_m (pl1 rfl sees_m pl0)))))))))))))
    · refine DLw ?_
      refine DLw ?_
      refine De2 (fun _ k_ => q_callp (q1) k_) ?_
      refine DLw ?_
      refine DLw ?_
      refine De2 (fun _ k_ => q_al k_) ?_
      refine De2 (fun _ k_ => q_callp (q2) k_) ?_
      refine De2 (fun _ k_ => q_al k_) ?_
      refine De20 (fun _ k_ => q_stw k_) ?_
      refine De20 (fun _ k_ => q_stw k_) ?_
      refine dend ?_
      exact sle_sub ⟨rfl, rfl, rfl, rfl, rfl, rfl, rfl, rfl, rfl, rfl, rfl, trivial⟩ rfl
    · refine DLw ?_
      refine DLw ?_
      refine De2 (fun _ k_ => q_callp (q1) k_) ?_
      refine DLw ?_
      refine DLw ?_
      refine De2 (fun _ k_ => q_al k_) ?_
      refine De2 (fun _ k_ => q_al k_) ?_
      refine De2 (fun _ k_ => q_callp (q2) k_) ?_
      refine De20 (fun _ k_ => q_stw k_) ?_
      refine De20 (fun _ k_ => q_stw k_) ?_
      refine dend ?_
      exact sle_sub ⟨rfl, rfl, rfl, rfl, rfl, rfl, rfl, rfl, rfl, rfl, rfl, trivial⟩ rfl
    · refine DLw ?_
      refine DLw ?_
      refine De2 (fun _ k_ => q_callp (q1) k_) ?_
      refine DLw ?_
      refine DLw ?_
      refine De2 (fun _ k_ => q_al k_) ?_
      refine De2 (fun _ k_ => q_callp (q2) k_) ?_
      refine De2 (fun _ k_ => q_al k_) ?_
      refine De20 (fun _ k_ => q_stw k_) ?_
      refine De20 (fun _ k_ => q_stw k_) ?_
      refine dend ?_
      exact sle_view [0, 1, 2, 3, 4, 5, 6, 7, 8, 9, 11, 10] (fun p h => absurd h (Nat.not_lt_zero _)) (by decide) ⟨rfl, rfl, rfl, rfl, rfl, rfl, rfl, rfl, rfl, rfl, rfl, trivial⟩ (Eq.symm (pl1 rfl sees_m (pl1 rfl sees_m (pl1 rfl sees_m (pl1 rfl sees_m (pl1 rfl sees_m (pl1 rfl sees_m (pl1 rfl sees_m (pl1 rfl sees_m (pl1 rfl sees_m (pl1 rfl sees_m (pl1 rfl sees_m (pl1 rfl sees_m pl0)))))))))))))
    · refine DLw ?_
      refine DLw ?_
      refine De2 (fun _ k_ => q_callp (q1) k_) ?_
      refine DLw ?_
      refine DLw ?_
      refine De2 (fun _ k_ => q_al k_) ?_
      refine De2 (fun _ k_ => q_al k_) ?_
      refine De2 (fun _ k_ => q_callp (q2) k_) ?_
      refine De20 (fun _ k_ => q_stw k_) ?_
      refine De20 (fun _ k_ => q_stw k_) ?_
      refine dend ?_
      exact sle_view [0, 1, 2, 3, 4, 5, 6, 7, 8, 9, 11, 10] (fun p h => absurd h (Nat.not_lt_zero _)) (by decide) ⟨rfl, rfl, rfl, rfl, rfl, rfl, rfl, rfl, rfl, rfl, rfl, trivial⟩ (Eq.symm (pl1 rfl sees_m (pl1 rfl sees_m (pl1 rfl sees_m (pl1 rfl sees_m (pl1 rfl sees_m (pl1 rfl sees_m (pl1 rfl sees_m (pl1 rfl sees_m (pl1 rfl sees_m (pl1 rfl sees_m (pl1 rfl sees_m (pl1 rfl sees_m pl0)))))))))))))
    · refine DLw ?_
      refine DLw ?_
      refine DLw ?_
      refine DLw ?_
      refine De2 (fun _ k_ => q_al k_) ?_
      refine De2 (fun _ k_ => q_callp (q1) k_) ?_
      refine De2 (fun _ k_ => q_callp (q2) k_) ?_
      refine De2 (fun _ k_ => q_al k_) ?_
      refine De20 (fun _ k_ => q_stw k_) ?_
      refine De20 (fun _ k_ => q_stw k_) ?_
      refine dend ?_
      exact sle_sub ⟨rfl, rfl, rfl, rfl, rfl, rfl, rfl, rfl, rfl, rfl, rfl, trivial⟩ rfl
    · refine DLw ?_
      refine DLw ?_
      refine DLw ?_
      refine DLw ?_
      refine De2 (fun _ k_ => q_al k_) ?_
      refine De2 (fun _ k_ => q_callp (q1) k_) ?_
      refine De2 (fun _ k_ => q_al k_) ?_
      refine De2 (fun _ k_ => q_callp (q2) k_) ?_
      refine De20 (fun _ k_ => q_stw k_) ?_
      refine De20 (fun _ k_ => q_stw k_) ?_
      refine dend ?_
      exact sle_sub ⟨rfl, rfl, rfl, rfl, rfl, rfl, rfl, rfl, rfl, rfl, rfl, trivial⟩ rfl
    · refine DLw ?_
      refine DLw ?_
      refine DLw ?_
      refine DLw ?_
      refine De2 (fun _ k_ => q_al k_) ?_
      refine De2 (fun _ k_ => q_al k_) ?_
      refine De2 (fun _ k_ => q_callp (q1) k_) ?_
      refine De2 (fun _ k_ => q_callp (q2) k_) ?_
      refine De20 (fun _ k_ => q_stw k_) ?_
      refine De20 (fun _ k_ => q_stw k_) ?_
      refine dend ?_
      exact sle_sub ⟨rfl, rfl, rfl, rfl, rfl, rfl, rfl, rfl, rfl, rfl, rfl, trivial⟩ rfl
    · refine DLw ?_
      refine DLw ?_
      refine DLw ?_
      refine DLw ?_
      refine De2 (fun _ k_ => q_al k_) ?_
      refine De2 (fun _ k_ => q_callp (q1) k_) ?_
      refine De2 (fun _ k_ => q_callp (q2) k_) ?_
      refine De2 (fun _ k_ => q_al k_) ?_
      refine De20 (fun _ k_ => q_stw k_) ?_
      refine De20 (fun _ k_ => q_stw k_) ?_
      refine dend ?_
      exact sle_view [0, 1, 2, 3, 4, 5, 6, 7, 8, 9, 11, 10] (fun p h => absurd h (Nat.not_lt_zero _)) (by decide) ⟨rfl, rfl, rfl, rfl, rfl, rfl, rfl, rfl, rfl, rfl, rfl, trivial⟩ (Eq.symm (pl1 rfl sees_m (pl1 rfl sees_m (pl1 rfl sees_m (pl1 rfl sees_m (pl1 rfl sees_m (pl1 rfl sees_m (pl1 rfl sees_m (pl1 rfl sees_m (pl1 rfl sees_m (pl1 rfl sees_m (pl1 rfl sees_m (pl1 rfl sees_m pl0)))))))))))))
    · refine DLw ?_
      refine DLw ?_
      refine DLw ?_
      refine DLw ?_
      refine De2 (fun _ k_ => q_al k_) ?_
      refine De2 (fun _ k_ => q_callp (q1) k_) ?_
      refine De2 (fun _ k_ => q_al k_) ?_
      refine De2 (fun _ k_ => q_callp (q2) k_) ?_
      refine De20 (fun _ k_ => q_stw k_) ?_
      refine De20 (fun _ k_ => q_stw k_) ?_
      refine dend ?_
      exact sle_view [0, 1, 2, 3, 4, 5, 6, 7, 8, 9, 11, 10] (fun p h => absurd h (Nat.not_lt_zero _)) (by decide) ⟨rfl, rfl, rfl, rfl, rfl, rfl, rfl, rfl, rfl, rfl, rfl, trivial⟩ (Eq.symm (pl1 rfl sees_m (pl1 rfl sees_m (pl1 rfl sees_m (pl1 rfl sees_m (pl1 rfl sees_m (pl1 rfl sees_m (pl1 rfl sees_m (pl1 rfl sees_m (pl1 rfl sees_m (pl1 rfl sees_m (pl1 rfl sees_m (pl1 rfl sees_m pl0)))))))))))))
    refine DLw ?_
    refine DLw ?_
    refine DLw ?_
    refine DLw ?_
    refine De2 (fun _ k_ => q_al k_) ?_
    refine De2 (fun _ k_ => q_al k_) ?_
    refine De2 (fun _ k_ => q_callp (q1) k_) ?_
    refine De2 (fun _ k_ => q_callp (q2) k_) ?_
    refine De20 (fun _ k_ => q_stw k_) ?_
    refine De20 (fun _ k_ => q_stw k_) ?_
    refine dend ?_
    exact sle_view [0, 1, 2, 3, 4, 5, 6, 7, 8, 9, 11, 10] (fun p h => absurd h (Nat.not_lt_zero _)) (by decide) ⟨rfl, rfl, rfl, rfl, rfl, rfl, rfl, rfl, rfl, rfl, rfl, trivial⟩ (Eq.symm (pl1 rfl sees_m (pl1 rfl sees_m (pl1 rfl sees_m (pl1 rfl sees_m (pl1 rfl sees_m (pl1 rfl sees_m (pl1 rfl sees_m (pl1 rfl sees_m (pl1 rfl sees_m (pl1 rfl sees_m (pl1 rfl sees_m (pl1 rfl sees_m pl0)))))))))))))
  refine awp_mid ⟨frm 116 [(4, sc (.ptr 2 0)), (5, sc (.ptr 3 0)), (6, sc (.ptr 4 0)), (8, sc (.ptr 6 0)), (9, sc (.ptr 7 0)), (10, sc (.ptr 8 0)), (11, sc (.ptr 9 0)), (12, sc (cn (254 - i.1))), (13, sc (.bool ((bv (clamp k)).testBit (254 - i.1)))), (14, sc (.ptr 10 0)), (15, sc (.ptr 11 0)), (16, sc (.ptr 12 0)), (17, sc (.ptr 13 0))], [some (u8s k), some (u8s x'), some (u8s (List.replicate 32 0)), some (u8s (clamp k)), some (u64s (de X)), some (u64s (de 1)), some (u64s (de s.a)), some (u64s (de s.b)), some (u64s (de s.c)), some (u64s (de s.d)), some (u64s (de sum)), some (u64s (de dif)), some (u64s (de u)), some (u64s (de v))]⟩ ?_ ?_
  · refine rdm [2, 5, 6, 7, 8, 9] [⟨[0, 1, 2, 3, 4, 5, 6, 7, 8, 9], [2, 5, 6, 7, 8, 9], [2, 5, 6, 7, 8, 9], [0, 0, 0, 0, 0, 1, 2, 3, 4, 5], [0, 0, 1, 1, 1, 2, 3, 4, 5, 6]⟩, ⟨[0, 1, 2, 3, 4, 5, 7, 6, 8, 9], [2, 5, 7, 6, 8, 9], [2, 5, 6, 7, 8, 9], [0, 0, 0, 0, 0, 1, 2, 3, 4, 5], [0, 0, 1, 1, 1, 2, 3, 4, 5, 6]⟩, ⟨[0, 1, 2, 3, 4, 6, 5, 7, 8, 9], [2, 6, 5, 7, 8, 9], [2, 5, 6, 7, 8, 9], [0, 0, 0, 0, 0, 1, 2, 3, 4, 5], [0, 0, 1, 2, 2, 2, 3, 4, 5, 6]⟩, ⟨[0, 1, 2, 3, 4, 6, 7, 5, 8, 9], [2, 6, 7, 5, 8, 9], [2, 5, 6, 7, 8, 9], [0, 0, 0, 0, 0, 1, 2, 3, 4, 5], [0, 0, 1, 3, 3, 2, 3, 4, 5, 6]⟩, ⟨[0, 1, 2, 3, 4, 7, 5, 6, 8, 9], [2, 7, 5, 6, 8, 9], [2, 5, 6, 7, 8, 9], [0, 0, 0, 0, 0, 1, 2, 3, 4, 5], [0, 0, 1, 2, 2, 2, 3, 4, 5, 6]⟩, ⟨[0, 1, 2, 3, 4, 7, 6, 5, 8, 9], [2, 7, 6, 5, 8, 9], [2, 5, 6, 7, 8, 9], [0, 0, 0, 0, 0, 1, 2, 3, 4, 5], [0, 0, 1, 3, 3, 2, 3, 4, 5, 6]⟩, ⟨[0, 1, 3, 4, 6, 2, 5, 7, 8, 9], [6, 2, 5, 7, 8, 9], [4, 5, 6, 7, 8, 9], [0, 0, 0, 0, 0, 1, 2, 3, 4, 5], [1, 1, 2, 2, 1, 2, 3, 4, 5, 6]⟩, ⟨[0, 1, 3, 4, 6, 2, 7, 5, 8, 9], [6, 2, 7, 5, 8, 9], [4, 5, 6, 7, 8, 9], [0, 0, 0, 0, 0, 1, 2, 3, 4, 5], [1, 1, 3, 3, 1, 2, 3, 4, 5, 6]⟩, ⟨[0, 1, 3, 4, 6, 7, 2, 5, 8, 9], [6, 7, 2, 5, 8, 9], [4, 5, 6, 7, 8, 9], [0, 0, 0, 0, 0, 1, 2, 3, 4, 5], [2, 2, 3, 3, 1, 2, 3, 4, 5, 6]⟩, ⟨[0, 1, 3, 4, 7, 2, 5, 6, 8, 9], [7, 2, 5, 6, 8, 9], [4, 5, 6, 7, 8, 9], [0, 0, 0, 0, 0, 1, 2, 3, 4, 5], [1, 1, 2, 2, 1, 2, 3, 4, 5, 6]⟩, ⟨[0, 1, 3, 4, 7, 2, 6, 5, 8, 9], [7, 2, 6, 5, 8, 9], [4, 5, 6, 7, 8, 9], [0, 0, 0, 0, 0, 1, 2, 3, 4, 5], [1, 1, 3, 3, 1, 2, 3, 4, 5, 6]⟩, ⟨[0, 1, 3, 4, 7, 6, 2, 5, 8, 9], [7, 6, 2, 5, 8, 9], [4, 5, 6, 7, 8, 9], [0, 0, 0, 0, 0, 1, 2, 3, 4, 5], [2, 2, 3, 3, 1, 2, 3, 4, 5, 6]⟩] ⟨?_, ?_, ?_, ?_, ?_, ?_, ?_, ?_, ?_, ?_, ?_, ?_, trivial⟩   -- region 13
    · refine DLw ?_
      refine DLw ?_
      refine De2 (fun _ k_ => q_callp (q3) k_) ?_
      refine DLw ?_
      refine DLw ?_
      refine De2 (fun _ k_ => q_callp (q4) k_) ?_
      refine De2 (fun _ k_ => q_al k_) ?_
      refine De2 (fun _ k_ => q_al k_) ?_
      refine De20 (fun _ k_ => q_stw k_) ?_
      refine De20 (fun _ k_ => q_stw k_) ?_
      refine dend ?_
      exact sle_sub ⟨rfl, rfl, rfl, rfl, rfl, rfl, rfl, rfl, rfl, rfl, rfl, rfl, rfl, trivial⟩ rfl
    · refine DLw ?_
      refine DLw ?_
      refine De2 (fun _ k_ => q_callp (q3) k_) ?_
      refine DLw ?_
      refine DLw ?_
      refine De2 (fun _ k_ => q_callp (q4) k_) ?_
      refine De2 (fun _ k_ => q_al k_) ?_
      refine De2 (fun _ k_ => q_al k_) ?_
      refine De20 (fun _ k_ => q_stw k_) ?_
      refine De20 (fun _ k_ => q_stw k_) ?_
      refine dend ?_
      exact sle_view [0, 1, 2, 3, 4, 5, 6, 7, 8, 9, 10, 11, 13, 12] (fun p h => absurd h (Nat.not_lt_zero _)) (by decide) ⟨rfl, rfl, rfl, rfl, rfl, rfl, rfl, rfl, rfl, rfl, rfl, rfl, rfl, trivial⟩ (Eq.symm (pl1 rfl sees_m (pl1 rfl sees_m (pl1 rfl sees_m (pl1 rfl sees_m (pl1 rfl sees_m (pl1 rfl sees_m (pl1 rfl sees_m (pl1 rfl sees_m (pl1 rfl sees_m (pl1 rfl sees_m (pl1 rfl sees_m (pl1 rfl sees_m (pl1 rfl sees_m (pl1 rfl sees_m pl0)))))))))))))))
    · refine DLw ?_
      refine DLw ?_
      refine De2 (fun _ k_ => q_callp (q3) k_) ?_
      refine DLw ?_
      refine DLw ?_
      refine De2 (fun _ k_ => q_al k_) ?_
      refine De2 (fun _ k_ => q_callp (q4) k_) ?_
      refine De2 (fun _ k_ => q_al k_) ?_
      refine De20 (fun _ k_ => q_stw k_) ?_
      refine De20 (fun _ k_ => q_stw k_) ?_
      refine dend ?_
      exact sle_sub ⟨rfl, rfl, rfl, rfl, rfl, rfl, rfl, rfl, rfl, rfl, rfl, rfl, rfl, trivial⟩ rfl
    · refine DLw ?_
      refine DLw ?_
      refine De2 (fun _ k_ => q_callp (q3) k_) ?_
      refine DLw ?_
      refine DLw ?_
      refine De2 (fun _ k_ => q_al k_) ?_
      refine De2 (fun _ k_ => q_al k_) ?_
      refine De2 (fun _ k_ => q_callp (q4) k_) ?_
      refine De20 (fun _ k_ => q_stw k_) ?_
      refine De20 (fun _ k_ => q_stw k_) ?_
      refine dend ?_
      exact sle_sub ⟨rfl, rfl, rfl, rfl, rfl, rfl, rfl, rfl, rfl, rfl, rfl, rfl, rfl, trivial⟩ rfl
    · refine DLw ?_
      refine DLw ?_
      refine De2 (fun _ k_ => q_callp (q3) k_) ?_
      refine DLw ?_
      refine DLw ?_
      refine De2 (fun _ k_ => q_al k_) ?_
      refine De2 (fun _ k_ => q_callp (q4) k_) ?_
      refine De2 (fun _ k_ => q_al k_) ?_
      refine De20 (fun _ k_ => q_stw k_) ?_
      refine De20 (fun _ k_ => q_stw k_) ?_
      refine dend ?_
      exact sle_view [0, 1, 2, 3, 4, 5, 6, 7, 8, 9, 10, 11, 13, 12] (fun p h => absurd h (Nat.not_lt_zero _)) (by decide) ⟨rfl, rfl, rfl, rfl, rfl, rfl, rfl, rfl, rfl, rfl, rfl, rfl, rfl, trivial⟩ (Eq.symm (pl1 rfl sees_m (pl1 rfl sees_m (pl1 rfl sees_m (pl1 rfl sees_m (pl1 rfl sees_m (pl1 rfl sees_m (pl1 rfl sees_m (pl1 rfl sees_m (pl1 rfl sees_m (pl1 rfl sees_m (pl1 rfl sees_m (pl1 rfl sees_m (pl1 rfl sees_m (pl1 rfl sees_m pl0)))))))))))))))
    · refine DLw ?_
      refine DLw ?_
      refine De2 (fun _ k_ => q_callp (q3) k_) ?_
      refine DLw ?_
      refine DLw ?_
      refine De2 (fun _ k_ => q_al k_) ?_
      refine De2 (fun _ k_ => q_al k_) ?_
      refine De2 (fun _ k_ => q_callp (q4) k_) ?_
      refine De20 (fun _ k_ => q_stw k_) ?_
      refine De20 (fun _ k_ => q_stw k_) ?_
      refine dend ?_
      exact sle_view [0, 1, 2, 3, 4, 5, 6, 7, 8, 9, 10, 11, 13, 12] (fun p h => absurd h (Nat.not_lt_zero _)) (by decide) ⟨rfl, rfl, rfl, rfl, rfl, rfl, rfl, rfl, rfl, rfl, rfl, rfl, rfl, trivial⟩ (Eq.symm (pl1 rfl sees_m (pl1 rfl sees_m (pl1 rfl sees_m (pl1 rfl sees_m (pl1 rfl sees_m (pl1 rfl sees_m (pl1 rfl sees_m (pl1 rfl sees_m (pl1 rfl sees_m (pl1 rfl sees_m (pl1 rfl sees_m (pl1 rfl sees_m (pl1 rfl sees_m (pl1 rfl sees_m pl0)))))))))))))))
    · refine DLw ?_
      refine DLw ?_
      refine DLw ?_
      refine DLw ?_
      refine De2 (fun _ k_ => q_al k_) ?_
      refine De2 (fun _ k_ => q_callp (q3) k_) ?_
      refine De2 (fun _ k_ => q_callp (q4) k_) ?_
      refine De2 (fun _ k_ => q_al k_) ?_
      refine De20 (fun _ k_ => q_stw k_) ?_
      refine De20 (fun _ k_ => q_stw k_) ?_
      refine dend ?_
      exact sle_sub ⟨rfl, rfl, rfl, rfl, rfl, rfl, rfl, rfl, rfl, rfl, rfl, rfl, rfl, trivial⟩ rfl
    · refine DLw ?_
      refine DLw ?_
      refine DLw ?_
      refine DLw ?_
      refine De2 (fun _ k_ => q_al k_) ?_
      refine De2 (fun _ k_ => q_callp (q3) k_) ?_
      refine De2 (fun _ k_ => q_al k_) ?_
      refine De2 (fun _ k_ => q_callp (q4) k_) ?_
      refine De20 (fun _ k_ => q_stw k_) ?_
      refine De20 (fun _ k_ => q_stw k_) ?_
      refine dend ?_
      exact sle_sub ⟨rfl, rfl, rfl, rfl, rfl, rfl, rfl, rfl, rfl, rfl, rfl, rfl, rfl, trivial⟩ rfl
    · refine DLw ?_
      refine DLw ?_
      refine DLw ?_
      refine DLw ?_
      refine De2 (fun _ k_ => q_al k_) ?_
      refine De2 (fun _ k_ => q_al k_) ?_
      refine De2 (fun _ k_ => q_callp (q3) k_) ?_
      refine De2 (fun _ k_ => q_callp (q4) k_) ?_
      refine De20 (fun _ k_ => q_stw k_) ?_
      refine De20 (fun _ k_ => q_stw k_) ?_
      refine dend ?_
      exact sle_sub ⟨rfl, rfl, rfl, rfl, rfl, rfl, rfl, rfl, rfl, rfl, rfl, rfl, rfl, trivial⟩ rfl
    · refine DLw ?_
      refine DLw ?_
      refine DLw ?_
      refine DLw ?_
      refine De2 (fun _ k_ => q_al k_) ?_
      refine De2 (fun _ k_ => q_callp (q3) k_) ?_
      refine De2 (fun _ k_ => q_callp (q4) k_) ?_
      refine De2 (fun _ k_ => q_al k_) ?_
      refine De20 (fun _ k_ => q_stw k_) ?_
      refine De20 (fun _ k_ => q_stw k_) ?_
      refine dend ?_
      exact sle_view [0, 1, 2, 3, 4, 5, 6, 7, 8, 9, 10, 11, 13, 12] (fun p h => absurd h (Nat.not_lt_zero _)) (by decide) ⟨rfl, rfl, rfl, rfl, rfl, rfl, rfl, rfl, rfl, rfl, rfl, rfl, rfl, trivial⟩ (Eq.symm (pl1 rfl sees_m (pl1 rfl sees_m (pl1 rfl sees_m (pl1 rfl sees_m (pl1 rfl sees_m (pl1 rfl sees_m (pl1 rfl sees_m (pl1 rfl sees_m (pl1 rfl sees_m (pl1 rfl sees_m (pl1 rfl sees_m (pl1 rfl sees_m (pl1 rfl sees_m (pl1 rfl sees_m pl0)))))))))))))))
    · refine DLw ?_
      refine DLw ?_
      refine DLw ?_
      refine DLw ?_
      refine De2 (fun _ k_ => q_al k_) ?_
      refine De2 (fun _ k_ => q_callp (q3) k_) ?_
      refine De2 (fun _ k_ => q_al k_) ?_
      refine De2 (fun _ k_ => q_callp (q4) k_) ?_
      refine De20 (fun _ k_ => q_stw k_) ?_
      refine De20 (fun _ k_ => q_stw k_) ?_
      refine dend ?_
      exact sle_view [0, 1, 2, 3, 4, 5, 6, 7, 8, 9, 10, 11, 13, 12] (fun p h => absurd h (Nat.not_lt_zero _)) (by decide) ⟨rfl, rfl, rfl, rfl, rfl, rfl, rfl, rfl, rfl, rfl, rfl, rfl, rfl, trivial⟩ (Eq.symm (pl1 rfl sees_m (pl1 rfl sees_m (pl1 rfl sees_m (pl1 rfl sees_m (pl1 rfl sees_m (pl1 rfl sees_m (pl1 rfl sees_m (pl1 rfl sees_m (pl1 rfl sees_m (pl1 rfl sees_m (pl1 rfl sees_m (pl1 rfl sees_m (pl1 rfl sees_m (pl1 rfl sees_m pl0)))))))))))))))
    refine DLw ?_
    refine DLw ?_
    refine DLw ?_
    refine DLw ?_
    refine De2 (fun _ k_ => q_al k_) ?_
    refine De2 (fun _ k_ => q_al k_) ?_
    refine De2 (fun _ k_ => q_callp (q3) k_) ?_
    refine De2 (fun _ k_ => q_callp (q4) k_) ?_
    refine De20 (fun _ k_ => q_stw k_) ?_
    refine De20 (fun _ k_ => q_stw k_) ?_
    refine dend ?_
    exact sle_view [0, 1, 2, 3, 4, 5, 6, 7, 8, 9, 10, 11, 13, 12] (fun p h => absurd h (Nat.not_lt_zero _)) (by decide) ⟨rfl, rfl, rfl, rfl, rfl, rfl, rfl, rfl, rfl, rfl, rfl, rfl, rfl, trivial⟩ (Eq.symm (pl1 rfl sees_m (pl1 rfl sees_m (pl1 rfl sees_m (pl1 rfl sees_m (pl1 rfl sees_m (pl1 rfl sees_m (pl1 rfl sees_m (pl1 rfl sees_m (pl1 rfl sees_m (pl1 rfl sees_m (pl1 rfl sees_m (pl1 rfl sees_m (pl1 rfl sees_m (pl1 rfl sees_m pl0)))))))))))))))
  refine awp_seq ?_
  refine rln ?_
  refine G (q_ldw ?_)
  refine G (q_ldw ?_)
  refine G2 (fun _ k_ => q_callp (q5) k_) ?_
  refine G2 (fun _ k_ => q_al k_) ?_
  refine G20 (fun _ k_ => q_stw k_) ?_
  refine gend ?_
  refine awp_mid ⟨frm 116 [(4, sc (.ptr 2 0)), (5, sc (.ptr 3 0)), (6, sc (.ptr 4 0)), (8, sc (.ptr 6 0)), (9, sc (.ptr 7 0)), (10, sc (.ptr 8 0)), (11, sc (.ptr 9 0)), (12, sc (cn (254 - i.1))), (13, sc (.bool ((bv (clamp k)).testBit (254 - i.1)))), (14, sc (.ptr 10 0)), (15, sc (.ptr 11 0)), (16, sc (.ptr 12 0)), (17, sc (.ptr 13 0)), (18, sc (.ptr 14 0)), (19, sc (.ptr 15 0))], [some (u8s k), some (u8s x'), some (u8s (List.replicate 32 0)), some (u8s (clamp k)), some (u64s (de X)), some (u64s (de 1)), some (u64s (de s.a)), some (u64s (de s.b)), some (u64s (de s.c)), some (u64s (de s.d)), some (u64s (de sum)), some (u64s (de dif)), some (u64s (de u)), some (u64s (de v)), some (u64s (de e)), some (u64s (de mm))]⟩ ?_ ?_
  · refine rdm [2, 4, 5, 6] [⟨[0, 1, 2, 3, 4, 5, 6], [2, 4, 5, 6], [2, 4, 5, 6], [0, 0, 0, 0, 1, 2, 3], [0, 0, 1, 1, 2, 3, 4]⟩, ⟨[0, 1, 2, 3, 5, 4, 6], [2, 5, 4, 6], [2, 4, 5, 6], [0, 0, 0, 0, 1, 2, 3], [0, 0, 1, 2, 2, 3, 4]⟩, ⟨[0, 1, 3, 5, 2, 4, 6], [5, 2, 4, 6], [3, 4, 5, 6], [0, 0, 0, 0, 1, 2, 3], [1, 1, 2, 1, 2, 3, 4]⟩] ⟨?_, ?_, ?_, trivial⟩   -- region 15
    · refine DLw ?_
      refine DLw ?_
      refine De2 (fun _ k_ => q_callp (Rn.add_e s.c s.d) k_) ?_
      refine DLw ?_
      refine De2 (fun _ k_ => q_callp (q6) k_) ?_
      refine De2 (fun _ k_ => q_al k_) ?_
      refine De20 (fun _ k_ => q_stw k_) ?_
      refine dend ?_
      exact sle_sub ⟨rfl, rfl, rfl, rfl, rfl, rfl, rfl, rfl, rfl, rfl, rfl, rfl, rfl, rfl, rfl, trivial⟩ rfl
    · refine DLw ?_
      refine DLw ?_
      refine De2 (fun _ k_ => q_callp (Rn.add_e s.c s.d) k_) ?_
      refine DLw ?_
      refine De2 (fun _ k_ => q_al k_) ?_
      refine De2 (fun _ k_ => q_callp (q6) k_) ?_
      refine De20 (fun _ k_ => q_stw k_) ?_
      refine dend ?_
      exact sle_sub ⟨rfl, rfl, rfl, rfl, rfl, rfl, rfl, rfl, rfl, rfl, rfl, rfl, rfl, rfl, rfl, trivial⟩ rfl
    refine DLw ?_
    refine DLw ?_
    refine DLw ?_
    refine De2 (fun _ k_ => q_al k_) ?_
    refine De2 (fun _ k_ => q_callp (Rn.add_e s.c s.d) k_) ?_
    refine De2 (fun _ k_ => q_callp (q6) k_) ?_
    refine De20 (fun _ k_ => q_stw k_) ?_
    refine dend ?_
    exact sle_sub ⟨rfl, rfl, rfl, rfl, rfl, rfl, rfl, rfl, rfl, rfl, rfl, rfl, rfl, rfl, rfl, trivial⟩ rfl
  refine awp_mid ⟨frm 116 [(4, sc (.ptr 2 0)), (5, sc (.ptr 3 0)), (6, sc (.ptr 4 0)), (8, sc (.ptr 6 0)), (9, sc (.ptr 7 0)), (10, sc (.ptr 8 0)), (11, sc (.ptr 9 0)), (12, sc (cn (254 - i.1))), (13, sc (.bool ((bv (clamp k)).testBit (254 - i.1)))), (14, sc (.ptr 10 0)), (15, sc (.ptr 11 0)), (16, sc (.ptr 12 0)), (17, sc (.ptr 13 0)), (18, sc (.ptr 14 0)), (19, sc (.ptr 15 0)), (20, sc (.ptr 16 0))], [some (u8s k), some (u8s x'), some (u8s (List.replicate 32 0)), some (u8s (clamp k)), some (u64s (de X)), some (u64s (de 1)), some (u64s (de s.a)), some (u64s (de s.b)), some (u64s (de s.c)), some (u64s (de s.d)), some (u64s (de sum)), some (u64s (de dif)), some (u64s (de u)), some (u64s (de v)), some (u64s (de e)), some (u64s (de mm)), some (u64s (de nn))]⟩ ?_ ?_
  · refine rdm [2, 4, 5, 6] [⟨[0, 1, 2, 3, 4, 5, 6], [2, 4, 5, 6], [2, 4, 5, 6], [0, 0, 0, 0, 1, 2, 3], [0, 0, 1, 1, 2, 3, 4]⟩, ⟨[0, 1, 2, 3, 5, 4, 6], [2, 5, 4, 6], [2, 4, 5, 6], [0, 0, 0, 0, 1, 2, 3], [0, 0, 1, 2, 2, 3, 4]⟩, ⟨[0, 1, 3, 5, 2, 4, 6], [5, 2, 4, 6], [3, 4, 5, 6], [0, 0, 0, 0, 1, 2, 3], [1, 1, 2, 1, 2, 3, 4]⟩] ⟨?_, ?_, ?_, trivial⟩   -- region 16
    · refine DLw ?_
      refine DLw ?_
      refine De2 (fun _ k_ => q_callp (Rn.sub_e s.c s.d) k_) ?_
      refine DLw ?_
      refine De2 (fun _ k_ => q_callp (q7) k_) ?_
      refine De2 (fun _ k_ => q_al k_) ?_
      refine De20 (fun _ k_ => q_stw k_) ?_
      refine dend ?_
      exact sle_sub ⟨rfl, rfl, rfl, rfl, rfl, rfl, rfl, rfl, rfl, rfl, rfl, rfl, rfl, rfl, rfl, rfl, trivial⟩ rfl
    · refine DLw ?_
      refine DLw ?_
      refine De2 (fun _ k_ => q_callp (Rn.sub_e s.c s.d) k_) ?_
      refine DLw ?_
      refine De2 (fun _ k_ => q_al k_) ?_
      refine De2 (fun _ k_ => q_callp (q7) k_) ?_
      refine De20 (fun _ k_ => q_stw k_) ?_
      refine dend ?_
      exact sle_sub ⟨rfl, rfl, rfl, rfl, rfl, rfl, rfl, rfl, rfl, rfl, rfl, rfl, rfl, rfl, rfl, rfl, trivial⟩ rfl
    refine DLw ?_
    refine DLw ?_
    refine DLw ?_
    refine De2 (fun _ k_ => q_al k_) ?_
    refine De2 (fun _ k_ => q_callp (Rn.sub_e s.c s.d) k_) ?_
    refine De2 (fun _ k_ => q_callp (q7) k_) ?_
    refine De20 (fun _ k_ => q_stw k_) ?_
    refine dend ?_
    exact sle_sub ⟨rfl, rfl, rfl, rfl, rfl, rfl, rfl, rfl, rfl, rfl, rfl, rfl, rfl, rfl, rfl, rfl, trivial⟩ rfl
  refine awp_seq ?_
  refine rln ?_
  refine G (q_ldw ?_)
  refine G (q_ldw ?_)
  refine G2 (fun _ k_ => q_callp (Rn.mul_e u v) k_) ?_
  refine G20 (fun _ k_ => q_stw k_) ?_
  refine gend ?_
  refine awp_seq ?_
  refine rdln [2, 4, 5, 6, 7] [0, 0, 0, 0, 1, 2, 3, 4] [3, 2, 1, 1, 2, 3, 4, 5] ?_
  refine DLw ?_
  refine DLw ?_
  refine De2 (fun _ k_ => q_callp (rsmall_k) k_ (ha := (cac rfl cm_int ca0))) ?_
  refine DLw ?_
  refine De2 (fun _ k_ => q_callp (Rn.mul_e 121665 e) k_) ?_
  refine De2 (fun _ k_ => q_callp (Rn.add_e u (121665 * e)) k_) ?_
  refine De2 (fun _ k_ => q_callp (Rn.mul_e e (u + 121665 * e)) k_) ?_
  refine De20 (fun _ k_ => q_stw k_) ?_
  refine dend ?_
  refine awp_mid ⟨frm 116 [(4, sc (.ptr 2 0)), (5, sc (.ptr 3 0)), (6, sc (.ptr 4 0)), (8, sc (.ptr 6 0)), (9, sc (.ptr 7 0)), (10, sc (.ptr 8 0)), (11, sc (.ptr 9 0)), (12, sc (cn (254 - i.1))), (13, sc (.bool ((bv (clamp k)).testBit (254 - i.1)))), (21, sc (.ptr 17 0)), (22, sc (.ptr 18 0))], [some (u8s k), some (u8s x'), some (u8s (List.replicate 32 0)), some (u8s (clamp k)), some (u64s (de X)), some (u64s (de 1)), some (u64s (de (u * v))), some (u64s (de (e * (u + 121665 * e)))), some (u64s (de s.c)), some (u64s (de s.d)), some (u64s (de sum)), some (u64s (de dif)), some (u64s (de u)), some (u64s (de v)), some (u64s (de e)), some (u64s (de mm)), some (u64s (de nn)), some (u64s (de pp)), some (u64s (de qq))]⟩ ?_ ?_
  · refine rdm [2, 5, 6, 7, 8, 9] [⟨[0, 1, 2, 3, 4, 5, 6, 7, 8, 9], [2, 5, 6, 7, 8, 9], [2, 5, 6, 7, 8, 9], [0, 0, 0, 0, 0, 1, 2, 3, 4, 5], [0, 0, 1, 1, 1, 2, 3, 4, 5, 6]⟩, ⟨[0, 1, 2, 3, 4, 5, 7, 6, 8, 9], [2, 5, 7, 6, 8, 9], [2, 5, 6, 7, 8, 9], [0, 0, 0, 0, 0, 1, 2, 3, 4, 5], [0, 0, 1, 1, 1, 2, 3, 4, 5, 6]⟩, ⟨[0, 1, 2, 3, 4, 6, 5, 7, 8, 9], [2, 6, 5, 7, 8, 9], [2, 5, 6, 7, 8, 9], [0, 0, 0, 0, 0, 1, 2, 3, 4, 5], [0, 0, 1, 2, 2, 2, 3, 4, 5, 6]⟩, ⟨[0, 1, 2, 3, 4, 6, 7, 5, 8, 9], [2, 6, 7, 5, 8, 9], [2, 5, 6, 7, 8, 9], [0, 0, 0, 0, 0, 1, 2, 3, 4, 5], [0, 0, 1, 3, 3, 2, 3, 4, 5, 6]⟩, ⟨[0, 1, 2, 3, 4, 7, 5, 6, 8, 9], [2, 7, 5, 6, 8, 9], [2, 5, 6, 7, 8, 9], [0, 0, 0, 0, 0, 1, 2, 3, 4, 5], [0, 0, 1, 2, 2, 2, 3, 4, 5, 6]⟩, ⟨[0, 1, 2, 3, 4, 7, 6, 5, 8, 9], [2, 7, 6, 5, 8, 9], [2, 5, 6, 7, 8, 9], [0, 0, 0, 0, 0, 1, 2, 3, 4, 5], [0, 0, 1, 3, 3, 2, 3, 4, 5, 6]⟩, ⟨[0, 1, 3, 4, 6, 2, 5, 7, 8, 9], [6, 2, 5, 7, 8, 9], [4, 5, 6, 7, 8, 9], [0, 0, 0, 0, 0, 1, 2, 3, 4, 5], [1, 1, 2, 2, 1, 2, 3, 4, 5, 6]⟩, ⟨[0, 1, 3, 4, 6, 2, 7, 5, 8, 9], [6, 2, 7, 5, 8, 9], [4, 5, 6, 7, 8, 9], [0, 0, 0, 0, 0, 1, 2, 3, 4, 5], [1, 1, 3, 3, 1, 2, 3, 4, 5, 6]⟩, ⟨[0, 1, 3, 4, 6, 7, 2, 5, 8, 9], [6, 7, 2, 5, 8, 9], [4, 5, 6, 7, 8, 9], [0, 0, 0, 0, 0, 1, 2, 3, 4, 5], [2, 2, 3, 3, 1, 2, 3, 4, 5, 6]⟩, ⟨[0, 1, 3, 4, 7, 2, 5, 6, 8, 9], [7, 2, 5, 6, 8, 9], [4, 5, 6, 7, 8, 9], [0, 0, 0, 0, 0, 1, 2, 3, 4, 5], [1, 1, 2, 2, 1, 2, 3, 4, 5, 6]⟩, ⟨[0, 1, 3, 4, 7, 2, 6, 5, 8, 9], [7, 2, 6, 5, 8, 9], [4, 5, 6, 7, 8, 9], [0, 0, 0, 0, 0, 1, 2, 3, 4, 5], [1, 1, 3, 3, 1, 2, 3, 4, 5, 6]⟩, ⟨[0, 1, 3, 4, 7, 6, 2, 5, 8, 9], [7, 6, 2, 5, 8, 9], [4, 5, 6, 7, 8, 9], [0, 0, 0, 0, 0, 1, 2, 3, 4, 5], [2, 2, 3, 3, 1, 2, 3, 4, 5, 6]⟩] ⟨?_, ?_, ?_, ?_, ?_, ?_, ?_, ?_, ?_, ?_, ?_, ?_, trivial⟩   -- region 19
    · refine DLw ?_
      refine DLw ?_
      refine De2 (fun _ k_ => q_callp (q8) k_) ?_
      refine DLw ?_
      refine DLw ?_
      refine De2 (fun _ k_ => q_callp (q9) k_) ?_
      refine De2 (fun _ k_ => q_al k_) ?_
      refine De2 (fun _ k_ => q_al k_) ?_
      refine De20 (fun _ k_ => q_stw k_) ?_
      refine De20 (fun _ k_ => q_stw k_) ?_
      refine dend ?_
      exact sle_sub ⟨rfl, rfl, rfl, rfl, rfl, rfl, rfl, rfl, rfl, rfl, rfl, trivial⟩ rfl
    · refine DLw ?_
      refine DLw ?_
      refine De2 (fun _ k_ => q_callp (q8) k_) ?_
      refine DLw ?_
      refine DLw ?_
      refine De2 (fun _ k_ => q_callp (q9) k_) ?_
      refine De2 (fun _ k_ => q_al k_) ?_
      refine De2 (fun _ k_ => q_al k_) ?_
      refine De20 (fun _ k_ => q_stw k_) ?_
      refine De20 (fun _ k_ => q_stw k_) ?_
      refine dend ?_
      exact sle_view [0, 1, 2, 3, 4, 5, 6, 7, 8, 9, 10, 11, 12, 13, 14, 15, 16, 18, 17] (fun p h => absurd h (Nat.not_lt_zero _)) (by decide) ⟨rfl, rfl, rfl, rfl, rfl, rfl, rfl, rfl, rfl, rfl, rfl, trivial⟩ (Eq.symm (pl1 rfl sees_m (pl1 rfl sees_m (pl1 rfl sees_m (pl1 rfl sees_m (pl1 rfl sees_m (pl1 rfl sees_m (pl1 rfl sees_m (pl1 rfl sees_m (pl1 rfl sees_m (pl1 rfl sees_m (pl1 rfl sees_m (pl1 rfl sees_m (pl1 rfl sees_m (pl1 rfl sees_m (pl1 rfl sees_m (pl1 rfl sees_m (pl1 rfl sees_m (pl1 rfl sees_m (pl1 rfl sees_m pl0))))))))))))))))))))
    · refine DLw ?_
      refine DLw ?_
      refine De2 (fun _ k_ => q_callp (q8) k_) ?_
      refine DLw ?_
      refine DLw ?_
      refine De2 (fun _ k_ => q_al k_) ?_
      refine De2 (fun _ k_ => q_callp (q9) k_) ?_
      refine De2 (fun _ k_ => q_al k_) ?_
      refine De20 (fun _ k_ => q_stw k_) ?_
      refine De20 (fun _ k_ => q_stw k_) ?_
      refine dend ?_
      exact sle_sub ⟨rfl, rfl, rfl, rfl, rfl, rfl, rfl, rfl, rfl, rfl, rfl, trivial⟩ rfl
    · refine DLw ?_
      refine DLw ?_
      refine De2 (fun _ k_ => q_callp (q8) k_) ?_
      refine DLw ?_
      refine DLw ?_
      refine De2 (fun _ k_ => q_al k_) ?_
      refine De2 (fun _ k_ => q_al k_) ?_
      refine De2 (fun _ k_ => q_callp (q9) k_) ?_
      refine De20 (fun _ k_ => q_stw k_) ?_
      refine De20 (fun _ k_ => q_stw k_) ?_
      refine dend ?_
      exact sle_sub ⟨rfl, rfl, rfl, rfl, rfl, rfl, rfl, rfl, rfl, rfl, rfl, trivial⟩ rfl
    · refine DLw ?_
      refine DLw ?_
      refine De2 (fun _ k_ => q_callp (q8) k_) ?_
      refine DLw ?_
      refine DLw ?_
      refine De2 (fun _ k_ => q_al k_) ?_
      refine De2 (fun _ k_ => q_callp (q9) k_) ?_
      refine De2 (fun _ k_ => q_al k_) ?_
      refine De20 (fun _ k_ => q_stw k_) ?_
      refine De20 (fun _ k_ => q_stw k_) ?_
      refine dend ?_
      exact sle_view [0, 1, 2, 3, 4, 5, 6, 7, 8, 9, 10, 11, 12, 13, 14, 15, 16, 18, 17] (fun p h => absurd h (Nat.not_lt_zero _)) (by decide) ⟨rfl, rfl, rfl, rfl, rfl, rfl, rfl, rfl, rfl, rfl, rfl, trivial⟩ (Eq.symm (pl1 rfl sees_m (pl1 rfl sees_m (pl1 rfl sees_m (pl1 rfl sees_m (pl1 rfl sees_m (pl1 rfl sees_m (pl1 rfl sees_m (pl1 rfl sees_m (pl1 rfl sees_m (pl1 rfl sees_m (pl1 rfl sees_m (pl1 rfl sees_m (pl1 rfl sees_m (pl1 rfl sees_m (pl1 rfl sees_m (pl1 rfl sees_m (pl1 rfl sees_m (pl1 rfl sees_m (pl1 rfl sees_m pl0))))))))))))))))))))
    · refine DLw ?_
      refine DLw ?_
      refine De2 (fun _ k_ => q_callp (q8) k_) ?_
      refine DLw ?_
      refine DLw ?_
      refine De2 (fun _ k_ => q_al k_) ?_
      refine De2 (fun _ k_ => q_al k_) ?_
      refine De2 (fun _ k_ => q_callp (q9) k_) ?_
      refine De20 (fun _ k_ => q_stw k_) ?_
      refine De20 (fun _ k_ => q_stw k_) ?_
      refine dend ?_
      exact sle_view [0, 1, 2, 3, 4, 5, 6, 7, 8, 9, 10, 11, 12, 13, 14, 15, 16, 18, 17] (fun p h => absurd h (Nat.not_lt_zero _)) (by decide) ⟨rfl, rfl, rfl, rfl, rfl, rfl, rfl, rfl, rfl, rfl, rfl, trivial⟩ (Eq.symm (pl1 rfl sees_m (pl1 rfl sees_m (pl1 rfl sees_m (pl1 rfl sees_m (pl1 rfl sees_m (pl1 rfl sees_m (pl1 rfl sees_m (pl1 rfl sees_m (pl1 rfl sees_m (pl1 rfl sees_m (pl1 rfl sees_m (pl1 rfl sees_m (pl1 rfl sees_m (pl1 rfl sees_m (pl1 rfl sees_m (pl1 rfl sees_m (pl1 rfl sees_m (pl1 rfl sees_m (pl1 rfl sees_m pl0))))))))))))))))))))
    · refine DLw ?_
      refine DLw ?_
      refine DLw ?_
      refine DLw ?_
      refine De2 (fun _ k_ => q_al k_) ?_
      refine De2 (fun _ k_ => q_callp (q8) k_) ?_
      refine De2 (fun _ k_ => q_callp (q9) k_) ?_
      refine De2 (fun _ k_ => q_al k_) ?_
      refine De20 (fun _ k_ => q_stw k_) ?_
      refine De20 (fun _ k_ => q_stw k_) ?_
      refine dend ?_
      exact sle_sub ⟨rfl, rfl, rfl, rfl, rfl, rfl, rfl, rfl, rfl, rfl, rfl, trivial⟩ rfl
    · refine DLw ?_
      refine DLw ?_
      refine DLw ?_
      refine DLw ?_
      refine De2 (fun _ k_ => q_al k_) ?_
      refine De2 (fun _ k_ => q_callp (q8) k_) ?_
      refine De2 (fun _ k_ => q_al k_) ?_
      refine De2 (fun _ k_ => q_callp (q9) k_) ?_
      refine De20 (fun _ k_ => q_stw k_) ?_
      refine De20 (fun _ k_ => q_stw k_) ?_
      refine dend ?_
      exact sle_sub ⟨rfl, rfl, rfl, rfl, rfl, rfl, rfl, rfl, rfl, rfl, rfl, trivial⟩ rfl
    · refine DLw ?_
      refine DLw ?_
      refine DLw ?_
      refine DLw ?_
      refine De2 (fun _ k_ => q_al k_) ?_
      refine De2 (fun _ k_ => q_al k_) ?_
      refine De2 (fun _ k_ => q_callp (q8) k_) ?_
      refine De2 (fun _ k_ => q_callp (q9) k_) ?_
      refine De20 (fun _ k_ => q_stw k_) ?_
      refine De20 (fun _ k_ => q_stw k_) ?_
      refine dend ?_
      exact sle_sub ⟨rfl, rfl, rfl, rfl, rfl, rfl, rfl, rfl, rfl, rfl, rfl, trivial⟩ rfl
    · refine DLw ?_
      refine DLw ?_
      refine DLw ?_
      refine DLw ?_
      refine De2 (fun _ k_ => q_al k_) ?_
      refine De2 (fun _ k_ => q_callp (q8) k_) ?_
      refine De2 (fun _ k_ => q_callp (q9) k_) ?_
      refine De2 (fun _ k_ => q_al k_) ?_
      refine De20 (fun _ k_ => q_stw k_) ?_
      refine De20 (fun _ k_ => q_stw k_) ?_
      refine dend ?_
      exact sle_view [0, 1, 2, 3, 4, 5, 6, 7, 8, 9, 10, 11, 12, 13, 14, 15, 16, 18, 17] (fun p h => absurd h (Nat.not_lt_zero _)) (by decide) ⟨rfl, rfl, rfl, rfl, rfl, rfl, rfl, rfl, rfl, rfl, rfl, trivial⟩ (Eq.symm (pl1 rfl sees_m (pl1 rfl sees_m (pl1 rfl sees_m (pl1 rfl sees_m (pl1 rfl sees_m (pl1 rfl sees_m (pl1 rfl sees_m (pl1 rfl sees_m (pl1 rfl sees_m (pl1 rfl sees_m (pl1 rfl sees_m (pl1 rfl sees_m (pl1 rfl sees_m (pl1 rfl sees_m (pl1 rfl sees_m (pl1 rfl sees_m (pl1 rfl sees_m (pl1 rfl sees_m (pl1 rfl sees_m pl0))))))))))))))))))))
    · refine DLw ?_
      refine DLw ?_
      refine DLw ?_
      refine DLw ?_
      refine De2 (fun _ k_ => q_al k_) ?_
      refine De2 (fun _ k_ => q_callp (q8) k_) ?_
      refine De2 (fun _ k_ => q_al k_) ?_
      refine De2 (fun _ k_ => q_callp (q9) k_) ?_
      refine De20 (fun _ k_ => q_stw k_) ?_
      refine De20 (fun _ k_ => q_stw k_) ?_
      refine dend ?_
      exact sle_view [0, 1, 2, 3, 4, 5, 6, 7, 8, 9, 10, 11, 12, 13, 14, 15, 16, 18, 17] (fun p h => absurd h (Nat.not_lt_zero _)) (by decide) ⟨rfl, rfl, rfl, rfl, rfl, rfl, rfl, rfl, rfl, rfl, rfl, trivial⟩ (Eq.symm (pl1 rfl sees_m (pl1 rfl sees_m (pl1 rfl sees_m (pl1 rfl sees_m (pl1 rfl sees_m (pl1 rfl sees_m (pl1 rfl sees_m (pl1 rfl sees_m (pl1 rfl sees_m (pl1 rfl sees_m (pl1 rfl sees_m (pl1 rfl sees_m (pl1 rfl sees_m (pl1 rfl sees_m (pl1 rfl sees_m (pl1 rfl sees_m (pl1 rfl sees_m (pl1 rfl sees_m (pl1 rfl sees_m pl0))))))))))))))))))))
    refine DLw ?_
    refine DLw ?_
    refine DLw ?_
    refine DLw ?_
    refine De2 (fun _ k_ => q_al k_) ?_
    refine De2 (fun _ k_ => q_al k_) ?_
    refine De2 (fun _ k_ => q_callp (q8) k_) ?_
    refine De2 (fun _ k_ => q_callp (q9) k_) ?_
    refine De20 (fun _ k_ => q_stw k_) ?_
    refine De20 (fun _ k_ => q_stw k_) ?_
    refine dend ?_
    exact sle_view [0, 1, 2, 3, 4, 5, 6, 7, 8, 9, 10, 11, 12, 13, 14, 15, 16, 18, 17] (fun p h => absurd h (Nat.not_lt_zero _)) (by decide) ⟨rfl, rfl, rfl, rfl, rfl, rfl, rfl, rfl, rfl, rfl, rfl, trivial⟩ (Eq.symm (pl1 rfl sees_m (pl1 rfl sees_m (pl1 rfl sees_m (pl1 rfl sees_m (pl1 rfl sees_m (pl1 rfl sees_m (pl1 rfl sees_m (pl1 rfl sees_m (pl1 rfl sees_m (pl1 rfl sees_m (pl1 rfl sees_m (pl1 rfl sees_m (pl1 rfl sees_m (pl1 rfl sees_m (pl1 rfl sees_m (pl1 rfl sees_m (pl1 rfl sees_m (pl1 rfl sees_m (pl1 rfl sees_m pl0))))))))))))))))))))
  refine awp_seq ?_
  refine rln ?_
  refine G (q_ldw ?_)
  refine G (q_ldw ?_)
  refine G2 (fun _ k_ => q_callp (Rn.mul_e pp pp) k_) ?_
  refine G20 (fun _ k_ => q_stw k_) ?_
  refine gend ?_
  refine awp_seq ?_
  refine rdln [3, 4, 5] [0, 0, 0, 0, 1, 2] [1, 0, 0, 1, 2, 3] ?_
  refine DLw ?_
  refine DLw ?_
  refine DLw ?_
  refine De2 (fun _ k_ => q_callp (Rn.mul_e qq qq) k_) ?_
  refine De2 (fun _ k_ => q_callp (Rn.mul_e X (qq * qq)) k_) ?_
  refine De20 (fun _ k_ => q_stw k_) ?_
  refine dend ?_
  refine awp_seq ?_
  refine rln ?_
  refine Mv ?_
  refine gend ?_
  refine cndb (fun hc3 => ?_) (fun hc3 => ?_)
  · refine rdln [4, 5, 6, 7] [0, 0, 0, 0, 0, 1, 2, 3] [0, 1, 0, 0, 1, 2, 3, 4] ?_
    refine DLw ?_
    refine DLw ?_
    refine DLw ?_
    refine DLw ?_
    refine De20 (fun _ k_ => q_stw k_) ?_
    refine De20 (fun _ k_ => q_stw k_) ?_
    refine De20 (fun _ k_ => q_stw k_) ?_
    refine De20 (fun _ k_ => q_stw k_) ?_
    refine dend ?_
    refine rln ?_
    refine Mv ?_
    refine G (q_subi (x := ((254 - i.1 : Nat) : Int)) (y := 1) ?_)
    refine As ?_
    refine gend ?_
    exact ⟨⟨i.1 + 1, by omega⟩, by show 255 - (i.1 + 1) < 255 - i.1; omega, sle_view [0, 1, 2, 3, 4, 5, 6, 7, 8, 9] (fun p h => absurd h (Nat.not_lt_zero _)) (by decide) ⟨rfl, rfl, rfl, rfl, rfl, rfl, rfl, congrArg (fun z => sc (ci z)) (by show ((254 - i.1 : Nat) : Int) - 1 = 254 - ((i.1 + 1 : Nat) : Int); omega), trivial⟩ (by show [some (u8s k), some (u8s x'), some (u8s (List.replicate 32 0)), some (u8s (clamp k)), some (u64s (de X)), some (u64s (de 1)), some (u64s (de (lad (bv (clamp k)) X (i.1 + 1)).a)), some (u64s (de (lad (bv (clamp k)) X (i.1 + 1)).b)), some (u64s (de (lad (bv (clamp k)) X (i.1 + 1)).c)), some (u64s (de (lad (bv (clamp k)) X (i.1 + 1)).d))] = _; first | (rw [hl1, show (bv (clamp k)).testBit (254 - i.1) = true from by assumption]; exact Eq.symm (pl1 rfl sees_m (pl1 rfl sees_m (pl1 rfl sees_m (pl1 rfl sees_m (pl1 rfl sees_m (pl1 rfl sees_m (pl1 rfl sees_m (pl1 rfl sees_m (pl1 rfl sees_m (pl1 rfl sees_m pl0))))))))))) | (rw [hl1, show (bv (clamp k)).testBit (254 - i.1) = false from by assumption]; exact Eq.symm (pl1 rfl sees_m (pl1 rfl sees_m (pl1 rfl sees_m (pl1 rfl sees_m (pl1 rfl sees_m (pl1 rfl sees_m (pl1 rfl sees_m (pl1 rfl sees_m (pl1 rfl sees_m (pl1 rfl sees_m pl0))))))))))))⟩   -- endloop 1
  refine awp_skip ?_
  refine rln ?_
  refine Mv ?_
  refine G (q_subi (x := ((254 - i.1 : Nat) : Int)) (y := 1) ?_)
  refine As ?_
  refine gend ?_
  exact ⟨⟨i.1 + 1, by omega⟩, by show 255 - (i.1 + 1) < 255 - i.1; omega, sle_view [0, 1, 2, 3, 4, 5, 6, 7, 8, 9] (fun p h => absurd h (Nat.not_lt_zero _)) (by decide) ⟨rfl, rfl, rfl, rfl, rfl, rfl, rfl, congrArg (fun z => sc (ci z)) (by show ((254 - i.1 : Nat) : Int) - 1 = 254 - ((i.1 + 1 : Nat) : Int); omega), trivial⟩ (by show [some (u8s k), some (u8s x'), some (u8s (List.replicate 32 0)), some (u8s (clamp k)), some (u64s (de X)), some (u64s (de 1)), some (u64s (de (lad (bv (clamp k)) X (i.1 + 1)).a)), some (u64s (de (lad (bv (clamp k)) X (i.1 + 1)).b)), some (u64s (de (lad (bv (clamp k)) X (i.1 + 1)).c)), some (u64s (de (lad (bv (clamp k)) X (i.1 + 1)).d))] = _; first | (rw [hl1, show (bv (clamp k)).testBit (254 - i.1) = true from by assumption]; exact Eq.symm (pl1 rfl sees_m (pl1 rfl sees_m (pl1 rfl sees_m (pl1 rfl sees_m (pl1 rfl sees_m (pl1 rfl sees_m (pl1 rfl sees_m (pl1 rfl sees_m (pl1 rfl sees_m (pl1 rfl sees_m pl0))))))))))) | (rw [hl1, show (bv (clamp k)).testBit (254 - i.1) = false from by assumption]; exact Eq.symm (pl1 rfl sees_m (pl1 rfl sees_m (pl1 rfl sees_m (pl1 rfl sees_m (pl1 rfl sees_m (pl1 rfl sees_m (pl1 rfl sees_m (pl1 rfl sees_m (pl1 rfl sees_m (pl1 rfl sees_m pl0))))))))))))⟩   -- endloop 1
end Go.Proofs.Ytlidpcjinillfaa.Ld

/- The ladder over plain numbers, to be reckoned. -/
namespace Go.Nt

def stN (x : Nat) (s : Nat × Nat × Nat × Nat) : Nat × Nat × Nat × Nat :=
  let sum := (s.1 + s.2.1) % P
  let dif := (P - s.2.1 + s.1) % P
  let u := sum * sum % P
  let v := dif * dif % P
  let e := (P - v + u) % P
  let m := (s.2.2.1 + s.2.2.2) % P * dif % P
  let n := (P - s.2.2.2 + s.2.2.1) % P * sum % P
  (u * v % P, e * ((u + 121665 * e % P) % P) % P, (m + n) % P * ((m + n) % P) % P, x * ((P - n + m) % P * ((P - n + m) % P) % P) % P)
def swN (k : Bool) (s : Nat × Nat × Nat × Nat) : Nat × Nat × Nat × Nat := if k then (s.2.2.1, s.2.2.2, s.1, s.2.1) else s
def laN (k x : Nat) : Nat → Nat × Nat × Nat × Nat
  | 0 => (1, 0, x, 1)
  | i + 1 => swN (k.testBit (254 - i)) (stN x (swN (k.testBit (254 - i)) (laN k x i)))
def vals (s : Ls) : Nat × Nat × Nat × Nat := (s.a.val, s.b.val, s.c.val, s.d.val)
theorem stN_eq (x : F) (s : Ls) : stN x.val (vals s) = vals (lstep x s) := by
  obtain ⟨a, b, c, d⟩ := s
  simp only [stN, vals, lstep, Fin.val_add, Fin.val_mul, Fin.sub_def, show (121665 : F).val = 121665 from by decide]
theorem swN_eq (k : Bool) (s : Ls) : swN k (vals s) = vals (lswap k s) := by
  cases k <;> rfl
theorem laN_eq (k : Nat) (x : F) : ∀ i, laN k x.val i = vals (lad k x i)
  | 0 => by
    show (1, 0, x.val, 1) = ((1 : F).val, (0 : F).val, x.val, (1 : F).val)
    rw [show (1 : F).val = 1 from by decide, show (0 : F).val = 0 from by decide]
  | i + 1 => by rw [laN, laN_eq k x i, swN_eq, stN_eq, swN_eq]; rfl
def outN (k x : Nat) : Nat := (laN k x 255).1 * (pwm P (laN k x 255).2.1 256 (P - 2) % P) % P
theorem outN_eq (k : Nat) (x : F) : outN k x.val = (ladder k x).val := by
  unfold outN
  rw [laN_eq, show pwm P (vals (lad k x 255)).2.1 256 (P - 2) % P = (vals (lad k x 255)).2.1 ^ (P - 2) % P from pwm_spec P 256 _ _ (by decide)]
  unfold ladder lout inv
  rw [Fin.val_mul, pw_val]
  rfl
theorem twice_ne : ladder (2 ^ 254) (ladder (2 ^ 254) 9) ≠ 0 := by
  intro h
  have h1 := congrArg Fin.val h
  rw [← outN_eq, ← outN_eq, show (9 : F).val = 9 from by decide] at h1
  have h2 : decide (outN (2 ^ 254) (outN (2 ^ 254) 9) = 0) = false := by decide +kernel
  exact absurd h1 (of_decide_eq_false h2)
end Go.Nt

/- What functions of the program do, walked over the abstract machine. -/
namespace Go.Proofs.Ytlidpcjinillfaa.Ld
open Go Go.Abs Go.Proofs Go.Proofs.Ytlidpcjinillfaa.Fd Go.Proofs.Ytlidpcjinillfaa.Rn

open Go.Nt Fd Rn
theorem bz (z : F) : bye z = List.replicate 32 0 ↔ z = 0 := by
  rw [show List.replicate 32 (0 : UInt8) = bye 0 by decide +kernel]
  exact ⟨fun h => bye_inj h, fun h => h ▸ rfl⟩
theorem fb_nine : fb ((List.replicate 32 0).set 0 9) = 9 := by decide +kernel
theorem fb_zero : fb (List.replicate 32 0) = 0 := by decide +kernel
/-- What a secret makes of a public. -/
abbrev lx (k : List UInt8) (z : F) : F := ladder (bv (clamp k)) z
/-- ladder.Public -/
theorem public_ (k : List UInt8) (hk : k.length = 32) : Good Try.prog 11 [.a (u8s k)] [] (sa (u8s (bye (lx k 9)))) [] := by
  have g := lmul_ k ((List.replicate 32 0).set 0 9) hk (by decide)
  rw [fb_nine] at g
  have hl := by32_len (lx k 9).val
  refine good_frm 6 Try.func11 rfl rfl rfl rfl rfl rfl ?_
  refine awp_seq ?_
  refine rln ?_
  refine G2 (fun _ k_ => q_boxa k_) ?_
  refine G2 (fun _ k_ => q_al k_) ?_
  refine gend ?_
  refine awp_seq ?_
  refine rln ?_
  refine G (q_ldw ?_)
  refine G  (q_bla (fkc (c := c8 9) rfl rfl rfl (Nat.le_of_ble_eq_true rfl) (fk0 ?_)))
  rw [show (u8s (List.replicate 32 0)).set (0 * 1) (c8 9) = u8s ((List.replicate 32 0).set 0 9) from rfl]
  refine G2 (fun _ k_ => q_callp (g) k_) ?_
  refine G20 (fun _ k_ => q_stw k_) ?_
  refine gend ?_
  refine awp_ret ?_
  exact fpc (t := 23) (a := 2) (hn := by exact (mapc_length ..).trans hl)
/-- escutcheonref04.Public -/
theorem rpublic_ (k : List UInt8) (hk : k.length = 32) : Good Try.prog 12 [.a (u8s k)] [] (sa (u8s (bye (lx k 9)))) [] := by
  have g := rmul_ k ((List.replicate 32 0).set 0 9) _ hk (by decide) rfl
  rw [fb_nine] at g
  have hl := by32_len (lx k 9).val
  refine good_frm 6 Try.func12 rfl rfl rfl rfl rfl rfl ?_
  refine awp_seq ?_
  refine rln ?_
  refine G2 (fun _ k_ => q_boxa k_) ?_
  refine G2 (fun _ k_ => q_al k_) ?_
  refine gend ?_
  refine awp_seq ?_
  refine rln ?_
  refine G (q_ldw ?_)
  refine G  (q_bla (fkc (c := c8 9) rfl rfl rfl (Nat.le_of_ble_eq_true rfl) (fk0 ?_)))
  rw [show (u8s (List.replicate 32 0)).set (0 * 1) (c8 9) = u8s ((List.replicate 32 0).set 0 9) from rfl]
  refine G2 (fun _ k_ => q_callp (g) k_) ?_
  refine G20 (fun _ k_ => q_stw k_) ?_
  refine gend ?_
  refine awp_ret ?_
  exact fpc (t := 23) (a := 2) (hn := by exact (mapc_length ..).trans hl)
/-- ladder.Shared -/
theorem shared_z (k x : List UInt8) (z : F) (hk : k.length = 32) (hx : x.length = 32) (hz : lx k (fb x) = z) (h : z = 0) : Good Try.prog 8 [.a (u8s k), .a (u8s x)] [] (.t [.a (u8s (bye z)), .c (cn 8)]) [] := by
  have g := lmul_ k x hk hx
  rw [show ladder (bv (clamp k)) (fb x) = z from hz] at g
  have hl := by32_len z.val
  refine good_frm 15 Try.func8 rfl rfl rfl rfl rfl rfl ?_
  refine awp_seq ?_
  refine rln ?_
  refine G2 (fun _ k_ => q_boxa k_) ?_
  refine G2 (fun _ k_ => q_boxa k_) ?_
  refine G2 (fun _ k_ => q_al k_) ?_
  refine G (q_as (s := sc (cn 0)) ?_)
  refine gend ?_
  refine awp_seq ?_
  refine rln ?_
  refine G (q_ldw ?_)
  refine G (q_ldw ?_)
  refine G2 (fun _ k_ => q_callp (g) k_) ?_
  refine G2 (fun _ k_ => q_al k_) ?_
  refine G20 (fun _ k_ => q_stw k_) ?_
  refine gend ?_
  refine awp_seq ?_
  refine awp_seq ?_
  refine rln ?_
  refine G (q_ldw ?_)
  refine G (q_bla (fk0 ?_))
  refine G (q_eqa8 ?_)
  refine gend ?_
  refine cndY (fun hc1 => ?_) ?_; rotate_left
  · exact (bz z).2 h
  refine awp_seq ?_
  refine rln ?_
  refine G (q_ldw ?_)
  refine G20 (fun _ k_ => q_stw k_) ?_
  refine G (q_as (s := sc (cn 8)) ?_)
  refine gend ?_
  refine awp_ret ?_
  exact fpct (t := 23) (a := 4) (hd := by exact (mapc_length ..).trans hl)
/-- ladder.Shared -/
theorem shared_n (k x : List UInt8) (z : F) (hk : k.length = 32) (hx : x.length = 32) (hz : lx k (fb x) = z) (h : z ≠ 0) : Good Try.prog 8 [.a (u8s k), .a (u8s x)] [] (.t [.a (u8s (bye z)), .c (cn 0)]) [] := by
  have g := lmul_ k x hk hx
  rw [show ladder (bv (clamp k)) (fb x) = z from hz] at g
  have hl := by32_len z.val
  refine good_frm 15 Try.func8 rfl rfl rfl rfl rfl rfl ?_
  refine awp_seq ?_
  refine rln ?_
  refine G2 (fun _ k_ => q_boxa k_) ?_
  refine G2 (fun _ k_ => q_boxa k_) ?_
  refine G2 (fun _ k_ => q_al k_) ?_
  refine G (q_as (s := sc (cn 0)) ?_)
  refine gend ?_
  refine awp_seq ?_
  refine rln ?_
  refine G (q_ldw ?_)
  refine G (q_ldw ?_)
  refine G2 (fun _ k_ => q_callp (g) k_) ?_
  refine G2 (fun _ k_ => q_al k_) ?_
  refine G20 (fun _ k_ => q_stw k_) ?_
  refine gend ?_
  refine awp_seq ?_
  refine awp_seq ?_
  refine rln ?_
  refine G (q_ldw ?_)
  refine G (q_bla (fk0 ?_))
  refine G (q_eqa8 ?_)
  refine gend ?_
  refine cndN (fun hc1 => ?_) ?_; rotate_left
  · exact fun e => h ((bz z).1 e)
  refine awp_skip ?_
  refine awp_seq ?_
  refine rln ?_
  refine G (q_ldw ?_)
  refine G20 (fun _ k_ => q_stw k_) ?_
  refine G (q_as (s := sc (cn 0)) ?_)
  refine gend ?_
  refine awp_ret ?_
  exact fpct (t := 23) (a := 4) (hd := by exact (mapc_length ..).trans hl)
end Go.Proofs.Ytlidpcjinillfaa.Ld

/- What functions of the program do, walked over the abstract machine. -/
namespace Go.Proofs.Ytlidpcjinillfaa.Ld
open Go Go.Abs Go.Proofs Go.Proofs.Ytlidpcjinillfaa.Fd Go.Proofs.Ytlidpcjinillfaa.Rn

open Go.Nt Fd Rn
abbrev ky (v : UInt8) : List UInt8 := (List.replicate 32 0).set 0 v
theorem cl1 : bv (clamp (ky 1)) = 2 ^ 254 := by decide +kernel
theorem cl2 : bv (clamp (ky 2)) = 2 ^ 254 := by decide +kernel
theorem one_pub : lx (ky 1) (lx (ky 2) 9) = ladder (2 ^ 254) (ladder (2 ^ 254) 9) := by unfold lx; rw [cl1, cl2]
theorem two_pub : lx (ky 2) (lx (ky 1) 9) = ladder (2 ^ 254) (ladder (2 ^ 254) 9) := by unfold lx; rw [cl1, cl2]
set_option maxHeartbeats 800000 in
/-- escutcheonlaw04.known -/
theorem known_ : Good Try.prog 10 [] [] (sc (.bool true)) [] := by
  have g1 := shared_z (ky 7) (List.replicate 32 0) 0 (by decide) (by decide) (by rw [fb_zero]; exact ladder_zero _) rfl
  have p2 := public_ (ky 2) (by decide)
  have p1 := public_ (ky 1) (by decide)
  have g2 := shared_n (ky 1) (bye (lx (ky 2) 9)) _ (by decide) (by32_len _) (by rw [fb_bye]; exact one_pub) twice_ne
  have g3 := shared_n (ky 2) (bye (lx (ky 1) 9)) _ (by decide) (by32_len _) (by rw [fb_bye]; exact two_pub) twice_ne
  have l1 := by32_len (0 : F).val
  have l2 := by32_len (ladder (2 ^ 254) (ladder (2 ^ 254) 9)).val
  generalize ladder (2 ^ 254) (ladder (2 ^ 254) 9) = Z at g2 g3 l2
  have l3 := by32_len (lx (ky 2) 9).val
  have l4 := by32_len (lx (ky 1) 9).val
  generalize lx (ky 2) 9 = A at p2 g2 l3
  generalize lx (ky 1) 9 = B at p1 g3 l4
  refine good_frm 42 Try.func10 rfl rfl rfl rfl rfl rfl ?_
  refine awp_seq ?_
  refine rln ?_
  refine As ?_
  refine gend ?_
  refine awp_seq ?_
  refine rln ?_
  refine G  (q_bla (fkc (c := c8 7) rfl rfl rfl (Nat.le_of_ble_eq_true rfl) (fk0 ?_)))
  rw [show (u8s (List.replicate 32 0)).set (0 * 1) (c8 7) = u8s ((List.replicate 32 0).set 0 7) from rfl]
  refine G (q_bla (fk0 ?_))
  refine G2 (fun _ k_ => q_callp (g1) k_) ?_
  refine G (q_mv (s := .t _) ?_)
  refine G (q_ext (y := .a _) ?_)
  refine G (q_ext (y := .c _) ?_)
  refine G2 (fun _ k_ => q_al k_) ?_
  refine G20 (fun _ k_ => q_stw k_) ?_
  refine As ?_
  refine gend ?_
  refine awp_seq ?_
  refine rln ?_
  refine G  (q_bla (fkc (c := c8 1) rfl rfl rfl (Nat.le_of_ble_eq_true rfl) (fk0 ?_)))
  rw [show (u8s (List.replicate 32 0)).set (0 * 1) (c8 1) = u8s ((List.replicate 32 0).set 0 1) from rfl]
  refine G  (q_bla (fkc (c := c8 2) rfl rfl rfl (Nat.le_of_ble_eq_true rfl) (fk0 ?_)))
  rw [show (u8s (List.replicate 32 0)).set (0 * 1) (c8 2) = u8s ((List.replicate 32 0).set 0 2) from rfl]
  refine G2 (fun _ k_ => q_callp (p2) k_) ?_
  refine G2 (fun _ k_ => q_callp (g2) k_) ?_
  refine G (q_mv (s := .t _) ?_)
  refine G (q_ext (y := .a _) ?_)
  refine G (q_ext (y := .c _) ?_)
  refine G2 (fun _ k_ => q_al k_) ?_
  refine G20 (fun _ k_ => q_stw k_) ?_
  refine As ?_
  refine gend ?_
  refine awp_seq ?_
  refine rln ?_
  refine G  (q_bla (fkc (c := c8 2) rfl rfl rfl (Nat.le_of_ble_eq_true rfl) (fk0 ?_)))
  rw [show (u8s (List.replicate 32 0)).set (0 * 1) (c8 2) = u8s ((List.replicate 32 0).set 0 2) from rfl]
  refine G  (q_bla (fkc (c := c8 1) rfl rfl rfl (Nat.le_of_ble_eq_true rfl) (fk0 ?_)))
  rw [show (u8s (List.replicate 32 0)).set (0 * 1) (c8 1) = u8s ((List.replicate 32 0).set 0 1) from rfl]
  refine G2 (fun _ k_ => q_callp (p1) k_) ?_
  refine G2 (fun _ k_ => q_callp (g3) k_) ?_
  refine G (q_mv (s := .t _) ?_)
  refine G (q_ext (y := .a _) ?_)
  refine G (q_ext (y := .c _) ?_)
  refine G2 (fun _ k_ => q_al k_) ?_
  refine G20 (fun _ k_ => q_stw k_) ?_
  refine As ?_
  refine gend ?_
  refine awp_seq ?_
  refine rln ?_
  refine Mv ?_
  refine G (q_eqln (y := 8) ?_)
  refine Mv ?_
  refine Aknd 29 (fun hb3 => ?_) ?_; rotate_left
  · first | exact rfl | (simp; done)
  refine Gg (q_mv (s := .v (.c _)) ?_)
  refine Gg (q_eqln (y := 0) ?_)
  refine G (q_pkt ?_)
  refine Mv ?_
  refine Aknd 33 (fun hb7 => ?_) ?_; rotate_left
  · first | exact rfl | (simp; done)
  refine Gg (q_mv (s := .v (.c _)) ?_)
  refine Gg (q_eqln (y := 0) ?_)
  refine G (q_pkt ?_)
  refine Mv ?_
  refine Aknd 37 (fun hb11 => ?_) ?_; rotate_left
  · first | exact rfl | (simp; done)
  refine Gg (q_ldw ?_)
  refine Gg (q_ldw ?_)
  refine Gg (q_eqa8 ?_)
  refine G (q_pkt ?_)
  refine As ?_
  refine gend ?_
  refine awp_ret ?_
  exact fp1 (hv := by simp)
end Go.Proofs.Ytlidpcjinillfaa.Ld

/- What functions of the program do, walked over the abstract machine. -/
namespace Go.Proofs.Ytlidpcjinillfaa.Ld
open Go Go.Abs Go.Proofs Go.Proofs.Ytlidpcjinillfaa.Fd Go.Proofs.Ytlidpcjinillfaa.Rn

open Go.Nt Fd Rn
theorem bv_top (b : List UInt8) : bv b = Fv (fun i => b.getD i 0) 31 + 452312848583266388373324160190187140051835877600158453279131187530910662656 * (b.getD 31 0).toNat := by
  show Fv (fun i => b.getD i 0) 31 + 256 ^ 31 * (b.getD 31 0).toNat = _
  rw [show (256 : Nat) ^ 31 = 452312848583266388373324160190187140051835877600158453279131187530910662656 by decide +kernel]
theorem cl_top : ∀ x : UInt8, ((x &&& 127) ||| 64).toNat < 128 := by
  have h : ∀ i : Fin 256, ((UInt8.ofNat i.val &&& 127) ||| 64).toNat < 128 := by decide +kernel
  intro x
  have := h ⟨x.toNat, x.toNat_lt⟩
  simpa using this
theorem clamp_lt (k : List UInt8) (hk : k.length = 32) : bv (clamp k) < 2 ^ 255 := by
  have h31 : (clamp k).getD 31 0 = ((k.set 0 (k.getD 0 0 &&& ~~~7)).getD 31 0 &&& 127) ||| 64 := by
    simp [clamp, List.getD_eq_getElem?_getD, List.getElem?_set, hk]
  have h1 := cl_top ((k.set 0 (k.getD 0 0 &&& ~~~7)).getD 31 0)
  have h2 := Fv_lt (fun i => (clamp k).getD i 0) 31
  rw [bv_top, h31]
  rw [show (256 : Nat) ^ 31 = 452312848583266388373324160190187140051835877600158453279131187530910662656 by decide +kernel] at h2
  omega
theorem lx_comm (a b : List UInt8) (ha : a.length = 32) (hb : b.length = 32) (x : F) : lx a (lx b x) = lx b (lx a x) := ladder_comm _ _ (clamp_lt a ha) (clamp_lt b hb) x
def twk (a : List UInt8) (b : UInt8) : List UInt8 := (a.set 0 (a.getD 0 0 ^^^ b % 8)).set 31 ((a.set 0 (a.getD 0 0 ^^^ b % 8)).getD 31 0 ^^^ b / 8 % 4 * 64)
def twx (x : List UInt8) (b : UInt8) : List UInt8 := x.set 31 (x.getD 31 0 ^^^ b / 128 * 128)
end Go.Proofs.Ytlidpcjinillfaa.Ld

/- What functions of the program do, walked over the abstract machine. -/
namespace Go.Proofs.Ytlidpcjinillfaa.Ld
open Go Go.Abs Go.Proofs Go.Proofs.Ytlidpcjinillfaa.Fd Go.Proofs.Ytlidpcjinillfaa.Rn

open Go.Nt Fd Rn
set_option maxHeartbeats 800000 in
/-- escutcheonlaw04.LadderMeets -/
theorem meets_z (a b : List UInt8) (ha : a.length = 32) (hb : b.length = 32) (h : lx a (lx b 9) = 0) : Good Try.prog 4 [.a (u8s a), .a (u8s b)] [] (sc (.bool true)) [] := by
  have pa := public_ a ha
  have pb := public_ b hb
  have ra := rpublic_ a ha
  have hc := lx_comm a b ha hb 9
  obtain ⟨z, hz⟩ : ∃ z, lx a (lx b 9) = z := ⟨_, rfl⟩
  rw [hz] at h hc
  have g1 := shared_z a (bye (lx b 9)) z ha (by32_len _) (by rw [fb_bye]; exact hz) h
  have g2 := shared_z b (bye (lx a 9)) z hb (by32_len _) (by rw [fb_bye]; exact hc.symm) h
  have hl := by32_len z.val
  have l1 := by32_len (lx a 9).val
  have l2 := by32_len (lx b 9).val
  clear hz hc
  generalize lx a 9 = A at pa ra g2 l1
  generalize lx b 9 = B at pb g1 l2
  refine good_frm 41 Try.func4 rfl rfl rfl rfl rfl rfl ?_
  refine awp_seq ?_
  refine rln ?_
  refine G2 (fun _ k_ => q_boxa k_) ?_
  refine G2 (fun _ k_ => q_boxa k_) ?_
  refine As ?_
  refine gend ?_
  refine awp_mid ⟨frm 41 [(2, sc (.ptr 0 0)), (3, sc (.ptr 1 0)), (5, sc (.ptr 2 0)), (6, sc (cn 8))], [some (u8s a), some (u8s b), some (u8s (bye z))]⟩ ?_ ?_
  · refine rdm [2, 3, 7, 8] [⟨[0, 1, 2, 3, 4, 5, 6, 7, 8, 9], [2, 3, 7, 8], [2, 3, 7, 8], [0, 0, 0, 1, 2, 2, 2, 2, 3, 4], [1, 0, 1, 2, 3, 3, 4, 3, 4, 4]⟩, ⟨[0, 1, 2, 7, 3, 4, 5, 6, 8, 9], [2, 7, 3, 8], [2, 3, 4, 8], [0, 0, 0, 1, 2, 3, 3, 3, 3, 4], [2, 0, 1, 2, 3, 3, 3, 4, 4, 4]⟩, ⟨[0, 1, 7, 2, 3, 4, 5, 6, 8, 9], [7, 2, 3, 8], [2, 3, 4, 8], [0, 0, 0, 1, 2, 3, 3, 3, 3, 4], [2, 1, 1, 2, 3, 3, 3, 4, 4, 4]⟩] ⟨?_, ?_, ?_, trivial⟩   -- region 1
    · refine DLw ?_
      refine DLw ?_
      refine De2 (fun _ k_ => q_callp (pb) k_) ?_
      refine De2 (fun _ k_ => q_callp (g1) k_) ?_
      refine Dp (fun _ => q_mv (s := .t _) ⟨rfl, rfl⟩) ?_
      refine Dp (fun _ => q_ext (y := .a _) ⟨rfl, rfl⟩) ?_
      refine Dp (fun _ => q_ext (y := .c _) ⟨rfl, rfl⟩) ?_
      refine De2 (fun _ k_ => q_al k_) ?_
      refine De20 (fun _ k_ => q_stw k_) ?_
      refine Dp (fun _ => q_as (s := .v (.c _)) ⟨rfl, rfl⟩) ?_
      refine dend ?_
      exact sle_sub ⟨rfl, rfl, rfl, rfl, trivial⟩ rfl
    · refine DLw ?_
      refine DLw ?_
      refine De2 (fun _ k_ => q_callp (pb) k_) ?_
      refine De2 (fun _ k_ => q_al k_) ?_
      refine De2 (fun _ k_ => q_callp (g1) k_) ?_
      refine Dp (fun _ => q_mv (s := .t _) ⟨rfl, rfl⟩) ?_
      refine Dp (fun _ => q_ext (y := .a _) ⟨rfl, rfl⟩) ?_
      refine Dp (fun _ => q_ext (y := .c _) ⟨rfl, rfl⟩) ?_
      refine De20 (fun _ k_ => q_stw k_) ?_
      refine Dp (fun _ => q_as (s := .v (.c _)) ⟨rfl, rfl⟩) ?_
      refine dend ?_
      exact sle_sub ⟨rfl, rfl, rfl, rfl, trivial⟩ rfl
    refine DLw ?_
    refine DLw ?_
    refine De2 (fun _ k_ => q_al k_) ?_
    refine De2 (fun _ k_ => q_callp (pb) k_) ?_
    refine De2 (fun _ k_ => q_callp (g1) k_) ?_
    refine Dp (fun _ => q_mv (s := .t _) ⟨rfl, rfl⟩) ?_
    refine Dp (fun _ => q_ext (y := .a _) ⟨rfl, rfl⟩) ?_
    refine Dp (fun _ => q_ext (y := .c _) ⟨rfl, rfl⟩) ?_
    refine De20 (fun _ k_ => q_stw k_) ?_
    refine Dp (fun _ => q_as (s := .v (.c _)) ⟨rfl, rfl⟩) ?_
    refine dend ?_
    exact sle_sub ⟨rfl, rfl, rfl, rfl, trivial⟩ rfl
  refine awp_mid ⟨frm 41 [(2, sc (.ptr 0 0)), (3, sc (.ptr 1 0)), (5, sc (.ptr 2 0)), (6, sc (cn 8)), (7, sc (.ptr 3 0)), (8, sc (cn 8))], [some (u8s a), some (u8s b), some (u8s (bye z)), some (u8s (bye z))]⟩ ?_ ?_
  · refine rdm [2, 3, 7, 8] [⟨[0, 1, 2, 3, 4, 5, 6, 7, 8, 9], [2, 3, 7, 8], [2, 3, 7, 8], [0, 0, 0, 1, 2, 2, 2, 2, 3, 4], [1, 0, 1, 2, 3, 3, 4, 3, 4, 4]⟩, ⟨[0, 1, 2, 7, 3, 4, 5, 6, 8, 9], [2, 7, 3, 8], [2, 3, 4, 8], [0, 0, 0, 1, 2, 3, 3, 3, 3, 4], [2, 0, 1, 2, 3, 3, 3, 4, 4, 4]⟩, ⟨[0, 1, 7, 2, 3, 4, 5, 6, 8, 9], [7, 2, 3, 8], [2, 3, 4, 8], [0, 0, 0, 1, 2, 3, 3, 3, 3, 4], [2, 1, 1, 2, 3, 3, 3, 4, 4, 4]⟩] ⟨?_, ?_, ?_, trivial⟩   -- region 2
    · refine DLw ?_
      refine DLw ?_
      refine De2 (fun _ k_ => q_callp (pa) k_) ?_
      refine De2 (fun _ k_ => q_callp (g2) k_) ?_
      refine Dp (fun _ => q_mv (s := .t _) ⟨rfl, rfl⟩) ?_
      refine Dp (fun _ => q_ext (y := .a _) ⟨rfl, rfl⟩) ?_
      refine Dp (fun _ => q_ext (y := .c _) ⟨rfl, rfl⟩) ?_
      refine De2 (fun _ k_ => q_al k_) ?_
      refine De20 (fun _ k_ => q_stw k_) ?_
      refine Dp (fun _ => q_as (s := .v (.c _)) ⟨rfl, rfl⟩) ?_
      refine dend ?_
      exact sle_sub ⟨rfl, rfl, rfl, rfl, rfl, rfl, trivial⟩ rfl
    · refine DLw ?_
      refine DLw ?_
      refine De2 (fun _ k_ => q_callp (pa) k_) ?_
      refine De2 (fun _ k_ => q_al k_) ?_
      refine De2 (fun _ k_ => q_callp (g2) k_) ?_
      refine Dp (fun _ => q_mv (s := .t _) ⟨rfl, rfl⟩) ?_
      refine Dp (fun _ => q_ext (y := .a _) ⟨rfl, rfl⟩) ?_
      refine Dp (fun _ => q_ext (y := .c _) ⟨rfl, rfl⟩) ?_
      refine De20 (fun _ k_ => q_stw k_) ?_
      refine Dp (fun _ => q_as (s := .v (.c _)) ⟨rfl, rfl⟩) ?_
      refine dend ?_
      exact sle_sub ⟨rfl, rfl, rfl, rfl, rfl, rfl, trivial⟩ rfl
    refine DLw ?_
    refine DLw ?_
    refine De2 (fun _ k_ => q_al k_) ?_
    refine De2 (fun _ k_ => q_callp (pa) k_) ?_
    refine De2 (fun _ k_ => q_callp (g2) k_) ?_
    refine Dp (fun _ => q_mv (s := .t _) ⟨rfl, rfl⟩) ?_
    refine Dp (fun _ => q_ext (y := .a _) ⟨rfl, rfl⟩) ?_
    refine Dp (fun _ => q_ext (y := .c _) ⟨rfl, rfl⟩) ?_
    refine De20 (fun _ k_ => q_stw k_) ?_
    refine Dp (fun _ => q_as (s := .v (.c _)) ⟨rfl, rfl⟩) ?_
    refine dend ?_
    exact sle_sub ⟨rfl, rfl, rfl, rfl, rfl, rfl, trivial⟩ rfl
  refine awp_seq ?_
  refine rdln [10, 12, 16] [0, 0, 0, 0, 0, 0, 0, 0, 0, 0, 0, 0, 1, 2, 2, 2, 2, 3, 3] [0, 0, 0, 0, 0, 0, 0, 0, 0, 0, 1, 1, 2, 2, 2, 2, 3, 3, 3] ?_
  refine Dp (fun _ => q_mv (s := .v (.c _)) ⟨rfl, rfl⟩) ?_
  refine Dp (fun _ => q_mv (s := .v (.c _)) ⟨rfl, rfl⟩) ?_
  refine Dp (fun _ => q_eqln ⟨rfl, rfl⟩) ?_
  refine Dp (fun _ => q_mv (s := .v (.c _)) ⟨rfl, rfl⟩) ?_
  refine Dknd 26 (fun hb4 => ?_) ?_; rotate_left
  · first | exact rfl | (simp; done)
  refine DLwg ?_
  refine DLwg ?_
  refine Dpg (fun _ => q_eqa8 ⟨rfl, rfl⟩) ?_
  refine Dp (fun _ => q_pkt ⟨rfl, rfl⟩) ?_
  refine Dp (fun _ => q_mv (s := .v (.c _)) ⟨rfl, rfl⟩) ?_
  refine Dknd 31 (fun hb9 => ?_) ?_; rotate_left
  · first | exact rfl | (simp; done)
  refine DLwg ?_
  refine De2g (fun _ k_ => q_callp (pa) k_) ?_
  refine DLwg ?_
  refine De2g (fun _ k_ => q_callp (ra) k_) ?_
  refine Dpg (fun _ => q_eqa8 ⟨rfl, rfl⟩) ?_
  refine Dp (fun _ => q_pkt ⟨rfl, rfl⟩) ?_
  refine Dp (fun _ => q_mv (s := .v (.c _)) ⟨rfl, rfl⟩) ?_
  refine Dknd 38 (fun hb16 => ?_) ?_; rotate_left
  · first | exact rfl | (simp; done)
  refine De2g (fun _ k_ => q_callp (known_) k_) ?_
  refine Dp (fun _ => q_pkt ⟨rfl, rfl⟩) ?_
  refine Dp (fun _ => q_as (s := .v (.c _)) ⟨rfl, rfl⟩) ?_
  refine dend ?_
  refine awp_ret ?_
  exact fp1
set_option maxHeartbeats 800000 in
/-- escutcheonlaw04.LadderMeets -/
theorem meets_n (a b : List UInt8) (ha : a.length = 32) (hb : b.length = 32) (h : lx a (lx b 9) ≠ 0) : Good Try.prog 4 [.a (u8s a), .a (u8s b)] [] (sc (.bool true)) [] := by
  have pa := public_ a ha
  have pb := public_ b hb
  have ra := rpublic_ a ha
  have hc := lx_comm a b ha hb 9
  obtain ⟨z, hz⟩ : ∃ z, lx a (lx b 9) = z := ⟨_, rfl⟩
  rw [hz] at h hc
  have g1 := shared_n a (bye (lx b 9)) z ha (by32_len _) (by rw [fb_bye]; exact hz) h
  have g2 := shared_n b (bye (lx a 9)) z hb (by32_len _) (by rw [fb_bye]; exact hc.symm) h
  have hl := by32_len z.val
  have l1 := by32_len (lx a 9).val
  have l2 := by32_len (lx b 9).val
  clear hz hc
  generalize lx a 9 = A at pa ra g2 l1
  generalize lx b 9 = B at pb g1 l2
  refine good_frm 41 Try.func4 rfl rfl rfl rfl rfl rfl ?_
  refine awp_seq ?_
  refine rln ?_
  refine G2 (fun _ k_ => q_boxa k_) ?_
  refine G2 (fun _ k_ => q_boxa k_) ?_
  refine As ?_
  refine gend ?_
  refine awp_mid ⟨frm 41 [(2, sc (.ptr 0 0)), (3, sc (.ptr 1 0)), (5, sc (.ptr 2 0)), (6, sc (cn 0))], [some (u8s a), some (u8s b), some (u8s (bye z))]⟩ ?_ ?_
  · refine rdm [2, 3, 7, 8] [⟨[0, 1, 2, 3, 4, 5, 6, 7, 8, 9], [2, 3, 7, 8], [2, 3, 7, 8], [0, 0, 0, 1, 2, 2, 2, 2, 3, 4], [1, 0, 1, 2, 3, 3, 4, 3, 4, 4]⟩, ⟨[0, 1, 2, 7, 3, 4, 5, 6, 8, 9], [2, 7, 3, 8], [2, 3, 4, 8], [0, 0, 0, 1, 2, 3, 3, 3, 3, 4], [2, 0, 1, 2, 3, 3, 3, 4, 4, 4]⟩, ⟨[0, 1, 7, 2, 3, 4, 5, 6, 8, 9], [7, 2, 3, 8], [2, 3, 4, 8], [0, 0, 0, 1, 2, 3, 3, 3, 3, 4], [2, 1, 1, 2, 3, 3, 3, 4, 4, 4]⟩] ⟨?_, ?_, ?_, trivial⟩   -- region 1
    · refine DLw ?_
      refine DLw ?_
      refine De2 (fun _ k_ => q_callp (pb) k_) ?_
      refine De2 (fun _ k_ => q_callp (g1) k_) ?_
      refine Dp (fun _ => q_mv (s := .t _) ⟨rfl, rfl⟩) ?_
      refine Dp (fun _ => q_ext (y := .a _) ⟨rfl, rfl⟩) ?_
      refine Dp (fun _ => q_ext (y := .c _) ⟨rfl, rfl⟩) ?_
      refine De2 (fun _ k_ => q_al k_) ?_
      refine De20 (fun _ k_ => q_stw k_) ?_
      refine Dp (fun _ => q_as (s := .v (.c _)) ⟨rfl, rfl⟩) ?_
      refine dend ?_
      exact sle_sub ⟨rfl, rfl, rfl, rfl, trivial⟩ rfl
    · refine DLw ?_
      refine DLw ?_
      refine De2 (fun _ k_ => q_callp (pb) k_) ?_
      refine De2 (fun _ k_ => q_al k_) ?_
      refine De2 (fun _ k_ => q_callp (g1) k_) ?_
      refine Dp (fun _ => q_mv (s := .t _) ⟨rfl, rfl⟩) ?_
      refine Dp (fun _ => q_ext (y := .a _) ⟨rfl, rfl⟩) ?_
      refine Dp (fun _ => q_ext (y := .c _) ⟨rfl, rfl⟩) ?_
      refine De20 (fun _ k_ => q_stw k_) ?_
      refine Dp (fun _ => q_as (s := .v (.c _)) ⟨rfl, rfl⟩) ?_
      refine dend ?_
      exact sle_sub ⟨rfl, rfl, rfl, rfl, trivial⟩ rfl
    refine DLw ?_
    refine DLw ?_
    refine De2 (fun _ k_ => q_al k_) ?_
    refine De2 (fun _ k_ => q_callp (pb) k_) ?_
    refine De2 (fun _ k_ => q_callp (g1) k_) ?_
    refine Dp (fun _ => q_mv (s := .t _) ⟨rfl, rfl⟩) ?_
    refine Dp (fun _ => q_ext (y := .a _) ⟨rfl, rfl⟩) ?_
    refine Dp (fun _ => q_ext (y := .c _) ⟨rfl, rfl⟩) ?_
    refine De20 (fun _ k_ => q_stw k_) ?_
    refine Dp (fun _ => q_as (s := .v (.c _)) ⟨rfl, rfl⟩) ?_
    refine dend ?_
    exact sle_sub ⟨rfl, rfl, rfl, rfl, trivial⟩ rfl
  refine awp_mid ⟨frm 41 [(2, sc (.ptr 0 0)), (3, sc (.ptr 1 0)), (5, sc (.ptr 2 0)), (6, sc (cn 0)), (7, sc (.ptr 3 0)), (8, sc (cn 0))], [some (u8s a), some (u8s b), some (u8s (bye z)), some (u8s (bye z))]⟩ ?_ ?_
  · refine rdm [2, 3, 7, 8] [⟨[0, 1, 2, 3, 4, 5, 6, 7, 8, 9], [2, 3, 7, 8], [2, 3, 7, 8], [0, 0, 0, 1, 2, 2, 2, 2, 3, 4], [1, 0, 1, 2, 3, 3, 4, 3, 4, 4]⟩, ⟨[0, 1, 2, 7, 3, 4, 5, 6, 8, 9], [2, 7, 3, 8], [2, 3, 4, 8], [0, 0, 0, 1, 2, 3, 3, 3, 3, 4], [2, 0, 1, 2, 3, 3, 3, 4, 4, 4]⟩, ⟨[0, 1, 7, 2, 3, 4, 5, 6, 8, 9], [7, 2, 3, 8], [2, 3, 4, 8], [0, 0, 0, 1, 2, 3, 3, 3, 3, 4], [2, 1, 1, 2, 3, 3, 3, 4, 4, 4]⟩] ⟨?_, ?_, ?_, trivial⟩   -- region 2
    · refine DLw ?_
      refine DLw ?_
      refine De2 (fun _ k_ => q_callp (pa) k_) ?_
      refine De2 (fun _ k_ => q_callp (g2) k_) ?_
      refine Dp (fun _ => q_mv (s := .t _) ⟨rfl, rfl⟩) ?_
      refine Dp (fun _ => q_ext (y := .a _) ⟨rfl, rfl⟩) ?_
      refine Dp (fun _ => q_ext (y := .c _) ⟨rfl, rfl⟩) ?_
      refine De2 (fun _ k_ => q_al k_) ?_
      refine De20 (fun _ k_ => q_stw k_) ?_
      refine Dp (fun _ => q_as (s := .v (.c _)) ⟨rfl, rfl⟩) ?_
      refine dend ?_
      exact sle_sub ⟨rfl, rfl, rfl, rfl, rfl, rfl, trivial⟩ rfl
    · refine DLw ?_
      refine DLw ?_
      refine De2 (fun _ k_ => q_callp (pa) k_) ?_
      refine De2 (fun _ k_ => q_al k_) ?_
      refine De2 (fun _ k_ => q_callp (g2) k_) ?_
      refine Dp (fun _ => q_mv (s := .t _) ⟨rfl, rfl⟩) ?_
      refine Dp (fun _ => q_ext (y := .a _) ⟨rfl, rfl⟩) ?_
      refine Dp (fun _ => q_ext (y := .c _) ⟨rfl, rfl⟩) ?_
      refine De20 (fun _ k_ => q_stw k_) ?_
      refine Dp (fun _ => q_as (s := .v (.c _)) ⟨rfl, rfl⟩) ?_
      refine dend ?_
      exact sle_sub ⟨rfl, rfl, rfl, rfl, rfl, rfl, trivial⟩ rfl
    refine DLw ?_
    refine DLw ?_
    refine De2 (fun _ k_ => q_al k_) ?_
    refine De2 (fun _ k_ => q_callp (pa) k_) ?_
    refine De2 (fun _ k_ => q_callp (g2) k_) ?_
    refine Dp (fun _ => q_mv (s := .t _) ⟨rfl, rfl⟩) ?_
    refine Dp (fun _ => q_ext (y := .a _) ⟨rfl, rfl⟩) ?_
    refine Dp (fun _ => q_ext (y := .c _) ⟨rfl, rfl⟩) ?_
    refine De20 (fun _ k_ => q_stw k_) ?_
    refine Dp (fun _ => q_as (s := .v (.c _)) ⟨rfl, rfl⟩) ?_
    refine dend ?_
    exact sle_sub ⟨rfl, rfl, rfl, rfl, rfl, rfl, trivial⟩ rfl
  refine awp_seq ?_
  refine rdln [10, 12, 16] [0, 0, 0, 0, 0, 0, 0, 0, 0, 0, 0, 0, 1, 2, 2, 2, 2, 3, 3] [0, 0, 0, 0, 0, 0, 0, 0, 0, 0, 1, 1, 2, 2, 2, 2, 3, 3, 3] ?_
  refine Dp (fun _ => q_mv (s := .v (.c _)) ⟨rfl, rfl⟩) ?_
  refine Dp (fun _ => q_mv (s := .v (.c _)) ⟨rfl, rfl⟩) ?_
  refine Dp (fun _ => q_eqln ⟨rfl, rfl⟩) ?_
  refine Dp (fun _ => q_mv (s := .v (.c _)) ⟨rfl, rfl⟩) ?_
  refine Dknd 26 (fun hb4 => ?_) ?_; rotate_left
  · first | exact rfl | (simp; done)
  refine DLwg ?_
  refine DLwg ?_
  refine Dpg (fun _ => q_eqa8 ⟨rfl, rfl⟩) ?_
  refine Dp (fun _ => q_pkt ⟨rfl, rfl⟩) ?_
  refine Dp (fun _ => q_mv (s := .v (.c _)) ⟨rfl, rfl⟩) ?_
  refine Dknd 31 (fun hb9 => ?_) ?_; rotate_left
  · first | exact rfl | (simp; done)
  refine DLwg ?_
  refine De2g (fun _ k_ => q_callp (pa) k_) ?_
  refine DLwg ?_
  refine De2g (fun _ k_ => q_callp (ra) k_) ?_
  refine Dpg (fun _ => q_eqa8 ⟨rfl, rfl⟩) ?_
  refine Dp (fun _ => q_pkt ⟨rfl, rfl⟩) ?_
  refine Dp (fun _ => q_mv (s := .v (.c _)) ⟨rfl, rfl⟩) ?_
  refine Dknd 38 (fun hb16 => ?_) ?_; rotate_left
  · first | exact rfl | (simp; done)
  refine De2g (fun _ k_ => q_callp (known_) k_) ?_
  refine Dp (fun _ => q_pkt ⟨rfl, rfl⟩) ?_
  refine Dp (fun _ => q_as (s := .v (.c _)) ⟨rfl, rfl⟩) ?_
  refine dend ?_
  refine awp_ret ?_
  exact fp1
theorem meets_ (a b : List UInt8) (ha : a.length = 32) (hb : b.length = 32) : Good Try.prog 4 [.a (u8s a), .a (u8s b)] [] (sc (.bool true)) [] := by
  by_cases h : lx a (lx b 9) = 0
  · exact meets_z a b ha hb h
  · exact meets_n a b ha hb h
end Go.Proofs.Ytlidpcjinillfaa.Ld


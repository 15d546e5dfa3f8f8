/- What functions of the program do, walked over the abstract machine. -/
import Derived.Test.YtgojpagfgfknkaaTi
import Derived.Test.YtgojpagfgfknkaaWin
import Derived.Test.YtgojpagfgfknkaaRef
import Derived.Test.YtgojpagfgfknkaaPl
import Derived.Test.YtgojpagfgfknkaaAbsZc
namespace Go.Proofs.Ytgojpagfgfknkaa
open Go Go.Abs Go.Proofs

theorem rem_lt (x : UInt64) : (x % 4611686018427387904).toNat < 4611686018427387904 := by
  rw [UInt64.toNat_mod]; exact Nat.mod_lt _ (by decide)
/-- escutcheonlaw18.WindowMoves -/
theorem moves (n : Nat) (l : List UInt64) (s : UInt64) (hn : l.length = n) (hb : n ≤ 9223372036854775807) : Good Try.prog 4 [.c (.ro n (u64s l)), .c (c64 s)] [] (sc (.bool true)) [] := by
  refine good_frm 43 Try.func4 rfl rfl rfl rfl rfl rfl ?_
  refine awp_seq ?_
  refine rl ?_
  refine As ?_
  refine gend ?_
  refine awp_seq ?_
  refine awp_seq ?_
  refine rl ?_
  refine Mv ?_
  refine G (q_leno ?_)
  refine G (q_gtrn (y := 200) ?_)
  refine gend ?_
  refine cnd (fun hc1 => ?_) (fun hc1 => ?_)
  · refine awp_seq ?_
    refine rl ?_
    refine G (q_callp (known/- escutcheon/escutcheonlaw18.known -/) ?_)
    refine As ?_
    refine gend ?_
    refine awp_ret ?_
    exact fp1
  refine awp_skip ?_
  refine awp_seq ?_
  refine rl ?_
  refine G (q_calln (new/- escutcheon/window.New -/) ?_)
  refine G (q_calln (new/- escutcheon/window.New -/) ?_)
  refine As ?_
  refine As ?_
  refine gend ?_
  refine awp_seq ?_
  refine awp_seq ?_
  refine rl ?_
  refine Mv ?_
  refine G (q_eqlp ?_)
  refine Mv ?_
  refine Gg (q_mv (s := .v (.c _)) ?_)
  refine Gg (q_eqlp ?_)
  refine G (q_pkf ?_)
  refine gend ?_
  refine cndF ?_
  refine awp_skip ?_
  refine awp_seq ?_
  refine awp_seq ?_
  refine rl ?_
  refine G (q_as (s := sc (cn 0)) ?_)
  refine gend ?_
  refine awp_block ?_
  refine awp_loop (fun y : {y : Nat × (UInt64 × UInt64) × (UInt64 × UInt64) // y.1 ≤ n ∧ Mv2 (s % 4611686018427387904) y.2.1 y.2.2} => ⟨frm 43 [(0, sc (.ro n (u64s l))), (1, sc (c64 s)), (5, sc (.ptr 0 0)), (6, sc (.ptr 1 0)), (7, sc (cn y.1.1))], [some (wcs true y.1.2.1.1 y.1.2.1.2), some (wcs true y.1.2.2.1 y.1.2.2.2)]⟩) (fun y => n - y.1.1) ⟨(0, (0, 0), (0, 0)), Nat.zero_le _, rfl, .inl rfl⟩ (sle_sub ⟨rfl, rfl, rfl, rfl, rfl, trivial⟩ rfl) fun y => ?_   -- live: [0, 1, 5, 6, 7]
  refine awp_seq ?_
  refine awp_seq ?_
  refine rl ?_
  refine Mv ?_
  refine Mv ?_
  refine G (q_leno ?_)
  refine G (q_lssn ?_)
  refine gend ?_
  refine cnd (fun hc2 => ?_) (fun hc2 => ?_); rotate_left
  · refine awp_exit ?_
    refine awp_seq ?_
    refine rl ?_
    refine G (q_callp (known/- escutcheon/escutcheonlaw18.known -/) ?_)
    refine As ?_
    refine gend ?_
    refine awp_ret ?_
    exact fp1
  refine awp_skip ?_
  refine awp_seq ?_
  refine awp_block ?_
  refine awp_seq ?_
  refine rl ?_
  refine Mv ?_
  refine Mv ?_
  refine G (q_ixo1 ?_)
  refine G (q_ldrd ?_)
  refine G (q_rem64 (y := 4611686018427387904) ?_ (hz := by decide))
  refine As ?_
  refine gend ?_
  refine awp_seq ?_
  refine rl ?_
  refine Mv ?_
  refine Mv ?_
  refine G (q_callw 0 (take true y.1.2.1.1 y.1.2.1.2 (l.getD y.1.1 0 % 4611686018427387904)/- (*escutcheon/window.Window).Take -/) ?_)
  refine Mv ?_
  refine Mv ?_
  refine Mv ?_
  refine G (q_rem64 (y := 4611686018427387904) ?_ (hz := by decide))
  refine G (q_add64 ?_)
  refine G (q_callw 1 (take true y.1.2.2.1 y.1.2.2.2 (l.getD y.1.1 0 % 4611686018427387904 + s % 4611686018427387904)/- (*escutcheon/window.Window).Take -/) ?_)
  refine G (q_neqn ?_)
  refine gend ?_
  refine cnd (fun hc3 => ?_) (fun hc3 => ?_)
  · refine awp_seq ?_
    refine rl ?_
    refine As ?_
    refine gend ?_
    refine awp_ret ?_
    exact absurd (by rw [(moves_step (n := l.getD y.1.1 0 % 4611686018427387904) y.2.2 (rem_lt _) (rem_lt _)).1]) hc3
  refine awp_skip ?_
  refine rl ?_
  refine Mv ?_
  refine G (q_addn (y := 1) ?_)
  refine As ?_
  refine gend ?_
  have hy := y.2.1
  have hm := moves_step (n := l.getD y.1.1 0 % 4611686018427387904) y.2.2 (rem_lt _) (rem_lt _)
  exact ⟨⟨(y.1.1 + 1, wnext true y.1.2.1.1 y.1.2.1.2 (l.getD y.1.1 0 % 4611686018427387904), wnext true y.1.2.2.1 y.1.2.2.2 (l.getD y.1.1 0 % 4611686018427387904 + s % 4611686018427387904)), by show y.1.1 + 1 ≤ n; omega, hm.2⟩, by show n - (y.1.1 + 1) < n - y.1.1; omega, sle_sub ⟨rfl, rfl, rfl, rfl, rfl, trivial⟩ rfl⟩   -- endloop 1
/-- Which of the 64 were taken. -/
def Tk (b : UInt64) (T : List Bool) (l : List UInt64) : Prop := T.length = 64 ∧ (∀ d : Nat, d < 64 → (T.getD d false = true ↔ ∃ x ∈ l, x.toNat = b.toNat + d)) ∧ ∀ x ∈ l, b.toNat ≤ x.toNat ∧ x.toNat < b.toNat + 64
theorem tk_nil (b : UInt64) : Tk b (List.replicate 64 false) [] := ⟨rfl, fun d hd => by rw [List.getD_eq_getElem?_getD, List.getElem?_replicate]; split <;> simp, by simp⟩
theorem tk_step {b m : UInt64} {T : List Bool} {l : List UInt64} {g v : UInt64} (I : Inv l g v) (K : Tk b T l) (hb : b.toNat < 9223372036854775808) (hm : m.toNat < 64) :
    (decide (wchk true g v (b + m) = 0) = !(T.getD m.toNat false)) ∧ ∃ l', Inv l' (wnext true g v (b + m)).1 (wnext true g v (b + m)).2 ∧ Tk b (T.set m.toNat true) l' := by
  have hbm : (b + m).toNat = b.toNat + m.toNat := by rw [UInt64.toNat_add]; omega
  obtain ⟨k1, k2, k3⟩ := K
  have hset : ∀ d, d < 64 → ((T.set m.toNat true).getD d false = true ↔ d = m.toNat ∨ T.getD d false = true) := by
    intro d hd
    simp only [List.getD_eq_getElem?_getD, List.getElem?_set]
    by_cases h : m.toNat = d
    · simp [h, k1, hd]
    · have : ¬ d = m.toNat := fun e => h e.symm
      simp [h, this]
  by_cases hw : wchk true g v (b + m) = 0
  · have hn := take_new I hw
    have hT : T.getD m.toNat false = false := by
      cases hT : T.getD m.toNat false with
      | false => rfl
      | true =>
        obtain ⟨x, hx, e⟩ := (k2 _ hm).1 hT
        exact absurd ((UInt64.toNat_inj.1 (e.trans hbm.symm)) ▸ hx) hn
    refine ⟨by rw [hT]; simp [hw], l ++ [b + m], take_inv I hw, by simp [k1], fun d hd => ?_, fun x hx => ?_⟩
    · rw [hset d hd, k2 d hd]
      constructor
      · rintro (rfl | ⟨x, hx, e⟩)
        · exact ⟨b + m, by simp, hbm⟩
        · exact ⟨x, by simp [hx], e⟩
      · rintro ⟨x, hx, e⟩
        rcases List.mem_append.1 hx with hx | hx
        · exact .inr ⟨x, hx, e⟩
        · obtain rfl := List.mem_singleton.1 hx
          left; omega
    · rcases List.mem_append.1 hx with hx | hx
      · exact k3 x hx
      · obtain rfl := List.mem_singleton.1 hx
        omega
  · have hin : b + m ∈ l := by
      refine Decidable.byContradiction fun hn => hw (take_near I hn fun x hx => ?_)
      have := k3 x hx
      omega
    have hT : T.getD m.toNat false = true := (k2 _ hm).2 ⟨b + m, hin, hbm⟩
    have hnx : wnext true g v (b + m) = (g, v) := by unfold wnext; rw [if_neg hw]
    refine ⟨by rw [hT]; simp [hw], l, by rw [hnx]; exact I, by simp [k1], fun d hd => ?_, k3⟩
    rw [hset d hd, k2 d hd]
    constructor
    · rintro (rfl | h)
      · exact ⟨b + m, hin, hbm⟩
      · exact h
    · exact .inr
theorem rem_64 (x : UInt64) : (x % 64).toNat < 64 := by
  rw [UInt64.toNat_mod]; exact Nat.mod_lt _ (by decide)
theorem rem_63 (x : UInt64) : (x % 9223372036854775808).toNat < 9223372036854775808 := by
  rw [UInt64.toNat_mod]; exact Nat.mod_lt _ (by decide)
theorem u64s_snoc (l : List UInt64) (x : UInt64) : u64s l ++ [c64 x] = u64s (l ++ [x]) := by simp [mapc]
theorem bools_at {T : List Bool} {d : Nat} (h : d < T.length) : (T.map Cell.bool)[d]? = some (.bool (T.getD d false)) := by
  simp [List.getD_eq_getElem?_getD, h]
/-- escutcheonlaw18.WindowMeans -/
theorem means (n : Nat) (l : List UInt64) (bs : UInt64) (k : Nat) (l2 : List UInt64) (hn : l.length = n) (hb : n ≤ 9223372036854775807) (hk : l2.length = k) (hb2 : k ≤ 9223372036854775807) : Good Try.prog 3 [.c (.ro n (u64s l)), .c (c64 bs), .c (.ro k (u64s l2))] [] (sc (.bool true)) [] := by
  refine good_frm 103 Try.func3 rfl rfl rfl rfl rfl rfl ?_
  refine awp_seq ?_
  refine rl ?_
  refine As ?_
  refine gend ?_
  refine awp_seq ?_
  refine awp_seq ?_
  refine rl ?_
  refine G (q_callp (known/- escutcheon/escutcheonlaw18.known -/) ?_)
  refine G (q_notb ?_)
  refine gend ?_
  refine cndF ?_
  refine awp_skip ?_
  refine awp_seq ?_
  refine awp_seq ?_
  refine rl ?_
  refine Mv ?_
  refine G (q_leno ?_)
  refine G (q_gtrn (y := 200) ?_)
  refine Mv ?_
  refine Aspd 20 (fun hb4 => ?_) (fun hb4 => ?_)
  · refine Gn ?_
    refine Gn ?_
    refine Gn ?_
    refine G (q_pkt ?_)
    refine gend ?_
    refine cndT ?_
    refine awp_seq ?_
    refine rl ?_
    refine As ?_
    refine gend ?_
    refine awp_ret ?_
    exact fp1
  refine Gg (q_mv (s := .v (.c _)) ?_)
  refine Gg (q_leno ?_)
  refine Gg (q_gtrn (y := 100) ?_)
  refine G (q_pkf ?_)
  refine gend ?_
  refine cnd (fun hc1 => ?_) (fun hc1 => ?_)
  · refine awp_seq ?_
    refine rl ?_
    refine As ?_
    refine gend ?_
    refine awp_ret ?_
    exact fp1
  refine awp_skip ?_
  refine awp_seq ?_
  refine rl ?_
  refine G (q_calln (new/- escutcheon/window.New -/) ?_)
  refine G (q_calln (new/- escutcheon/window.New -/) ?_)
  refine As ?_
  refine As ?_
  refine gend ?_
  refine awp_seq ?_
  refine awp_seq ?_
  refine rl ?_
  refine Mv ?_
  refine G (q_eqlp ?_)
  refine Mv ?_
  refine Gg (q_mv (s := .v (.c _)) ?_)
  refine Gg (q_eqlp ?_)
  refine G (q_pkf ?_)
  refine gend ?_
  refine cndF ?_
  refine awp_skip ?_
  refine awp_seq ?_
  refine rl ?_
  refine As ?_
  refine gend ?_
  refine awp_seq ?_
  refine awp_seq ?_
  refine rl ?_
  refine G (q_as (s := sc (cn 0)) ?_)
  refine gend ?_
  refine awp_block ?_
  refine awp_le (sle_empty (al' := [(0, sc (.ro n (u64s l))), (1, sc (c64 bs)), (2, sc (.ro k (u64s l2))), (7, sc (.ptr 0 0)), (8, sc (.ptr 1 0)), (9, sc (.slc 2 0 0 1)), (10, sc (cn 0))]) 1 (Nat.zero_le _) ⟨.inl rfl, .inl rfl, .inl rfl, .inl rfl, .inl rfl, .inr ⟨rfl, rfl⟩, .inl rfl, trivial⟩) ?_
  refine awp_loop (fun y : {y : Nat × List UInt64 × (UInt64 × UInt64) // y.1 ≤ n ∧ y.2.1.length ≤ y.1 ∧ Inv y.2.1 y.2.2.1 y.2.2.2} => ⟨frm 103 [(0, sc (.ro n (u64s l))), (1, sc (c64 bs)), (2, sc (.ro k (u64s l2))), (7, sc (.ptr 0 0)), (8, sc (.ptr 1 0)), (9, sc (.slc 2 0 y.1.2.1.length 1)), (10, sc (cn y.1.1))], [some (wcs true y.1.2.2.1 y.1.2.2.2), some (wcs true 0 0), some (u64s y.1.2.1)]⟩) (fun y => n - y.1.1) ⟨(0, [], (0, 0)), Nat.zero_le _, Nat.le_refl _, inv_nil⟩ (sle_sub ⟨rfl, rfl, rfl, rfl, rfl, rfl, rfl, trivial⟩ rfl) fun y => ?_   -- live: [0, 7, 9, 10]
  refine awp_seq ?_
  refine awp_seq ?_
  refine rl ?_
  refine Mv ?_
  refine Mv ?_
  refine G (q_leno ?_)
  refine G (q_lssn ?_)
  refine gend ?_
  refine cnd (fun hc2 => ?_) (fun hc2 => ?_); rotate_left
  · refine awp_exit ?_
    refine awp_seq ?_
    refine rl ?_
    refine G (q_al ?_)
    refine gend ?_
    refine awp_seq ?_
    refine awp_seq ?_
    refine rl ?_
    refine G (q_as (s := sc (cn 0)) ?_)
    refine gend ?_
    refine awp_block ?_
    refine awp_loop (fun v : {v : Nat × UInt64 × UInt64 × List Bool // v.1 ≤ k ∧ ∃ l', Inv l' v.2.1 v.2.2.1 ∧ Tk (bs % 9223372036854775808) v.2.2.2 l'} => ⟨frm 103 [(0, sc (.ro n (u64s l))), (1, sc (c64 bs)), (2, sc (.ro k (u64s l2))), (7, sc (.ptr 0 0)), (8, sc (.ptr 1 0)), (12, sc (.ptr 3 0)), (13, sc (cn v.1.1))], [some (wcs true y.1.2.2.1 y.1.2.2.2), some (wcs true v.1.2.1 v.1.2.2.1), some (u64s y.1.2.1), some (v.1.2.2.2.map Cell.bool)]⟩) (fun v => k - v.1.1) ⟨(0, 0, 0, List.replicate 64 false), Nat.zero_le _, [], inv_nil, tk_nil _⟩ (sle_sub ⟨rfl, rfl, rfl, rfl, rfl, rfl, rfl, trivial⟩ rfl) fun v => ?_   -- live: [1, 2, 8, 12, 13]
    refine awp_seq ?_
    refine awp_seq ?_
    refine rl ?_
    refine Mv ?_
    refine Mv ?_
    refine G (q_leno ?_)
    refine G (q_lssn ?_)
    refine gend ?_
    refine cnd (fun hc3 => ?_) (fun hc3 => ?_); rotate_left
    · refine awp_exit ?_
      refine awp_seq ?_
      refine rl ?_
      refine As ?_
      refine gend ?_
      refine awp_ret ?_
      exact fp1
    refine awp_skip ?_
    refine awp_seq ?_
    refine awp_block ?_
    refine awp_seq ?_
    refine rl ?_
    refine Mv ?_
    refine G (q_rem64 (y := 9223372036854775808) ?_ (hz := by decide))
    refine Mv ?_
    refine Mv ?_
    refine G (q_ixo1 ?_)
    refine G (q_ldrd ?_)
    refine G (q_rem64 (y := 64) ?_ (hz := by decide))
    refine G (q_add64 ?_)
    refine As ?_
    refine gend ?_
    refine awp_seq ?_
    refine awp_seq ?_
    obtain ⟨l', hI, hT⟩ := v.2.2
    have hstep := tk_step hI hT (rem_63 bs) (rem_64 (l2.getD v.1.1 0))
    refine rdl [2, 3] [0, 0, 0, 1, 2, 0, 0, 0, 0, 0, 0, 0, 0, 2] [0, 0, 1, 2, 2, 2, 2, 2, 2, 2, 2, 2, 2, 2] ?_
    refine Dp (fun _ => q_mv (s := .v (.c _)) ⟨rfl, rfl⟩) ?_
    refine Dp (fun _ => q_mv (s := .v (.c _)) ⟨rfl, rfl⟩) ?_
    refine De (q_callw 1 (take true v.1.2.1 v.1.2.2.1 ((bs % 9223372036854775808) + (l2.getD v.1.1 0 % 64))/- (*escutcheon/window.Window).Take -/) (pw ?_))
    refine De (q_callp (num _/- escutcheon/escutcheonlaw18.num -/) (pw ?_))
    refine Dp (fun _ => q_eqln (y := 0) ⟨rfl, rfl⟩) ?_
    refine Dp (fun _ => q_mv (s := .v (.c _)) ⟨rfl, rfl⟩) ?_
    refine Dp (fun _ => q_mv (s := .v (.c _)) ⟨rfl, rfl⟩) ?_
    refine Dp (fun _ => q_ixo1 ⟨rfl, rfl⟩) ?_
    refine Dp (fun _ => q_ldrd ⟨rfl, rfl⟩) ?_
    refine Dp (fun _ => q_rem64 (y := 64) ⟨rfl, rfl⟩ (hz := by decide)) ?_
    refine Dp (fun _ => q_ixp1 ⟨rfl, rfl⟩ (hlt := rem_64 _)) ?_
    refine DLp ?_ (hc := bools_at (by rw [hT.1]; exact rem_64 _))
    refine Dp (fun _ => q_notb ⟨rfl, rfl⟩) ?_
    refine Dp (fun _ => q_neqb ⟨rfl, rfl⟩) ?_
    refine dend ?_
    refine cndb (fun hc4 => ?_) (fun hc4 => ?_)
    · refine awp_seq ?_
      refine rl ?_
      refine As ?_
      refine gend ?_
      refine awp_ret ?_
      exact absurd hc4 (by rw [hstep.1]; simp)
    refine awp_skip ?_
    refine rl ?_
    refine Mv ?_
    refine Mv ?_
    refine G (q_ixo1 ?_)
    refine G (q_ldrd ?_)
    refine G (q_rem64 (y := 64) ?_ (hz := by decide))
    refine G (q_ixp1 ?_ (hlt := rem_64 _))
    refine G0 (q_st (c := .bool true) ?_ (hq := by rw [List.length_map, hT.1]; exact rem_64 _))
    refine gend ?_
    refine rl ?_
    refine Mv ?_
    refine G (q_addn (y := 1) ?_)
    refine As ?_
    refine gend ?_
    exact ⟨⟨(v.1.1 + 1, (wnext true v.1.2.1 v.1.2.2.1 ((bs % 9223372036854775808) + (l2.getD v.1.1 0 % 64))).1, (wnext true v.1.2.1 v.1.2.2.1 ((bs % 9223372036854775808) + (l2.getD v.1.1 0 % 64))).2, v.1.2.2.2.set (l2.getD v.1.1 0 % 64).toNat true), by show v.1.1 + 1 ≤ k; omega, hstep.2⟩, by show k - (v.1.1 + 1) < k - v.1.1; omega, sle_sub ⟨rfl, rfl, rfl, rfl, rfl, rfl, rfl, trivial⟩ (by simp only [List.map_set]; rfl)⟩   -- endloop 2
  refine awp_skip ?_
  refine awp_seq ?_
  refine awp_block ?_
  refine awp_seq ?_
  refine awp_seq ?_
  refine rl ?_
  refine Mv ?_
  refine Mv ?_
  refine Mv ?_
  refine G (q_ixo1 ?_)
  refine G (q_ldrd ?_)
  refine G (q_callw 0 (take true y.1.2.2.1 y.1.2.2.2 (l.getD y.1.1 0)/- (*escutcheon/window.Window).Take -/) ?_)
  refine G (q_callp (num _/- escutcheon/escutcheonlaw18.num -/) ?_)
  refine G (q_neqn (y := 0) ?_)
  refine gend ?_
  refine cnd (fun hc5 => ?_) (fun hc5 => ?_)
  · refine awp_exit ?_
    refine rl ?_
    refine Mv ?_
    refine G (q_addn (y := 1) ?_)
    refine As ?_
    refine gend ?_
    exact ⟨⟨(y.1.1 + 1, y.1.2.1, wnext true y.1.2.2.1 y.1.2.2.2 (l.getD y.1.1 0)), by show y.1.1 + 1 ≤ n; omega, by have := y.2.2.1; show y.1.2.1.length ≤ y.1.1 + 1; omega, by have e : wnext true y.1.2.2.1 y.1.2.2.2 (l.getD y.1.1 0) = y.1.2.2 := (by unfold wnext; rw [if_neg hc5]); show Inv y.1.2.1 (wnext true y.1.2.2.1 y.1.2.2.2 (l.getD y.1.1 0)).1 (wnext true y.1.2.2.1 y.1.2.2.2 (l.getD y.1.1 0)).2; rw [e]; exact y.2.2.2⟩, by show n - (y.1.1 + 1) < n - y.1.1; omega, sle_sub ⟨rfl, rfl, rfl, rfl, rfl, rfl, rfl, trivial⟩ rfl⟩   -- endloop 1
  refine awp_skip ?_
  refine awp_seq ?_
  refine awp_seq ?_
  refine rl ?_
  refine G (q_as (s := sc (cn 0)) ?_)
  refine gend ?_
  refine awp_block ?_
  refine awp_loop (fun z : {z : Nat // z ≤ y.1.2.1.length} => ⟨frm 103 [(0, sc (.ro n (u64s l))), (1, sc (c64 bs)), (2, sc (.ro k (u64s l2))), (7, sc (.ptr 0 0)), (8, sc (.ptr 1 0)), (9, sc (.slc 2 0 y.1.2.1.length 1)), (10, sc (cn y.1.1)), (11, sc (cn z.1))], [some (wcs true (wnext true y.1.2.2.1 y.1.2.2.2 (l.getD y.1.1 0)).1 (wnext true y.1.2.2.1 y.1.2.2.2 (l.getD y.1.1 0)).2), some (wcs true 0 0), some (u64s y.1.2.1)]⟩) (fun z => y.1.2.1.length - z.1) ⟨0, Nat.zero_le _⟩ (sle_sub ⟨rfl, rfl, rfl, rfl, rfl, rfl, rfl, rfl, trivial⟩ rfl) fun z => ?_   -- live: [0, 9, 10, 11]
  refine awp_seq ?_
  refine awp_seq ?_
  refine rl ?_
  refine Mv ?_
  refine Mv ?_
  refine G (q_lenc ?_)
  refine G (q_lssn ?_)
  refine gend ?_
  refine cnd (fun hc6 => ?_) (fun hc6 => ?_); rotate_left
  · refine awp_exit ?_
    refine rl ?_
    refine Mv ?_
    refine Mv ?_
    refine Mv ?_
    refine G (q_ixo1 ?_)
    refine G (q_ldrd ?_)
    refine G (q_bsl (fkc rfl (et rfl) rfl (by decide) (fk0 ?_)))
    refine G (q_app ?_)
    refine As ?_
    refine gend ?_
    refine rl ?_
    refine Mv ?_
    refine G (q_addn (y := 1) ?_)
    refine As ?_
    refine gend ?_
    exact ⟨⟨(y.1.1 + 1, y.1.2.1 ++ [(l.getD y.1.1 0)], wnext true y.1.2.2.1 y.1.2.2.2 (l.getD y.1.1 0)), by show y.1.1 + 1 ≤ n; omega, by have := y.2.2.1; show (y.1.2.1 ++ [(l.getD y.1.1 0)]).length ≤ y.1.1 + 1; simp; omega, take_inv y.2.2.2 (Decidable.not_not.1 hc5)⟩, by show n - (y.1.1 + 1) < n - y.1.1; omega, sle_view [0, 1, 4] (fun p h => absurd h (Nat.not_lt_zero _)) (by decide) ⟨rs_ro, rfl, rs_ro, rfl, rfl, by rw [List.length_append]; rfl, rfl, trivial⟩ (vh3 (pick_c rfl rfl) (pick_c rfl rfl) (pick_m (by show _ = some (some (u64s (y.1.2.1 ++ [(l.getD y.1.1 0)]))); rw [← u64s_snoc]; show some (some (List.take (y.1.2.1.length * 1) (List.drop 0 (u64s y.1.2.1)) ++ [c64 (l.getD y.1.1 0)])) = _; rw [List.drop_zero, List.take_of_length_le (by simp [mapc])])))⟩   -- endloop 1
  refine awp_skip ?_
  refine awp_seq ?_
  refine awp_block ?_
  refine awp_seq ?_
  refine rdl [] [] [] ?_
  refine Dp (fun _ => q_mv (s := .v (.c _)) ⟨rfl, rfl⟩) ?_
  refine Dp (fun _ => q_mv (s := .v (.c _)) ⟨rfl, rfl⟩) ?_
  refine Dp (fun _ => q_ixs1 ⟨rfl, rfl⟩) ?_
  refine DLp ?_
  refine Dp (fun _ => q_mv (s := .v (.c _)) ⟨rfl, rfl⟩) ?_
  refine Dp (fun _ => q_mv (s := .v (.c _)) ⟨rfl, rfl⟩) ?_
  refine Dp (fun _ => q_ixo1 ⟨rfl, rfl⟩) ?_
  refine Dp (fun _ => q_ldrd ⟨rfl, rfl⟩) ?_
  refine Dp (fun _ => q_eql64 ⟨rfl, rfl⟩) ?_
  refine dend ?_
  refine cnd (fun hc7 => ?_) (fun hc7 => ?_)
  · refine awp_seq ?_
    refine rl ?_
    refine As ?_
    refine gend ?_
    refine awp_ret ?_
    exact absurd (by rw [← hc7, List.getD_eq_getElem?_getD, List.getElem?_eq_getElem (by omega)]; simp) (take_new y.2.2.2 (Decidable.not_not.1 hc5))
  refine awp_skip ?_
  refine rl ?_
  refine Mv ?_
  refine G (q_addn (y := 1) ?_)
  refine As ?_
  refine gend ?_
  exact ⟨⟨z.1 + 1, by omega⟩, by show y.1.2.1.length - (z.1 + 1) < y.1.2.1.length - z.1; omega, sle_sub ⟨rfl, rfl, rfl, rfl, rfl, rfl, rfl, rfl, trivial⟩ rfl⟩   -- endloop 3
end Go.Proofs.Ytgojpagfgfknkaa

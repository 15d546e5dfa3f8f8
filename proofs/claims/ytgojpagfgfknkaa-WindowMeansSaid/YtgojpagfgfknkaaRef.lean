/- What functions of the program do, walked over the abstract machine. -/
import Derived.Test.YtgojpagfgfknkaaTi
namespace Go.Proofs.Ytgojpagfgfknkaa
open Go Go.Abs Go.Proofs

/-- The greatest of numbers (0 of none). -/
def gmax (l : List UInt64) : UInt64 := l.foldl (fun n x => if n < x then x else n) 0
def old (l : List UInt64) (n : UInt64) : Bool := !l.isEmpty && (decide (n < gmax l) && decide (64 ≤ gmax l - n))
def rcame (l : List UInt64) (n : UInt64) : Bool := decide (n ∈ l) && !old l n
def rchk (l : List UInt64) (n : UInt64) : Nat := if rcame l n || old l n then 10 else 0
theorem gmax_take (l : List UInt64) (k : Nat) (h : k < l.length) : gmax (l.take (k + 1)) = if gmax (l.take k) < l.getD k 0 then l.getD k 0 else gmax (l.take k) := by
  unfold gmax
  rw [List.take_succ_eq_append_getElem h, List.foldl_append]
  simp [List.getD_eq_getElem?_getD, List.getElem?_eq_getElem h]
theorem gmax_all (l : List UInt64) : gmax (l.take l.length) = gmax l := by rw [List.take_length]
/-- escutcheonref18.Greatest -/
theorem rgreatest (n : Nat) (l : List UInt64) (hn : l.length = n) (hb : n ≤ 9223372036854775807) : Good Try.prog 21 [.c (.ro n (u64s l))] [] (.t [.c (c64 (gmax l)), .c (.bool (!l.isEmpty))]) [] := by
  refine good_frm 26 Try.func21 rfl rfl rfl rfl rfl rfl ?_
  refine awp_seq ?_
  refine rl ?_
  refine G (q_as (s := sc (c64 0)) ?_)
  refine As ?_
  refine gend ?_
  refine awp_seq ?_
  refine rl ?_
  refine G (q_as (s := sc (c64 0)) ?_)
  refine gend ?_
  refine awp_seq ?_
  refine awp_seq ?_
  refine rl ?_
  refine G (q_as (s := sc (cn 0)) ?_)
  refine gend ?_
  refine awp_block ?_
  refine awp_loop (fun x : {k : Nat // k ≤ n} => ⟨frm 26 [(0, sc (.ro n (u64s l))), (4, sc (c64 (gmax (l.take x.1)))), (5, sc (cn x.1))], []⟩) (fun x => n - x.1) ⟨0, Nat.zero_le _⟩ (sle_sub ⟨rfl, rfl, rfl, trivial⟩ rfl) fun x => ?_   -- live: [0, 4, 5]
  refine awp_seq ?_
  refine awp_seq ?_
  refine rl ?_
  refine Mv ?_
  refine Mv ?_
  refine G (q_leno ?_)
  refine G (q_lssn ?_)
  refine gend ?_
  refine cnd (fun hc1 => ?_) (fun hc1 => ?_); rotate_left
  · refine awp_exit ?_
    refine awp_seq ?_
    refine rl ?_
    refine Mv ?_
    refine Mv ?_
    refine G (q_leno ?_)
    refine G (q_gtrn (y := 0) ?_)
    refine As ?_
    refine As ?_
    refine gend ?_
    refine awp_ret ?_
    exact fp2 (hv := by
        have hx : x.1 = l.length := by have := x.2; omega
        rw [hx, gmax_all]; cases l <;> simp at hn ⊢ <;> omega)
  refine awp_skip ?_
  refine awp_seq ?_
  refine awp_block ?_
  refine awp_seq ?_
  refine rl ?_
  refine Mv ?_
  refine Mv ?_
  refine G (q_ixo1 ?_)
  refine G (q_ldrd ?_)
  refine Mv ?_
  refine G (q_gtr64 ?_)
  refine gend ?_
  refine cnd (fun hc2 => ?_) (fun hc2 => ?_)
  · refine rl ?_
    refine Mv ?_
    refine Mv ?_
    refine G (q_ixo1 ?_)
    refine G (q_ldrd ?_)
    refine As ?_
    refine gend ?_
    refine rl ?_
    refine Mv ?_
    refine G (q_addn (y := 1) ?_)
    refine As ?_
    refine gend ?_
    exact ⟨⟨x.1 + 1, by omega⟩, by show n - (x.1 + 1) < n - x.1; omega, sle_sub ⟨rfl, by rw [gmax_take l x.1 (by omega), if_pos hc2]; rfl, rfl, trivial⟩ rfl⟩   -- endloop 1
  refine awp_skip ?_
  refine rl ?_
  refine Mv ?_
  refine G (q_addn (y := 1) ?_)
  refine As ?_
  refine gend ?_
  exact ⟨⟨x.1 + 1, by omega⟩, by show n - (x.1 + 1) < n - x.1; omega, sle_sub ⟨rfl, by rw [gmax_take l x.1 (by omega), if_neg hc2]; rfl, rfl, trivial⟩ rfl⟩   -- endloop 1
/-- escutcheonref18.Old -/
theorem rold (n : Nat) (l : List UInt64) (x : UInt64) (hn : l.length = n) (hb : n ≤ 9223372036854775807) : Good Try.prog 20 [.c (.ro n (u64s l)), .c (c64 x)] [] (sc (.bool (old l x))) [] := by
  refine good_frm 24 Try.func20 rfl rfl rfl rfl rfl rfl ?_
  refine awp_seq ?_
  refine rl ?_
  refine As ?_
  refine gend ?_
  refine awp_seq ?_
  refine rl ?_
  refine Mv ?_
  refine G (q_callp (rgreatest n l hn hb/- escutcheon/escutcheonref18.Greatest -/) ?_)
  refine G (q_mv (s := .t _) ?_)
  refine G (q_ext (y := .c _) ?_)
  refine G (q_ext (y := .c _) ?_)
  refine As ?_
  refine As ?_
  refine gend ?_
  refine awp_seq ?_
  refine rl ?_
  refine Mv ?_
  refine Mv ?_
  refine Asp 13 (fun hb2 => ?_) (fun hb2 => ?_)
  · refine Gg (q_mv (s := .v (.c _)) ?_)
    refine Gg (q_mv (s := .v (.c _)) ?_)
    refine Gg (q_lss64 ?_)
    refine G (q_pkt ?_)
    refine Mv ?_
    refine Aspd 18 (fun hb7 => ?_) (fun hb7 => ?_)
    · refine Gg (q_mv (s := .v (.c _)) ?_)
      refine Gg (q_mv (s := .v (.c _)) ?_)
      refine Gg (q_sub64 ?_)
      refine Gg (q_geq64 (y := 64) ?_)
      refine G (q_pkt ?_)
      refine As ?_
      refine gend ?_
      refine awp_ret ?_
      exact fp1 (hv := by simp [old, *])
    refine Gn ?_
    refine Gn ?_
    refine Gn ?_
    refine Gn ?_
    refine G (q_pkf ?_)
    refine As ?_
    refine gend ?_
    refine awp_ret ?_
    exact fp1 (hv := by simp [old, *])
  refine Gn ?_
  refine Gn ?_
  refine Gn ?_
  refine G (q_pkf ?_)
  refine Mv ?_
  refine Gn ?_
  refine Gn ?_
  refine Gn ?_
  refine Gn ?_
  refine G (q_pkf ?_)
  refine As ?_
  refine gend ?_
  refine awp_ret ?_
  exact fp1 (hv := by simp [old, *])
/-- escutcheonref18.Came -/
theorem rcame' (n : Nat) (l : List UInt64) (x : UInt64) (hn : l.length = n) (hb : n ≤ 9223372036854775807) : Good Try.prog 19 [.c (.ro n (u64s l)), .c (c64 x)] [] (sc (.bool (rcame l x))) [] := by
  refine good_frm 22 Try.func19 rfl rfl rfl rfl rfl rfl ?_
  refine awp_seq ?_
  refine rl ?_
  refine As ?_
  refine gend ?_
  refine awp_seq ?_
  refine awp_seq ?_
  refine rl ?_
  refine G (q_as (s := sc (cn 0)) ?_)
  refine gend ?_
  refine awp_block ?_
  refine awp_loop (fun y : {k : Nat // k ≤ n ∧ ∀ j, j < k → l.getD j 0 ≠ x} => ⟨frm 22 [(0, sc (.ro n (u64s l))), (1, sc (c64 x)), (5, sc (cn y.1))], []⟩) (fun y => n - y.1) ⟨0, Nat.zero_le _, fun _ h => by omega⟩ (sle_sub ⟨rfl, rfl, rfl, trivial⟩ rfl) fun y => ?_   -- live: [0, 1, 5]
  refine awp_seq ?_
  refine awp_seq ?_
  refine rl ?_
  refine Mv ?_
  refine Mv ?_
  refine G (q_leno ?_)
  refine G (q_lssn ?_)
  refine gend ?_
  refine cnd (fun hc1 => ?_) (fun hc1 => ?_); rotate_left
  · refine awp_exit ?_
    refine awp_seq ?_
    refine rl ?_
    refine As ?_
    refine gend ?_
    refine awp_ret ?_
    exact fp1 (hv := by
      have hx : y.1 = n := by have := y.2.1; omega
      have : ¬ x ∈ l := fun hm => by obtain ⟨j, hj, he⟩ := List.mem_iff_getElem.1 hm; exact y.2.2 j (by omega) (by rw [List.getD_eq_getElem?_getD, List.getElem?_eq_getElem hj]; exact he)
      simp [rcame, this])
  refine awp_skip ?_
  refine awp_seq ?_
  refine awp_block ?_
  refine awp_seq ?_
  refine rl ?_
  refine Mv ?_
  refine Mv ?_
  refine G (q_ixo1 ?_)
  refine G (q_ldrd ?_)
  refine Mv ?_
  refine G (q_eql64 ?_)
  refine gend ?_
  refine cnd (fun hc2 => ?_) (fun hc2 => ?_)
  · refine awp_seq ?_
    refine rl ?_
    refine Mv ?_
    refine Mv ?_
    refine G (q_callp (rold n l x hn hb/- escutcheon/escutcheonref18.Old -/) ?_)
    refine G (q_notb ?_)
    refine As ?_
    refine gend ?_
    refine awp_ret ?_
    exact fp1 (hv := by
      have hm : x ∈ l := by rw [← hc2, List.getD_eq_getElem?_getD, List.getElem?_eq_getElem (by omega)]; simp
      simp [rcame, hm])
  refine awp_skip ?_
  refine rl ?_
  refine Mv ?_
  refine G (q_addn (y := 1) ?_)
  refine As ?_
  refine gend ?_
  exact ⟨⟨y.1 + 1, by omega, fun j hj => by by_cases hjy : j = y.1; (subst hjy; exact hc2); exact y.2.2 j (by omega)⟩, by show n - (y.1 + 1) < n - y.1; omega, sle_sub ⟨rfl, rfl, rfl, trivial⟩ rfl⟩   -- endloop 1
/-- escutcheonref18.Check -/
theorem rcheck (n : Nat) (l : List UInt64) (x : UInt64) (hn : l.length = n) (hb : n ≤ 9223372036854775807) : Good Try.prog 12 [.c (.ro n (u64s l)), .c (c64 x)] [] (sc (cn (rchk l x))) [] := by
  refine good_frm 13 Try.func12 rfl rfl rfl rfl rfl rfl ?_
  refine awp_seq ?_
  refine rl ?_
  refine G (q_as (s := sc (cn 0)) ?_)
  refine gend ?_
  refine awp_seq ?_
  refine awp_seq ?_
  refine rl ?_
  refine Mv ?_
  refine Mv ?_
  refine G (q_callp (rcame' n l x hn hb/- escutcheon/escutcheonref18.Came -/) ?_)
  refine Mv ?_
  refine Asp 8 (fun hb4 => ?_) (fun hb4 => ?_)
  · refine Gn ?_
    refine Gn ?_
    refine Gn ?_
    refine G (q_pkt ?_)
    refine gend ?_
    refine cndT ?_
    refine awp_seq ?_
    refine rl ?_
    refine G (q_as (s := sc (cn 10)) ?_)
    refine gend ?_
    refine awp_ret ?_
    exact fp1 (hv := by simp [rchk, *])
  refine Gg (q_mv (s := .v (.c _)) ?_)
  refine Gg (q_mv (s := .v (.c _)) ?_)
  refine Gg (q_callp (rold n l x hn hb/- escutcheon/escutcheonref18.Old -/) ?_)
  refine G (q_pkf ?_)
  refine gend ?_
  refine cndb (fun hc1 => ?_) (fun hc1 => ?_)
  · refine awp_seq ?_
    refine rl ?_
    refine G (q_as (s := sc (cn 10)) ?_)
    refine gend ?_
    refine awp_ret ?_
    exact fp1 (hv := by simp [rchk, *])
  refine awp_skip ?_
  refine awp_seq ?_
  refine rl ?_
  refine G (q_as (s := sc (cn 0)) ?_)
  refine gend ?_
  refine awp_ret ?_
  exact fp1 (hv := by simp [rchk, *])
end Go.Proofs.Ytgojpagfgfknkaa

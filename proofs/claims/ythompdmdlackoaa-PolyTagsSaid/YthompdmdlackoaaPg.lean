/- What functions of the program do, walked over the abstract machine. -/
import Derived.Test.YthompdmdlackoaaPe
namespace Go.Proofs.Ythompdmdlackoaa
open Go Go.Abs Go.Proofs

/-- The carries of a sum, byte by byte. -/
def cy (f h : Nat → UInt8) : Nat → Nat
  | 0 => 0
  | i + 1 => (cy f h i + (f i).toNat + (h i).toNat) / 256
theorem cy_le (f h : Nat → UInt8) : ∀ i, cy f h i ≤ 1
  | 0 => Nat.zero_le _
  | i + 1 => by
    have := cy_le f h i
    have := (f i).toNat_lt
    have := (h i).toNat_lt
    rw [cy]; omega
/-- The key with another second half. -/
def ot (key s : List UInt8) : Nat → List UInt8
  | 0 => key
  | i + 1 => (ot key s i).set (16 + i) (s.getD i 0)
theorem ot_len (key s : List UInt8) : ∀ i, (ot key s i).length = key.length
  | 0 => rfl
  | i + 1 => by rw [ot, List.length_set, ot_len]
/-- The key's second half. -/
def sh (key : List UInt8) : Nat → List UInt8
  | 0 => List.replicate 16 0
  | i + 1 => (sh key i).set i (key.getD (16 + i) 0)
theorem sh_len (key : List UInt8) : ∀ i, (sh key i).length = 16
  | 0 => by simp [sh]
  | i + 1 => by rw [sh, List.length_set, sh_len]
/-- The key whose first half counts for nothing. -/
def zk (key : List UInt8) : Nat → List UInt8
  | 0 => key
  | i + 1 => if i % 4 = 3 then ((zk key i).set i 0).set i 240 else (zk key i).set i 0
theorem zk_len (key : List UInt8) : ∀ i, (zk key i).length = key.length
  | 0 => rfl
  | i + 1 => by rw [zk]; split <;> simp [zk_len key i]
/-- escutcheonlaw09.PolySums -/
theorem sums_long (key s l : List UInt8) (n : Nat) (hl : l.length = n) (hn : n ≤ 140737488351232) (h : 300 < n) : Good Try.prog 5 [.a (u8s key), .a (u8s s), .c (.ro n (u8s l))] [] (sc (.bool true)) [] := by
  refine good_frm 74 Try.func5 rfl rfl rfl rfl rfl rfl ?_
  refine awp_seq ?_
  refine rl ?_
  refine G (q_boxa ?_)
  refine G (q_boxa ?_)
  refine As ?_
  refine gend ?_
  refine awp_seq ?_
  refine awp_seq ?_
  refine rl ?_
  refine Mv ?_
  refine G (q_leno ?_)
  refine G (q_gtrn (y := 300) ?_)
  refine gend ?_
  refine cndY (fun hc1 => ?_) ?_; rotate_left
  · exact h
  refine awp_seq ?_
  refine rl ?_
  refine G (q_callp (known/- escutcheon/escutcheonlaw09.known -/) ?_)
  refine As ?_
  refine gend ?_
  refine awp_ret ?_
  exact fp1
set_option maxHeartbeats 800000 in
/-- escutcheonlaw09.PolySums -/
theorem sums_ (key s l A B O : List UInt8) (n : Nat) (hkey : key.length = 32) (hl : l.length = n) (hn : n ≤ 140737488351232) (hs : s.length = 16) (hs3 : n ≤ 300) (hA : tag key l = A) (hO : ot key s 16 = O) (hB : tag O l = B) (hq : ∀ i, i < 16 → (cy (fun i => A.getD i 0) (fun i => s.getD i 0) i + (A.getD i 0).toNat + (s.getD i 0).toNat) % 256 = (cy (fun i => B.getD i 0) (fun i => key.getD (16 + i) 0) i + (B.getD i 0).toNat + (key.getD (16 + i) 0).toNat) % 256) : Good Try.prog 5 [.a (u8s key), .a (u8s s), .c (.ro n (u8s l))] [] (sc (.bool true)) [] := by
  have hAl : A.length = 16 := by rw [← hA]; exact tag_len _ _
  have hBl : B.length = 16 := by rw [← hB]; exact tag_len _ _
  have hOl : O.length = 32 := by rw [← hO, ot_len, hkey]
  have gA := tag_ key [l] 1 hkey rfl (by decide) (by simp; omega)
  have gB := tag_ O [l] 1 hOl rfl (by decide) (by simp; omega)
  rw [show ([l] : List (List UInt8)).flatten = l by simp] at gA gB
  rw [hA] at gA
  rw [hB] at gB
  refine good_frm 74 Try.func5 rfl rfl rfl rfl rfl rfl ?_
  refine awp_seq ?_
  refine rl ?_
  refine G (q_boxa ?_)
  refine G (q_boxa ?_)
  refine As ?_
  refine gend ?_
  refine awp_seq ?_
  refine awp_seq ?_
  refine rl ?_
  refine Mv ?_
  refine G (q_leno ?_)
  refine G (q_gtrn (y := 300) ?_)
  refine gend ?_
  refine cndN (fun hc1 => ?_) ?_; rotate_left
  · omega
  refine awp_skip ?_
  refine awp_seq ?_
  refine rl ?_
  refine G (q_ldw  ?_ (hl := (mapc_length ..).trans hkey))
  refine Mv ?_
  refine G (q_bsl (fkc rfl (et rfl) rfl (Nat.le_of_ble_eq_true rfl) (fk0 ?_)))
  refine G (q_callp (gA/- escutcheon/poly.Tag -/) ?_)
  refine G (q_al ?_)
  refine G0 (q_stw  ?_ (hl := (mapc_length ..).trans hAl) (hc := (mapc_length ..).trans (List.length_replicate ..)))
  refine gend ?_
  refine awp_seq ?_
  refine rl ?_
  refine G (q_ldw  ?_ (hl := (mapc_length ..).trans hkey))
  refine G (q_al ?_)
  refine G0 (q_stw  ?_ (hl := (mapc_length ..).trans hkey) (hc := (mapc_length ..).trans (List.length_replicate ..)))
  refine gend ?_
  refine awp_seq ?_
  refine awp_seq ?_
  refine rl ?_
  refine G (q_as (s := sc (cn 0)) ?_)
  refine gend ?_
  refine awp_block ?_
  refine awp_loop (fun x : {i : Nat // i ≤ 16} => ⟨frm 74 [(2, sc (.ro n (u8s l))), (3, sc (.ptr 0 0)), (4, sc (.ptr 1 0)), (7, sc (.ptr 3 0)), (8, sc (.ptr 4 0)), (9, sc (cn x.1))], [some (u8s key), some (u8s s), some [.ro n (u8s l)], some (u8s A), some (u8s (ot key s x.1))]⟩) (fun x => 16 - x.1) ⟨0, Nat.zero_le _⟩ (sle_sub ⟨rfl, rfl, rfl, rfl, rfl, rfl, trivial⟩ rfl) fun x => ?_   -- live: [4, 8, 9]
  have ho := (ot_len key s x.1).trans hkey
  refine awp_seq ?_
  refine awp_seq ?_
  refine rl ?_
  refine Mv ?_
  refine G (q_lssn (y := 16) ?_)
  refine gend ?_
  refine cnd (fun hc2 => ?_) (fun hc2 => ?_); rotate_left
  · refine awp_exit ?_
    rw [show x.1 = 16 from (by have := x.2; omega)]
    rw [hO]
    refine awp_seq ?_
    refine rl ?_
    refine G (q_ldw  ?_ (hl := (mapc_length ..).trans hOl))
    refine Mv ?_
    refine G (q_bsl (fkc rfl (et rfl) rfl (Nat.le_of_ble_eq_true rfl) (fk0 ?_)))
    refine G (q_callp (gB/- escutcheon/poly.Tag -/) ?_)
    refine G (q_al ?_)
    refine G0 (q_stw  ?_ (hl := (mapc_length ..).trans hBl) (hc := (mapc_length ..).trans (List.length_replicate ..)))
    refine gend ?_
    refine awp_seq ?_
    refine rl ?_
    refine G (q_as (s := sc (cn 0)) ?_)
    refine G (q_as (s := sc (cn 0)) ?_)
    refine gend ?_
    refine awp_seq ?_
    refine awp_seq ?_
    refine rl ?_
    refine G (q_as (s := sc (cn 0)) ?_)
    refine gend ?_
    refine awp_block ?_
    refine awp_loop (fun y : {i : Nat // i ≤ 16} => ⟨frm 74 [(3, sc (.ptr 0 0)), (4, sc (.ptr 1 0)), (7, sc (.ptr 3 0)), (10, sc (.ptr 6 0)), (11, sc (cn (cy (fun i => A.getD i 0) (fun i => s.getD i 0) y.1))), (12, sc (cn (cy (fun i => B.getD i 0) (fun i => key.getD (16 + i) 0) y.1))), (13, sc (cn y.1))], [some (u8s key), some (u8s s), some [.ro n (u8s l)], some (u8s A), some (u8s O), some [.ro n (u8s l)], some (u8s B)]⟩) (fun y => 16 - y.1) ⟨0, Nat.zero_le _⟩ (sle_sub ⟨rfl, rfl, rfl, rfl, rfl, rfl, rfl, trivial⟩ rfl) fun y => ?_   -- live: [3, 4, 7, 10, 11, 12, 13]
    have h1 := cy_le (fun i => A.getD i 0) (fun i => s.getD i 0) y.1
    have h2 := cy_le (fun i => B.getD i 0) (fun i => key.getD (16 + i) 0) y.1
    have hb1 := (A.getD y.1 0).toNat_lt
    have hb2 := (B.getD y.1 0).toNat_lt
    have hb3 := (s.getD y.1 0).toNat_lt
    have hb4 := (key.getD (16 + y.1) 0).toNat_lt
    refine awp_seq ?_
    refine awp_seq ?_
    refine rl ?_
    refine Mv ?_
    refine G (q_lssn (y := 16) ?_)
    refine gend ?_
    refine cnd (fun hc3 => ?_) (fun hc3 => ?_); rotate_left
    · refine awp_exit ?_
      rw [show y.1 = 16 from (by have := y.2; omega)]
      refine awp_seq ?_
      refine rl ?_
      refine G (q_callp (known/- escutcheon/escutcheonlaw09.known -/) ?_)
      refine As ?_
      refine gend ?_
      refine awp_ret ?_
      exact fp1
    refine awp_skip ?_
    refine awp_seq ?_
    refine awp_block ?_
    refine awp_seq ?_
    refine rdl [] [] [] ?_
    refine Dp (fun _ => q_mv (s := .v (.c _)) ⟨rfl, rfl⟩) ?_
    refine Dp (fun _ => q_mv (s := .v (.c _)) ⟨rfl, rfl⟩) ?_
    refine Dp (fun _ => q_ixp1 ⟨rfl, rfl⟩) ?_
    refine DLp ?_
    refine Dp (fun _ => q_cv8_0 ⟨rfl, rfl⟩) ?_
    refine Dp (fun _ => q_addn ⟨rfl, rfl⟩) ?_
    refine Dp (fun _ => q_mv (s := .v (.c _)) ⟨rfl, rfl⟩) ?_
    refine Dp (fun _ => q_ixp1 ⟨rfl, rfl⟩) ?_
    refine DLp ?_
    refine Dp (fun _ => q_cv8_0 ⟨rfl, rfl⟩) ?_
    refine Dp (fun _ => q_addn ⟨rfl, rfl⟩) ?_
    refine Dp (fun _ => q_as (s := .v (.c _)) ⟨rfl, rfl⟩) ?_
    refine dend ?_
    refine awp_seq ?_
    refine rdl [] [] [] ?_
    refine Dp (fun _ => q_mv (s := .v (.c _)) ⟨rfl, rfl⟩) ?_
    refine Dp (fun _ => q_mv (s := .v (.c _)) ⟨rfl, rfl⟩) ?_
    refine Dp (fun _ => q_ixp1 ⟨rfl, rfl⟩) ?_
    refine DLp ?_
    refine Dp (fun _ => q_cv8_0 ⟨rfl, rfl⟩) ?_
    refine Dp (fun _ => q_addn ⟨rfl, rfl⟩) ?_
    refine Dp (fun _ => q_mv (s := .v (.c _)) ⟨rfl, rfl⟩) ?_
    refine Dp (fun _ => q_addn (x := 16) ⟨rfl, rfl⟩) ?_
    refine Dp (fun _ => q_ixp1 ⟨rfl, rfl⟩) ?_
    refine DLp ?_
    refine Dp (fun _ => q_cv8_0 ⟨rfl, rfl⟩) ?_
    refine Dp (fun _ => q_addn ⟨rfl, rfl⟩) ?_
    refine Dp (fun _ => q_as (s := .v (.c _)) ⟨rfl, rfl⟩) ?_
    refine dend ?_
    refine awp_seq ?_
    refine awp_seq ?_
    refine rl ?_
    refine Mv ?_
    refine G (q_remn (y := 256) ?_)
    refine Mv ?_
    refine G (q_remn (y := 256) ?_)
    refine G (q_neqn ?_)
    refine gend ?_
    refine cndN (fun hc4 => ?_) ?_; rotate_left
    · exact fun hne => hne (hq y.1 (by omega))
    refine awp_skip ?_
    refine rl ?_
    refine Mv ?_
    refine G (q_quon (y := 256) ?_)
    refine Mv ?_
    refine G (q_quon (y := 256) ?_)
    refine As ?_
    refine As ?_
    refine gend ?_
    refine rl ?_
    refine Mv ?_
    refine G (q_addn (y := 1) ?_)
    refine As ?_
    refine gend ?_
    exact ⟨⟨y.1 + 1, by omega⟩, by show 16 - (y.1 + 1) < 16 - y.1; omega, sle_sub ⟨rfl, rfl, rfl, rfl, rfl, rfl, rfl, trivial⟩ rfl⟩   -- endloop 2
  refine awp_skip ?_
  refine awp_seq ?_
  refine awp_block ?_
  refine rl ?_
  refine Mv ?_
  refine G (q_addn (x := 16) ?_)
  refine Mv ?_
  refine G (q_ixp1 ?_)
  refine G (q_ldp ?_)
  refine G (q_ixp1 ?_)
  refine G0 (q_stm ?_)
  refine gend ?_
  refine rl ?_
  refine Mv ?_
  refine G (q_addn (y := 1) ?_)
  refine As ?_
  refine gend ?_
  exact ⟨⟨x.1 + 1, by omega⟩, by show 16 - (x.1 + 1) < 16 - x.1; omega, sle_sub ⟨rfl, rfl, rfl, rfl, rfl, rfl, trivial⟩ rfl⟩   -- endloop 1
/-- escutcheonlaw09.PolyNoughts -/
theorem noughts_long (key l : List UInt8) (n : Nat) (hl : l.length = n) (hn : n ≤ 140737488351232) (h : 600 < n) : Good Try.prog 4 [.a (u8s key), .c (.ro n (u8s l))] [] (sc (.bool true)) [] := by
  refine good_frm 53 Try.func4 rfl rfl rfl rfl rfl rfl ?_
  refine awp_seq ?_
  refine rl ?_
  refine G (q_boxa ?_)
  refine As ?_
  refine gend ?_
  refine awp_seq ?_
  refine awp_seq ?_
  refine rl ?_
  refine Mv ?_
  refine G (q_leno ?_)
  refine G (q_gtrn (y := 600) ?_)
  refine gend ?_
  refine cndY (fun hc1 => ?_) ?_; rotate_left
  · exact h
  refine awp_seq ?_
  refine rl ?_
  refine G (q_callp (known/- escutcheon/escutcheonlaw09.known -/) ?_)
  refine As ?_
  refine gend ?_
  refine awp_ret ?_
  exact fp1
set_option maxHeartbeats 800000 in
/-- escutcheonlaw09.PolyNoughts -/
theorem noughts_ (key l M Z : List UInt8) (n : Nat) (hkey : key.length = 32) (hl : l.length = n) (hn : n ≤ 140737488351232) (hs6 : n ≤ 600) (hS : sh key 16 = M) (hZ : zk key 16 = Z) (h0 : tag key [] = M) (h1 : tag Z l = M) : Good Try.prog 4 [.a (u8s key), .c (.ro n (u8s l))] [] (sc (.bool true)) [] := by
  have hSl : M.length = 16 := by rw [← hS, sh_len]
  have hZl : Z.length = 32 := by rw [← hZ, zk_len, hkey]
  have g0 := tag_ key [] 0 hkey rfl (by decide) (by simp)
  have g00 := tag_ key [[], []] 2 hkey rfl (by decide) (by simp)
  have g1 := tag_ Z [l] 1 hZl rfl (by decide) (by simp; omega)
  rw [show ([l] : List (List UInt8)).flatten = l by simp] at g1
  rw [show ([] : List (List UInt8)).flatten = [] by simp] at g0
  rw [show ([[], []] : List (List UInt8)).flatten = [] by simp] at g00
  rw [h0] at g0 g00
  rw [h1] at g1
  refine good_frm 53 Try.func4 rfl rfl rfl rfl rfl rfl ?_
  refine awp_seq ?_
  refine rl ?_
  refine G (q_boxa ?_)
  refine As ?_
  refine gend ?_
  refine awp_seq ?_
  refine awp_seq ?_
  refine rl ?_
  refine Mv ?_
  refine G (q_leno ?_)
  refine G (q_gtrn (y := 600) ?_)
  refine gend ?_
  refine cndN (fun hc1 => ?_) ?_; rotate_left
  · omega
  refine awp_skip ?_
  refine awp_seq ?_
  refine rl ?_
  refine G (q_al ?_)
  refine gend ?_
  refine awp_seq ?_
  refine awp_seq ?_
  refine rl ?_
  refine G (q_as (s := sc (cn 0)) ?_)
  refine gend ?_
  refine awp_block ?_
  refine awp_loop (fun x : {i : Nat // i ≤ 16} => ⟨frm 53 [(1, sc (.ro n (u8s l))), (2, sc (.ptr 0 0)), (5, sc (.ptr 1 0)), (6, sc (cn x.1))], [some (u8s key), some (u8s (sh key x.1))]⟩) (fun x => 16 - x.1) ⟨0, Nat.zero_le _⟩ (sle_sub ⟨rfl, rfl, rfl, rfl, trivial⟩ rfl) fun x => ?_   -- live: [2, 5, 6]
  have hs := sh_len key x.1
  refine awp_seq ?_
  refine awp_seq ?_
  refine rl ?_
  refine Mv ?_
  refine G (q_lssn (y := 16) ?_)
  refine gend ?_
  refine cnd (fun hc2 => ?_) (fun hc2 => ?_); rotate_left
  · refine awp_exit ?_
    rw [show x.1 = 16 from (by have := x.2; omega)]
    rw [hS]
    refine awp_seq ?_
    refine awp_seq ?_
    refine rdl [1, 6, 7] [0, 0, 0, 1, 1, 1, 1, 2, 1, 3, 3] [0, 1, 1, 1, 1, 2, 2, 3, 3, 3, 3] ?_
    refine DLw  ?_ (hl := (mapc_length ..).trans hkey)
    refine De (q_callp (g0) (pw ?_) (ha := caa (et rfl) sees_m (cac rfl sees_nil8 ca0)))
    refine DLw  ?_ (hl := (mapc_length ..).trans hSl)
    refine Dp (fun _ => q_nea8 ⟨rfl, rfl⟩) ?_
    refine Dp (fun _ => q_mv (s := .v (.c _)) ⟨rfl, rfl⟩) ?_
    refine Dkf 26 (fun hb5 => ?_) ?_; rotate_left
    · simp
    refine DLwg  ?_ (hl := (mapc_length ..).trans hkey)
    refine Deg (q_bsl (fkc rfl rfl rfl (Nat.le_of_ble_eq_true rfl) (fkc rfl rfl rfl (Nat.le_of_ble_eq_true rfl) (fk0 (pw ?_)))))
    refine Deg (q_callp (g00) (pw ?_) (ha := caa (et rfl) sees_m (cac (et rfl) (sees_parts rfl rfl (pq_nil (pq_nil pq0))) ca0)))
    refine DLwg  ?_ (hl := (mapc_length ..).trans hSl)
    refine Dpg (fun _ => q_nea8 ⟨rfl, rfl⟩) ?_
    refine Dp (fun _ => q_pkf ⟨rfl, rfl⟩) ?_
    refine dend ?_
    refine cndnN (fun hc3 => ?_) ?_; rotate_left
    · simp
    refine awp_skip ?_
    refine awp_seq ?_
    refine awp_seq ?_
    refine rl ?_
    refine G (q_as (s := sc (cn 0)) ?_)
    refine gend ?_
    refine awp_block ?_
    refine awp_loop (fun y : {i : Nat // i ≤ 16} => ⟨frm 53 [(1, sc (.ro n (u8s l))), (2, sc (.ptr 0 0)), (5, sc (.ptr 1 0)), (7, sc (cn y.1))], [some (u8s (zk key y.1)), some (u8s M), some [.nils, .nils]]⟩) (fun y => 16 - y.1) ⟨0, Nat.zero_le _⟩ (sle_sub ⟨rfl, rfl, rfl, rfl, trivial⟩ rfl) fun y => ?_   -- live: [2, 7]
    have hz := (zk_len key y.1).trans hkey
    refine awp_seq ?_
    refine awp_seq ?_
    refine rl ?_
    refine Mv ?_
    refine G (q_lssn (y := 16) ?_)
    refine gend ?_
    refine cnd (fun hc4 => ?_) (fun hc4 => ?_); rotate_left
    · refine awp_exit ?_
      rw [show y.1 = 16 from (by have := y.2; omega)]
      rw [hZ]
      refine awp_seq ?_
      refine rdl [2, 3, 7] [0, 0, 0, 1, 0, 2, 2, 2, 3, 3] [1, 0, 1, 2, 2, 2, 2, 3, 3, 3] ?_
      refine DLw  ?_ (hl := (mapc_length ..).trans hZl)
      refine Dp (fun _ => q_mv (s := .v (.c _)) ⟨rfl, rfl⟩) ?_
      refine De (q_bsl (fkc rfl (et rfl) rfl (Nat.le_of_ble_eq_true rfl) (fk0 (pw ?_))))
      refine De (q_callp (g1) (pw ?_) (ha := caa (et rfl) sees_m (cac (et rfl) (sees_parts rfl rfl (pq_ro hl pq0)) ca0)))
      refine DLw  ?_ (hl := (mapc_length ..).trans hSl)
      refine Dp (fun _ => q_eqa8 ⟨rfl, rfl⟩) ?_
      refine Dp (fun _ => q_mv (s := .v (.c _)) ⟨rfl, rfl⟩) ?_
      refine Dknd 50 (fun hb7 => ?_) ?_; rotate_left
      · simp
      refine Deg (q_callp (known/- escutcheon/escutcheonlaw09.known -/) (pw ?_))
      refine Dp (fun _ => q_pkt ⟨rfl, rfl⟩) ?_
      refine Dp (fun _ => q_as (s := .v (.c _)) ⟨rfl, rfl⟩) ?_
      refine dend ?_
      refine awp_ret ?_
      exact fp1
    refine awp_skip ?_
    refine awp_seq ?_
    refine awp_block ?_
    refine awp_seq ?_
    refine rl ?_
    refine Mv ?_
    refine G (q_ixp1 ?_)
    refine G0 (q_stm (x := (0 : UInt8)) ?_)
    refine gend ?_
    refine awp_seq ?_
    refine rl ?_
    refine Mv ?_
    refine G (q_remn (y := 4) ?_)
    refine G (q_eqln (y := 3) ?_)
    refine gend ?_
    refine cnd (fun hc5 => ?_) (fun hc5 => ?_)
    · refine rl ?_
      refine Mv ?_
      refine G (q_ixp1 ?_)
      refine G0 (q_stm (x := (240 : UInt8)) ?_)
      refine gend ?_
      refine rl ?_
      refine Mv ?_
      refine G (q_addn (y := 1) ?_)
      refine As ?_
      refine gend ?_
      exact ⟨⟨y.1 + 1, by omega⟩, by show 16 - (y.1 + 1) < 16 - y.1; omega, sle_sub ⟨rfl, rfl, rfl, rfl, trivial⟩ (congrArg (fun z => [some (u8s z), some (u8s M), some [.nils, .nils]]) (by rw [zk]; first | exact (if_pos (by assumption)).symm | exact (if_neg (by assumption)).symm))⟩   -- endloop 2
    refine awp_skip ?_
    refine rl ?_
    refine Mv ?_
    refine G (q_addn (y := 1) ?_)
    refine As ?_
    refine gend ?_
    exact ⟨⟨y.1 + 1, by omega⟩, by show 16 - (y.1 + 1) < 16 - y.1; omega, sle_sub ⟨rfl, rfl, rfl, rfl, trivial⟩ (congrArg (fun z => [some (u8s z), some (u8s M), some [.nils, .nils]]) (by rw [zk]; first | exact (if_pos (by assumption)).symm | exact (if_neg (by assumption)).symm))⟩   -- endloop 2
  refine awp_skip ?_
  refine awp_seq ?_
  refine awp_block ?_
  refine rl ?_
  refine Mv ?_
  refine Mv ?_
  refine G (q_addn (x := 16) ?_)
  refine G (q_ixp1 ?_)
  refine G (q_ldp ?_)
  refine G (q_ixp1 ?_)
  refine G0 (q_stm ?_)
  refine gend ?_
  refine rl ?_
  refine Mv ?_
  refine G (q_addn (y := 1) ?_)
  refine As ?_
  refine gend ?_
  exact ⟨⟨x.1 + 1, by omega⟩, by show 16 - (x.1 + 1) < 16 - x.1; omega, sle_sub ⟨rfl, rfl, rfl, rfl, trivial⟩ rfl⟩   -- endloop 1
end Go.Proofs.Ythompdmdlackoaa

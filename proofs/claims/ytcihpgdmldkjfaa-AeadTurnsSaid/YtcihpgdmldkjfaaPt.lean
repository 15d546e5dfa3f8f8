/- What functions of the program do, walked over the abstract machine. -/
import Derived.Test.YtcihpgdmldkjfaaPo
namespace Go.Proofs.Ytcihpgdmldkjfaa.Po
open Go Go.Abs Go.Proofs

theorem slc_eq {b q q' n n' z : Nat} (h : q = q') (h' : n = n') : sc (.slc b q n z) = sc (.slc b q' n' z) := by rw [h, h']
def sp {α : Type} (a b : List α) (q : Nat) : List α := a.take q ++ (b ++ a.drop (q + b.length))
theorem splice_cpy {α : Type} {k : IntKind} {g : α → Int} {a b : List α} {q j c d : Nat} : splice (mapc k g a) q ((((mapc k g b).drop c).take d).take j) = mapc k g (sp a (((b.drop c).take d).take j) q) := by
  simp [mapc, splice, sp]
/-- A piece: bytes, and a one behind them. -/
def piece (m : List UInt8) (q k : Nat) : List UInt8 := (sp (List.replicate 24 0) (((m.drop q).take (k * 1)).take (min k 24 * 1)) 0).set k 1
abbrev raw (m : List UInt8) (q k : Nat) : List UInt8 := sp (List.replicate 24 0) (((m.drop q).take (k * 1)).take (min k 24 * 1)) 0
theorem raw_len (m : List UInt8) (q k : Nat) (hk : k ≤ 16) : (raw m q k).length = 24 := by
  simp [raw, sp]
  omega
theorem piece_len (m : List UInt8) (q k : Nat) (hk : k ≤ 16) : (piece m q k).length = 24 := by
  simp [piece, sp]
  omega
abbrev pat (P : List UInt8) (i : Nat) : List UInt8 := (P.drop (0 + 8 * i * 1)).take ((24 - 8 * i) * 1)
def pacc (m : List UInt8) (r : List UInt64) : Nat → List UInt64
  | 0 => List.replicate 3 0
  | j + 1 => small (times (addp (pacc m r j) (fun i => half (pat (piece m (min (16 * j) m.length) (min 16 (m.length - min (16 * j) m.length))) i)) 3).1 r)
theorem pacc_len (m : List UInt8) (r : List UInt64) : ∀ j, (pacc m r j).length = 3
  | 0 => by simp [pacc]
  | j + 1 => by rw [pacc]; exact small_len _ (times_len _ _)
abbrev kq (key : List UInt8) (q : Nat) : List UInt8 := (key.drop (0 + q * 1)).take ((32 - q) * 1)
abbrev rk (key : List UInt8) : List UInt64 := [half key &&& 1152921487695413247, half (kq key 8) &&& 1152921487695413244]
def outb (lo hi : UInt64) : Nat → List UInt8
  | 0 => List.replicate 16 0
  | i + 1 => ((outb lo hi i).set i (shr64n lo (8 * i)).toUInt8).set (8 + i) (shr64n hi (8 * i)).toUInt8
theorem outb_len (lo hi : UInt64) : ∀ i, (outb lo hi i).length = 16
  | 0 => by simp [outb]
  | i + 1 => by rw [outb, List.length_set, List.length_set, outb_len]
def fin2 (a : List UInt64) (key : List UInt8) : List UInt8 :=
  outb (a.getD 0 0 + half (kq key 16) + 0) (a.getD 1 0 + half (kq key 24) + addc (a.getD 0 0) (half (kq key 16)) 0) 8
def tag (key : List UInt8) (m : List UInt8) : List UInt8 := fin2 (pacc m (rk key) ((m.length + 15) / 16)) key
set_option maxHeartbeats 800000 in
/-- poly.Tag -/
theorem tag_ (key : List UInt8) (ps : List (List UInt8)) (k : Nat) (hkey : key.length = 32) (hk : ps.length = k) (hk9 : k ≤ 100000) (hm : ps.flatten.length ≤ 100000) : Good Try.prog 21 [.a (u8s key), .c (.ro k (pcs ps))] [] (sa (u8s (tag key ps.flatten))) [] := by
  refine good_frm 111 Try.func21 rfl rfl rfl rfl rfl rfl ?_
  refine awp_seq ?_
  refine rl ?_
  refine G (q_boxa ?_)
  refine G (q_al ?_)
  refine gend ?_
  refine awp_seq ?_
  refine rdl [7, 8] [0, 0, 0, 0, 0, 0, 0, 0, 1] [1, 1, 1, 1, 1, 1, 1, 1, 2] ?_
  refine DSp 0 rfl (fun _ hv => q_slp_no ⟨rfl, rfl⟩ (hp := hv)) ?_
  refine DSp 0 rfl (fun _ _ => q_callp (half_ 32 key (by omega) hkey (by decide)/- escutcheon/poly.half -/) ⟨rfl, rfl⟩) ?_
  refine Dp (fun _ => q_and64 (y := 1152921487695413247) ⟨rfl, rfl⟩) ?_
  refine DSp 0 rfl (fun _ hv => q_slp_lo (j := 8) ⟨rfl, rfl⟩ (hp := hv)) ?_
  refine DSp 0 rfl (fun _ _ => q_callp (half_ 24 (kq key 8) (by simp [hkey]) (by simp [hkey]) (by decide)/- escutcheon/poly.half -/) ⟨rfl, rfl⟩) ?_
  refine Dp (fun _ => q_and64 (y := 1152921487695413244) ⟨rfl, rfl⟩) ?_
  refine Dp (fun _ => q_bla (fkc rfl (et rfl) rfl (Nat.le_of_ble_eq_true rfl) (fkc rfl (et rfl) rfl (Nat.le_of_ble_eq_true rfl) (fk0 ⟨rfl, rfl⟩)))) ?_
  refine De (q_al (pw ?_))
  refine De0 (q_stw (pw ?_))
  refine dend ?_
  refine awp_seq ?_
  refine rl ?_
  refine As ?_
  refine gend ?_
  refine awp_seq ?_
  refine awp_seq ?_
  refine rl ?_
  refine Mv ?_
  refine G (q_leno ?_)
  refine G (q_mv (s := sc (cn 0)) ?_)
  refine gend ?_
  refine awp_block ?_
  refine awp_loop (fun x : {s : Nat × List UInt8 × Nat // s.1 ≤ k ∧ s.2.1 = fl ps s.1 ∧ s.2.1.length = s.2.2} => ⟨frm 111 [(2, sc (.ptr 0 0)), (4, sc (.ptr 1 0)), (5, sc (.ptr 2 0)), (6, sc (.slc 3 0 x.1.2.2 1)), (26, sc (.ro k (pcs ps))), (27, sc (cn k)), (28, sc (cn x.1.1))], [some (u8s key), some (u8s (List.replicate 16 0)), some (u64s (rk key)), some (u8s x.1.2.1)]⟩) (fun x => k - x.1.1) ⟨(0, [], 0), Nat.zero_le _, rfl, rfl⟩ (sle_empty 1 (Nat.zero_le _) ⟨.inl rfl, .inl rfl, .inl rfl, .inr ⟨rfl, rfl⟩, .inl rfl, .inl rfl, .inl rfl, trivial⟩) fun x => ?_
  have h1 := x.2.1
  have h2 := x.2.2.1
  have hmn := x.2.2.2
  have hpl : (pcs ps).length = k := by simp [pcs, hk]
  refine awp_seq ?_
  refine rl ?_
  refine G (q_lssn ?_)
  refine gend ?_
  refine awp_seq ?_
  refine cnd (fun hc1 => ?_) (fun hc1 => ?_); rotate_left
  · refine awp_exit ?_
    have hik : x.1.1 = k := by omega
    have hmf : x.1.2.1 = ps.flatten := by rw [h2, fl, hik, ← hk, List.take_length]
    generalize x.1.2.1 = m at hmf hmn ⊢
    generalize x.1.2.2 = n at hmn ⊢
    have hn9 : n ≤ 100000 := by rw [← hmn, hmf]; exact hm
    refine awp_seq ?_
    refine rl ?_
    refine G (q_al ?_)
    refine gend ?_
    refine awp_seq ?_
    refine awp_block ?_
    refine awp_loop (fun j : {i : Nat // i ≤ (n + 15) / 16} => ⟨frm 111 [(2, sc (.ptr 0 0)), (4, sc (.ptr 1 0)), (5, sc (.ptr 2 0)), (6, sc (.slc 3 (min (16 * j.1) n) (n - min (16 * j.1) n) 1)), (9, sc (.ptr 4 0))], [some (u8s key), some (u8s (List.replicate 16 0)), some (u64s (rk key)), some (u8s m), some (u64s (pacc m (rk key) j.1))]⟩) (fun j => (n + 15) / 16 - j.1) ⟨0, Nat.zero_le _⟩ (sle_sub ⟨rfl, rfl, rfl, slc_eq (by simp) (by simp), rfl, trivial⟩ rfl) fun j => ?_   -- live: [5, 6, 9]
    have ha := pacc_len m (rk key) j.1
    refine awp_seq ?_
    refine awp_seq ?_
    refine rl ?_
    refine Mv ?_
    refine G (q_lenc ?_)
    refine G (q_gtrn (y := 0) ?_)
    refine gend ?_
    refine cnd (fun hc2 => ?_) (fun hc2 => ?_); rotate_left
    · refine awp_exit ?_
      rw [show j.1 = (n + 15) / 16 from (by have := j.2; omega)]
      have ha := pacc_len m (rk key) ((n + 15) / 16)
      generalize hA : pacc m (rk key) ((n + 15) / 16) = A at ha ⊢
      refine awp_seq ?_
      refine rdl [] [] [] ?_
      refine Dp (fun _ => q_ixp1 ⟨rfl, rfl⟩) ?_
      refine DLp ?_
      refine DSp 0 rfl (fun _ hv => q_slp_lo (j := 16) ⟨rfl, rfl⟩ (hp := hv)) ?_
      refine DSp 0 rfl (fun _ _ => q_callp (half_ 16 (kq key 16) (by simp [hkey]) (by simp [hkey]) (by decide)/- escutcheon/poly.half -/) ⟨rfl, rfl⟩) ?_
      refine Dp (fun _ => q_addx (c := 0) ⟨rfl, rfl⟩) ?_
      refine Dp (fun _ => q_mv (s := .t _) ⟨rfl, rfl⟩) ?_
      refine Dp (fun _ => q_ext (y := .c _) ⟨rfl, rfl⟩) ?_
      refine Dp (fun _ => q_ext (y := .c _) ⟨rfl, rfl⟩) ?_
      refine Dp (fun _ => q_as (s := .v (.c _)) ⟨rfl, rfl⟩) ?_
      refine Dp (fun _ => q_as (s := .v (.c _)) ⟨rfl, rfl⟩) ?_
      refine dend ?_
      refine awp_seq ?_
      refine rdl [] [] [] ?_
      refine Dp (fun _ => q_ixp1 ⟨rfl, rfl⟩) ?_
      refine DLp ?_
      refine DSp 0 rfl (fun _ hv => q_slp_lo (j := 24) ⟨rfl, rfl⟩ (hp := hv)) ?_
      refine DSp 0 rfl (fun _ _ => q_callp (half_ 8 (kq key 24) (by simp [hkey]) (by simp [hkey]) (by decide)/- escutcheon/poly.half -/) ⟨rfl, rfl⟩) ?_
      refine Dp (fun _ => q_mv (s := .v (.c _)) ⟨rfl, rfl⟩) ?_
      refine Dp (fun _ => q_addx ⟨rfl, rfl⟩) ?_
      refine Dp (fun _ => q_mv (s := .t _) ⟨rfl, rfl⟩) ?_
      refine Dp (fun _ => q_ext (y := .c _) ⟨rfl, rfl⟩) ?_
      refine Dp (fun _ => q_ext (y := .c _) ⟨rfl, rfl⟩) ?_
      refine Dp (fun _ => q_as (s := .v (.c _)) ⟨rfl, rfl⟩) ?_
      refine Dp (fun _ => q_as (s := .v (.c _)) ⟨rfl, rfl⟩) ?_
      refine dend ?_
      refine awp_seq ?_
      refine awp_seq ?_
      refine rl ?_
      refine G (q_mv (s := sc (cn 0)) ?_)
      refine gend ?_
      refine awp_block ?_
      refine awp_loop (fun y : {i : Nat // i ≤ 8} => ⟨frm 111 [(4, sc (.ptr 1 0)), (14, sc (c64 (A.getD 0 0 + half (kq key 16) + 0))), (16, sc (c64 (A.getD 1 0 + half (kq key 24) + addc (A.getD 0 0) (half (kq key 16)) 0))), (91, sc (cn y.1))], [some (u8s key), some (u8s (outb (A.getD 0 0 + half (kq key 16) + 0) (A.getD 1 0 + half (kq key 24) + addc (A.getD 0 0) (half (kq key 16)) 0) y.1)), some (u64s (rk key)), some (u8s m), some (u64s A)]⟩) (fun y => 8 - y.1) ⟨0, Nat.zero_le _⟩ (sle_sub ⟨rfl, rfl, rfl, rfl, trivial⟩ rfl) fun y => ?_   -- live: [4, 14, 16, 91]
      have hl := outb_len (A.getD 0 0 + half (kq key 16) + 0) (A.getD 1 0 + half (kq key 24) + addc (A.getD 0 0) (half (kq key 16)) 0) y.1
      refine awp_seq ?_
      refine rl ?_
      refine G (q_lssn (y := 8) ?_)
      refine gend ?_
      refine awp_seq ?_
      refine cnd (fun hc3 => ?_) (fun hc3 => ?_); rotate_left
      · refine awp_exit ?_
        rw [show y.1 = 8 from (by have := y.2; omega)]
        have hl := outb_len (A.getD 0 0 + half (kq key 16) + 0) (A.getD 1 0 + half (kq key 24) + addc (A.getD 0 0) (half (kq key 16)) 0) 8
        refine awp_seq ?_
        refine rl ?_
        refine G (q_ldw  ?_ (hl := (mapc_length ..).trans hl))
        refine G0 (q_stw  ?_ (hl := (mapc_length ..).trans hl) (hc := (mapc_length ..).trans hl))
        refine gend ?_
        refine awp_ret ?_
        exact fpc (t := 41) (a := 4) (hn := by exact (mapc_length ..).trans hl) (hv := by rw [tag, ← hmf, hmn, hA]; rfl)
      refine awp_skip ?_
      refine awp_seq ?_
      refine awp_block ?_
      refine awp_seq ?_
      refine rl ?_
      refine Mv ?_
      refine As ?_
      refine gend ?_
      refine rdl [14, 16] [0, 0, 0, 0, 0, 0, 0, 0, 0, 0, 0, 0, 0, 0, 0, 1, 1] [0, 1, 1, 0, 0, 0, 0, 0, 1, 1, 1, 1, 1, 0, 1, 1, 2] ?_
      refine Dp (fun _ => q_mv (s := .v (.c _)) ⟨rfl, rfl⟩) ?_
      refine Dp (fun _ => q_mv (s := .v (.c _)) ⟨rfl, rfl⟩) ?_
      refine Dp (fun _ => q_addn (x := 8) ⟨rfl, rfl⟩) ?_
      refine Dp (fun _ => q_mv (s := .v (.c _)) ⟨rfl, rfl⟩) ?_
      refine Dp (fun _ => q_mv (s := .v (.c _)) ⟨rfl, rfl⟩) ?_
      refine Dp (fun _ => q_muln (x := 8) ⟨rfl, rfl⟩) ?_
      refine Dp (fun _ => q_shr64_0 ⟨rfl, rfl⟩) ?_
      refine Dp (fun _ => q_cv64_8 ⟨rfl, rfl⟩) ?_
      refine Dp (fun _ => q_mv (s := .v (.c _)) ⟨rfl, rfl⟩) ?_
      refine Dp (fun _ => q_mv (s := .v (.c _)) ⟨rfl, rfl⟩) ?_
      refine Dp (fun _ => q_muln (x := 8) ⟨rfl, rfl⟩) ?_
      refine Dp (fun _ => q_shr64_0 ⟨rfl, rfl⟩) ?_
      refine Dp (fun _ => q_cv64_8 ⟨rfl, rfl⟩) ?_
      refine Dp (fun _ => q_ixp1 ⟨rfl, rfl⟩) ?_
      refine De0 (q_stm (pw ?_))
      refine Dp (fun _ => q_ixp1 ⟨rfl, rfl⟩) ?_
      refine De0 (q_stm (pw ?_))
      refine dend ?_
      refine rl ?_
      refine G (q_addn (y := 1) ?_)
      refine Mv ?_
      refine gend ?_
      exact ⟨⟨y.1 + 1, by omega⟩, by show 8 - (y.1 + 1) < 8 - y.1; omega, sle_sub ⟨rfl, rfl, rfl, rfl, trivial⟩ rfl⟩   -- endloop 3
    refine awp_skip ?_
    refine awp_block ?_
    refine awp_seq ?_
    refine rl ?_
    refine Mv ?_
    refine G (q_lenc ?_)
    refine G (q_minn (x := 16) ?_)
    refine As ?_
    refine gend ?_
    refine awp_seq ?_
    refine rl ?_
    refine G (q_al ?_)
    refine gend ?_
    refine awp_seq ?_
    refine rdl [4] [] [0, 0, 0, 0, 1] ?_
    refine DSp 5 rfl (fun _ hv => q_slp_no ⟨rfl, rfl⟩ (hp := hv)) ?_
    refine Dp (fun _ => q_mv (s := .v (.c _)) ⟨rfl, rfl⟩) ?_
    refine Dp (fun _ => q_mv (s := .v (.c _)) ⟨rfl, rfl⟩) ?_
    refine Dp (fun _ => q_sls_hi ⟨rfl, rfl⟩) ?_
    refine De (q_cpy (pw ?_))
    refine dend ?_
    have hsp := raw_len m (min (16 * j.1) n) (min 16 (n - min (16 * j.1) n)) (by omega)
    refine reheap [(2, sc (.ptr 0 0)), (4, sc (.ptr 1 0)), (5, sc (.ptr 2 0)), (6, sc (.slc 3 (min (16 * j.1) n) (n - min (16 * j.1) n) 1)), (9, sc (.ptr 4 0)), (10, sc (cn (min 16 (n - min (16 * j.1) n)))), (11, sc (.ptr 5 0))] [some (u8s key), some (u8s (List.replicate 16 0)), some (u64s (rk key)), some (u8s m), some (u64s (pacc m (rk key) j.1)), some (u8s (raw m (min (16 * j.1) n) (min 16 (n - min (16 * j.1) n))))] ?_ ⟨rfl, rfl, rfl, rfl, rfl, rfl, rfl, trivial⟩ (congrArg (fun z => [some (u8s key), some (u8s (List.replicate 16 0)), some (u64s (rk key)), some (u8s m), some (u64s (pacc m (rk key) j.1)), some z]) splice_cpy)
    refine awp_seq ?_
    refine rl ?_
    refine Mv ?_
    refine G (q_ixp1 ?_)
    refine G0 (q_stm (x := (1 : UInt8)) ?_)
    refine gend ?_
    refine awp_seq ?_
    refine rl ?_
    refine G (q_as (s := sc (c64 0)) ?_)
    refine gend ?_
    refine awp_seq ?_
    refine awp_seq ?_
    refine rl ?_
    refine G (q_mv (s := sc (cn 0)) ?_)
    refine gend ?_
    obtain ⟨P, hP'⟩ : ∃ P, piece m (min (16 * j.1) n) (min 16 (n - min (16 * j.1) n)) = P := ⟨_, rfl⟩
    have hP : P.length = 24 := by rw [← hP']; exact piece_len _ _ _ (by omega)
    refine awp_block ?_
    refine awp_loop (fun e : {i : Nat // i ≤ 3} => ⟨frm 111 [(2, sc (.ptr 0 0)), (4, sc (.ptr 1 0)), (5, sc (.ptr 2 0)), (6, sc (.slc 3 (min (16 * j.1) n) (n - min (16 * j.1) n) 1)), (9, sc (.ptr 4 0)), (10, sc (cn (min 16 (n - min (16 * j.1) n)))), (11, sc (.ptr 5 0)), (12, sc (c64 (addp (pacc m (rk key) j.1) (fun i => half (pat P i)) e.1).2)), (49, sc (cn e.1))], [some (u8s key), some (u8s (List.replicate 16 0)), some (u64s (rk key)), some (u8s m), some (u64s (addp (pacc m (rk key) j.1) (fun i => half (pat P i)) e.1).1), some (u8s P)]⟩) (fun e => 3 - e.1) ⟨0, Nat.zero_le _⟩ (sle_sub ⟨rfl, rfl, rfl, rfl, rfl, rfl, rfl, rfl, rfl, trivial⟩ (by rw [← hP']; rfl)) fun e => ?_   -- live: [9, 11, 12, 49]
    have hi := (addp_len (pacc m (rk key) j.1) (fun i => half (pat P i)) e.1).trans ha
    have hc := addp_le (pacc m (rk key) j.1) (fun i => half (pat P i)) e.1
    refine awp_seq ?_
    refine rl ?_
    refine G (q_lssn (y := 3) ?_)
    refine gend ?_
    refine awp_seq ?_
    refine cnd (fun hc4 => ?_) (fun hc4 => ?_); rotate_left
    · refine awp_exit ?_
      rw [show e.1 = 3 from (by have := e.2; omega)]
      have hi := (addp_len (pacc m (rk key) j.1) (fun i => half (pat P i)) 3).trans ha
      have gT := times_ (addp (pacc m (rk key) j.1) (fun i => half (pat P i)) 3).1 (rk key) hi rfl
      have gS := small_ (times (addp (pacc m (rk key) j.1) (fun i => half (pat P i)) 3).1 (rk key)) (times_len ..)
      have hpa : pacc m (rk key) (j.1 + 1) = small (times (addp (pacc m (rk key) j.1) (fun i => half (pat P i)) 3).1 (rk key)) := by rw [pacc, hmn, hP']
      rw [← hpa] at gS
      have hA1 := pacc_len m (rk key) (j.1 + 1)
      obtain ⟨A1, hA1e⟩ : ∃ A, pacc m (rk key) (j.1 + 1) = A := ⟨_, rfl⟩
      rw [hA1e] at gS hA1
      generalize times (addp (pacc m (rk key) j.1) (fun i => half (pat P i)) 3).1 (rk key) = T at gT gS
      refine awp_seq ?_
      refine rl ?_
      refine G (q_ldw  ?_ (hl := (mapc_length ..).trans hi))
      refine G (q_ldw  ?_ (hl := (mapc_length ..).trans rfl))
      refine G (q_callp (gT/- escutcheon/poly.times -/) ?_)
      refine G (q_callp (gS/- escutcheon/poly.small -/) ?_)
      refine G0 (q_stw  ?_ (hl := (mapc_length ..).trans hA1) (hc := (mapc_length ..).trans hi))
      refine gend ?_
      refine rl ?_
      refine Mv ?_
      refine Mv ?_
      refine G (q_sls_lo ?_)
      refine As ?_
      refine gend ?_
      exact ⟨⟨j.1 + 1, by omega⟩, by show (n + 15) / 16 - (j.1 + 1) < (n + 15) / 16 - j.1; omega, sle_view [0, 1, 2, 3, 4] (fun p h => absurd h (Nat.not_lt_zero _)) (by decide) ⟨rfl, rfl, rfl, slc_eq (by show _ = min (16 * (j.1 + 1)) n; omega) (by show _ = n - min (16 * (j.1 + 1)) n; omega), rfl, trivial⟩ (vh5 (pick_m rfl) (pick_m rfl) (pick_m rfl) (pick_m rfl) (pick_m (congrArg (fun z => some (some (u64s z))) hA1e.symm)))⟩   -- endloop 2
    refine awp_skip ?_
    refine awp_seq ?_
    refine awp_block ?_
    refine awp_seq ?_
    refine rl ?_
    refine Mv ?_
    refine As ?_
    refine gend ?_
    refine rdl [14] [0, 0, 0, 0, 0, 0, 0, 0, 0, 0, 0, 0, 0, 0, 0, 1] [0, 0, 0, 0, 0, 0, 0, 0, 0, 0, 0, 0, 1, 0, 1, 1] ?_
    refine Dp (fun _ => q_mv (s := .v (.c _)) ⟨rfl, rfl⟩) ?_
    refine Dp (fun _ => q_mv (s := .v (.c _)) ⟨rfl, rfl⟩) ?_
    refine Dp (fun _ => q_ixp1 ⟨rfl, rfl⟩) ?_
    refine DLp ?_
    refine Dp (fun _ => q_mv (s := .v (.c _)) ⟨rfl, rfl⟩) ?_
    refine Dp (fun _ => q_muln (x := 8) ⟨rfl, rfl⟩) ?_
    refine DSp 5 rfl (fun _ hv => q_slp_lo ⟨rfl, rfl⟩ (hp := hv)) ?_
    refine DSp 5 rfl (fun _ _ => q_callp (half_ (24 - 8 * e.1) (pat P e.1) (by simp [hP]; omega) (by simp [hP]) (by omega)/- escutcheon/poly.half -/) ⟨rfl, rfl⟩) ?_
    refine Dp (fun _ => q_mv (s := .v (.c _)) ⟨rfl, rfl⟩) ?_
    refine Dp (fun _ => q_addx ⟨rfl, rfl⟩) ?_
    refine Dp (fun _ => q_mv (s := .t _) ⟨rfl, rfl⟩) ?_
    refine Dp (fun _ => q_ext (y := .c _) ⟨rfl, rfl⟩) ?_
    refine Dp (fun _ => q_ext (y := .c _) ⟨rfl, rfl⟩) ?_
    refine Dp (fun _ => q_ixp1 ⟨rfl, rfl⟩) ?_
    refine De0 (q_stm (pw ?_))
    refine Dp (fun _ => q_as (s := .v (.c _)) ⟨rfl, rfl⟩) ?_
    refine dend ?_
    refine rl ?_
    refine G (q_addn (y := 1) ?_)
    refine Mv ?_
    refine gend ?_
    exact ⟨⟨e.1 + 1, by omega⟩, by show 3 - (e.1 + 1) < 3 - e.1; omega, sle_sub ⟨rfl, rfl, rfl, rfl, rfl, rfl, rfl, rfl, rfl, trivial⟩ rfl⟩   -- endloop 4
  refine awp_skip ?_
  refine awp_seq ?_
  refine awp_block ?_
  refine awp_seq ?_
  refine rl ?_
  have hb := fl_le ps x.1.1 (by omega)
  rw [← h2, hmn] at hb
  refine G (q_ixo1 ?_)
  refine G (q_ldrd ?_ (hc := pcs_at (by omega)))
  refine As ?_
  refine gend ?_
  refine rl ?_
  refine Mv ?_
  refine Mv ?_
  refine G (q_app ?_)
  refine As ?_
  refine gend ?_
  refine rl ?_
  refine G (q_addn (y := 1) ?_)
  refine Mv ?_
  refine gend ?_
  exact ⟨⟨(x.1.1 + 1, x.1.2.1 ++ ps.getD x.1.1 [], x.1.2.2 + (ps.getD x.1.1 []).length), by show x.1.1 + 1 ≤ k; omega, by show x.1.2.1 ++ _ = fl ps (x.1.1 + 1); rw [fl_succ ps x.1.1 (by omega), h2], by show (x.1.2.1 ++ _).length = _; rw [List.length_append, hmn]⟩, by show k - (x.1.1 + 1) < k - x.1.1; omega, sle_view [0, 1, 2, 4] (fun p h => absurd h (Nat.not_lt_zero _)) (by decide) ⟨rfl, rfl, rfl, rfl, rs_pcs, rfl, rfl, trivial⟩ (vh4 (pick_m rfl) (pick_m rfl) (pick_m rfl) (pick_m (congrArg (fun z => some (some z)) (mapc_append ..))))⟩   -- endloop 1
theorem tag_len (key m : List UInt8) : (tag key m).length = 16 := by unfold tag fin2; exact outb_len _ _ _
end Go.Proofs.Ytcihpgdmldkjfaa.Po

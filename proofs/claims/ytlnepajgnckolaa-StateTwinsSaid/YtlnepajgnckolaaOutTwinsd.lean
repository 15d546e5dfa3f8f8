/- Texts that the proof stands on, put together: the abstract machine, and what functions do over it. -/
import Derived.Test.YtlnepajgnckolaaOutTwinsc
/- What functions of the program do, walked over the abstract machine. -/
namespace Go.Proofs.Ytlnepajgnckolaa.Po
open Go Go.Abs Go.Proofs

set_option maxRecDepth 20000
theorem slc_eq {b q q' n n' z : Nat} (h : q = q') (h' : n = n') : sc (.slc b q n z) = sc (.slc b q' n' z) := by rw [h, h']
def sp {α : Type} (a b : List α) (q : Nat) : List α := a.take q ++ (b ++ a.drop (q + b.length))
theorem splice_cpy {α : Type} {k : IntKind} {g : α → Int} {a b : List α} {q j c d : Nat} : splice (mapc k g a) q ((((mapc k g b).drop c).take d).take j) = mapc k g (sp a (((b.drop c).take d).take j) q) := by
  simp [mapc, splice, sp]
/-- A piece: bytes, and a one behind them. -/
def piece (m : List UInt8) (q k : Nat) : List UInt8 := (sp (List.replicate 24 0) (((m.drop q).take (k * 1)).take (min k 24 * 1)) 0).set k 1
abbrev raw (m : List UInt8) (q k : Nat) : List UInt8 := sp (List.replicate 24 0) (((m.drop q).take (k * 1)).take (min k 24 * 1)) 0
theorem raw_len (m : List UInt8) (q k : Nat) (hk : k ≤ 16) : (raw m q k).length = 24 := by
  simp [raw, sp]
  omega
theorem piece_len (m : List UInt8) (q k : Nat) (hk : k ≤ 16) : (piece m q k).length = 24 := by
  simp [piece, sp]
  omega
abbrev pat (P : List UInt8) (i : Nat) : List UInt8 := (P.drop (0 + 8 * i * 1)).take ((24 - 8 * i) * 1)
def pacc (m : List UInt8) (r : List UInt64) : Nat → List UInt64
  | 0 => List.replicate 3 0
  | j + 1 => small (times (addp (pacc m r j) (fun i => half (pat (piece m (min (16 * j) m.length) (min 16 (m.length - min (16 * j) m.length))) i)) 3).1 r)
theorem pacc_len (m : List UInt8) (r : List UInt64) : ∀ j, (pacc m r j).length = 3
  | 0 => by simp [pacc]
  | j + 1 => by rw [pacc]; exact small_len _ (times_len _ _)
abbrev kq (key : List UInt8) (q : Nat) : List UInt8 := (key.drop (0 + q * 1)).take ((32 - q) * 1)
abbrev rk (key : List UInt8) : List UInt64 := [half key &&& 1152921487695413247, half (kq key 8) &&& 1152921487695413244]
def outb (lo hi : UInt64) : Nat → List UInt8
  | 0 => List.replicate 16 0
  | i + 1 => ((outb lo hi i).set i (shr64n lo (8 * i)).toUInt8).set (8 + i) (shr64n hi (8 * i)).toUInt8
theorem outb_len (lo hi : UInt64) : ∀ i, (outb lo hi i).length = 16
  | 0 => by simp [outb]
  | i + 1 => by rw [outb, List.length_set, List.length_set, outb_len]
def fin2 (a : List UInt64) (key : List UInt8) : List UInt8 :=
  outb (a.getD 0 0 + half (kq key 16) + 0) (a.getD 1 0 + half (kq key 24) + addc (a.getD 0 0) (half (kq key 16)) 0) 8
def tag (key : List UInt8) (m : List UInt8) : List UInt8 := fin2 (pacc m (rk key) ((m.length + 15) / 16)) key
set_option maxHeartbeats 800000 in
/-- poly.Tag -/
theorem tag_ (key : List UInt8) (ps : List (List UInt8)) (k : Nat) (hkey : key.length = 32) (hk : ps.length = k) (hk9 : k ≤ 100000) (hm : ps.flatten.length ≤ 100000) : Good Try.prog 66 [.a (u8s key), .c (.ro k (pcs ps))] [] (sa (u8s (tag key ps.flatten))) [] := by
  refine good_frm 111 Try.func66 rfl rfl rfl rfl rfl rfl ?_
  refine awp_seq ?_
  refine rl ?_
  refine G (q_boxa ?_)
  refine G (q_al ?_)
  refine gend ?_
  refine awp_seq ?_
  refine rdl [7, 8] [0, 0, 0, 0, 0, 0, 0, 0, 1] [1, 1, 1, 1, 1, 1, 1, 1, 2] ?_
  refine DSp 0 rfl (fun _ hv => q_slp_no ⟨rfl, rfl⟩ (hp := hv)) ?_
  refine DSp 0 rfl (fun _ _ => q_callp (half_ 32 key (by omega) hkey (by decide)/- escutcheon/poly.half -/) ⟨rfl, rfl⟩) ?_
  refine Dp (fun _ => q_and64 (y := 1152921487695413247) ⟨rfl, rfl⟩) ?_
  refine DSp 0 rfl (fun _ hv => q_slp_lo (j := 8) ⟨rfl, rfl⟩ (hp := hv)) ?_
  refine DSp 0 rfl (fun _ _ => q_callp (half_ 24 (kq key 8) (by simp [hkey]) (by simp [hkey]) (by decide)/- escutcheon/poly.half -/) ⟨rfl, rfl⟩) ?_
  refine Dp (fun _ => q_and64 (y := 1152921487695413244) ⟨rfl, rfl⟩) ?_
  refine Dp (fun _ => q_bla (fkc rfl (et rfl) rfl (Nat.le_of_ble_eq_true rfl) (fkc rfl (et rfl) rfl (Nat.le_of_ble_eq_true rfl) (fk0 ⟨rfl, rfl⟩)))) ?_
  refine De (q_al (pw ?_))
  refine De0 (q_stw (pw ?_))
  refine dend ?_
  refine awp_seq ?_
  refine rl ?_
  refine As ?_
  refine gend ?_
  refine awp_seq ?_
  refine awp_seq ?_
  refine rl ?_
  refine Mv ?_
  refine G (q_leno ?_)
  refine G (q_mv (s := sc (cn 0)) ?_)
  refine gend ?_
  refine awp_block ?_
  refine awp_loop (fun x : {s : Nat × List UInt8 × Nat // s.1 ≤ k ∧ s.2.1 = fl ps s.1 ∧ s.2.1.length = s.2.2} => ⟨frm 111 [(2, sc (.ptr 0 0)), (4, sc (.ptr 1 0)), (5, sc (.ptr 2 0)), (6, sc (.slc 3 0 x.1.2.2 1)), (26, sc (.ro k (pcs ps))), (27, sc (cn k)), (28, sc (cn x.1.1))], [some (u8s key), some (u8s (List.replicate 16 0)), some (u64s (rk key)), some (u8s x.1.2.1)]⟩) (fun x => k - x.1.1) ⟨(0, [], 0), Nat.zero_le _, rfl, rfl⟩ (sle_empty 1 (Nat.zero_le _) ⟨.inl rfl, .inl rfl, .inl rfl, .inr ⟨rfl, rfl⟩, .inl rfl, .inl rfl, .inl rfl, trivial⟩) fun x => ?_
  have h1 := x.2.1
  have h2 := x.2.2.1
  have hmn := x.2.2.2
  have hpl : (pcs ps).length = k := by simp [pcs, hk]
  refine awp_seq ?_
  refine rl ?_
  refine G (q_lssn ?_)
  refine gend ?_
  refine awp_seq ?_
  refine cnd (fun hc1 => ?_) (fun hc1 => ?_); rotate_left
  · refine awp_exit ?_
    have hik : x.1.1 = k := by omega
    have hmf : x.1.2.1 = ps.flatten := by rw [h2, fl, hik, ← hk, List.take_length]
    generalize x.1.2.1 = m at hmf hmn ⊢
    generalize x.1.2.2 = n at hmn ⊢
    have hn9 : n ≤ 100000 := by rw [← hmn, hmf]; exact hm
    refine awp_seq ?_
    refine rl ?_
    refine G (q_al ?_)
    refine gend ?_
    refine awp_seq ?_
    refine awp_block ?_
    refine awp_loop (fun j : {i : Nat // i ≤ (n + 15) / 16} => ⟨frm 111 [(2, sc (.ptr 0 0)), (4, sc (.ptr 1 0)), (5, sc (.ptr 2 0)), (6, sc (.slc 3 (min (16 * j.1) n) (n - min (16 * j.1) n) 1)), (9, sc (.ptr 4 0))], [some (u8s key), some (u8s (List.replicate 16 0)), some (u64s (rk key)), some (u8s m), some (u64s (pacc m (rk key) j.1))]⟩) (fun j => (n + 15) / 16 - j.1) ⟨0, Nat.zero_le _⟩ (sle_sub ⟨rfl, rfl, rfl, slc_eq (by simp) (by simp), rfl, trivial⟩ rfl) fun j => ?_   -- live: [5, 6, 9]
    have ha := pacc_len m (rk key) j.1
    refine awp_seq ?_
    refine awp_seq ?_
    refine rl ?_
    refine Mv ?_
    refine G (q_lenc ?_)
    refine G (q_gtrn (y := 0) ?_)
    refine gend ?_
    refine cnd (fun hc2 => ?_) (fun hc2 => ?_); rotate_left
    · refine awp_exit ?_
      rw [show j.1 = (n + 15) / 16 from (by have := j.2; omega)]
      have ha := pacc_len m (rk key) ((n + 15) / 16)
      generalize hA : pacc m (rk key) ((n + 15) / 16) = A at ha ⊢
      refine awp_seq ?_
      refine rdl [] [] [] ?_
      refine Dp (fun _ => q_ixp1 ⟨rfl, rfl⟩) ?_
      refine DLp ?_
      refine DSp 0 rfl (fun _ hv => q_slp_lo (j := 16) ⟨rfl, rfl⟩ (hp := hv)) ?_
      refine DSp 0 rfl (fun _ _ => q_callp (half_ 16 (kq key 16) (by simp [hkey]) (by simp [hkey]) (by decide)/- escutcheon/poly.half -/) ⟨rfl, rfl⟩) ?_
      refine Dp (fun _ => q_addx (c := 0) ⟨rfl, rfl⟩) ?_
      refine Dp (fun _ => q_mv (s := .t _) ⟨rfl, rfl⟩) ?_
      refine Dp (fun _ => q_ext (y := .c _) ⟨rfl, rfl⟩) ?_
      refine Dp (fun _ => q_ext (y := .c _) ⟨rfl, rfl⟩) ?_
      refine Dp (fun _ => q_as (s := .v (.c _)) ⟨rfl, rfl⟩) ?_
      refine Dp (fun _ => q_as (s := .v (.c _)) ⟨rfl, rfl⟩) ?_
      refine dend ?_
      refine awp_seq ?_
      refine rdl [] [] [] ?_
      refine Dp (fun _ => q_ixp1 ⟨rfl, rfl⟩) ?_
      refine DLp ?_
      refine DSp 0 rfl (fun _ hv => q_slp_lo (j := 24) ⟨rfl, rfl⟩ (hp := hv)) ?_
      refine DSp 0 rfl (fun _ _ => q_callp (half_ 8 (kq key 24) (by simp [hkey]) (by simp [hkey]) (by decide)/- escutcheon/poly.half -/) ⟨rfl, rfl⟩) ?_
      refine Dp (fun _ => q_mv (s := .v (.c _)) ⟨rfl, rfl⟩) ?_
      refine Dp (fun _ => q_addx ⟨rfl, rfl⟩) ?_
      refine Dp (fun _ => q_mv (s := .t _) ⟨rfl, rfl⟩) ?_
      refine Dp (fun _ => q_ext (y := .c _) ⟨rfl, rfl⟩) ?_
      refine Dp (fun _ => q_ext (y := .c _) ⟨rfl, rfl⟩) ?_
      refine Dp (fun _ => q_as (s := .v (.c _)) ⟨rfl, rfl⟩) ?_
      refine Dp (fun _ => q_as (s := .v (.c _)) ⟨rfl, rfl⟩) ?_
      refine dend ?_
      refine awp_seq ?_
      refine awp_seq ?_
      refine rl ?_
      refine G (q_mv (s := sc (cn 0)) ?_)
      refine gend ?_
      refine awp_block ?_
      refine awp_loop (fun y : {i : Nat // i ≤ 8} => ⟨frm 111 [(4, sc (.ptr 1 0)), (14, sc (c64 (A.getD 0 0 + half (kq key 16) + 0))), (16, sc (c64 (A.getD 1 0 + half (kq key 24) + addc (A.getD 0 0) (half (kq key 16)) 0))), (91, sc (cn y.1))], [some (u8s key), some (u8s (outb (A.getD 0 0 + half (kq key 16) + 0) (A.getD 1 0 + half (kq key 24) + addc (A.getD 0 0) (half (kq key 16)) 0) y.1)), some (u64s (rk key)), some (u8s m), some (u64s A)]⟩) (fun y => 8 - y.1) ⟨0, Nat.zero_le _⟩ (sle_sub ⟨rfl, rfl, rfl, rfl, trivial⟩ rfl) fun y => ?_   -- live: [4, 14, 16, 91]
      have hl := outb_len (A.getD 0 0 + half (kq key 16) + 0) (A.getD 1 0 + half (kq key 24) + addc (A.getD 0 0) (half (kq key 16)) 0) y.1
      refine awp_seq ?_
      refine rl ?_
      refine G (q_lssn (y := 8) ?_)
      refine gend ?_
      refine awp_seq ?_
      refine cnd (fun hc3 => ?_) (fun hc3 => ?_); rotate_left
      · refine awp_exit ?_
        rw [show y.1 = 8 from (by have := y.2; omega)]
        have hl := outb_len (A.getD 0 0 + half (kq key 16) + 0) (A.getD 1 0 + half (kq key 24) + addc (A.getD 0 0) (half (kq key 16)) 0) 8
        refine awp_seq ?_
        refine rl ?_
        refine G (q_ldw  ?_ (hl := (mapc_length ..).trans hl))
        refine G0 (q_stw  ?_ (hl := (mapc_length ..).trans hl) (hc := (mapc_length ..).trans hl))
        refine gend ?_
        refine awp_ret ?_
        exact fpc (t := 89) (a := 4) (hn := by exact (mapc_length ..).trans hl) (hv := by rw [tag, ← hmf, hmn, hA]; rfl)
      refine awp_skip ?_
      refine awp_seq ?_
      refine awp_block ?_
      refine awp_seq ?_
      refine rl ?_
      refine Mv ?_
      refine As ?_
      refine gend ?_
      refine rdl [14, 16] [0, 0, 0, 0, 0, 0, 0, 0, 0, 0, 0, 0, 0, 0, 0, 1, 1] [0, 1, 1, 0, 0, 0, 0, 0, 1, 1, 1, 1, 1, 0, 1, 1, 2] ?_
      refine Dp (fun _ => q_mv (s := .v (.c _)) ⟨rfl, rfl⟩) ?_
      refine Dp (fun _ => q_mv (s := .v (.c _)) ⟨rfl, rfl⟩) ?_
      refine Dp (fun _ => q_addn (x := 8) ⟨rfl, rfl⟩) ?_
      refine Dp (fun _ => q_mv (s := .v (.c _)) ⟨rfl, rfl⟩) ?_
      refine Dp (fun _ => q_mv (s := .v (.c _)) ⟨rfl, rfl⟩) ?_
      refine Dp (fun _ => q_muln (x := 8) ⟨rfl, rfl⟩) ?_
      refine Dp (fun _ => q_shr64_0 ⟨rfl, rfl⟩) ?_
      refine Dp (fun _ => q_cv64_8 ⟨rfl, rfl⟩) ?_
      refine Dp (fun _ => q_mv (s := .v (.c _)) ⟨rfl, rfl⟩) ?_
      refine Dp (fun _ => q_mv (s := .v (.c _)) ⟨rfl, rfl⟩) ?_
      refine Dp (fun _ => q_muln (x := 8) ⟨rfl, rfl⟩) ?_
      refine Dp (fun _ => q_shr64_0 ⟨rfl, rfl⟩) ?_
      refine Dp (fun _ => q_cv64_8 ⟨rfl, rfl⟩) ?_
      refine Dp (fun _ => q_ixp1 ⟨rfl, rfl⟩) ?_
      refine De0 (q_stm (pw ?_))
      refine Dp (fun _ => q_ixp1 ⟨rfl, rfl⟩) ?_
      refine De0 (q_stm (pw ?_))
      refine dend ?_
      refine rl ?_
      refine G (q_addn (y := 1) ?_)
      refine Mv ?_
      refine gend ?_
      exact ⟨⟨y.1 + 1, by omega⟩, by show 8 - (y.1 + 1) < 8 - y.1; omega, sle_sub ⟨rfl, rfl, rfl, rfl, trivial⟩ rfl⟩   -- endloop 3
    refine awp_skip ?_
    refine awp_block ?_
    refine awp_seq ?_
    refine rl ?_
    refine Mv ?_
    refine G (q_lenc ?_)
    refine G (q_minn (x := 16) ?_)
    refine As ?_
    refine gend ?_
    refine awp_seq ?_
    refine rl ?_
    refine G (q_al ?_)
    refine gend ?_
    refine awp_seq ?_
    refine rdl [4] [] [0, 0, 0, 0, 1] ?_
    refine DSp 5 rfl (fun _ hv => q_slp_no ⟨rfl, rfl⟩ (hp := hv)) ?_
    refine Dp (fun _ => q_mv (s := .v (.c _)) ⟨rfl, rfl⟩) ?_
    refine Dp (fun _ => q_mv (s := .v (.c _)) ⟨rfl, rfl⟩) ?_
    refine Dp (fun _ => q_sls_hi ⟨rfl, rfl⟩) ?_
    refine De (q_cpy (pw ?_))
    refine dend ?_
    have hsp := raw_len m (min (16 * j.1) n) (min 16 (n - min (16 * j.1) n)) (by omega)
    refine reheap [(2, sc (.ptr 0 0)), (4, sc (.ptr 1 0)), (5, sc (.ptr 2 0)), (6, sc (.slc 3 (min (16 * j.1) n) (n - min (16 * j.1) n) 1)), (9, sc (.ptr 4 0)), (10, sc (cn (min 16 (n - min (16 * j.1) n)))), (11, sc (.ptr 5 0))] [some (u8s key), some (u8s (List.replicate 16 0)), some (u64s (rk key)), some (u8s m), some (u64s (pacc m (rk key) j.1)), some (u8s (raw m (min (16 * j.1) n) (min 16 (n - min (16 * j.1) n))))] ?_ ⟨rfl, rfl, rfl, rfl, rfl, rfl, rfl, trivial⟩ (congrArg (fun z => [some (u8s key), some (u8s (List.replicate 16 0)), some (u64s (rk key)), some (u8s m), some (u64s (pacc m (rk key) j.1)), some z]) splice_cpy)
    refine awp_seq ?_
    refine rl ?_
    refine Mv ?_
    refine G (q_ixp1 ?_)
    refine G0 (q_stm (x := (1 : UInt8)) ?_)
    refine gend ?_
    refine awp_seq ?_
    refine rl ?_
    refine G (q_as (s := sc (c64 0)) ?_)
    refine gend ?_
    refine awp_seq ?_
    refine awp_seq ?_
    refine rl ?_
    refine G (q_mv (s := sc (cn 0)) ?_)
    refine gend ?_
    obtain ⟨P, hP'⟩ : ∃ P, piece m (min (16 * j.1) n) (min 16 (n - min (16 * j.1) n)) = P := ⟨_, rfl⟩
    have hP : P.length = 24 := by rw [← hP']; exact piece_len _ _ _ (by omega)
    refine awp_block ?_
    refine awp_loop (fun e : {i : Nat // i ≤ 3} => ⟨frm 111 [(2, sc (.ptr 0 0)), (4, sc (.ptr 1 0)), (5, sc (.ptr 2 0)), (6, sc (.slc 3 (min (16 * j.1) n) (n - min (16 * j.1) n) 1)), (9, sc (.ptr 4 0)), (10, sc (cn (min 16 (n - min (16 * j.1) n)))), (11, sc (.ptr 5 0)), (12, sc (c64 (addp (pacc m (rk key) j.1) (fun i => half (pat P i)) e.1).2)), (49, sc (cn e.1))], [some (u8s key), some (u8s (List.replicate 16 0)), some (u64s (rk key)), some (u8s m), some (u64s (addp (pacc m (rk key) j.1) (fun i => half (pat P i)) e.1).1), some (u8s P)]⟩) (fun e => 3 - e.1) ⟨0, Nat.zero_le _⟩ (sle_sub ⟨rfl, rfl, rfl, rfl, rfl, rfl, rfl, rfl, rfl, trivial⟩ (by rw [← hP']; rfl)) fun e => ?_   -- live: [9, 11, 12, 49]
    have hi := (addp_len (pacc m (rk key) j.1) (fun i => half (pat P i)) e.1).trans ha
    have hc := addp_le (pacc m (rk key) j.1) (fun i => half (pat P i)) e.1
    refine awp_seq ?_
    refine rl ?_
    refine G (q_lssn (y := 3) ?_)
    refine gend ?_
    refine awp_seq ?_
    refine cnd (fun hc4 => ?_) (fun hc4 => ?_); rotate_left
    · refine awp_exit ?_
      rw [show e.1 = 3 from (by have := e.2; omega)]
      have hi := (addp_len (pacc m (rk key) j.1) (fun i => half (pat P i)) 3).trans ha
      have gT := times_ (addp (pacc m (rk key) j.1) (fun i => half (pat P i)) 3).1 (rk key) hi rfl
      have gS := small_ (times (addp (pacc m (rk key) j.1) (fun i => half (pat P i)) 3).1 (rk key)) (times_len ..)
      have hpa : pacc m (rk key) (j.1 + 1) = small (times (addp (pacc m (rk key) j.1) (fun i => half (pat P i)) 3).1 (rk key)) := by rw [pacc, hmn, hP']
      rw [← hpa] at gS
      have hA1 := pacc_len m (rk key) (j.1 + 1)
      obtain ⟨A1, hA1e⟩ : ∃ A, pacc m (rk key) (j.1 + 1) = A := ⟨_, rfl⟩
      rw [hA1e] at gS hA1
      generalize times (addp (pacc m (rk key) j.1) (fun i => half (pat P i)) 3).1 (rk key) = T at gT gS
      refine awp_seq ?_
      refine rl ?_
      refine G (q_ldw  ?_ (hl := (mapc_length ..).trans hi))
      refine G (q_ldw  ?_ (hl := (mapc_length ..).trans rfl))
      refine G (q_callp (gT/- escutcheon/poly.times -/) ?_)
      refine G (q_callp (gS/- escutcheon/poly.small -/) ?_)
      refine G0 (q_stw  ?_ (hl := (mapc_length ..).trans hA1) (hc := (mapc_length ..).trans hi))
      refine gend ?_
      refine rl ?_
      refine Mv ?_
      refine Mv ?_
      refine G (q_sls_lo ?_)
      refine As ?_
      refine gend ?_
      exact ⟨⟨j.1 + 1, by omega⟩, by show (n + 15) / 16 - (j.1 + 1) < (n + 15) / 16 - j.1; omega, sle_view [0, 1, 2, 3, 4] (fun p h => absurd h (Nat.not_lt_zero _)) (by decide) ⟨rfl, rfl, rfl, slc_eq (by show _ = min (16 * (j.1 + 1)) n; omega) (by show _ = n - min (16 * (j.1 + 1)) n; omega), rfl, trivial⟩ (vh5 (pick_m rfl) (pick_m rfl) (pick_m rfl) (pick_m rfl) (pick_m (congrArg (fun z => some (some (u64s z))) hA1e.symm)))⟩   -- endloop 2
    refine awp_skip ?_
    refine awp_seq ?_
    refine awp_block ?_
    refine awp_seq ?_
    refine rl ?_
    refine Mv ?_
    refine As ?_
    refine gend ?_
    refine rdl [14] [0, 0, 0, 0, 0, 0, 0, 0, 0, 0, 0, 0, 0, 0, 0, 1] [0, 0, 0, 0, 0, 0, 0, 0, 0, 0, 0, 0, 1, 0, 1, 1] ?_
    refine Dp (fun _ => q_mv (s := .v (.c _)) ⟨rfl, rfl⟩) ?_
    refine Dp (fun _ => q_mv (s := .v (.c _)) ⟨rfl, rfl⟩) ?_
    refine Dp (fun _ => q_ixp1 ⟨rfl, rfl⟩) ?_
    refine DLp ?_
    refine Dp (fun _ => q_mv (s := .v (.c _)) ⟨rfl, rfl⟩) ?_
    refine Dp (fun _ => q_muln (x := 8) ⟨rfl, rfl⟩) ?_
    refine DSp 5 rfl (fun _ hv => q_slp_lo ⟨rfl, rfl⟩ (hp := hv)) ?_
    refine DSp 5 rfl (fun _ _ => q_callp (half_ (24 - 8 * e.1) (pat P e.1) (by simp [hP]; omega) (by simp [hP]) (by omega)/- escutcheon/poly.half -/) ⟨rfl, rfl⟩) ?_
    refine Dp (fun _ => q_mv (s := .v (.c _)) ⟨rfl, rfl⟩) ?_
    refine Dp (fun _ => q_addx ⟨rfl, rfl⟩) ?_
    refine Dp (fun _ => q_mv (s := .t _) ⟨rfl, rfl⟩) ?_
    refine Dp (fun _ => q_ext (y := .c _) ⟨rfl, rfl⟩) ?_
    refine Dp (fun _ => q_ext (y := .c _) ⟨rfl, rfl⟩) ?_
    refine Dp (fun _ => q_ixp1 ⟨rfl, rfl⟩) ?_
    refine De0 (q_stm (pw ?_))
    refine Dp (fun _ => q_as (s := .v (.c _)) ⟨rfl, rfl⟩) ?_
    refine dend ?_
    refine rl ?_
    refine G (q_addn (y := 1) ?_)
    refine Mv ?_
    refine gend ?_
    exact ⟨⟨e.1 + 1, by omega⟩, by show 3 - (e.1 + 1) < 3 - e.1; omega, sle_sub ⟨rfl, rfl, rfl, rfl, rfl, rfl, rfl, rfl, rfl, trivial⟩ rfl⟩   -- endloop 4
  refine awp_skip ?_
  refine awp_seq ?_
  refine awp_block ?_
  refine awp_seq ?_
  refine rl ?_
  have hb := fl_le ps x.1.1 (by omega)
  rw [← h2, hmn] at hb
  refine G (q_ixo1 ?_)
  refine G (q_ldrd ?_ (hc := pcs_at (by omega)))
  refine As ?_
  refine gend ?_
  refine rl ?_
  refine Mv ?_
  refine Mv ?_
  refine G (q_app ?_)
  refine As ?_
  refine gend ?_
  refine rl ?_
  refine G (q_addn (y := 1) ?_)
  refine Mv ?_
  refine gend ?_
  exact ⟨⟨(x.1.1 + 1, x.1.2.1 ++ ps.getD x.1.1 [], x.1.2.2 + (ps.getD x.1.1 []).length), by show x.1.1 + 1 ≤ k; omega, by show x.1.2.1 ++ _ = fl ps (x.1.1 + 1); rw [fl_succ ps x.1.1 (by omega), h2], by show (x.1.2.1 ++ _).length = _; rw [List.length_append, hmn]⟩, by show k - (x.1.1 + 1) < k - x.1.1; omega, sle_view [0, 1, 2, 4] (fun p h => absurd h (Nat.not_lt_zero _)) (by decide) ⟨rfl, rfl, rfl, rfl, rs_pcs, rfl, rfl, trivial⟩ (vh4 (pick_m rfl) (pick_m rfl) (pick_m rfl) (pick_m (congrArg (fun z => some (some z)) (mapc_append ..))))⟩   -- endloop 1
theorem tag_len (key m : List UInt8) : (tag key m).length = 16 := by unfold tag fin2; exact outb_len _ _ _
end Go.Proofs.Ytlnepajgnckolaa.Po

/- What functions of the program do, walked over the abstract machine. -/
namespace Go.Proofs.Ytlnepajgnckolaa.Po
open Go Go.Abs Go.Proofs

set_option maxRecDepth 20000
/-- The reference: carries. -/
def nrm (d : List UInt64) : Nat → List UInt64 × UInt64
  | 0 => (d, 0)
  | i + 1 => ((nrm d i).1.set i (((nrm d i).1.getD i 0 + (nrm d i).2) % 256), ((nrm d i).1.getD i 0 + (nrm d i).2) / 256)
/-- What stands from bit 130 on is taken out. -/
def fld (d : List UInt64) : Nat → List UInt64 × List UInt64
  | 0 => (d, List.replicate 34 0)
  | j + 1 =>
    if 16 < 16 + j then
      ((fld d j).1.set (16 + j) 0,
        ((fld d j).2.set (16 + j - 16) ((fld d j).2.getD (16 + j - 16) 0 + (fld d j).1.getD (16 + j) 0 / 4)).set (16 + j - 17)
          (((fld d j).2.set (16 + j - 16) ((fld d j).2.getD (16 + j - 16) 0 + (fld d j).1.getD (16 + j) 0 / 4)).getD (16 + j - 17) 0 + (fld d j).1.getD (16 + j) 0 % 4 * 64))
    else ((fld d j).1.set (16 + j) ((fld d j).1.getD (16 + j) 0 % 4), (fld d j).2.set (16 + j - 16) ((fld d j).2.getD (16 + j - 16) 0 + (fld d j).1.getD (16 + j) 0 / 4))
def add5 (d u : List UInt64) : Nat → List UInt64
  | 0 => d
  | i + 1 => (add5 d u i).set i ((add5 d u i).getD i 0 + 5 * u.getD i 0)
def pss (d : List UInt64) : Nat → List UInt64
  | 0 => d
  | k + 1 => add5 (fld (nrm (pss d k) 34).1 18).1 (fld (nrm (pss d k) 34).1 18).2 34
def nn (d : List UInt64) : Nat → List UInt64 × UInt64
  | 0 => (List.replicate 17 0, 0)
  | i + 1 => ((nn d i).1.set i ((d.getD i 0 + (nn d i).2) % 256), (d.getD i 0 + (nn d i).2) / 256)
def g0 (n : List UInt64) : Bool := (decide (n.getD 16 0 = 3) && decide (251 ≤ n.getD 0 0)) || decide (3 < n.getD 16 0)
def gr (n : List UInt64) : Nat → Bool
  | 0 => g0 n
  | i + 1 => gr n i && (decide (n.getD (1 + i) 0 = 255) || decide (3 < n.getD 16 0))
def sb5 (n : List UInt64) : Nat → List UInt64 × UInt64
  | 0 => (n, 5)
  | i + 1 => ((sb5 n i).1.set i (((sb5 n i).1.getD i 0 + (sb5 n i).2) % 256), ((sb5 n i).1.getD i 0 + (sb5 n i).2) / 256)
def rsfin (n : List UInt64) : List UInt64 := if gr n 15 then (sb5 n 17).1.set 16 ((sb5 n 17).1.getD 16 0 - 4) else n
def rsmall (d : List UInt64) : List UInt64 := rsfin (nn (pss d 4) 17).1
def rv1 (key : List UInt8) (i : Nat) : UInt64 := if i % 4 = 3 then (key.getD i 0).toUInt64 % 16 else (key.getD i 0).toUInt64
def rv (key : List UInt8) (i : Nat) : UInt64 := if i = 4 ∨ i = 8 ∨ i = 12 then rv1 key i / 4 * 4 else rv1 key i
def rr (key : List UInt8) : Nat → List UInt64
  | 0 => List.replicate 16 0
  | i + 1 => (rr key i).set i (rv key i)
/-- Bytes are added. -/
def radd (a : List UInt64) (l : List UInt8) (q : Nat) : Nat → List UInt64
  | 0 => a
  | i + 1 => (radd a l q i).set i ((radd a l q i).getD i 0 + (l.getD (q + i) 0).toUInt64)
def pin (a r : List UInt64) (i : Nat) (d : List UInt64) : Nat → List UInt64
  | 0 => d
  | k + 1 => (pin a r i d k).set (i + k) ((pin a r i d k).getD (i + k) 0 + a.getD i 0 * r.getD k 0)
def pout (a r : List UInt64) : Nat → List UInt64
  | 0 => List.replicate 34 0
  | i + 1 => pin a r i (pout a r i) 16
def rblk (a : List UInt64) (l : List UInt8) (q k : Nat) : List UInt64 := (radd a l q k).set k ((radd a l q k).getD k 0 + 1)
def racc (l : List UInt8) (r : List UInt64) : Nat → List UInt64
  | 0 => List.replicate 17 0
  | j + 1 => rsmall (pout (rblk (racc l r j) l (16 * j) (min 16 (l.length - 16 * j))) r 17)
def rob (a : List UInt64) (key : List UInt8) : Nat → List UInt8 × UInt64
  | 0 => (List.replicate 16 0, 0)
  | i + 1 => ((rob a key i).1.set i (a.getD i 0 + (key.getD (16 + i) 0).toUInt64 + (rob a key i).2).toUInt8, (a.getD i 0 + (key.getD (16 + i) 0).toUInt64 + (rob a key i).2) / 256)
def rtag (key l : List UInt8) : List UInt8 := (rob (racc l (rr key 16) ((l.length + 15) / 16)) key 16).1
end Go.Proofs.Ytlnepajgnckolaa.Po

/- The reference's numbers of base 256. -/
namespace Go.Proofs.Ytlnepajgnckolaa.Po
open Go Go.Abs Go.Proofs

/-- The number of the first digits. -/
def Dv (d : List UInt64) : Nat → Nat
  | 0 => 0
  | i + 1 => Dv d i + 256 ^ i * (d.getD i 0).toNat
/-- Digits that are no great ones. -/
def Bd (d : List UInt64) (b : Nat) : Prop := ∀ i, (d.getD i 0).toNat ≤ b
end Go.Proofs.Ytlnepajgnckolaa.Po

/- What the bytes of marks come to, as numbers. -/
namespace Go.Proofs.Ytlnepajgnckolaa.Po
open Go Go.Abs Go.Proofs

/-- The number of the first bytes, the lowest first. -/
def Fv (f : Nat → UInt8) : Nat → Nat
  | 0 => 0
  | i + 1 => Fv f i + 256 ^ i * (f i).toNat
/-- A sum's digits. -/
def byt (x : UInt64) (i : Nat) : UInt8 := (shr64n x (8 * i)).toUInt8
end Go.Proofs.Ytlnepajgnckolaa.Po

/- The steps of a mark, as numbers modulo 2^130 - 5. -/
namespace Go.Proofs.Ytlnepajgnckolaa.Po
open Go Go.Abs Go.Proofs

/-- Three words as a number. -/
def V3 (l : List UInt64) : Nat := (l.getD 0 0).toNat + 18446744073709551616 * (l.getD 1 0).toNat + 340282366920938463463374607431768211456 * (l.getD 2 0).toNat
end Go.Proofs.Ytlnepajgnckolaa.Po

/- The reference's mark as a number. -/
namespace Go.Proofs.Ytlnepajgnckolaa.Po
open Go Go.Abs Go.Proofs

theorem Bd.mono {d : List UInt64} {a b : Nat} (h : Bd d a) (hab : a ≤ b) : Bd d b := fun i => Nat.le_trans (h i) hab
/-- A piece, as a number. -/
def Pn (l : List UInt8) (q k : Nat) : Nat := Fv (fun i => l.getD (q + i) 0) k + 256 ^ k
/-- The mark's number, block by block. -/
def An (l : List UInt8) (R : Nat) : Nat → Nat
  | 0 => 0
  | j + 1 => (An l R j + Pn l (16 * j) (min 16 (l.length - 16 * j))) * R % 1361129467683753853853498429727072845819
end Go.Proofs.Ytlnepajgnckolaa.Po

/- The mark and the reference's mark are one. -/
namespace Go.Proofs.Ytlnepajgnckolaa.Po
open Go Go.Abs Go.Proofs

/-- The factor's bytes. -/
def kb8 (key : List UInt8) (i : Nat) : UInt8 := if i < 8 then key.getD i 0 &&& byt 1152921487695413247 i else key.getD i 0 &&& byt 1152921487695413244 (i - 8)
end Go.Proofs.Ytlnepajgnckolaa.Po

/- What functions of the program do, walked over the abstract machine. -/
namespace Go.Proofs.Ytlnepajgnckolaa.Ch
open Go Go.Abs Go.Proofs

set_option maxRecDepth 20000
/-- A word turned by so many bits. -/
def turn (x : UInt32) (n : UInt64) : UInt32 := shl32n x n.toNat ||| shr32n x (32 - n).toNat
/-- One half of a quarter round. -/
def q1 (s : List UInt32) (a b : Nat) : List UInt32 := s.set a (s.getD a 0 + s.getD b 0)
def q2 (s : List UInt32) (a d : Nat) (r : Nat) : List UInt32 := s.set d (turn (s.getD d 0 ^^^ s.getD a 0) (UInt64.ofNat r))
def qh (s : List UInt32) (a b c d : Nat) (r r' : Nat) : List UInt32 := q2 (q1 (q2 (q1 s a b) a d r) c d) c b r'
def qr (s : List UInt32) (a b c d : Nat) : List UInt32 := qh (qh s a b c d 16 12) a b c d 8 7
theorem q1_len (s : List UInt32) (a b : Nat) : (q1 s a b).length = s.length := by simp [q1]
theorem q2_len (s : List UInt32) (a d r : Nat) : (q2 s a d r).length = s.length := by simp [q2]
theorem qh_len (s : List UInt32) (a b c d r r' : Nat) : (qh s a b c d r r').length = s.length := by simp [qh, q1_len, q2_len]
theorem qr_len (s : List UInt32) (a b c d : Nat) : (qr s a b c d).length = s.length := by simp [qr, qh_len]
def qa (j : Nat) : Nat := if j = 0 then 16 else 8
def qb (j : Nat) : Nat := if j = 0 then 12 else 7
def qs (s : List UInt32) (a b c d : Nat) : Nat → List UInt32
  | 0 => s
  | j + 1 => qh (qs s a b c d j) a b c d (qa j) (qb j)
theorem qs_len (s : List UInt32) (a b c d : Nat) : ∀ j, (qs s a b c d j).length = s.length
  | 0 => rfl
  | j + 1 => by rw [qs, qh_len, qs_len]
theorem qab (j : Nat) (h : j < 2) : (([cn 16, cn 12] ++ [cn 8, cn 7]).drop (j * 2)).take 2 = [cn (qa j), cn (qb j)] := by
  match j, h with
  | 0, _ => rfl
  | 1, _ => rfl
theorem qa_le (j : Nat) : qa j ≤ 16 := by unfold qa; split <;> decide
theorem qb_le (j : Nat) : qb j ≤ 16 := by unfold qb; split <;> decide
theorem turn_mod (x : UInt32) (r : Nat) (h : r ≤ 16) : turn x (UInt64.ofNat r &&& 31) = turn x (UInt64.ofNat r) := by
  have : UInt64.ofNat r &&& 31 = UInt64.ofNat r := by
    have : ∀ r : Fin 17, UInt64.ofNat r.1 &&& 31 = UInt64.ofNat r.1 := by decide
    exact this ⟨r, by omega⟩
  rw [this]
/-- A word of four bytes. -/
def wd (l : List UInt8) : UInt32 := (l.getD 0 0).toUInt32 ||| shl32n (l.getD 1 0).toUInt32 8 ||| shl32n (l.getD 2 0).toUInt32 16 ||| shl32n (l.getD 3 0).toUInt32 24
/-- math/bits.RotateLeft32 -/
theorem rotate (x : UInt32) (r : Nat) (h : r ≤ 16) : Good Try.prog 73 [.c (c32 x), .c (cn r)] [] (sc (c32 (turn x (UInt64.ofNat r)))) [] := by
  refine good_frm 17 Try.func73 rfl rfl rfl rfl rfl rfl ?_
  refine awp_seq ?_
  refine rl ?_
  refine G (q_as (s := sc (c32 0)) ?_)
  refine gend ?_
  refine awp_seq ?_
  refine rl ?_
  refine Mv ?_
  refine G (q_cv0_64 ?_)
  refine G (q_and64 (y := 31) ?_)
  refine As ?_
  refine gend ?_
  refine awp_seq ?_
  refine rl ?_
  refine Mv ?_
  refine Mv ?_
  refine G (q_shl32_64 ?_)
  refine Mv ?_
  refine Mv ?_
  refine G (q_sub64 (x := 32) ?_)
  refine G (q_shr32_64 ?_)
  refine G (q_or32 ?_)
  refine As ?_
  refine gend ?_
  refine awp_ret ?_
  exact fp1 (hv := by rw [← turn_mod x r h]; rfl)
/-- escutcheonref08.turn -/
theorem rturn (x : UInt32) (n : UInt64) : Good Try.prog 86 [.c (c32 x), .c (c64 n)] [] (sc (c32 (turn x n))) [] := by
  refine good_frm 13 Try.func86 rfl rfl rfl rfl rfl rfl ?_
  refine awp_seq ?_
  refine rl ?_
  refine G (q_as (s := sc (c32 0)) ?_)
  refine gend ?_
  refine awp_seq ?_
  refine rl ?_
  refine Mv ?_
  refine Mv ?_
  refine G (q_shl32_64 ?_)
  refine Mv ?_
  refine Mv ?_
  refine G (q_sub64 (x := 32) ?_)
  refine G (q_shr32_64 ?_)
  refine G (q_or32 ?_)
  refine As ?_
  refine gend ?_
  refine awp_ret ?_
  exact fp1
/-- chacha.word -/
theorem word (n : Nat) (l : List UInt8) (h : 4 ≤ l.length) (hn : l.length = n) : Good Try.prog 76 [.c (.ro n (u8s l))] [] (sc (c32 (wd l))) [] := by
  refine good_frm 25 Try.func76 rfl rfl rfl rfl rfl rfl ?_
  refine awp_seq ?_
  refine rl ?_
  refine G (q_as (s := sc (c32 0)) ?_)
  refine gend ?_
  refine awp_seq ?_
  refine rdl [] [] [] ?_
  refine Dp (fun _ => q_mv (s := .v (.c _)) ⟨rfl, rfl⟩) ?_
  refine Dp (fun _ => q_ixo1 ⟨rfl, rfl⟩) ?_
  refine Dp (fun _ => q_ldrd ⟨rfl, rfl⟩) ?_
  refine Dp (fun _ => q_cv8_32 ⟨rfl, rfl⟩) ?_
  refine Dp (fun _ => q_mv (s := .v (.c _)) ⟨rfl, rfl⟩) ?_
  refine Dp (fun _ => q_ixo1 ⟨rfl, rfl⟩) ?_
  refine Dp (fun _ => q_ldrd ⟨rfl, rfl⟩) ?_
  refine Dp (fun _ => q_cv8_32 ⟨rfl, rfl⟩) ?_
  refine Dp (fun _ => q_shl32_64 (n := 8) ⟨rfl, rfl⟩) ?_
  refine Dp (fun _ => q_or32 ⟨rfl, rfl⟩) ?_
  refine Dp (fun _ => q_mv (s := .v (.c _)) ⟨rfl, rfl⟩) ?_
  refine Dp (fun _ => q_ixo1 ⟨rfl, rfl⟩) ?_
  refine Dp (fun _ => q_ldrd ⟨rfl, rfl⟩) ?_
  refine Dp (fun _ => q_cv8_32 ⟨rfl, rfl⟩) ?_
  refine Dp (fun _ => q_shl32_64 (n := 16) ⟨rfl, rfl⟩) ?_
  refine Dp (fun _ => q_or32 ⟨rfl, rfl⟩) ?_
  refine Dp (fun _ => q_mv (s := .v (.c _)) ⟨rfl, rfl⟩) ?_
  refine Dp (fun _ => q_ixo1 ⟨rfl, rfl⟩) ?_
  refine Dp (fun _ => q_ldrd ⟨rfl, rfl⟩) ?_
  refine Dp (fun _ => q_cv8_32 ⟨rfl, rfl⟩) ?_
  refine Dp (fun _ => q_shl32_64 (n := 24) ⟨rfl, rfl⟩) ?_
  refine Dp (fun _ => q_or32 ⟨rfl, rfl⟩) ?_
  refine Dp (fun _ => q_as (s := .v (.c _)) ⟨rfl, rfl⟩) ?_
  refine dend ?_
  refine awp_ret ?_
  exact fp1
/-- chacha.Block$1 -/
theorem quarter (s : List UInt32) (a b c d : Nat) (ha : a < 16) (hb : b < 16) (hc : c < 16) (hd : d < 16) (hs : s.length = 16) : Good Try.prog 77 [.c (cn a), .c (cn b), .c (cn c), .c (cn d), .c (.ptr 0 0)] [some (u32s s)] (.t []) [some (u32s (qr s a b c d))] := by
  refine good_frm 58 Try.func77 rfl rfl rfl rfl rfl rfl ?_
  refine awp_seq ?_
  refine rl ?_
  refine G (q_bla (fkc (c := cn 16) rfl rfl rfl (Nat.le_of_ble_eq_true rfl) (fkc (c := cn 12) rfl rfl rfl (Nat.le_of_ble_eq_true rfl) (fk0 ?_))))
  refine G (q_bla (fkc (c := cn 8) rfl rfl rfl (Nat.le_of_ble_eq_true rfl) (fkc (c := cn 7) rfl rfl rfl (Nat.le_of_ble_eq_true rfl) (fk0 ?_))))
  refine G (q_bla (fka rfl (et rfl) (by first | exact (mapc_length ..).trans (by with_reducible assumption) | decide +kernel | decide) (by first | decide +kernel | decide) (fka rfl (et rfl) (by first | exact (mapc_length ..).trans (by with_reducible assumption) | decide +kernel | decide) (by first | decide +kernel | decide) (fk0 ?_))))
  refine G (q_mv (s := sc (cn 0)) ?_)
  refine gend ?_
  refine awp_block ?_
  refine awp_loop (fun x : {j : Nat // j ≤ 2} => ⟨frm 58 [(0, sc (cn a)), (1, sc (cn b)), (2, sc (cn c)), (3, sc (cn d)), (4, sc (.ptr 0 0)), (13, sa ([cn 16, cn 12] ++ [cn 8, cn 7])), (14, sc (cn x.1))], [some (u32s (qs s a b c d x.1))]⟩) (fun x => 2 - x.1) ⟨0, Nat.zero_le _⟩ (sle_sub ⟨rfl, rfl, rfl, rfl, rfl, rfl, rfl, trivial⟩ rfl) fun x => ?_   -- live: [0, 1, 2, 3, 4, 13, 14]
  refine awp_seq ?_
  refine rl ?_
  refine G (q_lssn (y := 2) ?_)
  refine gend ?_
  refine awp_seq ?_
  refine cnd (fun hc1 => ?_) (fun hc1 => ?_); rotate_left
  · refine awp_exit ?_
    exact fw0 (hH := by rw [show x.1 = 2 from (by have := x.2; omega)]; rfl)
  refine awp_skip ?_
  refine awp_seq ?_
  refine awp_block ?_
  refine awp_seq ?_
  refine rl ?_
  refine G (q_ina ?_ (hy := qab x.1 hc1))
  refine G (q_al ?_)
  refine G0 (q_stw ?_)
  refine gend ?_
  refine awp_seq ?_
  have hl := (qs_len s a b c d x.1).trans hs
  refine rdl [8] [] [0, 0, 0, 0, 0, 0, 0, 0, 1] ?_
  refine Dp (fun _ => q_mv (s := .v (.c _)) ⟨rfl, rfl⟩) ?_
  refine Dp (fun _ => q_ixp1 ⟨rfl, rfl⟩) ?_
  refine DLp ?_
  refine Dp (fun _ => q_mv (s := .v (.c _)) ⟨rfl, rfl⟩) ?_
  refine Dp (fun _ => q_ixp1 ⟨rfl, rfl⟩) ?_
  refine DLp ?_
  refine Dp (fun _ => q_add32 ⟨rfl, rfl⟩) ?_
  refine Dp (fun _ => q_ixp1 ⟨rfl, rfl⟩) ?_
  refine De0 (q_stm (pw ?_))
  refine dend ?_
  refine awp_seq ?_
  refine rdl [10, 12] [0, 0, 0, 0, 0, 0, 0, 0, 0, 0, 0, 1, 1] [1, 0, 0, 0, 0, 0, 0, 0, 0, 0, 1, 1, 2] ?_
  refine Dp (fun _ => q_mv (s := .v (.c _)) ⟨rfl, rfl⟩) ?_
  refine Dp (fun _ => q_mv (s := .v (.c _)) ⟨rfl, rfl⟩) ?_
  refine Dp (fun _ => q_ixp1 ⟨rfl, rfl⟩) ?_
  refine DLp ?_
  refine Dp (fun _ => q_mv (s := .v (.c _)) ⟨rfl, rfl⟩) ?_
  refine Dp (fun _ => q_ixp1 ⟨rfl, rfl⟩) ?_
  refine DLp ?_
  refine Dp (fun _ => q_xor32 ⟨rfl, rfl⟩) ?_
  refine Dp (fun _ => q_ixp1 ⟨rfl, rfl⟩) ?_
  refine DLp ?_
  refine De (q_callp (rotate _ (qa x.1) (qa_le _)/- math/bits.RotateLeft32 -/) (pw ?_))
  refine Dp (fun _ => q_ixp1 ⟨rfl, rfl⟩) ?_
  refine De0 (q_stm (pw ?_))
  refine dend ?_
  refine awp_seq ?_
  refine rdl [8] [] [0, 0, 0, 0, 0, 0, 0, 0, 1] ?_
  refine Dp (fun _ => q_mv (s := .v (.c _)) ⟨rfl, rfl⟩) ?_
  refine Dp (fun _ => q_ixp1 ⟨rfl, rfl⟩) ?_
  refine DLp ?_
  refine Dp (fun _ => q_mv (s := .v (.c _)) ⟨rfl, rfl⟩) ?_
  refine Dp (fun _ => q_ixp1 ⟨rfl, rfl⟩) ?_
  refine DLp ?_
  refine Dp (fun _ => q_add32 ⟨rfl, rfl⟩) ?_
  refine Dp (fun _ => q_ixp1 ⟨rfl, rfl⟩) ?_
  refine De0 (q_stm (pw ?_))
  refine dend ?_
  refine rdl [10, 12] [0, 0, 0, 0, 0, 0, 0, 0, 0, 0, 0, 1, 1] [1, 0, 0, 0, 0, 0, 0, 0, 0, 0, 1, 1, 2] ?_
  refine Dp (fun _ => q_mv (s := .v (.c _)) ⟨rfl, rfl⟩) ?_
  refine Dp (fun _ => q_mv (s := .v (.c _)) ⟨rfl, rfl⟩) ?_
  refine Dp (fun _ => q_ixp1 ⟨rfl, rfl⟩) ?_
  refine DLp ?_
  refine Dp (fun _ => q_mv (s := .v (.c _)) ⟨rfl, rfl⟩) ?_
  refine Dp (fun _ => q_ixp1 ⟨rfl, rfl⟩) ?_
  refine DLp ?_
  refine Dp (fun _ => q_xor32 ⟨rfl, rfl⟩) ?_
  refine Dp (fun _ => q_ixp1 ⟨rfl, rfl⟩) ?_
  refine DLp ?_
  refine De (q_callp (rotate _ (qb x.1) (qb_le _)/- math/bits.RotateLeft32 -/) (pw ?_))
  refine Dp (fun _ => q_ixp1 ⟨rfl, rfl⟩) ?_
  refine De0 (q_stm (pw ?_))
  refine dend ?_
  refine rl ?_
  refine G (q_addn (y := 1) ?_)
  refine Mv ?_
  refine gend ?_
  exact ⟨⟨x.1 + 1, by omega⟩, by show 2 - (x.1 + 1) < 2 - x.1; omega, sle_view [0] pi0 (by decide) ⟨rfl, rfl, rfl, rfl, rfl, rfl, rfl, trivial⟩ (vh1 (pick_m rfl))⟩   -- endloop 1
def lw (s : List UInt32) (o m : Nat) (l : List UInt8) : Nat → List UInt32
  | 0 => s
  | i + 1 => (lw s o m l i).set (o + i) (wd ((l.drop (0 + 4 * i * 1)).take ((m - 4 * i) * 1)))
theorem lw_len (s : List UInt32) (o m : Nat) (l : List UInt8) : ∀ i, (lw s o m l i).length = s.length
  | 0 => rfl
  | i + 1 => by rw [lw, List.length_set, lw_len]
def cols (s : List UInt32) : Nat → List UInt32
  | 0 => s
  | i + 1 => qr (cols s i) i (4 + i) (8 + i) (12 + i)
def dias (s : List UInt32) : Nat → List UInt32
  | 0 => s
  | i + 1 => qr (dias s i) i (4 + (i + 1) % 4) (8 + (i + 2) % 4) (12 + (i + 3) % 4)
def dbl (s : List UInt32) : Nat → List UInt32
  | 0 => s
  | i + 1 => dias (cols (dbl s i) 4) 4
theorem cols_len (s : List UInt32) : ∀ i, (cols s i).length = s.length
  | 0 => rfl
  | i + 1 => by rw [cols, qr_len, cols_len]
theorem dias_len (s : List UInt32) : ∀ i, (dias s i).length = s.length
  | 0 => rfl
  | i + 1 => by rw [dias, qr_len, dias_len]
theorem dbl_len (s : List UInt32) : ∀ i, (dbl s i).length = s.length
  | 0 => rfl
  | i + 1 => by rw [dbl, dias_len, cols_len, dbl_len]
/-- The bytes of the sum of two states. -/
def ob (s t : List UInt32) : Nat → List UInt8
  | 0 => List.replicate 64 0
  | i + 1 => (ob s t i).set i (shr32n (s.getD (i / 4) 0 + t.getD (i / 4) 0) (8 * (i % 4))).toUInt8
theorem ob_len (s t : List UInt32) : ∀ i, (ob s t i).length = 64
  | 0 => by simp [ob]
  | i + 1 => by rw [ob, List.length_set, ob_len]
def ini (key : List UInt8) (ctr : UInt32) (nonce : List UInt8) : List UInt32 :=
  lw ((lw ([1634760805, 857760878, 2036477234, 1797285236] ++ List.replicate 12 0) 4 32 key 8).set 12 ctr) 13 12 nonce 3
/-- A block of the key stream. -/
def blk (key : List UInt8) (ctr : UInt32) (nonce : List UInt8) : List UInt8 := ob (dbl (ini key ctr nonce) 10) (ini key ctr nonce) 64
theorem blk_len (key : List UInt8) (ctr : UInt32) (nonce : List UInt8) : (blk key ctr nonce).length = 64 := ob_len _ _ _
/-- chacha.Block -/
theorem block (key : List UInt8) (ctr : UInt32) (nonce : List UInt8) (hk : key.length = 32) (hn : nonce.length = 12) : Good Try.prog 64 [.a (u8s key), .c (c32 ctr), .a (u8s nonce)] [] (sa (u8s (blk key ctr nonce))) [] := by
  refine good_frm 98 Try.func64 rfl rfl rfl rfl rfl rfl ?_
  refine awp_seq ?_
  refine rl ?_
  refine G (q_boxa ?_)
  refine G (q_boxa ?_)
  refine G (q_al ?_)
  refine gend ?_
  refine awp_seq ?_
  refine rl ?_
  refine G (q_bla (fkc (c := c32 1634760805) rfl rfl rfl (Nat.le_of_ble_eq_true rfl) (fkc (c := c32 857760878) rfl rfl rfl (Nat.le_of_ble_eq_true rfl) (fkc (c := c32 2036477234) rfl rfl rfl (Nat.le_of_ble_eq_true rfl) (fkc (c := c32 1797285236) rfl rfl rfl (Nat.le_of_ble_eq_true rfl) (fk0 ?_))))))
  refine G (q_al ?_)
  refine G0 (q_stw ?_)
  refine gend ?_
  refine awp_seq ?_
  refine awp_seq ?_
  refine rl ?_
  refine G (q_mv (s := sc (cn 0)) ?_)
  refine gend ?_
  refine awp_block ?_
  refine awp_loop (fun x : {i : Nat // i ≤ 8} => ⟨frm 98 [(1, sc (c32 ctr)), (3, sc (.ptr 0 0)), (5, sc (.ptr 1 0)), (6, sc (.ptr 2 0)), (7, sc (.ptr 3 0)), (16, sc (cn x.1))], [some (u8s key), some (u8s nonce), some (u8s (List.replicate 64 0)), some (u32s (lw ([1634760805, 857760878, 2036477234, 1797285236] ++ List.replicate 12 0) 4 32 key x.1))]⟩) (fun x => 8 - x.1) ⟨0, Nat.zero_le _⟩ (sle_sub ⟨rfl, rfl, rfl, rfl, rfl, rfl, trivial⟩ rfl) fun x => ?_   -- live: [3, 7, 16]
  refine awp_seq ?_
  refine rl ?_
  refine G (q_lssn (y := 8) ?_)
  refine gend ?_
  refine awp_seq ?_
  refine cnd (fun hc1 => ?_) (fun hc1 => ?_); rotate_left
  · refine awp_exit ?_
    rw [show x.1 = 8 from (by have := x.2; omega)]
    have hl8 : (lw ([1634760805, 857760878, 2036477234, 1797285236] ++ List.replicate 12 0) 4 32 key 8).length = 16 := (lw_len ..).trans rfl
    generalize hA : lw ([1634760805, 857760878, 2036477234, 1797285236] ++ List.replicate 12 0) 4 32 key 8 = A at hl8 ⊢
    refine awp_seq ?_
    refine rl ?_
    refine Mv ?_
    refine G (q_ixp1 ?_)
    refine G0 (q_stm ?_)
    refine gend ?_
    refine awp_seq ?_
    refine awp_seq ?_
    refine rl ?_
    refine G (q_mv (s := sc (cn 0)) ?_)
    refine gend ?_
    refine awp_block ?_
    refine awp_loop (fun y : {i : Nat // i ≤ 3} => ⟨frm 98 [(1, sc (c32 ctr)), (3, sc (.ptr 0 0)), (5, sc (.ptr 1 0)), (6, sc (.ptr 2 0)), (7, sc (.ptr 3 0)), (29, sc (cn y.1))], [some (u8s key), some (u8s nonce), some (u8s (List.replicate 64 0)), some (u32s (lw (A.set 12 ctr) 13 12 nonce y.1))]⟩) (fun y => 3 - y.1) ⟨0, Nat.zero_le _⟩ (sle_sub ⟨rfl, rfl, rfl, rfl, rfl, rfl, trivial⟩ rfl) fun y => ?_   -- live: [5, 7, 29]
    refine awp_seq ?_
    refine rl ?_
    refine G (q_lssn (y := 3) ?_)
    refine gend ?_
    refine awp_seq ?_
    refine cnd (fun hc2 => ?_) (fun hc2 => ?_); rotate_left
    · refine awp_exit ?_
      rw [show y.1 = 3 from (by have := y.2; omega)]
      have hi : (lw (A.set 12 ctr) 13 12 nonce 3).length = 16 := (lw_len ..).trans ((List.length_set ..).trans hl8)
      generalize hI : lw (A.set 12 ctr) 13 12 nonce 3 = I at hi ⊢
      refine awp_seq ?_
      refine rl ?_
      refine G (q_ldw  ?_ (hl := (mapc_length ..).trans hi))
      refine G (q_al ?_)
      refine G0 (q_stw ?_)
      refine gend ?_
      refine awp_seq ?_
      refine rl ?_
      refine G (q_mkf ?_ (caps1 (et rfl) rfl caps0))
      refine As ?_
      refine gend ?_
      refine awp_seq ?_
      refine awp_seq ?_
      refine rl ?_
      refine G (q_mv (s := sc (cn 0)) ?_)
      refine gend ?_
      refine awp_block ?_
      refine awp_loop (fun z : {i : Nat // i ≤ 10} => ⟨frm 98 [(1, sc (c32 ctr)), (3, sc (.ptr 0 0)), (5, sc (.ptr 1 0)), (6, sc (.ptr 2 0)), (7, sc (.ptr 3 0)), (10, sc (.ptr 4 0)), (11, sc (.fn 77 [.ptr 3 0])), (42, sc (cn z.1))], [some (u8s key), some (u8s nonce), some (u8s (List.replicate 64 0)), some (u32s (dbl I z.1)), some (u32s I)]⟩) (fun z => 10 - z.1) ⟨0, Nat.zero_le _⟩ (sle_sub ⟨rfl, rfl, rfl, rfl, rfl, rfl, rfl, rfl, trivial⟩ rfl) fun z => ?_   -- live: [11, 42]
      refine awp_seq ?_
      refine rl ?_
      refine G (q_lssn (y := 10) ?_)
      refine gend ?_
      refine awp_seq ?_
      refine cnd (fun hc3 => ?_) (fun hc3 => ?_); rotate_left
      · refine awp_exit ?_
        rw [show z.1 = 10 from (by have := z.2; omega)]
        have hd := (dbl_len I 10).trans hi
        generalize hD : dbl I 10 = D at hd ⊢
        refine awp_seq ?_
        refine awp_seq ?_
        refine rl ?_
        refine G (q_mv (s := sc (cn 0)) ?_)
        refine gend ?_
        refine awp_block ?_
        refine awp_loop (fun t : {i : Nat // i ≤ 64} => ⟨frm 98 [(1, sc (c32 ctr)), (3, sc (.ptr 0 0)), (5, sc (.ptr 1 0)), (6, sc (.ptr 2 0)), (7, sc (.ptr 3 0)), (10, sc (.ptr 4 0)), (77, sc (cn t.1))], [some (u8s key), some (u8s nonce), some (u8s (ob D I t.1)), some (u32s D), some (u32s I)]⟩) (fun t => 64 - t.1) ⟨0, Nat.zero_le _⟩ (sle_sub ⟨rfl, rfl, rfl, rfl, rfl, rfl, rfl, trivial⟩ rfl) fun t => ?_   -- live: [6, 7, 10, 77]
        refine awp_seq ?_
        refine rl ?_
        refine G (q_lssn (y := 64) ?_)
        refine gend ?_
        refine awp_seq ?_
        refine cnd (fun hc4 => ?_) (fun hc4 => ?_); rotate_left
        · refine awp_exit ?_
          rw [show t.1 = 64 from (by have := t.2; omega)]
          have ho := ob_len D I 64
          generalize hO : ob D I 64 = O at ho ⊢
          refine awp_seq ?_
          refine rl ?_
          refine G (q_ldw  ?_ (hl := (mapc_length ..).trans ho))
          refine G0 (q_stw ?_ (hl := (mapc_length ..).trans ho) (hc := (mapc_length ..).trans ho))
          refine gend ?_
          refine awp_ret ?_
          exact fpc (t := 112) (a := 6) (hn := by exact (mapc_length ..).trans ho) (hv := by rw [← hO, ← hD, ← hI, ← hA]; rfl)
        refine awp_skip ?_
        refine awp_seq ?_
        refine awp_block ?_
        refine awp_seq ?_
        refine rl ?_
        refine Mv ?_
        refine As ?_
        refine gend ?_
        have hot := ob_len D I t.1
        refine rdl [16] [] [0, 0, 0, 0, 0, 0, 0, 0, 0, 0, 0, 0, 0, 0, 0, 0, 1] ?_
        refine Dp (fun _ => q_mv (s := .v (.c _)) ⟨rfl, rfl⟩) ?_
        refine Dp (fun _ => q_mv (s := .v (.c _)) ⟨rfl, rfl⟩) ?_
        refine Dp (fun _ => q_quon (y := 4) ⟨rfl, rfl⟩) ?_
        refine Dp (fun _ => q_ixp1 ⟨rfl, rfl⟩) ?_
        refine DLp ?_
        refine Dp (fun _ => q_mv (s := .v (.c _)) ⟨rfl, rfl⟩) ?_
        refine Dp (fun _ => q_quon (y := 4) ⟨rfl, rfl⟩) ?_
        refine Dp (fun _ => q_ixp1 ⟨rfl, rfl⟩) ?_
        refine DLp ?_
        refine Dp (fun _ => q_add32 ⟨rfl, rfl⟩) ?_
        refine Dp (fun _ => q_mv (s := .v (.c _)) ⟨rfl, rfl⟩) ?_
        refine Dp (fun _ => q_remn (y := 4) ⟨rfl, rfl⟩) ?_
        refine Dp (fun _ => q_muln (x := 8) ⟨rfl, rfl⟩) ?_
        refine Dp (fun _ => q_shr32_0 ⟨rfl, rfl⟩) ?_
        refine Dp (fun _ => q_cv32_8 ⟨rfl, rfl⟩) ?_
        refine Dp (fun _ => q_ixp1 ⟨rfl, rfl⟩) ?_
        refine De0 (q_stm (pw ?_))
        refine dend ?_
        refine rl ?_
        refine G (q_addn (y := 1) ?_)
        refine Mv ?_
        refine gend ?_
        exact ⟨⟨t.1 + 1, by omega⟩, by show 64 - (t.1 + 1) < 64 - t.1; omega, sle_sub ⟨rfl, rfl, rfl, rfl, rfl, rfl, rfl, trivial⟩ rfl⟩   -- endloop 4
      refine awp_skip ?_
      refine awp_seq ?_
      refine awp_block ?_
      refine awp_seq ?_
      refine awp_seq ?_
      refine rl ?_
      refine G (q_mv (s := sc (cn 0)) ?_)
      refine gend ?_
      refine awp_block ?_
      refine awp_loop (fun u : {i : Nat // i ≤ 4} => ⟨frm 98 [(1, sc (c32 ctr)), (3, sc (.ptr 0 0)), (5, sc (.ptr 1 0)), (6, sc (.ptr 2 0)), (7, sc (.ptr 3 0)), (10, sc (.ptr 4 0)), (11, sc (.fn 77 [.ptr 3 0])), (42, sc (cn z.1)), (44, sc (cn u.1))], [some (u8s key), some (u8s nonce), some (u8s (List.replicate 64 0)), some (u32s (cols (dbl I z.1) u.1)), some (u32s I)]⟩) (fun u => 4 - u.1) ⟨0, Nat.zero_le _⟩ (sle_sub ⟨rfl, rfl, rfl, rfl, rfl, rfl, rfl, rfl, rfl, trivial⟩ rfl) fun u => ?_   -- live: [11, 44]
      refine awp_seq ?_
      refine rl ?_
      refine G (q_lssn (y := 4) ?_)
      refine gend ?_
      refine awp_seq ?_
      refine cnd (fun hc5 => ?_) (fun hc5 => ?_); rotate_left
      · refine awp_exit ?_
        rw [show u.1 = 4 from (by have := u.2; omega)]
        refine awp_seq ?_
        refine rl ?_
        refine G (q_mv (s := sc (cn 0)) ?_)
        refine gend ?_
        refine awp_block ?_
        refine awp_loop (fun v : {i : Nat // i ≤ 4} => ⟨frm 98 [(1, sc (c32 ctr)), (3, sc (.ptr 0 0)), (5, sc (.ptr 1 0)), (6, sc (.ptr 2 0)), (7, sc (.ptr 3 0)), (10, sc (.ptr 4 0)), (11, sc (.fn 77 [.ptr 3 0])), (42, sc (cn z.1)), (57, sc (cn v.1))], [some (u8s key), some (u8s nonce), some (u8s (List.replicate 64 0)), some (u32s (dias (cols (dbl I z.1) 4) v.1)), some (u32s I)]⟩) (fun v => 4 - v.1) ⟨0, Nat.zero_le _⟩ (sle_sub ⟨rfl, rfl, rfl, rfl, rfl, rfl, rfl, rfl, rfl, trivial⟩ rfl) fun v => ?_   -- live: [11, 57]
        refine awp_seq ?_
        refine rl ?_
        refine G (q_lssn (y := 4) ?_)
        refine gend ?_
        refine awp_seq ?_
        refine cnd (fun hc6 => ?_) (fun hc6 => ?_); rotate_left
        · refine awp_exit ?_
          rw [show v.1 = 4 from (by have := v.2; omega)]
          refine rl ?_
          refine G (q_addn (y := 1) ?_)
          refine Mv ?_
          refine gend ?_
          exact ⟨⟨z.1 + 1, by omega⟩, by show 10 - (z.1 + 1) < 10 - z.1; omega, sle_sub ⟨rfl, rfl, rfl, rfl, rfl, rfl, rfl, rfl, trivial⟩ rfl⟩   -- endloop 3
        refine awp_skip ?_
        refine awp_seq ?_
        refine awp_block ?_
        refine awp_seq ?_
        refine rl ?_
        refine Mv ?_
        refine As ?_
        refine gend ?_
        refine rl ?_
        refine Mv ?_
        refine Mv ?_
        refine Mv ?_
        refine G (q_addn (y := 1) ?_)
        refine G (q_remn (y := 4) ?_)
        refine G (q_addn (x := 4) ?_)
        refine Mv ?_
        refine G (q_addn (y := 2) ?_)
        refine G (q_remn (y := 4) ?_)
        refine G (q_addn (x := 8) ?_)
        refine Mv ?_
        refine G (q_addn (y := 3) ?_)
        refine G (q_remn (y := 4) ?_)
        refine G (q_addn (x := 12) ?_)
        have hl := (dias_len _ v.1).trans ((cols_len _ 4).trans ((dbl_len _ z.1).trans hi))
        refine G (q_callcw 3 (quarter _ v.1 (4 + (v.1 + 1) % 4) (8 + (v.1 + 2) % 4) (12 + (v.1 + 3) % 4) (by omega) (by omega) (by omega) (by omega) hl) ?_)
        refine gend ?_
        refine rl ?_
        refine G (q_addn (y := 1) ?_)
        refine Mv ?_
        refine gend ?_
        exact ⟨⟨v.1 + 1, by omega⟩, by show 4 - (v.1 + 1) < 4 - v.1; omega, sle_sub ⟨rfl, rfl, rfl, rfl, rfl, rfl, rfl, rfl, rfl, trivial⟩ rfl⟩   -- endloop 6
      refine awp_skip ?_
      refine awp_seq ?_
      refine awp_block ?_
      refine awp_seq ?_
      refine rl ?_
      refine Mv ?_
      refine As ?_
      refine gend ?_
      refine rl ?_
      refine Mv ?_
      refine Mv ?_
      refine Mv ?_
      refine G (q_addn (x := 4) ?_)
      refine Mv ?_
      refine G (q_addn (x := 8) ?_)
      refine Mv ?_
      refine G (q_addn (x := 12) ?_)
      have hl := (cols_len _ u.1).trans ((dbl_len _ z.1).trans hi)
      refine G (q_callcw 3 (quarter _ u.1 (4 + u.1) (8 + u.1) (12 + u.1) (by omega) (by omega) (by omega) (by omega) hl) ?_)
      refine gend ?_
      refine rl ?_
      refine G (q_addn (y := 1) ?_)
      refine Mv ?_
      refine gend ?_
      exact ⟨⟨u.1 + 1, by omega⟩, by show 4 - (u.1 + 1) < 4 - u.1; omega, sle_sub ⟨rfl, rfl, rfl, rfl, rfl, rfl, rfl, rfl, rfl, trivial⟩ rfl⟩   -- endloop 5
    refine awp_skip ?_
    refine awp_seq ?_
    refine awp_block ?_
    refine awp_seq ?_
    refine rl ?_
    refine Mv ?_
    refine As ?_
    refine gend ?_
    refine rl ?_
    refine Mv ?_
    refine G (q_addn (x := 13) ?_)
    refine Mv ?_
    refine G (q_muln (x := 4) ?_)
    refine G (q_slp_lo ?_)
    have hly : (lw (A.set 12 ctr) 13 12 nonce y.1).length = 16 := (lw_len ..).trans ((List.length_set ..).trans hl8)
    refine G (q_callp (word (12 - 4 * y.1) ((nonce.drop (0 + 4 * y.1 * 1)).take ((12 - 4 * y.1) * 1)) (by simp only [List.length_take, List.length_drop, hn]; omega) (by simp only [List.length_take, List.length_drop, hn]; omega)/- escutcheon/chacha.word -/) ?_)
    refine G (q_ixp1 ?_)
    refine G0 (q_stm ?_)
    refine gend ?_
    refine rl ?_
    refine G (q_addn (y := 1) ?_)
    refine Mv ?_
    refine gend ?_
    exact ⟨⟨y.1 + 1, by omega⟩, by show 3 - (y.1 + 1) < 3 - y.1; omega, sle_sub ⟨rfl, rfl, rfl, rfl, rfl, rfl, trivial⟩ rfl⟩   -- endloop 2
  refine awp_skip ?_
  refine awp_seq ?_
  refine awp_block ?_
  refine awp_seq ?_
  refine rl ?_
  refine Mv ?_
  refine As ?_
  refine gend ?_
  refine rl ?_
  refine Mv ?_
  refine G (q_addn (x := 4) ?_)
  refine Mv ?_
  refine G (q_muln (x := 4) ?_)
  refine G (q_slp_lo ?_)
  have hlx : (lw ([1634760805, 857760878, 2036477234, 1797285236] ++ List.replicate 12 0) 4 32 key x.1).length = 16 := (lw_len ..).trans rfl
  refine G (q_callp (word (32 - 4 * x.1) ((key.drop (0 + 4 * x.1 * 1)).take ((32 - 4 * x.1) * 1)) (by simp only [List.length_take, List.length_drop, hk]; omega) (by simp only [List.length_take, List.length_drop, hk]; omega)/- escutcheon/chacha.word -/) ?_)
  refine G (q_ixp1 ?_)
  refine G0 (q_stm ?_)
  refine gend ?_
  refine rl ?_
  refine G (q_addn (y := 1) ?_)
  refine Mv ?_
  refine gend ?_
  exact ⟨⟨x.1 + 1, by omega⟩, by show 8 - (x.1 + 1) < 8 - x.1; omega, sle_sub ⟨rfl, rfl, rfl, rfl, rfl, rfl, trivial⟩ rfl⟩   -- endloop 1
end Go.Proofs.Ytlnepajgnckolaa.Ch

/- What functions of the program do, walked over the abstract machine. -/
namespace Go.Proofs.Ytlnepajgnckolaa.Ch
open Go Go.Abs Go.Proofs

set_option maxRecDepth 20000
/-- escutcheonref08.round -/
theorem round (s : List UInt32) (a b c d : Nat) (ha : a < 16) (hb : b < 16) (hc : c < 16) (hd : d < 16) (hs : s.length = 16) : Good Try.prog 82 [.a (u32s s), .c (cn a), .c (cn b), .c (cn c), .c (cn d)] [] (sa (u32s (qr s a b c d))) [] := by
  refine good_frm 88 Try.func82 rfl rfl rfl rfl rfl rfl ?_
  refine awp_seq ?_
  refine rl ?_
  refine G (q_boxa ?_)
  refine G (q_al ?_)
  refine gend ?_
  refine awp_seq ?_
  refine rdl [9] [] [0, 0, 0, 0, 0, 0, 0, 0, 0, 1] ?_
  refine Dp (fun _ => q_mv (s := .v (.c _)) ⟨rfl, rfl⟩) ?_
  refine Dp (fun _ => q_mv (s := .v (.c _)) ⟨rfl, rfl⟩) ?_
  refine Dp (fun _ => q_ixp1 ⟨rfl, rfl⟩) ?_
  refine DLp ?_
  refine Dp (fun _ => q_mv (s := .v (.c _)) ⟨rfl, rfl⟩) ?_
  refine Dp (fun _ => q_ixp1 ⟨rfl, rfl⟩) ?_
  refine DLp ?_
  refine Dp (fun _ => q_add32 ⟨rfl, rfl⟩) ?_
  refine Dp (fun _ => q_ixp1 ⟨rfl, rfl⟩) ?_
  refine De0 (q_stm (pw ?_))
  refine dend ?_
  refine awp_seq ?_
  refine rdl [8, 10] [0, 0, 0, 0, 0, 0, 0, 0, 0, 1, 1] [1, 0, 0, 0, 0, 0, 0, 0, 1, 1, 2] ?_
  refine Dp (fun _ => q_mv (s := .v (.c _)) ⟨rfl, rfl⟩) ?_
  refine Dp (fun _ => q_mv (s := .v (.c _)) ⟨rfl, rfl⟩) ?_
  refine Dp (fun _ => q_ixp1 ⟨rfl, rfl⟩) ?_
  refine DLp ?_
  refine Dp (fun _ => q_mv (s := .v (.c _)) ⟨rfl, rfl⟩) ?_
  refine Dp (fun _ => q_ixp1 ⟨rfl, rfl⟩) ?_
  refine DLp ?_
  refine Dp (fun _ => q_xor32 ⟨rfl, rfl⟩) ?_
  refine De (q_callp (rturn _ 16/- escutcheon/escutcheonref08.turn -/) (pw ?_))
  refine Dp (fun _ => q_ixp1 ⟨rfl, rfl⟩) ?_
  refine De0 (q_stm (pw ?_))
  refine dend ?_
  refine awp_seq ?_
  refine rdl [9] [] [0, 0, 0, 0, 0, 0, 0, 0, 0, 1] ?_
  refine Dp (fun _ => q_mv (s := .v (.c _)) ⟨rfl, rfl⟩) ?_
  refine Dp (fun _ => q_mv (s := .v (.c _)) ⟨rfl, rfl⟩) ?_
  refine Dp (fun _ => q_ixp1 ⟨rfl, rfl⟩) ?_
  refine DLp ?_
  refine Dp (fun _ => q_mv (s := .v (.c _)) ⟨rfl, rfl⟩) ?_
  refine Dp (fun _ => q_ixp1 ⟨rfl, rfl⟩) ?_
  refine DLp ?_
  refine Dp (fun _ => q_add32 ⟨rfl, rfl⟩) ?_
  refine Dp (fun _ => q_ixp1 ⟨rfl, rfl⟩) ?_
  refine De0 (q_stm (pw ?_))
  refine dend ?_
  refine awp_seq ?_
  refine rdl [8, 10] [0, 0, 0, 0, 0, 0, 0, 0, 0, 1, 1] [1, 0, 0, 0, 0, 0, 0, 0, 1, 1, 2] ?_
  refine Dp (fun _ => q_mv (s := .v (.c _)) ⟨rfl, rfl⟩) ?_
  refine Dp (fun _ => q_mv (s := .v (.c _)) ⟨rfl, rfl⟩) ?_
  refine Dp (fun _ => q_ixp1 ⟨rfl, rfl⟩) ?_
  refine DLp ?_
  refine Dp (fun _ => q_mv (s := .v (.c _)) ⟨rfl, rfl⟩) ?_
  refine Dp (fun _ => q_ixp1 ⟨rfl, rfl⟩) ?_
  refine DLp ?_
  refine Dp (fun _ => q_xor32 ⟨rfl, rfl⟩) ?_
  refine De (q_callp (rturn _ 12/- escutcheon/escutcheonref08.turn -/) (pw ?_))
  refine Dp (fun _ => q_ixp1 ⟨rfl, rfl⟩) ?_
  refine De0 (q_stm (pw ?_))
  refine dend ?_
  refine awp_seq ?_
  refine rdl [9] [] [0, 0, 0, 0, 0, 0, 0, 0, 0, 1] ?_
  refine Dp (fun _ => q_mv (s := .v (.c _)) ⟨rfl, rfl⟩) ?_
  refine Dp (fun _ => q_mv (s := .v (.c _)) ⟨rfl, rfl⟩) ?_
  refine Dp (fun _ => q_ixp1 ⟨rfl, rfl⟩) ?_
  refine DLp ?_
  refine Dp (fun _ => q_mv (s := .v (.c _)) ⟨rfl, rfl⟩) ?_
  refine Dp (fun _ => q_ixp1 ⟨rfl, rfl⟩) ?_
  refine DLp ?_
  refine Dp (fun _ => q_add32 ⟨rfl, rfl⟩) ?_
  refine Dp (fun _ => q_ixp1 ⟨rfl, rfl⟩) ?_
  refine De0 (q_stm (pw ?_))
  refine dend ?_
  refine awp_seq ?_
  refine rdl [8, 10] [0, 0, 0, 0, 0, 0, 0, 0, 0, 1, 1] [1, 0, 0, 0, 0, 0, 0, 0, 1, 1, 2] ?_
  refine Dp (fun _ => q_mv (s := .v (.c _)) ⟨rfl, rfl⟩) ?_
  refine Dp (fun _ => q_mv (s := .v (.c _)) ⟨rfl, rfl⟩) ?_
  refine Dp (fun _ => q_ixp1 ⟨rfl, rfl⟩) ?_
  refine DLp ?_
  refine Dp (fun _ => q_mv (s := .v (.c _)) ⟨rfl, rfl⟩) ?_
  refine Dp (fun _ => q_ixp1 ⟨rfl, rfl⟩) ?_
  refine DLp ?_
  refine Dp (fun _ => q_xor32 ⟨rfl, rfl⟩) ?_
  refine De (q_callp (rturn _ 8/- escutcheon/escutcheonref08.turn -/) (pw ?_))
  refine Dp (fun _ => q_ixp1 ⟨rfl, rfl⟩) ?_
  refine De0 (q_stm (pw ?_))
  refine dend ?_
  refine awp_seq ?_
  refine rdl [9] [] [0, 0, 0, 0, 0, 0, 0, 0, 0, 1] ?_
  refine Dp (fun _ => q_mv (s := .v (.c _)) ⟨rfl, rfl⟩) ?_
  refine Dp (fun _ => q_mv (s := .v (.c _)) ⟨rfl, rfl⟩) ?_
  refine Dp (fun _ => q_ixp1 ⟨rfl, rfl⟩) ?_
  refine DLp ?_
  refine Dp (fun _ => q_mv (s := .v (.c _)) ⟨rfl, rfl⟩) ?_
  refine Dp (fun _ => q_ixp1 ⟨rfl, rfl⟩) ?_
  refine DLp ?_
  refine Dp (fun _ => q_add32 ⟨rfl, rfl⟩) ?_
  refine Dp (fun _ => q_ixp1 ⟨rfl, rfl⟩) ?_
  refine De0 (q_stm (pw ?_))
  refine dend ?_
  refine awp_seq ?_
  refine rdl [8, 10] [0, 0, 0, 0, 0, 0, 0, 0, 0, 1, 1] [1, 0, 0, 0, 0, 0, 0, 0, 1, 1, 2] ?_
  refine Dp (fun _ => q_mv (s := .v (.c _)) ⟨rfl, rfl⟩) ?_
  refine Dp (fun _ => q_mv (s := .v (.c _)) ⟨rfl, rfl⟩) ?_
  refine Dp (fun _ => q_ixp1 ⟨rfl, rfl⟩) ?_
  refine DLp ?_
  refine Dp (fun _ => q_mv (s := .v (.c _)) ⟨rfl, rfl⟩) ?_
  refine Dp (fun _ => q_ixp1 ⟨rfl, rfl⟩) ?_
  refine DLp ?_
  refine Dp (fun _ => q_xor32 ⟨rfl, rfl⟩) ?_
  refine De (q_callp (rturn _ 7/- escutcheon/escutcheonref08.turn -/) (pw ?_))
  refine Dp (fun _ => q_ixp1 ⟨rfl, rfl⟩) ?_
  refine De0 (q_stm (pw ?_))
  refine dend ?_
  refine awp_seq ?_
  refine rl ?_
  refine G (q_ldw ?_)
  refine G0 (q_stw ?_)
  refine gend ?_
  refine awp_ret ?_
  exact fpc (t := 109) (a := 10) (hn := by simp only [mapc_length, List.length_set]; exact hs)
/-- The text of which the reference takes its words. -/
def txt (key : List UInt8) (ctr : UInt32) (nonce : List UInt8) : List UInt8 :=
  (([101, 120, 112, 97, 110, 100, 32, 51, 50, 45, 98, 121, 116, 101, 32, 107] ++ key) ++ [ctr.toUInt8, (shr32n ctr 8).toUInt8, (shr32n ctr 16).toUInt8, (shr32n ctr 24).toUInt8]) ++ nonce
def rst (T : List UInt8) : Nat → List UInt32
  | 0 => List.replicate 16 0
  | k + 1 => (rst T k).set ((63 - k) / 4) ((rst T k).getD ((63 - k) / 4) 0 * 256 + (T.getD (63 - k) 0).toUInt32)
end Go.Proofs.Ytlnepajgnckolaa.Ch

/- What functions of the program do, walked over the abstract machine. -/
namespace Go.Proofs.Ytlnepajgnckolaa.Ch
open Go Go.Abs Go.Proofs

set_option maxRecDepth 20000
/-- The first i bytes, each with the key stream's byte. -/
def xw (key : List UInt8) (ctr : UInt32) (nonce l : List UInt8) (i : Nat) : List UInt8 :=
  (List.range i).map fun j => l.getD j 0 ^^^ (blk key (ctr + UInt32.ofNat (j / 64)) nonce).getD (j % 64) 0
theorem xw_len (key : List UInt8) (ctr : UInt32) (nonce l : List UInt8) (i : Nat) : (xw key ctr nonce l i).length = i := by simp [xw]
theorem xw_succ (key : List UInt8) (ctr : UInt32) (nonce l : List UInt8) (i : Nat) : xw key ctr nonce l (i + 1) = xw key ctr nonce l i ++ [l.getD i 0 ^^^ (blk key (ctr + UInt32.ofNat (i / 64)) nonce).getD (i % 64) 0] := by
  simp [xw, List.range_succ]
theorem xw_set (key : List UInt8) (ctr : UInt32) (nonce l : List UInt8) (n i : Nat) (h : i < n) (v : UInt8) (hv : v = l.getD i 0 ^^^ (blk key (ctr + UInt32.ofNat (i / 64)) nonce).getD (i % 64) 0) :
    (xw key ctr nonce l i ++ List.replicate (n - i) 0).set i v = xw key ctr nonce l (i + 1) ++ List.replicate (n - (i + 1)) 0 := by
  subst hv
  rw [xw_succ, List.set_append_right _ _ (by rw [xw_len]; exact Nat.le_refl _), xw_len, Nat.sub_self, show n - i = (n - (i + 1)) + 1 by omega, List.replicate_succ, List.set_cons_zero, List.append_assoc]
  rfl
theorem xw_pad (key : List UInt8) (ctr : UInt32) (nonce l : List UInt8) (n i : Nat) (h : i ≤ n) : (xw key ctr nonce l i ++ List.replicate (n - i) 0).length = n := by simp [xw_len]; omega
theorem ctr_next (ctr : UInt32) (i : Nat) (h : i % 64 = 0) : ctr + UInt32.ofNat ((i + 63) / 64) + 1 = ctr + UInt32.ofNat ((i + 1 + 63) / 64) := by
  rw [show (i + 1 + 63) / 64 = (i + 63) / 64 + 1 by omega, UInt32.ofNat_add, UInt32.add_assoc]
  rfl
/-- chacha.Xor -/
theorem xor (key : List UInt8) (ctr : UInt32) (nonce : List UInt8) (n : Nat) (l : List UInt8) (hk : key.length = 32) (hn : nonce.length = 12) (hl : l.length = n) (hb : n ≤ 100000000) : Good Try.prog 50 [.a (u8s key), .c (c32 ctr), .a (u8s nonce), .c (.ro n (u8s l))] [] (sc (.slc 0 0 n 1)) [some (u8s (xw key ctr nonce l n))] := by
  refine good_frm 43 Try.func50 rfl rfl rfl rfl rfl rfl ?_
  refine awp_seq ?_
  refine rl ?_
  refine G (q_boxa ?_)
  refine G (q_boxa ?_)
  refine As ?_
  refine gend ?_
  refine awp_seq ?_
  refine rl ?_
  refine Mv ?_
  refine G (q_leno ?_)
  refine G (q_mks ?_)
  refine As ?_
  refine gend ?_
  refine awp_seq ?_
  refine rl ?_
  refine G (q_al ?_)
  refine gend ?_
  refine awp_seq ?_
  refine awp_seq ?_
  refine rl ?_
  refine Mv ?_
  refine G (q_leno ?_)
  refine G (q_mv (s := sc (cn 0)) ?_)
  refine gend ?_
  refine awp_block ?_
  refine awp_loop (fun x : {p : Nat × List UInt8 // p.1 ≤ n ∧ p.2.length = 64 ∧ (p.1 % 64 ≠ 0 → p.2 = blk key (ctr + UInt32.ofNat (p.1 / 64)) nonce)} => ⟨frm 43 [(1, sc (c32 (ctr + UInt32.ofNat ((x.1.1 + 63) / 64)))), (3, sc (.ro n (u8s l))), (4, sc (.ptr 0 0)), (6, sc (.ptr 1 0)), (9, sc (.slc 2 0 n 1)), (10, sc (.ptr 3 0)), (16, sc (cn n)), (17, sc (cn x.1.1))], [some (u8s key), some (u8s nonce), some (u8s (xw key ctr nonce l x.1.1 ++ List.replicate (n - x.1.1) 0)), some (u8s x.1.2)]⟩) (fun x => n - x.1.1) ⟨(0, List.replicate 64 0), Nat.zero_le _, by simp, by simp⟩ (sle_sub ⟨by show sc (c32 ctr) = sc (c32 (ctr + UInt32.ofNat ((0 + 63) / 64))); simp, rfl, rfl, rfl, rfl, rfl, rfl, rfl, trivial⟩ (congrArg (fun z => [some (u8s key), some (u8s nonce), some z, some (u8s (List.replicate 64 0))]) (by simp [rep, mapc, xw]))) fun x => ?_   -- live: [1, 3, 4, 6, 9, 10, 16, 17]
  refine awp_seq ?_
  refine rl ?_
  refine G (q_lssn ?_)
  refine gend ?_
  refine awp_seq ?_
  refine cnd (fun hc1 => ?_) (fun hc1 => ?_); rotate_left
  · refine awp_exit ?_
    rw [show x.1.1 = n from (by have := x.2.1; omega)]
    refine awp_seq ?_
    refine rl ?_
    refine Mv ?_
    refine As ?_
    refine gend ?_
    refine awp_ret ?_
    exact fn1 2 (hH := by simp)
  refine awp_skip ?_
  refine awp_seq ?_
  refine awp_block ?_
  refine awp_seq ?_
  refine rl ?_
  refine Mv ?_
  refine As ?_
  refine gend ?_
  refine awp_seq ?_
  refine awp_seq ?_
  refine rl ?_
  refine Mv ?_
  refine G (q_remn (y := 64) ?_)
  refine G (q_eqln (y := 0) ?_)
  refine gend ?_
  refine cnd (fun hc2 => ?_) (fun hc2 => ?_)
  · refine awp_seq ?_
    refine rl ?_
    refine G (q_ldw ?_)
    refine Mv ?_
    refine G (q_ldw ?_)
    refine G (q_callp (block key (ctr + UInt32.ofNat ((x.1.1 + 63) / 64)) nonce hk hn/- escutcheon/chacha.Block -/) ?_)
    obtain ⟨B, hB⟩ : ∃ B, B = blk key (ctr + UInt32.ofNat ((x.1.1 + 63) / 64)) nonce := ⟨_, rfl⟩
    have hbl : B.length = 64 := hB ▸ blk_len key (ctr + UInt32.ofNat ((x.1.1 + 63) / 64)) nonce
    rw [← hB]
    refine G0 (q_stw ?_ (hl := (mapc_length ..).trans hbl) (hc := (mapc_length ..).trans x.2.2.1))
    refine gend ?_
    refine rl ?_
    refine Mv ?_
    refine G (q_add32 (y := 1) ?_)
    refine As ?_
    refine gend ?_
    have hks := x.2.2.1
    have hpad := xw_pad key ctr nonce l n x.1.1 x.2.1
    refine rdl [12] [] [0, 0, 0, 0, 0, 0, 0, 0, 0, 0, 0, 0, 1] ?_
    refine Dp (fun _ => q_mv (s := .v (.c _)) ⟨rfl, rfl⟩) ?_
    refine Dp (fun _ => q_mv (s := .v (.c _)) ⟨rfl, rfl⟩) ?_
    refine Dp (fun _ => q_mv (s := .v (.c _)) ⟨rfl, rfl⟩) ?_
    refine Dp (fun _ => q_mv (s := .v (.c _)) ⟨rfl, rfl⟩) ?_
    refine Dp (fun _ => q_ixo1 ⟨rfl, rfl⟩) ?_
    refine Dp (fun _ => q_ldrd ⟨rfl, rfl⟩) ?_
    refine Dp (fun _ => q_mv (s := .v (.c _)) ⟨rfl, rfl⟩) ?_
    refine Dp (fun _ => q_remn (y := 64) ⟨rfl, rfl⟩) ?_
    refine Dp (fun _ => q_ixp1 ⟨rfl, rfl⟩) ?_
    refine DLp ?_
    refine Dp (fun _ => q_xor8 ⟨rfl, rfl⟩) ?_
    refine Dp (fun _ => q_ixs1 ⟨rfl, rfl⟩) ?_
    refine De0 (q_stm (pw ?_))
    refine dend ?_
    refine rl ?_
    refine G (q_addn (y := 1) ?_)
    refine Mv ?_
    refine gend ?_
    exact ⟨⟨(x.1.1 + 1, B), by show x.1.1 + 1 ≤ n; omega, hbl, fun _ => by show B = blk key (ctr + UInt32.ofNat ((x.1.1 + 1) / 64)) nonce; rw [hB, show (x.1.1 + 1) / 64 = (x.1.1 + 63) / 64 by omega]⟩, by show n - (x.1.1 + 1) < n - x.1.1; omega, sle_sub ⟨congrArg (fun i => sc (c32 i)) (ctr_next ctr x.1.1 hc2), rfl, rfl, rfl, rfl, rfl, rfl, rfl, trivial⟩ (congrArg (fun z => [some (u8s key), some (u8s nonce), some (u8s z), some (u8s B)]) (xw_set key ctr nonce l n x.1.1 hc1 _ (by rw [hB, show (x.1.1 + 63) / 64 = x.1.1 / 64 by omega])))⟩   -- endloop 1
  refine awp_skip ?_
  have hks := x.2.2.1
  have hpad := xw_pad key ctr nonce l n x.1.1 x.2.1
  refine rdl [12] [] [0, 0, 0, 0, 0, 0, 0, 0, 0, 0, 0, 0, 1] ?_
  refine Dp (fun _ => q_mv (s := .v (.c _)) ⟨rfl, rfl⟩) ?_
  refine Dp (fun _ => q_mv (s := .v (.c _)) ⟨rfl, rfl⟩) ?_
  refine Dp (fun _ => q_mv (s := .v (.c _)) ⟨rfl, rfl⟩) ?_
  refine Dp (fun _ => q_mv (s := .v (.c _)) ⟨rfl, rfl⟩) ?_
  refine Dp (fun _ => q_ixo1 ⟨rfl, rfl⟩) ?_
  refine Dp (fun _ => q_ldrd ⟨rfl, rfl⟩) ?_
  refine Dp (fun _ => q_mv (s := .v (.c _)) ⟨rfl, rfl⟩) ?_
  refine Dp (fun _ => q_remn (y := 64) ⟨rfl, rfl⟩) ?_
  refine Dp (fun _ => q_ixp1 ⟨rfl, rfl⟩) ?_
  refine DLp ?_
  refine Dp (fun _ => q_xor8 ⟨rfl, rfl⟩) ?_
  refine Dp (fun _ => q_ixs1 ⟨rfl, rfl⟩) ?_
  refine De0 (q_stm (pw ?_))
  refine dend ?_
  refine rl ?_
  refine G (q_addn (y := 1) ?_)
  refine Mv ?_
  refine gend ?_
  exact ⟨⟨(x.1.1 + 1, x.1.2), by show x.1.1 + 1 ≤ n; omega, hks, fun h => by have h' : (x.1.1 + 1) % 64 ≠ 0 := h; show x.1.2 = _; rw [x.2.2.2 hc2, show (x.1.1 + 1) / 64 = x.1.1 / 64 by omega]⟩, by show n - (x.1.1 + 1) < n - x.1.1; omega, sle_sub ⟨congrArg (fun i => sc (c32 i)) (by rw [show (x.1.1 + 1 + 63) / 64 = (x.1.1 + 63) / 64 by omega]), rfl, rfl, rfl, rfl, rfl, rfl, rfl, trivial⟩ (congrArg (fun z => [some (u8s key), some (u8s nonce), some (u8s z), some (u8s x.1.2)]) (xw_set key ctr nonce l n x.1.1 hc1 _ (by rw [x.2.2.2 hc2])))⟩   -- endloop 1
end Go.Proofs.Ytlnepajgnckolaa.Ch

/- The reference takes the same words of its text. -/
namespace Go.Proofs.Ytlnepajgnckolaa.Ch
open Go Go.Abs Go.Proofs

theorem shl_nat (x : UInt32) (n : Nat) (hn : n < 32) (h : x.toNat * 2 ^ n < 2 ^ 32) : (shl32n x n).toNat = 2 ^ n * x.toNat := by
  unfold shl32n
  rw [if_pos hn, UInt32.toNat_shiftLeft, UInt32.toNat_ofNat', Nat.mod_eq_of_lt (show n < 2 ^ 32 by omega), Nat.mod_eq_of_lt hn, Nat.shiftLeft_eq, Nat.mod_eq_of_lt h, Nat.mul_comm]
theorem shr_nat (x : UInt32) (n : Nat) (hn : n < 32) : (shr32n x n).toNat = x.toNat / 2 ^ n := by
  unfold shr32n
  rw [if_pos hn, UInt32.toNat_shiftRight, UInt32.toNat_ofNat', Nat.mod_eq_of_lt (show n < 2 ^ 32 by omega), Nat.mod_eq_of_lt hn, Nat.shiftRight_eq_div_pow]

/-- The reference's word, of the text's bytes from the last to the first. -/
def rw4 (T : List UInt8) (j : Nat) : UInt32 := (((0 * 256 + (T.getD (4 * j + 3) 0).toUInt32) * 256 + (T.getD (4 * j + 2) 0).toUInt32) * 256 + (T.getD (4 * j + 1) 0).toUInt32) * 256 + (T.getD (4 * j) 0).toUInt32
end Go.Proofs.Ytlnepajgnckolaa.Ch

/- What functions of the program do, walked over the abstract machine. -/
namespace Go.Proofs.Ytlnepajgnckolaa.Ch
open Go Go.Abs Go.Proofs

set_option maxRecDepth 20000
end Go.Proofs.Ytlnepajgnckolaa.Ch

/- What functions of the program do, walked over the abstract machine. -/
namespace Go.Proofs.Ytlnepajgnckolaa.Ae
open Go Go.Abs Go.Proofs Go.Proofs.Ytlnepajgnckolaa.Ch Go.Proofs.Ytlnepajgnckolaa.Po

set_option maxRecDepth 20000
/-- A number's bytes, the lowest first. -/
def num8 (n : UInt64) : Nat → List UInt8
  | 0 => []
  | i + 1 => num8 n i ++ [(shr64n n (8 * i)).toUInt8]
theorem num8_len (n : UInt64) : ∀ i, (num8 n i).length = i
  | 0 => rfl
  | i + 1 => by rw [num8, List.length_append, num8_len n i]; rfl
/-- Noughts up to a multiple of 16. -/
def padz (n : Nat) : List UInt8 := List.replicate ((16 - n % 16) % 16) 0
theorem padz_len (n : Nat) : (padz n).length = (16 - n % 16) % 16 := by simp [padz]
def amsg (ad c : List UInt8) : List UInt8 := ad ++ (padz ad.length ++ (c ++ (padz c.length ++ (num8 (UInt64.ofNat ad.length) 8 ++ num8 (UInt64.ofNat c.length) 8))))
def amark (key nonce ad c : List UInt8) : List UInt8 := tag ((blk key 0 nonce).take 32) (amsg ad c)
theorem amark_len (key nonce ad c : List UInt8) : (amark key nonce ad c).length = 16 := tag_len _ _
/-- What is sealed. -/
def aseal (key nonce ad l : List UInt8) : List UInt8 := xw key 1 nonce l l.length ++ amark key nonce ad (xw key 1 nonce l l.length)
theorem aseal_len (key nonce ad l : List UInt8) : (aseal key nonce ad l).length = l.length + 16 := by rw [aseal, List.length_append, xw_len, amark_len]
def anonce (n : UInt64) : List UInt8 := [0, 0, 0, 0] ++ num8 n 8
theorem anonce_len (n : UInt64) : (anonce n).length = 12 := by rw [anonce, List.length_append, num8_len]; rfl
theorem cut_pre {l : List UInt8} {k : Nat} : ((u8s l).drop 0).take k = u8s (l.take k) := by rw [List.drop_zero, mapc_take]
theorem amsg_len (ad c : List UInt8) : (amsg ad c).length ≤ ad.length + c.length + 46 := by
  simp only [amsg, List.length_append, padz_len, num8_len]; omega
theorem u8_snoc (l : List UInt8) (x : UInt8) : u8s l ++ [c8 x] = u8s (l ++ [x]) := by simp [mapc]
/-- aead.number -/
theorem number_ (n : UInt64) : Good Try.prog 52 [.c (c64 n)] [] (sc (.slc 0 0 8 1)) [some (u8s (num8 n 8))] := by
  refine good_frm 17 Try.func52 rfl rfl rfl rfl rfl rfl ?_
  refine awp_seq ?_
  refine rln ?_
  refine As ?_
  refine gend ?_
  refine awp_seq ?_
  refine awp_seq ?_
  refine rln ?_
  refine G (q_mv (s := sc (cn 0)) ?_)
  refine gend ?_
  refine awp_le (sle_empty (al' := [(0, sc (c64 n)), (2, sc (.slc 0 0 0 1)), (4, sc (cn 0))]) 1 (Nat.zero_le _) ⟨.inl rfl, .inr ⟨rfl, rfl⟩, .inl rfl, trivial⟩) ?_
  refine awp_block ?_
  refine awp_loop (fun x : {i : Nat // i ≤ 8} => ⟨frm 17 [(0, sc (c64 n)), (2, sc (.slc 0 0 x.1 1)), (4, sc (cn x.1))], [some (u8s (num8 n x.1))]⟩) (fun x => 8 - x.1) ⟨0, Nat.zero_le _⟩ (sle_sub ⟨rfl, rfl, rfl, trivial⟩ rfl) fun x => ?_   -- live: [0, 2, 4]
  have h5 := num8_len n x.1
  refine awp_seq ?_
  refine rln ?_
  refine G (q_lssn (y := 8) ?_)
  refine gend ?_
  refine awp_seq ?_
  refine cnd (fun hc1 => ?_) (fun hc1 => ?_); rotate_left
  · refine awp_exit ?_
    rw [show x.1 = 8 from (by have := x.2; omega)]
    refine awp_seq ?_
    refine rln ?_
    refine Mv ?_
    refine As ?_
    refine gend ?_
    refine awp_ret ?_
    exact fx1 [0] (hm0 := rfl) (hH := pl1 rfl sees_m pl0)
  refine awp_skip ?_
  refine awp_seq ?_
  refine awp_block ?_
  refine awp_seq ?_
  refine rln ?_
  refine Mv ?_
  refine As ?_
  refine gend ?_
  refine rln ?_
  refine Mv ?_
  refine Mv ?_
  refine Mv ?_
  refine G (q_muln (x := 8) ?_)
  refine G (q_shr64_0 ?_)
  refine G (q_cv64_8 ?_)
  refine G2 (fun _ k_ => q_bsl (fkc rfl (et rfl) rfl (Nat.le_of_ble_eq_true rfl) (fk0 k_))) ?_
  refine G2 (fun _ k_ => q_app k_) ?_
  refine As ?_
  refine gend ?_
  refine rln ?_
  refine G (q_addn (y := 1) ?_)
  refine Mv ?_
  refine gend ?_
  exact ⟨⟨x.1 + 1, by omega⟩, by show 8 - (x.1 + 1) < 8 - x.1; omega, sle_view [2] (fun p h => absurd h (Nat.not_lt_zero _)) (by decide) ⟨rfl, rfl, rfl, trivial⟩ (vh1 (pick_m (congrArg (fun z => some (some z)) (u8_snoc (num8 n x.1) _))))⟩   -- endloop 1
/-- aead.mark$1 -/
theorem pad_ (l : List UInt8) (n : Nat) (hl : l.length = n) (hn : n ≤ 140737488351232) : Good Try.prog 65 [.c (.ro n (u8s l))] [] (sc (.slc 0 0 ((16 - n % 16) % 16) 1)) [some (u8s (padz n))] := by
  refine good_frm 8 Try.func65 rfl rfl rfl rfl rfl rfl ?_
  refine awp_seq ?_
  refine rln ?_
  refine As ?_
  refine gend ?_
  refine awp_seq ?_
  refine rln ?_
  refine Mv ?_
  refine G (q_leno ?_)
  refine G (q_negi ?_)
  refine G (q_pad15 ?_)
  refine G2 (fun _ k_ => q_mks k_) ?_
  refine As ?_
  refine gend ?_
  refine awp_ret ?_
  exact fx1 [0] (hm0 := rfl) (hH := pl1 (cs' := u8s (padz n)) rfl (by rw [rep_u8]; exact sees_m) pl0)
set_option maxHeartbeats 1600000 in
/-- aead.mark -/
theorem mark_ (key nonce ad c : List UInt8) (n k : Nat) (hkey : key.length = 32) (hnonce : nonce.length = 12) (had : ad.length = n) (hn : n ≤ 10000) (hc : c.length = k) (hk : k ≤ 10000) : Good Try.prog 51 [.a (u8s key), .a (u8s nonce), .c (.ro n (u8s ad)), .c (.ro k (u8s c))] [] (sa (u8s (amark key nonce ad c))) [] := by
  have g1 := block key 0 nonce hkey hnonce
  obtain ⟨B, hB⟩ : ∃ z, blk key 0 nonce = z := ⟨_, rfl⟩
  have hBl : B.length = 64 := by rw [← hB]; exact blk_len _ _ _
  rw [hB] at g1
  have hB2 : (B.take 32).length = 32 := by rw [List.length_take, hBl]; rfl
  have hpa := padz_len n
  have hpc := padz_len k
  have hna := num8_len (UInt64.ofNat n) 8
  have hnc := num8_len (UInt64.ofNat k) 8
  have hml := amsg_len ad c
  have g2 := tag_ (B.take 32) [ad, padz n, c, padz k, num8 (UInt64.ofNat n) 8, num8 (UInt64.ofNat k) 8] 6 hB2 rfl (by decide) (by simp only [List.flatten_cons, List.flatten_nil, List.length_append, List.length_nil]; omega)
  rw [show [ad, padz n, c, padz k, num8 (UInt64.ofNat n) 8, num8 (UInt64.ofNat k) 8].flatten = amsg ad c by simp [amsg, had, hc]] at g2
  have gpa := pad_ ad n had (by omega)
  have gpc := pad_ c k hc (by omega)
  have gna := number_ (UInt64.ofNat n)
  have gnc := number_ (UInt64.ofNat k)
  obtain ⟨T, hT⟩ : ∃ z, tag (B.take 32) (amsg ad c) = z := ⟨_, rfl⟩
  have hTl : T.length = 16 := by rw [← hT]; exact tag_len _ _
  rw [hT] at g2
  rw [show amark key nonce ad c = T by rw [← hT, ← hB]; rfl]
  obtain ⟨PA, hPA⟩ : ∃ z, padz n = z := ⟨_, rfl⟩
  obtain ⟨PC, hPC⟩ : ∃ z, padz k = z := ⟨_, rfl⟩
  obtain ⟨NA, hNA⟩ : ∃ z, num8 (UInt64.ofNat n) 8 = z := ⟨_, rfl⟩
  obtain ⟨NC, hNC⟩ : ∃ z, num8 (UInt64.ofNat k) 8 = z := ⟨_, rfl⟩
  rw [hPA] at gpa g2 hpa
  rw [hPC] at gpc g2 hpc
  rw [hNA] at gna g2 hna
  rw [hNC] at gnc g2 hnc
  refine good_frm 35 Try.func51 rfl rfl rfl rfl rfl rfl ?_
  refine awp_seq ?_
  refine rln ?_
  refine G2 (fun _ k_ => q_boxa k_) ?_
  refine G2 (fun _ k_ => q_boxa k_) ?_
  refine G2 (fun _ k_ => q_al k_) ?_
  refine gend ?_
  refine awp_seq ?_
  refine rln ?_
  refine G (q_ldw ?_)
  refine G (q_ldw ?_)
  refine G2 (fun _ k_ => q_callp g1 k_ (ha := (caa (et rfl) sees_m (cac rfl cm_int (caa (et rfl) sees_m ca0))))) ?_
  refine G2 (fun _ k_ => q_al k_) ?_
  refine G20 (fun _ k_ => q_stw k_) ?_
  refine gend ?_
  refine awp_seq ?_
  refine rln ?_
  refine As ?_
  refine gend ?_
  refine awp_seq ?_
  refine rdln [6, 10, 14, 18, 19, 20, 21] [0, 0, 0, 0, 0, 0, 0, 0, 0, 0, 1, 0, 0, 0, 2, 0, 0, 0, 3, 4, 5, 6] [5, 5, 5, 4, 0, 0, 1, 4, 1, 1, 2, 2, 2, 2, 3, 3, 3, 3, 4, 5, 6, 7] ?_
  refine DSp 3 rfl (fun _ hv => q_slp_hi (k := 32) ⟨rfl, rfl⟩ (hp := hv)) ?_
  refine Dp (fun _ => q_s2p ⟨rfl, rfl⟩) ?_
  refine DLa (xs := u8s (B.take 32)) ?_ (hc := cut_pre) (_hp := rfl)
  refine Dp (fun _ => q_mv (s := .v (.c _)) ⟨rfl, rfl⟩) ?_
  refine Dp (fun _ => q_mv (s := .v (.c _)) ⟨rfl, rfl⟩) ?_
  refine Dp (fun _ => q_mv (s := .v (.c _)) ⟨rfl, rfl⟩) ?_
  refine De2 (fun _ k_ => q_callfn gpa k_ (ha := cac (et rfl) sees_ro ca0)) ?_
  refine Dp (fun _ => q_mv (s := .v (.c _)) ⟨rfl, rfl⟩) ?_
  refine Dp (fun _ => q_mv (s := .v (.c _)) ⟨rfl, rfl⟩) ?_
  refine Dp (fun _ => q_mv (s := .v (.c _)) ⟨rfl, rfl⟩) ?_
  refine De2 (fun _ k_ => q_callfn gpc k_ (ha := cac (et rfl) sees_ro ca0)) ?_
  refine Dp (fun _ => q_mv (s := .v (.c _)) ⟨rfl, rfl⟩) ?_
  refine Dp (fun _ => q_leno ⟨rfl, rfl⟩) ?_
  refine Dp (fun _ => q_cv0_64 ⟨rfl, rfl⟩) ?_
  refine De2 (fun _ k_ => q_calln gna k_ (ha := (cac (et rfl) cm_int ca0))) ?_
  refine Dp (fun _ => q_mv (s := .v (.c _)) ⟨rfl, rfl⟩) ?_
  refine Dp (fun _ => q_leno ⟨rfl, rfl⟩) ?_
  refine Dp (fun _ => q_cv0_64 ⟨rfl, rfl⟩) ?_
  refine De2 (fun _ k_ => q_calln gnc k_ (ha := (cac (et rfl) cm_int ca0))) ?_
  refine De2 (fun _ k_ => q_bsl (fkc rfl (et rfl) rfl (Nat.le_of_ble_eq_true rfl) (fkc rfl (et rfl) rfl (Nat.le_of_ble_eq_true rfl) (fkc rfl (et rfl) rfl (Nat.le_of_ble_eq_true rfl) (fkc rfl (et rfl) rfl (Nat.le_of_ble_eq_true rfl) (fkc rfl (et rfl) rfl (Nat.le_of_ble_eq_true rfl) (fkc rfl (et rfl) rfl (Nat.le_of_ble_eq_true rfl) (fk0 k_)))))))) ?_
  refine De2 (fun _ k_ => q_callp g2 k_ (ha := (caa (et rfl) sees_m (cac (et rfl) (sees_parts rfl rfl (pq_ro had (pq_slc rfl rfl (cut_h hpa) hpa (pq_ro hc (pq_slc rfl rfl (cut_h hpc) hpc (pq_slc rfl rfl (cut_h hna) hna (pq_slc rfl rfl (cut_h hnc) hnc pq0))))))) ca0)))) ?_
  refine De20 (fun _ k_ => q_stw k_) ?_
  refine dend ?_
  refine awp_ret ?_
  exact fpc (t := 89) (a := 8) (hn := (mapc_length ..).trans hTl)
end Go.Proofs.Ytlnepajgnckolaa.Ae

/- What functions of the program do, walked over the abstract machine. -/
namespace Go.Proofs.Ytlnepajgnckolaa.Ae
open Go Go.Abs Go.Proofs Go.Proofs.Ytlnepajgnckolaa.Ch Go.Proofs.Ytlnepajgnckolaa.Po

set_option maxRecDepth 20000
theorem take0_m {l : List UInt8} {c : Nat} : ((u8s l).drop (0 * 1)).take (c * 1) = u8s (l.take c) := by rw [Nat.mul_one, Nat.mul_one, cut_m]; rfl
theorem drop_m {l : List UInt8} {c n : Nat} (h : l.length = n) : ((u8s l).drop (c * 1)).take ((n - c) * 1) = u8s (l.drop c) := by
  rw [Nat.mul_one, Nat.mul_one, cut_m, List.take_of_length_le (by rw [List.length_drop]; omega)]
theorem all_m {l : List UInt8} {n : Nat} (h : l.length = n) : (u8s l).take n = u8s l := by rw [List.take_of_length_le (by rw [mapc_length]; omega)]
/-- What is opened. -/
def aopen (key nonce ad s : List UInt8) : Option (List UInt8) :=
  if s.length < 16 then none
  else if amark key nonce ad (s.take (s.length - 16)) = s.drop (s.length - 16) then some (xw key 1 nonce (s.take (s.length - 16)) (s.length - 16)) else none
theorem aopen_len {key nonce ad s p : List UInt8} (h : aopen key nonce ad s = some p) : p.length + 16 = s.length := by
  unfold aopen at h
  split at h
  · cases h
  · split at h
    · cases h; rw [xw_len]; omega
    · cases h
theorem cpy_n (n : List UInt8) (h : n.length = 8) : splice (u8s (List.replicate 12 0)) 4 ((u8s n).take (min 8 8 * 1)) = u8s ([0, 0, 0, 0] ++ n) := by
  rw [show min 8 8 * 1 = 8 from rfl, all_m h]
  simp [splice, mapc, h]
set_option maxHeartbeats 800000 in
/-- aead.Seal -/
theorem seal_ (key nonce ad l : List UInt8) (n k : Nat) (hkey : key.length = 32) (hnonce : nonce.length = 12) (had : ad.length = n) (hn : n ≤ 10000) (hc : l.length = k) (hk : k ≤ 10000) : Good Try.prog 39 [.a (u8s key), .a (u8s nonce), .c (.ro n (u8s ad)), .c (.ro k (u8s l))] [] (sc (.slc 0 0 (k + 16) 1)) [some (u8s (aseal key nonce ad l))] := by
  have g1 := xor key 1 nonce k l hkey hnonce hc (by omega)
  obtain ⟨C, hC⟩ : ∃ z, xw key 1 nonce l k = z := ⟨_, rfl⟩
  have hCl : C.length = k := by rw [← hC]; exact xw_len _ _ _ _ _
  rw [hC] at g1
  have g2 := mark_ key nonce ad C n k hkey hnonce had hn hCl hk
  obtain ⟨T, hT⟩ : ∃ z, amark key nonce ad C = z := ⟨_, rfl⟩
  have hTl : T.length = 16 := by rw [← hT]; exact amark_len _ _ _ _
  rw [hT] at g2
  rw [show aseal key nonce ad l = C ++ T by rw [← hT, ← hC, ← hc]; rfl]
  refine good_frm 23 Try.func39 rfl rfl rfl rfl rfl rfl ?_
  refine awp_seq ?_
  refine rln ?_
  refine G2 (fun _ k_ => q_boxa k_) ?_
  refine G2 (fun _ k_ => q_boxa k_) ?_
  refine As ?_
  refine gend ?_
  refine awp_seq ?_
  refine rln ?_
  refine G (q_ldw ?_)
  refine G (q_ldw ?_)
  refine Mv ?_
  refine G2 (fun _ k_ => q_calln g1 k_ (ha := (caa (et rfl) sees_m (cac rfl cm_int (caa (et rfl) sees_m (cac (et rfl) sees_ro ca0)))))) ?_
  refine As ?_
  refine gend ?_
  refine awp_seq ?_
  refine rln ?_
  refine G (q_ldw ?_)
  refine G (q_ldw ?_)
  refine Mv ?_
  refine Mv ?_
  refine G2 (fun _ k_ => q_callp g2 k_ (ha := (caa (et rfl) sees_m (caa (et rfl) sees_m (cac (et rfl) sees_ro (cac (et rfl) (sees_slc rfl rfl (cut_h hCl)) ca0)))))) ?_
  refine G2 (fun _ k_ => q_al k_) ?_
  refine G20 (fun _ k_ => q_stw k_) ?_
  refine gend ?_
  refine awp_seq ?_
  refine rln ?_
  refine Mv ?_
  refine G (q_slp_no ?_)
  refine G2 (fun _ k_ => q_app k_) ?_
  refine As ?_
  refine gend ?_
  refine awp_ret ?_
  exact fx1 [4] (hm0 := rfl) (hH := pl1 (cs' := u8s (C ++ T)) rfl (by rw [mapc_append]; exact sees_m) pl0)
/-- aead.Open -/
theorem open_short (key nonce ad s : List UInt8) (n k : Nat) (hkey : key.length = 32) (hnonce : nonce.length = 12) (had : ad.length = n) (hn : n ≤ 10000) (hc : s.length = k) (hk : k ≤ 10000) (h : k < 16) : Good Try.prog 43 [.a (u8s key), .a (u8s nonce), .c (.ro n (u8s ad)), .c (.ro k (u8s s))] [] (.t [.c .nils, .c (cn 8)]) [] := by
  refine good_frm 38 Try.func43 rfl rfl rfl rfl rfl rfl ?_
  refine awp_seq ?_
  refine rln ?_
  refine G2 (fun _ k_ => q_boxa k_) ?_
  refine G2 (fun _ k_ => q_boxa k_) ?_
  refine As ?_
  refine G (q_as (s := sc (cn 0)) ?_)
  refine gend ?_
  refine awp_seq ?_
  refine rln ?_
  refine Mv ?_
  refine G (q_leno ?_)
  refine G (q_subi (y := 16) ?_)
  refine As ?_
  refine gend ?_
  refine awp_seq ?_
  refine awp_seq ?_
  refine rdln [9, 15] [0, 0, 0, 0, 0, 0, 0, 0, 0, 0, 0, 0, 0, 0, 0, 1, 2, 2] [0, 0, 0, 0, 0, 0, 0, 0, 0, 1, 1, 1, 1, 1, 1, 2, 2, 2] ?_
  refine Dp (fun _ => q_mv (s := .v (.c _)) ⟨rfl, rfl⟩) ?_
  refine Dp (fun _ => q_lssi (y := 0) ⟨rfl, rfl⟩) ?_
  refine Dp (fun _ => q_mv (s := .v (.c _)) ⟨rfl, rfl⟩) ?_
  refine Dknd 16 (fun hb3 => ?_) ?_; rotate_left
  · omega
  refine Dn ?_
  refine Dn ?_
  refine Dn ?_
  refine Dn ?_
  refine Dn ?_
  refine Dn ?_
  refine Dm ?_
  refine Dn ?_
  refine Dn ?_
  refine Dn ?_
  refine Dn ?_
  refine Dn ?_
  refine Dm ?_
  refine Dn ?_
  refine Dp (fun _ => q_pkt ⟨rfl, rfl⟩) ?_
  refine dend ?_
  refine cndT ?_
  refine awp_seq ?_
  refine rln ?_
  refine As ?_
  refine G (q_as (s := sc (cn 8)) ?_)
  refine gend ?_
  refine awp_ret ?_
  exact fx2 [] (hm0 := rfl) (hH := pl0)
set_option maxHeartbeats 800000 in
/-- aead.Open -/
theorem open_bad (key nonce ad s : List UInt8) (n k : Nat) (hkey : key.length = 32) (hnonce : nonce.length = 12) (had : ad.length = n) (hn : n ≤ 10000) (hc : s.length = k) (hk : k ≤ 10000) (h : 16 ≤ k) (hh : amark key nonce ad (s.take (k - 16)) ≠ s.drop (k - 16)) : Good Try.prog 43 [.a (u8s key), .a (u8s nonce), .c (.ro n (u8s ad)), .c (.ro k (u8s s))] [] (.t [.c .nils, .c (cn 8)]) [] := by
  have hTl : (s.take (k - 16)).length = k - 16 := by rw [List.length_take]; omega
  have hDl : (s.drop (k - 16)).length = 16 := by rw [List.length_drop]; omega
  have g2 := mark_ key nonce ad (s.take (k - 16)) n (k - 16) hkey hnonce had hn hTl (by omega)
  obtain ⟨M, hM⟩ : ∃ z, amark key nonce ad (s.take (k - 16)) = z := ⟨_, rfl⟩
  have hMl : M.length = 16 := by rw [← hM]; exact amark_len _ _ _ _
  rw [hM] at g2 hh
  have g3 := equal M (s.drop (k - 16)) hMl hDl
  refine good_frm 38 Try.func43 rfl rfl rfl rfl rfl rfl ?_
  refine awp_seq ?_
  refine rln ?_
  refine G2 (fun _ k_ => q_boxa k_) ?_
  refine G2 (fun _ k_ => q_boxa k_) ?_
  refine As ?_
  refine G (q_as (s := sc (cn 0)) ?_)
  refine gend ?_
  refine awp_seq ?_
  refine rln ?_
  refine Mv ?_
  refine G (q_leno ?_)
  refine G (q_subn (y := 16) ?_)
  refine As ?_
  refine gend ?_
  refine awp_seq ?_
  refine awp_seq ?_
  refine rdln [9, 15] [0, 0, 0, 0, 0, 0, 0, 0, 0, 0, 0, 0, 0, 0, 0, 1, 2, 2] [0, 0, 0, 0, 0, 0, 0, 0, 0, 1, 1, 1, 1, 1, 1, 2, 2, 2] ?_
  refine Dp (fun _ => q_mv (s := .v (.c _)) ⟨rfl, rfl⟩) ?_
  refine Dp (fun _ => q_lssn (y := 0) ⟨rfl, rfl⟩) ?_
  refine Dp (fun _ => q_mv (s := .v (.c _)) ⟨rfl, rfl⟩) ?_
  refine Dkfd 16 (fun hb3 => ?_) ?_; rotate_left
  · omega
  refine DLwg ?_
  refine DLwg ?_
  refine Dpg (fun _ => q_mv (s := .v (.c _)) ⟨rfl, rfl⟩) ?_
  refine Dpg (fun _ => q_mv (s := .v (.c _)) ⟨rfl, rfl⟩) ?_
  refine Dpg (fun _ => q_mv (s := .v (.c _)) ⟨rfl, rfl⟩) ?_
  refine Dpg (fun _ => q_slo_hi  ⟨rfl, rfl⟩ (hc := take0_m)) ?_
  refine De2g (fun _ k_ => q_callp g2 k_ (ha := (caa (et rfl) sees_m (caa (et rfl) sees_m (cac (et rfl) sees_ro (cac (et rfl) sees_ro ca0)))))) ?_
  refine Dpg (fun _ => q_mv (s := .v (.c _)) ⟨rfl, rfl⟩) ?_
  refine Dpg (fun _ => q_mv (s := .v (.c _)) ⟨rfl, rfl⟩) ?_
  refine Dpg (fun _ => q_slo_lo  ⟨rfl, rfl⟩ (hc := drop_m hc)) ?_
  refine Dpg (fun _ => q_s2r  ⟨rfl, rfl⟩ (hc := fun e => by have := congrArg List.length e; rw [mapc_length, hDl] at this; cases this)) ?_
  refine Dpg (fun _ => q_ldar  ⟨rfl, rfl⟩ (hc := all_m hDl)) ?_
  refine De2g (fun _ k_ => q_callp g3 k_ (ha := (caa (et rfl) sees_m (caa (et rfl) sees_m ca0)))) ?_
  refine Dpg (fun _ => q_notb ⟨rfl, rfl⟩) ?_
  refine Dp (fun _ => q_pkf ⟨rfl, rfl⟩) ?_
  refine dend ?_
  refine cndbnY (fun hc1 => ?_) ?_; rotate_left
  · exact decide_eq_false hh
  refine awp_seq ?_
  refine rln ?_
  refine As ?_
  refine G (q_as (s := sc (cn 8)) ?_)
  refine gend ?_
  refine awp_ret ?_
  exact fx2 [] (hm0 := rfl) (hH := pl0)
set_option maxHeartbeats 800000 in
/-- aead.Open -/
theorem open_yes (key nonce ad s : List UInt8) (n k : Nat) (hkey : key.length = 32) (hnonce : nonce.length = 12) (had : ad.length = n) (hn : n ≤ 10000) (hc : s.length = k) (hk : k ≤ 10000) (h : 16 ≤ k) (hh : amark key nonce ad (s.take (k - 16)) = s.drop (k - 16)) : Good Try.prog 43 [.a (u8s key), .a (u8s nonce), .c (.ro n (u8s ad)), .c (.ro k (u8s s))] [] (.t [.c (.slc 0 0 (k - 16) 1), .c (cn 0)]) [some (u8s (xw key 1 nonce (s.take (k - 16)) (k - 16)))] := by
  have hTl : (s.take (k - 16)).length = k - 16 := by rw [List.length_take]; omega
  have hDl : (s.drop (k - 16)).length = 16 := by rw [List.length_drop]; omega
  have g2 := mark_ key nonce ad (s.take (k - 16)) n (k - 16) hkey hnonce had hn hTl (by omega)
  obtain ⟨M, hM⟩ : ∃ z, amark key nonce ad (s.take (k - 16)) = z := ⟨_, rfl⟩
  have hMl : M.length = 16 := by rw [← hM]; exact amark_len _ _ _ _
  rw [hM] at g2 hh
  have g3 := equal M (s.drop (k - 16)) hMl hDl
  have g4 := xor key 1 nonce (k - 16) (s.take (k - 16)) hkey hnonce hTl (by omega)
  refine good_frm 38 Try.func43 rfl rfl rfl rfl rfl rfl ?_
  refine awp_seq ?_
  refine rln ?_
  refine G2 (fun _ k_ => q_boxa k_) ?_
  refine G2 (fun _ k_ => q_boxa k_) ?_
  refine As ?_
  refine G (q_as (s := sc (cn 0)) ?_)
  refine gend ?_
  refine awp_seq ?_
  refine rln ?_
  refine Mv ?_
  refine G (q_leno ?_)
  refine G (q_subn (y := 16) ?_)
  refine As ?_
  refine gend ?_
  refine awp_seq ?_
  refine awp_seq ?_
  refine rdln [9, 15] [0, 0, 0, 0, 0, 0, 0, 0, 0, 0, 0, 0, 0, 0, 0, 1, 2, 2] [0, 0, 0, 0, 0, 0, 0, 0, 0, 1, 1, 1, 1, 1, 1, 2, 2, 2] ?_
  refine Dp (fun _ => q_mv (s := .v (.c _)) ⟨rfl, rfl⟩) ?_
  refine Dp (fun _ => q_lssn (y := 0) ⟨rfl, rfl⟩) ?_
  refine Dp (fun _ => q_mv (s := .v (.c _)) ⟨rfl, rfl⟩) ?_
  refine Dkfd 16 (fun hb3 => ?_) ?_; rotate_left
  · omega
  refine DLwg ?_
  refine DLwg ?_
  refine Dpg (fun _ => q_mv (s := .v (.c _)) ⟨rfl, rfl⟩) ?_
  refine Dpg (fun _ => q_mv (s := .v (.c _)) ⟨rfl, rfl⟩) ?_
  refine Dpg (fun _ => q_mv (s := .v (.c _)) ⟨rfl, rfl⟩) ?_
  refine Dpg (fun _ => q_slo_hi  ⟨rfl, rfl⟩ (hc := take0_m)) ?_
  refine De2g (fun _ k_ => q_callp g2 k_ (ha := (caa (et rfl) sees_m (caa (et rfl) sees_m (cac (et rfl) sees_ro (cac (et rfl) sees_ro ca0)))))) ?_
  refine Dpg (fun _ => q_mv (s := .v (.c _)) ⟨rfl, rfl⟩) ?_
  refine Dpg (fun _ => q_mv (s := .v (.c _)) ⟨rfl, rfl⟩) ?_
  refine Dpg (fun _ => q_slo_lo  ⟨rfl, rfl⟩ (hc := drop_m hc)) ?_
  refine Dpg (fun _ => q_s2r  ⟨rfl, rfl⟩ (hc := fun e => by have := congrArg List.length e; rw [mapc_length, hDl] at this; cases this)) ?_
  refine Dpg (fun _ => q_ldar  ⟨rfl, rfl⟩ (hc := all_m hDl)) ?_
  refine De2g (fun _ k_ => q_callp g3 k_ (ha := (caa (et rfl) sees_m (caa (et rfl) sees_m ca0)))) ?_
  refine Dpg (fun _ => q_notb ⟨rfl, rfl⟩) ?_
  refine Dp (fun _ => q_pkf ⟨rfl, rfl⟩) ?_
  refine dend ?_
  refine cndbnN (fun hc1 => ?_) ?_; rotate_left
  · exact decide_eq_true hh
  refine awp_skip ?_
  refine awp_seq ?_
  refine rdln [5] [0, 0, 0, 0, 0, 0, 1, 1] [0, 0, 0, 0, 0, 1, 1, 1] ?_
  refine DLw ?_
  refine DLw ?_
  refine Dp (fun _ => q_mv (s := .v (.c _)) ⟨rfl, rfl⟩) ?_
  refine Dp (fun _ => q_mv (s := .v (.c _)) ⟨rfl, rfl⟩) ?_
  refine Dp (fun _ => q_slo_hi  ⟨rfl, rfl⟩ (hc := take0_m)) ?_
  refine De2 (fun _ k_ => q_calln g4 k_ (ha := (caa (et rfl) sees_m (cac rfl cm_int (caa (et rfl) sees_m (cac (et rfl) sees_ro ca0)))))) ?_
  refine Dp (fun _ => q_as (s := .v (.c _)) ⟨rfl, rfl⟩) ?_
  refine Dp (fun _ => q_as (s := sc (cn 0)) ⟨rfl, rfl⟩) ?_
  refine dend ?_
  refine awp_ret ?_
  exact fx2 [2] (hm0 := rfl) (hH := pl1 rfl sees_m pl0)
theorem open_none (key nonce ad s : List UInt8) (n k : Nat) (hkey : key.length = 32) (hnonce : nonce.length = 12) (had : ad.length = n) (hn : n ≤ 10000) (hc : s.length = k) (hk : k ≤ 10000) (h : aopen key nonce ad s = none) : Good Try.prog 43 [.a (u8s key), .a (u8s nonce), .c (.ro n (u8s ad)), .c (.ro k (u8s s))] [] (.t [.c .nils, .c (cn 8)]) [] := by
  unfold aopen at h
  rw [hc] at h
  by_cases h1 : k < 16
  · exact open_short key nonce ad s n k hkey hnonce had hn hc hk h1
  · rw [if_neg h1] at h
    by_cases h2 : amark key nonce ad (s.take (k - 16)) = s.drop (k - 16)
    · rw [if_pos h2] at h; cases h
    · exact open_bad key nonce ad s n k hkey hnonce had hn hc hk (by omega) h2
theorem open_some (key nonce ad s : List UInt8) (n k : Nat) (hkey : key.length = 32) (hnonce : nonce.length = 12) (had : ad.length = n) (hn : n ≤ 10000) (hc : s.length = k) (hk : k ≤ 10000) (p : List UInt8) (h : aopen key nonce ad s = some p) : Good Try.prog 43 [.a (u8s key), .a (u8s nonce), .c (.ro n (u8s ad)), .c (.ro k (u8s s))] [] (.t [.c (.slc 0 0 (k - 16) 1), .c (cn 0)]) [some (u8s p)] := by
  unfold aopen at h
  rw [hc] at h
  by_cases h1 : k < 16
  · rw [if_pos h1] at h; cases h
  · rw [if_neg h1] at h
    by_cases h2 : amark key nonce ad (s.take (k - 16)) = s.drop (k - 16)
    · rw [if_pos h2] at h; cases h; exact open_yes key nonce ad s n k hkey hnonce had hn hc hk (by omega) h2
    · rw [if_neg h2] at h; cases h
set_option maxHeartbeats 800000 in
/-- aead.Nonce -/
theorem nonce_ (n : UInt64) : Good Try.prog 40 [.c (c64 n)] [] (sa (u8s (anonce n))) [] := by
  have g1 := number_ n
  obtain ⟨B, hB⟩ : ∃ z, num8 n 8 = z := ⟨_, rfl⟩
  have hBl : B.length = 8 := by rw [← hB]; exact num8_len _ _
  have hA : (anonce n).length = 12 := anonce_len n
  have hcp := cpy_n B hBl
  rw [hB] at g1
  rw [show ([0, 0, 0, 0] : List UInt8) ++ B = anonce n by rw [← hB]; rfl] at hcp
  refine good_frm 8 Try.func40 rfl rfl rfl rfl rfl rfl ?_
  refine awp_seq ?_
  refine rln ?_
  refine G2 (fun _ k_ => q_al k_) ?_
  refine gend ?_
  refine awp_seq ?_
  refine rdln [2, 3] [0, 0, 0, 1] [1, 0, 1, 2] ?_
  refine DSp 0 rfl (fun _ hv => q_slp_lo (j := 4) ⟨rfl, rfl⟩ (hp := hv)) ?_
  refine Dp (fun _ => q_mv (s := .v (.c _)) ⟨rfl, rfl⟩) ?_
  refine De2 (fun _ k_ => q_calln g1 k_ (ha := (cac (et rfl) cm_int ca0))) ?_
  refine De2 (fun _ k_ => q_cpy k_ (eB := el_slc rfl (by rw [mapc_length, hBl]; decide) (cut_h hBl))) ?_ (hH := by simp only [List.set_cons_zero, List.cons_append, List.nil_append]; exact congrArg (fun z => [some z, some (u8s B)]) hcp)
  refine dend ?_
  refine awp_seq ?_
  refine rln ?_
  refine G (q_ldw ?_)
  refine G20 (fun _ k_ => q_stw k_) ?_
  refine gend ?_
  refine awp_ret ?_
  exact fpc (t := 77) (a := 2) (hn := (mapc_length ..).trans hA)
end Go.Proofs.Ytlnepajgnckolaa.Ae

/- What functions of the program do, walked over the abstract machine. -/
namespace Go.Proofs.Ytlnepajgnckolaa.Ae
open Go Go.Abs Go.Proofs Go.Proofs.Ytlnepajgnckolaa.Ch Go.Proofs.Ytlnepajgnckolaa.Po

set_option maxRecDepth 20000
def rnon (n : UInt64) : Nat → List UInt8
  | 0 => List.replicate 12 0
  | i + 1 => (rnon n i).set (4 + i) (shr64n n (UInt64.ofNat (8 * i)).toNat).toUInt8
theorem app_cut {a b : List UInt8} {p q : Nat} (ha : a.length = p) (hb : b.length = q) : ((u8s a ++ u8s b).drop 0).take ((p + q) * 1) = u8s (a ++ b) := by
  rw [mapc_append]; exact cut_h (by rw [List.length_append, ha, hb])
end Go.Proofs.Ytlnepajgnckolaa.Ae

/- What functions of the program do, walked over the abstract machine. -/
namespace Go.Proofs.Ytlnepajgnckolaa.Ae
open Go Go.Abs Go.Proofs Go.Proofs.Ytlnepajgnckolaa.Ch Go.Proofs.Ytlnepajgnckolaa.Po

set_option maxRecDepth 20000
theorem xw_get' (key : List UInt8) (ctr : UInt32) (nonce l : List UInt8) (n i : Nat) (h : i < n) : (xw key ctr nonce l n).getD i 0 = l.getD i 0 ^^^ (blk key (ctr + UInt32.ofNat (i / 64)) nonce).getD (i % 64) 0 := by
  simp [xw, List.getD_eq_getElem?_getD, h]
theorem xw_xw (key : List UInt8) (ctr : UInt32) (nonce l : List UInt8) (n : Nat) (h : l.length = n) : xw key ctr nonce (xw key ctr nonce l n) n = l := by
  refine List.ext_getElem (by rw [xw_len, h]) fun i h1 h2 => ?_
  rw [xw_len] at h1
  have := xw_get' key ctr nonce (xw key ctr nonce l n) n i h1
  rw [xw_get' key ctr nonce l n i h1, UInt8.xor_assoc, UInt8.xor_self, UInt8.xor_zero] at this
  simpa [List.getD_eq_getElem?_getD, h2, xw_len, h1] using this
theorem aopen_aseal (key nonce ad l : List UInt8) : aopen key nonce ad (aseal key nonce ad l) = some l := by
  have hl := aseal_len key nonce ad l
  have hx := xw_len key 1 nonce l l.length
  unfold aopen
  rw [hl, if_neg (by omega), Nat.add_sub_cancel]
  have e1 : (aseal key nonce ad l).take l.length = xw key 1 nonce l l.length := by rw [aseal, List.take_append_of_le_length (by omega), List.take_of_length_le (by omega)]
  have e2 : (aseal key nonce ad l).drop l.length = amark key nonce ad (xw key 1 nonce l l.length) := by rw [aseal, List.drop_append_of_le_length (by omega), List.drop_of_length_le (by omega), List.nil_append]
  rw [e1, e2, if_pos rfl, xw_xw key 1 nonce l _ rfl]
end Go.Proofs.Ytlnepajgnckolaa.Ae

/- What functions of the program do, walked over the abstract machine. -/
namespace Go.Proofs.Ytlnepajgnckolaa.Bl
open Go Go.Abs Go.Proofs

set_option maxRecDepth 20000
/-- A word turned right. -/
def rotr (x : UInt32) (r : Nat) : UInt32 := shl32n x (32 - r) ||| shr32n x r
def rotk (x : UInt32) (k : Int) : UInt32 := shl32n x (UInt64.ofInt k &&& 31).toNat ||| shr32n x (32 - (UInt64.ofInt k &&& 31)).toNat
theorem rotk_16 (x : UInt32) : rotk x (-16) = rotr x 16 := by
  rw [rotk, rotr, show (UInt64.ofInt (-16) &&& 31).toNat = 16 by decide +kernel, show (32 - (UInt64.ofInt (-16) &&& 31)).toNat = 16 by decide +kernel]
theorem rotk_12 (x : UInt32) : rotk x (-12) = rotr x 12 := by
  rw [rotk, rotr, show (UInt64.ofInt (-12) &&& 31).toNat = 20 by decide +kernel, show (32 - (UInt64.ofInt (-12) &&& 31)).toNat = 12 by decide +kernel]
theorem rotk_8 (x : UInt32) : rotk x (-8) = rotr x 8 := by
  rw [rotk, rotr, show (UInt64.ofInt (-8) &&& 31).toNat = 24 by decide +kernel, show (32 - (UInt64.ofInt (-8) &&& 31)).toNat = 8 by decide +kernel]
theorem rotk_7 (x : UInt32) : rotk x (-7) = rotr x 7 := by
  rw [rotk, rotr, show (UInt64.ofInt (-7) &&& 31).toNat = 25 by decide +kernel, show (32 - (UInt64.ofInt (-7) &&& 31)).toNat = 7 by decide +kernel]
/-- A root's bits, the highest first. -/
def rootf (n : UInt64) : Nat → UInt64
  | 0 => 0
  | j + 1 => if mulhi (rootf n j ||| shl64n 1 (35 - j)) (rootf n j ||| shl64n 1 (35 - j)) < n ∨ (mulhi (rootf n j ||| shl64n 1 (35 - j)) (rootf n j ||| shl64n 1 (35 - j)) = n ∧ (rootf n j ||| shl64n 1 (35 - j)) * (rootf n j ||| shl64n 1 (35 - j)) = 0) then rootf n j ||| shl64n 1 (35 - j) else rootf n j
def prm (k : Nat) : Nat → Bool
  | 0 => true
  | j + 1 => prm k j && decide (UInt64.ofNat (2 + k) % UInt64.ofNat (2 + j) ≠ 0)
def stt : Nat → Nat × List UInt32
  | 0 => (0, List.replicate 8 0)
  | k + 1 => if prm k k = true then ((stt k).1 + 1, (stt k).2.set (stt k).1 (rootf (UInt64.ofNat (2 + k)) 36).toUInt32) else stt k
theorem stt_len : ∀ k, (stt k).2.length = 8
  | 0 => by simp [stt]
  | k + 1 => by rw [stt]; split <;> simp [stt_len k]
theorem stt_lt : ∀ k, k < 18 → (stt k).1 < 8 := by
  have : ∀ k : Fin 18, (stt k.1).1 < 8 := by decide +kernel
  exact fun k h => this ⟨k, h⟩
theorem stt_18 : (stt 18).1 = 8 := by decide +kernel
theorem num_lt (a b : Nat) (ha : a < 100) (hb : b < 100) : (UInt64.ofNat a < UInt64.ofNat b) ↔ a < b := by
  rw [UInt64.lt_iff_toNat_lt, UInt64.toNat_ofNat_of_lt' (by rw [show UInt64.size = 18446744073709551616 from rfl]; omega), UInt64.toNat_ofNat_of_lt' (by rw [show UInt64.size = 18446744073709551616 from rfl]; omega)]
theorem num_ne (a : Nat) (ha : a < 100) (h0 : 0 < a) : UInt64.ofNat a ≠ 0 := by
  intro e
  have := congrArg UInt64.toNat e
  rw [UInt64.toNat_ofNat_of_lt' (by rw [show UInt64.size = 18446744073709551616 from rfl]; omega)] at this
  have z : UInt64.toNat 0 = 0 := rfl
  omega
theorem num_succ (a : Nat) : UInt64.ofNat a + 1 = UInt64.ofNat (a + 1) := by rw [UInt64.ofNat_add]; rfl
/-- The orders, one behind the other. -/
def ords : List Nat := [0, 1, 2, 3, 4, 5, 6, 7, 8, 9, 10, 11, 12, 13, 14, 15, 14, 10, 4, 8, 9, 15, 13, 6, 1, 12, 0, 2, 11, 7, 5, 3, 11, 8, 12, 0, 5, 2, 15, 13, 10, 14, 3, 6, 7, 1, 9, 4, 7, 9, 3, 1, 13, 12, 11, 14, 2, 6, 5, 10, 4, 0, 15, 8, 9, 0, 5, 7, 2, 4, 10, 15, 14, 1, 11, 12, 6, 8, 3, 13, 2, 12, 6, 10, 0, 11, 8, 3, 4, 13, 7, 5, 15, 14, 1, 9, 12, 5, 1, 15, 14, 13, 4, 10, 0, 7, 6, 3, 9, 2, 8, 11, 13, 11, 7, 14, 12, 1, 3, 9, 5, 0, 15, 4, 8, 6, 2, 10, 6, 15, 14, 9, 11, 3, 0, 8, 12, 2, 13, 7, 1, 4, 10, 5, 10, 2, 8, 4, 7, 6, 1, 5, 15, 11, 9, 14, 3, 12, 13, 0]
def ordz : List Int := ords.map Int.ofNat
theorem ords_len : ords.length = 160 := by decide +kernel
theorem ords_lt (k : Nat) : ords.getD k 0 < 16 := by
  by_cases h : k < 160
  · have : ∀ k : Fin 160, ords.getD k.1 0 < 16 := by decide +kernel
    exact this ⟨k, h⟩
  · rw [List.getD_eq_getElem?_getD, List.getElem?_eq_none (by rw [ords_len]; omega)]; decide
theorem ords_at (k : Nat) (h : k < 160) : (i64s ordz)[k]? = some (cn (ords.getD k 0)) := by
  have hl := ords_len
  simp [ordz, mapc, List.getElem?_map, List.getD_eq_getElem?_getD, List.getElem?_eq_getElem (show k < ords.length by omega)]
theorem ords_at2 (a b : Nat) (h : a + b < 160) : ((i64s ordz).drop a)[b]? = some (cn (ords.getD (a + b) 0)) := by
  rw [List.getElem?_drop]; exact ords_at _ h
/-- The mix's steps. -/
def m1 (v : List UInt32) (a b : Nat) (x : UInt32) : List UInt32 := v.set a (v.getD a 0 + (v.getD b 0 + x))
def m2 (v : List UInt32) (d a r : Nat) : List UInt32 := v.set d (rotr (v.getD d 0 ^^^ v.getD a 0) r)
def m3 (v : List UInt32) (c d : Nat) : List UInt32 := v.set c (v.getD c 0 + v.getD d 0)
theorem m1_len (v : List UInt32) (a b : Nat) (x : UInt32) : (m1 v a b x).length = v.length := by simp [m1]
theorem m2_len (v : List UInt32) (d a r : Nat) : (m2 v d a r).length = v.length := by simp [m2]
theorem m3_len (v : List UInt32) (c d : Nat) : (m3 v c d).length = v.length := by simp [m3]
def mixh (v : List UInt32) (a b c d : Nat) (x : UInt32) (r r' : Nat) : List UInt32 := m2 (m3 (m2 (m1 v a b x) d a r) c d) b c r'
def gmix (v : List UInt32) (a b c d : Nat) (x y : UInt32) : List UInt32 := mixh (mixh v a b c d x 16 12) a b c d y 8 7
theorem gmix_len (v : List UInt32) (a b c d : Nat) (x y : UInt32) : (gmix v a b c d x y).length = v.length := by simp [gmix, mixh, m1_len, m2_len, m3_len]
/-- A block's words. -/
def mw (l : List UInt8) : Nat → List UInt32
  | 0 => List.replicate 16 0
  | i + 1 => (mw l i).set (i / 4) ((mw l i).getD (i / 4) 0 ||| shl32n (l.getD i 0).toUInt32 (8 * (i % 4)))
theorem mw_len (l : List UInt8) : ∀ i, (mw l i).length = 16
  | 0 => by simp [mw]
  | i + 1 => by rw [mw, List.length_set, mw_len]
def vini (h f : List UInt32) (t : UInt64) (last : Bool) : List UInt32 :=
  let v := ((h ++ f).set 12 ((h ++ f).getD 12 0 ^^^ t.toUInt32)).set 13 (((h ++ f).set 12 ((h ++ f).getD 12 0 ^^^ t.toUInt32)).getD 13 0 ^^^ (shr64n t 32).toUInt32)
  if last then v.set 14 (~~~ v.getD 14 0) else v
theorem vini_len (h f : List UInt32) (t : UInt64) (last : Bool) (hh : h.length = 8) (hf : f.length = 8) : (vini h f t last).length = 16 := by
  unfold vini; simp only; split <;> simp [hh, hf]
def ins (m : List UInt32) (r : Nat) (v : List UInt32) : Nat → List UInt32
  | 0 => v
  | i + 1 => gmix (ins m r v i) (i % 4) (4 + (i + i / 4) % 4) (8 + (i + 2 * (i / 4)) % 4) (12 + (i + 3 * (i / 4)) % 4) (m.getD (ords.getD (r * 16 + 2 * i * 1) 0) 0) (m.getD (ords.getD (r * 16 + (2 * i + 1) * 1) 0) 0)
theorem ins_len (m : List UInt32) (r : Nat) (v : List UInt32) : ∀ i, (ins m r v i).length = v.length
  | 0 => rfl
  | i + 1 => by rw [ins, gmix_len, ins_len]
def rnds (m v : List UInt32) : Nat → List UInt32
  | 0 => v
  | r + 1 => ins m r (rnds m v r) 8
theorem rnds_len (m v : List UInt32) : ∀ r, (rnds m v r).length = v.length
  | 0 => rfl
  | r + 1 => by rw [rnds, ins_len, rnds_len]
def hxr (h v : List UInt32) : Nat → List UInt32
  | 0 => h
  | i + 1 => (hxr h v i).set i ((hxr h v i).getD i 0 ^^^ (v.getD i 0 ^^^ v.getD (i + 8) 0))
theorem hxr_len (h v : List UInt32) : ∀ i, (hxr h v i).length = h.length
  | 0 => rfl
  | i + 1 => by rw [hxr, List.length_set, hxr_len]
def press (h f : List UInt32) (l : List UInt8) (t : UInt64) (last : Bool) : List UInt32 := hxr h (rnds (mw l 64) (vini h f t last) 10) 8
theorem press_len (h f : List UInt32) (l : List UInt8) (t : UInt64) (last : Bool) : (press h f l t last).length = h.length := hxr_len _ _ _
/-- math/bits.RotateLeft32 -/
theorem rotl (x : UInt32) (k : Int) : Good Try.prog 73 [.c (c32 x), .c (ci k)] [] (sc (c32 (rotk x k))) [] := by
  refine good_frm 17 Try.func73 rfl rfl rfl rfl rfl rfl ?_
  refine awp_seq ?_
  refine rl ?_
  refine G (q_as (s := sc (c32 0)) ?_)
  refine gend ?_
  refine awp_seq ?_
  refine rl ?_
  refine Mv ?_
  refine G (q_cvi_64 ?_)
  refine G (q_and64 (y := 31) ?_)
  refine As ?_
  refine gend ?_
  refine awp_seq ?_
  refine rl ?_
  refine Mv ?_
  refine Mv ?_
  refine G (q_shl32_64 ?_)
  refine Mv ?_
  refine Mv ?_
  refine G (q_sub64 (x := 32) ?_)
  refine G (q_shr32_64 ?_)
  refine G (q_or32 ?_)
  refine As ?_
  refine gend ?_
  refine awp_ret ?_
  exact fp1
/-- math/bits.Mul64 -/
theorem mul64 (x y : UInt64) : Good Try.prog 84 [.c (c64 x), .c (c64 y)] [] (.t [.c (c64 (mulhi x y)), .c (c64 (x * y))]) [] := by
  refine good_frm 51 Try.func84 rfl rfl rfl rfl rfl rfl ?_
  refine awp_seq ?_
  refine rl ?_
  refine G (q_as (s := sc (c64 0)) ?_)
  refine G (q_as (s := sc (c64 0)) ?_)
  refine gend ?_
  refine awp_seq ?_
  refine rl ?_
  refine Mv ?_
  refine G (q_and64 (y := 4294967295) ?_)
  refine As ?_
  refine gend ?_
  refine awp_seq ?_
  refine rl ?_
  refine Mv ?_
  refine G (q_shr64_64 (n := 32) ?_)
  refine As ?_
  refine gend ?_
  refine awp_seq ?_
  refine rl ?_
  refine Mv ?_
  refine G (q_and64 (y := 4294967295) ?_)
  refine As ?_
  refine gend ?_
  refine awp_seq ?_
  refine rl ?_
  refine Mv ?_
  refine G (q_shr64_64 (n := 32) ?_)
  refine As ?_
  refine gend ?_
  refine awp_seq ?_
  refine rl ?_
  refine Mv ?_
  refine Mv ?_
  refine G (q_mul64 ?_)
  refine As ?_
  refine gend ?_
  refine awp_seq ?_
  refine rl ?_
  refine Mv ?_
  refine Mv ?_
  refine G (q_mul64 ?_)
  refine Mv ?_
  refine G (q_shr64_64 (n := 32) ?_)
  refine G (q_add64 ?_)
  refine As ?_
  refine gend ?_
  refine awp_seq ?_
  refine rl ?_
  refine Mv ?_
  refine G (q_and64 (y := 4294967295) ?_)
  refine As ?_
  refine gend ?_
  refine awp_seq ?_
  refine rl ?_
  refine Mv ?_
  refine G (q_shr64_64 (n := 32) ?_)
  refine As ?_
  refine gend ?_
  refine awp_seq ?_
  refine rl ?_
  refine Mv ?_
  refine Mv ?_
  refine Mv ?_
  refine G (q_mul64 ?_)
  refine G (q_add64 ?_)
  refine As ?_
  refine gend ?_
  refine awp_seq ?_
  refine rl ?_
  refine Mv ?_
  refine Mv ?_
  refine G (q_mul64 ?_)
  refine Mv ?_
  refine G (q_add64 ?_)
  refine Mv ?_
  refine G (q_shr64_64 (n := 32) ?_)
  refine G (q_add64 ?_)
  refine As ?_
  refine gend ?_
  refine awp_seq ?_
  refine rl ?_
  refine Mv ?_
  refine Mv ?_
  refine G (q_mul64 ?_)
  refine As ?_
  refine gend ?_
  refine awp_ret ?_
  exact fp2
/-- blake.root -/
theorem root (n : UInt64) : Good Try.prog 71 [.c (c64 n)] [] (sc (c32 (rootf n 36).toUInt32)) [] := by
  refine good_frm 37 Try.func71 rfl rfl rfl rfl rfl rfl ?_
  refine awp_seq ?_
  refine rl ?_
  refine G (q_as (s := sc (c32 0)) ?_)
  refine gend ?_
  refine awp_seq ?_
  refine rl ?_
  refine G (q_as (s := sc (c64 0)) ?_)
  refine gend ?_
  refine awp_seq ?_
  refine awp_seq ?_
  refine rl ?_
  refine G (q_as (s := sc (cn 35)) ?_)
  refine gend ?_
  refine awp_block ?_
  refine awp_loop (fun x : {i : Nat // i ≤ 36} => ⟨frm 37 [(0, sc (c64 n)), (3, sc (c64 (rootf n x.1))), (4, sc (ci (35 - (x.1 : Int))))], []⟩) (fun x => 36 - x.1) ⟨0, Nat.zero_le _⟩ (sle_sub ⟨rfl, rfl, rfl, trivial⟩ rfl) fun x => ?_   -- live: [0, 3, 4]
  refine awp_seq ?_
  refine awp_seq ?_
  refine rl ?_
  refine Mv ?_
  refine G (q_geqi (y := 0) ?_)
  refine gend ?_
  refine cnd (fun hc1 => ?_) (fun hc1 => ?_); rotate_left
  · refine awp_exit ?_
    rw [show x.1 = 36 from (by have := x.2; omega)]
    refine awp_seq ?_
    refine rl ?_
    refine Mv ?_
    refine G (q_cv64_32 ?_)
    refine As ?_
    refine gend ?_
    refine awp_ret ?_
    exact fp1
  refine awp_skip ?_
  refine retell [(0, sc (c64 n)), (3, sc (c64 (rootf n x.1))), (4, sc (cn (35 - x.1)))] ?_ ⟨rfl, rfl, congrArg (fun i => sc (ci i)) (by omega), trivial⟩
  refine awp_seq ?_
  refine awp_block ?_
  refine awp_seq ?_
  refine rl ?_
  refine Mv ?_
  refine Mv ?_
  refine G (q_shl64_0 (x := 1) ?_)
  refine G (q_or64 ?_)
  refine As ?_
  refine gend ?_
  refine awp_seq ?_
  refine rl ?_
  refine Mv ?_
  refine Mv ?_
  refine G (q_callp (mul64 _ _/- math/bits.Mul64 -/) ?_)
  refine G (q_mv (s := .t _) ?_)
  refine G (q_ext (y := .c _) ?_)
  refine G (q_ext (y := .c _) ?_)
  refine As ?_
  refine As ?_
  refine gend ?_
  refine awp_seq ?_
  refine rl ?_
  refine Mv ?_
  refine Mv ?_
  refine G (q_lss64 ?_)
  refine Mv ?_
  refine Aspd 25 (fun hb4 => ?_) (fun hb4 => ?_)
  · refine Gn ?_
    refine Gn ?_
    refine Gn ?_
    refine Gn ?_
    refine Gu ?_
    refine Gu ?_
    refine Gn ?_
    refine G (q_pkt ?_)
    refine gend ?_
    refine cndT ?_
    refine rl ?_
    refine Mv ?_
    refine As ?_
    refine gend ?_
    refine rl ?_
    refine Mv ?_
    refine G (q_subi (y := 1) ?_)
    refine As ?_
    refine gend ?_
    exact ⟨⟨x.1 + 1, by omega⟩, by show 36 - (x.1 + 1) < 36 - x.1; omega, sle_sub ⟨rfl, congrArg (fun z => sc (c64 z)) (by show _ = rootf n (x.1 + 1); rw [rootf]; generalize rootf n x.1 ||| shl64n 1 (35 - x.1) = y at *; simp [*]), congrArg (fun i => sc (ci i)) (by show ((35 - x.1 : Nat) : Int) - 1 = 35 - ((x.1 + 1 : Nat) : Int); omega), trivial⟩ rfl⟩   -- endloop 1
  refine Gg (q_mv (s := .v (.c _)) ?_)
  refine Gg (q_mv (s := .v (.c _)) ?_)
  refine Gg (q_eql64 ?_)
  refine Gg (q_mv (s := .v (.c _)) ?_)
  refine Aspd 29 (fun hb8 => ?_) (fun hb8 => ?_)
  · refine Gg (q_mv (s := .v (.c _)) ?_)
    refine Gg (q_eql64 (y := 0) ?_)
    refine Gg (q_pkt ?_)
    refine G (q_pkf ?_)
    refine gend ?_
    refine cnd (fun hc2 => ?_) (fun hc2 => ?_)
    · refine rl ?_
      refine Mv ?_
      refine As ?_
      refine gend ?_
      refine rl ?_
      refine Mv ?_
      refine G (q_subi (y := 1) ?_)
      refine As ?_
      refine gend ?_
      exact ⟨⟨x.1 + 1, by omega⟩, by show 36 - (x.1 + 1) < 36 - x.1; omega, sle_sub ⟨rfl, congrArg (fun z => sc (c64 z)) (by show _ = rootf n (x.1 + 1); rw [rootf]; generalize rootf n x.1 ||| shl64n 1 (35 - x.1) = y at *; simp [*]), congrArg (fun i => sc (ci i)) (by show ((35 - x.1 : Nat) : Int) - 1 = 35 - ((x.1 + 1 : Nat) : Int); omega), trivial⟩ rfl⟩   -- endloop 1
    refine awp_skip ?_
    refine rl ?_
    refine Mv ?_
    refine G (q_subi (y := 1) ?_)
    refine As ?_
    refine gend ?_
    exact ⟨⟨x.1 + 1, by omega⟩, by show 36 - (x.1 + 1) < 36 - x.1; omega, sle_sub ⟨rfl, congrArg (fun z => sc (c64 z)) (by show _ = rootf n (x.1 + 1); rw [rootf]; generalize rootf n x.1 ||| shl64n 1 (35 - x.1) = y at *; simp [*]), congrArg (fun i => sc (ci i)) (by show ((35 - x.1 : Nat) : Int) - 1 = 35 - ((x.1 + 1 : Nat) : Int); omega), trivial⟩ rfl⟩   -- endloop 1
  refine Gn ?_
  refine Gn ?_
  refine Gg (q_pkf ?_)
  refine G (q_pkf ?_)
  refine gend ?_
  refine cndF ?_
  refine awp_skip ?_
  refine rl ?_
  refine Mv ?_
  refine G (q_subi (y := 1) ?_)
  refine As ?_
  refine gend ?_
  exact ⟨⟨x.1 + 1, by omega⟩, by show 36 - (x.1 + 1) < 36 - x.1; omega, sle_sub ⟨rfl, congrArg (fun z => sc (c64 z)) (by show _ = rootf n (x.1 + 1); rw [rootf]; generalize rootf n x.1 ||| shl64n 1 (35 - x.1) = y at *; simp [*]), congrArg (fun i => sc (ci i)) (by show ((35 - x.1 : Nat) : Int) - 1 = 35 - ((x.1 + 1 : Nat) : Int); omega), trivial⟩ rfl⟩   -- endloop 1
set_option maxHeartbeats 800000 in
/-- blake.start -/
theorem start : Good Try.prog 56 [] [] (sa (u32s (stt 18).2)) [] := by
  refine good_frm 29 Try.func56 rfl rfl rfl rfl rfl rfl ?_
  refine awp_seq ?_
  refine rl ?_
  refine G (q_al ?_)
  refine gend ?_
  refine awp_seq ?_
  refine rl ?_
  refine G (q_as (s := sc (cn 0)) ?_)
  refine gend ?_
  refine awp_seq ?_
  refine awp_seq ?_
  refine rl ?_
  refine G (q_as (s := sc (c64 2)) ?_)
  refine gend ?_
  refine awp_block ?_
  refine awp_loop (fun x : {i : Nat // i ≤ 18} => ⟨frm 29 [(0, sc (.ptr 0 0)), (1, sc (cn (stt x.1).1)), (2, sc (c64 (UInt64.ofNat (2 + x.1))))], [some (u32s (stt x.1).2)]⟩) (fun x => 18 - x.1) ⟨0, Nat.zero_le _⟩ (sle_sub ⟨rfl, rfl, rfl, trivial⟩ rfl) fun x => ?_   -- live: [0, 1, 2]
  have hl := stt_len x.1
  have hlt := stt_lt x.1
  have hx18 : (stt x.1).1 < 8 → x.1 + 1 ≤ 18 := fun h => by
    rcases Nat.lt_or_ge x.1 18 with h' | h'
    · omega
    · exfalso
      have e : x.1 = 18 := by have := x.2; omega
      rw [e, stt_18] at h; omega
  refine awp_seq ?_
  refine awp_seq ?_
  refine rl ?_
  refine Mv ?_
  refine G (q_lssn (y := 8) ?_)
  refine gend ?_
  refine cnd (fun hc1 => ?_) (fun hc1 => ?_); rotate_left
  · refine awp_exit ?_
    rw [show x.1 = 18 from (by have := x.2; omega)]
    refine awp_seq ?_
    refine rl ?_
    refine G (q_ldw  ?_ (hl := (mapc_length ..).trans (stt_len 18)))
    refine G0 (q_stw  ?_ (hl := (mapc_length ..).trans (stt_len 18)) (hc := (mapc_length ..).trans (stt_len 18)))
    refine gend ?_
    refine awp_ret ?_
    exact fpc (t := 95) (a := 0) (hn := by exact (mapc_length ..).trans (stt_len 18))
  refine awp_skip ?_
  refine awp_seq ?_
  refine awp_block ?_
  refine awp_seq ?_
  refine rl ?_
  refine As ?_
  refine gend ?_
  refine awp_seq ?_
  refine awp_seq ?_
  refine rl ?_
  refine G (q_as (s := sc (c64 2)) ?_)
  refine gend ?_
  refine awp_block ?_
  refine awp_loop (fun j : {i : Nat // i ≤ x.1} => ⟨frm 29 [(0, sc (.ptr 0 0)), (1, sc (cn (stt x.1).1)), (2, sc (c64 (UInt64.ofNat (2 + x.1)))), (3, sc (.bool (prm x.1 j.1))), (4, sc (c64 (UInt64.ofNat (2 + j.1))))], [some (u32s (stt x.1).2)]⟩) (fun j => x.1 - j.1) ⟨0, Nat.zero_le _⟩ (sle_sub ⟨rfl, rfl, rfl, rfl, rfl, trivial⟩ rfl) fun j => ?_   -- live: [2, 3, 4]
  have hnl := num_lt (2 + j.1) (2 + x.1) (by omega) (by omega)
  refine awp_seq ?_
  refine awp_seq ?_
  refine rl ?_
  refine Mv ?_
  refine Mv ?_
  refine G (q_lss64 ?_)
  refine gend ?_
  refine cnd (fun hc2 => ?_) (fun hc2 => ?_); rotate_left
  · refine awp_exit ?_
    have hc2' := mt hnl.2 hc2
    rw [show j.1 = x.1 from (by have := j.2; omega)]
    refine awp_seq ?_
    refine rl ?_
    refine Mv ?_
    refine gend ?_
    refine cndb (fun hc3 => ?_) (fun hc3 => ?_)
    · refine awp_seq ?_
      refine rl ?_
      refine Mv ?_
      refine Mv ?_
      refine G (q_callp (root _/- escutcheon/blake.root -/) ?_)
      refine G (q_ixp1 ?_)
      refine G0 (q_stm ?_)
      refine gend ?_
      refine rl ?_
      refine Mv ?_
      refine G (q_addn (y := 1) ?_)
      refine As ?_
      refine gend ?_
      refine rl ?_
      refine Mv ?_
      refine G (q_add64 (y := 1) ?_)
      refine As ?_
      refine gend ?_
      exact ⟨⟨x.1 + 1, by omega⟩, by show 18 - (x.1 + 1) < 18 - x.1; omega, sle_sub ⟨rfl, congrArg (fun n => sc (cn n)) (by show _ = (stt (x.1 + 1)).1; rw [stt]; first | rw [if_pos (by assumption)] | rw [if_neg (by simp [*])]), congrArg (fun z => sc (c64 z)) (num_succ _), trivial⟩ (by show _ = [some (u32s (stt (x.1 + 1)).2)]; rw [stt]; first | (rw [if_pos (by assumption)]; rfl) | rw [if_neg (by simp [*])])⟩   -- endloop 1
    refine awp_skip ?_
    refine rl ?_
    refine Mv ?_
    refine G (q_add64 (y := 1) ?_)
    refine As ?_
    refine gend ?_
    exact ⟨⟨x.1 + 1, by omega⟩, by show 18 - (x.1 + 1) < 18 - x.1; omega, sle_sub ⟨rfl, congrArg (fun n => sc (cn n)) (by show _ = (stt (x.1 + 1)).1; rw [stt]; first | rw [if_pos (by assumption)] | rw [if_neg (by simp [*])]), congrArg (fun z => sc (c64 z)) (num_succ _), trivial⟩ (by show _ = [some (u32s (stt (x.1 + 1)).2)]; rw [stt]; first | (rw [if_pos (by assumption)]; rfl) | rw [if_neg (by simp [*])])⟩   -- endloop 1
  refine awp_skip ?_
  refine awp_seq ?_
  refine awp_block ?_
  refine rl ?_
  refine Mv ?_
  refine Mv ?_
  refine Asp 15 (fun hb2 => ?_) (fun hb2 => ?_)
  · refine Gg (q_mv (s := .v (.c _)) ?_)
    refine Gg (q_mv (s := .v (.c _)) ?_)
    refine Gg (q_rem64 ?_ (hz := num_ne _ (by omega) (by omega)))
    refine Gg (q_neq64 (y := 0) ?_)
    refine G (q_pkt ?_)
    refine As ?_
    refine gend ?_
    refine rl ?_
    refine Mv ?_
    refine G (q_add64 (y := 1) ?_)
    refine As ?_
    refine gend ?_
    exact ⟨⟨j.1 + 1, by have := hnl.1 hc2; omega⟩, by show x.1 - (j.1 + 1) < x.1 - j.1; have := hnl.1 hc2; omega, sle_sub ⟨rfl, rfl, rfl, congrArg (fun b => sc (.bool b)) (by show _ = prm x.1 (j.1 + 1); rw [prm]; simp [*]), congrArg (fun z => sc (c64 z)) (num_succ _), trivial⟩ rfl⟩   -- endloop 2
  refine Gn ?_
  refine Gn ?_
  refine Gn ?_
  refine Gn ?_
  refine G (q_pkf ?_)
  refine As ?_
  refine gend ?_
  refine rl ?_
  refine Mv ?_
  refine G (q_add64 (y := 1) ?_)
  refine As ?_
  refine gend ?_
  exact ⟨⟨j.1 + 1, by have := hnl.1 hc2; omega⟩, by show x.1 - (j.1 + 1) < x.1 - j.1; have := hnl.1 hc2; omega, sle_sub ⟨rfl, rfl, rfl, congrArg (fun b => sc (.bool b)) (by show _ = prm x.1 (j.1 + 1); rw [prm]; simp [*]), congrArg (fun z => sc (c64 z)) (num_succ _), trivial⟩ rfl⟩   -- endloop 2
/-- blake.orders -/
theorem orders : Good Try.prog 57 [] [] (sa (i64s ordz)) [] := by
  refine good_frm 12 Try.func57 rfl rfl rfl rfl rfl rfl ?_
  refine awp_seq ?_
  refine rl ?_
  refine G (q_al ?_)
  refine gend ?_
  refine awp_seq ?_
  refine rl ?_
  refine G (q_bla (fkC (out := i64s [0, 1, 2, 3, 4, 5, 6, 7, 8, 9, 10, 11, 12, 13, 14, 15]) ?_))
  refine G (q_bla (fkC (out := i64s [14, 10, 4, 8, 9, 15, 13, 6, 1, 12, 0, 2, 11, 7, 5, 3]) ?_))
  refine G (q_bla (fkC (out := i64s [11, 8, 12, 0, 5, 2, 15, 13, 10, 14, 3, 6, 7, 1, 9, 4]) ?_))
  refine G (q_bla (fkC (out := i64s [7, 9, 3, 1, 13, 12, 11, 14, 2, 6, 5, 10, 4, 0, 15, 8]) ?_))
  refine G (q_bla (fkC (out := i64s [9, 0, 5, 7, 2, 4, 10, 15, 14, 1, 11, 12, 6, 8, 3, 13]) ?_))
  refine G (q_bla (fkC (out := i64s [2, 12, 6, 10, 0, 11, 8, 3, 4, 13, 7, 5, 15, 14, 1, 9]) ?_))
  refine G (q_bla (fkC (out := i64s [12, 5, 1, 15, 14, 13, 4, 10, 0, 7, 6, 3, 9, 2, 8, 11]) ?_))
  refine G (q_bla (fkC (out := i64s [13, 11, 7, 14, 12, 1, 3, 9, 5, 0, 15, 4, 8, 6, 2, 10]) ?_))
  refine G (q_bla (fkC (out := i64s [6, 15, 14, 9, 11, 3, 0, 8, 12, 2, 13, 7, 1, 4, 10, 5]) ?_))
  refine G (q_bla (fkC (out := i64s [10, 2, 8, 4, 7, 6, 1, 5, 15, 11, 9, 14, 3, 12, 13, 0]) ?_))
  refine G (q_bla (fka rfl (et rfl) (by first | exact (mapc_length ..).trans (by with_reducible assumption) | decide +kernel | decide) (by first | decide +kernel | decide) (fka rfl (et rfl) (by first | exact (mapc_length ..).trans (by with_reducible assumption) | decide +kernel | decide) (by first | decide +kernel | decide) (fka rfl (et rfl) (by first | exact (mapc_length ..).trans (by with_reducible assumption) | decide +kernel | decide) (by first | decide +kernel | decide) (fka rfl (et rfl) (by first | exact (mapc_length ..).trans (by with_reducible assumption) | decide +kernel | decide) (by first | decide +kernel | decide) (fka rfl (et rfl) (by first | exact (mapc_length ..).trans (by with_reducible assumption) | decide +kernel | decide) (by first | decide +kernel | decide) (fka rfl (et rfl) (by first | exact (mapc_length ..).trans (by with_reducible assumption) | decide +kernel | decide) (by first | decide +kernel | decide) (fka rfl (et rfl) (by first | exact (mapc_length ..).trans (by with_reducible assumption) | decide +kernel | decide) (by first | decide +kernel | decide) (fka rfl (et rfl) (by first | exact (mapc_length ..).trans (by with_reducible assumption) | decide +kernel | decide) (by first | decide +kernel | decide) (fka rfl (et rfl) (by first | exact (mapc_length ..).trans (by with_reducible assumption) | decide +kernel | decide) (by first | decide +kernel | decide) (fka rfl (et rfl) (by first | exact (mapc_length ..).trans (by with_reducible assumption) | decide +kernel | decide) (by first | decide +kernel | decide) (fk0 ?_))))))))))))
  refine G0 (q_stw  ?_ (hl := by kernel_rfl) (hc := by kernel_rfl))
  refine gend ?_
  refine awp_ret ?_
  exact fpc (t := 98) (a := 0) (hn := by kernel_rfl) (hv := by kernel_rfl)
set_option maxHeartbeats 800000 in
/-- blake.press$1 -/
theorem mix_ (v : List UInt32) (a b c d : Nat) (x y : UInt32) (ha : a < 16) (hb : b < 16) (hc : c < 16) (hd : d < 16) (hv : v.length = 16) : Good Try.prog 72 [.c (cn a), .c (cn b), .c (cn c), .c (cn d), .c (c32 x), .c (c32 y), .c (.ptr 0 0)] [some (u32s v)] (.t []) [some (u32s (gmix v a b c d x y))] := by
  refine good_frm 89 Try.func72 rfl rfl rfl rfl rfl rfl ?_
  refine awp_seq ?_
  refine rdl [10] [] [0, 0, 0, 0, 0, 0, 0, 0, 0, 0, 1] ?_
  refine Dp (fun _ => q_mv (s := .v (.c _)) ⟨rfl, rfl⟩) ?_
  refine Dp (fun _ => q_ixp1 ⟨rfl, rfl⟩) ?_
  refine DLp ?_
  refine Dp (fun _ => q_mv (s := .v (.c _)) ⟨rfl, rfl⟩) ?_
  refine Dp (fun _ => q_ixp1 ⟨rfl, rfl⟩) ?_
  refine DLp ?_
  refine Dp (fun _ => q_mv (s := .v (.c _)) ⟨rfl, rfl⟩) ?_
  refine Dp (fun _ => q_add32 ⟨rfl, rfl⟩) ?_
  refine Dp (fun _ => q_add32 ⟨rfl, rfl⟩) ?_
  refine Dp (fun _ => q_ixp1 ⟨rfl, rfl⟩) ?_
  refine De0 (q_stm (pw ?_))
  refine dend ?_
  refine awp_seq ?_
  refine rdl [10] [] [0, 0, 0, 0, 0, 0, 0, 0, 0, 0, 1] ?_
  refine Dp (fun _ => q_mv (s := .v (.c _)) ⟨rfl, rfl⟩) ?_
  refine Dp (fun _ => q_mv (s := .v (.c _)) ⟨rfl, rfl⟩) ?_
  refine Dp (fun _ => q_ixp1 ⟨rfl, rfl⟩) ?_
  refine DLp ?_
  refine Dp (fun _ => q_mv (s := .v (.c _)) ⟨rfl, rfl⟩) ?_
  refine Dp (fun _ => q_ixp1 ⟨rfl, rfl⟩) ?_
  refine DLp ?_
  refine Dp (fun _ => q_xor32 ⟨rfl, rfl⟩) ?_
  refine Dp (fun _ => q_callp (rotl _ (-16)/- math/bits.RotateLeft32 -/) ⟨rfl, rfl⟩) ?_
  refine Dp (fun _ => q_ixp1 ⟨rfl, rfl⟩) ?_
  refine De0 (q_stm (pw ?_))
  refine dend ?_
  refine awp_seq ?_
  refine rdl [8] [] [0, 0, 0, 0, 0, 0, 0, 0, 1] ?_
  refine Dp (fun _ => q_mv (s := .v (.c _)) ⟨rfl, rfl⟩) ?_
  refine Dp (fun _ => q_ixp1 ⟨rfl, rfl⟩) ?_
  refine DLp ?_
  refine Dp (fun _ => q_mv (s := .v (.c _)) ⟨rfl, rfl⟩) ?_
  refine Dp (fun _ => q_ixp1 ⟨rfl, rfl⟩) ?_
  refine DLp ?_
  refine Dp (fun _ => q_add32 ⟨rfl, rfl⟩) ?_
  refine Dp (fun _ => q_ixp1 ⟨rfl, rfl⟩) ?_
  refine De0 (q_stm (pw ?_))
  refine dend ?_
  refine awp_seq ?_
  refine rdl [10] [] [0, 0, 0, 0, 0, 0, 0, 0, 0, 0, 1] ?_
  refine Dp (fun _ => q_mv (s := .v (.c _)) ⟨rfl, rfl⟩) ?_
  refine Dp (fun _ => q_mv (s := .v (.c _)) ⟨rfl, rfl⟩) ?_
  refine Dp (fun _ => q_ixp1 ⟨rfl, rfl⟩) ?_
  refine DLp ?_
  refine Dp (fun _ => q_mv (s := .v (.c _)) ⟨rfl, rfl⟩) ?_
  refine Dp (fun _ => q_ixp1 ⟨rfl, rfl⟩) ?_
  refine DLp ?_
  refine Dp (fun _ => q_xor32 ⟨rfl, rfl⟩) ?_
  refine Dp (fun _ => q_callp (rotl _ (-12)/- math/bits.RotateLeft32 -/) ⟨rfl, rfl⟩) ?_
  refine Dp (fun _ => q_ixp1 ⟨rfl, rfl⟩) ?_
  refine De0 (q_stm (pw ?_))
  refine dend ?_
  refine awp_seq ?_
  refine rdl [10] [] [0, 0, 0, 0, 0, 0, 0, 0, 0, 0, 1] ?_
  refine Dp (fun _ => q_mv (s := .v (.c _)) ⟨rfl, rfl⟩) ?_
  refine Dp (fun _ => q_ixp1 ⟨rfl, rfl⟩) ?_
  refine DLp ?_
  refine Dp (fun _ => q_mv (s := .v (.c _)) ⟨rfl, rfl⟩) ?_
  refine Dp (fun _ => q_ixp1 ⟨rfl, rfl⟩) ?_
  refine DLp ?_
  refine Dp (fun _ => q_mv (s := .v (.c _)) ⟨rfl, rfl⟩) ?_
  refine Dp (fun _ => q_add32 ⟨rfl, rfl⟩) ?_
  refine Dp (fun _ => q_add32 ⟨rfl, rfl⟩) ?_
  refine Dp (fun _ => q_ixp1 ⟨rfl, rfl⟩) ?_
  refine De0 (q_stm (pw ?_))
  refine dend ?_
  refine awp_seq ?_
  refine rdl [10] [] [0, 0, 0, 0, 0, 0, 0, 0, 0, 0, 1] ?_
  refine Dp (fun _ => q_mv (s := .v (.c _)) ⟨rfl, rfl⟩) ?_
  refine Dp (fun _ => q_mv (s := .v (.c _)) ⟨rfl, rfl⟩) ?_
  refine Dp (fun _ => q_ixp1 ⟨rfl, rfl⟩) ?_
  refine DLp ?_
  refine Dp (fun _ => q_mv (s := .v (.c _)) ⟨rfl, rfl⟩) ?_
  refine Dp (fun _ => q_ixp1 ⟨rfl, rfl⟩) ?_
  refine DLp ?_
  refine Dp (fun _ => q_xor32 ⟨rfl, rfl⟩) ?_
  refine Dp (fun _ => q_callp (rotl _ (-8)/- math/bits.RotateLeft32 -/) ⟨rfl, rfl⟩) ?_
  refine Dp (fun _ => q_ixp1 ⟨rfl, rfl⟩) ?_
  refine De0 (q_stm (pw ?_))
  refine dend ?_
  refine awp_seq ?_
  refine rdl [8] [] [0, 0, 0, 0, 0, 0, 0, 0, 1] ?_
  refine Dp (fun _ => q_mv (s := .v (.c _)) ⟨rfl, rfl⟩) ?_
  refine Dp (fun _ => q_ixp1 ⟨rfl, rfl⟩) ?_
  refine DLp ?_
  refine Dp (fun _ => q_mv (s := .v (.c _)) ⟨rfl, rfl⟩) ?_
  refine Dp (fun _ => q_ixp1 ⟨rfl, rfl⟩) ?_
  refine DLp ?_
  refine Dp (fun _ => q_add32 ⟨rfl, rfl⟩) ?_
  refine Dp (fun _ => q_ixp1 ⟨rfl, rfl⟩) ?_
  refine De0 (q_stm (pw ?_))
  refine dend ?_
  refine rdl [10] [] [0, 0, 0, 0, 0, 0, 0, 0, 0, 0, 1] ?_
  refine Dp (fun _ => q_mv (s := .v (.c _)) ⟨rfl, rfl⟩) ?_
  refine Dp (fun _ => q_mv (s := .v (.c _)) ⟨rfl, rfl⟩) ?_
  refine Dp (fun _ => q_ixp1 ⟨rfl, rfl⟩) ?_
  refine DLp ?_
  refine Dp (fun _ => q_mv (s := .v (.c _)) ⟨rfl, rfl⟩) ?_
  refine Dp (fun _ => q_ixp1 ⟨rfl, rfl⟩) ?_
  refine DLp ?_
  refine Dp (fun _ => q_xor32 ⟨rfl, rfl⟩) ?_
  refine Dp (fun _ => q_callp (rotl _ (-7)/- math/bits.RotateLeft32 -/) ⟨rfl, rfl⟩) ?_
  refine Dp (fun _ => q_ixp1 ⟨rfl, rfl⟩) ?_
  refine De0 (q_stm (pw ?_))
  refine dend ?_
  exact fw0 (hH := by simp only [rotk_16, rotk_12, rotk_8, rotk_7]; rfl)
end Go.Proofs.Ytlnepajgnckolaa.Bl

/- What functions of the program do, walked over the abstract machine. -/
namespace Go.Proofs.Ytlnepajgnckolaa.Bl
open Go Go.Abs Go.Proofs

set_option maxRecDepth 20000
theorem tk2 (h : List UInt32) (hh : h.length = 8) : (((u32s h).drop 0).take (8 * 1)).take (min 8 8 * 1) = u32s h := by
  rw [List.drop_zero, List.take_of_length_le (by rw [List.length_take, mapc_length]; omega), List.take_of_length_le (by rw [mapc_length]; omega)]
theorem cpy1 (h : List UInt32) (hh : h.length = 8) : splice (u32s (List.replicate 16 0)) 0 ((((u32s h).drop 0).take (8 * 1)).take (min 8 8 * 1)) = u32s (h ++ List.replicate 8 0) := by
  rw [tk2 h hh]
  simp [splice, mapc, hh]
theorem cpy2 (h f : List UInt32) (hh : h.length = 8) (hf : f.length = 8) : splice (u32s (h ++ List.replicate 8 0)) 8 ((((u32s f).drop 0).take (8 * 1)).take (min 8 8 * 1)) = u32s (h ++ f) := by
  rw [tk2 f hf]
  simp [splice, mapc, hh, hf, List.take_append, List.drop_append]
set_option maxHeartbeats 1600000 in
/-- blake.press -/
theorem press_ (h f : List UInt32) (l : List UInt8) (t : UInt64) (last : Bool) (hh : h.length = 8) (hf : f.length = 8) (hl : l.length = 64) : Good Try.prog 58 [.a (u32s h), .a (u32s f), .c (.rop (i64s ordz)), .c (.ro 64 (u8s l)), .c (c64 t), .c (.bool last)] [] (sa (u32s (press h f l t last))) [] := by
  refine good_frm 141 Try.func58 rfl rfl rfl rfl rfl rfl ?_
  refine awp_seq ?_
  refine rl ?_
  refine G (q_boxa ?_)
  refine G (q_boxa ?_)
  refine G (q_al ?_)
  refine gend ?_
  refine awp_seq ?_
  refine rl ?_
  refine G (q_al ?_)
  refine G (q_al ?_)
  refine gend ?_
  refine awp_seq ?_
  refine awp_seq ?_
  refine rl ?_
  refine Mv ?_
  refine G (q_leno ?_)
  refine G (q_mv (s := sc (cn 0)) ?_)
  refine gend ?_
  refine awp_block ?_
  refine awp_loop (fun x : {i : Nat // i ≤ 64} => ⟨frm 141 [(24, sc (.ro 64 (u8s l))), (25, sc (cn 64)), (26, sc (cn x.1)), (2, sc (.rop (i64s ordz))), (4, sc (c64 t)), (5, sc (.bool last)), (6, sc (.ptr 0 0)), (7, sc (.ptr 1 0)), (12, sc (.ptr 2 0)), (13, sc (.ptr 3 0)), (14, sc (.ptr 4 0))], [some (u32s h), some (u32s f), some (u32s (List.replicate 8 0)), some (u32s (mw l x.1)), some (u32s (List.replicate 16 0))]⟩) (fun x => 64 - x.1) ⟨0, Nat.zero_le _⟩ (sle_sub ⟨rfl, rfl, rfl, rfl, rfl, rfl, rfl, rfl, rfl, rfl, rfl, trivial⟩ rfl) fun x => ?_   -- live: [13, 24, 25, 26]
  have hm := mw_len l x.1
  refine awp_seq ?_
  refine rl ?_
  refine G (q_lssn ?_)
  refine gend ?_
  refine awp_seq ?_
  refine cnd (fun hc1 => ?_) (fun hc1 => ?_); rotate_left
  · refine awp_exit ?_
    rw [show x.1 = 64 from (by have := x.2; omega)]
    have hm := mw_len l 64
    generalize hM : mw l 64 = M at hm ⊢
    have hvl := vini_len h f t last hh hf
    have hhf : (h ++ f).length = 16 := by rw [List.length_append]; omega
    have hh8 : (h ++ List.replicate 8 (0 : UInt32)).length = 16 := by rw [List.length_append, List.length_replicate]; omega
    refine awp_mid ⟨frm 141 [(2, sc (.rop (i64s ordz))), (4, sc (c64 t)), (5, sc (.bool last)), (6, sc (.ptr 0 0)), (7, sc (.ptr 1 0)), (12, sc (.ptr 2 0)), (13, sc (.ptr 3 0)), (14, sc (.ptr 4 0))], [some (u32s h), some (u32s f), some (u32s (List.replicate 8 0)), some (u32s M), some (u32s (h ++ List.replicate 8 0))]⟩ ?_ ?_
    · refine rdl [2] [] [0, 0, 1] ?_
      refine DSp 4 rfl (fun _ hv => q_slp_hi (k := 8) ⟨rfl, rfl⟩ (hp := hv)) ?_
      refine DSp 0 rfl (fun _ hv => q_slp_no ⟨rfl, rfl⟩ (hp := hv)) ?_
      refine De (q_cpy  (pw ?_) (eB := el_slc rfl (by rw [mapc_length, hh]; decide) rfl))
      refine dend ?_
      exact sle_sub ⟨rfl, rfl, rfl, rfl, rfl, rfl, rfl, rfl, trivial⟩ (congrArg (fun z => [some (u32s h), some (u32s f), some (u32s (List.replicate 8 0)), some (u32s M), some z]) (cpy1 h hh))
    refine awp_mid ⟨frm 141 [(2, sc (.rop (i64s ordz))), (4, sc (c64 t)), (5, sc (.bool last)), (6, sc (.ptr 0 0)), (7, sc (.ptr 1 0)), (12, sc (.ptr 2 0)), (13, sc (.ptr 3 0)), (14, sc (.ptr 4 0))], [some (u32s h), some (u32s f), some (u32s (List.replicate 8 0)), some (u32s M), some (u32s (h ++ f))]⟩ ?_ ?_
    · refine rdl [2] [] [0, 0, 1] ?_
      refine DSp 4 rfl (fun _ hv => q_slp_lo (j := 8) ⟨rfl, rfl⟩ (hp := hv)) ?_
      refine DSp 1 rfl (fun _ hv => q_slp_no ⟨rfl, rfl⟩ (hp := hv)) ?_
      refine De (q_cpy  (pw ?_) (eB := el_slc rfl (by rw [mapc_length, hf]; decide) rfl))
      refine dend ?_
      exact sle_sub ⟨rfl, rfl, rfl, rfl, rfl, rfl, rfl, rfl, trivial⟩ (congrArg (fun z => [some (u32s h), some (u32s f), some (u32s (List.replicate 8 0)), some (u32s M), some z]) (cpy2 h f hh hf))
    refine awp_seq ?_
    refine rl ?_
    refine G (q_ixp1 ?_)
    refine G (q_ldp ?_)
    refine Mv ?_
    refine G (q_cv64_32 ?_)
    refine G (q_xor32 ?_)
    refine G (q_ixp1 ?_)
    refine G0 (q_stm ?_)
    refine gend ?_
    refine awp_seq ?_
    refine rl ?_
    refine G (q_ixp1 ?_)
    refine G (q_ldp ?_)
    refine Mv ?_
    refine G (q_shr64_64 (n := 32) ?_)
    refine G (q_cv64_32 ?_)
    refine G (q_xor32 ?_)
    refine G (q_ixp1 ?_)
    refine G0 (q_stm ?_)
    refine gend ?_
    refine awp_mid ⟨frm 141 [(2, sc (.rop (i64s ordz))), (4, sc (c64 t)), (5, sc (.bool last)), (6, sc (.ptr 0 0)), (7, sc (.ptr 1 0)), (12, sc (.ptr 2 0)), (13, sc (.ptr 3 0)), (14, sc (.ptr 4 0))], [some (u32s h), some (u32s f), some (u32s (List.replicate 8 0)), some (u32s M), some (u32s (vini h f t last))]⟩ ?_ ?_
    · refine awp_seq ?_
      refine rl ?_
      refine Mv ?_
      refine gend ?_
      refine cndb (fun hc2 => ?_) (fun hc2 => ?_)
      · refine rl ?_
        refine G (q_ixp1 ?_)
        refine G (q_ldp ?_)
        refine G (q_not32 ?_)
        refine G (q_ixp1 ?_)
        refine G0 (q_stm ?_)
        refine gend ?_
        exact sle_sub ⟨rfl, rfl, rfl, rfl, rfl, rfl, rfl, rfl, trivial⟩ (congrArg (fun z => [some (u32s h), some (u32s f), some (u32s (List.replicate 8 0)), some (u32s M), some (u32s z)]) (by rw [hc2]; rfl))
      refine awp_skip ?_
      exact sle_sub ⟨rfl, rfl, rfl, rfl, rfl, rfl, rfl, rfl, trivial⟩ (congrArg (fun z => [some (u32s h), some (u32s f), some (u32s (List.replicate 8 0)), some (u32s M), some (u32s z)]) (by rw [hc2]; rfl))
    refine awp_seq ?_
    refine rl ?_
    generalize hV : vini h f t last = V at hvl ⊢
    refine G (q_mkf ?_ (caps1 (et rfl) rfl caps0))
    refine As ?_
    refine gend ?_
    refine awp_seq ?_
    refine awp_seq ?_
    refine rl ?_
    refine G (q_mv (s := sc (cn 0)) ?_)
    refine gend ?_
    refine awp_block ?_
    refine awp_loop (fun r : {i : Nat // i ≤ 10} => ⟨frm 141 [(2, sc (.rop (i64s ordz))), (6, sc (.ptr 0 0)), (12, sc (.ptr 2 0)), (13, sc (.ptr 3 0)), (14, sc (.ptr 4 0)), (17, sc (.fn 72 [.ptr 4 0])), (69, sc (cn r.1))], [some (u32s h), some (u32s f), some (u32s (List.replicate 8 0)), some (u32s M), some (u32s (rnds M V r.1))]⟩) (fun r => 10 - r.1) ⟨0, Nat.zero_le _⟩ (sle_sub ⟨rfl, rfl, rfl, rfl, rfl, rfl, rfl, trivial⟩ rfl) fun r => ?_   -- live: [2, 13, 17, 69]
    have hr := (rnds_len M V r.1).trans hvl
    refine awp_seq ?_
    refine rl ?_
    refine G (q_lssn (y := 10) ?_)
    refine gend ?_
    refine awp_seq ?_
    refine cnd (fun hc3 => ?_) (fun hc3 => ?_); rotate_left
    · refine awp_exit ?_
      rw [show r.1 = 10 from (by have := r.2; omega)]
      have hr := (rnds_len M V 10).trans hvl
      generalize hR : rnds M V 10 = R at hr ⊢
      refine awp_seq ?_
      refine awp_seq ?_
      refine rl ?_
      refine G (q_mv (s := sc (cn 0)) ?_)
      refine gend ?_
      refine awp_block ?_
      refine awp_loop (fun y : {i : Nat // i ≤ 8} => ⟨frm 141 [(6, sc (.ptr 0 0)), (12, sc (.ptr 2 0)), (14, sc (.ptr 4 0)), (123, sc (cn y.1))], [some (u32s (hxr h R y.1)), some (u32s f), some (u32s (List.replicate 8 0)), some (u32s M), some (u32s R)]⟩) (fun y => 8 - y.1) ⟨0, Nat.zero_le _⟩ (sle_sub ⟨rfl, rfl, rfl, rfl, trivial⟩ rfl) fun y => ?_   -- live: [6, 14, 123]
      have hy := (hxr_len h R y.1).trans hh
      refine awp_seq ?_
      refine rl ?_
      refine G (q_lssn (y := 8) ?_)
      refine gend ?_
      refine awp_seq ?_
      refine cnd (fun hc4 => ?_) (fun hc4 => ?_); rotate_left
      · refine awp_exit ?_
        rw [show y.1 = 8 from (by have := y.2; omega)]
        have hy := (hxr_len h R 8).trans hh
        refine awp_seq ?_
        refine rl ?_
        refine G (q_ldw  ?_ (hl := (mapc_length ..).trans hy))
        refine G0 (q_stw  ?_ (hl := (mapc_length ..).trans hy) (hc := (mapc_length ..).trans (List.length_replicate ..)))
        refine gend ?_
        refine awp_ret ?_
        exact fpc (t := 95) (a := 12) (hn := by exact (mapc_length ..).trans hy) (hv := by rw [press, hM, hV, hR])
      refine awp_skip ?_
      refine awp_seq ?_
      refine awp_block ?_
      refine awp_seq ?_
      refine rl ?_
      refine Mv ?_
      refine As ?_
      refine gend ?_
      refine rdl [13] [] [0, 0, 0, 0, 0, 0, 0, 0, 0, 0, 0, 0, 0, 1] ?_
      refine Dp (fun _ => q_mv (s := .v (.c _)) ⟨rfl, rfl⟩) ?_
      refine Dp (fun _ => q_ixp1 ⟨rfl, rfl⟩) ?_
      refine DLp ?_
      refine Dp (fun _ => q_mv (s := .v (.c _)) ⟨rfl, rfl⟩) ?_
      refine Dp (fun _ => q_ixp1 ⟨rfl, rfl⟩) ?_
      refine DLp ?_
      refine Dp (fun _ => q_mv (s := .v (.c _)) ⟨rfl, rfl⟩) ?_
      refine Dp (fun _ => q_addn (y := 8) ⟨rfl, rfl⟩) ?_
      refine Dp (fun _ => q_ixp1 ⟨rfl, rfl⟩) ?_
      refine DLp ?_
      refine Dp (fun _ => q_xor32 ⟨rfl, rfl⟩) ?_
      refine Dp (fun _ => q_xor32 ⟨rfl, rfl⟩) ?_
      refine Dp (fun _ => q_ixp1 ⟨rfl, rfl⟩) ?_
      refine De0 (q_stm (pw ?_))
      refine dend ?_
      refine rl ?_
      refine G (q_addn (y := 1) ?_)
      refine Mv ?_
      refine gend ?_
      exact ⟨⟨y.1 + 1, by omega⟩, by show 8 - (y.1 + 1) < 8 - y.1; omega, sle_sub ⟨rfl, rfl, rfl, rfl, trivial⟩ rfl⟩   -- endloop 3
    refine awp_skip ?_
    refine awp_seq ?_
    refine awp_block ?_
    refine awp_seq ?_
    refine rl ?_
    refine Mv ?_
    refine As ?_
    refine gend ?_
    refine awp_seq ?_
    refine rl ?_
    refine G (q_mv (s := sc (cn 0)) ?_)
    refine gend ?_
    refine awp_block ?_
    refine awp_loop (fun i : {i : Nat // i ≤ 8} => ⟨frm 141 [(2, sc (.rop (i64s ordz))), (6, sc (.ptr 0 0)), (12, sc (.ptr 2 0)), (13, sc (.ptr 3 0)), (14, sc (.ptr 4 0)), (17, sc (.fn 72 [.ptr 4 0])), (69, sc (cn r.1)), (18, sc (cn r.1)), (72, sc (cn i.1))], [some (u32s h), some (u32s f), some (u32s (List.replicate 8 0)), some (u32s M), some (u32s (ins M r.1 (rnds M V r.1) i.1))]⟩) (fun i => 8 - i.1) ⟨0, Nat.zero_le _⟩ (sle_sub ⟨rfl, rfl, rfl, rfl, rfl, rfl, rfl, rfl, rfl, trivial⟩ rfl) fun i => ?_   -- live: [2, 13, 17, 18, 72]
    have hi := (ins_len M r.1 (rnds M V r.1) i.1).trans hr
    have ho1 := ords_lt (r.1 * 16 + 2 * i.1 * 1)
    have ho2 := ords_lt (r.1 * 16 + (2 * i.1 + 1) * 1)
    obtain ⟨p1, hp1⟩ : ∃ p, ords.getD (r.1 * 16 + 2 * i.1 * 1) 0 = p := ⟨_, rfl⟩
    obtain ⟨p2, hp2⟩ : ∃ p, ords.getD (r.1 * 16 + (2 * i.1 + 1) * 1) 0 = p := ⟨_, rfl⟩
    rw [hp1] at ho1
    rw [hp2] at ho2
    refine awp_seq ?_
    refine rl ?_
    refine G (q_lssn (y := 8) ?_)
    refine gend ?_
    refine awp_seq ?_
    refine cnd (fun hc5 => ?_) (fun hc5 => ?_); rotate_left
    · refine awp_exit ?_
      rw [show i.1 = 8 from (by have := i.2; omega)]
      refine rl ?_
      refine G (q_addn (y := 1) ?_)
      refine Mv ?_
      refine gend ?_
      exact ⟨⟨r.1 + 1, by omega⟩, by show 10 - (r.1 + 1) < 10 - r.1; omega, sle_sub ⟨rfl, rfl, rfl, rfl, rfl, rfl, rfl, trivial⟩ rfl⟩   -- endloop 2
    refine awp_skip ?_
    refine awp_seq ?_
    refine awp_block ?_
    refine awp_seq ?_
    refine rl ?_
    refine Mv ?_
    refine As ?_
    refine gend ?_
    refine awp_seq ?_
    refine rl ?_
    refine Mv ?_
    refine G (q_quon (y := 4) ?_)
    refine As ?_
    refine gend ?_
    refine awp_seq ?_
    refine rdl [] [] [] ?_
    refine Dp (fun _ => q_mv (s := .v (.c _)) ⟨rfl, rfl⟩) ?_
    refine Dp (fun _ => q_mv (s := .v (.c _)) ⟨rfl, rfl⟩) ?_
    refine Dp (fun _ => q_mv (s := .v (.c _)) ⟨rfl, rfl⟩) ?_
    refine Dp (fun _ => q_muln (x := 2) ⟨rfl, rfl⟩) ?_
    refine Dp (fun _ => q_ncr ⟨rfl, rfl⟩) ?_
    refine Dp (fun _ => q_ixr ⟨rfl, rfl⟩) ?_
    refine Dp (fun _ => q_ixr ⟨rfl, rfl⟩) ?_
    refine Dp (fun _ => q_ldrd  ⟨rfl, rfl⟩ (hc := (ords_at2 _ _ (by omega)).trans (by rw [hp1]))) ?_
    refine Dp (fun _ => q_ixp1 ⟨rfl, rfl⟩) ?_
    refine DLp ?_
    refine Dp (fun _ => q_mv (s := .v (.c _)) ⟨rfl, rfl⟩) ?_
    refine Dp (fun _ => q_mv (s := .v (.c _)) ⟨rfl, rfl⟩) ?_
    refine Dp (fun _ => q_mv (s := .v (.c _)) ⟨rfl, rfl⟩) ?_
    refine Dp (fun _ => q_muln (x := 2) ⟨rfl, rfl⟩) ?_
    refine Dp (fun _ => q_addn (y := 1) ⟨rfl, rfl⟩) ?_
    refine Dp (fun _ => q_ncr ⟨rfl, rfl⟩) ?_
    refine Dp (fun _ => q_ixr ⟨rfl, rfl⟩) ?_
    refine Dp (fun _ => q_ixr ⟨rfl, rfl⟩) ?_
    refine Dp (fun _ => q_ldrd  ⟨rfl, rfl⟩ (hc := (ords_at2 _ _ (by omega)).trans (by rw [hp2]))) ?_
    refine Dp (fun _ => q_ixp1 ⟨rfl, rfl⟩) ?_
    refine DLp ?_
    refine Dp (fun _ => q_as (s := .v (.c _)) ⟨rfl, rfl⟩) ?_
    refine Dp (fun _ => q_as (s := .v (.c _)) ⟨rfl, rfl⟩) ?_
    refine dend ?_
    refine rl ?_
    refine Mv ?_
    refine Mv ?_
    refine G (q_remn (y := 4) ?_)
    refine Mv ?_
    refine Mv ?_
    refine G (q_addn ?_)
    refine G (q_remn (y := 4) ?_)
    refine G (q_addn (x := 4) ?_)
    refine Mv ?_
    refine Mv ?_
    refine G (q_muln (x := 2) ?_)
    refine G (q_addn ?_)
    refine G (q_remn (y := 4) ?_)
    refine G (q_addn (x := 8) ?_)
    refine Mv ?_
    refine Mv ?_
    refine G (q_muln (x := 3) ?_)
    refine G (q_addn ?_)
    refine G (q_remn (y := 4) ?_)
    refine G (q_addn (x := 12) ?_)
    refine Mv ?_
    refine Mv ?_
    refine G (q_callcw 4 (mix_ _ (i.1 % 4) (4 + (i.1 + i.1 / 4) % 4) (8 + (i.1 + 2 * (i.1 / 4)) % 4) (12 + (i.1 + 3 * (i.1 / 4)) % 4) (M.getD p1 0) (M.getD p2 0) (by omega) (by omega) (by omega) (by omega) hi) ?_ (ha := cac (et rfl) cm_int (cac (et rfl) cm_int (cac (et rfl) cm_int (cac (et rfl) cm_int (cac (et rfl) cm_int (cac (et rfl) cm_int ca0)))))))
    refine gend ?_
    refine rl ?_
    refine G (q_addn (y := 1) ?_)
    refine Mv ?_
    refine gend ?_
    exact ⟨⟨i.1 + 1, by omega⟩, by show 8 - (i.1 + 1) < 8 - i.1; omega, sle_sub ⟨rfl, rfl, rfl, rfl, rfl, rfl, rfl, rfl, rfl, trivial⟩ (by show _ = [some (u32s h), some (u32s f), some (u32s (List.replicate 8 0)), some (u32s M), some (u32s (ins M r.1 (rnds M V r.1) (i.1 + 1)))]; rw [ins, hp1, hp2]; rfl)⟩   -- endloop 4
  refine awp_skip ?_
  refine awp_seq ?_
  refine awp_block ?_
  refine awp_seq ?_
  refine rl ?_
  refine Mv ?_
  refine G (q_ixo1 ?_)
  refine G (q_ldrd ?_)
  refine As ?_
  refine As ?_
  refine gend ?_
  refine rdl [12] [] [0, 0, 0, 0, 0, 0, 0, 0, 0, 0, 0, 0, 1] ?_
  refine Dp (fun _ => q_mv (s := .v (.c _)) ⟨rfl, rfl⟩) ?_
  refine Dp (fun _ => q_quon (y := 4) ⟨rfl, rfl⟩) ?_
  refine Dp (fun _ => q_ixp1 ⟨rfl, rfl⟩) ?_
  refine DLp ?_
  refine Dp (fun _ => q_mv (s := .v (.c _)) ⟨rfl, rfl⟩) ?_
  refine Dp (fun _ => q_cv8_32 ⟨rfl, rfl⟩) ?_
  refine Dp (fun _ => q_mv (s := .v (.c _)) ⟨rfl, rfl⟩) ?_
  refine Dp (fun _ => q_remn (y := 4) ⟨rfl, rfl⟩) ?_
  refine Dp (fun _ => q_muln (x := 8) ⟨rfl, rfl⟩) ?_
  refine Dp (fun _ => q_shl32_0 ⟨rfl, rfl⟩) ?_
  refine Dp (fun _ => q_or32 ⟨rfl, rfl⟩) ?_
  refine Dp (fun _ => q_ixp1 ⟨rfl, rfl⟩) ?_
  refine De0 (q_stm (pw ?_))
  refine dend ?_
  refine rl ?_
  refine G (q_addn (y := 1) ?_)
  refine Mv ?_
  refine gend ?_
  exact ⟨⟨x.1 + 1, by omega⟩, by show 64 - (x.1 + 1) < 64 - x.1; omega, sle_sub ⟨rfl, rfl, rfl, rfl, rfl, rfl, rfl, rfl, rfl, rfl, rfl, trivial⟩ rfl⟩   -- endloop 1
end Go.Proofs.Ytlnepajgnckolaa.Bl

/- What functions of the program do, walked over the abstract machine. -/
namespace Go.Proofs.Ytlnepajgnckolaa.Bl
open Go Go.Abs Go.Proofs

set_option maxRecDepth 20000
abbrev fst8 : List UInt32 := (stt 18).2
theorem fst8_len : fst8.length = 8 := stt_len 18
def sp {α : Type} (a b : List α) (q : Nat) : List α := a.take q ++ (b ++ a.drop (q + b.length))
theorem splice_cpy {α : Type} {k : IntKind} {g : α → Int} {a b : List α} {q j c d : Nat} : splice (mapc k g a) q ((((mapc k g b).drop c).take d).take j) = mapc k g (sp a (((b.drop c).take d).take j) q) := by
  simp [mapc, splice, sp]
/-- A block: bytes, and noughts behind them. -/
abbrev blk (m : List UInt8) (q k : Nat) : List UInt8 := sp (List.replicate 64 0) (((m.drop q).take (k * 1)).take (min k 64 * 1)) 0
theorem blk_len (m : List UInt8) (q k : Nat) (hk : k ≤ 64) : (blk m q k).length = 64 := by
  simp [blk, sp]
  omega
theorem slc_eq {b q q' n n' z : Nat} (h : q = q') (h' : n = n') : sc (.slc b q n z) = sc (.slc b q' n' z) := by rw [h, h']
def hac (F : List UInt32) (m : List UInt8) : Nat → List UInt32
  | 0 => F.set 0 (F.getD 0 0 ^^^ 16842784)
  | j + 1 => press (hac F m j) F (blk m (min (64 * j) m.length) (min 64 (m.length - min (64 * j) m.length))) (UInt64.ofNat (min (64 * (j + 1)) m.length))
      (decide (m.length - min (64 * j) m.length - min 64 (m.length - min (64 * j) m.length) = 0))
theorem hac_len (F : List UInt32) (m : List UInt8) (hF : F.length = 8) : ∀ j, (hac F m j).length = 8
  | 0 => by simp [hac, hF]
  | j + 1 => by rw [hac, press_len, hac_len F m hF]
def outw (h : List UInt32) : Nat → List UInt8
  | 0 => List.replicate 32 0
  | i + 1 => (outw h i).set i (shr32n (h.getD (i / 4) 0) (8 * (i % 4))).toUInt8
theorem outw_len (h : List UInt32) : ∀ i, (outw h i).length = 32
  | 0 => by simp [outw]
  | i + 1 => by rw [outw, List.length_set, outw_len]
def bsum (m : List UInt8) : List UInt8 := outw (hac fst8 m ((m.length + 63) / 64 - 1 + 1)) 32
theorem bsum_len (m : List UInt8) : (bsum m).length = 32 := outw_len _ _
set_option maxHeartbeats 1600000 in
/-- blake.Sum -/
theorem sum_ (ps : List (List UInt8)) (k : Nat) (hk : ps.length = k) (hk9 : k ≤ 100000) (hm : ps.flatten.length ≤ 100000) : Good Try.prog 45 [.c (.ro k (pcs ps))] [] (sa (u8s (bsum ps.flatten))) [] := by
  refine good_frm 72 Try.func45 rfl rfl rfl rfl rfl rfl ?_
  refine awp_seq ?_
  refine rl ?_
  refine G (q_al ?_)
  refine gend ?_
  refine awp_seq ?_
  refine rl ?_
  refine As ?_
  refine gend ?_
  refine awp_seq ?_
  refine awp_seq ?_
  refine rl ?_
  refine Mv ?_
  refine G (q_leno ?_)
  refine G (q_mv (s := sc (cn 0)) ?_)
  refine gend ?_
  refine awp_block ?_
  refine awp_loop (fun x : {s : Nat × List UInt8 × Nat // s.1 ≤ k ∧ s.2.1 = fl ps s.1 ∧ s.2.1.length = s.2.2} => ⟨frm 72 [(2, sc (.ptr 0 0)), (3, sc (.slc 1 0 x.1.2.2 1)), (13, sc (.ro k (pcs ps))), (14, sc (cn k)), (15, sc (cn x.1.1))], [some (u8s (List.replicate 32 0)), some (u8s x.1.2.1)]⟩) (fun x => k - x.1.1) ⟨(0, [], 0), Nat.zero_le _, rfl, rfl⟩ (sle_empty 1 (Nat.zero_le _) ⟨.inl rfl, .inr ⟨rfl, rfl⟩, .inl rfl, .inl rfl, .inl rfl, trivial⟩) fun x => ?_
  have h1 := x.2.1
  have h2 := x.2.2.1
  have hmn := x.2.2.2
  have hpl : (pcs ps).length = k := by simp [pcs, hk]
  refine awp_seq ?_
  refine rl ?_
  refine G (q_lssn ?_)
  refine gend ?_
  refine awp_seq ?_
  refine cnd (fun hc1 => ?_) (fun hc1 => ?_); rotate_left
  · refine awp_exit ?_
    have hik : x.1.1 = k := by omega
    have hmf : x.1.2.1 = ps.flatten := by rw [h2, fl, hik, ← hk, List.take_length]
    generalize x.1.2.1 = m at hmf hmn ⊢
    generalize x.1.2.2 = n at hmn ⊢
    have hn9 : n ≤ 100000 := by rw [← hmn, hmf]; exact hm
    have hF := fst8_len
    have gst : Good Try.prog 56 [] [] (sa (u32s fst8)) [] := start
    generalize hFe : fst8 = F at hF gst
    have hoz : ordz.length = 160 := by decide +kernel
    refine awp_seq ?_
    refine rl ?_
    refine G (q_callp (gst/- escutcheon/blake.start -/) ?_)
    refine G (q_callp (orders/- escutcheon/blake.orders -/) ?_)
    refine G (q_al ?_)
    refine G (q_al ?_)
    refine G0 (q_stw  ?_ (hl := (mapc_length ..).trans hF) (hc := (mapc_length ..).trans (List.length_replicate ..)))
    refine G0 (q_stw  ?_ (hl := (mapc_length ..).trans hoz) (hc := (mapc_length ..).trans (List.length_replicate ..)))
    refine gend ?_
    refine awp_seq ?_
    refine rl ?_
    refine G (q_ldw  ?_ (hl := (mapc_length ..).trans hF))
    refine G (q_al ?_)
    refine G0 (q_stw  ?_ (hl := (mapc_length ..).trans hF) (hc := (mapc_length ..).trans (List.length_replicate ..)))
    refine gend ?_
    refine awp_seq ?_
    refine rl ?_
    refine G (q_ixp1 ?_)
    refine G (q_ldp ?_)
    refine G (q_xor32 (y := 16842784) ?_)
    refine G (q_ixp1 ?_)
    refine G0 (q_stm ?_)
    refine gend ?_
    refine awp_seq ?_
    refine rl ?_
    refine G (q_as (s := sc (c64 0)) ?_)
    refine gend ?_
    refine awp_seq ?_
    refine awp_block ?_
    refine awp_loop (fun j : {i : Nat // i ≤ ((n + 63) / 64 - 1)} => ⟨frm 72 [(2, sc (.ptr 0 0)), (3, sc (.slc 1 (min (64 * j.1) n) (n - min (64 * j.1) n) 1)), (6, sc (.ptr 2 0)), (7, sc (.ptr 3 0)), (8, sc (.ptr 4 0)), (9, sc (c64 (UInt64.ofNat (min (64 * j.1) n))))], [some (u8s (List.replicate 32 0)), some (u8s m), some (u32s F), some (i64s ordz), some (u32s (hac F m j.1))]⟩) (fun j => ((n + 63) / 64 - 1) - j.1) ⟨0, Nat.zero_le _⟩ (sle_sub ⟨rfl, rfl, rfl, rfl, rfl, rfl, trivial⟩ rfl) fun j => ?_   -- live: [3, 6, 7, 8, 9]
    have hh := hac_len F m hF j.1
    refine awp_block ?_
    refine awp_seq ?_
    refine rl ?_
    refine Mv ?_
    refine G (q_lenc ?_)
    refine G (q_minn (x := 64) ?_)
    refine As ?_
    refine gend ?_
    refine awp_seq ?_
    refine rl ?_
    refine G (q_al ?_)
    refine gend ?_
    refine awp_mid ⟨frm 72 [(2, sc (.ptr 0 0)), (3, sc (.slc 1 (min (64 * j.1) n) (n - (min (64 * j.1) n)) 1)), (6, sc (.ptr 2 0)), (7, sc (.ptr 3 0)), (8, sc (.ptr 4 0)), (9, sc (c64 (UInt64.ofNat (min (64 * j.1) n)))), (10, sc (cn (min 64 (n - min (64 * j.1) n)))), (11, sc (.ptr 5 0))], [some (u8s (List.replicate 32 0)), some (u8s m), some (u32s F), some (i64s ordz), some (u32s (hac F m j.1)), some (u8s (blk m (min (64 * j.1) n) (min 64 (n - min (64 * j.1) n))))]⟩ ?_ ?_
    · refine rdl [4] [] [0, 0, 0, 0, 1] ?_
      refine DSp 5 rfl (fun _ hv => q_slp_no ⟨rfl, rfl⟩ (hp := hv)) ?_
      refine Dp (fun _ => q_mv (s := .v (.c _)) ⟨rfl, rfl⟩) ?_
      refine Dp (fun _ => q_mv (s := .v (.c _)) ⟨rfl, rfl⟩) ?_
      refine Dp (fun _ => q_sls_hi ⟨rfl, rfl⟩) ?_
      refine De (q_cpy (pw ?_))
      refine dend ?_
      exact sle_sub ⟨rfl, rfl, rfl, rfl, rfl, rfl, rfl, rfl, trivial⟩ (congrArg (fun z => [some (u8s (List.replicate 32 0)), some (u8s m), some (u32s F), some (i64s ordz), some (u32s (hac F m j.1)), some z]) splice_cpy)
    refine awp_seq ?_
    refine rl ?_
    refine Mv ?_
    refine Mv ?_
    refine G (q_cv0_64 ?_)
    refine G (q_add64 ?_)
    refine As ?_
    refine gend ?_
    refine awp_seq ?_
    refine rl ?_
    refine Mv ?_
    refine Mv ?_
    refine G (q_sls_lo ?_)
    refine As ?_
    refine gend ?_
    refine awp_seq ?_
    have ht : UInt64.ofNat (min (64 * j.1) n) + UInt64.ofNat (min 64 (n - min (64 * j.1) n)) = UInt64.ofNat (min (64 * (j.1 + 1)) n) := by rw [← UInt64.ofNat_add]; congr 1; omega
    have hbk := blk_len m (min (64 * j.1) n) (min 64 (n - min (64 * j.1) n)) (by omega)
    have gP := press_ (hac F m j.1) F (blk m (min (64 * j.1) n) (min 64 (n - min (64 * j.1) n))) (UInt64.ofNat (min (64 * j.1) n) + UInt64.ofNat (min 64 (n - min (64 * j.1) n))) (decide (n - (min (64 * j.1) n) - (min 64 (n - min (64 * j.1) n)) = 0)) hh hF hbk
    have hpa : hac F m (j.1 + 1) = press (hac F m j.1) F (blk m (min (64 * j.1) n) (min 64 (n - min (64 * j.1) n))) (UInt64.ofNat (min (64 * j.1) n) + UInt64.ofNat (min 64 (n - min (64 * j.1) n))) (decide (n - (min (64 * j.1) n) - (min 64 (n - min (64 * j.1) n)) = 0)) := by rw [hac, hmn, ht]
    rw [← hpa] at gP
    have hA1 := hac_len F m hF (j.1 + 1)
    obtain ⟨A1, hA1e⟩ : ∃ A, hac F m (j.1 + 1) = A := ⟨_, rfl⟩
    rw [hA1e] at gP hA1
    refine rdl [7, 8] [0, 0, 0, 0, 0, 0, 0, 0, 1] [0, 0, 0, 0, 0, 0, 0, 1, 2] ?_
    refine DLw  ?_ (hl := (mapc_length ..).trans hh)
    refine DLw  ?_ (hl := (mapc_length ..).trans hF)
    refine DSp 5 rfl (fun _ hv => q_slp_no ⟨rfl, rfl⟩ (hp := hv)) ?_
    refine Dp (fun _ => q_mv (s := .v (.c _)) ⟨rfl, rfl⟩) ?_
    refine Dp (fun _ => q_mv (s := .v (.c _)) ⟨rfl, rfl⟩) ?_
    refine Dp (fun _ => q_lenc ⟨rfl, rfl⟩) ?_
    refine Dp (fun _ => q_eqln (y := 0) ⟨rfl, rfl⟩) ?_
    refine De (q_callp (gP) (pw ?_) (ha := caa (et rfl) sees_m (caa (et rfl) sees_m (cac (et rfl) (sees_ptr rfl rfl rfl (mapc_cm ..)) (cac (et rfl) (sees_slc rfl rfl (cut_h hbk)) (cac (et rfl) cm_int (cac (et rfl) cm_bool ca0)))))))
    refine De0 (q_stw  (pw ?_) (hl := (mapc_length ..).trans hA1) (hc := (mapc_length ..).trans hh))
    refine dend ?_
    refine awp_seq ?_
    refine rl ?_
    refine Mv ?_
    refine G (q_lenc ?_)
    refine G (q_eqln (y := 0) ?_)
    refine gend ?_
    refine cnd (fun hc2 => ?_) (fun hc2 => ?_)
    · refine awp_exit ?_
      have hJ : j.1 = (n + 63) / 64 - 1 := by have := j.2; omega
      refine awp_seq ?_
      refine awp_seq ?_
      refine rl ?_
      refine G (q_mv (s := sc (cn 0)) ?_)
      refine gend ?_
      refine awp_block ?_
      refine awp_loop (fun y : {i : Nat // i ≤ 32} => ⟨frm 72 [(2, sc (.ptr 0 0)), (8, sc (.ptr 4 0)), (56, sc (cn y.1))], [some (u8s (outw A1 y.1)), some (u8s m), some (u32s F), some (i64s ordz), some (u32s A1), some (u8s (blk m (min (64 * j.1) n) (min 64 (n - min (64 * j.1) n))))]⟩) (fun y => 32 - y.1) ⟨0, Nat.zero_le _⟩ (sle_sub ⟨rfl, rfl, rfl, trivial⟩ rfl) fun y => ?_   -- live: [2, 8, 56]
      have ho := outw_len A1 y.1
      refine awp_seq ?_
      refine rl ?_
      refine G (q_lssn (y := 32) ?_)
      refine gend ?_
      refine awp_seq ?_
      refine cnd (fun hc3 => ?_) (fun hc3 => ?_); rotate_left
      · refine awp_exit ?_
        rw [show y.1 = 32 from (by have := y.2; omega)]
        have ho := outw_len A1 32
        refine awp_seq ?_
        refine rl ?_
        refine G (q_ldw  ?_ (hl := (mapc_length ..).trans ho))
        refine G0 (q_stw  ?_ (hl := (mapc_length ..).trans ho) (hc := (mapc_length ..).trans ho))
        refine gend ?_
        refine awp_ret ?_
        exact fpc (t := 23) (a := 2) (hn := by exact (mapc_length ..).trans ho) (hv := by rw [bsum, ← hmf, hmn, hFe, ← hJ, hA1e])
      refine awp_skip ?_
      refine awp_seq ?_
      refine awp_block ?_
      refine awp_seq ?_
      refine rl ?_
      refine Mv ?_
      refine As ?_
      refine gend ?_
      refine rl ?_
      refine Mv ?_
      refine Mv ?_
      refine G (q_quon (y := 4) ?_)
      refine G (q_ixp1 ?_)
      refine G (q_ldp ?_)
      refine Mv ?_
      refine G (q_remn (y := 4) ?_)
      refine G (q_muln (x := 8) ?_)
      refine G (q_shr32_0 ?_)
      refine G (q_cv32_8 ?_)
      refine G (q_ixp1 ?_)
      refine G0 (q_stm ?_)
      refine gend ?_
      refine rl ?_
      refine G (q_addn (y := 1) ?_)
      refine Mv ?_
      refine gend ?_
      exact ⟨⟨y.1 + 1, by omega⟩, by show 32 - (y.1 + 1) < 32 - y.1; omega, sle_sub ⟨rfl, rfl, rfl, trivial⟩ rfl⟩   -- endloop 3
    refine awp_skip ?_
    exact ⟨⟨j.1 + 1, by omega⟩, by show ((n + 63) / 64 - 1) - (j.1 + 1) < ((n + 63) / 64 - 1) - j.1; omega, sle_view [0, 1, 2, 3, 4] (fun p h => absurd h (Nat.not_lt_zero _)) (by decide) ⟨rfl, slc_eq (by show _ = min (64 * (j.1 + 1)) n; omega) (by show _ = n - min (64 * (j.1 + 1)) n; omega), rfl, rfl, rfl, congrArg (fun z => sc (c64 z)) ht, trivial⟩ (vh5 (pick_m rfl) (pick_m rfl) (pick_m rfl) (pick_m rfl) (pick_m (congrArg (fun z => some (some (u32s z))) hA1e.symm)))⟩   -- endloop 2
  refine awp_skip ?_
  refine awp_seq ?_
  refine awp_block ?_
  refine awp_seq ?_
  refine rl ?_
  have hb := fl_le ps x.1.1 (by omega)
  rw [← h2, hmn] at hb
  refine G (q_ixo1 ?_)
  refine G (q_ldrd ?_ (hc := pcs_at (by omega)))
  refine As ?_
  refine gend ?_
  refine rl ?_
  refine Mv ?_
  refine Mv ?_
  refine G (q_app ?_)
  refine As ?_
  refine gend ?_
  refine rl ?_
  refine G (q_addn (y := 1) ?_)
  refine Mv ?_
  refine gend ?_
  exact ⟨⟨(x.1.1 + 1, x.1.2.1 ++ ps.getD x.1.1 [], x.1.2.2 + (ps.getD x.1.1 []).length), by show x.1.1 + 1 ≤ k; omega, by show x.1.2.1 ++ _ = fl ps (x.1.1 + 1); rw [fl_succ ps x.1.1 (by omega), h2], by show (x.1.2.1 ++ _).length = _; rw [List.length_append, hmn]⟩, by show k - (x.1.1 + 1) < k - x.1.1; omega, sle_view [0, 2] (fun p h => absurd h (Nat.not_lt_zero _)) (by decide) ⟨rfl, rfl, rs_pcs, rfl, rfl, trivial⟩ (vh2 (pick_m rfl) (pick_m (congrArg (fun z => some (some z)) (mapc_append ..))))⟩   -- endloop 1
end Go.Proofs.Ytlnepajgnckolaa.Bl

/- What functions of the program do, walked over the abstract machine. -/
namespace Go.Proofs.Ytlnepajgnckolaa.Bl
open Go Go.Abs Go.Proofs

set_option maxRecDepth 20000
theorem take0_m {l : List UInt8} {c : Nat} : ((u8s l).drop (0 * 1)).take (c * 1) = u8s (l.take c) := by rw [Nat.mul_one, Nat.mul_one, cut_m]; rfl
theorem drop_m {l : List UInt8} {c n : Nat} (h : l.length = n) : ((u8s l).drop (c * 1)).take ((n - c) * 1) = u8s (l.drop c) := by
  rw [Nat.mul_one, Nat.mul_one, cut_m, List.take_of_length_le (by rw [List.length_drop]; omega)]
theorem pcs_len {ps : List (List UInt8)} : (pcs ps).length = ps.length := by simp [pcs]
theorem pcs_map {ps : List (List UInt8)} {f : Nat → Option Nat} {x : Nat → Option (List Cell)} {b : Bool} {d : Nat} : (pcs ps).map (cm ⟨f, x, true, b⟩ (d + 1)) = pcs ps := by
  simp only [pcs, List.map_map]
  apply List.map_congr_left
  intro l _
  show Cell.ro l.length ((u8s l).map (cm ⟨f, x, true, b⟩ d)) = _
  rw [mapc_cm]
/-- A key, as the mac has it: its hash when it is long; noughts behind it. -/
def kcut (key : List UInt8) : List UInt8 := if 64 < key.length then bsum key else key
def kpad (key : List UInt8) : List UInt8 := kcut key ++ List.replicate (64 - (kcut key).length) 0
def xall (v : UInt8) (l : List UInt8) : List UInt8 := l.map (fun b => b ^^^ v)
def hmac (key m : List UInt8) : List UInt8 := bsum (xall 92 (kpad key) ++ bsum (xall 54 (kpad key) ++ m))
theorem kcut_len (key : List UInt8) : (kcut key).length ≤ 64 := by
  unfold kcut; split
  · rw [bsum_len]; decide
  · omega
theorem kpad_len (key : List UInt8) : (kpad key).length = 64 := by
  have := kcut_len key
  rw [kpad, List.length_append, List.length_replicate]; omega
theorem xall_len (v : UInt8) (l : List UInt8) : (xall v l).length = l.length := by simp [xall]
theorem hmac_len (key m : List UInt8) : (hmac key m).length = 32 := bsum_len _
/-- Byte by byte. -/
def xst (l : List UInt8) (v : UInt8) : Nat → List UInt8
  | 0 => l
  | i + 1 => (xst l v i).set i ((xst l v i).getD i 0 ^^^ v)
theorem xst_len (l : List UInt8) (v : UInt8) : ∀ i, (xst l v i).length = l.length
  | 0 => rfl
  | i + 1 => by rw [xst, List.length_set, xst_len]
theorem xst_eq (l : List UInt8) (v : UInt8) : ∀ i, i ≤ l.length → xst l v i = xall v (l.take i) ++ l.drop i
  | 0, _ => by simp [xst, xall]
  | i + 1, h => by
    have hi : i < l.length := by omega
    have hd : l.drop i = l[i] :: l.drop (i + 1) := List.drop_eq_getElem_cons hi
    have ht : l.take (i + 1) = l.take i ++ [l[i]] := by rw [List.take_add_one, List.getElem?_eq_getElem hi]; rfl
    have hx : (xall v (l.take i)).length = i := by rw [xall_len, List.length_take]; omega
    have hg : (xall v (l.take i) ++ l.drop i).getD i 0 = l[i] := by
      rw [List.getD_eq_getElem?_getD, List.getElem?_append_right (by omega), hx, Nat.sub_self, hd]; rfl
    rw [xst, xst_eq l v i (by omega), hg, List.set_append_right _ _ (by omega), hx, Nat.sub_self, hd, ht]
    unfold xall
    rw [List.map_append, List.append_assoc]
    rfl
theorem xst_all (l : List UInt8) (v : UInt8) (n : Nat) (h : l.length = n) : xst l v n = xall v l := by
  subst h
  rw [xst_eq l v _ (Nat.le_refl _), List.take_length, List.drop_length, List.append_nil]
/-- A key laid into 64 noughts. -/
theorem kp_short (key : List UInt8) (n : Nat) (hn : key.length = n) (h : n ≤ 64) : splice (u8s (List.replicate 64 0)) 0 ((u8s key).take (min n 64 * 1)) = u8s (kpad key) := by
  have hk : kcut key = key := by unfold kcut; rw [if_neg (by omega)]
  rw [Nat.mul_one, Nat.min_eq_left h, List.take_of_length_le (by rw [mapc_length]; omega), kpad, hk, hn]
  unfold splice
  rw [List.take_zero, List.nil_append, mapc_length, Nat.zero_add, hn, mapc_drop, List.drop_replicate, mapc_append]
theorem kp_long (key : List UInt8) (n : Nat) (hn : key.length = n) (h : 64 < n) : splice (u8s (List.replicate 64 0)) 0 ((u8s (bsum key)).take (min 32 64 * 1)) = u8s (kpad key) := by
  have hk : kcut key = bsum key := by unfold kcut; rw [if_pos (by omega)]
  have hb := bsum_len key
  rw [show min 32 64 * 1 = 32 from rfl, List.take_of_length_le (by rw [mapc_length]; omega), kpad, hk]
  simp [splice, mapc, hb]

theorem parts_cons {π : List Nat} {H : Heap} {d p n k : Nat} {l : List UInt8} {ps : List (List UInt8)} (hi : idx p π = none) (hp : H[p]? = some (some (u8s l))) (hn : l.length = n) (hk : ps.length = k) : ((([Cell.slc p 0 n 1] ++ pcs ps).drop 0).take ((1 + k) * 1)).map (cm (cin π true H) (d + 1)) = pcs (l :: ps) := by
  rw [List.drop_zero, List.take_of_length_le (by simp [pcs]; omega), List.singleton_append]
  exact pq_slc hi hp (cut_h hn) hn pcs_map
set_option maxHeartbeats 800000 in
/-- hkdf.Mac -/
theorem mac_short (key m : List UInt8) (ps : List (List UInt8)) (n k : Nat) (hn : key.length = n) (hn9 : n ≤ 10000) (h : n ≤ 64) (hk : ps.length = k) (hk9 : k ≤ 1000) (hps : ps.flatten = m) (hm : m.length ≤ 10000) : Good Try.prog 74 [.c (.ro n (u8s key)), .c (.ro k (pcs ps))] [] (sa (u8s (hmac key m))) [] := by
  have hKl := kpad_len key
  have hcp := kp_short key n hn h
  have g1 := sum_ (xall 54 (kpad key) :: ps) (1 + k) (by simp [hk]; omega) (by omega) (by simp [xall_len, hKl, hps]; omega)
  rw [List.flatten_cons, hps] at g1
  have g2 := sum_ [xall 92 (kpad key), bsum (xall 54 (kpad key) ++ m)] 2 rfl (by decide) (by simp [xall_len, hKl, bsum_len])
  rw [show [xall 92 (kpad key), bsum (xall 54 (kpad key) ++ m)].flatten = xall 92 (kpad key) ++ bsum (xall 54 (kpad key) ++ m) by simp] at g2
  obtain ⟨R, hR⟩ : ∃ R, bsum (xall 54 (kpad key) ++ m) = R := ⟨_, rfl⟩
  have hRl : R.length = 32 := by rw [← hR]; exact bsum_len _
  rw [show hmac key m = bsum (xall 92 (kpad key) ++ R) by rw [← hR]; rfl]
  rw [hR] at g1 g2
  obtain ⟨O, hO⟩ : ∃ O, bsum (xall 92 (kpad key) ++ R) = O := ⟨_, rfl⟩
  have hOl : O.length = 32 := by rw [← hO]; exact bsum_len _
  rw [hO] at g2 ⊢
  obtain ⟨K, hK⟩ : ∃ K, kpad key = K := ⟨_, rfl⟩
  rw [hK] at hKl hcp g1 g2
  have x1 := xst_all K 54 64 hKl
  have x2 := xst_all K 92 64 hKl
  have l1 := (xall_len 54 K).trans hKl
  have l2 := (xall_len 92 K).trans hKl
  refine good_frm 46 Try.func74 rfl rfl rfl rfl rfl rfl ?_
  refine awp_seq ?_
  refine rl ?_
  refine G (q_al ?_)
  refine gend ?_
  refine awp_seq ?_
  refine rl ?_
  refine G (q_al ?_)
  refine gend ?_
  refine awp_seq ?_
  refine awp_seq ?_
  refine rl ?_
  refine Mv ?_
  refine G (q_leno ?_)
  refine G (q_gtrn (y := 64) ?_)
  refine gend ?_
  refine cndN (fun hc1 => ?_) ?_; rotate_left
  · omega
  refine awp_skip ?_
  refine awp_seq ?_
  refine rl ?_
  refine G (q_slp_no ?_)
  refine Mv ?_
  refine G (q_cpy ?_ (eB := el_ro (by rw [mapc_length, hn, Nat.mul_one])))
  rw [hcp]
  refine gend ?_
  refine awp_seq ?_
  refine rl ?_
  refine G (q_ldw ?_)
  refine G (q_ldw ?_)
  refine G (q_al ?_)
  refine G (q_al ?_)
  refine G0 (q_stw ?_)
  refine G0 (q_stw ?_)
  refine gend ?_
  refine awp_seq ?_
  refine awp_seq ?_
  refine rl ?_
  refine G (q_mv (s := sc (cn 0)) ?_)
  refine gend ?_
  refine awp_block ?_
  refine awp_loop (fun x : {i : Nat // i ≤ 64} => ⟨frm 46 [(1, sc (.ro k (pcs ps))), (4, sc (.ptr 0 0)), (7, sc (.ptr 2 0)), (8, sc (.ptr 3 0)), (23, sc (cn x.1))], [some (u8s (List.replicate 32 0)), some (u8s K), some (u8s (xst K 54 x.1)), some (u8s (xst K 92 x.1))]⟩) (fun x => 64 - x.1) ⟨0, Nat.zero_le _⟩ (sle_sub ⟨rfl, rfl, rfl, rfl, rfl, trivial⟩ rfl) fun x => ?_   -- live: [7, 8, 23]
  have h5 := (xst_len K 54 x.1).trans hKl
  have h6 := (xst_len K 92 x.1).trans hKl
  refine awp_seq ?_
  refine rl ?_
  refine G (q_lssn (y := 64) ?_)
  refine gend ?_
  refine awp_seq ?_
  refine cnd (fun hc2 => ?_) (fun hc2 => ?_); rotate_left
  · refine awp_exit ?_
    rw [show x.1 = 64 from (by have := x.2; omega)]
    rw [x1, x2]
    refine awp_seq ?_
    refine rl ?_
    refine G (q_slp_no ?_)
    refine G (q_bsl (fkc rfl (et rfl) rfl (Nat.le_of_ble_eq_true rfl) (fk0 ?_)))
    refine Mv ?_
    refine G (q_app  ?_ (eA := el_slc (xs := [_]) rfl (Nat.le_refl 1) rfl) (eB := el_ro (by rw [pcs_len, hk]; omega)))
    refine G (q_callp g1 ?_ (ha := cac (et rfl) (sees_parts rfl rfl (parts_cons rfl rfl l1 hk)) ca0))
    refine G (q_al ?_)
    refine G0 (q_stw ?_)
    refine gend ?_
    refine awp_seq ?_
    refine rdl [2, 3, 4] [0, 0, 0, 1, 2] [0, 0, 1, 2, 3] ?_
    refine DSp 3 rfl (fun _ hv => q_slp_no ⟨rfl, rfl⟩ (hp := hv)) ?_
    refine DSp 6 rfl (fun _ hv => q_slp_no ⟨rfl, rfl⟩ (hp := hv)) ?_
    refine De (q_bsl (fkc rfl (et rfl) rfl (Nat.le_of_ble_eq_true rfl) (fkc rfl (et rfl) rfl (Nat.le_of_ble_eq_true rfl) (fk0 (pw ?_)))))
    refine De (q_callp g2 (pw ?_) (ha := cac (et rfl) (sees_parts rfl rfl (pq_slc rfl rfl (cut_h l2) l2 (pq_slc rfl rfl (cut_h hRl) hRl pq0))) ca0))
    refine De0 (q_stw (pw ?_))
    refine dend ?_
    refine awp_ret ?_
    exact fpc (t := 23) (a := 4) (hn := (mapc_length ..).trans hOl)
  refine awp_skip ?_
  refine awp_seq ?_
  refine awp_block ?_
  refine awp_seq ?_
  refine rl ?_
  refine Mv ?_
  refine As ?_
  refine gend ?_
  refine awp_seq ?_
  refine rl ?_
  refine Mv ?_
  refine G (q_ixp1 ?_)
  refine G (q_ldp ?_)
  refine G (q_xor8 (y := 54) ?_)
  refine G (q_ixp1 ?_)
  refine G0 (q_stm ?_)
  refine gend ?_
  refine rl ?_
  refine Mv ?_
  refine G (q_ixp1 ?_)
  refine G (q_ldp ?_)
  refine G (q_xor8 (y := 92) ?_)
  refine G (q_ixp1 ?_)
  refine G0 (q_stm ?_)
  refine gend ?_
  refine rl ?_
  refine G (q_addn (y := 1) ?_)
  refine Mv ?_
  refine gend ?_
  exact ⟨⟨x.1 + 1, by omega⟩, by show 64 - (x.1 + 1) < 64 - x.1; omega, sle_sub ⟨rfl, rfl, rfl, rfl, rfl, trivial⟩ rfl⟩   -- endloop 1
set_option maxHeartbeats 800000 in
/-- hkdf.Mac -/
theorem mac_long (key m : List UInt8) (ps : List (List UInt8)) (n k : Nat) (hn : key.length = n) (hn9 : n ≤ 10000) (h : 64 < n) (hk : ps.length = k) (hk9 : k ≤ 1000) (hps : ps.flatten = m) (hm : m.length ≤ 10000) : Good Try.prog 74 [.c (.ro n (u8s key)), .c (.ro k (pcs ps))] [] (sa (u8s (hmac key m))) [] := by
  have hKl := kpad_len key
  have hcp := kp_long key n hn h
  have g1 := sum_ (xall 54 (kpad key) :: ps) (1 + k) (by simp [hk]; omega) (by omega) (by simp [xall_len, hKl, hps]; omega)
  rw [List.flatten_cons, hps] at g1
  have g2 := sum_ [xall 92 (kpad key), bsum (xall 54 (kpad key) ++ m)] 2 rfl (by decide) (by simp [xall_len, hKl, bsum_len])
  rw [show [xall 92 (kpad key), bsum (xall 54 (kpad key) ++ m)].flatten = xall 92 (kpad key) ++ bsum (xall 54 (kpad key) ++ m) by simp] at g2
  obtain ⟨R, hR⟩ : ∃ R, bsum (xall 54 (kpad key) ++ m) = R := ⟨_, rfl⟩
  have hRl : R.length = 32 := by rw [← hR]; exact bsum_len _
  rw [show hmac key m = bsum (xall 92 (kpad key) ++ R) by rw [← hR]; rfl]
  rw [hR] at g1 g2
  obtain ⟨O, hO⟩ : ∃ O, bsum (xall 92 (kpad key) ++ R) = O := ⟨_, rfl⟩
  have hOl : O.length = 32 := by rw [← hO]; exact bsum_len _
  rw [hO] at g2 ⊢
  obtain ⟨K, hK⟩ : ∃ K, kpad key = K := ⟨_, rfl⟩
  rw [hK] at hKl hcp g1 g2
  have x1 := xst_all K 54 64 hKl
  have x2 := xst_all K 92 64 hKl
  have l1 := (xall_len 54 K).trans hKl
  have l2 := (xall_len 92 K).trans hKl
  have g0 := sum_ [key] 1 rfl (by decide) (by simp; omega)
  rw [show ([key] : List (List UInt8)).flatten = key by simp] at g0
  have hbl := bsum_len key
  refine good_frm 46 Try.func74 rfl rfl rfl rfl rfl rfl ?_
  refine awp_seq ?_
  refine rl ?_
  refine G (q_al ?_)
  refine gend ?_
  refine awp_seq ?_
  refine rl ?_
  refine G (q_al ?_)
  refine gend ?_
  refine awp_seq ?_
  refine awp_seq ?_
  refine rl ?_
  refine Mv ?_
  refine G (q_leno ?_)
  refine G (q_gtrn (y := 64) ?_)
  refine gend ?_
  refine cndY (fun hc1 => ?_) ?_; rotate_left
  · omega
  refine awp_seq ?_
  refine rl ?_
  refine Mv ?_
  refine G (q_bsl (fkc rfl (et rfl) rfl (Nat.le_of_ble_eq_true rfl) (fk0 ?_)))
  refine G (q_callp g0 ?_ (ha := cac (et rfl) (sees_parts rfl rfl (pq_ro hn pq0)) ca0))
  refine G (q_al ?_)
  refine G0 (q_stw ?_)
  refine gend ?_
  refine rl ?_
  refine G (q_slp_no ?_)
  refine As ?_
  refine gend ?_
  refine awp_seq ?_
  refine rl ?_
  refine G (q_slp_no ?_)
  refine Mv ?_
  refine G (q_cpy ?_ (eB := el_slc rfl (by rw [mapc_length, hbl]; decide) (cut_h hbl)))
  rw [hcp]
  refine gend ?_
  refine awp_seq ?_
  refine rl ?_
  refine G (q_ldw ?_)
  refine G (q_ldw ?_)
  refine G (q_al ?_)
  refine G (q_al ?_)
  refine G0 (q_stw ?_)
  refine G0 (q_stw ?_)
  refine gend ?_
  refine awp_seq ?_
  refine awp_seq ?_
  refine rl ?_
  refine G (q_mv (s := sc (cn 0)) ?_)
  refine gend ?_
  refine awp_block ?_
  refine awp_loop (fun x : {i : Nat // i ≤ 64} => ⟨frm 46 [(1, sc (.ro k (pcs ps))), (4, sc (.ptr 0 0)), (7, sc (.ptr 4 0)), (8, sc (.ptr 5 0)), (23, sc (cn x.1))], [some (u8s (List.replicate 32 0)), some (u8s K), some [.ro n (u8s key)], some (u8s (bsum key)), some (u8s (xst K 54 x.1)), some (u8s (xst K 92 x.1))]⟩) (fun x => 64 - x.1) ⟨0, Nat.zero_le _⟩ (sle_sub ⟨rfl, rfl, rfl, rfl, rfl, trivial⟩ rfl) fun x => ?_   -- live: [7, 8, 23]
  have h5 := (xst_len K 54 x.1).trans hKl
  have h6 := (xst_len K 92 x.1).trans hKl
  refine awp_seq ?_
  refine rl ?_
  refine G (q_lssn (y := 64) ?_)
  refine gend ?_
  refine awp_seq ?_
  refine cnd (fun hc2 => ?_) (fun hc2 => ?_); rotate_left
  · refine awp_exit ?_
    rw [show x.1 = 64 from (by have := x.2; omega)]
    rw [x1, x2]
    refine awp_seq ?_
    refine rl ?_
    refine G (q_slp_no ?_)
    refine G (q_bsl (fkc rfl (et rfl) rfl (Nat.le_of_ble_eq_true rfl) (fk0 ?_)))
    refine Mv ?_
    refine G (q_app  ?_ (eA := el_slc (xs := [_]) rfl (Nat.le_refl 1) rfl) (eB := el_ro (by rw [pcs_len, hk]; omega)))
    refine G (q_callp g1 ?_ (ha := cac (et rfl) (sees_parts rfl rfl (parts_cons rfl rfl l1 hk)) ca0))
    refine G (q_al ?_)
    refine G0 (q_stw ?_)
    refine gend ?_
    refine awp_seq ?_
    refine rdl [2, 3, 4] [0, 0, 0, 1, 2] [0, 0, 1, 2, 3] ?_
    refine DSp 5 rfl (fun _ hv => q_slp_no ⟨rfl, rfl⟩ (hp := hv)) ?_
    refine DSp 8 rfl (fun _ hv => q_slp_no ⟨rfl, rfl⟩ (hp := hv)) ?_
    refine De (q_bsl (fkc rfl (et rfl) rfl (Nat.le_of_ble_eq_true rfl) (fkc rfl (et rfl) rfl (Nat.le_of_ble_eq_true rfl) (fk0 (pw ?_)))))
    refine De (q_callp g2 (pw ?_) (ha := cac (et rfl) (sees_parts rfl rfl (pq_slc rfl rfl (cut_h l2) l2 (pq_slc rfl rfl (cut_h hRl) hRl pq0))) ca0))
    refine De0 (q_stw (pw ?_))
    refine dend ?_
    refine awp_ret ?_
    exact fpc (t := 23) (a := 4) (hn := (mapc_length ..).trans hOl)
  refine awp_skip ?_
  refine awp_seq ?_
  refine awp_block ?_
  refine awp_seq ?_
  refine rl ?_
  refine Mv ?_
  refine As ?_
  refine gend ?_
  refine awp_seq ?_
  refine rl ?_
  refine Mv ?_
  refine G (q_ixp1 ?_)
  refine G (q_ldp ?_)
  refine G (q_xor8 (y := 54) ?_)
  refine G (q_ixp1 ?_)
  refine G0 (q_stm ?_)
  refine gend ?_
  refine rl ?_
  refine Mv ?_
  refine G (q_ixp1 ?_)
  refine G (q_ldp ?_)
  refine G (q_xor8 (y := 92) ?_)
  refine G (q_ixp1 ?_)
  refine G0 (q_stm ?_)
  refine gend ?_
  refine rl ?_
  refine G (q_addn (y := 1) ?_)
  refine Mv ?_
  refine gend ?_
  exact ⟨⟨x.1 + 1, by omega⟩, by show 64 - (x.1 + 1) < 64 - x.1; omega, sle_sub ⟨rfl, rfl, rfl, rfl, rfl, trivial⟩ rfl⟩   -- endloop 1
end Go.Proofs.Ytlnepajgnckolaa.Bl

/- What functions of the program do, walked over the abstract machine. -/
namespace Go.Proofs.Ytlnepajgnckolaa.Bl
open Go Go.Abs Go.Proofs

set_option maxRecDepth 20000
/-- The reference's root: the whole part of the prime's, and the bits behind it. -/
def primes : List UInt64 := [2, 3, 5, 7, 11, 13, 17, 19]
def whole (i : Nat) : Nat := [1, 1, 2, 2, 3, 3, 4, 4].getD i 0
def frac (w r : UInt64) : Nat → UInt64
  | 0 => 0
  | j + 1 =>
    let g := frac w r j + shl64n 1 (UInt64.ofNat (31 - j)).toNat
    if 2 * w * g + shr64n (g * g) (UInt64.toNat 32) < shl64n r (UInt64.toNat 32) ∨ (2 * w * g + shr64n (g * g) (UInt64.toNat 32) = shl64n r (UInt64.toNat 32) ∧ g * g % 4294967296 = 0) then g else frac w r j
def rstart (i : Nat) : UInt32 := (frac (UInt64.ofNat (whole i)) (primes.getD i 0 - UInt64.ofNat (whole i) * UInt64.ofNat (whole i)) 32).toUInt32
def row (k : Nat) : List Int := (ordz.drop (16 * k)).take 16
end Go.Proofs.Ytlnepajgnckolaa.Bl

/- What functions of the program do, walked over the abstract machine. -/
namespace Go.Proofs.Ytlnepajgnckolaa.Bl
open Go Go.Abs Go.Proofs

set_option maxRecDepth 20000
def rorn (x : UInt32) (n : UInt64) : UInt32 := shr32n x n.toNat ||| shl32n x (32 - n).toNat
def RC : List Cell := [.slc 0 0 16 1, .slc 1 0 16 1, .slc 2 0 16 1, .slc 3 0 16 1, .slc 4 0 16 1, .slc 5 0 16 1, .slc 6 0 16 1, .slc 7 0 16 1, .slc 8 0 16 1, .slc 9 0 16 1]
end Go.Proofs.Ytlnepajgnckolaa.Bl

/- What functions of the program do, walked over the abstract machine. -/
namespace Go.Proofs.Ytlnepajgnckolaa.Bl
open Go Go.Abs Go.Proofs

set_option maxRecDepth 20000
abbrev RC3 : List Cell := [.slc 3 0 16 1, .slc 4 0 16 1, .slc 5 0 16 1, .slc 6 0 16 1, .slc 7 0 16 1, .slc 8 0 16 1, .slc 9 0 16 1, .slc 10 0 16 1, .slc 11 0 16 1, .slc 12 0 16 1]
abbrev CC : List Cell := [.slc 14 0 4 1, .slc 15 0 4 1, .slc 16 0 4 1, .slc 17 0 4 1, .slc 18 0 4 1, .slc 19 0 4 1, .slc 20 0 4 1, .slc 21 0 4 1]
abbrev colz (i : Nat) : List Cell := [cn (i % 4), cn (4 + (i + i / 4) % 4), cn (8 + (i + 2 * (i / 4)) % 4), cn (12 + (i + 3 * (i / 4)) % 4)]
abbrev RP (a b c : List Cell) (T : Heap) : Heap := some a :: some b :: some c :: some (i64s (row 0)) :: some (i64s (row 1)) :: some (i64s (row 2)) :: some (i64s (row 3)) :: some (i64s (row 4)) :: some (i64s (row 5)) :: some (i64s (row 6)) :: some (i64s (row 7)) :: some (i64s (row 8)) :: some (i64s (row 9)) :: some RC3 ::
  some (colz 0) :: some (colz 1) :: some (colz 2) :: some (colz 3) :: some (colz 4) :: some (colz 5) :: some (colz 6) :: some (colz 7) :: some CC :: T
def fl8 (F : List UInt32) : Nat → List UInt32
  | 0 => List.replicate 8 0
  | k + 1 => (fl8 F k).set k (F.getD k 0)
def bat (m : List UInt8) (q : Nat) : UInt32 := if q < m.length then (m.getD q 0).toUInt32 else 0
def rwd (m : List UInt8) (j : Nat) : Nat → List UInt32
  | 0 => List.replicate 16 0
  | k + 1 => (rwd m j k).set ((63 - k) / 4) ((rwd m j k).getD ((63 - k) / 4) 0 * 256 + bat m (64 * j + (63 - k)))
def rv5 (h F : List UInt32) : Nat → List UInt32
  | 0 => List.replicate 16 0
  | k + 1 => ((rv5 h F k).set k (h.getD k 0)).set (8 + k) (F.getD k 0)
def rT (n j N : Nat) : UInt64 := if j = N - 1 then UInt64.ofNat n else UInt64.ofNat (64 * j + 64)
def rv6 (h F : List UInt32) (j N : Nat) : List UInt32 := if j = N - 1 then (rv5 h F 8).set 14 (~~~ (rv5 h F 8).getD 14 0) else rv5 h F 8
def rv7 (h F : List UInt32) (n j N : Nat) : List UInt32 :=
  ((rv6 h F j N).set 12 ((rv6 h F j N).getD 12 0 ^^^ (rT n j N).toUInt32)).set 13 (((rv6 h F j N).set 12 ((rv6 h F j N).getD 12 0 ^^^ (rT n j N).toUInt32)).getD 13 0 ^^^ (shr64n (rT n j N) (UInt64.toNat 32)).toUInt32)
def rhx (h v : List UInt32) : Nat → List UInt32
  | 0 => h
  | i + 1 => (rhx h v i).set i ((rhx h v i).getD i 0 ^^^ v.getD i 0 ^^^ v.getD (8 + i) 0)
def rhc (F : List UInt32) (m : List UInt8) (N : Nat) : Nat → List UInt32
  | 0 => F.set 0 (F.getD 0 0 ^^^ 16842784)
  | j + 1 => rhx (rhc F m N j) (rnds (rwd m j 64) (rv7 (rhc F m N j) F m.length j N) 10) 8
def rout (h : List UInt32) : Nat → List UInt8
  | 0 => List.replicate 32 0
  | i + 1 => (rout h i).set i (shr32n (h.getD (i / 4) 0) (UInt64.ofNat (8 * (i % 4))).toNat).toUInt8
def nbl (n : Nat) : Nat := if (n + 63) / 64 = 0 then 1 else (n + 63) / 64
def rfst : List UInt32 := fl8 fst8 8
def rsum (m : List UInt8) : List UInt8 := rout (rhc rfst m (nbl m.length) (nbl m.length)) 32
end Go.Proofs.Ytlnepajgnckolaa.Bl

/- What functions of the program do, walked over the abstract machine. -/
namespace Go.Proofs.Ytlnepajgnckolaa.Bl
open Go Go.Abs Go.Proofs

set_option maxRecDepth 20000
theorem shl_nat (x : UInt32) (n : Nat) (hn : n < 32) (h : x.toNat * 2 ^ n < 2 ^ 32) : (shl32n x n).toNat = 2 ^ n * x.toNat := by
  unfold shl32n
  rw [if_pos hn, UInt32.toNat_shiftLeft, UInt32.toNat_ofNat', Nat.mod_eq_of_lt (show n < 2 ^ 32 by omega), Nat.mod_eq_of_lt hn, Nat.shiftLeft_eq, Nat.mod_eq_of_lt h, Nat.mul_comm]
/-- A word of four bytes, put together as the program does, and as the reference does. -/
def wl (a b c d : UInt8) : UInt32 := (((0 ||| shl32n a.toUInt32 0) ||| shl32n b.toUInt32 8) ||| shl32n c.toUInt32 16) ||| shl32n d.toUInt32 24
def wh (a b c d : UInt32) : UInt32 := (((0 * 256 + d) * 256 + c) * 256 + b) * 256 + a
def gb (l : List UInt8) (i : Nat) : UInt8 := l.getD i 0
end Go.Proofs.Ytlnepajgnckolaa.Bl

/- What functions of the program do, walked over the abstract machine. -/
namespace Go.Proofs.Ytlnepajgnckolaa.Bl
open Go Go.Abs Go.Proofs

set_option maxRecDepth 20000
theorem app_cut {a b : List UInt8} {p q : Nat} (ha : a.length = p) (hb : b.length = q) : ((u8s a ++ u8s b).drop 0).take ((p + q) * 1) = u8s (a ++ b) := by
  rw [mapc_append]; exact cut_h (by rw [List.length_append, ha, hb])
end Go.Proofs.Ytlnepajgnckolaa.Bl

/- What functions of the program do, walked over the abstract machine. -/
namespace Go.Proofs.Ytlnepajgnckolaa.Bl
open Go Go.Abs Go.Proofs

set_option maxRecDepth 20000
def h3t (c m : List UInt8) : List UInt8 := hmac c m
def h3x (c m : List UInt8) : List UInt8 := hmac (hmac c m) [1]
def h3y (c m : List UInt8) : List UInt8 := hmac (hmac c m) (h3x c m ++ [2])
def h3z (c m : List UInt8) : List UInt8 := hmac (hmac c m) (h3y c m ++ [3])
theorem h3x_len (c m : List UInt8) : (h3x c m).length = 32 := hmac_len _ _
theorem h3y_len (c m : List UInt8) : (h3y c m).length = 32 := hmac_len _ _
theorem h3z_len (c m : List UInt8) : (h3z c m).length = 32 := hmac_len _ _
theorem mac_ (key m : List UInt8) (ps : List (List UInt8)) (n k : Nat) (hn : key.length = n) (hn9 : n ≤ 10000) (hk : ps.length = k) (hk9 : k ≤ 1000) (hps : ps.flatten = m) (hm : m.length ≤ 10000) : Good Try.prog 74 [.c (.ro n (u8s key)), .c (.ro k (pcs ps))] [] (sa (u8s (hmac key m))) [] := by
  rcases Nat.lt_or_ge 64 n with h | h
  · exact mac_long key m ps n k hn hn9 h hk hk9 hps hm
  · exact mac_short key m ps n k hn hn9 h hk hk9 hps hm
theorem mac1 (key m : List UInt8) (n k : Nat) (hn : key.length = n) (hn9 : n ≤ 10000) (hk : m.length = k) (hm : k ≤ 10000) : Good Try.prog 74 [.c (.ro n (u8s key)), .c (.ro 1 (pcs [m]))] [] (sa (u8s (hmac key m))) [] :=
  mac_ key m [m] n 1 hn hn9 rfl (by decide) (by simp) (by omega)
set_option maxHeartbeats 800000 in
/-- hkdf.Three -/
theorem three_ (c m : List UInt8) (n : Nat) (hcl : c.length = 32) (hm : m.length = n) (hn : n ≤ 10000) : Good Try.prog 59 [.a (u8s c), .c (.ro n (u8s m))] [] (.t [.a (u8s (h3x c m)), .a (u8s (h3y c m)), .a (u8s (h3z c m))]) [] := by
  have g1 := mac1 c m 32 n hcl (by decide) hm hn
  obtain ⟨T, hT⟩ : ∃ z, hmac c m = z := ⟨_, rfl⟩
  have hTl : T.length = 32 := by rw [← hT]; exact hmac_len _ _
  obtain ⟨X, hX⟩ : ∃ z, h3x c m = z := ⟨_, rfl⟩
  have hXl : X.length = 32 := by rw [← hX]; exact h3x_len _ _
  obtain ⟨Y, hY⟩ : ∃ z, h3y c m = z := ⟨_, rfl⟩
  have hYl : Y.length = 32 := by rw [← hY]; exact h3y_len _ _
  obtain ⟨Z, hZ⟩ : ∃ z, h3z c m = z := ⟨_, rfl⟩
  have hZl : Z.length = 32 := by rw [← hZ]; exact h3z_len _ _
  have g2 := mac1 T [1] 32 1 hTl (by decide) rfl (by decide)
  have g3 := mac_ T (X ++ [2]) [X, [2]] 32 2 hTl (by decide) rfl (by decide) (by simp) (by rw [List.length_append, hXl]; decide)
  have g4 := mac_ T (Y ++ [3]) [Y, [3]] 32 2 hTl (by decide) rfl (by decide) (by simp) (by rw [List.length_append, hYl]; decide)
  rw [show hmac T [1] = X by rw [← hX, ← hT]; rfl] at g2
  rw [show hmac T (X ++ [2]) = Y by rw [← hY, ← hX, ← hT]; rfl] at g3
  rw [show hmac T (Y ++ [3]) = Z by rw [← hZ, ← hY, ← hT]; rfl] at g4
  rw [hX, hY, hZ]
  rw [hT] at g1
  refine good_frm 28 Try.func59 rfl rfl rfl rfl rfl rfl ?_
  refine awp_seq ?_
  refine rln ?_
  refine G2 (fun _ k_ => q_boxa k_) ?_
  refine G2 (fun _ k_ => q_al k_) ?_
  refine G2 (fun _ k_ => q_al k_) ?_
  refine G2 (fun _ k_ => q_al k_) ?_
  refine gend ?_
  refine awp_seq ?_
  refine rln ?_
  refine G (q_slp_no ?_)
  refine Mv ?_
  refine G2 (fun _ k_ => q_bsl (fkc rfl (et rfl) rfl (Nat.le_of_ble_eq_true rfl) (fk0 k_))) ?_
  refine G2 (fun _ k_ => q_callp g1 k_ (ha := (cac (et rfl) (sees_slc rfl rfl (cut_h hcl)) (cac (et rfl) (sees_parts rfl rfl (pq_ro hm pq0)) ca0)))) ?_
  refine G2 (fun _ k_ => q_al k_) ?_
  refine G20 (fun _ k_ => q_stw k_) ?_
  refine gend ?_
  refine awp_seq ?_
  refine rln ?_
  refine G (q_slp_no ?_)
  refine G2 (fun _ k_ => q_bsl (fkc (c := c8 1) rfl rfl rfl (Nat.le_of_ble_eq_true rfl) (fk0 k_))) ?_
  refine G2 (fun _ k_ => q_bsl (fkc rfl (et rfl) rfl (Nat.le_of_ble_eq_true rfl) (fk0 k_))) ?_
  refine G2 (fun _ k_ => q_callp g2 k_ (ha := (cac (et rfl) (sees_slc rfl rfl (cut_h hTl)) (cac (et rfl) (sees_parts rfl rfl (pq_slc rfl rfl rfl rfl pq0)) ca0)))) ?_
  refine G20 (fun _ k_ => q_stw k_) ?_
  refine gend ?_
  refine awp_seq ?_
  refine rdln [2, 3, 4, 5] [0, 0, 0, 1, 2, 3] [2, 1, 1, 2, 3, 4] ?_
  refine DSp 5 rfl (fun _ hv => q_slp_no ⟨rfl, rfl⟩ (hp := hv)) ?_
  refine DSp 1 rfl (fun _ hv => q_slp_no ⟨rfl, rfl⟩ (hp := hv)) ?_
  refine De2 (fun _ k_ => q_bsl (fkc (c := c8 2) rfl rfl rfl (Nat.le_of_ble_eq_true rfl) (fk0 k_))) ?_
  refine De2 (fun _ k_ => q_bsl (fkc rfl (et rfl) rfl (Nat.le_of_ble_eq_true rfl) (fkc rfl (et rfl) rfl (Nat.le_of_ble_eq_true rfl) (fk0 k_)))) ?_
  refine De2 (fun _ k_ => q_callp g3 k_ (ha := (cac (et rfl) (sees_slc rfl rfl (cut_h hTl)) (cac (et rfl) (sees_parts rfl rfl (pq_slc rfl rfl (cut_h hXl) hXl (pq_slc rfl rfl rfl rfl pq0))) ca0)))) ?_
  refine De20 (fun _ k_ => q_stw k_) ?_
  refine dend ?_
  refine awp_seq ?_
  refine rdln [4, 5, 6, 7, 8, 9] [0, 0, 0, 0, 0, 1, 2, 3, 4, 5] [3, 3, 2, 1, 1, 2, 3, 4, 5, 6] ?_
  refine DLw ?_
  refine DLw ?_
  refine DSp 5 rfl (fun _ hv => q_slp_no ⟨rfl, rfl⟩ (hp := hv)) ?_
  refine DSp 2 rfl (fun _ hv => q_slp_no ⟨rfl, rfl⟩ (hp := hv)) ?_
  refine De2 (fun _ k_ => q_bsl (fkc (c := c8 3) rfl rfl rfl (Nat.le_of_ble_eq_true rfl) (fk0 k_))) ?_
  refine De2 (fun _ k_ => q_bsl (fkc rfl (et rfl) rfl (Nat.le_of_ble_eq_true rfl) (fkc rfl (et rfl) rfl (Nat.le_of_ble_eq_true rfl) (fk0 k_)))) ?_
  refine De2 (fun _ k_ => q_callp g4 k_ (ha := (cac (et rfl) (sees_slc rfl rfl (cut_h hTl)) (cac (et rfl) (sees_parts rfl rfl (pq_slc rfl rfl (cut_h hYl) hYl (pq_slc rfl rfl rfl rfl pq0))) ca0)))) ?_
  refine De20 (fun _ k_ => q_stw k_) ?_
  refine De20 (fun _ k_ => q_stw k_) ?_
  refine De20 (fun _ k_ => q_stw k_) ?_
  refine dend ?_
  refine awp_ret ?_
  exact fpc3 (a0 := 4) (t0 := 23) (a1 := 5) (t1 := 23) (a2 := 6) (t2 := 23)
set_option maxHeartbeats 800000 in
/-- hkdf.Two -/
theorem two_ (c m : List UInt8) (n : Nat) (hcl : c.length = 32) (hm : m.length = n) (hn : n ≤ 10000) : Good Try.prog 47 [.a (u8s c), .c (.ro n (u8s m))] [] (.t [.a (u8s (h3x c m)), .a (u8s (h3y c m))]) [] := by
  have g1 := three_ c m n hcl hm hn
  obtain ⟨X, hX⟩ : ∃ z, h3x c m = z := ⟨_, rfl⟩
  have hXl : X.length = 32 := by rw [← hX]; exact h3x_len _ _
  obtain ⟨Y, hY⟩ : ∃ z, h3y c m = z := ⟨_, rfl⟩
  have hYl : Y.length = 32 := by rw [← hY]; exact h3y_len _ _
  obtain ⟨Z, hZ⟩ : ∃ z, h3z c m = z := ⟨_, rfl⟩
  have hZl : Z.length = 32 := by rw [← hZ]; exact h3z_len _ _
  rw [hX, hY, hZ] at g1
  rw [hX, hY]
  refine good_frm 18 Try.func47 rfl rfl rfl rfl rfl rfl ?_
  refine awp_seq ?_
  refine rln ?_
  refine G2 (fun _ k_ => q_boxa k_) ?_
  refine G2 (fun _ k_ => q_al k_) ?_
  refine G2 (fun _ k_ => q_al k_) ?_
  refine gend ?_
  refine awp_seq ?_
  refine rln ?_
  refine G (q_ldw ?_)
  refine Mv ?_
  refine G2 (fun _ k_ => q_callp g1 k_ (ha := (caa (et rfl) sees_m (cac (et rfl) sees_ro ca0)))) ?_
  refine G (q_mv (s := .t _) ?_)
  refine G (q_ext (y := .a _) ?_)
  refine G (q_ext (y := .a _) ?_)
  refine G (q_ext (y := .a _) ?_)
  refine G2 (fun _ k_ => q_al k_) ?_
  refine G2 (fun _ k_ => q_al k_) ?_
  refine G2 (fun _ k_ => q_al k_) ?_
  refine G20 (fun _ k_ => q_stw k_) ?_
  refine G20 (fun _ k_ => q_stw k_) ?_
  refine G20 (fun _ k_ => q_stw k_) ?_
  refine gend ?_
  refine awp_seq ?_
  refine rdln [2, 3] [0, 0, 0, 1] [0, 1, 1, 2] ?_
  refine DLw ?_
  refine DLw ?_
  refine De20 (fun _ k_ => q_stw k_) ?_
  refine De20 (fun _ k_ => q_stw k_) ?_
  refine dend ?_
  refine awp_ret ?_
  exact fpc2 (a0 := 4) (t0 := 23) (a1 := 5) (t1 := 23)
end Go.Proofs.Ytlnepajgnckolaa.Bl

/- What functions of the program do, walked over the abstract machine. -/
namespace Go.Proofs.Ytlnepajgnckolaa.Bl
open Go Go.Abs Go.Proofs

set_option maxRecDepth 20000
/-- Output by output. -/
def lastb (t : List UInt8) : Nat → List UInt8
  | 0 => []
  | i + 1 => hmac t (lastb t i ++ [UInt8.ofNat (i + 1)])
def allb (t : List UInt8) : Nat → List UInt8
  | 0 => []
  | i + 1 => allb t i ++ lastb t (i + 1)
end Go.Proofs.Ytlnepajgnckolaa.Bl

/- What functions of the program do, walked over the abstract machine. -/
namespace Go.Proofs.Ytlnepajgnckolaa
open Go Go.Abs Go.Proofs Go.Proofs.Ytlnepajgnckolaa.Ch Go.Proofs.Ytlnepajgnckolaa.Po Go.Proofs.Ytlnepajgnckolaa.Ae Go.Proofs.Ytlnepajgnckolaa.Bl

set_option maxRecDepth 20000
/-- A cipher's cells. -/
abbrev cC (kp : Cell) (n : UInt64) : List Cell := [kp, c64 n, .bool true]
def anext (key : List UInt8) : List UInt8 := (aseal key (anonce 18446744073709551615) [] (List.replicate 32 0)).take 32
theorem keyE {key : List UInt8} (hk : key.length = 32) : (u8s key).isEmpty = false := by
  cases key with
  | nil => simp at hk
  | cons a l => rfl
theorem sees_key {H : Heap} {key : List UInt8} {p q d : Nat} {n : UInt64} {π : List Nat} (hp : idx p π = none) (hq : idx q π = none) (hk : key.length = 32) (hC : H[q]? = some (some (cC (.ptr p 0) n))) (hK : H[p]? = some (some (u8s key))) : cm (cin π true H) (d + 2) (.ptr q 0) = .rop [.rop (u8s key), c64 n, .bool true] := by
  have he : (cC (.ptr p 0) n).isEmpty = false := rfl
  simp only [cm, cin, hp, hq, joinH, hK, hC, if_true, he, keyE hk, Bool.false_eq_true, if_false, List.drop_zero, List.map_cons, List.map_nil]
  rw [mapc_cm]
theorem piB {π : List Nat} {n : Nat} (h : ((List.range n).all fun p => π[p]? == some p) = true) : ∀ p, p < n → π[p]? = some p := fun p hp => by
  simpa using List.all_eq_true.1 h p (List.mem_range.2 hp)
/-- bytes.Clone -/
theorem clone_s (l : List UInt8) (n : Nat) (hl : l.length = n) (h : 0 < n) (hn : n ≤ 100000000) : Good Try.prog 38 [.c (.ro n (u8s l))] [] (sc (.slc 0 0 n 1)) [some (u8s l)] := by
  refine good_frm 8 Try.func38 rfl rfl rfl rfl rfl rfl ?_
  refine awp_seq ?_
  refine rln ?_
  refine As ?_
  refine gend ?_
  refine awp_seq ?_
  refine awp_seq ?_
  refine rln ?_
  refine Mv ?_
  refine G (q_eqlsl ?_)
  refine gend ?_
  refine cndbN (fun hc1 => ?_) ?_; rotate_left
  · exact rfl
  refine awp_skip ?_
  refine awp_seq ?_
  refine rln ?_
  refine G2 (fun _ k_ => q_bsl (fk0 k_)) ?_
  refine Mv ?_
  refine G2 (fun _ k_ => q_app k_ (eA := el_slc (xs := []) rfl (Nat.zero_le _) rfl) (eB := el_ro (by rw [mapc_length, hl, Nat.mul_one]))) ?_
  refine As ?_
  refine gend ?_
  refine awp_ret ?_
  exact fx1 [1] (hm0 := by rw [Nat.zero_add]) (hH := pl1 rfl sees_m pl0)
/-- bytes.Clone -/
theorem clone_z : Good Try.prog 38 [.c (.ro 0 (u8s []))] [] (sc (.slc 0 0 0 1)) [some (u8s [])] := by
  refine good_frm 8 Try.func38 rfl rfl rfl rfl rfl rfl ?_
  refine awp_seq ?_
  refine rln ?_
  refine As ?_
  refine gend ?_
  refine awp_seq ?_
  refine awp_seq ?_
  refine rln ?_
  refine Mv ?_
  refine G (q_eqlsn ?_)
  refine gend ?_
  refine awp_any (et rfl) ?_ ?_
  · refine awp_seq ?_
    refine rln ?_
    refine As ?_
    refine gend ?_
    refine awp_le (sle_empty (al' := [(2, sc (.slc 0 0 0 1))]) 1 (Nat.zero_le _) ⟨.inr ⟨rfl, rfl⟩, trivial⟩) ?_
    refine awp_ret ?_
    exact fx1 [0] (hm0 := rfl) (hH := pl1 (cs' := u8s []) rfl rfl pl0)
  refine awp_skip ?_
  refine awp_seq ?_
  refine rln ?_
  refine G2 (fun _ k_ => q_bsl (fk0 k_)) ?_
  refine Mv ?_
  refine G2 (fun _ k_ => q_app k_ (eA := el_slc (xs := []) rfl (Nat.zero_le _) rfl) (eB := el_ro rfl)) ?_
  refine As ?_
  refine gend ?_
  refine awp_ret ?_
  exact fx1 [1] (hm0 := rfl) (hH := pl1 (cs' := u8s []) rfl rfl pl0)
theorem clone_ (l : List UInt8) (n : Nat) (hl : l.length = n) (hn : n ≤ 100000000) : Good Try.prog 38 [.c (.ro n (u8s l))] [] (sc (.slc 0 0 n 1)) [some (u8s l)] := by
  cases n with
  | zero => obtain rfl := List.eq_nil_of_length_eq_zero hl; exact clone_z
  | succ n => exact clone_s l _ hl (by omega) hn
/-- cipher.None -/
theorem none_ : Good Try.prog 10 [] [] (sc (.ptr 0 0)) [some (cC .nilp 0)] := by
  refine good_frm 3 Try.func10 rfl rfl rfl rfl rfl rfl ?_
  refine awp_seq ?_
  refine rln ?_
  refine As ?_
  refine gend ?_
  refine awp_seq ?_
  refine rln ?_
  refine G (q_bls (fkc rfl rfl rfl (Nat.le_of_ble_eq_true rfl) (fk0 ?_)))
  refine G2 (fun _ k_ => q_boxa k_) ?_
  refine As ?_
  refine gend ?_
  refine awp_ret ?_
  exact fx1 [0] (hm0 := rfl) (hH := pl1 rfl rfl pl0)
/-- cipher.New -/
theorem new_ (key : List UInt8) (hk : key.length = 32) : Good Try.prog 11 [.a (u8s key)] [] (sc (.ptr 1 0)) [some (u8s key), some (cC (.ptr 0 0) 0)] := by
  refine good_frm 5 Try.func11 rfl rfl rfl rfl rfl rfl ?_
  refine awp_seq ?_
  refine rln ?_
  refine G2 (fun _ k_ => q_boxa k_) ?_
  refine As ?_
  refine gend ?_
  refine awp_seq ?_
  refine rln ?_
  refine G (q_bls (fkc rfl (et rfl) rfl (Nat.le_of_ble_eq_true rfl) (fkc rfl rfl rfl (Nat.le_of_ble_eq_true rfl) (fk0 ?_))))
  refine G2 (fun _ k_ => q_boxa k_) ?_
  refine As ?_
  refine gend ?_
  refine awp_ret ?_
  exact fx1 [0, 1] (hm0 := rfl) (hH := pl1 rfl sees_m (pl1 rfl rfl pl0))
/-- (*cipher.Cipher).ready -/
theorem ready_ok (kc : List Cell) (n : UInt64) (h : n ≠ 18446744073709551615) : Good Try.prog 37 [.c (.rop [.rop kc, c64 n, .bool true])] [] (sc (cn 0)) [] := by
  refine good_frm 26 Try.func37 rfl rfl rfl rfl rfl rfl ?_
  refine awp_seq ?_
  refine rln ?_
  refine G (q_as (s := sc (cn 0)) ?_)
  refine gend ?_
  refine awp_seq ?_
  refine awp_block ?_
  refine awp_seq ?_
  refine rln ?_
  refine Mv ?_
  refine G (q_eqlp ?_)
  refine Mv ?_
  refine Gg (q_mv (s := .v (.c _)) ?_)
  refine Gg (q_ncr ?_)
  refine Gg (q_far ?_)
  refine Gg (q_ldr ?_)
  refine Gg (q_notb ?_)
  refine G (q_pkf ?_)
  refine As ?_
  refine gend ?_
  refine cndbnN (fun hc1 => ?_) ?_; rotate_left
  · exact rfl
  refine awp_seq ?_
  refine rln ?_
  refine Mv ?_
  refine G (q_ncr ?_)
  refine G (q_far ?_)
  refine G (q_ldr ?_)
  refine G (q_neqp ?_)
  refine Mv ?_
  refine Akn 19 (fun hb6 => ?_) ?_; rotate_left
  · exact rfl
  refine Gg (q_mv (s := .v (.c _)) ?_)
  refine Gg (q_ncr ?_)
  refine Gg (q_far ?_)
  refine Gg (q_ldr ?_)
  refine Gg (q_eql64 (y := 18446744073709551615) ?_)
  refine G (q_pkt ?_)
  refine As ?_
  refine gend ?_
  refine cndN (fun hc2 => ?_) ?_; rotate_left
  · exact h
  refine awp_skip ?_
  refine awp_seq ?_
  refine rln ?_
  refine G (q_as (s := sc (cn 0)) ?_)
  refine gend ?_
  refine awp_ret ?_
  exact fp1
/-- (*cipher.Cipher).ready -/
theorem ready_0 (n : UInt64) : Good Try.prog 37 [.c (.rop [.nilp, c64 n, .bool true])] [] (sc (cn 0)) [] := by
  refine good_frm 26 Try.func37 rfl rfl rfl rfl rfl rfl ?_
  refine awp_seq ?_
  refine rln ?_
  refine G (q_as (s := sc (cn 0)) ?_)
  refine gend ?_
  refine awp_seq ?_
  refine awp_block ?_
  refine awp_seq ?_
  refine rln ?_
  refine Mv ?_
  refine G (q_eqlp ?_)
  refine Mv ?_
  refine Gg (q_mv (s := .v (.c _)) ?_)
  refine Gg (q_ncr ?_)
  refine Gg (q_far ?_)
  refine Gg (q_ldr ?_)
  refine Gg (q_notb ?_)
  refine G (q_pkf ?_)
  refine As ?_
  refine gend ?_
  refine cndbnN (fun hc1 => ?_) ?_; rotate_left
  · exact rfl
  refine awp_seq ?_
  refine rln ?_
  refine Mv ?_
  refine G (q_ncr ?_)
  refine G (q_far ?_)
  refine G (q_ldr ?_)
  refine G (q_neqp ?_)
  refine Mv ?_
  refine Akf 19 (fun hb6 => ?_) ?_; rotate_left
  · exact rfl
  refine Gn ?_
  refine Gn ?_
  refine Gn ?_
  refine Gn ?_
  refine Gn ?_
  refine G (q_pkf ?_)
  refine As ?_
  refine gend ?_
  refine cndF ?_
  refine awp_skip ?_
  refine awp_seq ?_
  refine rln ?_
  refine G (q_as (s := sc (cn 0)) ?_)
  refine gend ?_
  refine awp_ret ?_
  exact fp1
end Go.Proofs.Ytlnepajgnckolaa

/- What functions of the program do, walked over the abstract machine. -/
namespace Go.Proofs.Ytlnepajgnckolaa
open Go Go.Abs Go.Proofs Go.Proofs.Ytlnepajgnckolaa.Ch Go.Proofs.Ytlnepajgnckolaa.Po Go.Proofs.Ytlnepajgnckolaa.Ae Go.Proofs.Ytlnepajgnckolaa.Bl

set_option maxRecDepth 20000
set_option maxHeartbeats 1600000 in
/-- (*cipher.Cipher).Seal -/
theorem cseal_ok (key ad l : List UInt8) (n : UInt64) (a k : Nat) (hkey : key.length = 32) (had : ad.length = a) (ha9 : a ≤ 10000) (hl : l.length = k) (hk9 : k ≤ 10000) (h : n ≠ 18446744073709551615) : Good Try.prog 12 [.c (.ptr 0 0), .c (.ro a (u8s ad)), .c (.ro k (u8s l))] [some (cC (.ptr 1 0) n), some (u8s key)] (.t [.c (.slc 2 0 (k + 16) 1), .c (cn 0)]) [some (cC (.ptr 1 0) (n + 1)), some (u8s key), some (u8s (aseal key (anonce n) ad l))] := by
  have g1 := ready_ok (u8s key) n h
  have hNl := anonce_len n
  have g2 := nonce_ n
  obtain ⟨N, hN⟩ : ∃ z, anonce n = z := ⟨_, rfl⟩
  rw [hN] at hNl g2
  rw [hN]
  have g3 := seal_ key N ad l a k hkey hNl had ha9 hl hk9
  have hn1 : n + 1 - 1 = n := UInt64.add_sub_cancel ..
  have g2' : Good Try.prog 40 [.c (c64 (n + 1 - 1))] [] (sa (u8s N)) [] := by rw [hn1]; exact g2
  refine good_frm 43 Try.func12 rfl rfl rfl rfl rfl rfl ?_
  refine awp_seq ?_
  refine rln ?_
  refine As ?_
  refine G (q_as (s := sc (cn 0)) ?_)
  refine gend ?_
  refine awp_seq ?_
  refine awp_seq ?_
  refine rln ?_
  refine Mv ?_
  refine G2 (fun _ k_ => q_callp g1 k_ (ha := (cac (et rfl) (sees_key rfl rfl hkey rfl rfl) ca0))) ?_
  refine As ?_
  refine gend ?_
  refine awp_seq ?_
  refine rln ?_
  refine Mv ?_
  refine G (q_neqn (y := 0) ?_)
  refine gend ?_
  refine cndN (fun hc1 => ?_) ?_; rotate_left
  · exact fun h => h rfl
  refine awp_skip ?_
  refine awp_seq ?_
  refine awp_seq ?_
  refine rln ?_
  refine Mv ?_
  refine G (q_ncp ?_)
  refine G (q_fap0 ?_)
  refine G (q_ldp ?_)
  refine G (q_eqlp ?_)
  refine gend ?_
  refine cndF ?_
  refine awp_skip ?_
  refine awp_seq ?_
  refine rln ?_
  refine Mv ?_
  refine G (q_ncp ?_)
  refine G (q_fap0 ?_)
  refine G (q_ldp ?_)
  refine G (q_add64 (y := 1) ?_)
  refine G (q_ncp ?_)
  refine G (q_fap0 ?_)
  refine G20 (fun _ k_ => q_st k_) ?_
  refine gend ?_
  refine awp_seq ?_
  refine rdln [14] [0, 0, 0, 0, 0, 0, 0, 0, 0, 0, 0, 0, 0, 0, 0, 1, 1] [0, 0, 0, 0, 0, 0, 0, 0, 0, 0, 0, 0, 0, 0, 1, 1, 1] ?_
  refine Dp (fun _ => q_mv (s := .v (.c _)) ⟨rfl, rfl⟩) ?_
  refine Dp (fun _ => q_ncp ⟨rfl, rfl⟩) ?_
  refine Dp (fun _ => q_fap0 ⟨rfl, rfl⟩) ?_
  refine DLp ?_
  refine Dp (fun _ => q_ncp ⟨rfl, rfl⟩) ?_
  refine DLw ?_
  refine Dp (fun _ => q_mv (s := .v (.c _)) ⟨rfl, rfl⟩) ?_
  refine Dp (fun _ => q_ncp ⟨rfl, rfl⟩) ?_
  refine Dp (fun _ => q_fap0 ⟨rfl, rfl⟩) ?_
  refine DLp ?_
  refine Dp (fun _ => q_sub64 (y := 1) ⟨rfl, rfl⟩) ?_
  refine Dp (fun _ => q_callp g2' ⟨rfl, rfl⟩ (ha := (cac (et rfl) cm_int ca0))) ?_
  refine Dp (fun _ => q_mv (s := .v (.c _)) ⟨rfl, rfl⟩) ?_
  refine Dp (fun _ => q_mv (s := .v (.c _)) ⟨rfl, rfl⟩) ?_
  refine De2 (fun _ k_ => q_calln g3 k_ (ha := (caa (et rfl) sees_m (caa (et rfl) sees_m (cac (et rfl) sees_ro (cac (et rfl) sees_ro ca0)))))) ?_
  refine Dp (fun _ => q_as (s := .v (.c _)) ⟨rfl, rfl⟩) ?_
  refine Dp (fun _ => q_as (s := sc (cn 0)) ⟨rfl, rfl⟩) ?_
  refine dend ?_
  refine awp_ret ?_
  exact fx2 [0, 1, 2] (hm0 := rfl) (hH := pl1 rfl rfl (pl1 rfl sees_m (pl1 rfl sees_m pl0))) (hn := piB rfl)
/-- (*cipher.Cipher).Seal -/
theorem cseal_0 (ad l : List UInt8) (n : UInt64) (a k : Nat) (hl : l.length = k) (hk9 : k ≤ 10000) : Good Try.prog 12 [.c (.ptr 0 0), .c (.ro a (u8s ad)), .c (.ro k (u8s l))] [some (cC .nilp n)] (.t [.c (.slc 1 0 k 1), .c (cn 0)]) [some (cC .nilp n), some (u8s l)] := by
  have g1z := ready_0 n
  have g2 := clone_ l k hl (by omega)
  refine good_frm 43 Try.func12 rfl rfl rfl rfl rfl rfl ?_
  refine awp_seq ?_
  refine rln ?_
  refine As ?_
  refine G (q_as (s := sc (cn 0)) ?_)
  refine gend ?_
  refine awp_seq ?_
  refine awp_seq ?_
  refine rln ?_
  refine Mv ?_
  refine G2 (fun _ k_ => q_callp g1z k_ (ha := (cac (et rfl) (sees_ptr rfl rfl rfl rfl) ca0))) ?_
  refine As ?_
  refine gend ?_
  refine awp_seq ?_
  refine rln ?_
  refine Mv ?_
  refine G (q_neqn (y := 0) ?_)
  refine gend ?_
  refine cndN (fun hc1 => ?_) ?_; rotate_left
  · exact fun h => h rfl
  refine awp_skip ?_
  refine awp_seq ?_
  refine awp_seq ?_
  refine rln ?_
  refine Mv ?_
  refine G (q_ncp ?_)
  refine G (q_fap0 ?_)
  refine G (q_ldp ?_)
  refine G (q_eqlp ?_)
  refine gend ?_
  refine cndbY (fun hc2 => ?_) ?_; rotate_left
  · exact rfl
  refine awp_seq ?_
  refine rln ?_
  refine Mv ?_
  refine G2 (fun _ k_ => q_calln g2 k_ (ha := (cac (et rfl) sees_ro ca0))) ?_
  refine As ?_
  refine G (q_as (s := sc (cn 0)) ?_)
  refine gend ?_
  refine awp_ret ?_
  exact fx2 [0, 1] (hm0 := rfl) (hH := pl1 rfl rfl (pl1 rfl sees_m pl0)) (hn := piB rfl)
set_option maxHeartbeats 1600000 in
/-- (*cipher.Cipher).Open -/
theorem copen_ok (key ad l : List UInt8) (n : UInt64) (a k : Nat) (hkey : key.length = 32) (had : ad.length = a) (ha9 : a ≤ 10000) (hl : l.length = k) (hk9 : k ≤ 10000) (h : n ≠ 18446744073709551615) (p : List UInt8) (hp : aopen key (anonce n) ad l = some p) : Good Try.prog 14 [.c (.ptr 0 0), .c (.ro a (u8s ad)), .c (.ro k (u8s l))] [some (cC (.ptr 1 0) n), some (u8s key)] (.t [.c (.slc 2 0 (k - 16) 1), .c (cn 0)]) [some (cC (.ptr 1 0) (n + 1)), some (u8s key), some (u8s p)] := by
  have g1 := ready_ok (u8s key) n h
  have hNl := anonce_len n
  have g2 := nonce_ n
  obtain ⟨N, hN⟩ : ∃ z, anonce n = z := ⟨_, rfl⟩
  rw [hN] at hNl g2
  rw [hN] at hp
  have g3 := open_some key N ad l a k hkey hNl had ha9 hl hk9 p hp
  refine good_frm 51 Try.func14 rfl rfl rfl rfl rfl rfl ?_
  refine awp_seq ?_
  refine rln ?_
  refine As ?_
  refine G (q_as (s := sc (cn 0)) ?_)
  refine gend ?_
  refine awp_seq ?_
  refine awp_seq ?_
  refine rln ?_
  refine Mv ?_
  refine G2 (fun _ k_ => q_callp g1 k_ (ha := (cac (et rfl) (sees_key rfl rfl hkey rfl rfl) ca0))) ?_
  refine As ?_
  refine gend ?_
  refine awp_seq ?_
  refine rln ?_
  refine Mv ?_
  refine G (q_neqn (y := 0) ?_)
  refine gend ?_
  refine cndN (fun hc1 => ?_) ?_; rotate_left
  · exact fun h => h rfl
  refine awp_skip ?_
  refine awp_seq ?_
  refine awp_seq ?_
  refine rln ?_
  refine Mv ?_
  refine G (q_ncp ?_)
  refine G (q_fap0 ?_)
  refine G (q_ldp ?_)
  refine G (q_eqlp ?_)
  refine gend ?_
  refine cndF ?_
  refine awp_skip ?_
  refine awp_seq ?_
  refine rdln [13] [0, 0, 0, 0, 0, 0, 0, 0, 0, 0, 0, 0, 0, 0, 1, 1, 1, 1, 1] [0, 0, 0, 0, 0, 0, 0, 0, 0, 0, 0, 0, 0, 1, 1, 1, 1, 1, 1] ?_
  refine Dp (fun _ => q_mv (s := .v (.c _)) ⟨rfl, rfl⟩) ?_
  refine Dp (fun _ => q_ncp ⟨rfl, rfl⟩) ?_
  refine Dp (fun _ => q_fap0 ⟨rfl, rfl⟩) ?_
  refine DLp ?_
  refine Dp (fun _ => q_ncp ⟨rfl, rfl⟩) ?_
  refine DLw ?_
  refine Dp (fun _ => q_mv (s := .v (.c _)) ⟨rfl, rfl⟩) ?_
  refine Dp (fun _ => q_ncp ⟨rfl, rfl⟩) ?_
  refine Dp (fun _ => q_fap0 ⟨rfl, rfl⟩) ?_
  refine DLp ?_
  refine Dp (fun _ => q_callp g2 ⟨rfl, rfl⟩ (ha := (cac (et rfl) cm_int ca0))) ?_
  refine Dp (fun _ => q_mv (s := .v (.c _)) ⟨rfl, rfl⟩) ?_
  refine Dp (fun _ => q_mv (s := .v (.c _)) ⟨rfl, rfl⟩) ?_
  refine De2 (fun _ k_ => q_calln g3 k_ (ha := (caa (et rfl) sees_m (caa (et rfl) sees_m (cac (et rfl) sees_ro (cac (et rfl) sees_ro ca0)))))) ?_
  refine Dp (fun _ => q_mv (s := .t _) ⟨rfl, rfl⟩) ?_
  refine Dp (fun _ => q_ext (y := .c _) ⟨rfl, rfl⟩) ?_
  refine Dp (fun _ => q_ext (y := .c _) ⟨rfl, rfl⟩) ?_
  refine Dp (fun _ => q_as (s := .v (.c _)) ⟨rfl, rfl⟩) ?_
  refine Dp (fun _ => q_as (s := .v (.c _)) ⟨rfl, rfl⟩) ?_
  refine dend ?_
  refine awp_seq ?_
  refine awp_seq ?_
  refine rln ?_
  refine Mv ?_
  refine G (q_eqln (y := 0) ?_)
  refine gend ?_
  refine cndY (fun hc2 => ?_) ?_; rotate_left
  · exact rfl
  refine rln ?_
  refine Mv ?_
  refine G (q_ncp ?_)
  refine G (q_fap0 ?_)
  refine G (q_ldp ?_)
  refine G (q_add64 (y := 1) ?_)
  refine G (q_ncp ?_)
  refine G (q_fap0 ?_)
  refine G20 (fun _ k_ => q_st k_) ?_
  refine gend ?_
  refine awp_seq ?_
  refine rln ?_
  refine Mv ?_
  refine Mv ?_
  refine As ?_
  refine As ?_
  refine gend ?_
  refine awp_ret ?_
  exact fx2 [0, 1, 2] (hm0 := rfl) (hH := pl1 rfl rfl (pl1 rfl sees_m (pl1 rfl sees_m pl0))) (hn := piB rfl)
set_option maxHeartbeats 1600000 in
/-- (*cipher.Cipher).Open -/
theorem copen_bad (key ad l : List UInt8) (n : UInt64) (a k : Nat) (hkey : key.length = 32) (had : ad.length = a) (ha9 : a ≤ 10000) (hl : l.length = k) (hk9 : k ≤ 10000) (h : n ≠ 18446744073709551615) (hp : aopen key (anonce n) ad l = none) : Good Try.prog 14 [.c (.ptr 0 0), .c (.ro a (u8s ad)), .c (.ro k (u8s l))] [some (cC (.ptr 1 0) n), some (u8s key)] (.t [.c .nils, .c (cn 8)]) [some (cC (.ptr 1 0) n), some (u8s key)] := by
  have g1 := ready_ok (u8s key) n h
  have hNl := anonce_len n
  have g2 := nonce_ n
  obtain ⟨N, hN⟩ : ∃ z, anonce n = z := ⟨_, rfl⟩
  rw [hN] at hNl g2
  rw [hN] at hp
  have g3 := open_none key N ad l a k hkey hNl had ha9 hl hk9 hp
  refine good_frm 51 Try.func14 rfl rfl rfl rfl rfl rfl ?_
  refine awp_seq ?_
  refine rln ?_
  refine As ?_
  refine G (q_as (s := sc (cn 0)) ?_)
  refine gend ?_
  refine awp_seq ?_
  refine awp_seq ?_
  refine rln ?_
  refine Mv ?_
  refine G2 (fun _ k_ => q_callp g1 k_ (ha := (cac (et rfl) (sees_key rfl rfl hkey rfl rfl) ca0))) ?_
  refine As ?_
  refine gend ?_
  refine awp_seq ?_
  refine rln ?_
  refine Mv ?_
  refine G (q_neqn (y := 0) ?_)
  refine gend ?_
  refine cndN (fun hc1 => ?_) ?_; rotate_left
  · exact fun h => h rfl
  refine awp_skip ?_
  refine awp_seq ?_
  refine awp_seq ?_
  refine rln ?_
  refine Mv ?_
  refine G (q_ncp ?_)
  refine G (q_fap0 ?_)
  refine G (q_ldp ?_)
  refine G (q_eqlp ?_)
  refine gend ?_
  refine cndF ?_
  refine awp_skip ?_
  refine awp_seq ?_
  refine rdln [] [] [] ?_
  refine Dp (fun _ => q_mv (s := .v (.c _)) ⟨rfl, rfl⟩) ?_
  refine Dp (fun _ => q_ncp ⟨rfl, rfl⟩) ?_
  refine Dp (fun _ => q_fap0 ⟨rfl, rfl⟩) ?_
  refine DLp ?_
  refine Dp (fun _ => q_ncp ⟨rfl, rfl⟩) ?_
  refine DLw ?_
  refine Dp (fun _ => q_mv (s := .v (.c _)) ⟨rfl, rfl⟩) ?_
  refine Dp (fun _ => q_ncp ⟨rfl, rfl⟩) ?_
  refine Dp (fun _ => q_fap0 ⟨rfl, rfl⟩) ?_
  refine DLp ?_
  refine Dp (fun _ => q_callp g2 ⟨rfl, rfl⟩ (ha := (cac (et rfl) cm_int ca0))) ?_
  refine Dp (fun _ => q_mv (s := .v (.c _)) ⟨rfl, rfl⟩) ?_
  refine Dp (fun _ => q_mv (s := .v (.c _)) ⟨rfl, rfl⟩) ?_
  refine Dp (fun _ => q_callp g3 ⟨rfl, rfl⟩ (ha := (caa (et rfl) sees_m (caa (et rfl) sees_m (cac (et rfl) sees_ro (cac (et rfl) sees_ro ca0)))))) ?_
  refine Dp (fun _ => q_mv (s := .t _) ⟨rfl, rfl⟩) ?_
  refine Dp (fun _ => q_ext (y := .c _) ⟨rfl, rfl⟩) ?_
  refine Dp (fun _ => q_ext (y := .c _) ⟨rfl, rfl⟩) ?_
  refine Dp (fun _ => q_as (s := .v (.c _)) ⟨rfl, rfl⟩) ?_
  refine Dp (fun _ => q_as (s := .v (.c _)) ⟨rfl, rfl⟩) ?_
  refine dend ?_
  refine awp_seq ?_
  refine awp_seq ?_
  refine rln ?_
  refine Mv ?_
  refine G (q_eqln (y := 0) ?_)
  refine gend ?_
  refine cndN (fun hc2 => ?_) ?_; rotate_left
  · exact by decide
  refine awp_skip ?_
  refine awp_seq ?_
  refine rln ?_
  refine Mv ?_
  refine Mv ?_
  refine As ?_
  refine As ?_
  refine gend ?_
  refine awp_ret ?_
  exact fx2 [0, 1] (hm0 := rfl) (hH := pl1 rfl rfl (pl1 rfl sees_m pl0))
/-- (*cipher.Cipher).Open -/
theorem copen_0 (ad l : List UInt8) (n : UInt64) (a k : Nat) (hl : l.length = k) (hk9 : k ≤ 10000) : Good Try.prog 14 [.c (.ptr 0 0), .c (.ro a (u8s ad)), .c (.ro k (u8s l))] [some (cC .nilp n)] (.t [.c (.slc 1 0 k 1), .c (cn 0)]) [some (cC .nilp n), some (u8s l)] := by
  have g1z := ready_0 n
  have g2 := clone_ l k hl (by omega)
  refine good_frm 51 Try.func14 rfl rfl rfl rfl rfl rfl ?_
  refine awp_seq ?_
  refine rln ?_
  refine As ?_
  refine G (q_as (s := sc (cn 0)) ?_)
  refine gend ?_
  refine awp_seq ?_
  refine awp_seq ?_
  refine rln ?_
  refine Mv ?_
  refine G2 (fun _ k_ => q_callp g1z k_ (ha := (cac (et rfl) (sees_ptr rfl rfl rfl rfl) ca0))) ?_
  refine As ?_
  refine gend ?_
  refine awp_seq ?_
  refine rln ?_
  refine Mv ?_
  refine G (q_neqn (y := 0) ?_)
  refine gend ?_
  refine cndN (fun hc1 => ?_) ?_; rotate_left
  · exact fun h => h rfl
  refine awp_skip ?_
  refine awp_seq ?_
  refine awp_seq ?_
  refine rln ?_
  refine Mv ?_
  refine G (q_ncp ?_)
  refine G (q_fap0 ?_)
  refine G (q_ldp ?_)
  refine G (q_eqlp ?_)
  refine gend ?_
  refine cndbY (fun hc2 => ?_) ?_; rotate_left
  · exact rfl
  refine awp_seq ?_
  refine rln ?_
  refine Mv ?_
  refine G2 (fun _ k_ => q_calln g2 k_ (ha := (cac (et rfl) sees_ro ca0))) ?_
  refine As ?_
  refine G (q_as (s := sc (cn 0)) ?_)
  refine gend ?_
  refine awp_ret ?_
  exact fx2 [0, 1] (hm0 := rfl) (hH := pl1 rfl rfl (pl1 rfl sees_m pl0)) (hn := piB rfl)
end Go.Proofs.Ytlnepajgnckolaa

/- What functions of the program do, walked over the abstract machine. -/
namespace Go.Proofs.Ytlnepajgnckolaa
open Go Go.Abs Go.Proofs Go.Proofs.Ytlnepajgnckolaa.Ch Go.Proofs.Ytlnepajgnckolaa.Po Go.Proofs.Ytlnepajgnckolaa.Ae Go.Proofs.Ytlnepajgnckolaa.Bl

set_option maxRecDepth 20000
/-- A state's cells. -/
abbrev sC (cp : Cell) (h ck : List UInt8) : List Cell := cp :: (u8s h ++ u8s ck)
theorem sC_h {cp : Cell} {h ck : List UInt8} (hh : h.length = 32) : ((sC cp h ck).drop 1).take 32 = u8s h := by
  show (u8s h ++ u8s ck).take 32 = _
  rw [List.take_append_of_le_length (by rw [mapc_length, hh]; exact Nat.le_refl _), List.take_of_length_le (by rw [mapc_length, hh]; exact Nat.le_refl _)]
theorem sC_k {cp : Cell} {h ck : List UInt8} (hh : h.length = 32) (hk : ck.length = 32) : ((sC cp h ck).drop 33).take 32 = u8s ck := by
  show ((u8s h ++ u8s ck).drop 32).take 32 = _
  rw [List.drop_append_of_le_length (by rw [mapc_length, hh]; exact Nat.le_refl _), List.drop_of_length_le (by rw [mapc_length, hh]; exact Nat.le_refl _), List.nil_append, List.take_of_length_le (by rw [mapc_length, hk]; exact Nat.le_refl _)]
theorem sC_seth {cp : Cell} {h ck h' : List UInt8} (hh : h.length = 32) (hh' : h'.length = 32) : splice (sC cp h ck) 1 (u8s h') = sC cp h' ck := by
  unfold splice
  rw [mapc_length, hh']
  show cp :: ([] ++ (u8s h' ++ (u8s h ++ u8s ck).drop 32)) = _
  rw [List.drop_append_of_le_length (by rw [mapc_length, hh]; exact Nat.le_refl _), List.drop_of_length_le (by rw [mapc_length, hh]; exact Nat.le_refl _), List.nil_append, List.nil_append]
theorem sC_setk {cp : Cell} {h ck k' : List UInt8} (hh : h.length = 32) (hk : ck.length = 32) (hk' : k'.length = 32) : splice (sC cp h ck) 33 (u8s k') = sC cp h k' := by
  unfold splice
  rw [mapc_length, hk']
  show cp :: ((u8s h ++ u8s ck).take 32 ++ (u8s k' ++ (u8s h ++ u8s ck).drop 64)) = _
  rw [List.take_append_of_le_length (by rw [mapc_length, hh]; exact Nat.le_refl _), List.take_of_length_le (by rw [mapc_length, hh]; exact Nat.le_refl _), List.drop_of_length_le (by rw [List.length_append, mapc_length, mapc_length, hh, hk]; exact Nat.le_refl _), List.append_nil]
theorem sC_len {cp : Cell} {h ck : List UInt8} (hh : h.length = 32) (hk : ck.length = 32) : (sC cp h ck).length = 65 := by
  show (u8s h ++ u8s ck).length + 1 = 65
  rw [List.length_append, mapc_length, mapc_length, hh, hk]
theorem sC_map {cp : Cell} {h ck : List UInt8} {m : CM} {d : Nat} : (sC cp h ck).map (cm m d) = sC (cm m d cp) h ck := by
  show cm m d cp :: (u8s h ++ u8s ck).map (cm m d) = _
  rw [mapc_append, mapc_cm, ← mapc_append]
/-- (*cipher.State).is -/
theorem is_ (c r : List Cell) : Good Try.prog 46 [.c (.rop (.rop c :: r))] [] (sc (.bool true)) [] := by
  refine good_frm 12 Try.func46 rfl rfl rfl rfl rfl rfl ?_
  refine awp_seq ?_
  refine rln ?_
  refine As ?_
  refine gend ?_
  refine awp_seq ?_
  refine rln ?_
  refine Mv ?_
  refine G (q_neqp ?_)
  refine Mv ?_
  refine Gg (q_mv (s := .v (.c _)) ?_)
  refine Gg (q_ncr ?_)
  refine Gg (q_far ?_)
  refine Gg (q_ldr ?_)
  refine Gg (q_neqp ?_)
  refine G (q_pkt ?_)
  refine As ?_
  refine gend ?_
  refine awp_ret ?_
  exact fp1
end Go.Proofs.Ytlnepajgnckolaa

/- What functions of the program do, walked over the abstract machine. -/
namespace Go.Proofs.Ytlnepajgnckolaa
open Go Go.Abs Go.Proofs Go.Proofs.Ytlnepajgnckolaa.Ch Go.Proofs.Ytlnepajgnckolaa.Po Go.Proofs.Ytlnepajgnckolaa.Ae Go.Proofs.Ytlnepajgnckolaa.Bl

set_option maxRecDepth 20000
theorem key1 {K : List UInt8} (h : (1 :: List.replicate 31 0 : List UInt8) = K) {m : CM} {d : Nat} : ((u8s (List.replicate 32 0)).set (0 * 1) (c8 1)).map (cm m d) = u8s K := by
  subst h; exact sees_m (l := 1 :: List.replicate 31 0)
set_option maxHeartbeats 1600000 in
/-- escutcheonlaw16.known -/
theorem known_ : Good Try.prog 9 [] [] (sc (.bool true)) [] := by
  obtain ⟨K, hK⟩ : ∃ z, (1 :: List.replicate 31 0 : List UInt8) = z := ⟨_, rfl⟩
  have hKl : K.length = 32 := by rw [← hK]; rfl
  have gn := new_ K hKl
  have xl := aseal_len K (anonce 0) [] [5]
  have xo := aopen_aseal K (anonce 0) [] [5]
  have gx := cseal_ok K [] [5] 0 0 1 hKl rfl (by decide) rfl (by decide) (by decide)
  have hnx := anonce_len 0
  have yl := aseal_len K (anonce (0 + 1)) [] [6]
  have yo := aopen_aseal K (anonce (0 + 1)) [] [6]
  have gy := cseal_ok K [] [6] (0 + 1) 0 1 hKl rfl (by decide) rfl (by decide) (by decide)
  have hny := anonce_len (0 + 1)
  generalize hSx : aseal K (anonce 0) [] [5] = Sx at *
  have ox := copen_ok K [] Sx 0 0 17 hKl rfl (by decide) xl (by decide) (by decide) [5] xo
  generalize hSy : aseal K (anonce (0 + 1)) [] [6] = Sy at *
  have oy := copen_ok K [] Sy (0 + 1) 0 17 hKl rfl (by decide) yl (by decide) (by decide) [6] yo
  refine good_frm 63 Try.func9 rfl rfl rfl rfl rfl rfl ?_
  refine awp_seq ?_
  refine rln ?_
  refine As ?_
  refine gend ?_
  refine awp_seq ?_
  refine rln ?_
  refine G (q_bla (fkc (c := c8 1) rfl rfl rfl (Nat.le_of_ble_eq_true rfl) (fk0 ?_)))
  refine G2 (fun _ k_ => q_callv [] [] [some (u8s K), some (cC (.ptr 0 0) 0)] gn k_ (ha := (caa (et rfl) (key1 hK) ca0)) (eM := (ml1 sees_m (ml1 rfl ml0)))) ?_
  refine G (q_bla (fkc (c := c8 1) rfl rfl rfl (Nat.le_of_ble_eq_true rfl) (fk0 ?_)))
  refine G2 (fun _ k_ => q_callv [] [] [some (u8s K), some (cC (.ptr 0 0) 0)] gn k_ (ha := (caa (et rfl) (key1 hK) ca0)) (eM := (ml1 sees_m (ml1 rfl ml0)))) ?_
  refine As ?_
  refine As ?_
  refine gend ?_
  refine awp_seq ?_
  refine rln ?_
  refine Mv ?_
  refine G2 (fun _ k_ => q_bsl (fkc (c := c8 5) rfl rfl rfl (Nat.le_of_ble_eq_true rfl) (fk0 k_))) ?_
  refine G2 (fun _ k_ => q_callv [1, 0] [some (cC (.ptr 1 0) (0 + 1)), some (u8s K)] [some (u8s Sx)] gx k_ (ha := (cac (et rfl) rfl (cac rfl sees_nil8 (cac (et rfl) (sees_slc rfl rfl rfl) ca0)))) (eL := (ml1 rfl (ml1 sees_m ml0))) (eM := (ml1 sees_m ml0))) ?_
  refine G (q_mv (s := .t _) ?_)
  refine G (q_ext (y := .c _) ?_)
  refine G (q_ext (y := .c _) ?_)
  refine As ?_
  refine As ?_
  refine gend ?_
  refine awp_seq ?_
  refine rln ?_
  refine Mv ?_
  refine G2 (fun _ k_ => q_bsl (fkc (c := c8 6) rfl rfl rfl (Nat.le_of_ble_eq_true rfl) (fk0 k_))) ?_
  refine G2 (fun _ k_ => q_callv [1, 0] [some (cC (.ptr 1 0) (0 + 1 + 1)), some (u8s K)] [some (u8s Sy)] gy k_ (ha := (cac (et rfl) rfl (cac rfl sees_nil8 (cac (et rfl) (sees_slc rfl rfl rfl) ca0)))) (eL := (ml1 rfl (ml1 sees_m ml0))) (eM := (ml1 sees_m ml0))) ?_
  refine G (q_mv (s := .t _) ?_)
  refine G (q_ext (y := .c _) ?_)
  refine G (q_ext (y := .c _) ?_)
  refine As ?_
  refine As ?_
  refine gend ?_
  refine awp_seq ?_
  refine rln ?_
  refine Mv ?_
  refine Mv ?_
  refine G2 (fun _ k_ => q_callv [3, 2] [some (cC (.ptr 1 0) (0 + 1)), some (u8s K)] [some (u8s [5])] ox k_ (ha := (cac (et rfl) rfl (cac rfl sees_nil8 (cac (et rfl) (sees_slc rfl rfl (cut_h xl)) ca0)))) (eL := (ml1 rfl (ml1 sees_m ml0))) (eM := (ml1 sees_m ml0))) ?_
  refine G (q_mv (s := .t _) ?_)
  refine G (q_ext (y := .c _) ?_)
  refine G (q_ext (y := .c _) ?_)
  refine As ?_
  refine As ?_
  refine gend ?_
  refine awp_seq ?_
  refine rln ?_
  refine Mv ?_
  refine Mv ?_
  refine G2 (fun _ k_ => q_callv [3, 2] [some (cC (.ptr 1 0) (0 + 1 + 1)), some (u8s K)] [some (u8s [6])] oy k_ (ha := (cac (et rfl) rfl (cac rfl sees_nil8 (cac (et rfl) (sees_slc rfl rfl (cut_h yl)) ca0)))) (eL := (ml1 rfl (ml1 sees_m ml0))) (eM := (ml1 sees_m ml0))) ?_
  refine G (q_mv (s := .t _) ?_)
  refine G (q_ext (y := .c _) ?_)
  refine G (q_ext (y := .c _) ?_)
  refine As ?_
  refine As ?_
  refine gend ?_
  refine awp_seq ?_
  refine rln ?_
  refine Mv ?_
  refine G (q_eqln (y := 0) ?_)
  refine Mv ?_
  refine Aknd 41 (fun hb3 => ?_) ?_; rotate_left
  · exact rfl
  refine Gg (q_mv (s := .v (.c _)) ?_)
  refine Gg (q_eqln (y := 0) ?_)
  refine G (q_pkt ?_)
  refine Mv ?_
  refine Aknd 45 (fun hb7 => ?_) ?_; rotate_left
  · exact rfl
  refine Gg (q_mv (s := .v (.c _)) ?_)
  refine Gg (q_eqln (y := 0) ?_)
  refine G (q_pkt ?_)
  refine Mv ?_
  refine Aknd 49 (fun hb11 => ?_) ?_; rotate_left
  · exact rfl
  refine Gg (q_mv (s := .v (.c _)) ?_)
  refine Gg (q_eqln (y := 0) ?_)
  refine G (q_pkt ?_)
  refine Mv ?_
  refine Aknd 53 (fun hb15 => ?_) ?_; rotate_left
  · exact rfl
  refine Gg (q_mv (s := .v (.c _)) ?_)
  refine Gg (q_csl ?_)
  refine Gg (q_eqls ?_)
  refine G (q_pkt ?_)
  refine Mv ?_
  refine Aknd 58 (fun hb20 => ?_) ?_; rotate_left
  · exact rfl
  refine Gg (q_mv (s := .v (.c _)) ?_)
  refine Gg (q_csl ?_)
  refine Gg (q_eqls ?_)
  refine G (q_pkt ?_)
  refine As ?_
  refine gend ?_
  refine awp_ret ?_
  exact fp1
end Go.Proofs.Ytlnepajgnckolaa

/- What functions of the program do, walked over the abstract machine. -/
namespace Go.Proofs.Ytlnepajgnckolaa
open Go Go.Abs Go.Proofs Go.Proofs.Ytlnepajgnckolaa.Ch Go.Proofs.Ytlnepajgnckolaa.Po Go.Proofs.Ytlnepajgnckolaa.Ae Go.Proofs.Ytlnepajgnckolaa.Bl

set_option maxRecDepth 20000
theorem sees_nk {H : Heap} {q d : Nat} {n : UInt64} {π : List Nat} (hq : idx q π = none) (hC : H[q]? = some (some (cC .nilp n))) : cm (cin π true H) (d + 2) (.ptr q 0) = .rop [.nilp, c64 n, .bool true] := by
  have he : (cC .nilp n).isEmpty = false := rfl
  simp only [cm, cin, hq, joinH, hC, if_true, he, Bool.false_eq_true, if_false, List.drop_zero, List.map_cons, List.map_nil]
theorem sees_st {H : Heap} {p : Nat} {π : List Nat} {cp : Cell} {h ck : List UInt8} {c : List Cell} (hp : idx p π = none) (hS : H[p]? = some (some (sC cp h ck))) (hc : cm (cin π true H) 7 cp = .rop c) : cm (cin π true H) 8 (.ptr p 0) = .rop (.rop c :: (u8s h ++ u8s ck)) :=
  sees_ptr hp hS rfl (by rw [List.drop_zero, sC_map, hc])
/-- (*cipher.State).MixHash -/
theorem mixhash_0 (h ck : List UInt8) (hh : h.length = 32) (hk : ck.length = 32) (n : UInt64) (b : List UInt8) (a : Nat) (hb : b.length = a) (ha : a ≤ 10000) : Good Try.prog 22 [.c (.ptr 0 0), .c (.ro a (u8s b))] [some (sC (.ptr 1 0) h ck), some (cC .nilp n)] (.t []) [some (sC (.ptr 1 0) (bsum (h ++ b)) ck), some (cC .nilp n)] := by
  have hL : (sC (.ptr 1 0) h ck).length = 65 := sC_len hh hk
  have g1 := sum_ [h, b] 2 rfl (by decide) (by simp; omega)
  rw [show ([h, b] : List (List UInt8)).flatten = h ++ b by simp] at g1
  obtain ⟨B, hB⟩ : ∃ z, bsum (h ++ b) = z := ⟨_, rfl⟩
  have hBl : B.length = 32 := by rw [← hB]; exact bsum_len _
  rw [hB] at g1 ⊢
  refine good_frm 16 Try.func22 rfl rfl rfl rfl rfl rfl ?_
  refine awp_seq ?_
  refine rln ?_
  refine Mv ?_
  refine G2 (fun _ k_ => q_callp (is_ _ _) k_ (ha := (cac (et rfl) (sees_st rfl rfl (sees_nk rfl rfl)) ca0))) ?_
  refine gend ?_
  refine cndbY (fun hc1 => ?_) ?_; rotate_left
  · exact rfl
  refine rln ?_
  refine Mv ?_
  refine Mv ?_
  refine G (q_ncp ?_)
  refine G (q_fap0 ?_)
  refine G (q_slp_no ?_)
  refine Mv ?_
  refine G2 (fun _ k_ => q_bsl (fkc rfl (et rfl) rfl (Nat.le_of_ble_eq_true rfl) (fkc rfl (et rfl) rfl (Nat.le_of_ble_eq_true rfl) (fk0 k_)))) ?_
  refine G2 (fun _ k_ => q_callp g1 k_ (ha := (cac (et rfl) (sees_parts rfl rfl (pq_slc rfl rfl (sC_h hh) hh (pq_ro hb pq0))) ca0))) ?_
  refine G (q_ncp ?_)
  refine G (q_fap0 ?_)
  refine G20 (fun _ k_ => q_sta k_) ?_ (hH := by simp only [List.set_cons_zero, List.cons_append, List.nil_append]; exact congrArg (fun z => some z :: _) (sC_seth hh hBl))
  refine gend ?_
  exact fx0 [0, 1] (hH := pl1 rfl (sC_map.trans rfl) (pl1 rfl rfl pl0))
/-- (*cipher.State).MixHash -/
theorem mixhash_k (h ck : List UInt8) (hh : h.length = 32) (hk : ck.length = 32) (key : List UInt8) (n : UInt64) (hkey : key.length = 32) (b : List UInt8) (a : Nat) (hb : b.length = a) (ha : a ≤ 10000) : Good Try.prog 22 [.c (.ptr 0 0), .c (.ro a (u8s b))] [some (sC (.ptr 1 0) h ck), some (cC (.ptr 2 0) n), some (u8s key)] (.t []) [some (sC (.ptr 1 0) (bsum (h ++ b)) ck), some (cC (.ptr 2 0) n), some (u8s key)] := by
  have hL : (sC (.ptr 1 0) h ck).length = 65 := sC_len hh hk
  have g1 := sum_ [h, b] 2 rfl (by decide) (by simp; omega)
  rw [show ([h, b] : List (List UInt8)).flatten = h ++ b by simp] at g1
  obtain ⟨B, hB⟩ : ∃ z, bsum (h ++ b) = z := ⟨_, rfl⟩
  have hBl : B.length = 32 := by rw [← hB]; exact bsum_len _
  rw [hB] at g1 ⊢
  refine good_frm 16 Try.func22 rfl rfl rfl rfl rfl rfl ?_
  refine awp_seq ?_
  refine rln ?_
  refine Mv ?_
  refine G2 (fun _ k_ => q_callp (is_ _ _) k_ (ha := (cac (et rfl) (sees_st rfl rfl (sees_key rfl rfl hkey rfl rfl)) ca0))) ?_
  refine gend ?_
  refine cndbY (fun hc1 => ?_) ?_; rotate_left
  · exact rfl
  refine rln ?_
  refine Mv ?_
  refine Mv ?_
  refine G (q_ncp ?_)
  refine G (q_fap0 ?_)
  refine G (q_slp_no ?_)
  refine Mv ?_
  refine G2 (fun _ k_ => q_bsl (fkc rfl (et rfl) rfl (Nat.le_of_ble_eq_true rfl) (fkc rfl (et rfl) rfl (Nat.le_of_ble_eq_true rfl) (fk0 k_)))) ?_
  refine G2 (fun _ k_ => q_callp g1 k_ (ha := (cac (et rfl) (sees_parts rfl rfl (pq_slc rfl rfl (sC_h hh) hh (pq_ro hb pq0))) ca0))) ?_
  refine G (q_ncp ?_)
  refine G (q_fap0 ?_)
  refine G20 (fun _ k_ => q_sta k_) ?_ (hH := by simp only [List.set_cons_zero, List.cons_append, List.nil_append]; exact congrArg (fun z => some z :: _) (sC_seth hh hBl))
  refine gend ?_
  exact fx0 [0, 1, 2] (hH := pl1 rfl (sC_map.trans rfl) (pl1 rfl rfl (pl1 rfl sees_m pl0)))
/-- What a short name becomes. -/
def pad32 (s : ByteArray) : List UInt8 := s.data.toList ++ List.replicate (32 - s.size) 0
theorem pad32_len {s : ByteArray} (h : s.size ≤ 32) : (pad32 s).length = 32 := by
  have hs : s.data.toList.length = s.size := rfl
  rw [pad32, List.length_append, List.length_replicate, hs]; omega
theorem begin_cpy {s : ByteArray} (h : s.size ≤ 32) {cp : Cell} : splice (cp :: u8s (List.replicate 64 0)) 1 (List.take (min s.size 32 * 1) (u8s s.data.toList)) = sC cp (pad32 s) (List.replicate 32 0) := by
  have hs : s.data.toList.length = s.size := rfl
  unfold splice
  rw [Nat.min_eq_left h, Nat.mul_one, List.take_of_length_le (l := u8s s.data.toList) (by rw [mapc_length, hs]; exact Nat.le_refl _), mapc_length, hs]
  show cp :: ([] ++ (u8s s.data.toList ++ (cp :: u8s (List.replicate 64 0)).drop (1 + s.size))) = cp :: _
  rw [Nat.add_comm 1, List.drop_succ_cons, List.nil_append, mapc_drop, List.drop_replicate, mapc_append, mapc_append, pad32, List.append_assoc, List.replicate_append_replicate, show 32 - s.size + 32 = 64 - s.size by omega]
/-- cipher.Begin -/
theorem begin_s (s : ByteArray) (h : s.size ≤ 32) : Good Try.prog 21 [.c (.str s)] [] (sc (.ptr 1 0)) [some (cC .nilp 0), some (sC (.ptr 0 0) (pad32 s) (pad32 s))] := by
  have hP := pad32_len h
  have hL := sC_len (cp := .ptr 0 0) hP (show (List.replicate 32 (0 : UInt8)).length = 32 from rfl)
  refine good_frm 31 Try.func21 rfl rfl rfl rfl rfl rfl ?_
  refine awp_seq ?_
  refine rln ?_
  refine As ?_
  refine gend ?_
  refine awp_seq ?_
  refine rln ?_
  refine G2 (fun _ k_ => q_calln none_ k_ (ha := ca0)) ?_
  refine G (q_bls (fkc rfl (et rfl) rfl (Nat.le_of_ble_eq_true rfl) (fk0 ?_)))
  refine G2 (fun _ k_ => q_boxa k_) ?_
  refine As ?_
  refine gend ?_
  refine awp_seq ?_
  refine awp_seq ?_
  refine rln ?_
  refine Mv ?_
  refine G (q_lens ?_)
  refine G (q_leqn (y := 32) ?_)
  refine gend ?_
  refine cndY (fun hc1 => ?_) ?_; rotate_left
  · exact h
  refine rln ?_
  refine Mv ?_
  refine G (q_ncp ?_)
  refine G (q_fap0 ?_)
  refine G (q_slp_no ?_)
  refine Mv ?_
  refine G2 (fun _ k_ => q_cpy k_) ?_ (hH := by simp only [List.set_cons_zero, List.set_cons_succ, List.cons_append, List.nil_append]; exact congrArg (fun z => [some (cC .nilp 0), some z]) (begin_cpy h))
  refine gend ?_
  refine awp_seq ?_
  refine rln ?_
  refine Mv ?_
  refine Mv ?_
  refine G (q_ncp ?_)
  refine G (q_fap0 ?_)
  refine G (q_lda (xs := u8s (pad32 s)) ?_ (hc := sC_h hP))
  refine G (q_ncp ?_)
  refine G (q_fap0 ?_)
  refine G20 (fun _ k_ => q_sta k_) ?_ (hH := by simp only [List.set_cons_zero, List.set_cons_succ, List.cons_append, List.nil_append]; exact congrArg (fun z => [some (cC .nilp 0), some z]) (sC_setk hP rfl hP))
  refine gend ?_
  refine awp_seq ?_
  refine rln ?_
  refine Mv ?_
  refine As ?_
  refine gend ?_
  refine awp_ret ?_
  exact fx1 [0, 1] (hm0 := rfl) (hH := pl1 rfl rfl (pl1 rfl (sC_map.trans rfl) pl0))
end Go.Proofs.Ytlnepajgnckolaa

/- What functions of the program do, walked over the abstract machine. -/
namespace Go.Proofs.Ytlnepajgnckolaa
open Go Go.Abs Go.Proofs Go.Proofs.Ytlnepajgnckolaa.Ch Go.Proofs.Ytlnepajgnckolaa.Po Go.Proofs.Ytlnepajgnckolaa.Ae Go.Proofs.Ytlnepajgnckolaa.Bl

set_option maxRecDepth 20000
theorem cm_st {π : List Nat} {H : Heap} {c : List Cell} {h ck : List UInt8} (hc : cm (cin π true H) 7 (.rop c) = .rop c) : cm (cin π true H) 8 (.rop (.rop c :: (u8s h ++ u8s ck))) = .rop (.rop c :: (u8s h ++ u8s ck)) := by
  show Cell.rop ((Cell.rop c :: (u8s h ++ u8s ck)).map (cm (cin π true H) 7)) = _
  rw [List.map_cons, hc, mapc_append, mapc_cm]
set_option maxHeartbeats 1600000 in
/-- (*cipher.State).MixKey -/
theorem mixkey_0 (h ck : List UInt8) (hh : h.length = 32) (hk : ck.length = 32) (n : UInt64) (b : List UInt8) (a : Nat) (hb : b.length = a) (ha : a ≤ 10000) : Good Try.prog 23 [.c (.ptr 0 0), .c (.ro a (u8s b))] [some (sC (.ptr 1 0) h ck), some (cC .nilp n)] (.t []) [some (sC (.ptr 3 0) h (h3x ck b)), some (cC .nilp n), some (u8s (h3y ck b)), some (cC (.ptr 2 0) 0)] := by
  have hL : (sC (.ptr 1 0) h ck).length = 65 := sC_len hh hk
  have g1 := two_ ck b a hk hb ha
  obtain ⟨X, hX⟩ : ∃ z, h3x ck b = z := ⟨_, rfl⟩
  obtain ⟨Y, hY⟩ : ∃ z, h3y ck b = z := ⟨_, rfl⟩
  have hXl : X.length = 32 := by rw [← hX]; exact h3x_len _ _
  have hYl : Y.length = 32 := by rw [← hY]; exact h3y_len _ _
  rw [hX, hY] at g1 ⊢
  refine good_frm 26 Try.func23 rfl rfl rfl rfl rfl rfl ?_
  refine awp_seq ?_
  refine rln ?_
  refine Mv ?_
  refine G2 (fun _ k_ => q_callp (is_ _ _) k_ (ha := (cac (et rfl) (sees_st rfl rfl (sees_nk rfl rfl)) ca0))) ?_
  refine gend ?_
  refine cndbY (fun hc1 => ?_) ?_; rotate_left
  · exact rfl
  refine awp_seq ?_
  refine rln ?_
  refine Mv ?_
  refine G (q_ncp ?_)
  refine G (q_fap0 ?_)
  refine G (q_lda (xs := u8s ck) ?_ (hc := sC_k hh hk))
  refine Mv ?_
  refine G2 (fun _ k_ => q_callp g1 k_ (ha := (caa (et rfl) sees_m (cac (et rfl) sees_ro ca0)))) ?_
  refine G (q_mv (s := .t _) ?_)
  refine G (q_ext (y := .a _) ?_)
  refine G (q_ext (y := .a _) ?_)
  refine G2 (fun _ k_ => q_al k_) ?_
  refine G2 (fun _ k_ => q_al k_) ?_
  refine G20 (fun _ k_ => q_stw k_) ?_
  refine G20 (fun _ k_ => q_stw k_) ?_
  refine gend ?_
  refine rdln [4, 7, 10] [0, 0, 0, 0, 0, 1, 1, 1, 2, 2, 2] [1, 2, 1, 0, 1, 1, 1, 2, 2, 2, 3] ?_
  refine Dp (fun _ => q_mv (s := .v (.c _)) ⟨rfl, rfl⟩) ?_
  refine Dp (fun _ => q_mv (s := .v (.c _)) ⟨rfl, rfl⟩) ?_
  refine DLw ?_
  refine DLw ?_
  refine De2 (fun _ k_ => q_callv [] [] [some (u8s Y), some (cC (.ptr 0 0) 0)] (new_ Y hYl) k_ (ha := (caa (et rfl) sees_m ca0)) (eM := (ml1 sees_m (ml1 rfl ml0)))) ?_
  refine Dp (fun _ => q_ncp ⟨rfl, rfl⟩) ?_
  refine Dp (fun _ => q_fap0 ⟨rfl, rfl⟩) ?_
  refine De20 (fun _ k_ => q_sta k_) ?_ (hH := by simp only [List.set_cons_zero, List.cons_append, List.nil_append]; exact congrArg (fun z => some z :: _) (sC_setk hh hk hXl))
  refine Dp (fun _ => q_ncp ⟨rfl, rfl⟩) ?_
  refine Dp (fun _ => q_fap0 ⟨rfl, rfl⟩) ?_
  refine De20 (fun _ k_ => q_st k_) ?_
  refine dend ?_
  exact fx0 [0, 1, 4, 5] (hH := pl1 rfl (sC_map.trans rfl) (pl1 rfl rfl (pl1 rfl sees_m (pl1 rfl rfl pl0)))) (hn := piB rfl)
set_option maxHeartbeats 1600000 in
/-- (*cipher.State).MixKey -/
theorem mixkey_k (h ck : List UInt8) (hh : h.length = 32) (hk : ck.length = 32) (key : List UInt8) (n : UInt64) (hkey : key.length = 32) (b : List UInt8) (a : Nat) (hb : b.length = a) (ha : a ≤ 10000) : Good Try.prog 23 [.c (.ptr 0 0), .c (.ro a (u8s b))] [some (sC (.ptr 1 0) h ck), some (cC (.ptr 2 0) n), some (u8s key)] (.t []) [some (sC (.ptr 4 0) h (h3x ck b)), some (cC (.ptr 2 0) n), some (u8s key), some (u8s (h3y ck b)), some (cC (.ptr 3 0) 0)] := by
  have hL : (sC (.ptr 1 0) h ck).length = 65 := sC_len hh hk
  have g1 := two_ ck b a hk hb ha
  obtain ⟨X, hX⟩ : ∃ z, h3x ck b = z := ⟨_, rfl⟩
  obtain ⟨Y, hY⟩ : ∃ z, h3y ck b = z := ⟨_, rfl⟩
  have hXl : X.length = 32 := by rw [← hX]; exact h3x_len _ _
  have hYl : Y.length = 32 := by rw [← hY]; exact h3y_len _ _
  rw [hX, hY] at g1 ⊢
  refine good_frm 26 Try.func23 rfl rfl rfl rfl rfl rfl ?_
  refine awp_seq ?_
  refine rln ?_
  refine Mv ?_
  refine G2 (fun _ k_ => q_callp (is_ _ _) k_ (ha := (cac (et rfl) (sees_st rfl rfl (sees_key rfl rfl hkey rfl rfl)) ca0))) ?_
  refine gend ?_
  refine cndbY (fun hc1 => ?_) ?_; rotate_left
  · exact rfl
  refine awp_seq ?_
  refine rln ?_
  refine Mv ?_
  refine G (q_ncp ?_)
  refine G (q_fap0 ?_)
  refine G (q_lda (xs := u8s ck) ?_ (hc := sC_k hh hk))
  refine Mv ?_
  refine G2 (fun _ k_ => q_callp g1 k_ (ha := (caa (et rfl) sees_m (cac (et rfl) sees_ro ca0)))) ?_
  refine G (q_mv (s := .t _) ?_)
  refine G (q_ext (y := .a _) ?_)
  refine G (q_ext (y := .a _) ?_)
  refine G2 (fun _ k_ => q_al k_) ?_
  refine G2 (fun _ k_ => q_al k_) ?_
  refine G20 (fun _ k_ => q_stw k_) ?_
  refine G20 (fun _ k_ => q_stw k_) ?_
  refine gend ?_
  refine rdln [4, 7, 10] [0, 0, 0, 0, 0, 1, 1, 1, 2, 2, 2] [1, 2, 1, 0, 1, 1, 1, 2, 2, 2, 3] ?_
  refine Dp (fun _ => q_mv (s := .v (.c _)) ⟨rfl, rfl⟩) ?_
  refine Dp (fun _ => q_mv (s := .v (.c _)) ⟨rfl, rfl⟩) ?_
  refine DLw ?_
  refine DLw ?_
  refine De2 (fun _ k_ => q_callv [] [] [some (u8s Y), some (cC (.ptr 0 0) 0)] (new_ Y hYl) k_ (ha := (caa (et rfl) sees_m ca0)) (eM := (ml1 sees_m (ml1 rfl ml0)))) ?_
  refine Dp (fun _ => q_ncp ⟨rfl, rfl⟩) ?_
  refine Dp (fun _ => q_fap0 ⟨rfl, rfl⟩) ?_
  refine De20 (fun _ k_ => q_sta k_) ?_ (hH := by simp only [List.set_cons_zero, List.cons_append, List.nil_append]; exact congrArg (fun z => some z :: _) (sC_setk hh hk hXl))
  refine Dp (fun _ => q_ncp ⟨rfl, rfl⟩) ?_
  refine Dp (fun _ => q_fap0 ⟨rfl, rfl⟩) ?_
  refine De20 (fun _ k_ => q_st k_) ?_
  refine dend ?_
  exact fx0 [0, 1, 2, 5, 6] (hH := pl1 rfl (sC_map.trans rfl) (pl1 rfl rfl (pl1 rfl sees_m (pl1 rfl sees_m (pl1 rfl rfl pl0))))) (hn := piB rfl)
/-- (*cipher.State).Hash -/
theorem hash_ (c : List Cell) (h ck : List UInt8) (hh : h.length = 32) (hk : ck.length = 32) (hc : ∀ (π : List Nat) (H : Heap), cm (cin π true H) 7 (.rop c) = .rop c) : Good Try.prog 26 [.c (.rop (.rop c :: (u8s h ++ u8s ck)))] [] (sa (u8s h)) [] := by
  have hL : (sC (.rop c) h ck).length = 65 := sC_len hh hk
  refine good_frm 11 Try.func26 rfl rfl rfl rfl rfl rfl ?_
  refine awp_seq ?_
  refine rln ?_
  refine G2 (fun _ k_ => q_al k_) ?_
  refine gend ?_
  refine awp_seq ?_
  refine awp_seq ?_
  refine rln ?_
  refine Mv ?_
  refine G2 (fun _ k_ => q_callp (is_ _ _) k_ (ha := (cac (et rfl) (cm_st (hc _ _)) ca0))) ?_
  refine G (q_notb ?_)
  refine gend ?_
  refine cndbnN (fun hc1 => ?_) ?_; rotate_left
  · exact rfl
  refine awp_skip ?_
  refine awp_seq ?_
  refine rln ?_
  refine Mv ?_
  refine G (q_ncr ?_)
  refine G (q_far ?_)
  refine G (q_ldar (xs := u8s h) ?_ (hc := sC_h hh))
  refine G20 (fun _ k_ => q_stw k_) ?_
  refine gend ?_
  refine awp_ret ?_
  exact fpc (t := 23) (a := 2) (hn := (mapc_length ..).trans hh)
/-- (*cipher.State).Chain -/
theorem chain_ (c : List Cell) (h ck : List UInt8) (hh : h.length = 32) (hk : ck.length = 32) (hc : ∀ (π : List Nat) (H : Heap), cm (cin π true H) 7 (.rop c) = .rop c) : Good Try.prog 27 [.c (.rop (.rop c :: (u8s h ++ u8s ck)))] [] (sa (u8s ck)) [] := by
  have hL : (sC (.rop c) h ck).length = 65 := sC_len hh hk
  refine good_frm 11 Try.func27 rfl rfl rfl rfl rfl rfl ?_
  refine awp_seq ?_
  refine rln ?_
  refine G2 (fun _ k_ => q_al k_) ?_
  refine gend ?_
  refine awp_seq ?_
  refine awp_seq ?_
  refine rln ?_
  refine Mv ?_
  refine G2 (fun _ k_ => q_callp (is_ _ _) k_ (ha := (cac (et rfl) (cm_st (hc _ _)) ca0))) ?_
  refine G (q_notb ?_)
  refine gend ?_
  refine cndbnN (fun hc1 => ?_) ?_; rotate_left
  · exact rfl
  refine awp_skip ?_
  refine awp_seq ?_
  refine rln ?_
  refine Mv ?_
  refine G (q_ncr ?_)
  refine G (q_far ?_)
  refine G (q_ldar (xs := u8s ck) ?_ (hc := sC_k hh hk))
  refine G20 (fun _ k_ => q_stw k_) ?_
  refine gend ?_
  refine awp_ret ?_
  exact fpc (t := 23) (a := 2) (hn := (mapc_length ..).trans hk)
/-- The reference cipher's cells. -/
abbrev rC (b : Bool) (key : List UInt8) (n : UInt64) : List Cell := .bool b :: (u8s key ++ [c64 n])
end Go.Proofs.Ytlnepajgnckolaa

/- What functions of the program do, walked over the abstract machine. -/
namespace Go.Proofs.Ytlnepajgnckolaa
open Go Go.Abs Go.Proofs Go.Proofs.Ytlnepajgnckolaa.Ch Go.Proofs.Ytlnepajgnckolaa.Po Go.Proofs.Ytlnepajgnckolaa.Ae Go.Proofs.Ytlnepajgnckolaa.Bl

set_option maxRecDepth 20000
abbrev W32 : TI := ⟨34, 48, some ([.bool false] ++ u8s (List.replicate 32 0) ++ [c64 0]), .struct [(0, 4), (1, 23), (33, 30)], true⟩
theorem w32 : tiOf Try.prog 32 = some W32 := by kernel_rfl
instance : TiOf Try.prog 32 W32 := ⟨w32⟩
instance : ZT Try.prog 32 W32 ([.bool false] ++ u8s (List.replicate 32 0) ++ [c64 0]) := ⟨w32, rfl⟩
instance : StT Try.prog 32 W32 [(0, 4), (1, 23), (33, 30)] := ⟨w32, rfl⟩
instance : FdT Try.prog 32 0 W32 [(0, 4), (1, 23), (33, 30)] 0 4 T4 1 := ⟨w32, rfl, rfl, y4, rfl⟩
instance : FdT Try.prog 32 1 W32 [(0, 4), (1, 23), (33, 30)] 1 23 T23 32 := ⟨w32, rfl, rfl, y23, rfl⟩
instance : FdT Try.prog 32 2 W32 [(0, 4), (1, 23), (33, 30)] 33 30 T30 1 := ⟨w32, rfl, rfl, y30, rfl⟩
end Go.Proofs.Ytlnepajgnckolaa

/- What functions of the program do, walked over the abstract machine. -/
namespace Go.Proofs.Ytlnepajgnckolaa
open Go Go.Abs Go.Proofs Go.Proofs.Ytlnepajgnckolaa.Ch Go.Proofs.Ytlnepajgnckolaa.Po Go.Proofs.Ytlnepajgnckolaa.Ae Go.Proofs.Ytlnepajgnckolaa.Bl

set_option maxRecDepth 20000
end Go.Proofs.Ytlnepajgnckolaa

/- What functions of the program do, walked over the abstract machine. -/
namespace Go.Proofs.Ytlnepajgnckolaa
open Go Go.Abs Go.Proofs Go.Proofs.Ytlnepajgnckolaa.Ch Go.Proofs.Ytlnepajgnckolaa.Po Go.Proofs.Ytlnepajgnckolaa.Ae Go.Proofs.Ytlnepajgnckolaa.Bl

set_option maxRecDepth 20000
set_option maxHeartbeats 1600000 in
/-- (*cipher.State).Seal -/
theorem sseal_k (h ck key l : List UInt8) (n : UInt64) (k : Nat) (hh : h.length = 32) (hk : ck.length = 32) (hkey : key.length = 32) (hl : l.length = k) (hk9 : k ≤ 9000) (hn : n ≠ 18446744073709551615) : Good Try.prog 24 [.c (.ptr 0 0), .c (.ro k (u8s l))] [some (sC (.ptr 1 0) h ck), some (cC (.ptr 2 0) n), some (u8s key)] (.t [.c (.slc 3 0 (k + 16) 1), .c (cn 0)]) [some (sC (.ptr 1 0) (bsum (h ++ aseal key (anonce n) h l)) ck), some (cC (.ptr 2 0) (n + 1)), some (u8s key), some (u8s (aseal key (anonce n) h l))] := by
  have hL : (sC (.ptr 1 0) h ck).length = 65 := sC_len hh hk
  have g1 := cseal_ok key h l n 32 k hkey hh (by decide) hl (by omega) hn
  have hSl := aseal_len key (anonce n) h l
  obtain ⟨S, hS⟩ : ∃ z, aseal key (anonce n) h l = z := ⟨_, rfl⟩
  rw [hS] at hSl g1 ⊢
  rw [hl] at hSl
  have gm := mixhash_k h ck hh hk key (n + 1) hkey S (k + 16) hSl (by omega)
  obtain ⟨B, hB⟩ : ∃ z, bsum (h ++ S) = z := ⟨_, rfl⟩
  rw [hB] at gm ⊢
  refine good_frm 31 Try.func24 rfl rfl rfl rfl rfl rfl ?_
  refine awp_seq ?_
  refine rln ?_
  refine As ?_
  refine G (q_as (s := sc (cn 0)) ?_)
  refine gend ?_
  refine awp_seq ?_
  refine awp_seq ?_
  refine rln ?_
  refine Mv ?_
  refine G2 (fun _ k_ => q_callp (is_ _ _) k_ (ha := (cac (et rfl) (sees_st rfl rfl (sees_key rfl rfl hkey rfl rfl)) ca0))) ?_
  refine G (q_notb ?_)
  refine gend ?_
  refine cndbnN (fun hc1 => ?_) ?_; rotate_left
  · exact rfl
  refine awp_skip ?_
  refine awp_seq ?_
  refine rdln [9] [0, 0, 0, 0, 0, 0, 0, 0, 0, 0, 1, 1, 1, 1, 1] [0, 0, 0, 0, 0, 0, 0, 0, 0, 1, 1, 1, 1, 1, 1] ?_
  refine Dp (fun _ => q_mv (s := .v (.c _)) ⟨rfl, rfl⟩) ?_
  refine Dp (fun _ => q_ncp ⟨rfl, rfl⟩) ?_
  refine Dp (fun _ => q_fap0 ⟨rfl, rfl⟩) ?_
  refine DLp ?_
  refine Dp (fun _ => q_mv (s := .v (.c _)) ⟨rfl, rfl⟩) ?_
  refine Dp (fun _ => q_ncp ⟨rfl, rfl⟩) ?_
  refine Dp (fun _ => q_fap0 ⟨rfl, rfl⟩) ?_
  refine DSp 0 rfl (fun _ hv => q_slp_no ⟨rfl, rfl⟩ (hp := hv)) ?_
  refine Dp (fun _ => q_mv (s := .v (.c _)) ⟨rfl, rfl⟩) ?_
  refine De2 (fun _ k_ => q_callv [1, 2] [some (cC (.ptr 1 0) (n + 1)), some (u8s key)] [some (u8s S)] g1 k_ (ha := (cac (et rfl) rfl (cac (et rfl) (sees_slc rfl rfl (sC_h hh)) (cac (et rfl) sees_ro ca0)))) (eL := (ml1 rfl (ml1 sees_m ml0))) (eM := (ml1 sees_m ml0))) ?_
  refine Dp (fun _ => q_mv (s := .t _) ⟨rfl, rfl⟩) ?_
  refine Dp (fun _ => q_ext (y := .c _) ⟨rfl, rfl⟩) ?_
  refine Dp (fun _ => q_ext (y := .c _) ⟨rfl, rfl⟩) ?_
  refine Dp (fun _ => q_as (s := .v (.c _)) ⟨rfl, rfl⟩) ?_
  refine Dp (fun _ => q_as (s := .v (.c _)) ⟨rfl, rfl⟩) ?_
  refine dend ?_
  refine awp_seq ?_
  refine awp_seq ?_
  refine rln ?_
  refine Mv ?_
  refine G (q_eqln (y := 0) ?_)
  refine gend ?_
  refine cndY (fun hc2 => ?_) ?_; rotate_left
  · exact rfl
  refine rln ?_
  refine Mv ?_
  refine Mv ?_
  refine G2 (fun _ k_ => q_callv [0, 1, 2] [some (sC (.ptr 1 0) B ck), some (cC (.ptr 2 0) (n + 1)), some (u8s key)] [] gm k_ (ha := (cac (et rfl) rfl (cac (et rfl) (sees_slc rfl rfl (cut_h hSl)) ca0))) (eL := (ml1 (sC_map.trans rfl) (ml1 rfl (ml1 sees_m ml0)))) (eM := ml0) (e2 := pl1 rfl (sC_map.trans rfl) (pl1 rfl rfl (pl1 rfl sees_m pl0)))) ?_
  refine gend ?_
  refine awp_seq ?_
  refine rln ?_
  refine Mv ?_
  refine Mv ?_
  refine As ?_
  refine As ?_
  refine gend ?_
  refine awp_ret ?_
  exact fx2 [0, 1, 2, 3] (hm0 := rfl) (hH := pl1 rfl (sC_map.trans rfl) (pl1 rfl rfl (pl1 rfl sees_m (pl1 rfl sees_m pl0)))) (hn := piB rfl)
set_option maxHeartbeats 1600000 in
/-- (*cipher.State).Open -/
theorem sopen_k (h ck key l p : List UInt8) (n : UInt64) (k : Nat) (hh : h.length = 32) (hk : ck.length = 32) (hkey : key.length = 32) (hl : l.length = k) (hk9 : k ≤ 9000) (hn : n ≠ 18446744073709551615) (hp : aopen key (anonce n) h l = some p) : Good Try.prog 25 [.c (.ptr 0 0), .c (.ro k (u8s l))] [some (sC (.ptr 1 0) h ck), some (cC (.ptr 2 0) n), some (u8s key)] (.t [.c (.slc 3 0 (k - 16) 1), .c (cn 0)]) [some (sC (.ptr 1 0) (bsum (h ++ l)) ck), some (cC (.ptr 2 0) (n + 1)), some (u8s key), some (u8s p)] := by
  have hL : (sC (.ptr 1 0) h ck).length = 65 := sC_len hh hk
  have g1 := copen_ok key h l n 32 k hkey hh (by decide) hl (by omega) hn p hp
  have gm := mixhash_k h ck hh hk key (n + 1) hkey l k hl (by omega)
  obtain ⟨B, hB⟩ : ∃ z, bsum (h ++ l) = z := ⟨_, rfl⟩
  rw [hB] at gm ⊢
  refine good_frm 31 Try.func25 rfl rfl rfl rfl rfl rfl ?_
  refine awp_seq ?_
  refine rln ?_
  refine As ?_
  refine G (q_as (s := sc (cn 0)) ?_)
  refine gend ?_
  refine awp_seq ?_
  refine awp_seq ?_
  refine rln ?_
  refine Mv ?_
  refine G2 (fun _ k_ => q_callp (is_ _ _) k_ (ha := (cac (et rfl) (sees_st rfl rfl (sees_key rfl rfl hkey rfl rfl)) ca0))) ?_
  refine G (q_notb ?_)
  refine gend ?_
  refine cndbnN (fun hc1 => ?_) ?_; rotate_left
  · exact rfl
  refine awp_skip ?_
  refine awp_seq ?_
  refine rdln [9] [0, 0, 0, 0, 0, 0, 0, 0, 0, 0, 1, 1, 1, 1, 1] [0, 0, 0, 0, 0, 0, 0, 0, 0, 1, 1, 1, 1, 1, 1] ?_
  refine Dp (fun _ => q_mv (s := .v (.c _)) ⟨rfl, rfl⟩) ?_
  refine Dp (fun _ => q_ncp ⟨rfl, rfl⟩) ?_
  refine Dp (fun _ => q_fap0 ⟨rfl, rfl⟩) ?_
  refine DLp ?_
  refine Dp (fun _ => q_mv (s := .v (.c _)) ⟨rfl, rfl⟩) ?_
  refine Dp (fun _ => q_ncp ⟨rfl, rfl⟩) ?_
  refine Dp (fun _ => q_fap0 ⟨rfl, rfl⟩) ?_
  refine DSp 0 rfl (fun _ hv => q_slp_no ⟨rfl, rfl⟩ (hp := hv)) ?_
  refine Dp (fun _ => q_mv (s := .v (.c _)) ⟨rfl, rfl⟩) ?_
  refine De2 (fun _ k_ => q_callv [1, 2] [some (cC (.ptr 1 0) (n + 1)), some (u8s key)] [some (u8s p)] g1 k_ (ha := (cac (et rfl) rfl (cac (et rfl) (sees_slc rfl rfl (sC_h hh)) (cac (et rfl) sees_ro ca0)))) (eL := (ml1 rfl (ml1 sees_m ml0))) (eM := (ml1 sees_m ml0))) ?_
  refine Dp (fun _ => q_mv (s := .t _) ⟨rfl, rfl⟩) ?_
  refine Dp (fun _ => q_ext (y := .c _) ⟨rfl, rfl⟩) ?_
  refine Dp (fun _ => q_ext (y := .c _) ⟨rfl, rfl⟩) ?_
  refine Dp (fun _ => q_as (s := .v (.c _)) ⟨rfl, rfl⟩) ?_
  refine Dp (fun _ => q_as (s := .v (.c _)) ⟨rfl, rfl⟩) ?_
  refine dend ?_
  refine awp_seq ?_
  refine awp_seq ?_
  refine rln ?_
  refine Mv ?_
  refine G (q_eqln (y := 0) ?_)
  refine gend ?_
  refine cndY (fun hc2 => ?_) ?_; rotate_left
  · exact rfl
  refine rln ?_
  refine Mv ?_
  refine Mv ?_
  refine G2 (fun _ k_ => q_callv [0, 1, 2] [some (sC (.ptr 1 0) B ck), some (cC (.ptr 2 0) (n + 1)), some (u8s key)] [] gm k_ (ha := (cac (et rfl) rfl (cac (et rfl) sees_ro ca0))) (eL := (ml1 (sC_map.trans rfl) (ml1 rfl (ml1 sees_m ml0)))) (eM := ml0) (e2 := pl1 rfl (sC_map.trans rfl) (pl1 rfl rfl (pl1 rfl sees_m pl0)))) ?_
  refine gend ?_
  refine awp_seq ?_
  refine rln ?_
  refine Mv ?_
  refine Mv ?_
  refine As ?_
  refine As ?_
  refine gend ?_
  refine awp_ret ?_
  exact fx2 [0, 1, 2, 3] (hm0 := rfl) (hH := pl1 rfl (sC_map.trans rfl) (pl1 rfl rfl (pl1 rfl sees_m (pl1 rfl sees_m pl0)))) (hn := piB rfl)
set_option maxHeartbeats 1600000 in
/-- (*cipher.State).Seal -/
theorem sseal_0 (h ck l : List UInt8) (n : UInt64) (k : Nat) (hh : h.length = 32) (hk : ck.length = 32) (hl : l.length = k) (hk9 : k ≤ 9000) : Good Try.prog 24 [.c (.ptr 0 0), .c (.ro k (u8s l))] [some (sC (.ptr 1 0) h ck), some (cC .nilp n)] (.t [.c (.slc 2 0 k 1), .c (cn 0)]) [some (sC (.ptr 1 0) (bsum (h ++ l)) ck), some (cC .nilp n), some (u8s l)] := by
  have hL : (sC (.ptr 1 0) h ck).length = 65 := sC_len hh hk
  have g1 := cseal_0 h l n 32 k hl (by omega)
  have gm := mixhash_0 h ck hh hk n l k hl (by omega)
  obtain ⟨B, hB⟩ : ∃ z, bsum (h ++ l) = z := ⟨_, rfl⟩
  rw [hB] at gm ⊢
  refine good_frm 31 Try.func24 rfl rfl rfl rfl rfl rfl ?_
  refine awp_seq ?_
  refine rln ?_
  refine As ?_
  refine G (q_as (s := sc (cn 0)) ?_)
  refine gend ?_
  refine awp_seq ?_
  refine awp_seq ?_
  refine rln ?_
  refine Mv ?_
  refine G2 (fun _ k_ => q_callp (is_ _ _) k_ (ha := (cac (et rfl) (sees_st rfl rfl (sees_nk rfl rfl)) ca0))) ?_
  refine G (q_notb ?_)
  refine gend ?_
  refine cndbnN (fun hc1 => ?_) ?_; rotate_left
  · exact rfl
  refine awp_skip ?_
  refine awp_seq ?_
  refine rdln [9] [0, 0, 0, 0, 0, 0, 0, 0, 0, 0, 1, 1, 1, 1, 1] [0, 0, 0, 0, 0, 0, 0, 0, 0, 1, 1, 1, 1, 1, 1] ?_
  refine Dp (fun _ => q_mv (s := .v (.c _)) ⟨rfl, rfl⟩) ?_
  refine Dp (fun _ => q_ncp ⟨rfl, rfl⟩) ?_
  refine Dp (fun _ => q_fap0 ⟨rfl, rfl⟩) ?_
  refine DLp ?_
  refine Dp (fun _ => q_mv (s := .v (.c _)) ⟨rfl, rfl⟩) ?_
  refine Dp (fun _ => q_ncp ⟨rfl, rfl⟩) ?_
  refine Dp (fun _ => q_fap0 ⟨rfl, rfl⟩) ?_
  refine DSp 0 rfl (fun _ hv => q_slp_no ⟨rfl, rfl⟩ (hp := hv)) ?_
  refine Dp (fun _ => q_mv (s := .v (.c _)) ⟨rfl, rfl⟩) ?_
  refine De2 (fun _ k_ => q_callv [1] [some (cC .nilp n)] [some (u8s l)] g1 k_ (ha := (cac (et rfl) rfl (cac (et rfl) (sees_slc rfl rfl (sC_h hh)) (cac (et rfl) sees_ro ca0)))) (eL := (ml1 rfl ml0)) (eM := (ml1 sees_m ml0))) ?_
  refine Dp (fun _ => q_mv (s := .t _) ⟨rfl, rfl⟩) ?_
  refine Dp (fun _ => q_ext (y := .c _) ⟨rfl, rfl⟩) ?_
  refine Dp (fun _ => q_ext (y := .c _) ⟨rfl, rfl⟩) ?_
  refine Dp (fun _ => q_as (s := .v (.c _)) ⟨rfl, rfl⟩) ?_
  refine Dp (fun _ => q_as (s := .v (.c _)) ⟨rfl, rfl⟩) ?_
  refine dend ?_
  refine awp_seq ?_
  refine awp_seq ?_
  refine rln ?_
  refine Mv ?_
  refine G (q_eqln (y := 0) ?_)
  refine gend ?_
  refine cndY (fun hc2 => ?_) ?_; rotate_left
  · exact rfl
  refine rln ?_
  refine Mv ?_
  refine Mv ?_
  refine G2 (fun _ k_ => q_callv [0, 1] [some (sC (.ptr 1 0) B ck), some (cC .nilp n)] [] gm k_ (ha := (cac (et rfl) rfl (cac (et rfl) (sees_slc rfl rfl (cut_h hl)) ca0))) (eL := (ml1 (sC_map.trans rfl) (ml1 rfl ml0))) (eM := ml0) (e2 := pl1 rfl (sC_map.trans rfl) (pl1 rfl rfl pl0))) ?_
  refine gend ?_
  refine awp_seq ?_
  refine rln ?_
  refine Mv ?_
  refine Mv ?_
  refine As ?_
  refine As ?_
  refine gend ?_
  refine awp_ret ?_
  exact fx2 [0, 1, 2] (hm0 := rfl) (hH := pl1 rfl (sC_map.trans rfl) (pl1 rfl rfl (pl1 rfl sees_m pl0))) (hn := piB rfl)
set_option maxHeartbeats 1600000 in
/-- (*cipher.State).Open -/
theorem sopen_0 (h ck l : List UInt8) (n : UInt64) (k : Nat) (hh : h.length = 32) (hk : ck.length = 32) (hl : l.length = k) (hk9 : k ≤ 9000) : Good Try.prog 25 [.c (.ptr 0 0), .c (.ro k (u8s l))] [some (sC (.ptr 1 0) h ck), some (cC .nilp n)] (.t [.c (.slc 2 0 k 1), .c (cn 0)]) [some (sC (.ptr 1 0) (bsum (h ++ l)) ck), some (cC .nilp n), some (u8s l)] := by
  have hL : (sC (.ptr 1 0) h ck).length = 65 := sC_len hh hk
  have g1 := copen_0 h l n 32 k hl (by omega)
  have gm := mixhash_0 h ck hh hk n l k hl (by omega)
  obtain ⟨B, hB⟩ : ∃ z, bsum (h ++ l) = z := ⟨_, rfl⟩
  rw [hB] at gm ⊢
  refine good_frm 31 Try.func25 rfl rfl rfl rfl rfl rfl ?_
  refine awp_seq ?_
  refine rln ?_
  refine As ?_
  refine G (q_as (s := sc (cn 0)) ?_)
  refine gend ?_
  refine awp_seq ?_
  refine awp_seq ?_
  refine rln ?_
  refine Mv ?_
  refine G2 (fun _ k_ => q_callp (is_ _ _) k_ (ha := (cac (et rfl) (sees_st rfl rfl (sees_nk rfl rfl)) ca0))) ?_
  refine G (q_notb ?_)
  refine gend ?_
  refine cndbnN (fun hc1 => ?_) ?_; rotate_left
  · exact rfl
  refine awp_skip ?_
  refine awp_seq ?_
  refine rdln [9] [0, 0, 0, 0, 0, 0, 0, 0, 0, 0, 1, 1, 1, 1, 1] [0, 0, 0, 0, 0, 0, 0, 0, 0, 1, 1, 1, 1, 1, 1] ?_
  refine Dp (fun _ => q_mv (s := .v (.c _)) ⟨rfl, rfl⟩) ?_
  refine Dp (fun _ => q_ncp ⟨rfl, rfl⟩) ?_
  refine Dp (fun _ => q_fap0 ⟨rfl, rfl⟩) ?_
  refine DLp ?_
  refine Dp (fun _ => q_mv (s := .v (.c _)) ⟨rfl, rfl⟩) ?_
  refine Dp (fun _ => q_ncp ⟨rfl, rfl⟩) ?_
  refine Dp (fun _ => q_fap0 ⟨rfl, rfl⟩) ?_
  refine DSp 0 rfl (fun _ hv => q_slp_no ⟨rfl, rfl⟩ (hp := hv)) ?_
  refine Dp (fun _ => q_mv (s := .v (.c _)) ⟨rfl, rfl⟩) ?_
  refine De2 (fun _ k_ => q_callv [1] [some (cC .nilp n)] [some (u8s l)] g1 k_ (ha := (cac (et rfl) rfl (cac (et rfl) (sees_slc rfl rfl (sC_h hh)) (cac (et rfl) sees_ro ca0)))) (eL := (ml1 rfl ml0)) (eM := (ml1 sees_m ml0))) ?_
  refine Dp (fun _ => q_mv (s := .t _) ⟨rfl, rfl⟩) ?_
  refine Dp (fun _ => q_ext (y := .c _) ⟨rfl, rfl⟩) ?_
  refine Dp (fun _ => q_ext (y := .c _) ⟨rfl, rfl⟩) ?_
  refine Dp (fun _ => q_as (s := .v (.c _)) ⟨rfl, rfl⟩) ?_
  refine Dp (fun _ => q_as (s := .v (.c _)) ⟨rfl, rfl⟩) ?_
  refine dend ?_
  refine awp_seq ?_
  refine awp_seq ?_
  refine rln ?_
  refine Mv ?_
  refine G (q_eqln (y := 0) ?_)
  refine gend ?_
  refine cndY (fun hc2 => ?_) ?_; rotate_left
  · exact rfl
  refine rln ?_
  refine Mv ?_
  refine Mv ?_
  refine G2 (fun _ k_ => q_callv [0, 1] [some (sC (.ptr 1 0) B ck), some (cC .nilp n)] [] gm k_ (ha := (cac (et rfl) rfl (cac (et rfl) sees_ro ca0))) (eL := (ml1 (sC_map.trans rfl) (ml1 rfl ml0))) (eM := ml0) (e2 := pl1 rfl (sC_map.trans rfl) (pl1 rfl rfl pl0))) ?_
  refine gend ?_
  refine awp_seq ?_
  refine rln ?_
  refine Mv ?_
  refine Mv ?_
  refine As ?_
  refine As ?_
  refine gend ?_
  refine awp_ret ?_
  exact fx2 [0, 1, 2] (hm0 := rfl) (hH := pl1 rfl (sC_map.trans rfl) (pl1 rfl rfl (pl1 rfl sees_m pl0))) (hn := piB rfl)
set_option maxHeartbeats 1600000 in
/-- (*cipher.State).Split -/
theorem split_0 (h ck : List UInt8) (hh : h.length = 32) (hk : ck.length = 32) (n : UInt64) : Good Try.prog 28 [.c (.ptr 0 0)] [some (sC (.ptr 1 0) h ck), some (cC .nilp n)] (.t [.c (.ptr 3 0), .c (.ptr 5 0)]) [some (sC (.ptr 1 0) h ck), some (cC .nilp n), some (u8s (h3x ck [])), some (cC (.ptr 2 0) 0), some (u8s (h3y ck [])), some (cC (.ptr 4 0) 0)] := by
  have hL : (sC (.ptr 1 0) h ck).length = 65 := sC_len hh hk
  have g1 := two_ ck [] 0 hk rfl (by decide)
  obtain ⟨X, hX⟩ : ∃ z, h3x ck [] = z := ⟨_, rfl⟩
  obtain ⟨Y, hY⟩ : ∃ z, h3y ck [] = z := ⟨_, rfl⟩
  have hXl : X.length = 32 := by rw [← hX]; exact h3x_len _ _
  have hYl : Y.length = 32 := by rw [← hY]; exact h3y_len _ _
  rw [hX, hY] at g1 ⊢
  refine good_frm 21 Try.func28 rfl rfl rfl rfl rfl rfl ?_
  refine awp_seq ?_
  refine rln ?_
  refine As ?_
  refine As ?_
  refine gend ?_
  refine awp_seq ?_
  refine awp_seq ?_
  refine rln ?_
  refine Mv ?_
  refine G2 (fun _ k_ => q_callp (is_ _ _) k_ (ha := (cac (et rfl) (sees_st rfl rfl (sees_nk rfl rfl)) ca0))) ?_
  refine G (q_notb ?_)
  refine gend ?_
  refine cndbnN (fun hc1 => ?_) ?_; rotate_left
  · exact rfl
  refine awp_skip ?_
  refine awp_seq ?_
  refine rln ?_
  refine Mv ?_
  refine G (q_ncp ?_)
  refine G (q_fap0 ?_)
  refine G (q_lda (xs := u8s ck) ?_ (hc := sC_k hh hk))
  refine G2 (fun _ k_ => q_callp g1 k_ (ha := (caa (et rfl) sees_m (cac rfl sees_nil8 ca0)))) ?_
  refine G (q_mv (s := .t _) ?_)
  refine G (q_ext (y := .a _) ?_)
  refine G (q_ext (y := .a _) ?_)
  refine G2 (fun _ k_ => q_al k_) ?_
  refine G2 (fun _ k_ => q_al k_) ?_
  refine G20 (fun _ k_ => q_stw k_) ?_
  refine G20 (fun _ k_ => q_stw k_) ?_
  refine gend ?_
  refine awp_seq ?_
  refine rdln [1, 3] [0, 0, 0, 1, 2, 2] [0, 1, 1, 2, 2, 2] ?_
  refine DLw ?_
  refine De2 (fun _ k_ => q_callv [] [] [some (u8s X), some (cC (.ptr 0 0) 0)] (new_ X hXl) k_ (ha := (caa (et rfl) sees_m ca0)) (eL := ml0) (eM := (ml1 sees_m (ml1 rfl ml0)))) ?_
  refine DLw ?_
  refine De2 (fun _ k_ => q_callv [] [] [some (u8s Y), some (cC (.ptr 0 0) 0)] (new_ Y hYl) k_ (ha := (caa (et rfl) sees_m ca0)) (eL := ml0) (eM := (ml1 sees_m (ml1 rfl ml0)))) ?_
  refine Dp (fun _ => q_as (s := .v (.c _)) ⟨rfl, rfl⟩) ?_
  refine Dp (fun _ => q_as (s := .v (.c _)) ⟨rfl, rfl⟩) ?_
  refine dend ?_
  refine awp_ret ?_
  exact fx2 [0, 1, 4, 5, 6, 7] (hm0 := rfl) (hm1 := rfl) (hH := pl1 rfl (sC_map.trans rfl) (pl1 rfl rfl (pl1 rfl sees_m (pl1 rfl rfl (pl1 rfl sees_m (pl1 rfl rfl pl0)))))) (hn := piB rfl)
set_option maxHeartbeats 1600000 in
/-- (*cipher.State).Split -/
theorem split_k (h ck : List UInt8) (hh : h.length = 32) (hk : ck.length = 32) (key : List UInt8) (n : UInt64) (hkey : key.length = 32) : Good Try.prog 28 [.c (.ptr 0 0)] [some (sC (.ptr 1 0) h ck), some (cC (.ptr 2 0) n), some (u8s key)] (.t [.c (.ptr 4 0), .c (.ptr 6 0)]) [some (sC (.ptr 1 0) h ck), some (cC (.ptr 2 0) n), some (u8s key), some (u8s (h3x ck [])), some (cC (.ptr 3 0) 0), some (u8s (h3y ck [])), some (cC (.ptr 5 0) 0)] := by
  have hL : (sC (.ptr 1 0) h ck).length = 65 := sC_len hh hk
  have g1 := two_ ck [] 0 hk rfl (by decide)
  obtain ⟨X, hX⟩ : ∃ z, h3x ck [] = z := ⟨_, rfl⟩
  obtain ⟨Y, hY⟩ : ∃ z, h3y ck [] = z := ⟨_, rfl⟩
  have hXl : X.length = 32 := by rw [← hX]; exact h3x_len _ _
  have hYl : Y.length = 32 := by rw [← hY]; exact h3y_len _ _
  rw [hX, hY] at g1 ⊢
  refine good_frm 21 Try.func28 rfl rfl rfl rfl rfl rfl ?_
  refine awp_seq ?_
  refine rln ?_
  refine As ?_
  refine As ?_
  refine gend ?_
  refine awp_seq ?_
  refine awp_seq ?_
  refine rln ?_
  refine Mv ?_
  refine G2 (fun _ k_ => q_callp (is_ _ _) k_ (ha := (cac (et rfl) (sees_st rfl rfl (sees_key rfl rfl hkey rfl rfl)) ca0))) ?_
  refine G (q_notb ?_)
  refine gend ?_
  refine cndbnN (fun hc1 => ?_) ?_; rotate_left
  · exact rfl
  refine awp_skip ?_
  refine awp_seq ?_
  refine rln ?_
  refine Mv ?_
  refine G (q_ncp ?_)
  refine G (q_fap0 ?_)
  refine G (q_lda (xs := u8s ck) ?_ (hc := sC_k hh hk))
  refine G2 (fun _ k_ => q_callp g1 k_ (ha := (caa (et rfl) sees_m (cac rfl sees_nil8 ca0)))) ?_
  refine G (q_mv (s := .t _) ?_)
  refine G (q_ext (y := .a _) ?_)
  refine G (q_ext (y := .a _) ?_)
  refine G2 (fun _ k_ => q_al k_) ?_
  refine G2 (fun _ k_ => q_al k_) ?_
  refine G20 (fun _ k_ => q_stw k_) ?_
  refine G20 (fun _ k_ => q_stw k_) ?_
  refine gend ?_
  refine awp_seq ?_
  refine rdln [1, 3] [0, 0, 0, 1, 2, 2] [0, 1, 1, 2, 2, 2] ?_
  refine DLw ?_
  refine De2 (fun _ k_ => q_callv [] [] [some (u8s X), some (cC (.ptr 0 0) 0)] (new_ X hXl) k_ (ha := (caa (et rfl) sees_m ca0)) (eL := ml0) (eM := (ml1 sees_m (ml1 rfl ml0)))) ?_
  refine DLw ?_
  refine De2 (fun _ k_ => q_callv [] [] [some (u8s Y), some (cC (.ptr 0 0) 0)] (new_ Y hYl) k_ (ha := (caa (et rfl) sees_m ca0)) (eL := ml0) (eM := (ml1 sees_m (ml1 rfl ml0)))) ?_
  refine Dp (fun _ => q_as (s := .v (.c _)) ⟨rfl, rfl⟩) ?_
  refine Dp (fun _ => q_as (s := .v (.c _)) ⟨rfl, rfl⟩) ?_
  refine dend ?_
  refine awp_ret ?_
  exact fx2 [0, 1, 2, 5, 6, 7, 8] (hm0 := rfl) (hm1 := rfl) (hH := pl1 rfl (sC_map.trans rfl) (pl1 rfl rfl (pl1 rfl sees_m (pl1 rfl sees_m (pl1 rfl rfl (pl1 rfl sees_m (pl1 rfl rfl pl0))))))) (hn := piB rfl)
theorem zs_h {cp : Cell} {h : List UInt8} (hh : h.length = 32) : splice (cp :: u8s (List.replicate 64 0)) 1 (u8s h) = sC cp h (List.replicate 32 0) :=
  (congrArg (fun z => splice z 1 (u8s h)) (show (cp :: u8s (List.replicate 64 0)) = sC cp (List.replicate 32 0) (List.replicate 32 0) from rfl)).trans (sC_seth rfl hh)
/-- cipher.Begin -/
theorem begin_l (s : ByteArray) (h : ¬ s.size ≤ 32) (h9 : s.size ≤ 10000) : Good Try.prog 21 [.c (.str s)] [] (sc (.ptr 1 0)) [some (cC .nilp 0), some (sC (.ptr 0 0) (bsum s.data.toList) (bsum s.data.toList))] := by
  have hs : s.data.toList.length = s.size := rfl
  have g1 := sum_ [s.data.toList] 1 rfl (by decide) (by simp; omega)
  rw [show ([s.data.toList] : List (List UInt8)).flatten = s.data.toList by simp] at g1
  obtain ⟨B, hB⟩ : ∃ z, bsum s.data.toList = z := ⟨_, rfl⟩
  have hBl : B.length = 32 := by rw [← hB]; exact bsum_len _
  rw [hB] at g1 ⊢
  have hL := sC_len (cp := .ptr 0 0) hBl (show (List.replicate 32 (0 : UInt8)).length = 32 from rfl)
  refine good_frm 31 Try.func21 rfl rfl rfl rfl rfl rfl ?_
  refine awp_seq ?_
  refine rln ?_
  refine As ?_
  refine gend ?_
  refine awp_seq ?_
  refine rln ?_
  refine G2 (fun _ k_ => q_calln none_ k_ (ha := ca0)) ?_
  refine G (q_bls (fkc rfl (et rfl) rfl (Nat.le_of_ble_eq_true rfl) (fk0 ?_)))
  refine G2 (fun _ k_ => q_boxa k_) ?_
  refine As ?_
  refine gend ?_
  refine awp_seq ?_
  refine awp_seq ?_
  refine rln ?_
  refine Mv ?_
  refine G (q_lens ?_)
  refine G (q_leqn (y := 32) ?_)
  refine gend ?_
  refine cndN (fun hc1 => ?_) ?_; rotate_left
  · exact h
  refine rln ?_
  refine Mv ?_
  refine Mv ?_
  refine G2 (fun _ k_ => q_ctb k_) ?_
  refine G2 (fun _ k_ => q_bsl (fkc rfl (et rfl) rfl (Nat.le_of_ble_eq_true rfl) (fk0 k_))) ?_
  refine G2 (fun _ k_ => q_callp g1 k_ (ha := (cac (et rfl) (sees_parts rfl rfl (pq_slc rfl rfl (cut_h hs) hs pq0)) ca0))) ?_
  refine G (q_ncp ?_)
  refine G (q_fap0 ?_)
  refine G20 (fun _ k_ => q_sta  k_) ?_ (hH := by simp only [List.set_cons_zero, List.set_cons_succ, List.cons_append, List.nil_append]; exact congrArg (fun z => some (cC .nilp 0) :: some z :: _) (zs_h hBl))
  refine gend ?_
  refine awp_seq ?_
  refine rln ?_
  refine Mv ?_
  refine Mv ?_
  refine G (q_ncp ?_)
  refine G (q_fap0 ?_)
  refine G (q_lda (xs := u8s B) ?_ (hc := sC_h hBl))
  refine G (q_ncp ?_)
  refine G (q_fap0 ?_)
  refine G20 (fun _ k_ => q_sta k_) ?_ (hH := by simp only [List.set_cons_zero, List.set_cons_succ, List.cons_append, List.nil_append]; exact congrArg (fun z => some (cC .nilp 0) :: some z :: _) (sC_setk hBl rfl hBl))
  refine gend ?_
  refine awp_seq ?_
  refine rln ?_
  refine Mv ?_
  refine As ?_
  refine gend ?_
  refine awp_ret ?_
  exact fx1 [0, 1] (hm0 := rfl) (hH := pl1 rfl rfl (pl1 rfl (sC_map.trans rfl) pl0))
set_option maxHeartbeats 1600000 in
/-- (*cipher.State).Open -/
theorem sopen_bad (h ck key l : List UInt8) (n : UInt64) (k : Nat) (hh : h.length = 32) (hk : ck.length = 32) (hkey : key.length = 32) (hl : l.length = k) (hk9 : k ≤ 9000) (hn : n ≠ 18446744073709551615) (hp : aopen key (anonce n) h l = none) : Good Try.prog 25 [.c (.ptr 0 0), .c (.ro k (u8s l))] [some (sC (.ptr 1 0) h ck), some (cC (.ptr 2 0) n), some (u8s key)] (.t [.c .nils, .c (cn 8)]) [some (sC (.ptr 1 0) h ck), some (cC (.ptr 2 0) n), some (u8s key)] := by
  have hL : (sC (.ptr 1 0) h ck).length = 65 := sC_len hh hk
  have g1 := copen_bad key h l n 32 k hkey hh (by decide) hl (by omega) hn hp
  refine good_frm 31 Try.func25 rfl rfl rfl rfl rfl rfl ?_
  refine awp_seq ?_
  refine rln ?_
  refine As ?_
  refine G (q_as (s := sc (cn 0)) ?_)
  refine gend ?_
  refine awp_seq ?_
  refine awp_seq ?_
  refine rln ?_
  refine Mv ?_
  refine G2 (fun _ k_ => q_callp (is_ _ _) k_ (ha := (cac (et rfl) (sees_st rfl rfl (sees_key rfl rfl hkey rfl rfl)) ca0))) ?_
  refine G (q_notb ?_)
  refine gend ?_
  refine cndbnN (fun hc1 => ?_) ?_; rotate_left
  · exact rfl
  refine awp_skip ?_
  refine awp_seq ?_
  refine rdln [9] [0, 0, 0, 0, 0, 0, 0, 0, 0, 0, 1, 1, 1, 1, 1] [0, 0, 0, 0, 0, 0, 0, 0, 0, 1, 1, 1, 1, 1, 1] ?_
  refine Dp (fun _ => q_mv (s := .v (.c _)) ⟨rfl, rfl⟩) ?_
  refine Dp (fun _ => q_ncp ⟨rfl, rfl⟩) ?_
  refine Dp (fun _ => q_fap0 ⟨rfl, rfl⟩) ?_
  refine DLp ?_
  refine Dp (fun _ => q_mv (s := .v (.c _)) ⟨rfl, rfl⟩) ?_
  refine Dp (fun _ => q_ncp ⟨rfl, rfl⟩) ?_
  refine Dp (fun _ => q_fap0 ⟨rfl, rfl⟩) ?_
  refine DSp 0 rfl (fun _ hv => q_slp_no ⟨rfl, rfl⟩ (hp := hv)) ?_
  refine Dp (fun _ => q_mv (s := .v (.c _)) ⟨rfl, rfl⟩) ?_
  refine De2 (fun _ k_ => q_callv [1, 2] [some (cC (.ptr 1 0) n), some (u8s key)] [] g1 k_ (ha := (cac (et rfl) rfl (cac (et rfl) (sees_slc rfl rfl (sC_h hh)) (cac (et rfl) sees_ro ca0)))) (eL := (ml1 rfl (ml1 sees_m ml0))) (eM := ml0)) ?_
  refine Dp (fun _ => q_mv (s := .t _) ⟨rfl, rfl⟩) ?_
  refine Dp (fun _ => q_ext (y := .c _) ⟨rfl, rfl⟩) ?_
  refine Dp (fun _ => q_ext (y := .c _) ⟨rfl, rfl⟩) ?_
  refine Dp (fun _ => q_as (s := .v (.c _)) ⟨rfl, rfl⟩) ?_
  refine Dp (fun _ => q_as (s := .v (.c _)) ⟨rfl, rfl⟩) ?_
  refine dend ?_
  refine awp_seq ?_
  refine awp_seq ?_
  refine rln ?_
  refine Mv ?_
  refine G (q_eqln (y := 0) ?_)
  refine gend ?_
  refine cndN (fun hc2 => ?_) ?_; rotate_left
  · exact by decide
  refine awp_skip ?_
  refine awp_seq ?_
  refine rln ?_
  refine Mv ?_
  refine Mv ?_
  refine As ?_
  refine As ?_
  refine gend ?_
  refine awp_ret ?_
  exact fx2 [0, 1, 2] (hH := pl1 rfl (sC_map.trans rfl) (pl1 rfl rfl (pl1 rfl sees_m pl0)))
end Go.Proofs.Ytlnepajgnckolaa

/- The abstract machine: a block is told under another number, and no longer under its old one. -/
namespace Go.Abs
open Go

/-- What a slot holds is told as before, or as a slice or a pointer into the new number. -/
def SubM (p q : Nat) (al : List (Nat × S)) : List (Nat × S) → Prop
  | [] => True
  | (t, s) :: r => (lkp al t = s ∨ (∃ o n sz, lkp al t = sc (.slc p o n sz) ∧ s = sc (.slc q o n sz)) ∨ (∃ o, lkp al t = sc (.ptr p o) ∧ s = sc (.ptr q o))) ∧ SubM p q al r

end Go.Abs


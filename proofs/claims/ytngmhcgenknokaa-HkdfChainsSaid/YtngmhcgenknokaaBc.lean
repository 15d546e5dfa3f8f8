/- What functions of the program do, walked over the abstract machine. -/
import Derived.Test.YtngmhcgenknokaaBb
namespace Go.Proofs.Ytngmhcgenknokaa
open Go Go.Abs Go.Proofs

abbrev fst8 : List UInt32 := (stt 18).2
theorem fst8_len : fst8.length = 8 := stt_len 18
def sp {α : Type} (a b : List α) (q : Nat) : List α := a.take q ++ (b ++ a.drop (q + b.length))
theorem splice_cpy {α : Type} {k : IntKind} {g : α → Int} {a b : List α} {q j c d : Nat} : splice (mapc k g a) q ((((mapc k g b).drop c).take d).take j) = mapc k g (sp a (((b.drop c).take d).take j) q) := by
  simp [mapc, splice, sp]
/-- A block: bytes, and noughts behind them. -/
abbrev blk (m : List UInt8) (q k : Nat) : List UInt8 := sp (List.replicate 64 0) (((m.drop q).take (k * 1)).take (min k 64 * 1)) 0
theorem blk_len (m : List UInt8) (q k : Nat) (hk : k ≤ 64) : (blk m q k).length = 64 := by
  simp [blk, sp]
  omega
theorem slc_eq {b q q' n n' z : Nat} (h : q = q') (h' : n = n') : sc (.slc b q n z) = sc (.slc b q' n' z) := by rw [h, h']
def hac (F : List UInt32) (m : List UInt8) : Nat → List UInt32
  | 0 => F.set 0 (F.getD 0 0 ^^^ 16842784)
  | j + 1 => press (hac F m j) F (blk m (min (64 * j) m.length) (min 64 (m.length - min (64 * j) m.length))) (UInt64.ofNat (min (64 * (j + 1)) m.length))
      (decide (m.length - min (64 * j) m.length - min 64 (m.length - min (64 * j) m.length) = 0))
theorem hac_len (F : List UInt32) (m : List UInt8) (hF : F.length = 8) : ∀ j, (hac F m j).length = 8
  | 0 => by simp [hac, hF]
  | j + 1 => by rw [hac, press_len, hac_len F m hF]
def outw (h : List UInt32) : Nat → List UInt8
  | 0 => List.replicate 32 0
  | i + 1 => (outw h i).set i (shr32n (h.getD (i / 4) 0) (8 * (i % 4))).toUInt8
theorem outw_len (h : List UInt32) : ∀ i, (outw h i).length = 32
  | 0 => by simp [outw]
  | i + 1 => by rw [outw, List.length_set, outw_len]
def bsum (m : List UInt8) : List UInt8 := outw (hac fst8 m ((m.length + 63) / 64 - 1 + 1)) 32
theorem bsum_len (m : List UInt8) : (bsum m).length = 32 := outw_len _ _
set_option maxHeartbeats 1600000 in
/-- blake.Sum -/
theorem sum_ (ps : List (List UInt8)) (k : Nat) (hk : ps.length = k) (hk9 : k ≤ 100000) (hm : ps.flatten.length ≤ 100000) : Good Try.prog 15 [.c (.ro k (pcs ps))] [] (sa (u8s (bsum ps.flatten))) [] := by
  refine good_frm 72 Try.func15 rfl rfl rfl rfl rfl rfl ?_
  refine awp_seq ?_
  refine rl ?_
  refine G (q_al ?_)
  refine gend ?_
  refine awp_seq ?_
  refine rl ?_
  refine As ?_
  refine gend ?_
  refine awp_seq ?_
  refine awp_seq ?_
  refine rl ?_
  refine Mv ?_
  refine G (q_leno ?_)
  refine G (q_mv (s := sc (cn 0)) ?_)
  refine gend ?_
  refine awp_block ?_
  refine awp_loop (fun x : {s : Nat × List UInt8 × Nat // s.1 ≤ k ∧ s.2.1 = fl ps s.1 ∧ s.2.1.length = s.2.2} => ⟨frm 72 [(2, sc (.ptr 0 0)), (3, sc (.slc 1 0 x.1.2.2 1)), (13, sc (.ro k (pcs ps))), (14, sc (cn k)), (15, sc (cn x.1.1))], [some (u8s (List.replicate 32 0)), some (u8s x.1.2.1)]⟩) (fun x => k - x.1.1) ⟨(0, [], 0), Nat.zero_le _, rfl, rfl⟩ (sle_empty 1 (Nat.zero_le _) ⟨.inl rfl, .inr ⟨rfl, rfl⟩, .inl rfl, .inl rfl, .inl rfl, trivial⟩) fun x => ?_
  have h1 := x.2.1
  have h2 := x.2.2.1
  have hmn := x.2.2.2
  have hpl : (pcs ps).length = k := by simp [pcs, hk]
  refine awp_seq ?_
  refine rl ?_
  refine G (q_lssn ?_)
  refine gend ?_
  refine awp_seq ?_
  refine cnd (fun hc1 => ?_) (fun hc1 => ?_); rotate_left
  · refine awp_exit ?_
    have hik : x.1.1 = k := by omega
    have hmf : x.1.2.1 = ps.flatten := by rw [h2, fl, hik, ← hk, List.take_length]
    generalize x.1.2.1 = m at hmf hmn ⊢
    generalize x.1.2.2 = n at hmn ⊢
    have hn9 : n ≤ 100000 := by rw [← hmn, hmf]; exact hm
    have hF := fst8_len
    have gst : Good Try.prog 19 [] [] (sa (u32s fst8)) [] := start
    generalize hFe : fst8 = F at hF gst
    have hoz : ordz.length = 160 := by decide +kernel
    refine awp_seq ?_
    refine rl ?_
    refine G (q_callp (gst/- escutcheon/blake.start -/) ?_)
    refine G (q_callp (orders/- escutcheon/blake.orders -/) ?_)
    refine G (q_al ?_)
    refine G (q_al ?_)
    refine G0 (q_stw  ?_ (hl := (mapc_length ..).trans hF) (hc := (mapc_length ..).trans (List.length_replicate ..)))
    refine G0 (q_stw  ?_ (hl := (mapc_length ..).trans hoz) (hc := (mapc_length ..).trans (List.length_replicate ..)))
    refine gend ?_
    refine awp_seq ?_
    refine rl ?_
    refine G (q_ldw  ?_ (hl := (mapc_length ..).trans hF))
    refine G (q_al ?_)
    refine G0 (q_stw  ?_ (hl := (mapc_length ..).trans hF) (hc := (mapc_length ..).trans (List.length_replicate ..)))
    refine gend ?_
    refine awp_seq ?_
    refine rl ?_
    refine G (q_ixp1 ?_)
    refine G (q_ldp ?_)
    refine G (q_xor32 (y := 16842784) ?_)
    refine G (q_ixp1 ?_)
    refine G0 (q_stm ?_)
    refine gend ?_
    refine awp_seq ?_
    refine rl ?_
    refine G (q_as (s := sc (c64 0)) ?_)
    refine gend ?_
    refine awp_seq ?_
    refine awp_block ?_
    refine awp_loop (fun j : {i : Nat // i ≤ ((n + 63) / 64 - 1)} => ⟨frm 72 [(2, sc (.ptr 0 0)), (3, sc (.slc 1 (min (64 * j.1) n) (n - min (64 * j.1) n) 1)), (6, sc (.ptr 2 0)), (7, sc (.ptr 3 0)), (8, sc (.ptr 4 0)), (9, sc (c64 (UInt64.ofNat (min (64 * j.1) n))))], [some (u8s (List.replicate 32 0)), some (u8s m), some (u32s F), some (i64s ordz), some (u32s (hac F m j.1))]⟩) (fun j => ((n + 63) / 64 - 1) - j.1) ⟨0, Nat.zero_le _⟩ (sle_sub ⟨rfl, rfl, rfl, rfl, rfl, rfl, trivial⟩ rfl) fun j => ?_   -- live: [3, 6, 7, 8, 9]
    have hh := hac_len F m hF j.1
    refine awp_block ?_
    refine awp_seq ?_
    refine rl ?_
    refine Mv ?_
    refine G (q_lenc ?_)
    refine G (q_minn (x := 64) ?_)
    refine As ?_
    refine gend ?_
    refine awp_seq ?_
    refine rl ?_
    refine G (q_al ?_)
    refine gend ?_
    refine awp_mid ⟨frm 72 [(2, sc (.ptr 0 0)), (3, sc (.slc 1 (min (64 * j.1) n) (n - (min (64 * j.1) n)) 1)), (6, sc (.ptr 2 0)), (7, sc (.ptr 3 0)), (8, sc (.ptr 4 0)), (9, sc (c64 (UInt64.ofNat (min (64 * j.1) n)))), (10, sc (cn (min 64 (n - min (64 * j.1) n)))), (11, sc (.ptr 5 0))], [some (u8s (List.replicate 32 0)), some (u8s m), some (u32s F), some (i64s ordz), some (u32s (hac F m j.1)), some (u8s (blk m (min (64 * j.1) n) (min 64 (n - min (64 * j.1) n))))]⟩ ?_ ?_
    · refine rdl [4] [] [0, 0, 0, 0, 1] ?_
      refine DSp 5 rfl (fun _ hv => q_slp_no ⟨rfl, rfl⟩ (hp := hv)) ?_
      refine Dp (fun _ => q_mv (s := .v (.c _)) ⟨rfl, rfl⟩) ?_
      refine Dp (fun _ => q_mv (s := .v (.c _)) ⟨rfl, rfl⟩) ?_
      refine Dp (fun _ => q_sls_hi ⟨rfl, rfl⟩) ?_
      refine De (q_cpy (pw ?_))
      refine dend ?_
      exact sle_sub ⟨rfl, rfl, rfl, rfl, rfl, rfl, rfl, rfl, trivial⟩ (congrArg (fun z => [some (u8s (List.replicate 32 0)), some (u8s m), some (u32s F), some (i64s ordz), some (u32s (hac F m j.1)), some z]) splice_cpy)
    refine awp_seq ?_
    refine rl ?_
    refine Mv ?_
    refine Mv ?_
    refine G (q_cv0_64 ?_)
    refine G (q_add64 ?_)
    refine As ?_
    refine gend ?_
    refine awp_seq ?_
    refine rl ?_
    refine Mv ?_
    refine Mv ?_
    refine G (q_sls_lo ?_)
    refine As ?_
    refine gend ?_
    refine awp_seq ?_
    have ht : UInt64.ofNat (min (64 * j.1) n) + UInt64.ofNat (min 64 (n - min (64 * j.1) n)) = UInt64.ofNat (min (64 * (j.1 + 1)) n) := by rw [← UInt64.ofNat_add]; congr 1; omega
    have hbk := blk_len m (min (64 * j.1) n) (min 64 (n - min (64 * j.1) n)) (by omega)
    have gP := press_ (hac F m j.1) F (blk m (min (64 * j.1) n) (min 64 (n - min (64 * j.1) n))) (UInt64.ofNat (min (64 * j.1) n) + UInt64.ofNat (min 64 (n - min (64 * j.1) n))) (decide (n - (min (64 * j.1) n) - (min 64 (n - min (64 * j.1) n)) = 0)) hh hF hbk
    have hpa : hac F m (j.1 + 1) = press (hac F m j.1) F (blk m (min (64 * j.1) n) (min 64 (n - min (64 * j.1) n))) (UInt64.ofNat (min (64 * j.1) n) + UInt64.ofNat (min 64 (n - min (64 * j.1) n))) (decide (n - (min (64 * j.1) n) - (min 64 (n - min (64 * j.1) n)) = 0)) := by rw [hac, hmn, ht]
    rw [← hpa] at gP
    have hA1 := hac_len F m hF (j.1 + 1)
    obtain ⟨A1, hA1e⟩ : ∃ A, hac F m (j.1 + 1) = A := ⟨_, rfl⟩
    rw [hA1e] at gP hA1
    refine rdl [7, 8] [0, 0, 0, 0, 0, 0, 0, 0, 1] [0, 0, 0, 0, 0, 0, 0, 1, 2] ?_
    refine DLw  ?_ (hl := (mapc_length ..).trans hh)
    refine DLw  ?_ (hl := (mapc_length ..).trans hF)
    refine DSp 5 rfl (fun _ hv => q_slp_no ⟨rfl, rfl⟩ (hp := hv)) ?_
    refine Dp (fun _ => q_mv (s := .v (.c _)) ⟨rfl, rfl⟩) ?_
    refine Dp (fun _ => q_mv (s := .v (.c _)) ⟨rfl, rfl⟩) ?_
    refine Dp (fun _ => q_lenc ⟨rfl, rfl⟩) ?_
    refine Dp (fun _ => q_eqln (y := 0) ⟨rfl, rfl⟩) ?_
    refine De (q_callp (gP) (pw ?_) (ha := caa (et rfl) sees_m (caa (et rfl) sees_m (cac (et rfl) (sees_ptr rfl rfl rfl (mapc_cm ..)) (cac (et rfl) (sees_slc rfl rfl (cut_h hbk)) (cac (et rfl) cm_int (cac (et rfl) cm_bool ca0)))))))
    refine De0 (q_stw  (pw ?_) (hl := (mapc_length ..).trans hA1) (hc := (mapc_length ..).trans hh))
    refine dend ?_
    refine awp_seq ?_
    refine rl ?_
    refine Mv ?_
    refine G (q_lenc ?_)
    refine G (q_eqln (y := 0) ?_)
    refine gend ?_
    refine cnd (fun hc2 => ?_) (fun hc2 => ?_)
    · refine awp_exit ?_
      have hJ : j.1 = (n + 63) / 64 - 1 := by have := j.2; omega
      refine awp_seq ?_
      refine awp_seq ?_
      refine rl ?_
      refine G (q_mv (s := sc (cn 0)) ?_)
      refine gend ?_
      refine awp_block ?_
      refine awp_loop (fun y : {i : Nat // i ≤ 32} => ⟨frm 72 [(2, sc (.ptr 0 0)), (8, sc (.ptr 4 0)), (56, sc (cn y.1))], [some (u8s (outw A1 y.1)), some (u8s m), some (u32s F), some (i64s ordz), some (u32s A1), some (u8s (blk m (min (64 * j.1) n) (min 64 (n - min (64 * j.1) n))))]⟩) (fun y => 32 - y.1) ⟨0, Nat.zero_le _⟩ (sle_sub ⟨rfl, rfl, rfl, trivial⟩ rfl) fun y => ?_   -- live: [2, 8, 56]
      have ho := outw_len A1 y.1
      refine awp_seq ?_
      refine rl ?_
      refine G (q_lssn (y := 32) ?_)
      refine gend ?_
      refine awp_seq ?_
      refine cnd (fun hc3 => ?_) (fun hc3 => ?_); rotate_left
      · refine awp_exit ?_
        rw [show y.1 = 32 from (by have := y.2; omega)]
        have ho := outw_len A1 32
        refine awp_seq ?_
        refine rl ?_
        refine G (q_ldw  ?_ (hl := (mapc_length ..).trans ho))
        refine G0 (q_stw  ?_ (hl := (mapc_length ..).trans ho) (hc := (mapc_length ..).trans ho))
        refine gend ?_
        refine awp_ret ?_
        exact fpc (t := 25) (a := 2) (hn := by exact (mapc_length ..).trans ho) (hv := by rw [bsum, ← hmf, hmn, hFe, ← hJ, hA1e])
      refine awp_skip ?_
      refine awp_seq ?_
      refine awp_block ?_
      refine awp_seq ?_
      refine rl ?_
      refine Mv ?_
      refine As ?_
      refine gend ?_
      refine rl ?_
      refine Mv ?_
      refine Mv ?_
      refine G (q_quon (y := 4) ?_)
      refine G (q_ixp1 ?_)
      refine G (q_ldp ?_)
      refine Mv ?_
      refine G (q_remn (y := 4) ?_)
      refine G (q_muln (x := 8) ?_)
      refine G (q_shr32_0 ?_)
      refine G (q_cv32_8 ?_)
      refine G (q_ixp1 ?_)
      refine G0 (q_stm ?_)
      refine gend ?_
      refine rl ?_
      refine G (q_addn (y := 1) ?_)
      refine Mv ?_
      refine gend ?_
      exact ⟨⟨y.1 + 1, by omega⟩, by show 32 - (y.1 + 1) < 32 - y.1; omega, sle_sub ⟨rfl, rfl, rfl, trivial⟩ rfl⟩   -- endloop 3
    refine awp_skip ?_
    exact ⟨⟨j.1 + 1, by omega⟩, by show ((n + 63) / 64 - 1) - (j.1 + 1) < ((n + 63) / 64 - 1) - j.1; omega, sle_view [0, 1, 2, 3, 4] (fun p h => absurd h (Nat.not_lt_zero _)) (by decide) ⟨rfl, slc_eq (by show _ = min (64 * (j.1 + 1)) n; omega) (by show _ = n - min (64 * (j.1 + 1)) n; omega), rfl, rfl, rfl, congrArg (fun z => sc (c64 z)) ht, trivial⟩ (vh5 (pick_m rfl) (pick_m rfl) (pick_m rfl) (pick_m rfl) (pick_m (congrArg (fun z => some (some (u32s z))) hA1e.symm)))⟩   -- endloop 2
  refine awp_skip ?_
  refine awp_seq ?_
  refine awp_block ?_
  refine awp_seq ?_
  refine rl ?_
  have hb := fl_le ps x.1.1 (by omega)
  rw [← h2, hmn] at hb
  refine G (q_ixo1 ?_)
  refine G (q_ldrd ?_ (hc := pcs_at (by omega)))
  refine As ?_
  refine gend ?_
  refine rl ?_
  refine Mv ?_
  refine Mv ?_
  refine G (q_app ?_)
  refine As ?_
  refine gend ?_
  refine rl ?_
  refine G (q_addn (y := 1) ?_)
  refine Mv ?_
  refine gend ?_
  exact ⟨⟨(x.1.1 + 1, x.1.2.1 ++ ps.getD x.1.1 [], x.1.2.2 + (ps.getD x.1.1 []).length), by show x.1.1 + 1 ≤ k; omega, by show x.1.2.1 ++ _ = fl ps (x.1.1 + 1); rw [fl_succ ps x.1.1 (by omega), h2], by show (x.1.2.1 ++ _).length = _; rw [List.length_append, hmn]⟩, by show k - (x.1.1 + 1) < k - x.1.1; omega, sle_view [0, 2] (fun p h => absurd h (Nat.not_lt_zero _)) (by decide) ⟨rfl, rfl, rs_pcs, rfl, rfl, trivial⟩ (vh2 (pick_m rfl) (pick_m (congrArg (fun z => some (some z)) (mapc_append ..))))⟩   -- endloop 1
end Go.Proofs.Ytngmhcgenknokaa

/- What functions of the program do, walked over the abstract machine. -/
import Derived.Test.YtcihpgdmldkjfaaPt
namespace Go.Proofs.Ytcihpgdmldkjfaa.Po
open Go Go.Abs Go.Proofs

/-- The reference: carries. -/
def nrm (d : List UInt64) : Nat → List UInt64 × UInt64
  | 0 => (d, 0)
  | i + 1 => ((nrm d i).1.set i (((nrm d i).1.getD i 0 + (nrm d i).2) % 256), ((nrm d i).1.getD i 0 + (nrm d i).2) / 256)
theorem nrm_len (d : List UInt64) : ∀ i, (nrm d i).1.length = d.length
  | 0 => rfl
  | i + 1 => by rw [nrm, List.length_set, nrm_len]
/-- What stands from bit 130 on is taken out. -/
def fld (d : List UInt64) : Nat → List UInt64 × List UInt64
  | 0 => (d, List.replicate 34 0)
  | j + 1 =>
    if 16 < 16 + j then
      ((fld d j).1.set (16 + j) 0,
        ((fld d j).2.set (16 + j - 16) ((fld d j).2.getD (16 + j - 16) 0 + (fld d j).1.getD (16 + j) 0 / 4)).set (16 + j - 17)
          (((fld d j).2.set (16 + j - 16) ((fld d j).2.getD (16 + j - 16) 0 + (fld d j).1.getD (16 + j) 0 / 4)).getD (16 + j - 17) 0 + (fld d j).1.getD (16 + j) 0 % 4 * 64))
    else ((fld d j).1.set (16 + j) ((fld d j).1.getD (16 + j) 0 % 4), (fld d j).2.set (16 + j - 16) ((fld d j).2.getD (16 + j - 16) 0 + (fld d j).1.getD (16 + j) 0 / 4))
theorem fld_len (d : List UInt64) : ∀ i, (fld d i).1.length = d.length ∧ (fld d i).2.length = 34
  | 0 => ⟨rfl, by simp [fld]⟩
  | i + 1 => by
    have := fld_len d i
    rw [fld]; split <;> simp [this]
def add5 (d u : List UInt64) : Nat → List UInt64
  | 0 => d
  | i + 1 => (add5 d u i).set i ((add5 d u i).getD i 0 + 5 * u.getD i 0)
theorem add5_len (d u : List UInt64) : ∀ i, (add5 d u i).length = d.length
  | 0 => rfl
  | i + 1 => by rw [add5, List.length_set, add5_len]
def pss (d : List UInt64) : Nat → List UInt64
  | 0 => d
  | k + 1 => add5 (fld (nrm (pss d k) 34).1 18).1 (fld (nrm (pss d k) 34).1 18).2 34
theorem pss_len (d : List UInt64) : ∀ k, (pss d k).length = d.length
  | 0 => rfl
  | k + 1 => by rw [pss, add5_len, (fld_len _ _).1, nrm_len, pss_len]
def nn (d : List UInt64) : Nat → List UInt64 × UInt64
  | 0 => (List.replicate 17 0, 0)
  | i + 1 => ((nn d i).1.set i ((d.getD i 0 + (nn d i).2) % 256), (d.getD i 0 + (nn d i).2) / 256)
theorem nn_len (d : List UInt64) : ∀ i, (nn d i).1.length = 17
  | 0 => by simp [nn]
  | i + 1 => by rw [nn, List.length_set, nn_len]
def g0 (n : List UInt64) : Bool := (decide (n.getD 16 0 = 3) && decide (251 ≤ n.getD 0 0)) || decide (3 < n.getD 16 0)
def gr (n : List UInt64) : Nat → Bool
  | 0 => g0 n
  | i + 1 => gr n i && (decide (n.getD (1 + i) 0 = 255) || decide (3 < n.getD 16 0))
def sb5 (n : List UInt64) : Nat → List UInt64 × UInt64
  | 0 => (n, 5)
  | i + 1 => ((sb5 n i).1.set i (((sb5 n i).1.getD i 0 + (sb5 n i).2) % 256), ((sb5 n i).1.getD i 0 + (sb5 n i).2) / 256)
theorem sb5_len (n : List UInt64) : ∀ i, (sb5 n i).1.length = n.length
  | 0 => rfl
  | i + 1 => by rw [sb5, List.length_set, sb5_len]
def rsfin (n : List UInt64) : List UInt64 := if gr n 15 then (sb5 n 17).1.set 16 ((sb5 n 17).1.getD 16 0 - 4) else n
def rsmall (d : List UInt64) : List UInt64 := rsfin (nn (pss d 4) 17).1
theorem rsmall_len (d : List UInt64) : (rsmall d).length = 17 := by
  unfold rsmall rsfin
  split
  · rw [List.length_set, sb5_len, nn_len]
  · rw [nn_len]
set_option maxHeartbeats 800000 in
/-- escutcheonref09.small -/
theorem rsmall_ (d : List UInt64) (hd : d.length = 34) : Good Try.prog 34 [.a (u64s d)] [] (sa (u64s (rsmall d))) [] := by
  refine good_frm 155 Try.func34 rfl rfl rfl rfl rfl rfl ?_
  refine awp_seq ?_
  refine rl ?_
  refine G (q_boxa ?_)
  refine G (q_al ?_)
  refine gend ?_
  refine awp_seq ?_
  refine awp_seq ?_
  refine rl ?_
  refine G (q_as (s := sc (cn 0)) ?_)
  refine gend ?_
  refine awp_block ?_
  refine awp_loop (fun x : {i : Nat // i ≤ 4} => ⟨frm 155 [(1, sc (.ptr 0 0)), (2, sc (.ptr 1 0)), (3, sc (cn x.1))], [some (u64s (pss d x.1)), some (u64s (List.replicate 17 0))]⟩) (fun x => 4 - x.1) ⟨0, Nat.zero_le _⟩ (sle_sub ⟨rfl, rfl, rfl, trivial⟩ rfl) fun x => ?_   -- live: [1, 3]
  have hp4 := (pss_len d x.1).trans hd
  refine awp_seq ?_
  refine awp_seq ?_
  refine rl ?_
  refine Mv ?_
  refine G (q_lssn (y := 4) ?_)
  refine gend ?_
  refine cnd (fun hc1 => ?_) (fun hc1 => ?_); rotate_left
  · refine awp_exit ?_
    rw [show x.1 = 4 from (by have := x.2; omega)]
    have hd4 := (pss_len d 4).trans hd
    generalize hD4 : pss d 4 = D4 at hd4 ⊢
    refine awp_seq ?_
    refine rl ?_
    refine G (q_al ?_)
    refine gend ?_
    refine awp_seq ?_
    refine rl ?_
    refine G (q_as (s := sc (c64 0)) ?_)
    refine gend ?_
    refine awp_seq ?_
    refine awp_seq ?_
    refine rl ?_
    refine G (q_as (s := sc (cn 0)) ?_)
    refine gend ?_
    refine awp_block ?_
    refine awp_loop (fun a : {i : Nat // i ≤ 17} => ⟨frm 155 [(1, sc (.ptr 0 0)), (2, sc (.ptr 1 0)), (10, sc (.ptr 2 0)), (11, sc (c64 (nn D4 a.1).2)), (12, sc (cn a.1))], [some (u64s D4), some (u64s (List.replicate 17 0)), some (u64s (nn D4 a.1).1)]⟩) (fun a => 17 - a.1) ⟨0, Nat.zero_le _⟩ (sle_sub ⟨rfl, rfl, rfl, rfl, rfl, trivial⟩ rfl) fun a => ?_   -- live: [1, 10, 11, 12]
    have hn := nn_len D4 a.1
    refine awp_seq ?_
    refine awp_seq ?_
    refine rl ?_
    refine Mv ?_
    refine G (q_lssn (y := 17) ?_)
    refine gend ?_
    refine cnd (fun hc2 => ?_) (fun hc2 => ?_); rotate_left
    · refine awp_exit ?_
      rw [show a.1 = 17 from (by have := a.2; omega)]
      have hn := nn_len D4 17
      generalize hM : (nn D4 17).1 = M at hn ⊢
      refine awp_mid ⟨frm 155 [(1, sc (.ptr 0 0)), (2, sc (.ptr 1 0)), (10, sc (.ptr 2 0)), (14, sc (.bool (g0 M)))], [some (u64s D4), some (u64s (List.replicate 17 0)), some (u64s M)]⟩ ?_ ?_
      · refine rl ?_
        refine G (q_ixp1 ?_)
        refine G (q_ldp ?_)
        refine G (q_eql64 (y := 3) ?_)
        refine Mv ?_
        refine Aspd 108 (fun hb4 => ?_) (fun hb4 => ?_)
        · refine Gg (q_ixp1 ?_)
          refine Gg (q_ldp ?_)
          refine Gg (q_geq64 (y := 251) ?_)
          refine G (q_pkt ?_)
          refine Mv ?_
          refine Aspd 113 (fun hb9 => ?_) (fun hb9 => ?_)
          · refine Gn ?_
            refine Gn ?_
            refine Gn ?_
            refine G (q_pkt ?_)
            refine As ?_
            refine gend ?_
            exact sle_sub ⟨rfl, rfl, rfl, congrArg (fun b => sc (.bool b)) (by unfold g0; generalize M.getD 16 0 = u at *; generalize M.getD 0 0 = v at *; simp [*]), trivial⟩ rfl
          refine Gg (q_ixp1 ?_)
          refine Gg (q_ldp ?_)
          refine Gg (q_gtr64 (y := 3) ?_)
          refine G (q_pkf ?_)
          refine As ?_
          refine gend ?_
          exact sle_sub ⟨rfl, rfl, rfl, congrArg (fun b => sc (.bool b)) (by unfold g0; generalize M.getD 16 0 = u at *; generalize M.getD 0 0 = v at *; simp [*]), trivial⟩ rfl
        refine Gn ?_
        refine Gn ?_
        refine Gn ?_
        refine G (q_pkf ?_)
        refine Mv ?_
        refine Gg (q_ixp1 ?_)
        refine Gg (q_ldp ?_)
        refine Gg (q_gtr64 (y := 3) ?_)
        refine G (q_pkf ?_)
        refine As ?_
        refine gend ?_
        exact sle_sub ⟨rfl, rfl, rfl, congrArg (fun b => sc (.bool b)) (by unfold g0; generalize M.getD 16 0 = u at *; generalize M.getD 0 0 = v at *; simp [*]), trivial⟩ rfl
      refine awp_seq ?_
      refine awp_seq ?_
      refine rl ?_
      refine G (q_as (s := sc (cn 1)) ?_)
      refine gend ?_
      refine awp_block ?_
      refine awp_loop (fun b : {i : Nat // i ≤ 15} => ⟨frm 155 [(1, sc (.ptr 0 0)), (2, sc (.ptr 1 0)), (10, sc (.ptr 2 0)), (14, sc (.bool (gr M b.1))), (15, sc (cn (1 + b.1)))], [some (u64s D4), some (u64s (List.replicate 17 0)), some (u64s M)]⟩) (fun b => 15 - b.1) ⟨0, Nat.zero_le _⟩ (sle_sub ⟨rfl, rfl, rfl, rfl, rfl, trivial⟩ rfl) fun b => ?_   -- live: [10, 14, 15]
      refine awp_seq ?_
      refine awp_seq ?_
      refine rl ?_
      refine Mv ?_
      refine G (q_lssn (y := 16) ?_)
      refine gend ?_
      refine cnd (fun hc3 => ?_) (fun hc3 => ?_); rotate_left
      · refine awp_exit ?_
        rw [show b.1 = 15 from (by have := b.2; omega)]
        refine awp_seq ?_
        refine awp_seq ?_
        refine rl ?_
        refine Mv ?_
        refine gend ?_
        refine cndb (fun hc4 => ?_) (fun hc4 => ?_)
        · refine awp_seq ?_
          refine rl ?_
          refine G (q_as (s := sc (c64 5)) ?_)
          refine gend ?_
          refine awp_seq ?_
          refine awp_seq ?_
          refine rl ?_
          refine G (q_as (s := sc (cn 0)) ?_)
          refine gend ?_
          refine awp_block ?_
          refine awp_loop (fun e : {i : Nat // i ≤ 17} => ⟨frm 155 [(1, sc (.ptr 0 0)), (2, sc (.ptr 1 0)), (10, sc (.ptr 2 0)), (11, sc (c64 (sb5 M e.1).2)), (16, sc (cn e.1))], [some (u64s D4), some (u64s (List.replicate 17 0)), some (u64s (sb5 M e.1).1)]⟩) (fun e => 17 - e.1) ⟨0, Nat.zero_le _⟩ (sle_sub ⟨rfl, rfl, rfl, rfl, rfl, trivial⟩ rfl) fun e => ?_   -- live: [10, 11, 16]
          have he := (sb5_len M e.1).trans hn
          refine awp_seq ?_
          refine awp_seq ?_
          refine rl ?_
          refine Mv ?_
          refine G (q_lssn (y := 17) ?_)
          refine gend ?_
          refine cnd (fun hc5 => ?_) (fun hc5 => ?_); rotate_left
          · refine awp_exit ?_
            rw [show e.1 = 17 from (by have := e.2; omega)]
            have he := (sb5_len M 17).trans hn
            generalize hE : (sb5 M 17).1 = E at he ⊢
            refine rl ?_
            refine G (q_ixp1 ?_)
            refine G (q_ldp ?_)
            refine G (q_sub64 (y := 4) ?_)
            refine G (q_ixp1 ?_)
            refine G0 (q_stm ?_)
            refine gend ?_
            refine awp_seq ?_
            refine rl ?_
            refine G (q_ldw  ?_ (hl := (mapc_length ..).trans (List.length_set.trans he)))
            refine G0 (q_stw  ?_ (hl := (mapc_length ..).trans (List.length_set.trans he)) (hc := (mapc_length ..).trans (List.length_replicate ..)))
            refine gend ?_
            refine awp_ret ?_
            exact fpc (t := 70) (a := 2) (hn := by simp only [mapc_length, List.length_set]; exact he) (hv := by rw [rsmall, hD4, hM, rsfin, if_pos hc4, hE])
          refine awp_skip ?_
          refine awp_seq ?_
          refine awp_block ?_
          refine awp_seq ?_
          refine rl ?_
          refine Mv ?_
          refine G (q_ixp1 ?_)
          refine G (q_ldp ?_)
          refine Mv ?_
          refine G (q_add64 ?_)
          refine As ?_
          refine gend ?_
          refine awp_seq ?_
          refine rl ?_
          refine Mv ?_
          refine Mv ?_
          refine G (q_rem64 (y := 256) ?_ (hz := by decide))
          refine G (q_ixp1 ?_)
          refine G0 (q_stm ?_)
          refine gend ?_
          refine rl ?_
          refine Mv ?_
          refine G (q_quo64 (y := 256) ?_ (hz := by decide))
          refine As ?_
          refine gend ?_
          refine rl ?_
          refine Mv ?_
          refine G (q_addn (y := 1) ?_)
          refine As ?_
          refine gend ?_
          exact ⟨⟨e.1 + 1, by omega⟩, by show 17 - (e.1 + 1) < 17 - e.1; omega, sle_sub ⟨rfl, rfl, rfl, rfl, rfl, trivial⟩ rfl⟩   -- endloop 4
        refine awp_skip ?_
        refine awp_seq ?_
        refine rl ?_
        refine G (q_ldw  ?_ (hl := (mapc_length ..).trans hn))
        refine G0 (q_stw  ?_ (hl := (mapc_length ..).trans hn) (hc := (mapc_length ..).trans (List.length_replicate ..)))
        refine gend ?_
        refine awp_ret ?_
        exact fpc (t := 70) (a := 2) (hn := by exact (mapc_length ..).trans hn) (hv := by rw [rsmall, hD4, hM, rsfin, if_neg (by rw [hc4]; decide)])
      refine awp_skip ?_
      refine awp_seq ?_
      refine awp_block ?_
      refine rl ?_
      refine Mv ?_
      refine Mv ?_
      refine Asp 123 (fun hb2 => ?_) (fun hb2 => ?_)
      · refine Gg (q_mv (s := .v (.c _)) ?_)
        refine Gg (q_ixp1 ?_)
        refine Gg (q_ldp ?_)
        refine Gg (q_eql64 (y := 255) ?_)
        refine Gg (q_mv (s := .v (.c _)) ?_)
        refine Aspd 128 (fun hb7 => ?_) (fun hb7 => ?_)
        · refine Gn ?_
          refine Gn ?_
          refine Gn ?_
          refine Gg (q_pkt ?_)
          refine G (q_pkt ?_)
          refine As ?_
          refine gend ?_
          refine rl ?_
          refine Mv ?_
          refine G (q_addn (y := 1) ?_)
          refine As ?_
          refine gend ?_
          exact ⟨⟨b.1 + 1, by omega⟩, by show 15 - (b.1 + 1) < 15 - b.1; omega, sle_sub ⟨rfl, rfl, rfl, congrArg (fun b => sc (.bool b)) (by show _ = gr M (b.1 + 1); rw [gr]; generalize gr M b.1 = p at *; generalize M.getD (1 + b.1) 0 = u at *; generalize M.getD 16 0 = v at *; simp [*]), rfl, trivial⟩ rfl⟩   -- endloop 3
        refine Gg (q_ixp1 ?_)
        refine Gg (q_ldp ?_)
        refine Gg (q_gtr64 (y := 3) ?_)
        refine Gg (q_pkf ?_)
        refine G (q_pkt ?_)
        refine As ?_
        refine gend ?_
        refine rl ?_
        refine Mv ?_
        refine G (q_addn (y := 1) ?_)
        refine As ?_
        refine gend ?_
        exact ⟨⟨b.1 + 1, by omega⟩, by show 15 - (b.1 + 1) < 15 - b.1; omega, sle_sub ⟨rfl, rfl, rfl, congrArg (fun b => sc (.bool b)) (by show _ = gr M (b.1 + 1); rw [gr]; generalize gr M b.1 = p at *; generalize M.getD (1 + b.1) 0 = u at *; generalize M.getD 16 0 = v at *; simp [*]), rfl, trivial⟩ rfl⟩   -- endloop 3
      refine Gn ?_
      refine Gn ?_
      refine Gn ?_
      refine Gn ?_
      refine Gn ?_
      refine Gu ?_
      refine Gu ?_
      refine Gu ?_
      refine Gn ?_
      refine G (q_pkf ?_)
      refine As ?_
      refine gend ?_
      refine rl ?_
      refine Mv ?_
      refine G (q_addn (y := 1) ?_)
      refine As ?_
      refine gend ?_
      exact ⟨⟨b.1 + 1, by omega⟩, by show 15 - (b.1 + 1) < 15 - b.1; omega, sle_sub ⟨rfl, rfl, rfl, congrArg (fun b => sc (.bool b)) (by show _ = gr M (b.1 + 1); rw [gr]; generalize gr M b.1 = p at *; generalize M.getD (1 + b.1) 0 = u at *; generalize M.getD 16 0 = v at *; simp [*]), rfl, trivial⟩ rfl⟩   -- endloop 3
    refine awp_skip ?_
    refine awp_seq ?_
    refine awp_block ?_
    refine awp_seq ?_
    refine rl ?_
    refine Mv ?_
    refine G (q_ixp1 ?_)
    refine G (q_ldp ?_)
    refine Mv ?_
    refine G (q_add64 ?_)
    refine As ?_
    refine gend ?_
    refine awp_seq ?_
    refine rl ?_
    refine Mv ?_
    refine Mv ?_
    refine G (q_rem64 (y := 256) ?_ (hz := by decide))
    refine G (q_ixp1 ?_)
    refine G0 (q_stm ?_)
    refine gend ?_
    refine rl ?_
    refine Mv ?_
    refine G (q_quo64 (y := 256) ?_ (hz := by decide))
    refine As ?_
    refine gend ?_
    refine rl ?_
    refine Mv ?_
    refine G (q_addn (y := 1) ?_)
    refine As ?_
    refine gend ?_
    exact ⟨⟨a.1 + 1, by omega⟩, by show 17 - (a.1 + 1) < 17 - a.1; omega, sle_sub ⟨rfl, rfl, rfl, rfl, rfl, trivial⟩ rfl⟩   -- endloop 2
  refine awp_skip ?_
  refine awp_seq ?_
  refine awp_block ?_
  refine awp_seq ?_
  refine rl ?_
  refine G (q_as (s := sc (c64 0)) ?_)
  refine gend ?_
  refine awp_seq ?_
  refine awp_seq ?_
  refine rl ?_
  refine G (q_as (s := sc (cn 0)) ?_)
  refine gend ?_
  refine awp_block ?_
  refine awp_loop (fun f : {i : Nat // i ≤ 34} => ⟨frm 155 [(1, sc (.ptr 0 0)), (2, sc (.ptr 1 0)), (3, sc (cn x.1)), (4, sc (c64 (nrm (pss d x.1) f.1).2)), (5, sc (cn f.1))], [some (u64s (nrm (pss d x.1) f.1).1), some (u64s (List.replicate 17 0))]⟩) (fun f => 34 - f.1) ⟨0, Nat.zero_le _⟩ (sle_sub ⟨rfl, rfl, rfl, rfl, rfl, trivial⟩ rfl) fun f => ?_   -- live: [1, 4, 5]
  have hf := (nrm_len (pss d x.1) f.1).trans hp4
  refine awp_seq ?_
  refine awp_seq ?_
  refine rl ?_
  refine Mv ?_
  refine G (q_lssn (y := 34) ?_)
  refine gend ?_
  refine cnd (fun hc6 => ?_) (fun hc6 => ?_); rotate_left
  · refine awp_exit ?_
    rw [show f.1 = 34 from (by have := f.2; omega)]
    have hf := (nrm_len (pss d x.1) 34).trans hp4
    generalize hE5 : (nrm (pss d x.1) 34).1 = E5 at hf ⊢
    refine awp_seq ?_
    refine rl ?_
    refine G (q_al ?_)
    refine gend ?_
    refine awp_seq ?_
    refine awp_seq ?_
    refine rl ?_
    refine G (q_as (s := sc (cn 16)) ?_)
    refine gend ?_
    refine awp_block ?_
    refine awp_loop (fun g : {i : Nat // i ≤ 18} => ⟨frm 155 [(1, sc (.ptr 0 0)), (2, sc (.ptr 1 0)), (3, sc (cn x.1)), (7, sc (.ptr 2 0)), (8, sc (cn (16 + g.1)))], [some (u64s (fld E5 g.1).1), some (u64s (List.replicate 17 0)), some (u64s (fld E5 g.1).2)]⟩) (fun g => 18 - g.1) ⟨0, Nat.zero_le _⟩ (sle_sub ⟨rfl, rfl, rfl, rfl, rfl, trivial⟩ rfl) fun g => ?_   -- live: [1, 7, 8]
    have hg1 := (fld_len E5 g.1).1.trans hf
    have hg2 := (fld_len E5 g.1).2
    refine awp_seq ?_
    refine awp_seq ?_
    refine rl ?_
    refine Mv ?_
    refine G (q_lssn (y := 34) ?_)
    refine gend ?_
    refine cnd (fun hc7 => ?_) (fun hc7 => ?_); rotate_left
    · refine awp_exit ?_
      rw [show g.1 = 18 from (by have := g.2; omega)]
      have hg1 := (fld_len E5 18).1.trans hf
      have hg2 := (fld_len E5 18).2
      generalize hF : (fld E5 18).1 = F at hg1 ⊢
      generalize hU : (fld E5 18).2 = U at hg2 ⊢
      refine awp_seq ?_
      refine rl ?_
      refine G (q_as (s := sc (cn 0)) ?_)
      refine gend ?_
      refine awp_block ?_
      refine awp_loop (fun h : {i : Nat // i ≤ 34} => ⟨frm 155 [(1, sc (.ptr 0 0)), (2, sc (.ptr 1 0)), (3, sc (cn x.1)), (7, sc (.ptr 2 0)), (9, sc (cn h.1))], [some (u64s (add5 F U h.1)), some (u64s (List.replicate 17 0)), some (u64s U)]⟩) (fun h => 34 - h.1) ⟨0, Nat.zero_le _⟩ (sle_sub ⟨rfl, rfl, rfl, rfl, rfl, trivial⟩ rfl) fun h => ?_   -- live: [1, 7, 9]
      have hh := (add5_len F U h.1).trans hg1
      refine awp_seq ?_
      refine awp_seq ?_
      refine rl ?_
      refine Mv ?_
      refine G (q_lssn (y := 34) ?_)
      refine gend ?_
      refine cnd (fun hc8 => ?_) (fun hc8 => ?_); rotate_left
      · refine awp_exit ?_
        rw [show h.1 = 34 from (by have := h.2; omega)]
        have hh := (add5_len F U 34).trans hg1
        have hps : pss d (x.1 + 1) = add5 F U 34 := by rw [pss, hE5, hF, hU]
        refine rl ?_
        refine Mv ?_
        refine G (q_addn (y := 1) ?_)
        refine As ?_
        refine gend ?_
        exact ⟨⟨x.1 + 1, by omega⟩, by show 4 - (x.1 + 1) < 4 - x.1; omega, sle_view [0, 1] (fun p h => absurd h (Nat.not_lt_zero _)) (by decide) ⟨rfl, rfl, rfl, trivial⟩ (vh2 (pick_m (congrArg (fun z => some (some (u64s z))) hps.symm)) (pick_m rfl))⟩   -- endloop 1
      refine awp_skip ?_
      refine awp_seq ?_
      refine awp_block ?_
      refine rdl [10] [] [0, 0, 0, 0, 0, 0, 0, 0, 0, 0, 1] ?_
      refine Dp (fun _ => q_mv (s := .v (.c _)) ⟨rfl, rfl⟩) ?_
      refine Dp (fun _ => q_mv (s := .v (.c _)) ⟨rfl, rfl⟩) ?_
      refine Dp (fun _ => q_ixp1 ⟨rfl, rfl⟩) ?_
      refine DLp ?_
      refine Dp (fun _ => q_mv (s := .v (.c _)) ⟨rfl, rfl⟩) ?_
      refine Dp (fun _ => q_ixp1 ⟨rfl, rfl⟩) ?_
      refine DLp ?_
      refine Dp (fun _ => q_mul64 (x := 5) ⟨rfl, rfl⟩) ?_
      refine Dp (fun _ => q_add64 ⟨rfl, rfl⟩) ?_
      refine Dp (fun _ => q_ixp1 ⟨rfl, rfl⟩) ?_
      refine De0 (q_stm (pw ?_))
      refine dend ?_
      refine rl ?_
      refine Mv ?_
      refine G (q_addn (y := 1) ?_)
      refine As ?_
      refine gend ?_
      exact ⟨⟨h.1 + 1, by omega⟩, by show 34 - (h.1 + 1) < 34 - h.1; omega, sle_sub ⟨rfl, rfl, rfl, rfl, rfl, trivial⟩ rfl⟩   -- endloop 7
    refine awp_skip ?_
    refine awp_seq ?_
    refine awp_block ?_
    refine awp_seq ?_
    refine rdl [12] [] [0, 0, 0, 0, 0, 0, 0, 0, 0, 0, 0, 0, 1] ?_
    refine Dp (fun _ => q_mv (s := .v (.c _)) ⟨rfl, rfl⟩) ?_
    refine Dp (fun _ => q_subn (y := 16) ⟨rfl, rfl⟩) ?_
    refine Dp (fun _ => q_mv (s := .v (.c _)) ⟨rfl, rfl⟩) ?_
    refine Dp (fun _ => q_subn (y := 16) ⟨rfl, rfl⟩) ?_
    refine Dp (fun _ => q_ixp1 ⟨rfl, rfl⟩) ?_
    refine DLp ?_
    refine Dp (fun _ => q_mv (s := .v (.c _)) ⟨rfl, rfl⟩) ?_
    refine Dp (fun _ => q_ixp1 ⟨rfl, rfl⟩) ?_
    refine DLp ?_
    refine Dp (fun _ => q_quo64 (y := 4) ⟨rfl, rfl⟩ (hz := by decide)) ?_
    refine Dp (fun _ => q_add64 ⟨rfl, rfl⟩) ?_
    refine Dp (fun _ => q_ixp1 ⟨rfl, rfl⟩) ?_
    refine De0 (q_stm (pw ?_))
    refine dend ?_
    refine awp_seq ?_
    refine rl ?_
    refine Mv ?_
    refine G (q_gtrn (y := 16) ?_)
    refine gend ?_
    refine cnd (fun hc9 => ?_) (fun hc9 => ?_)
    · refine awp_seq ?_
      refine rdl [13] [] [0, 0, 0, 0, 0, 0, 0, 0, 0, 0, 0, 0, 0, 1] ?_
      refine Dp (fun _ => q_mv (s := .v (.c _)) ⟨rfl, rfl⟩) ?_
      refine Dp (fun _ => q_subn (y := 17) ⟨rfl, rfl⟩) ?_
      refine Dp (fun _ => q_mv (s := .v (.c _)) ⟨rfl, rfl⟩) ?_
      refine Dp (fun _ => q_subn (y := 17) ⟨rfl, rfl⟩) ?_
      refine Dp (fun _ => q_ixp1 ⟨rfl, rfl⟩) ?_
      refine DLp ?_
      refine Dp (fun _ => q_mv (s := .v (.c _)) ⟨rfl, rfl⟩) ?_
      refine Dp (fun _ => q_ixp1 ⟨rfl, rfl⟩) ?_
      refine DLp ?_
      refine Dp (fun _ => q_rem64 (y := 4) ⟨rfl, rfl⟩ (hz := by decide)) ?_
      refine Dp (fun _ => q_mul64 (y := 64) ⟨rfl, rfl⟩) ?_
      refine Dp (fun _ => q_add64 ⟨rfl, rfl⟩) ?_
      refine Dp (fun _ => q_ixp1 ⟨rfl, rfl⟩) ?_
      refine De0 (q_stm (pw ?_))
      refine dend ?_
      refine rl ?_
      refine Mv ?_
      refine G (q_ixp1 ?_)
      refine G0 (q_stm (x := (0 : UInt64)) ?_)
      refine gend ?_
      refine rl ?_
      refine Mv ?_
      refine G (q_addn (y := 1) ?_)
      refine As ?_
      refine gend ?_
      exact ⟨⟨g.1 + 1, by omega⟩, by show 18 - (g.1 + 1) < 18 - g.1; omega, sle_sub ⟨rfl, rfl, rfl, rfl, rfl, trivial⟩ (by show _ = [some (u64s (fld E5 (g.1 + 1)).1), some (u64s (List.replicate 17 0)), some (u64s (fld E5 (g.1 + 1)).2)]; rw [fld]; first | (rw [if_pos (by assumption)]; rfl) | (rw [if_neg (by assumption)]; rfl))⟩   -- endloop 6
    refine rl ?_
    refine Mv ?_
    refine Mv ?_
    refine G (q_ixp1 ?_)
    refine G (q_ldp ?_)
    refine G (q_rem64 (y := 4) ?_ (hz := by decide))
    refine G (q_ixp1 ?_)
    refine G0 (q_stm ?_)
    refine gend ?_
    refine rl ?_
    refine Mv ?_
    refine G (q_addn (y := 1) ?_)
    refine As ?_
    refine gend ?_
    exact ⟨⟨g.1 + 1, by omega⟩, by show 18 - (g.1 + 1) < 18 - g.1; omega, sle_sub ⟨rfl, rfl, rfl, rfl, rfl, trivial⟩ (by show _ = [some (u64s (fld E5 (g.1 + 1)).1), some (u64s (List.replicate 17 0)), some (u64s (fld E5 (g.1 + 1)).2)]; rw [fld]; first | (rw [if_pos (by assumption)]; rfl) | (rw [if_neg (by assumption)]; rfl))⟩   -- endloop 6
  refine awp_skip ?_
  refine awp_seq ?_
  refine awp_block ?_
  refine awp_seq ?_
  refine rl ?_
  refine Mv ?_
  refine G (q_ixp1 ?_)
  refine G (q_ldp ?_)
  refine Mv ?_
  refine G (q_add64 ?_)
  refine As ?_
  refine gend ?_
  refine awp_seq ?_
  refine rl ?_
  refine Mv ?_
  refine Mv ?_
  refine G (q_rem64 (y := 256) ?_ (hz := by decide))
  refine G (q_ixp1 ?_)
  refine G0 (q_stm ?_)
  refine gend ?_
  refine rl ?_
  refine Mv ?_
  refine G (q_quo64 (y := 256) ?_ (hz := by decide))
  refine As ?_
  refine gend ?_
  refine rl ?_
  refine Mv ?_
  refine G (q_addn (y := 1) ?_)
  refine As ?_
  refine gend ?_
  exact ⟨⟨f.1 + 1, by omega⟩, by show 34 - (f.1 + 1) < 34 - f.1; omega, sle_sub ⟨rfl, rfl, rfl, rfl, rfl, trivial⟩ rfl⟩   -- endloop 5
theorem set_mod (l : List UInt64) (i : Nat) (h : i < l.length) (x : UInt64) (f : UInt64 → UInt64) : (l.set i x).set i (f ((l.set i x).getD i 0)) = l.set i (f x) := by
  have : (l.set i x).getD i 0 = x := by
    rw [List.getD_eq_getElem?_getD, List.getElem?_set, if_pos rfl, if_pos h]; rfl
  rw [this, List.set_set]
def rv1 (key : List UInt8) (i : Nat) : UInt64 := if i % 4 = 3 then (key.getD i 0).toUInt64 % 16 else (key.getD i 0).toUInt64
def rv (key : List UInt8) (i : Nat) : UInt64 := if i = 4 ∨ i = 8 ∨ i = 12 then rv1 key i / 4 * 4 else rv1 key i
def rr (key : List UInt8) : Nat → List UInt64
  | 0 => List.replicate 16 0
  | i + 1 => (rr key i).set i (rv key i)
theorem rr_len (key : List UInt8) : ∀ i, (rr key i).length = 16
  | 0 => by simp [rr]
  | i + 1 => by rw [rr, List.length_set, rr_len]
/-- Bytes are added. -/
def radd (a : List UInt64) (l : List UInt8) (q : Nat) : Nat → List UInt64
  | 0 => a
  | i + 1 => (radd a l q i).set i ((radd a l q i).getD i 0 + (l.getD (q + i) 0).toUInt64)
theorem radd_len (a : List UInt64) (l : List UInt8) (q : Nat) : ∀ i, (radd a l q i).length = a.length
  | 0 => rfl
  | i + 1 => by rw [radd, List.length_set, radd_len]
def pin (a r : List UInt64) (i : Nat) (d : List UInt64) : Nat → List UInt64
  | 0 => d
  | k + 1 => (pin a r i d k).set (i + k) ((pin a r i d k).getD (i + k) 0 + a.getD i 0 * r.getD k 0)
theorem pin_len (a r : List UInt64) (i : Nat) (d : List UInt64) : ∀ k, (pin a r i d k).length = d.length
  | 0 => rfl
  | k + 1 => by rw [pin, List.length_set, pin_len]
def pout (a r : List UInt64) : Nat → List UInt64
  | 0 => List.replicate 34 0
  | i + 1 => pin a r i (pout a r i) 16
theorem pout_len (a r : List UInt64) : ∀ k, (pout a r k).length = 34
  | 0 => by simp [pout]
  | k + 1 => by rw [pout, pin_len, pout_len]
def rblk (a : List UInt64) (l : List UInt8) (q k : Nat) : List UInt64 := (radd a l q k).set k ((radd a l q k).getD k 0 + 1)
def racc (l : List UInt8) (r : List UInt64) : Nat → List UInt64
  | 0 => List.replicate 17 0
  | j + 1 => rsmall (pout (rblk (racc l r j) l (16 * j) (min 16 (l.length - 16 * j))) r 17)
theorem racc_len (l : List UInt8) (r : List UInt64) : ∀ j, (racc l r j).length = 17
  | 0 => by simp [racc]
  | j + 1 => by rw [racc, rsmall_len]
def rob (a : List UInt64) (key : List UInt8) : Nat → List UInt8 × UInt64
  | 0 => (List.replicate 16 0, 0)
  | i + 1 => ((rob a key i).1.set i (a.getD i 0 + (key.getD (16 + i) 0).toUInt64 + (rob a key i).2).toUInt8, (a.getD i 0 + (key.getD (16 + i) 0).toUInt64 + (rob a key i).2) / 256)
theorem rob_len (a : List UInt64) (key : List UInt8) : ∀ i, (rob a key i).1.length = 16
  | 0 => by simp [rob]
  | i + 1 => by rw [rob, List.length_set, rob_len]
def rtag (key l : List UInt8) : List UInt8 := (rob (racc l (rr key 16) ((l.length + 15) / 16)) key 16).1
theorem rtag_len (key l : List UInt8) : (rtag key l).length = 16 := rob_len _ _ _
set_option maxHeartbeats 800000 in
/-- escutcheonref09.Tag -/
theorem rtag_ (key l : List UInt8) (n : Nat) (hkey : key.length = 32) (hl : l.length = n) (hn : n ≤ 100000) : Good Try.prog 24 [.a (u8s key), .c (.ro n (u8s l))] [] (sa (u8s (rtag key l))) [] := by
  refine good_frm 139 Try.func24 rfl rfl rfl rfl rfl rfl ?_
  refine awp_seq ?_
  refine rl ?_
  refine G (q_boxa ?_)
  refine G (q_al ?_)
  refine gend ?_
  refine awp_seq ?_
  refine rl ?_
  refine G (q_al ?_)
  refine gend ?_
  refine awp_seq ?_
  refine awp_seq ?_
  refine rl ?_
  refine G (q_as (s := sc (cn 0)) ?_)
  refine gend ?_
  refine awp_block ?_
  refine awp_loop (fun x : {i : Nat // i ≤ 16} => ⟨frm 139 [(1, sc (.ro n (u8s l))), (2, sc (.ptr 0 0)), (4, sc (.ptr 1 0)), (5, sc (.ptr 2 0)), (6, sc (cn x.1))], [some (u8s key), some (u8s (List.replicate 16 0)), some (u64s (rr key x.1))]⟩) (fun x => 16 - x.1) ⟨0, Nat.zero_le _⟩ (sle_sub ⟨rfl, rfl, rfl, rfl, rfl, trivial⟩ rfl) fun x => ?_   -- live: [2, 5, 6]
  have hr := rr_len key x.1
  refine awp_seq ?_
  refine awp_seq ?_
  refine rl ?_
  refine Mv ?_
  refine G (q_lssn (y := 16) ?_)
  refine gend ?_
  refine cnd (fun hc1 => ?_) (fun hc1 => ?_); rotate_left
  · refine awp_exit ?_
    rw [show x.1 = 16 from (by have := x.2; omega)]
    have hr := rr_len key 16
    generalize hR : rr key 16 = R at hr ⊢
    refine awp_seq ?_
    refine rl ?_
    refine G (q_al ?_)
    refine gend ?_
    refine awp_seq ?_
    refine awp_seq ?_
    refine rl ?_
    refine G (q_as (s := sc (cn 0)) ?_)
    refine gend ?_
    refine awp_block ?_
    refine awp_loop (fun j : {i : Nat // i ≤ (n + 15) / 16} => ⟨frm 139 [(1, sc (.ro n (u8s l))), (2, sc (.ptr 0 0)), (4, sc (.ptr 1 0)), (5, sc (.ptr 2 0)), (7, sc (.ptr 3 0)), (8, sc (cn (16 * j.1)))], [some (u8s key), some (u8s (List.replicate 16 0)), some (u64s R), some (u64s (racc l R j.1))]⟩) (fun j => (n + 15) / 16 - j.1) ⟨0, Nat.zero_le _⟩ (sle_sub ⟨rfl, rfl, rfl, rfl, rfl, rfl, trivial⟩ rfl) fun j => ?_
    have hac := racc_len l R j.1
    refine awp_seq ?_
    refine awp_seq ?_
    refine rl ?_
    refine Mv ?_
    refine Mv ?_
    refine G (q_leno ?_)
    refine G (q_lssn ?_)
    refine gend ?_
    refine cnd (fun hc2 => ?_) (fun hc2 => ?_); rotate_left
    · refine awp_exit ?_
      rw [show j.1 = (n + 15) / 16 from (by have := j.2; omega)]
      have hac := racc_len l R ((n + 15) / 16)
      generalize hA : racc l R ((n + 15) / 16) = A at hac ⊢
      refine awp_seq ?_
      refine rl ?_
      refine G (q_al ?_)
      refine gend ?_
      refine awp_seq ?_
      refine rl ?_
      refine G (q_as (s := sc (c64 0)) ?_)
      refine gend ?_
      refine awp_seq ?_
      refine awp_seq ?_
      refine rl ?_
      refine G (q_as (s := sc (cn 0)) ?_)
      refine gend ?_
      refine awp_block ?_
      refine awp_loop (fun y : {i : Nat // i ≤ 16} => ⟨frm 139 [(2, sc (.ptr 0 0)), (4, sc (.ptr 1 0)), (7, sc (.ptr 3 0)), (14, sc (.ptr 4 0)), (15, sc (c64 (rob A key y.1).2)), (16, sc (cn y.1))], [some (u8s key), some (u8s (List.replicate 16 0)), some (u64s R), some (u64s A), some (u8s (rob A key y.1).1)]⟩) (fun y => 16 - y.1) ⟨0, Nat.zero_le _⟩ (sle_sub ⟨rfl, rfl, rfl, rfl, rfl, rfl, trivial⟩ rfl) fun y => ?_   -- live: [2, 7, 14, 15, 16]
      have ho := rob_len A key y.1
      refine awp_seq ?_
      refine awp_seq ?_
      refine rl ?_
      refine Mv ?_
      refine G (q_lssn (y := 16) ?_)
      refine gend ?_
      refine cnd (fun hc3 => ?_) (fun hc3 => ?_); rotate_left
      · refine awp_exit ?_
        rw [show y.1 = 16 from (by have := y.2; omega)]
        have ho := rob_len A key 16
        refine awp_seq ?_
        refine rl ?_
        refine G (q_ldw  ?_ (hl := (mapc_length ..).trans ho))
        refine G0 (q_stw  ?_ (hl := (mapc_length ..).trans ho) (hc := (mapc_length ..).trans (List.length_replicate ..)))
        refine gend ?_
        refine awp_ret ?_
        exact fpc (t := 41) (a := 4) (hn := by exact (mapc_length ..).trans ho) (hv := by rw [rtag, hR, hl, hA])
      refine awp_skip ?_
      refine awp_seq ?_
      refine awp_block ?_
      refine awp_seq ?_
      refine rdl [] [] [] ?_
      refine Dp (fun _ => q_mv (s := .v (.c _)) ⟨rfl, rfl⟩) ?_
      refine Dp (fun _ => q_ixp1 ⟨rfl, rfl⟩) ?_
      refine DLp ?_
      refine Dp (fun _ => q_mv (s := .v (.c _)) ⟨rfl, rfl⟩) ?_
      refine Dp (fun _ => q_addn (x := 16) ⟨rfl, rfl⟩) ?_
      refine Dp (fun _ => q_ixp1 ⟨rfl, rfl⟩) ?_
      refine DLp ?_
      refine Dp (fun _ => q_cv8_64 ⟨rfl, rfl⟩) ?_
      refine Dp (fun _ => q_add64 ⟨rfl, rfl⟩) ?_
      refine Dp (fun _ => q_mv (s := .v (.c _)) ⟨rfl, rfl⟩) ?_
      refine Dp (fun _ => q_add64 ⟨rfl, rfl⟩) ?_
      refine Dp (fun _ => q_as (s := .v (.c _)) ⟨rfl, rfl⟩) ?_
      refine dend ?_
      refine awp_seq ?_
      refine rl ?_
      refine Mv ?_
      refine Mv ?_
      refine G (q_cv64_8 ?_)
      refine G (q_ixp1 ?_)
      refine G0 (q_stm ?_)
      refine gend ?_
      refine rl ?_
      refine Mv ?_
      refine G (q_quo64 (y := 256) ?_ (hz := by decide))
      refine As ?_
      refine gend ?_
      refine rl ?_
      refine Mv ?_
      refine G (q_addn (y := 1) ?_)
      refine As ?_
      refine gend ?_
      exact ⟨⟨y.1 + 1, by omega⟩, by show 16 - (y.1 + 1) < 16 - y.1; omega, sle_sub ⟨rfl, rfl, rfl, rfl, rfl, rfl, trivial⟩ rfl⟩   -- endloop 3
    refine awp_skip ?_
    refine awp_seq ?_
    refine awp_block ?_
    refine awp_seq ?_
    refine rl ?_
    refine Mv ?_
    refine G (q_leno ?_)
    refine Mv ?_
    refine G (q_subn ?_)
    refine As ?_
    refine gend ?_
    refine awp_mid ⟨frm 139 [(1, sc (.ro n (u8s l))), (2, sc (.ptr 0 0)), (4, sc (.ptr 1 0)), (5, sc (.ptr 2 0)), (7, sc (.ptr 3 0)), (8, sc (cn (16 * j.1))), (9, sc (cn (min 16 (n - 16 * j.1))))], [some (u8s key), some (u8s (List.replicate 16 0)), some (u64s R), some (u64s (racc l R j.1))]⟩ ?_ ?_
    · refine awp_seq ?_
      refine rl ?_
      refine Mv ?_
      refine G (q_gtrn (y := 16) ?_)
      refine gend ?_
      refine cnd (fun hc4 => ?_) (fun hc4 => ?_)
      · refine rl ?_
        refine G (q_as (s := sc (cn 16)) ?_)
        refine gend ?_
        exact sle_sub ⟨rfl, rfl, rfl, rfl, rfl, rfl, congrArg (fun i => sc (cn i)) (by omega), trivial⟩ rfl
      refine awp_skip ?_
      exact sle_sub ⟨rfl, rfl, rfl, rfl, rfl, rfl, congrArg (fun i => sc (cn i)) (by omega), trivial⟩ rfl
    refine awp_seq ?_
    refine awp_seq ?_
    refine rl ?_
    refine G (q_as (s := sc (cn 0)) ?_)
    refine gend ?_
    refine awp_block ?_
    refine awp_loop (fun a : {i : Nat // i ≤ (min 16 (n - 16 * j.1))} => ⟨frm 139 [(1, sc (.ro n (u8s l))), (2, sc (.ptr 0 0)), (4, sc (.ptr 1 0)), (5, sc (.ptr 2 0)), (7, sc (.ptr 3 0)), (8, sc (cn (16 * j.1))), (9, sc (cn (min 16 (n - 16 * j.1)))), (10, sc (cn a.1))], [some (u8s key), some (u8s (List.replicate 16 0)), some (u64s R), some (u64s (radd (racc l R j.1) l (16 * j.1) a.1))]⟩) (fun a => (min 16 (n - 16 * j.1)) - a.1) ⟨0, Nat.zero_le _⟩ (sle_sub ⟨rfl, rfl, rfl, rfl, rfl, rfl, rfl, rfl, trivial⟩ rfl) fun a => ?_   -- live: [1, 7, 8, 9, 10]
    have hradd := (radd_len (racc l R j.1) l (16 * j.1) a.1).trans hac
    refine awp_seq ?_
    refine awp_seq ?_
    refine rl ?_
    refine Mv ?_
    refine Mv ?_
    refine G (q_lssn ?_)
    refine gend ?_
    refine cnd (fun hc5 => ?_) (fun hc5 => ?_); rotate_left
    · refine awp_exit ?_
      rw [show a.1 = (min 16 (n - 16 * j.1)) from (by have := a.2; omega)]
      have hradd := (radd_len (racc l R j.1) l (16 * j.1) (min 16 (n - 16 * j.1))).trans hac
      refine awp_seq ?_
      refine rl ?_
      refine Mv ?_
      refine Mv ?_
      refine G (q_ixp1 ?_)
      refine G (q_ldp ?_)
      refine G (q_add64 (y := 1) ?_)
      refine G (q_ixp1 ?_)
      refine G0 (q_stm ?_)
      refine gend ?_
      refine awp_seq ?_
      refine rl ?_
      refine G (q_al ?_)
      refine gend ?_
      refine awp_seq ?_
      refine awp_seq ?_
      refine rl ?_
      refine G (q_as (s := sc (cn 0)) ?_)
      refine gend ?_
      refine awp_block ?_
      refine awp_loop (fun b : {i : Nat // i ≤ 17} => ⟨frm 139 [(1, sc (.ro n (u8s l))), (2, sc (.ptr 0 0)), (4, sc (.ptr 1 0)), (5, sc (.ptr 2 0)), (7, sc (.ptr 3 0)), (8, sc (cn (16 * j.1))), (11, sc (.ptr 4 0)), (12, sc (cn b.1))], [some (u8s key), some (u8s (List.replicate 16 0)), some (u64s R), some (u64s (rblk (racc l R j.1) l (16 * j.1) (min 16 (n - 16 * j.1)))), some (u64s (pout (rblk (racc l R j.1) l (16 * j.1) (min 16 (n - 16 * j.1))) R b.1))]⟩) (fun b => 17 - b.1) ⟨0, Nat.zero_le _⟩ (sle_sub ⟨rfl, rfl, rfl, rfl, rfl, rfl, rfl, rfl, trivial⟩ rfl) fun b => ?_   -- live: [5, 7, 11, 12]
      have hp34 := pout_len (rblk (racc l R j.1) l (16 * j.1) (min 16 (n - 16 * j.1))) R b.1
      have hrb : (rblk (racc l R j.1) l (16 * j.1) (min 16 (n - 16 * j.1))).length = 17 := List.length_set.trans hradd
      refine awp_seq ?_
      refine awp_seq ?_
      refine rl ?_
      refine Mv ?_
      refine G (q_lssn (y := 17) ?_)
      refine gend ?_
      refine cnd (fun hc6 => ?_) (fun hc6 => ?_); rotate_left
      · refine awp_exit ?_
        rw [show b.1 = 17 from (by have := b.2; omega)]
        have hp34 := pout_len (rblk (racc l R j.1) l (16 * j.1) (min 16 (n - 16 * j.1))) R 17
        have gS := rsmall_ (pout (rblk (racc l R j.1) l (16 * j.1) (min 16 (n - 16 * j.1))) R 17) hp34
        have hpa : racc l R (j.1 + 1) = rsmall (pout (rblk (racc l R j.1) l (16 * j.1) (min 16 (n - 16 * j.1))) R 17) := by rw [racc, hl]
        rw [← hpa] at gS
        have hA1 := racc_len l R (j.1 + 1)
        obtain ⟨A1, hA1e⟩ : ∃ A, racc l R (j.1 + 1) = A := ⟨_, rfl⟩
        rw [hA1e] at gS hA1
        generalize pout (rblk (racc l R j.1) l (16 * j.1) (min 16 (n - 16 * j.1))) R 17 = T at gS hp34 ⊢
        refine rl ?_
        refine G (q_ldw  ?_ (hl := (mapc_length ..).trans hp34))
        refine G (q_callp (gS/- escutcheon/escutcheonref09.small -/) ?_)
        refine G0 (q_stw  ?_ (hl := (mapc_length ..).trans hA1) (hc := (mapc_length ..).trans hrb))
        refine gend ?_
        refine rl ?_
        refine Mv ?_
        refine G (q_addn (y := 16) ?_)
        refine As ?_
        refine gend ?_
        exact ⟨⟨j.1 + 1, by omega⟩, by show (n + 15) / 16 - (j.1 + 1) < (n + 15) / 16 - j.1; omega, sle_view [0, 1, 2, 3] (fun p h => absurd h (Nat.not_lt_zero _)) (by decide) ⟨rs_ro, rfl, rfl, rfl, rfl, congrArg (fun i => sc (cn i)) (by show 16 * j.1 + 16 = 16 * (j.1 + 1); omega), trivial⟩ (vh4 (pick_m rfl) (pick_m rfl) (pick_m rfl) (pick_m (congrArg (fun z => some (some (u64s z))) hA1e.symm)))⟩   -- endloop 2
      refine awp_skip ?_
      refine awp_seq ?_
      refine awp_block ?_
      refine awp_seq ?_
      refine rl ?_
      refine G (q_as (s := sc (cn 0)) ?_)
      refine gend ?_
      refine awp_block ?_
      refine awp_loop (fun c : {i : Nat // i ≤ 16} => ⟨frm 139 [(1, sc (.ro n (u8s l))), (2, sc (.ptr 0 0)), (4, sc (.ptr 1 0)), (5, sc (.ptr 2 0)), (7, sc (.ptr 3 0)), (8, sc (cn (16 * j.1))), (11, sc (.ptr 4 0)), (12, sc (cn b.1)), (13, sc (cn c.1))], [some (u8s key), some (u8s (List.replicate 16 0)), some (u64s R), some (u64s (rblk (racc l R j.1) l (16 * j.1) (min 16 (n - 16 * j.1)))), some (u64s (pin (rblk (racc l R j.1) l (16 * j.1) (min 16 (n - 16 * j.1))) R b.1 (pout (rblk (racc l R j.1) l (16 * j.1) (min 16 (n - 16 * j.1))) R b.1) c.1))]⟩) (fun c => 16 - c.1) ⟨0, Nat.zero_le _⟩ (sle_sub ⟨rfl, rfl, rfl, rfl, rfl, rfl, rfl, rfl, rfl, trivial⟩ rfl) fun c => ?_   -- live: [5, 7, 11, 12, 13]
      have hpi := (pin_len (rblk (racc l R j.1) l (16 * j.1) (min 16 (n - 16 * j.1))) R b.1 (pout (rblk (racc l R j.1) l (16 * j.1) (min 16 (n - 16 * j.1))) R b.1) c.1).trans hp34
      refine awp_seq ?_
      refine awp_seq ?_
      refine rl ?_
      refine Mv ?_
      refine G (q_lssn (y := 16) ?_)
      refine gend ?_
      refine cnd (fun hc7 => ?_) (fun hc7 => ?_); rotate_left
      · refine awp_exit ?_
        rw [show c.1 = 16 from (by have := c.2; omega)]
        refine rl ?_
        refine Mv ?_
        refine G (q_addn (y := 1) ?_)
        refine As ?_
        refine gend ?_
        exact ⟨⟨b.1 + 1, by omega⟩, by show 17 - (b.1 + 1) < 17 - b.1; omega, sle_sub ⟨rfl, rfl, rfl, rfl, rfl, rfl, rfl, rfl, trivial⟩ rfl⟩   -- endloop 5
      refine awp_skip ?_
      refine awp_seq ?_
      refine awp_block ?_
      refine rdl [17] [] [0, 0, 0, 0, 0, 0, 0, 0, 0, 0, 0, 0, 0, 0, 0, 0, 0, 1] ?_
      refine Dp (fun _ => q_mv (s := .v (.c _)) ⟨rfl, rfl⟩) ?_
      refine Dp (fun _ => q_mv (s := .v (.c _)) ⟨rfl, rfl⟩) ?_
      refine Dp (fun _ => q_addn ⟨rfl, rfl⟩) ?_
      refine Dp (fun _ => q_mv (s := .v (.c _)) ⟨rfl, rfl⟩) ?_
      refine Dp (fun _ => q_mv (s := .v (.c _)) ⟨rfl, rfl⟩) ?_
      refine Dp (fun _ => q_addn ⟨rfl, rfl⟩) ?_
      refine Dp (fun _ => q_ixp1 ⟨rfl, rfl⟩) ?_
      refine DLp ?_
      refine Dp (fun _ => q_mv (s := .v (.c _)) ⟨rfl, rfl⟩) ?_
      refine Dp (fun _ => q_ixp1 ⟨rfl, rfl⟩) ?_
      refine DLp ?_
      refine Dp (fun _ => q_mv (s := .v (.c _)) ⟨rfl, rfl⟩) ?_
      refine Dp (fun _ => q_ixp1 ⟨rfl, rfl⟩) ?_
      refine DLp ?_
      refine Dp (fun _ => q_mul64 ⟨rfl, rfl⟩) ?_
      refine Dp (fun _ => q_add64 ⟨rfl, rfl⟩) ?_
      refine Dp (fun _ => q_ixp1 ⟨rfl, rfl⟩) ?_
      refine De0 (q_stm (pw ?_))
      refine dend ?_
      refine rl ?_
      refine Mv ?_
      refine G (q_addn (y := 1) ?_)
      refine As ?_
      refine gend ?_
      exact ⟨⟨c.1 + 1, by omega⟩, by show 16 - (c.1 + 1) < 16 - c.1; omega, sle_sub ⟨rfl, rfl, rfl, rfl, rfl, rfl, rfl, rfl, rfl, trivial⟩ rfl⟩   -- endloop 6
    refine awp_skip ?_
    refine awp_seq ?_
    refine awp_block ?_
    refine rdl [13] [] [0, 0, 0, 0, 0, 0, 0, 0, 0, 0, 0, 0, 0, 1] ?_
    refine Dp (fun _ => q_mv (s := .v (.c _)) ⟨rfl, rfl⟩) ?_
    refine Dp (fun _ => q_mv (s := .v (.c _)) ⟨rfl, rfl⟩) ?_
    refine Dp (fun _ => q_ixp1 ⟨rfl, rfl⟩) ?_
    refine DLp ?_
    refine Dp (fun _ => q_mv (s := .v (.c _)) ⟨rfl, rfl⟩) ?_
    refine Dp (fun _ => q_mv (s := .v (.c _)) ⟨rfl, rfl⟩) ?_
    refine Dp (fun _ => q_mv (s := .v (.c _)) ⟨rfl, rfl⟩) ?_
    refine Dp (fun _ => q_addn ⟨rfl, rfl⟩) ?_
    refine Dp (fun _ => q_ixo1 ⟨rfl, rfl⟩) ?_
    refine Dp (fun _ => q_ldrd ⟨rfl, rfl⟩) ?_
    refine Dp (fun _ => q_cv8_64 ⟨rfl, rfl⟩) ?_
    refine Dp (fun _ => q_add64 ⟨rfl, rfl⟩) ?_
    refine Dp (fun _ => q_ixp1 ⟨rfl, rfl⟩) ?_
    refine De0 (q_stm (pw ?_))
    refine dend ?_
    refine rl ?_
    refine Mv ?_
    refine G (q_addn (y := 1) ?_)
    refine As ?_
    refine gend ?_
    exact ⟨⟨a.1 + 1, by omega⟩, by show (min 16 (n - 16 * j.1)) - (a.1 + 1) < (min 16 (n - 16 * j.1)) - a.1; omega, sle_sub ⟨rfl, rfl, rfl, rfl, rfl, rfl, rfl, rfl, trivial⟩ rfl⟩   -- endloop 4
  refine awp_skip ?_
  refine awp_seq ?_
  refine awp_block ?_
  refine awp_seq ?_
  refine rl ?_
  refine Mv ?_
  refine Mv ?_
  refine G (q_ixp1 ?_)
  refine G (q_ldp ?_)
  refine G (q_cv8_64 ?_)
  refine G (q_ixp1 ?_)
  refine G0 (q_stm ?_)
  refine gend ?_
  refine awp_mid ⟨frm 139 [(1, sc (.ro n (u8s l))), (2, sc (.ptr 0 0)), (4, sc (.ptr 1 0)), (5, sc (.ptr 2 0)), (6, sc (cn x.1))], [some (u8s key), some (u8s (List.replicate 16 0)), some (u64s ((rr key x.1).set x.1 (rv1 key x.1)))]⟩ ?_ ?_
  · refine awp_seq ?_
    refine rl ?_
    refine Mv ?_
    refine G (q_remn (y := 4) ?_)
    refine G (q_eqln (y := 3) ?_)
    refine gend ?_
    refine cnd (fun hc8 => ?_) (fun hc8 => ?_)
    · refine rl ?_
      refine Mv ?_
      refine Mv ?_
      refine G (q_ixp1 ?_)
      refine G (q_ldp ?_)
      refine G (q_rem64 (y := 16) ?_ (hz := by decide))
      refine G (q_ixp1 ?_)
      refine G0 (q_stm ?_)
      refine gend ?_
      exact sle_sub ⟨rfl, rfl, rfl, rfl, rfl, trivial⟩ (congrArg (fun z => [some (u8s key), some (u8s (List.replicate 16 0)), some (u64s z)]) (by first | (rw [rv1, if_pos (by assumption)]; exact set_mod _ _ (by omega) _ (fun y => y % 16)) | rw [rv1, if_neg (by assumption)]))
    refine awp_skip ?_
    exact sle_sub ⟨rfl, rfl, rfl, rfl, rfl, trivial⟩ (congrArg (fun z => [some (u8s key), some (u8s (List.replicate 16 0)), some (u64s z)]) (by first | (rw [rv1, if_pos (by assumption)]; exact set_mod _ _ (by omega) _ (fun y => y % 16)) | rw [rv1, if_neg (by assumption)]))
  refine awp_mid ⟨frm 139 [(1, sc (.ro n (u8s l))), (2, sc (.ptr 0 0)), (4, sc (.ptr 1 0)), (5, sc (.ptr 2 0)), (6, sc (cn x.1)), (46, sc (.bool (decide (x.1 = 4 ∨ x.1 = 8 ∨ x.1 = 12))))], [some (u8s key), some (u8s (List.replicate 16 0)), some (u64s ((rr key x.1).set x.1 (rv1 key x.1)))]⟩ ?_ ?_
  · refine rl ?_
    refine Mv ?_
    refine G (q_eqln (y := 4) ?_)
    refine Mv ?_
    refine Aspd 39 (fun hb3 => ?_) (fun hb3 => ?_)
    · refine Gn ?_
      refine Gn ?_
      refine G (q_pkt ?_)
      refine Mv ?_
      refine Gn ?_
      refine Gn ?_
      refine G (q_pkt ?_)
      refine gend ?_
      exact sle_sub ⟨rfl, rfl, rfl, rfl, rfl, congrArg (fun b => sc (.bool b)) (by simp [*]), trivial⟩ rfl
    refine Gg (q_mv (s := .v (.c _)) ?_)
    refine Gg (q_eqln (y := 8) ?_)
    refine G (q_pkf ?_)
    refine Mv ?_
    refine Aspd 43 (fun hb7 => ?_) (fun hb7 => ?_)
    · refine Gn ?_
      refine Gn ?_
      refine G (q_pkt ?_)
      refine gend ?_
      exact sle_sub ⟨rfl, rfl, rfl, rfl, rfl, congrArg (fun b => sc (.bool b)) (by simp [*]), trivial⟩ rfl
    refine Gg (q_mv (s := .v (.c _)) ?_)
    refine Gg (q_eqln (y := 12) ?_)
    refine G (q_pkf ?_)
    refine gend ?_
    exact sle_sub ⟨rfl, rfl, rfl, rfl, rfl, congrArg (fun b => sc (.bool b)) (by simp [*]), trivial⟩ rfl
  refine cndb (fun hc9 => ?_) (fun hc9 => ?_)
  · refine rl ?_
    refine Mv ?_
    refine Mv ?_
    refine G (q_ixp1 ?_)
    refine G (q_ldp ?_)
    refine G (q_quo64 (y := 4) ?_ (hz := by decide))
    refine G (q_mul64 (y := 4) ?_)
    refine G (q_ixp1 ?_)
    refine G0 (q_stm ?_)
    refine gend ?_
    refine rl ?_
    refine Mv ?_
    refine G (q_addn (y := 1) ?_)
    refine As ?_
    refine gend ?_
    exact ⟨⟨x.1 + 1, by omega⟩, by show 16 - (x.1 + 1) < 16 - x.1; omega, sle_sub ⟨rfl, rfl, rfl, rfl, rfl, trivial⟩ (congrArg (fun z => [some (u8s key), some (u8s (List.replicate 16 0)), some (u64s z)]) (by rw [rr, rv]; first | (rw [if_pos (of_decide_eq_true (by assumption))]; exact set_mod _ _ (by omega) _ (fun y => y / 4 * 4)) | rw [if_neg (of_decide_eq_false (by assumption))]))⟩   -- endloop 1
  refine awp_skip ?_
  refine rl ?_
  refine Mv ?_
  refine G (q_addn (y := 1) ?_)
  refine As ?_
  refine gend ?_
  exact ⟨⟨x.1 + 1, by omega⟩, by show 16 - (x.1 + 1) < 16 - x.1; omega, sle_sub ⟨rfl, rfl, rfl, rfl, rfl, trivial⟩ (congrArg (fun z => [some (u8s key), some (u8s (List.replicate 16 0)), some (u64s z)]) (by rw [rr, rv]; first | (rw [if_pos (of_decide_eq_true (by assumption))]; exact set_mod _ _ (by omega) _ (fun y => y / 4 * 4)) | rw [if_neg (of_decide_eq_false (by assumption))]))⟩   -- endloop 1
end Go.Proofs.Ytcihpgdmldkjfaa.Po

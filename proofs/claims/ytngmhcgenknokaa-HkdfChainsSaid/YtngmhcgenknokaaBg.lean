/- What functions of the program do, walked over the abstract machine. -/
import Derived.Test.YtngmhcgenknokaaBe
namespace Go.Proofs.Ytngmhcgenknokaa
open Go Go.Abs Go.Proofs

abbrev RC3 : List Cell := [.slc 3 0 16 1, .slc 4 0 16 1, .slc 5 0 16 1, .slc 6 0 16 1, .slc 7 0 16 1, .slc 8 0 16 1, .slc 9 0 16 1, .slc 10 0 16 1, .slc 11 0 16 1, .slc 12 0 16 1]
abbrev CC : List Cell := [.slc 14 0 4 1, .slc 15 0 4 1, .slc 16 0 4 1, .slc 17 0 4 1, .slc 18 0 4 1, .slc 19 0 4 1, .slc 20 0 4 1, .slc 21 0 4 1]
abbrev colz (i : Nat) : List Cell := [cn (i % 4), cn (4 + (i + i / 4) % 4), cn (8 + (i + 2 * (i / 4)) % 4), cn (12 + (i + 3 * (i / 4)) % 4)]
theorem rc3_at (i : Nat) (h : i < 10) : RC3[i]? = some (.slc (3 + i) 0 16 1) := by
  have e : i = 0 ∨ i = 1 ∨ i = 2 ∨ i = 3 ∨ i = 4 ∨ i = 5 ∨ i = 6 ∨ i = 7 ∨ i = 8 ∨ i = 9 := by omega
  rcases e with rfl | rfl | rfl | rfl | rfl | rfl | rfl | rfl | rfl | rfl <;> rfl
theorem cc_at (i : Nat) (h : i < 8) : CC[i]? = some (.slc (14 + i) 0 4 1) := by
  have e : i = 0 ∨ i = 1 ∨ i = 2 ∨ i = 3 ∨ i = 4 ∨ i = 5 ∨ i = 6 ∨ i = 7 := by omega
  rcases e with rfl | rfl | rfl | rfl | rfl | rfl | rfl | rfl <;> rfl
abbrev RP (a b c : List Cell) (T : Heap) : Heap := some a :: some b :: some c :: some (i64s (row 0)) :: some (i64s (row 1)) :: some (i64s (row 2)) :: some (i64s (row 3)) :: some (i64s (row 4)) :: some (i64s (row 5)) :: some (i64s (row 6)) :: some (i64s (row 7)) :: some (i64s (row 8)) :: some (i64s (row 9)) :: some RC3 ::
  some (colz 0) :: some (colz 1) :: some (colz 2) :: some (colz 3) :: some (colz 4) :: some (colz 5) :: some (colz 6) :: some (colz 7) :: some CC :: T
theorem rp_row {a b c : List Cell} {T : Heap} (i : Nat) (h : i < 10) : (RP a b c T)[3 + i]? = some (some (i64s (row i))) := by
  have e : i = 0 ∨ i = 1 ∨ i = 2 ∨ i = 3 ∨ i = 4 ∨ i = 5 ∨ i = 6 ∨ i = 7 ∨ i = 8 ∨ i = 9 := by omega
  rcases e with rfl | rfl | rfl | rfl | rfl | rfl | rfl | rfl | rfl | rfl <;> rfl
theorem rp_col {a b c : List Cell} {T : Heap} (i : Nat) (h : i < 8) : (RP a b c T)[14 + i]? = some (some (colz i)) := by
  have e : i = 0 ∨ i = 1 ∨ i = 2 ∨ i = 3 ∨ i = 4 ∨ i = 5 ∨ i = 6 ∨ i = 7 := by omega
  rcases e with rfl | rfl | rfl | rfl | rfl | rfl | rfl | rfl <;> rfl
def fl8 (F : List UInt32) : Nat → List UInt32
  | 0 => List.replicate 8 0
  | k + 1 => (fl8 F k).set k (F.getD k 0)
theorem fl8_len (F : List UInt32) : ∀ k, (fl8 F k).length = 8
  | 0 => by simp [fl8]
  | k + 1 => by rw [fl8, List.length_set, fl8_len]
def bat (m : List UInt8) (q : Nat) : UInt32 := if q < m.length then (m.getD q 0).toUInt32 else 0
def rwd (m : List UInt8) (j : Nat) : Nat → List UInt32
  | 0 => List.replicate 16 0
  | k + 1 => (rwd m j k).set ((63 - k) / 4) ((rwd m j k).getD ((63 - k) / 4) 0 * 256 + bat m (64 * j + (63 - k)))
theorem rwd_len (m : List UInt8) (j : Nat) : ∀ k, (rwd m j k).length = 16
  | 0 => by simp [rwd]
  | k + 1 => by rw [rwd, List.length_set, rwd_len]
def rv5 (h F : List UInt32) : Nat → List UInt32
  | 0 => List.replicate 16 0
  | k + 1 => ((rv5 h F k).set k (h.getD k 0)).set (8 + k) (F.getD k 0)
theorem rv5_len (h F : List UInt32) : ∀ k, (rv5 h F k).length = 16
  | 0 => by simp [rv5]
  | k + 1 => by rw [rv5, List.length_set, List.length_set, rv5_len]
def rT (n j N : Nat) : UInt64 := if j = N - 1 then UInt64.ofNat n else UInt64.ofNat (64 * j + 64)
def rv6 (h F : List UInt32) (j N : Nat) : List UInt32 := if j = N - 1 then (rv5 h F 8).set 14 (~~~ (rv5 h F 8).getD 14 0) else rv5 h F 8
theorem rv6_len (h F : List UInt32) (j N : Nat) : (rv6 h F j N).length = 16 := by
  unfold rv6; split <;> simp [rv5_len]
def rv7 (h F : List UInt32) (n j N : Nat) : List UInt32 :=
  ((rv6 h F j N).set 12 ((rv6 h F j N).getD 12 0 ^^^ (rT n j N).toUInt32)).set 13 (((rv6 h F j N).set 12 ((rv6 h F j N).getD 12 0 ^^^ (rT n j N).toUInt32)).getD 13 0 ^^^ (shr64n (rT n j N) (UInt64.toNat 32)).toUInt32)
theorem rv7_len (h F : List UInt32) (n j N : Nat) : (rv7 h F n j N).length = 16 := by simp [rv7, rv6_len]
def rhx (h v : List UInt32) : Nat → List UInt32
  | 0 => h
  | i + 1 => (rhx h v i).set i ((rhx h v i).getD i 0 ^^^ v.getD i 0 ^^^ v.getD (8 + i) 0)
theorem rhx_len (h v : List UInt32) : ∀ i, (rhx h v i).length = h.length
  | 0 => rfl
  | i + 1 => by rw [rhx, List.length_set, rhx_len]
def rhc (F : List UInt32) (m : List UInt8) (N : Nat) : Nat → List UInt32
  | 0 => F.set 0 (F.getD 0 0 ^^^ 16842784)
  | j + 1 => rhx (rhc F m N j) (rnds (rwd m j 64) (rv7 (rhc F m N j) F m.length j N) 10) 8
theorem rhc_len (F : List UInt32) (m : List UInt8) (N : Nat) (hF : F.length = 8) : ∀ j, (rhc F m N j).length = 8
  | 0 => by simp [rhc, hF]
  | j + 1 => by rw [rhc, rhx_len, rhc_len F m N hF]
def rout (h : List UInt32) : Nat → List UInt8
  | 0 => List.replicate 32 0
  | i + 1 => (rout h i).set i (shr32n (h.getD (i / 4) 0) (UInt64.ofNat (8 * (i % 4))).toNat).toUInt8
theorem rout_len (h : List UInt32) : ∀ i, (rout h i).length = 32
  | 0 => by simp [rout]
  | i + 1 => by rw [rout, List.length_set, rout_len]
theorem u32_set {l : List UInt32} {j : Nat} {v : UInt32} (h : j < l.length) : (u32s (l.set j v))[j]? = some (c32 v) := by
  simp [mapc, h]
def nbl (n : Nat) : Nat := if (n + 63) / 64 = 0 then 1 else (n + 63) / 64
def rfst : List UInt32 := fl8 fst8 8
def rsum (m : List UInt8) : List UInt8 := rout (rhc rfst m (nbl m.length) (nbl m.length)) 32
theorem rsum_len (m : List UInt8) : (rsum m).length = 32 := rout_len _ _
set_option maxHeartbeats 3200000 in
/-- escutcheonref11.Sum -/
theorem rsum_ (m : List UInt8) (n : Nat) (hm : m.length = n) (hn9 : n ≤ 100000) : Good Try.prog 10 [.c (.ro n (u8s m))] [] (sa (u8s (rsum m))) [] := by
  refine good_frm 214 Try.func10 rfl rfl rfl rfl rfl rfl ?_
  refine awp_seq ?_
  refine rl ?_
  refine G (q_al ?_)
  refine gend ?_
  refine awp_seq ?_
  refine rl ?_
  refine G (q_al ?_)
  refine G (q_al ?_)
  refine gend ?_
  refine awp_seq ?_
  refine awp_seq ?_
  refine rl ?_
  refine G (q_as (s := sc (cn 0)) ?_)
  refine gend ?_
  refine awp_block ?_
  refine awp_loop (fun x : {i : Nat // i ≤ 8} => ⟨frm 214 [(0, sc (.ro n (u8s m))), (2, sc (.ptr 0 0)), (3, sc (.ptr 1 0)), (4, sc (.ptr 2 0)), (5, sc (cn x.1))], [some (u8s (List.replicate 32 0)), some (u32s (fl8 fst8 x.1)), some (u32s (fl8 fst8 x.1))]⟩) (fun x => 8 - x.1) ⟨0, Nat.zero_le _⟩ (sle_sub ⟨rfl, rfl, rfl, rfl, rfl, trivial⟩ rfl) fun x => ?_   -- live: [3, 4, 5]
  have hf := fl8_len fst8 x.1
  refine awp_seq ?_
  refine awp_seq ?_
  refine rl ?_
  refine Mv ?_
  refine G (q_lssn (y := 8) ?_)
  refine gend ?_
  refine cnd (fun hc1 => ?_) (fun hc1 => ?_); rotate_left
  · refine awp_exit ?_
    rw [show x.1 = 8 from (by have := x.2; omega)]
    have hF := fl8_len fst8 8
    generalize hFe : fl8 fst8 8 = F at hF ⊢
    refine awp_seq ?_
    refine rl ?_
    refine G (q_ixp1 ?_)
    refine G (q_ldp ?_)
    refine G (q_xor32 (y := 16842784) ?_)
    refine G (q_ixp1 ?_)
    refine G0 (q_stm ?_)
    refine gend ?_
    refine awp_seq ?_
    refine rl ?_
    refine G (q_callv [] [] [some (i64s (row 0)), some (i64s (row 1)), some (i64s (row 2)), some (i64s (row 3)), some (i64s (row 4)), some (i64s (row 5)), some (i64s (row 6)), some (i64s (row 7)), some (i64s (row 8)), some (i64s (row 9)), some RC] orders_r ?_ (M' := [some (i64s (row 0)), some (i64s (row 1)), some (i64s (row 2)), some (i64s (row 3)), some (i64s (row 4)), some (i64s (row 5)), some (i64s (row 6)), some (i64s (row 7)), some (i64s (row 8)), some (i64s (row 9)), some RC3]) (eM := ml1 sees_m (ml1 sees_m (ml1 sees_m (ml1 sees_m (ml1 sees_m (ml1 sees_m (ml1 sees_m (ml1 sees_m (ml1 sees_m (ml1 sees_m (ml1 rfl ml0))))))))))))
    refine As ?_
    refine gend ?_
    refine awp_seq ?_
    refine rl ?_
    refine G (q_bsl (fkc (c := cn 0) rfl rfl rfl (Nat.le_of_ble_eq_true rfl) (fkc (c := cn 4) rfl rfl rfl (Nat.le_of_ble_eq_true rfl) (fkc (c := cn 8) rfl rfl rfl (Nat.le_of_ble_eq_true rfl) (fkc (c := cn 12) rfl rfl rfl (Nat.le_of_ble_eq_true rfl) (fk0 ?_))))))
    refine G (q_bsl (fkc (c := cn 1) rfl rfl rfl (Nat.le_of_ble_eq_true rfl) (fkc (c := cn 5) rfl rfl rfl (Nat.le_of_ble_eq_true rfl) (fkc (c := cn 9) rfl rfl rfl (Nat.le_of_ble_eq_true rfl) (fkc (c := cn 13) rfl rfl rfl (Nat.le_of_ble_eq_true rfl) (fk0 ?_))))))
    refine G (q_bsl (fkc (c := cn 2) rfl rfl rfl (Nat.le_of_ble_eq_true rfl) (fkc (c := cn 6) rfl rfl rfl (Nat.le_of_ble_eq_true rfl) (fkc (c := cn 10) rfl rfl rfl (Nat.le_of_ble_eq_true rfl) (fkc (c := cn 14) rfl rfl rfl (Nat.le_of_ble_eq_true rfl) (fk0 ?_))))))
    refine G (q_bsl (fkc (c := cn 3) rfl rfl rfl (Nat.le_of_ble_eq_true rfl) (fkc (c := cn 7) rfl rfl rfl (Nat.le_of_ble_eq_true rfl) (fkc (c := cn 11) rfl rfl rfl (Nat.le_of_ble_eq_true rfl) (fkc (c := cn 15) rfl rfl rfl (Nat.le_of_ble_eq_true rfl) (fk0 ?_))))))
    refine G (q_bsl (fkc (c := cn 0) rfl rfl rfl (Nat.le_of_ble_eq_true rfl) (fkc (c := cn 5) rfl rfl rfl (Nat.le_of_ble_eq_true rfl) (fkc (c := cn 10) rfl rfl rfl (Nat.le_of_ble_eq_true rfl) (fkc (c := cn 15) rfl rfl rfl (Nat.le_of_ble_eq_true rfl) (fk0 ?_))))))
    refine G (q_bsl (fkc (c := cn 1) rfl rfl rfl (Nat.le_of_ble_eq_true rfl) (fkc (c := cn 6) rfl rfl rfl (Nat.le_of_ble_eq_true rfl) (fkc (c := cn 11) rfl rfl rfl (Nat.le_of_ble_eq_true rfl) (fkc (c := cn 12) rfl rfl rfl (Nat.le_of_ble_eq_true rfl) (fk0 ?_))))))
    refine G (q_bsl (fkc (c := cn 2) rfl rfl rfl (Nat.le_of_ble_eq_true rfl) (fkc (c := cn 7) rfl rfl rfl (Nat.le_of_ble_eq_true rfl) (fkc (c := cn 8) rfl rfl rfl (Nat.le_of_ble_eq_true rfl) (fkc (c := cn 13) rfl rfl rfl (Nat.le_of_ble_eq_true rfl) (fk0 ?_))))))
    refine G (q_bsl (fkc (c := cn 3) rfl rfl rfl (Nat.le_of_ble_eq_true rfl) (fkc (c := cn 4) rfl rfl rfl (Nat.le_of_ble_eq_true rfl) (fkc (c := cn 9) rfl rfl rfl (Nat.le_of_ble_eq_true rfl) (fkc (c := cn 14) rfl rfl rfl (Nat.le_of_ble_eq_true rfl) (fk0 ?_))))))
    refine G (q_bsl (fkc rfl (et rfl) rfl (Nat.le_of_ble_eq_true rfl) (fkc rfl (et rfl) rfl (Nat.le_of_ble_eq_true rfl) (fkc rfl (et rfl) rfl (Nat.le_of_ble_eq_true rfl) (fkc rfl (et rfl) rfl (Nat.le_of_ble_eq_true rfl) (fkc rfl (et rfl) rfl (Nat.le_of_ble_eq_true rfl) (fkc rfl (et rfl) rfl (Nat.le_of_ble_eq_true rfl) (fkc rfl (et rfl) rfl (Nat.le_of_ble_eq_true rfl) (fkc rfl (et rfl) rfl (Nat.le_of_ble_eq_true rfl) (fk0 ?_))))))))))
    refine As ?_
    refine gend ?_
    refine awp_seq ?_
    refine rl ?_
    refine Mv ?_
    refine G (q_leno ?_)
    refine G (q_addn (y := 63) ?_)
    refine G (q_quon (y := 64) ?_)
    refine As ?_
    refine gend ?_
    refine awp_mid ⟨frm 214 [(0, sc (.ro n (u8s m))), (2, sc (.ptr 0 0)), (3, sc (.ptr 1 0)), (4, sc (.ptr 2 0)), (6, sc (.slc 13 0 10 1)), (7, sc (.slc 22 0 8 1)), (8, sc (cn (nbl n)))], (RP (u8s (List.replicate 32 0)) (u32s F) (u32s (F.set 0 (F.getD 0 0 ^^^ 16842784))) [])⟩ ?_ ?_
    · refine awp_seq ?_
      refine rl ?_
      refine Mv ?_
      refine G (q_eqln (y := 0) ?_)
      refine gend ?_
      refine cnd (fun hc2 => ?_) (fun hc2 => ?_)
      · refine rl ?_
        refine G (q_as (s := sc (cn 1)) ?_)
        refine gend ?_
        exact sle_sub ⟨rfl, rfl, rfl, rfl, rfl, rfl, congrArg (fun k => sc (cn k)) (by rw [nbl]; split <;> omega), trivial⟩ rfl
      refine awp_skip ?_
      exact sle_sub ⟨rfl, rfl, rfl, rfl, rfl, rfl, congrArg (fun k => sc (cn k)) (by rw [nbl]; split <;> omega), trivial⟩ rfl
    refine awp_seq ?_
    refine awp_seq ?_
    refine rl ?_
    refine G (q_as (s := sc (cn 0)) ?_)
    refine gend ?_
    refine awp_block ?_
    have hN1 : 1 ≤ nbl n ∧ nbl n ≤ 2000 := by unfold nbl; split <;> omega
    generalize hNe : nbl n = N at hN1 ⊢
    refine awp_loop (fun j : {i : Nat // i ≤ N} => ⟨frm 214 [(0, sc (.ro n (u8s m))), (2, sc (.ptr 0 0)), (3, sc (.ptr 1 0)), (4, sc (.ptr 2 0)), (6, sc (.slc 13 0 10 1)), (7, sc (.slc 22 0 8 1)), (8, sc (cn N)), (9, sc (cn j.1))], (RP (u8s (List.replicate 32 0)) (u32s F) (u32s (rhc F m N j.1)) [])⟩) (fun j => N - j.1) ⟨0, Nat.zero_le _⟩ (sle_sub ⟨rfl, rfl, rfl, rfl, rfl, rfl, rfl, rfl, trivial⟩ rfl) fun j => ?_   -- live: [0, 3, 4, 6, 7, 8, 9]
    have hh := rhc_len F m N hF j.1
    generalize hHj : rhc F m N j.1 = Hj at hh ⊢
    refine awp_seq ?_
    refine awp_seq ?_
    refine rl ?_
    refine Mv ?_
    refine Mv ?_
    refine G (q_lssn ?_)
    refine gend ?_
    refine cnd (fun hc3 => ?_) (fun hc3 => ?_); rotate_left
    · refine awp_exit ?_
      have hjN : j.1 = N := by have := j.2; omega
      rw [hjN] at hHj ⊢
      refine awp_seq ?_
      refine rl ?_
      refine G (q_al ?_)
      refine gend ?_
      refine awp_seq ?_
      refine awp_seq ?_
      refine rl ?_
      refine G (q_as (s := sc (cn 0)) ?_)
      refine gend ?_
      refine awp_block ?_
      refine awp_loop (fun y : {i : Nat // i ≤ 32} => ⟨frm 214 [(2, sc (.ptr 0 0)), (4, sc (.ptr 2 0)), (20, sc (.ptr 23 0)), (21, sc (cn y.1))], (RP (u8s (List.replicate 32 0)) (u32s F) (u32s Hj) [some (u8s (rout Hj y.1))])⟩) (fun y => 32 - y.1) ⟨0, Nat.zero_le _⟩ (sle_sub ⟨rfl, rfl, rfl, rfl, trivial⟩ rfl) fun y => ?_   -- live: [4, 20, 21]
      have hy := rout_len Hj y.1
      refine awp_seq ?_
      refine awp_seq ?_
      refine rl ?_
      refine Mv ?_
      refine G (q_lssn (y := 32) ?_)
      refine gend ?_
      refine cnd (fun hc4 => ?_) (fun hc4 => ?_); rotate_left
      · refine awp_exit ?_
        rw [show y.1 = 32 from (by have := y.2; omega)]
        have hy := rout_len Hj 32
        refine awp_seq ?_
        refine rl ?_
        refine G (q_ldw  ?_ (hl := (mapc_length ..).trans hy))
        refine G0 (q_stw  ?_ (hl := (mapc_length ..).trans hy) (hc := (mapc_length ..).trans (List.length_replicate ..)))
        refine gend ?_
        refine awp_ret ?_
        exact fpc (t := 25) (a := 2) (hn := by exact (mapc_length ..).trans hy) (hv := by rw [rsum, rfst, hFe, hm, hNe, hHj])
      refine awp_skip ?_
      refine awp_seq ?_
      refine awp_block ?_
      refine rl ?_
      refine Mv ?_
      refine Mv ?_
      refine G (q_quon (y := 4) ?_)
      refine G (q_ixp1 ?_)
      refine G (q_ldp ?_)
      refine Mv ?_
      refine G (q_remn (y := 4) ?_)
      refine G (q_muln (x := 8) ?_)
      refine G (q_cv0_64 ?_)
      refine G (q_shr32_64 ?_)
      refine G (q_cv32_8 ?_)
      refine G (q_ixp1 ?_)
      refine G0 (q_stm ?_)
      refine gend ?_
      refine rl ?_
      refine Mv ?_
      refine G (q_addn (y := 1) ?_)
      refine As ?_
      refine gend ?_
      exact ⟨⟨y.1 + 1, by omega⟩, by show 32 - (y.1 + 1) < 32 - y.1; omega, sle_sub ⟨rfl, rfl, rfl, rfl, trivial⟩ rfl⟩   -- endloop 3
    refine awp_skip ?_
    refine awp_seq ?_
    refine awp_block ?_
    refine awp_seq ?_
    refine rl ?_
    refine G (q_al ?_)
    refine G (q_al ?_)
    refine gend ?_
    refine awp_seq ?_
    refine awp_seq ?_
    refine rl ?_
    refine G (q_as (s := sc (cn 63)) ?_)
    refine gend ?_
    refine awp_block ?_
    refine awp_loop (fun k : {i : Nat // i ≤ 64} => ⟨frm 214 [(0, sc (.ro n (u8s m))), (2, sc (.ptr 0 0)), (3, sc (.ptr 1 0)), (4, sc (.ptr 2 0)), (6, sc (.slc 13 0 10 1)), (7, sc (.slc 22 0 8 1)), (8, sc (cn N)), (9, sc (cn j.1)), (10, sc (.ptr 23 0)), (11, sc (.ptr 24 0)), (12, sc (ci (63 - (k.1 : Int))))], (RP (u8s (List.replicate 32 0)) (u32s F) (u32s Hj) [some (u32s (rwd m j.1 k.1)), some (u32s (List.replicate 16 0))])⟩) (fun k => 64 - k.1) ⟨0, Nat.zero_le _⟩ (sle_sub ⟨rfl, rfl, rfl, rfl, rfl, rfl, rfl, rfl, rfl, rfl, rfl, trivial⟩ rfl) fun k => ?_   -- live: [0, 9, 10, 12]
    have hw := rwd_len m j.1 k.1
    refine awp_seq ?_
    refine awp_seq ?_
    refine rl ?_
    refine Mv ?_
    refine G (q_geqi (y := 0) ?_)
    refine gend ?_
    refine cnd (fun hc5 => ?_) (fun hc5 => ?_); rotate_left
    · refine awp_exit ?_
      rw [show k.1 = 64 from (by have := k.2; omega)]
      have hMl := rwd_len m j.1 64
      generalize hM : rwd m j.1 64 = M at hMl ⊢
      refine awp_seq ?_
      refine rl ?_
      refine Mv ?_
      refine G (q_muln (x := 64) ?_)
      refine G (q_addn (y := 64) ?_)
      refine G (q_cv0_64 ?_)
      refine As ?_
      refine gend ?_
      refine awp_seq ?_
      refine awp_seq ?_
      refine rl ?_
      refine G (q_as (s := sc (cn 0)) ?_)
      refine gend ?_
      refine awp_block ?_
      refine awp_loop (fun k : {i : Nat // i ≤ 8} => ⟨frm 214 [(0, sc (.ro n (u8s m))), (2, sc (.ptr 0 0)), (3, sc (.ptr 1 0)), (4, sc (.ptr 2 0)), (6, sc (.slc 13 0 10 1)), (7, sc (.slc 22 0 8 1)), (8, sc (cn N)), (9, sc (cn j.1)), (10, sc (.ptr 23 0)), (11, sc (.ptr 24 0)), (14, sc (c64 (UInt64.ofNat (64 * j.1 + 64)))), (15, sc (cn k.1))], (RP (u8s (List.replicate 32 0)) (u32s F) (u32s Hj) [some (u32s M), some (u32s (rv5 Hj F k.1))])⟩) (fun k => 8 - k.1) ⟨0, Nat.zero_le _⟩ (sle_sub ⟨rfl, rfl, rfl, rfl, rfl, rfl, rfl, rfl, rfl, rfl, rfl, rfl, trivial⟩ rfl) fun k => ?_   -- live: [3, 4, 11, 15]
      have hv := rv5_len Hj F k.1
      refine awp_seq ?_
      refine awp_seq ?_
      refine rl ?_
      refine Mv ?_
      refine G (q_lssn (y := 8) ?_)
      refine gend ?_
      refine cnd (fun hc6 => ?_) (fun hc6 => ?_); rotate_left
      · refine awp_exit ?_
        rw [show k.1 = 8 from (by have := k.2; omega)]
        have hv8 := rv5_len Hj F 8
        have hv6 := rv6_len Hj F j.1 N
        refine awp_mid ⟨frm 214 [(0, sc (.ro n (u8s m))), (2, sc (.ptr 0 0)), (3, sc (.ptr 1 0)), (4, sc (.ptr 2 0)), (6, sc (.slc 13 0 10 1)), (7, sc (.slc 22 0 8 1)), (8, sc (cn N)), (9, sc (cn j.1)), (10, sc (.ptr 23 0)), (11, sc (.ptr 24 0)), (14, sc (c64 (rT n j.1 N)))], (RP (u8s (List.replicate 32 0)) (u32s F) (u32s Hj) [some (u32s M), some (u32s (rv6 Hj F j.1 N))])⟩ ?_ ?_
        · refine awp_seq ?_
          refine rl ?_
          refine Mv ?_
          refine Mv ?_
          refine G (q_subn (y := 1) ?_)
          refine G (q_eqln ?_)
          refine gend ?_
          refine cnd (fun hc7 => ?_) (fun hc7 => ?_)
          · refine awp_seq ?_
            refine rl ?_
            refine Mv ?_
            refine G (q_leno ?_)
            refine G (q_cv0_64 ?_)
            refine As ?_
            refine gend ?_
            refine rl ?_
            refine G (q_ixp1 ?_)
            refine G (q_ldp ?_)
            refine G (q_not32 ?_)
            refine G (q_ixp1 ?_)
            refine G0 (q_stm ?_)
            refine gend ?_
            exact sle_sub ⟨rfl, rfl, rfl, rfl, rfl, rfl, rfl, rfl, rfl, rfl, congrArg (fun k => sc (c64 k)) (by rw [rT]; first | rw [if_neg hc7] | rw [if_pos hc7]), trivial⟩ (by rw [rv6]; first | (rw [if_neg hc7]; done) | (rw [if_neg hc7]; rfl) | (rw [if_pos hc7]; done) | (rw [if_pos hc7]; rfl))
          refine awp_skip ?_
          exact sle_sub ⟨rfl, rfl, rfl, rfl, rfl, rfl, rfl, rfl, rfl, rfl, congrArg (fun k => sc (c64 k)) (by rw [rT]; first | rw [if_neg hc7] | rw [if_pos hc7]), trivial⟩ (by rw [rv6]; first | (rw [if_neg hc7]; done) | (rw [if_neg hc7]; rfl) | (rw [if_pos hc7]; done) | (rw [if_pos hc7]; rfl))
        refine awp_seq ?_
        refine rl ?_
        refine G (q_ixp1 ?_)
        refine G (q_ldp ?_)
        refine Mv ?_
        refine G (q_cv64_32 ?_)
        refine G (q_xor32 ?_)
        refine G (q_ixp1 ?_)
        refine G0 (q_stm ?_)
        refine gend ?_
        refine awp_seq ?_
        refine rl ?_
        refine G (q_ixp1 ?_)
        refine G (q_ldp ?_)
        refine Mv ?_
        refine G (q_shr64_64 (n := 32) ?_)
        refine G (q_cv64_32 ?_)
        refine G (q_xor32 ?_)
        refine G (q_ixp1 ?_)
        refine G0 (q_stm ?_)
        refine gend ?_
        refine awp_seq ?_
        refine awp_seq ?_
        refine rl ?_
        refine G (q_as (s := sc (cn 0)) ?_)
        refine gend ?_
        refine awp_block ?_
        obtain ⟨V, hV⟩ : ∃ V, rv7 Hj F n j.1 N = V := ⟨_, rfl⟩
        have hv7 := rv7_len Hj F n j.1 N
        rw [hV] at hv7
        refine awp_loop (fun r : {i : Nat // i ≤ 10} => ⟨frm 214 [(0, sc (.ro n (u8s m))), (2, sc (.ptr 0 0)), (3, sc (.ptr 1 0)), (4, sc (.ptr 2 0)), (6, sc (.slc 13 0 10 1)), (7, sc (.slc 22 0 8 1)), (8, sc (cn N)), (9, sc (cn j.1)), (10, sc (.ptr 23 0)), (11, sc (.ptr 24 0)), (16, sc (cn r.1))], (RP (u8s (List.replicate 32 0)) (u32s F) (u32s Hj) [some (u32s M), some (u32s (rnds M V r.1))])⟩) (fun r => 10 - r.1) ⟨0, Nat.zero_le _⟩ (sle_sub ⟨rfl, rfl, rfl, rfl, rfl, rfl, rfl, rfl, rfl, rfl, rfl, trivial⟩ (by rw [← hV]; rfl)) fun r => ?_   -- live: [6, 7, 10, 11, 16]
        have hr := (rnds_len M V r.1).trans hv7
        refine awp_seq ?_
        refine awp_seq ?_
        refine rl ?_
        refine Mv ?_
        refine G (q_lssn (y := 10) ?_)
        refine gend ?_
        refine cnd (fun hc8 => ?_) (fun hc8 => ?_); rotate_left
        · refine awp_exit ?_
          rw [show r.1 = 10 from (by have := r.2; omega)]
          have hr := (rnds_len M V 10).trans hv7
          generalize hR : rnds M V 10 = R at hr ⊢
          refine awp_seq ?_
          refine rl ?_
          refine G (q_as (s := sc (cn 0)) ?_)
          refine gend ?_
          refine awp_block ?_
          refine awp_loop (fun i : {i : Nat // i ≤ 8} => ⟨frm 214 [(0, sc (.ro n (u8s m))), (2, sc (.ptr 0 0)), (3, sc (.ptr 1 0)), (4, sc (.ptr 2 0)), (6, sc (.slc 13 0 10 1)), (7, sc (.slc 22 0 8 1)), (8, sc (cn N)), (9, sc (cn j.1)), (10, sc (.ptr 23 0)), (11, sc (.ptr 24 0)), (19, sc (cn i.1))], (RP (u8s (List.replicate 32 0)) (u32s F) (u32s (rhx Hj R i.1)) [some (u32s M), some (u32s R)])⟩) (fun i => 8 - i.1) ⟨0, Nat.zero_le _⟩ (sle_sub ⟨rfl, rfl, rfl, rfl, rfl, rfl, rfl, rfl, rfl, rfl, rfl, trivial⟩ rfl) fun i => ?_   -- live: [4, 11, 19]
          have hx := (rhx_len Hj R i.1).trans hh
          refine awp_seq ?_
          refine awp_seq ?_
          refine rl ?_
          refine Mv ?_
          refine G (q_lssn (y := 8) ?_)
          refine gend ?_
          refine cnd (fun hc9 => ?_) (fun hc9 => ?_); rotate_left
          · refine awp_exit ?_
            rw [show i.1 = 8 from (by have := i.2; omega)]
            have hx := (rhx_len Hj R 8).trans hh
            refine rl ?_
            refine Mv ?_
            refine G (q_addn (y := 1) ?_)
            refine As ?_
            refine gend ?_
            exact ⟨⟨j.1 + 1, by omega⟩, by show N - (j.1 + 1) < N - j.1; omega, sle_view [0, 1, 2, 3, 4, 5, 6, 7, 8, 9, 10, 11, 12, 13, 14, 15, 16, 17, 18, 19, 20, 21, 22] (fun p h => absurd h (Nat.not_lt_zero _)) (by decide) ⟨rs_ro, rfl, rfl, rfl, rfl, rfl, rfl, rfl, trivial⟩ (Eq.symm (pl1 rfl sees_m (pl1 rfl sees_m (pl1 rfl (sees_m.trans (by show _ = u32s (rhc F m N (j.1 + 1)); rw [rhc, hHj, hM, hm, hV, hR])) (pl1 rfl sees_m (pl1 rfl sees_m (pl1 rfl sees_m (pl1 rfl sees_m (pl1 rfl sees_m (pl1 rfl sees_m (pl1 rfl sees_m (pl1 rfl sees_m (pl1 rfl sees_m (pl1 rfl sees_m (pl1 rfl rfl (pl1 rfl rfl (pl1 rfl rfl (pl1 rfl rfl (pl1 rfl rfl (pl1 rfl rfl (pl1 rfl rfl (pl1 rfl rfl (pl1 rfl rfl (pl1 rfl rfl pl0))))))))))))))))))))))))⟩   -- endloop 2
          refine awp_skip ?_
          refine awp_seq ?_
          refine awp_block ?_
          refine rdl [14] [] [0, 0, 0, 0, 0, 0, 0, 0, 0, 0, 0, 0, 0, 0, 1] ?_
          refine Dp (fun _ => q_mv (s := .v (.c _)) ⟨rfl, rfl⟩) ?_
          refine Dp (fun _ => q_mv (s := .v (.c _)) ⟨rfl, rfl⟩) ?_
          refine Dp (fun _ => q_ixp1 ⟨rfl, rfl⟩) ?_
          refine DLp  ?_
          refine Dp (fun _ => q_mv (s := .v (.c _)) ⟨rfl, rfl⟩) ?_
          refine Dp (fun _ => q_ixp1 ⟨rfl, rfl⟩) ?_
          refine DLp  ?_
          refine Dp (fun _ => q_xor32 ⟨rfl, rfl⟩) ?_
          refine Dp (fun _ => q_mv (s := .v (.c _)) ⟨rfl, rfl⟩) ?_
          refine Dp (fun _ => q_addn (x := 8) ⟨rfl, rfl⟩) ?_
          refine Dp (fun _ => q_ixp1 ⟨rfl, rfl⟩) ?_
          refine DLp  ?_
          refine Dp (fun _ => q_xor32 ⟨rfl, rfl⟩) ?_
          refine Dp (fun _ => q_ixp1 ⟨rfl, rfl⟩) ?_
          refine De0 (q_stm  (pw ?_))
          refine dend ?_
          refine rl ?_
          refine Mv ?_
          refine G (q_addn (y := 1) ?_)
          refine As ?_
          refine gend ?_
          exact ⟨⟨i.1 + 1, by omega⟩, by show 8 - (i.1 + 1) < 8 - i.1; omega, sle_sub ⟨rfl, rfl, rfl, rfl, rfl, rfl, rfl, rfl, rfl, rfl, rfl, trivial⟩ rfl⟩   -- endloop 7
        refine awp_skip ?_
        refine awp_seq ?_
        refine awp_block ?_
        refine awp_seq ?_
        refine rl ?_
        refine G (q_as (s := sc (cn 0)) ?_)
        refine gend ?_
        refine awp_block ?_
        refine awp_loop (fun i : {i : Nat // i ≤ 8} => ⟨frm 214 [(0, sc (.ro n (u8s m))), (2, sc (.ptr 0 0)), (3, sc (.ptr 1 0)), (4, sc (.ptr 2 0)), (6, sc (.slc 13 0 10 1)), (7, sc (.slc 22 0 8 1)), (8, sc (cn N)), (9, sc (cn j.1)), (10, sc (.ptr 23 0)), (11, sc (.ptr 24 0)), (16, sc (cn r.1)), (17, sc (cn i.1))], (RP (u8s (List.replicate 32 0)) (u32s F) (u32s Hj) [some (u32s M), some (u32s (ins M r.1 (rnds M V r.1) i.1))])⟩) (fun i => 8 - i.1) ⟨0, Nat.zero_le _⟩ (sle_sub ⟨rfl, rfl, rfl, rfl, rfl, rfl, rfl, rfl, rfl, rfl, rfl, rfl, trivial⟩ rfl) fun i => ?_   -- live: [6, 7, 10, 11, 16, 17]
        have hi := (ins_len M r.1 (rnds M V r.1) i.1).trans hr
        refine awp_seq ?_
        refine awp_seq ?_
        refine rl ?_
        refine Mv ?_
        refine G (q_lssn (y := 8) ?_)
        refine gend ?_
        refine cnd (fun hc10 => ?_) (fun hc10 => ?_); rotate_left
        · refine awp_exit ?_
          rw [show i.1 = 8 from (by have := i.2; omega)]
          refine rl ?_
          refine Mv ?_
          refine G (q_addn (y := 1) ?_)
          refine As ?_
          refine gend ?_
          exact ⟨⟨r.1 + 1, by omega⟩, by show 10 - (r.1 + 1) < 10 - r.1; omega, sle_sub ⟨rfl, rfl, rfl, rfl, rfl, rfl, rfl, rfl, rfl, rfl, rfl, trivial⟩ rfl⟩   -- endloop 6
        refine awp_skip ?_
        refine awp_seq ?_
        refine awp_block ?_
        refine awp_seq ?_
        refine rl ?_
        refine Mv ?_
        refine Mv ?_
        refine G (q_ixs1 ?_)
        refine G (q_ldp  ?_ (hc := cc_at i.1 (by omega)))
        refine As ?_
        refine gend ?_
        have ho1 := ords_lt (16 * r.1 + 2 * i.1)
        have hq1 := row_at r.1 (2 * i.1) (by omega) (by omega)
        have hg1 : r.1 * 16 + 2 * i.1 * 1 = 16 * r.1 + 2 * i.1 := by omega
        obtain ⟨p1, hp1⟩ : ∃ p, ords.getD (16 * r.1 + 2 * i.1) 0 = p := ⟨_, rfl⟩
        rw [hp1] at ho1 hq1
        have ho2 := ords_lt (16 * r.1 + (2 * i.1 + 1))
        have hq2 := row_at r.1 ((2 * i.1 + 1)) (by omega) (by omega)
        have hg2 : r.1 * 16 + (2 * i.1 + 1) * 1 = 16 * r.1 + (2 * i.1 + 1) := by omega
        obtain ⟨p2, hp2⟩ : ∃ p, ords.getD (16 * r.1 + (2 * i.1 + 1)) 0 = p := ⟨_, rfl⟩
        rw [hp2] at ho2 hq2
        refine rdl [34, 35] [0, 0, 0, 0, 0, 0, 0, 0, 0, 0, 0, 0, 0, 0, 0, 0, 0, 0, 0, 0, 0, 0, 0, 0, 0, 0, 0, 0, 0, 0, 0, 0, 0, 0, 0, 1] [0, 0, 0, 0, 0, 0, 0, 0, 0, 0, 0, 0, 0, 0, 0, 0, 0, 0, 0, 0, 0, 0, 0, 0, 0, 0, 0, 0, 0, 0, 0, 0, 0, 0, 1, 2] ?_
        refine DLw  ?_ (hl := (mapc_length ..).trans hi)
        refine Dp (fun _ => q_mv (s := .v (.c _)) ⟨rfl, rfl⟩) ?_
        refine Dp (fun _ => q_ixs1 ⟨rfl, rfl⟩) ?_
        refine DLp  ?_ (_hp := rp_col i.1 (by omega)) (hc := rfl) (hs := by repeat' (first | exact trivial | exact sub_one (rp_row _ (by omega)) | exact sub_one (rp_col _ (by omega)) | exact sub_one rfl | refine And.intro ?_ ?_))
        refine Dp (fun _ => q_mv (s := .v (.c _)) ⟨rfl, rfl⟩) ?_
        refine Dp (fun _ => q_ixs1 ⟨rfl, rfl⟩) ?_
        refine DLp  ?_ (_hp := rp_col i.1 (by omega)) (hc := rfl) (hs := by repeat' (first | exact trivial | exact sub_one (rp_row _ (by omega)) | exact sub_one (rp_col _ (by omega)) | exact sub_one rfl | refine And.intro ?_ ?_))
        refine Dp (fun _ => q_mv (s := .v (.c _)) ⟨rfl, rfl⟩) ?_
        refine Dp (fun _ => q_ixs1 ⟨rfl, rfl⟩) ?_
        refine DLp  ?_ (_hp := rp_col i.1 (by omega)) (hc := rfl) (hs := by repeat' (first | exact trivial | exact sub_one (rp_row _ (by omega)) | exact sub_one (rp_col _ (by omega)) | exact sub_one rfl | refine And.intro ?_ ?_))
        refine Dp (fun _ => q_mv (s := .v (.c _)) ⟨rfl, rfl⟩) ?_
        refine Dp (fun _ => q_ixs1 ⟨rfl, rfl⟩) ?_
        refine DLp  ?_ (_hp := rp_col i.1 (by omega)) (hc := rfl) (hs := by repeat' (first | exact trivial | exact sub_one (rp_row _ (by omega)) | exact sub_one (rp_col _ (by omega)) | exact sub_one rfl | refine And.intro ?_ ?_))
        refine Dp (fun _ => q_mv (s := .v (.c _)) ⟨rfl, rfl⟩) ?_
        refine Dp (fun _ => q_mv (s := .v (.c _)) ⟨rfl, rfl⟩) ?_
        refine Dp (fun _ => q_ixs1 ⟨rfl, rfl⟩) ?_
        refine DLp  ?_ (hc := rc3_at r.1 (by omega))
        refine Dp (fun _ => q_mv (s := .v (.c _)) ⟨rfl, rfl⟩) ?_
        refine Dp (fun _ => q_muln (x := 2) ⟨rfl, rfl⟩) ?_
        refine Dp (fun _ => q_ixs1 ⟨rfl, rfl⟩) ?_
        refine DLp  ?_ (_hp := rp_row r.1 (by omega)) (hc := hq1) (hs := by repeat' (first | exact trivial | exact sub_one (rp_row _ (by omega)) | exact sub_one (rp_col _ (by omega)) | exact sub_one rfl | refine And.intro ?_ ?_))
        refine Dp (fun _ => q_ixp1 ⟨rfl, rfl⟩) ?_
        refine DLp  ?_
        refine Dp (fun _ => q_mv (s := .v (.c _)) ⟨rfl, rfl⟩) ?_
        refine Dp (fun _ => q_mv (s := .v (.c _)) ⟨rfl, rfl⟩) ?_
        refine Dp (fun _ => q_ixs1 ⟨rfl, rfl⟩) ?_
        refine DLp  ?_ (hc := rc3_at r.1 (by omega))
        refine Dp (fun _ => q_mv (s := .v (.c _)) ⟨rfl, rfl⟩) ?_
        refine Dp (fun _ => q_muln (x := 2) ⟨rfl, rfl⟩) ?_
        refine Dp (fun _ => q_addn (y := 1) ⟨rfl, rfl⟩) ?_
        refine Dp (fun _ => q_ixs1 ⟨rfl, rfl⟩) ?_
        refine DLp  ?_ (_hp := rp_row r.1 (by omega)) (hc := hq2) (hs := by repeat' (first | exact trivial | exact sub_one (rp_row _ (by omega)) | exact sub_one (rp_col _ (by omega)) | exact sub_one rfl | refine And.intro ?_ ?_))
        refine Dp (fun _ => q_ixp1 ⟨rfl, rfl⟩) ?_
        refine DLp  ?_
        refine De (q_callp (rmix _ (i.1 % 4) (4 + (i.1 + i.1 / 4) % 4) (8 + (i.1 + 2 * (i.1 / 4)) % 4) (12 + (i.1 + 3 * (i.1 / 4)) % 4) (M.getD p1 0) (M.getD p2 0) (by omega) (by omega) (by omega) (by omega) hi) (pw ?_) (ha := caa (et rfl) sees_m (cac (et rfl) cm_int (cac (et rfl) cm_int (cac (et rfl) cm_int (cac (et rfl) cm_int (cac (et rfl) cm_int (cac (et rfl) cm_int ca0))))))))
        refine De0 (q_stw  (pw ?_) (hl := (mapc_length ..).trans ((gmix_len ..).trans hi)) (hc := (mapc_length ..).trans hi))
        refine dend ?_
        refine rl ?_
        refine Mv ?_
        refine G (q_addn (y := 1) ?_)
        refine As ?_
        refine gend ?_
        exact ⟨⟨i.1 + 1, by omega⟩, by show 8 - (i.1 + 1) < 8 - i.1; omega, sle_sub ⟨rfl, rfl, rfl, rfl, rfl, rfl, rfl, rfl, rfl, rfl, rfl, rfl, trivial⟩ (by show _ = (RP (u8s (List.replicate 32 0)) (u32s F) (u32s Hj) [some (u32s M), some (u32s (ins M r.1 (rnds M V r.1) (i.1 + 1)))]); rw [ins, hg1, hg2, hp1, hp2]; rfl)⟩   -- endloop 8
      refine awp_skip ?_
      refine awp_seq ?_
      refine awp_block ?_
      refine rdl [10, 12] [0, 0, 0, 0, 0, 0, 0, 0, 0, 0, 0, 1, 1] [0, 1, 1, 0, 0, 0, 1, 1, 1, 0, 1, 1, 2] ?_
      refine Dp (fun _ => q_mv (s := .v (.c _)) ⟨rfl, rfl⟩) ?_
      refine Dp (fun _ => q_mv (s := .v (.c _)) ⟨rfl, rfl⟩) ?_
      refine Dp (fun _ => q_addn (x := 8) ⟨rfl, rfl⟩) ?_
      refine Dp (fun _ => q_mv (s := .v (.c _)) ⟨rfl, rfl⟩) ?_
      refine Dp (fun _ => q_ixp1 ⟨rfl, rfl⟩) ?_
      refine DLp ?_
      refine Dp (fun _ => q_mv (s := .v (.c _)) ⟨rfl, rfl⟩) ?_
      refine Dp (fun _ => q_ixp1 ⟨rfl, rfl⟩) ?_
      refine DLp ?_
      refine Dp (fun _ => q_ixp1 ⟨rfl, rfl⟩) ?_
      refine De0 (q_stm  (pw ?_) (hx := et rfl))
      refine Dp (fun _ => q_ixp1 ⟨rfl, rfl⟩) ?_
      refine De0 (q_stm  (pw ?_) (hx := et rfl))
      refine dend ?_
      refine rl ?_
      refine Mv ?_
      refine G (q_addn (y := 1) ?_)
      refine As ?_
      refine gend ?_
      exact ⟨⟨k.1 + 1, by omega⟩, by show 8 - (k.1 + 1) < 8 - k.1; omega, sle_sub ⟨rfl, rfl, rfl, rfl, rfl, rfl, rfl, rfl, rfl, rfl, rfl, rfl, trivial⟩ rfl⟩   -- endloop 5
    refine awp_skip ?_
    refine awp_seq ?_
    refine awp_block ?_
    refine awp_seq ?_
    refine retell [(0, sc (.ro n (u8s m))), (2, sc (.ptr 0 0)), (3, sc (.ptr 1 0)), (4, sc (.ptr 2 0)), (6, sc (.slc 13 0 10 1)), (7, sc (.slc 22 0 8 1)), (8, sc (cn N)), (9, sc (cn j.1)), (10, sc (.ptr 23 0)), (11, sc (.ptr 24 0)), (12, sc (cn (63 - k.1)))] ?_ ⟨rfl, rfl, rfl, rfl, rfl, rfl, rfl, rfl, rfl, rfl, congrArg (fun i => sc (ci i)) (by omega), trivial⟩
    refine rl ?_
    refine G (q_as (s := sc (c32 0)) ?_)
    refine gend ?_
    refine awp_seq ?_
    refine awp_seq ?_
    refine rl ?_
    refine Mv ?_
    refine G (q_muln (x := 64) ?_)
    refine Mv ?_
    refine G (q_addn ?_)
    refine Mv ?_
    refine G (q_leno ?_)
    refine G (q_lssn ?_)
    refine gend ?_
    refine cnd (fun hc11 => ?_) (fun hc11 => ?_)
    · refine rl ?_
      refine Mv ?_
      refine Mv ?_
      refine G (q_muln (x := 64) ?_)
      refine Mv ?_
      refine G (q_addn ?_)
      refine G (q_ixo1 ?_)
      refine G (q_ldrd ?_)
      refine G (q_cv8_32 ?_)
      refine As ?_
      refine gend ?_
      refine rl ?_
      refine Mv ?_
      refine G (q_quon (y := 4) ?_)
      refine Mv ?_
      refine G (q_quon (y := 4) ?_)
      refine G (q_ixp1 ?_)
      refine G (q_ldp ?_)
      refine G (q_mul32 (y := 256) ?_)
      refine Mv ?_
      refine G (q_add32 ?_)
      refine G (q_ixp1 ?_)
      refine G0 (q_stm ?_)
      refine gend ?_
      refine rl ?_
      refine Mv ?_
      refine G (q_subi (y := 1) ?_)
      refine As ?_
      refine gend ?_
      exact ⟨⟨k.1 + 1, by omega⟩, by show 64 - (k.1 + 1) < 64 - k.1; omega, sle_sub ⟨rfl, rfl, rfl, rfl, rfl, rfl, rfl, rfl, rfl, rfl, congrArg (fun i => sc (ci i)) (by show ((63 - k.1 : Nat) : Int) - 1 = 63 - ((k.1 + 1 : Nat) : Int); omega), trivial⟩ (by show _ = (RP (u8s (List.replicate 32 0)) (u32s F) (u32s Hj) [some (u32s (rwd m j.1 (k.1 + 1))), some (u32s (List.replicate 16 0))]); rw [rwd, bat]; first | (rw [if_pos (by omega)]; rfl) | (rw [if_neg (by omega)]; rfl))⟩   -- endloop 4
    refine awp_skip ?_
    refine rl ?_
    refine Mv ?_
    refine G (q_quon (y := 4) ?_)
    refine Mv ?_
    refine G (q_quon (y := 4) ?_)
    refine G (q_ixp1 ?_)
    refine G (q_ldp ?_)
    refine G (q_mul32 (y := 256) ?_)
    refine Mv ?_
    refine G (q_add32 ?_)
    refine G (q_ixp1 ?_)
    refine G0 (q_stm ?_)
    refine gend ?_
    refine rl ?_
    refine Mv ?_
    refine G (q_subi (y := 1) ?_)
    refine As ?_
    refine gend ?_
    exact ⟨⟨k.1 + 1, by omega⟩, by show 64 - (k.1 + 1) < 64 - k.1; omega, sle_sub ⟨rfl, rfl, rfl, rfl, rfl, rfl, rfl, rfl, rfl, rfl, congrArg (fun i => sc (ci i)) (by show ((63 - k.1 : Nat) : Int) - 1 = 63 - ((k.1 + 1 : Nat) : Int); omega), trivial⟩ (by show _ = (RP (u8s (List.replicate 32 0)) (u32s F) (u32s Hj) [some (u32s (rwd m j.1 (k.1 + 1))), some (u32s (List.replicate 16 0))]); rw [rwd, bat]; first | (rw [if_pos (by omega)]; rfl) | (rw [if_neg (by omega)]; rfl))⟩   -- endloop 4
  refine awp_skip ?_
  refine awp_seq ?_
  refine awp_block ?_
  refine awp_seq ?_
  refine rl ?_
  refine Mv ?_
  refine Mv ?_
  refine G (q_callp (rstart_ x.1 (by omega)/- escutcheon/escutcheonref11.Start -/) ?_)
  refine G (q_ixp1 ?_)
  refine G0 (q_stm ?_)
  refine gend ?_
  refine rl ?_
  refine Mv ?_
  refine Mv ?_
  refine G (q_ixp1 ?_)
  refine G (q_ldp  ?_ (hc := u32_set (by rw [fl8_len]; omega)))
  refine G (q_ixp1 ?_)
  refine G0 (q_stm ?_)
  refine gend ?_
  refine rl ?_
  refine Mv ?_
  refine G (q_addn (y := 1) ?_)
  refine As ?_
  refine gend ?_
  exact ⟨⟨x.1 + 1, by omega⟩, by show 8 - (x.1 + 1) < 8 - x.1; omega, sle_sub ⟨rfl, rfl, rfl, rfl, rfl, trivial⟩ (by show _ = [some (u8s (List.replicate 32 0)), some (u32s (fl8 fst8 (x.1 + 1))), some (u32s (fl8 fst8 (x.1 + 1)))]; rw [fl8, ← rstart_eq x.1 (by omega)]; rfl)⟩   -- endloop 1
end Go.Proofs.Ytngmhcgenknokaa

/- What functions of the program do, walked over the abstract machine. -/
import Derived.Test.YtngmhcgenknokaaBc
namespace Go.Proofs.Ytngmhcgenknokaa
open Go Go.Abs Go.Proofs

theorem pq_roc {π : List Nat} {H : Heap} {d n : Nat} {l : List UInt8} {c cs : List Cell} {ps : List (List UInt8)} (hc : c = u8s l) (hn : l.length = n) (h : cs.map (cm (cin π true H) (d + 1)) = pcs ps) : (.ro n c :: cs).map (cm (cin π true H) (d + 1)) = pcs (l :: ps) := by
  subst hc; exact pq_ro hn h
theorem take_m {l : List UInt8} {c : Nat} : (u8s l).take (c * 1) = u8s (l.take c) := by rw [Nat.mul_one]; simp [mapc, List.map_take]
theorem take0_m {l : List UInt8} {c : Nat} : ((u8s l).drop (0 * 1)).take (c * 1) = u8s (l.take c) := by rw [Nat.mul_one, Nat.mul_one, cut_m]; rfl
theorem drop_m {l : List UInt8} {c n : Nat} (h : l.length = n) : ((u8s l).drop (c * 1)).take ((n - c) * 1) = u8s (l.drop c) := by
  rw [Nat.mul_one, Nat.mul_one, cut_m, List.take_of_length_le (by rw [List.length_drop]; omega)]
theorem tmod_le (a : Int) (n : Nat) : -(n : Int) ≤ a.tmod ((n + 1 : Nat) : Int) ∧ a.tmod ((n + 1 : Nat) : Int) ≤ n := by
  cases a with
  | ofNat m =>
    have := Nat.mod_lt m (y := n + 1) (by omega)
    show -(n : Int) ≤ ((m % (n + 1) : Nat) : Int) ∧ ((m % (n + 1) : Nat) : Int) ≤ n
    omega
  | negSucc m =>
    have := Nat.mod_lt (m + 1) (y := n + 1) (by omega)
    show -(n : Int) ≤ -(((m + 1) % (n + 1) : Nat) : Int) ∧ -(((m + 1) % (n + 1) : Nat) : Int) ≤ n
    omega
/-- Where a list is cut. -/
theorem cut_at (a : Int) (n : Nat) : ∃ c : Nat, c ≤ n ∧ (a.tmod ((n + 1 : Nat) : Int) + (n : Int) + 1).tmod ((n + 1 : Nat) : Int) = (c : Int) := by
  obtain ⟨h1, h2⟩ := tmod_le a n
  obtain ⟨k, hk⟩ : ∃ k : Nat, a.tmod ((n + 1 : Nat) : Int) + (n : Int) + 1 = k := ⟨(a.tmod ((n + 1 : Nat) : Int) + (n : Int) + 1).toNat, by omega⟩
  rw [hk]
  have := Nat.mod_lt k (y := n + 1) (by omega)
  exact ⟨k % (n + 1), by omega, rfl⟩
theorem pcs_cut {ps : List (List UInt8)} {n : Nat} (h : ps.length = n) : ((pcs ps).drop 0).take (n * 1) = pcs ps := by
  rw [List.drop_zero, Nat.mul_one, List.take_of_length_le (by simp [pcs]; omega)]
theorem pcs_len {ps : List (List UInt8)} : (pcs ps).length = ps.length := by simp [pcs]
theorem pcs_snoc {ps : List (List UInt8)} {l : List UInt8} {c : Nat} {X : List Cell} (h : l.length = c) (hX : X = u8s l) : pcs ps ++ [Cell.ro c X] = pcs (ps ++ [l]) := by
  subst hX h; simp [pcs]
theorem pcs_map {ps : List (List UInt8)} {f : Nat → Option Nat} {x : Nat → Option (List Cell)} {b : Bool} {d : Nat} : (pcs ps).map (cm ⟨f, x, true, b⟩ (d + 1)) = pcs ps := by
  simp only [pcs, List.map_map]
  apply List.map_congr_left
  intro l _
  show Cell.ro l.length ((u8s l).map (cm ⟨f, x, true, b⟩ d)) = _
  rw [mapc_cm]
theorem pcs_pick {H : Heap} {cs : List Cell} {qs : List (List UInt8)} {p : Nat} {f : Nat → Option Nat} {x : Nat → Option (List Cell)} {b : Bool} (h : H[p]? = some (some cs)) (hc : cs = pcs qs) : pick H (cm ⟨f, x, true, b⟩ 8) p = some (pcs qs) := by
  subst hc; exact pick_c h pcs_map
theorem pcs_sees {π : List Nat} {H : Heap} {qs : List (List UInt8)} {n : Nat} (h : qs.length = n) : (((pcs qs).drop 0).take (n * 1)).map (cm (cin π true H) 7) = pcs qs := by
  rw [pcs_cut h]; exact pcs_map
theorem ro_drop {l : List UInt8} {c n : Nat} {f : Nat → Option Nat} {x : Nat → Option (List Cell)} {b : Bool} (h : l.length = n) : sm (cm ⟨f, x, true, b⟩ 8) (sc (.ro (n - c) (((u8s l).drop (c * 1)).take ((n - c) * 1)))) = sc (.ro (l.drop c).length (u8s (l.drop c))) := by
  rw [drop_m h, List.length_drop, h]; exact rs_ro
/-- A key, as the mac has it: its hash when it is long; noughts behind it. -/
def kcut (key : List UInt8) : List UInt8 := if 64 < key.length then bsum key else key
def kpad (key : List UInt8) : List UInt8 := kcut key ++ List.replicate (64 - (kcut key).length) 0
def xall (v : UInt8) (l : List UInt8) : List UInt8 := l.map (fun b => b ^^^ v)
def hmac (key m : List UInt8) : List UInt8 := bsum (xall 92 (kpad key) ++ bsum (xall 54 (kpad key) ++ m))
theorem kcut_len (key : List UInt8) : (kcut key).length ≤ 64 := by
  unfold kcut; split
  · rw [bsum_len]; decide
  · omega
theorem kpad_len (key : List UInt8) : (kpad key).length = 64 := by
  have := kcut_len key
  rw [kpad, List.length_append, List.length_replicate]; omega
theorem xall_len (v : UInt8) (l : List UInt8) : (xall v l).length = l.length := by simp [xall]
theorem hmac_len (key m : List UInt8) : (hmac key m).length = 32 := bsum_len _
/-- Byte by byte. -/
def xst (l : List UInt8) (v : UInt8) : Nat → List UInt8
  | 0 => l
  | i + 1 => (xst l v i).set i ((xst l v i).getD i 0 ^^^ v)
theorem xst_len (l : List UInt8) (v : UInt8) : ∀ i, (xst l v i).length = l.length
  | 0 => rfl
  | i + 1 => by rw [xst, List.length_set, xst_len]
theorem xst_eq (l : List UInt8) (v : UInt8) : ∀ i, i ≤ l.length → xst l v i = xall v (l.take i) ++ l.drop i
  | 0, _ => by simp [xst, xall]
  | i + 1, h => by
    have hi : i < l.length := by omega
    have hd : l.drop i = l[i] :: l.drop (i + 1) := List.drop_eq_getElem_cons hi
    have ht : l.take (i + 1) = l.take i ++ [l[i]] := by rw [List.take_add_one, List.getElem?_eq_getElem hi]; rfl
    have hx : (xall v (l.take i)).length = i := by rw [xall_len, List.length_take]; omega
    have hg : (xall v (l.take i) ++ l.drop i).getD i 0 = l[i] := by
      rw [List.getD_eq_getElem?_getD, List.getElem?_append_right (by omega), hx, Nat.sub_self, hd]; rfl
    rw [xst, xst_eq l v i (by omega), hg, List.set_append_right _ _ (by omega), hx, Nat.sub_self, hd, ht]
    unfold xall
    rw [List.map_append, List.append_assoc]
    rfl
theorem xst_all (l : List UInt8) (v : UInt8) (n : Nat) (h : l.length = n) : xst l v n = xall v l := by
  subst h
  rw [xst_eq l v _ (Nat.le_refl _), List.take_length, List.drop_length, List.append_nil]
/-- A key laid into 64 noughts. -/
theorem kp_short (key : List UInt8) (n : Nat) (hn : key.length = n) (h : n ≤ 64) : splice (u8s (List.replicate 64 0)) 0 ((u8s key).take (min n 64 * 1)) = u8s (kpad key) := by
  have hk : kcut key = key := by unfold kcut; rw [if_neg (by omega)]
  rw [Nat.mul_one, Nat.min_eq_left h, List.take_of_length_le (by rw [mapc_length]; omega), kpad, hk, hn]
  unfold splice
  rw [List.take_zero, List.nil_append, mapc_length, Nat.zero_add, hn, mapc_drop, List.drop_replicate, mapc_append]
theorem kp_long (key : List UInt8) (n : Nat) (hn : key.length = n) (h : 64 < n) : splice (u8s (List.replicate 64 0)) 0 ((u8s (bsum key)).take (min 32 64 * 1)) = u8s (kpad key) := by
  have hk : kcut key = bsum key := by unfold kcut; rw [if_pos (by omega)]
  have hb := bsum_len key
  rw [show min 32 64 * 1 = 32 from rfl, List.take_of_length_le (by rw [mapc_length]; omega), kpad, hk]
  simp [splice, mapc, hb]

theorem parts_cons {π : List Nat} {H : Heap} {d p n k : Nat} {l : List UInt8} {ps : List (List UInt8)} (hi : idx p π = none) (hp : H[p]? = some (some (u8s l))) (hn : l.length = n) (hk : ps.length = k) : ((([Cell.slc p 0 n 1] ++ pcs ps).drop 0).take ((1 + k) * 1)).map (cm (cin π true H) (d + 1)) = pcs (l :: ps) := by
  rw [List.drop_zero, List.take_of_length_le (by simp [pcs]; omega), List.singleton_append]
  exact pq_slc hi hp (cut_h hn) hn pcs_map
set_option maxHeartbeats 800000 in
/-- hkdf.Mac -/
theorem mac_short (key m : List UInt8) (ps : List (List UInt8)) (n k : Nat) (hn : key.length = n) (hn9 : n ≤ 10000) (h : n ≤ 64) (hk : ps.length = k) (hk9 : k ≤ 1000) (hps : ps.flatten = m) (hm : m.length ≤ 10000) : Good Try.prog 9 [.c (.ro n (u8s key)), .c (.ro k (pcs ps))] [] (sa (u8s (hmac key m))) [] := by
  have hKl := kpad_len key
  have hcp := kp_short key n hn h
  have g1 := sum_ (xall 54 (kpad key) :: ps) (1 + k) (by simp [hk]; omega) (by omega) (by simp [xall_len, hKl, hps]; omega)
  rw [List.flatten_cons, hps] at g1
  have g2 := sum_ [xall 92 (kpad key), bsum (xall 54 (kpad key) ++ m)] 2 rfl (by decide) (by simp [xall_len, hKl, bsum_len])
  rw [show [xall 92 (kpad key), bsum (xall 54 (kpad key) ++ m)].flatten = xall 92 (kpad key) ++ bsum (xall 54 (kpad key) ++ m) by simp] at g2
  obtain ⟨R, hR⟩ : ∃ R, bsum (xall 54 (kpad key) ++ m) = R := ⟨_, rfl⟩
  have hRl : R.length = 32 := by rw [← hR]; exact bsum_len _
  rw [show hmac key m = bsum (xall 92 (kpad key) ++ R) by rw [← hR]; rfl]
  rw [hR] at g1 g2
  obtain ⟨O, hO⟩ : ∃ O, bsum (xall 92 (kpad key) ++ R) = O := ⟨_, rfl⟩
  have hOl : O.length = 32 := by rw [← hO]; exact bsum_len _
  rw [hO] at g2 ⊢
  obtain ⟨K, hK⟩ : ∃ K, kpad key = K := ⟨_, rfl⟩
  rw [hK] at hKl hcp g1 g2
  have x1 := xst_all K 54 64 hKl
  have x2 := xst_all K 92 64 hKl
  have l1 := (xall_len 54 K).trans hKl
  have l2 := (xall_len 92 K).trans hKl
  refine good_frm 46 Try.func9 rfl rfl rfl rfl rfl rfl ?_
  refine awp_seq ?_
  refine rl ?_
  refine G (q_al ?_)
  refine gend ?_
  refine awp_seq ?_
  refine rl ?_
  refine G (q_al ?_)
  refine gend ?_
  refine awp_seq ?_
  refine awp_seq ?_
  refine rl ?_
  refine Mv ?_
  refine G (q_leno ?_)
  refine G (q_gtrn (y := 64) ?_)
  refine gend ?_
  refine cndN (fun hc1 => ?_) ?_; rotate_left
  · omega
  refine awp_skip ?_
  refine awp_seq ?_
  refine rl ?_
  refine G (q_slp_no ?_)
  refine Mv ?_
  refine G (q_cpy ?_ (eB := el_ro (by rw [mapc_length, hn, Nat.mul_one])))
  rw [hcp]
  refine gend ?_
  refine awp_seq ?_
  refine rl ?_
  refine G (q_ldw ?_)
  refine G (q_ldw ?_)
  refine G (q_al ?_)
  refine G (q_al ?_)
  refine G0 (q_stw ?_)
  refine G0 (q_stw ?_)
  refine gend ?_
  refine awp_seq ?_
  refine awp_seq ?_
  refine rl ?_
  refine G (q_mv (s := sc (cn 0)) ?_)
  refine gend ?_
  refine awp_block ?_
  refine awp_loop (fun x : {i : Nat // i ≤ 64} => ⟨frm 46 [(1, sc (.ro k (pcs ps))), (4, sc (.ptr 0 0)), (7, sc (.ptr 2 0)), (8, sc (.ptr 3 0)), (23, sc (cn x.1))], [some (u8s (List.replicate 32 0)), some (u8s K), some (u8s (xst K 54 x.1)), some (u8s (xst K 92 x.1))]⟩) (fun x => 64 - x.1) ⟨0, Nat.zero_le _⟩ (sle_sub ⟨rfl, rfl, rfl, rfl, rfl, trivial⟩ rfl) fun x => ?_   -- live: [7, 8, 23]
  have h5 := (xst_len K 54 x.1).trans hKl
  have h6 := (xst_len K 92 x.1).trans hKl
  refine awp_seq ?_
  refine rl ?_
  refine G (q_lssn (y := 64) ?_)
  refine gend ?_
  refine awp_seq ?_
  refine cnd (fun hc2 => ?_) (fun hc2 => ?_); rotate_left
  · refine awp_exit ?_
    rw [show x.1 = 64 from (by have := x.2; omega)]
    rw [x1, x2]
    refine awp_seq ?_
    refine rl ?_
    refine G (q_slp_no ?_)
    refine G (q_bsl (fkc rfl (et rfl) rfl (Nat.le_of_ble_eq_true rfl) (fk0 ?_)))
    refine Mv ?_
    refine G (q_app  ?_ (eA := el_slc (xs := [_]) rfl (Nat.le_refl 1) rfl) (eB := el_ro (by rw [pcs_len, hk]; omega)))
    refine G (q_callp g1 ?_ (ha := cac (et rfl) (sees_parts rfl rfl (parts_cons rfl rfl l1 hk)) ca0))
    refine G (q_al ?_)
    refine G0 (q_stw ?_)
    refine gend ?_
    refine awp_seq ?_
    refine rdl [2, 3, 4] [0, 0, 0, 1, 2] [0, 0, 1, 2, 3] ?_
    refine DSp 3 rfl (fun _ hv => q_slp_no ⟨rfl, rfl⟩ (hp := hv)) ?_
    refine DSp 6 rfl (fun _ hv => q_slp_no ⟨rfl, rfl⟩ (hp := hv)) ?_
    refine De (q_bsl (fkc rfl (et rfl) rfl (Nat.le_of_ble_eq_true rfl) (fkc rfl (et rfl) rfl (Nat.le_of_ble_eq_true rfl) (fk0 (pw ?_)))))
    refine De (q_callp g2 (pw ?_) (ha := cac (et rfl) (sees_parts rfl rfl (pq_slc rfl rfl (cut_h l2) l2 (pq_slc rfl rfl (cut_h hRl) hRl pq0))) ca0))
    refine De0 (q_stw (pw ?_))
    refine dend ?_
    refine awp_ret ?_
    exact fpc (t := 25) (a := 4) (hn := (mapc_length ..).trans hOl)
  refine awp_skip ?_
  refine awp_seq ?_
  refine awp_block ?_
  refine awp_seq ?_
  refine rl ?_
  refine Mv ?_
  refine As ?_
  refine gend ?_
  refine awp_seq ?_
  refine rl ?_
  refine Mv ?_
  refine G (q_ixp1 ?_)
  refine G (q_ldp ?_)
  refine G (q_xor8 (y := 54) ?_)
  refine G (q_ixp1 ?_)
  refine G0 (q_stm ?_)
  refine gend ?_
  refine rl ?_
  refine Mv ?_
  refine G (q_ixp1 ?_)
  refine G (q_ldp ?_)
  refine G (q_xor8 (y := 92) ?_)
  refine G (q_ixp1 ?_)
  refine G0 (q_stm ?_)
  refine gend ?_
  refine rl ?_
  refine G (q_addn (y := 1) ?_)
  refine Mv ?_
  refine gend ?_
  exact ⟨⟨x.1 + 1, by omega⟩, by show 64 - (x.1 + 1) < 64 - x.1; omega, sle_sub ⟨rfl, rfl, rfl, rfl, rfl, trivial⟩ rfl⟩   -- endloop 1
set_option maxHeartbeats 800000 in
/-- hkdf.Mac -/
theorem mac_long (key m : List UInt8) (ps : List (List UInt8)) (n k : Nat) (hn : key.length = n) (hn9 : n ≤ 10000) (h : 64 < n) (hk : ps.length = k) (hk9 : k ≤ 1000) (hps : ps.flatten = m) (hm : m.length ≤ 10000) : Good Try.prog 9 [.c (.ro n (u8s key)), .c (.ro k (pcs ps))] [] (sa (u8s (hmac key m))) [] := by
  have hKl := kpad_len key
  have hcp := kp_long key n hn h
  have g1 := sum_ (xall 54 (kpad key) :: ps) (1 + k) (by simp [hk]; omega) (by omega) (by simp [xall_len, hKl, hps]; omega)
  rw [List.flatten_cons, hps] at g1
  have g2 := sum_ [xall 92 (kpad key), bsum (xall 54 (kpad key) ++ m)] 2 rfl (by decide) (by simp [xall_len, hKl, bsum_len])
  rw [show [xall 92 (kpad key), bsum (xall 54 (kpad key) ++ m)].flatten = xall 92 (kpad key) ++ bsum (xall 54 (kpad key) ++ m) by simp] at g2
  obtain ⟨R, hR⟩ : ∃ R, bsum (xall 54 (kpad key) ++ m) = R := ⟨_, rfl⟩
  have hRl : R.length = 32 := by rw [← hR]; exact bsum_len _
  rw [show hmac key m = bsum (xall 92 (kpad key) ++ R) by rw [← hR]; rfl]
  rw [hR] at g1 g2
  obtain ⟨O, hO⟩ : ∃ O, bsum (xall 92 (kpad key) ++ R) = O := ⟨_, rfl⟩
  have hOl : O.length = 32 := by rw [← hO]; exact bsum_len _
  rw [hO] at g2 ⊢
  obtain ⟨K, hK⟩ : ∃ K, kpad key = K := ⟨_, rfl⟩
  rw [hK] at hKl hcp g1 g2
  have x1 := xst_all K 54 64 hKl
  have x2 := xst_all K 92 64 hKl
  have l1 := (xall_len 54 K).trans hKl
  have l2 := (xall_len 92 K).trans hKl
  have g0 := sum_ [key] 1 rfl (by decide) (by simp; omega)
  rw [show ([key] : List (List UInt8)).flatten = key by simp] at g0
  have hbl := bsum_len key
  refine good_frm 46 Try.func9 rfl rfl rfl rfl rfl rfl ?_
  refine awp_seq ?_
  refine rl ?_
  refine G (q_al ?_)
  refine gend ?_
  refine awp_seq ?_
  refine rl ?_
  refine G (q_al ?_)
  refine gend ?_
  refine awp_seq ?_
  refine awp_seq ?_
  refine rl ?_
  refine Mv ?_
  refine G (q_leno ?_)
  refine G (q_gtrn (y := 64) ?_)
  refine gend ?_
  refine cndY (fun hc1 => ?_) ?_; rotate_left
  · omega
  refine awp_seq ?_
  refine rl ?_
  refine Mv ?_
  refine G (q_bsl (fkc rfl (et rfl) rfl (Nat.le_of_ble_eq_true rfl) (fk0 ?_)))
  refine G (q_callp g0 ?_ (ha := cac (et rfl) (sees_parts rfl rfl (pq_ro hn pq0)) ca0))
  refine G (q_al ?_)
  refine G0 (q_stw ?_)
  refine gend ?_
  refine rl ?_
  refine G (q_slp_no ?_)
  refine As ?_
  refine gend ?_
  refine awp_seq ?_
  refine rl ?_
  refine G (q_slp_no ?_)
  refine Mv ?_
  refine G (q_cpy ?_ (eB := el_slc rfl (by rw [mapc_length, hbl]; decide) (cut_h hbl)))
  rw [hcp]
  refine gend ?_
  refine awp_seq ?_
  refine rl ?_
  refine G (q_ldw ?_)
  refine G (q_ldw ?_)
  refine G (q_al ?_)
  refine G (q_al ?_)
  refine G0 (q_stw ?_)
  refine G0 (q_stw ?_)
  refine gend ?_
  refine awp_seq ?_
  refine awp_seq ?_
  refine rl ?_
  refine G (q_mv (s := sc (cn 0)) ?_)
  refine gend ?_
  refine awp_block ?_
  refine awp_loop (fun x : {i : Nat // i ≤ 64} => ⟨frm 46 [(1, sc (.ro k (pcs ps))), (4, sc (.ptr 0 0)), (7, sc (.ptr 4 0)), (8, sc (.ptr 5 0)), (23, sc (cn x.1))], [some (u8s (List.replicate 32 0)), some (u8s K), some [.ro n (u8s key)], some (u8s (bsum key)), some (u8s (xst K 54 x.1)), some (u8s (xst K 92 x.1))]⟩) (fun x => 64 - x.1) ⟨0, Nat.zero_le _⟩ (sle_sub ⟨rfl, rfl, rfl, rfl, rfl, trivial⟩ rfl) fun x => ?_   -- live: [7, 8, 23]
  have h5 := (xst_len K 54 x.1).trans hKl
  have h6 := (xst_len K 92 x.1).trans hKl
  refine awp_seq ?_
  refine rl ?_
  refine G (q_lssn (y := 64) ?_)
  refine gend ?_
  refine awp_seq ?_
  refine cnd (fun hc2 => ?_) (fun hc2 => ?_); rotate_left
  · refine awp_exit ?_
    rw [show x.1 = 64 from (by have := x.2; omega)]
    rw [x1, x2]
    refine awp_seq ?_
    refine rl ?_
    refine G (q_slp_no ?_)
    refine G (q_bsl (fkc rfl (et rfl) rfl (Nat.le_of_ble_eq_true rfl) (fk0 ?_)))
    refine Mv ?_
    refine G (q_app  ?_ (eA := el_slc (xs := [_]) rfl (Nat.le_refl 1) rfl) (eB := el_ro (by rw [pcs_len, hk]; omega)))
    refine G (q_callp g1 ?_ (ha := cac (et rfl) (sees_parts rfl rfl (parts_cons rfl rfl l1 hk)) ca0))
    refine G (q_al ?_)
    refine G0 (q_stw ?_)
    refine gend ?_
    refine awp_seq ?_
    refine rdl [2, 3, 4] [0, 0, 0, 1, 2] [0, 0, 1, 2, 3] ?_
    refine DSp 5 rfl (fun _ hv => q_slp_no ⟨rfl, rfl⟩ (hp := hv)) ?_
    refine DSp 8 rfl (fun _ hv => q_slp_no ⟨rfl, rfl⟩ (hp := hv)) ?_
    refine De (q_bsl (fkc rfl (et rfl) rfl (Nat.le_of_ble_eq_true rfl) (fkc rfl (et rfl) rfl (Nat.le_of_ble_eq_true rfl) (fk0 (pw ?_)))))
    refine De (q_callp g2 (pw ?_) (ha := cac (et rfl) (sees_parts rfl rfl (pq_slc rfl rfl (cut_h l2) l2 (pq_slc rfl rfl (cut_h hRl) hRl pq0))) ca0))
    refine De0 (q_stw (pw ?_))
    refine dend ?_
    refine awp_ret ?_
    exact fpc (t := 25) (a := 4) (hn := (mapc_length ..).trans hOl)
  refine awp_skip ?_
  refine awp_seq ?_
  refine awp_block ?_
  refine awp_seq ?_
  refine rl ?_
  refine Mv ?_
  refine As ?_
  refine gend ?_
  refine awp_seq ?_
  refine rl ?_
  refine Mv ?_
  refine G (q_ixp1 ?_)
  refine G (q_ldp ?_)
  refine G (q_xor8 (y := 54) ?_)
  refine G (q_ixp1 ?_)
  refine G0 (q_stm ?_)
  refine gend ?_
  refine rl ?_
  refine Mv ?_
  refine G (q_ixp1 ?_)
  refine G (q_ldp ?_)
  refine G (q_xor8 (y := 92) ?_)
  refine G (q_ixp1 ?_)
  refine G0 (q_stm ?_)
  refine gend ?_
  refine rl ?_
  refine G (q_addn (y := 1) ?_)
  refine Mv ?_
  refine gend ?_
  exact ⟨⟨x.1 + 1, by omega⟩, by show 64 - (x.1 + 1) < 64 - x.1; omega, sle_sub ⟨rfl, rfl, rfl, rfl, rfl, trivial⟩ rfl⟩   -- endloop 1
end Go.Proofs.Ytngmhcgenknokaa

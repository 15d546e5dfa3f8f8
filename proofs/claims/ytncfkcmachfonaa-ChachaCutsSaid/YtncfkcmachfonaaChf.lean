/- What functions of the program do, walked over the abstract machine. -/
import Derived.Test.YtncfkcmachfonaaChe
namespace Go.Proofs.Ytncfkcmachfonaa
open Go Go.Abs Go.Proofs

/-- What the functions do at one input that lies behind k blocks. -/
theorem names' (key : List UInt8) (ctr : UInt32) (nonce : List UInt8) (k n : Nat) (l : List UInt8) (hk : key.length = 32) (hn : nonce.length = 12) (hl : l.length = n) (hb : n ≤ 100000) (hkb : k ≤ 10) :
    ∃ X Y : List UInt8, X.length = 64 * k + n ∧ Y.length = n ∧ X.drop (64 * k) = Y ∧
      Good Try.prog 6 [.a (u8s key), .c (c32 ctr), .a (u8s nonce), .c (.ro (64 * k + n) (u8s (List.replicate (64 * k) 0 ++ l)))] [] (sc (.slc 0 0 (64 * k + n) 1)) [some (u8s X)] ∧
      Good Try.prog 6 [.a (u8s key), .c (c32 (ctr + UInt32.ofNat k)), .a (u8s nonce), .c (.ro n (u8s l))] [] (sc (.slc 0 0 n 1)) [some (u8s Y)] := by
  refine ⟨_, _, xw_len key ctr nonce (List.replicate (64 * k) 0 ++ l) (64 * k + n), xw_len key (ctr + UInt32.ofNat k) nonce l n, ?_, xor key ctr nonce _ _ hk hn (by simp [hl]) (by omega), xor key _ nonce n l hk hn hl (by omega)⟩
  refine List.ext_getElem (by simp [xw_len]) fun i h1 h2 => ?_
  rw [xw_len] at h2
  have e1 := xw_get key ctr nonce (List.replicate (64 * k) 0 ++ l) (64 * k + n) (64 * k + i) (by omega)
  have e2 := xw_get key (ctr + UInt32.ofNat k) nonce l n i h2
  have e3 : (List.replicate (64 * k) 0 ++ l).getD (64 * k + i) 0 = l.getD i 0 := by
    rw [List.getD_eq_getElem?_getD, List.getElem?_append_right (by simp), List.getD_eq_getElem?_getD]; simp
  rw [e3, show (64 * k + i) / 64 = k + i / 64 by omega, show (64 * k + i) % 64 = i % 64 by omega, UInt32.ofNat_add, ← UInt32.add_assoc, ← e2] at e1
  simpa [List.getD_eq_getElem?_getD, h2, xw_len, h1] using e1
/-- escutcheonlaw08.ChachaCuts -/
theorem cuts (key : List UInt8) (ctr : UInt32) (nonce : List UInt8) (k : Nat) (n : Nat) (l : List UInt8) (hk : key.length = 32) (hn : nonce.length = 12) (hl : l.length = n) (hb : n ≤ 140737488351232) (hkk : k ≤ 9223372036854775807) : Good Try.prog 4 [.a (u8s key), .c (c32 ctr), .a (u8s nonce), .c (cn k), .c (.ro n (u8s l))] [] (sc (.bool true)) [] := by
  refine good_frm 58 Try.func4 rfl rfl rfl rfl rfl rfl ?_
  refine awp_seq ?_
  refine rl ?_
  refine G (q_boxa ?_)
  refine G (q_boxa ?_)
  refine As ?_
  refine gend ?_
  refine awp_seq ?_
  refine awp_seq ?_
  refine rl ?_
  refine Mv ?_
  refine G (q_lssn (y := 0) ?_)
  refine Mv ?_
  refine Aspd 15 (fun hb3 => ?_) (fun hb3 => ?_)
  · refine Gn ?_
    refine Gn ?_
    refine G (q_pkt ?_)
    refine Mv ?_
    refine Gn ?_
    refine Gn ?_
    refine Gn ?_
    refine G (q_pkt ?_)
    refine gend ?_
    refine cndT ?_
    refine awp_seq ?_
    refine rl ?_
    refine G (q_callp (known/- escutcheon/escutcheonlaw08.known -/) ?_)
    refine As ?_
    refine gend ?_
    refine awp_ret ?_
    exact fp1
  refine Gg (q_mv (s := .v (.c _)) ?_)
  refine Gg (q_gtrn (y := 10) ?_)
  refine G (q_pkf ?_)
  refine Mv ?_
  refine Aspd 19 (fun hb7 => ?_) (fun hb7 => ?_)
  · refine Gn ?_
    refine Gn ?_
    refine Gn ?_
    refine G (q_pkt ?_)
    refine gend ?_
    refine cndT ?_
    refine awp_seq ?_
    refine rl ?_
    refine G (q_callp (known/- escutcheon/escutcheonlaw08.known -/) ?_)
    refine As ?_
    refine gend ?_
    refine awp_ret ?_
    exact fp1
  refine Gg (q_mv (s := .v (.c _)) ?_)
  refine Gg (q_leno ?_)
  refine Gg (q_gtrn (y := 600) ?_)
  refine G (q_pkf ?_)
  refine gend ?_
  refine cnd (fun hc1 => ?_) (fun hc1 => ?_)
  · refine awp_seq ?_
    refine rl ?_
    refine G (q_callp (known/- escutcheon/escutcheonlaw08.known -/) ?_)
    refine As ?_
    refine gend ?_
    refine awp_ret ?_
    exact fp1
  refine awp_skip ?_
  refine awp_seq ?_
  refine rl ?_
  refine Mv ?_
  obtain ⟨X, Y, hX, hY, hXY, g6, g6'⟩ := names' key ctr nonce k n l hk hn hl (by omega) (by omega)
  refine G (q_muln (x := 64) ?_)
  refine G (q_mks ?_)
  rw [rep_u8]
  have hR : (List.replicate (64 * k) (0 : UInt8)).length = 64 * k := List.length_replicate ..
  refine Mv ?_
  refine G (q_app ?_)
  refine As ?_
  refine gend ?_
  refine awp_le (sle_view (al' := [(1, sc (c32 ctr)), (3, sc (cn k)), (4, sc (.ro n (u8s l))), (5, sc (.ptr 0 0)), (7, sc (.ptr 1 0)), (11, sc (.slc 2 0 (64 * k + n) 1))]) (H' := [some (u8s key), some (u8s nonce), some (u8s (List.replicate (64 * k) 0 ++ l))]) [0, 1, 3] (fun p h => absurd h (Nat.not_lt_zero _)) (by decide) ⟨rfl, rfl, rs_ro, rfl, rfl, rfl, trivial⟩ (vh3 (pick_m rfl) (pick_m rfl) (pick_m (congrArg (fun x => some (some x)) (mapc_append ..))))) ?_
  have hRl : (List.replicate (64 * k) (0 : UInt8) ++ l).length = 64 * k + n := by simp [hl]
  refine awp_seq ?_
  refine rl ?_
  refine G (q_ldw ?_)
  refine Mv ?_
  refine G (q_ldw ?_)
  refine Mv ?_
  refine G (q_calln (g6/- escutcheon/chacha.Xor -/) ?_)
  refine As ?_
  refine gend ?_
  refine awp_seq ?_
  refine awp_seq ?_
  refine rl ?_
  refine Mv ?_
  refine G (q_lenc ?_)
  refine Mv ?_
  refine G (q_lenc ?_)
  refine G (q_neqn ?_)
  refine gend ?_
  refine cnd (fun hc2 => ?_) (fun hc2 => ?_)
  · refine awp_seq ?_
    refine rl ?_
    refine As ?_
    refine gend ?_
    refine awp_ret ?_
    omega
  refine awp_skip ?_
  refine awp_seq ?_
  refine rdl [12, 16] [0, 0, 0, 0, 0, 0, 0, 0, 0, 0, 0, 0, 0, 1, 1, 1, 1, 2, 2] [1, 1, 1, 1, 1, 0, 0, 0, 0, 0, 0, 0, 1, 1, 1, 1, 2, 2, 2] ?_
  refine Dp (fun _ => q_mv (s := .v (.c _)) ⟨rfl, rfl⟩) ?_
  refine Dp (fun _ => q_mv (s := .v (.c _)) ⟨rfl, rfl⟩) ?_
  refine Dp (fun _ => q_muln (x := 64) ⟨rfl, rfl⟩) ?_
  refine Dp (fun _ => q_sls_lo ⟨rfl, rfl⟩) ?_
  refine DCs ?_
  refine DLw ?_
  refine Dp (fun _ => q_mv (s := .v (.c _)) ⟨rfl, rfl⟩) ?_
  refine Dp (fun _ => q_mv (s := .v (.c _)) ⟨rfl, rfl⟩) ?_
  refine Dp (fun _ => q_cv0_32 ⟨rfl, rfl⟩) ?_
  refine Dp (fun _ => q_add32 ⟨rfl, rfl⟩) ?_
  refine DLw ?_
  refine Dp (fun _ => q_mv (s := .v (.c _)) ⟨rfl, rfl⟩) ?_
  refine De (q_calln (g6'/- escutcheon/chacha.Xor -/) (pw ?_))
  refine DCs ?_
  refine Dp (fun _ => q_eqls ⟨rfl, rfl⟩) ?_
  refine Dp (fun _ => q_mv (s := .v (.c _)) ⟨rfl, rfl⟩) ?_
  refine Dspd 55 (fun hb16 => ?_) (fun hb16 => ?_)
  · refine Deg (q_callp (known/- escutcheon/escutcheonlaw08.known -/) (pw ?_))
    refine Dp (fun _ => q_pkt ⟨rfl, rfl⟩) ?_
    refine Dp (fun _ => q_as (s := .v (.c _)) ⟨rfl, rfl⟩) ?_
    refine dend ?_
    refine awp_ret ?_
    exact fp1
  refine Dm ?_
  refine Dp (fun _ => q_pkf ⟨rfl, rfl⟩) ?_
  refine Dp (fun _ => q_as (s := .v (.c _)) ⟨rfl, rfl⟩) ?_
  refine dend ?_
  refine awp_ret ?_
  exact absurd (by rw [Nat.zero_add, Nat.mul_one, hXY, List.drop_zero, Nat.add_sub_cancel_left]) hb16
/-- escutcheonlaw08.ChachaCuts -/
theorem cuts_neg (key : List UInt8) (ctr : UInt32) (nonce : List UInt8) (m : Int) (n : Nat) (l : List UInt8) (hk : key.length = 32) (hn : nonce.length = 12) (hl : l.length = n) (hb : n ≤ 140737488351232) (hm : m < 0) (hm' : -9223372036854775808 ≤ m) : Good Try.prog 4 [.a (u8s key), .c (c32 ctr), .a (u8s nonce), .c (ci m), .c (.ro n (u8s l))] [] (sc (.bool true)) [] := by
  refine good_frm 58 Try.func4 rfl rfl rfl rfl rfl rfl ?_
  refine awp_seq ?_
  refine rl ?_
  refine G (q_boxa ?_)
  refine G (q_boxa ?_)
  refine As ?_
  refine gend ?_
  refine awp_seq ?_
  refine awp_seq ?_
  refine rl ?_
  refine Mv ?_
  refine G (q_lssi (y := 0) ?_)
  refine Mv ?_
  refine Aknd 15 (fun hb3 => ?_) ?_; rotate_left
  · exact hm
  refine Gn ?_
  refine Gn ?_
  refine G (q_pkt ?_)
  refine Mv ?_
  refine Gn ?_
  refine Gn ?_
  refine Gn ?_
  refine G (q_pkt ?_)
  refine gend ?_
  refine cndT ?_
  refine awp_seq ?_
  refine rl ?_
  refine G (q_callp (known/- escutcheon/escutcheonlaw08.known -/) ?_)
  refine As ?_
  refine gend ?_
  refine awp_ret ?_
  exact fp1
end Go.Proofs.Ytncfkcmachfonaa

/- What functions of the program do, walked over the abstract machine. -/
import Derived.Test.YtncfkcmachfonaaChd
namespace Go.Proofs.Ytncfkcmachfonaa
open Go Go.Abs Go.Proofs

theorem known_0 : (blk (List.replicate 32 0) 0 (List.replicate 12 0)).getD 0 0 = 118 := by decide +kernel
theorem known_1 : (blk (List.replicate 32 0) 0 (List.replicate 12 0)).getD 1 0 = 184 := by decide +kernel
theorem known_2 : (blk (List.replicate 32 0) 0 (List.replicate 12 0)).getD 2 0 = 224 := by decide +kernel
theorem known_3 : (blk (List.replicate 32 0) 0 (List.replicate 12 0)).getD 3 0 = 173 := by decide +kernel
theorem xw_get (key : List UInt8) (ctr : UInt32) (nonce l : List UInt8) (n i : Nat) (h : i < n) : (xw key ctr nonce l n).getD i 0 = l.getD i 0 ^^^ (blk key (ctr + UInt32.ofNat (i / 64)) nonce).getD (i % 64) 0 := by
  simp [xw, List.getD_eq_getElem?_getD, h]
theorem xw_xw (key : List UInt8) (ctr : UInt32) (nonce l : List UInt8) (n : Nat) (h : l.length = n) : xw key ctr nonce (xw key ctr nonce l n) n = l := by
  refine List.ext_getElem (by rw [xw_len, h]) fun i h1 h2 => ?_
  rw [xw_len] at h1
  have := xw_get key ctr nonce (xw key ctr nonce l n) n i h1
  rw [xw_get key ctr nonce l n i h1, UInt8.xor_assoc, UInt8.xor_self, UInt8.xor_zero] at this
  simpa [List.getD_eq_getElem?_getD, h2, xw_len, h1] using this
/-- escutcheonlaw08.known -/
theorem known : Good Try.prog 5 [] [] (sc (.bool true)) [] := by
  refine good_frm 23 Try.func5 rfl rfl rfl rfl rfl rfl ?_
  refine awp_seq ?_
  refine rl ?_
  refine As ?_
  refine gend ?_
  refine awp_seq ?_
  refine rl ?_
  refine G (q_bla (fk0 ?_))
  refine G (q_bla (fk0 ?_))
  refine G (q_callp (block (List.replicate 32 0) 0 (List.replicate 12 0) rfl rfl) ?_)
  obtain ⟨B, hB⟩ : ∃ B, B = blk (List.replicate 32 0) 0 (List.replicate 12 0) := ⟨_, rfl⟩
  rw [← hB]
  have hbl : B.length = 64 := hB ▸ blk_len ..
  have k0 : B.getD 0 0 = 118 := hB ▸ known_0
  have k1 : B.getD 1 0 = 184 := hB ▸ known_1
  have k2 : B.getD 2 0 = 224 := hB ▸ known_2
  have k3 : B.getD 3 0 = 173 := hB ▸ known_3
  refine G (q_al ?_)
  refine G0 (q_stw ?_ (hl := (mapc_length ..).trans hbl) (hc := rfl))
  refine gend ?_
  refine awp_seq ?_
  refine rl ?_
  refine G (q_ixp1 ?_)
  refine G (q_ldp ?_)
  refine G (q_eql8 (y := 118) ?_)
  refine Mv ?_
  refine Aspd 8 (fun hb4 => ?_) (fun hb4 => ?_)
  · refine Gg (q_ixp1 ?_)
    refine Gg (q_ldp ?_)
    refine Gg (q_eql8 (y := 184) ?_)
    refine G (q_pkt ?_)
    refine Mv ?_
    refine Aspd 13 (fun hb9 => ?_) (fun hb9 => ?_)
    · refine Gg (q_ixp1 ?_)
      refine Gg (q_ldp ?_)
      refine Gg (q_eql8 (y := 224) ?_)
      refine G (q_pkt ?_)
      refine Mv ?_
      refine Aspd 18 (fun hb14 => ?_) (fun hb14 => ?_)
      · refine Gg (q_ixp1 ?_)
        refine Gg (q_ldp ?_)
        refine Gg (q_eql8 (y := 173) ?_)
        refine G (q_pkt ?_)
        refine As ?_
        refine gend ?_
        refine awp_ret ?_
        exact fp1 (hv := by rw [k3]; rfl)
      refine Gn ?_
      refine Gn ?_
      refine Gn ?_
      refine G (q_pkf ?_)
      refine As ?_
      refine gend ?_
      refine awp_ret ?_
      exact absurd k2 hb14
    refine Gn ?_
    refine Gn ?_
    refine Gn ?_
    refine G (q_pkf ?_)
    refine Mv ?_
    refine Gn ?_
    refine Gn ?_
    refine Gn ?_
    refine G (q_pkf ?_)
    refine As ?_
    refine gend ?_
    refine awp_ret ?_
    exact absurd k1 hb9
  refine Gn ?_
  refine Gn ?_
  refine Gn ?_
  refine G (q_pkf ?_)
  refine Mv ?_
  refine Gn ?_
  refine Gn ?_
  refine Gn ?_
  refine G (q_pkf ?_)
  refine Mv ?_
  refine Gn ?_
  refine Gn ?_
  refine Gn ?_
  refine G (q_pkf ?_)
  refine As ?_
  refine gend ?_
  refine awp_ret ?_
  exact absurd k0 hb4
/-- What the functions do at one input, with names for what they give. -/
theorem names (key : List UInt8) (ctr : UInt32) (nonce : List UInt8) (n : Nat) (l : List UInt8) (hk : key.length = 32) (hn : nonce.length = 12) (hl : l.length = n) (hb : n ≤ 100000000) :
    ∃ B X : List UInt8, B.length = 64 ∧ X.length = n ∧ Good Try.prog 7 [.a (u8s key), .c (c32 ctr), .a (u8s nonce)] [] (sa (u8s B)) [] ∧ Good Try.prog 8 [.a (u8s key), .c (c32 ctr), .a (u8s nonce)] [] (sa (u8s B)) [] ∧
      Good Try.prog 6 [.a (u8s key), .c (c32 ctr), .a (u8s nonce), .c (.ro n (u8s l))] [] (sc (.slc 0 0 n 1)) [some (u8s X)] ∧ Good Try.prog 9 [.a (u8s key), .c (c32 ctr), .a (u8s nonce), .c (.ro n (u8s l))] [] (sc (.slc 0 0 n 1)) [some (u8s X)] ∧
      Good Try.prog 6 [.a (u8s key), .c (c32 ctr), .a (u8s nonce), .c (.ro n (u8s X))] [] (sc (.slc 0 0 n 1)) [some (u8s l)] := by
  have h := xor key ctr nonce n (xw key ctr nonce l n) hk hn (xw_len ..) hb
  rw [xw_xw key ctr nonce l n hl] at h
  exact ⟨_, _, blk_len key ctr nonce, xw_len key ctr nonce l n, block key ctr nonce hk hn, rblock' key ctr nonce hk hn, xor key ctr nonce n l hk hn hl hb, rxor key ctr nonce n l hk hn hl hb, h⟩
/-- escutcheonlaw08.ChachaBlocks -/
theorem blocks (key : List UInt8) (ctr : UInt32) (nonce : List UInt8) (n : Nat) (l : List UInt8) (hk : key.length = 32) (hn : nonce.length = 12) (hl : l.length = n) (hb : n ≤ 140737488351232) : Good Try.prog 3 [.a (u8s key), .c (c32 ctr), .a (u8s nonce), .c (.ro n (u8s l))] [] (sc (.bool true)) [] := by
  refine good_frm 63 Try.func3 rfl rfl rfl rfl rfl rfl ?_
  refine awp_seq ?_
  refine rl ?_
  refine G (q_boxa ?_)
  refine G (q_boxa ?_)
  refine As ?_
  refine gend ?_
  refine awp_seq ?_
  refine awp_seq ?_
  refine rl ?_
  refine Mv ?_
  refine G (q_leno ?_)
  refine G (q_gtrn (y := 1000) ?_)
  refine gend ?_
  refine cnd (fun hc1 => ?_) (fun hc1 => ?_)
  · refine awp_seq ?_
    refine rl ?_
    refine G (q_callp (known/- escutcheon/escutcheonlaw08.known -/) ?_)
    refine As ?_
    refine gend ?_
    refine awp_ret ?_
    exact fp1
  refine awp_skip ?_
  refine awp_seq ?_
  refine rl ?_
  refine Mv ?_
  obtain ⟨B, X, hbl, hx1, g7, g8, g6, g9, g6'⟩ := names key ctr nonce n l hk hn hl (by omega)
  refine G (q_app ?_)
  refine As ?_
  refine gend ?_
  refine reheap [(1, sc (c32 ctr)), (3, sc (.ro n (u8s l))), (4, sc (.ptr 0 0)), (6, sc (.ptr 1 0)), (9, sc (.slc 2 0 n 1))] [some (u8s key), some (u8s nonce), some (u8s l)] ?_ ⟨rfl, rfl, rfl, rfl, congrArg (fun k => sc (.slc 2 0 k 1)) (Nat.zero_add n), trivial⟩ rfl
  refine awp_seq ?_
  refine rl ?_
  refine G (q_ldw ?_)
  refine Mv ?_
  refine G (q_ldw ?_)
  refine Mv ?_
  refine G (q_calln (g6/- escutcheon/chacha.Xor -/) ?_)
  refine As ?_
  refine gend ?_
  refine awp_seq ?_
  refine rdl [3, 7, 16, 32, 39] [0, 0, 0, 0, 0, 0, 0, 1, 2, 2, 2, 2, 2, 2, 2, 2, 2, 3, 3, 3, 3, 3, 3, 3, 3, 3, 3, 3, 3, 3, 3, 3, 3, 4, 3, 3, 4, 4, 4, 4, 5, 5] [0, 0, 0, 1, 1, 1, 1, 2, 2, 2, 3, 3, 2, 2, 2, 2, 3, 3, 3, 3, 3, 3, 3, 3, 3, 3, 3, 3, 3, 3, 3, 3, 4, 4, 4, 4, 4, 4, 4, 5, 5, 5] ?_
  refine DLw ?_
  refine Dp (fun _ => q_mv (s := .v (.c _)) ⟨rfl, rfl⟩) ?_
  refine DLw ?_
  refine De (q_callp (g7/- escutcheon/chacha.Block -/) (pw ?_))
  refine DLw ?_
  refine Dp (fun _ => q_mv (s := .v (.c _)) ⟨rfl, rfl⟩) ?_
  refine DLw ?_
  refine De (q_callp (g8/- escutcheon/escutcheonref08.Block -/) (pw ?_))
  refine Dp (fun _ => q_eqa8 ⟨rfl, rfl⟩) ?_
  refine Dp (fun _ => q_mv (s := .v (.c _)) ⟨rfl, rfl⟩) ?_
  refine Dknd 31 (fun hb10 => ?_) ?_; rotate_left
  · first | exact rfl | rw [List.drop_zero, List.take_of_length_le (by omega)]
  refine Dpg (fun _ => q_mv (s := .v (.c _)) ⟨rfl, rfl⟩) ?_
  refine DCsg ?_
  refine DLwg ?_
  refine Dpg (fun _ => q_mv (s := .v (.c _)) ⟨rfl, rfl⟩) ?_
  refine DLwg ?_
  refine Dpg (fun _ => q_mv (s := .v (.c _)) ⟨rfl, rfl⟩) ?_
  refine Deg (q_calln (g9/- escutcheon/escutcheonref08.Xor -/) (pw ?_))
  refine DCsg ?_
  refine Dpg (fun _ => q_eqls ⟨rfl, rfl⟩) ?_
  refine Dp (fun _ => q_pkt ⟨rfl, rfl⟩) ?_
  refine Dp (fun _ => q_mv (s := .v (.c _)) ⟨rfl, rfl⟩) ?_
  refine Dknd 42 (fun hb21 => ?_) ?_; rotate_left
  · first | exact rfl | rw [List.drop_zero, List.take_of_length_le (by omega)]
  refine Dpg (fun _ => q_mv (s := .v (.c _)) ⟨rfl, rfl⟩) ?_
  refine DCsg ?_
  refine Dpg (fun _ => q_mv (s := .v (.c _)) ⟨rfl, rfl⟩) ?_
  refine Dpg (fun _ => q_cso ⟨rfl, rfl⟩) ?_
  refine Dpg (fun _ => q_eqls ⟨rfl, rfl⟩) ?_
  refine Dp (fun _ => q_pkt ⟨rfl, rfl⟩) ?_
  refine Dp (fun _ => q_mv (s := .v (.c _)) ⟨rfl, rfl⟩) ?_
  refine Dknd 49 (fun hb28 => ?_) ?_; rotate_left
  · first | exact rfl | rw [List.drop_zero, List.take_of_length_le (by omega)]
  refine DLwg ?_
  refine Dpg (fun _ => q_mv (s := .v (.c _)) ⟨rfl, rfl⟩) ?_
  refine DLwg ?_
  refine Dpg (fun _ => q_mv (s := .v (.c _)) ⟨rfl, rfl⟩) ?_
  refine Deg (q_calln (g6'/- escutcheon/chacha.Xor -/) (pw ?_))
  refine DCsg ?_
  refine Dpg (fun _ => q_mv (s := .v (.c _)) ⟨rfl, rfl⟩) ?_
  refine Dpg (fun _ => q_cso ⟨rfl, rfl⟩) ?_
  refine Dpg (fun _ => q_eqls ⟨rfl, rfl⟩) ?_
  refine Dp (fun _ => q_pkt ⟨rfl, rfl⟩) ?_
  refine Dp (fun _ => q_mv (s := .v (.c _)) ⟨rfl, rfl⟩) ?_
  refine Dknd 60 (fun hb39 => ?_) ?_; rotate_left
  · first | exact rfl | rw [List.drop_zero, List.take_of_length_le (by omega)]
  refine Deg (q_callp (known/- escutcheon/escutcheonlaw08.known -/) (pw ?_))
  refine Dp (fun _ => q_pkt ⟨rfl, rfl⟩) ?_
  refine Dp (fun _ => q_as (s := .v (.c _)) ⟨rfl, rfl⟩) ?_
  refine dend ?_
  refine awp_ret ?_
  exact fp1
end Go.Proofs.Ytncfkcmachfonaa

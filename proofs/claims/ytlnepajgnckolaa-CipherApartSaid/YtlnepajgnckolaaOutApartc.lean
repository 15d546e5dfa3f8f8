/- Texts that the proof stands on, put together: the abstract machine, and what functions do over it. -/
import Derived.Test.YtlnepajgnckolaaOutApartb
import Derived.Laws.Externs
import Derived.KernelRfl
import Derived.Test.YtlnepajgnckolaaProg
/- The abstract machine: code, piece by piece. -/
namespace Go.Abs
open Go

section
variable {P : Program} {n N id : Nat} {Q : Exit → St → Prop} {st : St} {ops : Array Oper} {x y : Code} {al : List (Nat × S)} {H : Heap}
theorem rl (h : aops P ops.toList (Q .normal) ops.toList st) (hn : Nat.ble n st.H.length = true := by exact rfl) : AWp P n (.region id ops false) Q st :=
  awp_region (Nat.le_of_ble_eq_true hn) h
theorem rdl (es lo hi : List Nat) (h : Dw P ops.toList lo hi (Q .normal) ops.toList 0 es [H] [] (frm N al)) (hn : Nat.ble n H.length = true := by exact rfl) (hm : P.follows .mixedOrders = true := by exact rfl) (hB : drawE ops.toList es lo hi = true := by decide +kernel) : AWp P n (.region id ops true) Q ⟨frm N al, H⟩ :=
  awp_drawE es lo hi hm hB (Nat.le_of_ble_eq_true hn) h
theorem cnd {c : Operand} {p : Prop} [Decidable p] (h1 : p → AWp P n x Q st) (h2 : ¬ p → AWp P n y Q st) (hc : ev st.fr c = .v (.c (.bool (decide p))) := by first | exact et rfl | exact rfl) : AWp P n (.cond c x y) Q st := awp_c hc h1 h2
theorem cndb {c : Operand} {b : Bool} (h1 : b = true → AWp P n x Q st) (h2 : b = false → AWp P n y Q st) (hc : ev st.fr c = .v (.c (.bool b)) := by first | exact et rfl | exact rfl) : AWp P n (.cond c x y) Q st := awp_cb hc h1 h2
theorem cndbn {c : Operand} {b : Bool} (h1 : b = false → AWp P n x Q st) (h2 : b = true → AWp P n y Q st) (hc : ev st.fr c = .v (.c (.bool (!b))) := by first | exact et rfl | exact rfl) : AWp P n (.cond c x y) Q st :=
  awp_cb hc (fun h => h1 (by simpa using h)) (fun h => h2 (by simpa using h))
theorem cndT {c : Operand} (h1 : AWp P n x Q st) (hc : ev st.fr c = .v (.c (.bool true)) := by first | exact et rfl | exact et (congrArg (fun b => S.v (V.c (Cell.bool b))) (by assumption)) | exact et (congrArg (fun b => S.v (V.c (Cell.bool b))) (decide_eq_true (by assumption))) | exact rfl) : AWp P n (.cond c x y) Q st := awp_ct hc h1
theorem cndF {c : Operand} (h1 : AWp P n y Q st) (hc : ev st.fr c = .v (.c (.bool false)) := by first | exact et rfl | exact et (congrArg (fun b => S.v (V.c (Cell.bool b))) (by assumption)) | exact et (congrArg (fun b => S.v (V.c (Cell.bool b))) (decide_eq_false (by assumption))) | exact rfl) : AWp P n (.cond c x y) Q st := awp_cf hc h1
theorem cndY {c : Operand} {p : Prop} [Decidable p] (h1 : p → AWp P n x Q st) (h2 : p) (hc : ev st.fr c = .v (.c (.bool (decide p))) := by first | exact et rfl | exact rfl) : AWp P n (.cond c x y) Q st := awp_c hc h1 (fun h => absurd h2 h)
theorem cndN {c : Operand} {p : Prop} [Decidable p] (h1 : ¬ p → AWp P n y Q st) (h2 : ¬ p) (hc : ev st.fr c = .v (.c (.bool (decide p))) := by first | exact et rfl | exact rfl) : AWp P n (.cond c x y) Q st := awp_c hc (fun h => absurd h h2) h1
theorem cndbY {c : Operand} {b : Bool} (h1 : b = true → AWp P n x Q st) (h2 : b = true) (hc : ev st.fr c = .v (.c (.bool b)) := by first | exact et rfl | exact rfl) : AWp P n (.cond c x y) Q st := awp_cb hc h1 (fun h => by rw [h2] at h; cases h)
theorem cndbnN {c : Operand} {b : Bool} (h1 : b = true → AWp P n y Q st) (h2 : b = true) (hc : ev st.fr c = .v (.c (.bool (!b))) := by first | exact et rfl | exact rfl) : AWp P n (.cond c x y) Q st := cndbn (fun h => by rw [h2] at h; cases h) h1 hc
/-- What a slot holds, told otherwise. -/
theorem retell {al : List (Nat × S)} (al' : List (Nat × S)) (h : AWp P n x Q ⟨frm N al', H⟩) (he : SubL al al') : AWp P n x Q ⟨frm N al, H⟩ := awp_le (sle_sub he rfl) h
theorem reheap {al : List (Nat × S)} (al' : List (Nat × S)) (H' : Heap) (h : AWp P n x Q ⟨frm N al', H'⟩) (he : SubL al al') (hH : H = H') : AWp P n x Q ⟨frm N al, H⟩ := awp_le (sle_sub he hH) h
end

/-! A body's end. -/
section
variable {P : Program} {st : St} {f : Cell → Cell} {l : List ResultVar} {ys : List V}
def RV (P : Program) (st : St) (f : Cell → Cell) (l : List ResultVar) (ys : List V) : Prop := ∃ xs, (∀ K : List V → Prop, K xs → resK P st l K) ∧ xs.map (vm f) = ys
theorem rv0 : RV P st f [] [] := ⟨[], fun _ h => rk0 h, rfl⟩
theorem rvt {t : Nat} {x y : V} (hx : ev st.fr (.tmp t) = .v x) (hm : vm f x = y) (h : RV P st f l ys) : RV P st f (.tmp t :: l) (y :: ys) := by
  obtain ⟨xs, h1, h2⟩ := h
  exact ⟨x :: xs, fun K hK => rkt hx (h1 _ hK), by simp [hm, h2]⟩
theorem rva {t a p : Nat} {ti : TI} {cs : List Cell} {y : V} [it : TiOf P t ti] (hx : ev st.fr (.tmp a) = sc (.ptr p 0)) (hp : st.H[p]? = some (some cs)) (hl : cs.length = ti.size) (hm : vm f (.a cs) = y) (h : RV P st f l ys) (hk : ti.kind.agg = true := by exact rfl) (hz : Nat.blt 0 ti.size = true := by exact rfl) : RV P st f (.cell a t :: l) (y :: ys) := by
  obtain ⟨xs, h1, h2⟩ := h
  exact ⟨.a cs :: xs, fun K hK => rka it.h hk hz hx hp hl (h1 _ hK), by simp [hm, h2]⟩
theorem sm_packR (f : Cell → Cell) : ∀ xs : List V, sm f (packR xs) = packR (xs.map (vm f))
  | [] => rfl
  | [_] => rfl
  | _ :: _ :: _ => rfl

variable {fn : Func} {v : S} {H' : Heap}
theorem fin_g {n : Nat} (π : List Nat) (hn : ∀ p, p < n → π[p]? = some p) (hnd : π.Nodup) (hv : v = packR ys) (hl : fn.results.toList = l) (hr : RV P st (cm ⟨fun p => idx p π, fun _ => none, true, false⟩ 8) l ys)
    (hH : H' = π.map (pick st.H (cm ⟨fun p => idx p π, fun _ => none, true, false⟩ 8))) : fin P fn n v H' st := by
  obtain ⟨xs, h1, h2⟩ := hr
  exact fin_of π hn hnd hl h1 (by rw [hv, sm_packR, h2]) hH
theorem pi0 : ∀ p : Nat, p < 1 → [0][p]? = some p := by
  intro p hp
  have h : p = 0 := by omega
  rw [h]; rfl
theorem fp1 {t0 : Nat} {x0 y0 : V} (hl : fn.results.toList = [.tmp t0] := by exact rfl) (hx0 : ev st.fr (.tmp t0) = .v x0 := by first | exact et rfl | exact rfl) (hm0 : vm (cm ⟨fun p => idx p [], fun _ => none, true, false⟩ 8) x0 = y0 := by first | exact vs_int | exact vs_bool | exact vs_m | exact vs_str | exact vs_nilp | exact rfl) (hv : v = .v y0 := by exact rfl) : fin P fn 0 v [] st :=
  fin_g (ys := [y0]) [] (by simp) List.nodup_nil hv hl (rvt hx0 hm0 rv0) rfl
theorem fp2 {t0 t1 : Nat} {x0 y0 x1 y1 : V} (hl : fn.results.toList = [.tmp t0, .tmp t1] := by exact rfl) (hx0 : ev st.fr (.tmp t0) = .v x0 := by first | exact et rfl | exact rfl) (hm0 : vm (cm ⟨fun p => idx p [], fun _ => none, true, false⟩ 8) x0 = y0 := by first | exact vs_int | exact vs_bool | exact vs_m | exact vs_str | exact vs_nilp | exact rfl) (hx1 : ev st.fr (.tmp t1) = .v x1 := by first | exact et rfl | exact rfl) (hm1 : vm (cm ⟨fun p => idx p [], fun _ => none, true, false⟩ 8) x1 = y1 := by first | exact vs_int | exact vs_bool | exact vs_m | exact vs_str | exact vs_nilp | exact rfl) (hv : v = .t [y0, y1] := by exact rfl) : fin P fn 0 v [] st :=
  fin_g (ys := [y0, y1]) [] (by simp) List.nodup_nil hv hl (rvt hx0 hm0 (rvt hx1 hm1 rv0)) rfl
theorem fpc {a t p : Nat} {ti : TI} {ds : List Cell} {y : V} [it : TiOf P t ti] (hl : fn.results.toList = [.cell a t] := by exact rfl) (hx : ev st.fr (.tmp a) = sc (.ptr p 0) := by first | exact et rfl | exact rfl) (hp : st.H[p]? = some (some ds) := by exact rfl) (hn : ds.length = ti.size := by first | exact rfl | (simp; done) | omega) (hk : ti.kind.agg = true := by exact rfl) (hz : Nat.blt 0 ti.size = true := by exact rfl) (hm : vm (cm ⟨fun p => idx p [], fun _ => none, true, false⟩ 8) (.a ds) = y := by first | exact vs_int | exact vs_bool | exact vs_m | exact vs_str | exact vs_nilp | exact rfl) (hv : v = .v y := by exact rfl) : fin P fn 0 v [] st :=
  fin_g (ys := [y]) [] (by simp) List.nodup_nil hv hl (rva hx hp hn hm rv0 hk hz) rfl
theorem fn1 {t0 : Nat} {x0 y0 : V} {cs cs' cs'' : List Cell} (q : Nat) (hl : fn.results.toList = [.tmp t0] := by exact rfl) (hx0 : ev st.fr (.tmp t0) = .v x0 := by first | exact et rfl | exact rfl) (hm0 : vm (cm ⟨fun p => idx p [q], fun _ => none, true, false⟩ 8) x0 = y0 := by first | exact vs_int | exact vs_bool | exact vs_m | exact vs_str | exact vs_nilp | exact rfl) (hq : st.H[q]? = some (some cs) := by exact rfl) (hc : cs.map (cm ⟨fun p => idx p [q], fun _ => none, true, false⟩ 8) = cs'' := by first | exact mapc_cm _ _ _ | (simp only [List.map_cons, List.map_nil, List.set_cons_zero, List.set_cons_succ, cm_int, cm_bool, cm_str, cm_nilp, cm_nils, cm_nilf, vOf]; done) | (simp only [List.map_cons, List.map_nil, List.set_cons_zero, List.set_cons_succ, cm_int, cm_bool, cm_str, cm_nilp, cm_nils, cm_nilf, vOf]; exact rfl) | exact rfl) (hH : cs'' = cs' := by exact rfl) (hv : v = .v y0 := by exact rfl) : fin P fn 0 v [some cs'] st :=
  fin_g (ys := [y0]) [q] (by simp) (by simp) hv hl (rvt hx0 hm0 rv0) (by simp [pick, hq, hc, hH])
theorem fw0 {cs cs' cs'' : List Cell} (hl : fn.results.toList = [] := by exact rfl) (hq : st.H[0]? = some (some cs) := by exact rfl) (hc : cs.map (cm ⟨fun p => idx p [0], fun _ => none, true, false⟩ 8) = cs'' := by first | exact mapc_cm _ _ _ | (simp only [List.map_cons, List.map_nil, List.set_cons_zero, List.set_cons_succ, cm_int, cm_bool, cm_str, cm_nilp, cm_nils, cm_nilf, vOf]; done) | (simp only [List.map_cons, List.map_nil, List.set_cons_zero, List.set_cons_succ, cm_int, cm_bool, cm_str, cm_nilp, cm_nils, cm_nilf, vOf]; exact rfl) | exact rfl) (hH : cs'' = cs' := by exact rfl) (hv : v = .t [] := by exact rfl) : fin P fn 1 v [some cs'] st :=
  fin_g (n := 1) (ys := []) [0] pi0 (by simp) hv hl rv0 (by simp [pick, hq, hc, hH])
end
end Go.Abs

/- The abstract machine: an empty slice as a block of its own; memory looked at anew. -/
namespace Go.Abs
open Go

/-- What stands between two pieces of code is told in these words, however it was come by. -/
theorem awp_mid {P : Program} {n : Nat} {x y : Code} {Q : Exit → St → Prop} {st : St} (st0 : St) (h1 : AWp P n x (then_ (fun s => SLe n s st0) Q) st) (h2 : AWp P n y Q st0) : AWp P n (.seq x y) Q st := by
  refine awp_seq fun E ρ a w hE hs => wp_mono (h1 E ρ a w hE hs) ?_
  rintro e a' w' ⟨st', ρ', k1, k2, k3⟩
  refine ⟨st', ρ', ?_, k2, k3⟩
  cases e with
  | normal => exact awp_le k1 h2
  | _ => exact k1
/-- Nothing at all may be told as an empty slice of this block. -/
def SubE (q sz : Nat) (al : List (Nat × S)) : List (Nat × S) → Prop
  | [] => True
  | (t, s) :: r => (lkp al t = s ∨ (lkp al t = sc .nils ∧ s = sc (.slc q 0 0 sz))) ∧ SubE q sz al r

theorem sube_get {q sz : Nat} {al : List (Nat × S)} : ∀ {al' : List (Nat × S)}, SubE q sz al al' → ∀ t, lkp al' t = ud ∨ lkp al' t = lkp al t ∨ (lkp al t = sc .nils ∧ lkp al' t = sc (.slc q 0 0 sz))
  | [], _, _ => .inl rfl
  | (i, s) :: r, h, t => by
    simp only [SubE] at h
    simp only [lkp]
    cases hb : Nat.beq i t with
    | true =>
      have := Nat.eq_of_beq_eq_true hb
      subst this
      rw [cond_true]
      rcases h.1 with h | ⟨h, h'⟩
      · exact .inr (.inl h.symm)
      · exact .inr (.inr ⟨h, h'⟩)
    | false => rw [cond_false]; exact sube_get h.2 t

theorem sle_empty {n N : Nat} {al al' : List (Nat × S)} {H : Heap} (sz : Nat) (hn : n ≤ H.length) (hf : SubE H.length sz al al') : SLe n ⟨frm N al, H⟩ ⟨frm N al', H ++ [some []]⟩ := by
  intro E ρ a w hs
  let ρ' : Nat → Place := fun p => if p = H.length then ⟨0, 0, 0⟩ else ρ p
  have hρ : ∀ p, p < H.length → ρ' p = ρ p := fun p hp => if_neg (by omega)
  have hle : (E.rl H.length ρ).Le (E.rl (H ++ [some []]).length ρ') := ⟨fun b hb => ⟨hb, rfl⟩, fun p hp => ⟨by
    show p < (H ++ [some []]).length
    have hp' : p < H.length := hp
    simp; omega, hρ p hp⟩⟩
  have hget : ∀ p cs, (H ++ [some ([] : List Cell)])[p]? = some (some cs) → (ρ' p).room ≠ 0 → p < H.length ∧ H[p]? = some (some cs) := by
    intro p cs hp hr
    by_cases hlt : p < H.length
    · rw [List.getElem?_append_left hlt] at hp; exact ⟨hlt, hp⟩
    · have := (List.getElem?_eq_some_iff.1 hp).1
      simp at this
      have : p = H.length := by omega
      subst this
      simp [ρ'] at hr
  refine ⟨ρ', fun p hp => hρ p (by omega), ⟨hs.fr.1, by rw [frm_length]; have := hs.fr.2.1; rwa [frm_length] at this, fun t s ht => ?_⟩, ?_⟩
  · have hlt : t < N := by
      have := (List.getElem?_eq_some_iff.1 ht).1
      rwa [frm_length] at this
    rw [frm_get hlt] at ht
    obtain rfl := Option.some.inj ht
    obtain ⟨v, k1, k2⟩ := hs.fr.2.2 t _ (frm_get hlt)
    refine ⟨v, k1, ?_⟩
    rcases sube_get hf t with h | h | ⟨h, h'⟩
    · rw [h]; simp [ud, SRel, VRel, CRel]
    · rw [h]; exact SRel.mono hle _ _ k2
    · rw [h']
      rw [h] at k2
      simp only [SRel, VRel, CRel] at k2 ⊢
      subst k2
      exact ⟨by show H.length < (H ++ [some []]).length; simp, none, 0, rfl, Nat.le_refl _, .inr rfl⟩
  · have hh := hs.heap
    refine ⟨hh.os, hh.tape, hh.output, hh.size, hh.frame, fun p cs hp hr => ?_, fun p q cs ds hp hq hrp hrq he => ?_, fun p cs hp hr => ?_, fun p cs hp hr => ?_⟩
    · obtain ⟨h1, h2⟩ := hget p cs hp hr
      rw [hρ p h1] at hr ⊢
      exact hh.fresh p cs h2 hr
    · obtain ⟨h1, h2⟩ := hget p cs hp hrp
      obtain ⟨h3, h4⟩ := hget q ds hq hrq
      rw [hρ p h1] at hrp he
      rw [hρ q h3] at hrq he
      exact hh.inj p q cs ds h2 h4 hrp hrq he
    · obtain ⟨h1, h2⟩ := hget p cs hp hr
      rw [hρ p h1] at hr ⊢
      exact (hh.blk p cs h2 hr).mono hle rfl
    · by_cases hlt : p < H.length
      · rw [List.getElem?_append_left hlt] at hp
        rw [hρ p hlt] at hr
        exact hh.emp p cs hp hr
      · have := (List.getElem?_eq_some_iff.1 hp).1
        simp at this
        have : p = H.length := by omega
        subst this
        simpa using hp

theorem rs_ro {α : Type} {k : IntKind} {g : α → Int} {l : List α} {n : Nat} {f : Nat → Option Nat} {x : Nat → Option (List Cell)} {b : Bool} : sm (cm ⟨f, x, true, b⟩ 8) (sc (.ro n (mapc k g l))) = sc (.ro n (mapc k g l)) := by
  show S.v (.c (.ro n ((mapc k g l).map (cm ⟨f, x, true, b⟩ 7)))) = _
  rw [mapc_cm]
theorem pick_c {H : Heap} {m : CM} {p : Nat} {cs : List Cell} (h : H[p]? = some (some cs)) (hc : cs.map (cm m 8) = cs) : pick H (cm m 8) p = some cs := by
  unfold pick; rw [h]; simp only [hc]
theorem pick_m {α : Type} {k : IntKind} {g : α → Int} {l : List α} {H : Heap} {m : CM} {p : Nat} (h : H[p]? = some (some (mapc k g l))) : pick H (cm m 8) p = some (mapc k g l) := pick_c h (mapc_cm m 8 l)
theorem rep_u8 (n : Nat) : rep n [c8 0] = u8s (List.replicate n 0) := by
  rw [rep_eq]
  induction n with
  | zero => rfl
  | succ n ih => rw [List.replicate_succ, List.flatten_cons, ih]; rfl
theorem vh1 {H : Heap} {f : Cell → Cell} {a : Nat} {x : Option (List Cell)} (h : pick H f a = x) : [x] = [a].map (pick H f) := by simp [h]
theorem vh2 {H : Heap} {f : Cell → Cell} {a b : Nat} {x y : Option (List Cell)} (h : pick H f a = x) (h1 : pick H f b = y) : [x, y] = [a, b].map (pick H f) := by simp [h, h1]
theorem vh3 {H : Heap} {f : Cell → Cell} {a b c : Nat} {x y z : Option (List Cell)} (h : pick H f a = x) (h1 : pick H f b = y) (h2 : pick H f c = z) : [x, y, z] = [a, b, c].map (pick H f) := by simp [h, h1, h2]
theorem vh5 {H : Heap} {f : Cell → Cell} {a b c d e : Nat} {x y z w v : Option (List Cell)} (h : pick H f a = x) (h1 : pick H f b = y) (h2 : pick H f c = z) (h3 : pick H f d = w) (h4 : pick H f e = v) : [x, y, z, w, v] = [a, b, c, d, e].map (pick H f) := by simp [h, h1, h2, h3, h4]
theorem vh4 {H : Heap} {f : Cell → Cell} {a b c d : Nat} {x y z w : Option (List Cell)} (h : pick H f a = x) (h1 : pick H f b = y) (h2 : pick H f c = z) (h3 : pick H f d = w) : [x, y, z, w] = [a, b, c, d].map (pick H f) := by simp [h, h1, h2, h3]
/-- A call by way of a variable that holds a function: one block is handed over. -/
theorem r_callcw {P : Program} {fr : List S} {H : Heap} {K : S → Heap → Prop} {o : Oper} {F : Operand} {k : Nat} {caps : List Cell} {caps' : List V} {args : Array Operand} {ats : Array TypeId} {v s : S} {cs cs' ds ds' : List Cell} {args' : List V} (p : Nat) (ho : o.op = .call ⟨.value F, args, ats⟩)
    (hf : ev fr F = sc (.fn k caps)) (ha : CA fr H [p] true args.toList args') (hcap : caps.map (fun c => V.c (cm (cin [p] true H) 8 c)) = caps') (hp : H[p]? = some (some cs)) (hcs : cs.map (cm (cin [p] true H) 8) = cs')
    (hg : Good P k (args' ++ caps') [some cs'] v [some ds]) (hds : ds.map (cm (cout [p] true H.length) 8) = ds') (e3 : sm (cm (cout [p] true H.length) 8) v = s) (h : K s (H.set p (some ds'))) : ostep P o fr H K := by
  obtain ⟨avs, h1, h2⟩ := ha
  have hlt : p < H.length := (List.getElem?_eq_some_iff.1 hp).1
  refine r_call [p] true ho hf h1 (by simp) (by simpa using hlt) (by rw [List.map_append, h2, ← hcap, List.map_map]; rfl) (by simp [pick, hp, hcs]) hg e3 ?_ h
  apply List.ext_getElem?
  intro j
  rw [back, List.drop_of_length_le (by simp)]
  simp only [picks, List.append_nil]
  rw [putB_get, List.getElem?_set, Nat.zero_add]
  by_cases hj : p = j
  · subst hj
    simp [hlt, pbk, idx, pick, hds]
  · simp [hj, pbk, idx]
theorem q_callcw {P : Program} {fr : List S} {H : Heap} {K : S → Heap → Prop} {od : Option Nat} {oty : TypeId} {ops_ : String} {oaf : Array Edge} {ogu : Option (Nat × Bool)} {F : Operand} {k : Nat} {caps : List Cell} {args : Array Operand} {ats : Array TypeId} {v s : S} {cs cs' ds ds' : List Cell} {all : List V} (p : Nat)
    (hg : Good P k all [some cs'] v [some ds]) (h : K s (H.set p (some ds'))) (hf : ev fr F = sc (.fn k caps) := by first | exact et rfl | exact rfl) (ha : CA fr H [p] true args.toList (all.take args.size) := by repeat' (first | exact ca0 | refine cac (by first | exact et rfl | exact rfl) (by first | exact cm_int | exact cm_bool | exact cm_str | exact sees_ro | (apply sees_slc; exact rfl; (first | exact rfl | assumption); (first | exact cut_h (by with_reducible assumption) | exact rfl | exact cut_m | exact cut_w)) | (apply sees_parts; exact rfl; (first | exact rfl | assumption); (repeat' (first | exact pq0 | (apply pq_ro; (first | with_reducible assumption | (simp only [List.length_take, List.length_drop, List.length_append] <;> omega) | exact rfl)) | refine pq_nil ?_ | (apply pq_slc; exact rfl; (first | exact rfl | assumption); (first | exact cut_h (by with_reducible assumption) | exact rfl | exact cut_m | exact cut_w); (first | with_reducible assumption | (simp only [List.length_take, List.length_drop, List.length_append] <;> omega) | exact rfl))))) | exact sees_nil8 | exact sees_nil | exact sees_ptr rfl (by first | exact rfl | assumption) rfl rfl | exact rfl) ?_ | refine caa (by first | exact et rfl | exact rfl) (by first | exact sees_m | exact rfl) ?_)) (hcap : caps.map (fun c => V.c (cm (cin [p] true H) 8 c)) = all.drop args.size := by exact rfl) (hp : H[p]? = some (some cs) := by exact rfl) (hcs : cs.map (cm (cin [p] true H) 8) = cs' := by first | exact sees_m | exact rfl) (hds : ds.map (cm (cout [p] true H.length) 8) = ds' := by first | exact sees_m | exact rfl) (e3 : sm (cm (cout [p] true H.length) 8) v = s := by first | exact rs_int | exact rs_bool | exact rs_m | exact rs_new | exact rs_nils | exact rs_str | exact rs_newp | exact rs_nilp | exact vt0 | exact vt2 (by first | exact vs_int | exact vs_bool | exact vs_m | exact vs_new | exact vs_nils | exact vs_str | exact vs_newp | exact vs_nilp | exact rfl) (by first | exact vs_int | exact vs_bool | exact vs_m | exact vs_new | exact vs_nils | exact vs_str | exact vs_newp | exact vs_nilp | exact rfl) | exact vt3 (by first | exact vs_int | exact vs_bool | exact vs_m | exact vs_new | exact vs_nils | exact vs_str | exact vs_newp | exact vs_nilp | exact rfl) (by first | exact vs_int | exact vs_bool | exact vs_m | exact vs_new | exact vs_nils | exact vs_str | exact vs_newp | exact vs_nilp | exact rfl) (by first | exact vs_int | exact vs_bool | exact vs_m | exact vs_new | exact vs_nils | exact vs_str | exact vs_newp | exact vs_nilp | exact rfl) | exact vt4 (by first | exact vs_int | exact vs_bool | exact vs_m | exact vs_new | exact vs_nils | exact vs_str | exact vs_newp | exact vs_nilp | exact rfl) (by first | exact vs_int | exact vs_bool | exact vs_m | exact vs_new | exact vs_nils | exact vs_str | exact vs_newp | exact vs_nilp | exact rfl) (by first | exact vs_int | exact vs_bool | exact vs_m | exact vs_new | exact vs_nils | exact vs_str | exact vs_newp | exact vs_nilp | exact rfl) (by first | exact vs_int | exact vs_bool | exact vs_m | exact vs_new | exact vs_nils | exact vs_str | exact vs_newp | exact vs_nilp | exact rfl) | exact rfl) : ostep P ⟨od, .call ⟨.value F, args, ats⟩, oty, ops_, oaf, ogu⟩ fr H K :=
  r_callcw p rfl hf ha hcap hp hcs ((List.take_append_drop args.size all).symm ▸ hg) hds e3 h
/-- A call that is handed some blocks, whatever it makes of them, and makes others. -/
def setB : List Nat → Heap → Heap → Heap
  | p :: π, x :: L, H => setB π L (H.set p x)
  | _, _, H => H
theorem setB_get : ∀ (π : List Nat) (L H : Heap) (j : Nat), π.Nodup → L.length = π.length → (setB π L H)[j]? = (H[j]?).map fun b => match idx j π with | some i => L.getD i none | none => b
  | [], [], H, j, _, _ => by simp [setB, idx]
  | [], _ :: _, _, _, _, h => by simp at h
  | _ :: _, [], _, _, _, h => by simp at h
  | p :: π, x :: L, H, j, hn, hl => by
    rw [setB, setB_get π L (H.set p x) j (List.nodup_cons.1 hn).2 (by simpa using hl), List.getElem?_set]
    by_cases hj : p = j
    · subst hj
      have hni : idx p π = none := by
        cases h : idx p π with
        | none => rfl
        | some i => exact absurd (List.mem_of_getElem? (idx_get h)) (List.nodup_cons.1 hn).1
      by_cases hlt : p < H.length
      · simp [hlt, idx, hni]
      · simp [hlt]
    · rw [if_neg hj]
      cases h : idx j π with
      | none => simp [idx, hj, h]
      | some i => simp [idx, hj, h]
theorem picks_map (f : Cell → Cell) : ∀ H : Heap, picks f H = H.map (Option.map (List.map f))
  | [] => rfl
  | some _ :: r => by simp [picks, picks_map f r]
  | none :: r => by simp [picks, picks_map f r]
theorem back_split {π : List Nat} {f : Cell → Cell} {H L N : Heap} (hnd : π.Nodup) (hl : L.length = π.length) : back π f H (L ++ N) = setB π (L.map (Option.map (List.map f))) H ++ N.map (Option.map (List.map f)) := by
  rw [back, ← hl, List.drop_left, picks_map]
  congr 1
  apply List.ext_getElem?
  intro j
  rw [putB_get, setB_get _ _ _ _ hnd (by simpa using hl), Nat.zero_add]
  congr 1
  funext b
  unfold pbk
  cases h : idx j π with
  | none => rfl
  | some i =>
    have hi : i < L.length := by rw [hl]; exact (List.getElem?_eq_some_iff.1 (idx_get h)).1
    simp only [pick, List.getElem?_append_left hi, List.getD_eq_getElem?_getD, List.getElem?_map, List.getElem?_eq_getElem hi]
    cases L[i] <;> rfl
theorem pl0 {H : Heap} {f : Cell → Cell} : ([] : List Nat).map (pick H f) = [] := rfl
theorem pl1 {H Hl : Heap} {f : Cell → Cell} {p : Nat} {π : List Nat} {cs cs' : List Cell} (hp : H[p]? = some (some cs)) (hc : cs.map f = cs') (h : π.map (pick H f) = Hl) : (p :: π).map (pick H f) = some cs' :: Hl := by
  simp [pick, hp, hc, ← h]
theorem ml0 {f : Cell → Cell} : ([] : Heap).map (Option.map (List.map f)) = [] := rfl
theorem ml1 {f : Cell → Cell} {L L' : Heap} {x y : List Cell} (hx : x.map f = y) (h : L.map (Option.map (List.map f)) = L') : (some x :: L).map (Option.map (List.map f)) = some y :: L' := by
  simp [hx, h]
theorem r_callv {P : Program} {fr : List S} {H : Heap} {K : S → Heap → Prop} {o : Oper} {f : Nat} {args : Array Operand} {ats : Array TypeId} {v s : S} {Hl L L' M M' : Heap} {args' : List V} (π : List Nat) (ho : o.op = .call ⟨.value (.func f), args, ats⟩)
    (ha : CA fr H π true args.toList args') (hnd : π.Nodup) (hπ : ∀ p ∈ π, p < H.length) (e2 : π.map (pick H (cm (cin π true H) 8)) = Hl) (hg : Good P f args' Hl v (L ++ M)) (hl : L.length = π.length)
    (eL : L.map (Option.map (List.map (cm (cout π true H.length) 8))) = L') (eM : M.map (Option.map (List.map (cm (cout π true H.length) 8))) = M') (e3 : sm (cm (cout π true H.length) 8) v = s) (h : K s (setB π L' H ++ M')) : ostep P o fr H K := by
  obtain ⟨avs, h1, h2⟩ := ha
  exact r_call π true ho rfl h1 hnd hπ (by simpa using h2) e2 hg e3 (by rw [back_split hnd hl, eL, eM]) h
theorem allB {π : List Nat} {n : Nat} (h : (π.all fun p => Nat.blt p n) = true) : ∀ p ∈ π, p < n := fun p hp => by
  have := List.all_eq_true.1 h p hp
  simpa [Nat.blt_eq] using this
theorem q_callv {P : Program} {fr : List S} {H : Heap} {K : S → Heap → Prop} {od : Option Nat} {oty : TypeId} {ops_ : String} {oaf : Array Edge} {ogu : Option (Nat × Bool)} {f : Nat} {args : Array Operand} {ats : Array TypeId} {v s : S} {Hl L' M' : Heap} {args' : List V} (π : List Nat) (L : Heap) (M : Heap)
    (hg : Good P f args' Hl v (L ++ M)) (h : K s (setB π L' H ++ M')) (ha : CA fr H π true args.toList args' := by repeat' (first | exact ca0 | refine cac (by first | exact et rfl | exact rfl) (by first | exact cm_int | exact cm_bool | exact cm_str | exact sees_ro | (apply sees_slc; exact rfl; (first | exact rfl | assumption); (first | exact cut_h (by with_reducible assumption) | exact rfl | exact cut_m | exact cut_w)) | (apply sees_parts; exact rfl; (first | exact rfl | assumption); (repeat' (first | exact pq0 | (apply pq_ro; (first | with_reducible assumption | (simp only [List.length_take, List.length_drop, List.length_append] <;> omega) | exact rfl)) | refine pq_nil ?_ | (apply pq_slc; exact rfl; (first | exact rfl | assumption); (first | exact cut_h (by with_reducible assumption) | exact rfl | exact cut_m | exact cut_w); (first | with_reducible assumption | (simp only [List.length_take, List.length_drop, List.length_append] <;> omega) | exact rfl))))) | exact sees_nil8 | exact sees_nil | exact sees_ptr rfl (by first | exact rfl | assumption) rfl rfl | exact rfl) ?_ | refine caa (by first | exact et rfl | exact rfl) (by first | exact sees_m | exact rfl) ?_)) (hnd : π.Nodup := by decide) (hπ : (π.all fun p => Nat.blt p H.length) = true := by exact rfl)
    (e2 : π.map (pick H (cm (cin π true H) 8)) = Hl := by repeat' (first | exact pl0 | refine pl1 rfl (by first | exact sees_m | exact rfl) ?_)) (hl : L.length = π.length := by exact rfl)
    (eL : L.map (Option.map (List.map (cm (cout π true H.length) 8))) = L' := by first | exact ml0 | exact ml1 (by first | exact sees_m | exact rfl) ml0 | exact ml1 (by first | exact sees_m | exact rfl) (ml1 (by first | exact sees_m | exact rfl) ml0) | exact ml1 (by first | exact sees_m | exact rfl) (ml1 (by first | exact sees_m | exact rfl) (ml1 (by first | exact sees_m | exact rfl) ml0)) | exact ml1 (by first | exact sees_m | exact rfl) (ml1 (by first | exact sees_m | exact rfl) (ml1 (by first | exact sees_m | exact rfl) (ml1 (by first | exact sees_m | exact rfl) ml0))) | exact ml1 (by first | exact sees_m | exact rfl) (ml1 (by first | exact sees_m | exact rfl) (ml1 (by first | exact sees_m | exact rfl) (ml1 (by first | exact sees_m | exact rfl) (ml1 (by first | exact sees_m | exact rfl) ml0))))) (eM : M.map (Option.map (List.map (cm (cout π true H.length) 8))) = M' := by first | exact ml0 | exact ml1 (by first | exact sees_m | exact rfl) ml0 | exact ml1 (by first | exact sees_m | exact rfl) (ml1 (by first | exact sees_m | exact rfl) ml0) | exact ml1 (by first | exact sees_m | exact rfl) (ml1 (by first | exact sees_m | exact rfl) (ml1 (by first | exact sees_m | exact rfl) ml0)) | exact ml1 (by first | exact sees_m | exact rfl) (ml1 (by first | exact sees_m | exact rfl) (ml1 (by first | exact sees_m | exact rfl) (ml1 (by first | exact sees_m | exact rfl) ml0))) | exact ml1 (by first | exact sees_m | exact rfl) (ml1 (by first | exact sees_m | exact rfl) (ml1 (by first | exact sees_m | exact rfl) (ml1 (by first | exact sees_m | exact rfl) (ml1 (by first | exact sees_m | exact rfl) ml0)))))
    (e3 : sm (cm (cout π true H.length) 8) v = s := by first | exact rs_int | exact rs_bool | exact rs_m | exact rs_new | exact rs_nils | exact rs_str | exact rs_newp | exact rs_nilp | exact vt0 | exact vt2 (by first | exact vs_int | exact vs_bool | exact vs_m | exact vs_new | exact vs_nils | exact vs_str | exact vs_newp | exact vs_nilp | exact rfl) (by first | exact vs_int | exact vs_bool | exact vs_m | exact vs_new | exact vs_nils | exact vs_str | exact vs_newp | exact vs_nilp | exact rfl) | exact vt3 (by first | exact vs_int | exact vs_bool | exact vs_m | exact vs_new | exact vs_nils | exact vs_str | exact vs_newp | exact vs_nilp | exact rfl) (by first | exact vs_int | exact vs_bool | exact vs_m | exact vs_new | exact vs_nils | exact vs_str | exact vs_newp | exact vs_nilp | exact rfl) (by first | exact vs_int | exact vs_bool | exact vs_m | exact vs_new | exact vs_nils | exact vs_str | exact vs_newp | exact vs_nilp | exact rfl) | exact vt4 (by first | exact vs_int | exact vs_bool | exact vs_m | exact vs_new | exact vs_nils | exact vs_str | exact vs_newp | exact vs_nilp | exact rfl) (by first | exact vs_int | exact vs_bool | exact vs_m | exact vs_new | exact vs_nils | exact vs_str | exact vs_newp | exact vs_nilp | exact rfl) (by first | exact vs_int | exact vs_bool | exact vs_m | exact vs_new | exact vs_nils | exact vs_str | exact vs_newp | exact vs_nilp | exact rfl) (by first | exact vs_int | exact vs_bool | exact vs_m | exact vs_new | exact vs_nils | exact vs_str | exact vs_newp | exact vs_nilp | exact rfl) | exact rfl) : ostep P ⟨od, .call ⟨.value (.func f), args, ats⟩, oty, ops_, oaf, ogu⟩ fr H K :=
  r_callv π rfl ha hnd (allB hπ) e2 hg hl eL eM e3 h
theorem pi01 : ∀ p : Nat, p < 2 → [0, 1][p]? = some p := by
  intro p hp
  match p, hp with
  | 0, _ => rfl
  | 1, _ => rfl
theorem pi012 : ∀ p : Nat, p < 3 → [0, 1, 2][p]? = some p := by
  intro p hp
  match p, hp with
  | 0, _ => rfl
  | 1, _ => rfl
  | 2, _ => rfl
section
variable {P : Program} {fr : List S} {H : Heap} {K : S → Heap → Prop} {od : Option Nat} {oty : TypeId} {ops_ : String} {oaf : Array Edge} {ogu : Option (Nat × Bool)} {t u : TypeId} {ti : TI} {a b : Operand}
end
/-- Constants laid into cells. -/
def intC : Value → Option Cell
  | .int k n => some (.int k n)
  | _ => none
def fillC (place : Nat → Option (Nat × Nat)) : List Cell → List (Nat × Operand) → Option (List Cell)
  | cells, [] => some cells
  | cells, (i, .const v) :: r => match place i, intC v with
    | some (off, 1), some c => bif Nat.blt off cells.length then fillC place (cells.set off c) r else none
    | _, _ => none
  | _, _ => none
theorem fkC_go {fr : List S} {place : Nat → Option (Nat × Nat)} {KK : List Cell → Prop} {out : List Cell} (h : KK out) : ∀ (parts : List (Nat × Operand)) (cells : List Cell), fillC place cells parts = some out → fillK fr place KK cells parts
  | [], cells, hc => by
    simp only [fillC, Option.some.injEq] at hc
    subst hc; exact h
  | (i, .const v) :: r, cells, hc => by
    simp only [fillC] at hc
    split at hc
    · rename_i off c hp hv
      cases hb : Nat.blt off cells.length with
      | false => rw [hb] at hc; cases hc
      | true =>
        rw [hb] at hc
        have hv' : ev fr (.const v) = sc c ∧ cellsV (sc c) = some [c] := by
          cases v <;> simp only [intC, Option.some.injEq, reduceCtorEq] at hv
          subst hv; exact ⟨rfl, rfl⟩
        exact fkc hp hv'.1 hv'.2 (by simpa [Nat.blt_eq] using hb) (fkC_go h r _ hc)
    · cases hc
  | (i, .tmp n) :: r, cells, hc => by simp [fillC] at hc
  | (i, .func n) :: r, cells, hc => by simp [fillC] at hc
  | (i, .global n) :: r, cells, hc => by simp [fillC] at hc
theorem fkC {fr : List S} {place : Nat → Option (Nat × Nat)} {KK : List Cell → Prop} {cells out : List Cell} {parts : List (Nat × Operand)} (h : KK out) (hc : fillC place cells parts = some out := by kernel_rfl) : fillK fr place KK cells parts := fkC_go h parts cells hc
/-! A body's end, whatever blocks are told. -/
theorem fx0 {P : Program} {st : St} {fn : Func} {v : S} {H' : Heap} {n : Nat} (π : List Nat) (hl : fn.results.toList = [] := by exact rfl) (hH : π.map (pick st.H (cm ⟨fun p => idx p π, fun _ => none, true, false⟩ 8)) = H' := by repeat' (first | exact pl0 | refine pl1 rfl (by first | exact sees_m | exact rfl) ?_)) (hv : v = .t [] := by exact rfl) (hnd : π.Nodup := by decide) (hn : ∀ p, p < n → π[p]? = some p := by first | exact fun p h => absurd h (Nat.not_lt_zero _) | exact pi0 | exact pi01 | exact pi012) : fin P fn n v H' st :=
  fin_g (ys := []) π hn hnd hv hl rv0 hH.symm
theorem fx1 {P : Program} {st : St} {fn : Func} {v : S} {H' : Heap} {n : Nat} {t0 : Nat} {x0 y0 : V} (π : List Nat) (hl : fn.results.toList = [.tmp t0] := by exact rfl) (hx0 : ev st.fr (.tmp t0) = .v x0 := by first | exact et rfl | exact rfl) (hm0 : vm (cm ⟨fun p => idx p π, fun _ => none, true, false⟩ 8) x0 = y0 := by first | exact vs_int | exact vs_bool | exact vs_m | exact vs_str | exact vs_nilp | exact rfl) (hH : π.map (pick st.H (cm ⟨fun p => idx p π, fun _ => none, true, false⟩ 8)) = H' := by repeat' (first | exact pl0 | refine pl1 rfl (by first | exact sees_m | exact rfl) ?_)) (hv : v = .v y0 := by exact rfl) (hnd : π.Nodup := by decide) (hn : ∀ p, p < n → π[p]? = some p := by first | exact fun p h => absurd h (Nat.not_lt_zero _) | exact pi0 | exact pi01 | exact pi012) : fin P fn n v H' st :=
  fin_g (ys := [y0]) π hn hnd hv hl (rvt hx0 hm0 rv0) hH.symm
theorem fx2 {P : Program} {st : St} {fn : Func} {v : S} {H' : Heap} {n : Nat} {t0 t1 : Nat} {x0 y0 x1 y1 : V} (π : List Nat) (hl : fn.results.toList = [.tmp t0, .tmp t1] := by exact rfl) (hx0 : ev st.fr (.tmp t0) = .v x0 := by first | exact et rfl | exact rfl) (hm0 : vm (cm ⟨fun p => idx p π, fun _ => none, true, false⟩ 8) x0 = y0 := by first | exact vs_int | exact vs_bool | exact vs_m | exact vs_str | exact vs_nilp | exact rfl) (hx1 : ev st.fr (.tmp t1) = .v x1 := by first | exact et rfl | exact rfl) (hm1 : vm (cm ⟨fun p => idx p π, fun _ => none, true, false⟩ 8) x1 = y1 := by first | exact vs_int | exact vs_bool | exact vs_m | exact vs_str | exact vs_nilp | exact rfl) (hH : π.map (pick st.H (cm ⟨fun p => idx p π, fun _ => none, true, false⟩ 8)) = H' := by repeat' (first | exact pl0 | refine pl1 rfl (by first | exact sees_m | exact rfl) ?_)) (hv : v = .t [y0, y1] := by exact rfl) (hnd : π.Nodup := by decide) (hn : ∀ p, p < n → π[p]? = some p := by first | exact fun p h => absurd h (Nat.not_lt_zero _) | exact pi0 | exact pi01 | exact pi012) : fin P fn n v H' st :=
  fin_g (ys := [y0, y1]) π hn hnd hv hl (rvt hx0 hm0 (rvt hx1 hm1 rv0)) hH.symm
/-- In a region that draws its order: an operation that looks at one block. -/
theorem DSp {P : Program} {N : Nat} {al : List (Nat × S)} {H : Heap} {ops r : List Oper} {q : St → Prop} {op : Op} {oty : TypeId} {ops_ : String} {oaf : Array Edge} {d : Nat} {lo hi : List Nat} {i : Nat} {rem : List Nat} {hist : List Heap} {pend : List (Nat × Heap)} {s : S} (p : Nat) {cs : List Cell}
    (_hp : H[p]? = some (some cs)) (h : ∀ V' : Heap, V'[p]? = some (some cs) → ostep P ⟨some d, op, oty, ops_, oaf, none⟩ (frm N al) V' fun s' H' => s' = s ∧ H' = V')
    (k : Dw P ops lo hi q r (i + 1) rem (H :: hist) ((hi.getD i 0, one p cs) :: pend) (frm N ((d, s) :: al))) (hne : (rem.head? == some i) = false := by exact rfl)
    (hs : seen (one p cs) ((H :: hist).take ((hist.length + 1) - lo.getD i 0)) := by repeat' (first | exact trivial | exact sub_one rfl | refine And.intro ?_ ?_)) : Dw P ops lo hi q (⟨some d, op, oty, ops_, oaf, none⟩ :: r) i rem (H :: hist) pend (frm N al) :=
  dR p rfl (tk rfl) hne hs h k
section
variable {P : Program} {N : Nat} {al : List (Nat × S)} {H : Heap} {ops r : List Oper} {q : St → Prop} {oty : TypeId} {ops_ : String} {oaf : Array Edge} {d j w : Nat} {want : Bool} {oj : Oper}
variable {lo hi : List Nat} {i : Nat} {rem : List Nat} {hist : List Heap} {pend : List (Nat × Heap)} {t : TypeId} {ti : TI} {x : Operand} {p : Nat} {cs : List Cell}
theorem DLwg [it : TiOf P t ti] (k : Dw P ops lo hi q r (i + 1) rem (H :: hist) ((hi.getD i 0, one p cs) :: pend) (frm N ((d, sa cs) :: al))) (hx : ev (frm N al) x = sc (.ptr p 0) := by first | exact et rfl | exact rfl) (_hp : H[p]? = some (some cs) := by exact rfl) (hk : ti.kind.agg = true := by exact rfl) (hz : Nat.blt 0 ti.size = true := by exact rfl) (hl : cs.length = ti.size := by first | omega | with_reducible assumption | exact (mapc_length ..).trans (by with_reducible assumption) | (simp only [List.length_set, List.length_append, List.length_replicate, List.length_take, List.length_drop, List.length_map, List.length_cons, List.length_nil, mapc_length] <;> omega) | exact rfl | exact Nat.le_of_ble_eq_true rfl) (hne : (rem.head? == some i) = false := by exact rfl)
    (hs : seen (one p cs) ((H :: hist).take ((hist.length + 1) - lo.getD i 0)) := by repeat' (first | exact trivial | exact sub_one rfl | refine And.intro ?_ ?_)) (hj : ops[j]? = some oj := by exact rfl) (hjd : oj.dst = some w := by exact rfl) (hv : lkpB N al w = .v (.c (.bool want)) := by first | exact rfl | exact congrArg (fun b => S.v (V.c (Cell.bool b))) (by assumption) | exact congrArg (fun b => S.v (V.c (Cell.bool b))) (decide_eq_true (by assumption)) | exact congrArg (fun b => S.v (V.c (Cell.bool b))) (decide_eq_false (by assumption))) : Dw P ops lo hi q (⟨some d, .load t x, oty, ops_, oaf, some (j, want)⟩ :: r) i rem (H :: hist) pend (frm N al) :=
  dR p rfl (tkg rfl hj hjd hv) hne hs (fun _ hv => r_ldw rfl it.h hk hz hx hv hl ⟨rfl, rfl⟩) k
end
end Go.Abs

/- The abstract machine: functions without a body that the model stands in for. -/
namespace Go.Abs
open Go

theorem av0 {fr : List S} : argVs fr [] = some [] := rfl
theorem av1 {fr : List S} {x : Operand} {r : List Operand} {y : V} {ys : List V} (hx : ev fr x = .v y) (h : argVs fr r = some ys) : argVs fr (x :: r) = some (y :: ys) := by
  simp only [argVs, hx, h]
theorem q_callx {P : Program} {fr : List S} {H : Heap} {K : S → Heap → Prop} {od : Option Nat} {oty : TypeId} {ops_ : String} {oaf : Array Edge} {ogu : Option (Nat × Bool)} {f : Nat} {args : Array Operand} {ats : Array TypeId} {v : S} {avs : List V}
    (hx : Ext P f avs v) (h : K v H) (ha : argVs fr args.toList = some avs := by repeat' (first | exact av0 | refine av1 (by first | exact et rfl | exact rfl) ?_)) : ostep P ⟨od, .call ⟨.value (.func f), args, ats⟩, oty, ops_, oaf, ogu⟩ fr H K := by
  simp only [ostep, callO]
  rw [show ev fr (.func f) = sc (.fn f []) from rfl, ha]
  exact .inr ⟨rfl, v, hx, h⟩

/-- A sum with a carry, a difference with a borrow. -/
def addc (x y c : UInt64) : UInt64 := if 18446744073709551616 ≤ x.toNat + y.toNat + c.toNat then 1 else 0
def subb (x y c : UInt64) : UInt64 := if x.toNat < y.toNat + c.toNat then 1 else 0
theorem addc_le (x y c : UInt64) : (addc x y c).toNat ≤ 1 := by unfold addc; split <;> decide
theorem subb_le (x y c : UInt64) : (subb x y c).toNat ≤ 1 := by unfold subb; split <;> decide

def subEntry : Array Value → Sem Value := fun args => do
  let (x, y, b) ← Extern.MathBitsCarry.three "Sub64" args
  pure (Extern.MathBitsCarry.pair ((x + Extern.MathBitsCarry.m64 - y - b) % Extern.MathBitsCarry.m64) (if x < y + b then 1 else 0))
theorem run_sub {P : Program} (x y b : Nat) (hb : b ≤ 1) (w : World) :
    (subEntry #[.int .u64 x, .int .u64 y, .int .u64 b]).run P w =
      .ok (.tuple #[.int .u64 (((x + 18446744073709551616 - y - b) % 18446744073709551616 : Nat) : Int), .int .u64 ((if x < y + b then 1 else 0 : Nat) : Int)]) w := by
  have : b = 0 ∨ b = 1 := by omega
  rcases this with rfl | rfl <;> rfl

theorem ext3 {R : Rl} {x y c : UInt64} {rargs : List Value} (h : VsRel R [.c (c64 x), .c (c64 y), .c (c64 c)] rargs) : rargs = [.int .u64 x.toNat, .int .u64 y.toNat, .int .u64 c.toNat] := by
  simp only [VsRel, VRel, CRel] at h
  obtain ⟨v, vs, rfl, rfl, v', vs', rfl, rfl, v'', vs'', rfl, rfl, rfl⟩ := h
  rfl
theorem add_ext {P : Program} {k : Nat} {fn : Func} (hf : P.funcs[k]? = some fn) (hname : (fn.name == "runtime.NumGoroutine") = false) (hb : fn.body.isNone = true) (hn : Extern.findNext fn = none) (he : Extern.find fn = some add64Entry)
    (x y c : UInt64) (hc : c.toNat ≤ 1) : Ext P k [.c (c64 x), .c (c64 y), .c (c64 c)] (.t [.c (c64 (x + y + c)), .c (c64 (addc x y c))]) := by
  intro R w rargs h
  rw [ext3 h]
  refine ⟨.tuple #[.int .u64 (x + y + c).toNat, .int .u64 (addc x y c).toNat], ?_, #[.int .u64 (x + y + c).toNat, .int .u64 (addc x y c).toNat], rfl, ?_⟩
  · rw [run_callFunc_extern hf hname hb hn he]
    have hx := x.toNat_lt
    have hy := y.toNat_lt
    rw [show ([.int .u64 x.toNat, .int .u64 y.toNat, .int .u64 c.toNat] : List Value).toArray = #[.int .u64 (x.toNat : Int), .int .u64 (y.toNat : Int), .int .u64 (c.toNat : Int)] from rfl, run_add64 _ _ _ (by omega) (by omega) (by omega) (by omega)]
    simp only [Result.andThen]
    have e1 : (x + y + c).toNat = (x.toNat + y.toNat + c.toNat) % 18446744073709551616 := by simp [UInt64.toNat_add]
    have e2 : (addc x y c).toNat = (x.toNat + y.toNat + c.toNat) / 18446744073709551616 := by
      unfold addc
      split
      · show 1 = _; omega
      · show 0 = _; omega
    rw [e1, e2]
    congr 5 <;> omega
  · simp only [VsRel, VRel, CRel]
    exact ⟨_, _, rfl, rfl, _, _, rfl, rfl, rfl⟩
theorem sub_ext {P : Program} {k : Nat} {fn : Func} (hf : P.funcs[k]? = some fn) (hname : (fn.name == "runtime.NumGoroutine") = false) (hb : fn.body.isNone = true) (hn : Extern.findNext fn = none) (he : Extern.find fn = some subEntry)
    (x y c : UInt64) (hc : c.toNat ≤ 1) : Ext P k [.c (c64 x), .c (c64 y), .c (c64 c)] (.t [.c (c64 (x - y - c)), .c (c64 (subb x y c))]) := by
  intro R w rargs h
  rw [ext3 h]
  refine ⟨.tuple #[.int .u64 (x - y - c).toNat, .int .u64 (subb x y c).toNat], ?_, #[.int .u64 (x - y - c).toNat, .int .u64 (subb x y c).toNat], rfl, ?_⟩
  · rw [run_callFunc_extern hf hname hb hn he]
    have hx := x.toNat_lt
    have hy := y.toNat_lt
    rw [show ([.int .u64 x.toNat, .int .u64 y.toNat, .int .u64 c.toNat] : List Value).toArray = #[.int .u64 (x.toNat : Int), .int .u64 (y.toNat : Int), .int .u64 (c.toNat : Int)] from rfl, run_sub _ _ _ hc]
    simp only [Result.andThen]
    have e1 : (x - y - c).toNat = (x.toNat + 18446744073709551616 - y.toNat - c.toNat) % 18446744073709551616 := by
      rw [UInt64.toNat_sub, UInt64.toNat_sub]
      omega
    have e2 : (subb x y c).toNat = if x.toNat < y.toNat + c.toNat then 1 else 0 := by
      unfold subb
      split <;> rfl
    rw [e1, e2]
  · simp only [VsRel, VRel, CRel]
    exact ⟨_, _, rfl, rfl, _, _, rfl, rfl, rfl⟩
/-- What the model stands in for, by the function's number. -/
class AddX (P : Program) (k : Nat) : Prop where h : ∀ x y c : UInt64, c.toNat ≤ 1 → Ext P k [.c (c64 x), .c (c64 y), .c (c64 c)] (.t [.c (c64 (x + y + c)), .c (c64 (addc x y c))])
class SubX (P : Program) (k : Nat) : Prop where h : ∀ x y c : UInt64, c.toNat ≤ 1 → Ext P k [.c (c64 x), .c (c64 y), .c (c64 c)] (.t [.c (c64 (x - y - c)), .c (c64 (subb x y c))])
section
variable {P : Program} {fr : List S} {H : Heap} {K : S → Heap → Prop} {od : Option Nat} {oty : TypeId} {ops_ : String} {oaf : Array Edge} {ogu : Option (Nat × Bool)} {f : Nat} {a b d : Operand} {ats : Array TypeId} {x y c : UInt64}
theorem q_addx [ax : AddX P f] (h : K (.t [.c (c64 (x + y + c)), .c (c64 (addc x y c))]) H) (hx : ev fr a = sc (c64 x) := by first | exact et rfl | exact rfl) (hy : ev fr b = sc (c64 y) := by first | exact et rfl | exact rfl) (hz : ev fr d = sc (c64 c) := by first | exact et rfl | exact rfl)
    (hc : c.toNat ≤ 1 := by first | exact addc_le .. | exact subb_le .. | assumption | decide) : ostep P ⟨od, .call ⟨.value (.func f), #[a, b, d], ats⟩, oty, ops_, oaf, ogu⟩ fr H K := q_callx (ax.h x y c hc) h (av1 hx (av1 hy (av1 hz av0)))
theorem q_subx [ax : SubX P f] (h : K (.t [.c (c64 (x - y - c)), .c (c64 (subb x y c))]) H) (hx : ev fr a = sc (c64 x) := by first | exact et rfl | exact rfl) (hy : ev fr b = sc (c64 y) := by first | exact et rfl | exact rfl) (hz : ev fr d = sc (c64 c) := by first | exact et rfl | exact rfl)
    (hc : c.toNat ≤ 1 := by first | exact addc_le .. | exact subb_le .. | assumption | decide) : ostep P ⟨od, .call ⟨.value (.func f), #[a, b, d], ats⟩, oty, ops_, oaf, ogu⟩ fr H K := q_callx (ax.h x y c hc) h (av1 hx (av1 hy (av1 hz av0)))
end
end Go.Abs

/- The types of the program, as the abstract machine asks for them. -/
namespace Go.Proofs.Ytlnepajgnckolaa
open Go Go.Abs Go.Proofs

abbrev T3 : TI := ⟨1, 8, some ([cn 0]), .int .i64, true⟩
theorem y3 : tiOf Try.prog 3 = some T3 := by kernel_rfl
instance : TiOf Try.prog 3 T3 := ⟨y3⟩
abbrev T4 : TI := ⟨1, 1, some ([.bool false]), .bool, true⟩
theorem y4 : tiOf Try.prog 4 = some T4 := by kernel_rfl
instance : TiOf Try.prog 4 T4 := ⟨y4⟩
abbrev T5 : TI := ⟨1, 1, some ([c8 0]), .int .u8, true⟩
theorem y5 : tiOf Try.prog 5 = some T5 := by kernel_rfl
instance : TiOf Try.prog 5 T5 := ⟨y5⟩
abbrev T9 : TI := ⟨1, 16, some ([.str ⟨#[]⟩]), .str, true⟩
theorem y9 : tiOf Try.prog 9 = some T9 := by kernel_rfl
instance : TiOf Try.prog 9 T9 := ⟨y9⟩
abbrev T23 : TI := ⟨32, 32, some (u8s (List.replicate 32 0)), .array 32 5, true⟩
theorem y23 : tiOf Try.prog 23 = some T23 := by kernel_rfl
instance : TiOf Try.prog 23 T23 := ⟨y23⟩
abbrev T27 : TI := ⟨1, 8, some ([.nilp]), .ptr 69, true⟩
theorem y27 : tiOf Try.prog 27 = some T27 := by kernel_rfl
instance : TiOf Try.prog 27 T27 := ⟨y27⟩
abbrev T30 : TI := ⟨1, 8, some ([c64 0]), .int .u64, true⟩
theorem y30 : tiOf Try.prog 30 = some T30 := by kernel_rfl
instance : TiOf Try.prog 30 T30 := ⟨y30⟩
abbrev T32 : TI := ⟨34, 48, some ([.bool false] ++ u8s (List.replicate 32 0) ++ [c64 0]), .struct [(0, 4), (1, 23), (33, 30)], true⟩
theorem y32 : tiOf Try.prog 32 = some T32 := by kernel_rfl
instance : TiOf Try.prog 32 T32 := ⟨y32⟩
abbrev T34 : TI := ⟨1, 24, some ([.nils]), .slice 5, true⟩
theorem y34 : tiOf Try.prog 34 = some T34 := by kernel_rfl
instance : TiOf Try.prog 34 T34 := ⟨y34⟩
abbrev T35 : TI := ⟨1, 8, some ([cn 0]), .int .i64, true⟩
theorem y35 : tiOf Try.prog 35 = some T35 := by kernel_rfl
instance : TiOf Try.prog 35 T35 := ⟨y35⟩
abbrev T47 : TI := ⟨1, 8, some ([.nilp]), .ptr 72, true⟩
theorem y47 : tiOf Try.prog 47 = some T47 := by kernel_rfl
instance : TiOf Try.prog 47 T47 := ⟨y47⟩
abbrev T67 : TI := ⟨1, 8, some ([.nilp]), .ptr 23, true⟩
theorem y67 : tiOf Try.prog 67 = some T67 := by kernel_rfl
instance : TiOf Try.prog 67 T67 := ⟨y67⟩
abbrev T69 : TI := ⟨3, 24, some ([.nilp, c64 0, .bool false]), .struct [(0, 67), (1, 30), (2, 4)], true⟩
theorem y69 : tiOf Try.prog 69 = some T69 := by kernel_rfl
instance : TiOf Try.prog 69 T69 := ⟨y69⟩
abbrev T70 : TI := ⟨1, 24, some ([.nils]), .slice 27, true⟩
theorem y70 : tiOf Try.prog 70 = some T70 := by kernel_rfl
instance : TiOf Try.prog 70 T70 := ⟨y70⟩
abbrev T72 : TI := ⟨65, 72, some ([.nilp] ++ u8s (List.replicate 64 0)), .struct [(0, 27), (1, 23), (33, 23)], true⟩
theorem y72 : tiOf Try.prog 72 = some T72 := by kernel_rfl
instance : TiOf Try.prog 72 T72 := ⟨y72⟩
abbrev T73 : TI := ⟨1, 24, some ([.nils]), .slice 47, true⟩
theorem y73 : tiOf Try.prog 73 = some T73 := by kernel_rfl
instance : TiOf Try.prog 73 T73 := ⟨y73⟩
abbrev T77 : TI := ⟨12, 12, some (u8s (List.replicate 12 0)), .array 12 5, true⟩
theorem y77 : tiOf Try.prog 77 = some T77 := by kernel_rfl
instance : TiOf Try.prog 77 T77 := ⟨y77⟩
abbrev T85 : TI := ⟨1, 24, some ([.nils]), .slice 23, true⟩
theorem y85 : tiOf Try.prog 85 = some T85 := by kernel_rfl
instance : TiOf Try.prog 85 T85 := ⟨y85⟩
abbrev T88 : TI := ⟨1, 4, some ([c32 0]), .int .u32, true⟩
theorem y88 : tiOf Try.prog 88 = some T88 := by kernel_rfl
instance : TiOf Try.prog 88 T88 := ⟨y88⟩
abbrev T89 : TI := ⟨16, 16, some (u8s (List.replicate 16 0)), .array 16 5, true⟩
theorem y89 : tiOf Try.prog 89 = some T89 := by kernel_rfl
instance : TiOf Try.prog 89 T89 := ⟨y89⟩
abbrev T92 : TI := ⟨1, 8, some ([c64 0]), .int .u64, true⟩
theorem y92 : tiOf Try.prog 92 = some T92 := by kernel_rfl
instance : TiOf Try.prog 92 T92 := ⟨y92⟩
abbrev T94 : TI := ⟨1, 24, some ([.nils]), .slice 34, true⟩
theorem y94 : tiOf Try.prog 94 = some T94 := by kernel_rfl
instance : TiOf Try.prog 94 T94 := ⟨y94⟩
abbrev T95 : TI := ⟨8, 32, some (u32s (List.replicate 8 0)), .array 8 88, true⟩
theorem y95 : tiOf Try.prog 95 = some T95 := by kernel_rfl
instance : TiOf Try.prog 95 T95 := ⟨y95⟩
abbrev T97 : TI := ⟨16, 128, some (i64s (List.replicate 16 0)), .array 16 3, true⟩
theorem y97 : tiOf Try.prog 97 = some T97 := by kernel_rfl
instance : TiOf Try.prog 97 T97 := ⟨y97⟩
abbrev T98 : TI := ⟨160, 1280, some (i64s (List.replicate 160 0)), .array 10 97, true⟩
theorem y98 : tiOf Try.prog 98 = some T98 := by kernel_rfl
instance : TiOf Try.prog 98 T98 := ⟨y98⟩
abbrev T100 : TI := ⟨64, 64, some (u8s (List.replicate 64 0)), .array 64 5, true⟩
theorem y100 : tiOf Try.prog 100 = some T100 := by kernel_rfl
instance : TiOf Try.prog 100 T100 := ⟨y100⟩
abbrev T106 : TI := ⟨1, 24, some ([.nils]), .slice 108, true⟩
theorem y106 : tiOf Try.prog 106 = some T106 := by kernel_rfl
instance : TiOf Try.prog 106 T106 := ⟨y106⟩
abbrev T108 : TI := ⟨1, 24, some ([.nils]), .slice 3, true⟩
theorem y108 : tiOf Try.prog 108 = some T108 := by kernel_rfl
instance : TiOf Try.prog 108 T108 := ⟨y108⟩
abbrev T109 : TI := ⟨16, 64, some (u32s (List.replicate 16 0)), .array 16 88, true⟩
theorem y109 : tiOf Try.prog 109 = some T109 := by kernel_rfl
instance : TiOf Try.prog 109 T109 := ⟨y109⟩
abbrev T112 : TI := ⟨64, 64, some (u8s (List.replicate 64 0)), .array 64 5, true⟩
theorem y112 : tiOf Try.prog 112 = some T112 := by kernel_rfl
instance : TiOf Try.prog 112 T112 := ⟨y112⟩
abbrev T118 : TI := ⟨1, 24, some ([.nils]), .slice 88, true⟩
theorem y118 : tiOf Try.prog 118 = some T118 := by kernel_rfl
instance : TiOf Try.prog 118 T118 := ⟨y118⟩
abbrev T122 : TI := ⟨1, 24, some ([.nils]), .slice 30, true⟩
theorem y122 : tiOf Try.prog 122 = some T122 := by kernel_rfl
instance : TiOf Try.prog 122 T122 := ⟨y122⟩
abbrev T125 : TI := ⟨2, 16, some (i64s (List.replicate 2 0)), .array 2 3, true⟩
theorem y125 : tiOf Try.prog 125 = some T125 := by kernel_rfl
instance : TiOf Try.prog 125 T125 := ⟨y125⟩
abbrev T126 : TI := ⟨4, 32, some (i64s (List.replicate 4 0)), .array 2 125, true⟩
theorem y126 : tiOf Try.prog 126 = some T126 := by kernel_rfl
instance : TiOf Try.prog 126 T126 := ⟨y126⟩
abbrev T129 : TI := ⟨2, 16, some (u64s (List.replicate 2 0)), .array 2 30, true⟩
theorem y129 : tiOf Try.prog 129 = some T129 := by kernel_rfl
instance : TiOf Try.prog 129 T129 := ⟨y129⟩
abbrev T130 : TI := ⟨3, 24, some (u64s (List.replicate 3 0)), .array 3 30, true⟩
theorem y130 : tiOf Try.prog 130 = some T130 := by kernel_rfl
instance : TiOf Try.prog 130 T130 := ⟨y130⟩
abbrev T131 : TI := ⟨24, 24, some (u8s (List.replicate 24 0)), .array 24 5, true⟩
theorem y131 : tiOf Try.prog 131 = some T131 := by kernel_rfl
instance : TiOf Try.prog 131 T131 := ⟨y131⟩
abbrev T137 : TI := ⟨16, 128, some (u64s (List.replicate 16 0)), .array 16 30, true⟩
theorem y137 : tiOf Try.prog 137 = some T137 := by kernel_rfl
instance : TiOf Try.prog 137 T137 := ⟨y137⟩
abbrev T139 : TI := ⟨17, 136, some (u64s (List.replicate 17 0)), .array 17 30, true⟩
theorem y139 : tiOf Try.prog 139 = some T139 := by kernel_rfl
instance : TiOf Try.prog 139 T139 := ⟨y139⟩
abbrev T140 : TI := ⟨34, 272, some (u64s (List.replicate 34 0)), .array 34 30, true⟩
theorem y140 : tiOf Try.prog 140 = some T140 := by kernel_rfl
instance : TiOf Try.prog 140 T140 := ⟨y140⟩
abbrev T143 : TI := ⟨5, 40, some (u64s (List.replicate 5 0)), .array 5 30, true⟩
theorem y143 : tiOf Try.prog 143 = some T143 := by kernel_rfl
instance : TiOf Try.prog 143 T143 := ⟨y143⟩
instance : ZT Try.prog 3 T3 ([cn 0]) := ⟨y3, rfl⟩
instance : ZT Try.prog 4 T4 ([.bool false]) := ⟨y4, rfl⟩
instance : ZT Try.prog 5 T5 ([c8 0]) := ⟨y5, rfl⟩
instance : ZT Try.prog 9 T9 ([.str ⟨#[]⟩]) := ⟨y9, rfl⟩
instance : ZT Try.prog 23 T23 (u8s (List.replicate 32 0)) := ⟨y23, rfl⟩
instance : ZT Try.prog 27 T27 ([.nilp]) := ⟨y27, rfl⟩
instance : ZT Try.prog 30 T30 ([c64 0]) := ⟨y30, rfl⟩
instance : ZT Try.prog 32 T32 ([.bool false] ++ u8s (List.replicate 32 0) ++ [c64 0]) := ⟨y32, rfl⟩
instance : StT Try.prog 32 T32 [(0, 4), (1, 23), (33, 30)] := ⟨y32, rfl⟩
instance : ZT Try.prog 34 T34 ([.nils]) := ⟨y34, rfl⟩
instance : ZT Try.prog 35 T35 ([cn 0]) := ⟨y35, rfl⟩
instance : ZT Try.prog 47 T47 ([.nilp]) := ⟨y47, rfl⟩
instance : ZT Try.prog 67 T67 ([.nilp]) := ⟨y67, rfl⟩
instance : ZT Try.prog 69 T69 ([.nilp, c64 0, .bool false]) := ⟨y69, rfl⟩
instance : StT Try.prog 69 T69 [(0, 67), (1, 30), (2, 4)] := ⟨y69, rfl⟩
instance : ZT Try.prog 70 T70 ([.nils]) := ⟨y70, rfl⟩
instance : ZT Try.prog 72 T72 ([.nilp] ++ u8s (List.replicate 64 0)) := ⟨y72, rfl⟩
instance : StT Try.prog 72 T72 [(0, 27), (1, 23), (33, 23)] := ⟨y72, rfl⟩
instance : ZT Try.prog 73 T73 ([.nils]) := ⟨y73, rfl⟩
instance : ZT Try.prog 77 T77 (u8s (List.replicate 12 0)) := ⟨y77, rfl⟩
instance : ZT Try.prog 85 T85 ([.nils]) := ⟨y85, rfl⟩
instance : ZT Try.prog 88 T88 ([c32 0]) := ⟨y88, rfl⟩
instance : ZT Try.prog 89 T89 (u8s (List.replicate 16 0)) := ⟨y89, rfl⟩
instance : ZT Try.prog 92 T92 ([c64 0]) := ⟨y92, rfl⟩
instance : ZT Try.prog 94 T94 ([.nils]) := ⟨y94, rfl⟩
instance : ZT Try.prog 95 T95 (u32s (List.replicate 8 0)) := ⟨y95, rfl⟩
instance : ZT Try.prog 97 T97 (i64s (List.replicate 16 0)) := ⟨y97, rfl⟩
instance : ZT Try.prog 98 T98 (i64s (List.replicate 160 0)) := ⟨y98, rfl⟩
instance : ZT Try.prog 100 T100 (u8s (List.replicate 64 0)) := ⟨y100, rfl⟩
instance : ZT Try.prog 106 T106 ([.nils]) := ⟨y106, rfl⟩
instance : ZT Try.prog 108 T108 ([.nils]) := ⟨y108, rfl⟩
instance : ZT Try.prog 109 T109 (u32s (List.replicate 16 0)) := ⟨y109, rfl⟩
instance : ZT Try.prog 112 T112 (u8s (List.replicate 64 0)) := ⟨y112, rfl⟩
instance : ZT Try.prog 118 T118 ([.nils]) := ⟨y118, rfl⟩
instance : ZT Try.prog 122 T122 ([.nils]) := ⟨y122, rfl⟩
instance : ZT Try.prog 125 T125 (i64s (List.replicate 2 0)) := ⟨y125, rfl⟩
instance : ZT Try.prog 126 T126 (i64s (List.replicate 4 0)) := ⟨y126, rfl⟩
instance : ZT Try.prog 129 T129 (u64s (List.replicate 2 0)) := ⟨y129, rfl⟩
instance : ZT Try.prog 130 T130 (u64s (List.replicate 3 0)) := ⟨y130, rfl⟩
instance : ZT Try.prog 131 T131 (u8s (List.replicate 24 0)) := ⟨y131, rfl⟩
instance : ZT Try.prog 137 T137 (u64s (List.replicate 16 0)) := ⟨y137, rfl⟩
instance : ZT Try.prog 139 T139 (u64s (List.replicate 17 0)) := ⟨y139, rfl⟩
instance : ZT Try.prog 140 T140 (u64s (List.replicate 34 0)) := ⟨y140, rfl⟩
instance : ZT Try.prog 143 T143 (u64s (List.replicate 5 0)) := ⟨y143, rfl⟩
instance : ArT Try.prog 23 T23 32 5 T5 1 := ⟨y23, rfl, y5, rfl⟩
instance : FdT Try.prog 32 0 T32 [(0, 4), (1, 23), (33, 30)] 0 4 T4 1 := ⟨y32, rfl, rfl, y4, rfl⟩
instance : FdT Try.prog 32 1 T32 [(0, 4), (1, 23), (33, 30)] 1 23 T23 32 := ⟨y32, rfl, rfl, y23, rfl⟩
instance : FdT Try.prog 32 2 T32 [(0, 4), (1, 23), (33, 30)] 33 30 T30 1 := ⟨y32, rfl, rfl, y30, rfl⟩
instance : SlT Try.prog 34 T34 5 T5 1 := ⟨y34, rfl, y5, rfl⟩
instance : FdT Try.prog 69 0 T69 [(0, 67), (1, 30), (2, 4)] 0 67 T67 1 := ⟨y69, rfl, rfl, y67, rfl⟩
instance : FdT Try.prog 69 1 T69 [(0, 67), (1, 30), (2, 4)] 1 30 T30 1 := ⟨y69, rfl, rfl, y30, rfl⟩
instance : FdT Try.prog 69 2 T69 [(0, 67), (1, 30), (2, 4)] 2 4 T4 1 := ⟨y69, rfl, rfl, y4, rfl⟩
instance : SlT Try.prog 70 T70 27 T27 1 := ⟨y70, rfl, y27, rfl⟩
instance : FdT Try.prog 72 0 T72 [(0, 27), (1, 23), (33, 23)] 0 27 T27 1 := ⟨y72, rfl, rfl, y27, rfl⟩
instance : FdT Try.prog 72 1 T72 [(0, 27), (1, 23), (33, 23)] 1 23 T23 32 := ⟨y72, rfl, rfl, y23, rfl⟩
instance : FdT Try.prog 72 2 T72 [(0, 27), (1, 23), (33, 23)] 33 23 T23 32 := ⟨y72, rfl, rfl, y23, rfl⟩
instance : SlT Try.prog 73 T73 47 T47 1 := ⟨y73, rfl, y47, rfl⟩
instance : ArT Try.prog 77 T77 12 5 T5 1 := ⟨y77, rfl, y5, rfl⟩
instance : SlT Try.prog 85 T85 23 T23 32 := ⟨y85, rfl, y23, rfl⟩
instance : ArT Try.prog 89 T89 16 5 T5 1 := ⟨y89, rfl, y5, rfl⟩
instance : SlT Try.prog 94 T94 34 T34 1 := ⟨y94, rfl, y34, rfl⟩
instance : ArT Try.prog 95 T95 8 88 T88 1 := ⟨y95, rfl, y88, rfl⟩
instance : ArT Try.prog 97 T97 16 3 T3 1 := ⟨y97, rfl, y3, rfl⟩
instance : ArT Try.prog 98 T98 10 97 T97 16 := ⟨y98, rfl, y97, rfl⟩
instance : ArT Try.prog 100 T100 64 5 T5 1 := ⟨y100, rfl, y5, rfl⟩
instance : SlT Try.prog 106 T106 108 T108 1 := ⟨y106, rfl, y108, rfl⟩
instance : SlT Try.prog 108 T108 3 T3 1 := ⟨y108, rfl, y3, rfl⟩
instance : ArT Try.prog 109 T109 16 88 T88 1 := ⟨y109, rfl, y88, rfl⟩
instance : ArT Try.prog 112 T112 64 5 T5 1 := ⟨y112, rfl, y5, rfl⟩
instance : SlT Try.prog 118 T118 88 T88 1 := ⟨y118, rfl, y88, rfl⟩
instance : SlT Try.prog 122 T122 30 T30 1 := ⟨y122, rfl, y30, rfl⟩
instance : ArT Try.prog 125 T125 2 3 T3 1 := ⟨y125, rfl, y3, rfl⟩
instance : ArT Try.prog 126 T126 2 125 T125 2 := ⟨y126, rfl, y125, rfl⟩
instance : ArT Try.prog 129 T129 2 30 T30 1 := ⟨y129, rfl, y30, rfl⟩
instance : ArT Try.prog 130 T130 3 30 T30 1 := ⟨y130, rfl, y30, rfl⟩
instance : ArT Try.prog 131 T131 24 5 T5 1 := ⟨y131, rfl, y5, rfl⟩
instance : ArT Try.prog 137 T137 16 30 T30 1 := ⟨y137, rfl, y30, rfl⟩
instance : ArT Try.prog 139 T139 17 30 T30 1 := ⟨y139, rfl, y30, rfl⟩
instance : ArT Try.prog 140 T140 34 30 T30 1 := ⟨y140, rfl, y30, rfl⟩
instance : ArT Try.prog 143 T143 5 30 T30 1 := ⟨y143, rfl, y30, rfl⟩
instance : AddX Try.prog 79 := ⟨fun x y c hc => add_ext (fn := Try.f79) (by kernel_rfl) (by kernel_rfl) (by kernel_rfl) (by kernel_rfl) (by kernel_rfl) x y c hc⟩
instance : SubX Try.prog 85 := ⟨fun x y c hc => sub_ext (fn := Try.f85) (by kernel_rfl) (by kernel_rfl) (by kernel_rfl) (by kernel_rfl) (by kernel_rfl) x y c hc⟩
end Go.Proofs.Ytlnepajgnckolaa

/- Words: sums with a carry, differences with a borrow, products of two words, as numbers. -/
namespace Go.Abs
open Go

theorem addc_nat (x y c : UInt64) : (x + y + c).toNat + 18446744073709551616 * (addc x y c).toNat = x.toNat + y.toNat + c.toNat ∨ 1 < c.toNat := by
  have hx := x.toNat_lt
  have hy := y.toNat_lt
  have hc := c.toNat_lt
  rcases Nat.lt_or_ge 1 c.toNat with h | h
  · exact .inr h
  refine .inl ?_
  simp only [UInt64.toNat_add]
  unfold addc
  split
  · have : UInt64.toNat 1 = 1 := rfl
    rw [this]; omega
  · have : UInt64.toNat 0 = 0 := rfl
    rw [this]; omega
theorem addc_eq {x y c : UInt64} (h : c.toNat ≤ 1) : (x + y + c).toNat + 18446744073709551616 * (addc x y c).toNat = x.toNat + y.toNat + c.toNat :=
  (addc_nat x y c).resolve_right (by omega)
theorem subb_eq {x y c : UInt64} (h : c.toNat ≤ 1) : (x - y - c).toNat + y.toNat + c.toNat = x.toNat + 18446744073709551616 * (subb x y c).toNat := by
  have hx := x.toNat_lt
  have hy := y.toNat_lt
  rw [UInt64.toNat_sub, UInt64.toNat_sub]
  unfold subb
  split
  · have : UInt64.toNat 1 = 1 := rfl
    rw [this]; omega
  · have : UInt64.toNat 0 = 0 := rfl
    rw [this]; omega
/-- The upper word of a product. -/
def mulhi (x y : UInt64) : UInt64 :=
  shr64n x 32 * shr64n y 32 + shr64n (shr64n x 32 * (y &&& 4294967295) + shr64n ((x &&& 4294967295) * (y &&& 4294967295)) 32) 32 +
    shr64n ((shr64n x 32 * (y &&& 4294967295) + shr64n ((x &&& 4294967295) * (y &&& 4294967295)) 32 &&& 4294967295) + (x &&& 4294967295) * shr64n y 32) 32
theorem shr_nat (n : UInt64) (k : Nat) (h : k < 64) : (shr64n n k).toNat = n.toNat / 2 ^ k := by
  unfold shr64n
  simp [UInt64.toNat_shiftRight, Nat.shiftRight_eq_div_pow, h, Nat.mod_eq_of_lt h]
theorem low_nat (n : UInt64) : (n &&& 4294967295).toNat = n.toNat % 4294967296 := by
  rw [UInt64.toNat_and]
  exact Nat.and_two_pow_sub_one_eq_mod n.toNat 32
theorem mulhi_nat (x y : UInt64) : (mulhi x y).toNat = x.toNat * y.toNat / 18446744073709551616 := by
  have hx := x.toNat_lt
  have hy := y.toNat_lt
  have s32 : ∀ n : UInt64, (shr64n n 32).toNat = n.toNat / 4294967296 := fun n => shr_nat n 32 (by decide)
  have hx1 : x.toNat / 4294967296 < 4294967296 := by omega
  have hy1 : y.toNat / 4294967296 < 4294967296 := by omega
  have hx0 : x.toNat % 4294967296 < 4294967296 := Nat.mod_lt _ (by decide)
  have hy0 : y.toNat % 4294967296 < 4294967296 := Nat.mod_lt _ (by decide)
  have ex : x.toNat = 4294967296 * (x.toNat / 4294967296) + x.toNat % 4294967296 := (Nat.div_add_mod _ _).symm
  have ey : y.toNat = 4294967296 * (y.toNat / 4294967296) + y.toNat % 4294967296 := (Nat.div_add_mod _ _).symm
  unfold mulhi
  simp only [UInt64.toNat_add, UInt64.toNat_mul, s32, low_nat]
  rw [show x.toNat * y.toNat = (4294967296 * (x.toNat / 4294967296) + x.toNat % 4294967296) * (4294967296 * (y.toNat / 4294967296) + y.toNat % 4294967296) by rw [← ex, ← ey]]
  generalize x.toNat / 4294967296 = a at *
  generalize x.toNat % 4294967296 = b at *
  generalize y.toNat / 4294967296 = c at *
  generalize y.toNat % 4294967296 = d at *
  have m : ∀ u v : Nat, u < 4294967296 → v < 4294967296 → u * v ≤ 4294967295 * 4294967295 := fun u v hu hv => Nat.mul_le_mul (by omega) (by omega)
  have h1 := m a c hx1 hy1
  have h2 := m a d hx1 hy0
  have h3 := m b c hx0 hy1
  have h4 := m b d hx0 hy0
  have e : (4294967296 * a + b) * (4294967296 * c + d) = 18446744073709551616 * (a * c) + 4294967296 * (a * d + b * c) + b * d := by
    simp only [Nat.mul_add, Nat.add_mul]
    have e1 : 4294967296 * a * (4294967296 * c) = 18446744073709551616 * (a * c) := by rw [Nat.mul_mul_mul_comm]
    have e2 : 4294967296 * a * d = 4294967296 * (a * d) := Nat.mul_assoc ..
    have e3 : b * (4294967296 * c) = 4294967296 * (b * c) := by rw [Nat.mul_left_comm]
    omega
  rw [e]
  generalize a * c = p at *
  generalize a * d = q at *
  generalize b * c = r at *
  generalize b * d = s at *
  omega
/-- One place of a product's row: what stands there, what is carried on. -/
theorem row_eq (x y w v : UInt64) : (x * y + w + 0 + v + 0).toNat + 18446744073709551616 * (mulhi x y + addc (x * y) w 0 + addc (x * y + w + 0) v 0).toNat = x.toNat * y.toNat + w.toNat + v.toNat := by
  have hx := x.toNat_lt
  have hy := y.toNat_lt
  have hw := w.toNat_lt
  have hv := v.toNat_lt
  have h1 := addc_eq (x := x * y) (y := w) (c := 0) (by decide)
  have h2 := addc_eq (x := x * y + w + 0) (y := v) (c := 0) (by decide)
  have hm := mulhi_nat x y
  have hxy : (x * y).toNat = x.toNat * y.toNat % 18446744073709551616 := UInt64.toNat_mul ..
  have hb : x.toNat * y.toNat ≤ 18446744073709551615 * 18446744073709551615 := Nat.mul_le_mul (by omega) (by omega)
  have z : UInt64.toNat 0 = 0 := rfl
  rw [z] at h1 h2
  have c1 := addc_le (x * y) w 0
  have c2 := addc_le (x * y + w + 0) v 0
  rw [UInt64.toNat_add (mulhi x y + addc (x * y) w 0), UInt64.toNat_add (mulhi x y)]
  generalize (addc (x * y) w 0).toNat = k1 at *
  generalize (addc (x * y + w + 0) v 0).toNat = k2 at *
  generalize (x * y + w + 0 + v + 0).toNat = t at *
  generalize (x * y + w + 0).toNat = u at *
  rw [hm]
  rw [hxy] at h1
  generalize x.toNat * y.toNat = P at *
  omega
/-! Regions, with the memory told plainly first. -/
section
variable {P : Program} {n N id : Nat} {Q : Exit → St → Prop} {ops : Array Oper} {al : List (Nat × S)} {H H' : Heap}
theorem rln (h : aops P ops.toList (Q .normal) ops.toList ⟨frm N al, H'⟩) (hH : H = H' := by first | (simp only [List.set_cons_zero, List.set_cons_succ, List.cons_append, List.nil_append, List.append_nil]; done) | (simp only [List.set_cons_zero, List.set_cons_succ, List.cons_append, List.nil_append, List.append_nil]; exact rfl) | exact rfl) (hn : Nat.ble n H'.length = true := by exact rfl) : AWp P n (.region id ops false) Q ⟨frm N al, H⟩ := by
  subst hH; exact awp_region (Nat.le_of_ble_eq_true hn) h
theorem rdln (es lo hi : List Nat) (h : Dw P ops.toList lo hi (Q .normal) ops.toList 0 es [H'] [] (frm N al)) (hH : H = H' := by first | (simp only [List.set_cons_zero, List.set_cons_succ, List.cons_append, List.nil_append, List.append_nil]; done) | (simp only [List.set_cons_zero, List.set_cons_succ, List.cons_append, List.nil_append, List.append_nil]; exact rfl) | exact rfl) (hn : Nat.ble n H'.length = true := by exact rfl) (hm : P.follows .mixedOrders = true := by exact rfl) (hB : drawE ops.toList es lo hi = true := by decide +kernel) : AWp P n (.region id ops true) Q ⟨frm N al, H⟩ := by
  subst hH; exact awp_drawE es lo hi hm hB (Nat.le_of_ble_eq_true hn) h
end
/-! In a region that draws its order: a struct or an array inside a block. -/
section
variable {P : Program} {N : Nat} {al : List (Nat × S)} {H : Heap} {ops r : List Oper} {q : St → Prop} {oty : TypeId} {ops_ : String} {oaf : Array Edge} {d j w : Nat} {want : Bool} {oj : Oper}
variable {lo hi : List Nat} {i : Nat} {rem : List Nat} {hist : List Heap} {pend : List (Nat × Heap)} {t : TypeId} {ti : TI} {x : Operand} {p o1 : Nat} {cs xs : List Cell}
theorem DLa [it : TiOf P t ti] (k : Dw P ops lo hi q r (i + 1) rem (H :: hist) ((hi.getD i 0, one p cs) :: pend) (frm N ((d, sa xs) :: al))) (hx : ev (frm N al) x = sc (.ptr p o1) := by first | exact et rfl | exact rfl) (_hp : H[p]? = some (some cs) := by exact rfl) (hk : ti.kind.agg = true := by exact rfl) (hz : Nat.blt 0 ti.size = true := by exact rfl) (hl : o1 + ti.size ≤ cs.length := by first | omega | with_reducible assumption | (simp only [List.length_set, List.length_append, List.length_replicate, List.length_take, List.length_drop, List.length_map, List.length_cons, List.length_nil, mapc_length] <;> omega) | exact rfl | exact Nat.le_of_ble_eq_true rfl | assumption) (hc : (cs.drop o1).take ti.size = xs := by first | exact rfl | exact cut_m) (hne : (rem.head? == some i) = false := by exact rfl)
    (hs : seen (one p cs) ((H :: hist).take ((hist.length + 1) - lo.getD i 0)) := by repeat' (first | exact trivial | exact sub_one rfl | refine And.intro ?_ ?_)) : Dw P ops lo hi q (⟨some d, .load t x, oty, ops_, oaf, none⟩ :: r) i rem (H :: hist) pend (frm N al) :=
  dR p rfl (tk rfl) hne hs (fun _ hv => r_lda rfl it.h hk hz hx hv hl hc ⟨rfl, rfl⟩) k
end
/-! Several arrays are the result. -/
theorem fpc2 {P : Program} {st : St} {fn : Func} {v : S} {a0 t0 p0 a1 t1 p1 : Nat} {ti0 ti1 : TI} {ds0 ds1 : List Cell} {y0 y1 : V} [it0 : TiOf P t0 ti0] [it1 : TiOf P t1 ti1] (hl : fn.results.toList = [.cell a0 t0, .cell a1 t1] := by exact rfl) (hx0 : ev st.fr (.tmp a0) = sc (.ptr p0 0) := by first | exact et rfl | exact rfl) (hp0 : st.H[p0]? = some (some ds0) := by exact rfl) (hn0 : ds0.length = ti0.size := by first | omega | with_reducible assumption | exact (mapc_length ..).trans (by with_reducible assumption) | exact rfl) (hm0 : vm (cm ⟨fun p => idx p [], fun _ => none, true, false⟩ 8) (.a ds0) = y0 := by first | exact vs_m | exact rfl) (hk0 : ti0.kind.agg = true := by exact rfl) (hz0 : Nat.blt 0 ti0.size = true := by exact rfl) (hx1 : ev st.fr (.tmp a1) = sc (.ptr p1 0) := by first | exact et rfl | exact rfl) (hp1 : st.H[p1]? = some (some ds1) := by exact rfl) (hn1 : ds1.length = ti1.size := by first | omega | with_reducible assumption | exact (mapc_length ..).trans (by with_reducible assumption) | exact rfl) (hm1 : vm (cm ⟨fun p => idx p [], fun _ => none, true, false⟩ 8) (.a ds1) = y1 := by first | exact vs_m | exact rfl) (hk1 : ti1.kind.agg = true := by exact rfl) (hz1 : Nat.blt 0 ti1.size = true := by exact rfl) (hv : v = .t [y0, y1] := by exact rfl) : fin P fn 0 v [] st :=
  fin_g (ys := [y0, y1]) [] (by simp) List.nodup_nil hv hl (rva hx0 hp0 hn0 hm0 (rva hx1 hp1 hn1 hm1 rv0 hk1 hz1) hk0 hz0) rfl
theorem fpc3 {P : Program} {st : St} {fn : Func} {v : S} {a0 t0 p0 a1 t1 p1 a2 t2 p2 : Nat} {ti0 ti1 ti2 : TI} {ds0 ds1 ds2 : List Cell} {y0 y1 y2 : V} [it0 : TiOf P t0 ti0] [it1 : TiOf P t1 ti1] [it2 : TiOf P t2 ti2] (hl : fn.results.toList = [.cell a0 t0, .cell a1 t1, .cell a2 t2] := by exact rfl) (hx0 : ev st.fr (.tmp a0) = sc (.ptr p0 0) := by first | exact et rfl | exact rfl) (hp0 : st.H[p0]? = some (some ds0) := by exact rfl) (hn0 : ds0.length = ti0.size := by first | omega | with_reducible assumption | exact (mapc_length ..).trans (by with_reducible assumption) | exact rfl) (hm0 : vm (cm ⟨fun p => idx p [], fun _ => none, true, false⟩ 8) (.a ds0) = y0 := by first | exact vs_m | exact rfl) (hk0 : ti0.kind.agg = true := by exact rfl) (hz0 : Nat.blt 0 ti0.size = true := by exact rfl) (hx1 : ev st.fr (.tmp a1) = sc (.ptr p1 0) := by first | exact et rfl | exact rfl) (hp1 : st.H[p1]? = some (some ds1) := by exact rfl) (hn1 : ds1.length = ti1.size := by first | omega | with_reducible assumption | exact (mapc_length ..).trans (by with_reducible assumption) | exact rfl) (hm1 : vm (cm ⟨fun p => idx p [], fun _ => none, true, false⟩ 8) (.a ds1) = y1 := by first | exact vs_m | exact rfl) (hk1 : ti1.kind.agg = true := by exact rfl) (hz1 : Nat.blt 0 ti1.size = true := by exact rfl) (hx2 : ev st.fr (.tmp a2) = sc (.ptr p2 0) := by first | exact et rfl | exact rfl) (hp2 : st.H[p2]? = some (some ds2) := by exact rfl) (hn2 : ds2.length = ti2.size := by first | omega | with_reducible assumption | exact (mapc_length ..).trans (by with_reducible assumption) | exact rfl) (hm2 : vm (cm ⟨fun p => idx p [], fun _ => none, true, false⟩ 8) (.a ds2) = y2 := by first | exact vs_m | exact rfl) (hk2 : ti2.kind.agg = true := by exact rfl) (hz2 : Nat.blt 0 ti2.size = true := by exact rfl) (hv : v = .t [y0, y1, y2] := by exact rfl) : fin P fn 0 v [] st :=
  fin_g (ys := [y0, y1, y2]) [] (by simp) List.nodup_nil hv hl (rva hx0 hp0 hn0 hm0 (rva hx1 hp1 hn1 hm1 (rva hx2 hp2 hn2 hm2 rv0 hk2 hz2) hk1 hz1) hk0 hz0) rfl
end Go.Abs

/- The abstract machine: regions that draw their order, whose effects lie in no one chain: one walk for each order of the effects. -/
namespace Go.Abs
open Go

/-! A list of operations, put into another order. -/
def posOf : List Nat → Nat → Nat
  | [], _ => 0
  | x :: r, i => bif Nat.beq x i then 0 else posOf r i + 1
def prevOf : List Nat → Nat → Option Nat
  | x :: y :: r, i => bif Nat.beq y i then some x else prevOf (y :: r) i
  | _, _ => none
def renE (ord : List Nat) (e : Edge) : Edge := ⟨posOf ord e.on, e.ground⟩
def preE (ord es : List Nat) (i : Nat) : Array Edge := match prevOf es i with
  | some x => #[⟨posOf ord x, .data⟩]
  | none => #[]
def renO (ord es : List Nat) (i : Nat) (o : Oper) : Oper :=
  ⟨o.dst, o.op, o.type, o.pos, o.after.map (renE ord) ++ preE ord es i, match o.guard with
    | some (j, b) => some (posOf ord j, b)
    | none => none⟩
def permO (ops : List Oper) (ord es : List Nat) : List Oper := ord.map fun i => renO ord es i ((ops[i]?).getD default)
def permB (n : Nat) (ord : List Nat) : Bool :=
  ord.length == n && (List.range n).all fun i => decide (posOf ord i < n) && ord[posOf ord i]? == some i && (match ord[i]? with
    | some x => decide (x < n) && posOf ord x == i
    | none => false)

theorem wp_ren {P : Program} {ord es : List Nat} {i : Nat} {o : Oper} {a : Act} {w : World} {K : Act → World → Prop} {Q : Exit → Act → World → Prop} : (renO ord es i o).wp P a w K Q = o.wp P a w K Q := rfl
theorem asks_ren {P : Program} {ord es : List Nat} {i : Nat} {o : Oper} {a : Act} {w : World} : (renO ord es i o).asks P a w = o.asks P a w := rfl

structure PermOk (n : Nat) (ord : List Nat) : Prop where
  len : ord.length = n
  lt : ∀ i, i < n → posOf ord i < n
  at_ : ∀ i, i < n → ord[posOf ord i]? = some i
  inv : ∀ (j x : Nat), ord[j]? = some x → x < n ∧ posOf ord x = j
theorem permB_ok {n : Nat} {ord : List Nat} (h : permB n ord = true) : PermOk n ord := by
  simp only [permB, Bool.and_eq_true, beq_iff_eq] at h
  obtain ⟨h1, h2⟩ := h
  have h3 : ∀ i, i < n → (posOf ord i < n ∧ ord[posOf ord i]? = some i) ∧ (match ord[i]? with
    | some x => decide (x < n) && posOf ord x == i
    | none => false) = true := fun i hi => by
    have := List.all_eq_true.1 h2 i (List.mem_range.2 hi)
    simpa only [Bool.and_eq_true, decide_eq_true_eq, beq_iff_eq] using this
  refine ⟨h1, fun i hi => (h3 i hi).1.1, fun i hi => (h3 i hi).1.2, fun j x hx => ?_⟩
  have hj : j < n := by rw [← h1]; exact (List.getElem?_eq_some_iff.1 hx).1
  have := (h3 j hj).2
  rw [hx] at this
  simpa only [Bool.and_eq_true, decide_eq_true_eq, beq_iff_eq] using this
theorem posOf_out : ∀ {ord : List Nat} {i : Nat}, i ∉ ord → posOf ord i = ord.length
  | [], _, _ => rfl
  | x :: r, i, h => by
    have hx : x ≠ i := fun e => h (by simp [e])
    have hr : i ∉ r := fun e => h (by simp [e])
    have : Nat.beq x i = false := by
      cases hb : Nat.beq x i with
      | false => rfl
      | true => exact absurd (Nat.eq_of_beq_eq_true hb) hx
    rw [posOf, this, cond_false, posOf_out hr]; rfl

section
variable {ops : List Oper} {ord es : List Nat}
theorem permO_len : (permO ops ord es).length = ord.length := by simp [permO]
theorem permO_at (ok : PermOk ops.length ord) {i : Nat} {o : Oper} (h : ops[i]? = some o) : (permO ops ord es)[posOf ord i]? = some (renO ord es i o) := by
  have hi := (List.getElem?_eq_some_iff.1 h).1
  simp [permO, List.getElem?_map, ok.at_ i hi, h]
theorem permO_inv (ok : PermOk ops.length ord) {j : Nat} {o' : Oper} (h : (permO ops ord es)[j]? = some o') : ∃ i o, ops[i]? = some o ∧ posOf ord i = j ∧ o' = renO ord es i o := by
  simp only [permO, List.getElem?_map, Option.map_eq_some_iff] at h
  obtain ⟨x, hx, rfl⟩ := h
  obtain ⟨h1, h2⟩ := ok.inv j x hx
  obtain ⟨o, ho⟩ : ∃ o, ops[x]? = some o := ⟨_, List.getElem?_eq_getElem h1⟩
  exact ⟨x, o, ho, h2, by rw [ho]; rfl⟩
theorem yielded_ren (ok : PermOk ops.length ord) (tmps : Array Value) (j : Nat) : yielded (permO ops ord es).toArray tmps (posOf ord j) = yielded ops.toArray tmps j := by
  unfold yielded
  have : ((permO ops ord es).toArray[posOf ord j]?).bind (·.dst) = (ops.toArray[j]?).bind (·.dst) := by
    simp only [List.getElem?_toArray]
    by_cases hj : j < ops.length
    · obtain ⟨o, ho⟩ : ∃ o, ops[j]? = some o := ⟨_, List.getElem?_eq_getElem hj⟩
      rw [permO_at ok ho, ho]; rfl
    · have hn : j ∉ ord := fun hm => by
        obtain ⟨k, hk⟩ := List.mem_iff_getElem?.1 hm
        exact hj (ok.inv k j hk).1
      rw [posOf_out hn, List.getElem?_eq_none (by rw [permO_len]; exact Nat.le_refl _), List.getElem?_eq_none (by omega)]
  rw [this]
theorem wanted_ren (ok : PermOk ops.length ord) (tmps : Array Value) (i : Nat) (o : Oper) : Region.wanted (renO ord es i o) (yielded (permO ops ord es).toArray tmps) = Region.wanted o (yielded ops.toArray tmps) := by
  unfold Region.wanted renO
  cases hg : o.guard with
  | none => rfl
  | some g =>
    obtain ⟨j, b⟩ := g
    simp only [yielded_ren ok]
theorem wpOps_ren (ok : PermOk ops.length ord) {P : Program} {Q : Exit → Act → World → Prop} : ∀ (σ : List Nat) (a : Act) (w : World), (∀ i ∈ σ, i < ops.length) →
    wpOps P (permO ops ord es).toArray Q (σ.map (posOf ord)) a w → wpOps P ops.toArray Q σ a w
  | [], _, _, _, h => h
  | i :: σ, a, w, hi, h => by
    obtain ⟨o, ho⟩ : ∃ o, ops[i]? = some o := ⟨_, List.getElem?_eq_getElem (hi i (by simp))⟩
    rw [List.map_cons, wpOps_cons] at h
    rw [wpOps_cons]
    unfold wpOp at h ⊢
    rw [List.getElem?_toArray] at h ⊢
    rw [permO_at ok ho] at h
    rw [ho]
    simp only at h ⊢
    rw [wanted_ren ok, wp_ren, asks_ren] at h
    have ih := wpOps_ren ok (P := P) (Q := Q) σ
    split
    · rename_i hw
      rw [if_pos hw] at h
      rcases h with h | h
      · exact .inl (Oper.wp_mono (fun a w h => ih a w (fun x hx => hi x (by simp [hx])) h) h)
      · exact .inr h
    · rename_i hw
      rw [if_neg hw] at h
      exact ih _ _ (fun x hx => hi x (by simp [hx])) h
end

/-! Orders that may be drawn. -/
inductive ValidO (ops : Array Oper) : Array Bool → List Nat → Prop
  | nil {l : Array Bool} : Region.ready .any ops l = [] → ValidO ops l []
  | cons {l : Array Bool} {i : Nat} {σ : List Nat} : i ∈ Region.ready .any ops l → ValidO ops (l.setIfInBounds i true) σ → ValidO ops l (i :: σ)

theorem any_valid {P : Program} {ops : Array Oper} {Q : Exit → Act → World → Prop} : ∀ (σ : List Nat) (f : Nat) (l : Array Bool) (a : Act) (w : World), ValidO ops l σ → wpAny P .any ops Q f l a w → wpOps P ops Q σ a w
  | [], 0, _, _, _, _, h => h.2
  | [], f + 1, _, _, _, .nil hr, h => h.1 hr
  | i :: σ, 0, _, _, _, .cons hi _, h => by rw [h.1] at hi; cases hi
  | i :: σ, f + 1, l, a, w, .cons hi hv, h => by
    rw [wpOps_cons]
    exact wpOp_mono (fun a w h => any_valid σ f _ a w hv h) (h.2 i hi)

theorem valid_go {ops : List Oper} : ∀ (f t : Nat) (l : Array Bool), l.size = ops.length → (List.range ops.length).countP (fun j => l.getD j false) + f = ops.length →
    ValidO ops.toArray l (Region.linearise.go .any ops.toArray f t l [])
  | 0, t, l, hs, hc => by
    have hall : ∀ j, j < ops.length → l.getD j false = true := by
      have : (List.range ops.length).countP (fun j => l.getD j false) = (List.range ops.length).length := by rw [List.length_range]; omega
      rw [List.countP_eq_length] at this
      exact fun j hj => this j (List.mem_range.2 hj)
    refine .nil (List.eq_nil_iff_forall_not_mem.2 fun i hi => ?_)
    obtain ⟨h1, o, h2, _⟩ := mem_ready.1 hi
    have hlt : i < ops.length := by simpa using (Array.getElem?_eq_some_iff.1 h2).1
    have h3 := getD_both h1
    rw [hall i hlt] at h3; cases h3
  | f + 1, t, l, hs, hc => by
    simp only [Region.linearise.go]
    change ValidO ops.toArray l (match (Region.ready .any ops.toArray l)[t % (Region.ready .any ops.toArray l).length]? with
      | some i => Region.linearise.go .any ops.toArray f (t / (Region.ready .any ops.toArray l).length) (l.setIfInBounds i true) [i]
      | none => [].reverse)
    cases hi : (Region.ready .any ops.toArray l)[t % (Region.ready .any ops.toArray l).length]? with
    | none =>
      refine .nil ?_
      cases hr : Region.ready .any ops.toArray l with
      | nil => rfl
      | cons x xs =>
        rw [hr] at hi
        have hlt : t % (x :: xs).length < (x :: xs).length := Nat.mod_lt _ (by simp)
        simp at hi
        simp at hlt
        omega
    | some i =>
      simp only []
      rw [linearise_go_acc, List.reverse_singleton, List.singleton_append]
      have hm := List.mem_of_getElem? hi
      obtain ⟨h1, o, h2, _⟩ := mem_ready.1 hm
      have hlt : i < ops.length := by simpa using (Array.getElem?_eq_some_iff.1 h2).1
      refine .cons hm (valid_go f _ _ (by simpa using hs) ?_)
      have := countP_set (p := fun j => l.getD j false) (p' := fun j => (l.setIfInBounds i true).getD j false) (i := i) (List.nodup_range (n := ops.length)) (List.mem_range.2 hlt) (getD_both h1) (fun j => by
        rw [getD_set_i false (by omega)]
        by_cases h : j = i
        · subst h; simp
        · rw [if_neg h]
          have : (j == i) = false := by simpa using h
          rw [this, Bool.or_false])
      omega

theorem valid_lt {ops : List Oper} {l : Array Bool} {σ : List Nat} (h : ValidO ops.toArray l σ) : ∀ i ∈ σ, i < ops.length := by
  induction h with
  | nil => intro i hi; cases hi
  | cons hi _ ih =>
    intro j hj
    rcases List.mem_cons.1 hj with rfl | hj
    · obtain ⟨_, o, h2, _⟩ := mem_ready.1 hi
      simpa using (Array.getElem?_eq_some_iff.1 h2).1
    · exact ih j hj

/-! Which orders the effects come in. -/
def covB (A E : List Nat) (pls : List (List Nat)) : Nat → List Nat → Bool
  | 0, run => (E.all fun e => run.contains e) && pls.contains run
  | f + 1, run => bif (E.all fun e => run.contains e) then pls.contains run else E.all fun i => run.contains i || (E.any fun e => (A.getD i 0).testBit e && !run.contains e) || covB A E pls f (run ++ [i])

theorem cov_sound {ops : List Oper} {A E : List Nat} {pls : List (List Nat)} (hA : ∀ i j, (A.getD i 0).testBit j = true → Anc ops i j) (hE : ∀ e ∈ E, e < ops.length)
    (topo : ∀ (i : Nat) o, ops[i]? = some o → ∀ e ∈ o.after, Region.binds .any e = true → e.on < i) :
    ∀ (σ : List Nat) (l : Array Bool) (f : Nat) (run : List Nat), l.size = ops.length → (∀ (j : Nat) oj, ops[j]? = some oj → l.getD j false = true → ∀ e ∈ oj.after, Region.binds .any e = true → l.getD e.on false = true) →
      (∀ e ∈ E, l.getD e false = true ↔ e ∈ run) → ValidO ops.toArray l σ → covB A E pls f run = true → run ++ σ.filter (fun i => E.contains i) ∈ pls
  | [], l, f, run, hs, hcl, hr, .nil hnil, hc => by
    have hall : ∀ (j : Nat), j < ops.length → l.getD j false = true := by
      intro j
      induction j using Nat.strongRecOn with
      | ind j ih =>
        intro hj
        obtain ⟨o, ho⟩ : ∃ o, ops[j]? = some o := ⟨_, List.getElem?_eq_getElem hj⟩
        apply Classical.byContradiction
        intro hn
        have hn' : l.getD j false = false := by simpa using hn
        have : j ∈ Region.ready .any ops.toArray l := mem_ready.2 ⟨getD_in (by omega) hn', o, by simpa using ho, fun e he hb => ih e.on (topo j o ho e he hb) (by have := topo j o ho e he hb; omega)⟩
        rw [hnil] at this; cases this
    have hE' : (E.all fun e => run.contains e) = true := List.all_eq_true.2 fun e he => by
      have := (hr e he).1 (hall e (hE e he))
      simpa using this
    rw [List.filter_nil, List.append_nil]
    cases f with
    | zero => simp only [covB, hE', Bool.true_and] at hc; simpa using hc
    | succ f => simp only [covB, hE', cond_true] at hc; simpa using hc
  | i :: σ, l, f, run, hs, hcl, hr, .cons hi hv, hc => by
    obtain ⟨h1, o, h2, hd⟩ := mem_ready.1 hi
    have ho : ops[i]? = some o := by simpa using h2
    have hlt := (List.getElem?_eq_some_iff.1 ho).1
    have hcl' : ∀ (j : Nat) oj, ops[j]? = some oj → (l.setIfInBounds i true).getD j false = true → ∀ e ∈ oj.after, Region.binds .any e = true → (l.setIfInBounds i true).getD e.on false = true := by
      intro j oj hj hlj e he hb
      rw [getD_set_i false (by omega)] at hlj ⊢
      by_cases hji : j = i
      · subst hji
        rw [ho] at hj
        obtain rfl := Option.some.inj hj
        rw [hd e he hb]; simp
      · rw [if_neg hji] at hlj
        rw [hcl j oj hj hlj e he hb]; simp
    by_cases hiE : i ∈ E
    · have hnr : i ∉ run := fun h => by
        have := (hr i hiE).2 h
        rw [getD_both h1] at this; cases this
      have hE' : (E.all fun e => run.contains e) = false := by
        apply Bool.eq_false_iff.2
        intro h
        have := List.all_eq_true.1 h i hiE
        exact hnr (by simpa using this)
      rw [List.filter_cons_of_pos (by simpa using hiE)]
      cases f with
      | zero => simp only [covB, hE', Bool.false_and] at hc; cases hc
      | succ f =>
        simp only [covB, hE', cond_false] at hc
        have h3 := List.all_eq_true.1 hc i hiE
        simp only [Bool.or_eq_true, List.any_eq_true, Bool.and_eq_true, Bool.not_eq_true', List.contains_iff_mem] at h3
        rcases h3 with (h3 | ⟨e, h3, h4, h5⟩) | h3
        · exact absurd h3 hnr
        · have := anc_listed (listed := l) hcl (hA i e h4) (fun o' ho' e' he' hb' => by
            rw [ho] at ho'; obtain rfl := Option.some.inj ho'; exact hd e' he' hb')
          have := (hr e h3).1 this
          have h6 : run.contains e = true := by simpa using this
          rw [h6] at h5; cases h5
        · have := cov_sound hA hE topo σ (l.setIfInBounds i true) f (run ++ [i]) (by simpa using hs) hcl' (fun e he => by
            rw [getD_set_i false (by omega)]
            by_cases hei : e = i
            · subst hei; simp
            · rw [if_neg hei, hr e he]; simp [hei]) hv h3
          rw [List.append_assoc] at this
          exact this
    · rw [List.filter_cons_of_neg (by simpa using hiE)]
      refine cov_sound hA hE topo σ (l.setIfInBounds i true) f run (by simpa using hs) hcl' (fun e he => ?_) hv hc
      rw [getD_set_i false (by omega), if_neg (fun h : e = i => hiE (h ▸ he))]
      exact hr e he

theorem prevOf_at : ∀ {es : List Nat} {i x : Nat}, prevOf es i = some x → ∃ l r, es = l ++ x :: i :: r
  | [], _, _, h => by simp [prevOf] at h
  | [_], _, _, h => by simp [prevOf] at h
  | a :: b :: es, i, x, h => by
    simp only [prevOf] at h
    cases hb : Nat.beq b i with
    | true =>
      rw [hb, cond_true] at h
      have := Nat.eq_of_beq_eq_true hb
      subst this
      obtain rfl := Option.some.inj h
      exact ⟨[], es, rfl⟩
    | false =>
      rw [hb, cond_false] at h
      obtain ⟨l, r, e⟩ := prevOf_at h
      exact ⟨a :: l, r, by rw [e]; rfl⟩

/-- An order in which the effects come just so is one of the renamed region. -/
theorem valid_ren {ops : List Oper} {ord es E : List Nat} (ok : PermOk ops.length ord) (topo : ∀ (i : Nat) o, ops[i]? = some o → ∀ e ∈ o.after, Region.binds .any e = true → e.on < i)
    (hnd : es.Nodup) (hsub : ∀ e ∈ es, e ∈ E) : ∀ (σ : List Nat) (l l' : Array Bool) (run : List Nat), l.size = ops.length → l'.size = ops.length → (∀ j, j < ops.length → l'.getD (posOf ord j) false = l.getD j false) →
      (∀ e ∈ E, e ∈ run → l.getD e false = true) → es = run ++ σ.filter (fun i => E.contains i) → ValidO ops.toArray l σ → ValidO (permO ops ord es).toArray l' (σ.map (posOf ord))
  | [], l, l', run, hs, hs', hl, hr, he, .nil hnil => by
    refine .nil (List.eq_nil_iff_forall_not_mem.2 fun j hj => ?_)
    obtain ⟨h1, o', h2, hd⟩ := mem_ready.1 hj
    obtain ⟨i, o, ho, hp, rfl⟩ := permO_inv ok (by simpa using h2)
    have hi := (List.getElem?_eq_some_iff.1 ho).1
    have : i ∈ Region.ready .any ops.toArray l := mem_ready.2 ⟨getD_in (by omega) (by rw [← hl i hi, hp]; exact getD_both h1), o, by simpa using ho, fun e he hb => by
      have h3 := hd (renE ord e) (by simp only [renO, Array.mem_append, Array.mem_map]; exact .inl ⟨e, he, rfl⟩) hb
      have h4 := topo i o ho e he hb
      rw [← hl e.on (by omega)]; exact h3⟩
    rw [hnil] at this; cases this
  | i :: σ, l, l', run, hs, hs', hl, hr, he, .cons hi hv => by
    obtain ⟨h1, o, h2, hd⟩ := mem_ready.1 hi
    have ho : ops[i]? = some o := by simpa using h2
    have hlt := (List.getElem?_eq_some_iff.1 ho).1
    have hpl := ok.lt i hlt
    have hl' : ∀ j, j < ops.length → (l'.setIfInBounds (posOf ord i) true).getD (posOf ord j) false = (l.setIfInBounds i true).getD j false := fun j hj => by
      rw [getD_set_i false (by omega), getD_set_i false (by omega)]
      by_cases hji : j = i
      · subst hji; simp
      · have : posOf ord j ≠ posOf ord i := fun h => hji (by
          have h3 := ok.at_ j hj
          rw [h, ok.at_ i hlt] at h3
          exact (Option.some.inj h3).symm)
        rw [if_neg hji, if_neg this, hl j hj]
    have hready : posOf ord i ∈ Region.ready .any (permO ops ord es).toArray l' := by
      refine mem_ready.2 ⟨getD_in (by omega) (by rw [hl i hlt]; exact getD_both h1), renO ord es i o, by simpa using permO_at ok ho, fun e hm hb => ?_⟩
      simp only [renO, Array.mem_append, Array.mem_map] at hm
      rcases hm with ⟨e0, hm, rfl⟩ | hm
      · have h4 := topo i o ho e0 hm hb
        show l'.getD (posOf ord e0.on) false = true
        rw [hl e0.on (by omega)]; exact hd e0 hm hb
      · unfold preE at hm
        cases hp : prevOf es i with
        | none => rw [hp] at hm; simp at hm
        | some x =>
          rw [hp] at hm
          simp only [List.mem_toArray, List.mem_cons, List.not_mem_nil, or_false] at hm
          subst hm
          show l'.getD (posOf ord x) false = true
          obtain ⟨p, q, hpq⟩ := prevOf_at hp
          have hiE : i ∈ E := hsub i (by rw [hpq]; simp)
          have hxE : x ∈ E := hsub x (by rw [hpq]; simp)
          rw [List.filter_cons_of_pos (by simpa using hiE)] at he
          -- the same list, cut at i twice
          have hnd1 := hnd
          rw [he] at hnd1
          have hnr : i ∉ run := fun h => by
            have := (List.nodup_append.1 hnd1).2.2 i h i (by simp)
            exact this rfl
          have hnp : i ∉ p ++ [x] := fun h => by
            have hnd2 := hnd
            rw [hpq, show p ++ x :: i :: q = (p ++ [x]) ++ i :: q by simp] at hnd2
            exact (List.nodup_append.1 hnd2).2.2 i h i (by simp) rfl
          have hcut : ∀ (a b c d : List Nat), a ++ i :: b = c ++ i :: d → i ∉ a → i ∉ c → a = c := by
            intro a
            induction a with
            | nil =>
              intro b c d h _ hc
              cases c with
              | nil => rfl
              | cons y c => simp at h; exact absurd h.1 (fun e => hc (by simp [← e]))
            | cons z a ih =>
              intro b c d h ha hc
              cases c with
              | nil => simp at h; exact absurd h.1.symm (fun e => ha (by simp [← e]))
              | cons y c =>
                simp only [List.cons_append, List.cons.injEq] at h
                rw [h.1, ih b c d h.2 (fun e => ha (by simp [e])) (fun e => hc (by simp [e]))]
          have hrun : run = p ++ [x] := hcut run _ (p ++ [x]) q (by rw [← he, hpq]; simp) hnr hnp
          have hlx := hr x hxE (by rw [hrun]; simp)
          have hxl : x < ops.length := by
            rcases Nat.lt_or_ge x ops.length with h | h
            · exact h
            · rw [Array.getD_eq_getD_getElem?, Array.getElem?_eq_none (by omega)] at hlx; cases hlx
          rw [hl x hxl]; exact hlx
    rw [List.map_cons]
    by_cases hiE : i ∈ E
    · rw [List.filter_cons_of_pos (by simpa using hiE)] at he
      exact .cons hready (valid_ren ok topo hnd hsub σ _ _ (run ++ [i]) (by simpa using hs) (by simpa using hs') hl' (fun e heE hm => by
        rw [getD_set_i false (by omega)]
        by_cases hei : e = i
        · rw [if_pos hei]
        · rw [if_neg hei]
          refine hr e heE ?_
          rcases List.mem_append.1 hm with h | h
          · exact h
          · simp at h; exact absurd h hei) (by rw [he]; simp) hv)
    · rw [List.filter_cons_of_neg (by simpa using hiE)] at he
      exact .cons hready (valid_ren ok topo hnd hsub σ _ _ run (by simpa using hs) (by simpa using hs') hl' (fun e heE hm => by
        rw [getD_set_i false (by omega)]
        by_cases hei : e = i
        · rw [if_pos hei]
        · rw [if_neg hei]; exact hr e heE hm) he hv)

/-- A region that draws its order: what draw_game comes to. -/
theorem drawE_any {P : Program} {n0 : Nat} {ops : List Oper} {Q : Exit → St → Prop} {fr : List S} {H : Heap} (es lo hi : List Nat) (hB : drawE ops es lo hi = true) (hn : n0 ≤ H.length)
    (h : Dw P ops lo hi (Q .normal) ops 0 es [H] [] fr) {E : Env} {ρ : Nat → Place} {a : Act} {w : World} (hE : E.Ok) (hs : Sim E ρ ⟨fr, H⟩ a w) :
    wpAny P .any ops.toArray (post n0 E ρ Q) ops.length (Array.replicate ops.length false) a { w with drawn := w.drawn + 1 } := by
  have ok := drawE_ok hB
  obtain ⟨vals, hp, Vs, h1, _, h2⟩ := dw_tr (E := es.length) ops 0 es [H] [] fr (by simp) (by simp; omega) h
  have h0 : hp 0 = H := by
    have := h1 0 (by simp)
    simpa using this.symm
  obtain ⟨hst, hend⟩ := tr_each ok (fr0 := fr) ops 0 0 fr (fun j => by rw [Nat.zero_add]) (by simp) (Nat.zero_le _) (fun m e _ => by omega) ⟨rfl, fun _ _ => rfl, fun j o t _ hd => by simp at hd⟩ (by simpa using h2)
  exact draw_game (P := P) (n0 := n0) (Q := Q) ok (fun j o ho => hst j o (Nat.zero_le _) ho) hend hE ops.length 0 ρ (Array.replicate ops.length false) fr a { w with drawn := w.drawn + 1 } (by
      have : (List.range ops.length).countP (fun j => (Array.replicate ops.length false).getD j false) = 0 := by
        rw [List.countP_eq_zero]
        intro j _
        rw [getD_replicate_false]; simp
      rw [this]; simp)
    ⟨by simp, fun j oj _ hl => (by rw [getD_replicate_false] at hl; cases hl), fun t ht ht' => by simp at ht ht'; omega⟩ (Nat.zero_le _)
    (fun m e _ => by rw [getD_replicate_false]; simp)
    ⟨rfl, fun _ _ => rfl, fun j o t _ hd => by rw [getD_replicate_false] at hd; cases hd⟩ (by rw [h0]; exact hn) ⟨by rw [h0]; exact hs.fr, by rw [h0]; exact hs.heap.drew _⟩

/-- One order of the effects: the order of the walk, the effects by their numbers, and by their places in the walk, and what may come between which. -/
structure Plan where
  ord : List Nat
  es : List Nat
  es2 : List Nat
  lo : List Nat
  hi : List Nat
def planB (ops : List Oper) (E : List Nat) (p : Plan) : Bool :=
  permB ops.length p.ord && drawE (permO ops p.ord p.es) p.es2 p.lo p.hi && decide p.es.Nodup && (p.es.all fun e => E.contains e)
def multiB (ops : List Oper) (E : List Nat) (pls : List Plan) : Bool :=
  topoE ops && (E.all fun e => decide (e < ops.length)) && covB (ancs ops []) E (pls.map Plan.es) E.length [] && pls.all (planB ops E)
def plansDw (P : Program) (ops : List Oper) (Q : St → Prop) (H : Heap) (fr : List S) : List Plan → Prop
  | [] => True
  | p :: r => Dw P (permO ops p.ord p.es) p.lo p.hi Q (permO ops p.ord p.es) 0 p.es2 [H] [] fr ∧ plansDw P ops Q H fr r
theorem plans_at {P : Program} {ops : List Oper} {Q : St → Prop} {H : Heap} {fr : List S} : ∀ {pls : List Plan}, plansDw P ops Q H fr pls → ∀ p ∈ pls, Dw P (permO ops p.ord p.es) p.lo p.hi Q (permO ops p.ord p.es) 0 p.es2 [H] [] fr
  | [], _, p, hp => by cases hp
  | q :: r, h, p, hp => by
    rcases List.mem_cons.1 hp with rfl | hp
    · exact h.1
    · exact plans_at h.2 p hp
theorem awp_drawM {P : Program} {n0 id : Nat} {ops : Array Oper} {Q : Exit → St → Prop} {fr : List S} {H : Heap} (E : List Nat) (pls : List Plan) (hm : P.follows .mixedOrders = true) (hB : multiB ops.toList E pls = true) (hn : n0 ≤ H.length)
    (h : plansDw P ops.toList (Q .normal) H fr pls) : AWp P n0 (.region id ops true) Q ⟨fr, H⟩ := by
  intro En ρ a w hE hs
  simp only [multiB, Bool.and_eq_true] at hB
  obtain ⟨⟨⟨hT, hEl⟩, hC⟩, hP⟩ := hB
  obtain ⟨ops⟩ := ops
  simp only at hT hEl hC hP h ⊢
  have topo : ∀ (i : Nat) o, ops[i]? = some o → ∀ e ∈ o.after, Region.binds .any e = true → e.on < i := fun i o ho e he hb => by
    have := List.all_eq_true.1 hT i (List.mem_range.2 (List.getElem?_eq_some_iff.1 ho).1)
    rw [ho] at this
    have := Array.all_eq_true'.1 this e he
    simp only [hb, Bool.not_true, Bool.false_or, decide_eq_true_eq] at this
    exact this
  have hA : ∀ i j, ((ancs ops []).getD i 0).testBit j = true → Anc ops i j := ancs_spec ops [] (fun j => by simp) (fun i j hb => by simp at hb)
  refine wp_region_draw fun t => ?_
  simp only [Region.schedule, hm, Bool.true_or, if_true]
  have hv : ValidO ops.toArray (Array.replicate ops.length false) (Region.linearise .any ops.toArray t) := by
    show ValidO ops.toArray _ (Region.linearise.go .any ops.toArray ops.toArray.size t (Array.replicate ops.toArray.size false) [])
    rw [show ops.toArray.size = ops.length by simp]
    refine valid_go _ _ _ (by simp) ?_
    have : (List.range ops.length).countP (fun j => (Array.replicate ops.length false).getD j false) = 0 := by
      rw [List.countP_eq_zero]
      intro j _
      rw [getD_replicate_false]; simp
    rw [this]; simp
  generalize Region.linearise .any ops.toArray t = σ at hv ⊢
  have hlt := valid_lt hv
  have hcov := cov_sound (pls := pls.map Plan.es) (E := E) hA (fun e he => by simpa using List.all_eq_true.1 hEl e he) topo σ _ E.length [] (by simp) (fun j oj _ hl => (by rw [getD_replicate_false] at hl; cases hl))
    (fun e _ => by rw [getD_replicate_false]; simp) hv hC
  rw [List.nil_append] at hcov
  obtain ⟨p, hp, he⟩ := List.mem_map.1 hcov
  have hpB := List.all_eq_true.1 hP p hp
  simp only [planB, Bool.and_eq_true, decide_eq_true_eq] at hpB
  obtain ⟨⟨⟨h1, h2⟩, h3⟩, h4⟩ := hpB
  have ok := permB_ok h1
  have hany := drawE_any (n0 := n0) (Q := Q) p.es2 p.lo p.hi h2 hn (plans_at h p hp) hE hs
  refine wpOps_ren ok σ _ _ hlt (any_valid _ _ _ _ _ ?_ hany)
  refine valid_ren (E := E) ok topo h3 (fun e he => by simpa using List.all_eq_true.1 h4 e he) σ (Array.replicate ops.length false) _ [] (by simp) (by simp [permO_len, ok.len]) (fun j _ => by rw [getD_replicate_false, getD_replicate_false]) (fun e _ hm => by cases hm) (by rw [List.nil_append]; exact he) hv
/-! Effects in a region, the memory told plainly behind each. -/
section
variable {P : Program} {N : Nat} {al : List (Nat × S)} {H H1 H2 : Heap} {ops r : List Oper} {q : St → Prop} {op : Op} {oty : TypeId} {ops_ : String} {oaf : Array Edge} {d j w : Nat} {want : Bool} {oj : Oper} {s : S}
variable {lo hi : List Nat} {i : Nat} {rem : List Nat} {hist : List Heap} {pend : List (Nat × Heap)}
theorem De2 (h : ∀ K : S → Heap → Prop, K s H1 → ostep P ⟨some d, op, oty, ops_, oaf, none⟩ (frm N al) H K) (k : Dw P ops lo hi q r (i + 1) rem (H2 :: H :: hist) pend (frm N ((d, s) :: al))) (hH : H1 = H2 := by first | (simp only [List.set_cons_zero, List.set_cons_succ, List.cons_append, List.nil_append, List.append_nil, kill, setB]; done) | (simp only [List.set_cons_zero, List.set_cons_succ, List.cons_append, List.nil_append, List.append_nil, kill, setB]; exact rfl) | exact rfl) (hp : pendOk pend (hist.length + 1) H2 := by repeat' (first | exact trivial | exact sub_one rfl | refine And.intro ?_ ?_)) : Dw P ops lo hi q (⟨some d, op, oty, ops_, oaf, none⟩ :: r) i (i :: rem) (H :: hist) pend (frm N al) := by
  subst hH; exact De (h _ ⟨hp, k⟩)
theorem De20 (h : ∀ K : S → Heap → Prop, K s H1 → ostep P ⟨none, op, oty, ops_, oaf, none⟩ (frm N al) H K) (k : Dw P ops lo hi q r (i + 1) rem (H2 :: H :: hist) pend (frm N al)) (hH : H1 = H2 := by first | (simp only [List.set_cons_zero, List.set_cons_succ, List.cons_append, List.nil_append, List.append_nil, kill, setB]; done) | (simp only [List.set_cons_zero, List.set_cons_succ, List.cons_append, List.nil_append, List.append_nil, kill, setB]; exact rfl) | exact rfl) (hp : pendOk pend (hist.length + 1) H2 := by repeat' (first | exact trivial | exact sub_one rfl | refine And.intro ?_ ?_)) : Dw P ops lo hi q (⟨none, op, oty, ops_, oaf, none⟩ :: r) i (i :: rem) (H :: hist) pend (frm N al) := by
  subst hH; exact De0 (h _ ⟨hp, k⟩)
theorem De2g (h : ∀ K : S → Heap → Prop, K s H1 → ostep P ⟨some d, op, oty, ops_, oaf, some (j, want)⟩ (frm N al) H K) (k : Dw P ops lo hi q r (i + 1) rem (H2 :: H :: hist) pend (frm N ((d, s) :: al))) (hH : H1 = H2 := by first | (simp only [List.set_cons_zero, List.set_cons_succ, List.cons_append, List.nil_append, List.append_nil, kill, setB]; done) | (simp only [List.set_cons_zero, List.set_cons_succ, List.cons_append, List.nil_append, List.append_nil, kill, setB]; exact rfl) | exact rfl) (hp : pendOk pend (hist.length + 1) H2 := by repeat' (first | exact trivial | exact sub_one rfl | refine And.intro ?_ ?_)) (hj : ops[j]? = some oj := by exact rfl) (hjd : oj.dst = some w := by exact rfl) (hv : lkpB N al w = .v (.c (.bool want)) := by first | exact rfl | exact congrArg (fun b => S.v (V.c (Cell.bool b))) (by assumption) | exact congrArg (fun b => S.v (V.c (Cell.bool b))) (decide_eq_true (by assumption)) | exact congrArg (fun b => S.v (V.c (Cell.bool b))) (decide_eq_false (by assumption))) : Dw P ops lo hi q (⟨some d, op, oty, ops_, oaf, some (j, want)⟩ :: r) i (i :: rem) (H :: hist) pend (frm N al) := by
  subst hH; exact Deg (h _ ⟨hp, k⟩) hj hjd hv
theorem G2 (h : ∀ K : S → Heap → Prop, K s H1 → ostep P ⟨some d, op, oty, ops_, oaf, none⟩ (frm N al) H K) (k : aops P ops q r ⟨frm N ((d, s) :: al), H2⟩) (hH : H1 = H2 := by first | (simp only [List.set_cons_zero, List.set_cons_succ, List.cons_append, List.nil_append, List.append_nil, kill, setB]; done) | (simp only [List.set_cons_zero, List.set_cons_succ, List.cons_append, List.nil_append, List.append_nil, kill, setB]; exact rfl) | exact rfl) : aops P ops q (⟨some d, op, oty, ops_, oaf, none⟩ :: r) ⟨frm N al, H⟩ := by
  subst hH; exact G (h _ k)
theorem G20 (h : ∀ K : S → Heap → Prop, K s H1 → ostep P ⟨none, op, oty, ops_, oaf, none⟩ (frm N al) H K) (k : aops P ops q r ⟨frm N al, H2⟩) (hH : H1 = H2 := by first | (simp only [List.set_cons_zero, List.set_cons_succ, List.cons_append, List.nil_append, List.append_nil, kill, setB]; done) | (simp only [List.set_cons_zero, List.set_cons_succ, List.cons_append, List.nil_append, List.append_nil, kill, setB]; exact rfl) | exact rfl) : aops P ops q (⟨none, op, oty, ops_, oaf, none⟩ :: r) ⟨frm N al, H⟩ := by
  subst hH; exact G0 (h _ k)
theorem G2g (h : ∀ K : S → Heap → Prop, K s H1 → ostep P ⟨some d, op, oty, ops_, oaf, some (j, want)⟩ (frm N al) H K) (k : aops P ops q r ⟨frm N ((d, s) :: al), H2⟩) (hH : H1 = H2 := by first | (simp only [List.set_cons_zero, List.set_cons_succ, List.cons_append, List.nil_append, List.append_nil, kill, setB]; done) | (simp only [List.set_cons_zero, List.set_cons_succ, List.cons_append, List.nil_append, List.append_nil, kill, setB]; exact rfl) | exact rfl) (hj : ops[j]? = some oj := by exact rfl) (hjd : oj.dst = some w := by exact rfl) (hv : lkpB N al w = .v (.c (.bool want)) := by first | exact rfl | exact congrArg (fun b => S.v (V.c (Cell.bool b))) (by assumption) | exact congrArg (fun b => S.v (V.c (Cell.bool b))) (decide_eq_true (by assumption)) | exact congrArg (fun b => S.v (V.c (Cell.bool b))) (decide_eq_false (by assumption))) : aops P ops q (⟨some d, op, oty, ops_, oaf, some (j, want)⟩ :: r) ⟨frm N al, H⟩ := by
  subst hH; exact Gg (h _ k) hj hjd hv
end
section
variable {P : Program} {n N id : Nat} {Q : Exit → St → Prop} {ops : Array Oper} {al : List (Nat × S)} {H H' : Heap}
theorem rdm (E : List Nat) (pls : List Plan) (h : plansDw P ops.toList (Q .normal) H' (frm N al) pls) (hH : H = H' := by first | (simp only [List.set_cons_zero, List.set_cons_succ, List.cons_append, List.nil_append, List.append_nil]; done) | (simp only [List.set_cons_zero, List.set_cons_succ, List.cons_append, List.nil_append, List.append_nil]; exact rfl) | exact rfl) (hn : Nat.ble n H'.length = true := by exact rfl) (hm : P.follows .mixedOrders = true := by exact rfl) (hB : multiB ops.toList E pls = true := by decide +kernel) : AWp P n (.region id ops true) Q ⟨frm N al, H⟩ := by
  subst hH; exact awp_drawM E pls hm hB (Nat.le_of_ble_eq_true hn) h
end
/-! More operations. -/
section
variable {P : Program} {fr : List S} {H : Heap} {K : S → Heap → Prop} {od : Option Nat} {oty : TypeId} {ops_ : String} {oaf : Array Edge} {ogu : Option (Nat × Bool)} {t u : TypeId} {ti : TI} {a b : Operand}
theorem q_negi {x : Int} (h : K (sc (ci (-x))) H) (hx : ev fr a = sc (ci x) := by first | exact et rfl | exact rfl) (hb : -9223372036854775807 ≤ x ∧ x ≤ 9223372036854775807 := by omega) : ostep P ⟨od, .unOp .neg t a, oty, ops_, oaf, ogu⟩ fr H K := by
  simp only [ostep, pstep, hx]
  rw [wi64 (by omega), show (0 : Int) - x = -x by omega]
  exact h
theorem q_pad15 {n : Nat} [iht : TiOf P t ti] (h : K (sc (cn ((16 - n % 16) % 16))) H) (hx : ev fr a = sc (ci (-(n : Int))) := by first | exact et rfl | exact rfl) (hy : ev fr b = sc (cn 15) := by first | exact et rfl | exact rfl) : ostep P ⟨od, .binOp .and t a b u, oty, ops_, oaf, ogu⟩ fr H K := by
  refine binI rfl iht.h hx hy ?_
  simp only [binC, shiftv, arithv, true_and]
  have e : (BitVec.ofInt IntKind.i64.bits (-(n : Int)) &&& BitVec.ofInt IntKind.i64.bits ((15 : Nat) : Int)).toNat = (16 - n % 16) % 16 := by
    rw [BitVec.toNat_and, show (BitVec.ofInt IntKind.i64.bits ((15 : Nat) : Int)).toNat = 2 ^ 4 - 1 from rfl, Nat.and_two_pow_sub_one_eq_mod, BitVec.toNat_ofInt, show IntKind.i64.bits = 64 from rfl]
    omega
  rw [e, wi64 (by omega)]
  exact h
/-- A call by way of a variable that holds a function that keeps nothing: it makes a block. -/
theorem q_callfn {F : Operand} {k m : Nat} {args : Array Operand} {ats : Array TypeId} {v s : S} {cs : List Cell} {args' : List V} (hg : Good P k args' [] v [some cs]) (h : K s (H ++ [some cs])) (hf : ev fr F = sc (.fn k []) := by first | exact et rfl | exact rfl) (ha : CA fr H [] true args.toList args') (hm : H.length = m := by first | exact hlen0 | exact hlen1 | (simp only [List.length_append, List.length_set, List.length_cons, List.length_nil, Nat.zero_add, Nat.reduceAdd]; done) | (simp only [List.length_append, List.length_set, List.length_cons, List.length_nil, Nat.zero_add, Nat.reduceAdd]; exact rfl))
    (hcs : cs.map (cm (cout [] true m) 8) = cs := by first | exact sees_m | exact rfl) (e3 : sm (cm (cout [] true m) 8) v = s := by first | exact rs_int | exact rs_new | exact rs_nils | exact rfl) : ostep P ⟨od, .call ⟨.value F, args, ats⟩, oty, ops_, oaf, ogu⟩ fr H K := by
  subst hm
  obtain ⟨avs, h1, h2⟩ := ha
  exact r_call [] true rfl hf h1 List.nodup_nil (by simp) (by simpa using h2) rfl hg e3 (by rw [back_nil]; simp [picks, hcs]) h
end
end Go.Abs

/- What functions of the program do, walked over the abstract machine. -/
namespace Go.Proofs.Ytlnepajgnckolaa.Po
open Go Go.Abs Go.Proofs

set_option maxRecDepth 20000
/-- Eight bytes, the lowest first. -/
def hf (l : List UInt8) : Nat → UInt64
  | 0 => 0
  | i + 1 => hf l i ||| shl64n (l.getD i 0).toUInt64 (8 * i)
abbrev half (l : List UInt8) : UInt64 := hf (l.take 8) 8
/-- What two marks have not in common. -/
def xo (a b : List UInt8) : Nat → UInt8
  | 0 => 0
  | i + 1 => xo a b i ||| (a.getD i 0 ^^^ b.getD i 0)
theorem xo_zero (a b : List UInt8) : ∀ i, xo a b i = 0 ↔ ∀ j, j < i → a.getD j 0 = b.getD j 0
  | 0 => by simp [xo]
  | i + 1 => by
    rw [xo]
    constructor
    · intro h
      have h1 := UInt8.or_eq_zero_iff.1 h
      have h2 := (xo_zero a b i).1 h1.1
      intro j hj
      by_cases e : j = i
      · subst e; exact UInt8.xor_eq_zero_iff.1 h1.2
      · exact h2 j (by omega)
    · intro h
      rw [(xo_zero a b i).2 fun j hj => h j (by omega), h i (by omega)]
      simp
theorem xo_iff (a b : List UInt8) (ha : a.length = 16) (hb : b.length = 16) : (xo a b 16 = 0) = (a = b) := by
  rw [eq_iff_iff, xo_zero]
  constructor
  · intro h
    refine List.ext_getElem (by omega) fun i h1 h2 => ?_
    have := h i (by omega)
    simpa [List.getD_eq_getElem?_getD, h1, h2] using this
  · rintro rfl j _; rfl
/-- poly.half -/
theorem half_ (k : Nat) (l : List UInt8) (h : 8 ≤ l.length) (hl : l.length = k) (hk : k ≤ 140737488351232) : Good Try.prog 78 [.c (.ro k (u8s l))] [] (sc (c64 (half l))) [] := by
  refine good_frm 22 Try.func78 rfl rfl rfl rfl rfl rfl ?_
  refine awp_seq ?_
  refine rl ?_
  refine G (q_as (s := sc (c64 0)) ?_)
  refine gend ?_
  refine awp_seq ?_
  refine awp_seq ?_
  refine rl ?_
  refine Mv ?_
  refine G (q_slo_hi (k := 8) ?_)
  refine G (q_leno ?_)
  refine G (q_mv (s := sc (cn 0)) ?_)
  refine gend ?_
  refine awp_block ?_
  refine awp_loop (fun x : {i : Nat // i ≤ 8} => ⟨frm 22 [(2, sc (c64 (hf (l.take 8) x.1))), (6, sc (.ro 8 (u8s (l.take 8)))), (7, sc (cn 8)), (8, sc (cn x.1))], []⟩) (fun x => 8 - x.1) ⟨0, Nat.zero_le _⟩ (sle_sub ⟨rfl, congrArg (fun z => sc (.ro 8 z)) (cut_m (k := .u8) (q := 0) (n := 8)), rfl, rfl, trivial⟩ rfl) fun x => ?_   -- live: [2, 6, 7, 8]
  have h8 : (l.take 8).length = 8 := by rw [List.length_take]; omega
  refine awp_seq ?_
  refine rl ?_
  refine G (q_lssn ?_)
  refine gend ?_
  refine awp_seq ?_
  refine cnd (fun hc1 => ?_) (fun hc1 => ?_); rotate_left
  · refine awp_exit ?_
    rw [show x.1 = 8 from (by have := x.2; omega)]
    refine awp_seq ?_
    refine rl ?_
    refine Mv ?_
    refine As ?_
    refine gend ?_
    refine awp_ret ?_
    exact fp1
  refine awp_skip ?_
  refine awp_seq ?_
  refine awp_block ?_
  refine awp_seq ?_
  refine rl ?_
  refine Mv ?_
  refine G (q_ixo1 ?_)
  refine G (q_ldrd ?_)
  refine As ?_
  refine As ?_
  refine gend ?_
  refine rl ?_
  refine Mv ?_
  refine Mv ?_
  refine G (q_cv8_64 ?_)
  refine Mv ?_
  refine G (q_muln (x := 8) ?_)
  refine G (q_shl64_0 ?_)
  refine G (q_or64 ?_)
  refine As ?_
  refine gend ?_
  refine rl ?_
  refine G (q_addn (y := 1) ?_)
  refine Mv ?_
  refine gend ?_
  exact ⟨⟨x.1 + 1, by omega⟩, by show 8 - (x.1 + 1) < 8 - x.1; omega, sle_sub ⟨rfl, rfl, rfl, rfl, trivial⟩ rfl⟩   -- endloop 1
/-- math/bits.Mul64 -/
theorem mul64 (x y : UInt64) : Good Try.prog 84 [.c (c64 x), .c (c64 y)] [] (.t [.c (c64 (mulhi x y)), .c (c64 (x * y))]) [] := by
  refine good_frm 51 Try.func84 rfl rfl rfl rfl rfl rfl ?_
  refine awp_seq ?_
  refine rl ?_
  refine G (q_as (s := sc (c64 0)) ?_)
  refine G (q_as (s := sc (c64 0)) ?_)
  refine gend ?_
  refine awp_seq ?_
  refine rl ?_
  refine Mv ?_
  refine G (q_and64 (y := 4294967295) ?_)
  refine As ?_
  refine gend ?_
  refine awp_seq ?_
  refine rl ?_
  refine Mv ?_
  refine G (q_shr64_64 (n := 32) ?_)
  refine As ?_
  refine gend ?_
  refine awp_seq ?_
  refine rl ?_
  refine Mv ?_
  refine G (q_and64 (y := 4294967295) ?_)
  refine As ?_
  refine gend ?_
  refine awp_seq ?_
  refine rl ?_
  refine Mv ?_
  refine G (q_shr64_64 (n := 32) ?_)
  refine As ?_
  refine gend ?_
  refine awp_seq ?_
  refine rl ?_
  refine Mv ?_
  refine Mv ?_
  refine G (q_mul64 ?_)
  refine As ?_
  refine gend ?_
  refine awp_seq ?_
  refine rl ?_
  refine Mv ?_
  refine Mv ?_
  refine G (q_mul64 ?_)
  refine Mv ?_
  refine G (q_shr64_64 (n := 32) ?_)
  refine G (q_add64 ?_)
  refine As ?_
  refine gend ?_
  refine awp_seq ?_
  refine rl ?_
  refine Mv ?_
  refine G (q_and64 (y := 4294967295) ?_)
  refine As ?_
  refine gend ?_
  refine awp_seq ?_
  refine rl ?_
  refine Mv ?_
  refine G (q_shr64_64 (n := 32) ?_)
  refine As ?_
  refine gend ?_
  refine awp_seq ?_
  refine rl ?_
  refine Mv ?_
  refine Mv ?_
  refine Mv ?_
  refine G (q_mul64 ?_)
  refine G (q_add64 ?_)
  refine As ?_
  refine gend ?_
  refine awp_seq ?_
  refine rl ?_
  refine Mv ?_
  refine Mv ?_
  refine G (q_mul64 ?_)
  refine Mv ?_
  refine G (q_add64 ?_)
  refine Mv ?_
  refine G (q_shr64_64 (n := 32) ?_)
  refine G (q_add64 ?_)
  refine As ?_
  refine gend ?_
  refine awp_seq ?_
  refine rl ?_
  refine Mv ?_
  refine Mv ?_
  refine G (q_mul64 ?_)
  refine As ?_
  refine gend ?_
  refine awp_ret ?_
  exact fp2
/-- poly.Equal -/
theorem equal (a b : List UInt8) (ha : a.length = 16) (hb : b.length = 16) : Good Try.prog 55 [.a (u8s a), .a (u8s b)] [] (sc (.bool (decide (a = b)))) [] := by
  refine good_frm 22 Try.func55 rfl rfl rfl rfl rfl rfl ?_
  refine awp_seq ?_
  refine rl ?_
  refine G (q_boxa ?_)
  refine G (q_boxa ?_)
  refine As ?_
  refine gend ?_
  refine awp_seq ?_
  refine rl ?_
  refine G (q_as (s := sc (c8 0)) ?_)
  refine gend ?_
  refine awp_seq ?_
  refine awp_seq ?_
  refine rl ?_
  refine G (q_mv (s := sc (cn 0)) ?_)
  refine gend ?_
  refine awp_block ?_
  refine awp_loop (fun x : {i : Nat // i ≤ 16} => ⟨frm 22 [(2, sc (.ptr 0 0)), (3, sc (.ptr 1 0)), (5, sc (c8 (xo a b x.1))), (7, sc (cn x.1))], [some (u8s a), some (u8s b)]⟩) (fun x => 16 - x.1) ⟨0, Nat.zero_le _⟩ (sle_sub ⟨rfl, rfl, rfl, rfl, trivial⟩ rfl) fun x => ?_   -- live: [2, 3, 5, 7]
  refine awp_seq ?_
  refine rl ?_
  refine G (q_lssn (y := 16) ?_)
  refine gend ?_
  refine awp_seq ?_
  refine cnd (fun hc1 => ?_) (fun hc1 => ?_); rotate_left
  · refine awp_exit ?_
    rw [show x.1 = 16 from (by have := x.2; omega)]
    refine awp_seq ?_
    refine rl ?_
    refine Mv ?_
    refine G (q_eql8 (y := 0) ?_)
    refine As ?_
    refine gend ?_
    refine awp_ret ?_
    exact fp1 (hv := by simp only [xo_iff a b ha hb])
  refine awp_skip ?_
  refine awp_seq ?_
  refine awp_block ?_
  refine awp_seq ?_
  refine rl ?_
  refine Mv ?_
  refine As ?_
  refine gend ?_
  refine rdl [] [] [] ?_
  refine Dp (fun _ => q_mv (s := .v (.c _)) ⟨rfl, rfl⟩) ?_
  refine Dp (fun _ => q_mv (s := .v (.c _)) ⟨rfl, rfl⟩) ?_
  refine Dp (fun _ => q_ixp1 ⟨rfl, rfl⟩) ?_
  refine DLp ?_
  refine Dp (fun _ => q_mv (s := .v (.c _)) ⟨rfl, rfl⟩) ?_
  refine Dp (fun _ => q_ixp1 ⟨rfl, rfl⟩) ?_
  refine DLp ?_
  refine Dp (fun _ => q_xor8 ⟨rfl, rfl⟩) ?_
  refine Dp (fun _ => q_or8 ⟨rfl, rfl⟩) ?_
  refine Dp (fun _ => q_as (s := .v (.c _)) ⟨rfl, rfl⟩) ?_
  refine dend ?_
  refine rl ?_
  refine G (q_addn (y := 1) ?_)
  refine Mv ?_
  refine gend ?_
  exact ⟨⟨x.1 + 1, by omega⟩, by show 16 - (x.1 + 1) < 16 - x.1; omega, sle_sub ⟨rfl, rfl, rfl, rfl, trivial⟩ rfl⟩   -- endloop 1
/-- One row of a product: what stands where, and what is carried on. -/
def tstep (a r : List UInt64) (i : Nat) (w : List UInt64) : Nat → List UInt64 × UInt64
  | 0 => (w, 0)
  | j + 1 =>
    ((tstep a r i w j).1.set (i + j) (a.getD i 0 * r.getD j 0 + (tstep a r i w j).1.getD (i + j) 0 + 0 + (tstep a r i w j).2 + 0),
      mulhi (a.getD i 0) (r.getD j 0) + addc (a.getD i 0 * r.getD j 0) ((tstep a r i w j).1.getD (i + j) 0) 0 + addc (a.getD i 0 * r.getD j 0 + (tstep a r i w j).1.getD (i + j) 0 + 0) (tstep a r i w j).2 0)
theorem tstep_len (a r : List UInt64) (i : Nat) (w : List UInt64) : ∀ j, (tstep a r i w j).1.length = w.length
  | 0 => rfl
  | j + 1 => by rw [tstep, List.length_set, tstep_len]
def tout (a r : List UInt64) : Nat → List UInt64
  | 0 => List.replicate 5 0
  | i + 1 => (tstep a r i (tout a r i) 2).1.set (i + 2) (tstep a r i (tout a r i) 2).2
theorem tout_len (a r : List UInt64) : ∀ i, (tout a r i).length = 5
  | 0 => by simp [tout]
  | i + 1 => by rw [tout, List.length_set, tstep_len, tout_len]
def upw (w : List UInt64) : List UInt64 := [shr64n (w.getD 2 0) 2 ||| shl64n (w.getD 3 0) 62, shr64n (w.getD 3 0) 2 ||| shl64n (w.getD 4 0) 62, shr64n (w.getD 4 0) 2]
def low (w : List UInt64) : List UInt64 := [w.getD 0 0, w.getD 1 0, w.getD 2 0 &&& 3]
/-- A sum, word by word. -/
def addp (o : List UInt64) (u : Nat → UInt64) : Nat → List UInt64 × UInt64
  | 0 => (o, 0)
  | i + 1 => ((addp o u i).1.set i ((addp o u i).1.getD i 0 + u i + (addp o u i).2), addc ((addp o u i).1.getD i 0) (u i) (addp o u i).2)
theorem addp_len (o : List UInt64) (u : Nat → UInt64) : ∀ i, (addp o u i).1.length = o.length
  | 0 => rfl
  | i + 1 => by rw [addp, List.length_set, addp_len]
theorem addp_le (o : List UInt64) (u : Nat → UInt64) : ∀ i, (addp o u i).2.toNat ≤ 1
  | 0 => by show (0 : UInt64).toNat ≤ 1; decide
  | i + 1 => by rw [addp]; exact addc_le ..
def addk (o u : List UInt64) : Nat → List UInt64
  | 0 => o
  | k + 1 => (addp (addk o u k) (fun i => u.getD i 0) 3).1
theorem addk_len (o u : List UInt64) : ∀ k, (addk o u k).length = o.length
  | 0 => rfl
  | k + 1 => by rw [addk, addp_len, addk_len]
def times (a r : List UInt64) : List UInt64 := addk (low (tout a r 3)) (upw (tout a r 3)) 5
theorem times_len (a r : List UInt64) : (times a r).length = 3 := by rw [times, addk_len]; rfl
/-- One pass that takes what stands at 2^130 and above down. -/
def sst (a : List UInt64) : List UInt64 :=
  (((a.set 2 (a.getD 2 0 &&& 3)).set 0 ((a.set 2 (a.getD 2 0 &&& 3)).getD 0 0 + 5 * shr64n (a.getD 2 0) 2 + 0)).set 1
    (((a.set 2 (a.getD 2 0 &&& 3)).set 0 ((a.set 2 (a.getD 2 0 &&& 3)).getD 0 0 + 5 * shr64n (a.getD 2 0) 2 + 0)).getD 1 0 + 0 + addc ((a.set 2 (a.getD 2 0 &&& 3)).getD 0 0) (5 * shr64n (a.getD 2 0) 2) 0)).set 2
    ((((a.set 2 (a.getD 2 0 &&& 3)).set 0 ((a.set 2 (a.getD 2 0 &&& 3)).getD 0 0 + 5 * shr64n (a.getD 2 0) 2 + 0)).set 1
    (((a.set 2 (a.getD 2 0 &&& 3)).set 0 ((a.set 2 (a.getD 2 0 &&& 3)).getD 0 0 + 5 * shr64n (a.getD 2 0) 2 + 0)).getD 1 0 + 0 + addc ((a.set 2 (a.getD 2 0 &&& 3)).getD 0 0) (5 * shr64n (a.getD 2 0) 2) 0)).getD 2 0 +
      addc (((a.set 2 (a.getD 2 0 &&& 3)).set 0 ((a.set 2 (a.getD 2 0 &&& 3)).getD 0 0 + 5 * shr64n (a.getD 2 0) 2 + 0)).getD 1 0) 0 (addc ((a.set 2 (a.getD 2 0 &&& 3)).getD 0 0) (5 * shr64n (a.getD 2 0) 2) 0))
theorem sst_len (a : List UInt64) : (sst a).length = a.length := by simp [sst]
def ssts (a : List UInt64) : Nat → List UInt64
  | 0 => a
  | k + 1 => sst (ssts a k)
theorem ssts_len (a : List UInt64) : ∀ k, (ssts a k).length = a.length
  | 0 => rfl
  | k + 1 => by rw [ssts, sst_len, ssts_len]
def sb1 (s : List UInt64) : UInt64 := subb (s.getD 0 0) 18446744073709551611 0
def sb2 (s : List UInt64) : UInt64 := subb (s.getD 1 0) 18446744073709551615 (sb1 s)
def sb3 (s : List UInt64) : UInt64 := subb (s.getD 2 0) 3 (sb2 s)
def slt (s : List UInt64) : List UInt64 := (((List.replicate 3 0).set 0 (s.getD 0 0 - 18446744073709551611 - 0)).set 1 (s.getD 1 0 - 18446744073709551615 - sb1 s)).set 2 (s.getD 2 0 - 3 - sb2 s)
def sfin (s : List UInt64) : List UInt64 := if sb3 s = 0 then slt s else s
def small (a : List UInt64) : List UInt64 := sfin (ssts a 2)
theorem small_len (a : List UInt64) (h : a.length = 3) : (small a).length = 3 := by
  unfold small sfin
  split
  · simp [slt]
  · rw [ssts_len, h]
/-- poly.times -/
theorem times_ (a r : List UInt64) (ha : a.length = 3) (hr : r.length = 2) : Good Try.prog 81 [.a (u64s a), .a (u64s r)] [] (sa (u64s (times a r))) [] := by
  refine good_frm 113 Try.func81 rfl rfl rfl rfl rfl rfl ?_
  refine awp_seq ?_
  refine rl ?_
  refine G (q_boxa ?_)
  refine G (q_boxa ?_)
  refine G (q_al ?_)
  refine gend ?_
  refine awp_seq ?_
  refine rl ?_
  refine G (q_al ?_)
  refine gend ?_
  refine awp_seq ?_
  refine awp_seq ?_
  refine rl ?_
  refine G (q_mv (s := sc (cn 0)) ?_)
  refine gend ?_
  refine awp_block ?_
  refine awp_loop (fun x : {i : Nat // i ≤ 3} => ⟨frm 113 [(2, sc (.ptr 0 0)), (3, sc (.ptr 1 0)), (4, sc (.ptr 2 0)), (5, sc (.ptr 3 0)), (16, sc (cn x.1))], [some (u64s a), some (u64s r), some (u64s (List.replicate 3 0)), some (u64s (tout a r x.1))]⟩) (fun x => 3 - x.1) ⟨0, Nat.zero_le _⟩ (sle_sub ⟨rfl, rfl, rfl, rfl, rfl, trivial⟩ rfl) fun x => ?_   -- live: [2, 3, 5, 16]
  refine awp_seq ?_
  refine rl ?_
  refine G (q_lssn (y := 3) ?_)
  refine gend ?_
  refine awp_seq ?_
  refine cnd (fun hc1 => ?_) (fun hc1 => ?_); rotate_left
  · refine awp_exit ?_
    rw [show x.1 = 3 from (by have := x.2; omega)]
    have hw := tout_len a r 3
    generalize hW : tout a r 3 = W at hw ⊢
    refine awp_seq ?_
    refine rl ?_
    refine G (q_ixp1 ?_)
    refine G (q_ldp ?_)
    refine G (q_shr64_64 (n := 2) ?_)
    refine G (q_ixp1 ?_)
    refine G (q_ldp ?_)
    refine G (q_shl64_64 (n := 62) ?_)
    refine G (q_or64 ?_)
    refine G (q_ixp1 ?_)
    refine G (q_ldp ?_)
    refine G (q_shr64_64 (n := 2) ?_)
    refine G (q_ixp1 ?_)
    refine G (q_ldp ?_)
    refine G (q_shl64_64 (n := 62) ?_)
    refine G (q_or64 ?_)
    refine G (q_ixp1 ?_)
    refine G (q_ldp ?_)
    refine G (q_shr64_64 (n := 2) ?_)
    refine G (q_bla (fkc rfl (et rfl) rfl (Nat.le_of_ble_eq_true rfl) (fkc rfl (et rfl) rfl (Nat.le_of_ble_eq_true rfl) (fkc rfl (et rfl) rfl (Nat.le_of_ble_eq_true rfl) (fk0 ?_)))))
    refine G (q_al ?_)
    refine G0 (q_stw ?_)
    refine gend ?_
    refine awp_seq ?_
    refine rl ?_
    refine G (q_ixp1 ?_)
    refine G (q_ldp ?_)
    refine G (q_ixp1 ?_)
    refine G (q_ldp ?_)
    refine G (q_ixp1 ?_)
    refine G (q_ldp ?_)
    refine G (q_and64 (y := 3) ?_)
    refine G (q_bla (fkc rfl (et rfl) rfl (Nat.le_of_ble_eq_true rfl) (fkc rfl (et rfl) rfl (Nat.le_of_ble_eq_true rfl) (fkc rfl (et rfl) rfl (Nat.le_of_ble_eq_true rfl) (fk0 ?_)))))
    refine G (q_al ?_)
    refine G0 (q_stw ?_)
    refine gend ?_
    refine awp_seq ?_
    refine awp_seq ?_
    refine rl ?_
    refine G (q_mv (s := sc (cn 0)) ?_)
    refine gend ?_
    refine awp_block ?_
    refine awp_loop (fun y : {i : Nat // i ≤ 5} => ⟨frm 113 [(4, sc (.ptr 2 0)), (12, sc (.ptr 4 0)), (13, sc (.ptr 5 0)), (92, sc (cn y.1))], [some (u64s a), some (u64s r), some (u64s (List.replicate 3 0)), some (u64s W), some (u64s (upw W)), some (u64s (addk (low W) (upw W) y.1))]⟩) (fun y => 5 - y.1) ⟨0, Nat.zero_le _⟩ (sle_sub ⟨rfl, rfl, rfl, rfl, trivial⟩ rfl) fun y => ?_   -- live: [12, 13, 92]
    have hb3 : (addk (low W) (upw W) y.1).length = 3 := (addk_len ..).trans rfl
    refine awp_seq ?_
    refine rl ?_
    refine G (q_lssn (y := 5) ?_)
    refine gend ?_
    refine awp_seq ?_
    refine cnd (fun hc2 => ?_) (fun hc2 => ?_); rotate_left
    · refine awp_exit ?_
      rw [show y.1 = 5 from (by have := y.2; omega)]
      have hk : (addk (low W) (upw W) 5).length = 3 := (addk_len ..).trans rfl
      generalize hK : addk (low W) (upw W) 5 = K at hk ⊢
      refine awp_seq ?_
      refine rl ?_
      refine G (q_ldw  ?_ (hl := (mapc_length ..).trans hk))
      refine G0 (q_stw ?_ (hl := (mapc_length ..).trans hk))
      refine gend ?_
      refine awp_ret ?_
      exact fpc (t := 130) (a := 4) (hn := by exact (mapc_length ..).trans hk) (hv := by rw [← hK, ← hW]; rfl)
    refine awp_skip ?_
    refine awp_seq ?_
    refine awp_block ?_
    refine awp_seq ?_
    refine rl ?_
    refine G (q_as (s := sc (c64 0)) ?_)
    refine gend ?_
    refine awp_seq ?_
    refine rl ?_
    refine G (q_mv (s := sc (cn 0)) ?_)
    refine gend ?_
    refine awp_block ?_
    refine awp_loop (fun z : {i : Nat // i ≤ 3} => ⟨frm 113 [(4, sc (.ptr 2 0)), (12, sc (.ptr 4 0)), (13, sc (.ptr 5 0)), (92, sc (cn y.1)), (14, sc (c64 (addp (addk (low W) (upw W) y.1) (fun i => (upw W).getD i 0) z.1).2)), (94, sc (cn z.1))], [some (u64s a), some (u64s r), some (u64s (List.replicate 3 0)), some (u64s W), some (u64s (upw W)), some (u64s (addp (addk (low W) (upw W) y.1) (fun i => (upw W).getD i 0) z.1).1)]⟩) (fun z => 3 - z.1) ⟨0, Nat.zero_le _⟩ (sle_sub ⟨rfl, rfl, rfl, rfl, rfl, rfl, trivial⟩ rfl) fun z => ?_   -- live: [12, 13, 14, 94]
    have hz := (addp_len (addk (low W) (upw W) y.1) (fun i => (upw W).getD i 0) z.1).trans hb3
    have hc := addp_le (addk (low W) (upw W) y.1) (fun i => (upw W).getD i 0) z.1
    have hu : (upw W).length = 3 := rfl
    refine awp_seq ?_
    refine rl ?_
    refine G (q_lssn (y := 3) ?_)
    refine gend ?_
    refine awp_seq ?_
    refine cnd (fun hc3 => ?_) (fun hc3 => ?_); rotate_left
    · refine awp_exit ?_
      rw [show z.1 = 3 from (by have := z.2; omega)]
      refine rl ?_
      refine G (q_addn (y := 1) ?_)
      refine Mv ?_
      refine gend ?_
      exact ⟨⟨y.1 + 1, by omega⟩, by show 5 - (y.1 + 1) < 5 - y.1; omega, sle_sub ⟨rfl, rfl, rfl, rfl, trivial⟩ rfl⟩   -- endloop 2
    refine awp_skip ?_
    refine awp_seq ?_
    refine awp_block ?_
    refine awp_seq ?_
    refine rl ?_
    refine Mv ?_
    refine As ?_
    refine gend ?_
    refine rdl [13] [0, 0, 0, 0, 0, 0, 0, 0, 0, 0, 0, 0, 0, 0, 1] [0, 0, 0, 0, 0, 0, 0, 0, 0, 0, 0, 1, 0, 1, 1] ?_
    refine Dp (fun _ => q_mv (s := .v (.c _)) ⟨rfl, rfl⟩) ?_
    refine Dp (fun _ => q_mv (s := .v (.c _)) ⟨rfl, rfl⟩) ?_
    refine Dp (fun _ => q_ixp1 ⟨rfl, rfl⟩) ?_
    refine DLp ?_
    refine Dp (fun _ => q_mv (s := .v (.c _)) ⟨rfl, rfl⟩) ?_
    refine Dp (fun _ => q_ixp1 ⟨rfl, rfl⟩) ?_
    refine DLp ?_
    refine Dp (fun _ => q_mv (s := .v (.c _)) ⟨rfl, rfl⟩) ?_
    refine Dp (fun _ => q_addx ⟨rfl, rfl⟩) ?_
    refine Dp (fun _ => q_mv (s := .t _) ⟨rfl, rfl⟩) ?_
    refine Dp (fun _ => q_ext (y := .c _) ⟨rfl, rfl⟩) ?_
    refine Dp (fun _ => q_ext (y := .c _) ⟨rfl, rfl⟩) ?_
    refine Dp (fun _ => q_ixp1 ⟨rfl, rfl⟩) ?_
    refine De0 (q_stm (pw ?_))
    refine Dp (fun _ => q_as (s := .v (.c _)) ⟨rfl, rfl⟩) ?_
    refine dend ?_
    refine rl ?_
    refine G (q_addn (y := 1) ?_)
    refine Mv ?_
    refine gend ?_
    exact ⟨⟨z.1 + 1, by omega⟩, by show 3 - (z.1 + 1) < 3 - z.1; omega, sle_sub ⟨rfl, rfl, rfl, rfl, rfl, rfl, trivial⟩ rfl⟩   -- endloop 3
  refine awp_skip ?_
  refine awp_seq ?_
  refine awp_block ?_
  refine awp_seq ?_
  refine rl ?_
  refine Mv ?_
  refine As ?_
  refine gend ?_
  refine awp_seq ?_
  refine rl ?_
  refine G (q_as (s := sc (c64 0)) ?_)
  refine gend ?_
  refine awp_seq ?_
  refine awp_seq ?_
  refine rl ?_
  refine G (q_mv (s := sc (cn 0)) ?_)
  refine gend ?_
  refine awp_block ?_
  refine awp_loop (fun j : {i : Nat // i ≤ 2} => ⟨frm 113 [(2, sc (.ptr 0 0)), (3, sc (.ptr 1 0)), (4, sc (.ptr 2 0)), (5, sc (.ptr 3 0)), (6, sc (cn x.1)), (16, sc (cn x.1)), (7, sc (c64 (tstep a r x.1 (tout a r x.1) j.1).2)), (19, sc (cn j.1))], [some (u64s a), some (u64s r), some (u64s (List.replicate 3 0)), some (u64s (tstep a r x.1 (tout a r x.1) j.1).1)]⟩) (fun j => 2 - j.1) ⟨0, Nat.zero_le _⟩ (sle_sub ⟨rfl, rfl, rfl, rfl, rfl, rfl, rfl, rfl, trivial⟩ rfl) fun j => ?_   -- live: [2, 3, 5, 6, 7, 19]
  have hl := (tstep_len a r x.1 (tout a r x.1) j.1).trans (tout_len a r x.1)
  refine awp_seq ?_
  refine rl ?_
  refine G (q_lssn (y := 2) ?_)
  refine gend ?_
  refine awp_seq ?_
  refine cnd (fun hc4 => ?_) (fun hc4 => ?_); rotate_left
  · refine awp_exit ?_
    rw [show j.1 = 2 from (by have := j.2; omega)]
    have hl := (tstep_len a r x.1 (tout a r x.1) 2).trans (tout_len a r x.1)
    refine rl ?_
    refine Mv ?_
    refine G (q_addn (y := 2) ?_)
    refine Mv ?_
    refine G (q_ixp1 ?_)
    refine G0 (q_stm ?_)
    refine gend ?_
    refine rl ?_
    refine G (q_addn (y := 1) ?_)
    refine Mv ?_
    refine gend ?_
    exact ⟨⟨x.1 + 1, by omega⟩, by show 3 - (x.1 + 1) < 3 - x.1; omega, sle_sub ⟨rfl, rfl, rfl, rfl, rfl, trivial⟩ rfl⟩   -- endloop 1
  refine awp_skip ?_
  refine awp_seq ?_
  refine awp_block ?_
  refine awp_seq ?_
  refine rl ?_
  refine Mv ?_
  refine As ?_
  refine gend ?_
  refine awp_seq ?_
  refine rdl [] [] [] ?_
  refine Dp (fun _ => q_mv (s := .v (.c _)) ⟨rfl, rfl⟩) ?_
  refine Dp (fun _ => q_ixp1 ⟨rfl, rfl⟩) ?_
  refine DLp ?_
  refine Dp (fun _ => q_mv (s := .v (.c _)) ⟨rfl, rfl⟩) ?_
  refine Dp (fun _ => q_ixp1 ⟨rfl, rfl⟩) ?_
  refine DLp ?_
  refine Dp (fun _ => q_callp (mul64 _ _/- math/bits.Mul64 -/) ⟨rfl, rfl⟩) ?_
  refine Dp (fun _ => q_mv (s := .t _) ⟨rfl, rfl⟩) ?_
  refine Dp (fun _ => q_ext (y := .c _) ⟨rfl, rfl⟩) ?_
  refine Dp (fun _ => q_ext (y := .c _) ⟨rfl, rfl⟩) ?_
  refine Dp (fun _ => q_as (s := .v (.c _)) ⟨rfl, rfl⟩) ?_
  refine Dp (fun _ => q_as (s := .v (.c _)) ⟨rfl, rfl⟩) ?_
  refine dend ?_
  refine awp_seq ?_
  refine rl ?_
  refine G (q_as (s := sc (c64 0)) ?_)
  refine gend ?_
  refine awp_seq ?_
  refine rl ?_
  refine Mv ?_
  refine Mv ?_
  refine Mv ?_
  refine G (q_addn ?_)
  refine G (q_ixp1 ?_)
  refine G (q_ldp ?_)
  refine G (q_addx (c := 0) ?_)
  refine G (q_mv (s := .t _) ?_)
  refine G (q_ext (y := .c _) ?_)
  refine G (q_ext (y := .c _) ?_)
  refine As ?_
  refine As ?_
  refine gend ?_
  refine awp_seq ?_
  refine rl ?_
  refine Mv ?_
  refine Mv ?_
  refine G (q_add64 ?_)
  refine As ?_
  refine gend ?_
  refine awp_seq ?_
  refine rl ?_
  refine Mv ?_
  refine Mv ?_
  refine G (q_addx (c := 0) ?_)
  refine G (q_mv (s := .t _) ?_)
  refine G (q_ext (y := .c _) ?_)
  refine G (q_ext (y := .c _) ?_)
  refine As ?_
  refine As ?_
  refine gend ?_
  refine awp_seq ?_
  refine rl ?_
  refine Mv ?_
  refine Mv ?_
  refine G (q_add64 ?_)
  refine As ?_
  refine gend ?_
  refine rl ?_
  refine Mv ?_
  refine Mv ?_
  refine G (q_addn ?_)
  refine Mv ?_
  refine Mv ?_
  refine G (q_ixp1 ?_)
  refine G0 (q_stm ?_)
  refine As ?_
  refine gend ?_
  refine rl ?_
  refine G (q_addn (y := 1) ?_)
  refine Mv ?_
  refine gend ?_
  exact ⟨⟨j.1 + 1, by omega⟩, by show 2 - (j.1 + 1) < 2 - j.1; omega, sle_sub ⟨rfl, rfl, rfl, rfl, rfl, rfl, rfl, rfl, trivial⟩ rfl⟩   -- endloop 4
/-- poly.small -/
theorem small_ (a : List UInt64) (ha : a.length = 3) : Good Try.prog 80 [.a (u64s a)] [] (sa (u64s (small a))) [] := by
  refine good_frm 66 Try.func80 rfl rfl rfl rfl rfl rfl ?_
  refine awp_seq ?_
  refine rl ?_
  refine G (q_boxa ?_)
  refine G (q_al ?_)
  refine gend ?_
  refine awp_seq ?_
  refine awp_seq ?_
  refine rl ?_
  refine G (q_mv (s := sc (cn 0)) ?_)
  refine gend ?_
  refine awp_block ?_
  refine awp_loop (fun x : {i : Nat // i ≤ 2} => ⟨frm 66 [(1, sc (.ptr 0 0)), (2, sc (.ptr 1 0)), (7, sc (cn x.1))], [some (u64s (ssts a x.1)), some (u64s (List.replicate 3 0))]⟩) (fun x => 2 - x.1) ⟨0, Nat.zero_le _⟩ (sle_sub ⟨rfl, rfl, rfl, trivial⟩ rfl) fun x => ?_   -- live: [1, 7]
  have hl := (ssts_len a x.1).trans ha
  refine awp_seq ?_
  refine rl ?_
  refine G (q_lssn (y := 2) ?_)
  refine gend ?_
  refine awp_seq ?_
  refine cnd (fun hc1 => ?_) (fun hc1 => ?_); rotate_left
  · refine awp_exit ?_
    rw [show x.1 = 2 from (by have := x.2; omega)]
    have hl := (ssts_len a 2).trans ha
    generalize hS : ssts a 2 = S at hl ⊢
    refine awp_seq ?_
    refine rl ?_
    refine G (q_al ?_)
    refine gend ?_
    refine awp_seq ?_
    refine rl ?_
    refine G (q_as (s := sc (c64 0)) ?_)
    refine gend ?_
    refine awp_seq ?_
    refine rl ?_
    refine G (q_ixp1 ?_)
    refine G (q_ldp ?_)
    refine G (q_subx (y := 18446744073709551611) (c := 0) ?_)
    refine G (q_mv (s := .t _) ?_)
    refine G (q_ext (y := .c _) ?_)
    refine G (q_ext (y := .c _) ?_)
    refine G (q_ixp1 ?_)
    refine G0 (q_stm ?_)
    refine As ?_
    refine gend ?_
    refine awp_seq ?_
    refine rl ?_
    refine G (q_ixp1 ?_)
    refine G (q_ldp ?_)
    refine Mv ?_
    refine G (q_subx (y := 18446744073709551615) ?_)
    refine G (q_mv (s := .t _) ?_)
    refine G (q_ext (y := .c _) ?_)
    refine G (q_ext (y := .c _) ?_)
    refine G (q_ixp1 ?_)
    refine G0 (q_stm ?_)
    refine As ?_
    refine gend ?_
    refine awp_seq ?_
    refine rl ?_
    refine G (q_ixp1 ?_)
    refine G (q_ldp ?_)
    refine Mv ?_
    refine G (q_subx (y := 3) ?_)
    refine G (q_mv (s := .t _) ?_)
    refine G (q_ext (y := .c _) ?_)
    refine G (q_ext (y := .c _) ?_)
    refine G (q_ixp1 ?_)
    refine G0 (q_stm ?_)
    refine As ?_
    refine gend ?_
    refine awp_seq ?_
    refine awp_seq ?_
    refine rl ?_
    refine Mv ?_
    refine G (q_eql64 (y := 0) ?_)
    refine gend ?_
    refine cnd (fun hc2 => ?_) (fun hc2 => ?_)
    · refine awp_seq ?_
      refine rl ?_
      refine G (q_ldw ?_)
      refine G0 (q_stw ?_)
      refine gend ?_
      refine awp_ret ?_
      exact fpc (t := 130) (a := 2) (hn := by simp only [mapc_length, List.length_set, List.length_replicate]) (hv := by rw [small, hS, sfin, if_pos (show sb3 S = 0 from hc2)]; rfl)
    refine awp_skip ?_
    refine awp_seq ?_
    refine rl ?_
    refine G (q_ldw ?_)
    refine G0 (q_stw ?_)
    refine gend ?_
    refine awp_ret ?_
    exact fpc (t := 130) (a := 2) (hn := by exact (mapc_length ..).trans hl) (hv := by rw [small, hS, sfin, if_neg (show ¬ sb3 S = 0 from hc2)])
  refine awp_skip ?_
  refine awp_seq ?_
  refine awp_block ?_
  refine awp_seq ?_
  refine rl ?_
  refine G (q_ixp1 ?_)
  refine G (q_ldp ?_)
  refine G (q_shr64_64 (n := 2) ?_)
  refine As ?_
  refine gend ?_
  refine awp_seq ?_
  refine rl ?_
  refine G (q_ixp1 ?_)
  refine G (q_ldp ?_)
  refine G (q_and64 (y := 3) ?_)
  refine G (q_ixp1 ?_)
  refine G0 (q_stm ?_)
  refine gend ?_
  refine awp_seq ?_
  refine rl ?_
  refine G (q_as (s := sc (c64 0)) ?_)
  refine gend ?_
  refine awp_seq ?_
  refine rl ?_
  refine G (q_ixp1 ?_)
  refine G (q_ldp ?_)
  refine Mv ?_
  refine G (q_mul64 (x := 5) ?_)
  refine G (q_addx (c := 0) ?_)
  refine G (q_mv (s := .t _) ?_)
  refine G (q_ext (y := .c _) ?_)
  refine G (q_ext (y := .c _) ?_)
  refine G (q_ixp1 ?_)
  refine G0 (q_stm ?_)
  refine As ?_
  refine gend ?_
  refine awp_seq ?_
  refine rl ?_
  refine G (q_ixp1 ?_)
  refine G (q_ldp ?_)
  refine Mv ?_
  refine G (q_addx (y := 0) ?_)
  refine G (q_mv (s := .t _) ?_)
  refine G (q_ext (y := .c _) ?_)
  refine G (q_ext (y := .c _) ?_)
  refine G (q_ixp1 ?_)
  refine G0 (q_stm ?_)
  refine As ?_
  refine gend ?_
  refine rl ?_
  refine G (q_ixp1 ?_)
  refine G (q_ldp ?_)
  refine Mv ?_
  refine G (q_add64 ?_)
  refine G (q_ixp1 ?_)
  refine G0 (q_stm ?_)
  refine gend ?_
  refine rl ?_
  refine G (q_addn (y := 1) ?_)
  refine Mv ?_
  refine gend ?_
  exact ⟨⟨x.1 + 1, by omega⟩, by show 2 - (x.1 + 1) < 2 - x.1; omega, sle_sub ⟨rfl, rfl, rfl, trivial⟩ rfl⟩   -- endloop 1
end Go.Proofs.Ytlnepajgnckolaa.Po

/- What functions of the program do, walked over the abstract machine. -/
namespace Go.Proofs.Ytlnepajgnckolaa.Po
open Go Go.Abs Go.Proofs

set_option maxRecDepth 20000
theorem slc_eq {b q q' n n' z : Nat} (h : q = q') (h' : n = n') : sc (.slc b q n z) = sc (.slc b q' n' z) := by rw [h, h']
def sp {α : Type} (a b : List α) (q : Nat) : List α := a.take q ++ (b ++ a.drop (q + b.length))
theorem splice_cpy {α : Type} {k : IntKind} {g : α → Int} {a b : List α} {q j c d : Nat} : splice (mapc k g a) q ((((mapc k g b).drop c).take d).take j) = mapc k g (sp a (((b.drop c).take d).take j) q) := by
  simp [mapc, splice, sp]
/-- A piece: bytes, and a one behind them. -/
def piece (m : List UInt8) (q k : Nat) : List UInt8 := (sp (List.replicate 24 0) (((m.drop q).take (k * 1)).take (min k 24 * 1)) 0).set k 1
abbrev raw (m : List UInt8) (q k : Nat) : List UInt8 := sp (List.replicate 24 0) (((m.drop q).take (k * 1)).take (min k 24 * 1)) 0
theorem raw_len (m : List UInt8) (q k : Nat) (hk : k ≤ 16) : (raw m q k).length = 24 := by
  simp [raw, sp]
  omega
theorem piece_len (m : List UInt8) (q k : Nat) (hk : k ≤ 16) : (piece m q k).length = 24 := by
  simp [piece, sp]
  omega
abbrev pat (P : List UInt8) (i : Nat) : List UInt8 := (P.drop (0 + 8 * i * 1)).take ((24 - 8 * i) * 1)
def pacc (m : List UInt8) (r : List UInt64) : Nat → List UInt64
  | 0 => List.replicate 3 0
  | j + 1 => small (times (addp (pacc m r j) (fun i => half (pat (piece m (min (16 * j) m.length) (min 16 (m.length - min (16 * j) m.length))) i)) 3).1 r)
theorem pacc_len (m : List UInt8) (r : List UInt64) : ∀ j, (pacc m r j).length = 3
  | 0 => by simp [pacc]
  | j + 1 => by rw [pacc]; exact small_len _ (times_len _ _)
abbrev kq (key : List UInt8) (q : Nat) : List UInt8 := (key.drop (0 + q * 1)).take ((32 - q) * 1)
abbrev rk (key : List UInt8) : List UInt64 := [half key &&& 1152921487695413247, half (kq key 8) &&& 1152921487695413244]
def outb (lo hi : UInt64) : Nat → List UInt8
  | 0 => List.replicate 16 0
  | i + 1 => ((outb lo hi i).set i (shr64n lo (8 * i)).toUInt8).set (8 + i) (shr64n hi (8 * i)).toUInt8
theorem outb_len (lo hi : UInt64) : ∀ i, (outb lo hi i).length = 16
  | 0 => by simp [outb]
  | i + 1 => by rw [outb, List.length_set, List.length_set, outb_len]
def fin2 (a : List UInt64) (key : List UInt8) : List UInt8 :=
  outb (a.getD 0 0 + half (kq key 16) + 0) (a.getD 1 0 + half (kq key 24) + addc (a.getD 0 0) (half (kq key 16)) 0) 8
def tag (key : List UInt8) (m : List UInt8) : List UInt8 := fin2 (pacc m (rk key) ((m.length + 15) / 16)) key
set_option maxHeartbeats 800000 in
/-- poly.Tag -/
theorem tag_ (key : List UInt8) (ps : List (List UInt8)) (k : Nat) (hkey : key.length = 32) (hk : ps.length = k) (hk9 : k ≤ 100000) (hm : ps.flatten.length ≤ 100000) : Good Try.prog 66 [.a (u8s key), .c (.ro k (pcs ps))] [] (sa (u8s (tag key ps.flatten))) [] := by
  refine good_frm 111 Try.func66 rfl rfl rfl rfl rfl rfl ?_
  refine awp_seq ?_
  refine rl ?_
  refine G (q_boxa ?_)
  refine G (q_al ?_)
  refine gend ?_
  refine awp_seq ?_
  refine rdl [7, 8] [0, 0, 0, 0, 0, 0, 0, 0, 1] [1, 1, 1, 1, 1, 1, 1, 1, 2] ?_
  refine DSp 0 rfl (fun _ hv => q_slp_no ⟨rfl, rfl⟩ (hp := hv)) ?_
  refine DSp 0 rfl (fun _ _ => q_callp (half_ 32 key (by omega) hkey (by decide)/- escutcheon/poly.half -/) ⟨rfl, rfl⟩) ?_
  refine Dp (fun _ => q_and64 (y := 1152921487695413247) ⟨rfl, rfl⟩) ?_
  refine DSp 0 rfl (fun _ hv => q_slp_lo (j := 8) ⟨rfl, rfl⟩ (hp := hv)) ?_
  refine DSp 0 rfl (fun _ _ => q_callp (half_ 24 (kq key 8) (by simp [hkey]) (by simp [hkey]) (by decide)/- escutcheon/poly.half -/) ⟨rfl, rfl⟩) ?_
  refine Dp (fun _ => q_and64 (y := 1152921487695413244) ⟨rfl, rfl⟩) ?_
  refine Dp (fun _ => q_bla (fkc rfl (et rfl) rfl (Nat.le_of_ble_eq_true rfl) (fkc rfl (et rfl) rfl (Nat.le_of_ble_eq_true rfl) (fk0 ⟨rfl, rfl⟩)))) ?_
  refine De (q_al (pw ?_))
  refine De0 (q_stw (pw ?_))
  refine dend ?_
  refine awp_seq ?_
  refine rl ?_
  refine As ?_
  refine gend ?_
  refine awp_seq ?_
  refine awp_seq ?_
  refine rl ?_
  refine Mv ?_
  refine G (q_leno ?_)
  refine G (q_mv (s := sc (cn 0)) ?_)
  refine gend ?_
  refine awp_block ?_
  refine awp_loop (fun x : {s : Nat × List UInt8 × Nat // s.1 ≤ k ∧ s.2.1 = fl ps s.1 ∧ s.2.1.length = s.2.2} => ⟨frm 111 [(2, sc (.ptr 0 0)), (4, sc (.ptr 1 0)), (5, sc (.ptr 2 0)), (6, sc (.slc 3 0 x.1.2.2 1)), (26, sc (.ro k (pcs ps))), (27, sc (cn k)), (28, sc (cn x.1.1))], [some (u8s key), some (u8s (List.replicate 16 0)), some (u64s (rk key)), some (u8s x.1.2.1)]⟩) (fun x => k - x.1.1) ⟨(0, [], 0), Nat.zero_le _, rfl, rfl⟩ (sle_empty 1 (Nat.zero_le _) ⟨.inl rfl, .inl rfl, .inl rfl, .inr ⟨rfl, rfl⟩, .inl rfl, .inl rfl, .inl rfl, trivial⟩) fun x => ?_
  have h1 := x.2.1
  have h2 := x.2.2.1
  have hmn := x.2.2.2
  have hpl : (pcs ps).length = k := by simp [pcs, hk]
  refine awp_seq ?_
  refine rl ?_
  refine G (q_lssn ?_)
  refine gend ?_
  refine awp_seq ?_
  refine cnd (fun hc1 => ?_) (fun hc1 => ?_); rotate_left
  · refine awp_exit ?_
    have hik : x.1.1 = k := by omega
    have hmf : x.1.2.1 = ps.flatten := by rw [h2, fl, hik, ← hk, List.take_length]
    generalize x.1.2.1 = m at hmf hmn ⊢
    generalize x.1.2.2 = n at hmn ⊢
    have hn9 : n ≤ 100000 := by rw [← hmn, hmf]; exact hm
    refine awp_seq ?_
    refine rl ?_
    refine G (q_al ?_)
    refine gend ?_
    refine awp_seq ?_
    refine awp_block ?_
    refine awp_loop (fun j : {i : Nat // i ≤ (n + 15) / 16} => ⟨frm 111 [(2, sc (.ptr 0 0)), (4, sc (.ptr 1 0)), (5, sc (.ptr 2 0)), (6, sc (.slc 3 (min (16 * j.1) n) (n - min (16 * j.1) n) 1)), (9, sc (.ptr 4 0))], [some (u8s key), some (u8s (List.replicate 16 0)), some (u64s (rk key)), some (u8s m), some (u64s (pacc m (rk key) j.1))]⟩) (fun j => (n + 15) / 16 - j.1) ⟨0, Nat.zero_le _⟩ (sle_sub ⟨rfl, rfl, rfl, slc_eq (by simp) (by simp), rfl, trivial⟩ rfl) fun j => ?_   -- live: [5, 6, 9]
    have ha := pacc_len m (rk key) j.1
    refine awp_seq ?_
    refine awp_seq ?_
    refine rl ?_
    refine Mv ?_
    refine G (q_lenc ?_)
    refine G (q_gtrn (y := 0) ?_)
    refine gend ?_
    refine cnd (fun hc2 => ?_) (fun hc2 => ?_); rotate_left
    · refine awp_exit ?_
      rw [show j.1 = (n + 15) / 16 from (by have := j.2; omega)]
      have ha := pacc_len m (rk key) ((n + 15) / 16)
      generalize hA : pacc m (rk key) ((n + 15) / 16) = A at ha ⊢
      refine awp_seq ?_
      refine rdl [] [] [] ?_
      refine Dp (fun _ => q_ixp1 ⟨rfl, rfl⟩) ?_
      refine DLp ?_
      refine DSp 0 rfl (fun _ hv => q_slp_lo (j := 16) ⟨rfl, rfl⟩ (hp := hv)) ?_
      refine DSp 0 rfl (fun _ _ => q_callp (half_ 16 (kq key 16) (by simp [hkey]) (by simp [hkey]) (by decide)/- escutcheon/poly.half -/) ⟨rfl, rfl⟩) ?_
      refine Dp (fun _ => q_addx (c := 0) ⟨rfl, rfl⟩) ?_
      refine Dp (fun _ => q_mv (s := .t _) ⟨rfl, rfl⟩) ?_
      refine Dp (fun _ => q_ext (y := .c _) ⟨rfl, rfl⟩) ?_
      refine Dp (fun _ => q_ext (y := .c _) ⟨rfl, rfl⟩) ?_
      refine Dp (fun _ => q_as (s := .v (.c _)) ⟨rfl, rfl⟩) ?_
      refine Dp (fun _ => q_as (s := .v (.c _)) ⟨rfl, rfl⟩) ?_
      refine dend ?_
      refine awp_seq ?_
      refine rdl [] [] [] ?_
      refine Dp (fun _ => q_ixp1 ⟨rfl, rfl⟩) ?_
      refine DLp ?_
      refine DSp 0 rfl (fun _ hv => q_slp_lo (j := 24) ⟨rfl, rfl⟩ (hp := hv)) ?_
      refine DSp 0 rfl (fun _ _ => q_callp (half_ 8 (kq key 24) (by simp [hkey]) (by simp [hkey]) (by decide)/- escutcheon/poly.half -/) ⟨rfl, rfl⟩) ?_
      refine Dp (fun _ => q_mv (s := .v (.c _)) ⟨rfl, rfl⟩) ?_
      refine Dp (fun _ => q_addx ⟨rfl, rfl⟩) ?_
      refine Dp (fun _ => q_mv (s := .t _) ⟨rfl, rfl⟩) ?_
      refine Dp (fun _ => q_ext (y := .c _) ⟨rfl, rfl⟩) ?_
      refine Dp (fun _ => q_ext (y := .c _) ⟨rfl, rfl⟩) ?_
      refine Dp (fun _ => q_as (s := .v (.c _)) ⟨rfl, rfl⟩) ?_
      refine Dp (fun _ => q_as (s := .v (.c _)) ⟨rfl, rfl⟩) ?_
      refine dend ?_
      refine awp_seq ?_
      refine awp_seq ?_
      refine rl ?_
      refine G (q_mv (s := sc (cn 0)) ?_)
      refine gend ?_
      refine awp_block ?_
      refine awp_loop (fun y : {i : Nat // i ≤ 8} => ⟨frm 111 [(4, sc (.ptr 1 0)), (14, sc (c64 (A.getD 0 0 + half (kq key 16) + 0))), (16, sc (c64 (A.getD 1 0 + half (kq key 24) + addc (A.getD 0 0) (half (kq key 16)) 0))), (91, sc (cn y.1))], [some (u8s key), some (u8s (outb (A.getD 0 0 + half (kq key 16) + 0) (A.getD 1 0 + half (kq key 24) + addc (A.getD 0 0) (half (kq key 16)) 0) y.1)), some (u64s (rk key)), some (u8s m), some (u64s A)]⟩) (fun y => 8 - y.1) ⟨0, Nat.zero_le _⟩ (sle_sub ⟨rfl, rfl, rfl, rfl, trivial⟩ rfl) fun y => ?_   -- live: [4, 14, 16, 91]
      have hl := outb_len (A.getD 0 0 + half (kq key 16) + 0) (A.getD 1 0 + half (kq key 24) + addc (A.getD 0 0) (half (kq key 16)) 0) y.1
      refine awp_seq ?_
      refine rl ?_
      refine G (q_lssn (y := 8) ?_)
      refine gend ?_
      refine awp_seq ?_
      refine cnd (fun hc3 => ?_) (fun hc3 => ?_); rotate_left
      · refine awp_exit ?_
        rw [show y.1 = 8 from (by have := y.2; omega)]
        have hl := outb_len (A.getD 0 0 + half (kq key 16) + 0) (A.getD 1 0 + half (kq key 24) + addc (A.getD 0 0) (half (kq key 16)) 0) 8
        refine awp_seq ?_
        refine rl ?_
        refine G (q_ldw  ?_ (hl := (mapc_length ..).trans hl))
        refine G0 (q_stw  ?_ (hl := (mapc_length ..).trans hl) (hc := (mapc_length ..).trans hl))
        refine gend ?_
        refine awp_ret ?_
        exact fpc (t := 89) (a := 4) (hn := by exact (mapc_length ..).trans hl) (hv := by rw [tag, ← hmf, hmn, hA]; rfl)
      refine awp_skip ?_
      refine awp_seq ?_
      refine awp_block ?_
      refine awp_seq ?_
      refine rl ?_
      refine Mv ?_
      refine As ?_
      refine gend ?_
      refine rdl [14, 16] [0, 0, 0, 0, 0, 0, 0, 0, 0, 0, 0, 0, 0, 0, 0, 1, 1] [0, 1, 1, 0, 0, 0, 0, 0, 1, 1, 1, 1, 1, 0, 1, 1, 2] ?_
      refine Dp (fun _ => q_mv (s := .v (.c _)) ⟨rfl, rfl⟩) ?_
      refine Dp (fun _ => q_mv (s := .v (.c _)) ⟨rfl, rfl⟩) ?_
      refine Dp (fun _ => q_addn (x := 8) ⟨rfl, rfl⟩) ?_
      refine Dp (fun _ => q_mv (s := .v (.c _)) ⟨rfl, rfl⟩) ?_
      refine Dp (fun _ => q_mv (s := .v (.c _)) ⟨rfl, rfl⟩) ?_
      refine Dp (fun _ => q_muln (x := 8) ⟨rfl, rfl⟩) ?_
      refine Dp (fun _ => q_shr64_0 ⟨rfl, rfl⟩) ?_
      refine Dp (fun _ => q_cv64_8 ⟨rfl, rfl⟩) ?_
      refine Dp (fun _ => q_mv (s := .v (.c _)) ⟨rfl, rfl⟩) ?_
      refine Dp (fun _ => q_mv (s := .v (.c _)) ⟨rfl, rfl⟩) ?_
      refine Dp (fun _ => q_muln (x := 8) ⟨rfl, rfl⟩) ?_
      refine Dp (fun _ => q_shr64_0 ⟨rfl, rfl⟩) ?_
      refine Dp (fun _ => q_cv64_8 ⟨rfl, rfl⟩) ?_
      refine Dp (fun _ => q_ixp1 ⟨rfl, rfl⟩) ?_
      refine De0 (q_stm (pw ?_))
      refine Dp (fun _ => q_ixp1 ⟨rfl, rfl⟩) ?_
      refine De0 (q_stm (pw ?_))
      refine dend ?_
      refine rl ?_
      refine G (q_addn (y := 1) ?_)
      refine Mv ?_
      refine gend ?_
      exact ⟨⟨y.1 + 1, by omega⟩, by show 8 - (y.1 + 1) < 8 - y.1; omega, sle_sub ⟨rfl, rfl, rfl, rfl, trivial⟩ rfl⟩   -- endloop 3
    refine awp_skip ?_
    refine awp_block ?_
    refine awp_seq ?_
    refine rl ?_
    refine Mv ?_
    refine G (q_lenc ?_)
    refine G (q_minn (x := 16) ?_)
    refine As ?_
    refine gend ?_
    refine awp_seq ?_
    refine rl ?_
    refine G (q_al ?_)
    refine gend ?_
    refine awp_seq ?_
    refine rdl [4] [] [0, 0, 0, 0, 1] ?_
    refine DSp 5 rfl (fun _ hv => q_slp_no ⟨rfl, rfl⟩ (hp := hv)) ?_
    refine Dp (fun _ => q_mv (s := .v (.c _)) ⟨rfl, rfl⟩) ?_
    refine Dp (fun _ => q_mv (s := .v (.c _)) ⟨rfl, rfl⟩) ?_
    refine Dp (fun _ => q_sls_hi ⟨rfl, rfl⟩) ?_
    refine De (q_cpy (pw ?_))
    refine dend ?_
    have hsp := raw_len m (min (16 * j.1) n) (min 16 (n - min (16 * j.1) n)) (by omega)
    refine reheap [(2, sc (.ptr 0 0)), (4, sc (.ptr 1 0)), (5, sc (.ptr 2 0)), (6, sc (.slc 3 (min (16 * j.1) n) (n - min (16 * j.1) n) 1)), (9, sc (.ptr 4 0)), (10, sc (cn (min 16 (n - min (16 * j.1) n)))), (11, sc (.ptr 5 0))] [some (u8s key), some (u8s (List.replicate 16 0)), some (u64s (rk key)), some (u8s m), some (u64s (pacc m (rk key) j.1)), some (u8s (raw m (min (16 * j.1) n) (min 16 (n - min (16 * j.1) n))))] ?_ ⟨rfl, rfl, rfl, rfl, rfl, rfl, rfl, trivial⟩ (congrArg (fun z => [some (u8s key), some (u8s (List.replicate 16 0)), some (u64s (rk key)), some (u8s m), some (u64s (pacc m (rk key) j.1)), some z]) splice_cpy)
    refine awp_seq ?_
    refine rl ?_
    refine Mv ?_
    refine G (q_ixp1 ?_)
    refine G0 (q_stm (x := (1 : UInt8)) ?_)
    refine gend ?_
    refine awp_seq ?_
    refine rl ?_
    refine G (q_as (s := sc (c64 0)) ?_)
    refine gend ?_
    refine awp_seq ?_
    refine awp_seq ?_
    refine rl ?_
    refine G (q_mv (s := sc (cn 0)) ?_)
    refine gend ?_
    obtain ⟨P, hP'⟩ : ∃ P, piece m (min (16 * j.1) n) (min 16 (n - min (16 * j.1) n)) = P := ⟨_, rfl⟩
    have hP : P.length = 24 := by rw [← hP']; exact piece_len _ _ _ (by omega)
    refine awp_block ?_
    refine awp_loop (fun e : {i : Nat // i ≤ 3} => ⟨frm 111 [(2, sc (.ptr 0 0)), (4, sc (.ptr 1 0)), (5, sc (.ptr 2 0)), (6, sc (.slc 3 (min (16 * j.1) n) (n - min (16 * j.1) n) 1)), (9, sc (.ptr 4 0)), (10, sc (cn (min 16 (n - min (16 * j.1) n)))), (11, sc (.ptr 5 0)), (12, sc (c64 (addp (pacc m (rk key) j.1) (fun i => half (pat P i)) e.1).2)), (49, sc (cn e.1))], [some (u8s key), some (u8s (List.replicate 16 0)), some (u64s (rk key)), some (u8s m), some (u64s (addp (pacc m (rk key) j.1) (fun i => half (pat P i)) e.1).1), some (u8s P)]⟩) (fun e => 3 - e.1) ⟨0, Nat.zero_le _⟩ (sle_sub ⟨rfl, rfl, rfl, rfl, rfl, rfl, rfl, rfl, rfl, trivial⟩ (by rw [← hP']; rfl)) fun e => ?_   -- live: [9, 11, 12, 49]
    have hi := (addp_len (pacc m (rk key) j.1) (fun i => half (pat P i)) e.1).trans ha
    have hc := addp_le (pacc m (rk key) j.1) (fun i => half (pat P i)) e.1
    refine awp_seq ?_
    refine rl ?_
    refine G (q_lssn (y := 3) ?_)
    refine gend ?_
    refine awp_seq ?_
    refine cnd (fun hc4 => ?_) (fun hc4 => ?_); rotate_left
    · refine awp_exit ?_
      rw [show e.1 = 3 from (by have := e.2; omega)]
      have hi := (addp_len (pacc m (rk key) j.1) (fun i => half (pat P i)) 3).trans ha
      have gT := times_ (addp (pacc m (rk key) j.1) (fun i => half (pat P i)) 3).1 (rk key) hi rfl
      have gS := small_ (times (addp (pacc m (rk key) j.1) (fun i => half (pat P i)) 3).1 (rk key)) (times_len ..)
      have hpa : pacc m (rk key) (j.1 + 1) = small (times (addp (pacc m (rk key) j.1) (fun i => half (pat P i)) 3).1 (rk key)) := by rw [pacc, hmn, hP']
      rw [← hpa] at gS
      have hA1 := pacc_len m (rk key) (j.1 + 1)
      obtain ⟨A1, hA1e⟩ : ∃ A, pacc m (rk key) (j.1 + 1) = A := ⟨_, rfl⟩
      rw [hA1e] at gS hA1
      generalize times (addp (pacc m (rk key) j.1) (fun i => half (pat P i)) 3).1 (rk key) = T at gT gS
      refine awp_seq ?_
      refine rl ?_
      refine G (q_ldw  ?_ (hl := (mapc_length ..).trans hi))
      refine G (q_ldw  ?_ (hl := (mapc_length ..).trans rfl))
      refine G (q_callp (gT/- escutcheon/poly.times -/) ?_)
      refine G (q_callp (gS/- escutcheon/poly.small -/) ?_)
      refine G0 (q_stw  ?_ (hl := (mapc_length ..).trans hA1) (hc := (mapc_length ..).trans hi))
      refine gend ?_
      refine rl ?_
      refine Mv ?_
      refine Mv ?_
      refine G (q_sls_lo ?_)
      refine As ?_
      refine gend ?_
      exact ⟨⟨j.1 + 1, by omega⟩, by show (n + 15) / 16 - (j.1 + 1) < (n + 15) / 16 - j.1; omega, sle_view [0, 1, 2, 3, 4] (fun p h => absurd h (Nat.not_lt_zero _)) (by decide) ⟨rfl, rfl, rfl, slc_eq (by show _ = min (16 * (j.1 + 1)) n; omega) (by show _ = n - min (16 * (j.1 + 1)) n; omega), rfl, trivial⟩ (vh5 (pick_m rfl) (pick_m rfl) (pick_m rfl) (pick_m rfl) (pick_m (congrArg (fun z => some (some (u64s z))) hA1e.symm)))⟩   -- endloop 2
    refine awp_skip ?_
    refine awp_seq ?_
    refine awp_block ?_
    refine awp_seq ?_
    refine rl ?_
    refine Mv ?_
    refine As ?_
    refine gend ?_
    refine rdl [14] [0, 0, 0, 0, 0, 0, 0, 0, 0, 0, 0, 0, 0, 0, 0, 1] [0, 0, 0, 0, 0, 0, 0, 0, 0, 0, 0, 0, 1, 0, 1, 1] ?_
    refine Dp (fun _ => q_mv (s := .v (.c _)) ⟨rfl, rfl⟩) ?_
    refine Dp (fun _ => q_mv (s := .v (.c _)) ⟨rfl, rfl⟩) ?_
    refine Dp (fun _ => q_ixp1 ⟨rfl, rfl⟩) ?_
    refine DLp ?_
    refine Dp (fun _ => q_mv (s := .v (.c _)) ⟨rfl, rfl⟩) ?_
    refine Dp (fun _ => q_muln (x := 8) ⟨rfl, rfl⟩) ?_
    refine DSp 5 rfl (fun _ hv => q_slp_lo ⟨rfl, rfl⟩ (hp := hv)) ?_
    refine DSp 5 rfl (fun _ _ => q_callp (half_ (24 - 8 * e.1) (pat P e.1) (by simp [hP]; omega) (by simp [hP]) (by omega)/- escutcheon/poly.half -/) ⟨rfl, rfl⟩) ?_
    refine Dp (fun _ => q_mv (s := .v (.c _)) ⟨rfl, rfl⟩) ?_
    refine Dp (fun _ => q_addx ⟨rfl, rfl⟩) ?_
    refine Dp (fun _ => q_mv (s := .t _) ⟨rfl, rfl⟩) ?_
    refine Dp (fun _ => q_ext (y := .c _) ⟨rfl, rfl⟩) ?_
    refine Dp (fun _ => q_ext (y := .c _) ⟨rfl, rfl⟩) ?_
    refine Dp (fun _ => q_ixp1 ⟨rfl, rfl⟩) ?_
    refine De0 (q_stm (pw ?_))
    refine Dp (fun _ => q_as (s := .v (.c _)) ⟨rfl, rfl⟩) ?_
    refine dend ?_
    refine rl ?_
    refine G (q_addn (y := 1) ?_)
    refine Mv ?_
    refine gend ?_
    exact ⟨⟨e.1 + 1, by omega⟩, by show 3 - (e.1 + 1) < 3 - e.1; omega, sle_sub ⟨rfl, rfl, rfl, rfl, rfl, rfl, rfl, rfl, rfl, trivial⟩ rfl⟩   -- endloop 4
  refine awp_skip ?_
  refine awp_seq ?_
  refine awp_block ?_
  refine awp_seq ?_
  refine rl ?_
  have hb := fl_le ps x.1.1 (by omega)
  rw [← h2, hmn] at hb
  refine G (q_ixo1 ?_)
  refine G (q_ldrd ?_ (hc := pcs_at (by omega)))
  refine As ?_
  refine gend ?_
  refine rl ?_
  refine Mv ?_
  refine Mv ?_
  refine G (q_app ?_)
  refine As ?_
  refine gend ?_
  refine rl ?_
  refine G (q_addn (y := 1) ?_)
  refine Mv ?_
  refine gend ?_
  exact ⟨⟨(x.1.1 + 1, x.1.2.1 ++ ps.getD x.1.1 [], x.1.2.2 + (ps.getD x.1.1 []).length), by show x.1.1 + 1 ≤ k; omega, by show x.1.2.1 ++ _ = fl ps (x.1.1 + 1); rw [fl_succ ps x.1.1 (by omega), h2], by show (x.1.2.1 ++ _).length = _; rw [List.length_append, hmn]⟩, by show k - (x.1.1 + 1) < k - x.1.1; omega, sle_view [0, 1, 2, 4] (fun p h => absurd h (Nat.not_lt_zero _)) (by decide) ⟨rfl, rfl, rfl, rfl, rs_pcs, rfl, rfl, trivial⟩ (vh4 (pick_m rfl) (pick_m rfl) (pick_m rfl) (pick_m (congrArg (fun z => some (some z)) (mapc_append ..))))⟩   -- endloop 1
theorem tag_len (key m : List UInt8) : (tag key m).length = 16 := by unfold tag fin2; exact outb_len _ _ _
end Go.Proofs.Ytlnepajgnckolaa.Po

/- What functions of the program do, walked over the abstract machine. -/
namespace Go.Proofs.Ytlnepajgnckolaa.Po
open Go Go.Abs Go.Proofs

set_option maxRecDepth 20000
/-- The reference: carries. -/
def nrm (d : List UInt64) : Nat → List UInt64 × UInt64
  | 0 => (d, 0)
  | i + 1 => ((nrm d i).1.set i (((nrm d i).1.getD i 0 + (nrm d i).2) % 256), ((nrm d i).1.getD i 0 + (nrm d i).2) / 256)
theorem nrm_len (d : List UInt64) : ∀ i, (nrm d i).1.length = d.length
  | 0 => rfl
  | i + 1 => by rw [nrm, List.length_set, nrm_len]
/-- What stands from bit 130 on is taken out. -/
def fld (d : List UInt64) : Nat → List UInt64 × List UInt64
  | 0 => (d, List.replicate 34 0)
  | j + 1 =>
    if 16 < 16 + j then
      ((fld d j).1.set (16 + j) 0,
        ((fld d j).2.set (16 + j - 16) ((fld d j).2.getD (16 + j - 16) 0 + (fld d j).1.getD (16 + j) 0 / 4)).set (16 + j - 17)
          (((fld d j).2.set (16 + j - 16) ((fld d j).2.getD (16 + j - 16) 0 + (fld d j).1.getD (16 + j) 0 / 4)).getD (16 + j - 17) 0 + (fld d j).1.getD (16 + j) 0 % 4 * 64))
    else ((fld d j).1.set (16 + j) ((fld d j).1.getD (16 + j) 0 % 4), (fld d j).2.set (16 + j - 16) ((fld d j).2.getD (16 + j - 16) 0 + (fld d j).1.getD (16 + j) 0 / 4))
theorem fld_len (d : List UInt64) : ∀ i, (fld d i).1.length = d.length ∧ (fld d i).2.length = 34
  | 0 => ⟨rfl, by simp [fld]⟩
  | i + 1 => by
    have := fld_len d i
    rw [fld]; split <;> simp [this]
def add5 (d u : List UInt64) : Nat → List UInt64
  | 0 => d
  | i + 1 => (add5 d u i).set i ((add5 d u i).getD i 0 + 5 * u.getD i 0)
theorem add5_len (d u : List UInt64) : ∀ i, (add5 d u i).length = d.length
  | 0 => rfl
  | i + 1 => by rw [add5, List.length_set, add5_len]
def pss (d : List UInt64) : Nat → List UInt64
  | 0 => d
  | k + 1 => add5 (fld (nrm (pss d k) 34).1 18).1 (fld (nrm (pss d k) 34).1 18).2 34
theorem pss_len (d : List UInt64) : ∀ k, (pss d k).length = d.length
  | 0 => rfl
  | k + 1 => by rw [pss, add5_len, (fld_len _ _).1, nrm_len, pss_len]
def nn (d : List UInt64) : Nat → List UInt64 × UInt64
  | 0 => (List.replicate 17 0, 0)
  | i + 1 => ((nn d i).1.set i ((d.getD i 0 + (nn d i).2) % 256), (d.getD i 0 + (nn d i).2) / 256)
theorem nn_len (d : List UInt64) : ∀ i, (nn d i).1.length = 17
  | 0 => by simp [nn]
  | i + 1 => by rw [nn, List.length_set, nn_len]
def g0 (n : List UInt64) : Bool := (decide (n.getD 16 0 = 3) && decide (251 ≤ n.getD 0 0)) || decide (3 < n.getD 16 0)
def gr (n : List UInt64) : Nat → Bool
  | 0 => g0 n
  | i + 1 => gr n i && (decide (n.getD (1 + i) 0 = 255) || decide (3 < n.getD 16 0))
def sb5 (n : List UInt64) : Nat → List UInt64 × UInt64
  | 0 => (n, 5)
  | i + 1 => ((sb5 n i).1.set i (((sb5 n i).1.getD i 0 + (sb5 n i).2) % 256), ((sb5 n i).1.getD i 0 + (sb5 n i).2) / 256)
theorem sb5_len (n : List UInt64) : ∀ i, (sb5 n i).1.length = n.length
  | 0 => rfl
  | i + 1 => by rw [sb5, List.length_set, sb5_len]
def rsfin (n : List UInt64) : List UInt64 := if gr n 15 then (sb5 n 17).1.set 16 ((sb5 n 17).1.getD 16 0 - 4) else n
def rsmall (d : List UInt64) : List UInt64 := rsfin (nn (pss d 4) 17).1
theorem rsmall_len (d : List UInt64) : (rsmall d).length = 17 := by
  unfold rsmall rsfin
  split
  · rw [List.length_set, sb5_len, nn_len]
  · rw [nn_len]
set_option maxHeartbeats 800000 in
/-- escutcheonref09.small -/
theorem rsmall_ (d : List UInt64) (hd : d.length = 34) : Good Try.prog 83 [.a (u64s d)] [] (sa (u64s (rsmall d))) [] := by
  refine good_frm 155 Try.func83 rfl rfl rfl rfl rfl rfl ?_
  refine awp_seq ?_
  refine rl ?_
  refine G (q_boxa ?_)
  refine G (q_al ?_)
  refine gend ?_
  refine awp_seq ?_
  refine awp_seq ?_
  refine rl ?_
  refine G (q_as (s := sc (cn 0)) ?_)
  refine gend ?_
  refine awp_block ?_
  refine awp_loop (fun x : {i : Nat // i ≤ 4} => ⟨frm 155 [(1, sc (.ptr 0 0)), (2, sc (.ptr 1 0)), (3, sc (cn x.1))], [some (u64s (pss d x.1)), some (u64s (List.replicate 17 0))]⟩) (fun x => 4 - x.1) ⟨0, Nat.zero_le _⟩ (sle_sub ⟨rfl, rfl, rfl, trivial⟩ rfl) fun x => ?_   -- live: [1, 3]
  have hp4 := (pss_len d x.1).trans hd
  refine awp_seq ?_
  refine awp_seq ?_
  refine rl ?_
  refine Mv ?_
  refine G (q_lssn (y := 4) ?_)
  refine gend ?_
  refine cnd (fun hc1 => ?_) (fun hc1 => ?_); rotate_left
  · refine awp_exit ?_
    rw [show x.1 = 4 from (by have := x.2; omega)]
    have hd4 := (pss_len d 4).trans hd
    generalize hD4 : pss d 4 = D4 at hd4 ⊢
    refine awp_seq ?_
    refine rl ?_
    refine G (q_al ?_)
    refine gend ?_
    refine awp_seq ?_
    refine rl ?_
    refine G (q_as (s := sc (c64 0)) ?_)
    refine gend ?_
    refine awp_seq ?_
    refine awp_seq ?_
    refine rl ?_
    refine G (q_as (s := sc (cn 0)) ?_)
    refine gend ?_
    refine awp_block ?_
    refine awp_loop (fun a : {i : Nat // i ≤ 17} => ⟨frm 155 [(1, sc (.ptr 0 0)), (2, sc (.ptr 1 0)), (10, sc (.ptr 2 0)), (11, sc (c64 (nn D4 a.1).2)), (12, sc (cn a.1))], [some (u64s D4), some (u64s (List.replicate 17 0)), some (u64s (nn D4 a.1).1)]⟩) (fun a => 17 - a.1) ⟨0, Nat.zero_le _⟩ (sle_sub ⟨rfl, rfl, rfl, rfl, rfl, trivial⟩ rfl) fun a => ?_   -- live: [1, 10, 11, 12]
    have hn := nn_len D4 a.1
    refine awp_seq ?_
    refine awp_seq ?_
    refine rl ?_
    refine Mv ?_
    refine G (q_lssn (y := 17) ?_)
    refine gend ?_
    refine cnd (fun hc2 => ?_) (fun hc2 => ?_); rotate_left
    · refine awp_exit ?_
      rw [show a.1 = 17 from (by have := a.2; omega)]
      have hn := nn_len D4 17
      generalize hM : (nn D4 17).1 = M at hn ⊢
      refine awp_mid ⟨frm 155 [(1, sc (.ptr 0 0)), (2, sc (.ptr 1 0)), (10, sc (.ptr 2 0)), (14, sc (.bool (g0 M)))], [some (u64s D4), some (u64s (List.replicate 17 0)), some (u64s M)]⟩ ?_ ?_
      · refine rl ?_
        refine G (q_ixp1 ?_)
        refine G (q_ldp ?_)
        refine G (q_eql64 (y := 3) ?_)
        refine Mv ?_
        refine Aspd 108 (fun hb4 => ?_) (fun hb4 => ?_)
        · refine Gg (q_ixp1 ?_)
          refine Gg (q_ldp ?_)
          refine Gg (q_geq64 (y := 251) ?_)
          refine G (q_pkt ?_)
          refine Mv ?_
          refine Aspd 113 (fun hb9 => ?_) (fun hb9 => ?_)
          · refine Gn ?_
            refine Gn ?_
            refine Gn ?_
            refine G (q_pkt ?_)
            refine As ?_
            refine gend ?_
            exact sle_sub ⟨rfl, rfl, rfl, congrArg (fun b => sc (.bool b)) (by unfold g0; generalize M.getD 16 0 = u at *; generalize M.getD 0 0 = v at *; simp [*]), trivial⟩ rfl
          refine Gg (q_ixp1 ?_)
          refine Gg (q_ldp ?_)
          refine Gg (q_gtr64 (y := 3) ?_)
          refine G (q_pkf ?_)
          refine As ?_
          refine gend ?_
          exact sle_sub ⟨rfl, rfl, rfl, congrArg (fun b => sc (.bool b)) (by unfold g0; generalize M.getD 16 0 = u at *; generalize M.getD 0 0 = v at *; simp [*]), trivial⟩ rfl
        refine Gn ?_
        refine Gn ?_
        refine Gn ?_
        refine G (q_pkf ?_)
        refine Mv ?_
        refine Gg (q_ixp1 ?_)
        refine Gg (q_ldp ?_)
        refine Gg (q_gtr64 (y := 3) ?_)
        refine G (q_pkf ?_)
        refine As ?_
        refine gend ?_
        exact sle_sub ⟨rfl, rfl, rfl, congrArg (fun b => sc (.bool b)) (by unfold g0; generalize M.getD 16 0 = u at *; generalize M.getD 0 0 = v at *; simp [*]), trivial⟩ rfl
      refine awp_seq ?_
      refine awp_seq ?_
      refine rl ?_
      refine G (q_as (s := sc (cn 1)) ?_)
      refine gend ?_
      refine awp_block ?_
      refine awp_loop (fun b : {i : Nat // i ≤ 15} => ⟨frm 155 [(1, sc (.ptr 0 0)), (2, sc (.ptr 1 0)), (10, sc (.ptr 2 0)), (14, sc (.bool (gr M b.1))), (15, sc (cn (1 + b.1)))], [some (u64s D4), some (u64s (List.replicate 17 0)), some (u64s M)]⟩) (fun b => 15 - b.1) ⟨0, Nat.zero_le _⟩ (sle_sub ⟨rfl, rfl, rfl, rfl, rfl, trivial⟩ rfl) fun b => ?_   -- live: [10, 14, 15]
      refine awp_seq ?_
      refine awp_seq ?_
      refine rl ?_
      refine Mv ?_
      refine G (q_lssn (y := 16) ?_)
      refine gend ?_
      refine cnd (fun hc3 => ?_) (fun hc3 => ?_); rotate_left
      · refine awp_exit ?_
        rw [show b.1 = 15 from (by have := b.2; omega)]
        refine awp_seq ?_
        refine awp_seq ?_
        refine rl ?_
        refine Mv ?_
        refine gend ?_
        refine cndb (fun hc4 => ?_) (fun hc4 => ?_)
        · refine awp_seq ?_
          refine rl ?_
          refine G (q_as (s := sc (c64 5)) ?_)
          refine gend ?_
          refine awp_seq ?_
          refine awp_seq ?_
          refine rl ?_
          refine G (q_as (s := sc (cn 0)) ?_)
          refine gend ?_
          refine awp_block ?_
          refine awp_loop (fun e : {i : Nat // i ≤ 17} => ⟨frm 155 [(1, sc (.ptr 0 0)), (2, sc (.ptr 1 0)), (10, sc (.ptr 2 0)), (11, sc (c64 (sb5 M e.1).2)), (16, sc (cn e.1))], [some (u64s D4), some (u64s (List.replicate 17 0)), some (u64s (sb5 M e.1).1)]⟩) (fun e => 17 - e.1) ⟨0, Nat.zero_le _⟩ (sle_sub ⟨rfl, rfl, rfl, rfl, rfl, trivial⟩ rfl) fun e => ?_   -- live: [10, 11, 16]
          have he := (sb5_len M e.1).trans hn
          refine awp_seq ?_
          refine awp_seq ?_
          refine rl ?_
          refine Mv ?_
          refine G (q_lssn (y := 17) ?_)
          refine gend ?_
          refine cnd (fun hc5 => ?_) (fun hc5 => ?_); rotate_left
          · refine awp_exit ?_
            rw [show e.1 = 17 from (by have := e.2; omega)]
            have he := (sb5_len M 17).trans hn
            generalize hE : (sb5 M 17).1 = E at he ⊢
            refine rl ?_
            refine G (q_ixp1 ?_)
            refine G (q_ldp ?_)
            refine G (q_sub64 (y := 4) ?_)
            refine G (q_ixp1 ?_)
            refine G0 (q_stm ?_)
            refine gend ?_
            refine awp_seq ?_
            refine rl ?_
            refine G (q_ldw  ?_ (hl := (mapc_length ..).trans (List.length_set.trans he)))
            refine G0 (q_stw  ?_ (hl := (mapc_length ..).trans (List.length_set.trans he)) (hc := (mapc_length ..).trans (List.length_replicate ..)))
            refine gend ?_
            refine awp_ret ?_
            exact fpc (t := 139) (a := 2) (hn := by simp only [mapc_length, List.length_set]; exact he) (hv := by rw [rsmall, hD4, hM, rsfin, if_pos hc4, hE])
          refine awp_skip ?_
          refine awp_seq ?_
          refine awp_block ?_
          refine awp_seq ?_
          refine rl ?_
          refine Mv ?_
          refine G (q_ixp1 ?_)
          refine G (q_ldp ?_)
          refine Mv ?_
          refine G (q_add64 ?_)
          refine As ?_
          refine gend ?_
          refine awp_seq ?_
          refine rl ?_
          refine Mv ?_
          refine Mv ?_
          refine G (q_rem64 (y := 256) ?_ (hz := by decide))
          refine G (q_ixp1 ?_)
          refine G0 (q_stm ?_)
          refine gend ?_
          refine rl ?_
          refine Mv ?_
          refine G (q_quo64 (y := 256) ?_ (hz := by decide))
          refine As ?_
          refine gend ?_
          refine rl ?_
          refine Mv ?_
          refine G (q_addn (y := 1) ?_)
          refine As ?_
          refine gend ?_
          exact ⟨⟨e.1 + 1, by omega⟩, by show 17 - (e.1 + 1) < 17 - e.1; omega, sle_sub ⟨rfl, rfl, rfl, rfl, rfl, trivial⟩ rfl⟩   -- endloop 4
        refine awp_skip ?_
        refine awp_seq ?_
        refine rl ?_
        refine G (q_ldw  ?_ (hl := (mapc_length ..).trans hn))
        refine G0 (q_stw  ?_ (hl := (mapc_length ..).trans hn) (hc := (mapc_length ..).trans (List.length_replicate ..)))
        refine gend ?_
        refine awp_ret ?_
        exact fpc (t := 139) (a := 2) (hn := by exact (mapc_length ..).trans hn) (hv := by rw [rsmall, hD4, hM, rsfin, if_neg (by rw [hc4]; decide)])
      refine awp_skip ?_
      refine awp_seq ?_
      refine awp_block ?_
      refine rl ?_
      refine Mv ?_
      refine Mv ?_
      refine Asp 123 (fun hb2 => ?_) (fun hb2 => ?_)
      · refine Gg (q_mv (s := .v (.c _)) ?_)
        refine Gg (q_ixp1 ?_)
        refine Gg (q_ldp ?_)
        refine Gg (q_eql64 (y := 255) ?_)
        refine Gg (q_mv (s := .v (.c _)) ?_)
        refine Aspd 128 (fun hb7 => ?_) (fun hb7 => ?_)
        · refine Gn ?_
          refine Gn ?_
          refine Gn ?_
          refine Gg (q_pkt ?_)
          refine G (q_pkt ?_)
          refine As ?_
          refine gend ?_
          refine rl ?_
          refine Mv ?_
          refine G (q_addn (y := 1) ?_)
          refine As ?_
          refine gend ?_
          exact ⟨⟨b.1 + 1, by omega⟩, by show 15 - (b.1 + 1) < 15 - b.1; omega, sle_sub ⟨rfl, rfl, rfl, congrArg (fun b => sc (.bool b)) (by show _ = gr M (b.1 + 1); rw [gr]; generalize gr M b.1 = p at *; generalize M.getD (1 + b.1) 0 = u at *; generalize M.getD 16 0 = v at *; simp [*]), rfl, trivial⟩ rfl⟩   -- endloop 3
        refine Gg (q_ixp1 ?_)
        refine Gg (q_ldp ?_)
        refine Gg (q_gtr64 (y := 3) ?_)
        refine Gg (q_pkf ?_)
        refine G (q_pkt ?_)
        refine As ?_
        refine gend ?_
        refine rl ?_
        refine Mv ?_
        refine G (q_addn (y := 1) ?_)
        refine As ?_
        refine gend ?_
        exact ⟨⟨b.1 + 1, by omega⟩, by show 15 - (b.1 + 1) < 15 - b.1; omega, sle_sub ⟨rfl, rfl, rfl, congrArg (fun b => sc (.bool b)) (by show _ = gr M (b.1 + 1); rw [gr]; generalize gr M b.1 = p at *; generalize M.getD (1 + b.1) 0 = u at *; generalize M.getD 16 0 = v at *; simp [*]), rfl, trivial⟩ rfl⟩   -- endloop 3
      refine Gn ?_
      refine Gn ?_
      refine Gn ?_
      refine Gn ?_
      refine Gn ?_
      refine Gu ?_
      refine Gu ?_
      refine Gu ?_
      refine Gn ?_
      refine G (q_pkf ?_)
      refine As ?_
      refine gend ?_
      refine rl ?_
      refine Mv ?_
      refine G (q_addn (y := 1) ?_)
      refine As ?_
      refine gend ?_
      exact ⟨⟨b.1 + 1, by omega⟩, by show 15 - (b.1 + 1) < 15 - b.1; omega, sle_sub ⟨rfl, rfl, rfl, congrArg (fun b => sc (.bool b)) (by show _ = gr M (b.1 + 1); rw [gr]; generalize gr M b.1 = p at *; generalize M.getD (1 + b.1) 0 = u at *; generalize M.getD 16 0 = v at *; simp [*]), rfl, trivial⟩ rfl⟩   -- endloop 3
    refine awp_skip ?_
    refine awp_seq ?_
    refine awp_block ?_
    refine awp_seq ?_
    refine rl ?_
    refine Mv ?_
    refine G (q_ixp1 ?_)
    refine G (q_ldp ?_)
    refine Mv ?_
    refine G (q_add64 ?_)
    refine As ?_
    refine gend ?_
    refine awp_seq ?_
    refine rl ?_
    refine Mv ?_
    refine Mv ?_
    refine G (q_rem64 (y := 256) ?_ (hz := by decide))
    refine G (q_ixp1 ?_)
    refine G0 (q_stm ?_)
    refine gend ?_
    refine rl ?_
    refine Mv ?_
    refine G (q_quo64 (y := 256) ?_ (hz := by decide))
    refine As ?_
    refine gend ?_
    refine rl ?_
    refine Mv ?_
    refine G (q_addn (y := 1) ?_)
    refine As ?_
    refine gend ?_
    exact ⟨⟨a.1 + 1, by omega⟩, by show 17 - (a.1 + 1) < 17 - a.1; omega, sle_sub ⟨rfl, rfl, rfl, rfl, rfl, trivial⟩ rfl⟩   -- endloop 2
  refine awp_skip ?_
  refine awp_seq ?_
  refine awp_block ?_
  refine awp_seq ?_
  refine rl ?_
  refine G (q_as (s := sc (c64 0)) ?_)
  refine gend ?_
  refine awp_seq ?_
  refine awp_seq ?_
  refine rl ?_
  refine G (q_as (s := sc (cn 0)) ?_)
  refine gend ?_
  refine awp_block ?_
  refine awp_loop (fun f : {i : Nat // i ≤ 34} => ⟨frm 155 [(1, sc (.ptr 0 0)), (2, sc (.ptr 1 0)), (3, sc (cn x.1)), (4, sc (c64 (nrm (pss d x.1) f.1).2)), (5, sc (cn f.1))], [some (u64s (nrm (pss d x.1) f.1).1), some (u64s (List.replicate 17 0))]⟩) (fun f => 34 - f.1) ⟨0, Nat.zero_le _⟩ (sle_sub ⟨rfl, rfl, rfl, rfl, rfl, trivial⟩ rfl) fun f => ?_   -- live: [1, 4, 5]
  have hf := (nrm_len (pss d x.1) f.1).trans hp4
  refine awp_seq ?_
  refine awp_seq ?_
  refine rl ?_
  refine Mv ?_
  refine G (q_lssn (y := 34) ?_)
  refine gend ?_
  refine cnd (fun hc6 => ?_) (fun hc6 => ?_); rotate_left
  · refine awp_exit ?_
    rw [show f.1 = 34 from (by have := f.2; omega)]
    have hf := (nrm_len (pss d x.1) 34).trans hp4
    generalize hE5 : (nrm (pss d x.1) 34).1 = E5 at hf ⊢
    refine awp_seq ?_
    refine rl ?_
    refine G (q_al ?_)
    refine gend ?_
    refine awp_seq ?_
    refine awp_seq ?_
    refine rl ?_
    refine G (q_as (s := sc (cn 16)) ?_)
    refine gend ?_
    refine awp_block ?_
    refine awp_loop (fun g : {i : Nat // i ≤ 18} => ⟨frm 155 [(1, sc (.ptr 0 0)), (2, sc (.ptr 1 0)), (3, sc (cn x.1)), (7, sc (.ptr 2 0)), (8, sc (cn (16 + g.1)))], [some (u64s (fld E5 g.1).1), some (u64s (List.replicate 17 0)), some (u64s (fld E5 g.1).2)]⟩) (fun g => 18 - g.1) ⟨0, Nat.zero_le _⟩ (sle_sub ⟨rfl, rfl, rfl, rfl, rfl, trivial⟩ rfl) fun g => ?_   -- live: [1, 7, 8]
    have hg1 := (fld_len E5 g.1).1.trans hf
    have hg2 := (fld_len E5 g.1).2
    refine awp_seq ?_
    refine awp_seq ?_
    refine rl ?_
    refine Mv ?_
    refine G (q_lssn (y := 34) ?_)
    refine gend ?_
    refine cnd (fun hc7 => ?_) (fun hc7 => ?_); rotate_left
    · refine awp_exit ?_
      rw [show g.1 = 18 from (by have := g.2; omega)]
      have hg1 := (fld_len E5 18).1.trans hf
      have hg2 := (fld_len E5 18).2
      generalize hF : (fld E5 18).1 = F at hg1 ⊢
      generalize hU : (fld E5 18).2 = U at hg2 ⊢
      refine awp_seq ?_
      refine rl ?_
      refine G (q_as (s := sc (cn 0)) ?_)
      refine gend ?_
      refine awp_block ?_
      refine awp_loop (fun h : {i : Nat // i ≤ 34} => ⟨frm 155 [(1, sc (.ptr 0 0)), (2, sc (.ptr 1 0)), (3, sc (cn x.1)), (7, sc (.ptr 2 0)), (9, sc (cn h.1))], [some (u64s (add5 F U h.1)), some (u64s (List.replicate 17 0)), some (u64s U)]⟩) (fun h => 34 - h.1) ⟨0, Nat.zero_le _⟩ (sle_sub ⟨rfl, rfl, rfl, rfl, rfl, trivial⟩ rfl) fun h => ?_   -- live: [1, 7, 9]
      have hh := (add5_len F U h.1).trans hg1
      refine awp_seq ?_
      refine awp_seq ?_
      refine rl ?_
      refine Mv ?_
      refine G (q_lssn (y := 34) ?_)
      refine gend ?_
      refine cnd (fun hc8 => ?_) (fun hc8 => ?_); rotate_left
      · refine awp_exit ?_
        rw [show h.1 = 34 from (by have := h.2; omega)]
        have hh := (add5_len F U 34).trans hg1
        have hps : pss d (x.1 + 1) = add5 F U 34 := by rw [pss, hE5, hF, hU]
        refine rl ?_
        refine Mv ?_
        refine G (q_addn (y := 1) ?_)
        refine As ?_
        refine gend ?_
        exact ⟨⟨x.1 + 1, by omega⟩, by show 4 - (x.1 + 1) < 4 - x.1; omega, sle_view [0, 1] (fun p h => absurd h (Nat.not_lt_zero _)) (by decide) ⟨rfl, rfl, rfl, trivial⟩ (vh2 (pick_m (congrArg (fun z => some (some (u64s z))) hps.symm)) (pick_m rfl))⟩   -- endloop 1
      refine awp_skip ?_
      refine awp_seq ?_
      refine awp_block ?_
      refine rdl [10] [] [0, 0, 0, 0, 0, 0, 0, 0, 0, 0, 1] ?_
      refine Dp (fun _ => q_mv (s := .v (.c _)) ⟨rfl, rfl⟩) ?_
      refine Dp (fun _ => q_mv (s := .v (.c _)) ⟨rfl, rfl⟩) ?_
      refine Dp (fun _ => q_ixp1 ⟨rfl, rfl⟩) ?_
      refine DLp ?_
      refine Dp (fun _ => q_mv (s := .v (.c _)) ⟨rfl, rfl⟩) ?_
      refine Dp (fun _ => q_ixp1 ⟨rfl, rfl⟩) ?_
      refine DLp ?_
      refine Dp (fun _ => q_mul64 (x := 5) ⟨rfl, rfl⟩) ?_
      refine Dp (fun _ => q_add64 ⟨rfl, rfl⟩) ?_
      refine Dp (fun _ => q_ixp1 ⟨rfl, rfl⟩) ?_
      refine De0 (q_stm (pw ?_))
      refine dend ?_
      refine rl ?_
      refine Mv ?_
      refine G (q_addn (y := 1) ?_)
      refine As ?_
      refine gend ?_
      exact ⟨⟨h.1 + 1, by omega⟩, by show 34 - (h.1 + 1) < 34 - h.1; omega, sle_sub ⟨rfl, rfl, rfl, rfl, rfl, trivial⟩ rfl⟩   -- endloop 7
    refine awp_skip ?_
    refine awp_seq ?_
    refine awp_block ?_
    refine awp_seq ?_
    refine rdl [12] [] [0, 0, 0, 0, 0, 0, 0, 0, 0, 0, 0, 0, 1] ?_
    refine Dp (fun _ => q_mv (s := .v (.c _)) ⟨rfl, rfl⟩) ?_
    refine Dp (fun _ => q_subn (y := 16) ⟨rfl, rfl⟩) ?_
    refine Dp (fun _ => q_mv (s := .v (.c _)) ⟨rfl, rfl⟩) ?_
    refine Dp (fun _ => q_subn (y := 16) ⟨rfl, rfl⟩) ?_
    refine Dp (fun _ => q_ixp1 ⟨rfl, rfl⟩) ?_
    refine DLp ?_
    refine Dp (fun _ => q_mv (s := .v (.c _)) ⟨rfl, rfl⟩) ?_
    refine Dp (fun _ => q_ixp1 ⟨rfl, rfl⟩) ?_
    refine DLp ?_
    refine Dp (fun _ => q_quo64 (y := 4) ⟨rfl, rfl⟩ (hz := by decide)) ?_
    refine Dp (fun _ => q_add64 ⟨rfl, rfl⟩) ?_
    refine Dp (fun _ => q_ixp1 ⟨rfl, rfl⟩) ?_
    refine De0 (q_stm (pw ?_))
    refine dend ?_
    refine awp_seq ?_
    refine rl ?_
    refine Mv ?_
    refine G (q_gtrn (y := 16) ?_)
    refine gend ?_
    refine cnd (fun hc9 => ?_) (fun hc9 => ?_)
    · refine awp_seq ?_
      refine rdl [13] [] [0, 0, 0, 0, 0, 0, 0, 0, 0, 0, 0, 0, 0, 1] ?_
      refine Dp (fun _ => q_mv (s := .v (.c _)) ⟨rfl, rfl⟩) ?_
      refine Dp (fun _ => q_subn (y := 17) ⟨rfl, rfl⟩) ?_
      refine Dp (fun _ => q_mv (s := .v (.c _)) ⟨rfl, rfl⟩) ?_
      refine Dp (fun _ => q_subn (y := 17) ⟨rfl, rfl⟩) ?_
      refine Dp (fun _ => q_ixp1 ⟨rfl, rfl⟩) ?_
      refine DLp ?_
      refine Dp (fun _ => q_mv (s := .v (.c _)) ⟨rfl, rfl⟩) ?_
      refine Dp (fun _ => q_ixp1 ⟨rfl, rfl⟩) ?_
      refine DLp ?_
      refine Dp (fun _ => q_rem64 (y := 4) ⟨rfl, rfl⟩ (hz := by decide)) ?_
      refine Dp (fun _ => q_mul64 (y := 64) ⟨rfl, rfl⟩) ?_
      refine Dp (fun _ => q_add64 ⟨rfl, rfl⟩) ?_
      refine Dp (fun _ => q_ixp1 ⟨rfl, rfl⟩) ?_
      refine De0 (q_stm (pw ?_))
      refine dend ?_
      refine rl ?_
      refine Mv ?_
      refine G (q_ixp1 ?_)
      refine G0 (q_stm (x := (0 : UInt64)) ?_)
      refine gend ?_
      refine rl ?_
      refine Mv ?_
      refine G (q_addn (y := 1) ?_)
      refine As ?_
      refine gend ?_
      exact ⟨⟨g.1 + 1, by omega⟩, by show 18 - (g.1 + 1) < 18 - g.1; omega, sle_sub ⟨rfl, rfl, rfl, rfl, rfl, trivial⟩ (by show _ = [some (u64s (fld E5 (g.1 + 1)).1), some (u64s (List.replicate 17 0)), some (u64s (fld E5 (g.1 + 1)).2)]; rw [fld]; first | (rw [if_pos (by assumption)]; rfl) | (rw [if_neg (by assumption)]; rfl))⟩   -- endloop 6
    refine rl ?_
    refine Mv ?_
    refine Mv ?_
    refine G (q_ixp1 ?_)
    refine G (q_ldp ?_)
    refine G (q_rem64 (y := 4) ?_ (hz := by decide))
    refine G (q_ixp1 ?_)
    refine G0 (q_stm ?_)
    refine gend ?_
    refine rl ?_
    refine Mv ?_
    refine G (q_addn (y := 1) ?_)
    refine As ?_
    refine gend ?_
    exact ⟨⟨g.1 + 1, by omega⟩, by show 18 - (g.1 + 1) < 18 - g.1; omega, sle_sub ⟨rfl, rfl, rfl, rfl, rfl, trivial⟩ (by show _ = [some (u64s (fld E5 (g.1 + 1)).1), some (u64s (List.replicate 17 0)), some (u64s (fld E5 (g.1 + 1)).2)]; rw [fld]; first | (rw [if_pos (by assumption)]; rfl) | (rw [if_neg (by assumption)]; rfl))⟩   -- endloop 6
  refine awp_skip ?_
  refine awp_seq ?_
  refine awp_block ?_
  refine awp_seq ?_
  refine rl ?_
  refine Mv ?_
  refine G (q_ixp1 ?_)
  refine G (q_ldp ?_)
  refine Mv ?_
  refine G (q_add64 ?_)
  refine As ?_
  refine gend ?_
  refine awp_seq ?_
  refine rl ?_
  refine Mv ?_
  refine Mv ?_
  refine G (q_rem64 (y := 256) ?_ (hz := by decide))
  refine G (q_ixp1 ?_)
  refine G0 (q_stm ?_)
  refine gend ?_
  refine rl ?_
  refine Mv ?_
  refine G (q_quo64 (y := 256) ?_ (hz := by decide))
  refine As ?_
  refine gend ?_
  refine rl ?_
  refine Mv ?_
  refine G (q_addn (y := 1) ?_)
  refine As ?_
  refine gend ?_
  exact ⟨⟨f.1 + 1, by omega⟩, by show 34 - (f.1 + 1) < 34 - f.1; omega, sle_sub ⟨rfl, rfl, rfl, rfl, rfl, trivial⟩ rfl⟩   -- endloop 5
theorem set_mod (l : List UInt64) (i : Nat) (h : i < l.length) (x : UInt64) (f : UInt64 → UInt64) : (l.set i x).set i (f ((l.set i x).getD i 0)) = l.set i (f x) := by
  have : (l.set i x).getD i 0 = x := by
    rw [List.getD_eq_getElem?_getD, List.getElem?_set, if_pos rfl, if_pos h]; rfl
  rw [this, List.set_set]
def rv1 (key : List UInt8) (i : Nat) : UInt64 := if i % 4 = 3 then (key.getD i 0).toUInt64 % 16 else (key.getD i 0).toUInt64
def rv (key : List UInt8) (i : Nat) : UInt64 := if i = 4 ∨ i = 8 ∨ i = 12 then rv1 key i / 4 * 4 else rv1 key i
def rr (key : List UInt8) : Nat → List UInt64
  | 0 => List.replicate 16 0
  | i + 1 => (rr key i).set i (rv key i)
theorem rr_len (key : List UInt8) : ∀ i, (rr key i).length = 16
  | 0 => by simp [rr]
  | i + 1 => by rw [rr, List.length_set, rr_len]
/-- Bytes are added. -/
def radd (a : List UInt64) (l : List UInt8) (q : Nat) : Nat → List UInt64
  | 0 => a
  | i + 1 => (radd a l q i).set i ((radd a l q i).getD i 0 + (l.getD (q + i) 0).toUInt64)
theorem radd_len (a : List UInt64) (l : List UInt8) (q : Nat) : ∀ i, (radd a l q i).length = a.length
  | 0 => rfl
  | i + 1 => by rw [radd, List.length_set, radd_len]
def pin (a r : List UInt64) (i : Nat) (d : List UInt64) : Nat → List UInt64
  | 0 => d
  | k + 1 => (pin a r i d k).set (i + k) ((pin a r i d k).getD (i + k) 0 + a.getD i 0 * r.getD k 0)
theorem pin_len (a r : List UInt64) (i : Nat) (d : List UInt64) : ∀ k, (pin a r i d k).length = d.length
  | 0 => rfl
  | k + 1 => by rw [pin, List.length_set, pin_len]
def pout (a r : List UInt64) : Nat → List UInt64
  | 0 => List.replicate 34 0
  | i + 1 => pin a r i (pout a r i) 16
theorem pout_len (a r : List UInt64) : ∀ k, (pout a r k).length = 34
  | 0 => by simp [pout]
  | k + 1 => by rw [pout, pin_len, pout_len]
def rblk (a : List UInt64) (l : List UInt8) (q k : Nat) : List UInt64 := (radd a l q k).set k ((radd a l q k).getD k 0 + 1)
def racc (l : List UInt8) (r : List UInt64) : Nat → List UInt64
  | 0 => List.replicate 17 0
  | j + 1 => rsmall (pout (rblk (racc l r j) l (16 * j) (min 16 (l.length - 16 * j))) r 17)
theorem racc_len (l : List UInt8) (r : List UInt64) : ∀ j, (racc l r j).length = 17
  | 0 => by simp [racc]
  | j + 1 => by rw [racc, rsmall_len]
def rob (a : List UInt64) (key : List UInt8) : Nat → List UInt8 × UInt64
  | 0 => (List.replicate 16 0, 0)
  | i + 1 => ((rob a key i).1.set i (a.getD i 0 + (key.getD (16 + i) 0).toUInt64 + (rob a key i).2).toUInt8, (a.getD i 0 + (key.getD (16 + i) 0).toUInt64 + (rob a key i).2) / 256)
theorem rob_len (a : List UInt64) (key : List UInt8) : ∀ i, (rob a key i).1.length = 16
  | 0 => by simp [rob]
  | i + 1 => by rw [rob, List.length_set, rob_len]
def rtag (key l : List UInt8) : List UInt8 := (rob (racc l (rr key 16) ((l.length + 15) / 16)) key 16).1
theorem rtag_len (key l : List UInt8) : (rtag key l).length = 16 := rob_len _ _ _
set_option maxHeartbeats 800000 in
/-- escutcheonref09.Tag -/
theorem rtag_ (key l : List UInt8) (n : Nat) (hkey : key.length = 32) (hl : l.length = n) (hn : n ≤ 100000) : Good Try.prog 69 [.a (u8s key), .c (.ro n (u8s l))] [] (sa (u8s (rtag key l))) [] := by
  refine good_frm 139 Try.func69 rfl rfl rfl rfl rfl rfl ?_
  refine awp_seq ?_
  refine rl ?_
  refine G (q_boxa ?_)
  refine G (q_al ?_)
  refine gend ?_
  refine awp_seq ?_
  refine rl ?_
  refine G (q_al ?_)
  refine gend ?_
  refine awp_seq ?_
  refine awp_seq ?_
  refine rl ?_
  refine G (q_as (s := sc (cn 0)) ?_)
  refine gend ?_
  refine awp_block ?_
  refine awp_loop (fun x : {i : Nat // i ≤ 16} => ⟨frm 139 [(1, sc (.ro n (u8s l))), (2, sc (.ptr 0 0)), (4, sc (.ptr 1 0)), (5, sc (.ptr 2 0)), (6, sc (cn x.1))], [some (u8s key), some (u8s (List.replicate 16 0)), some (u64s (rr key x.1))]⟩) (fun x => 16 - x.1) ⟨0, Nat.zero_le _⟩ (sle_sub ⟨rfl, rfl, rfl, rfl, rfl, trivial⟩ rfl) fun x => ?_   -- live: [2, 5, 6]
  have hr := rr_len key x.1
  refine awp_seq ?_
  refine awp_seq ?_
  refine rl ?_
  refine Mv ?_
  refine G (q_lssn (y := 16) ?_)
  refine gend ?_
  refine cnd (fun hc1 => ?_) (fun hc1 => ?_); rotate_left
  · refine awp_exit ?_
    rw [show x.1 = 16 from (by have := x.2; omega)]
    have hr := rr_len key 16
    generalize hR : rr key 16 = R at hr ⊢
    refine awp_seq ?_
    refine rl ?_
    refine G (q_al ?_)
    refine gend ?_
    refine awp_seq ?_
    refine awp_seq ?_
    refine rl ?_
    refine G (q_as (s := sc (cn 0)) ?_)
    refine gend ?_
    refine awp_block ?_
    refine awp_loop (fun j : {i : Nat // i ≤ (n + 15) / 16} => ⟨frm 139 [(1, sc (.ro n (u8s l))), (2, sc (.ptr 0 0)), (4, sc (.ptr 1 0)), (5, sc (.ptr 2 0)), (7, sc (.ptr 3 0)), (8, sc (cn (16 * j.1)))], [some (u8s key), some (u8s (List.replicate 16 0)), some (u64s R), some (u64s (racc l R j.1))]⟩) (fun j => (n + 15) / 16 - j.1) ⟨0, Nat.zero_le _⟩ (sle_sub ⟨rfl, rfl, rfl, rfl, rfl, rfl, trivial⟩ rfl) fun j => ?_
    have hac := racc_len l R j.1
    refine awp_seq ?_
    refine awp_seq ?_
    refine rl ?_
    refine Mv ?_
    refine Mv ?_
    refine G (q_leno ?_)
    refine G (q_lssn ?_)
    refine gend ?_
    refine cnd (fun hc2 => ?_) (fun hc2 => ?_); rotate_left
    · refine awp_exit ?_
      rw [show j.1 = (n + 15) / 16 from (by have := j.2; omega)]
      have hac := racc_len l R ((n + 15) / 16)
      generalize hA : racc l R ((n + 15) / 16) = A at hac ⊢
      refine awp_seq ?_
      refine rl ?_
      refine G (q_al ?_)
      refine gend ?_
      refine awp_seq ?_
      refine rl ?_
      refine G (q_as (s := sc (c64 0)) ?_)
      refine gend ?_
      refine awp_seq ?_
      refine awp_seq ?_
      refine rl ?_
      refine G (q_as (s := sc (cn 0)) ?_)
      refine gend ?_
      refine awp_block ?_
      refine awp_loop (fun y : {i : Nat // i ≤ 16} => ⟨frm 139 [(2, sc (.ptr 0 0)), (4, sc (.ptr 1 0)), (7, sc (.ptr 3 0)), (14, sc (.ptr 4 0)), (15, sc (c64 (rob A key y.1).2)), (16, sc (cn y.1))], [some (u8s key), some (u8s (List.replicate 16 0)), some (u64s R), some (u64s A), some (u8s (rob A key y.1).1)]⟩) (fun y => 16 - y.1) ⟨0, Nat.zero_le _⟩ (sle_sub ⟨rfl, rfl, rfl, rfl, rfl, rfl, trivial⟩ rfl) fun y => ?_   -- live: [2, 7, 14, 15, 16]
      have ho := rob_len A key y.1
      refine awp_seq ?_
      refine awp_seq ?_
      refine rl ?_
      refine Mv ?_
      refine G (q_lssn (y := 16) ?_)
      refine gend ?_
      refine cnd (fun hc3 => ?_) (fun hc3 => ?_); rotate_left
      · refine awp_exit ?_
        rw [show y.1 = 16 from (by have := y.2; omega)]
        have ho := rob_len A key 16
        refine awp_seq ?_
        refine rl ?_
        refine G (q_ldw  ?_ (hl := (mapc_length ..).trans ho))
        refine G0 (q_stw  ?_ (hl := (mapc_length ..).trans ho) (hc := (mapc_length ..).trans (List.length_replicate ..)))
        refine gend ?_
        refine awp_ret ?_
        exact fpc (t := 89) (a := 4) (hn := by exact (mapc_length ..).trans ho) (hv := by rw [rtag, hR, hl, hA])
      refine awp_skip ?_
      refine awp_seq ?_
      refine awp_block ?_
      refine awp_seq ?_
      refine rdl [] [] [] ?_
      refine Dp (fun _ => q_mv (s := .v (.c _)) ⟨rfl, rfl⟩) ?_
      refine Dp (fun _ => q_ixp1 ⟨rfl, rfl⟩) ?_
      refine DLp ?_
      refine Dp (fun _ => q_mv (s := .v (.c _)) ⟨rfl, rfl⟩) ?_
      refine Dp (fun _ => q_addn (x := 16) ⟨rfl, rfl⟩) ?_
      refine Dp (fun _ => q_ixp1 ⟨rfl, rfl⟩) ?_
      refine DLp ?_
      refine Dp (fun _ => q_cv8_64 ⟨rfl, rfl⟩) ?_
      refine Dp (fun _ => q_add64 ⟨rfl, rfl⟩) ?_
      refine Dp (fun _ => q_mv (s := .v (.c _)) ⟨rfl, rfl⟩) ?_
      refine Dp (fun _ => q_add64 ⟨rfl, rfl⟩) ?_
      refine Dp (fun _ => q_as (s := .v (.c _)) ⟨rfl, rfl⟩) ?_
      refine dend ?_
      refine awp_seq ?_
      refine rl ?_
      refine Mv ?_
      refine Mv ?_
      refine G (q_cv64_8 ?_)
      refine G (q_ixp1 ?_)
      refine G0 (q_stm ?_)
      refine gend ?_
      refine rl ?_
      refine Mv ?_
      refine G (q_quo64 (y := 256) ?_ (hz := by decide))
      refine As ?_
      refine gend ?_
      refine rl ?_
      refine Mv ?_
      refine G (q_addn (y := 1) ?_)
      refine As ?_
      refine gend ?_
      exact ⟨⟨y.1 + 1, by omega⟩, by show 16 - (y.1 + 1) < 16 - y.1; omega, sle_sub ⟨rfl, rfl, rfl, rfl, rfl, rfl, trivial⟩ rfl⟩   -- endloop 3
    refine awp_skip ?_
    refine awp_seq ?_
    refine awp_block ?_
    refine awp_seq ?_
    refine rl ?_
    refine Mv ?_
    refine G (q_leno ?_)
    refine Mv ?_
    refine G (q_subn ?_)
    refine As ?_
    refine gend ?_
    refine awp_mid ⟨frm 139 [(1, sc (.ro n (u8s l))), (2, sc (.ptr 0 0)), (4, sc (.ptr 1 0)), (5, sc (.ptr 2 0)), (7, sc (.ptr 3 0)), (8, sc (cn (16 * j.1))), (9, sc (cn (min 16 (n - 16 * j.1))))], [some (u8s key), some (u8s (List.replicate 16 0)), some (u64s R), some (u64s (racc l R j.1))]⟩ ?_ ?_
    · refine awp_seq ?_
      refine rl ?_
      refine Mv ?_
      refine G (q_gtrn (y := 16) ?_)
      refine gend ?_
      refine cnd (fun hc4 => ?_) (fun hc4 => ?_)
      · refine rl ?_
        refine G (q_as (s := sc (cn 16)) ?_)
        refine gend ?_
        exact sle_sub ⟨rfl, rfl, rfl, rfl, rfl, rfl, congrArg (fun i => sc (cn i)) (by omega), trivial⟩ rfl
      refine awp_skip ?_
      exact sle_sub ⟨rfl, rfl, rfl, rfl, rfl, rfl, congrArg (fun i => sc (cn i)) (by omega), trivial⟩ rfl
    refine awp_seq ?_
    refine awp_seq ?_
    refine rl ?_
    refine G (q_as (s := sc (cn 0)) ?_)
    refine gend ?_
    refine awp_block ?_
    refine awp_loop (fun a : {i : Nat // i ≤ (min 16 (n - 16 * j.1))} => ⟨frm 139 [(1, sc (.ro n (u8s l))), (2, sc (.ptr 0 0)), (4, sc (.ptr 1 0)), (5, sc (.ptr 2 0)), (7, sc (.ptr 3 0)), (8, sc (cn (16 * j.1))), (9, sc (cn (min 16 (n - 16 * j.1)))), (10, sc (cn a.1))], [some (u8s key), some (u8s (List.replicate 16 0)), some (u64s R), some (u64s (radd (racc l R j.1) l (16 * j.1) a.1))]⟩) (fun a => (min 16 (n - 16 * j.1)) - a.1) ⟨0, Nat.zero_le _⟩ (sle_sub ⟨rfl, rfl, rfl, rfl, rfl, rfl, rfl, rfl, trivial⟩ rfl) fun a => ?_   -- live: [1, 7, 8, 9, 10]
    have hradd := (radd_len (racc l R j.1) l (16 * j.1) a.1).trans hac
    refine awp_seq ?_
    refine awp_seq ?_
    refine rl ?_
    refine Mv ?_
    refine Mv ?_
    refine G (q_lssn ?_)
    refine gend ?_
    refine cnd (fun hc5 => ?_) (fun hc5 => ?_); rotate_left
    · refine awp_exit ?_
      rw [show a.1 = (min 16 (n - 16 * j.1)) from (by have := a.2; omega)]
      have hradd := (radd_len (racc l R j.1) l (16 * j.1) (min 16 (n - 16 * j.1))).trans hac
      refine awp_seq ?_
      refine rl ?_
      refine Mv ?_
      refine Mv ?_
      refine G (q_ixp1 ?_)
      refine G (q_ldp ?_)
      refine G (q_add64 (y := 1) ?_)
      refine G (q_ixp1 ?_)
      refine G0 (q_stm ?_)
      refine gend ?_
      refine awp_seq ?_
      refine rl ?_
      refine G (q_al ?_)
      refine gend ?_
      refine awp_seq ?_
      refine awp_seq ?_
      refine rl ?_
      refine G (q_as (s := sc (cn 0)) ?_)
      refine gend ?_
      refine awp_block ?_
      refine awp_loop (fun b : {i : Nat // i ≤ 17} => ⟨frm 139 [(1, sc (.ro n (u8s l))), (2, sc (.ptr 0 0)), (4, sc (.ptr 1 0)), (5, sc (.ptr 2 0)), (7, sc (.ptr 3 0)), (8, sc (cn (16 * j.1))), (11, sc (.ptr 4 0)), (12, sc (cn b.1))], [some (u8s key), some (u8s (List.replicate 16 0)), some (u64s R), some (u64s (rblk (racc l R j.1) l (16 * j.1) (min 16 (n - 16 * j.1)))), some (u64s (pout (rblk (racc l R j.1) l (16 * j.1) (min 16 (n - 16 * j.1))) R b.1))]⟩) (fun b => 17 - b.1) ⟨0, Nat.zero_le _⟩ (sle_sub ⟨rfl, rfl, rfl, rfl, rfl, rfl, rfl, rfl, trivial⟩ rfl) fun b => ?_   -- live: [5, 7, 11, 12]
      have hp34 := pout_len (rblk (racc l R j.1) l (16 * j.1) (min 16 (n - 16 * j.1))) R b.1
      have hrb : (rblk (racc l R j.1) l (16 * j.1) (min 16 (n - 16 * j.1))).length = 17 := List.length_set.trans hradd
      refine awp_seq ?_
      refine awp_seq ?_
      refine rl ?_
      refine Mv ?_
      refine G (q_lssn (y := 17) ?_)
      refine gend ?_
      refine cnd (fun hc6 => ?_) (fun hc6 => ?_); rotate_left
      · refine awp_exit ?_
        rw [show b.1 = 17 from (by have := b.2; omega)]
        have hp34 := pout_len (rblk (racc l R j.1) l (16 * j.1) (min 16 (n - 16 * j.1))) R 17
        have gS := rsmall_ (pout (rblk (racc l R j.1) l (16 * j.1) (min 16 (n - 16 * j.1))) R 17) hp34
        have hpa : racc l R (j.1 + 1) = rsmall (pout (rblk (racc l R j.1) l (16 * j.1) (min 16 (n - 16 * j.1))) R 17) := by rw [racc, hl]
        rw [← hpa] at gS
        have hA1 := racc_len l R (j.1 + 1)
        obtain ⟨A1, hA1e⟩ : ∃ A, racc l R (j.1 + 1) = A := ⟨_, rfl⟩
        rw [hA1e] at gS hA1
        generalize pout (rblk (racc l R j.1) l (16 * j.1) (min 16 (n - 16 * j.1))) R 17 = T at gS hp34 ⊢
        refine rl ?_
        refine G (q_ldw  ?_ (hl := (mapc_length ..).trans hp34))
        refine G (q_callp (gS/- escutcheon/escutcheonref09.small -/) ?_)
        refine G0 (q_stw  ?_ (hl := (mapc_length ..).trans hA1) (hc := (mapc_length ..).trans hrb))
        refine gend ?_
        refine rl ?_
        refine Mv ?_
        refine G (q_addn (y := 16) ?_)
        refine As ?_
        refine gend ?_
        exact ⟨⟨j.1 + 1, by omega⟩, by show (n + 15) / 16 - (j.1 + 1) < (n + 15) / 16 - j.1; omega, sle_view [0, 1, 2, 3] (fun p h => absurd h (Nat.not_lt_zero _)) (by decide) ⟨rs_ro, rfl, rfl, rfl, rfl, congrArg (fun i => sc (cn i)) (by show 16 * j.1 + 16 = 16 * (j.1 + 1); omega), trivial⟩ (vh4 (pick_m rfl) (pick_m rfl) (pick_m rfl) (pick_m (congrArg (fun z => some (some (u64s z))) hA1e.symm)))⟩   -- endloop 2
      refine awp_skip ?_
      refine awp_seq ?_
      refine awp_block ?_
      refine awp_seq ?_
      refine rl ?_
      refine G (q_as (s := sc (cn 0)) ?_)
      refine gend ?_
      refine awp_block ?_
      refine awp_loop (fun c : {i : Nat // i ≤ 16} => ⟨frm 139 [(1, sc (.ro n (u8s l))), (2, sc (.ptr 0 0)), (4, sc (.ptr 1 0)), (5, sc (.ptr 2 0)), (7, sc (.ptr 3 0)), (8, sc (cn (16 * j.1))), (11, sc (.ptr 4 0)), (12, sc (cn b.1)), (13, sc (cn c.1))], [some (u8s key), some (u8s (List.replicate 16 0)), some (u64s R), some (u64s (rblk (racc l R j.1) l (16 * j.1) (min 16 (n - 16 * j.1)))), some (u64s (pin (rblk (racc l R j.1) l (16 * j.1) (min 16 (n - 16 * j.1))) R b.1 (pout (rblk (racc l R j.1) l (16 * j.1) (min 16 (n - 16 * j.1))) R b.1) c.1))]⟩) (fun c => 16 - c.1) ⟨0, Nat.zero_le _⟩ (sle_sub ⟨rfl, rfl, rfl, rfl, rfl, rfl, rfl, rfl, rfl, trivial⟩ rfl) fun c => ?_   -- live: [5, 7, 11, 12, 13]
      have hpi := (pin_len (rblk (racc l R j.1) l (16 * j.1) (min 16 (n - 16 * j.1))) R b.1 (pout (rblk (racc l R j.1) l (16 * j.1) (min 16 (n - 16 * j.1))) R b.1) c.1).trans hp34
      refine awp_seq ?_
      refine awp_seq ?_
      refine rl ?_
      refine Mv ?_
      refine G (q_lssn (y := 16) ?_)
      refine gend ?_
      refine cnd (fun hc7 => ?_) (fun hc7 => ?_); rotate_left
      · refine awp_exit ?_
        rw [show c.1 = 16 from (by have := c.2; omega)]
        refine rl ?_
        refine Mv ?_
        refine G (q_addn (y := 1) ?_)
        refine As ?_
        refine gend ?_
        exact ⟨⟨b.1 + 1, by omega⟩, by show 17 - (b.1 + 1) < 17 - b.1; omega, sle_sub ⟨rfl, rfl, rfl, rfl, rfl, rfl, rfl, rfl, trivial⟩ rfl⟩   -- endloop 5
      refine awp_skip ?_
      refine awp_seq ?_
      refine awp_block ?_
      refine rdl [17] [] [0, 0, 0, 0, 0, 0, 0, 0, 0, 0, 0, 0, 0, 0, 0, 0, 0, 1] ?_
      refine Dp (fun _ => q_mv (s := .v (.c _)) ⟨rfl, rfl⟩) ?_
      refine Dp (fun _ => q_mv (s := .v (.c _)) ⟨rfl, rfl⟩) ?_
      refine Dp (fun _ => q_addn ⟨rfl, rfl⟩) ?_
      refine Dp (fun _ => q_mv (s := .v (.c _)) ⟨rfl, rfl⟩) ?_
      refine Dp (fun _ => q_mv (s := .v (.c _)) ⟨rfl, rfl⟩) ?_
      refine Dp (fun _ => q_addn ⟨rfl, rfl⟩) ?_
      refine Dp (fun _ => q_ixp1 ⟨rfl, rfl⟩) ?_
      refine DLp ?_
      refine Dp (fun _ => q_mv (s := .v (.c _)) ⟨rfl, rfl⟩) ?_
      refine Dp (fun _ => q_ixp1 ⟨rfl, rfl⟩) ?_
      refine DLp ?_
      refine Dp (fun _ => q_mv (s := .v (.c _)) ⟨rfl, rfl⟩) ?_
      refine Dp (fun _ => q_ixp1 ⟨rfl, rfl⟩) ?_
      refine DLp ?_
      refine Dp (fun _ => q_mul64 ⟨rfl, rfl⟩) ?_
      refine Dp (fun _ => q_add64 ⟨rfl, rfl⟩) ?_
      refine Dp (fun _ => q_ixp1 ⟨rfl, rfl⟩) ?_
      refine De0 (q_stm (pw ?_))
      refine dend ?_
      refine rl ?_
      refine Mv ?_
      refine G (q_addn (y := 1) ?_)
      refine As ?_
      refine gend ?_
      exact ⟨⟨c.1 + 1, by omega⟩, by show 16 - (c.1 + 1) < 16 - c.1; omega, sle_sub ⟨rfl, rfl, rfl, rfl, rfl, rfl, rfl, rfl, rfl, trivial⟩ rfl⟩   -- endloop 6
    refine awp_skip ?_
    refine awp_seq ?_
    refine awp_block ?_
    refine rdl [13] [] [0, 0, 0, 0, 0, 0, 0, 0, 0, 0, 0, 0, 0, 1] ?_
    refine Dp (fun _ => q_mv (s := .v (.c _)) ⟨rfl, rfl⟩) ?_
    refine Dp (fun _ => q_mv (s := .v (.c _)) ⟨rfl, rfl⟩) ?_
    refine Dp (fun _ => q_ixp1 ⟨rfl, rfl⟩) ?_
    refine DLp ?_
    refine Dp (fun _ => q_mv (s := .v (.c _)) ⟨rfl, rfl⟩) ?_
    refine Dp (fun _ => q_mv (s := .v (.c _)) ⟨rfl, rfl⟩) ?_
    refine Dp (fun _ => q_mv (s := .v (.c _)) ⟨rfl, rfl⟩) ?_
    refine Dp (fun _ => q_addn ⟨rfl, rfl⟩) ?_
    refine Dp (fun _ => q_ixo1 ⟨rfl, rfl⟩) ?_
    refine Dp (fun _ => q_ldrd ⟨rfl, rfl⟩) ?_
    refine Dp (fun _ => q_cv8_64 ⟨rfl, rfl⟩) ?_
    refine Dp (fun _ => q_add64 ⟨rfl, rfl⟩) ?_
    refine Dp (fun _ => q_ixp1 ⟨rfl, rfl⟩) ?_
    refine De0 (q_stm (pw ?_))
    refine dend ?_
    refine rl ?_
    refine Mv ?_
    refine G (q_addn (y := 1) ?_)
    refine As ?_
    refine gend ?_
    exact ⟨⟨a.1 + 1, by omega⟩, by show (min 16 (n - 16 * j.1)) - (a.1 + 1) < (min 16 (n - 16 * j.1)) - a.1; omega, sle_sub ⟨rfl, rfl, rfl, rfl, rfl, rfl, rfl, rfl, trivial⟩ rfl⟩   -- endloop 4
  refine awp_skip ?_
  refine awp_seq ?_
  refine awp_block ?_
  refine awp_seq ?_
  refine rl ?_
  refine Mv ?_
  refine Mv ?_
  refine G (q_ixp1 ?_)
  refine G (q_ldp ?_)
  refine G (q_cv8_64 ?_)
  refine G (q_ixp1 ?_)
  refine G0 (q_stm ?_)
  refine gend ?_
  refine awp_mid ⟨frm 139 [(1, sc (.ro n (u8s l))), (2, sc (.ptr 0 0)), (4, sc (.ptr 1 0)), (5, sc (.ptr 2 0)), (6, sc (cn x.1))], [some (u8s key), some (u8s (List.replicate 16 0)), some (u64s ((rr key x.1).set x.1 (rv1 key x.1)))]⟩ ?_ ?_
  · refine awp_seq ?_
    refine rl ?_
    refine Mv ?_
    refine G (q_remn (y := 4) ?_)
    refine G (q_eqln (y := 3) ?_)
    refine gend ?_
    refine cnd (fun hc8 => ?_) (fun hc8 => ?_)
    · refine rl ?_
      refine Mv ?_
      refine Mv ?_
      refine G (q_ixp1 ?_)
      refine G (q_ldp ?_)
      refine G (q_rem64 (y := 16) ?_ (hz := by decide))
      refine G (q_ixp1 ?_)
      refine G0 (q_stm ?_)
      refine gend ?_
      exact sle_sub ⟨rfl, rfl, rfl, rfl, rfl, trivial⟩ (congrArg (fun z => [some (u8s key), some (u8s (List.replicate 16 0)), some (u64s z)]) (by first | (rw [rv1, if_pos (by assumption)]; exact set_mod _ _ (by omega) _ (fun y => y % 16)) | rw [rv1, if_neg (by assumption)]))
    refine awp_skip ?_
    exact sle_sub ⟨rfl, rfl, rfl, rfl, rfl, trivial⟩ (congrArg (fun z => [some (u8s key), some (u8s (List.replicate 16 0)), some (u64s z)]) (by first | (rw [rv1, if_pos (by assumption)]; exact set_mod _ _ (by omega) _ (fun y => y % 16)) | rw [rv1, if_neg (by assumption)]))
  refine awp_mid ⟨frm 139 [(1, sc (.ro n (u8s l))), (2, sc (.ptr 0 0)), (4, sc (.ptr 1 0)), (5, sc (.ptr 2 0)), (6, sc (cn x.1)), (46, sc (.bool (decide (x.1 = 4 ∨ x.1 = 8 ∨ x.1 = 12))))], [some (u8s key), some (u8s (List.replicate 16 0)), some (u64s ((rr key x.1).set x.1 (rv1 key x.1)))]⟩ ?_ ?_
  · refine rl ?_
    refine Mv ?_
    refine G (q_eqln (y := 4) ?_)
    refine Mv ?_
    refine Aspd 39 (fun hb3 => ?_) (fun hb3 => ?_)
    · refine Gn ?_
      refine Gn ?_
      refine G (q_pkt ?_)
      refine Mv ?_
      refine Gn ?_
      refine Gn ?_
      refine G (q_pkt ?_)
      refine gend ?_
      exact sle_sub ⟨rfl, rfl, rfl, rfl, rfl, congrArg (fun b => sc (.bool b)) (by simp [*]), trivial⟩ rfl
    refine Gg (q_mv (s := .v (.c _)) ?_)
    refine Gg (q_eqln (y := 8) ?_)
    refine G (q_pkf ?_)
    refine Mv ?_
    refine Aspd 43 (fun hb7 => ?_) (fun hb7 => ?_)
    · refine Gn ?_
      refine Gn ?_
      refine G (q_pkt ?_)
      refine gend ?_
      exact sle_sub ⟨rfl, rfl, rfl, rfl, rfl, congrArg (fun b => sc (.bool b)) (by simp [*]), trivial⟩ rfl
    refine Gg (q_mv (s := .v (.c _)) ?_)
    refine Gg (q_eqln (y := 12) ?_)
    refine G (q_pkf ?_)
    refine gend ?_
    exact sle_sub ⟨rfl, rfl, rfl, rfl, rfl, congrArg (fun b => sc (.bool b)) (by simp [*]), trivial⟩ rfl
  refine cndb (fun hc9 => ?_) (fun hc9 => ?_)
  · refine rl ?_
    refine Mv ?_
    refine Mv ?_
    refine G (q_ixp1 ?_)
    refine G (q_ldp ?_)
    refine G (q_quo64 (y := 4) ?_ (hz := by decide))
    refine G (q_mul64 (y := 4) ?_)
    refine G (q_ixp1 ?_)
    refine G0 (q_stm ?_)
    refine gend ?_
    refine rl ?_
    refine Mv ?_
    refine G (q_addn (y := 1) ?_)
    refine As ?_
    refine gend ?_
    exact ⟨⟨x.1 + 1, by omega⟩, by show 16 - (x.1 + 1) < 16 - x.1; omega, sle_sub ⟨rfl, rfl, rfl, rfl, rfl, trivial⟩ (congrArg (fun z => [some (u8s key), some (u8s (List.replicate 16 0)), some (u64s z)]) (by rw [rr, rv]; first | (rw [if_pos (of_decide_eq_true (by assumption))]; exact set_mod _ _ (by omega) _ (fun y => y / 4 * 4)) | rw [if_neg (of_decide_eq_false (by assumption))]))⟩   -- endloop 1
  refine awp_skip ?_
  refine rl ?_
  refine Mv ?_
  refine G (q_addn (y := 1) ?_)
  refine As ?_
  refine gend ?_
  exact ⟨⟨x.1 + 1, by omega⟩, by show 16 - (x.1 + 1) < 16 - x.1; omega, sle_sub ⟨rfl, rfl, rfl, rfl, rfl, trivial⟩ (congrArg (fun z => [some (u8s key), some (u8s (List.replicate 16 0)), some (u64s z)]) (by rw [rr, rv]; first | (rw [if_pos (of_decide_eq_true (by assumption))]; exact set_mod _ _ (by omega) _ (fun y => y / 4 * 4)) | rw [if_neg (of_decide_eq_false (by assumption))]))⟩   -- endloop 1
end Go.Proofs.Ytlnepajgnckolaa.Po

/- The reference's numbers of base 256. -/
namespace Go.Proofs.Ytlnepajgnckolaa.Po
open Go Go.Abs Go.Proofs

/-- The number of the first digits. -/
def Dv (d : List UInt64) : Nat → Nat
  | 0 => 0
  | i + 1 => Dv d i + 256 ^ i * (d.getD i 0).toNat
theorem getD_set (d : List UInt64) (i j : Nat) (x : UInt64) (h : i < d.length) : (d.set i x).getD j 0 = if i = j then x else d.getD j 0 := by
  simp only [List.getD_eq_getElem?_getD, List.getElem?_set]
  by_cases e : i = j
  · subst e; simp [h]
  · simp [e]
theorem Dv_congr {d e : List UInt64} : ∀ n, (∀ i, i < n → d.getD i 0 = e.getD i 0) → Dv d n = Dv e n
  | 0, _ => rfl
  | n + 1, h => by rw [Dv, Dv, Dv_congr n fun i hi => h i (by omega), h n (by omega)]
theorem Dv_set (d : List UInt64) (i : Nat) (x : UInt64) (h : i < d.length) : ∀ n, i < n → Dv (d.set i x) n + 256 ^ i * (d.getD i 0).toNat = Dv d n + 256 ^ i * x.toNat
  | 0, hn => by omega
  | n + 1, hn => by
    rw [Dv, Dv]
    by_cases e : i = n
    · subst e
      rw [getD_set d i i x h, if_pos rfl, Dv_congr (e := d) i fun j hj => by rw [getD_set d i j x h, if_neg (by omega)]]
      omega
    · have := Dv_set d i x h n (by omega)
      rw [getD_set d i n x h, if_neg e]
      omega
theorem Dv_ge (d : List UInt64) (i : Nat) : ∀ n, i < n → 256 ^ i * (d.getD i 0).toNat ≤ Dv d n
  | 0, h => by omega
  | n + 1, h => by
    rw [Dv]
    by_cases e : i = n
    · subst e; omega
    · have := Dv_ge d i n (by omega); omega
theorem Dv_lt (d : List UInt64) : ∀ n, (∀ i, i < n → (d.getD i 0).toNat < 256) → Dv d n < 256 ^ n
  | 0, _ => by simp [Dv]
  | n + 1, h => by
    have h1 := Dv_lt d n fun i hi => h i (by omega)
    have h2 := h n (by omega)
    have h3 : 256 ^ n * (d.getD n 0).toNat ≤ 256 ^ n * 255 := Nat.mul_le_mul_left _ (by omega)
    rw [Dv, Nat.pow_succ]; omega
theorem Dv_zero (m : Nat) : ∀ n, Dv (List.replicate m 0) n = 0
  | 0 => rfl
  | n + 1 => by
    rw [Dv, Dv_zero m n]
    have : (List.replicate m (0 : UInt64)).getD n 0 = 0 := by
      rw [List.getD_eq_getElem?_getD, List.getElem?_replicate]; split <;> rfl
    rw [this]; rfl
theorem rep_get (m n : Nat) : (List.replicate m (0 : UInt64)).getD n 0 = 0 := by
  rw [List.getD_eq_getElem?_getD, List.getElem?_replicate]; split <;> rfl
/-- Digits that are no great ones. -/
def Bd (d : List UInt64) (b : Nat) : Prop := ∀ i, (d.getD i 0).toNat ≤ b
theorem mod256 (x : UInt64) : (x % 256).toNat = x.toNat % 256 := by rw [UInt64.toNat_mod]; rfl
theorem div256 (x : UInt64) : (x / 256).toNat = x.toNat / 256 := by rw [UInt64.toNat_div]; rfl
theorem nrm_spec (d : List UInt64) (hb : Bd d 9223372036854775808) : ∀ i, i ≤ d.length → (∀ j, i ≤ j → (nrm d i).1.getD j 0 = d.getD j 0) ∧ (∀ j, j < i → ((nrm d i).1.getD j 0).toNat < 256) ∧
    (nrm d i).2.toNat ≤ 72057594037927936 ∧ Dv d i = Dv (nrm d i).1 i + 256 ^ i * (nrm d i).2.toNat
  | 0, _ => ⟨fun _ _ => rfl, fun j h => by omega, by show (0 : UInt64).toNat ≤ _; decide, by simp [Dv, nrm]⟩
  | i + 1, hi => by
    obtain ⟨h1, h2, h3, h4⟩ := nrm_spec d hb i (by omega)
    have hl := nrm_len d i
    have e := h1 i (Nat.le_refl _)
    have hd := hb i
    have hx : ((nrm d i).1.getD i 0 + (nrm d i).2).toNat = (d.getD i 0).toNat + (nrm d i).2.toNat := by
      rw [e, UInt64.toNat_add]; omega
    rw [nrm]
    refine ⟨fun j hj => ?_, fun j hj => ?_, ?_, ?_⟩
    · rw [getD_set _ _ _ _ (by omega), if_neg (by omega)]; exact h1 j (by omega)
    · rw [getD_set _ _ _ _ (by omega)]
      split
      · rw [mod256]; omega
      · exact h2 j (by omega)
    · rw [div256, hx]; omega
    · rw [Dv, h4, Dv, getD_set _ _ _ _ (by omega), if_pos rfl, mod256, div256, hx, Nat.pow_succ, Nat.mul_assoc,
        Dv_congr (d := (nrm d i).1.set i (((nrm d i).1.getD i 0 + (nrm d i).2) % 256)) (e := (nrm d i).1) i fun j hj => by rw [getD_set _ _ _ _ (by omega), if_neg (by omega)]]
      generalize (nrm d i).2.toNat = c
      generalize (d.getD i 0).toNat = u
      have : 256 ^ i * ((u + c) % 256) + 256 ^ i * (256 * ((u + c) / 256)) = 256 ^ i * (u + c) := by rw [← Nat.mul_add, Nat.mod_add_div]
      rw [Nat.mul_add] at this
      omega
theorem fld_spec (d : List UInt64) (hl : d.length = 34) (hb : Bd d 255) : ∀ j, j ≤ 18 →
    Dv (fld d j).1 34 + 1361129467683753853853498429727072845824 * Dv (fld d j).2 34 = Dv d 34 ∧ (∀ k, 16 + j ≤ k → (fld d j).1.getD k 0 = d.getD k 0) ∧
      (∀ k, 16 < k → k < 16 + j → (fld d j).1.getD k 0 = 0) ∧ (0 < j → ((fld d j).1.getD 16 0).toNat < 4) ∧ Bd (fld d j).1 255 ∧ Bd (fld d j).2 255 ∧
      (∀ k, j ≤ k → (fld d j).2.getD k 0 = 0) ∧ (∀ k, k + 1 = j → ((fld d j).2.getD k 0).toNat ≤ 63)
  | 0, _ => ⟨by rw [fld, Dv_zero]; rfl, fun _ _ => rfl, fun k h h' => by omega, fun h => by omega, hb, fun i => by rw [fld, rep_get]; decide, fun k _ => by rw [fld, rep_get], fun k h => by omega⟩
  | j + 1, hj => by
    obtain ⟨h1, h2, h3, h4, h5, h6, h7, h8⟩ := fld_spec d hl hb j (by omega)
    obtain ⟨l1, l2⟩ := fld_len d j
    have hd := hb (16 + j)
    have e := h2 (16 + j) (Nat.le_refl _)
    have u0 := h7 j (Nat.le_refl _)
    have q4 : ((fld d j).1.getD (16 + j) 0 / 4).toNat = (d.getD (16 + j) 0).toNat / 4 := by rw [e, UInt64.toNat_div]; rfl
    have m4 : ((fld d j).1.getD (16 + j) 0 % 4).toNat = (d.getD (16 + j) 0).toNat % 4 := by rw [e, UInt64.toNat_mod]; rfl
    have hj16 : 16 + j - 16 = j := by omega
    have uu : ((fld d j).2.getD j 0 + (fld d j).1.getD (16 + j) 0 / 4).toNat = (d.getD (16 + j) 0).toNat / 4 := by
      rw [u0, UInt64.toNat_add, q4]
      have : UInt64.toNat 0 = 0 := rfl
      rw [this]; omega
    have p130 : (1361129467683753853853498429727072845824 : Nat) = 256 ^ 16 * 4 := by decide
    rw [fld]
    split
    · rename_i hlt
      obtain ⟨t, rfl⟩ : ∃ t, j = t + 1 := ⟨j - 1, by omega⟩
      have ht := h8 t rfl
      have hjt : 16 + (t + 1) - 17 = t := by omega
      rw [hj16, hjt]
      simp only
      generalize hA : (fld d (t + 1)).1 = A at *
      generalize hU : (fld d (t + 1)).2 = U at *
      have g1 : (U.set (t + 1) (U.getD (t + 1) 0 + A.getD (16 + (t + 1)) 0 / 4)).getD t 0 = U.getD t 0 := by rw [getD_set _ _ _ _ (by omega), if_neg (by omega)]
      have vv : ((U.set (t + 1) (U.getD (t + 1) 0 + A.getD (16 + (t + 1)) 0 / 4)).getD t 0 + A.getD (16 + (t + 1)) 0 % 4 * 64).toNat = (U.getD t 0).toNat + (d.getD (16 + (t + 1)) 0).toNat % 4 * 64 := by
        rw [g1, UInt64.toNat_add, UInt64.toNat_mul, m4]
        have : UInt64.toNat 64 = 64 := rfl
        rw [this]; omega
      have z : UInt64.toNat 0 = 0 := rfl
      refine ⟨?_, fun k hk => ?_, fun k hk hk' => ?_, fun _ => ?_, fun k => ?_, fun k => ?_, fun k hk => ?_, fun k hk => ?_⟩
      · have s1 := Dv_set A (16 + (t + 1)) 0 (by omega) 34 (by omega)
        have s2 := Dv_set U (t + 1) (U.getD (t + 1) 0 + A.getD (16 + (t + 1)) 0 / 4) (by omega) 34 (by omega)
        have s3 := Dv_set (U.set (t + 1) (U.getD (t + 1) 0 + A.getD (16 + (t + 1)) 0 / 4)) t ((U.set (t + 1) (U.getD (t + 1) 0 + A.getD (16 + (t + 1)) 0 / 4)).getD t 0 + A.getD (16 + (t + 1)) 0 % 4 * 64) (by rw [List.length_set]; omega) 34 (by omega)
        generalize (U.set (t + 1) (U.getD (t + 1) 0 + A.getD (16 + (t + 1)) 0 / 4)).set t ((U.set (t + 1) (U.getD (t + 1) 0 + A.getD (16 + (t + 1)) 0 / 4)).getD t 0 + A.getD (16 + (t + 1)) 0 % 4 * 64) = U2 at s3 ⊢
        rw [vv, g1, Nat.mul_add] at s3
        generalize U.set (t + 1) (U.getD (t + 1) 0 + A.getD (16 + (t + 1)) 0 / 4) = U1 at s2 s3
        generalize A.set (16 + (t + 1)) 0 = A1 at s1 ⊢
        rw [uu, u0, z, Nat.mul_zero, Nat.add_zero] at s2
        rw [e, z, Nat.mul_zero, Nat.add_zero] at s1
        have w : 256 ^ (16 + (t + 1)) * (d.getD (16 + (t + 1)) 0).toNat = 1361129467683753853853498429727072845824 * (256 ^ (t + 1) * ((d.getD (16 + (t + 1)) 0).toNat / 4)) + 1361129467683753853853498429727072845824 * (256 ^ t * ((d.getD (16 + (t + 1)) 0).toNat % 4 * 64)) := by
          generalize (d.getD (16 + (t + 1)) 0).toNat = x
          have e1 : (256 : Nat) ^ (16 + (t + 1)) = 340282366920938463463374607431768211456 * (256 * 256 ^ t) := by
            rw [Nat.pow_add, show (256 : Nat) ^ 16 = 340282366920938463463374607431768211456 by decide, Nat.pow_succ']
          rw [e1, Nat.pow_succ']
          generalize 256 ^ t = P
          have key : P * x = 4 * (P * (x / 4)) + P * (x % 4) := by rw [Nat.mul_left_comm, ← Nat.mul_add, Nat.div_add_mod]
          have k1 : P * (x % 4 * 64) = 64 * (P * (x % 4)) := by rw [Nat.mul_comm (x % 4), Nat.mul_left_comm]
          rw [k1, Nat.mul_assoc, Nat.mul_assoc, Nat.mul_assoc, key]
          omega
        omega
      · rw [getD_set _ _ _ _ (by omega), if_neg (by omega)]; exact h2 k (by omega)
      · rw [getD_set _ _ _ _ (by omega)]
        split
        · rfl
        · exact h3 k hk (by omega)
      · rw [getD_set _ _ _ _ (by omega), if_neg (by omega)]; exact h4 (by omega)
      · rw [getD_set _ _ _ _ (by omega)]
        split
        · decide
        · exact h5 k
      · rw [getD_set _ _ _ _ (by rw [List.length_set]; omega)]
        split
        · rw [vv]; omega
        · rw [getD_set _ _ _ _ (by omega)]
          split
          · rw [uu]; omega
          · exact h6 k
      · rw [getD_set _ _ _ _ (by rw [List.length_set]; omega), if_neg (by omega), getD_set _ _ _ _ (by omega), if_neg (by omega)]; exact h7 k (by omega)
      · have : k = t + 1 := by omega
        subst this
        rw [getD_set _ _ _ _ (by rw [List.length_set]; omega), if_neg (by omega), getD_set _ _ _ _ (by omega), if_pos rfl, uu]; omega
    · have hj0 : j = 0 := by omega
      subst hj0
      rw [hj16]
      simp only
      generalize hA : (fld d 0).1 = A at *
      generalize hU : (fld d 0).2 = U at *
      have z : UInt64.toNat 0 = 0 := rfl
      refine ⟨?_, fun k hk => ?_, fun k hk hk' => by omega, fun _ => ?_, fun k => ?_, fun k => ?_, fun k hk => ?_, fun k hk => ?_⟩
      · have s1 := Dv_set A (16 + 0) (A.getD (16 + 0) 0 % 4) (by omega) 34 (by omega)
        have s2 := Dv_set U 0 (U.getD 0 0 + A.getD (16 + 0) 0 / 4) (by omega) 34 (by omega)
        generalize U.set 0 (U.getD 0 0 + A.getD (16 + 0) 0 / 4) = U1 at s2 ⊢
        generalize A.set (16 + 0) (A.getD (16 + 0) 0 % 4) = A1 at s1 ⊢
        rw [uu, u0, z, Nat.mul_zero, Nat.add_zero] at s2
        rw [m4, e] at s1
        omega
      · rw [getD_set _ _ _ _ (by omega), if_neg (by omega)]; exact h2 k (by omega)
      · rw [getD_set _ _ _ _ (by omega), if_pos rfl, m4]; omega
      · rw [getD_set _ _ _ _ (by omega)]
        split
        · rw [m4]; omega
        · exact h5 k
      · rw [getD_set _ _ _ _ (by omega)]
        split
        · rw [uu]; omega
        · exact h6 k
      · rw [getD_set _ _ _ _ (by omega), if_neg (by omega)]; exact h7 k (by omega)
      · have : k = 0 := by omega
        subst this
        rw [getD_set _ _ _ _ (by omega), if_pos rfl, uu]; omega
theorem add5_spec (d u : List UInt64) (hl : d.length = 34) (hd : Bd d 255) (hu : Bd u 255) : ∀ i, i ≤ 34 → (∀ j, i ≤ j → (add5 d u i).getD j 0 = d.getD j 0) ∧ Bd (add5 d u i) 1530 ∧ Dv (add5 d u i) 34 = Dv d 34 + 5 * Dv u i
  | 0, _ => ⟨fun _ _ => rfl, fun i => Nat.le_trans (hd i) (by decide), by simp [add5, Dv]⟩
  | i + 1, hi => by
    obtain ⟨h1, h2, h3⟩ := add5_spec d u hl hd hu i (by omega)
    have hl' := (add5_len d u i).trans hl
    have e := h1 i (Nat.le_refl _)
    have b1 := hd i
    have b2 := hu i
    have hx : ((add5 d u i).getD i 0 + 5 * u.getD i 0).toNat = (d.getD i 0).toNat + 5 * (u.getD i 0).toNat := by
      rw [e, UInt64.toNat_add, UInt64.toNat_mul, show UInt64.toNat 5 = 5 from rfl]; omega
    rw [add5]
    refine ⟨fun j hj => ?_, fun j => ?_, ?_⟩
    · rw [getD_set _ _ _ _ (by omega), if_neg (by omega)]; exact h1 j (by omega)
    · rw [getD_set _ _ _ _ (by omega)]
      split
      · rw [hx]; omega
      · exact h2 j
    · have s := Dv_set (add5 d u i) i ((add5 d u i).getD i 0 + 5 * u.getD i 0) (by omega) 34 (by omega)
      have hd' : Dv u (i + 1) = Dv u i + 256 ^ i * (u.getD i 0).toNat := rfl
      generalize (add5 d u i).set i ((add5 d u i).getD i 0 + 5 * u.getD i 0) = N at s ⊢
      rw [hx, e, h3, Nat.mul_add, Nat.mul_left_comm] at s
      rw [hd', Nat.mul_add]
      omega
end Go.Proofs.Ytlnepajgnckolaa.Po

/- What the bytes of marks come to, as numbers. -/
namespace Go.Proofs.Ytlnepajgnckolaa.Po
open Go Go.Abs Go.Proofs

/-- The number of the first bytes, the lowest first. -/
def Fv (f : Nat → UInt8) : Nat → Nat
  | 0 => 0
  | i + 1 => Fv f i + 256 ^ i * (f i).toNat
theorem Fv_lt (f : Nat → UInt8) : ∀ n, Fv f n < 256 ^ n
  | 0 => by simp [Fv]
  | n + 1 => by
    have h1 := Fv_lt f n
    have h2 := (f n).toNat_lt
    have h3 : 256 ^ n * (f n).toNat ≤ 256 ^ n * 255 := Nat.mul_le_mul_left _ (by omega)
    rw [Fv, Nat.pow_succ]; omega
theorem Fv_congr {f h : Nat → UInt8} : ∀ n, (∀ i, i < n → f i = h i) → Fv f n = Fv h n
  | 0, _ => rfl
  | n + 1, e => by rw [Fv, Fv, Fv_congr n fun i hi => e i (by omega), e n (by omega)]
theorem Fv_add (f : Nat → UInt8) (a : Nat) : ∀ b, Fv f (a + b) = Fv f a + 256 ^ a * Fv (fun i => f (a + i)) b
  | 0 => by simp [Fv]
  | b + 1 => by
    rw [← Nat.add_assoc, Fv, Fv_add f a b, Fv, Nat.pow_add, Nat.mul_add, Nat.mul_assoc]
    omega
theorem Fv_digit (f : Nat → UInt8) (n i : Nat) (h : i < n) : Fv f n / 256 ^ i % 256 = (f i).toNat := by
  obtain ⟨b, rfl⟩ : ∃ b, n = i + (1 + b) := ⟨n - i - 1, by omega⟩
  rw [Fv_add, Fv_add (fun j => f (i + j)) 1 b]
  have h1 := Fv_lt f i
  have hp : 0 < 256 ^ i := Nat.pow_pos (by decide)
  have h2 := (f i).toNat_lt
  have e : Fv (fun j => f (i + j)) 1 = (f i).toNat := by simp [Fv]
  rw [e, Nat.add_comm, Nat.mul_add_div hp, Nat.div_eq_of_lt h1]
  omega
theorem Fv_inj {l m : List UInt8} {n : Nat} (hl : l.length = n) (hm : m.length = n) (h : Fv (fun i => l.getD i 0) n = Fv (fun i => m.getD i 0) n) : l = m := by
  refine List.ext_getElem (by omega) fun i h1 h2 => ?_
  have e1 := Fv_digit (fun i => l.getD i 0) n i (by omega)
  have e2 := Fv_digit (fun i => m.getD i 0) n i (by omega)
  rw [h, e2] at e1
  have := UInt8.toNat_inj.1 e1
  simpa [List.getD_eq_getElem?_getD, h1, h2] using this.symm
/-- A sum's digits. -/
def byt (x : UInt64) (i : Nat) : UInt8 := (shr64n x (8 * i)).toUInt8
theorem byt_nat (x : UInt64) (i : Nat) (h : i < 8) : (byt x i).toNat = x.toNat / 256 ^ i % 256 := by
  unfold byt
  rw [UInt64.toNat_toUInt8, shr_nat x (8 * i) (by omega), Nat.pow_mul]
theorem Fv_byt (x : UInt64) : ∀ n, n ≤ 8 → Fv (byt x) n = x.toNat % 256 ^ n
  | 0, _ => by simp [Fv, Nat.mod_one]
  | n + 1, h => by rw [Fv, Fv_byt x n (by omega), byt_nat x n (by omega), Nat.mod_pow_succ]
theorem outb_eq (lo hi : UInt64) : outb lo hi 8 = [byt lo 0, byt lo 1, byt lo 2, byt lo 3, byt lo 4, byt lo 5, byt lo 6, byt lo 7, byt hi 0, byt hi 1, byt hi 2, byt hi 3, byt hi 4, byt hi 5, byt hi 6, byt hi 7] := rfl
theorem Fv_outb (lo hi : UInt64) : Fv (fun i => (outb lo hi 8).getD i 0) 16 = lo.toNat + 2 ^ 64 * hi.toNat := by
  rw [show (16 : Nat) = 8 + 8 from rfl, Fv_add, outb_eq]
  have e1 : Fv (fun i => [byt lo 0, byt lo 1, byt lo 2, byt lo 3, byt lo 4, byt lo 5, byt lo 6, byt lo 7, byt hi 0, byt hi 1, byt hi 2, byt hi 3, byt hi 4, byt hi 5, byt hi 6, byt hi 7].getD i 0) 8 = Fv (byt lo) 8 := rfl
  have e2 : Fv (fun i => [byt lo 0, byt lo 1, byt lo 2, byt lo 3, byt lo 4, byt lo 5, byt lo 6, byt lo 7, byt hi 0, byt hi 1, byt hi 2, byt hi 3, byt hi 4, byt hi 5, byt hi 6, byt hi 7].getD (8 + i) 0) 8 = Fv (byt hi) 8 := rfl
  rw [e1, e2, Fv_byt _ 8 (by decide), Fv_byt _ 8 (by decide)]
  have h1 := lo.toNat_lt
  have h2 := hi.toNat_lt
  rw [Nat.mod_eq_of_lt h1, Nat.mod_eq_of_lt h2]
theorem hf_nat (l : List UInt8) : ∀ i, i ≤ 8 → (hf l i).toNat = Fv (fun i => l.getD i 0) i
  | 0, _ => rfl
  | i + 1, h => by
    have ih := hf_nat l i (by omega)
    have hlt := Fv_lt (fun i => l.getD i 0) i
    have hb := (l.getD i 0).toNat_lt
    rw [hf, UInt64.toNat_or, ih, Fv]
    have e : (shl64n (l.getD i 0).toUInt64 (8 * i)).toNat = (l.getD i 0).toNat <<< (8 * i) := by
      rw [shl64n_lt _ _ (by omega), UInt64.toNat_shiftLeft]
      have : (UInt64.ofNat (8 * i)).toNat % 64 = 8 * i := by
        rw [UInt64.toNat_ofNat_of_lt' (by rw [show UInt64.size = 2 ^ 64 from rfl]; omega), Nat.mod_eq_of_lt (by omega)]
      rw [this, UInt8.toNat_toUInt64, Nat.shiftLeft_eq]
      refine Nat.mod_eq_of_lt ?_
      have h1 : 2 ^ (8 * i) ≤ 2 ^ 56 := Nat.pow_le_pow_right (by decide) (by omega)
      calc (l.getD i 0).toNat * 2 ^ (8 * i) ≤ 255 * 2 ^ 56 := Nat.mul_le_mul (by omega) h1
        _ < 2 ^ 64 := by decide
    rw [e, Nat.or_comm, ← Nat.shiftLeft_add_eq_or_of_lt (by rw [Nat.pow_mul]; exact hlt), Nat.shiftLeft_eq, Nat.pow_mul, Nat.mul_comm (l.getD i 0).toNat, Nat.add_comm]
theorem half_nat (l : List UInt8) : (half l).toNat = Fv (fun i => l.getD i 0) 8 := by
  rw [half, hf_nat _ 8 (by decide)]
  refine Fv_congr 8 fun i hi => ?_
  simp only [List.getD_eq_getElem?_getD, List.getElem?_take, hi, if_true]
theorem kq_get (key : List UInt8) (q i : Nat) (hi : i < 8) (hq : q + 8 ≤ 32) : (kq key q).getD i 0 = key.getD (q + i) 0 := by
  simp only [kq, List.getD_eq_getElem?_getD, List.getElem?_take, List.getElem?_drop, Nat.mul_one, Nat.zero_add]
  rw [if_pos (by omega)]
/-- The mark as a number. -/
theorem fin2_nat (a : List UInt64) (key : List UInt8) : Fv (fun i => (fin2 a key).getD i 0) 16 = ((a.getD 0 0).toNat + 2 ^ 64 * (a.getD 1 0).toNat + Fv (fun i => key.getD (16 + i) 0) 16) % 2 ^ 128 := by
  rw [fin2, Fv_outb, show (16 : Nat) = 8 + 8 from rfl, Fv_add]
  have e1 : (half (kq key 16)).toNat = Fv (fun i => key.getD (8 + 8 + i) 0) 8 := by
    rw [half_nat]; exact Fv_congr 8 fun i hi => kq_get key 16 i hi (by decide)
  have e2 : (half (kq key 24)).toNat = Fv (fun i => key.getD (8 + 8 + (8 + i)) 0) 8 := by
    rw [half_nat]; refine Fv_congr 8 fun i hi => (kq_get key 24 i hi (by decide)).trans ?_
    show key.getD (24 + i) 0 = key.getD (16 + (8 + i)) 0
    rw [← Nat.add_assoc]
  rw [← e1, ← e2]
  have h1 := (a.getD 0 0).toNat_lt
  have h2 := (a.getD 1 0).toNat_lt
  have h3 := (half (kq key 16)).toNat_lt
  have h4 := (half (kq key 24)).toNat_lt
  generalize half (kq key 16) = x at *
  generalize half (kq key 24) = y at *
  generalize a.getD 0 0 = u at *
  generalize a.getD 1 0 = v at *
  simp only [UInt64.toNat_add, UInt64.toNat_zero, Nat.add_zero]
  unfold addc
  simp only [UInt64.toNat_zero, Nat.add_zero]
  split
  · have : UInt64.toNat 1 = 1 := rfl
    rw [this]; omega
  · rw [UInt64.toNat_zero]; omega
end Go.Proofs.Ytlnepajgnckolaa.Po

/- The steps of a mark, as numbers modulo 2^130 - 5. -/
namespace Go.Proofs.Ytlnepajgnckolaa.Po
open Go Go.Abs Go.Proofs

/-- Three words as a number. -/
def V3 (l : List UInt64) : Nat := (l.getD 0 0).toNat + 18446744073709551616 * (l.getD 1 0).toNat + 340282366920938463463374607431768211456 * (l.getD 2 0).toNat
theorem row2 (x r0 r1 u v : UInt64) :
    (x * r0 + u + 0 + 0 + 0).toNat + 18446744073709551616 * (x * r1 + v + 0 + (mulhi x r0 + addc (x * r0) u 0 + addc (x * r0 + u + 0) 0 0) + 0).toNat +
      340282366920938463463374607431768211456 * (mulhi x r1 + addc (x * r1) v 0 + addc (x * r1 + v + 0) (mulhi x r0 + addc (x * r0) u 0 + addc (x * r0 + u + 0) 0 0) 0).toNat =
      x.toNat * (r0.toNat + 18446744073709551616 * r1.toNat) + u.toNat + 18446744073709551616 * v.toNat := by
  have h1 := row_eq x r0 u 0
  have h2 := row_eq x r1 v (mulhi x r0 + addc (x * r0) u 0 + addc (x * r0 + u + 0) 0 0)
  generalize mulhi x r0 + addc (x * r0) u 0 + addc (x * r0 + u + 0) 0 0 = h0 at *
  have z : UInt64.toNat 0 = 0 := rfl
  rw [z] at h1
  have e : x.toNat * (r0.toNat + 18446744073709551616 * r1.toNat) = x.toNat * r0.toNat + 18446744073709551616 * (x.toNat * r1.toNat) := by rw [Nat.mul_add, Nat.mul_left_comm]
  rw [e]
  omega
theorem tout_eq (a0 a1 a2 r0 r1 : UInt64) : ∃ w0 w1 w2 w3 w4 : UInt64, tout [a0, a1, a2] [r0, r1] 3 = [w0, w1, w2, w3, w4] ∧
    w0.toNat + 18446744073709551616 * w1.toNat + 340282366920938463463374607431768211456 * (w2.toNat + 18446744073709551616 * w3.toNat + 340282366920938463463374607431768211456 * w4.toNat) = (a0.toNat + 18446744073709551616 * a1.toNat + 340282366920938463463374607431768211456 * a2.toNat) * (r0.toNat + 18446744073709551616 * r1.toNat) := by
  have e0 := row2 a0 r0 r1 0 0
  obtain ⟨l0, l1, h, q0⟩ : ∃ l0 l1 h, tout [a0, a1, a2] [r0, r1] 1 = [l0, l1, h, 0, 0] ∧ l0.toNat + 18446744073709551616 * l1.toNat + 340282366920938463463374607431768211456 * h.toNat = a0.toNat * (r0.toNat + 18446744073709551616 * r1.toNat) :=
    ⟨_, _, _, rfl, by simp only [UInt64.toNat_zero, Nat.mul_zero, Nat.add_zero] at e0; exact e0⟩
  obtain ⟨q0, p0⟩ := q0
  have e1 := row2 a1 r0 r1 l1 h
  obtain ⟨m0, m1, h', q1, p1⟩ : ∃ m0 m1 h', tout [a0, a1, a2] [r0, r1] 2 = [l0, m0, m1, h', 0] ∧ m0.toNat + 18446744073709551616 * m1.toNat + 340282366920938463463374607431768211456 * h'.toNat = a1.toNat * (r0.toNat + 18446744073709551616 * r1.toNat) + l1.toNat + 18446744073709551616 * h.toNat :=
    ⟨_, _, _, by rw [tout, q0]; rfl, e1⟩
  have e2 := row2 a2 r0 r1 m1 h'
  obtain ⟨n0, n1, h'', q2, p2⟩ : ∃ n0 n1 h'', tout [a0, a1, a2] [r0, r1] 3 = [l0, m0, n0, n1, h''] ∧ n0.toNat + 18446744073709551616 * n1.toNat + 340282366920938463463374607431768211456 * h''.toNat = a2.toNat * (r0.toNat + 18446744073709551616 * r1.toNat) + m1.toNat + 18446744073709551616 * h'.toNat :=
    ⟨_, _, _, by rw [tout, q1]; rfl, e2⟩
  refine ⟨l0, m0, n0, n1, h'', q2, ?_⟩
  rw [Nat.add_mul, Nat.add_mul, Nat.mul_assoc 18446744073709551616, Nat.mul_assoc (340282366920938463463374607431768211456)]
  generalize a0.toNat * (r0.toNat + 18446744073709551616 * r1.toNat) = x at *
  generalize a1.toNat * (r0.toNat + 18446744073709551616 * r1.toNat) = y at *
  generalize a2.toNat * (r0.toNat + 18446744073709551616 * r1.toNat) = z at *
  omega
theorem or62 (x y : UInt64) : (shr64n x 2 ||| shl64n y 62).toNat = x.toNat / 4 + y.toNat % 4 * 4611686018427387904 := by
  have hx := x.toNat_lt
  rw [UInt64.toNat_or, shr_nat x 2 (by decide), shl64n_lt _ _ (by decide), UInt64.toNat_shiftLeft]
  have e : y.toNat <<< ((UInt64.ofNat 62).toNat % 64) % 2 ^ 64 = (y.toNat % 4) <<< 62 := by
    rw [show (UInt64.ofNat 62).toNat % 64 = 62 from rfl, Nat.shiftLeft_eq, Nat.shiftLeft_eq]
    omega
  rw [e, Nat.or_comm, ← Nat.shiftLeft_add_eq_or_of_lt (by omega), Nat.shiftLeft_eq]
  omega
theorem and3 (x : UInt64) : (x &&& 3).toNat = x.toNat % 4 := by
  rw [UInt64.toNat_and]; exact Nat.and_two_pow_sub_one_eq_mod x.toNat 2
theorem fold_eq (w0 w1 w2 w3 w4 : UInt64) : V3 (low [w0, w1, w2, w3, w4]) + 1361129467683753853853498429727072845824 * V3 (upw [w0, w1, w2, w3, w4]) = w0.toNat + 18446744073709551616 * w1.toNat + 340282366920938463463374607431768211456 * (w2.toNat + 18446744073709551616 * w3.toNat + 340282366920938463463374607431768211456 * w4.toNat) ∧
    V3 (low [w0, w1, w2, w3, w4]) < 1361129467683753853853498429727072845824 := by
  have h0 := w0.toNat_lt
  have h1 := w1.toNat_lt
  have h2 := w2.toNat_lt
  have h3 := w3.toNat_lt
  have h4 := w4.toNat_lt
  simp only [V3, low, upw, List.getD_cons_zero, List.getD_cons_succ, or62, and3, shr_nat _ 2 (show 2 < 64 by decide)]
  omega
theorem addp_eq (o : List UInt64) (ho : o.length = 3) (u : Nat → UInt64) : V3 (addp o u 3).1 + 6277101735386680763835789423207666416102355444464034512896 * (addp o u 3).2.toNat = V3 o + (u 0).toNat + 18446744073709551616 * (u 1).toNat + 340282366920938463463374607431768211456 * (u 2).toNat := by
  obtain ⟨o0, o1, o2, rfl⟩ : ∃ o0 o1 o2, o = [o0, o1, o2] := by
    match o, ho with
    | [a, b, c], _ => exact ⟨a, b, c, rfl⟩
  have h0 := addc_eq (x := o0) (y := u 0) (c := 0) (by decide)
  have h1 := addc_eq (x := o1) (y := u 1) (c := addc o0 (u 0) 0) (addc_le ..)
  have h2 := addc_eq (x := o2) (y := u 2) (c := addc o1 (u 1) (addc o0 (u 0) 0)) (addc_le ..)
  have z : UInt64.toNat 0 = 0 := rfl
  rw [z] at h0
  have e : addp [o0, o1, o2] u 3 = ([o0 + u 0 + 0, o1 + u 1 + addc o0 (u 0) 0, o2 + u 2 + addc o1 (u 1) (addc o0 (u 0) 0)], addc o2 (u 2) (addc o1 (u 1) (addc o0 (u 0) 0))) := rfl
  rw [e]
  simp only [V3, List.getD_cons_zero, List.getD_cons_succ]
  omega
theorem V3_lt (l : List UInt64) : V3 l < 6277101735386680763835789423207666416102355444464034512896 := by
  have h0 := (l.getD 0 0).toNat_lt
  have h1 := (l.getD 1 0).toNat_lt
  have h2 := (l.getD 2 0).toNat_lt
  unfold V3
  omega
theorem addk_eq (o u : List UInt64) (ho : o.length = 3) (h : V3 o + 5 * V3 u < 6277101735386680763835789423207666416102355444464034512896) : ∀ k, k ≤ 5 → V3 (addk o u k) = V3 o + k * V3 u
  | 0, _ => by simp [addk]
  | k + 1, hk => by
    have ih := addk_eq o u ho h k (by omega)
    have e := addp_eq (addk o u k) ((addk_len o u k).trans ho) (fun i => u.getD i 0)
    have hu : V3 u = (u.getD 0 0).toNat + 18446744073709551616 * (u.getD 1 0).toNat + 340282366920938463463374607431768211456 * (u.getD 2 0).toNat := rfl
    rw [addk]
    have hk5 : k * V3 u + V3 u ≤ 5 * V3 u := by rw [← Nat.succ_mul]; exact Nat.mul_le_mul_right _ (by omega)
    rw [Nat.succ_mul]
    generalize (addp (addk o u k) (fun i => u.getD i 0) 3).2.toNat = c at *
    generalize V3 (addp (addk o u k) (fun i => u.getD i 0) 3).1 = v at *
    have : V3 (addk o u k) + V3 u < 6277101735386680763835789423207666416102355444464034512896 := by omega
    have hc : c = 0 := by omega
    omega
theorem list3 {l : List UInt64} (h : l.length = 3) : ∃ a b c, l = [a, b, c] := by
  match l, h with
  | [a, b, c], _ => exact ⟨a, b, c, rfl⟩
theorem list2 {l : List UInt64} (h : l.length = 2) : ∃ a b, l = [a, b] := by
  match l, h with
  | [a, b], _ => exact ⟨a, b, rfl⟩
/-- A product, modulo 2^130 - 5. -/
theorem times_eq (a r : List UInt64) (ha : a.length = 3) (hr : r.length = 2) (h1 : V3 a < 2722258935367507707706996859454145691648) (h2 : (r.getD 0 0).toNat + 18446744073709551616 * (r.getD 1 0).toNat < 21267647932558653966460912964485513216) :
    V3 (times a r) % 1361129467683753853853498429727072845819 = V3 a * ((r.getD 0 0).toNat + 18446744073709551616 * (r.getD 1 0).toNat) % 1361129467683753853853498429727072845819 ∧ V3 (times a r) < 2722258935367507707706996859454145691648 := by
  obtain ⟨a0, a1, a2, rfl⟩ := list3 ha
  obtain ⟨r0, r1, rfl⟩ := list2 hr
  obtain ⟨w0, w1, w2, w3, w4, e, hw⟩ := tout_eq a0 a1 a2 r0 r1
  obtain ⟨f1, f2⟩ := fold_eq w0 w1 w2 w3 w4
  rw [hw] at f1
  have hV : V3 [a0, a1, a2] = a0.toNat + 18446744073709551616 * a1.toNat + 340282366920938463463374607431768211456 * a2.toNat := rfl
  simp only [List.getD_cons_zero, List.getD_cons_succ] at h2 ⊢
  rw [← hV] at f1
  have hb : V3 [a0, a1, a2] * (r0.toNat + 18446744073709551616 * r1.toNat) ≤ 2722258935367507707706996859454145691647 * 21267647932558653966460912964485513215 := Nat.mul_le_mul (by omega) (by omega)
  have hU : V3 (upw [w0, w1, w2, w3, w4]) < 42535295865117307932921825928971026432 := by omega
  have hk := addk_eq (low [w0, w1, w2, w3, w4]) (upw [w0, w1, w2, w3, w4]) rfl (by omega) 5 (by decide)
  rw [times, e, hk]
  generalize V3 (low [w0, w1, w2, w3, w4]) = L at *
  generalize V3 (upw [w0, w1, w2, w3, w4]) = U at *
  generalize V3 [a0, a1, a2] * (r0.toNat + 18446744073709551616 * r1.toNat) = M at *
  constructor
  · have : M = L + 5 * U + 1361129467683753853853498429727072845819 * U := by omega
    rw [this, Nat.add_mul_mod_self_left]
  · omega
theorem sst_eq (a : List UInt64) (ha : a.length = 3) (h : V3 a < 21778071482940061661655974875633165533184) :
    ∃ L U, V3 a = L + 1361129467683753853853498429727072845824 * U ∧ L < 1361129467683753853853498429727072845824 ∧ U < 16 ∧ V3 (sst a) = L + 5 * U := by
  obtain ⟨a0, a1, a2, rfl⟩ := list3 ha
  have h0 := a0.toNat_lt
  have h1 := a1.toNat_lt
  have h2 := a2.toNat_lt
  simp only [V3, List.getD_cons_zero, List.getD_cons_succ] at h
  have h64 : a2.toNat < 64 := by omega
  have e5 : (5 * shr64n a2 2).toNat = 5 * (a2.toNat / 4) := by
    rw [UInt64.toNat_mul, shr_nat a2 2 (by decide), show UInt64.toNat 5 = 5 from rfl]; omega
  have c0 := addc_eq (x := a0) (y := 5 * shr64n a2 2) (c := 0) (by decide)
  have c1 := addc_eq (x := a1) (y := 0) (c := addc a0 (5 * shr64n a2 2) 0) (addc_le ..)
  have k2 := addc_le a1 0 (addc a0 (5 * shr64n a2 2) 0)
  have z : UInt64.toNat 0 = 0 := rfl
  rw [z] at c0 c1
  rw [e5] at c0
  have e : sst [a0, a1, a2] = [a0 + 5 * shr64n a2 2 + 0, a1 + 0 + addc a0 (5 * shr64n a2 2) 0, (a2 &&& 3) + addc a1 0 (addc a0 (5 * shr64n a2 2) 0)] := rfl
  have e3 : ((a2 &&& 3) + addc a1 0 (addc a0 (5 * shr64n a2 2) 0)).toNat = a2.toNat % 4 + (addc a1 0 (addc a0 (5 * shr64n a2 2) 0)).toNat := by
    rw [UInt64.toNat_add, and3]; omega
  refine ⟨a0.toNat + 18446744073709551616 * a1.toNat + 340282366920938463463374607431768211456 * (a2.toNat % 4), a2.toNat / 4, ?_, ?_, ?_, ?_⟩
  · simp only [V3, List.getD_cons_zero, List.getD_cons_succ]; omega
  · omega
  · omega
  · rw [e]
    simp only [V3, List.getD_cons_zero, List.getD_cons_succ, e3]
    generalize (addc a1 0 (addc a0 (5 * shr64n a2 2) 0)).toNat = u at *
    generalize (addc a0 (5 * shr64n a2 2) 0).toNat = v at *
    omega
theorem small_eq (a : List UInt64) (ha : a.length = 3) (h : V3 a < 21778071482940061661655974875633165533184) : V3 (small a) = V3 a % 1361129467683753853853498429727072845819 := by
  obtain ⟨L, U, e1, e2, e3, e4⟩ := sst_eq a ha h
  obtain ⟨L', U', f1, f2, f3, f4⟩ := sst_eq (sst a) ((sst_len a).trans ha) (by omega)
  have hs : V3 (ssts a 2) = L' + 5 * U' := f4
  have hl : (ssts a 2).length = 3 := (ssts_len a 2).trans ha
  have hmod : V3 a % 1361129467683753853853498429727072845819 = V3 (ssts a 2) % 1361129467683753853853498429727072845819 := by
    have : V3 a = V3 (ssts a 2) + 1361129467683753853853498429727072845819 * (U + U') := by omega
    rw [this, Nat.add_mul_mod_self_left]
  have hlt : V3 (ssts a 2) < 1361129467683753853853498429727072845824 := by omega
  rw [hmod, small]
  generalize ssts a 2 = s at *
  obtain ⟨s0, s1, s2, rfl⟩ := list3 hl
  have b1 := subb_eq (x := s0) (y := 18446744073709551611) (c := 0) (by decide)
  have b2 := subb_eq (x := s1) (y := 18446744073709551615) (c := sb1 [s0, s1, s2]) (subb_le ..)
  have b3 := subb_eq (x := s2) (y := 3) (c := sb2 [s0, s1, s2]) (subb_le ..)
  have z : UInt64.toNat 0 = 0 := rfl
  have z1 : UInt64.toNat 18446744073709551611 = 18446744073709551611 := rfl
  have z2 : UInt64.toNat 18446744073709551615 = 18446744073709551615 := rfl
  have z3 : UInt64.toNat 3 = 3 := rfl
  rw [z, z1] at b1
  rw [z2] at b2
  rw [z3] at b3
  have g1 : sb1 [s0, s1, s2] = subb s0 18446744073709551611 0 := rfl
  have g2 : sb2 [s0, s1, s2] = subb s1 18446744073709551615 (sb1 [s0, s1, s2]) := rfl
  have g3 : sb3 [s0, s1, s2] = subb s2 3 (sb2 [s0, s1, s2]) := rfl
  have l3 := subb_le s2 3 (sb2 [s0, s1, s2])
  rw [← g1] at b1
  rw [← g2] at b2
  rw [← g3] at b3 l3
  have es : slt [s0, s1, s2] = [s0 - 18446744073709551611 - 0, s1 - 18446744073709551615 - sb1 [s0, s1, s2], s2 - 3 - sb2 [s0, s1, s2]] := rfl
  have hv : V3 (slt [s0, s1, s2]) + 1361129467683753853853498429727072845819 = V3 [s0, s1, s2] + 6277101735386680763835789423207666416102355444464034512896 * (sb3 [s0, s1, s2]).toNat := by
    rw [es]
    simp only [V3, List.getD_cons_zero, List.getD_cons_succ]
    omega
  have hb := V3_lt (slt [s0, s1, s2])
  have h2p : V3 [s0, s1, s2] < 2 * 1361129467683753853853498429727072845819 := by omega
  unfold sfin
  split
  · rename_i h0
    rw [h0, z] at hv
    rw [Nat.mod_eq_sub_mod (by omega), Nat.mod_eq_of_lt (by omega)]
    omega
  · rename_i h0
    have : (sb3 [s0, s1, s2]).toNat ≠ 0 := fun e => h0 (UInt64.toNat_inj.1 e)
    rw [Nat.mod_eq_of_lt (by omega)]
end Go.Proofs.Ytlnepajgnckolaa.Po


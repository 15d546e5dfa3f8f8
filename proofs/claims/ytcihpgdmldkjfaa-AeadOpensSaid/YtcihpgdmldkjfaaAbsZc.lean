/- The abstract machine: an empty slice as a block of its own; memory looked at anew. -/
import Derived.Test.YtcihpgdmldkjfaaAbsZb
namespace Go.Abs
open Go

/-- What stands between two pieces of code is told in these words, however it was come by. -/
theorem awp_mid {P : Program} {n : Nat} {x y : Code} {Q : Exit → St → Prop} {st : St} (st0 : St) (h1 : AWp P n x (then_ (fun s => SLe n s st0) Q) st) (h2 : AWp P n y Q st0) : AWp P n (.seq x y) Q st := by
  refine awp_seq fun E ρ a w hE hs => wp_mono (h1 E ρ a w hE hs) ?_
  rintro e a' w' ⟨st', ρ', k1, k2, k3⟩
  refine ⟨st', ρ', ?_, k2, k3⟩
  cases e with
  | normal => exact awp_le k1 h2
  | _ => exact k1
/-- Nothing at all may be told as an empty slice of this block. -/
def SubE (q sz : Nat) (al : List (Nat × S)) : List (Nat × S) → Prop
  | [] => True
  | (t, s) :: r => (lkp al t = s ∨ (lkp al t = sc .nils ∧ s = sc (.slc q 0 0 sz))) ∧ SubE q sz al r

theorem sube_get {q sz : Nat} {al : List (Nat × S)} : ∀ {al' : List (Nat × S)}, SubE q sz al al' → ∀ t, lkp al' t = ud ∨ lkp al' t = lkp al t ∨ (lkp al t = sc .nils ∧ lkp al' t = sc (.slc q 0 0 sz))
  | [], _, _ => .inl rfl
  | (i, s) :: r, h, t => by
    simp only [SubE] at h
    simp only [lkp]
    cases hb : Nat.beq i t with
    | true =>
      have := Nat.eq_of_beq_eq_true hb
      subst this
      rw [cond_true]
      rcases h.1 with h | ⟨h, h'⟩
      · exact .inr (.inl h.symm)
      · exact .inr (.inr ⟨h, h'⟩)
    | false => rw [cond_false]; exact sube_get h.2 t

theorem sle_empty {n N : Nat} {al al' : List (Nat × S)} {H : Heap} (sz : Nat) (hn : n ≤ H.length) (hf : SubE H.length sz al al') : SLe n ⟨frm N al, H⟩ ⟨frm N al', H ++ [some []]⟩ := by
  intro E ρ a w hs
  let ρ' : Nat → Place := fun p => if p = H.length then ⟨0, 0, 0⟩ else ρ p
  have hρ : ∀ p, p < H.length → ρ' p = ρ p := fun p hp => if_neg (by omega)
  have hle : (E.rl H.length ρ).Le (E.rl (H ++ [some []]).length ρ') := ⟨fun b hb => ⟨hb, rfl⟩, fun p hp => ⟨by
    show p < (H ++ [some []]).length
    have hp' : p < H.length := hp
    simp; omega, hρ p hp⟩⟩
  have hget : ∀ p cs, (H ++ [some ([] : List Cell)])[p]? = some (some cs) → (ρ' p).room ≠ 0 → p < H.length ∧ H[p]? = some (some cs) := by
    intro p cs hp hr
    by_cases hlt : p < H.length
    · rw [List.getElem?_append_left hlt] at hp; exact ⟨hlt, hp⟩
    · have := (List.getElem?_eq_some_iff.1 hp).1
      simp at this
      have : p = H.length := by omega
      subst this
      simp [ρ'] at hr
  refine ⟨ρ', fun p hp => hρ p (by omega), ⟨hs.fr.1, by rw [frm_length]; have := hs.fr.2.1; rwa [frm_length] at this, fun t s ht => ?_⟩, ?_⟩
  · have hlt : t < N := by
      have := (List.getElem?_eq_some_iff.1 ht).1
      rwa [frm_length] at this
    rw [frm_get hlt] at ht
    obtain rfl := Option.some.inj ht
    obtain ⟨v, k1, k2⟩ := hs.fr.2.2 t _ (frm_get hlt)
    refine ⟨v, k1, ?_⟩
    rcases sube_get hf t with h | h | ⟨h, h'⟩
    · rw [h]; simp [ud, SRel, VRel, CRel]
    · rw [h]; exact SRel.mono hle _ _ k2
    · rw [h']
      rw [h] at k2
      simp only [SRel, VRel, CRel] at k2 ⊢
      subst k2
      exact ⟨by show H.length < (H ++ [some []]).length; simp, none, 0, rfl, Nat.le_refl _, .inr rfl⟩
  · have hh := hs.heap
    refine ⟨hh.os, hh.tape, hh.output, hh.size, hh.frame, fun p cs hp hr => ?_, fun p q cs ds hp hq hrp hrq he => ?_, fun p cs hp hr => ?_, fun p cs hp hr => ?_⟩
    · obtain ⟨h1, h2⟩ := hget p cs hp hr
      rw [hρ p h1] at hr ⊢
      exact hh.fresh p cs h2 hr
    · obtain ⟨h1, h2⟩ := hget p cs hp hrp
      obtain ⟨h3, h4⟩ := hget q ds hq hrq
      rw [hρ p h1] at hrp he
      rw [hρ q h3] at hrq he
      exact hh.inj p q cs ds h2 h4 hrp hrq he
    · obtain ⟨h1, h2⟩ := hget p cs hp hr
      rw [hρ p h1] at hr ⊢
      exact (hh.blk p cs h2 hr).mono hle rfl
    · by_cases hlt : p < H.length
      · rw [List.getElem?_append_left hlt] at hp
        rw [hρ p hlt] at hr
        exact hh.emp p cs hp hr
      · have := (List.getElem?_eq_some_iff.1 hp).1
        simp at this
        have : p = H.length := by omega
        subst this
        simpa using hp

theorem rs_ro {α : Type} {k : IntKind} {g : α → Int} {l : List α} {n : Nat} {f : Nat → Option Nat} {x : Nat → Option (List Cell)} {b : Bool} : sm (cm ⟨f, x, true, b⟩ 8) (sc (.ro n (mapc k g l))) = sc (.ro n (mapc k g l)) := by
  show S.v (.c (.ro n ((mapc k g l).map (cm ⟨f, x, true, b⟩ 7)))) = _
  rw [mapc_cm]
theorem pick_c {H : Heap} {m : CM} {p : Nat} {cs : List Cell} (h : H[p]? = some (some cs)) (hc : cs.map (cm m 8) = cs) : pick H (cm m 8) p = some cs := by
  unfold pick; rw [h]; simp only [hc]
theorem pick_m {α : Type} {k : IntKind} {g : α → Int} {l : List α} {H : Heap} {m : CM} {p : Nat} (h : H[p]? = some (some (mapc k g l))) : pick H (cm m 8) p = some (mapc k g l) := pick_c h (mapc_cm m 8 l)
theorem rep_u8 (n : Nat) : rep n [c8 0] = u8s (List.replicate n 0) := by
  rw [rep_eq]
  induction n with
  | zero => rfl
  | succ n ih => rw [List.replicate_succ, List.flatten_cons, ih]; rfl
theorem vh1 {H : Heap} {f : Cell → Cell} {a : Nat} {x : Option (List Cell)} (h : pick H f a = x) : [x] = [a].map (pick H f) := by simp [h]
theorem vh2 {H : Heap} {f : Cell → Cell} {a b : Nat} {x y : Option (List Cell)} (h : pick H f a = x) (h1 : pick H f b = y) : [x, y] = [a, b].map (pick H f) := by simp [h, h1]
theorem vh3 {H : Heap} {f : Cell → Cell} {a b c : Nat} {x y z : Option (List Cell)} (h : pick H f a = x) (h1 : pick H f b = y) (h2 : pick H f c = z) : [x, y, z] = [a, b, c].map (pick H f) := by simp [h, h1, h2]
theorem vh5 {H : Heap} {f : Cell → Cell} {a b c d e : Nat} {x y z w v : Option (List Cell)} (h : pick H f a = x) (h1 : pick H f b = y) (h2 : pick H f c = z) (h3 : pick H f d = w) (h4 : pick H f e = v) : [x, y, z, w, v] = [a, b, c, d, e].map (pick H f) := by simp [h, h1, h2, h3, h4]
theorem vh4 {H : Heap} {f : Cell → Cell} {a b c d : Nat} {x y z w : Option (List Cell)} (h : pick H f a = x) (h1 : pick H f b = y) (h2 : pick H f c = z) (h3 : pick H f d = w) : [x, y, z, w] = [a, b, c, d].map (pick H f) := by simp [h, h1, h2, h3]
/-- A call by way of a variable that holds a function: one block is handed over. -/
theorem r_callcw {P : Program} {fr : List S} {H : Heap} {K : S → Heap → Prop} {o : Oper} {F : Operand} {k : Nat} {caps : List Cell} {caps' : List V} {args : Array Operand} {ats : Array TypeId} {v s : S} {cs cs' ds ds' : List Cell} {args' : List V} (p : Nat) (ho : o.op = .call ⟨.value F, args, ats⟩)
    (hf : ev fr F = sc (.fn k caps)) (ha : CA fr H [p] true args.toList args') (hcap : caps.map (fun c => V.c (cm (cin [p] true H) 8 c)) = caps') (hp : H[p]? = some (some cs)) (hcs : cs.map (cm (cin [p] true H) 8) = cs')
    (hg : Good P k (args' ++ caps') [some cs'] v [some ds]) (hds : ds.map (cm (cout [p] true H.length) 8) = ds') (e3 : sm (cm (cout [p] true H.length) 8) v = s) (h : K s (H.set p (some ds'))) : ostep P o fr H K := by
  obtain ⟨avs, h1, h2⟩ := ha
  have hlt : p < H.length := (List.getElem?_eq_some_iff.1 hp).1
  refine r_call [p] true ho hf h1 (by simp) (by simpa using hlt) (by rw [List.map_append, h2, ← hcap, List.map_map]; rfl) (by simp [pick, hp, hcs]) hg e3 ?_ h
  apply List.ext_getElem?
  intro j
  rw [back, List.drop_of_length_le (by simp)]
  simp only [picks, List.append_nil]
  rw [putB_get, List.getElem?_set, Nat.zero_add]
  by_cases hj : p = j
  · subst hj
    simp [hlt, pbk, idx, pick, hds]
  · simp [hj, pbk, idx]
theorem q_callcw {P : Program} {fr : List S} {H : Heap} {K : S → Heap → Prop} {od : Option Nat} {oty : TypeId} {ops_ : String} {oaf : Array Edge} {ogu : Option (Nat × Bool)} {F : Operand} {k : Nat} {caps : List Cell} {args : Array Operand} {ats : Array TypeId} {v s : S} {cs cs' ds ds' : List Cell} {all : List V} (p : Nat)
    (hg : Good P k all [some cs'] v [some ds]) (h : K s (H.set p (some ds'))) (hf : ev fr F = sc (.fn k caps) := by first | exact et rfl | exact rfl) (ha : CA fr H [p] true args.toList (all.take args.size) := by repeat' (first | exact ca0 | refine cac (by first | exact et rfl | exact rfl) (by first | exact cm_int | exact cm_bool | exact cm_str | exact sees_ro | (apply sees_slc; exact rfl; (first | exact rfl | assumption); (first | exact cut_h (by with_reducible assumption) | exact rfl | exact cut_m | exact cut_w)) | (apply sees_parts; exact rfl; (first | exact rfl | assumption); (repeat' (first | exact pq0 | (apply pq_ro; (first | with_reducible assumption | (simp only [List.length_take, List.length_drop, List.length_append] <;> omega) | exact rfl)) | refine pq_nil ?_ | (apply pq_slc; exact rfl; (first | exact rfl | assumption); (first | exact cut_h (by with_reducible assumption) | exact rfl | exact cut_m | exact cut_w); (first | with_reducible assumption | (simp only [List.length_take, List.length_drop, List.length_append] <;> omega) | exact rfl))))) | exact sees_nil8 | exact sees_nil | exact sees_ptr rfl (by first | exact rfl | assumption) rfl rfl | exact rfl) ?_ | refine caa (by first | exact et rfl | exact rfl) (by first | exact sees_m | exact rfl) ?_)) (hcap : caps.map (fun c => V.c (cm (cin [p] true H) 8 c)) = all.drop args.size := by exact rfl) (hp : H[p]? = some (some cs) := by exact rfl) (hcs : cs.map (cm (cin [p] true H) 8) = cs' := by first | exact sees_m | exact rfl) (hds : ds.map (cm (cout [p] true H.length) 8) = ds' := by first | exact sees_m | exact rfl) (e3 : sm (cm (cout [p] true H.length) 8) v = s := by first | exact rs_int | exact rs_bool | exact rs_m | exact rs_new | exact rs_nils | exact rs_str | exact rs_newp | exact rs_nilp | exact vt0 | exact vt2 (by first | exact vs_int | exact vs_bool | exact vs_m | exact vs_new | exact vs_nils | exact vs_str | exact vs_newp | exact vs_nilp | exact rfl) (by first | exact vs_int | exact vs_bool | exact vs_m | exact vs_new | exact vs_nils | exact vs_str | exact vs_newp | exact vs_nilp | exact rfl) | exact vt3 (by first | exact vs_int | exact vs_bool | exact vs_m | exact vs_new | exact vs_nils | exact vs_str | exact vs_newp | exact vs_nilp | exact rfl) (by first | exact vs_int | exact vs_bool | exact vs_m | exact vs_new | exact vs_nils | exact vs_str | exact vs_newp | exact vs_nilp | exact rfl) (by first | exact vs_int | exact vs_bool | exact vs_m | exact vs_new | exact vs_nils | exact vs_str | exact vs_newp | exact vs_nilp | exact rfl) | exact vt4 (by first | exact vs_int | exact vs_bool | exact vs_m | exact vs_new | exact vs_nils | exact vs_str | exact vs_newp | exact vs_nilp | exact rfl) (by first | exact vs_int | exact vs_bool | exact vs_m | exact vs_new | exact vs_nils | exact vs_str | exact vs_newp | exact vs_nilp | exact rfl) (by first | exact vs_int | exact vs_bool | exact vs_m | exact vs_new | exact vs_nils | exact vs_str | exact vs_newp | exact vs_nilp | exact rfl) (by first | exact vs_int | exact vs_bool | exact vs_m | exact vs_new | exact vs_nils | exact vs_str | exact vs_newp | exact vs_nilp | exact rfl) | exact rfl) : ostep P ⟨od, .call ⟨.value F, args, ats⟩, oty, ops_, oaf, ogu⟩ fr H K :=
  r_callcw p rfl hf ha hcap hp hcs ((List.take_append_drop args.size all).symm ▸ hg) hds e3 h
/-- A call that is handed some blocks, whatever it makes of them, and makes others. -/
def setB : List Nat → Heap → Heap → Heap
  | p :: π, x :: L, H => setB π L (H.set p x)
  | _, _, H => H
theorem setB_len : ∀ (π : List Nat) (L H : Heap), (setB π L H).length = H.length
  | [], _, _ => rfl
  | _ :: _, [], _ => rfl
  | p :: π, x :: L, H => by rw [setB, setB_len π L, List.length_set]
theorem setB_get : ∀ (π : List Nat) (L H : Heap) (j : Nat), π.Nodup → L.length = π.length → (setB π L H)[j]? = (H[j]?).map fun b => match idx j π with | some i => L.getD i none | none => b
  | [], [], H, j, _, _ => by simp [setB, idx]
  | [], _ :: _, _, _, _, h => by simp at h
  | _ :: _, [], _, _, _, h => by simp at h
  | p :: π, x :: L, H, j, hn, hl => by
    rw [setB, setB_get π L (H.set p x) j (List.nodup_cons.1 hn).2 (by simpa using hl), List.getElem?_set]
    by_cases hj : p = j
    · subst hj
      have hni : idx p π = none := by
        cases h : idx p π with
        | none => rfl
        | some i => exact absurd (List.mem_of_getElem? (idx_get h)) (List.nodup_cons.1 hn).1
      by_cases hlt : p < H.length
      · simp [hlt, idx, hni]
      · simp [hlt]
    · rw [if_neg hj]
      cases h : idx j π with
      | none => simp [idx, hj, h]
      | some i => simp [idx, hj, h]
theorem picks_map (f : Cell → Cell) : ∀ H : Heap, picks f H = H.map (Option.map (List.map f))
  | [] => rfl
  | some _ :: r => by simp [picks, picks_map f r]
  | none :: r => by simp [picks, picks_map f r]
theorem back_split {π : List Nat} {f : Cell → Cell} {H L N : Heap} (hnd : π.Nodup) (hl : L.length = π.length) : back π f H (L ++ N) = setB π (L.map (Option.map (List.map f))) H ++ N.map (Option.map (List.map f)) := by
  rw [back, ← hl, List.drop_left, picks_map]
  congr 1
  apply List.ext_getElem?
  intro j
  rw [putB_get, setB_get _ _ _ _ hnd (by simpa using hl), Nat.zero_add]
  congr 1
  funext b
  unfold pbk
  cases h : idx j π with
  | none => rfl
  | some i =>
    have hi : i < L.length := by rw [hl]; exact (List.getElem?_eq_some_iff.1 (idx_get h)).1
    simp only [pick, List.getElem?_append_left hi, List.getD_eq_getElem?_getD, List.getElem?_map, List.getElem?_eq_getElem hi]
    cases L[i] <;> rfl
theorem pl0 {H : Heap} {f : Cell → Cell} : ([] : List Nat).map (pick H f) = [] := rfl
theorem pl1 {H Hl : Heap} {f : Cell → Cell} {p : Nat} {π : List Nat} {cs cs' : List Cell} (hp : H[p]? = some (some cs)) (hc : cs.map f = cs') (h : π.map (pick H f) = Hl) : (p :: π).map (pick H f) = some cs' :: Hl := by
  simp [pick, hp, hc, ← h]
theorem ml0 {f : Cell → Cell} : ([] : Heap).map (Option.map (List.map f)) = [] := rfl
theorem ml1 {f : Cell → Cell} {L L' : Heap} {x y : List Cell} (hx : x.map f = y) (h : L.map (Option.map (List.map f)) = L') : (some x :: L).map (Option.map (List.map f)) = some y :: L' := by
  simp [hx, h]
theorem mln {f : Cell → Cell} {L L' : Heap} (h : L.map (Option.map (List.map f)) = L') : (none :: L).map (Option.map (List.map f)) = none :: L' := by
  simp [h]
theorem r_callv {P : Program} {fr : List S} {H : Heap} {K : S → Heap → Prop} {o : Oper} {f : Nat} {args : Array Operand} {ats : Array TypeId} {v s : S} {Hl L L' M M' : Heap} {args' : List V} (π : List Nat) (ho : o.op = .call ⟨.value (.func f), args, ats⟩)
    (ha : CA fr H π true args.toList args') (hnd : π.Nodup) (hπ : ∀ p ∈ π, p < H.length) (e2 : π.map (pick H (cm (cin π true H) 8)) = Hl) (hg : Good P f args' Hl v (L ++ M)) (hl : L.length = π.length)
    (eL : L.map (Option.map (List.map (cm (cout π true H.length) 8))) = L') (eM : M.map (Option.map (List.map (cm (cout π true H.length) 8))) = M') (e3 : sm (cm (cout π true H.length) 8) v = s) (h : K s (setB π L' H ++ M')) : ostep P o fr H K := by
  obtain ⟨avs, h1, h2⟩ := ha
  exact r_call π true ho rfl h1 hnd hπ (by simpa using h2) e2 hg e3 (by rw [back_split hnd hl, eL, eM]) h
theorem r_callv0 {P : Program} {fr : List S} {H : Heap} {K : S → Heap → Prop} {o : Oper} {f : Nat} {args : Array Operand} {ats : Array TypeId} {v s : S} {Hl L L' M M' : Heap} {args' : List V} (π : List Nat) (ho : o.op = .call ⟨.value (.func f), args, ats⟩)
    (ha : CA fr H π false args.toList args') (hnd : π.Nodup) (hπ : ∀ p ∈ π, p < H.length) (e2 : π.map (pick H (cm (cin π false H) 8)) = Hl) (hg : Good P f args' Hl v (L ++ M)) (hl : L.length = π.length)
    (eL : L.map (Option.map (List.map (cm (cout π false H.length) 8))) = L') (eM : M.map (Option.map (List.map (cm (cout π false H.length) 8))) = M') (e3 : sm (cm (cout π false H.length) 8) v = s) (h : K s (setB π L' H ++ M')) : ostep P o fr H K := by
  obtain ⟨avs, h1, h2⟩ := ha
  exact r_call π false ho rfl h1 hnd hπ (by simpa using h2) e2 hg e3 (by rw [back_split hnd hl, eL, eM]) h
theorem allB {π : List Nat} {n : Nat} (h : (π.all fun p => Nat.blt p n) = true) : ∀ p ∈ π, p < n := fun p hp => by
  have := List.all_eq_true.1 h p hp
  simpa [Nat.blt_eq] using this
theorem q_callv {P : Program} {fr : List S} {H : Heap} {K : S → Heap → Prop} {od : Option Nat} {oty : TypeId} {ops_ : String} {oaf : Array Edge} {ogu : Option (Nat × Bool)} {f : Nat} {args : Array Operand} {ats : Array TypeId} {v s : S} {Hl L' M' : Heap} {args' : List V} (π : List Nat) (L : Heap) (M : Heap)
    (hg : Good P f args' Hl v (L ++ M)) (h : K s (setB π L' H ++ M')) (ha : CA fr H π true args.toList args' := by repeat' (first | exact ca0 | refine cac (by first | exact et rfl | exact rfl) (by first | exact cm_int | exact cm_bool | exact cm_str | exact sees_ro | (apply sees_slc; exact rfl; (first | exact rfl | assumption); (first | exact cut_h (by with_reducible assumption) | exact rfl | exact cut_m | exact cut_w)) | (apply sees_parts; exact rfl; (first | exact rfl | assumption); (repeat' (first | exact pq0 | (apply pq_ro; (first | with_reducible assumption | (simp only [List.length_take, List.length_drop, List.length_append] <;> omega) | exact rfl)) | refine pq_nil ?_ | (apply pq_slc; exact rfl; (first | exact rfl | assumption); (first | exact cut_h (by with_reducible assumption) | exact rfl | exact cut_m | exact cut_w); (first | with_reducible assumption | (simp only [List.length_take, List.length_drop, List.length_append] <;> omega) | exact rfl))))) | exact sees_nil8 | exact sees_nil | exact sees_ptr rfl (by first | exact rfl | assumption) rfl rfl | exact rfl) ?_ | refine caa (by first | exact et rfl | exact rfl) (by first | exact sees_m | exact rfl) ?_)) (hnd : π.Nodup := by decide) (hπ : (π.all fun p => Nat.blt p H.length) = true := by exact rfl)
    (e2 : π.map (pick H (cm (cin π true H) 8)) = Hl := by repeat' (first | exact pl0 | refine pl1 rfl (by first | exact sees_m | exact rfl) ?_)) (hl : L.length = π.length := by exact rfl)
    (eL : L.map (Option.map (List.map (cm (cout π true H.length) 8))) = L' := by first | exact ml0 | exact ml1 (by first | exact sees_m | exact rfl) ml0 | exact ml1 (by first | exact sees_m | exact rfl) (ml1 (by first | exact sees_m | exact rfl) ml0) | exact ml1 (by first | exact sees_m | exact rfl) (ml1 (by first | exact sees_m | exact rfl) (ml1 (by first | exact sees_m | exact rfl) ml0)) | exact ml1 (by first | exact sees_m | exact rfl) (ml1 (by first | exact sees_m | exact rfl) (ml1 (by first | exact sees_m | exact rfl) (ml1 (by first | exact sees_m | exact rfl) ml0))) | exact ml1 (by first | exact sees_m | exact rfl) (ml1 (by first | exact sees_m | exact rfl) (ml1 (by first | exact sees_m | exact rfl) (ml1 (by first | exact sees_m | exact rfl) (ml1 (by first | exact sees_m | exact rfl) ml0))))) (eM : M.map (Option.map (List.map (cm (cout π true H.length) 8))) = M' := by first | exact ml0 | exact ml1 (by first | exact sees_m | exact rfl) ml0 | exact ml1 (by first | exact sees_m | exact rfl) (ml1 (by first | exact sees_m | exact rfl) ml0) | exact ml1 (by first | exact sees_m | exact rfl) (ml1 (by first | exact sees_m | exact rfl) (ml1 (by first | exact sees_m | exact rfl) ml0)) | exact ml1 (by first | exact sees_m | exact rfl) (ml1 (by first | exact sees_m | exact rfl) (ml1 (by first | exact sees_m | exact rfl) (ml1 (by first | exact sees_m | exact rfl) ml0))) | exact ml1 (by first | exact sees_m | exact rfl) (ml1 (by first | exact sees_m | exact rfl) (ml1 (by first | exact sees_m | exact rfl) (ml1 (by first | exact sees_m | exact rfl) (ml1 (by first | exact sees_m | exact rfl) ml0)))))
    (e3 : sm (cm (cout π true H.length) 8) v = s := by first | exact rs_int | exact rs_bool | exact rs_m | exact rs_new | exact rs_nils | exact rs_str | exact rs_newp | exact rs_nilp | exact vt0 | exact vt2 (by first | exact vs_int | exact vs_bool | exact vs_m | exact vs_new | exact vs_nils | exact vs_str | exact vs_newp | exact vs_nilp | exact rfl) (by first | exact vs_int | exact vs_bool | exact vs_m | exact vs_new | exact vs_nils | exact vs_str | exact vs_newp | exact vs_nilp | exact rfl) | exact vt3 (by first | exact vs_int | exact vs_bool | exact vs_m | exact vs_new | exact vs_nils | exact vs_str | exact vs_newp | exact vs_nilp | exact rfl) (by first | exact vs_int | exact vs_bool | exact vs_m | exact vs_new | exact vs_nils | exact vs_str | exact vs_newp | exact vs_nilp | exact rfl) (by first | exact vs_int | exact vs_bool | exact vs_m | exact vs_new | exact vs_nils | exact vs_str | exact vs_newp | exact vs_nilp | exact rfl) | exact vt4 (by first | exact vs_int | exact vs_bool | exact vs_m | exact vs_new | exact vs_nils | exact vs_str | exact vs_newp | exact vs_nilp | exact rfl) (by first | exact vs_int | exact vs_bool | exact vs_m | exact vs_new | exact vs_nils | exact vs_str | exact vs_newp | exact vs_nilp | exact rfl) (by first | exact vs_int | exact vs_bool | exact vs_m | exact vs_new | exact vs_nils | exact vs_str | exact vs_newp | exact vs_nilp | exact rfl) (by first | exact vs_int | exact vs_bool | exact vs_m | exact vs_new | exact vs_nils | exact vs_str | exact vs_newp | exact vs_nilp | exact rfl) | exact rfl) : ostep P ⟨od, .call ⟨.value (.func f), args, ats⟩, oty, ops_, oaf, ogu⟩ fr H K :=
  r_callv π rfl ha hnd (allB hπ) e2 hg hl eL eM e3 h
theorem q_callv0 {P : Program} {fr : List S} {H : Heap} {K : S → Heap → Prop} {od : Option Nat} {oty : TypeId} {ops_ : String} {oaf : Array Edge} {ogu : Option (Nat × Bool)} {f : Nat} {args : Array Operand} {ats : Array TypeId} {v s : S} {Hl L' M' : Heap} {args' : List V} (π : List Nat) (L : Heap) (M : Heap)
    (hg : Good P f args' Hl v (L ++ M)) (h : K s (setB π L' H ++ M')) (ha : CA fr H π false args.toList args' := by repeat' (first | exact ca0 | refine cac (by first | exact et rfl | exact rfl) (by first | exact cm_int | exact cm_bool | exact cm_str | exact sees_ro | (apply sees_slc; exact rfl; (first | exact rfl | assumption); (first | exact cut_h (by with_reducible assumption) | exact rfl | exact cut_m | exact cut_w)) | (apply sees_parts; exact rfl; (first | exact rfl | assumption); (repeat' (first | exact pq0 | (apply pq_ro; (first | with_reducible assumption | (simp only [List.length_take, List.length_drop, List.length_append] <;> omega) | exact rfl)) | refine pq_nil ?_ | (apply pq_slc; exact rfl; (first | exact rfl | assumption); (first | exact cut_h (by with_reducible assumption) | exact rfl | exact cut_m | exact cut_w); (first | with_reducible assumption | (simp only [List.length_take, List.length_drop, List.length_append] <;> omega) | exact rfl))))) | exact sees_nil8 | exact sees_nil | exact sees_ptr rfl (by first | exact rfl | assumption) rfl rfl | exact rfl) ?_ | refine caa (by first | exact et rfl | exact rfl) (by first | exact sees_m | exact rfl) ?_)) (hnd : π.Nodup := by decide) (hπ : (π.all fun p => Nat.blt p H.length) = true := by exact rfl)
    (e2 : π.map (pick H (cm (cin π false H) 8)) = Hl := by repeat' (first | exact pl0 | refine pl1 rfl (by first | exact sees_m | exact rfl) ?_)) (hl : L.length = π.length := by exact rfl)
    (eL : L.map (Option.map (List.map (cm (cout π false H.length) 8))) = L' := by first | exact ml0 | exact ml1 (by first | exact sees_m | exact rfl) ml0 | exact ml1 (by first | exact sees_m | exact rfl) (ml1 (by first | exact sees_m | exact rfl) ml0) | exact ml1 (by first | exact sees_m | exact rfl) (ml1 (by first | exact sees_m | exact rfl) (ml1 (by first | exact sees_m | exact rfl) ml0)) | exact ml1 (by first | exact sees_m | exact rfl) (ml1 (by first | exact sees_m | exact rfl) (ml1 (by first | exact sees_m | exact rfl) (ml1 (by first | exact sees_m | exact rfl) ml0))) | exact ml1 (by first | exact sees_m | exact rfl) (ml1 (by first | exact sees_m | exact rfl) (ml1 (by first | exact sees_m | exact rfl) (ml1 (by first | exact sees_m | exact rfl) (ml1 (by first | exact sees_m | exact rfl) ml0))))) (eM : M.map (Option.map (List.map (cm (cout π false H.length) 8))) = M' := by first | exact ml0 | exact ml1 (by first | exact sees_m | exact rfl) ml0 | exact ml1 (by first | exact sees_m | exact rfl) (ml1 (by first | exact sees_m | exact rfl) ml0) | exact ml1 (by first | exact sees_m | exact rfl) (ml1 (by first | exact sees_m | exact rfl) (ml1 (by first | exact sees_m | exact rfl) ml0)) | exact ml1 (by first | exact sees_m | exact rfl) (ml1 (by first | exact sees_m | exact rfl) (ml1 (by first | exact sees_m | exact rfl) (ml1 (by first | exact sees_m | exact rfl) ml0))) | exact ml1 (by first | exact sees_m | exact rfl) (ml1 (by first | exact sees_m | exact rfl) (ml1 (by first | exact sees_m | exact rfl) (ml1 (by first | exact sees_m | exact rfl) (ml1 (by first | exact sees_m | exact rfl) ml0)))))
    (e3 : sm (cm (cout π false H.length) 8) v = s := by first | exact rs_int | exact rs_bool | exact rs_m | exact rs_new | exact rs_nils | exact rs_str | exact rs_newp | exact rs_nilp | exact vt0 | exact vt2 (by first | exact vs_int | exact vs_bool | exact vs_m | exact vs_new | exact vs_nils | exact vs_str | exact vs_newp | exact vs_nilp | exact rfl) (by first | exact vs_int | exact vs_bool | exact vs_m | exact vs_new | exact vs_nils | exact vs_str | exact vs_newp | exact vs_nilp | exact rfl) | exact vt3 (by first | exact vs_int | exact vs_bool | exact vs_m | exact vs_new | exact vs_nils | exact vs_str | exact vs_newp | exact vs_nilp | exact rfl) (by first | exact vs_int | exact vs_bool | exact vs_m | exact vs_new | exact vs_nils | exact vs_str | exact vs_newp | exact vs_nilp | exact rfl) (by first | exact vs_int | exact vs_bool | exact vs_m | exact vs_new | exact vs_nils | exact vs_str | exact vs_newp | exact vs_nilp | exact rfl) | exact vt4 (by first | exact vs_int | exact vs_bool | exact vs_m | exact vs_new | exact vs_nils | exact vs_str | exact vs_newp | exact vs_nilp | exact rfl) (by first | exact vs_int | exact vs_bool | exact vs_m | exact vs_new | exact vs_nils | exact vs_str | exact vs_newp | exact vs_nilp | exact rfl) (by first | exact vs_int | exact vs_bool | exact vs_m | exact vs_new | exact vs_nils | exact vs_str | exact vs_newp | exact vs_nilp | exact rfl) (by first | exact vs_int | exact vs_bool | exact vs_m | exact vs_new | exact vs_nils | exact vs_str | exact vs_newp | exact vs_nilp | exact rfl) | exact rfl) : ostep P ⟨od, .call ⟨.value (.func f), args, ats⟩, oty, ops_, oaf, ogu⟩ fr H K :=
  r_callv0 π rfl ha hnd (allB hπ) e2 hg hl eL eM e3 h
theorem pi01 : ∀ p : Nat, p < 2 → [0, 1][p]? = some p := by
  intro p hp
  match p, hp with
  | 0, _ => rfl
  | 1, _ => rfl
theorem pi012 : ∀ p : Nat, p < 3 → [0, 1, 2][p]? = some p := by
  intro p hp
  match p, hp with
  | 0, _ => rfl
  | 1, _ => rfl
  | 2, _ => rfl
theorem nn_ro {n : Nat} {cs : List Cell} (h : 0 < n) : isNilS (.ro n cs) = some false := by
  cases n with
  | zero => cases h
  | succ n => rfl
theorem nn_slc {p q n sz : Nat} (h : 0 < n) : isNilS (.slc p q n sz) = some false := by
  cases n with
  | zero => cases h
  | succ n => rfl
section
variable {P : Program} {fr : List S} {H : Heap} {K : S → Heap → Prop} {od : Option Nat} {oty : TypeId} {ops_ : String} {oaf : Array Edge} {ogu : Option (Nat × Bool)} {t u : TypeId} {ti : TI} {a b : Operand}
theorem q_eqlsl {x : Cell} {e : Nat} {r : Bool} [iht : TiOf P t ti] (h : K (sc (.bool r)) H) (hk : ti.kind = .slice e := by exact rfl) (hx : ev fr a = sc x := by first | exact et rfl | exact rfl) (hn : isNilS x = some r := by first | exact nn_ro (by first | omega | with_reducible assumption | exact (mapc_length ..).trans (by with_reducible assumption) | exact rfl | exact Nat.lt_of_lt_of_le (by decide) (by assumption)) | exact nn_slc (by first | omega | with_reducible assumption | exact (mapc_length ..).trans (by with_reducible assumption) | exact rfl | exact Nat.lt_of_lt_of_le (by decide) (by assumption)) | exact rfl) (hy : ev fr b = sc .nils := by first | exact et rfl | exact rfl) : ostep P ⟨od, .binOp .eql t a b u, oty, ops_, oaf, ogu⟩ fr H K :=
  binG rfl iht.h hx hy (by cases x <;> first | (simp [isNilS] at hn; done) | (simp only [binC, hk, hn, eqv]; exact h))
theorem q_neqsl {x : Cell} {e : Nat} {r : Bool} [iht : TiOf P t ti] (h : K (sc (.bool (!r))) H) (hk : ti.kind = .slice e := by exact rfl) (hx : ev fr a = sc x := by first | exact et rfl | exact rfl) (hn : isNilS x = some r := by first | exact nn_ro (by first | omega | with_reducible assumption | exact (mapc_length ..).trans (by with_reducible assumption) | exact rfl | exact Nat.lt_of_lt_of_le (by decide) (by assumption)) | exact nn_slc (by first | omega | with_reducible assumption | exact (mapc_length ..).trans (by with_reducible assumption) | exact rfl | exact Nat.lt_of_lt_of_le (by decide) (by assumption)) | exact rfl) (hy : ev fr b = sc .nils := by first | exact et rfl | exact rfl) : ostep P ⟨od, .binOp .neq t a b u, oty, ops_, oaf, ogu⟩ fr H K :=
  binG rfl iht.h hx hy (by cases x <;> first | (simp [isNilS] at hn; done) | (simp only [binC, hk, hn, eqv]; exact h))
theorem q_css {s e p q n : Nat} {ei : TI} [it_ : SlT P s ti e ei 1] (h : K (sc (.slc p q n 1)) H) (hk : ei.kind = .int .u8 := by exact rfl) (hx : ev fr a = sc (.slc p q n 1) := by first | exact et rfl | exact rfl) (hn : 0 < n := by first | omega | decide) (hp : ∃ cs, H[p]? = some (some cs) := by exact ⟨_, rfl⟩) : ostep P ⟨od, .convert s s a, oty, ops_, oaf, ogu⟩ fr H K := by
  obtain ⟨cs, hp⟩ := hp
  simp only [ostep, it_.ht, it_.hk, hx, it_.he, hp, hk]
  exact ⟨trivial, trivial, hn, h⟩
end
/-- Constants laid into cells. -/
def intC : Value → Option Cell
  | .int k n => some (.int k n)
  | _ => none
def fillC (place : Nat → Option (Nat × Nat)) : List Cell → List (Nat × Operand) → Option (List Cell)
  | cells, [] => some cells
  | cells, (i, .const v) :: r => match place i, intC v with
    | some (off, 1), some c => bif Nat.blt off cells.length then fillC place (cells.set off c) r else none
    | _, _ => none
  | _, _ => none
theorem fkC_go {fr : List S} {place : Nat → Option (Nat × Nat)} {KK : List Cell → Prop} {out : List Cell} (h : KK out) : ∀ (parts : List (Nat × Operand)) (cells : List Cell), fillC place cells parts = some out → fillK fr place KK cells parts
  | [], cells, hc => by
    simp only [fillC, Option.some.injEq] at hc
    subst hc; exact h
  | (i, .const v) :: r, cells, hc => by
    simp only [fillC] at hc
    split at hc
    · rename_i off c hp hv
      cases hb : Nat.blt off cells.length with
      | false => rw [hb] at hc; cases hc
      | true =>
        rw [hb] at hc
        have hv' : ev fr (.const v) = sc c ∧ cellsV (sc c) = some [c] := by
          cases v <;> simp only [intC, Option.some.injEq, reduceCtorEq] at hv
          subst hv; exact ⟨rfl, rfl⟩
        exact fkc hp hv'.1 hv'.2 (by simpa [Nat.blt_eq] using hb) (fkC_go h r _ hc)
    · cases hc
  | (i, .tmp n) :: r, cells, hc => by simp [fillC] at hc
  | (i, .func n) :: r, cells, hc => by simp [fillC] at hc
  | (i, .global n) :: r, cells, hc => by simp [fillC] at hc
theorem fkC {fr : List S} {place : Nat → Option (Nat × Nat)} {KK : List Cell → Prop} {cells out : List Cell} {parts : List (Nat × Operand)} (h : KK out) (hc : fillC place cells parts = some out := by kernel_rfl) : fillK fr place KK cells parts := fkC_go h parts cells hc
/-! A body's end, whatever blocks are told. -/
theorem fx0 {P : Program} {st : St} {fn : Func} {v : S} {H' : Heap} {n : Nat} (π : List Nat) (hl : fn.results.toList = [] := by exact rfl) (hH : π.map (pick st.H (cm ⟨fun p => idx p π, fun _ => none, true, false⟩ 8)) = H' := by repeat' (first | exact pl0 | refine pl1 rfl (by first | exact sees_m | exact rfl) ?_)) (hv : v = .t [] := by exact rfl) (hnd : π.Nodup := by decide) (hn : ∀ p, p < n → π[p]? = some p := by first | exact fun p h => absurd h (Nat.not_lt_zero _) | exact pi0 | exact pi01 | exact pi012) : fin P fn n v H' st :=
  fin_g (ys := []) π hn hnd hv hl rv0 hH.symm
theorem fx1 {P : Program} {st : St} {fn : Func} {v : S} {H' : Heap} {n : Nat} {t0 : Nat} {x0 y0 : V} (π : List Nat) (hl : fn.results.toList = [.tmp t0] := by exact rfl) (hx0 : ev st.fr (.tmp t0) = .v x0 := by first | exact et rfl | exact rfl) (hm0 : vm (cm ⟨fun p => idx p π, fun _ => none, true, false⟩ 8) x0 = y0 := by first | exact vs_int | exact vs_bool | exact vs_m | exact vs_str | exact vs_nilp | exact rfl) (hH : π.map (pick st.H (cm ⟨fun p => idx p π, fun _ => none, true, false⟩ 8)) = H' := by repeat' (first | exact pl0 | refine pl1 rfl (by first | exact sees_m | exact rfl) ?_)) (hv : v = .v y0 := by exact rfl) (hnd : π.Nodup := by decide) (hn : ∀ p, p < n → π[p]? = some p := by first | exact fun p h => absurd h (Nat.not_lt_zero _) | exact pi0 | exact pi01 | exact pi012) : fin P fn n v H' st :=
  fin_g (ys := [y0]) π hn hnd hv hl (rvt hx0 hm0 rv0) hH.symm
theorem fx2 {P : Program} {st : St} {fn : Func} {v : S} {H' : Heap} {n : Nat} {t0 t1 : Nat} {x0 y0 x1 y1 : V} (π : List Nat) (hl : fn.results.toList = [.tmp t0, .tmp t1] := by exact rfl) (hx0 : ev st.fr (.tmp t0) = .v x0 := by first | exact et rfl | exact rfl) (hm0 : vm (cm ⟨fun p => idx p π, fun _ => none, true, false⟩ 8) x0 = y0 := by first | exact vs_int | exact vs_bool | exact vs_m | exact vs_str | exact vs_nilp | exact rfl) (hx1 : ev st.fr (.tmp t1) = .v x1 := by first | exact et rfl | exact rfl) (hm1 : vm (cm ⟨fun p => idx p π, fun _ => none, true, false⟩ 8) x1 = y1 := by first | exact vs_int | exact vs_bool | exact vs_m | exact vs_str | exact vs_nilp | exact rfl) (hH : π.map (pick st.H (cm ⟨fun p => idx p π, fun _ => none, true, false⟩ 8)) = H' := by repeat' (first | exact pl0 | refine pl1 rfl (by first | exact sees_m | exact rfl) ?_)) (hv : v = .t [y0, y1] := by exact rfl) (hnd : π.Nodup := by decide) (hn : ∀ p, p < n → π[p]? = some p := by first | exact fun p h => absurd h (Nat.not_lt_zero _) | exact pi0 | exact pi01 | exact pi012) : fin P fn n v H' st :=
  fin_g (ys := [y0, y1]) π hn hnd hv hl (rvt hx0 hm0 (rvt hx1 hm1 rv0)) hH.symm
theorem fx3 {P : Program} {st : St} {fn : Func} {v : S} {H' : Heap} {n : Nat} {t0 t1 t2 : Nat} {x0 y0 x1 y1 x2 y2 : V} (π : List Nat) (hl : fn.results.toList = [.tmp t0, .tmp t1, .tmp t2] := by exact rfl) (hx0 : ev st.fr (.tmp t0) = .v x0 := by first | exact et rfl | exact rfl) (hm0 : vm (cm ⟨fun p => idx p π, fun _ => none, true, false⟩ 8) x0 = y0 := by first | exact vs_int | exact vs_bool | exact vs_m | exact vs_str | exact vs_nilp | exact rfl) (hx1 : ev st.fr (.tmp t1) = .v x1 := by first | exact et rfl | exact rfl) (hm1 : vm (cm ⟨fun p => idx p π, fun _ => none, true, false⟩ 8) x1 = y1 := by first | exact vs_int | exact vs_bool | exact vs_m | exact vs_str | exact vs_nilp | exact rfl) (hx2 : ev st.fr (.tmp t2) = .v x2 := by first | exact et rfl | exact rfl) (hm2 : vm (cm ⟨fun p => idx p π, fun _ => none, true, false⟩ 8) x2 = y2 := by first | exact vs_int | exact vs_bool | exact vs_m | exact vs_str | exact vs_nilp | exact rfl) (hH : π.map (pick st.H (cm ⟨fun p => idx p π, fun _ => none, true, false⟩ 8)) = H' := by repeat' (first | exact pl0 | refine pl1 rfl (by first | exact sees_m | exact rfl) ?_)) (hv : v = .t [y0, y1, y2] := by exact rfl) (hnd : π.Nodup := by decide) (hn : ∀ p, p < n → π[p]? = some p := by first | exact fun p h => absurd h (Nat.not_lt_zero _) | exact pi0 | exact pi01 | exact pi012) : fin P fn n v H' st :=
  fin_g (ys := [y0, y1, y2]) π hn hnd hv hl (rvt hx0 hm0 (rvt hx1 hm1 (rvt hx2 hm2 rv0))) hH.symm
/-- In a region that draws its order: an operation that looks at one block. -/
theorem DSp {P : Program} {N : Nat} {al : List (Nat × S)} {H : Heap} {ops r : List Oper} {q : St → Prop} {op : Op} {oty : TypeId} {ops_ : String} {oaf : Array Edge} {d : Nat} {lo hi : List Nat} {i : Nat} {rem : List Nat} {hist : List Heap} {pend : List (Nat × Heap)} {s : S} (p : Nat) {cs : List Cell}
    (_hp : H[p]? = some (some cs)) (h : ∀ V' : Heap, V'[p]? = some (some cs) → ostep P ⟨some d, op, oty, ops_, oaf, none⟩ (frm N al) V' fun s' H' => s' = s ∧ H' = V')
    (k : Dw P ops lo hi q r (i + 1) rem (H :: hist) ((hi.getD i 0, one p cs) :: pend) (frm N ((d, s) :: al))) (hne : (rem.head? == some i) = false := by exact rfl)
    (hs : seen (one p cs) ((H :: hist).take ((hist.length + 1) - lo.getD i 0)) := by repeat' (first | exact trivial | exact sub_one rfl | refine And.intro ?_ ?_)) : Dw P ops lo hi q (⟨some d, op, oty, ops_, oaf, none⟩ :: r) i rem (H :: hist) pend (frm N al) :=
  dR p rfl (tk rfl) hne hs h k
section
variable {P : Program} {N : Nat} {al : List (Nat × S)} {H : Heap} {ops r : List Oper} {q : St → Prop} {oty : TypeId} {ops_ : String} {oaf : Array Edge} {d j w : Nat} {want : Bool} {oj : Oper}
variable {lo hi : List Nat} {i : Nat} {rem : List Nat} {hist : List Heap} {pend : List (Nat × Heap)} {t : TypeId} {ti : TI} {x : Operand} {p : Nat} {cs : List Cell}
theorem DLwg [it : TiOf P t ti] (k : Dw P ops lo hi q r (i + 1) rem (H :: hist) ((hi.getD i 0, one p cs) :: pend) (frm N ((d, sa cs) :: al))) (hx : ev (frm N al) x = sc (.ptr p 0) := by first | exact et rfl | exact rfl) (_hp : H[p]? = some (some cs) := by exact rfl) (hk : ti.kind.agg = true := by exact rfl) (hz : Nat.blt 0 ti.size = true := by exact rfl) (hl : cs.length = ti.size := by first | omega | with_reducible assumption | exact (mapc_length ..).trans (by with_reducible assumption) | (simp only [List.length_set, List.length_append, List.length_replicate, List.length_take, List.length_drop, List.length_map, List.length_cons, List.length_nil, mapc_length] <;> omega) | exact rfl | exact Nat.le_of_ble_eq_true rfl) (hne : (rem.head? == some i) = false := by exact rfl)
    (hs : seen (one p cs) ((H :: hist).take ((hist.length + 1) - lo.getD i 0)) := by repeat' (first | exact trivial | exact sub_one rfl | refine And.intro ?_ ?_)) (hj : ops[j]? = some oj := by exact rfl) (hjd : oj.dst = some w := by exact rfl) (hv : lkpB N al w = .v (.c (.bool want)) := by first | exact rfl | exact congrArg (fun b => S.v (V.c (Cell.bool b))) (by assumption) | exact congrArg (fun b => S.v (V.c (Cell.bool b))) (decide_eq_true (by assumption)) | exact congrArg (fun b => S.v (V.c (Cell.bool b))) (decide_eq_false (by assumption))) : Dw P ops lo hi q (⟨some d, .load t x, oty, ops_, oaf, some (j, want)⟩ :: r) i rem (H :: hist) pend (frm N al) :=
  dR p rfl (tkg rfl hj hjd hv) hne hs (fun _ hv => r_ldw rfl it.h hk hz hx hv hl ⟨rfl, rfl⟩) k
end
end Go.Abs

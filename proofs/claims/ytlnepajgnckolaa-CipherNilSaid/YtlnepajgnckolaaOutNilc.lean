/- Texts that the proof stands on, put together: the abstract machine, and what functions do over it. -/
import Derived.Test.YtlnepajgnckolaaOutNilb
import Derived.Laws.Externs
import Derived.KernelRfl
import Derived.Test.YtlnepajgnckolaaProg
/- The abstract machine: an empty slice as a block of its own; memory looked at anew. -/
namespace Go.Abs
open Go

/-- Nothing at all may be told as an empty slice of this block. -/
def SubE (q sz : Nat) (al : List (Nat × S)) : List (Nat × S) → Prop
  | [] => True
  | (t, s) :: r => (lkp al t = s ∨ (lkp al t = sc .nils ∧ s = sc (.slc q 0 0 sz))) ∧ SubE q sz al r

theorem sube_get {q sz : Nat} {al : List (Nat × S)} : ∀ {al' : List (Nat × S)}, SubE q sz al al' → ∀ t, lkp al' t = ud ∨ lkp al' t = lkp al t ∨ (lkp al t = sc .nils ∧ lkp al' t = sc (.slc q 0 0 sz))
  | [], _, _ => .inl rfl
  | (i, s) :: r, h, t => by
    simp only [SubE] at h
    simp only [lkp]
    cases hb : Nat.beq i t with
    | true =>
      have := Nat.eq_of_beq_eq_true hb
      subst this
      rw [cond_true]
      rcases h.1 with h | ⟨h, h'⟩
      · exact .inr (.inl h.symm)
      · exact .inr (.inr ⟨h, h'⟩)
    | false => rw [cond_false]; exact sube_get h.2 t

theorem sle_empty {n N : Nat} {al al' : List (Nat × S)} {H : Heap} (sz : Nat) (hn : n ≤ H.length) (hf : SubE H.length sz al al') : SLe n ⟨frm N al, H⟩ ⟨frm N al', H ++ [some []]⟩ := by
  intro E ρ a w hs
  let ρ' : Nat → Place := fun p => if p = H.length then ⟨0, 0, 0⟩ else ρ p
  have hρ : ∀ p, p < H.length → ρ' p = ρ p := fun p hp => if_neg (by omega)
  have hle : (E.rl H.length ρ).Le (E.rl (H ++ [some []]).length ρ') := ⟨fun b hb => ⟨hb, rfl⟩, fun p hp => ⟨by
    show p < (H ++ [some []]).length
    have hp' : p < H.length := hp
    simp; omega, hρ p hp⟩⟩
  have hget : ∀ p cs, (H ++ [some ([] : List Cell)])[p]? = some (some cs) → (ρ' p).room ≠ 0 → p < H.length ∧ H[p]? = some (some cs) := by
    intro p cs hp hr
    by_cases hlt : p < H.length
    · rw [List.getElem?_append_left hlt] at hp; exact ⟨hlt, hp⟩
    · have := (List.getElem?_eq_some_iff.1 hp).1
      simp at this
      have : p = H.length := by omega
      subst this
      simp [ρ'] at hr
  refine ⟨ρ', fun p hp => hρ p (by omega), ⟨hs.fr.1, by rw [frm_length]; have := hs.fr.2.1; rwa [frm_length] at this, fun t s ht => ?_⟩, ?_⟩
  · have hlt : t < N := by
      have := (List.getElem?_eq_some_iff.1 ht).1
      rwa [frm_length] at this
    rw [frm_get hlt] at ht
    obtain rfl := Option.some.inj ht
    obtain ⟨v, k1, k2⟩ := hs.fr.2.2 t _ (frm_get hlt)
    refine ⟨v, k1, ?_⟩
    rcases sube_get hf t with h | h | ⟨h, h'⟩
    · rw [h]; simp [ud, SRel, VRel, CRel]
    · rw [h]; exact SRel.mono hle _ _ k2
    · rw [h']
      rw [h] at k2
      simp only [SRel, VRel, CRel] at k2 ⊢
      subst k2
      exact ⟨by show H.length < (H ++ [some []]).length; simp, none, 0, rfl, Nat.le_refl _, .inr rfl⟩
  · have hh := hs.heap
    refine ⟨hh.os, hh.tape, hh.output, hh.size, hh.frame, fun p cs hp hr => ?_, fun p q cs ds hp hq hrp hrq he => ?_, fun p cs hp hr => ?_, fun p cs hp hr => ?_⟩
    · obtain ⟨h1, h2⟩ := hget p cs hp hr
      rw [hρ p h1] at hr ⊢
      exact hh.fresh p cs h2 hr
    · obtain ⟨h1, h2⟩ := hget p cs hp hrp
      obtain ⟨h3, h4⟩ := hget q ds hq hrq
      rw [hρ p h1] at hrp he
      rw [hρ q h3] at hrq he
      exact hh.inj p q cs ds h2 h4 hrp hrq he
    · obtain ⟨h1, h2⟩ := hget p cs hp hr
      rw [hρ p h1] at hr ⊢
      exact (hh.blk p cs h2 hr).mono hle rfl
    · by_cases hlt : p < H.length
      · rw [List.getElem?_append_left hlt] at hp
        rw [hρ p hlt] at hr
        exact hh.emp p cs hp hr
      · have := (List.getElem?_eq_some_iff.1 hp).1
        simp at this
        have : p = H.length := by omega
        subst this
        simpa using hp

theorem pick_c {H : Heap} {m : CM} {p : Nat} {cs : List Cell} (h : H[p]? = some (some cs)) (hc : cs.map (cm m 8) = cs) : pick H (cm m 8) p = some cs := by
  unfold pick; rw [h]; simp only [hc]
theorem pick_m {α : Type} {k : IntKind} {g : α → Int} {l : List α} {H : Heap} {m : CM} {p : Nat} (h : H[p]? = some (some (mapc k g l))) : pick H (cm m 8) p = some (mapc k g l) := pick_c h (mapc_cm m 8 l)
theorem rep_u8 (n : Nat) : rep n [c8 0] = u8s (List.replicate n 0) := by
  rw [rep_eq]
  induction n with
  | zero => rfl
  | succ n ih => rw [List.replicate_succ, List.flatten_cons, ih]; rfl
theorem vh1 {H : Heap} {f : Cell → Cell} {a : Nat} {x : Option (List Cell)} (h : pick H f a = x) : [x] = [a].map (pick H f) := by simp [h]
theorem vh5 {H : Heap} {f : Cell → Cell} {a b c d e : Nat} {x y z w v : Option (List Cell)} (h : pick H f a = x) (h1 : pick H f b = y) (h2 : pick H f c = z) (h3 : pick H f d = w) (h4 : pick H f e = v) : [x, y, z, w, v] = [a, b, c, d, e].map (pick H f) := by simp [h, h1, h2, h3, h4]
theorem vh4 {H : Heap} {f : Cell → Cell} {a b c d : Nat} {x y z w : Option (List Cell)} (h : pick H f a = x) (h1 : pick H f b = y) (h2 : pick H f c = z) (h3 : pick H f d = w) : [x, y, z, w] = [a, b, c, d].map (pick H f) := by simp [h, h1, h2, h3]
/-- A call by way of a variable that holds a function: one block is handed over. -/
theorem r_callcw {P : Program} {fr : List S} {H : Heap} {K : S → Heap → Prop} {o : Oper} {F : Operand} {k : Nat} {caps : List Cell} {caps' : List V} {args : Array Operand} {ats : Array TypeId} {v s : S} {cs cs' ds ds' : List Cell} {args' : List V} (p : Nat) (ho : o.op = .call ⟨.value F, args, ats⟩)
    (hf : ev fr F = sc (.fn k caps)) (ha : CA fr H [p] true args.toList args') (hcap : caps.map (fun c => V.c (cm (cin [p] true H) 8 c)) = caps') (hp : H[p]? = some (some cs)) (hcs : cs.map (cm (cin [p] true H) 8) = cs')
    (hg : Good P k (args' ++ caps') [some cs'] v [some ds]) (hds : ds.map (cm (cout [p] true H.length) 8) = ds') (e3 : sm (cm (cout [p] true H.length) 8) v = s) (h : K s (H.set p (some ds'))) : ostep P o fr H K := by
  obtain ⟨avs, h1, h2⟩ := ha
  have hlt : p < H.length := (List.getElem?_eq_some_iff.1 hp).1
  refine r_call [p] true ho hf h1 (by simp) (by simpa using hlt) (by rw [List.map_append, h2, ← hcap, List.map_map]; rfl) (by simp [pick, hp, hcs]) hg e3 ?_ h
  apply List.ext_getElem?
  intro j
  rw [back, List.drop_of_length_le (by simp)]
  simp only [picks, List.append_nil]
  rw [putB_get, List.getElem?_set, Nat.zero_add]
  by_cases hj : p = j
  · subst hj
    simp [hlt, pbk, idx, pick, hds]
  · simp [hj, pbk, idx]
theorem q_callcw {P : Program} {fr : List S} {H : Heap} {K : S → Heap → Prop} {od : Option Nat} {oty : TypeId} {ops_ : String} {oaf : Array Edge} {ogu : Option (Nat × Bool)} {F : Operand} {k : Nat} {caps : List Cell} {args : Array Operand} {ats : Array TypeId} {v s : S} {cs cs' ds ds' : List Cell} {all : List V} (p : Nat)
    (hg : Good P k all [some cs'] v [some ds]) (h : K s (H.set p (some ds'))) (hf : ev fr F = sc (.fn k caps) := by first | exact et rfl | exact rfl) (ha : CA fr H [p] true args.toList (all.take args.size) := by repeat' (first | exact ca0 | refine cac (by first | exact et rfl | exact rfl) (by first | exact cm_int | exact cm_bool | exact cm_str | exact sees_ro | (apply sees_slc; exact rfl; (first | exact rfl | assumption); (first | exact cut_h (by with_reducible assumption) | exact rfl | exact cut_m | exact cut_w)) | (apply sees_parts; exact rfl; (first | exact rfl | assumption); (repeat' (first | exact pq0 | (apply pq_ro; (first | with_reducible assumption | (simp only [List.length_take, List.length_drop, List.length_append] <;> omega) | exact rfl)) | refine pq_nil ?_ | (apply pq_slc; exact rfl; (first | exact rfl | assumption); (first | exact cut_h (by with_reducible assumption) | exact rfl | exact cut_m | exact cut_w); (first | with_reducible assumption | (simp only [List.length_take, List.length_drop, List.length_append] <;> omega) | exact rfl))))) | exact sees_nil8 | exact sees_nil | exact sees_ptr rfl (by first | exact rfl | assumption) rfl rfl | exact rfl) ?_ | refine caa (by first | exact et rfl | exact rfl) (by first | exact sees_m | exact rfl) ?_)) (hcap : caps.map (fun c => V.c (cm (cin [p] true H) 8 c)) = all.drop args.size := by exact rfl) (hp : H[p]? = some (some cs) := by exact rfl) (hcs : cs.map (cm (cin [p] true H) 8) = cs' := by first | exact sees_m | exact rfl) (hds : ds.map (cm (cout [p] true H.length) 8) = ds' := by first | exact sees_m | exact rfl) (e3 : sm (cm (cout [p] true H.length) 8) v = s := by first | exact rs_int | exact rs_bool | exact rs_m | exact rs_new | exact rs_nils | exact rs_str | exact rs_newp | exact rs_nilp | exact vt0 | exact vt2 (by first | exact vs_int | exact vs_bool | exact vs_m | exact vs_new | exact vs_nils | exact vs_str | exact vs_newp | exact vs_nilp | exact rfl) (by first | exact vs_int | exact vs_bool | exact vs_m | exact vs_new | exact vs_nils | exact vs_str | exact vs_newp | exact vs_nilp | exact rfl) | exact vt3 (by first | exact vs_int | exact vs_bool | exact vs_m | exact vs_new | exact vs_nils | exact vs_str | exact vs_newp | exact vs_nilp | exact rfl) (by first | exact vs_int | exact vs_bool | exact vs_m | exact vs_new | exact vs_nils | exact vs_str | exact vs_newp | exact vs_nilp | exact rfl) (by first | exact vs_int | exact vs_bool | exact vs_m | exact vs_new | exact vs_nils | exact vs_str | exact vs_newp | exact vs_nilp | exact rfl) | exact vt4 (by first | exact vs_int | exact vs_bool | exact vs_m | exact vs_new | exact vs_nils | exact vs_str | exact vs_newp | exact vs_nilp | exact rfl) (by first | exact vs_int | exact vs_bool | exact vs_m | exact vs_new | exact vs_nils | exact vs_str | exact vs_newp | exact vs_nilp | exact rfl) (by first | exact vs_int | exact vs_bool | exact vs_m | exact vs_new | exact vs_nils | exact vs_str | exact vs_newp | exact vs_nilp | exact rfl) (by first | exact vs_int | exact vs_bool | exact vs_m | exact vs_new | exact vs_nils | exact vs_str | exact vs_newp | exact vs_nilp | exact rfl) | exact rfl) : ostep P ⟨od, .call ⟨.value F, args, ats⟩, oty, ops_, oaf, ogu⟩ fr H K :=
  r_callcw p rfl hf ha hcap hp hcs ((List.take_append_drop args.size all).symm ▸ hg) hds e3 h
/-- A call that is handed some blocks, whatever it makes of them, and makes others. -/
def setB : List Nat → Heap → Heap → Heap
  | p :: π, x :: L, H => setB π L (H.set p x)
  | _, _, H => H
theorem setB_get : ∀ (π : List Nat) (L H : Heap) (j : Nat), π.Nodup → L.length = π.length → (setB π L H)[j]? = (H[j]?).map fun b => match idx j π with | some i => L.getD i none | none => b
  | [], [], H, j, _, _ => by simp [setB, idx]
  | [], _ :: _, _, _, _, h => by simp at h
  | _ :: _, [], _, _, _, h => by simp at h
  | p :: π, x :: L, H, j, hn, hl => by
    rw [setB, setB_get π L (H.set p x) j (List.nodup_cons.1 hn).2 (by simpa using hl), List.getElem?_set]
    by_cases hj : p = j
    · subst hj
      have hni : idx p π = none := by
        cases h : idx p π with
        | none => rfl
        | some i => exact absurd (List.mem_of_getElem? (idx_get h)) (List.nodup_cons.1 hn).1
      by_cases hlt : p < H.length
      · simp [hlt, idx, hni]
      · simp [hlt]
    · rw [if_neg hj]
      cases h : idx j π with
      | none => simp [idx, hj, h]
      | some i => simp [idx, hj, h]
theorem picks_map (f : Cell → Cell) : ∀ H : Heap, picks f H = H.map (Option.map (List.map f))
  | [] => rfl
  | some _ :: r => by simp [picks, picks_map f r]
  | none :: r => by simp [picks, picks_map f r]
theorem back_split {π : List Nat} {f : Cell → Cell} {H L N : Heap} (hnd : π.Nodup) (hl : L.length = π.length) : back π f H (L ++ N) = setB π (L.map (Option.map (List.map f))) H ++ N.map (Option.map (List.map f)) := by
  rw [back, ← hl, List.drop_left, picks_map]
  congr 1
  apply List.ext_getElem?
  intro j
  rw [putB_get, setB_get _ _ _ _ hnd (by simpa using hl), Nat.zero_add]
  congr 1
  funext b
  unfold pbk
  cases h : idx j π with
  | none => rfl
  | some i =>
    have hi : i < L.length := by rw [hl]; exact (List.getElem?_eq_some_iff.1 (idx_get h)).1
    simp only [pick, List.getElem?_append_left hi, List.getD_eq_getElem?_getD, List.getElem?_map, List.getElem?_eq_getElem hi]
    cases L[i] <;> rfl
theorem pl0 {H : Heap} {f : Cell → Cell} : ([] : List Nat).map (pick H f) = [] := rfl
theorem pl1 {H Hl : Heap} {f : Cell → Cell} {p : Nat} {π : List Nat} {cs cs' : List Cell} (hp : H[p]? = some (some cs)) (hc : cs.map f = cs') (h : π.map (pick H f) = Hl) : (p :: π).map (pick H f) = some cs' :: Hl := by
  simp [pick, hp, hc, ← h]
theorem ml0 {f : Cell → Cell} : ([] : Heap).map (Option.map (List.map f)) = [] := rfl
theorem ml1 {f : Cell → Cell} {L L' : Heap} {x y : List Cell} (hx : x.map f = y) (h : L.map (Option.map (List.map f)) = L') : (some x :: L).map (Option.map (List.map f)) = some y :: L' := by
  simp [hx, h]
theorem r_callv {P : Program} {fr : List S} {H : Heap} {K : S → Heap → Prop} {o : Oper} {f : Nat} {args : Array Operand} {ats : Array TypeId} {v s : S} {Hl L L' M M' : Heap} {args' : List V} (π : List Nat) (ho : o.op = .call ⟨.value (.func f), args, ats⟩)
    (ha : CA fr H π true args.toList args') (hnd : π.Nodup) (hπ : ∀ p ∈ π, p < H.length) (e2 : π.map (pick H (cm (cin π true H) 8)) = Hl) (hg : Good P f args' Hl v (L ++ M)) (hl : L.length = π.length)
    (eL : L.map (Option.map (List.map (cm (cout π true H.length) 8))) = L') (eM : M.map (Option.map (List.map (cm (cout π true H.length) 8))) = M') (e3 : sm (cm (cout π true H.length) 8) v = s) (h : K s (setB π L' H ++ M')) : ostep P o fr H K := by
  obtain ⟨avs, h1, h2⟩ := ha
  exact r_call π true ho rfl h1 hnd hπ (by simpa using h2) e2 hg e3 (by rw [back_split hnd hl, eL, eM]) h
theorem allB {π : List Nat} {n : Nat} (h : (π.all fun p => Nat.blt p n) = true) : ∀ p ∈ π, p < n := fun p hp => by
  have := List.all_eq_true.1 h p hp
  simpa [Nat.blt_eq] using this
theorem q_callv {P : Program} {fr : List S} {H : Heap} {K : S → Heap → Prop} {od : Option Nat} {oty : TypeId} {ops_ : String} {oaf : Array Edge} {ogu : Option (Nat × Bool)} {f : Nat} {args : Array Operand} {ats : Array TypeId} {v s : S} {Hl L' M' : Heap} {args' : List V} (π : List Nat) (L : Heap) (M : Heap)
    (hg : Good P f args' Hl v (L ++ M)) (h : K s (setB π L' H ++ M')) (ha : CA fr H π true args.toList args' := by repeat' (first | exact ca0 | refine cac (by first | exact et rfl | exact rfl) (by first | exact cm_int | exact cm_bool | exact cm_str | exact sees_ro | (apply sees_slc; exact rfl; (first | exact rfl | assumption); (first | exact cut_h (by with_reducible assumption) | exact rfl | exact cut_m | exact cut_w)) | (apply sees_parts; exact rfl; (first | exact rfl | assumption); (repeat' (first | exact pq0 | (apply pq_ro; (first | with_reducible assumption | (simp only [List.length_take, List.length_drop, List.length_append] <;> omega) | exact rfl)) | refine pq_nil ?_ | (apply pq_slc; exact rfl; (first | exact rfl | assumption); (first | exact cut_h (by with_reducible assumption) | exact rfl | exact cut_m | exact cut_w); (first | with_reducible assumption | (simp only [List.length_take, List.length_drop, List.length_append] <;> omega) | exact rfl))))) | exact sees_nil8 | exact sees_nil | exact sees_ptr rfl (by first | exact rfl | assumption) rfl rfl | exact rfl) ?_ | refine caa (by first | exact et rfl | exact rfl) (by first | exact sees_m | exact rfl) ?_)) (hnd : π.Nodup := by decide) (hπ : (π.all fun p => Nat.blt p H.length) = true := by exact rfl)
    (e2 : π.map (pick H (cm (cin π true H) 8)) = Hl := by repeat' (first | exact pl0 | refine pl1 rfl (by first | exact sees_m | exact rfl) ?_)) (hl : L.length = π.length := by exact rfl)
    (eL : L.map (Option.map (List.map (cm (cout π true H.length) 8))) = L' := by first | exact ml0 | exact ml1 (by first | exact sees_m | exact rfl) ml0 | exact ml1 (by first | exact sees_m | exact rfl) (ml1 (by first | exact sees_m | exact rfl) ml0) | exact ml1 (by first | exact sees_m | exact rfl) (ml1 (by first | exact sees_m | exact rfl) (ml1 (by first | exact sees_m | exact rfl) ml0)) | exact ml1 (by first | exact sees_m | exact rfl) (ml1 (by first | exact sees_m | exact rfl) (ml1 (by first | exact sees_m | exact rfl) (ml1 (by first | exact sees_m | exact rfl) ml0))) | exact ml1 (by first | exact sees_m | exact rfl) (ml1 (by first | exact sees_m | exact rfl) (ml1 (by first | exact sees_m | exact rfl) (ml1 (by first | exact sees_m | exact rfl) (ml1 (by first | exact sees_m | exact rfl) ml0))))) (eM : M.map (Option.map (List.map (cm (cout π true H.length) 8))) = M' := by first | exact ml0 | exact ml1 (by first | exact sees_m | exact rfl) ml0 | exact ml1 (by first | exact sees_m | exact rfl) (ml1 (by first | exact sees_m | exact rfl) ml0) | exact ml1 (by first | exact sees_m | exact rfl) (ml1 (by first | exact sees_m | exact rfl) (ml1 (by first | exact sees_m | exact rfl) ml0)) | exact ml1 (by first | exact sees_m | exact rfl) (ml1 (by first | exact sees_m | exact rfl) (ml1 (by first | exact sees_m | exact rfl) (ml1 (by first | exact sees_m | exact rfl) ml0))) | exact ml1 (by first | exact sees_m | exact rfl) (ml1 (by first | exact sees_m | exact rfl) (ml1 (by first | exact sees_m | exact rfl) (ml1 (by first | exact sees_m | exact rfl) (ml1 (by first | exact sees_m | exact rfl) ml0)))))
    (e3 : sm (cm (cout π true H.length) 8) v = s := by first | exact rs_int | exact rs_bool | exact rs_m | exact rs_new | exact rs_nils | exact rs_str | exact rs_newp | exact rs_nilp | exact vt0 | exact vt2 (by first | exact vs_int | exact vs_bool | exact vs_m | exact vs_new | exact vs_nils | exact vs_str | exact vs_newp | exact vs_nilp | exact rfl) (by first | exact vs_int | exact vs_bool | exact vs_m | exact vs_new | exact vs_nils | exact vs_str | exact vs_newp | exact vs_nilp | exact rfl) | exact vt3 (by first | exact vs_int | exact vs_bool | exact vs_m | exact vs_new | exact vs_nils | exact vs_str | exact vs_newp | exact vs_nilp | exact rfl) (by first | exact vs_int | exact vs_bool | exact vs_m | exact vs_new | exact vs_nils | exact vs_str | exact vs_newp | exact vs_nilp | exact rfl) (by first | exact vs_int | exact vs_bool | exact vs_m | exact vs_new | exact vs_nils | exact vs_str | exact vs_newp | exact vs_nilp | exact rfl) | exact vt4 (by first | exact vs_int | exact vs_bool | exact vs_m | exact vs_new | exact vs_nils | exact vs_str | exact vs_newp | exact vs_nilp | exact rfl) (by first | exact vs_int | exact vs_bool | exact vs_m | exact vs_new | exact vs_nils | exact vs_str | exact vs_newp | exact vs_nilp | exact rfl) (by first | exact vs_int | exact vs_bool | exact vs_m | exact vs_new | exact vs_nils | exact vs_str | exact vs_newp | exact vs_nilp | exact rfl) (by first | exact vs_int | exact vs_bool | exact vs_m | exact vs_new | exact vs_nils | exact vs_str | exact vs_newp | exact vs_nilp | exact rfl) | exact rfl) : ostep P ⟨od, .call ⟨.value (.func f), args, ats⟩, oty, ops_, oaf, ogu⟩ fr H K :=
  r_callv π rfl ha hnd (allB hπ) e2 hg hl eL eM e3 h
theorem pi01 : ∀ p : Nat, p < 2 → [0, 1][p]? = some p := by
  intro p hp
  match p, hp with
  | 0, _ => rfl
  | 1, _ => rfl
theorem pi012 : ∀ p : Nat, p < 3 → [0, 1, 2][p]? = some p := by
  intro p hp
  match p, hp with
  | 0, _ => rfl
  | 1, _ => rfl
  | 2, _ => rfl
section
variable {P : Program} {fr : List S} {H : Heap} {K : S → Heap → Prop} {od : Option Nat} {oty : TypeId} {ops_ : String} {oaf : Array Edge} {ogu : Option (Nat × Bool)} {t u : TypeId} {ti : TI} {a b : Operand}
end
/-- Constants laid into cells. -/
def intC : Value → Option Cell
  | .int k n => some (.int k n)
  | _ => none
def fillC (place : Nat → Option (Nat × Nat)) : List Cell → List (Nat × Operand) → Option (List Cell)
  | cells, [] => some cells
  | cells, (i, .const v) :: r => match place i, intC v with
    | some (off, 1), some c => bif Nat.blt off cells.length then fillC place (cells.set off c) r else none
    | _, _ => none
  | _, _ => none
theorem fkC_go {fr : List S} {place : Nat → Option (Nat × Nat)} {KK : List Cell → Prop} {out : List Cell} (h : KK out) : ∀ (parts : List (Nat × Operand)) (cells : List Cell), fillC place cells parts = some out → fillK fr place KK cells parts
  | [], cells, hc => by
    simp only [fillC, Option.some.injEq] at hc
    subst hc; exact h
  | (i, .const v) :: r, cells, hc => by
    simp only [fillC] at hc
    split at hc
    · rename_i off c hp hv
      cases hb : Nat.blt off cells.length with
      | false => rw [hb] at hc; cases hc
      | true =>
        rw [hb] at hc
        have hv' : ev fr (.const v) = sc c ∧ cellsV (sc c) = some [c] := by
          cases v <;> simp only [intC, Option.some.injEq, reduceCtorEq] at hv
          subst hv; exact ⟨rfl, rfl⟩
        exact fkc hp hv'.1 hv'.2 (by simpa [Nat.blt_eq] using hb) (fkC_go h r _ hc)
    · cases hc
  | (i, .tmp n) :: r, cells, hc => by simp [fillC] at hc
  | (i, .func n) :: r, cells, hc => by simp [fillC] at hc
  | (i, .global n) :: r, cells, hc => by simp [fillC] at hc
theorem fkC {fr : List S} {place : Nat → Option (Nat × Nat)} {KK : List Cell → Prop} {cells out : List Cell} {parts : List (Nat × Operand)} (h : KK out) (hc : fillC place cells parts = some out := by kernel_rfl) : fillK fr place KK cells parts := fkC_go h parts cells hc
/-! A body's end, whatever blocks are told. -/
theorem fx0 {P : Program} {st : St} {fn : Func} {v : S} {H' : Heap} {n : Nat} (π : List Nat) (hl : fn.results.toList = [] := by exact rfl) (hH : π.map (pick st.H (cm ⟨fun p => idx p π, fun _ => none, true, false⟩ 8)) = H' := by repeat' (first | exact pl0 | refine pl1 rfl (by first | exact sees_m | exact rfl) ?_)) (hv : v = .t [] := by exact rfl) (hnd : π.Nodup := by decide) (hn : ∀ p, p < n → π[p]? = some p := by first | exact fun p h => absurd h (Nat.not_lt_zero _) | exact pi0 | exact pi01 | exact pi012) : fin P fn n v H' st :=
  fin_g (ys := []) π hn hnd hv hl rv0 hH.symm
theorem fx1 {P : Program} {st : St} {fn : Func} {v : S} {H' : Heap} {n : Nat} {t0 : Nat} {x0 y0 : V} (π : List Nat) (hl : fn.results.toList = [.tmp t0] := by exact rfl) (hx0 : ev st.fr (.tmp t0) = .v x0 := by first | exact et rfl | exact rfl) (hm0 : vm (cm ⟨fun p => idx p π, fun _ => none, true, false⟩ 8) x0 = y0 := by first | exact vs_int | exact vs_bool | exact vs_m | exact vs_str | exact vs_nilp | exact rfl) (hH : π.map (pick st.H (cm ⟨fun p => idx p π, fun _ => none, true, false⟩ 8)) = H' := by repeat' (first | exact pl0 | refine pl1 rfl (by first | exact sees_m | exact rfl) ?_)) (hv : v = .v y0 := by exact rfl) (hnd : π.Nodup := by decide) (hn : ∀ p, p < n → π[p]? = some p := by first | exact fun p h => absurd h (Nat.not_lt_zero _) | exact pi0 | exact pi01 | exact pi012) : fin P fn n v H' st :=
  fin_g (ys := [y0]) π hn hnd hv hl (rvt hx0 hm0 rv0) hH.symm
theorem fx2 {P : Program} {st : St} {fn : Func} {v : S} {H' : Heap} {n : Nat} {t0 t1 : Nat} {x0 y0 x1 y1 : V} (π : List Nat) (hl : fn.results.toList = [.tmp t0, .tmp t1] := by exact rfl) (hx0 : ev st.fr (.tmp t0) = .v x0 := by first | exact et rfl | exact rfl) (hm0 : vm (cm ⟨fun p => idx p π, fun _ => none, true, false⟩ 8) x0 = y0 := by first | exact vs_int | exact vs_bool | exact vs_m | exact vs_str | exact vs_nilp | exact rfl) (hx1 : ev st.fr (.tmp t1) = .v x1 := by first | exact et rfl | exact rfl) (hm1 : vm (cm ⟨fun p => idx p π, fun _ => none, true, false⟩ 8) x1 = y1 := by first | exact vs_int | exact vs_bool | exact vs_m | exact vs_str | exact vs_nilp | exact rfl) (hH : π.map (pick st.H (cm ⟨fun p => idx p π, fun _ => none, true, false⟩ 8)) = H' := by repeat' (first | exact pl0 | refine pl1 rfl (by first | exact sees_m | exact rfl) ?_)) (hv : v = .t [y0, y1] := by exact rfl) (hnd : π.Nodup := by decide) (hn : ∀ p, p < n → π[p]? = some p := by first | exact fun p h => absurd h (Nat.not_lt_zero _) | exact pi0 | exact pi01 | exact pi012) : fin P fn n v H' st :=
  fin_g (ys := [y0, y1]) π hn hnd hv hl (rvt hx0 hm0 (rvt hx1 hm1 rv0)) hH.symm
/-- In a region that draws its order: an operation that looks at one block. -/
theorem DSp {P : Program} {N : Nat} {al : List (Nat × S)} {H : Heap} {ops r : List Oper} {q : St → Prop} {op : Op} {oty : TypeId} {ops_ : String} {oaf : Array Edge} {d : Nat} {lo hi : List Nat} {i : Nat} {rem : List Nat} {hist : List Heap} {pend : List (Nat × Heap)} {s : S} (p : Nat) {cs : List Cell}
    (_hp : H[p]? = some (some cs)) (h : ∀ V' : Heap, V'[p]? = some (some cs) → ostep P ⟨some d, op, oty, ops_, oaf, none⟩ (frm N al) V' fun s' H' => s' = s ∧ H' = V')
    (k : Dw P ops lo hi q r (i + 1) rem (H :: hist) ((hi.getD i 0, one p cs) :: pend) (frm N ((d, s) :: al))) (hne : (rem.head? == some i) = false := by exact rfl)
    (hs : seen (one p cs) ((H :: hist).take ((hist.length + 1) - lo.getD i 0)) := by repeat' (first | exact trivial | exact sub_one rfl | refine And.intro ?_ ?_)) : Dw P ops lo hi q (⟨some d, op, oty, ops_, oaf, none⟩ :: r) i rem (H :: hist) pend (frm N al) :=
  dR p rfl (tk rfl) hne hs h k
section
variable {P : Program} {N : Nat} {al : List (Nat × S)} {H : Heap} {ops r : List Oper} {q : St → Prop} {oty : TypeId} {ops_ : String} {oaf : Array Edge} {d j w : Nat} {want : Bool} {oj : Oper}
variable {lo hi : List Nat} {i : Nat} {rem : List Nat} {hist : List Heap} {pend : List (Nat × Heap)} {t : TypeId} {ti : TI} {x : Operand} {p : Nat} {cs : List Cell}
theorem DLwg [it : TiOf P t ti] (k : Dw P ops lo hi q r (i + 1) rem (H :: hist) ((hi.getD i 0, one p cs) :: pend) (frm N ((d, sa cs) :: al))) (hx : ev (frm N al) x = sc (.ptr p 0) := by first | exact et rfl | exact rfl) (_hp : H[p]? = some (some cs) := by exact rfl) (hk : ti.kind.agg = true := by exact rfl) (hz : Nat.blt 0 ti.size = true := by exact rfl) (hl : cs.length = ti.size := by first | omega | with_reducible assumption | exact (mapc_length ..).trans (by with_reducible assumption) | (simp only [List.length_set, List.length_append, List.length_replicate, List.length_take, List.length_drop, List.length_map, List.length_cons, List.length_nil, mapc_length] <;> omega) | exact rfl | exact Nat.le_of_ble_eq_true rfl) (hne : (rem.head? == some i) = false := by exact rfl)
    (hs : seen (one p cs) ((H :: hist).take ((hist.length + 1) - lo.getD i 0)) := by repeat' (first | exact trivial | exact sub_one rfl | refine And.intro ?_ ?_)) (hj : ops[j]? = some oj := by exact rfl) (hjd : oj.dst = some w := by exact rfl) (hv : lkpB N al w = .v (.c (.bool want)) := by first | exact rfl | exact congrArg (fun b => S.v (V.c (Cell.bool b))) (by assumption) | exact congrArg (fun b => S.v (V.c (Cell.bool b))) (decide_eq_true (by assumption)) | exact congrArg (fun b => S.v (V.c (Cell.bool b))) (decide_eq_false (by assumption))) : Dw P ops lo hi q (⟨some d, .load t x, oty, ops_, oaf, some (j, want)⟩ :: r) i rem (H :: hist) pend (frm N al) :=
  dR p rfl (tkg rfl hj hjd hv) hne hs (fun _ hv => r_ldw rfl it.h hk hz hx hv hl ⟨rfl, rfl⟩) k
end
end Go.Abs

/- The abstract machine: functions without a body that the model stands in for. -/
namespace Go.Abs
open Go

theorem av0 {fr : List S} : argVs fr [] = some [] := rfl
theorem av1 {fr : List S} {x : Operand} {r : List Operand} {y : V} {ys : List V} (hx : ev fr x = .v y) (h : argVs fr r = some ys) : argVs fr (x :: r) = some (y :: ys) := by
  simp only [argVs, hx, h]
theorem q_callx {P : Program} {fr : List S} {H : Heap} {K : S → Heap → Prop} {od : Option Nat} {oty : TypeId} {ops_ : String} {oaf : Array Edge} {ogu : Option (Nat × Bool)} {f : Nat} {args : Array Operand} {ats : Array TypeId} {v : S} {avs : List V}
    (hx : Ext P f avs v) (h : K v H) (ha : argVs fr args.toList = some avs := by repeat' (first | exact av0 | refine av1 (by first | exact et rfl | exact rfl) ?_)) : ostep P ⟨od, .call ⟨.value (.func f), args, ats⟩, oty, ops_, oaf, ogu⟩ fr H K := by
  simp only [ostep, callO]
  rw [show ev fr (.func f) = sc (.fn f []) from rfl, ha]
  exact .inr ⟨rfl, v, hx, h⟩

/-- A sum with a carry, a difference with a borrow. -/
def addc (x y c : UInt64) : UInt64 := if 18446744073709551616 ≤ x.toNat + y.toNat + c.toNat then 1 else 0
def subb (x y c : UInt64) : UInt64 := if x.toNat < y.toNat + c.toNat then 1 else 0
theorem addc_le (x y c : UInt64) : (addc x y c).toNat ≤ 1 := by unfold addc; split <;> decide
theorem subb_le (x y c : UInt64) : (subb x y c).toNat ≤ 1 := by unfold subb; split <;> decide

def subEntry : Array Value → Sem Value := fun args => do
  let (x, y, b) ← Extern.MathBitsCarry.three "Sub64" args
  pure (Extern.MathBitsCarry.pair ((x + Extern.MathBitsCarry.m64 - y - b) % Extern.MathBitsCarry.m64) (if x < y + b then 1 else 0))
theorem run_sub {P : Program} (x y b : Nat) (hb : b ≤ 1) (w : World) :
    (subEntry #[.int .u64 x, .int .u64 y, .int .u64 b]).run P w =
      .ok (.tuple #[.int .u64 (((x + 18446744073709551616 - y - b) % 18446744073709551616 : Nat) : Int), .int .u64 ((if x < y + b then 1 else 0 : Nat) : Int)]) w := by
  have : b = 0 ∨ b = 1 := by omega
  rcases this with rfl | rfl <;> rfl

theorem ext3 {R : Rl} {x y c : UInt64} {rargs : List Value} (h : VsRel R [.c (c64 x), .c (c64 y), .c (c64 c)] rargs) : rargs = [.int .u64 x.toNat, .int .u64 y.toNat, .int .u64 c.toNat] := by
  simp only [VsRel, VRel, CRel] at h
  obtain ⟨v, vs, rfl, rfl, v', vs', rfl, rfl, v'', vs'', rfl, rfl, rfl⟩ := h
  rfl
theorem add_ext {P : Program} {k : Nat} {fn : Func} (hf : P.funcs[k]? = some fn) (hname : (fn.name == "runtime.NumGoroutine") = false) (hb : fn.body.isNone = true) (hn : Extern.findNext fn = none) (he : Extern.find fn = some add64Entry)
    (x y c : UInt64) (hc : c.toNat ≤ 1) : Ext P k [.c (c64 x), .c (c64 y), .c (c64 c)] (.t [.c (c64 (x + y + c)), .c (c64 (addc x y c))]) := by
  intro R w rargs h
  rw [ext3 h]
  refine ⟨.tuple #[.int .u64 (x + y + c).toNat, .int .u64 (addc x y c).toNat], ?_, #[.int .u64 (x + y + c).toNat, .int .u64 (addc x y c).toNat], rfl, ?_⟩
  · rw [run_callFunc_extern hf hname hb hn he]
    have hx := x.toNat_lt
    have hy := y.toNat_lt
    rw [show ([.int .u64 x.toNat, .int .u64 y.toNat, .int .u64 c.toNat] : List Value).toArray = #[.int .u64 (x.toNat : Int), .int .u64 (y.toNat : Int), .int .u64 (c.toNat : Int)] from rfl, run_add64 _ _ _ (by omega) (by omega) (by omega) (by omega)]
    simp only [Result.andThen]
    have e1 : (x + y + c).toNat = (x.toNat + y.toNat + c.toNat) % 18446744073709551616 := by simp [UInt64.toNat_add]
    have e2 : (addc x y c).toNat = (x.toNat + y.toNat + c.toNat) / 18446744073709551616 := by
      unfold addc
      split
      · show 1 = _; omega
      · show 0 = _; omega
    rw [e1, e2]
    congr 5 <;> omega
  · simp only [VsRel, VRel, CRel]
    exact ⟨_, _, rfl, rfl, _, _, rfl, rfl, rfl⟩
theorem sub_ext {P : Program} {k : Nat} {fn : Func} (hf : P.funcs[k]? = some fn) (hname : (fn.name == "runtime.NumGoroutine") = false) (hb : fn.body.isNone = true) (hn : Extern.findNext fn = none) (he : Extern.find fn = some subEntry)
    (x y c : UInt64) (hc : c.toNat ≤ 1) : Ext P k [.c (c64 x), .c (c64 y), .c (c64 c)] (.t [.c (c64 (x - y - c)), .c (c64 (subb x y c))]) := by
  intro R w rargs h
  rw [ext3 h]
  refine ⟨.tuple #[.int .u64 (x - y - c).toNat, .int .u64 (subb x y c).toNat], ?_, #[.int .u64 (x - y - c).toNat, .int .u64 (subb x y c).toNat], rfl, ?_⟩
  · rw [run_callFunc_extern hf hname hb hn he]
    have hx := x.toNat_lt
    have hy := y.toNat_lt
    rw [show ([.int .u64 x.toNat, .int .u64 y.toNat, .int .u64 c.toNat] : List Value).toArray = #[.int .u64 (x.toNat : Int), .int .u64 (y.toNat : Int), .int .u64 (c.toNat : Int)] from rfl, run_sub _ _ _ hc]
    simp only [Result.andThen]
    have e1 : (x - y - c).toNat = (x.toNat + 18446744073709551616 - y.toNat - c.toNat) % 18446744073709551616 := by
      rw [UInt64.toNat_sub, UInt64.toNat_sub]
      omega
    have e2 : (subb x y c).toNat = if x.toNat < y.toNat + c.toNat then 1 else 0 := by
      unfold subb
      split <;> rfl
    rw [e1, e2]
  · simp only [VsRel, VRel, CRel]
    exact ⟨_, _, rfl, rfl, _, _, rfl, rfl, rfl⟩
/-- What the model stands in for, by the function's number. -/
class AddX (P : Program) (k : Nat) : Prop where h : ∀ x y c : UInt64, c.toNat ≤ 1 → Ext P k [.c (c64 x), .c (c64 y), .c (c64 c)] (.t [.c (c64 (x + y + c)), .c (c64 (addc x y c))])
class SubX (P : Program) (k : Nat) : Prop where h : ∀ x y c : UInt64, c.toNat ≤ 1 → Ext P k [.c (c64 x), .c (c64 y), .c (c64 c)] (.t [.c (c64 (x - y - c)), .c (c64 (subb x y c))])
section
variable {P : Program} {fr : List S} {H : Heap} {K : S → Heap → Prop} {od : Option Nat} {oty : TypeId} {ops_ : String} {oaf : Array Edge} {ogu : Option (Nat × Bool)} {f : Nat} {a b d : Operand} {ats : Array TypeId} {x y c : UInt64}
theorem q_addx [ax : AddX P f] (h : K (.t [.c (c64 (x + y + c)), .c (c64 (addc x y c))]) H) (hx : ev fr a = sc (c64 x) := by first | exact et rfl | exact rfl) (hy : ev fr b = sc (c64 y) := by first | exact et rfl | exact rfl) (hz : ev fr d = sc (c64 c) := by first | exact et rfl | exact rfl)
    (hc : c.toNat ≤ 1 := by first | exact addc_le .. | exact subb_le .. | assumption | decide) : ostep P ⟨od, .call ⟨.value (.func f), #[a, b, d], ats⟩, oty, ops_, oaf, ogu⟩ fr H K := q_callx (ax.h x y c hc) h (av1 hx (av1 hy (av1 hz av0)))
theorem q_subx [ax : SubX P f] (h : K (.t [.c (c64 (x - y - c)), .c (c64 (subb x y c))]) H) (hx : ev fr a = sc (c64 x) := by first | exact et rfl | exact rfl) (hy : ev fr b = sc (c64 y) := by first | exact et rfl | exact rfl) (hz : ev fr d = sc (c64 c) := by first | exact et rfl | exact rfl)
    (hc : c.toNat ≤ 1 := by first | exact addc_le .. | exact subb_le .. | assumption | decide) : ostep P ⟨od, .call ⟨.value (.func f), #[a, b, d], ats⟩, oty, ops_, oaf, ogu⟩ fr H K := q_callx (ax.h x y c hc) h (av1 hx (av1 hy (av1 hz av0)))
end
end Go.Abs

/- The types of the program, as the abstract machine asks for them. -/
namespace Go.Proofs.Ytlnepajgnckolaa
open Go Go.Abs Go.Proofs

abbrev T3 : TI := ⟨1, 8, some ([cn 0]), .int .i64, true⟩
theorem y3 : tiOf Try.prog 3 = some T3 := by kernel_rfl
instance : TiOf Try.prog 3 T3 := ⟨y3⟩
abbrev T4 : TI := ⟨1, 1, some ([.bool false]), .bool, true⟩
theorem y4 : tiOf Try.prog 4 = some T4 := by kernel_rfl
instance : TiOf Try.prog 4 T4 := ⟨y4⟩
abbrev T5 : TI := ⟨1, 1, some ([c8 0]), .int .u8, true⟩
theorem y5 : tiOf Try.prog 5 = some T5 := by kernel_rfl
instance : TiOf Try.prog 5 T5 := ⟨y5⟩
abbrev T9 : TI := ⟨1, 16, some ([.str ⟨#[]⟩]), .str, true⟩
theorem y9 : tiOf Try.prog 9 = some T9 := by kernel_rfl
instance : TiOf Try.prog 9 T9 := ⟨y9⟩
abbrev T23 : TI := ⟨32, 32, some (u8s (List.replicate 32 0)), .array 32 5, true⟩
theorem y23 : tiOf Try.prog 23 = some T23 := by kernel_rfl
instance : TiOf Try.prog 23 T23 := ⟨y23⟩
abbrev T27 : TI := ⟨1, 8, some ([.nilp]), .ptr 69, true⟩
theorem y27 : tiOf Try.prog 27 = some T27 := by kernel_rfl
instance : TiOf Try.prog 27 T27 := ⟨y27⟩
abbrev T30 : TI := ⟨1, 8, some ([c64 0]), .int .u64, true⟩
theorem y30 : tiOf Try.prog 30 = some T30 := by kernel_rfl
instance : TiOf Try.prog 30 T30 := ⟨y30⟩
abbrev T34 : TI := ⟨1, 24, some ([.nils]), .slice 5, true⟩
theorem y34 : tiOf Try.prog 34 = some T34 := by kernel_rfl
instance : TiOf Try.prog 34 T34 := ⟨y34⟩
abbrev T35 : TI := ⟨1, 8, some ([cn 0]), .int .i64, true⟩
theorem y35 : tiOf Try.prog 35 = some T35 := by kernel_rfl
instance : TiOf Try.prog 35 T35 := ⟨y35⟩
abbrev T47 : TI := ⟨1, 8, some ([.nilp]), .ptr 72, true⟩
theorem y47 : tiOf Try.prog 47 = some T47 := by kernel_rfl
instance : TiOf Try.prog 47 T47 := ⟨y47⟩
abbrev T67 : TI := ⟨1, 8, some ([.nilp]), .ptr 23, true⟩
theorem y67 : tiOf Try.prog 67 = some T67 := by kernel_rfl
instance : TiOf Try.prog 67 T67 := ⟨y67⟩
abbrev T69 : TI := ⟨3, 24, some ([.nilp, c64 0, .bool false]), .struct [(0, 67), (1, 30), (2, 4)], true⟩
theorem y69 : tiOf Try.prog 69 = some T69 := by kernel_rfl
instance : TiOf Try.prog 69 T69 := ⟨y69⟩
abbrev T70 : TI := ⟨1, 24, some ([.nils]), .slice 27, true⟩
theorem y70 : tiOf Try.prog 70 = some T70 := by kernel_rfl
instance : TiOf Try.prog 70 T70 := ⟨y70⟩
abbrev T72 : TI := ⟨65, 72, some ([.nilp] ++ u8s (List.replicate 64 0)), .struct [(0, 27), (1, 23), (33, 23)], true⟩
theorem y72 : tiOf Try.prog 72 = some T72 := by kernel_rfl
instance : TiOf Try.prog 72 T72 := ⟨y72⟩
abbrev T73 : TI := ⟨1, 24, some ([.nils]), .slice 47, true⟩
theorem y73 : tiOf Try.prog 73 = some T73 := by kernel_rfl
instance : TiOf Try.prog 73 T73 := ⟨y73⟩
abbrev T77 : TI := ⟨12, 12, some (u8s (List.replicate 12 0)), .array 12 5, true⟩
theorem y77 : tiOf Try.prog 77 = some T77 := by kernel_rfl
instance : TiOf Try.prog 77 T77 := ⟨y77⟩
abbrev T85 : TI := ⟨1, 24, some ([.nils]), .slice 23, true⟩
theorem y85 : tiOf Try.prog 85 = some T85 := by kernel_rfl
instance : TiOf Try.prog 85 T85 := ⟨y85⟩
abbrev T88 : TI := ⟨1, 4, some ([c32 0]), .int .u32, true⟩
theorem y88 : tiOf Try.prog 88 = some T88 := by kernel_rfl
instance : TiOf Try.prog 88 T88 := ⟨y88⟩
abbrev T89 : TI := ⟨16, 16, some (u8s (List.replicate 16 0)), .array 16 5, true⟩
theorem y89 : tiOf Try.prog 89 = some T89 := by kernel_rfl
instance : TiOf Try.prog 89 T89 := ⟨y89⟩
abbrev T92 : TI := ⟨1, 8, some ([c64 0]), .int .u64, true⟩
theorem y92 : tiOf Try.prog 92 = some T92 := by kernel_rfl
instance : TiOf Try.prog 92 T92 := ⟨y92⟩
abbrev T94 : TI := ⟨1, 24, some ([.nils]), .slice 34, true⟩
theorem y94 : tiOf Try.prog 94 = some T94 := by kernel_rfl
instance : TiOf Try.prog 94 T94 := ⟨y94⟩
abbrev T95 : TI := ⟨8, 32, some (u32s (List.replicate 8 0)), .array 8 88, true⟩
theorem y95 : tiOf Try.prog 95 = some T95 := by kernel_rfl
instance : TiOf Try.prog 95 T95 := ⟨y95⟩
abbrev T97 : TI := ⟨16, 128, some (i64s (List.replicate 16 0)), .array 16 3, true⟩
theorem y97 : tiOf Try.prog 97 = some T97 := by kernel_rfl
instance : TiOf Try.prog 97 T97 := ⟨y97⟩
abbrev T98 : TI := ⟨160, 1280, some (i64s (List.replicate 160 0)), .array 10 97, true⟩
theorem y98 : tiOf Try.prog 98 = some T98 := by kernel_rfl
instance : TiOf Try.prog 98 T98 := ⟨y98⟩
abbrev T100 : TI := ⟨64, 64, some (u8s (List.replicate 64 0)), .array 64 5, true⟩
theorem y100 : tiOf Try.prog 100 = some T100 := by kernel_rfl
instance : TiOf Try.prog 100 T100 := ⟨y100⟩
abbrev T106 : TI := ⟨1, 24, some ([.nils]), .slice 108, true⟩
theorem y106 : tiOf Try.prog 106 = some T106 := by kernel_rfl
instance : TiOf Try.prog 106 T106 := ⟨y106⟩
abbrev T108 : TI := ⟨1, 24, some ([.nils]), .slice 3, true⟩
theorem y108 : tiOf Try.prog 108 = some T108 := by kernel_rfl
instance : TiOf Try.prog 108 T108 := ⟨y108⟩
abbrev T109 : TI := ⟨16, 64, some (u32s (List.replicate 16 0)), .array 16 88, true⟩
theorem y109 : tiOf Try.prog 109 = some T109 := by kernel_rfl
instance : TiOf Try.prog 109 T109 := ⟨y109⟩
abbrev T112 : TI := ⟨64, 64, some (u8s (List.replicate 64 0)), .array 64 5, true⟩
theorem y112 : tiOf Try.prog 112 = some T112 := by kernel_rfl
instance : TiOf Try.prog 112 T112 := ⟨y112⟩
abbrev T118 : TI := ⟨1, 24, some ([.nils]), .slice 88, true⟩
theorem y118 : tiOf Try.prog 118 = some T118 := by kernel_rfl
instance : TiOf Try.prog 118 T118 := ⟨y118⟩
abbrev T122 : TI := ⟨1, 24, some ([.nils]), .slice 30, true⟩
theorem y122 : tiOf Try.prog 122 = some T122 := by kernel_rfl
instance : TiOf Try.prog 122 T122 := ⟨y122⟩
abbrev T125 : TI := ⟨2, 16, some (i64s (List.replicate 2 0)), .array 2 3, true⟩
theorem y125 : tiOf Try.prog 125 = some T125 := by kernel_rfl
instance : TiOf Try.prog 125 T125 := ⟨y125⟩
abbrev T126 : TI := ⟨4, 32, some (i64s (List.replicate 4 0)), .array 2 125, true⟩
theorem y126 : tiOf Try.prog 126 = some T126 := by kernel_rfl
instance : TiOf Try.prog 126 T126 := ⟨y126⟩
abbrev T129 : TI := ⟨2, 16, some (u64s (List.replicate 2 0)), .array 2 30, true⟩
theorem y129 : tiOf Try.prog 129 = some T129 := by kernel_rfl
instance : TiOf Try.prog 129 T129 := ⟨y129⟩
abbrev T130 : TI := ⟨3, 24, some (u64s (List.replicate 3 0)), .array 3 30, true⟩
theorem y130 : tiOf Try.prog 130 = some T130 := by kernel_rfl
instance : TiOf Try.prog 130 T130 := ⟨y130⟩
abbrev T131 : TI := ⟨24, 24, some (u8s (List.replicate 24 0)), .array 24 5, true⟩
theorem y131 : tiOf Try.prog 131 = some T131 := by kernel_rfl
instance : TiOf Try.prog 131 T131 := ⟨y131⟩
abbrev T137 : TI := ⟨16, 128, some (u64s (List.replicate 16 0)), .array 16 30, true⟩
theorem y137 : tiOf Try.prog 137 = some T137 := by kernel_rfl
instance : TiOf Try.prog 137 T137 := ⟨y137⟩
abbrev T139 : TI := ⟨17, 136, some (u64s (List.replicate 17 0)), .array 17 30, true⟩
theorem y139 : tiOf Try.prog 139 = some T139 := by kernel_rfl
instance : TiOf Try.prog 139 T139 := ⟨y139⟩
abbrev T140 : TI := ⟨34, 272, some (u64s (List.replicate 34 0)), .array 34 30, true⟩
theorem y140 : tiOf Try.prog 140 = some T140 := by kernel_rfl
instance : TiOf Try.prog 140 T140 := ⟨y140⟩
abbrev T143 : TI := ⟨5, 40, some (u64s (List.replicate 5 0)), .array 5 30, true⟩
theorem y143 : tiOf Try.prog 143 = some T143 := by kernel_rfl
instance : TiOf Try.prog 143 T143 := ⟨y143⟩
instance : ZT Try.prog 3 T3 ([cn 0]) := ⟨y3, rfl⟩
instance : ZT Try.prog 4 T4 ([.bool false]) := ⟨y4, rfl⟩
instance : ZT Try.prog 5 T5 ([c8 0]) := ⟨y5, rfl⟩
instance : ZT Try.prog 9 T9 ([.str ⟨#[]⟩]) := ⟨y9, rfl⟩
instance : ZT Try.prog 23 T23 (u8s (List.replicate 32 0)) := ⟨y23, rfl⟩
instance : ZT Try.prog 27 T27 ([.nilp]) := ⟨y27, rfl⟩
instance : ZT Try.prog 30 T30 ([c64 0]) := ⟨y30, rfl⟩
instance : ZT Try.prog 34 T34 ([.nils]) := ⟨y34, rfl⟩
instance : ZT Try.prog 35 T35 ([cn 0]) := ⟨y35, rfl⟩
instance : ZT Try.prog 47 T47 ([.nilp]) := ⟨y47, rfl⟩
instance : ZT Try.prog 67 T67 ([.nilp]) := ⟨y67, rfl⟩
instance : ZT Try.prog 69 T69 ([.nilp, c64 0, .bool false]) := ⟨y69, rfl⟩
instance : StT Try.prog 69 T69 [(0, 67), (1, 30), (2, 4)] := ⟨y69, rfl⟩
instance : ZT Try.prog 70 T70 ([.nils]) := ⟨y70, rfl⟩
instance : ZT Try.prog 72 T72 ([.nilp] ++ u8s (List.replicate 64 0)) := ⟨y72, rfl⟩
instance : StT Try.prog 72 T72 [(0, 27), (1, 23), (33, 23)] := ⟨y72, rfl⟩
instance : ZT Try.prog 73 T73 ([.nils]) := ⟨y73, rfl⟩
instance : ZT Try.prog 77 T77 (u8s (List.replicate 12 0)) := ⟨y77, rfl⟩
instance : ZT Try.prog 85 T85 ([.nils]) := ⟨y85, rfl⟩
instance : ZT Try.prog 88 T88 ([c32 0]) := ⟨y88, rfl⟩
instance : ZT Try.prog 89 T89 (u8s (List.replicate 16 0)) := ⟨y89, rfl⟩
instance : ZT Try.prog 92 T92 ([c64 0]) := ⟨y92, rfl⟩
instance : ZT Try.prog 94 T94 ([.nils]) := ⟨y94, rfl⟩
instance : ZT Try.prog 95 T95 (u32s (List.replicate 8 0)) := ⟨y95, rfl⟩
instance : ZT Try.prog 97 T97 (i64s (List.replicate 16 0)) := ⟨y97, rfl⟩
instance : ZT Try.prog 98 T98 (i64s (List.replicate 160 0)) := ⟨y98, rfl⟩
instance : ZT Try.prog 100 T100 (u8s (List.replicate 64 0)) := ⟨y100, rfl⟩
instance : ZT Try.prog 106 T106 ([.nils]) := ⟨y106, rfl⟩
instance : ZT Try.prog 108 T108 ([.nils]) := ⟨y108, rfl⟩
instance : ZT Try.prog 109 T109 (u32s (List.replicate 16 0)) := ⟨y109, rfl⟩
instance : ZT Try.prog 112 T112 (u8s (List.replicate 64 0)) := ⟨y112, rfl⟩
instance : ZT Try.prog 118 T118 ([.nils]) := ⟨y118, rfl⟩
instance : ZT Try.prog 122 T122 ([.nils]) := ⟨y122, rfl⟩
instance : ZT Try.prog 125 T125 (i64s (List.replicate 2 0)) := ⟨y125, rfl⟩
instance : ZT Try.prog 126 T126 (i64s (List.replicate 4 0)) := ⟨y126, rfl⟩
instance : ZT Try.prog 129 T129 (u64s (List.replicate 2 0)) := ⟨y129, rfl⟩
instance : ZT Try.prog 130 T130 (u64s (List.replicate 3 0)) := ⟨y130, rfl⟩
instance : ZT Try.prog 131 T131 (u8s (List.replicate 24 0)) := ⟨y131, rfl⟩
instance : ZT Try.prog 137 T137 (u64s (List.replicate 16 0)) := ⟨y137, rfl⟩
instance : ZT Try.prog 139 T139 (u64s (List.replicate 17 0)) := ⟨y139, rfl⟩
instance : ZT Try.prog 140 T140 (u64s (List.replicate 34 0)) := ⟨y140, rfl⟩
instance : ZT Try.prog 143 T143 (u64s (List.replicate 5 0)) := ⟨y143, rfl⟩
instance : ArT Try.prog 23 T23 32 5 T5 1 := ⟨y23, rfl, y5, rfl⟩
instance : SlT Try.prog 34 T34 5 T5 1 := ⟨y34, rfl, y5, rfl⟩
instance : FdT Try.prog 69 0 T69 [(0, 67), (1, 30), (2, 4)] 0 67 T67 1 := ⟨y69, rfl, rfl, y67, rfl⟩
instance : FdT Try.prog 69 1 T69 [(0, 67), (1, 30), (2, 4)] 1 30 T30 1 := ⟨y69, rfl, rfl, y30, rfl⟩
instance : FdT Try.prog 69 2 T69 [(0, 67), (1, 30), (2, 4)] 2 4 T4 1 := ⟨y69, rfl, rfl, y4, rfl⟩
instance : SlT Try.prog 70 T70 27 T27 1 := ⟨y70, rfl, y27, rfl⟩
instance : FdT Try.prog 72 0 T72 [(0, 27), (1, 23), (33, 23)] 0 27 T27 1 := ⟨y72, rfl, rfl, y27, rfl⟩
instance : FdT Try.prog 72 1 T72 [(0, 27), (1, 23), (33, 23)] 1 23 T23 32 := ⟨y72, rfl, rfl, y23, rfl⟩
instance : FdT Try.prog 72 2 T72 [(0, 27), (1, 23), (33, 23)] 33 23 T23 32 := ⟨y72, rfl, rfl, y23, rfl⟩
instance : SlT Try.prog 73 T73 47 T47 1 := ⟨y73, rfl, y47, rfl⟩
instance : ArT Try.prog 77 T77 12 5 T5 1 := ⟨y77, rfl, y5, rfl⟩
instance : SlT Try.prog 85 T85 23 T23 32 := ⟨y85, rfl, y23, rfl⟩
instance : ArT Try.prog 89 T89 16 5 T5 1 := ⟨y89, rfl, y5, rfl⟩
instance : SlT Try.prog 94 T94 34 T34 1 := ⟨y94, rfl, y34, rfl⟩
instance : ArT Try.prog 95 T95 8 88 T88 1 := ⟨y95, rfl, y88, rfl⟩
instance : ArT Try.prog 97 T97 16 3 T3 1 := ⟨y97, rfl, y3, rfl⟩
instance : ArT Try.prog 98 T98 10 97 T97 16 := ⟨y98, rfl, y97, rfl⟩
instance : ArT Try.prog 100 T100 64 5 T5 1 := ⟨y100, rfl, y5, rfl⟩
instance : SlT Try.prog 106 T106 108 T108 1 := ⟨y106, rfl, y108, rfl⟩
instance : SlT Try.prog 108 T108 3 T3 1 := ⟨y108, rfl, y3, rfl⟩
instance : ArT Try.prog 109 T109 16 88 T88 1 := ⟨y109, rfl, y88, rfl⟩
instance : ArT Try.prog 112 T112 64 5 T5 1 := ⟨y112, rfl, y5, rfl⟩
instance : SlT Try.prog 118 T118 88 T88 1 := ⟨y118, rfl, y88, rfl⟩
instance : SlT Try.prog 122 T122 30 T30 1 := ⟨y122, rfl, y30, rfl⟩
instance : ArT Try.prog 125 T125 2 3 T3 1 := ⟨y125, rfl, y3, rfl⟩
instance : ArT Try.prog 126 T126 2 125 T125 2 := ⟨y126, rfl, y125, rfl⟩
instance : ArT Try.prog 129 T129 2 30 T30 1 := ⟨y129, rfl, y30, rfl⟩
instance : ArT Try.prog 130 T130 3 30 T30 1 := ⟨y130, rfl, y30, rfl⟩
instance : ArT Try.prog 131 T131 24 5 T5 1 := ⟨y131, rfl, y5, rfl⟩
instance : ArT Try.prog 137 T137 16 30 T30 1 := ⟨y137, rfl, y30, rfl⟩
instance : ArT Try.prog 139 T139 17 30 T30 1 := ⟨y139, rfl, y30, rfl⟩
instance : ArT Try.prog 140 T140 34 30 T30 1 := ⟨y140, rfl, y30, rfl⟩
instance : ArT Try.prog 143 T143 5 30 T30 1 := ⟨y143, rfl, y30, rfl⟩
instance : AddX Try.prog 79 := ⟨fun x y c hc => add_ext (fn := Try.f79) (by kernel_rfl) (by kernel_rfl) (by kernel_rfl) (by kernel_rfl) (by kernel_rfl) x y c hc⟩
instance : SubX Try.prog 85 := ⟨fun x y c hc => sub_ext (fn := Try.f85) (by kernel_rfl) (by kernel_rfl) (by kernel_rfl) (by kernel_rfl) (by kernel_rfl) x y c hc⟩
end Go.Proofs.Ytlnepajgnckolaa

/- Words: sums with a carry, differences with a borrow, products of two words, as numbers. -/
namespace Go.Abs
open Go

/-- The upper word of a product. -/
def mulhi (x y : UInt64) : UInt64 :=
  shr64n x 32 * shr64n y 32 + shr64n (shr64n x 32 * (y &&& 4294967295) + shr64n ((x &&& 4294967295) * (y &&& 4294967295)) 32) 32 +
    shr64n ((shr64n x 32 * (y &&& 4294967295) + shr64n ((x &&& 4294967295) * (y &&& 4294967295)) 32 &&& 4294967295) + (x &&& 4294967295) * shr64n y 32) 32
theorem shr_nat (n : UInt64) (k : Nat) (h : k < 64) : (shr64n n k).toNat = n.toNat / 2 ^ k := by
  unfold shr64n
  simp [UInt64.toNat_shiftRight, Nat.shiftRight_eq_div_pow, h, Nat.mod_eq_of_lt h]
/-! Regions, with the memory told plainly first. -/
section
variable {P : Program} {n N id : Nat} {Q : Exit → St → Prop} {ops : Array Oper} {al : List (Nat × S)} {H H' : Heap}
theorem rln (h : aops P ops.toList (Q .normal) ops.toList ⟨frm N al, H'⟩) (hH : H = H' := by first | (simp only [List.set_cons_zero, List.set_cons_succ, List.cons_append, List.nil_append, List.append_nil]; done) | (simp only [List.set_cons_zero, List.set_cons_succ, List.cons_append, List.nil_append, List.append_nil]; exact rfl) | exact rfl) (hn : Nat.ble n H'.length = true := by exact rfl) : AWp P n (.region id ops false) Q ⟨frm N al, H⟩ := by
  subst hH; exact awp_region (Nat.le_of_ble_eq_true hn) h
theorem rdln (es lo hi : List Nat) (h : Dw P ops.toList lo hi (Q .normal) ops.toList 0 es [H'] [] (frm N al)) (hH : H = H' := by first | (simp only [List.set_cons_zero, List.set_cons_succ, List.cons_append, List.nil_append, List.append_nil]; done) | (simp only [List.set_cons_zero, List.set_cons_succ, List.cons_append, List.nil_append, List.append_nil]; exact rfl) | exact rfl) (hn : Nat.ble n H'.length = true := by exact rfl) (hm : P.follows .mixedOrders = true := by exact rfl) (hB : drawE ops.toList es lo hi = true := by decide +kernel) : AWp P n (.region id ops true) Q ⟨frm N al, H⟩ := by
  subst hH; exact awp_drawE es lo hi hm hB (Nat.le_of_ble_eq_true hn) h
end
/-! In a region that draws its order: a struct or an array inside a block. -/
section
variable {P : Program} {N : Nat} {al : List (Nat × S)} {H : Heap} {ops r : List Oper} {q : St → Prop} {oty : TypeId} {ops_ : String} {oaf : Array Edge} {d j w : Nat} {want : Bool} {oj : Oper}
variable {lo hi : List Nat} {i : Nat} {rem : List Nat} {hist : List Heap} {pend : List (Nat × Heap)} {t : TypeId} {ti : TI} {x : Operand} {p o1 : Nat} {cs xs : List Cell}
theorem DLa [it : TiOf P t ti] (k : Dw P ops lo hi q r (i + 1) rem (H :: hist) ((hi.getD i 0, one p cs) :: pend) (frm N ((d, sa xs) :: al))) (hx : ev (frm N al) x = sc (.ptr p o1) := by first | exact et rfl | exact rfl) (_hp : H[p]? = some (some cs) := by exact rfl) (hk : ti.kind.agg = true := by exact rfl) (hz : Nat.blt 0 ti.size = true := by exact rfl) (hl : o1 + ti.size ≤ cs.length := by first | omega | with_reducible assumption | (simp only [List.length_set, List.length_append, List.length_replicate, List.length_take, List.length_drop, List.length_map, List.length_cons, List.length_nil, mapc_length] <;> omega) | exact rfl | exact Nat.le_of_ble_eq_true rfl | assumption) (hc : (cs.drop o1).take ti.size = xs := by first | exact rfl | exact cut_m) (hne : (rem.head? == some i) = false := by exact rfl)
    (hs : seen (one p cs) ((H :: hist).take ((hist.length + 1) - lo.getD i 0)) := by repeat' (first | exact trivial | exact sub_one rfl | refine And.intro ?_ ?_)) : Dw P ops lo hi q (⟨some d, .load t x, oty, ops_, oaf, none⟩ :: r) i rem (H :: hist) pend (frm N al) :=
  dR p rfl (tk rfl) hne hs (fun _ hv => r_lda rfl it.h hk hz hx hv hl hc ⟨rfl, rfl⟩) k
end
end Go.Abs

/- The abstract machine: regions that draw their order, whose effects lie in no one chain: one walk for each order of the effects. -/
namespace Go.Abs
open Go

/-! A list of operations, put into another order. -/
def posOf : List Nat → Nat → Nat
  | [], _ => 0
  | x :: r, i => bif Nat.beq x i then 0 else posOf r i + 1
def prevOf : List Nat → Nat → Option Nat
  | x :: y :: r, i => bif Nat.beq y i then some x else prevOf (y :: r) i
  | _, _ => none
def renE (ord : List Nat) (e : Edge) : Edge := ⟨posOf ord e.on, e.ground⟩
def preE (ord es : List Nat) (i : Nat) : Array Edge := match prevOf es i with
  | some x => #[⟨posOf ord x, .data⟩]
  | none => #[]
def renO (ord es : List Nat) (i : Nat) (o : Oper) : Oper :=
  ⟨o.dst, o.op, o.type, o.pos, o.after.map (renE ord) ++ preE ord es i, match o.guard with
    | some (j, b) => some (posOf ord j, b)
    | none => none⟩
def permO (ops : List Oper) (ord es : List Nat) : List Oper := ord.map fun i => renO ord es i ((ops[i]?).getD default)
def permB (n : Nat) (ord : List Nat) : Bool :=
  ord.length == n && (List.range n).all fun i => decide (posOf ord i < n) && ord[posOf ord i]? == some i && (match ord[i]? with
    | some x => decide (x < n) && posOf ord x == i
    | none => false)

structure PermOk (n : Nat) (ord : List Nat) : Prop where
  len : ord.length = n
  lt : ∀ i, i < n → posOf ord i < n
  at_ : ∀ i, i < n → ord[posOf ord i]? = some i
  inv : ∀ (j x : Nat), ord[j]? = some x → x < n ∧ posOf ord x = j
section
variable {ops : List Oper} {ord es : List Nat}
end

/-! Orders that may be drawn. -/
inductive ValidO (ops : Array Oper) : Array Bool → List Nat → Prop
  | nil {l : Array Bool} : Region.ready .any ops l = [] → ValidO ops l []
  | cons {l : Array Bool} {i : Nat} {σ : List Nat} : i ∈ Region.ready .any ops l → ValidO ops (l.setIfInBounds i true) σ → ValidO ops l (i :: σ)

/-! Which orders the effects come in. -/
def covB (A E : List Nat) (pls : List (List Nat)) : Nat → List Nat → Bool
  | 0, run => (E.all fun e => run.contains e) && pls.contains run
  | f + 1, run => bif (E.all fun e => run.contains e) then pls.contains run else E.all fun i => run.contains i || (E.any fun e => (A.getD i 0).testBit e && !run.contains e) || covB A E pls f (run ++ [i])

/-- One order of the effects: the order of the walk, the effects by their numbers, and by their places in the walk, and what may come between which. -/
structure Plan where
  ord : List Nat
  es : List Nat
  es2 : List Nat
  lo : List Nat
  hi : List Nat
def planB (ops : List Oper) (E : List Nat) (p : Plan) : Bool :=
  permB ops.length p.ord && drawE (permO ops p.ord p.es) p.es2 p.lo p.hi && decide p.es.Nodup && (p.es.all fun e => E.contains e)
def multiB (ops : List Oper) (E : List Nat) (pls : List Plan) : Bool :=
  topoE ops && (E.all fun e => decide (e < ops.length)) && covB (ancs ops []) E (pls.map Plan.es) E.length [] && pls.all (planB ops E)
def plansDw (P : Program) (ops : List Oper) (Q : St → Prop) (H : Heap) (fr : List S) : List Plan → Prop
  | [] => True
  | p :: r => Dw P (permO ops p.ord p.es) p.lo p.hi Q (permO ops p.ord p.es) 0 p.es2 [H] [] fr ∧ plansDw P ops Q H fr r
/-! Effects in a region, the memory told plainly behind each. -/
section
variable {P : Program} {N : Nat} {al : List (Nat × S)} {H H1 H2 : Heap} {ops r : List Oper} {q : St → Prop} {op : Op} {oty : TypeId} {ops_ : String} {oaf : Array Edge} {d j w : Nat} {want : Bool} {oj : Oper} {s : S}
variable {lo hi : List Nat} {i : Nat} {rem : List Nat} {hist : List Heap} {pend : List (Nat × Heap)}
theorem De2 (h : ∀ K : S → Heap → Prop, K s H1 → ostep P ⟨some d, op, oty, ops_, oaf, none⟩ (frm N al) H K) (k : Dw P ops lo hi q r (i + 1) rem (H2 :: H :: hist) pend (frm N ((d, s) :: al))) (hH : H1 = H2 := by first | (simp only [List.set_cons_zero, List.set_cons_succ, List.cons_append, List.nil_append, List.append_nil, kill, setB]; done) | (simp only [List.set_cons_zero, List.set_cons_succ, List.cons_append, List.nil_append, List.append_nil, kill, setB]; exact rfl) | exact rfl) (hp : pendOk pend (hist.length + 1) H2 := by repeat' (first | exact trivial | exact sub_one rfl | refine And.intro ?_ ?_)) : Dw P ops lo hi q (⟨some d, op, oty, ops_, oaf, none⟩ :: r) i (i :: rem) (H :: hist) pend (frm N al) := by
  subst hH; exact De (h _ ⟨hp, k⟩)
theorem De20 (h : ∀ K : S → Heap → Prop, K s H1 → ostep P ⟨none, op, oty, ops_, oaf, none⟩ (frm N al) H K) (k : Dw P ops lo hi q r (i + 1) rem (H2 :: H :: hist) pend (frm N al)) (hH : H1 = H2 := by first | (simp only [List.set_cons_zero, List.set_cons_succ, List.cons_append, List.nil_append, List.append_nil, kill, setB]; done) | (simp only [List.set_cons_zero, List.set_cons_succ, List.cons_append, List.nil_append, List.append_nil, kill, setB]; exact rfl) | exact rfl) (hp : pendOk pend (hist.length + 1) H2 := by repeat' (first | exact trivial | exact sub_one rfl | refine And.intro ?_ ?_)) : Dw P ops lo hi q (⟨none, op, oty, ops_, oaf, none⟩ :: r) i (i :: rem) (H :: hist) pend (frm N al) := by
  subst hH; exact De0 (h _ ⟨hp, k⟩)
theorem De2g (h : ∀ K : S → Heap → Prop, K s H1 → ostep P ⟨some d, op, oty, ops_, oaf, some (j, want)⟩ (frm N al) H K) (k : Dw P ops lo hi q r (i + 1) rem (H2 :: H :: hist) pend (frm N ((d, s) :: al))) (hH : H1 = H2 := by first | (simp only [List.set_cons_zero, List.set_cons_succ, List.cons_append, List.nil_append, List.append_nil, kill, setB]; done) | (simp only [List.set_cons_zero, List.set_cons_succ, List.cons_append, List.nil_append, List.append_nil, kill, setB]; exact rfl) | exact rfl) (hp : pendOk pend (hist.length + 1) H2 := by repeat' (first | exact trivial | exact sub_one rfl | refine And.intro ?_ ?_)) (hj : ops[j]? = some oj := by exact rfl) (hjd : oj.dst = some w := by exact rfl) (hv : lkpB N al w = .v (.c (.bool want)) := by first | exact rfl | exact congrArg (fun b => S.v (V.c (Cell.bool b))) (by assumption) | exact congrArg (fun b => S.v (V.c (Cell.bool b))) (decide_eq_true (by assumption)) | exact congrArg (fun b => S.v (V.c (Cell.bool b))) (decide_eq_false (by assumption))) : Dw P ops lo hi q (⟨some d, op, oty, ops_, oaf, some (j, want)⟩ :: r) i (i :: rem) (H :: hist) pend (frm N al) := by
  subst hH; exact Deg (h _ ⟨hp, k⟩) hj hjd hv
theorem G2 (h : ∀ K : S → Heap → Prop, K s H1 → ostep P ⟨some d, op, oty, ops_, oaf, none⟩ (frm N al) H K) (k : aops P ops q r ⟨frm N ((d, s) :: al), H2⟩) (hH : H1 = H2 := by first | (simp only [List.set_cons_zero, List.set_cons_succ, List.cons_append, List.nil_append, List.append_nil, kill, setB]; done) | (simp only [List.set_cons_zero, List.set_cons_succ, List.cons_append, List.nil_append, List.append_nil, kill, setB]; exact rfl) | exact rfl) : aops P ops q (⟨some d, op, oty, ops_, oaf, none⟩ :: r) ⟨frm N al, H⟩ := by
  subst hH; exact G (h _ k)
theorem G20 (h : ∀ K : S → Heap → Prop, K s H1 → ostep P ⟨none, op, oty, ops_, oaf, none⟩ (frm N al) H K) (k : aops P ops q r ⟨frm N al, H2⟩) (hH : H1 = H2 := by first | (simp only [List.set_cons_zero, List.set_cons_succ, List.cons_append, List.nil_append, List.append_nil, kill, setB]; done) | (simp only [List.set_cons_zero, List.set_cons_succ, List.cons_append, List.nil_append, List.append_nil, kill, setB]; exact rfl) | exact rfl) : aops P ops q (⟨none, op, oty, ops_, oaf, none⟩ :: r) ⟨frm N al, H⟩ := by
  subst hH; exact G0 (h _ k)
theorem G2g (h : ∀ K : S → Heap → Prop, K s H1 → ostep P ⟨some d, op, oty, ops_, oaf, some (j, want)⟩ (frm N al) H K) (k : aops P ops q r ⟨frm N ((d, s) :: al), H2⟩) (hH : H1 = H2 := by first | (simp only [List.set_cons_zero, List.set_cons_succ, List.cons_append, List.nil_append, List.append_nil, kill, setB]; done) | (simp only [List.set_cons_zero, List.set_cons_succ, List.cons_append, List.nil_append, List.append_nil, kill, setB]; exact rfl) | exact rfl) (hj : ops[j]? = some oj := by exact rfl) (hjd : oj.dst = some w := by exact rfl) (hv : lkpB N al w = .v (.c (.bool want)) := by first | exact rfl | exact congrArg (fun b => S.v (V.c (Cell.bool b))) (by assumption) | exact congrArg (fun b => S.v (V.c (Cell.bool b))) (decide_eq_true (by assumption)) | exact congrArg (fun b => S.v (V.c (Cell.bool b))) (decide_eq_false (by assumption))) : aops P ops q (⟨some d, op, oty, ops_, oaf, some (j, want)⟩ :: r) ⟨frm N al, H⟩ := by
  subst hH; exact Gg (h _ k) hj hjd hv
end
section
variable {P : Program} {n N id : Nat} {Q : Exit → St → Prop} {ops : Array Oper} {al : List (Nat × S)} {H H' : Heap}
end
/-! More operations. -/
section
variable {P : Program} {fr : List S} {H : Heap} {K : S → Heap → Prop} {od : Option Nat} {oty : TypeId} {ops_ : String} {oaf : Array Edge} {ogu : Option (Nat × Bool)} {t u : TypeId} {ti : TI} {a b : Operand}
theorem q_negi {x : Int} (h : K (sc (ci (-x))) H) (hx : ev fr a = sc (ci x) := by first | exact et rfl | exact rfl) (hb : -9223372036854775807 ≤ x ∧ x ≤ 9223372036854775807 := by omega) : ostep P ⟨od, .unOp .neg t a, oty, ops_, oaf, ogu⟩ fr H K := by
  simp only [ostep, pstep, hx]
  rw [wi64 (by omega), show (0 : Int) - x = -x by omega]
  exact h
theorem q_pad15 {n : Nat} [iht : TiOf P t ti] (h : K (sc (cn ((16 - n % 16) % 16))) H) (hx : ev fr a = sc (ci (-(n : Int))) := by first | exact et rfl | exact rfl) (hy : ev fr b = sc (cn 15) := by first | exact et rfl | exact rfl) : ostep P ⟨od, .binOp .and t a b u, oty, ops_, oaf, ogu⟩ fr H K := by
  refine binI rfl iht.h hx hy ?_
  simp only [binC, shiftv, arithv, true_and]
  have e : (BitVec.ofInt IntKind.i64.bits (-(n : Int)) &&& BitVec.ofInt IntKind.i64.bits ((15 : Nat) : Int)).toNat = (16 - n % 16) % 16 := by
    rw [BitVec.toNat_and, show (BitVec.ofInt IntKind.i64.bits ((15 : Nat) : Int)).toNat = 2 ^ 4 - 1 from rfl, Nat.and_two_pow_sub_one_eq_mod, BitVec.toNat_ofInt, show IntKind.i64.bits = 64 from rfl]
    omega
  rw [e, wi64 (by omega)]
  exact h
/-- A call by way of a variable that holds a function that keeps nothing: it makes a block. -/
theorem q_callfn {F : Operand} {k m : Nat} {args : Array Operand} {ats : Array TypeId} {v s : S} {cs : List Cell} {args' : List V} (hg : Good P k args' [] v [some cs]) (h : K s (H ++ [some cs])) (hf : ev fr F = sc (.fn k []) := by first | exact et rfl | exact rfl) (ha : CA fr H [] true args.toList args') (hm : H.length = m := by first | exact hlen0 | exact hlen1 | (simp only [List.length_append, List.length_set, List.length_cons, List.length_nil, Nat.zero_add, Nat.reduceAdd]; done) | (simp only [List.length_append, List.length_set, List.length_cons, List.length_nil, Nat.zero_add, Nat.reduceAdd]; exact rfl))
    (hcs : cs.map (cm (cout [] true m) 8) = cs := by first | exact sees_m | exact rfl) (e3 : sm (cm (cout [] true m) 8) v = s := by first | exact rs_int | exact rs_new | exact rs_nils | exact rfl) : ostep P ⟨od, .call ⟨.value F, args, ats⟩, oty, ops_, oaf, ogu⟩ fr H K := by
  subst hm
  obtain ⟨avs, h1, h2⟩ := ha
  exact r_call [] true rfl hf h1 List.nodup_nil (by simp) (by simpa using h2) rfl hg e3 (by rw [back_nil]; simp [picks, hcs]) h
end
end Go.Abs

/- What functions of the program do, walked over the abstract machine. -/
namespace Go.Proofs.Ytlnepajgnckolaa.Po
open Go Go.Abs Go.Proofs

set_option maxRecDepth 20000
/-- Eight bytes, the lowest first. -/
def hf (l : List UInt8) : Nat → UInt64
  | 0 => 0
  | i + 1 => hf l i ||| shl64n (l.getD i 0).toUInt64 (8 * i)
abbrev half (l : List UInt8) : UInt64 := hf (l.take 8) 8
/-- What two marks have not in common. -/
def xo (a b : List UInt8) : Nat → UInt8
  | 0 => 0
  | i + 1 => xo a b i ||| (a.getD i 0 ^^^ b.getD i 0)
theorem xo_zero (a b : List UInt8) : ∀ i, xo a b i = 0 ↔ ∀ j, j < i → a.getD j 0 = b.getD j 0
  | 0 => by simp [xo]
  | i + 1 => by
    rw [xo]
    constructor
    · intro h
      have h1 := UInt8.or_eq_zero_iff.1 h
      have h2 := (xo_zero a b i).1 h1.1
      intro j hj
      by_cases e : j = i
      · subst e; exact UInt8.xor_eq_zero_iff.1 h1.2
      · exact h2 j (by omega)
    · intro h
      rw [(xo_zero a b i).2 fun j hj => h j (by omega), h i (by omega)]
      simp
theorem xo_iff (a b : List UInt8) (ha : a.length = 16) (hb : b.length = 16) : (xo a b 16 = 0) = (a = b) := by
  rw [eq_iff_iff, xo_zero]
  constructor
  · intro h
    refine List.ext_getElem (by omega) fun i h1 h2 => ?_
    have := h i (by omega)
    simpa [List.getD_eq_getElem?_getD, h1, h2] using this
  · rintro rfl j _; rfl
/-- poly.half -/
theorem half_ (k : Nat) (l : List UInt8) (h : 8 ≤ l.length) (hl : l.length = k) (hk : k ≤ 140737488351232) : Good Try.prog 78 [.c (.ro k (u8s l))] [] (sc (c64 (half l))) [] := by
  refine good_frm 22 Try.func78 rfl rfl rfl rfl rfl rfl ?_
  refine awp_seq ?_
  refine rl ?_
  refine G (q_as (s := sc (c64 0)) ?_)
  refine gend ?_
  refine awp_seq ?_
  refine awp_seq ?_
  refine rl ?_
  refine Mv ?_
  refine G (q_slo_hi (k := 8) ?_)
  refine G (q_leno ?_)
  refine G (q_mv (s := sc (cn 0)) ?_)
  refine gend ?_
  refine awp_block ?_
  refine awp_loop (fun x : {i : Nat // i ≤ 8} => ⟨frm 22 [(2, sc (c64 (hf (l.take 8) x.1))), (6, sc (.ro 8 (u8s (l.take 8)))), (7, sc (cn 8)), (8, sc (cn x.1))], []⟩) (fun x => 8 - x.1) ⟨0, Nat.zero_le _⟩ (sle_sub ⟨rfl, congrArg (fun z => sc (.ro 8 z)) (cut_m (k := .u8) (q := 0) (n := 8)), rfl, rfl, trivial⟩ rfl) fun x => ?_   -- live: [2, 6, 7, 8]
  have h8 : (l.take 8).length = 8 := by rw [List.length_take]; omega
  refine awp_seq ?_
  refine rl ?_
  refine G (q_lssn ?_)
  refine gend ?_
  refine awp_seq ?_
  refine cnd (fun hc1 => ?_) (fun hc1 => ?_); rotate_left
  · refine awp_exit ?_
    rw [show x.1 = 8 from (by have := x.2; omega)]
    refine awp_seq ?_
    refine rl ?_
    refine Mv ?_
    refine As ?_
    refine gend ?_
    refine awp_ret ?_
    exact fp1
  refine awp_skip ?_
  refine awp_seq ?_
  refine awp_block ?_
  refine awp_seq ?_
  refine rl ?_
  refine Mv ?_
  refine G (q_ixo1 ?_)
  refine G (q_ldrd ?_)
  refine As ?_
  refine As ?_
  refine gend ?_
  refine rl ?_
  refine Mv ?_
  refine Mv ?_
  refine G (q_cv8_64 ?_)
  refine Mv ?_
  refine G (q_muln (x := 8) ?_)
  refine G (q_shl64_0 ?_)
  refine G (q_or64 ?_)
  refine As ?_
  refine gend ?_
  refine rl ?_
  refine G (q_addn (y := 1) ?_)
  refine Mv ?_
  refine gend ?_
  exact ⟨⟨x.1 + 1, by omega⟩, by show 8 - (x.1 + 1) < 8 - x.1; omega, sle_sub ⟨rfl, rfl, rfl, rfl, trivial⟩ rfl⟩   -- endloop 1
/-- math/bits.Mul64 -/
theorem mul64 (x y : UInt64) : Good Try.prog 84 [.c (c64 x), .c (c64 y)] [] (.t [.c (c64 (mulhi x y)), .c (c64 (x * y))]) [] := by
  refine good_frm 51 Try.func84 rfl rfl rfl rfl rfl rfl ?_
  refine awp_seq ?_
  refine rl ?_
  refine G (q_as (s := sc (c64 0)) ?_)
  refine G (q_as (s := sc (c64 0)) ?_)
  refine gend ?_
  refine awp_seq ?_
  refine rl ?_
  refine Mv ?_
  refine G (q_and64 (y := 4294967295) ?_)
  refine As ?_
  refine gend ?_
  refine awp_seq ?_
  refine rl ?_
  refine Mv ?_
  refine G (q_shr64_64 (n := 32) ?_)
  refine As ?_
  refine gend ?_
  refine awp_seq ?_
  refine rl ?_
  refine Mv ?_
  refine G (q_and64 (y := 4294967295) ?_)
  refine As ?_
  refine gend ?_
  refine awp_seq ?_
  refine rl ?_
  refine Mv ?_
  refine G (q_shr64_64 (n := 32) ?_)
  refine As ?_
  refine gend ?_
  refine awp_seq ?_
  refine rl ?_
  refine Mv ?_
  refine Mv ?_
  refine G (q_mul64 ?_)
  refine As ?_
  refine gend ?_
  refine awp_seq ?_
  refine rl ?_
  refine Mv ?_
  refine Mv ?_
  refine G (q_mul64 ?_)
  refine Mv ?_
  refine G (q_shr64_64 (n := 32) ?_)
  refine G (q_add64 ?_)
  refine As ?_
  refine gend ?_
  refine awp_seq ?_
  refine rl ?_
  refine Mv ?_
  refine G (q_and64 (y := 4294967295) ?_)
  refine As ?_
  refine gend ?_
  refine awp_seq ?_
  refine rl ?_
  refine Mv ?_
  refine G (q_shr64_64 (n := 32) ?_)
  refine As ?_
  refine gend ?_
  refine awp_seq ?_
  refine rl ?_
  refine Mv ?_
  refine Mv ?_
  refine Mv ?_
  refine G (q_mul64 ?_)
  refine G (q_add64 ?_)
  refine As ?_
  refine gend ?_
  refine awp_seq ?_
  refine rl ?_
  refine Mv ?_
  refine Mv ?_
  refine G (q_mul64 ?_)
  refine Mv ?_
  refine G (q_add64 ?_)
  refine Mv ?_
  refine G (q_shr64_64 (n := 32) ?_)
  refine G (q_add64 ?_)
  refine As ?_
  refine gend ?_
  refine awp_seq ?_
  refine rl ?_
  refine Mv ?_
  refine Mv ?_
  refine G (q_mul64 ?_)
  refine As ?_
  refine gend ?_
  refine awp_ret ?_
  exact fp2
/-- poly.Equal -/
theorem equal (a b : List UInt8) (ha : a.length = 16) (hb : b.length = 16) : Good Try.prog 55 [.a (u8s a), .a (u8s b)] [] (sc (.bool (decide (a = b)))) [] := by
  refine good_frm 22 Try.func55 rfl rfl rfl rfl rfl rfl ?_
  refine awp_seq ?_
  refine rl ?_
  refine G (q_boxa ?_)
  refine G (q_boxa ?_)
  refine As ?_
  refine gend ?_
  refine awp_seq ?_
  refine rl ?_
  refine G (q_as (s := sc (c8 0)) ?_)
  refine gend ?_
  refine awp_seq ?_
  refine awp_seq ?_
  refine rl ?_
  refine G (q_mv (s := sc (cn 0)) ?_)
  refine gend ?_
  refine awp_block ?_
  refine awp_loop (fun x : {i : Nat // i ≤ 16} => ⟨frm 22 [(2, sc (.ptr 0 0)), (3, sc (.ptr 1 0)), (5, sc (c8 (xo a b x.1))), (7, sc (cn x.1))], [some (u8s a), some (u8s b)]⟩) (fun x => 16 - x.1) ⟨0, Nat.zero_le _⟩ (sle_sub ⟨rfl, rfl, rfl, rfl, trivial⟩ rfl) fun x => ?_   -- live: [2, 3, 5, 7]
  refine awp_seq ?_
  refine rl ?_
  refine G (q_lssn (y := 16) ?_)
  refine gend ?_
  refine awp_seq ?_
  refine cnd (fun hc1 => ?_) (fun hc1 => ?_); rotate_left
  · refine awp_exit ?_
    rw [show x.1 = 16 from (by have := x.2; omega)]
    refine awp_seq ?_
    refine rl ?_
    refine Mv ?_
    refine G (q_eql8 (y := 0) ?_)
    refine As ?_
    refine gend ?_
    refine awp_ret ?_
    exact fp1 (hv := by simp only [xo_iff a b ha hb])
  refine awp_skip ?_
  refine awp_seq ?_
  refine awp_block ?_
  refine awp_seq ?_
  refine rl ?_
  refine Mv ?_
  refine As ?_
  refine gend ?_
  refine rdl [] [] [] ?_
  refine Dp (fun _ => q_mv (s := .v (.c _)) ⟨rfl, rfl⟩) ?_
  refine Dp (fun _ => q_mv (s := .v (.c _)) ⟨rfl, rfl⟩) ?_
  refine Dp (fun _ => q_ixp1 ⟨rfl, rfl⟩) ?_
  refine DLp ?_
  refine Dp (fun _ => q_mv (s := .v (.c _)) ⟨rfl, rfl⟩) ?_
  refine Dp (fun _ => q_ixp1 ⟨rfl, rfl⟩) ?_
  refine DLp ?_
  refine Dp (fun _ => q_xor8 ⟨rfl, rfl⟩) ?_
  refine Dp (fun _ => q_or8 ⟨rfl, rfl⟩) ?_
  refine Dp (fun _ => q_as (s := .v (.c _)) ⟨rfl, rfl⟩) ?_
  refine dend ?_
  refine rl ?_
  refine G (q_addn (y := 1) ?_)
  refine Mv ?_
  refine gend ?_
  exact ⟨⟨x.1 + 1, by omega⟩, by show 16 - (x.1 + 1) < 16 - x.1; omega, sle_sub ⟨rfl, rfl, rfl, rfl, trivial⟩ rfl⟩   -- endloop 1
/-- One row of a product: what stands where, and what is carried on. -/
def tstep (a r : List UInt64) (i : Nat) (w : List UInt64) : Nat → List UInt64 × UInt64
  | 0 => (w, 0)
  | j + 1 =>
    ((tstep a r i w j).1.set (i + j) (a.getD i 0 * r.getD j 0 + (tstep a r i w j).1.getD (i + j) 0 + 0 + (tstep a r i w j).2 + 0),
      mulhi (a.getD i 0) (r.getD j 0) + addc (a.getD i 0 * r.getD j 0) ((tstep a r i w j).1.getD (i + j) 0) 0 + addc (a.getD i 0 * r.getD j 0 + (tstep a r i w j).1.getD (i + j) 0 + 0) (tstep a r i w j).2 0)
theorem tstep_len (a r : List UInt64) (i : Nat) (w : List UInt64) : ∀ j, (tstep a r i w j).1.length = w.length
  | 0 => rfl
  | j + 1 => by rw [tstep, List.length_set, tstep_len]
def tout (a r : List UInt64) : Nat → List UInt64
  | 0 => List.replicate 5 0
  | i + 1 => (tstep a r i (tout a r i) 2).1.set (i + 2) (tstep a r i (tout a r i) 2).2
theorem tout_len (a r : List UInt64) : ∀ i, (tout a r i).length = 5
  | 0 => by simp [tout]
  | i + 1 => by rw [tout, List.length_set, tstep_len, tout_len]
def upw (w : List UInt64) : List UInt64 := [shr64n (w.getD 2 0) 2 ||| shl64n (w.getD 3 0) 62, shr64n (w.getD 3 0) 2 ||| shl64n (w.getD 4 0) 62, shr64n (w.getD 4 0) 2]
def low (w : List UInt64) : List UInt64 := [w.getD 0 0, w.getD 1 0, w.getD 2 0 &&& 3]
/-- A sum, word by word. -/
def addp (o : List UInt64) (u : Nat → UInt64) : Nat → List UInt64 × UInt64
  | 0 => (o, 0)
  | i + 1 => ((addp o u i).1.set i ((addp o u i).1.getD i 0 + u i + (addp o u i).2), addc ((addp o u i).1.getD i 0) (u i) (addp o u i).2)
theorem addp_len (o : List UInt64) (u : Nat → UInt64) : ∀ i, (addp o u i).1.length = o.length
  | 0 => rfl
  | i + 1 => by rw [addp, List.length_set, addp_len]
theorem addp_le (o : List UInt64) (u : Nat → UInt64) : ∀ i, (addp o u i).2.toNat ≤ 1
  | 0 => by show (0 : UInt64).toNat ≤ 1; decide
  | i + 1 => by rw [addp]; exact addc_le ..
def addk (o u : List UInt64) : Nat → List UInt64
  | 0 => o
  | k + 1 => (addp (addk o u k) (fun i => u.getD i 0) 3).1
theorem addk_len (o u : List UInt64) : ∀ k, (addk o u k).length = o.length
  | 0 => rfl
  | k + 1 => by rw [addk, addp_len, addk_len]
def times (a r : List UInt64) : List UInt64 := addk (low (tout a r 3)) (upw (tout a r 3)) 5
theorem times_len (a r : List UInt64) : (times a r).length = 3 := by rw [times, addk_len]; rfl
/-- One pass that takes what stands at 2^130 and above down. -/
def sst (a : List UInt64) : List UInt64 :=
  (((a.set 2 (a.getD 2 0 &&& 3)).set 0 ((a.set 2 (a.getD 2 0 &&& 3)).getD 0 0 + 5 * shr64n (a.getD 2 0) 2 + 0)).set 1
    (((a.set 2 (a.getD 2 0 &&& 3)).set 0 ((a.set 2 (a.getD 2 0 &&& 3)).getD 0 0 + 5 * shr64n (a.getD 2 0) 2 + 0)).getD 1 0 + 0 + addc ((a.set 2 (a.getD 2 0 &&& 3)).getD 0 0) (5 * shr64n (a.getD 2 0) 2) 0)).set 2
    ((((a.set 2 (a.getD 2 0 &&& 3)).set 0 ((a.set 2 (a.getD 2 0 &&& 3)).getD 0 0 + 5 * shr64n (a.getD 2 0) 2 + 0)).set 1
    (((a.set 2 (a.getD 2 0 &&& 3)).set 0 ((a.set 2 (a.getD 2 0 &&& 3)).getD 0 0 + 5 * shr64n (a.getD 2 0) 2 + 0)).getD 1 0 + 0 + addc ((a.set 2 (a.getD 2 0 &&& 3)).getD 0 0) (5 * shr64n (a.getD 2 0) 2) 0)).getD 2 0 +
      addc (((a.set 2 (a.getD 2 0 &&& 3)).set 0 ((a.set 2 (a.getD 2 0 &&& 3)).getD 0 0 + 5 * shr64n (a.getD 2 0) 2 + 0)).getD 1 0) 0 (addc ((a.set 2 (a.getD 2 0 &&& 3)).getD 0 0) (5 * shr64n (a.getD 2 0) 2) 0))
theorem sst_len (a : List UInt64) : (sst a).length = a.length := by simp [sst]
def ssts (a : List UInt64) : Nat → List UInt64
  | 0 => a
  | k + 1 => sst (ssts a k)
theorem ssts_len (a : List UInt64) : ∀ k, (ssts a k).length = a.length
  | 0 => rfl
  | k + 1 => by rw [ssts, sst_len, ssts_len]
def sb1 (s : List UInt64) : UInt64 := subb (s.getD 0 0) 18446744073709551611 0
def sb2 (s : List UInt64) : UInt64 := subb (s.getD 1 0) 18446744073709551615 (sb1 s)
def sb3 (s : List UInt64) : UInt64 := subb (s.getD 2 0) 3 (sb2 s)
def slt (s : List UInt64) : List UInt64 := (((List.replicate 3 0).set 0 (s.getD 0 0 - 18446744073709551611 - 0)).set 1 (s.getD 1 0 - 18446744073709551615 - sb1 s)).set 2 (s.getD 2 0 - 3 - sb2 s)
def sfin (s : List UInt64) : List UInt64 := if sb3 s = 0 then slt s else s
def small (a : List UInt64) : List UInt64 := sfin (ssts a 2)
theorem small_len (a : List UInt64) (h : a.length = 3) : (small a).length = 3 := by
  unfold small sfin
  split
  · simp [slt]
  · rw [ssts_len, h]
/-- poly.times -/
theorem times_ (a r : List UInt64) (ha : a.length = 3) (hr : r.length = 2) : Good Try.prog 81 [.a (u64s a), .a (u64s r)] [] (sa (u64s (times a r))) [] := by
  refine good_frm 113 Try.func81 rfl rfl rfl rfl rfl rfl ?_
  refine awp_seq ?_
  refine rl ?_
  refine G (q_boxa ?_)
  refine G (q_boxa ?_)
  refine G (q_al ?_)
  refine gend ?_
  refine awp_seq ?_
  refine rl ?_
  refine G (q_al ?_)
  refine gend ?_
  refine awp_seq ?_
  refine awp_seq ?_
  refine rl ?_
  refine G (q_mv (s := sc (cn 0)) ?_)
  refine gend ?_
  refine awp_block ?_
  refine awp_loop (fun x : {i : Nat // i ≤ 3} => ⟨frm 113 [(2, sc (.ptr 0 0)), (3, sc (.ptr 1 0)), (4, sc (.ptr 2 0)), (5, sc (.ptr 3 0)), (16, sc (cn x.1))], [some (u64s a), some (u64s r), some (u64s (List.replicate 3 0)), some (u64s (tout a r x.1))]⟩) (fun x => 3 - x.1) ⟨0, Nat.zero_le _⟩ (sle_sub ⟨rfl, rfl, rfl, rfl, rfl, trivial⟩ rfl) fun x => ?_   -- live: [2, 3, 5, 16]
  refine awp_seq ?_
  refine rl ?_
  refine G (q_lssn (y := 3) ?_)
  refine gend ?_
  refine awp_seq ?_
  refine cnd (fun hc1 => ?_) (fun hc1 => ?_); rotate_left
  · refine awp_exit ?_
    rw [show x.1 = 3 from (by have := x.2; omega)]
    have hw := tout_len a r 3
    generalize hW : tout a r 3 = W at hw ⊢
    refine awp_seq ?_
    refine rl ?_
    refine G (q_ixp1 ?_)
    refine G (q_ldp ?_)
    refine G (q_shr64_64 (n := 2) ?_)
    refine G (q_ixp1 ?_)
    refine G (q_ldp ?_)
    refine G (q_shl64_64 (n := 62) ?_)
    refine G (q_or64 ?_)
    refine G (q_ixp1 ?_)
    refine G (q_ldp ?_)
    refine G (q_shr64_64 (n := 2) ?_)
    refine G (q_ixp1 ?_)
    refine G (q_ldp ?_)
    refine G (q_shl64_64 (n := 62) ?_)
    refine G (q_or64 ?_)
    refine G (q_ixp1 ?_)
    refine G (q_ldp ?_)
    refine G (q_shr64_64 (n := 2) ?_)
    refine G (q_bla (fkc rfl (et rfl) rfl (Nat.le_of_ble_eq_true rfl) (fkc rfl (et rfl) rfl (Nat.le_of_ble_eq_true rfl) (fkc rfl (et rfl) rfl (Nat.le_of_ble_eq_true rfl) (fk0 ?_)))))
    refine G (q_al ?_)
    refine G0 (q_stw ?_)
    refine gend ?_
    refine awp_seq ?_
    refine rl ?_
    refine G (q_ixp1 ?_)
    refine G (q_ldp ?_)
    refine G (q_ixp1 ?_)
    refine G (q_ldp ?_)
    refine G (q_ixp1 ?_)
    refine G (q_ldp ?_)
    refine G (q_and64 (y := 3) ?_)
    refine G (q_bla (fkc rfl (et rfl) rfl (Nat.le_of_ble_eq_true rfl) (fkc rfl (et rfl) rfl (Nat.le_of_ble_eq_true rfl) (fkc rfl (et rfl) rfl (Nat.le_of_ble_eq_true rfl) (fk0 ?_)))))
    refine G (q_al ?_)
    refine G0 (q_stw ?_)
    refine gend ?_
    refine awp_seq ?_
    refine awp_seq ?_
    refine rl ?_
    refine G (q_mv (s := sc (cn 0)) ?_)
    refine gend ?_
    refine awp_block ?_
    refine awp_loop (fun y : {i : Nat // i ≤ 5} => ⟨frm 113 [(4, sc (.ptr 2 0)), (12, sc (.ptr 4 0)), (13, sc (.ptr 5 0)), (92, sc (cn y.1))], [some (u64s a), some (u64s r), some (u64s (List.replicate 3 0)), some (u64s W), some (u64s (upw W)), some (u64s (addk (low W) (upw W) y.1))]⟩) (fun y => 5 - y.1) ⟨0, Nat.zero_le _⟩ (sle_sub ⟨rfl, rfl, rfl, rfl, trivial⟩ rfl) fun y => ?_   -- live: [12, 13, 92]
    have hb3 : (addk (low W) (upw W) y.1).length = 3 := (addk_len ..).trans rfl
    refine awp_seq ?_
    refine rl ?_
    refine G (q_lssn (y := 5) ?_)
    refine gend ?_
    refine awp_seq ?_
    refine cnd (fun hc2 => ?_) (fun hc2 => ?_); rotate_left
    · refine awp_exit ?_
      rw [show y.1 = 5 from (by have := y.2; omega)]
      have hk : (addk (low W) (upw W) 5).length = 3 := (addk_len ..).trans rfl
      generalize hK : addk (low W) (upw W) 5 = K at hk ⊢
      refine awp_seq ?_
      refine rl ?_
      refine G (q_ldw  ?_ (hl := (mapc_length ..).trans hk))
      refine G0 (q_stw ?_ (hl := (mapc_length ..).trans hk))
      refine gend ?_
      refine awp_ret ?_
      exact fpc (t := 130) (a := 4) (hn := by exact (mapc_length ..).trans hk) (hv := by rw [← hK, ← hW]; rfl)
    refine awp_skip ?_
    refine awp_seq ?_
    refine awp_block ?_
    refine awp_seq ?_
    refine rl ?_
    refine G (q_as (s := sc (c64 0)) ?_)
    refine gend ?_
    refine awp_seq ?_
    refine rl ?_
    refine G (q_mv (s := sc (cn 0)) ?_)
    refine gend ?_
    refine awp_block ?_
    refine awp_loop (fun z : {i : Nat // i ≤ 3} => ⟨frm 113 [(4, sc (.ptr 2 0)), (12, sc (.ptr 4 0)), (13, sc (.ptr 5 0)), (92, sc (cn y.1)), (14, sc (c64 (addp (addk (low W) (upw W) y.1) (fun i => (upw W).getD i 0) z.1).2)), (94, sc (cn z.1))], [some (u64s a), some (u64s r), some (u64s (List.replicate 3 0)), some (u64s W), some (u64s (upw W)), some (u64s (addp (addk (low W) (upw W) y.1) (fun i => (upw W).getD i 0) z.1).1)]⟩) (fun z => 3 - z.1) ⟨0, Nat.zero_le _⟩ (sle_sub ⟨rfl, rfl, rfl, rfl, rfl, rfl, trivial⟩ rfl) fun z => ?_   -- live: [12, 13, 14, 94]
    have hz := (addp_len (addk (low W) (upw W) y.1) (fun i => (upw W).getD i 0) z.1).trans hb3
    have hc := addp_le (addk (low W) (upw W) y.1) (fun i => (upw W).getD i 0) z.1
    have hu : (upw W).length = 3 := rfl
    refine awp_seq ?_
    refine rl ?_
    refine G (q_lssn (y := 3) ?_)
    refine gend ?_
    refine awp_seq ?_
    refine cnd (fun hc3 => ?_) (fun hc3 => ?_); rotate_left
    · refine awp_exit ?_
      rw [show z.1 = 3 from (by have := z.2; omega)]
      refine rl ?_
      refine G (q_addn (y := 1) ?_)
      refine Mv ?_
      refine gend ?_
      exact ⟨⟨y.1 + 1, by omega⟩, by show 5 - (y.1 + 1) < 5 - y.1; omega, sle_sub ⟨rfl, rfl, rfl, rfl, trivial⟩ rfl⟩   -- endloop 2
    refine awp_skip ?_
    refine awp_seq ?_
    refine awp_block ?_
    refine awp_seq ?_
    refine rl ?_
    refine Mv ?_
    refine As ?_
    refine gend ?_
    refine rdl [13] [0, 0, 0, 0, 0, 0, 0, 0, 0, 0, 0, 0, 0, 0, 1] [0, 0, 0, 0, 0, 0, 0, 0, 0, 0, 0, 1, 0, 1, 1] ?_
    refine Dp (fun _ => q_mv (s := .v (.c _)) ⟨rfl, rfl⟩) ?_
    refine Dp (fun _ => q_mv (s := .v (.c _)) ⟨rfl, rfl⟩) ?_
    refine Dp (fun _ => q_ixp1 ⟨rfl, rfl⟩) ?_
    refine DLp ?_
    refine Dp (fun _ => q_mv (s := .v (.c _)) ⟨rfl, rfl⟩) ?_
    refine Dp (fun _ => q_ixp1 ⟨rfl, rfl⟩) ?_
    refine DLp ?_
    refine Dp (fun _ => q_mv (s := .v (.c _)) ⟨rfl, rfl⟩) ?_
    refine Dp (fun _ => q_addx ⟨rfl, rfl⟩) ?_
    refine Dp (fun _ => q_mv (s := .t _) ⟨rfl, rfl⟩) ?_
    refine Dp (fun _ => q_ext (y := .c _) ⟨rfl, rfl⟩) ?_
    refine Dp (fun _ => q_ext (y := .c _) ⟨rfl, rfl⟩) ?_
    refine Dp (fun _ => q_ixp1 ⟨rfl, rfl⟩) ?_
    refine De0 (q_stm (pw ?_))
    refine Dp (fun _ => q_as (s := .v (.c _)) ⟨rfl, rfl⟩) ?_
    refine dend ?_
    refine rl ?_
    refine G (q_addn (y := 1) ?_)
    refine Mv ?_
    refine gend ?_
    exact ⟨⟨z.1 + 1, by omega⟩, by show 3 - (z.1 + 1) < 3 - z.1; omega, sle_sub ⟨rfl, rfl, rfl, rfl, rfl, rfl, trivial⟩ rfl⟩   -- endloop 3
  refine awp_skip ?_
  refine awp_seq ?_
  refine awp_block ?_
  refine awp_seq ?_
  refine rl ?_
  refine Mv ?_
  refine As ?_
  refine gend ?_
  refine awp_seq ?_
  refine rl ?_
  refine G (q_as (s := sc (c64 0)) ?_)
  refine gend ?_
  refine awp_seq ?_
  refine awp_seq ?_
  refine rl ?_
  refine G (q_mv (s := sc (cn 0)) ?_)
  refine gend ?_
  refine awp_block ?_
  refine awp_loop (fun j : {i : Nat // i ≤ 2} => ⟨frm 113 [(2, sc (.ptr 0 0)), (3, sc (.ptr 1 0)), (4, sc (.ptr 2 0)), (5, sc (.ptr 3 0)), (6, sc (cn x.1)), (16, sc (cn x.1)), (7, sc (c64 (tstep a r x.1 (tout a r x.1) j.1).2)), (19, sc (cn j.1))], [some (u64s a), some (u64s r), some (u64s (List.replicate 3 0)), some (u64s (tstep a r x.1 (tout a r x.1) j.1).1)]⟩) (fun j => 2 - j.1) ⟨0, Nat.zero_le _⟩ (sle_sub ⟨rfl, rfl, rfl, rfl, rfl, rfl, rfl, rfl, trivial⟩ rfl) fun j => ?_   -- live: [2, 3, 5, 6, 7, 19]
  have hl := (tstep_len a r x.1 (tout a r x.1) j.1).trans (tout_len a r x.1)
  refine awp_seq ?_
  refine rl ?_
  refine G (q_lssn (y := 2) ?_)
  refine gend ?_
  refine awp_seq ?_
  refine cnd (fun hc4 => ?_) (fun hc4 => ?_); rotate_left
  · refine awp_exit ?_
    rw [show j.1 = 2 from (by have := j.2; omega)]
    have hl := (tstep_len a r x.1 (tout a r x.1) 2).trans (tout_len a r x.1)
    refine rl ?_
    refine Mv ?_
    refine G (q_addn (y := 2) ?_)
    refine Mv ?_
    refine G (q_ixp1 ?_)
    refine G0 (q_stm ?_)
    refine gend ?_
    refine rl ?_
    refine G (q_addn (y := 1) ?_)
    refine Mv ?_
    refine gend ?_
    exact ⟨⟨x.1 + 1, by omega⟩, by show 3 - (x.1 + 1) < 3 - x.1; omega, sle_sub ⟨rfl, rfl, rfl, rfl, rfl, trivial⟩ rfl⟩   -- endloop 1
  refine awp_skip ?_
  refine awp_seq ?_
  refine awp_block ?_
  refine awp_seq ?_
  refine rl ?_
  refine Mv ?_
  refine As ?_
  refine gend ?_
  refine awp_seq ?_
  refine rdl [] [] [] ?_
  refine Dp (fun _ => q_mv (s := .v (.c _)) ⟨rfl, rfl⟩) ?_
  refine Dp (fun _ => q_ixp1 ⟨rfl, rfl⟩) ?_
  refine DLp ?_
  refine Dp (fun _ => q_mv (s := .v (.c _)) ⟨rfl, rfl⟩) ?_
  refine Dp (fun _ => q_ixp1 ⟨rfl, rfl⟩) ?_
  refine DLp ?_
  refine Dp (fun _ => q_callp (mul64 _ _/- math/bits.Mul64 -/) ⟨rfl, rfl⟩) ?_
  refine Dp (fun _ => q_mv (s := .t _) ⟨rfl, rfl⟩) ?_
  refine Dp (fun _ => q_ext (y := .c _) ⟨rfl, rfl⟩) ?_
  refine Dp (fun _ => q_ext (y := .c _) ⟨rfl, rfl⟩) ?_
  refine Dp (fun _ => q_as (s := .v (.c _)) ⟨rfl, rfl⟩) ?_
  refine Dp (fun _ => q_as (s := .v (.c _)) ⟨rfl, rfl⟩) ?_
  refine dend ?_
  refine awp_seq ?_
  refine rl ?_
  refine G (q_as (s := sc (c64 0)) ?_)
  refine gend ?_
  refine awp_seq ?_
  refine rl ?_
  refine Mv ?_
  refine Mv ?_
  refine Mv ?_
  refine G (q_addn ?_)
  refine G (q_ixp1 ?_)
  refine G (q_ldp ?_)
  refine G (q_addx (c := 0) ?_)
  refine G (q_mv (s := .t _) ?_)
  refine G (q_ext (y := .c _) ?_)
  refine G (q_ext (y := .c _) ?_)
  refine As ?_
  refine As ?_
  refine gend ?_
  refine awp_seq ?_
  refine rl ?_
  refine Mv ?_
  refine Mv ?_
  refine G (q_add64 ?_)
  refine As ?_
  refine gend ?_
  refine awp_seq ?_
  refine rl ?_
  refine Mv ?_
  refine Mv ?_
  refine G (q_addx (c := 0) ?_)
  refine G (q_mv (s := .t _) ?_)
  refine G (q_ext (y := .c _) ?_)
  refine G (q_ext (y := .c _) ?_)
  refine As ?_
  refine As ?_
  refine gend ?_
  refine awp_seq ?_
  refine rl ?_
  refine Mv ?_
  refine Mv ?_
  refine G (q_add64 ?_)
  refine As ?_
  refine gend ?_
  refine rl ?_
  refine Mv ?_
  refine Mv ?_
  refine G (q_addn ?_)
  refine Mv ?_
  refine Mv ?_
  refine G (q_ixp1 ?_)
  refine G0 (q_stm ?_)
  refine As ?_
  refine gend ?_
  refine rl ?_
  refine G (q_addn (y := 1) ?_)
  refine Mv ?_
  refine gend ?_
  exact ⟨⟨j.1 + 1, by omega⟩, by show 2 - (j.1 + 1) < 2 - j.1; omega, sle_sub ⟨rfl, rfl, rfl, rfl, rfl, rfl, rfl, rfl, trivial⟩ rfl⟩   -- endloop 4
/-- poly.small -/
theorem small_ (a : List UInt64) (ha : a.length = 3) : Good Try.prog 80 [.a (u64s a)] [] (sa (u64s (small a))) [] := by
  refine good_frm 66 Try.func80 rfl rfl rfl rfl rfl rfl ?_
  refine awp_seq ?_
  refine rl ?_
  refine G (q_boxa ?_)
  refine G (q_al ?_)
  refine gend ?_
  refine awp_seq ?_
  refine awp_seq ?_
  refine rl ?_
  refine G (q_mv (s := sc (cn 0)) ?_)
  refine gend ?_
  refine awp_block ?_
  refine awp_loop (fun x : {i : Nat // i ≤ 2} => ⟨frm 66 [(1, sc (.ptr 0 0)), (2, sc (.ptr 1 0)), (7, sc (cn x.1))], [some (u64s (ssts a x.1)), some (u64s (List.replicate 3 0))]⟩) (fun x => 2 - x.1) ⟨0, Nat.zero_le _⟩ (sle_sub ⟨rfl, rfl, rfl, trivial⟩ rfl) fun x => ?_   -- live: [1, 7]
  have hl := (ssts_len a x.1).trans ha
  refine awp_seq ?_
  refine rl ?_
  refine G (q_lssn (y := 2) ?_)
  refine gend ?_
  refine awp_seq ?_
  refine cnd (fun hc1 => ?_) (fun hc1 => ?_); rotate_left
  · refine awp_exit ?_
    rw [show x.1 = 2 from (by have := x.2; omega)]
    have hl := (ssts_len a 2).trans ha
    generalize hS : ssts a 2 = S at hl ⊢
    refine awp_seq ?_
    refine rl ?_
    refine G (q_al ?_)
    refine gend ?_
    refine awp_seq ?_
    refine rl ?_
    refine G (q_as (s := sc (c64 0)) ?_)
    refine gend ?_
    refine awp_seq ?_
    refine rl ?_
    refine G (q_ixp1 ?_)
    refine G (q_ldp ?_)
    refine G (q_subx (y := 18446744073709551611) (c := 0) ?_)
    refine G (q_mv (s := .t _) ?_)
    refine G (q_ext (y := .c _) ?_)
    refine G (q_ext (y := .c _) ?_)
    refine G (q_ixp1 ?_)
    refine G0 (q_stm ?_)
    refine As ?_
    refine gend ?_
    refine awp_seq ?_
    refine rl ?_
    refine G (q_ixp1 ?_)
    refine G (q_ldp ?_)
    refine Mv ?_
    refine G (q_subx (y := 18446744073709551615) ?_)
    refine G (q_mv (s := .t _) ?_)
    refine G (q_ext (y := .c _) ?_)
    refine G (q_ext (y := .c _) ?_)
    refine G (q_ixp1 ?_)
    refine G0 (q_stm ?_)
    refine As ?_
    refine gend ?_
    refine awp_seq ?_
    refine rl ?_
    refine G (q_ixp1 ?_)
    refine G (q_ldp ?_)
    refine Mv ?_
    refine G (q_subx (y := 3) ?_)
    refine G (q_mv (s := .t _) ?_)
    refine G (q_ext (y := .c _) ?_)
    refine G (q_ext (y := .c _) ?_)
    refine G (q_ixp1 ?_)
    refine G0 (q_stm ?_)
    refine As ?_
    refine gend ?_
    refine awp_seq ?_
    refine awp_seq ?_
    refine rl ?_
    refine Mv ?_
    refine G (q_eql64 (y := 0) ?_)
    refine gend ?_
    refine cnd (fun hc2 => ?_) (fun hc2 => ?_)
    · refine awp_seq ?_
      refine rl ?_
      refine G (q_ldw ?_)
      refine G0 (q_stw ?_)
      refine gend ?_
      refine awp_ret ?_
      exact fpc (t := 130) (a := 2) (hn := by simp only [mapc_length, List.length_set, List.length_replicate]) (hv := by rw [small, hS, sfin, if_pos (show sb3 S = 0 from hc2)]; rfl)
    refine awp_skip ?_
    refine awp_seq ?_
    refine rl ?_
    refine G (q_ldw ?_)
    refine G0 (q_stw ?_)
    refine gend ?_
    refine awp_ret ?_
    exact fpc (t := 130) (a := 2) (hn := by exact (mapc_length ..).trans hl) (hv := by rw [small, hS, sfin, if_neg (show ¬ sb3 S = 0 from hc2)])
  refine awp_skip ?_
  refine awp_seq ?_
  refine awp_block ?_
  refine awp_seq ?_
  refine rl ?_
  refine G (q_ixp1 ?_)
  refine G (q_ldp ?_)
  refine G (q_shr64_64 (n := 2) ?_)
  refine As ?_
  refine gend ?_
  refine awp_seq ?_
  refine rl ?_
  refine G (q_ixp1 ?_)
  refine G (q_ldp ?_)
  refine G (q_and64 (y := 3) ?_)
  refine G (q_ixp1 ?_)
  refine G0 (q_stm ?_)
  refine gend ?_
  refine awp_seq ?_
  refine rl ?_
  refine G (q_as (s := sc (c64 0)) ?_)
  refine gend ?_
  refine awp_seq ?_
  refine rl ?_
  refine G (q_ixp1 ?_)
  refine G (q_ldp ?_)
  refine Mv ?_
  refine G (q_mul64 (x := 5) ?_)
  refine G (q_addx (c := 0) ?_)
  refine G (q_mv (s := .t _) ?_)
  refine G (q_ext (y := .c _) ?_)
  refine G (q_ext (y := .c _) ?_)
  refine G (q_ixp1 ?_)
  refine G0 (q_stm ?_)
  refine As ?_
  refine gend ?_
  refine awp_seq ?_
  refine rl ?_
  refine G (q_ixp1 ?_)
  refine G (q_ldp ?_)
  refine Mv ?_
  refine G (q_addx (y := 0) ?_)
  refine G (q_mv (s := .t _) ?_)
  refine G (q_ext (y := .c _) ?_)
  refine G (q_ext (y := .c _) ?_)
  refine G (q_ixp1 ?_)
  refine G0 (q_stm ?_)
  refine As ?_
  refine gend ?_
  refine rl ?_
  refine G (q_ixp1 ?_)
  refine G (q_ldp ?_)
  refine Mv ?_
  refine G (q_add64 ?_)
  refine G (q_ixp1 ?_)
  refine G0 (q_stm ?_)
  refine gend ?_
  refine rl ?_
  refine G (q_addn (y := 1) ?_)
  refine Mv ?_
  refine gend ?_
  exact ⟨⟨x.1 + 1, by omega⟩, by show 2 - (x.1 + 1) < 2 - x.1; omega, sle_sub ⟨rfl, rfl, rfl, trivial⟩ rfl⟩   -- endloop 1
end Go.Proofs.Ytlnepajgnckolaa.Po

/- What functions of the program do, walked over the abstract machine. -/
namespace Go.Proofs.Ytlnepajgnckolaa.Po
open Go Go.Abs Go.Proofs

set_option maxRecDepth 20000
theorem slc_eq {b q q' n n' z : Nat} (h : q = q') (h' : n = n') : sc (.slc b q n z) = sc (.slc b q' n' z) := by rw [h, h']
def sp {α : Type} (a b : List α) (q : Nat) : List α := a.take q ++ (b ++ a.drop (q + b.length))
theorem splice_cpy {α : Type} {k : IntKind} {g : α → Int} {a b : List α} {q j c d : Nat} : splice (mapc k g a) q ((((mapc k g b).drop c).take d).take j) = mapc k g (sp a (((b.drop c).take d).take j) q) := by
  simp [mapc, splice, sp]
/-- A piece: bytes, and a one behind them. -/
def piece (m : List UInt8) (q k : Nat) : List UInt8 := (sp (List.replicate 24 0) (((m.drop q).take (k * 1)).take (min k 24 * 1)) 0).set k 1
abbrev raw (m : List UInt8) (q k : Nat) : List UInt8 := sp (List.replicate 24 0) (((m.drop q).take (k * 1)).take (min k 24 * 1)) 0
theorem raw_len (m : List UInt8) (q k : Nat) (hk : k ≤ 16) : (raw m q k).length = 24 := by
  simp [raw, sp]
  omega
theorem piece_len (m : List UInt8) (q k : Nat) (hk : k ≤ 16) : (piece m q k).length = 24 := by
  simp [piece, sp]
  omega
abbrev pat (P : List UInt8) (i : Nat) : List UInt8 := (P.drop (0 + 8 * i * 1)).take ((24 - 8 * i) * 1)
def pacc (m : List UInt8) (r : List UInt64) : Nat → List UInt64
  | 0 => List.replicate 3 0
  | j + 1 => small (times (addp (pacc m r j) (fun i => half (pat (piece m (min (16 * j) m.length) (min 16 (m.length - min (16 * j) m.length))) i)) 3).1 r)
theorem pacc_len (m : List UInt8) (r : List UInt64) : ∀ j, (pacc m r j).length = 3
  | 0 => by simp [pacc]
  | j + 1 => by rw [pacc]; exact small_len _ (times_len _ _)
abbrev kq (key : List UInt8) (q : Nat) : List UInt8 := (key.drop (0 + q * 1)).take ((32 - q) * 1)
abbrev rk (key : List UInt8) : List UInt64 := [half key &&& 1152921487695413247, half (kq key 8) &&& 1152921487695413244]
def outb (lo hi : UInt64) : Nat → List UInt8
  | 0 => List.replicate 16 0
  | i + 1 => ((outb lo hi i).set i (shr64n lo (8 * i)).toUInt8).set (8 + i) (shr64n hi (8 * i)).toUInt8
theorem outb_len (lo hi : UInt64) : ∀ i, (outb lo hi i).length = 16
  | 0 => by simp [outb]
  | i + 1 => by rw [outb, List.length_set, List.length_set, outb_len]
def fin2 (a : List UInt64) (key : List UInt8) : List UInt8 :=
  outb (a.getD 0 0 + half (kq key 16) + 0) (a.getD 1 0 + half (kq key 24) + addc (a.getD 0 0) (half (kq key 16)) 0) 8
def tag (key : List UInt8) (m : List UInt8) : List UInt8 := fin2 (pacc m (rk key) ((m.length + 15) / 16)) key
set_option maxHeartbeats 800000 in
/-- poly.Tag -/
theorem tag_ (key : List UInt8) (ps : List (List UInt8)) (k : Nat) (hkey : key.length = 32) (hk : ps.length = k) (hk9 : k ≤ 100000) (hm : ps.flatten.length ≤ 100000) : Good Try.prog 66 [.a (u8s key), .c (.ro k (pcs ps))] [] (sa (u8s (tag key ps.flatten))) [] := by
  refine good_frm 111 Try.func66 rfl rfl rfl rfl rfl rfl ?_
  refine awp_seq ?_
  refine rl ?_
  refine G (q_boxa ?_)
  refine G (q_al ?_)
  refine gend ?_
  refine awp_seq ?_
  refine rdl [7, 8] [0, 0, 0, 0, 0, 0, 0, 0, 1] [1, 1, 1, 1, 1, 1, 1, 1, 2] ?_
  refine DSp 0 rfl (fun _ hv => q_slp_no ⟨rfl, rfl⟩ (hp := hv)) ?_
  refine DSp 0 rfl (fun _ _ => q_callp (half_ 32 key (by omega) hkey (by decide)/- escutcheon/poly.half -/) ⟨rfl, rfl⟩) ?_
  refine Dp (fun _ => q_and64 (y := 1152921487695413247) ⟨rfl, rfl⟩) ?_
  refine DSp 0 rfl (fun _ hv => q_slp_lo (j := 8) ⟨rfl, rfl⟩ (hp := hv)) ?_
  refine DSp 0 rfl (fun _ _ => q_callp (half_ 24 (kq key 8) (by simp [hkey]) (by simp [hkey]) (by decide)/- escutcheon/poly.half -/) ⟨rfl, rfl⟩) ?_
  refine Dp (fun _ => q_and64 (y := 1152921487695413244) ⟨rfl, rfl⟩) ?_
  refine Dp (fun _ => q_bla (fkc rfl (et rfl) rfl (Nat.le_of_ble_eq_true rfl) (fkc rfl (et rfl) rfl (Nat.le_of_ble_eq_true rfl) (fk0 ⟨rfl, rfl⟩)))) ?_
  refine De (q_al (pw ?_))
  refine De0 (q_stw (pw ?_))
  refine dend ?_
  refine awp_seq ?_
  refine rl ?_
  refine As ?_
  refine gend ?_
  refine awp_seq ?_
  refine awp_seq ?_
  refine rl ?_
  refine Mv ?_
  refine G (q_leno ?_)
  refine G (q_mv (s := sc (cn 0)) ?_)
  refine gend ?_
  refine awp_block ?_
  refine awp_loop (fun x : {s : Nat × List UInt8 × Nat // s.1 ≤ k ∧ s.2.1 = fl ps s.1 ∧ s.2.1.length = s.2.2} => ⟨frm 111 [(2, sc (.ptr 0 0)), (4, sc (.ptr 1 0)), (5, sc (.ptr 2 0)), (6, sc (.slc 3 0 x.1.2.2 1)), (26, sc (.ro k (pcs ps))), (27, sc (cn k)), (28, sc (cn x.1.1))], [some (u8s key), some (u8s (List.replicate 16 0)), some (u64s (rk key)), some (u8s x.1.2.1)]⟩) (fun x => k - x.1.1) ⟨(0, [], 0), Nat.zero_le _, rfl, rfl⟩ (sle_empty 1 (Nat.zero_le _) ⟨.inl rfl, .inl rfl, .inl rfl, .inr ⟨rfl, rfl⟩, .inl rfl, .inl rfl, .inl rfl, trivial⟩) fun x => ?_
  have h1 := x.2.1
  have h2 := x.2.2.1
  have hmn := x.2.2.2
  have hpl : (pcs ps).length = k := by simp [pcs, hk]
  refine awp_seq ?_
  refine rl ?_
  refine G (q_lssn ?_)
  refine gend ?_
  refine awp_seq ?_
  refine cnd (fun hc1 => ?_) (fun hc1 => ?_); rotate_left
  · refine awp_exit ?_
    have hik : x.1.1 = k := by omega
    have hmf : x.1.2.1 = ps.flatten := by rw [h2, fl, hik, ← hk, List.take_length]
    generalize x.1.2.1 = m at hmf hmn ⊢
    generalize x.1.2.2 = n at hmn ⊢
    have hn9 : n ≤ 100000 := by rw [← hmn, hmf]; exact hm
    refine awp_seq ?_
    refine rl ?_
    refine G (q_al ?_)
    refine gend ?_
    refine awp_seq ?_
    refine awp_block ?_
    refine awp_loop (fun j : {i : Nat // i ≤ (n + 15) / 16} => ⟨frm 111 [(2, sc (.ptr 0 0)), (4, sc (.ptr 1 0)), (5, sc (.ptr 2 0)), (6, sc (.slc 3 (min (16 * j.1) n) (n - min (16 * j.1) n) 1)), (9, sc (.ptr 4 0))], [some (u8s key), some (u8s (List.replicate 16 0)), some (u64s (rk key)), some (u8s m), some (u64s (pacc m (rk key) j.1))]⟩) (fun j => (n + 15) / 16 - j.1) ⟨0, Nat.zero_le _⟩ (sle_sub ⟨rfl, rfl, rfl, slc_eq (by simp) (by simp), rfl, trivial⟩ rfl) fun j => ?_   -- live: [5, 6, 9]
    have ha := pacc_len m (rk key) j.1
    refine awp_seq ?_
    refine awp_seq ?_
    refine rl ?_
    refine Mv ?_
    refine G (q_lenc ?_)
    refine G (q_gtrn (y := 0) ?_)
    refine gend ?_
    refine cnd (fun hc2 => ?_) (fun hc2 => ?_); rotate_left
    · refine awp_exit ?_
      rw [show j.1 = (n + 15) / 16 from (by have := j.2; omega)]
      have ha := pacc_len m (rk key) ((n + 15) / 16)
      generalize hA : pacc m (rk key) ((n + 15) / 16) = A at ha ⊢
      refine awp_seq ?_
      refine rdl [] [] [] ?_
      refine Dp (fun _ => q_ixp1 ⟨rfl, rfl⟩) ?_
      refine DLp ?_
      refine DSp 0 rfl (fun _ hv => q_slp_lo (j := 16) ⟨rfl, rfl⟩ (hp := hv)) ?_
      refine DSp 0 rfl (fun _ _ => q_callp (half_ 16 (kq key 16) (by simp [hkey]) (by simp [hkey]) (by decide)/- escutcheon/poly.half -/) ⟨rfl, rfl⟩) ?_
      refine Dp (fun _ => q_addx (c := 0) ⟨rfl, rfl⟩) ?_
      refine Dp (fun _ => q_mv (s := .t _) ⟨rfl, rfl⟩) ?_
      refine Dp (fun _ => q_ext (y := .c _) ⟨rfl, rfl⟩) ?_
      refine Dp (fun _ => q_ext (y := .c _) ⟨rfl, rfl⟩) ?_
      refine Dp (fun _ => q_as (s := .v (.c _)) ⟨rfl, rfl⟩) ?_
      refine Dp (fun _ => q_as (s := .v (.c _)) ⟨rfl, rfl⟩) ?_
      refine dend ?_
      refine awp_seq ?_
      refine rdl [] [] [] ?_
      refine Dp (fun _ => q_ixp1 ⟨rfl, rfl⟩) ?_
      refine DLp ?_
      refine DSp 0 rfl (fun _ hv => q_slp_lo (j := 24) ⟨rfl, rfl⟩ (hp := hv)) ?_
      refine DSp 0 rfl (fun _ _ => q_callp (half_ 8 (kq key 24) (by simp [hkey]) (by simp [hkey]) (by decide)/- escutcheon/poly.half -/) ⟨rfl, rfl⟩) ?_
      refine Dp (fun _ => q_mv (s := .v (.c _)) ⟨rfl, rfl⟩) ?_
      refine Dp (fun _ => q_addx ⟨rfl, rfl⟩) ?_
      refine Dp (fun _ => q_mv (s := .t _) ⟨rfl, rfl⟩) ?_
      refine Dp (fun _ => q_ext (y := .c _) ⟨rfl, rfl⟩) ?_
      refine Dp (fun _ => q_ext (y := .c _) ⟨rfl, rfl⟩) ?_
      refine Dp (fun _ => q_as (s := .v (.c _)) ⟨rfl, rfl⟩) ?_
      refine Dp (fun _ => q_as (s := .v (.c _)) ⟨rfl, rfl⟩) ?_
      refine dend ?_
      refine awp_seq ?_
      refine awp_seq ?_
      refine rl ?_
      refine G (q_mv (s := sc (cn 0)) ?_)
      refine gend ?_
      refine awp_block ?_
      refine awp_loop (fun y : {i : Nat // i ≤ 8} => ⟨frm 111 [(4, sc (.ptr 1 0)), (14, sc (c64 (A.getD 0 0 + half (kq key 16) + 0))), (16, sc (c64 (A.getD 1 0 + half (kq key 24) + addc (A.getD 0 0) (half (kq key 16)) 0))), (91, sc (cn y.1))], [some (u8s key), some (u8s (outb (A.getD 0 0 + half (kq key 16) + 0) (A.getD 1 0 + half (kq key 24) + addc (A.getD 0 0) (half (kq key 16)) 0) y.1)), some (u64s (rk key)), some (u8s m), some (u64s A)]⟩) (fun y => 8 - y.1) ⟨0, Nat.zero_le _⟩ (sle_sub ⟨rfl, rfl, rfl, rfl, trivial⟩ rfl) fun y => ?_   -- live: [4, 14, 16, 91]
      have hl := outb_len (A.getD 0 0 + half (kq key 16) + 0) (A.getD 1 0 + half (kq key 24) + addc (A.getD 0 0) (half (kq key 16)) 0) y.1
      refine awp_seq ?_
      refine rl ?_
      refine G (q_lssn (y := 8) ?_)
      refine gend ?_
      refine awp_seq ?_
      refine cnd (fun hc3 => ?_) (fun hc3 => ?_); rotate_left
      · refine awp_exit ?_
        rw [show y.1 = 8 from (by have := y.2; omega)]
        have hl := outb_len (A.getD 0 0 + half (kq key 16) + 0) (A.getD 1 0 + half (kq key 24) + addc (A.getD 0 0) (half (kq key 16)) 0) 8
        refine awp_seq ?_
        refine rl ?_
        refine G (q_ldw  ?_ (hl := (mapc_length ..).trans hl))
        refine G0 (q_stw  ?_ (hl := (mapc_length ..).trans hl) (hc := (mapc_length ..).trans hl))
        refine gend ?_
        refine awp_ret ?_
        exact fpc (t := 89) (a := 4) (hn := by exact (mapc_length ..).trans hl) (hv := by rw [tag, ← hmf, hmn, hA]; rfl)
      refine awp_skip ?_
      refine awp_seq ?_
      refine awp_block ?_
      refine awp_seq ?_
      refine rl ?_
      refine Mv ?_
      refine As ?_
      refine gend ?_
      refine rdl [14, 16] [0, 0, 0, 0, 0, 0, 0, 0, 0, 0, 0, 0, 0, 0, 0, 1, 1] [0, 1, 1, 0, 0, 0, 0, 0, 1, 1, 1, 1, 1, 0, 1, 1, 2] ?_
      refine Dp (fun _ => q_mv (s := .v (.c _)) ⟨rfl, rfl⟩) ?_
      refine Dp (fun _ => q_mv (s := .v (.c _)) ⟨rfl, rfl⟩) ?_
      refine Dp (fun _ => q_addn (x := 8) ⟨rfl, rfl⟩) ?_
      refine Dp (fun _ => q_mv (s := .v (.c _)) ⟨rfl, rfl⟩) ?_
      refine Dp (fun _ => q_mv (s := .v (.c _)) ⟨rfl, rfl⟩) ?_
      refine Dp (fun _ => q_muln (x := 8) ⟨rfl, rfl⟩) ?_
      refine Dp (fun _ => q_shr64_0 ⟨rfl, rfl⟩) ?_
      refine Dp (fun _ => q_cv64_8 ⟨rfl, rfl⟩) ?_
      refine Dp (fun _ => q_mv (s := .v (.c _)) ⟨rfl, rfl⟩) ?_
      refine Dp (fun _ => q_mv (s := .v (.c _)) ⟨rfl, rfl⟩) ?_
      refine Dp (fun _ => q_muln (x := 8) ⟨rfl, rfl⟩) ?_
      refine Dp (fun _ => q_shr64_0 ⟨rfl, rfl⟩) ?_
      refine Dp (fun _ => q_cv64_8 ⟨rfl, rfl⟩) ?_
      refine Dp (fun _ => q_ixp1 ⟨rfl, rfl⟩) ?_
      refine De0 (q_stm (pw ?_))
      refine Dp (fun _ => q_ixp1 ⟨rfl, rfl⟩) ?_
      refine De0 (q_stm (pw ?_))
      refine dend ?_
      refine rl ?_
      refine G (q_addn (y := 1) ?_)
      refine Mv ?_
      refine gend ?_
      exact ⟨⟨y.1 + 1, by omega⟩, by show 8 - (y.1 + 1) < 8 - y.1; omega, sle_sub ⟨rfl, rfl, rfl, rfl, trivial⟩ rfl⟩   -- endloop 3
    refine awp_skip ?_
    refine awp_block ?_
    refine awp_seq ?_
    refine rl ?_
    refine Mv ?_
    refine G (q_lenc ?_)
    refine G (q_minn (x := 16) ?_)
    refine As ?_
    refine gend ?_
    refine awp_seq ?_
    refine rl ?_
    refine G (q_al ?_)
    refine gend ?_
    refine awp_seq ?_
    refine rdl [4] [] [0, 0, 0, 0, 1] ?_
    refine DSp 5 rfl (fun _ hv => q_slp_no ⟨rfl, rfl⟩ (hp := hv)) ?_
    refine Dp (fun _ => q_mv (s := .v (.c _)) ⟨rfl, rfl⟩) ?_
    refine Dp (fun _ => q_mv (s := .v (.c _)) ⟨rfl, rfl⟩) ?_
    refine Dp (fun _ => q_sls_hi ⟨rfl, rfl⟩) ?_
    refine De (q_cpy (pw ?_))
    refine dend ?_
    have hsp := raw_len m (min (16 * j.1) n) (min 16 (n - min (16 * j.1) n)) (by omega)
    refine reheap [(2, sc (.ptr 0 0)), (4, sc (.ptr 1 0)), (5, sc (.ptr 2 0)), (6, sc (.slc 3 (min (16 * j.1) n) (n - min (16 * j.1) n) 1)), (9, sc (.ptr 4 0)), (10, sc (cn (min 16 (n - min (16 * j.1) n)))), (11, sc (.ptr 5 0))] [some (u8s key), some (u8s (List.replicate 16 0)), some (u64s (rk key)), some (u8s m), some (u64s (pacc m (rk key) j.1)), some (u8s (raw m (min (16 * j.1) n) (min 16 (n - min (16 * j.1) n))))] ?_ ⟨rfl, rfl, rfl, rfl, rfl, rfl, rfl, trivial⟩ (congrArg (fun z => [some (u8s key), some (u8s (List.replicate 16 0)), some (u64s (rk key)), some (u8s m), some (u64s (pacc m (rk key) j.1)), some z]) splice_cpy)
    refine awp_seq ?_
    refine rl ?_
    refine Mv ?_
    refine G (q_ixp1 ?_)
    refine G0 (q_stm (x := (1 : UInt8)) ?_)
    refine gend ?_
    refine awp_seq ?_
    refine rl ?_
    refine G (q_as (s := sc (c64 0)) ?_)
    refine gend ?_
    refine awp_seq ?_
    refine awp_seq ?_
    refine rl ?_
    refine G (q_mv (s := sc (cn 0)) ?_)
    refine gend ?_
    obtain ⟨P, hP'⟩ : ∃ P, piece m (min (16 * j.1) n) (min 16 (n - min (16 * j.1) n)) = P := ⟨_, rfl⟩
    have hP : P.length = 24 := by rw [← hP']; exact piece_len _ _ _ (by omega)
    refine awp_block ?_
    refine awp_loop (fun e : {i : Nat // i ≤ 3} => ⟨frm 111 [(2, sc (.ptr 0 0)), (4, sc (.ptr 1 0)), (5, sc (.ptr 2 0)), (6, sc (.slc 3 (min (16 * j.1) n) (n - min (16 * j.1) n) 1)), (9, sc (.ptr 4 0)), (10, sc (cn (min 16 (n - min (16 * j.1) n)))), (11, sc (.ptr 5 0)), (12, sc (c64 (addp (pacc m (rk key) j.1) (fun i => half (pat P i)) e.1).2)), (49, sc (cn e.1))], [some (u8s key), some (u8s (List.replicate 16 0)), some (u64s (rk key)), some (u8s m), some (u64s (addp (pacc m (rk key) j.1) (fun i => half (pat P i)) e.1).1), some (u8s P)]⟩) (fun e => 3 - e.1) ⟨0, Nat.zero_le _⟩ (sle_sub ⟨rfl, rfl, rfl, rfl, rfl, rfl, rfl, rfl, rfl, trivial⟩ (by rw [← hP']; rfl)) fun e => ?_   -- live: [9, 11, 12, 49]
    have hi := (addp_len (pacc m (rk key) j.1) (fun i => half (pat P i)) e.1).trans ha
    have hc := addp_le (pacc m (rk key) j.1) (fun i => half (pat P i)) e.1
    refine awp_seq ?_
    refine rl ?_
    refine G (q_lssn (y := 3) ?_)
    refine gend ?_
    refine awp_seq ?_
    refine cnd (fun hc4 => ?_) (fun hc4 => ?_); rotate_left
    · refine awp_exit ?_
      rw [show e.1 = 3 from (by have := e.2; omega)]
      have hi := (addp_len (pacc m (rk key) j.1) (fun i => half (pat P i)) 3).trans ha
      have gT := times_ (addp (pacc m (rk key) j.1) (fun i => half (pat P i)) 3).1 (rk key) hi rfl
      have gS := small_ (times (addp (pacc m (rk key) j.1) (fun i => half (pat P i)) 3).1 (rk key)) (times_len ..)
      have hpa : pacc m (rk key) (j.1 + 1) = small (times (addp (pacc m (rk key) j.1) (fun i => half (pat P i)) 3).1 (rk key)) := by rw [pacc, hmn, hP']
      rw [← hpa] at gS
      have hA1 := pacc_len m (rk key) (j.1 + 1)
      obtain ⟨A1, hA1e⟩ : ∃ A, pacc m (rk key) (j.1 + 1) = A := ⟨_, rfl⟩
      rw [hA1e] at gS hA1
      generalize times (addp (pacc m (rk key) j.1) (fun i => half (pat P i)) 3).1 (rk key) = T at gT gS
      refine awp_seq ?_
      refine rl ?_
      refine G (q_ldw  ?_ (hl := (mapc_length ..).trans hi))
      refine G (q_ldw  ?_ (hl := (mapc_length ..).trans rfl))
      refine G (q_callp (gT/- escutcheon/poly.times -/) ?_)
      refine G (q_callp (gS/- escutcheon/poly.small -/) ?_)
      refine G0 (q_stw  ?_ (hl := (mapc_length ..).trans hA1) (hc := (mapc_length ..).trans hi))
      refine gend ?_
      refine rl ?_
      refine Mv ?_
      refine Mv ?_
      refine G (q_sls_lo ?_)
      refine As ?_
      refine gend ?_
      exact ⟨⟨j.1 + 1, by omega⟩, by show (n + 15) / 16 - (j.1 + 1) < (n + 15) / 16 - j.1; omega, sle_view [0, 1, 2, 3, 4] (fun p h => absurd h (Nat.not_lt_zero _)) (by decide) ⟨rfl, rfl, rfl, slc_eq (by show _ = min (16 * (j.1 + 1)) n; omega) (by show _ = n - min (16 * (j.1 + 1)) n; omega), rfl, trivial⟩ (vh5 (pick_m rfl) (pick_m rfl) (pick_m rfl) (pick_m rfl) (pick_m (congrArg (fun z => some (some (u64s z))) hA1e.symm)))⟩   -- endloop 2
    refine awp_skip ?_
    refine awp_seq ?_
    refine awp_block ?_
    refine awp_seq ?_
    refine rl ?_
    refine Mv ?_
    refine As ?_
    refine gend ?_
    refine rdl [14] [0, 0, 0, 0, 0, 0, 0, 0, 0, 0, 0, 0, 0, 0, 0, 1] [0, 0, 0, 0, 0, 0, 0, 0, 0, 0, 0, 0, 1, 0, 1, 1] ?_
    refine Dp (fun _ => q_mv (s := .v (.c _)) ⟨rfl, rfl⟩) ?_
    refine Dp (fun _ => q_mv (s := .v (.c _)) ⟨rfl, rfl⟩) ?_
    refine Dp (fun _ => q_ixp1 ⟨rfl, rfl⟩) ?_
    refine DLp ?_
    refine Dp (fun _ => q_mv (s := .v (.c _)) ⟨rfl, rfl⟩) ?_
    refine Dp (fun _ => q_muln (x := 8) ⟨rfl, rfl⟩) ?_
    refine DSp 5 rfl (fun _ hv => q_slp_lo ⟨rfl, rfl⟩ (hp := hv)) ?_
    refine DSp 5 rfl (fun _ _ => q_callp (half_ (24 - 8 * e.1) (pat P e.1) (by simp [hP]; omega) (by simp [hP]) (by omega)/- escutcheon/poly.half -/) ⟨rfl, rfl⟩) ?_
    refine Dp (fun _ => q_mv (s := .v (.c _)) ⟨rfl, rfl⟩) ?_
    refine Dp (fun _ => q_addx ⟨rfl, rfl⟩) ?_
    refine Dp (fun _ => q_mv (s := .t _) ⟨rfl, rfl⟩) ?_
    refine Dp (fun _ => q_ext (y := .c _) ⟨rfl, rfl⟩) ?_
    refine Dp (fun _ => q_ext (y := .c _) ⟨rfl, rfl⟩) ?_
    refine Dp (fun _ => q_ixp1 ⟨rfl, rfl⟩) ?_
    refine De0 (q_stm (pw ?_))
    refine Dp (fun _ => q_as (s := .v (.c _)) ⟨rfl, rfl⟩) ?_
    refine dend ?_
    refine rl ?_
    refine G (q_addn (y := 1) ?_)
    refine Mv ?_
    refine gend ?_
    exact ⟨⟨e.1 + 1, by omega⟩, by show 3 - (e.1 + 1) < 3 - e.1; omega, sle_sub ⟨rfl, rfl, rfl, rfl, rfl, rfl, rfl, rfl, rfl, trivial⟩ rfl⟩   -- endloop 4
  refine awp_skip ?_
  refine awp_seq ?_
  refine awp_block ?_
  refine awp_seq ?_
  refine rl ?_
  have hb := fl_le ps x.1.1 (by omega)
  rw [← h2, hmn] at hb
  refine G (q_ixo1 ?_)
  refine G (q_ldrd ?_ (hc := pcs_at (by omega)))
  refine As ?_
  refine gend ?_
  refine rl ?_
  refine Mv ?_
  refine Mv ?_
  refine G (q_app ?_)
  refine As ?_
  refine gend ?_
  refine rl ?_
  refine G (q_addn (y := 1) ?_)
  refine Mv ?_
  refine gend ?_
  exact ⟨⟨(x.1.1 + 1, x.1.2.1 ++ ps.getD x.1.1 [], x.1.2.2 + (ps.getD x.1.1 []).length), by show x.1.1 + 1 ≤ k; omega, by show x.1.2.1 ++ _ = fl ps (x.1.1 + 1); rw [fl_succ ps x.1.1 (by omega), h2], by show (x.1.2.1 ++ _).length = _; rw [List.length_append, hmn]⟩, by show k - (x.1.1 + 1) < k - x.1.1; omega, sle_view [0, 1, 2, 4] (fun p h => absurd h (Nat.not_lt_zero _)) (by decide) ⟨rfl, rfl, rfl, rfl, rs_pcs, rfl, rfl, trivial⟩ (vh4 (pick_m rfl) (pick_m rfl) (pick_m rfl) (pick_m (congrArg (fun z => some (some z)) (mapc_append ..))))⟩   -- endloop 1
theorem tag_len (key m : List UInt8) : (tag key m).length = 16 := by unfold tag fin2; exact outb_len _ _ _
end Go.Proofs.Ytlnepajgnckolaa.Po

/- What functions of the program do, walked over the abstract machine. -/
namespace Go.Proofs.Ytlnepajgnckolaa.Po
open Go Go.Abs Go.Proofs

set_option maxRecDepth 20000
/-- The reference: carries. -/
def nrm (d : List UInt64) : Nat → List UInt64 × UInt64
  | 0 => (d, 0)
  | i + 1 => ((nrm d i).1.set i (((nrm d i).1.getD i 0 + (nrm d i).2) % 256), ((nrm d i).1.getD i 0 + (nrm d i).2) / 256)
/-- What stands from bit 130 on is taken out. -/
def fld (d : List UInt64) : Nat → List UInt64 × List UInt64
  | 0 => (d, List.replicate 34 0)
  | j + 1 =>
    if 16 < 16 + j then
      ((fld d j).1.set (16 + j) 0,
        ((fld d j).2.set (16 + j - 16) ((fld d j).2.getD (16 + j - 16) 0 + (fld d j).1.getD (16 + j) 0 / 4)).set (16 + j - 17)
          (((fld d j).2.set (16 + j - 16) ((fld d j).2.getD (16 + j - 16) 0 + (fld d j).1.getD (16 + j) 0 / 4)).getD (16 + j - 17) 0 + (fld d j).1.getD (16 + j) 0 % 4 * 64))
    else ((fld d j).1.set (16 + j) ((fld d j).1.getD (16 + j) 0 % 4), (fld d j).2.set (16 + j - 16) ((fld d j).2.getD (16 + j - 16) 0 + (fld d j).1.getD (16 + j) 0 / 4))
def add5 (d u : List UInt64) : Nat → List UInt64
  | 0 => d
  | i + 1 => (add5 d u i).set i ((add5 d u i).getD i 0 + 5 * u.getD i 0)
def pss (d : List UInt64) : Nat → List UInt64
  | 0 => d
  | k + 1 => add5 (fld (nrm (pss d k) 34).1 18).1 (fld (nrm (pss d k) 34).1 18).2 34
def nn (d : List UInt64) : Nat → List UInt64 × UInt64
  | 0 => (List.replicate 17 0, 0)
  | i + 1 => ((nn d i).1.set i ((d.getD i 0 + (nn d i).2) % 256), (d.getD i 0 + (nn d i).2) / 256)
def g0 (n : List UInt64) : Bool := (decide (n.getD 16 0 = 3) && decide (251 ≤ n.getD 0 0)) || decide (3 < n.getD 16 0)
def gr (n : List UInt64) : Nat → Bool
  | 0 => g0 n
  | i + 1 => gr n i && (decide (n.getD (1 + i) 0 = 255) || decide (3 < n.getD 16 0))
def sb5 (n : List UInt64) : Nat → List UInt64 × UInt64
  | 0 => (n, 5)
  | i + 1 => ((sb5 n i).1.set i (((sb5 n i).1.getD i 0 + (sb5 n i).2) % 256), ((sb5 n i).1.getD i 0 + (sb5 n i).2) / 256)
def rsfin (n : List UInt64) : List UInt64 := if gr n 15 then (sb5 n 17).1.set 16 ((sb5 n 17).1.getD 16 0 - 4) else n
def rsmall (d : List UInt64) : List UInt64 := rsfin (nn (pss d 4) 17).1
def rv1 (key : List UInt8) (i : Nat) : UInt64 := if i % 4 = 3 then (key.getD i 0).toUInt64 % 16 else (key.getD i 0).toUInt64
def rv (key : List UInt8) (i : Nat) : UInt64 := if i = 4 ∨ i = 8 ∨ i = 12 then rv1 key i / 4 * 4 else rv1 key i
def rr (key : List UInt8) : Nat → List UInt64
  | 0 => List.replicate 16 0
  | i + 1 => (rr key i).set i (rv key i)
/-- Bytes are added. -/
def radd (a : List UInt64) (l : List UInt8) (q : Nat) : Nat → List UInt64
  | 0 => a
  | i + 1 => (radd a l q i).set i ((radd a l q i).getD i 0 + (l.getD (q + i) 0).toUInt64)
def pin (a r : List UInt64) (i : Nat) (d : List UInt64) : Nat → List UInt64
  | 0 => d
  | k + 1 => (pin a r i d k).set (i + k) ((pin a r i d k).getD (i + k) 0 + a.getD i 0 * r.getD k 0)
def pout (a r : List UInt64) : Nat → List UInt64
  | 0 => List.replicate 34 0
  | i + 1 => pin a r i (pout a r i) 16
def rblk (a : List UInt64) (l : List UInt8) (q k : Nat) : List UInt64 := (radd a l q k).set k ((radd a l q k).getD k 0 + 1)
def racc (l : List UInt8) (r : List UInt64) : Nat → List UInt64
  | 0 => List.replicate 17 0
  | j + 1 => rsmall (pout (rblk (racc l r j) l (16 * j) (min 16 (l.length - 16 * j))) r 17)
def rob (a : List UInt64) (key : List UInt8) : Nat → List UInt8 × UInt64
  | 0 => (List.replicate 16 0, 0)
  | i + 1 => ((rob a key i).1.set i (a.getD i 0 + (key.getD (16 + i) 0).toUInt64 + (rob a key i).2).toUInt8, (a.getD i 0 + (key.getD (16 + i) 0).toUInt64 + (rob a key i).2) / 256)
def rtag (key l : List UInt8) : List UInt8 := (rob (racc l (rr key 16) ((l.length + 15) / 16)) key 16).1
end Go.Proofs.Ytlnepajgnckolaa.Po

/- The reference's numbers of base 256. -/
namespace Go.Proofs.Ytlnepajgnckolaa.Po
open Go Go.Abs Go.Proofs

/-- The number of the first digits. -/
def Dv (d : List UInt64) : Nat → Nat
  | 0 => 0
  | i + 1 => Dv d i + 256 ^ i * (d.getD i 0).toNat
/-- Digits that are no great ones. -/
def Bd (d : List UInt64) (b : Nat) : Prop := ∀ i, (d.getD i 0).toNat ≤ b
end Go.Proofs.Ytlnepajgnckolaa.Po

/- What the bytes of marks come to, as numbers. -/
namespace Go.Proofs.Ytlnepajgnckolaa.Po
open Go Go.Abs Go.Proofs

/-- The number of the first bytes, the lowest first. -/
def Fv (f : Nat → UInt8) : Nat → Nat
  | 0 => 0
  | i + 1 => Fv f i + 256 ^ i * (f i).toNat
/-- A sum's digits. -/
def byt (x : UInt64) (i : Nat) : UInt8 := (shr64n x (8 * i)).toUInt8
end Go.Proofs.Ytlnepajgnckolaa.Po

/- The steps of a mark, as numbers modulo 2^130 - 5. -/
namespace Go.Proofs.Ytlnepajgnckolaa.Po
open Go Go.Abs Go.Proofs

/-- Three words as a number. -/
def V3 (l : List UInt64) : Nat := (l.getD 0 0).toNat + 18446744073709551616 * (l.getD 1 0).toNat + 340282366920938463463374607431768211456 * (l.getD 2 0).toNat
end Go.Proofs.Ytlnepajgnckolaa.Po

/- The reference's mark as a number. -/
namespace Go.Proofs.Ytlnepajgnckolaa.Po
open Go Go.Abs Go.Proofs

theorem Bd.mono {d : List UInt64} {a b : Nat} (h : Bd d a) (hab : a ≤ b) : Bd d b := fun i => Nat.le_trans (h i) hab
/-- A piece, as a number. -/
def Pn (l : List UInt8) (q k : Nat) : Nat := Fv (fun i => l.getD (q + i) 0) k + 256 ^ k
/-- The mark's number, block by block. -/
def An (l : List UInt8) (R : Nat) : Nat → Nat
  | 0 => 0
  | j + 1 => (An l R j + Pn l (16 * j) (min 16 (l.length - 16 * j))) * R % 1361129467683753853853498429727072845819
end Go.Proofs.Ytlnepajgnckolaa.Po

/- The mark and the reference's mark are one. -/
namespace Go.Proofs.Ytlnepajgnckolaa.Po
open Go Go.Abs Go.Proofs

/-- The factor's bytes. -/
def kb8 (key : List UInt8) (i : Nat) : UInt8 := if i < 8 then key.getD i 0 &&& byt 1152921487695413247 i else key.getD i 0 &&& byt 1152921487695413244 (i - 8)
end Go.Proofs.Ytlnepajgnckolaa.Po

/- What functions of the program do, walked over the abstract machine. -/
namespace Go.Proofs.Ytlnepajgnckolaa.Ch
open Go Go.Abs Go.Proofs

set_option maxRecDepth 20000
/-- A word turned by so many bits. -/
def turn (x : UInt32) (n : UInt64) : UInt32 := shl32n x n.toNat ||| shr32n x (32 - n).toNat
/-- One half of a quarter round. -/
def q1 (s : List UInt32) (a b : Nat) : List UInt32 := s.set a (s.getD a 0 + s.getD b 0)
def q2 (s : List UInt32) (a d : Nat) (r : Nat) : List UInt32 := s.set d (turn (s.getD d 0 ^^^ s.getD a 0) (UInt64.ofNat r))
def qh (s : List UInt32) (a b c d : Nat) (r r' : Nat) : List UInt32 := q2 (q1 (q2 (q1 s a b) a d r) c d) c b r'
def qr (s : List UInt32) (a b c d : Nat) : List UInt32 := qh (qh s a b c d 16 12) a b c d 8 7
theorem q1_len (s : List UInt32) (a b : Nat) : (q1 s a b).length = s.length := by simp [q1]
theorem q2_len (s : List UInt32) (a d r : Nat) : (q2 s a d r).length = s.length := by simp [q2]
theorem qh_len (s : List UInt32) (a b c d r r' : Nat) : (qh s a b c d r r').length = s.length := by simp [qh, q1_len, q2_len]
theorem qr_len (s : List UInt32) (a b c d : Nat) : (qr s a b c d).length = s.length := by simp [qr, qh_len]
def qa (j : Nat) : Nat := if j = 0 then 16 else 8
def qb (j : Nat) : Nat := if j = 0 then 12 else 7
def qs (s : List UInt32) (a b c d : Nat) : Nat → List UInt32
  | 0 => s
  | j + 1 => qh (qs s a b c d j) a b c d (qa j) (qb j)
theorem qs_len (s : List UInt32) (a b c d : Nat) : ∀ j, (qs s a b c d j).length = s.length
  | 0 => rfl
  | j + 1 => by rw [qs, qh_len, qs_len]
theorem qab (j : Nat) (h : j < 2) : (([cn 16, cn 12] ++ [cn 8, cn 7]).drop (j * 2)).take 2 = [cn (qa j), cn (qb j)] := by
  match j, h with
  | 0, _ => rfl
  | 1, _ => rfl
theorem qa_le (j : Nat) : qa j ≤ 16 := by unfold qa; split <;> decide
theorem qb_le (j : Nat) : qb j ≤ 16 := by unfold qb; split <;> decide
theorem turn_mod (x : UInt32) (r : Nat) (h : r ≤ 16) : turn x (UInt64.ofNat r &&& 31) = turn x (UInt64.ofNat r) := by
  have : UInt64.ofNat r &&& 31 = UInt64.ofNat r := by
    have : ∀ r : Fin 17, UInt64.ofNat r.1 &&& 31 = UInt64.ofNat r.1 := by decide
    exact this ⟨r, by omega⟩
  rw [this]
/-- A word of four bytes. -/
def wd (l : List UInt8) : UInt32 := (l.getD 0 0).toUInt32 ||| shl32n (l.getD 1 0).toUInt32 8 ||| shl32n (l.getD 2 0).toUInt32 16 ||| shl32n (l.getD 3 0).toUInt32 24
/-- math/bits.RotateLeft32 -/
theorem rotate (x : UInt32) (r : Nat) (h : r ≤ 16) : Good Try.prog 73 [.c (c32 x), .c (cn r)] [] (sc (c32 (turn x (UInt64.ofNat r)))) [] := by
  refine good_frm 17 Try.func73 rfl rfl rfl rfl rfl rfl ?_
  refine awp_seq ?_
  refine rl ?_
  refine G (q_as (s := sc (c32 0)) ?_)
  refine gend ?_
  refine awp_seq ?_
  refine rl ?_
  refine Mv ?_
  refine G (q_cv0_64 ?_)
  refine G (q_and64 (y := 31) ?_)
  refine As ?_
  refine gend ?_
  refine awp_seq ?_
  refine rl ?_
  refine Mv ?_
  refine Mv ?_
  refine G (q_shl32_64 ?_)
  refine Mv ?_
  refine Mv ?_
  refine G (q_sub64 (x := 32) ?_)
  refine G (q_shr32_64 ?_)
  refine G (q_or32 ?_)
  refine As ?_
  refine gend ?_
  refine awp_ret ?_
  exact fp1 (hv := by rw [← turn_mod x r h]; rfl)
/-- escutcheonref08.turn -/
theorem rturn (x : UInt32) (n : UInt64) : Good Try.prog 86 [.c (c32 x), .c (c64 n)] [] (sc (c32 (turn x n))) [] := by
  refine good_frm 13 Try.func86 rfl rfl rfl rfl rfl rfl ?_
  refine awp_seq ?_
  refine rl ?_
  refine G (q_as (s := sc (c32 0)) ?_)
  refine gend ?_
  refine awp_seq ?_
  refine rl ?_
  refine Mv ?_
  refine Mv ?_
  refine G (q_shl32_64 ?_)
  refine Mv ?_
  refine Mv ?_
  refine G (q_sub64 (x := 32) ?_)
  refine G (q_shr32_64 ?_)
  refine G (q_or32 ?_)
  refine As ?_
  refine gend ?_
  refine awp_ret ?_
  exact fp1
/-- chacha.word -/
theorem word (n : Nat) (l : List UInt8) (h : 4 ≤ l.length) (hn : l.length = n) : Good Try.prog 76 [.c (.ro n (u8s l))] [] (sc (c32 (wd l))) [] := by
  refine good_frm 25 Try.func76 rfl rfl rfl rfl rfl rfl ?_
  refine awp_seq ?_
  refine rl ?_
  refine G (q_as (s := sc (c32 0)) ?_)
  refine gend ?_
  refine awp_seq ?_
  refine rdl [] [] [] ?_
  refine Dp (fun _ => q_mv (s := .v (.c _)) ⟨rfl, rfl⟩) ?_
  refine Dp (fun _ => q_ixo1 ⟨rfl, rfl⟩) ?_
  refine Dp (fun _ => q_ldrd ⟨rfl, rfl⟩) ?_
  refine Dp (fun _ => q_cv8_32 ⟨rfl, rfl⟩) ?_
  refine Dp (fun _ => q_mv (s := .v (.c _)) ⟨rfl, rfl⟩) ?_
  refine Dp (fun _ => q_ixo1 ⟨rfl, rfl⟩) ?_
  refine Dp (fun _ => q_ldrd ⟨rfl, rfl⟩) ?_
  refine Dp (fun _ => q_cv8_32 ⟨rfl, rfl⟩) ?_
  refine Dp (fun _ => q_shl32_64 (n := 8) ⟨rfl, rfl⟩) ?_
  refine Dp (fun _ => q_or32 ⟨rfl, rfl⟩) ?_
  refine Dp (fun _ => q_mv (s := .v (.c _)) ⟨rfl, rfl⟩) ?_
  refine Dp (fun _ => q_ixo1 ⟨rfl, rfl⟩) ?_
  refine Dp (fun _ => q_ldrd ⟨rfl, rfl⟩) ?_
  refine Dp (fun _ => q_cv8_32 ⟨rfl, rfl⟩) ?_
  refine Dp (fun _ => q_shl32_64 (n := 16) ⟨rfl, rfl⟩) ?_
  refine Dp (fun _ => q_or32 ⟨rfl, rfl⟩) ?_
  refine Dp (fun _ => q_mv (s := .v (.c _)) ⟨rfl, rfl⟩) ?_
  refine Dp (fun _ => q_ixo1 ⟨rfl, rfl⟩) ?_
  refine Dp (fun _ => q_ldrd ⟨rfl, rfl⟩) ?_
  refine Dp (fun _ => q_cv8_32 ⟨rfl, rfl⟩) ?_
  refine Dp (fun _ => q_shl32_64 (n := 24) ⟨rfl, rfl⟩) ?_
  refine Dp (fun _ => q_or32 ⟨rfl, rfl⟩) ?_
  refine Dp (fun _ => q_as (s := .v (.c _)) ⟨rfl, rfl⟩) ?_
  refine dend ?_
  refine awp_ret ?_
  exact fp1
/-- chacha.Block$1 -/
theorem quarter (s : List UInt32) (a b c d : Nat) (ha : a < 16) (hb : b < 16) (hc : c < 16) (hd : d < 16) (hs : s.length = 16) : Good Try.prog 77 [.c (cn a), .c (cn b), .c (cn c), .c (cn d), .c (.ptr 0 0)] [some (u32s s)] (.t []) [some (u32s (qr s a b c d))] := by
  refine good_frm 58 Try.func77 rfl rfl rfl rfl rfl rfl ?_
  refine awp_seq ?_
  refine rl ?_
  refine G (q_bla (fkc (c := cn 16) rfl rfl rfl (Nat.le_of_ble_eq_true rfl) (fkc (c := cn 12) rfl rfl rfl (Nat.le_of_ble_eq_true rfl) (fk0 ?_))))
  refine G (q_bla (fkc (c := cn 8) rfl rfl rfl (Nat.le_of_ble_eq_true rfl) (fkc (c := cn 7) rfl rfl rfl (Nat.le_of_ble_eq_true rfl) (fk0 ?_))))
  refine G (q_bla (fka rfl (et rfl) (by first | exact (mapc_length ..).trans (by with_reducible assumption) | decide +kernel | decide) (by first | decide +kernel | decide) (fka rfl (et rfl) (by first | exact (mapc_length ..).trans (by with_reducible assumption) | decide +kernel | decide) (by first | decide +kernel | decide) (fk0 ?_))))
  refine G (q_mv (s := sc (cn 0)) ?_)
  refine gend ?_
  refine awp_block ?_
  refine awp_loop (fun x : {j : Nat // j ≤ 2} => ⟨frm 58 [(0, sc (cn a)), (1, sc (cn b)), (2, sc (cn c)), (3, sc (cn d)), (4, sc (.ptr 0 0)), (13, sa ([cn 16, cn 12] ++ [cn 8, cn 7])), (14, sc (cn x.1))], [some (u32s (qs s a b c d x.1))]⟩) (fun x => 2 - x.1) ⟨0, Nat.zero_le _⟩ (sle_sub ⟨rfl, rfl, rfl, rfl, rfl, rfl, rfl, trivial⟩ rfl) fun x => ?_   -- live: [0, 1, 2, 3, 4, 13, 14]
  refine awp_seq ?_
  refine rl ?_
  refine G (q_lssn (y := 2) ?_)
  refine gend ?_
  refine awp_seq ?_
  refine cnd (fun hc1 => ?_) (fun hc1 => ?_); rotate_left
  · refine awp_exit ?_
    exact fw0 (hH := by rw [show x.1 = 2 from (by have := x.2; omega)]; rfl)
  refine awp_skip ?_
  refine awp_seq ?_
  refine awp_block ?_
  refine awp_seq ?_
  refine rl ?_
  refine G (q_ina ?_ (hy := qab x.1 hc1))
  refine G (q_al ?_)
  refine G0 (q_stw ?_)
  refine gend ?_
  refine awp_seq ?_
  have hl := (qs_len s a b c d x.1).trans hs
  refine rdl [8] [] [0, 0, 0, 0, 0, 0, 0, 0, 1] ?_
  refine Dp (fun _ => q_mv (s := .v (.c _)) ⟨rfl, rfl⟩) ?_
  refine Dp (fun _ => q_ixp1 ⟨rfl, rfl⟩) ?_
  refine DLp ?_
  refine Dp (fun _ => q_mv (s := .v (.c _)) ⟨rfl, rfl⟩) ?_
  refine Dp (fun _ => q_ixp1 ⟨rfl, rfl⟩) ?_
  refine DLp ?_
  refine Dp (fun _ => q_add32 ⟨rfl, rfl⟩) ?_
  refine Dp (fun _ => q_ixp1 ⟨rfl, rfl⟩) ?_
  refine De0 (q_stm (pw ?_))
  refine dend ?_
  refine awp_seq ?_
  refine rdl [10, 12] [0, 0, 0, 0, 0, 0, 0, 0, 0, 0, 0, 1, 1] [1, 0, 0, 0, 0, 0, 0, 0, 0, 0, 1, 1, 2] ?_
  refine Dp (fun _ => q_mv (s := .v (.c _)) ⟨rfl, rfl⟩) ?_
  refine Dp (fun _ => q_mv (s := .v (.c _)) ⟨rfl, rfl⟩) ?_
  refine Dp (fun _ => q_ixp1 ⟨rfl, rfl⟩) ?_
  refine DLp ?_
  refine Dp (fun _ => q_mv (s := .v (.c _)) ⟨rfl, rfl⟩) ?_
  refine Dp (fun _ => q_ixp1 ⟨rfl, rfl⟩) ?_
  refine DLp ?_
  refine Dp (fun _ => q_xor32 ⟨rfl, rfl⟩) ?_
  refine Dp (fun _ => q_ixp1 ⟨rfl, rfl⟩) ?_
  refine DLp ?_
  refine De (q_callp (rotate _ (qa x.1) (qa_le _)/- math/bits.RotateLeft32 -/) (pw ?_))
  refine Dp (fun _ => q_ixp1 ⟨rfl, rfl⟩) ?_
  refine De0 (q_stm (pw ?_))
  refine dend ?_
  refine awp_seq ?_
  refine rdl [8] [] [0, 0, 0, 0, 0, 0, 0, 0, 1] ?_
  refine Dp (fun _ => q_mv (s := .v (.c _)) ⟨rfl, rfl⟩) ?_
  refine Dp (fun _ => q_ixp1 ⟨rfl, rfl⟩) ?_
  refine DLp ?_
  refine Dp (fun _ => q_mv (s := .v (.c _)) ⟨rfl, rfl⟩) ?_
  refine Dp (fun _ => q_ixp1 ⟨rfl, rfl⟩) ?_
  refine DLp ?_
  refine Dp (fun _ => q_add32 ⟨rfl, rfl⟩) ?_
  refine Dp (fun _ => q_ixp1 ⟨rfl, rfl⟩) ?_
  refine De0 (q_stm (pw ?_))
  refine dend ?_
  refine rdl [10, 12] [0, 0, 0, 0, 0, 0, 0, 0, 0, 0, 0, 1, 1] [1, 0, 0, 0, 0, 0, 0, 0, 0, 0, 1, 1, 2] ?_
  refine Dp (fun _ => q_mv (s := .v (.c _)) ⟨rfl, rfl⟩) ?_
  refine Dp (fun _ => q_mv (s := .v (.c _)) ⟨rfl, rfl⟩) ?_
  refine Dp (fun _ => q_ixp1 ⟨rfl, rfl⟩) ?_
  refine DLp ?_
  refine Dp (fun _ => q_mv (s := .v (.c _)) ⟨rfl, rfl⟩) ?_
  refine Dp (fun _ => q_ixp1 ⟨rfl, rfl⟩) ?_
  refine DLp ?_
  refine Dp (fun _ => q_xor32 ⟨rfl, rfl⟩) ?_
  refine Dp (fun _ => q_ixp1 ⟨rfl, rfl⟩) ?_
  refine DLp ?_
  refine De (q_callp (rotate _ (qb x.1) (qb_le _)/- math/bits.RotateLeft32 -/) (pw ?_))
  refine Dp (fun _ => q_ixp1 ⟨rfl, rfl⟩) ?_
  refine De0 (q_stm (pw ?_))
  refine dend ?_
  refine rl ?_
  refine G (q_addn (y := 1) ?_)
  refine Mv ?_
  refine gend ?_
  exact ⟨⟨x.1 + 1, by omega⟩, by show 2 - (x.1 + 1) < 2 - x.1; omega, sle_view [0] pi0 (by decide) ⟨rfl, rfl, rfl, rfl, rfl, rfl, rfl, trivial⟩ (vh1 (pick_m rfl))⟩   -- endloop 1
def lw (s : List UInt32) (o m : Nat) (l : List UInt8) : Nat → List UInt32
  | 0 => s
  | i + 1 => (lw s o m l i).set (o + i) (wd ((l.drop (0 + 4 * i * 1)).take ((m - 4 * i) * 1)))
theorem lw_len (s : List UInt32) (o m : Nat) (l : List UInt8) : ∀ i, (lw s o m l i).length = s.length
  | 0 => rfl
  | i + 1 => by rw [lw, List.length_set, lw_len]
def cols (s : List UInt32) : Nat → List UInt32
  | 0 => s
  | i + 1 => qr (cols s i) i (4 + i) (8 + i) (12 + i)
def dias (s : List UInt32) : Nat → List UInt32
  | 0 => s
  | i + 1 => qr (dias s i) i (4 + (i + 1) % 4) (8 + (i + 2) % 4) (12 + (i + 3) % 4)
def dbl (s : List UInt32) : Nat → List UInt32
  | 0 => s
  | i + 1 => dias (cols (dbl s i) 4) 4
theorem cols_len (s : List UInt32) : ∀ i, (cols s i).length = s.length
  | 0 => rfl
  | i + 1 => by rw [cols, qr_len, cols_len]
theorem dias_len (s : List UInt32) : ∀ i, (dias s i).length = s.length
  | 0 => rfl
  | i + 1 => by rw [dias, qr_len, dias_len]
theorem dbl_len (s : List UInt32) : ∀ i, (dbl s i).length = s.length
  | 0 => rfl
  | i + 1 => by rw [dbl, dias_len, cols_len, dbl_len]
/-- The bytes of the sum of two states. -/
def ob (s t : List UInt32) : Nat → List UInt8
  | 0 => List.replicate 64 0
  | i + 1 => (ob s t i).set i (shr32n (s.getD (i / 4) 0 + t.getD (i / 4) 0) (8 * (i % 4))).toUInt8
theorem ob_len (s t : List UInt32) : ∀ i, (ob s t i).length = 64
  | 0 => by simp [ob]
  | i + 1 => by rw [ob, List.length_set, ob_len]
def ini (key : List UInt8) (ctr : UInt32) (nonce : List UInt8) : List UInt32 :=
  lw ((lw ([1634760805, 857760878, 2036477234, 1797285236] ++ List.replicate 12 0) 4 32 key 8).set 12 ctr) 13 12 nonce 3
/-- A block of the key stream. -/
def blk (key : List UInt8) (ctr : UInt32) (nonce : List UInt8) : List UInt8 := ob (dbl (ini key ctr nonce) 10) (ini key ctr nonce) 64
theorem blk_len (key : List UInt8) (ctr : UInt32) (nonce : List UInt8) : (blk key ctr nonce).length = 64 := ob_len _ _ _
/-- chacha.Block -/
theorem block (key : List UInt8) (ctr : UInt32) (nonce : List UInt8) (hk : key.length = 32) (hn : nonce.length = 12) : Good Try.prog 64 [.a (u8s key), .c (c32 ctr), .a (u8s nonce)] [] (sa (u8s (blk key ctr nonce))) [] := by
  refine good_frm 98 Try.func64 rfl rfl rfl rfl rfl rfl ?_
  refine awp_seq ?_
  refine rl ?_
  refine G (q_boxa ?_)
  refine G (q_boxa ?_)
  refine G (q_al ?_)
  refine gend ?_
  refine awp_seq ?_
  refine rl ?_
  refine G (q_bla (fkc (c := c32 1634760805) rfl rfl rfl (Nat.le_of_ble_eq_true rfl) (fkc (c := c32 857760878) rfl rfl rfl (Nat.le_of_ble_eq_true rfl) (fkc (c := c32 2036477234) rfl rfl rfl (Nat.le_of_ble_eq_true rfl) (fkc (c := c32 1797285236) rfl rfl rfl (Nat.le_of_ble_eq_true rfl) (fk0 ?_))))))
  refine G (q_al ?_)
  refine G0 (q_stw ?_)
  refine gend ?_
  refine awp_seq ?_
  refine awp_seq ?_
  refine rl ?_
  refine G (q_mv (s := sc (cn 0)) ?_)
  refine gend ?_
  refine awp_block ?_
  refine awp_loop (fun x : {i : Nat // i ≤ 8} => ⟨frm 98 [(1, sc (c32 ctr)), (3, sc (.ptr 0 0)), (5, sc (.ptr 1 0)), (6, sc (.ptr 2 0)), (7, sc (.ptr 3 0)), (16, sc (cn x.1))], [some (u8s key), some (u8s nonce), some (u8s (List.replicate 64 0)), some (u32s (lw ([1634760805, 857760878, 2036477234, 1797285236] ++ List.replicate 12 0) 4 32 key x.1))]⟩) (fun x => 8 - x.1) ⟨0, Nat.zero_le _⟩ (sle_sub ⟨rfl, rfl, rfl, rfl, rfl, rfl, trivial⟩ rfl) fun x => ?_   -- live: [3, 7, 16]
  refine awp_seq ?_
  refine rl ?_
  refine G (q_lssn (y := 8) ?_)
  refine gend ?_
  refine awp_seq ?_
  refine cnd (fun hc1 => ?_) (fun hc1 => ?_); rotate_left
  · refine awp_exit ?_
    rw [show x.1 = 8 from (by have := x.2; omega)]
    have hl8 : (lw ([1634760805, 857760878, 2036477234, 1797285236] ++ List.replicate 12 0) 4 32 key 8).length = 16 := (lw_len ..).trans rfl
    generalize hA : lw ([1634760805, 857760878, 2036477234, 1797285236] ++ List.replicate 12 0) 4 32 key 8 = A at hl8 ⊢
    refine awp_seq ?_
    refine rl ?_
    refine Mv ?_
    refine G (q_ixp1 ?_)
    refine G0 (q_stm ?_)
    refine gend ?_
    refine awp_seq ?_
    refine awp_seq ?_
    refine rl ?_
    refine G (q_mv (s := sc (cn 0)) ?_)
    refine gend ?_
    refine awp_block ?_
    refine awp_loop (fun y : {i : Nat // i ≤ 3} => ⟨frm 98 [(1, sc (c32 ctr)), (3, sc (.ptr 0 0)), (5, sc (.ptr 1 0)), (6, sc (.ptr 2 0)), (7, sc (.ptr 3 0)), (29, sc (cn y.1))], [some (u8s key), some (u8s nonce), some (u8s (List.replicate 64 0)), some (u32s (lw (A.set 12 ctr) 13 12 nonce y.1))]⟩) (fun y => 3 - y.1) ⟨0, Nat.zero_le _⟩ (sle_sub ⟨rfl, rfl, rfl, rfl, rfl, rfl, trivial⟩ rfl) fun y => ?_   -- live: [5, 7, 29]
    refine awp_seq ?_
    refine rl ?_
    refine G (q_lssn (y := 3) ?_)
    refine gend ?_
    refine awp_seq ?_
    refine cnd (fun hc2 => ?_) (fun hc2 => ?_); rotate_left
    · refine awp_exit ?_
      rw [show y.1 = 3 from (by have := y.2; omega)]
      have hi : (lw (A.set 12 ctr) 13 12 nonce 3).length = 16 := (lw_len ..).trans ((List.length_set ..).trans hl8)
      generalize hI : lw (A.set 12 ctr) 13 12 nonce 3 = I at hi ⊢
      refine awp_seq ?_
      refine rl ?_
      refine G (q_ldw  ?_ (hl := (mapc_length ..).trans hi))
      refine G (q_al ?_)
      refine G0 (q_stw ?_)
      refine gend ?_
      refine awp_seq ?_
      refine rl ?_
      refine G (q_mkf ?_ (caps1 (et rfl) rfl caps0))
      refine As ?_
      refine gend ?_
      refine awp_seq ?_
      refine awp_seq ?_
      refine rl ?_
      refine G (q_mv (s := sc (cn 0)) ?_)
      refine gend ?_
      refine awp_block ?_
      refine awp_loop (fun z : {i : Nat // i ≤ 10} => ⟨frm 98 [(1, sc (c32 ctr)), (3, sc (.ptr 0 0)), (5, sc (.ptr 1 0)), (6, sc (.ptr 2 0)), (7, sc (.ptr 3 0)), (10, sc (.ptr 4 0)), (11, sc (.fn 77 [.ptr 3 0])), (42, sc (cn z.1))], [some (u8s key), some (u8s nonce), some (u8s (List.replicate 64 0)), some (u32s (dbl I z.1)), some (u32s I)]⟩) (fun z => 10 - z.1) ⟨0, Nat.zero_le _⟩ (sle_sub ⟨rfl, rfl, rfl, rfl, rfl, rfl, rfl, rfl, trivial⟩ rfl) fun z => ?_   -- live: [11, 42]
      refine awp_seq ?_
      refine rl ?_
      refine G (q_lssn (y := 10) ?_)
      refine gend ?_
      refine awp_seq ?_
      refine cnd (fun hc3 => ?_) (fun hc3 => ?_); rotate_left
      · refine awp_exit ?_
        rw [show z.1 = 10 from (by have := z.2; omega)]
        have hd := (dbl_len I 10).trans hi
        generalize hD : dbl I 10 = D at hd ⊢
        refine awp_seq ?_
        refine awp_seq ?_
        refine rl ?_
        refine G (q_mv (s := sc (cn 0)) ?_)
        refine gend ?_
        refine awp_block ?_
        refine awp_loop (fun t : {i : Nat // i ≤ 64} => ⟨frm 98 [(1, sc (c32 ctr)), (3, sc (.ptr 0 0)), (5, sc (.ptr 1 0)), (6, sc (.ptr 2 0)), (7, sc (.ptr 3 0)), (10, sc (.ptr 4 0)), (77, sc (cn t.1))], [some (u8s key), some (u8s nonce), some (u8s (ob D I t.1)), some (u32s D), some (u32s I)]⟩) (fun t => 64 - t.1) ⟨0, Nat.zero_le _⟩ (sle_sub ⟨rfl, rfl, rfl, rfl, rfl, rfl, rfl, trivial⟩ rfl) fun t => ?_   -- live: [6, 7, 10, 77]
        refine awp_seq ?_
        refine rl ?_
        refine G (q_lssn (y := 64) ?_)
        refine gend ?_
        refine awp_seq ?_
        refine cnd (fun hc4 => ?_) (fun hc4 => ?_); rotate_left
        · refine awp_exit ?_
          rw [show t.1 = 64 from (by have := t.2; omega)]
          have ho := ob_len D I 64
          generalize hO : ob D I 64 = O at ho ⊢
          refine awp_seq ?_
          refine rl ?_
          refine G (q_ldw  ?_ (hl := (mapc_length ..).trans ho))
          refine G0 (q_stw ?_ (hl := (mapc_length ..).trans ho) (hc := (mapc_length ..).trans ho))
          refine gend ?_
          refine awp_ret ?_
          exact fpc (t := 112) (a := 6) (hn := by exact (mapc_length ..).trans ho) (hv := by rw [← hO, ← hD, ← hI, ← hA]; rfl)
        refine awp_skip ?_
        refine awp_seq ?_
        refine awp_block ?_
        refine awp_seq ?_
        refine rl ?_
        refine Mv ?_
        refine As ?_
        refine gend ?_
        have hot := ob_len D I t.1
        refine rdl [16] [] [0, 0, 0, 0, 0, 0, 0, 0, 0, 0, 0, 0, 0, 0, 0, 0, 1] ?_
        refine Dp (fun _ => q_mv (s := .v (.c _)) ⟨rfl, rfl⟩) ?_
        refine Dp (fun _ => q_mv (s := .v (.c _)) ⟨rfl, rfl⟩) ?_
        refine Dp (fun _ => q_quon (y := 4) ⟨rfl, rfl⟩) ?_
        refine Dp (fun _ => q_ixp1 ⟨rfl, rfl⟩) ?_
        refine DLp ?_
        refine Dp (fun _ => q_mv (s := .v (.c _)) ⟨rfl, rfl⟩) ?_
        refine Dp (fun _ => q_quon (y := 4) ⟨rfl, rfl⟩) ?_
        refine Dp (fun _ => q_ixp1 ⟨rfl, rfl⟩) ?_
        refine DLp ?_
        refine Dp (fun _ => q_add32 ⟨rfl, rfl⟩) ?_
        refine Dp (fun _ => q_mv (s := .v (.c _)) ⟨rfl, rfl⟩) ?_
        refine Dp (fun _ => q_remn (y := 4) ⟨rfl, rfl⟩) ?_
        refine Dp (fun _ => q_muln (x := 8) ⟨rfl, rfl⟩) ?_
        refine Dp (fun _ => q_shr32_0 ⟨rfl, rfl⟩) ?_
        refine Dp (fun _ => q_cv32_8 ⟨rfl, rfl⟩) ?_
        refine Dp (fun _ => q_ixp1 ⟨rfl, rfl⟩) ?_
        refine De0 (q_stm (pw ?_))
        refine dend ?_
        refine rl ?_
        refine G (q_addn (y := 1) ?_)
        refine Mv ?_
        refine gend ?_
        exact ⟨⟨t.1 + 1, by omega⟩, by show 64 - (t.1 + 1) < 64 - t.1; omega, sle_sub ⟨rfl, rfl, rfl, rfl, rfl, rfl, rfl, trivial⟩ rfl⟩   -- endloop 4
      refine awp_skip ?_
      refine awp_seq ?_
      refine awp_block ?_
      refine awp_seq ?_
      refine awp_seq ?_
      refine rl ?_
      refine G (q_mv (s := sc (cn 0)) ?_)
      refine gend ?_
      refine awp_block ?_
      refine awp_loop (fun u : {i : Nat // i ≤ 4} => ⟨frm 98 [(1, sc (c32 ctr)), (3, sc (.ptr 0 0)), (5, sc (.ptr 1 0)), (6, sc (.ptr 2 0)), (7, sc (.ptr 3 0)), (10, sc (.ptr 4 0)), (11, sc (.fn 77 [.ptr 3 0])), (42, sc (cn z.1)), (44, sc (cn u.1))], [some (u8s key), some (u8s nonce), some (u8s (List.replicate 64 0)), some (u32s (cols (dbl I z.1) u.1)), some (u32s I)]⟩) (fun u => 4 - u.1) ⟨0, Nat.zero_le _⟩ (sle_sub ⟨rfl, rfl, rfl, rfl, rfl, rfl, rfl, rfl, rfl, trivial⟩ rfl) fun u => ?_   -- live: [11, 44]
      refine awp_seq ?_
      refine rl ?_
      refine G (q_lssn (y := 4) ?_)
      refine gend ?_
      refine awp_seq ?_
      refine cnd (fun hc5 => ?_) (fun hc5 => ?_); rotate_left
      · refine awp_exit ?_
        rw [show u.1 = 4 from (by have := u.2; omega)]
        refine awp_seq ?_
        refine rl ?_
        refine G (q_mv (s := sc (cn 0)) ?_)
        refine gend ?_
        refine awp_block ?_
        refine awp_loop (fun v : {i : Nat // i ≤ 4} => ⟨frm 98 [(1, sc (c32 ctr)), (3, sc (.ptr 0 0)), (5, sc (.ptr 1 0)), (6, sc (.ptr 2 0)), (7, sc (.ptr 3 0)), (10, sc (.ptr 4 0)), (11, sc (.fn 77 [.ptr 3 0])), (42, sc (cn z.1)), (57, sc (cn v.1))], [some (u8s key), some (u8s nonce), some (u8s (List.replicate 64 0)), some (u32s (dias (cols (dbl I z.1) 4) v.1)), some (u32s I)]⟩) (fun v => 4 - v.1) ⟨0, Nat.zero_le _⟩ (sle_sub ⟨rfl, rfl, rfl, rfl, rfl, rfl, rfl, rfl, rfl, trivial⟩ rfl) fun v => ?_   -- live: [11, 57]
        refine awp_seq ?_
        refine rl ?_
        refine G (q_lssn (y := 4) ?_)
        refine gend ?_
        refine awp_seq ?_
        refine cnd (fun hc6 => ?_) (fun hc6 => ?_); rotate_left
        · refine awp_exit ?_
          rw [show v.1 = 4 from (by have := v.2; omega)]
          refine rl ?_
          refine G (q_addn (y := 1) ?_)
          refine Mv ?_
          refine gend ?_
          exact ⟨⟨z.1 + 1, by omega⟩, by show 10 - (z.1 + 1) < 10 - z.1; omega, sle_sub ⟨rfl, rfl, rfl, rfl, rfl, rfl, rfl, rfl, trivial⟩ rfl⟩   -- endloop 3
        refine awp_skip ?_
        refine awp_seq ?_
        refine awp_block ?_
        refine awp_seq ?_
        refine rl ?_
        refine Mv ?_
        refine As ?_
        refine gend ?_
        refine rl ?_
        refine Mv ?_
        refine Mv ?_
        refine Mv ?_
        refine G (q_addn (y := 1) ?_)
        refine G (q_remn (y := 4) ?_)
        refine G (q_addn (x := 4) ?_)
        refine Mv ?_
        refine G (q_addn (y := 2) ?_)
        refine G (q_remn (y := 4) ?_)
        refine G (q_addn (x := 8) ?_)
        refine Mv ?_
        refine G (q_addn (y := 3) ?_)
        refine G (q_remn (y := 4) ?_)
        refine G (q_addn (x := 12) ?_)
        have hl := (dias_len _ v.1).trans ((cols_len _ 4).trans ((dbl_len _ z.1).trans hi))
        refine G (q_callcw 3 (quarter _ v.1 (4 + (v.1 + 1) % 4) (8 + (v.1 + 2) % 4) (12 + (v.1 + 3) % 4) (by omega) (by omega) (by omega) (by omega) hl) ?_)
        refine gend ?_
        refine rl ?_
        refine G (q_addn (y := 1) ?_)
        refine Mv ?_
        refine gend ?_
        exact ⟨⟨v.1 + 1, by omega⟩, by show 4 - (v.1 + 1) < 4 - v.1; omega, sle_sub ⟨rfl, rfl, rfl, rfl, rfl, rfl, rfl, rfl, rfl, trivial⟩ rfl⟩   -- endloop 6
      refine awp_skip ?_
      refine awp_seq ?_
      refine awp_block ?_
      refine awp_seq ?_
      refine rl ?_
      refine Mv ?_
      refine As ?_
      refine gend ?_
      refine rl ?_
      refine Mv ?_
      refine Mv ?_
      refine Mv ?_
      refine G (q_addn (x := 4) ?_)
      refine Mv ?_
      refine G (q_addn (x := 8) ?_)
      refine Mv ?_
      refine G (q_addn (x := 12) ?_)
      have hl := (cols_len _ u.1).trans ((dbl_len _ z.1).trans hi)
      refine G (q_callcw 3 (quarter _ u.1 (4 + u.1) (8 + u.1) (12 + u.1) (by omega) (by omega) (by omega) (by omega) hl) ?_)
      refine gend ?_
      refine rl ?_
      refine G (q_addn (y := 1) ?_)
      refine Mv ?_
      refine gend ?_
      exact ⟨⟨u.1 + 1, by omega⟩, by show 4 - (u.1 + 1) < 4 - u.1; omega, sle_sub ⟨rfl, rfl, rfl, rfl, rfl, rfl, rfl, rfl, rfl, trivial⟩ rfl⟩   -- endloop 5
    refine awp_skip ?_
    refine awp_seq ?_
    refine awp_block ?_
    refine awp_seq ?_
    refine rl ?_
    refine Mv ?_
    refine As ?_
    refine gend ?_
    refine rl ?_
    refine Mv ?_
    refine G (q_addn (x := 13) ?_)
    refine Mv ?_
    refine G (q_muln (x := 4) ?_)
    refine G (q_slp_lo ?_)
    have hly : (lw (A.set 12 ctr) 13 12 nonce y.1).length = 16 := (lw_len ..).trans ((List.length_set ..).trans hl8)
    refine G (q_callp (word (12 - 4 * y.1) ((nonce.drop (0 + 4 * y.1 * 1)).take ((12 - 4 * y.1) * 1)) (by simp only [List.length_take, List.length_drop, hn]; omega) (by simp only [List.length_take, List.length_drop, hn]; omega)/- escutcheon/chacha.word -/) ?_)
    refine G (q_ixp1 ?_)
    refine G0 (q_stm ?_)
    refine gend ?_
    refine rl ?_
    refine G (q_addn (y := 1) ?_)
    refine Mv ?_
    refine gend ?_
    exact ⟨⟨y.1 + 1, by omega⟩, by show 3 - (y.1 + 1) < 3 - y.1; omega, sle_sub ⟨rfl, rfl, rfl, rfl, rfl, rfl, trivial⟩ rfl⟩   -- endloop 2
  refine awp_skip ?_
  refine awp_seq ?_
  refine awp_block ?_
  refine awp_seq ?_
  refine rl ?_
  refine Mv ?_
  refine As ?_
  refine gend ?_
  refine rl ?_
  refine Mv ?_
  refine G (q_addn (x := 4) ?_)
  refine Mv ?_
  refine G (q_muln (x := 4) ?_)
  refine G (q_slp_lo ?_)
  have hlx : (lw ([1634760805, 857760878, 2036477234, 1797285236] ++ List.replicate 12 0) 4 32 key x.1).length = 16 := (lw_len ..).trans rfl
  refine G (q_callp (word (32 - 4 * x.1) ((key.drop (0 + 4 * x.1 * 1)).take ((32 - 4 * x.1) * 1)) (by simp only [List.length_take, List.length_drop, hk]; omega) (by simp only [List.length_take, List.length_drop, hk]; omega)/- escutcheon/chacha.word -/) ?_)
  refine G (q_ixp1 ?_)
  refine G0 (q_stm ?_)
  refine gend ?_
  refine rl ?_
  refine G (q_addn (y := 1) ?_)
  refine Mv ?_
  refine gend ?_
  exact ⟨⟨x.1 + 1, by omega⟩, by show 8 - (x.1 + 1) < 8 - x.1; omega, sle_sub ⟨rfl, rfl, rfl, rfl, rfl, rfl, trivial⟩ rfl⟩   -- endloop 1
end Go.Proofs.Ytlnepajgnckolaa.Ch

/- What functions of the program do, walked over the abstract machine. -/
namespace Go.Proofs.Ytlnepajgnckolaa.Ch
open Go Go.Abs Go.Proofs

set_option maxRecDepth 20000
/-- escutcheonref08.round -/
theorem round (s : List UInt32) (a b c d : Nat) (ha : a < 16) (hb : b < 16) (hc : c < 16) (hd : d < 16) (hs : s.length = 16) : Good Try.prog 82 [.a (u32s s), .c (cn a), .c (cn b), .c (cn c), .c (cn d)] [] (sa (u32s (qr s a b c d))) [] := by
  refine good_frm 88 Try.func82 rfl rfl rfl rfl rfl rfl ?_
  refine awp_seq ?_
  refine rl ?_
  refine G (q_boxa ?_)
  refine G (q_al ?_)
  refine gend ?_
  refine awp_seq ?_
  refine rdl [9] [] [0, 0, 0, 0, 0, 0, 0, 0, 0, 1] ?_
  refine Dp (fun _ => q_mv (s := .v (.c _)) ⟨rfl, rfl⟩) ?_
  refine Dp (fun _ => q_mv (s := .v (.c _)) ⟨rfl, rfl⟩) ?_
  refine Dp (fun _ => q_ixp1 ⟨rfl, rfl⟩) ?_
  refine DLp ?_
  refine Dp (fun _ => q_mv (s := .v (.c _)) ⟨rfl, rfl⟩) ?_
  refine Dp (fun _ => q_ixp1 ⟨rfl, rfl⟩) ?_
  refine DLp ?_
  refine Dp (fun _ => q_add32 ⟨rfl, rfl⟩) ?_
  refine Dp (fun _ => q_ixp1 ⟨rfl, rfl⟩) ?_
  refine De0 (q_stm (pw ?_))
  refine dend ?_
  refine awp_seq ?_
  refine rdl [8, 10] [0, 0, 0, 0, 0, 0, 0, 0, 0, 1, 1] [1, 0, 0, 0, 0, 0, 0, 0, 1, 1, 2] ?_
  refine Dp (fun _ => q_mv (s := .v (.c _)) ⟨rfl, rfl⟩) ?_
  refine Dp (fun _ => q_mv (s := .v (.c _)) ⟨rfl, rfl⟩) ?_
  refine Dp (fun _ => q_ixp1 ⟨rfl, rfl⟩) ?_
  refine DLp ?_
  refine Dp (fun _ => q_mv (s := .v (.c _)) ⟨rfl, rfl⟩) ?_
  refine Dp (fun _ => q_ixp1 ⟨rfl, rfl⟩) ?_
  refine DLp ?_
  refine Dp (fun _ => q_xor32 ⟨rfl, rfl⟩) ?_
  refine De (q_callp (rturn _ 16/- escutcheon/escutcheonref08.turn -/) (pw ?_))
  refine Dp (fun _ => q_ixp1 ⟨rfl, rfl⟩) ?_
  refine De0 (q_stm (pw ?_))
  refine dend ?_
  refine awp_seq ?_
  refine rdl [9] [] [0, 0, 0, 0, 0, 0, 0, 0, 0, 1] ?_
  refine Dp (fun _ => q_mv (s := .v (.c _)) ⟨rfl, rfl⟩) ?_
  refine Dp (fun _ => q_mv (s := .v (.c _)) ⟨rfl, rfl⟩) ?_
  refine Dp (fun _ => q_ixp1 ⟨rfl, rfl⟩) ?_
  refine DLp ?_
  refine Dp (fun _ => q_mv (s := .v (.c _)) ⟨rfl, rfl⟩) ?_
  refine Dp (fun _ => q_ixp1 ⟨rfl, rfl⟩) ?_
  refine DLp ?_
  refine Dp (fun _ => q_add32 ⟨rfl, rfl⟩) ?_
  refine Dp (fun _ => q_ixp1 ⟨rfl, rfl⟩) ?_
  refine De0 (q_stm (pw ?_))
  refine dend ?_
  refine awp_seq ?_
  refine rdl [8, 10] [0, 0, 0, 0, 0, 0, 0, 0, 0, 1, 1] [1, 0, 0, 0, 0, 0, 0, 0, 1, 1, 2] ?_
  refine Dp (fun _ => q_mv (s := .v (.c _)) ⟨rfl, rfl⟩) ?_
  refine Dp (fun _ => q_mv (s := .v (.c _)) ⟨rfl, rfl⟩) ?_
  refine Dp (fun _ => q_ixp1 ⟨rfl, rfl⟩) ?_
  refine DLp ?_
  refine Dp (fun _ => q_mv (s := .v (.c _)) ⟨rfl, rfl⟩) ?_
  refine Dp (fun _ => q_ixp1 ⟨rfl, rfl⟩) ?_
  refine DLp ?_
  refine Dp (fun _ => q_xor32 ⟨rfl, rfl⟩) ?_
  refine De (q_callp (rturn _ 12/- escutcheon/escutcheonref08.turn -/) (pw ?_))
  refine Dp (fun _ => q_ixp1 ⟨rfl, rfl⟩) ?_
  refine De0 (q_stm (pw ?_))
  refine dend ?_
  refine awp_seq ?_
  refine rdl [9] [] [0, 0, 0, 0, 0, 0, 0, 0, 0, 1] ?_
  refine Dp (fun _ => q_mv (s := .v (.c _)) ⟨rfl, rfl⟩) ?_
  refine Dp (fun _ => q_mv (s := .v (.c _)) ⟨rfl, rfl⟩) ?_
  refine Dp (fun _ => q_ixp1 ⟨rfl, rfl⟩) ?_
  refine DLp ?_
  refine Dp (fun _ => q_mv (s := .v (.c _)) ⟨rfl, rfl⟩) ?_
  refine Dp (fun _ => q_ixp1 ⟨rfl, rfl⟩) ?_
  refine DLp ?_
  refine Dp (fun _ => q_add32 ⟨rfl, rfl⟩) ?_
  refine Dp (fun _ => q_ixp1 ⟨rfl, rfl⟩) ?_
  refine De0 (q_stm (pw ?_))
  refine dend ?_
  refine awp_seq ?_
  refine rdl [8, 10] [0, 0, 0, 0, 0, 0, 0, 0, 0, 1, 1] [1, 0, 0, 0, 0, 0, 0, 0, 1, 1, 2] ?_
  refine Dp (fun _ => q_mv (s := .v (.c _)) ⟨rfl, rfl⟩) ?_
  refine Dp (fun _ => q_mv (s := .v (.c _)) ⟨rfl, rfl⟩) ?_
  refine Dp (fun _ => q_ixp1 ⟨rfl, rfl⟩) ?_
  refine DLp ?_
  refine Dp (fun _ => q_mv (s := .v (.c _)) ⟨rfl, rfl⟩) ?_
  refine Dp (fun _ => q_ixp1 ⟨rfl, rfl⟩) ?_
  refine DLp ?_
  refine Dp (fun _ => q_xor32 ⟨rfl, rfl⟩) ?_
  refine De (q_callp (rturn _ 8/- escutcheon/escutcheonref08.turn -/) (pw ?_))
  refine Dp (fun _ => q_ixp1 ⟨rfl, rfl⟩) ?_
  refine De0 (q_stm (pw ?_))
  refine dend ?_
  refine awp_seq ?_
  refine rdl [9] [] [0, 0, 0, 0, 0, 0, 0, 0, 0, 1] ?_
  refine Dp (fun _ => q_mv (s := .v (.c _)) ⟨rfl, rfl⟩) ?_
  refine Dp (fun _ => q_mv (s := .v (.c _)) ⟨rfl, rfl⟩) ?_
  refine Dp (fun _ => q_ixp1 ⟨rfl, rfl⟩) ?_
  refine DLp ?_
  refine Dp (fun _ => q_mv (s := .v (.c _)) ⟨rfl, rfl⟩) ?_
  refine Dp (fun _ => q_ixp1 ⟨rfl, rfl⟩) ?_
  refine DLp ?_
  refine Dp (fun _ => q_add32 ⟨rfl, rfl⟩) ?_
  refine Dp (fun _ => q_ixp1 ⟨rfl, rfl⟩) ?_
  refine De0 (q_stm (pw ?_))
  refine dend ?_
  refine awp_seq ?_
  refine rdl [8, 10] [0, 0, 0, 0, 0, 0, 0, 0, 0, 1, 1] [1, 0, 0, 0, 0, 0, 0, 0, 1, 1, 2] ?_
  refine Dp (fun _ => q_mv (s := .v (.c _)) ⟨rfl, rfl⟩) ?_
  refine Dp (fun _ => q_mv (s := .v (.c _)) ⟨rfl, rfl⟩) ?_
  refine Dp (fun _ => q_ixp1 ⟨rfl, rfl⟩) ?_
  refine DLp ?_
  refine Dp (fun _ => q_mv (s := .v (.c _)) ⟨rfl, rfl⟩) ?_
  refine Dp (fun _ => q_ixp1 ⟨rfl, rfl⟩) ?_
  refine DLp ?_
  refine Dp (fun _ => q_xor32 ⟨rfl, rfl⟩) ?_
  refine De (q_callp (rturn _ 7/- escutcheon/escutcheonref08.turn -/) (pw ?_))
  refine Dp (fun _ => q_ixp1 ⟨rfl, rfl⟩) ?_
  refine De0 (q_stm (pw ?_))
  refine dend ?_
  refine awp_seq ?_
  refine rl ?_
  refine G (q_ldw ?_)
  refine G0 (q_stw ?_)
  refine gend ?_
  refine awp_ret ?_
  exact fpc (t := 109) (a := 10) (hn := by simp only [mapc_length, List.length_set]; exact hs)
/-- The text of which the reference takes its words. -/
def txt (key : List UInt8) (ctr : UInt32) (nonce : List UInt8) : List UInt8 :=
  (([101, 120, 112, 97, 110, 100, 32, 51, 50, 45, 98, 121, 116, 101, 32, 107] ++ key) ++ [ctr.toUInt8, (shr32n ctr 8).toUInt8, (shr32n ctr 16).toUInt8, (shr32n ctr 24).toUInt8]) ++ nonce
def rst (T : List UInt8) : Nat → List UInt32
  | 0 => List.replicate 16 0
  | k + 1 => (rst T k).set ((63 - k) / 4) ((rst T k).getD ((63 - k) / 4) 0 * 256 + (T.getD (63 - k) 0).toUInt32)
end Go.Proofs.Ytlnepajgnckolaa.Ch

/- What functions of the program do, walked over the abstract machine. -/
namespace Go.Proofs.Ytlnepajgnckolaa.Ch
open Go Go.Abs Go.Proofs

set_option maxRecDepth 20000
/-- The first i bytes, each with the key stream's byte. -/
def xw (key : List UInt8) (ctr : UInt32) (nonce l : List UInt8) (i : Nat) : List UInt8 :=
  (List.range i).map fun j => l.getD j 0 ^^^ (blk key (ctr + UInt32.ofNat (j / 64)) nonce).getD (j % 64) 0
theorem xw_len (key : List UInt8) (ctr : UInt32) (nonce l : List UInt8) (i : Nat) : (xw key ctr nonce l i).length = i := by simp [xw]
theorem xw_succ (key : List UInt8) (ctr : UInt32) (nonce l : List UInt8) (i : Nat) : xw key ctr nonce l (i + 1) = xw key ctr nonce l i ++ [l.getD i 0 ^^^ (blk key (ctr + UInt32.ofNat (i / 64)) nonce).getD (i % 64) 0] := by
  simp [xw, List.range_succ]
theorem xw_set (key : List UInt8) (ctr : UInt32) (nonce l : List UInt8) (n i : Nat) (h : i < n) (v : UInt8) (hv : v = l.getD i 0 ^^^ (blk key (ctr + UInt32.ofNat (i / 64)) nonce).getD (i % 64) 0) :
    (xw key ctr nonce l i ++ List.replicate (n - i) 0).set i v = xw key ctr nonce l (i + 1) ++ List.replicate (n - (i + 1)) 0 := by
  subst hv
  rw [xw_succ, List.set_append_right _ _ (by rw [xw_len]; exact Nat.le_refl _), xw_len, Nat.sub_self, show n - i = (n - (i + 1)) + 1 by omega, List.replicate_succ, List.set_cons_zero, List.append_assoc]
  rfl
theorem xw_pad (key : List UInt8) (ctr : UInt32) (nonce l : List UInt8) (n i : Nat) (h : i ≤ n) : (xw key ctr nonce l i ++ List.replicate (n - i) 0).length = n := by simp [xw_len]; omega
theorem ctr_next (ctr : UInt32) (i : Nat) (h : i % 64 = 0) : ctr + UInt32.ofNat ((i + 63) / 64) + 1 = ctr + UInt32.ofNat ((i + 1 + 63) / 64) := by
  rw [show (i + 1 + 63) / 64 = (i + 63) / 64 + 1 by omega, UInt32.ofNat_add, UInt32.add_assoc]
  rfl
/-- chacha.Xor -/
theorem xor (key : List UInt8) (ctr : UInt32) (nonce : List UInt8) (n : Nat) (l : List UInt8) (hk : key.length = 32) (hn : nonce.length = 12) (hl : l.length = n) (hb : n ≤ 100000000) : Good Try.prog 50 [.a (u8s key), .c (c32 ctr), .a (u8s nonce), .c (.ro n (u8s l))] [] (sc (.slc 0 0 n 1)) [some (u8s (xw key ctr nonce l n))] := by
  refine good_frm 43 Try.func50 rfl rfl rfl rfl rfl rfl ?_
  refine awp_seq ?_
  refine rl ?_
  refine G (q_boxa ?_)
  refine G (q_boxa ?_)
  refine As ?_
  refine gend ?_
  refine awp_seq ?_
  refine rl ?_
  refine Mv ?_
  refine G (q_leno ?_)
  refine G (q_mks ?_)
  refine As ?_
  refine gend ?_
  refine awp_seq ?_
  refine rl ?_
  refine G (q_al ?_)
  refine gend ?_
  refine awp_seq ?_
  refine awp_seq ?_
  refine rl ?_
  refine Mv ?_
  refine G (q_leno ?_)
  refine G (q_mv (s := sc (cn 0)) ?_)
  refine gend ?_
  refine awp_block ?_
  refine awp_loop (fun x : {p : Nat × List UInt8 // p.1 ≤ n ∧ p.2.length = 64 ∧ (p.1 % 64 ≠ 0 → p.2 = blk key (ctr + UInt32.ofNat (p.1 / 64)) nonce)} => ⟨frm 43 [(1, sc (c32 (ctr + UInt32.ofNat ((x.1.1 + 63) / 64)))), (3, sc (.ro n (u8s l))), (4, sc (.ptr 0 0)), (6, sc (.ptr 1 0)), (9, sc (.slc 2 0 n 1)), (10, sc (.ptr 3 0)), (16, sc (cn n)), (17, sc (cn x.1.1))], [some (u8s key), some (u8s nonce), some (u8s (xw key ctr nonce l x.1.1 ++ List.replicate (n - x.1.1) 0)), some (u8s x.1.2)]⟩) (fun x => n - x.1.1) ⟨(0, List.replicate 64 0), Nat.zero_le _, by simp, by simp⟩ (sle_sub ⟨by show sc (c32 ctr) = sc (c32 (ctr + UInt32.ofNat ((0 + 63) / 64))); simp, rfl, rfl, rfl, rfl, rfl, rfl, rfl, trivial⟩ (congrArg (fun z => [some (u8s key), some (u8s nonce), some z, some (u8s (List.replicate 64 0))]) (by simp [rep, mapc, xw]))) fun x => ?_   -- live: [1, 3, 4, 6, 9, 10, 16, 17]
  refine awp_seq ?_
  refine rl ?_
  refine G (q_lssn ?_)
  refine gend ?_
  refine awp_seq ?_
  refine cnd (fun hc1 => ?_) (fun hc1 => ?_); rotate_left
  · refine awp_exit ?_
    rw [show x.1.1 = n from (by have := x.2.1; omega)]
    refine awp_seq ?_
    refine rl ?_
    refine Mv ?_
    refine As ?_
    refine gend ?_
    refine awp_ret ?_
    exact fn1 2 (hH := by simp)
  refine awp_skip ?_
  refine awp_seq ?_
  refine awp_block ?_
  refine awp_seq ?_
  refine rl ?_
  refine Mv ?_
  refine As ?_
  refine gend ?_
  refine awp_seq ?_
  refine awp_seq ?_
  refine rl ?_
  refine Mv ?_
  refine G (q_remn (y := 64) ?_)
  refine G (q_eqln (y := 0) ?_)
  refine gend ?_
  refine cnd (fun hc2 => ?_) (fun hc2 => ?_)
  · refine awp_seq ?_
    refine rl ?_
    refine G (q_ldw ?_)
    refine Mv ?_
    refine G (q_ldw ?_)
    refine G (q_callp (block key (ctr + UInt32.ofNat ((x.1.1 + 63) / 64)) nonce hk hn/- escutcheon/chacha.Block -/) ?_)
    obtain ⟨B, hB⟩ : ∃ B, B = blk key (ctr + UInt32.ofNat ((x.1.1 + 63) / 64)) nonce := ⟨_, rfl⟩
    have hbl : B.length = 64 := hB ▸ blk_len key (ctr + UInt32.ofNat ((x.1.1 + 63) / 64)) nonce
    rw [← hB]
    refine G0 (q_stw ?_ (hl := (mapc_length ..).trans hbl) (hc := (mapc_length ..).trans x.2.2.1))
    refine gend ?_
    refine rl ?_
    refine Mv ?_
    refine G (q_add32 (y := 1) ?_)
    refine As ?_
    refine gend ?_
    have hks := x.2.2.1
    have hpad := xw_pad key ctr nonce l n x.1.1 x.2.1
    refine rdl [12] [] [0, 0, 0, 0, 0, 0, 0, 0, 0, 0, 0, 0, 1] ?_
    refine Dp (fun _ => q_mv (s := .v (.c _)) ⟨rfl, rfl⟩) ?_
    refine Dp (fun _ => q_mv (s := .v (.c _)) ⟨rfl, rfl⟩) ?_
    refine Dp (fun _ => q_mv (s := .v (.c _)) ⟨rfl, rfl⟩) ?_
    refine Dp (fun _ => q_mv (s := .v (.c _)) ⟨rfl, rfl⟩) ?_
    refine Dp (fun _ => q_ixo1 ⟨rfl, rfl⟩) ?_
    refine Dp (fun _ => q_ldrd ⟨rfl, rfl⟩) ?_
    refine Dp (fun _ => q_mv (s := .v (.c _)) ⟨rfl, rfl⟩) ?_
    refine Dp (fun _ => q_remn (y := 64) ⟨rfl, rfl⟩) ?_
    refine Dp (fun _ => q_ixp1 ⟨rfl, rfl⟩) ?_
    refine DLp ?_
    refine Dp (fun _ => q_xor8 ⟨rfl, rfl⟩) ?_
    refine Dp (fun _ => q_ixs1 ⟨rfl, rfl⟩) ?_
    refine De0 (q_stm (pw ?_))
    refine dend ?_
    refine rl ?_
    refine G (q_addn (y := 1) ?_)
    refine Mv ?_
    refine gend ?_
    exact ⟨⟨(x.1.1 + 1, B), by show x.1.1 + 1 ≤ n; omega, hbl, fun _ => by show B = blk key (ctr + UInt32.ofNat ((x.1.1 + 1) / 64)) nonce; rw [hB, show (x.1.1 + 1) / 64 = (x.1.1 + 63) / 64 by omega]⟩, by show n - (x.1.1 + 1) < n - x.1.1; omega, sle_sub ⟨congrArg (fun i => sc (c32 i)) (ctr_next ctr x.1.1 hc2), rfl, rfl, rfl, rfl, rfl, rfl, rfl, trivial⟩ (congrArg (fun z => [some (u8s key), some (u8s nonce), some (u8s z), some (u8s B)]) (xw_set key ctr nonce l n x.1.1 hc1 _ (by rw [hB, show (x.1.1 + 63) / 64 = x.1.1 / 64 by omega])))⟩   -- endloop 1
  refine awp_skip ?_
  have hks := x.2.2.1
  have hpad := xw_pad key ctr nonce l n x.1.1 x.2.1
  refine rdl [12] [] [0, 0, 0, 0, 0, 0, 0, 0, 0, 0, 0, 0, 1] ?_
  refine Dp (fun _ => q_mv (s := .v (.c _)) ⟨rfl, rfl⟩) ?_
  refine Dp (fun _ => q_mv (s := .v (.c _)) ⟨rfl, rfl⟩) ?_
  refine Dp (fun _ => q_mv (s := .v (.c _)) ⟨rfl, rfl⟩) ?_
  refine Dp (fun _ => q_mv (s := .v (.c _)) ⟨rfl, rfl⟩) ?_
  refine Dp (fun _ => q_ixo1 ⟨rfl, rfl⟩) ?_
  refine Dp (fun _ => q_ldrd ⟨rfl, rfl⟩) ?_
  refine Dp (fun _ => q_mv (s := .v (.c _)) ⟨rfl, rfl⟩) ?_
  refine Dp (fun _ => q_remn (y := 64) ⟨rfl, rfl⟩) ?_
  refine Dp (fun _ => q_ixp1 ⟨rfl, rfl⟩) ?_
  refine DLp ?_
  refine Dp (fun _ => q_xor8 ⟨rfl, rfl⟩) ?_
  refine Dp (fun _ => q_ixs1 ⟨rfl, rfl⟩) ?_
  refine De0 (q_stm (pw ?_))
  refine dend ?_
  refine rl ?_
  refine G (q_addn (y := 1) ?_)
  refine Mv ?_
  refine gend ?_
  exact ⟨⟨(x.1.1 + 1, x.1.2), by show x.1.1 + 1 ≤ n; omega, hks, fun h => by have h' : (x.1.1 + 1) % 64 ≠ 0 := h; show x.1.2 = _; rw [x.2.2.2 hc2, show (x.1.1 + 1) / 64 = x.1.1 / 64 by omega]⟩, by show n - (x.1.1 + 1) < n - x.1.1; omega, sle_sub ⟨congrArg (fun i => sc (c32 i)) (by rw [show (x.1.1 + 1 + 63) / 64 = (x.1.1 + 63) / 64 by omega]), rfl, rfl, rfl, rfl, rfl, rfl, rfl, trivial⟩ (congrArg (fun z => [some (u8s key), some (u8s nonce), some (u8s z), some (u8s x.1.2)]) (xw_set key ctr nonce l n x.1.1 hc1 _ (by rw [x.2.2.2 hc2])))⟩   -- endloop 1
end Go.Proofs.Ytlnepajgnckolaa.Ch

/- The reference takes the same words of its text. -/
namespace Go.Proofs.Ytlnepajgnckolaa.Ch
open Go Go.Abs Go.Proofs

theorem shl_nat (x : UInt32) (n : Nat) (hn : n < 32) (h : x.toNat * 2 ^ n < 2 ^ 32) : (shl32n x n).toNat = 2 ^ n * x.toNat := by
  unfold shl32n
  rw [if_pos hn, UInt32.toNat_shiftLeft, UInt32.toNat_ofNat', Nat.mod_eq_of_lt (show n < 2 ^ 32 by omega), Nat.mod_eq_of_lt hn, Nat.shiftLeft_eq, Nat.mod_eq_of_lt h, Nat.mul_comm]
theorem shr_nat (x : UInt32) (n : Nat) (hn : n < 32) : (shr32n x n).toNat = x.toNat / 2 ^ n := by
  unfold shr32n
  rw [if_pos hn, UInt32.toNat_shiftRight, UInt32.toNat_ofNat', Nat.mod_eq_of_lt (show n < 2 ^ 32 by omega), Nat.mod_eq_of_lt hn, Nat.shiftRight_eq_div_pow]

/-- The reference's word, of the text's bytes from the last to the first. -/
def rw4 (T : List UInt8) (j : Nat) : UInt32 := (((0 * 256 + (T.getD (4 * j + 3) 0).toUInt32) * 256 + (T.getD (4 * j + 2) 0).toUInt32) * 256 + (T.getD (4 * j + 1) 0).toUInt32) * 256 + (T.getD (4 * j) 0).toUInt32
end Go.Proofs.Ytlnepajgnckolaa.Ch

/- What functions of the program do, walked over the abstract machine. -/
namespace Go.Proofs.Ytlnepajgnckolaa.Ch
open Go Go.Abs Go.Proofs

set_option maxRecDepth 20000
end Go.Proofs.Ytlnepajgnckolaa.Ch

/- What functions of the program do, walked over the abstract machine. -/
namespace Go.Proofs.Ytlnepajgnckolaa.Ae
open Go Go.Abs Go.Proofs Go.Proofs.Ytlnepajgnckolaa.Ch Go.Proofs.Ytlnepajgnckolaa.Po

set_option maxRecDepth 20000
/-- A number's bytes, the lowest first. -/
def num8 (n : UInt64) : Nat → List UInt8
  | 0 => []
  | i + 1 => num8 n i ++ [(shr64n n (8 * i)).toUInt8]
theorem num8_len (n : UInt64) : ∀ i, (num8 n i).length = i
  | 0 => rfl
  | i + 1 => by rw [num8, List.length_append, num8_len n i]; rfl
/-- Noughts up to a multiple of 16. -/
def padz (n : Nat) : List UInt8 := List.replicate ((16 - n % 16) % 16) 0
theorem padz_len (n : Nat) : (padz n).length = (16 - n % 16) % 16 := by simp [padz]
def amsg (ad c : List UInt8) : List UInt8 := ad ++ (padz ad.length ++ (c ++ (padz c.length ++ (num8 (UInt64.ofNat ad.length) 8 ++ num8 (UInt64.ofNat c.length) 8))))
def amark (key nonce ad c : List UInt8) : List UInt8 := tag ((blk key 0 nonce).take 32) (amsg ad c)
theorem amark_len (key nonce ad c : List UInt8) : (amark key nonce ad c).length = 16 := tag_len _ _
/-- What is sealed. -/
def aseal (key nonce ad l : List UInt8) : List UInt8 := xw key 1 nonce l l.length ++ amark key nonce ad (xw key 1 nonce l l.length)
theorem aseal_len (key nonce ad l : List UInt8) : (aseal key nonce ad l).length = l.length + 16 := by rw [aseal, List.length_append, xw_len, amark_len]
def anonce (n : UInt64) : List UInt8 := [0, 0, 0, 0] ++ num8 n 8
theorem anonce_len (n : UInt64) : (anonce n).length = 12 := by rw [anonce, List.length_append, num8_len]; rfl
theorem cut_pre {l : List UInt8} {k : Nat} : ((u8s l).drop 0).take k = u8s (l.take k) := by rw [List.drop_zero, mapc_take]
theorem amsg_len (ad c : List UInt8) : (amsg ad c).length ≤ ad.length + c.length + 46 := by
  simp only [amsg, List.length_append, padz_len, num8_len]; omega
theorem u8_snoc (l : List UInt8) (x : UInt8) : u8s l ++ [c8 x] = u8s (l ++ [x]) := by simp [mapc]
/-- aead.number -/
theorem number_ (n : UInt64) : Good Try.prog 52 [.c (c64 n)] [] (sc (.slc 0 0 8 1)) [some (u8s (num8 n 8))] := by
  refine good_frm 17 Try.func52 rfl rfl rfl rfl rfl rfl ?_
  refine awp_seq ?_
  refine rln ?_
  refine As ?_
  refine gend ?_
  refine awp_seq ?_
  refine awp_seq ?_
  refine rln ?_
  refine G (q_mv (s := sc (cn 0)) ?_)
  refine gend ?_
  refine awp_le (sle_empty (al' := [(0, sc (c64 n)), (2, sc (.slc 0 0 0 1)), (4, sc (cn 0))]) 1 (Nat.zero_le _) ⟨.inl rfl, .inr ⟨rfl, rfl⟩, .inl rfl, trivial⟩) ?_
  refine awp_block ?_
  refine awp_loop (fun x : {i : Nat // i ≤ 8} => ⟨frm 17 [(0, sc (c64 n)), (2, sc (.slc 0 0 x.1 1)), (4, sc (cn x.1))], [some (u8s (num8 n x.1))]⟩) (fun x => 8 - x.1) ⟨0, Nat.zero_le _⟩ (sle_sub ⟨rfl, rfl, rfl, trivial⟩ rfl) fun x => ?_   -- live: [0, 2, 4]
  have h5 := num8_len n x.1
  refine awp_seq ?_
  refine rln ?_
  refine G (q_lssn (y := 8) ?_)
  refine gend ?_
  refine awp_seq ?_
  refine cnd (fun hc1 => ?_) (fun hc1 => ?_); rotate_left
  · refine awp_exit ?_
    rw [show x.1 = 8 from (by have := x.2; omega)]
    refine awp_seq ?_
    refine rln ?_
    refine Mv ?_
    refine As ?_
    refine gend ?_
    refine awp_ret ?_
    exact fx1 [0] (hm0 := rfl) (hH := pl1 rfl sees_m pl0)
  refine awp_skip ?_
  refine awp_seq ?_
  refine awp_block ?_
  refine awp_seq ?_
  refine rln ?_
  refine Mv ?_
  refine As ?_
  refine gend ?_
  refine rln ?_
  refine Mv ?_
  refine Mv ?_
  refine Mv ?_
  refine G (q_muln (x := 8) ?_)
  refine G (q_shr64_0 ?_)
  refine G (q_cv64_8 ?_)
  refine G2 (fun _ k_ => q_bsl (fkc rfl (et rfl) rfl (Nat.le_of_ble_eq_true rfl) (fk0 k_))) ?_
  refine G2 (fun _ k_ => q_app k_) ?_
  refine As ?_
  refine gend ?_
  refine rln ?_
  refine G (q_addn (y := 1) ?_)
  refine Mv ?_
  refine gend ?_
  exact ⟨⟨x.1 + 1, by omega⟩, by show 8 - (x.1 + 1) < 8 - x.1; omega, sle_view [2] (fun p h => absurd h (Nat.not_lt_zero _)) (by decide) ⟨rfl, rfl, rfl, trivial⟩ (vh1 (pick_m (congrArg (fun z => some (some z)) (u8_snoc (num8 n x.1) _))))⟩   -- endloop 1
/-- aead.mark$1 -/
theorem pad_ (l : List UInt8) (n : Nat) (hl : l.length = n) (hn : n ≤ 140737488351232) : Good Try.prog 65 [.c (.ro n (u8s l))] [] (sc (.slc 0 0 ((16 - n % 16) % 16) 1)) [some (u8s (padz n))] := by
  refine good_frm 8 Try.func65 rfl rfl rfl rfl rfl rfl ?_
  refine awp_seq ?_
  refine rln ?_
  refine As ?_
  refine gend ?_
  refine awp_seq ?_
  refine rln ?_
  refine Mv ?_
  refine G (q_leno ?_)
  refine G (q_negi ?_)
  refine G (q_pad15 ?_)
  refine G2 (fun _ k_ => q_mks k_) ?_
  refine As ?_
  refine gend ?_
  refine awp_ret ?_
  exact fx1 [0] (hm0 := rfl) (hH := pl1 (cs' := u8s (padz n)) rfl (by rw [rep_u8]; exact sees_m) pl0)
set_option maxHeartbeats 1600000 in
/-- aead.mark -/
theorem mark_ (key nonce ad c : List UInt8) (n k : Nat) (hkey : key.length = 32) (hnonce : nonce.length = 12) (had : ad.length = n) (hn : n ≤ 10000) (hc : c.length = k) (hk : k ≤ 10000) : Good Try.prog 51 [.a (u8s key), .a (u8s nonce), .c (.ro n (u8s ad)), .c (.ro k (u8s c))] [] (sa (u8s (amark key nonce ad c))) [] := by
  have g1 := block key 0 nonce hkey hnonce
  obtain ⟨B, hB⟩ : ∃ z, blk key 0 nonce = z := ⟨_, rfl⟩
  have hBl : B.length = 64 := by rw [← hB]; exact blk_len _ _ _
  rw [hB] at g1
  have hB2 : (B.take 32).length = 32 := by rw [List.length_take, hBl]; rfl
  have hpa := padz_len n
  have hpc := padz_len k
  have hna := num8_len (UInt64.ofNat n) 8
  have hnc := num8_len (UInt64.ofNat k) 8
  have hml := amsg_len ad c
  have g2 := tag_ (B.take 32) [ad, padz n, c, padz k, num8 (UInt64.ofNat n) 8, num8 (UInt64.ofNat k) 8] 6 hB2 rfl (by decide) (by simp only [List.flatten_cons, List.flatten_nil, List.length_append, List.length_nil]; omega)
  rw [show [ad, padz n, c, padz k, num8 (UInt64.ofNat n) 8, num8 (UInt64.ofNat k) 8].flatten = amsg ad c by simp [amsg, had, hc]] at g2
  have gpa := pad_ ad n had (by omega)
  have gpc := pad_ c k hc (by omega)
  have gna := number_ (UInt64.ofNat n)
  have gnc := number_ (UInt64.ofNat k)
  obtain ⟨T, hT⟩ : ∃ z, tag (B.take 32) (amsg ad c) = z := ⟨_, rfl⟩
  have hTl : T.length = 16 := by rw [← hT]; exact tag_len _ _
  rw [hT] at g2
  rw [show amark key nonce ad c = T by rw [← hT, ← hB]; rfl]
  obtain ⟨PA, hPA⟩ : ∃ z, padz n = z := ⟨_, rfl⟩
  obtain ⟨PC, hPC⟩ : ∃ z, padz k = z := ⟨_, rfl⟩
  obtain ⟨NA, hNA⟩ : ∃ z, num8 (UInt64.ofNat n) 8 = z := ⟨_, rfl⟩
  obtain ⟨NC, hNC⟩ : ∃ z, num8 (UInt64.ofNat k) 8 = z := ⟨_, rfl⟩
  rw [hPA] at gpa g2 hpa
  rw [hPC] at gpc g2 hpc
  rw [hNA] at gna g2 hna
  rw [hNC] at gnc g2 hnc
  refine good_frm 35 Try.func51 rfl rfl rfl rfl rfl rfl ?_
  refine awp_seq ?_
  refine rln ?_
  refine G2 (fun _ k_ => q_boxa k_) ?_
  refine G2 (fun _ k_ => q_boxa k_) ?_
  refine G2 (fun _ k_ => q_al k_) ?_
  refine gend ?_
  refine awp_seq ?_
  refine rln ?_
  refine G (q_ldw ?_)
  refine G (q_ldw ?_)
  refine G2 (fun _ k_ => q_callp g1 k_ (ha := (caa (et rfl) sees_m (cac rfl cm_int (caa (et rfl) sees_m ca0))))) ?_
  refine G2 (fun _ k_ => q_al k_) ?_
  refine G20 (fun _ k_ => q_stw k_) ?_
  refine gend ?_
  refine awp_seq ?_
  refine rln ?_
  refine As ?_
  refine gend ?_
  refine awp_seq ?_
  refine rdln [6, 10, 14, 18, 19, 20, 21] [0, 0, 0, 0, 0, 0, 0, 0, 0, 0, 1, 0, 0, 0, 2, 0, 0, 0, 3, 4, 5, 6] [5, 5, 5, 4, 0, 0, 1, 4, 1, 1, 2, 2, 2, 2, 3, 3, 3, 3, 4, 5, 6, 7] ?_
  refine DSp 3 rfl (fun _ hv => q_slp_hi (k := 32) ⟨rfl, rfl⟩ (hp := hv)) ?_
  refine Dp (fun _ => q_s2p ⟨rfl, rfl⟩) ?_
  refine DLa (xs := u8s (B.take 32)) ?_ (hc := cut_pre) (_hp := rfl)
  refine Dp (fun _ => q_mv (s := .v (.c _)) ⟨rfl, rfl⟩) ?_
  refine Dp (fun _ => q_mv (s := .v (.c _)) ⟨rfl, rfl⟩) ?_
  refine Dp (fun _ => q_mv (s := .v (.c _)) ⟨rfl, rfl⟩) ?_
  refine De2 (fun _ k_ => q_callfn gpa k_ (ha := cac (et rfl) sees_ro ca0)) ?_
  refine Dp (fun _ => q_mv (s := .v (.c _)) ⟨rfl, rfl⟩) ?_
  refine Dp (fun _ => q_mv (s := .v (.c _)) ⟨rfl, rfl⟩) ?_
  refine Dp (fun _ => q_mv (s := .v (.c _)) ⟨rfl, rfl⟩) ?_
  refine De2 (fun _ k_ => q_callfn gpc k_ (ha := cac (et rfl) sees_ro ca0)) ?_
  refine Dp (fun _ => q_mv (s := .v (.c _)) ⟨rfl, rfl⟩) ?_
  refine Dp (fun _ => q_leno ⟨rfl, rfl⟩) ?_
  refine Dp (fun _ => q_cv0_64 ⟨rfl, rfl⟩) ?_
  refine De2 (fun _ k_ => q_calln gna k_ (ha := (cac (et rfl) cm_int ca0))) ?_
  refine Dp (fun _ => q_mv (s := .v (.c _)) ⟨rfl, rfl⟩) ?_
  refine Dp (fun _ => q_leno ⟨rfl, rfl⟩) ?_
  refine Dp (fun _ => q_cv0_64 ⟨rfl, rfl⟩) ?_
  refine De2 (fun _ k_ => q_calln gnc k_ (ha := (cac (et rfl) cm_int ca0))) ?_
  refine De2 (fun _ k_ => q_bsl (fkc rfl (et rfl) rfl (Nat.le_of_ble_eq_true rfl) (fkc rfl (et rfl) rfl (Nat.le_of_ble_eq_true rfl) (fkc rfl (et rfl) rfl (Nat.le_of_ble_eq_true rfl) (fkc rfl (et rfl) rfl (Nat.le_of_ble_eq_true rfl) (fkc rfl (et rfl) rfl (Nat.le_of_ble_eq_true rfl) (fkc rfl (et rfl) rfl (Nat.le_of_ble_eq_true rfl) (fk0 k_)))))))) ?_
  refine De2 (fun _ k_ => q_callp g2 k_ (ha := (caa (et rfl) sees_m (cac (et rfl) (sees_parts rfl rfl (pq_ro had (pq_slc rfl rfl (cut_h hpa) hpa (pq_ro hc (pq_slc rfl rfl (cut_h hpc) hpc (pq_slc rfl rfl (cut_h hna) hna (pq_slc rfl rfl (cut_h hnc) hnc pq0))))))) ca0)))) ?_
  refine De20 (fun _ k_ => q_stw k_) ?_
  refine dend ?_
  refine awp_ret ?_
  exact fpc (t := 89) (a := 8) (hn := (mapc_length ..).trans hTl)
end Go.Proofs.Ytlnepajgnckolaa.Ae

/- What functions of the program do, walked over the abstract machine. -/
namespace Go.Proofs.Ytlnepajgnckolaa.Ae
open Go Go.Abs Go.Proofs Go.Proofs.Ytlnepajgnckolaa.Ch Go.Proofs.Ytlnepajgnckolaa.Po

set_option maxRecDepth 20000
theorem take0_m {l : List UInt8} {c : Nat} : ((u8s l).drop (0 * 1)).take (c * 1) = u8s (l.take c) := by rw [Nat.mul_one, Nat.mul_one, cut_m]; rfl
theorem drop_m {l : List UInt8} {c n : Nat} (h : l.length = n) : ((u8s l).drop (c * 1)).take ((n - c) * 1) = u8s (l.drop c) := by
  rw [Nat.mul_one, Nat.mul_one, cut_m, List.take_of_length_le (by rw [List.length_drop]; omega)]
theorem all_m {l : List UInt8} {n : Nat} (h : l.length = n) : (u8s l).take n = u8s l := by rw [List.take_of_length_le (by rw [mapc_length]; omega)]
/-- What is opened. -/
def aopen (key nonce ad s : List UInt8) : Option (List UInt8) :=
  if s.length < 16 then none
  else if amark key nonce ad (s.take (s.length - 16)) = s.drop (s.length - 16) then some (xw key 1 nonce (s.take (s.length - 16)) (s.length - 16)) else none
theorem cpy_n (n : List UInt8) (h : n.length = 8) : splice (u8s (List.replicate 12 0)) 4 ((u8s n).take (min 8 8 * 1)) = u8s ([0, 0, 0, 0] ++ n) := by
  rw [show min 8 8 * 1 = 8 from rfl, all_m h]
  simp [splice, mapc, h]
set_option maxHeartbeats 800000 in
/-- aead.Seal -/
theorem seal_ (key nonce ad l : List UInt8) (n k : Nat) (hkey : key.length = 32) (hnonce : nonce.length = 12) (had : ad.length = n) (hn : n ≤ 10000) (hc : l.length = k) (hk : k ≤ 10000) : Good Try.prog 39 [.a (u8s key), .a (u8s nonce), .c (.ro n (u8s ad)), .c (.ro k (u8s l))] [] (sc (.slc 0 0 (k + 16) 1)) [some (u8s (aseal key nonce ad l))] := by
  have g1 := xor key 1 nonce k l hkey hnonce hc (by omega)
  obtain ⟨C, hC⟩ : ∃ z, xw key 1 nonce l k = z := ⟨_, rfl⟩
  have hCl : C.length = k := by rw [← hC]; exact xw_len _ _ _ _ _
  rw [hC] at g1
  have g2 := mark_ key nonce ad C n k hkey hnonce had hn hCl hk
  obtain ⟨T, hT⟩ : ∃ z, amark key nonce ad C = z := ⟨_, rfl⟩
  have hTl : T.length = 16 := by rw [← hT]; exact amark_len _ _ _ _
  rw [hT] at g2
  rw [show aseal key nonce ad l = C ++ T by rw [← hT, ← hC, ← hc]; rfl]
  refine good_frm 23 Try.func39 rfl rfl rfl rfl rfl rfl ?_
  refine awp_seq ?_
  refine rln ?_
  refine G2 (fun _ k_ => q_boxa k_) ?_
  refine G2 (fun _ k_ => q_boxa k_) ?_
  refine As ?_
  refine gend ?_
  refine awp_seq ?_
  refine rln ?_
  refine G (q_ldw ?_)
  refine G (q_ldw ?_)
  refine Mv ?_
  refine G2 (fun _ k_ => q_calln g1 k_ (ha := (caa (et rfl) sees_m (cac rfl cm_int (caa (et rfl) sees_m (cac (et rfl) sees_ro ca0)))))) ?_
  refine As ?_
  refine gend ?_
  refine awp_seq ?_
  refine rln ?_
  refine G (q_ldw ?_)
  refine G (q_ldw ?_)
  refine Mv ?_
  refine Mv ?_
  refine G2 (fun _ k_ => q_callp g2 k_ (ha := (caa (et rfl) sees_m (caa (et rfl) sees_m (cac (et rfl) sees_ro (cac (et rfl) (sees_slc rfl rfl (cut_h hCl)) ca0)))))) ?_
  refine G2 (fun _ k_ => q_al k_) ?_
  refine G20 (fun _ k_ => q_stw k_) ?_
  refine gend ?_
  refine awp_seq ?_
  refine rln ?_
  refine Mv ?_
  refine G (q_slp_no ?_)
  refine G2 (fun _ k_ => q_app k_) ?_
  refine As ?_
  refine gend ?_
  refine awp_ret ?_
  exact fx1 [4] (hm0 := rfl) (hH := pl1 (cs' := u8s (C ++ T)) rfl (by rw [mapc_append]; exact sees_m) pl0)
set_option maxHeartbeats 800000 in
/-- aead.Open -/
theorem open_yes (key nonce ad s : List UInt8) (n k : Nat) (hkey : key.length = 32) (hnonce : nonce.length = 12) (had : ad.length = n) (hn : n ≤ 10000) (hc : s.length = k) (hk : k ≤ 10000) (h : 16 ≤ k) (hh : amark key nonce ad (s.take (k - 16)) = s.drop (k - 16)) : Good Try.prog 43 [.a (u8s key), .a (u8s nonce), .c (.ro n (u8s ad)), .c (.ro k (u8s s))] [] (.t [.c (.slc 0 0 (k - 16) 1), .c (cn 0)]) [some (u8s (xw key 1 nonce (s.take (k - 16)) (k - 16)))] := by
  have hTl : (s.take (k - 16)).length = k - 16 := by rw [List.length_take]; omega
  have hDl : (s.drop (k - 16)).length = 16 := by rw [List.length_drop]; omega
  have g2 := mark_ key nonce ad (s.take (k - 16)) n (k - 16) hkey hnonce had hn hTl (by omega)
  obtain ⟨M, hM⟩ : ∃ z, amark key nonce ad (s.take (k - 16)) = z := ⟨_, rfl⟩
  have hMl : M.length = 16 := by rw [← hM]; exact amark_len _ _ _ _
  rw [hM] at g2 hh
  have g3 := equal M (s.drop (k - 16)) hMl hDl
  have g4 := xor key 1 nonce (k - 16) (s.take (k - 16)) hkey hnonce hTl (by omega)
  refine good_frm 38 Try.func43 rfl rfl rfl rfl rfl rfl ?_
  refine awp_seq ?_
  refine rln ?_
  refine G2 (fun _ k_ => q_boxa k_) ?_
  refine G2 (fun _ k_ => q_boxa k_) ?_
  refine As ?_
  refine G (q_as (s := sc (cn 0)) ?_)
  refine gend ?_
  refine awp_seq ?_
  refine rln ?_
  refine Mv ?_
  refine G (q_leno ?_)
  refine G (q_subn (y := 16) ?_)
  refine As ?_
  refine gend ?_
  refine awp_seq ?_
  refine awp_seq ?_
  refine rdln [9, 15] [0, 0, 0, 0, 0, 0, 0, 0, 0, 0, 0, 0, 0, 0, 0, 1, 2, 2] [0, 0, 0, 0, 0, 0, 0, 0, 0, 1, 1, 1, 1, 1, 1, 2, 2, 2] ?_
  refine Dp (fun _ => q_mv (s := .v (.c _)) ⟨rfl, rfl⟩) ?_
  refine Dp (fun _ => q_lssn (y := 0) ⟨rfl, rfl⟩) ?_
  refine Dp (fun _ => q_mv (s := .v (.c _)) ⟨rfl, rfl⟩) ?_
  refine Dkfd 16 (fun hb3 => ?_) ?_; rotate_left
  · omega
  refine DLwg ?_
  refine DLwg ?_
  refine Dpg (fun _ => q_mv (s := .v (.c _)) ⟨rfl, rfl⟩) ?_
  refine Dpg (fun _ => q_mv (s := .v (.c _)) ⟨rfl, rfl⟩) ?_
  refine Dpg (fun _ => q_mv (s := .v (.c _)) ⟨rfl, rfl⟩) ?_
  refine Dpg (fun _ => q_slo_hi  ⟨rfl, rfl⟩ (hc := take0_m)) ?_
  refine De2g (fun _ k_ => q_callp g2 k_ (ha := (caa (et rfl) sees_m (caa (et rfl) sees_m (cac (et rfl) sees_ro (cac (et rfl) sees_ro ca0)))))) ?_
  refine Dpg (fun _ => q_mv (s := .v (.c _)) ⟨rfl, rfl⟩) ?_
  refine Dpg (fun _ => q_mv (s := .v (.c _)) ⟨rfl, rfl⟩) ?_
  refine Dpg (fun _ => q_slo_lo  ⟨rfl, rfl⟩ (hc := drop_m hc)) ?_
  refine Dpg (fun _ => q_s2r  ⟨rfl, rfl⟩ (hc := fun e => by have := congrArg List.length e; rw [mapc_length, hDl] at this; cases this)) ?_
  refine Dpg (fun _ => q_ldar  ⟨rfl, rfl⟩ (hc := all_m hDl)) ?_
  refine De2g (fun _ k_ => q_callp g3 k_ (ha := (caa (et rfl) sees_m (caa (et rfl) sees_m ca0)))) ?_
  refine Dpg (fun _ => q_notb ⟨rfl, rfl⟩) ?_
  refine Dp (fun _ => q_pkf ⟨rfl, rfl⟩) ?_
  refine dend ?_
  refine cndbnN (fun hc1 => ?_) ?_; rotate_left
  · exact decide_eq_true hh
  refine awp_skip ?_
  refine awp_seq ?_
  refine rdln [5] [0, 0, 0, 0, 0, 0, 1, 1] [0, 0, 0, 0, 0, 1, 1, 1] ?_
  refine DLw ?_
  refine DLw ?_
  refine Dp (fun _ => q_mv (s := .v (.c _)) ⟨rfl, rfl⟩) ?_
  refine Dp (fun _ => q_mv (s := .v (.c _)) ⟨rfl, rfl⟩) ?_
  refine Dp (fun _ => q_slo_hi  ⟨rfl, rfl⟩ (hc := take0_m)) ?_
  refine De2 (fun _ k_ => q_calln g4 k_ (ha := (caa (et rfl) sees_m (cac rfl cm_int (caa (et rfl) sees_m (cac (et rfl) sees_ro ca0)))))) ?_
  refine Dp (fun _ => q_as (s := .v (.c _)) ⟨rfl, rfl⟩) ?_
  refine Dp (fun _ => q_as (s := sc (cn 0)) ⟨rfl, rfl⟩) ?_
  refine dend ?_
  refine awp_ret ?_
  exact fx2 [2] (hm0 := rfl) (hH := pl1 rfl sees_m pl0)
theorem open_some (key nonce ad s : List UInt8) (n k : Nat) (hkey : key.length = 32) (hnonce : nonce.length = 12) (had : ad.length = n) (hn : n ≤ 10000) (hc : s.length = k) (hk : k ≤ 10000) (p : List UInt8) (h : aopen key nonce ad s = some p) : Good Try.prog 43 [.a (u8s key), .a (u8s nonce), .c (.ro n (u8s ad)), .c (.ro k (u8s s))] [] (.t [.c (.slc 0 0 (k - 16) 1), .c (cn 0)]) [some (u8s p)] := by
  unfold aopen at h
  rw [hc] at h
  by_cases h1 : k < 16
  · rw [if_pos h1] at h; cases h
  · rw [if_neg h1] at h
    by_cases h2 : amark key nonce ad (s.take (k - 16)) = s.drop (k - 16)
    · rw [if_pos h2] at h; cases h; exact open_yes key nonce ad s n k hkey hnonce had hn hc hk (by omega) h2
    · rw [if_neg h2] at h; cases h
set_option maxHeartbeats 800000 in
/-- aead.Nonce -/
theorem nonce_ (n : UInt64) : Good Try.prog 40 [.c (c64 n)] [] (sa (u8s (anonce n))) [] := by
  have g1 := number_ n
  obtain ⟨B, hB⟩ : ∃ z, num8 n 8 = z := ⟨_, rfl⟩
  have hBl : B.length = 8 := by rw [← hB]; exact num8_len _ _
  have hA : (anonce n).length = 12 := anonce_len n
  have hcp := cpy_n B hBl
  rw [hB] at g1
  rw [show ([0, 0, 0, 0] : List UInt8) ++ B = anonce n by rw [← hB]; rfl] at hcp
  refine good_frm 8 Try.func40 rfl rfl rfl rfl rfl rfl ?_
  refine awp_seq ?_
  refine rln ?_
  refine G2 (fun _ k_ => q_al k_) ?_
  refine gend ?_
  refine awp_seq ?_
  refine rdln [2, 3] [0, 0, 0, 1] [1, 0, 1, 2] ?_
  refine DSp 0 rfl (fun _ hv => q_slp_lo (j := 4) ⟨rfl, rfl⟩ (hp := hv)) ?_
  refine Dp (fun _ => q_mv (s := .v (.c _)) ⟨rfl, rfl⟩) ?_
  refine De2 (fun _ k_ => q_calln g1 k_ (ha := (cac (et rfl) cm_int ca0))) ?_
  refine De2 (fun _ k_ => q_cpy k_ (eB := el_slc rfl (by rw [mapc_length, hBl]; decide) (cut_h hBl))) ?_ (hH := by simp only [List.set_cons_zero, List.cons_append, List.nil_append]; exact congrArg (fun z => [some z, some (u8s B)]) hcp)
  refine dend ?_
  refine awp_seq ?_
  refine rln ?_
  refine G (q_ldw ?_)
  refine G20 (fun _ k_ => q_stw k_) ?_
  refine gend ?_
  refine awp_ret ?_
  exact fpc (t := 77) (a := 2) (hn := (mapc_length ..).trans hA)
end Go.Proofs.Ytlnepajgnckolaa.Ae

/- What functions of the program do, walked over the abstract machine. -/
namespace Go.Proofs.Ytlnepajgnckolaa.Ae
open Go Go.Abs Go.Proofs Go.Proofs.Ytlnepajgnckolaa.Ch Go.Proofs.Ytlnepajgnckolaa.Po

set_option maxRecDepth 20000
def rnon (n : UInt64) : Nat → List UInt8
  | 0 => List.replicate 12 0
  | i + 1 => (rnon n i).set (4 + i) (shr64n n (UInt64.ofNat (8 * i)).toNat).toUInt8
theorem app_cut {a b : List UInt8} {p q : Nat} (ha : a.length = p) (hb : b.length = q) : ((u8s a ++ u8s b).drop 0).take ((p + q) * 1) = u8s (a ++ b) := by
  rw [mapc_append]; exact cut_h (by rw [List.length_append, ha, hb])
end Go.Proofs.Ytlnepajgnckolaa.Ae

/- What functions of the program do, walked over the abstract machine. -/
namespace Go.Proofs.Ytlnepajgnckolaa.Ae
open Go Go.Abs Go.Proofs Go.Proofs.Ytlnepajgnckolaa.Ch Go.Proofs.Ytlnepajgnckolaa.Po

set_option maxRecDepth 20000
theorem xw_get' (key : List UInt8) (ctr : UInt32) (nonce l : List UInt8) (n i : Nat) (h : i < n) : (xw key ctr nonce l n).getD i 0 = l.getD i 0 ^^^ (blk key (ctr + UInt32.ofNat (i / 64)) nonce).getD (i % 64) 0 := by
  simp [xw, List.getD_eq_getElem?_getD, h]
theorem xw_xw (key : List UInt8) (ctr : UInt32) (nonce l : List UInt8) (n : Nat) (h : l.length = n) : xw key ctr nonce (xw key ctr nonce l n) n = l := by
  refine List.ext_getElem (by rw [xw_len, h]) fun i h1 h2 => ?_
  rw [xw_len] at h1
  have := xw_get' key ctr nonce (xw key ctr nonce l n) n i h1
  rw [xw_get' key ctr nonce l n i h1, UInt8.xor_assoc, UInt8.xor_self, UInt8.xor_zero] at this
  simpa [List.getD_eq_getElem?_getD, h2, xw_len, h1] using this
theorem aopen_aseal (key nonce ad l : List UInt8) : aopen key nonce ad (aseal key nonce ad l) = some l := by
  have hl := aseal_len key nonce ad l
  have hx := xw_len key 1 nonce l l.length
  unfold aopen
  rw [hl, if_neg (by omega), Nat.add_sub_cancel]
  have e1 : (aseal key nonce ad l).take l.length = xw key 1 nonce l l.length := by rw [aseal, List.take_append_of_le_length (by omega), List.take_of_length_le (by omega)]
  have e2 : (aseal key nonce ad l).drop l.length = amark key nonce ad (xw key 1 nonce l l.length) := by rw [aseal, List.drop_append_of_le_length (by omega), List.drop_of_length_le (by omega), List.nil_append]
  rw [e1, e2, if_pos rfl, xw_xw key 1 nonce l _ rfl]
end Go.Proofs.Ytlnepajgnckolaa.Ae

/- What functions of the program do, walked over the abstract machine. -/
namespace Go.Proofs.Ytlnepajgnckolaa.Bl
open Go Go.Abs Go.Proofs

set_option maxRecDepth 20000
/-- A word turned right. -/
def rotr (x : UInt32) (r : Nat) : UInt32 := shl32n x (32 - r) ||| shr32n x r
def rotk (x : UInt32) (k : Int) : UInt32 := shl32n x (UInt64.ofInt k &&& 31).toNat ||| shr32n x (32 - (UInt64.ofInt k &&& 31)).toNat
/-- A root's bits, the highest first. -/
def rootf (n : UInt64) : Nat → UInt64
  | 0 => 0
  | j + 1 => if mulhi (rootf n j ||| shl64n 1 (35 - j)) (rootf n j ||| shl64n 1 (35 - j)) < n ∨ (mulhi (rootf n j ||| shl64n 1 (35 - j)) (rootf n j ||| shl64n 1 (35 - j)) = n ∧ (rootf n j ||| shl64n 1 (35 - j)) * (rootf n j ||| shl64n 1 (35 - j)) = 0) then rootf n j ||| shl64n 1 (35 - j) else rootf n j
def prm (k : Nat) : Nat → Bool
  | 0 => true
  | j + 1 => prm k j && decide (UInt64.ofNat (2 + k) % UInt64.ofNat (2 + j) ≠ 0)
def stt : Nat → Nat × List UInt32
  | 0 => (0, List.replicate 8 0)
  | k + 1 => if prm k k = true then ((stt k).1 + 1, (stt k).2.set (stt k).1 (rootf (UInt64.ofNat (2 + k)) 36).toUInt32) else stt k
theorem stt_len : ∀ k, (stt k).2.length = 8
  | 0 => by simp [stt]
  | k + 1 => by rw [stt]; split <;> simp [stt_len k]
theorem stt_lt : ∀ k, k < 18 → (stt k).1 < 8 := by
  have : ∀ k : Fin 18, (stt k.1).1 < 8 := by decide +kernel
  exact fun k h => this ⟨k, h⟩
theorem stt_18 : (stt 18).1 = 8 := by decide +kernel
theorem num_lt (a b : Nat) (ha : a < 100) (hb : b < 100) : (UInt64.ofNat a < UInt64.ofNat b) ↔ a < b := by
  rw [UInt64.lt_iff_toNat_lt, UInt64.toNat_ofNat_of_lt' (by rw [show UInt64.size = 18446744073709551616 from rfl]; omega), UInt64.toNat_ofNat_of_lt' (by rw [show UInt64.size = 18446744073709551616 from rfl]; omega)]
theorem num_ne (a : Nat) (ha : a < 100) (h0 : 0 < a) : UInt64.ofNat a ≠ 0 := by
  intro e
  have := congrArg UInt64.toNat e
  rw [UInt64.toNat_ofNat_of_lt' (by rw [show UInt64.size = 18446744073709551616 from rfl]; omega)] at this
  have z : UInt64.toNat 0 = 0 := rfl
  omega
theorem num_succ (a : Nat) : UInt64.ofNat a + 1 = UInt64.ofNat (a + 1) := by rw [UInt64.ofNat_add]; rfl
/-- The orders, one behind the other. -/
def ords : List Nat := [0, 1, 2, 3, 4, 5, 6, 7, 8, 9, 10, 11, 12, 13, 14, 15, 14, 10, 4, 8, 9, 15, 13, 6, 1, 12, 0, 2, 11, 7, 5, 3, 11, 8, 12, 0, 5, 2, 15, 13, 10, 14, 3, 6, 7, 1, 9, 4, 7, 9, 3, 1, 13, 12, 11, 14, 2, 6, 5, 10, 4, 0, 15, 8, 9, 0, 5, 7, 2, 4, 10, 15, 14, 1, 11, 12, 6, 8, 3, 13, 2, 12, 6, 10, 0, 11, 8, 3, 4, 13, 7, 5, 15, 14, 1, 9, 12, 5, 1, 15, 14, 13, 4, 10, 0, 7, 6, 3, 9, 2, 8, 11, 13, 11, 7, 14, 12, 1, 3, 9, 5, 0, 15, 4, 8, 6, 2, 10, 6, 15, 14, 9, 11, 3, 0, 8, 12, 2, 13, 7, 1, 4, 10, 5, 10, 2, 8, 4, 7, 6, 1, 5, 15, 11, 9, 14, 3, 12, 13, 0]
def ordz : List Int := ords.map Int.ofNat
/-- The mix's steps. -/
def m1 (v : List UInt32) (a b : Nat) (x : UInt32) : List UInt32 := v.set a (v.getD a 0 + (v.getD b 0 + x))
def m2 (v : List UInt32) (d a r : Nat) : List UInt32 := v.set d (rotr (v.getD d 0 ^^^ v.getD a 0) r)
def m3 (v : List UInt32) (c d : Nat) : List UInt32 := v.set c (v.getD c 0 + v.getD d 0)
def mixh (v : List UInt32) (a b c d : Nat) (x : UInt32) (r r' : Nat) : List UInt32 := m2 (m3 (m2 (m1 v a b x) d a r) c d) b c r'
def gmix (v : List UInt32) (a b c d : Nat) (x y : UInt32) : List UInt32 := mixh (mixh v a b c d x 16 12) a b c d y 8 7
/-- A block's words. -/
def mw (l : List UInt8) : Nat → List UInt32
  | 0 => List.replicate 16 0
  | i + 1 => (mw l i).set (i / 4) ((mw l i).getD (i / 4) 0 ||| shl32n (l.getD i 0).toUInt32 (8 * (i % 4)))
def vini (h f : List UInt32) (t : UInt64) (last : Bool) : List UInt32 :=
  let v := ((h ++ f).set 12 ((h ++ f).getD 12 0 ^^^ t.toUInt32)).set 13 (((h ++ f).set 12 ((h ++ f).getD 12 0 ^^^ t.toUInt32)).getD 13 0 ^^^ (shr64n t 32).toUInt32)
  if last then v.set 14 (~~~ v.getD 14 0) else v
def ins (m : List UInt32) (r : Nat) (v : List UInt32) : Nat → List UInt32
  | 0 => v
  | i + 1 => gmix (ins m r v i) (i % 4) (4 + (i + i / 4) % 4) (8 + (i + 2 * (i / 4)) % 4) (12 + (i + 3 * (i / 4)) % 4) (m.getD (ords.getD (r * 16 + 2 * i * 1) 0) 0) (m.getD (ords.getD (r * 16 + (2 * i + 1) * 1) 0) 0)
def rnds (m v : List UInt32) : Nat → List UInt32
  | 0 => v
  | r + 1 => ins m r (rnds m v r) 8
def hxr (h v : List UInt32) : Nat → List UInt32
  | 0 => h
  | i + 1 => (hxr h v i).set i ((hxr h v i).getD i 0 ^^^ (v.getD i 0 ^^^ v.getD (i + 8) 0))
def press (h f : List UInt32) (l : List UInt8) (t : UInt64) (last : Bool) : List UInt32 := hxr h (rnds (mw l 64) (vini h f t last) 10) 8
/-- math/bits.Mul64 -/
theorem mul64 (x y : UInt64) : Good Try.prog 84 [.c (c64 x), .c (c64 y)] [] (.t [.c (c64 (mulhi x y)), .c (c64 (x * y))]) [] := by
  refine good_frm 51 Try.func84 rfl rfl rfl rfl rfl rfl ?_
  refine awp_seq ?_
  refine rl ?_
  refine G (q_as (s := sc (c64 0)) ?_)
  refine G (q_as (s := sc (c64 0)) ?_)
  refine gend ?_
  refine awp_seq ?_
  refine rl ?_
  refine Mv ?_
  refine G (q_and64 (y := 4294967295) ?_)
  refine As ?_
  refine gend ?_
  refine awp_seq ?_
  refine rl ?_
  refine Mv ?_
  refine G (q_shr64_64 (n := 32) ?_)
  refine As ?_
  refine gend ?_
  refine awp_seq ?_
  refine rl ?_
  refine Mv ?_
  refine G (q_and64 (y := 4294967295) ?_)
  refine As ?_
  refine gend ?_
  refine awp_seq ?_
  refine rl ?_
  refine Mv ?_
  refine G (q_shr64_64 (n := 32) ?_)
  refine As ?_
  refine gend ?_
  refine awp_seq ?_
  refine rl ?_
  refine Mv ?_
  refine Mv ?_
  refine G (q_mul64 ?_)
  refine As ?_
  refine gend ?_
  refine awp_seq ?_
  refine rl ?_
  refine Mv ?_
  refine Mv ?_
  refine G (q_mul64 ?_)
  refine Mv ?_
  refine G (q_shr64_64 (n := 32) ?_)
  refine G (q_add64 ?_)
  refine As ?_
  refine gend ?_
  refine awp_seq ?_
  refine rl ?_
  refine Mv ?_
  refine G (q_and64 (y := 4294967295) ?_)
  refine As ?_
  refine gend ?_
  refine awp_seq ?_
  refine rl ?_
  refine Mv ?_
  refine G (q_shr64_64 (n := 32) ?_)
  refine As ?_
  refine gend ?_
  refine awp_seq ?_
  refine rl ?_
  refine Mv ?_
  refine Mv ?_
  refine Mv ?_
  refine G (q_mul64 ?_)
  refine G (q_add64 ?_)
  refine As ?_
  refine gend ?_
  refine awp_seq ?_
  refine rl ?_
  refine Mv ?_
  refine Mv ?_
  refine G (q_mul64 ?_)
  refine Mv ?_
  refine G (q_add64 ?_)
  refine Mv ?_
  refine G (q_shr64_64 (n := 32) ?_)
  refine G (q_add64 ?_)
  refine As ?_
  refine gend ?_
  refine awp_seq ?_
  refine rl ?_
  refine Mv ?_
  refine Mv ?_
  refine G (q_mul64 ?_)
  refine As ?_
  refine gend ?_
  refine awp_ret ?_
  exact fp2
/-- blake.root -/
theorem root (n : UInt64) : Good Try.prog 71 [.c (c64 n)] [] (sc (c32 (rootf n 36).toUInt32)) [] := by
  refine good_frm 37 Try.func71 rfl rfl rfl rfl rfl rfl ?_
  refine awp_seq ?_
  refine rl ?_
  refine G (q_as (s := sc (c32 0)) ?_)
  refine gend ?_
  refine awp_seq ?_
  refine rl ?_
  refine G (q_as (s := sc (c64 0)) ?_)
  refine gend ?_
  refine awp_seq ?_
  refine awp_seq ?_
  refine rl ?_
  refine G (q_as (s := sc (cn 35)) ?_)
  refine gend ?_
  refine awp_block ?_
  refine awp_loop (fun x : {i : Nat // i ≤ 36} => ⟨frm 37 [(0, sc (c64 n)), (3, sc (c64 (rootf n x.1))), (4, sc (ci (35 - (x.1 : Int))))], []⟩) (fun x => 36 - x.1) ⟨0, Nat.zero_le _⟩ (sle_sub ⟨rfl, rfl, rfl, trivial⟩ rfl) fun x => ?_   -- live: [0, 3, 4]
  refine awp_seq ?_
  refine awp_seq ?_
  refine rl ?_
  refine Mv ?_
  refine G (q_geqi (y := 0) ?_)
  refine gend ?_
  refine cnd (fun hc1 => ?_) (fun hc1 => ?_); rotate_left
  · refine awp_exit ?_
    rw [show x.1 = 36 from (by have := x.2; omega)]
    refine awp_seq ?_
    refine rl ?_
    refine Mv ?_
    refine G (q_cv64_32 ?_)
    refine As ?_
    refine gend ?_
    refine awp_ret ?_
    exact fp1
  refine awp_skip ?_
  refine retell [(0, sc (c64 n)), (3, sc (c64 (rootf n x.1))), (4, sc (cn (35 - x.1)))] ?_ ⟨rfl, rfl, congrArg (fun i => sc (ci i)) (by omega), trivial⟩
  refine awp_seq ?_
  refine awp_block ?_
  refine awp_seq ?_
  refine rl ?_
  refine Mv ?_
  refine Mv ?_
  refine G (q_shl64_0 (x := 1) ?_)
  refine G (q_or64 ?_)
  refine As ?_
  refine gend ?_
  refine awp_seq ?_
  refine rl ?_
  refine Mv ?_
  refine Mv ?_
  refine G (q_callp (mul64 _ _/- math/bits.Mul64 -/) ?_)
  refine G (q_mv (s := .t _) ?_)
  refine G (q_ext (y := .c _) ?_)
  refine G (q_ext (y := .c _) ?_)
  refine As ?_
  refine As ?_
  refine gend ?_
  refine awp_seq ?_
  refine rl ?_
  refine Mv ?_
  refine Mv ?_
  refine G (q_lss64 ?_)
  refine Mv ?_
  refine Aspd 25 (fun hb4 => ?_) (fun hb4 => ?_)
  · refine Gn ?_
    refine Gn ?_
    refine Gn ?_
    refine Gn ?_
    refine Gu ?_
    refine Gu ?_
    refine Gn ?_
    refine G (q_pkt ?_)
    refine gend ?_
    refine cndT ?_
    refine rl ?_
    refine Mv ?_
    refine As ?_
    refine gend ?_
    refine rl ?_
    refine Mv ?_
    refine G (q_subi (y := 1) ?_)
    refine As ?_
    refine gend ?_
    exact ⟨⟨x.1 + 1, by omega⟩, by show 36 - (x.1 + 1) < 36 - x.1; omega, sle_sub ⟨rfl, congrArg (fun z => sc (c64 z)) (by show _ = rootf n (x.1 + 1); rw [rootf]; generalize rootf n x.1 ||| shl64n 1 (35 - x.1) = y at *; simp [*]), congrArg (fun i => sc (ci i)) (by show ((35 - x.1 : Nat) : Int) - 1 = 35 - ((x.1 + 1 : Nat) : Int); omega), trivial⟩ rfl⟩   -- endloop 1
  refine Gg (q_mv (s := .v (.c _)) ?_)
  refine Gg (q_mv (s := .v (.c _)) ?_)
  refine Gg (q_eql64 ?_)
  refine Gg (q_mv (s := .v (.c _)) ?_)
  refine Aspd 29 (fun hb8 => ?_) (fun hb8 => ?_)
  · refine Gg (q_mv (s := .v (.c _)) ?_)
    refine Gg (q_eql64 (y := 0) ?_)
    refine Gg (q_pkt ?_)
    refine G (q_pkf ?_)
    refine gend ?_
    refine cnd (fun hc2 => ?_) (fun hc2 => ?_)
    · refine rl ?_
      refine Mv ?_
      refine As ?_
      refine gend ?_
      refine rl ?_
      refine Mv ?_
      refine G (q_subi (y := 1) ?_)
      refine As ?_
      refine gend ?_
      exact ⟨⟨x.1 + 1, by omega⟩, by show 36 - (x.1 + 1) < 36 - x.1; omega, sle_sub ⟨rfl, congrArg (fun z => sc (c64 z)) (by show _ = rootf n (x.1 + 1); rw [rootf]; generalize rootf n x.1 ||| shl64n 1 (35 - x.1) = y at *; simp [*]), congrArg (fun i => sc (ci i)) (by show ((35 - x.1 : Nat) : Int) - 1 = 35 - ((x.1 + 1 : Nat) : Int); omega), trivial⟩ rfl⟩   -- endloop 1
    refine awp_skip ?_
    refine rl ?_
    refine Mv ?_
    refine G (q_subi (y := 1) ?_)
    refine As ?_
    refine gend ?_
    exact ⟨⟨x.1 + 1, by omega⟩, by show 36 - (x.1 + 1) < 36 - x.1; omega, sle_sub ⟨rfl, congrArg (fun z => sc (c64 z)) (by show _ = rootf n (x.1 + 1); rw [rootf]; generalize rootf n x.1 ||| shl64n 1 (35 - x.1) = y at *; simp [*]), congrArg (fun i => sc (ci i)) (by show ((35 - x.1 : Nat) : Int) - 1 = 35 - ((x.1 + 1 : Nat) : Int); omega), trivial⟩ rfl⟩   -- endloop 1
  refine Gn ?_
  refine Gn ?_
  refine Gg (q_pkf ?_)
  refine G (q_pkf ?_)
  refine gend ?_
  refine cndF ?_
  refine awp_skip ?_
  refine rl ?_
  refine Mv ?_
  refine G (q_subi (y := 1) ?_)
  refine As ?_
  refine gend ?_
  exact ⟨⟨x.1 + 1, by omega⟩, by show 36 - (x.1 + 1) < 36 - x.1; omega, sle_sub ⟨rfl, congrArg (fun z => sc (c64 z)) (by show _ = rootf n (x.1 + 1); rw [rootf]; generalize rootf n x.1 ||| shl64n 1 (35 - x.1) = y at *; simp [*]), congrArg (fun i => sc (ci i)) (by show ((35 - x.1 : Nat) : Int) - 1 = 35 - ((x.1 + 1 : Nat) : Int); omega), trivial⟩ rfl⟩   -- endloop 1
set_option maxHeartbeats 800000 in
/-- blake.start -/
theorem start : Good Try.prog 56 [] [] (sa (u32s (stt 18).2)) [] := by
  refine good_frm 29 Try.func56 rfl rfl rfl rfl rfl rfl ?_
  refine awp_seq ?_
  refine rl ?_
  refine G (q_al ?_)
  refine gend ?_
  refine awp_seq ?_
  refine rl ?_
  refine G (q_as (s := sc (cn 0)) ?_)
  refine gend ?_
  refine awp_seq ?_
  refine awp_seq ?_
  refine rl ?_
  refine G (q_as (s := sc (c64 2)) ?_)
  refine gend ?_
  refine awp_block ?_
  refine awp_loop (fun x : {i : Nat // i ≤ 18} => ⟨frm 29 [(0, sc (.ptr 0 0)), (1, sc (cn (stt x.1).1)), (2, sc (c64 (UInt64.ofNat (2 + x.1))))], [some (u32s (stt x.1).2)]⟩) (fun x => 18 - x.1) ⟨0, Nat.zero_le _⟩ (sle_sub ⟨rfl, rfl, rfl, trivial⟩ rfl) fun x => ?_   -- live: [0, 1, 2]
  have hl := stt_len x.1
  have hlt := stt_lt x.1
  have hx18 : (stt x.1).1 < 8 → x.1 + 1 ≤ 18 := fun h => by
    rcases Nat.lt_or_ge x.1 18 with h' | h'
    · omega
    · exfalso
      have e : x.1 = 18 := by have := x.2; omega
      rw [e, stt_18] at h; omega
  refine awp_seq ?_
  refine awp_seq ?_
  refine rl ?_
  refine Mv ?_
  refine G (q_lssn (y := 8) ?_)
  refine gend ?_
  refine cnd (fun hc1 => ?_) (fun hc1 => ?_); rotate_left
  · refine awp_exit ?_
    rw [show x.1 = 18 from (by have := x.2; omega)]
    refine awp_seq ?_
    refine rl ?_
    refine G (q_ldw  ?_ (hl := (mapc_length ..).trans (stt_len 18)))
    refine G0 (q_stw  ?_ (hl := (mapc_length ..).trans (stt_len 18)) (hc := (mapc_length ..).trans (stt_len 18)))
    refine gend ?_
    refine awp_ret ?_
    exact fpc (t := 95) (a := 0) (hn := by exact (mapc_length ..).trans (stt_len 18))
  refine awp_skip ?_
  refine awp_seq ?_
  refine awp_block ?_
  refine awp_seq ?_
  refine rl ?_
  refine As ?_
  refine gend ?_
  refine awp_seq ?_
  refine awp_seq ?_
  refine rl ?_
  refine G (q_as (s := sc (c64 2)) ?_)
  refine gend ?_
  refine awp_block ?_
  refine awp_loop (fun j : {i : Nat // i ≤ x.1} => ⟨frm 29 [(0, sc (.ptr 0 0)), (1, sc (cn (stt x.1).1)), (2, sc (c64 (UInt64.ofNat (2 + x.1)))), (3, sc (.bool (prm x.1 j.1))), (4, sc (c64 (UInt64.ofNat (2 + j.1))))], [some (u32s (stt x.1).2)]⟩) (fun j => x.1 - j.1) ⟨0, Nat.zero_le _⟩ (sle_sub ⟨rfl, rfl, rfl, rfl, rfl, trivial⟩ rfl) fun j => ?_   -- live: [2, 3, 4]
  have hnl := num_lt (2 + j.1) (2 + x.1) (by omega) (by omega)
  refine awp_seq ?_
  refine awp_seq ?_
  refine rl ?_
  refine Mv ?_
  refine Mv ?_
  refine G (q_lss64 ?_)
  refine gend ?_
  refine cnd (fun hc2 => ?_) (fun hc2 => ?_); rotate_left
  · refine awp_exit ?_
    have hc2' := mt hnl.2 hc2
    rw [show j.1 = x.1 from (by have := j.2; omega)]
    refine awp_seq ?_
    refine rl ?_
    refine Mv ?_
    refine gend ?_
    refine cndb (fun hc3 => ?_) (fun hc3 => ?_)
    · refine awp_seq ?_
      refine rl ?_
      refine Mv ?_
      refine Mv ?_
      refine G (q_callp (root _/- escutcheon/blake.root -/) ?_)
      refine G (q_ixp1 ?_)
      refine G0 (q_stm ?_)
      refine gend ?_
      refine rl ?_
      refine Mv ?_
      refine G (q_addn (y := 1) ?_)
      refine As ?_
      refine gend ?_
      refine rl ?_
      refine Mv ?_
      refine G (q_add64 (y := 1) ?_)
      refine As ?_
      refine gend ?_
      exact ⟨⟨x.1 + 1, by omega⟩, by show 18 - (x.1 + 1) < 18 - x.1; omega, sle_sub ⟨rfl, congrArg (fun n => sc (cn n)) (by show _ = (stt (x.1 + 1)).1; rw [stt]; first | rw [if_pos (by assumption)] | rw [if_neg (by simp [*])]), congrArg (fun z => sc (c64 z)) (num_succ _), trivial⟩ (by show _ = [some (u32s (stt (x.1 + 1)).2)]; rw [stt]; first | (rw [if_pos (by assumption)]; rfl) | rw [if_neg (by simp [*])])⟩   -- endloop 1
    refine awp_skip ?_
    refine rl ?_
    refine Mv ?_
    refine G (q_add64 (y := 1) ?_)
    refine As ?_
    refine gend ?_
    exact ⟨⟨x.1 + 1, by omega⟩, by show 18 - (x.1 + 1) < 18 - x.1; omega, sle_sub ⟨rfl, congrArg (fun n => sc (cn n)) (by show _ = (stt (x.1 + 1)).1; rw [stt]; first | rw [if_pos (by assumption)] | rw [if_neg (by simp [*])]), congrArg (fun z => sc (c64 z)) (num_succ _), trivial⟩ (by show _ = [some (u32s (stt (x.1 + 1)).2)]; rw [stt]; first | (rw [if_pos (by assumption)]; rfl) | rw [if_neg (by simp [*])])⟩   -- endloop 1
  refine awp_skip ?_
  refine awp_seq ?_
  refine awp_block ?_
  refine rl ?_
  refine Mv ?_
  refine Mv ?_
  refine Asp 15 (fun hb2 => ?_) (fun hb2 => ?_)
  · refine Gg (q_mv (s := .v (.c _)) ?_)
    refine Gg (q_mv (s := .v (.c _)) ?_)
    refine Gg (q_rem64 ?_ (hz := num_ne _ (by omega) (by omega)))
    refine Gg (q_neq64 (y := 0) ?_)
    refine G (q_pkt ?_)
    refine As ?_
    refine gend ?_
    refine rl ?_
    refine Mv ?_
    refine G (q_add64 (y := 1) ?_)
    refine As ?_
    refine gend ?_
    exact ⟨⟨j.1 + 1, by have := hnl.1 hc2; omega⟩, by show x.1 - (j.1 + 1) < x.1 - j.1; have := hnl.1 hc2; omega, sle_sub ⟨rfl, rfl, rfl, congrArg (fun b => sc (.bool b)) (by show _ = prm x.1 (j.1 + 1); rw [prm]; simp [*]), congrArg (fun z => sc (c64 z)) (num_succ _), trivial⟩ rfl⟩   -- endloop 2
  refine Gn ?_
  refine Gn ?_
  refine Gn ?_
  refine Gn ?_
  refine G (q_pkf ?_)
  refine As ?_
  refine gend ?_
  refine rl ?_
  refine Mv ?_
  refine G (q_add64 (y := 1) ?_)
  refine As ?_
  refine gend ?_
  exact ⟨⟨j.1 + 1, by have := hnl.1 hc2; omega⟩, by show x.1 - (j.1 + 1) < x.1 - j.1; have := hnl.1 hc2; omega, sle_sub ⟨rfl, rfl, rfl, congrArg (fun b => sc (.bool b)) (by show _ = prm x.1 (j.1 + 1); rw [prm]; simp [*]), congrArg (fun z => sc (c64 z)) (num_succ _), trivial⟩ rfl⟩   -- endloop 2
/-- blake.orders -/
theorem orders : Good Try.prog 57 [] [] (sa (i64s ordz)) [] := by
  refine good_frm 12 Try.func57 rfl rfl rfl rfl rfl rfl ?_
  refine awp_seq ?_
  refine rl ?_
  refine G (q_al ?_)
  refine gend ?_
  refine awp_seq ?_
  refine rl ?_
  refine G (q_bla (fkC (out := i64s [0, 1, 2, 3, 4, 5, 6, 7, 8, 9, 10, 11, 12, 13, 14, 15]) ?_))
  refine G (q_bla (fkC (out := i64s [14, 10, 4, 8, 9, 15, 13, 6, 1, 12, 0, 2, 11, 7, 5, 3]) ?_))
  refine G (q_bla (fkC (out := i64s [11, 8, 12, 0, 5, 2, 15, 13, 10, 14, 3, 6, 7, 1, 9, 4]) ?_))
  refine G (q_bla (fkC (out := i64s [7, 9, 3, 1, 13, 12, 11, 14, 2, 6, 5, 10, 4, 0, 15, 8]) ?_))
  refine G (q_bla (fkC (out := i64s [9, 0, 5, 7, 2, 4, 10, 15, 14, 1, 11, 12, 6, 8, 3, 13]) ?_))
  refine G (q_bla (fkC (out := i64s [2, 12, 6, 10, 0, 11, 8, 3, 4, 13, 7, 5, 15, 14, 1, 9]) ?_))
  refine G (q_bla (fkC (out := i64s [12, 5, 1, 15, 14, 13, 4, 10, 0, 7, 6, 3, 9, 2, 8, 11]) ?_))
  refine G (q_bla (fkC (out := i64s [13, 11, 7, 14, 12, 1, 3, 9, 5, 0, 15, 4, 8, 6, 2, 10]) ?_))
  refine G (q_bla (fkC (out := i64s [6, 15, 14, 9, 11, 3, 0, 8, 12, 2, 13, 7, 1, 4, 10, 5]) ?_))
  refine G (q_bla (fkC (out := i64s [10, 2, 8, 4, 7, 6, 1, 5, 15, 11, 9, 14, 3, 12, 13, 0]) ?_))
  refine G (q_bla (fka rfl (et rfl) (by first | exact (mapc_length ..).trans (by with_reducible assumption) | decide +kernel | decide) (by first | decide +kernel | decide) (fka rfl (et rfl) (by first | exact (mapc_length ..).trans (by with_reducible assumption) | decide +kernel | decide) (by first | decide +kernel | decide) (fka rfl (et rfl) (by first | exact (mapc_length ..).trans (by with_reducible assumption) | decide +kernel | decide) (by first | decide +kernel | decide) (fka rfl (et rfl) (by first | exact (mapc_length ..).trans (by with_reducible assumption) | decide +kernel | decide) (by first | decide +kernel | decide) (fka rfl (et rfl) (by first | exact (mapc_length ..).trans (by with_reducible assumption) | decide +kernel | decide) (by first | decide +kernel | decide) (fka rfl (et rfl) (by first | exact (mapc_length ..).trans (by with_reducible assumption) | decide +kernel | decide) (by first | decide +kernel | decide) (fka rfl (et rfl) (by first | exact (mapc_length ..).trans (by with_reducible assumption) | decide +kernel | decide) (by first | decide +kernel | decide) (fka rfl (et rfl) (by first | exact (mapc_length ..).trans (by with_reducible assumption) | decide +kernel | decide) (by first | decide +kernel | decide) (fka rfl (et rfl) (by first | exact (mapc_length ..).trans (by with_reducible assumption) | decide +kernel | decide) (by first | decide +kernel | decide) (fka rfl (et rfl) (by first | exact (mapc_length ..).trans (by with_reducible assumption) | decide +kernel | decide) (by first | decide +kernel | decide) (fk0 ?_))))))))))))
  refine G0 (q_stw  ?_ (hl := by kernel_rfl) (hc := by kernel_rfl))
  refine gend ?_
  refine awp_ret ?_
  exact fpc (t := 98) (a := 0) (hn := by kernel_rfl) (hv := by kernel_rfl)
end Go.Proofs.Ytlnepajgnckolaa.Bl

/- What functions of the program do, walked over the abstract machine. -/
namespace Go.Proofs.Ytlnepajgnckolaa.Bl
open Go Go.Abs Go.Proofs

set_option maxRecDepth 20000
end Go.Proofs.Ytlnepajgnckolaa.Bl

/- What functions of the program do, walked over the abstract machine. -/
namespace Go.Proofs.Ytlnepajgnckolaa.Bl
open Go Go.Abs Go.Proofs

set_option maxRecDepth 20000
abbrev fst8 : List UInt32 := (stt 18).2
def sp {α : Type} (a b : List α) (q : Nat) : List α := a.take q ++ (b ++ a.drop (q + b.length))
theorem splice_cpy {α : Type} {k : IntKind} {g : α → Int} {a b : List α} {q j c d : Nat} : splice (mapc k g a) q ((((mapc k g b).drop c).take d).take j) = mapc k g (sp a (((b.drop c).take d).take j) q) := by
  simp [mapc, splice, sp]
/-- A block: bytes, and noughts behind them. -/
abbrev blk (m : List UInt8) (q k : Nat) : List UInt8 := sp (List.replicate 64 0) (((m.drop q).take (k * 1)).take (min k 64 * 1)) 0
theorem blk_len (m : List UInt8) (q k : Nat) (hk : k ≤ 64) : (blk m q k).length = 64 := by
  simp [blk, sp]
  omega
theorem slc_eq {b q q' n n' z : Nat} (h : q = q') (h' : n = n') : sc (.slc b q n z) = sc (.slc b q' n' z) := by rw [h, h']
def hac (F : List UInt32) (m : List UInt8) : Nat → List UInt32
  | 0 => F.set 0 (F.getD 0 0 ^^^ 16842784)
  | j + 1 => press (hac F m j) F (blk m (min (64 * j) m.length) (min 64 (m.length - min (64 * j) m.length))) (UInt64.ofNat (min (64 * (j + 1)) m.length))
      (decide (m.length - min (64 * j) m.length - min 64 (m.length - min (64 * j) m.length) = 0))
def outw (h : List UInt32) : Nat → List UInt8
  | 0 => List.replicate 32 0
  | i + 1 => (outw h i).set i (shr32n (h.getD (i / 4) 0) (8 * (i % 4))).toUInt8
def bsum (m : List UInt8) : List UInt8 := outw (hac fst8 m ((m.length + 63) / 64 - 1 + 1)) 32
end Go.Proofs.Ytlnepajgnckolaa.Bl

/- What functions of the program do, walked over the abstract machine. -/
namespace Go.Proofs.Ytlnepajgnckolaa.Bl
open Go Go.Abs Go.Proofs

set_option maxRecDepth 20000
theorem take0_m {l : List UInt8} {c : Nat} : ((u8s l).drop (0 * 1)).take (c * 1) = u8s (l.take c) := by rw [Nat.mul_one, Nat.mul_one, cut_m]; rfl
theorem drop_m {l : List UInt8} {c n : Nat} (h : l.length = n) : ((u8s l).drop (c * 1)).take ((n - c) * 1) = u8s (l.drop c) := by
  rw [Nat.mul_one, Nat.mul_one, cut_m, List.take_of_length_le (by rw [List.length_drop]; omega)]
/-- A key, as the mac has it: its hash when it is long; noughts behind it. -/
def kcut (key : List UInt8) : List UInt8 := if 64 < key.length then bsum key else key
def kpad (key : List UInt8) : List UInt8 := kcut key ++ List.replicate (64 - (kcut key).length) 0
def xall (v : UInt8) (l : List UInt8) : List UInt8 := l.map (fun b => b ^^^ v)
def hmac (key m : List UInt8) : List UInt8 := bsum (xall 92 (kpad key) ++ bsum (xall 54 (kpad key) ++ m))
/-- Byte by byte. -/
def xst (l : List UInt8) (v : UInt8) : Nat → List UInt8
  | 0 => l
  | i + 1 => (xst l v i).set i ((xst l v i).getD i 0 ^^^ v)
end Go.Proofs.Ytlnepajgnckolaa.Bl

/- What functions of the program do, walked over the abstract machine. -/
namespace Go.Proofs.Ytlnepajgnckolaa.Bl
open Go Go.Abs Go.Proofs

set_option maxRecDepth 20000
/-- The reference's root: the whole part of the prime's, and the bits behind it. -/
def primes : List UInt64 := [2, 3, 5, 7, 11, 13, 17, 19]
def whole (i : Nat) : Nat := [1, 1, 2, 2, 3, 3, 4, 4].getD i 0
def frac (w r : UInt64) : Nat → UInt64
  | 0 => 0
  | j + 1 =>
    let g := frac w r j + shl64n 1 (UInt64.ofNat (31 - j)).toNat
    if 2 * w * g + shr64n (g * g) (UInt64.toNat 32) < shl64n r (UInt64.toNat 32) ∨ (2 * w * g + shr64n (g * g) (UInt64.toNat 32) = shl64n r (UInt64.toNat 32) ∧ g * g % 4294967296 = 0) then g else frac w r j
def rstart (i : Nat) : UInt32 := (frac (UInt64.ofNat (whole i)) (primes.getD i 0 - UInt64.ofNat (whole i) * UInt64.ofNat (whole i)) 32).toUInt32
def row (k : Nat) : List Int := (ordz.drop (16 * k)).take 16
end Go.Proofs.Ytlnepajgnckolaa.Bl

/- What functions of the program do, walked over the abstract machine. -/
namespace Go.Proofs.Ytlnepajgnckolaa.Bl
open Go Go.Abs Go.Proofs

set_option maxRecDepth 20000
def rorn (x : UInt32) (n : UInt64) : UInt32 := shr32n x n.toNat ||| shl32n x (32 - n).toNat
def RC : List Cell := [.slc 0 0 16 1, .slc 1 0 16 1, .slc 2 0 16 1, .slc 3 0 16 1, .slc 4 0 16 1, .slc 5 0 16 1, .slc 6 0 16 1, .slc 7 0 16 1, .slc 8 0 16 1, .slc 9 0 16 1]
end Go.Proofs.Ytlnepajgnckolaa.Bl

/- What functions of the program do, walked over the abstract machine. -/
namespace Go.Proofs.Ytlnepajgnckolaa.Bl
open Go Go.Abs Go.Proofs

set_option maxRecDepth 20000
abbrev RC3 : List Cell := [.slc 3 0 16 1, .slc 4 0 16 1, .slc 5 0 16 1, .slc 6 0 16 1, .slc 7 0 16 1, .slc 8 0 16 1, .slc 9 0 16 1, .slc 10 0 16 1, .slc 11 0 16 1, .slc 12 0 16 1]
abbrev CC : List Cell := [.slc 14 0 4 1, .slc 15 0 4 1, .slc 16 0 4 1, .slc 17 0 4 1, .slc 18 0 4 1, .slc 19 0 4 1, .slc 20 0 4 1, .slc 21 0 4 1]
abbrev colz (i : Nat) : List Cell := [cn (i % 4), cn (4 + (i + i / 4) % 4), cn (8 + (i + 2 * (i / 4)) % 4), cn (12 + (i + 3 * (i / 4)) % 4)]
abbrev RP (a b c : List Cell) (T : Heap) : Heap := some a :: some b :: some c :: some (i64s (row 0)) :: some (i64s (row 1)) :: some (i64s (row 2)) :: some (i64s (row 3)) :: some (i64s (row 4)) :: some (i64s (row 5)) :: some (i64s (row 6)) :: some (i64s (row 7)) :: some (i64s (row 8)) :: some (i64s (row 9)) :: some RC3 ::
  some (colz 0) :: some (colz 1) :: some (colz 2) :: some (colz 3) :: some (colz 4) :: some (colz 5) :: some (colz 6) :: some (colz 7) :: some CC :: T
def fl8 (F : List UInt32) : Nat → List UInt32
  | 0 => List.replicate 8 0
  | k + 1 => (fl8 F k).set k (F.getD k 0)
def bat (m : List UInt8) (q : Nat) : UInt32 := if q < m.length then (m.getD q 0).toUInt32 else 0
def rwd (m : List UInt8) (j : Nat) : Nat → List UInt32
  | 0 => List.replicate 16 0
  | k + 1 => (rwd m j k).set ((63 - k) / 4) ((rwd m j k).getD ((63 - k) / 4) 0 * 256 + bat m (64 * j + (63 - k)))
def rv5 (h F : List UInt32) : Nat → List UInt32
  | 0 => List.replicate 16 0
  | k + 1 => ((rv5 h F k).set k (h.getD k 0)).set (8 + k) (F.getD k 0)
def rT (n j N : Nat) : UInt64 := if j = N - 1 then UInt64.ofNat n else UInt64.ofNat (64 * j + 64)
def rv6 (h F : List UInt32) (j N : Nat) : List UInt32 := if j = N - 1 then (rv5 h F 8).set 14 (~~~ (rv5 h F 8).getD 14 0) else rv5 h F 8
def rv7 (h F : List UInt32) (n j N : Nat) : List UInt32 :=
  ((rv6 h F j N).set 12 ((rv6 h F j N).getD 12 0 ^^^ (rT n j N).toUInt32)).set 13 (((rv6 h F j N).set 12 ((rv6 h F j N).getD 12 0 ^^^ (rT n j N).toUInt32)).getD 13 0 ^^^ (shr64n (rT n j N) (UInt64.toNat 32)).toUInt32)
def rhx (h v : List UInt32) : Nat → List UInt32
  | 0 => h
  | i + 1 => (rhx h v i).set i ((rhx h v i).getD i 0 ^^^ v.getD i 0 ^^^ v.getD (8 + i) 0)
def rhc (F : List UInt32) (m : List UInt8) (N : Nat) : Nat → List UInt32
  | 0 => F.set 0 (F.getD 0 0 ^^^ 16842784)
  | j + 1 => rhx (rhc F m N j) (rnds (rwd m j 64) (rv7 (rhc F m N j) F m.length j N) 10) 8
def rout (h : List UInt32) : Nat → List UInt8
  | 0 => List.replicate 32 0
  | i + 1 => (rout h i).set i (shr32n (h.getD (i / 4) 0) (UInt64.ofNat (8 * (i % 4))).toNat).toUInt8
def nbl (n : Nat) : Nat := if (n + 63) / 64 = 0 then 1 else (n + 63) / 64
def rfst : List UInt32 := fl8 fst8 8
def rsum (m : List UInt8) : List UInt8 := rout (rhc rfst m (nbl m.length) (nbl m.length)) 32
end Go.Proofs.Ytlnepajgnckolaa.Bl

/- What functions of the program do, walked over the abstract machine. -/
namespace Go.Proofs.Ytlnepajgnckolaa.Bl
open Go Go.Abs Go.Proofs

set_option maxRecDepth 20000
theorem shl_nat (x : UInt32) (n : Nat) (hn : n < 32) (h : x.toNat * 2 ^ n < 2 ^ 32) : (shl32n x n).toNat = 2 ^ n * x.toNat := by
  unfold shl32n
  rw [if_pos hn, UInt32.toNat_shiftLeft, UInt32.toNat_ofNat', Nat.mod_eq_of_lt (show n < 2 ^ 32 by omega), Nat.mod_eq_of_lt hn, Nat.shiftLeft_eq, Nat.mod_eq_of_lt h, Nat.mul_comm]
/-- A word of four bytes, put together as the program does, and as the reference does. -/
def wl (a b c d : UInt8) : UInt32 := (((0 ||| shl32n a.toUInt32 0) ||| shl32n b.toUInt32 8) ||| shl32n c.toUInt32 16) ||| shl32n d.toUInt32 24
def wh (a b c d : UInt32) : UInt32 := (((0 * 256 + d) * 256 + c) * 256 + b) * 256 + a
def gb (l : List UInt8) (i : Nat) : UInt8 := l.getD i 0
end Go.Proofs.Ytlnepajgnckolaa.Bl

/- What functions of the program do, walked over the abstract machine. -/
namespace Go.Proofs.Ytlnepajgnckolaa.Bl
open Go Go.Abs Go.Proofs

set_option maxRecDepth 20000
theorem app_cut {a b : List UInt8} {p q : Nat} (ha : a.length = p) (hb : b.length = q) : ((u8s a ++ u8s b).drop 0).take ((p + q) * 1) = u8s (a ++ b) := by
  rw [mapc_append]; exact cut_h (by rw [List.length_append, ha, hb])
end Go.Proofs.Ytlnepajgnckolaa.Bl

/- What functions of the program do, walked over the abstract machine. -/
namespace Go.Proofs.Ytlnepajgnckolaa.Bl
open Go Go.Abs Go.Proofs

set_option maxRecDepth 20000
def h3t (c m : List UInt8) : List UInt8 := hmac c m
def h3x (c m : List UInt8) : List UInt8 := hmac (hmac c m) [1]
def h3y (c m : List UInt8) : List UInt8 := hmac (hmac c m) (h3x c m ++ [2])
def h3z (c m : List UInt8) : List UInt8 := hmac (hmac c m) (h3y c m ++ [3])
end Go.Proofs.Ytlnepajgnckolaa.Bl

/- What functions of the program do, walked over the abstract machine. -/
namespace Go.Proofs.Ytlnepajgnckolaa.Bl
open Go Go.Abs Go.Proofs

set_option maxRecDepth 20000
/-- Output by output. -/
def lastb (t : List UInt8) : Nat → List UInt8
  | 0 => []
  | i + 1 => hmac t (lastb t i ++ [UInt8.ofNat (i + 1)])
def allb (t : List UInt8) : Nat → List UInt8
  | 0 => []
  | i + 1 => allb t i ++ lastb t (i + 1)
end Go.Proofs.Ytlnepajgnckolaa.Bl

/- What functions of the program do, walked over the abstract machine. -/
namespace Go.Proofs.Ytlnepajgnckolaa
open Go Go.Abs Go.Proofs Go.Proofs.Ytlnepajgnckolaa.Ch Go.Proofs.Ytlnepajgnckolaa.Po Go.Proofs.Ytlnepajgnckolaa.Ae Go.Proofs.Ytlnepajgnckolaa.Bl

set_option maxRecDepth 20000
/-- A cipher's cells. -/
abbrev cC (kp : Cell) (n : UInt64) : List Cell := [kp, c64 n, .bool true]
def anext (key : List UInt8) : List UInt8 := (aseal key (anonce 18446744073709551615) [] (List.replicate 32 0)).take 32
theorem keyE {key : List UInt8} (hk : key.length = 32) : (u8s key).isEmpty = false := by
  cases key with
  | nil => simp at hk
  | cons a l => rfl
theorem sees_key {H : Heap} {key : List UInt8} {p q d : Nat} {n : UInt64} {π : List Nat} (hp : idx p π = none) (hq : idx q π = none) (hk : key.length = 32) (hC : H[q]? = some (some (cC (.ptr p 0) n))) (hK : H[p]? = some (some (u8s key))) : cm (cin π true H) (d + 2) (.ptr q 0) = .rop [.rop (u8s key), c64 n, .bool true] := by
  have he : (cC (.ptr p 0) n).isEmpty = false := rfl
  simp only [cm, cin, hp, hq, joinH, hK, hC, if_true, he, keyE hk, Bool.false_eq_true, if_false, List.drop_zero, List.map_cons, List.map_nil]
  rw [mapc_cm]
theorem piB {π : List Nat} {n : Nat} (h : ((List.range n).all fun p => π[p]? == some p) = true) : ∀ p, p < n → π[p]? = some p := fun p hp => by
  simpa using List.all_eq_true.1 h p (List.mem_range.2 hp)
/-- cipher.New -/
theorem new_ (key : List UInt8) (hk : key.length = 32) : Good Try.prog 11 [.a (u8s key)] [] (sc (.ptr 1 0)) [some (u8s key), some (cC (.ptr 0 0) 0)] := by
  refine good_frm 5 Try.func11 rfl rfl rfl rfl rfl rfl ?_
  refine awp_seq ?_
  refine rln ?_
  refine G2 (fun _ k_ => q_boxa k_) ?_
  refine As ?_
  refine gend ?_
  refine awp_seq ?_
  refine rln ?_
  refine G (q_bls (fkc rfl (et rfl) rfl (Nat.le_of_ble_eq_true rfl) (fkc rfl rfl rfl (Nat.le_of_ble_eq_true rfl) (fk0 ?_))))
  refine G2 (fun _ k_ => q_boxa k_) ?_
  refine As ?_
  refine gend ?_
  refine awp_ret ?_
  exact fx1 [0, 1] (hm0 := rfl) (hH := pl1 rfl sees_m (pl1 rfl rfl pl0))
/-- (*cipher.Cipher).ready -/
theorem ready_ok (kc : List Cell) (n : UInt64) (h : n ≠ 18446744073709551615) : Good Try.prog 37 [.c (.rop [.rop kc, c64 n, .bool true])] [] (sc (cn 0)) [] := by
  refine good_frm 26 Try.func37 rfl rfl rfl rfl rfl rfl ?_
  refine awp_seq ?_
  refine rln ?_
  refine G (q_as (s := sc (cn 0)) ?_)
  refine gend ?_
  refine awp_seq ?_
  refine awp_block ?_
  refine awp_seq ?_
  refine rln ?_
  refine Mv ?_
  refine G (q_eqlp ?_)
  refine Mv ?_
  refine Gg (q_mv (s := .v (.c _)) ?_)
  refine Gg (q_ncr ?_)
  refine Gg (q_far ?_)
  refine Gg (q_ldr ?_)
  refine Gg (q_notb ?_)
  refine G (q_pkf ?_)
  refine As ?_
  refine gend ?_
  refine cndbnN (fun hc1 => ?_) ?_; rotate_left
  · exact rfl
  refine awp_seq ?_
  refine rln ?_
  refine Mv ?_
  refine G (q_ncr ?_)
  refine G (q_far ?_)
  refine G (q_ldr ?_)
  refine G (q_neqp ?_)
  refine Mv ?_
  refine Akn 19 (fun hb6 => ?_) ?_; rotate_left
  · exact rfl
  refine Gg (q_mv (s := .v (.c _)) ?_)
  refine Gg (q_ncr ?_)
  refine Gg (q_far ?_)
  refine Gg (q_ldr ?_)
  refine Gg (q_eql64 (y := 18446744073709551615) ?_)
  refine G (q_pkt ?_)
  refine As ?_
  refine gend ?_
  refine cndN (fun hc2 => ?_) ?_; rotate_left
  · exact h
  refine awp_skip ?_
  refine awp_seq ?_
  refine rln ?_
  refine G (q_as (s := sc (cn 0)) ?_)
  refine gend ?_
  refine awp_ret ?_
  exact fp1
/-- (*cipher.Cipher).N -/
theorem n_ (kc : Cell) (n : UInt64) (r : List Cell) : Good Try.prog 19 [.c (.rop (kc :: c64 n :: r))] [] (sc (c64 n)) [] := by
  refine good_frm 9 Try.func19 rfl rfl rfl rfl rfl rfl ?_
  refine awp_seq ?_
  refine rln ?_
  refine G (q_as (s := sc (c64 0)) ?_)
  refine gend ?_
  refine awp_seq ?_
  refine awp_seq ?_
  refine rln ?_
  refine Mv ?_
  refine G (q_eqlp ?_)
  refine gend ?_
  refine cndF ?_
  refine awp_skip ?_
  refine awp_seq ?_
  refine rln ?_
  refine Mv ?_
  refine G (q_ncr ?_)
  refine G (q_far ?_)
  refine G (q_ldr ?_)
  refine As ?_
  refine gend ?_
  refine awp_ret ?_
  exact fp1
end Go.Proofs.Ytlnepajgnckolaa

/- What functions of the program do, walked over the abstract machine. -/
namespace Go.Proofs.Ytlnepajgnckolaa
open Go Go.Abs Go.Proofs Go.Proofs.Ytlnepajgnckolaa.Ch Go.Proofs.Ytlnepajgnckolaa.Po Go.Proofs.Ytlnepajgnckolaa.Ae Go.Proofs.Ytlnepajgnckolaa.Bl

set_option maxRecDepth 20000
set_option maxHeartbeats 1600000 in
/-- (*cipher.Cipher).Seal -/
theorem cseal_ok (key ad l : List UInt8) (n : UInt64) (a k : Nat) (hkey : key.length = 32) (had : ad.length = a) (ha9 : a ≤ 10000) (hl : l.length = k) (hk9 : k ≤ 10000) (h : n ≠ 18446744073709551615) : Good Try.prog 12 [.c (.ptr 0 0), .c (.ro a (u8s ad)), .c (.ro k (u8s l))] [some (cC (.ptr 1 0) n), some (u8s key)] (.t [.c (.slc 2 0 (k + 16) 1), .c (cn 0)]) [some (cC (.ptr 1 0) (n + 1)), some (u8s key), some (u8s (aseal key (anonce n) ad l))] := by
  have g1 := ready_ok (u8s key) n h
  have hNl := anonce_len n
  have g2 := nonce_ n
  obtain ⟨N, hN⟩ : ∃ z, anonce n = z := ⟨_, rfl⟩
  rw [hN] at hNl g2
  rw [hN]
  have g3 := seal_ key N ad l a k hkey hNl had ha9 hl hk9
  have hn1 : n + 1 - 1 = n := UInt64.add_sub_cancel ..
  have g2' : Good Try.prog 40 [.c (c64 (n + 1 - 1))] [] (sa (u8s N)) [] := by rw [hn1]; exact g2
  refine good_frm 43 Try.func12 rfl rfl rfl rfl rfl rfl ?_
  refine awp_seq ?_
  refine rln ?_
  refine As ?_
  refine G (q_as (s := sc (cn 0)) ?_)
  refine gend ?_
  refine awp_seq ?_
  refine awp_seq ?_
  refine rln ?_
  refine Mv ?_
  refine G2 (fun _ k_ => q_callp g1 k_ (ha := (cac (et rfl) (sees_key rfl rfl hkey rfl rfl) ca0))) ?_
  refine As ?_
  refine gend ?_
  refine awp_seq ?_
  refine rln ?_
  refine Mv ?_
  refine G (q_neqn (y := 0) ?_)
  refine gend ?_
  refine cndN (fun hc1 => ?_) ?_; rotate_left
  · exact fun h => h rfl
  refine awp_skip ?_
  refine awp_seq ?_
  refine awp_seq ?_
  refine rln ?_
  refine Mv ?_
  refine G (q_ncp ?_)
  refine G (q_fap0 ?_)
  refine G (q_ldp ?_)
  refine G (q_eqlp ?_)
  refine gend ?_
  refine cndF ?_
  refine awp_skip ?_
  refine awp_seq ?_
  refine rln ?_
  refine Mv ?_
  refine G (q_ncp ?_)
  refine G (q_fap0 ?_)
  refine G (q_ldp ?_)
  refine G (q_add64 (y := 1) ?_)
  refine G (q_ncp ?_)
  refine G (q_fap0 ?_)
  refine G20 (fun _ k_ => q_st k_) ?_
  refine gend ?_
  refine awp_seq ?_
  refine rdln [14] [0, 0, 0, 0, 0, 0, 0, 0, 0, 0, 0, 0, 0, 0, 0, 1, 1] [0, 0, 0, 0, 0, 0, 0, 0, 0, 0, 0, 0, 0, 0, 1, 1, 1] ?_
  refine Dp (fun _ => q_mv (s := .v (.c _)) ⟨rfl, rfl⟩) ?_
  refine Dp (fun _ => q_ncp ⟨rfl, rfl⟩) ?_
  refine Dp (fun _ => q_fap0 ⟨rfl, rfl⟩) ?_
  refine DLp ?_
  refine Dp (fun _ => q_ncp ⟨rfl, rfl⟩) ?_
  refine DLw ?_
  refine Dp (fun _ => q_mv (s := .v (.c _)) ⟨rfl, rfl⟩) ?_
  refine Dp (fun _ => q_ncp ⟨rfl, rfl⟩) ?_
  refine Dp (fun _ => q_fap0 ⟨rfl, rfl⟩) ?_
  refine DLp ?_
  refine Dp (fun _ => q_sub64 (y := 1) ⟨rfl, rfl⟩) ?_
  refine Dp (fun _ => q_callp g2' ⟨rfl, rfl⟩ (ha := (cac (et rfl) cm_int ca0))) ?_
  refine Dp (fun _ => q_mv (s := .v (.c _)) ⟨rfl, rfl⟩) ?_
  refine Dp (fun _ => q_mv (s := .v (.c _)) ⟨rfl, rfl⟩) ?_
  refine De2 (fun _ k_ => q_calln g3 k_ (ha := (caa (et rfl) sees_m (caa (et rfl) sees_m (cac (et rfl) sees_ro (cac (et rfl) sees_ro ca0)))))) ?_
  refine Dp (fun _ => q_as (s := .v (.c _)) ⟨rfl, rfl⟩) ?_
  refine Dp (fun _ => q_as (s := sc (cn 0)) ⟨rfl, rfl⟩) ?_
  refine dend ?_
  refine awp_ret ?_
  exact fx2 [0, 1, 2] (hm0 := rfl) (hH := pl1 rfl rfl (pl1 rfl sees_m (pl1 rfl sees_m pl0))) (hn := piB rfl)
set_option maxHeartbeats 1600000 in
/-- (*cipher.Cipher).Open -/
theorem copen_ok (key ad l : List UInt8) (n : UInt64) (a k : Nat) (hkey : key.length = 32) (had : ad.length = a) (ha9 : a ≤ 10000) (hl : l.length = k) (hk9 : k ≤ 10000) (h : n ≠ 18446744073709551615) (p : List UInt8) (hp : aopen key (anonce n) ad l = some p) : Good Try.prog 14 [.c (.ptr 0 0), .c (.ro a (u8s ad)), .c (.ro k (u8s l))] [some (cC (.ptr 1 0) n), some (u8s key)] (.t [.c (.slc 2 0 (k - 16) 1), .c (cn 0)]) [some (cC (.ptr 1 0) (n + 1)), some (u8s key), some (u8s p)] := by
  have g1 := ready_ok (u8s key) n h
  have hNl := anonce_len n
  have g2 := nonce_ n
  obtain ⟨N, hN⟩ : ∃ z, anonce n = z := ⟨_, rfl⟩
  rw [hN] at hNl g2
  rw [hN] at hp
  have g3 := open_some key N ad l a k hkey hNl had ha9 hl hk9 p hp
  refine good_frm 51 Try.func14 rfl rfl rfl rfl rfl rfl ?_
  refine awp_seq ?_
  refine rln ?_
  refine As ?_
  refine G (q_as (s := sc (cn 0)) ?_)
  refine gend ?_
  refine awp_seq ?_
  refine awp_seq ?_
  refine rln ?_
  refine Mv ?_
  refine G2 (fun _ k_ => q_callp g1 k_ (ha := (cac (et rfl) (sees_key rfl rfl hkey rfl rfl) ca0))) ?_
  refine As ?_
  refine gend ?_
  refine awp_seq ?_
  refine rln ?_
  refine Mv ?_
  refine G (q_neqn (y := 0) ?_)
  refine gend ?_
  refine cndN (fun hc1 => ?_) ?_; rotate_left
  · exact fun h => h rfl
  refine awp_skip ?_
  refine awp_seq ?_
  refine awp_seq ?_
  refine rln ?_
  refine Mv ?_
  refine G (q_ncp ?_)
  refine G (q_fap0 ?_)
  refine G (q_ldp ?_)
  refine G (q_eqlp ?_)
  refine gend ?_
  refine cndF ?_
  refine awp_skip ?_
  refine awp_seq ?_
  refine rdln [13] [0, 0, 0, 0, 0, 0, 0, 0, 0, 0, 0, 0, 0, 0, 1, 1, 1, 1, 1] [0, 0, 0, 0, 0, 0, 0, 0, 0, 0, 0, 0, 0, 1, 1, 1, 1, 1, 1] ?_
  refine Dp (fun _ => q_mv (s := .v (.c _)) ⟨rfl, rfl⟩) ?_
  refine Dp (fun _ => q_ncp ⟨rfl, rfl⟩) ?_
  refine Dp (fun _ => q_fap0 ⟨rfl, rfl⟩) ?_
  refine DLp ?_
  refine Dp (fun _ => q_ncp ⟨rfl, rfl⟩) ?_
  refine DLw ?_
  refine Dp (fun _ => q_mv (s := .v (.c _)) ⟨rfl, rfl⟩) ?_
  refine Dp (fun _ => q_ncp ⟨rfl, rfl⟩) ?_
  refine Dp (fun _ => q_fap0 ⟨rfl, rfl⟩) ?_
  refine DLp ?_
  refine Dp (fun _ => q_callp g2 ⟨rfl, rfl⟩ (ha := (cac (et rfl) cm_int ca0))) ?_
  refine Dp (fun _ => q_mv (s := .v (.c _)) ⟨rfl, rfl⟩) ?_
  refine Dp (fun _ => q_mv (s := .v (.c _)) ⟨rfl, rfl⟩) ?_
  refine De2 (fun _ k_ => q_calln g3 k_ (ha := (caa (et rfl) sees_m (caa (et rfl) sees_m (cac (et rfl) sees_ro (cac (et rfl) sees_ro ca0)))))) ?_
  refine Dp (fun _ => q_mv (s := .t _) ⟨rfl, rfl⟩) ?_
  refine Dp (fun _ => q_ext (y := .c _) ⟨rfl, rfl⟩) ?_
  refine Dp (fun _ => q_ext (y := .c _) ⟨rfl, rfl⟩) ?_
  refine Dp (fun _ => q_as (s := .v (.c _)) ⟨rfl, rfl⟩) ?_
  refine Dp (fun _ => q_as (s := .v (.c _)) ⟨rfl, rfl⟩) ?_
  refine dend ?_
  refine awp_seq ?_
  refine awp_seq ?_
  refine rln ?_
  refine Mv ?_
  refine G (q_eqln (y := 0) ?_)
  refine gend ?_
  refine cndY (fun hc2 => ?_) ?_; rotate_left
  · exact rfl
  refine rln ?_
  refine Mv ?_
  refine G (q_ncp ?_)
  refine G (q_fap0 ?_)
  refine G (q_ldp ?_)
  refine G (q_add64 (y := 1) ?_)
  refine G (q_ncp ?_)
  refine G (q_fap0 ?_)
  refine G20 (fun _ k_ => q_st k_) ?_
  refine gend ?_
  refine awp_seq ?_
  refine rln ?_
  refine Mv ?_
  refine Mv ?_
  refine As ?_
  refine As ?_
  refine gend ?_
  refine awp_ret ?_
  exact fx2 [0, 1, 2] (hm0 := rfl) (hH := pl1 rfl rfl (pl1 rfl sees_m (pl1 rfl sees_m pl0))) (hn := piB rfl)
end Go.Proofs.Ytlnepajgnckolaa

/- What functions of the program do, walked over the abstract machine. -/
namespace Go.Proofs.Ytlnepajgnckolaa
open Go Go.Abs Go.Proofs Go.Proofs.Ytlnepajgnckolaa.Ch Go.Proofs.Ytlnepajgnckolaa.Po Go.Proofs.Ytlnepajgnckolaa.Ae Go.Proofs.Ytlnepajgnckolaa.Bl

set_option maxRecDepth 20000
/-- A state's cells. -/
abbrev sC (cp : Cell) (h ck : List UInt8) : List Cell := cp :: (u8s h ++ u8s ck)
/-- (*cipher.State).is -/
theorem is_ (c r : List Cell) : Good Try.prog 46 [.c (.rop (.rop c :: r))] [] (sc (.bool true)) [] := by
  refine good_frm 12 Try.func46 rfl rfl rfl rfl rfl rfl ?_
  refine awp_seq ?_
  refine rln ?_
  refine As ?_
  refine gend ?_
  refine awp_seq ?_
  refine rln ?_
  refine Mv ?_
  refine G (q_neqp ?_)
  refine Mv ?_
  refine Gg (q_mv (s := .v (.c _)) ?_)
  refine Gg (q_ncr ?_)
  refine Gg (q_far ?_)
  refine Gg (q_ldr ?_)
  refine Gg (q_neqp ?_)
  refine G (q_pkt ?_)
  refine As ?_
  refine gend ?_
  refine awp_ret ?_
  exact fp1
end Go.Proofs.Ytlnepajgnckolaa

/- What functions of the program do, walked over the abstract machine. -/
namespace Go.Proofs.Ytlnepajgnckolaa
open Go Go.Abs Go.Proofs Go.Proofs.Ytlnepajgnckolaa.Ch Go.Proofs.Ytlnepajgnckolaa.Po Go.Proofs.Ytlnepajgnckolaa.Ae Go.Proofs.Ytlnepajgnckolaa.Bl

set_option maxRecDepth 20000
theorem key1 {K : List UInt8} (h : (1 :: List.replicate 31 0 : List UInt8) = K) {m : CM} {d : Nat} : ((u8s (List.replicate 32 0)).set (0 * 1) (c8 1)).map (cm m d) = u8s K := by
  subst h; exact sees_m (l := 1 :: List.replicate 31 0)
set_option maxHeartbeats 1600000 in
/-- escutcheonlaw16.known -/
theorem known_ : Good Try.prog 9 [] [] (sc (.bool true)) [] := by
  obtain ⟨K, hK⟩ : ∃ z, (1 :: List.replicate 31 0 : List UInt8) = z := ⟨_, rfl⟩
  have hKl : K.length = 32 := by rw [← hK]; rfl
  have gn := new_ K hKl
  have xl := aseal_len K (anonce 0) [] [5]
  have xo := aopen_aseal K (anonce 0) [] [5]
  have gx := cseal_ok K [] [5] 0 0 1 hKl rfl (by decide) rfl (by decide) (by decide)
  have hnx := anonce_len 0
  have yl := aseal_len K (anonce (0 + 1)) [] [6]
  have yo := aopen_aseal K (anonce (0 + 1)) [] [6]
  have gy := cseal_ok K [] [6] (0 + 1) 0 1 hKl rfl (by decide) rfl (by decide) (by decide)
  have hny := anonce_len (0 + 1)
  generalize hSx : aseal K (anonce 0) [] [5] = Sx at *
  have ox := copen_ok K [] Sx 0 0 17 hKl rfl (by decide) xl (by decide) (by decide) [5] xo
  generalize hSy : aseal K (anonce (0 + 1)) [] [6] = Sy at *
  have oy := copen_ok K [] Sy (0 + 1) 0 17 hKl rfl (by decide) yl (by decide) (by decide) [6] yo
  refine good_frm 63 Try.func9 rfl rfl rfl rfl rfl rfl ?_
  refine awp_seq ?_
  refine rln ?_
  refine As ?_
  refine gend ?_
  refine awp_seq ?_
  refine rln ?_
  refine G (q_bla (fkc (c := c8 1) rfl rfl rfl (Nat.le_of_ble_eq_true rfl) (fk0 ?_)))
  refine G2 (fun _ k_ => q_callv [] [] [some (u8s K), some (cC (.ptr 0 0) 0)] gn k_ (ha := (caa (et rfl) (key1 hK) ca0)) (eM := (ml1 sees_m (ml1 rfl ml0)))) ?_
  refine G (q_bla (fkc (c := c8 1) rfl rfl rfl (Nat.le_of_ble_eq_true rfl) (fk0 ?_)))
  refine G2 (fun _ k_ => q_callv [] [] [some (u8s K), some (cC (.ptr 0 0) 0)] gn k_ (ha := (caa (et rfl) (key1 hK) ca0)) (eM := (ml1 sees_m (ml1 rfl ml0)))) ?_
  refine As ?_
  refine As ?_
  refine gend ?_
  refine awp_seq ?_
  refine rln ?_
  refine Mv ?_
  refine G2 (fun _ k_ => q_bsl (fkc (c := c8 5) rfl rfl rfl (Nat.le_of_ble_eq_true rfl) (fk0 k_))) ?_
  refine G2 (fun _ k_ => q_callv [1, 0] [some (cC (.ptr 1 0) (0 + 1)), some (u8s K)] [some (u8s Sx)] gx k_ (ha := (cac (et rfl) rfl (cac rfl sees_nil8 (cac (et rfl) (sees_slc rfl rfl rfl) ca0)))) (eL := (ml1 rfl (ml1 sees_m ml0))) (eM := (ml1 sees_m ml0))) ?_
  refine G (q_mv (s := .t _) ?_)
  refine G (q_ext (y := .c _) ?_)
  refine G (q_ext (y := .c _) ?_)
  refine As ?_
  refine As ?_
  refine gend ?_
  refine awp_seq ?_
  refine rln ?_
  refine Mv ?_
  refine G2 (fun _ k_ => q_bsl (fkc (c := c8 6) rfl rfl rfl (Nat.le_of_ble_eq_true rfl) (fk0 k_))) ?_
  refine G2 (fun _ k_ => q_callv [1, 0] [some (cC (.ptr 1 0) (0 + 1 + 1)), some (u8s K)] [some (u8s Sy)] gy k_ (ha := (cac (et rfl) rfl (cac rfl sees_nil8 (cac (et rfl) (sees_slc rfl rfl rfl) ca0)))) (eL := (ml1 rfl (ml1 sees_m ml0))) (eM := (ml1 sees_m ml0))) ?_
  refine G (q_mv (s := .t _) ?_)
  refine G (q_ext (y := .c _) ?_)
  refine G (q_ext (y := .c _) ?_)
  refine As ?_
  refine As ?_
  refine gend ?_
  refine awp_seq ?_
  refine rln ?_
  refine Mv ?_
  refine Mv ?_
  refine G2 (fun _ k_ => q_callv [3, 2] [some (cC (.ptr 1 0) (0 + 1)), some (u8s K)] [some (u8s [5])] ox k_ (ha := (cac (et rfl) rfl (cac rfl sees_nil8 (cac (et rfl) (sees_slc rfl rfl (cut_h xl)) ca0)))) (eL := (ml1 rfl (ml1 sees_m ml0))) (eM := (ml1 sees_m ml0))) ?_
  refine G (q_mv (s := .t _) ?_)
  refine G (q_ext (y := .c _) ?_)
  refine G (q_ext (y := .c _) ?_)
  refine As ?_
  refine As ?_
  refine gend ?_
  refine awp_seq ?_
  refine rln ?_
  refine Mv ?_
  refine Mv ?_
  refine G2 (fun _ k_ => q_callv [3, 2] [some (cC (.ptr 1 0) (0 + 1 + 1)), some (u8s K)] [some (u8s [6])] oy k_ (ha := (cac (et rfl) rfl (cac rfl sees_nil8 (cac (et rfl) (sees_slc rfl rfl (cut_h yl)) ca0)))) (eL := (ml1 rfl (ml1 sees_m ml0))) (eM := (ml1 sees_m ml0))) ?_
  refine G (q_mv (s := .t _) ?_)
  refine G (q_ext (y := .c _) ?_)
  refine G (q_ext (y := .c _) ?_)
  refine As ?_
  refine As ?_
  refine gend ?_
  refine awp_seq ?_
  refine rln ?_
  refine Mv ?_
  refine G (q_eqln (y := 0) ?_)
  refine Mv ?_
  refine Aknd 41 (fun hb3 => ?_) ?_; rotate_left
  · exact rfl
  refine Gg (q_mv (s := .v (.c _)) ?_)
  refine Gg (q_eqln (y := 0) ?_)
  refine G (q_pkt ?_)
  refine Mv ?_
  refine Aknd 45 (fun hb7 => ?_) ?_; rotate_left
  · exact rfl
  refine Gg (q_mv (s := .v (.c _)) ?_)
  refine Gg (q_eqln (y := 0) ?_)
  refine G (q_pkt ?_)
  refine Mv ?_
  refine Aknd 49 (fun hb11 => ?_) ?_; rotate_left
  · exact rfl
  refine Gg (q_mv (s := .v (.c _)) ?_)
  refine Gg (q_eqln (y := 0) ?_)
  refine G (q_pkt ?_)
  refine Mv ?_
  refine Aknd 53 (fun hb15 => ?_) ?_; rotate_left
  · exact rfl
  refine Gg (q_mv (s := .v (.c _)) ?_)
  refine Gg (q_csl ?_)
  refine Gg (q_eqls ?_)
  refine G (q_pkt ?_)
  refine Mv ?_
  refine Aknd 58 (fun hb20 => ?_) ?_; rotate_left
  · exact rfl
  refine Gg (q_mv (s := .v (.c _)) ?_)
  refine Gg (q_csl ?_)
  refine Gg (q_eqls ?_)
  refine G (q_pkt ?_)
  refine As ?_
  refine gend ?_
  refine awp_ret ?_
  exact fp1
end Go.Proofs.Ytlnepajgnckolaa

/- What functions of the program do, walked over the abstract machine. -/
namespace Go.Proofs.Ytlnepajgnckolaa
open Go Go.Abs Go.Proofs Go.Proofs.Ytlnepajgnckolaa.Ch Go.Proofs.Ytlnepajgnckolaa.Po Go.Proofs.Ytlnepajgnckolaa.Ae Go.Proofs.Ytlnepajgnckolaa.Bl

set_option maxRecDepth 20000
/-- A zero cipher's cells; a zero state's. -/
abbrev zC : List Cell := [.nilp, c64 0, .bool false]
abbrev zS : List Cell := .nilp :: (u8s (List.replicate 64 0))
/-- (*cipher.Cipher).ready -/
theorem ready_nil : Good Try.prog 37 [.c .nilp] [] (sc (cn 1)) [] := by
  refine good_frm 26 Try.func37 rfl rfl rfl rfl rfl rfl ?_
  refine awp_seq ?_
  refine rln ?_
  refine G (q_as (s := sc (cn 0)) ?_)
  refine gend ?_
  refine awp_seq ?_
  refine awp_block ?_
  refine awp_seq ?_
  refine rln ?_
  refine Mv ?_
  refine G (q_eqlp ?_)
  refine Mv ?_
  refine Gn ?_
  refine Gn ?_
  refine Gn ?_
  refine Gn ?_
  refine Gn ?_
  refine G (q_pkt ?_)
  refine As ?_
  refine gend ?_
  refine cndT ?_
  refine awp_seq ?_
  refine rln ?_
  refine G (q_as (s := sc (cn 1)) ?_)
  refine gend ?_
  refine awp_ret ?_
  exact fp1
/-- (*cipher.Cipher).ready -/
theorem ready_zero : Good Try.prog 37 [.c (.rop zC)] [] (sc (cn 1)) [] := by
  refine good_frm 26 Try.func37 rfl rfl rfl rfl rfl rfl ?_
  refine awp_seq ?_
  refine rln ?_
  refine G (q_as (s := sc (cn 0)) ?_)
  refine gend ?_
  refine awp_seq ?_
  refine awp_block ?_
  refine awp_seq ?_
  refine rln ?_
  refine Mv ?_
  refine G (q_eqlp ?_)
  refine Mv ?_
  refine Gg (q_mv (s := .v (.c _)) ?_)
  refine Gg (q_ncr ?_)
  refine Gg (q_far ?_)
  refine Gg (q_ldr ?_)
  refine Gg (q_notb ?_)
  refine G (q_pkf ?_)
  refine As ?_
  refine gend ?_
  refine cndbnY (fun hc1 => ?_) ?_; rotate_left
  · exact rfl
  refine awp_seq ?_
  refine rln ?_
  refine G (q_as (s := sc (cn 1)) ?_)
  refine gend ?_
  refine awp_ret ?_
  exact fp1
/-- (*cipher.Cipher).Has -/
theorem has_nil : Good Try.prog 20 [.c .nilp] [] (sc (.bool false)) [] := by
  refine good_frm 12 Try.func20 rfl rfl rfl rfl rfl rfl ?_
  refine awp_seq ?_
  refine rln ?_
  refine As ?_
  refine gend ?_
  refine awp_seq ?_
  refine rln ?_
  refine Mv ?_
  refine G (q_neqp ?_)
  refine Mv ?_
  refine Gn ?_
  refine Gn ?_
  refine Gn ?_
  refine Gn ?_
  refine Gn ?_
  refine G (q_pkf ?_)
  refine As ?_
  refine gend ?_
  refine awp_ret ?_
  exact fp1
/-- (*cipher.Cipher).Has -/
theorem has_zero : Good Try.prog 20 [.c (.rop zC)] [] (sc (.bool false)) [] := by
  refine good_frm 12 Try.func20 rfl rfl rfl rfl rfl rfl ?_
  refine awp_seq ?_
  refine rln ?_
  refine As ?_
  refine gend ?_
  refine awp_seq ?_
  refine rln ?_
  refine Mv ?_
  refine G (q_neqp ?_)
  refine Mv ?_
  refine Gg (q_mv (s := .v (.c _)) ?_)
  refine Gg (q_ncr ?_)
  refine Gg (q_far ?_)
  refine Gg (q_ldr ?_)
  refine Gg (q_neqp ?_)
  refine G (q_pkt ?_)
  refine As ?_
  refine gend ?_
  refine awp_ret ?_
  exact fp1
/-- (*cipher.Cipher).N -/
theorem n_nil : Good Try.prog 19 [.c .nilp] [] (sc (c64 0)) [] := by
  refine good_frm 9 Try.func19 rfl rfl rfl rfl rfl rfl ?_
  refine awp_seq ?_
  refine rln ?_
  refine G (q_as (s := sc (c64 0)) ?_)
  refine gend ?_
  refine awp_seq ?_
  refine awp_seq ?_
  refine rln ?_
  refine Mv ?_
  refine G (q_eqlp ?_)
  refine gend ?_
  refine cndT ?_
  refine awp_seq ?_
  refine rln ?_
  refine G (q_as (s := sc (c64 0)) ?_)
  refine gend ?_
  refine awp_ret ?_
  exact fp1
/-- (*cipher.Cipher).SetN -/
theorem setn_nil (m : UInt64) : Good Try.prog 18 [.c .nilp, .c (c64 m)] [] (.t []) [] := by
  refine good_frm 16 Try.func18 rfl rfl rfl rfl rfl rfl ?_
  refine awp_seq ?_
  refine rln ?_
  refine Mv ?_
  refine G (q_neqp ?_)
  refine Mv ?_
  refine Gn ?_
  refine Gn ?_
  refine Gn ?_
  refine Gn ?_
  refine G (q_pkf ?_)
  refine gend ?_
  refine cndF ?_
  refine awp_skip ?_
  exact fp0
/-- (*cipher.Cipher).SetN -/
theorem setn_zero (m : UInt64) : Good Try.prog 18 [.c (.ptr 0 0), .c (c64 m)] [some zC] (.t []) [some zC] := by
  refine good_frm 16 Try.func18 rfl rfl rfl rfl rfl rfl ?_
  refine awp_seq ?_
  refine rln ?_
  refine Mv ?_
  refine G (q_neqp ?_)
  refine Mv ?_
  refine Gg (q_mv (s := .v (.c _)) ?_)
  refine Gg (q_ncp ?_)
  refine Gg (q_fap0 ?_)
  refine Gg (q_ldp ?_)
  refine G (q_pkt ?_)
  refine gend ?_
  refine cndbN (fun hc1 => ?_) ?_; rotate_left
  · exact rfl
  refine awp_skip ?_
  exact fx0 [0] (hH := pl1 rfl rfl pl0)
/-- (*cipher.Cipher).Rekey -/
theorem rekey_nil : Good Try.prog 16 [.c .nilp] [] (.t []) [] := by
  refine good_frm 20 Try.func16 rfl rfl rfl rfl rfl rfl ?_
  refine awp_seq ?_
  refine rln ?_
  refine Mv ?_
  refine G2 (fun _ k_ => q_callp has_nil k_ (ha := (cac (et rfl) rfl ca0))) ?_
  refine gend ?_
  refine cndbN (fun hc1 => ?_) ?_; rotate_left
  · exact rfl
  refine awp_skip ?_
  exact fp0
/-- (*cipher.Cipher).Rekey -/
theorem rekey_zero : Good Try.prog 16 [.c (.ptr 0 0)] [some zC] (.t []) [some zC] := by
  refine good_frm 20 Try.func16 rfl rfl rfl rfl rfl rfl ?_
  refine awp_seq ?_
  refine rln ?_
  refine Mv ?_
  refine G2 (fun _ k_ => q_callp has_zero k_ (ha := (cac (et rfl) (sees_ptr rfl rfl rfl rfl) ca0))) ?_
  refine gend ?_
  refine cndbN (fun hc1 => ?_) ?_; rotate_left
  · exact rfl
  refine awp_skip ?_
  exact fx0 [0] (hH := pl1 rfl rfl pl0)
/-- (*cipher.Cipher).Copy -/
theorem copy_nil : Good Try.prog 29 [.c .nilp] [] (sc .nilp) [] := by
  refine good_frm 16 Try.func29 rfl rfl rfl rfl rfl rfl ?_
  refine awp_seq ?_
  refine rln ?_
  refine As ?_
  refine gend ?_
  refine awp_seq ?_
  refine awp_seq ?_
  refine rln ?_
  refine Mv ?_
  refine G (q_eqlp ?_)
  refine Mv ?_
  refine Gn ?_
  refine Gn ?_
  refine Gn ?_
  refine Gn ?_
  refine Gn ?_
  refine G (q_pkt ?_)
  refine gend ?_
  refine cndT ?_
  refine awp_seq ?_
  refine rln ?_
  refine As ?_
  refine gend ?_
  refine awp_ret ?_
  exact fp1
/-- (*cipher.Cipher).Copy -/
theorem copy_zero : Good Try.prog 29 [.c (.rop zC)] [] (sc .nilp) [] := by
  refine good_frm 16 Try.func29 rfl rfl rfl rfl rfl rfl ?_
  refine awp_seq ?_
  refine rln ?_
  refine As ?_
  refine gend ?_
  refine awp_seq ?_
  refine awp_seq ?_
  refine rln ?_
  refine Mv ?_
  refine G (q_eqlp ?_)
  refine Mv ?_
  refine Gg (q_mv (s := .v (.c _)) ?_)
  refine Gg (q_ncr ?_)
  refine Gg (q_far ?_)
  refine Gg (q_ldr ?_)
  refine Gg (q_notb ?_)
  refine G (q_pkf ?_)
  refine gend ?_
  refine cndbnY (fun hc1 => ?_) ?_; rotate_left
  · exact rfl
  refine awp_seq ?_
  refine rln ?_
  refine As ?_
  refine gend ?_
  refine awp_ret ?_
  exact fp1
/-- (*cipher.Cipher).Seal -/
theorem cseal_nil : Good Try.prog 12 [.c .nilp, .c (.ro 0 []), .c (.ro 0 [])] [] (.t [.c .nils, .c (cn 1)]) [] := by
  refine good_frm 43 Try.func12 rfl rfl rfl rfl rfl rfl ?_
  refine awp_seq ?_
  refine rln ?_
  refine As ?_
  refine G (q_as (s := sc (cn 0)) ?_)
  refine gend ?_
  refine awp_seq ?_
  refine awp_seq ?_
  refine rln ?_
  refine Mv ?_
  refine G2 (fun _ k_ => q_callp ready_nil k_ (ha := (cac (et rfl) rfl ca0))) ?_
  refine As ?_
  refine gend ?_
  refine awp_seq ?_
  refine rln ?_
  refine Mv ?_
  refine G (q_neqn (y := 0) ?_)
  refine gend ?_
  refine cndY (fun hc1 => ?_) ?_; rotate_left
  · exact by decide
  refine awp_seq ?_
  refine rln ?_
  refine Mv ?_
  refine As ?_
  refine As ?_
  refine gend ?_
  refine awp_ret ?_
  exact fp2
/-- (*cipher.Cipher).Seal -/
theorem cseal_zero : Good Try.prog 12 [.c (.ptr 0 0), .c (.ro 0 []), .c (.ro 0 [])] [some zC] (.t [.c .nils, .c (cn 1)]) [some zC] := by
  refine good_frm 43 Try.func12 rfl rfl rfl rfl rfl rfl ?_
  refine awp_seq ?_
  refine rln ?_
  refine As ?_
  refine G (q_as (s := sc (cn 0)) ?_)
  refine gend ?_
  refine awp_seq ?_
  refine awp_seq ?_
  refine rln ?_
  refine Mv ?_
  refine G2 (fun _ k_ => q_callp ready_zero k_ (ha := (cac (et rfl) (sees_ptr rfl rfl rfl rfl) ca0))) ?_
  refine As ?_
  refine gend ?_
  refine awp_seq ?_
  refine rln ?_
  refine Mv ?_
  refine G (q_neqn (y := 0) ?_)
  refine gend ?_
  refine cndY (fun hc1 => ?_) ?_; rotate_left
  · exact by decide
  refine awp_seq ?_
  refine rln ?_
  refine Mv ?_
  refine As ?_
  refine As ?_
  refine gend ?_
  refine awp_ret ?_
  exact fx2 [0] (hH := pl1 rfl rfl pl0)
/-- (*cipher.Cipher).Open -/
theorem copen_nil : Good Try.prog 14 [.c .nilp, .c (.ro 0 []), .c (.ro 0 [])] [] (.t [.c .nils, .c (cn 1)]) [] := by
  refine good_frm 51 Try.func14 rfl rfl rfl rfl rfl rfl ?_
  refine awp_seq ?_
  refine rln ?_
  refine As ?_
  refine G (q_as (s := sc (cn 0)) ?_)
  refine gend ?_
  refine awp_seq ?_
  refine awp_seq ?_
  refine rln ?_
  refine Mv ?_
  refine G2 (fun _ k_ => q_callp ready_nil k_ (ha := (cac (et rfl) rfl ca0))) ?_
  refine As ?_
  refine gend ?_
  refine awp_seq ?_
  refine rln ?_
  refine Mv ?_
  refine G (q_neqn (y := 0) ?_)
  refine gend ?_
  refine cndY (fun hc1 => ?_) ?_; rotate_left
  · exact by decide
  refine awp_seq ?_
  refine rln ?_
  refine Mv ?_
  refine As ?_
  refine As ?_
  refine gend ?_
  refine awp_ret ?_
  exact fp2
/-- (*cipher.Cipher).Open -/
theorem copen_zero : Good Try.prog 14 [.c (.ptr 0 0), .c (.ro 0 []), .c (.ro 0 [])] [some zC] (.t [.c .nils, .c (cn 1)]) [some zC] := by
  refine good_frm 51 Try.func14 rfl rfl rfl rfl rfl rfl ?_
  refine awp_seq ?_
  refine rln ?_
  refine As ?_
  refine G (q_as (s := sc (cn 0)) ?_)
  refine gend ?_
  refine awp_seq ?_
  refine awp_seq ?_
  refine rln ?_
  refine Mv ?_
  refine G2 (fun _ k_ => q_callp ready_zero k_ (ha := (cac (et rfl) (sees_ptr rfl rfl rfl rfl) ca0))) ?_
  refine As ?_
  refine gend ?_
  refine awp_seq ?_
  refine rln ?_
  refine Mv ?_
  refine G (q_neqn (y := 0) ?_)
  refine gend ?_
  refine cndY (fun hc1 => ?_) ?_; rotate_left
  · exact by decide
  refine awp_seq ?_
  refine rln ?_
  refine Mv ?_
  refine As ?_
  refine As ?_
  refine gend ?_
  refine awp_ret ?_
  exact fx2 [0] (hH := pl1 rfl rfl pl0)
/-- (*cipher.State).is -/
theorem is_nil : Good Try.prog 46 [.c .nilp] [] (sc (.bool false)) [] := by
  refine good_frm 12 Try.func46 rfl rfl rfl rfl rfl rfl ?_
  refine awp_seq ?_
  refine rln ?_
  refine As ?_
  refine gend ?_
  refine awp_seq ?_
  refine rln ?_
  refine Mv ?_
  refine G (q_neqp ?_)
  refine Mv ?_
  refine Gn ?_
  refine Gn ?_
  refine Gn ?_
  refine Gn ?_
  refine Gn ?_
  refine G (q_pkf ?_)
  refine As ?_
  refine gend ?_
  refine awp_ret ?_
  exact fp1
/-- (*cipher.State).is -/
theorem is_zero : Good Try.prog 46 [.c (.rop zS)] [] (sc (.bool false)) [] := by
  refine good_frm 12 Try.func46 rfl rfl rfl rfl rfl rfl ?_
  refine awp_seq ?_
  refine rln ?_
  refine As ?_
  refine gend ?_
  refine awp_seq ?_
  refine rln ?_
  refine Mv ?_
  refine G (q_neqp ?_)
  refine Mv ?_
  refine Gg (q_mv (s := .v (.c _)) ?_)
  refine Gg (q_ncr ?_)
  refine Gg (q_far ?_)
  refine Gg (q_ldr ?_)
  refine Gg (q_neqp ?_)
  refine G (q_pkt ?_)
  refine As ?_
  refine gend ?_
  refine awp_ret ?_
  exact fp1
theorem sees_zS {H : Heap} {p : Nat} {π : List Nat} (hi : idx p π = none) (hp : H[p]? = some (some zS)) : cm (cin π true H) 8 (.ptr p 0) = .rop zS :=
  sees_ptr hi hp rfl (by show Cell.nilp :: (u8s (List.replicate 64 0)).map _ = _; rw [mapc_cm])
theorem cm_zS {π : List Nat} {H : Heap} : cm (cin π true H) 8 (.rop zS) = .rop zS := by
  show Cell.rop (Cell.nilp :: (u8s (List.replicate 64 0)).map _) = _
  rw [mapc_cm]
theorem zS_map {m : CM} {d : Nat} : zS.map (cm m (d + 1)) = zS := by
  show Cell.nilp :: (u8s (List.replicate 64 0)).map _ = _
  rw [mapc_cm]
/-- (*cipher.State).MixHash -/
theorem mixhash_nil : Good Try.prog 22 [.c .nilp, .c (.ro 0 [])] [] (.t []) [] := by
  refine good_frm 16 Try.func22 rfl rfl rfl rfl rfl rfl ?_
  refine awp_seq ?_
  refine rln ?_
  refine Mv ?_
  refine G2 (fun _ k_ => q_callp is_nil k_ (ha := (cac (et rfl) rfl ca0))) ?_
  refine gend ?_
  refine cndbN (fun hc1 => ?_) ?_; rotate_left
  · exact rfl
  refine awp_skip ?_
  exact fp0
/-- (*cipher.State).MixHash -/
theorem mixhash_zero : Good Try.prog 22 [.c (.ptr 0 0), .c (.ro 0 [])] [some zS] (.t []) [some zS] := by
  refine good_frm 16 Try.func22 rfl rfl rfl rfl rfl rfl ?_
  refine awp_seq ?_
  refine rln ?_
  refine Mv ?_
  refine G2 (fun _ k_ => q_callp is_zero k_ (ha := (cac (et rfl) (sees_zS rfl rfl) ca0))) ?_
  refine gend ?_
  refine cndbN (fun hc1 => ?_) ?_; rotate_left
  · exact rfl
  refine awp_skip ?_
  exact fx0 [0] (hH := pl1 rfl zS_map pl0)
/-- (*cipher.State).MixKey -/
theorem mixkey_nil : Good Try.prog 23 [.c .nilp, .c (.ro 0 [])] [] (.t []) [] := by
  refine good_frm 26 Try.func23 rfl rfl rfl rfl rfl rfl ?_
  refine awp_seq ?_
  refine rln ?_
  refine Mv ?_
  refine G2 (fun _ k_ => q_callp is_nil k_ (ha := (cac (et rfl) rfl ca0))) ?_
  refine gend ?_
  refine cndbN (fun hc1 => ?_) ?_; rotate_left
  · exact rfl
  refine awp_skip ?_
  exact fp0
/-- (*cipher.State).MixKey -/
theorem mixkey_zero : Good Try.prog 23 [.c (.ptr 0 0), .c (.ro 0 [])] [some zS] (.t []) [some zS] := by
  refine good_frm 26 Try.func23 rfl rfl rfl rfl rfl rfl ?_
  refine awp_seq ?_
  refine rln ?_
  refine Mv ?_
  refine G2 (fun _ k_ => q_callp is_zero k_ (ha := (cac (et rfl) (sees_zS rfl rfl) ca0))) ?_
  refine gend ?_
  refine cndbN (fun hc1 => ?_) ?_; rotate_left
  · exact rfl
  refine awp_skip ?_
  exact fx0 [0] (hH := pl1 rfl zS_map pl0)
/-- (*cipher.State).Seal -/
theorem sseal_nil : Good Try.prog 24 [.c .nilp, .c (.ro 0 [])] [] (.t [.c .nils, .c (cn 1)]) [] := by
  refine good_frm 31 Try.func24 rfl rfl rfl rfl rfl rfl ?_
  refine awp_seq ?_
  refine rln ?_
  refine As ?_
  refine G (q_as (s := sc (cn 0)) ?_)
  refine gend ?_
  refine awp_seq ?_
  refine awp_seq ?_
  refine rln ?_
  refine Mv ?_
  refine G2 (fun _ k_ => q_callp is_nil k_ (ha := (cac (et rfl) rfl ca0))) ?_
  refine G (q_notb ?_)
  refine gend ?_
  refine cndbnY (fun hc1 => ?_) ?_; rotate_left
  · exact rfl
  refine awp_seq ?_
  refine rln ?_
  refine As ?_
  refine G (q_as (s := sc (cn 1)) ?_)
  refine gend ?_
  refine awp_ret ?_
  exact fp2
/-- (*cipher.State).Seal -/
theorem sseal_zero : Good Try.prog 24 [.c (.ptr 0 0), .c (.ro 0 [])] [some zS] (.t [.c .nils, .c (cn 1)]) [some zS] := by
  refine good_frm 31 Try.func24 rfl rfl rfl rfl rfl rfl ?_
  refine awp_seq ?_
  refine rln ?_
  refine As ?_
  refine G (q_as (s := sc (cn 0)) ?_)
  refine gend ?_
  refine awp_seq ?_
  refine awp_seq ?_
  refine rln ?_
  refine Mv ?_
  refine G2 (fun _ k_ => q_callp is_zero k_ (ha := (cac (et rfl) (sees_zS rfl rfl) ca0))) ?_
  refine G (q_notb ?_)
  refine gend ?_
  refine cndbnY (fun hc1 => ?_) ?_; rotate_left
  · exact rfl
  refine awp_seq ?_
  refine rln ?_
  refine As ?_
  refine G (q_as (s := sc (cn 1)) ?_)
  refine gend ?_
  refine awp_ret ?_
  exact fx2 [0] (hH := pl1 rfl zS_map pl0)
/-- (*cipher.State).Open -/
theorem sopen_nil : Good Try.prog 25 [.c .nilp, .c (.ro 0 [])] [] (.t [.c .nils, .c (cn 1)]) [] := by
  refine good_frm 31 Try.func25 rfl rfl rfl rfl rfl rfl ?_
  refine awp_seq ?_
  refine rln ?_
  refine As ?_
  refine G (q_as (s := sc (cn 0)) ?_)
  refine gend ?_
  refine awp_seq ?_
  refine awp_seq ?_
  refine rln ?_
  refine Mv ?_
  refine G2 (fun _ k_ => q_callp is_nil k_ (ha := (cac (et rfl) rfl ca0))) ?_
  refine G (q_notb ?_)
  refine gend ?_
  refine cndbnY (fun hc1 => ?_) ?_; rotate_left
  · exact rfl
  refine awp_seq ?_
  refine rln ?_
  refine As ?_
  refine G (q_as (s := sc (cn 1)) ?_)
  refine gend ?_
  refine awp_ret ?_
  exact fp2
/-- (*cipher.State).Open -/
theorem sopen_zero : Good Try.prog 25 [.c (.ptr 0 0), .c (.ro 0 [])] [some zS] (.t [.c .nils, .c (cn 1)]) [some zS] := by
  refine good_frm 31 Try.func25 rfl rfl rfl rfl rfl rfl ?_
  refine awp_seq ?_
  refine rln ?_
  refine As ?_
  refine G (q_as (s := sc (cn 0)) ?_)
  refine gend ?_
  refine awp_seq ?_
  refine awp_seq ?_
  refine rln ?_
  refine Mv ?_
  refine G2 (fun _ k_ => q_callp is_zero k_ (ha := (cac (et rfl) (sees_zS rfl rfl) ca0))) ?_
  refine G (q_notb ?_)
  refine gend ?_
  refine cndbnY (fun hc1 => ?_) ?_; rotate_left
  · exact rfl
  refine awp_seq ?_
  refine rln ?_
  refine As ?_
  refine G (q_as (s := sc (cn 1)) ?_)
  refine gend ?_
  refine awp_ret ?_
  exact fx2 [0] (hH := pl1 rfl zS_map pl0)
/-- (*cipher.State).Split -/
theorem split_nil : Good Try.prog 28 [.c .nilp] [] (.t [.c .nilp, .c .nilp]) [] := by
  refine good_frm 21 Try.func28 rfl rfl rfl rfl rfl rfl ?_
  refine awp_seq ?_
  refine rln ?_
  refine As ?_
  refine As ?_
  refine gend ?_
  refine awp_seq ?_
  refine awp_seq ?_
  refine rln ?_
  refine Mv ?_
  refine G2 (fun _ k_ => q_callp is_nil k_ (ha := (cac (et rfl) rfl ca0))) ?_
  refine G (q_notb ?_)
  refine gend ?_
  refine cndbnY (fun hc1 => ?_) ?_; rotate_left
  · exact rfl
  refine awp_seq ?_
  refine rln ?_
  refine As ?_
  refine As ?_
  refine gend ?_
  refine awp_ret ?_
  exact fp2
/-- (*cipher.State).Split -/
theorem split_zero : Good Try.prog 28 [.c (.ptr 0 0)] [some zS] (.t [.c .nilp, .c .nilp]) [some zS] := by
  refine good_frm 21 Try.func28 rfl rfl rfl rfl rfl rfl ?_
  refine awp_seq ?_
  refine rln ?_
  refine As ?_
  refine As ?_
  refine gend ?_
  refine awp_seq ?_
  refine awp_seq ?_
  refine rln ?_
  refine Mv ?_
  refine G2 (fun _ k_ => q_callp is_zero k_ (ha := (cac (et rfl) (sees_zS rfl rfl) ca0))) ?_
  refine G (q_notb ?_)
  refine gend ?_
  refine cndbnY (fun hc1 => ?_) ?_; rotate_left
  · exact rfl
  refine awp_seq ?_
  refine rln ?_
  refine As ?_
  refine As ?_
  refine gend ?_
  refine awp_ret ?_
  exact fx2 [0] (hH := pl1 rfl zS_map pl0)
/-- (*cipher.State).Hash -/
theorem hash_nil : Good Try.prog 26 [.c .nilp] [] (sa (u8s (List.replicate 32 0))) [] := by
  refine good_frm 11 Try.func26 rfl rfl rfl rfl rfl rfl ?_
  refine awp_seq ?_
  refine rln ?_
  refine G2 (fun _ k_ => q_al k_) ?_
  refine gend ?_
  refine awp_seq ?_
  refine awp_seq ?_
  refine rln ?_
  refine Mv ?_
  refine G2 (fun _ k_ => q_callp is_nil k_ (ha := (cac (et rfl) rfl ca0))) ?_
  refine G (q_notb ?_)
  refine gend ?_
  refine cndbnY (fun hc1 => ?_) ?_; rotate_left
  · exact rfl
  refine awp_seq ?_
  refine rln ?_
  refine G (q_bla (fk0 ?_))
  refine G20 (fun _ k_ => q_stw k_) ?_
  refine gend ?_
  refine awp_ret ?_
  exact fpc (t := 23) (a := 2) (hn := by exact rfl)
/-- (*cipher.State).Hash -/
theorem hash_zero : Good Try.prog 26 [.c (.rop zS)] [] (sa (u8s (List.replicate 32 0))) [] := by
  refine good_frm 11 Try.func26 rfl rfl rfl rfl rfl rfl ?_
  refine awp_seq ?_
  refine rln ?_
  refine G2 (fun _ k_ => q_al k_) ?_
  refine gend ?_
  refine awp_seq ?_
  refine awp_seq ?_
  refine rln ?_
  refine Mv ?_
  refine G2 (fun _ k_ => q_callp is_zero k_ (ha := (cac (et rfl) (cm_zS) ca0))) ?_
  refine G (q_notb ?_)
  refine gend ?_
  refine cndbnY (fun hc1 => ?_) ?_; rotate_left
  · exact rfl
  refine awp_seq ?_
  refine rln ?_
  refine G (q_bla (fk0 ?_))
  refine G20 (fun _ k_ => q_stw k_) ?_
  refine gend ?_
  refine awp_ret ?_
  exact fpc (t := 23) (a := 2) (hn := by exact rfl)
/-- (*cipher.State).Chain -/
theorem chain_nil : Good Try.prog 27 [.c .nilp] [] (sa (u8s (List.replicate 32 0))) [] := by
  refine good_frm 11 Try.func27 rfl rfl rfl rfl rfl rfl ?_
  refine awp_seq ?_
  refine rln ?_
  refine G2 (fun _ k_ => q_al k_) ?_
  refine gend ?_
  refine awp_seq ?_
  refine awp_seq ?_
  refine rln ?_
  refine Mv ?_
  refine G2 (fun _ k_ => q_callp is_nil k_ (ha := (cac (et rfl) rfl ca0))) ?_
  refine G (q_notb ?_)
  refine gend ?_
  refine cndbnY (fun hc1 => ?_) ?_; rotate_left
  · exact rfl
  refine awp_seq ?_
  refine rln ?_
  refine G (q_bla (fk0 ?_))
  refine G20 (fun _ k_ => q_stw k_) ?_
  refine gend ?_
  refine awp_ret ?_
  exact fpc (t := 23) (a := 2) (hn := by exact rfl)
/-- (*cipher.State).Chain -/
theorem chain_zero : Good Try.prog 27 [.c (.rop zS)] [] (sa (u8s (List.replicate 32 0))) [] := by
  refine good_frm 11 Try.func27 rfl rfl rfl rfl rfl rfl ?_
  refine awp_seq ?_
  refine rln ?_
  refine G2 (fun _ k_ => q_al k_) ?_
  refine gend ?_
  refine awp_seq ?_
  refine awp_seq ?_
  refine rln ?_
  refine Mv ?_
  refine G2 (fun _ k_ => q_callp is_zero k_ (ha := (cac (et rfl) (cm_zS) ca0))) ?_
  refine G (q_notb ?_)
  refine gend ?_
  refine cndbnY (fun hc1 => ?_) ?_; rotate_left
  · exact rfl
  refine awp_seq ?_
  refine rln ?_
  refine G (q_bla (fk0 ?_))
  refine G20 (fun _ k_ => q_stw k_) ?_
  refine gend ?_
  refine awp_ret ?_
  exact fpc (t := 23) (a := 2) (hn := by exact rfl)
/-- (*cipher.State).Copy -/
theorem scopy_nil : Good Try.prog 30 [.c .nilp] [] (sc .nilp) [] := by
  refine good_frm 21 Try.func30 rfl rfl rfl rfl rfl rfl ?_
  refine awp_seq ?_
  refine rln ?_
  refine As ?_
  refine gend ?_
  refine awp_seq ?_
  refine awp_seq ?_
  refine rln ?_
  refine Mv ?_
  refine G2 (fun _ k_ => q_callp is_nil k_ (ha := (cac (et rfl) rfl ca0))) ?_
  refine G (q_notb ?_)
  refine gend ?_
  refine cndbnY (fun hc1 => ?_) ?_; rotate_left
  · exact rfl
  refine awp_seq ?_
  refine rln ?_
  refine As ?_
  refine gend ?_
  refine awp_ret ?_
  exact fp1
/-- (*cipher.State).Copy -/
theorem scopy_zero : Good Try.prog 30 [.c (.ptr 0 0)] [some zS] (sc .nilp) [some zS] := by
  refine good_frm 21 Try.func30 rfl rfl rfl rfl rfl rfl ?_
  refine awp_seq ?_
  refine rln ?_
  refine As ?_
  refine gend ?_
  refine awp_seq ?_
  refine awp_seq ?_
  refine rln ?_
  refine Mv ?_
  refine G2 (fun _ k_ => q_callp is_zero k_ (ha := (cac (et rfl) (sees_zS rfl rfl) ca0))) ?_
  refine G (q_notb ?_)
  refine gend ?_
  refine cndbnY (fun hc1 => ?_) ?_; rotate_left
  · exact rfl
  refine awp_seq ?_
  refine rln ?_
  refine As ?_
  refine gend ?_
  refine awp_ret ?_
  exact fx1 [0] (hm0 := rfl) (hH := pl1 rfl zS_map pl0)
end Go.Proofs.Ytlnepajgnckolaa


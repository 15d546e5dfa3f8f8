/- Texts that the proof stands on, put together: the abstract machine, and what functions do over it. -/
import Derived.Test.YtklcckngmmklhaaOutCarriesa
import Derived.StillTail
import Derived.ScopeJumps
import Derived.LoopN
/- The abstract machine: calls. -/
namespace Go.Abs
open Go
theorem putB_length (π : List Nat) (f : Cell → Cell) (Hl : Heap) : ∀ (H : Heap) (p : Nat), (putB π f Hl p H).length = H.length
  | [], _ => rfl
  | b :: r, p => by simp [putB, putB_length π f Hl r (p + 1)]
theorem putB_get (π : List Nat) (f : Cell → Cell) (Hl : Heap) : ∀ (H : Heap) (s p : Nat), (putB π f Hl s H)[p]? = (H[p]?).map fun b => pbk π f Hl (s + p) b
  | [], s, p => by simp [putB]
  | b :: r, s, 0 => by simp [putB]
  | b :: r, s, p + 1 => by
    simp only [putB, List.getElem?_cons_succ]
    rw [putB_get π f Hl r (s + 1) p, show s + 1 + p = s + (p + 1) by omega]
theorem picks_length (f : Cell → Cell) : ∀ (H : Heap), (picks f H).length = H.length
  | [] => rfl
  | some _ :: r => by simp [picks, picks_length f r]
  | none :: r => by simp [picks, picks_length f r]
theorem picks_get (f : Cell → Cell) : ∀ (H : Heap) (p : Nat) cs, (picks f H)[p]? = some (some cs) → ∃ c0, H[p]? = some (some c0) ∧ cs = c0.map f
  | [], p, cs, h => by simp [picks] at h
  | some c :: r, 0, cs, h => by simp [picks] at h; exact ⟨c, rfl, h.symm⟩
  | none :: r, 0, cs, h => by simp [picks] at h
  | some c :: r, p + 1, cs, h => by
    simp only [picks, List.getElem?_cons_succ] at h ⊢
    exact picks_get f r p cs h
  | none :: r, p + 1, cs, h => by
    simp only [picks, List.getElem?_cons_succ] at h ⊢
    exact picks_get f r p cs h
theorem pick_get {H : Heap} {f : Cell → Cell} {p : Nat} {cs : List Cell} (h : pick H f p = some cs) : ∃ c0, H[p]? = some (some c0) ∧ cs = c0.map f := by
  unfold pick at h
  split at h
  · rename_i c0 hc; exact ⟨c0, hc, (Option.some.inj h).symm⟩
  · simp at h
theorem back_get {π : List Nat} {f : Cell → Cell} {H Hl : Heap} {p : Nat} {cs : List Cell} (h : (back π f H Hl)[p]? = some (some cs)) :
    (p < H.length ∧ idx p π = none ∧ H[p]? = some (some cs)) ∨
    (∃ j c0, p < H.length ∧ idx p π = some j ∧ Hl[j]? = some (some c0) ∧ cs = c0.map f) ∨
    (∃ j c0, p = H.length + (j - π.length) ∧ π.length ≤ j ∧ Hl[j]? = some (some c0) ∧ cs = c0.map f) := by
  unfold back at h
  rcases Nat.lt_or_ge p H.length with hlt | hge
  · rw [List.getElem?_append_left (by rw [putB_length]; exact hlt), putB_get] at h
    rw [List.getElem?_eq_getElem hlt] at h ⊢
    simp only [Nat.zero_add, Option.map_some, Option.some.injEq, pbk] at h ⊢
    split at h
    · rename_i j hj
      obtain ⟨c0, h1, h2⟩ := pick_get h
      exact .inr (.inl ⟨j, c0, hlt, hj, h1, h2⟩)
    · rename_i hj
      exact .inl ⟨hlt, hj, h⟩
  · rw [List.getElem?_append_right (by rw [putB_length]; exact hge), putB_length] at h
    obtain ⟨c0, h1, h2⟩ := picks_get f _ _ _ h
    rw [List.getElem?_drop] at h1
    exact .inr (.inr ⟨π.length + (p - H.length), c0, by omega, by omega, h1, h2⟩)
theorem argVs_sound {R : Rl} {fr : List S} {a : Act} (hf : FRel R fr a) : ∀ (l : List Operand) (vs : List V), argVs fr l = some vs → VsRel R vs (l.map a.eval)
  | [], vs, h => by simp [argVs] at h; subst h; simp [VsRel]
  | x :: r, vs, h => by
    simp only [argVs] at h
    have hx := ev_sound hf x
    split at h
    · rename_i y ys h1 h2
      obtain rfl := Option.some.inj h
      rw [h1] at hx
      exact ⟨_, _, rfl, hx, argVs_sound hf r ys h2⟩
    · simp at h
theorem vsrel_append {R : Rl} : ∀ {xs ys : List V} {vs us : List Value}, VsRel R xs vs → VsRel R ys us → VsRel R (xs ++ ys) (vs ++ us)
  | [], ys, vs, us, h, k => by simp only [VsRel] at h; subst h; exact k
  | x :: xs, ys, vs, us, h, k => by
    simp only [VsRel, List.cons_append] at h ⊢
    obtain ⟨v, vs', rfl, h1, h2⟩ := h
    exact ⟨v, vs' ++ us, rfl, h1, vsrel_append h2 k⟩
theorem vsrel_cells {R : Rl} : ∀ {cs : List Cell} {vs : List Value}, LRel R cs vs → VsRel R (cs.map V.c) vs
  | [], vs, h => by simp only [LRel] at h; subst h; simp [VsRel]
  | c :: cs, vs, h => by
    simp only [LRel] at h
    obtain ⟨v, vs', rfl, _, h1, h2⟩ := h
    exact ⟨v, vs', rfl, h1, vsrel_cells h2⟩
theorem opg_call {P : Program} {o : Oper} {fr : List S} {H Hl' : Heap} {f : Operand} {args : Array Operand} {ats : Array TypeId} {k : Nat} {caps : List Cell} {avs : List V} {fn : Func} {v : S}
    (π : List Nat) (lend : Bool) (ho : o.op = .call ⟨.value f, args, ats⟩) (hf : ev fr f = sc (.fn k caps)) (ha : argVs fr args.toList = some avs)
    (hfn : P.funcs[k]? = some fn) (hbody : fn.body.isSome = true) (hname : (fn.name == "runtime.NumGoroutine") = false) (hnd : π.Nodup) (hπ : ∀ p ∈ π, p < H.length)
    (hgood : Good P k ((avs ++ caps.map V.c).map (vm (cm (cin π lend H) 8))) (π.map (pick H (cm (cin π lend H) 8))) v Hl') :
    OpG P o fr H (sm (cm (cout π lend H.length) 8) v) (back π (cm (cout π lend H.length) 8) H Hl') := by
  obtain ⟨hlen, _, hgood⟩ := hgood
  have hlen' : π.length ≤ Hl'.length := by simpa using hlen
  have hbl : (back π (cm (cout π lend H.length) 8) H Hl').length = H.length + (Hl'.length - π.length) := by
    simp [back, putB_length, picks_length]
  refine ⟨by omega, fun E ρ a w hE hs K Q hK => ?_⟩
  have hfv := ev_sound hs.fr f
  rw [hf] at hfv
  simp only [SRel, VRel, CRel] at hfv
  obtain ⟨cvs, hev, hcl⟩ := hfv
  have hargs := argVs_sound hs.fr _ _ ha
  let ρl : Nat → Place := fun j => ρ (π.getD j 0)
  let Hl : Heap := π.map (pick H (cm (cin π lend H) 8))
  let img' : Nat → Prop := fun b => ∃ p cs, Hl[p]? = some (some cs) ∧ (ρl p).room ≠ 0 ∧ (ρl p).blk = b
  let T' : Nat → Prop := fun b => if lend then b < w.heap.size ∧ ¬ img' b else E.T b
  let El : Env := ⟨w, T', img'⟩
  have hHl : ∀ (j : Nat) cs, Hl[j]? = some (some cs) → ∃ p c0, π[j]? = some p ∧ H[p]? = some (some c0) ∧ cs = c0.map (cm (cin π lend H) 8) ∧ ρl j = ρ p := by
    intro j cs hj
    simp only [Hl, List.getElem?_map, Option.map_eq_some_iff] at hj
    obtain ⟨p, h1, h2⟩ := hj
    obtain ⟨c0, h3, h4⟩ := pick_get h2
    exact ⟨p, c0, h1, h3, h4, by simp only [ρl]; rw [List.getD_eq_getElem?_getD, h1]; rfl⟩
  have himg : ∀ b, img' b → ∃ p c0, p ∈ π ∧ H[p]? = some (some c0) ∧ (ρ p).room ≠ 0 ∧ (ρ p).blk = b := by
    rintro b ⟨j, cs, h1, h2, h3⟩
    obtain ⟨p, c0, k1, k2, k3, k4⟩ := hHl j cs h1
    rw [k4] at h2 h3
    exact ⟨p, c0, List.mem_of_getElem? k1, k2, h2, h3⟩
  have hTnot : ∀ b, E.T b → ¬ img' b := by
    intro b hT hi
    obtain ⟨p, c0, _, h1, h2, h3⟩ := himg b hi
    rcases hs.heap.fresh p c0 h1 h2 with h4 | h4
    · rw [h3] at h4; exact hE.apart b hT h4
    · rw [h3] at h4; have := hE.old b hT; omega
  have hTold : ∀ b, E.T b → b < w.heap.size := fun b hT => Nat.lt_of_lt_of_le (hE.old b hT) hs.heap.size
  have hElOk : El.Ok := by
    refine ⟨fun b hb => ?_, fun b hb => ?_, fun b hb => ?_⟩
    · show b < w.heap.size
      have hb' : T' b := hb
      simp only [T'] at hb'
      split at hb'
      · exact hb'.1
      · exact hTold b hb'
    · have hb' : T' b := hb
      simp only [T'] at hb'
      split at hb'
      · exact hb'.2
      · exact hTnot b hb'
    · obtain ⟨p, c0, _, h1, h2, h3⟩ := himg b hb
      show b < w.heap.size
      rw [← h3]
      exact hs.heap.lt h1 h2
  have hTT : ∀ b, E.T b → T' b ∧ w.heap[b]? = E.w0.heap[b]? := by
    intro b hT
    refine ⟨?_, hs.heap.frame b (hE.old b hT) (hE.apart b hT)⟩
    simp only [T']
    split
    · exact ⟨hTold b hT, hTnot b hT⟩
    · exact hT
  have hcin : ∀ c v, CRel (E.rl H.length ρ) c v → CRel (El.rl π.length ρl) (cm (cin π lend H) 8 c) v := by
    refine cm_sound (R := E.rl H.length ρ) (R' := El.rl π.length ρl) (m := cin π lend H) ⟨fun p q hq hp => ?_, fun p cs hcs hne hnone hp => ?_, fun _ b hb => hTT b hb⟩ 8
    · have hq' : idx p π = some q := hq
      have h1 := idx_get hq'
      refine ⟨(List.getElem?_eq_some_iff.1 h1).1, ?_⟩
      show ρ (π.getD q 0) = ρ p
      rw [List.getD_eq_getElem?_getD, h1]; rfl
    · have hcs' : (if lend then joinH H p else none) = some cs := hcs
      have hno : idx p π = none := hnone
      split at hcs'
      · rename_i hl
        unfold joinH at hcs'
        split at hcs'
        · rename_i c0 hc0
          obtain rfl := Option.some.inj hcs'
          have hpos : 0 < c0.length := List.length_pos_iff.2 hne
          obtain ⟨hr, arr, el, f0, b1, b2, b3, b4, b5⟩ := brel_of hs.heap hc0 hpos
          refine ⟨?_, fun i c hi => ?_⟩
          · show T' (ρ p).blk
            simp only [T']
            rw [if_pos hl]
            refine ⟨hs.heap.lt hc0 hr, fun hi => ?_⟩
            obtain ⟨p', c1, k1, k2, k3, k4⟩ := himg _ hi
            have := hs.heap.inj p' p c1 c0 k2 hc0 k3 hr k4
            subst this
            have : ∀ (l : List Nat), p' ∈ l → idx p' l ≠ none := by
              intro l
              induction l with
              | nil => intro h; cases h
              | cons x r ih =>
                intro h
                simp only [idx]
                split
                · simp
                · rename_i hne
                  rcases List.mem_cons.1 h with rfl | h
                  · exact absurd rfl hne
                  · have := ih h
                    simpa using this
            exact this π k1 hno
          · obtain ⟨v, g1, g2, g3⟩ := b5 i c hi
            exact ⟨arr, el, f0, v, b1, g1, g2, g3⟩
        · simp at hcs'
      · simp at hcs'
  have hHlRel : HRel El ρl w Hl := by
    refine ⟨rfl, rfl, rfl, Nat.le_refl _, fun _ _ _ => rfl, fun j cs hj hr => .inl ⟨j, cs, hj, hr, rfl⟩, fun i j cs ds hi hj hr1 hr2 he => ?_, fun j cs hj hr => ?_, fun j cs hj hr => ?_⟩
    · obtain ⟨p, c0, k1, k2, k3, k4⟩ := hHl i cs hi
      obtain ⟨q, d0, l1, l2, l3, l4⟩ := hHl j ds hj
      rw [k4] at hr1 he
      rw [l4] at hr2 he
      have := hs.heap.inj p q c0 d0 k2 l2 hr1 hr2 he
      subst this
      obtain ⟨hp1, hp2⟩ := List.getElem?_eq_some_iff.1 k1
      obtain ⟨hq1, hq2⟩ := List.getElem?_eq_some_iff.1 l1
      exact (List.getElem_inj hnd).1 (hp2.trans hq2.symm)
    · obtain ⟨p, c0, k1, k2, k3, k4⟩ := hHl j cs hj
      rw [k4] at hr ⊢
      obtain ⟨arr, el, f0, b1, b2, b3, b4, b5⟩ := hs.heap.blk p c0 k2 hr
      refine ⟨arr, el, f0, b1, b2, b3, by rw [k3]; simpa using b4, fun i c hi => ?_⟩
      rw [k3, List.getElem?_map, Option.map_eq_some_iff] at hi
      obtain ⟨c1, h5, rfl⟩ := hi
      obtain ⟨v, h6, ho', h7⟩ := b5 i c1 h5
      exact ⟨v, h6, ho', by have := hcin _ _ h7; simpa [Hl] using this⟩
    · obtain ⟨p, c0, k1, k2, k3, k4⟩ := hHl j cs hj
      rw [k4] at hr
      rw [k3, hs.heap.emp p c0 k2 hr]; rfl
  have hvs : VsRel (El.rl Hl.length ρl) ((avs ++ caps.map V.c).map (vm (cm (cin π lend H) 8))) ((args.map a.eval).toList ++ cvs.toList) := by
    have h1 : VsRel (E.rl H.length ρ) (avs ++ caps.map V.c) ((args.map a.eval).toList ++ cvs.toList) := vsrel_append (by simpa using hargs) (vsrel_cells hcl)
    have := vsm_sound (R' := El.rl π.length ρl) hcin h1
    simpa [Hl] using this
  have hcall := hgood El ρl w _ hElOk rfl (fun b => Iff.rfl) hHlRel hvs
  have hrun : (execOp a.eval o).run P w = .ok (.enter k (args.map a.eval ++ cvs)) w := by
    have hb : fn.body.isNone = false := by cases hfb : fn.body with
      | none => rw [hfb] at hbody; cases hbody
      | some c => rfl
    simp only [execOp, ho, resolve, hev, Deferred.ofValue, invoke, callFunc, Sem.run_bind, Sem.run_pure, Result.andThen_ok, run_program, hfn, hname, hb, Bool.false_eq_true, if_false, Array.empty_append]
  unfold Oper.wp
  rw [hrun, Oper.upon_enter]
  have harr : ((args.map a.eval).toList ++ cvs.toList).toArray = args.map a.eval ++ cvs := by
    apply Array.ext'; simp
  rw [harr] at hcall
  refine hcall.mono ?_
  rintro e w' ⟨rv, ρl', rfl, hρ, hH', hv⟩
  have hρ' : ∀ j, j < π.length → ρl' j = ρ (π.getD j 0) := fun j hj => hρ j (by simpa [Hl] using hj)
  have hideq : ∀ p, idx p π = none → p ∉ π := by
    intro p
    have : ∀ (l : List Nat), idx p l = none → p ∉ l := by
      intro l
      induction l with
      | nil => intro _ h; cases h
      | cons x r ih =>
        intro h hm
        simp only [idx] at h
        split at h
        · cases h
        · rename_i hne
          rcases List.mem_cons.1 hm with rfl | hm
          · exact hne rfl
          · exact ih (by simpa using h) hm
    exact this π
  let ρ' : Nat → Place := fun p => if p < H.length then ρ p else ρl' (π.length + (p - H.length))
  have r1 : ∀ p, p < H.length → ρ' p = ρ p := fun p hp => by simp only [ρ']; rw [if_pos hp]
  have r2 : ∀ j, π.length ≤ j → ρ' (H.length + (j - π.length)) = ρl' j := fun j hj => by
    simp only [ρ']; rw [if_neg (by omega)]; congr 1; omega
  have r3 : ∀ p j, idx p π = some j → ρl' j = ρ p ∧ p < H.length := fun p j hj => by
    have h1 := idx_get hj
    have h2 := (List.getElem?_eq_some_iff.1 h1).1
    rw [hρ' j h2, List.getD_eq_getElem?_getD, h1]
    exact ⟨rfl, hπ p (List.mem_of_getElem? h1)⟩
  have hcout : ∀ c v, CRel (El.rl Hl'.length ρl') c v → CRel (E.rl (back π (cm (cout π lend H.length) 8) H Hl').length ρ') (cm (cout π lend H.length) 8 c) v := by
    refine cm_sound (R := El.rl Hl'.length ρl') (R' := E.rl (back π (cm (cout π lend H.length) 8) H Hl').length ρ') (m := cout π lend H.length) ⟨fun j q hq hj => ?_, fun p cs hcs => by simp [cout] at hcs, fun hk b hb => ?_⟩ 8
    · have hj' : j < Hl'.length := hj
      have hq' : (match π[j]? with | some p => some p | none => some (H.length + (j - π.length))) = some q := hq
      show q < (back π (cm (cout π lend H.length) 8) H Hl').length ∧ ρ' q = ρl' j
      rw [hbl]
      cases hπj : π[j]? with
      | some p =>
        rw [hπj] at hq'
        obtain rfl := Option.some.inj hq'
        have hlt := hπ p (List.mem_of_getElem? hπj)
        refine ⟨by omega, ?_⟩
        rw [r1 p hlt, hρ' j (List.getElem?_eq_some_iff.1 hπj).1, List.getD_eq_getElem?_getD, hπj]
        rfl
      | none =>
        rw [hπj] at hq'
        obtain rfl := Option.some.inj hq'
        have hge := List.getElem?_eq_none_iff.1 hπj
        exact ⟨by omega, r2 j hge⟩
    · have hl : lend = false := by simpa [cout] using hk
      have hb' : T' b := hb
      simp only [T'] at hb'
      rw [if_neg (by rw [hl]; simp)] at hb'
      exact ⟨hb', (hTT b hb').2.symm⟩
  have hsize : w.heap.size ≤ w'.heap.size := hH'.size
  have hkeep : ∀ b, b < w.heap.size → ¬ img' b → w'.heap[b]? = w.heap[b]? := fun b h1 h2 => hH'.frame b h1 h2
  have hown : ∀ j cs, Hl'[j]? = some (some cs) → (ρl' j).room ≠ 0 → (∃ p c0, p ∈ π ∧ H[p]? = some (some c0) ∧ (ρ p).room ≠ 0 ∧ (ρ p).blk = (ρl' j).blk) ∨ w.heap.size ≤ (ρl' j).blk := fun j cs h1 h2 => by
    rcases hH'.fresh j cs h1 h2 with h3 | h3
    · exact .inl (himg _ h3)
    · exact .inr h3
  have hfreshc : ∀ j cs, Hl'[j]? = some (some cs) → (ρl' j).room ≠ 0 → E.img (ρl' j).blk ∨ E.w0.heap.size ≤ (ρl' j).blk := fun j cs h1 h2 => by
    rcases hown j cs h1 h2 with ⟨p, c0, _, k2, k3, k4⟩ | h3
    · rw [← k4]; exact hs.heap.fresh p c0 k2 k3
    · exact .inr (Nat.le_trans hs.heap.size h3)
  have hcross : ∀ p c0 j cs, idx p π = none → H[p]? = some (some c0) → (ρ p).room ≠ 0 → Hl'[j]? = some (some cs) → (ρl' j).room ≠ 0 → (ρ p).blk ≠ (ρl' j).blk := fun p c0 j cs h1 h2 h3 h4 h5 he => by
    rcases hown j cs h4 h5 with ⟨q, d0, k1, k2, k3, k4⟩ | h6
    · have := hs.heap.inj p q c0 d0 h2 k2 h3 k3 (he.trans k4.symm)
      subst this
      exact hideq p h1 k1
    · have := hs.heap.lt h2 h3
      omega
  have hBR : ∀ j c0, Hl'[j]? = some (some c0) → (ρl' j).room ≠ 0 → BRel (E.rl (back π (cm (cout π lend H.length) 8) H Hl').length ρ') w' (ρl' j) (c0.map (cm (cout π lend H.length) 8)) := fun j c0 h1 h2 => by
    obtain ⟨arr, el, f0, b1, b2, b3, b4, b5⟩ := hH'.blk j c0 h1 h2
    refine ⟨arr, el, f0, b1, b2, b3, by simpa using b4, fun i c hi => ?_⟩
    rw [List.getElem?_map, Option.map_eq_some_iff] at hi
    obtain ⟨c1, h5, rfl⟩ := hi
    obtain ⟨v, h6, ho', h7⟩ := b5 i c1 h5
    exact ⟨v, h6, ho', hcout _ _ h7⟩
  refine hK rv w' ρ' r1 ?_ (sm_sound hcout hv)
  refine ⟨hH'.os.trans hs.heap.os, hH'.tape.trans hs.heap.tape, hH'.output.trans hs.heap.output, Nat.le_trans hs.heap.size hsize, fun b h1 h2 => ?_, fun p cs hp hr => ?_, fun p q cs ds hp hq hr1 hr2 he => ?_, fun p cs hp hr => ?_, fun p cs hp hr => ?_⟩
  · rw [hkeep b (Nat.lt_of_lt_of_le h1 hs.heap.size) (fun hi => ?_)]
    · exact hs.heap.frame b h1 h2
    · obtain ⟨p, c0, _, k2, k3, k4⟩ := himg b hi
      rcases hs.heap.fresh p c0 k2 k3 with k5 | k5
      · rw [k4] at k5; exact h2 k5
      · rw [k4] at k5; omega
  · rcases back_get hp with ⟨h1, h2, h3⟩ | ⟨j, c0, h1, h2, h3, _⟩ | ⟨j, c0, rfl, h2, h3, _⟩
    · rw [r1 p h1] at hr ⊢; exact hs.heap.fresh p cs h3 hr
    · rw [r1 p h1] at hr ⊢
      rw [← (r3 p j h2).1] at hr ⊢
      exact hfreshc j c0 h3 hr
    · rw [r2 j h2] at hr ⊢; exact hfreshc j c0 h3 hr
  · have place : ∀ p cs, (back π (cm (cout π lend H.length) 8) H Hl')[p]? = some (some cs) → (p < H.length ∧ idx p π = none ∧ H[p]? = some (some cs) ∧ ρ' p = ρ p) ∨
        ∃ j c0, Hl'[j]? = some (some c0) ∧ ρ' p = ρl' j ∧ (idx p π = some j ∨ (π.length ≤ j ∧ p = H.length + (j - π.length))) := fun p cs hp => by
      rcases back_get hp with ⟨h1, h2, h3⟩ | ⟨j, c0, h1, h2, h3, _⟩ | ⟨j, c0, rfl, h2, h3, _⟩
      · exact .inl ⟨h1, h2, h3, r1 p h1⟩
      · exact .inr ⟨j, c0, h3, by rw [r1 p h1, (r3 p j h2).1], .inl h2⟩
      · exact .inr ⟨j, c0, h3, r2 j h2, .inr ⟨h2, rfl⟩⟩
    rcases place p cs hp with ⟨h1, h2, h3, h4⟩ | ⟨j, c0, h3, h4, h5⟩
    · rcases place q ds hq with ⟨k1, k2, k3, k4⟩ | ⟨i, d0, k3, k4, k5⟩
      · rw [h4] at hr1 he; rw [k4] at hr2 he
        exact hs.heap.inj p q cs ds h3 k3 hr1 hr2 he
      · rw [h4] at hr1 he; rw [k4] at hr2 he
        exact absurd he (hcross p cs i d0 h2 h3 hr1 k3 hr2)
    · rcases place q ds hq with ⟨k1, k2, k3, k4⟩ | ⟨i, d0, k3, k4, k5⟩
      · rw [h4] at hr1 he; rw [k4] at hr2 he
        exact absurd he.symm (hcross q ds j c0 k2 k3 hr2 h3 hr1)
      · rw [h4] at hr1 he; rw [k4] at hr2 he
        have := hH'.inj j i c0 d0 h3 k3 hr1 hr2 he
        subst this
        rcases h5 with h5 | ⟨h5, h6⟩
        · have g1 := idx_get h5
          rcases k5 with k5 | ⟨k5, k6⟩
          · have g2 := idx_get k5
            rw [g1] at g2
            exact Option.some.inj g2
          · have := (List.getElem?_eq_some_iff.1 g1).1; omega
        · rcases k5 with k5 | ⟨k5, k6⟩
          · have := (List.getElem?_eq_some_iff.1 (idx_get k5)).1; omega
          · omega
  · rcases back_get hp with ⟨h1, h2, h3⟩ | ⟨j, c0, h1, h2, h3, rfl⟩ | ⟨j, c0, rfl, h2, h3, rfl⟩
    · rw [r1 p h1] at hr ⊢
      refine BRel.mono (R := E.rl H.length ρ) (R' := E.rl (back π (cm (cout π lend H.length) 8) H Hl').length ρ') ⟨fun _ hb => ⟨hb, rfl⟩, fun x hx => ⟨?_, r1 x hx⟩⟩ (hkeep _ (hs.heap.lt h3 hr) fun hi => ?_) (hs.heap.blk p cs h3 hr)
      · have : x < H.length := hx
        show x < (back π (cm (cout π lend H.length) 8) H Hl').length
        rw [hbl]; omega
      · obtain ⟨q, d0, k1, k2, k3, k4⟩ := himg _ hi
        have := hs.heap.inj q p d0 cs k2 h3 k3 hr k4
        subst this
        exact hideq q h2 k1
    · rw [r1 p h1] at hr ⊢
      rw [← (r3 p j h2).1] at hr ⊢
      exact hBR j c0 h3 hr
    · rw [r2 j h2] at hr ⊢; exact hBR j c0 h3 hr
  · rcases back_get hp with ⟨h1, h2, h3⟩ | ⟨j, c0, h1, h2, h3, rfl⟩ | ⟨j, c0, rfl, h2, h3, rfl⟩
    · rw [r1 p h1] at hr; exact hs.heap.emp p cs h3 hr
    · rw [r1 p h1] at hr
      rw [← (r3 p j h2).1] at hr
      rw [hH'.emp j c0 h3 hr]; rfl
    · rw [r2 j h2] at hr
      rw [hH'.emp j c0 h3 hr]; rfl
theorem opg_ext {P : Program} {o : Oper} {fr : List S} {H : Heap} {f : Operand} {args : Array Operand} {ats : Array TypeId} {k : Nat} {avs : List V} {v : S}
    (ho : o.op = .call ⟨.value f, args, ats⟩) (hf : ev fr f = sc (.fn k [])) (ha : argVs fr args.toList = some avs) (hx : Ext P k avs v) : OpG P o fr H v H := by
  refine opg_opr fun E ρ a w hE hs => ?_
  have hfv := ev_sound hs.fr f
  rw [hf] at hfv
  simp only [SRel, VRel, CRel] at hfv
  obtain ⟨cvs, hev, hcl⟩ := hfv
  have hargs := argVs_sound hs.fr _ _ ha
  simp only [LRel] at hcl
  have hcv : cvs = #[] := by
    apply Array.ext'; simpa using hcl
  subst hcv
  obtain ⟨rv, h1, h2⟩ := hx _ w _ hargs
  refine ⟨rv, ?_, h2⟩
  have e : (args.toList.map a.eval).toArray = args.map a.eval := by apply Array.ext'; simp
  rw [e] at h1
  simp only [execOp, ho, resolve, hev, Deferred.ofValue, invoke, Sem.run_bind, Sem.run_pure, Result.andThen_ok, Array.empty_append, Array.append_empty]
  exact h1
theorem callO_sound {P : Program} {o : Oper} {fr : List S} {H : Heap} {f : Operand} {args : Array Operand} {ats : Array TypeId} {K : S → Heap → Prop} (ho : o.op = .call ⟨.value f, args, ats⟩) (h : callO P fr H f args K) :
    ∃ s H', OpG P o fr H s H' ∧ K s H' := by
  unfold callO at h
  split at h
  · rename_i k cap avs h1 h2
    rcases h with ⟨π, lend, v, Hl', h6, h7, h8, h9⟩ | ⟨rfl, v, h6, h7⟩
    · obtain ⟨fn, h3, h4, h5⟩ := h8.2.1
      exact ⟨_, _, opg_call _ _ ho h1 h2 h3 h4 h5 h6 h7 h8, h9⟩
    · exact ⟨_, _, opg_ext ho h1 h2 h6, h7⟩
  · exact h.elim
end Go.Abs

/- The abstract machine: every operation; regions in the order of the text. -/
namespace Go.Abs
open Go
section
variable {P : Program} {fr : List S} {H : Heap} {K : S → Heap → Prop} {o : Oper}
theorem ostep_sound (h : ostep P o fr H K) : ∃ s H', OpG P o fr H s H' ∧ K s H' := by
  have pure : pstep P o.op fr (fun s => K s H) → ∃ s H', OpG P o fr H s H' ∧ K s H' := fun h => by
    obtain ⟨s, h1, h2⟩ := pstep_sound h
    exact ⟨s, H, opg_pv H h2, h1⟩
  cases ho : o.op
  case alloc t => exact og_alloc ho h
  case box t x => exact og_box ho h
  case build t p => exact og_build ho h
  case buildSlice t n p => exact og_buildSlice ho h
  case load t x => exact og_load ho h
  case store t x y => exact og_store ho h
  case makeSlice t l c => exact og_makeSlice ho h
  case convert s d x => exact og_convert ho h
  case slice t x l h' m => exact og_slice ho h
  case binOp op t x y u => exact og_binOp ho h
  case call c =>
    obtain ⟨callee, args, ats⟩ := c
    cases callee with
    | builtin b =>
      cases b
      case append => exact og_append ho h
      case copy => exact og_copy ho h
      all_goals
        simp only [ostep, ho] at h
        rw [← ho] at h
        exact pure h
    | value f =>
      simp only [ostep, ho] at h
      exact callO_sound ho h
    | invoke r m =>
      simp only [ostep, ho] at h
  all_goals
    simp only [ostep, ho] at h
    rw [← ho] at h
    exact pure h
end
/-! ## A region in the order of its text. -/
def us : S := .t []
def guardOf (ops : List Oper) (fr : List S) (j : Nat) : Option (Option Bool) :=
  match (ops[j]?).bind (·.dst) with
  | some d => match fr[d]? with
    | some (.v (.c (.bool b))) => some (some b)
    | some (.t []) => some none
    | _ => none
  | none => none
theorem us_rel {R : Rl} : SRel R us undef := ⟨#[], rfl, rfl⟩
def aops (P : Program) (ops : List Oper) (Q : St → Prop) : List Oper → St → Prop
  | [], st => Q st
  | o :: rest, st =>
    match o.guard with
    | none => ostep P o st.fr st.H fun s H' => aops P ops Q rest ⟨put st.fr o.dst s, H'⟩
    | some (j, want) => match guardOf ops st.fr j with
      | some b => (b = some want → ostep P o st.fr st.H fun s H' => aops P ops Q rest ⟨put st.fr o.dst s, H'⟩) ∧ (b ≠ some want → aops P ops Q rest ⟨put st.fr o.dst us, st.H⟩)
      | none => False
theorem guardOf_sound {ops : List Oper} {R : Rl} {fr : List S} {a : Act} (hf : FRel R fr a) {j : Nat} {b : Option Bool} (h : guardOf ops fr j = some b) : yielded ops.toArray a.tmps j = b := by
  unfold guardOf at h
  split at h
  · rename_i d hd
    split at h
    · rename_i b' hb
      obtain rfl := Option.some.inj h
      obtain ⟨v, h1, h2⟩ := hf.2.2 d _ hb
      simp only [SRel, VRel, CRel] at h2
      subst h2
      unfold yielded
      have : (ops.toArray[j]?).bind (·.dst) = some d := by simpa using hd
      rw [this]
      simp [h1]
    · rename_i hb
      obtain rfl := Option.some.inj h
      obtain ⟨v, h1, vs, h2, h3⟩ := hf.2.2 d _ hb
      unfold yielded
      have : (ops.toArray[j]?).bind (·.dst) = some d := by simpa using hd
      rw [this]
      simp [h1, h2]
    · simp at h
  · simp at h
theorem FRel.put_grow {E : Env} {ρ ρ' : Nat → Place} {n m : Nat} (h : n ≤ m) (hρ : ∀ p, p < n → ρ' p = ρ p) {fr : List S} {a : Act} (k : FRel (E.rl n ρ) fr a) (dst : Option Nat) {s : S} {v : Value} (hs : SRel (E.rl m ρ') s v) :
    FRel (E.rl m ρ') (put fr dst s) (a.put dst v) := put_sound (k.grow h hρ) dst hs
theorem aops_sound {P : Program} {n : Nat} {ops : List Oper} {Q : Exit → St → Prop} : ∀ (l : List Oper) (st : St), n ≤ st.H.length → aops P ops (Q .normal) l st →
    ∀ (E : Env) (ρ : Nat → Place) (a : Act) (w : World), E.Ok → Sim E ρ st a w →
      wpList P ops.toArray (fun e a' w' => ∃ st' ρ', Q e st' ∧ (∀ p, p < n → ρ' p = ρ p) ∧ Sim E ρ' st' a' w') l a w
  | [], st, hn, h, E, ρ, a, w, hE, hs => ⟨st, ρ, h, fun _ _ => rfl, hs⟩
  | o :: rest, st, hn, h, E, ρ, a, w, hE, hs => by
    have go : (ostep P o st.fr st.H fun s H' => aops P ops (Q .normal) rest ⟨put st.fr o.dst s, H'⟩) →
        o.wp P a w (wpList P ops.toArray (fun e a' w' => ∃ st' ρ', Q e st' ∧ (∀ p, p < n → ρ' p = ρ p) ∧ Sim E ρ' st' a' w') rest) (fun e a' w' => ∃ st' ρ', Q e st' ∧ (∀ p, p < n → ρ' p = ρ p) ∧ Sim E ρ' st' a' w') := fun h => by
      obtain ⟨s, H', ⟨hl, hg⟩, hK⟩ := ostep_sound h
      refine hg E ρ a w hE hs _ _ fun v w' ρ' h1 h2 h3 => ?_
      have := aops_sound (Q := Q) rest ⟨put st.fr o.dst s, H'⟩ (Nat.le_trans hn hl) hK E ρ' (a.put o.dst v) w' hE ⟨FRel.put_grow hl h1 hs.fr o.dst h3, h2⟩
      have hmono : ∀ (l : List Oper) (a : Act) (w : World), wpList P ops.toArray (fun e a' w' => ∃ st' ρ'', Q e st' ∧ (∀ p, p < n → ρ'' p = ρ' p) ∧ Sim E ρ'' st' a' w') l a w → wpList P ops.toArray (fun e a' w' => ∃ st' ρ'', Q e st' ∧ (∀ p, p < n → ρ'' p = ρ p) ∧ Sim E ρ'' st' a' w') l a w := by
        have e : (fun (e : Exit) (a' : Act) (w' : World) => ∃ (st' : St) (ρ'' : Nat → Place), Q e st' ∧ (∀ p, p < n → ρ'' p = ρ' p) ∧ Sim E ρ'' st' a' w') = fun e a' w' => ∃ st' ρ'', Q e st' ∧ (∀ p, p < n → ρ'' p = ρ p) ∧ Sim E ρ'' st' a' w' := by
          funext e a' w'
          apply propext
          constructor
          · rintro ⟨s, r, k1, k2, k3⟩
            exact ⟨s, r, k1, fun p hp => (k2 p hp).trans (h1 p (Nat.lt_of_lt_of_le hp hn)), k3⟩
          · rintro ⟨s, r, k1, k2, k3⟩
            exact ⟨s, r, k1, fun p hp => (k2 p hp).trans (h1 p (Nat.lt_of_lt_of_le hp hn)).symm, k3⟩
        intro l a w hh
        rw [← e]
        exact hh
      exact hmono _ _ _ this
    simp only [aops] at h
    unfold wpList
    split at h
    · rename_i hg
      have hw : Region.wanted o (yielded ops.toArray a.tmps) = true := by simp [Region.wanted, hg]
      rw [if_pos hw]
      exact .inl (go h)
    · rename_i j want hg
      split at h
      · rename_i b hb
        have hy := guardOf_sound hs.fr hb
        by_cases hbw : b = some want
        · have hw : Region.wanted o (yielded ops.toArray a.tmps) = true := by simp [Region.wanted, hg, hy, hbw]
          rw [if_pos hw]
          exact .inl (go (h.1 hbw))
        · have hw : ¬ Region.wanted o (yielded ops.toArray a.tmps) = true := by simp [Region.wanted, hg, hy, hbw]
          rw [if_neg hw]
          exact aops_sound (Q := Q) rest ⟨put st.fr o.dst us, st.H⟩ hn (h.2 hbw) E ρ (a.put o.dst undef) w hE ⟨put_sound hs.fr o.dst us_rel, hs.heap⟩
      · exact h.elim
theorem awp_region {P : Program} {n id : Nat} {ops : Array Oper} {Q : Exit → St → Prop} {st : St} (hn : n ≤ st.H.length) (h : aops P ops.toList (Q .normal) ops.toList st) : AWp P n (.region id ops false) Q st := by
  intro E ρ a w hE hs
  refine wp_region_list ?_
  have := aops_sound (Q := Q) ops.toList st hn h E ρ a w hE hs
  simpa using this
end Go.Abs

/- The abstract machine: regions that draw their order. -/
namespace Go.Abs
open Go
section
variable {P : Program} {fr fr' : List S} {H : Heap} {o : Oper}
theorem caps_congr : ∀ (l : List Operand), (∀ x ∈ l, ev fr x = ev fr' x) → caps fr l = caps fr' l
  | [], _ => rfl
  | x :: r, h => by simp only [caps, h x (by simp), caps_congr r (fun y hy => h y (by simp [hy]))]
theorem argVs_congr : ∀ (l : List Operand), (∀ x ∈ l, ev fr x = ev fr' x) → argVs fr l = argVs fr' l
  | [], _ => rfl
  | x :: r, h => by simp only [argVs, h x (by simp), argVs_congr r (fun y hy => h y (by simp [hy]))]
theorem fillK_congr {place : Nat → Option (Nat × Nat)} {K : List Cell → Prop} : ∀ (l : List (Nat × Operand)) (cs : List Cell), (∀ x ∈ l, ev fr x.2 = ev fr' x.2) → fillK fr place K cs l = fillK fr' place K cs l
  | [], _, _ => rfl
  | (i, x) :: r, cs, h => by
    have e := h (i, x) (by simp)
    simp only at e
    simp only [fillK, e, fillK_congr r _ (fun y hy => h y (by simp [hy]))]
theorem optI_congr (x : Option Operand) (h : ∀ y, x = some y → ev fr y = ev fr' y) : optI fr x = optI fr' x := by
  cases x with
  | none => rfl
  | some y => simp only [optI, h y rfl]
theorem callO_congr {f : Operand} {args : Array Operand} {K : S → Heap → Prop} (h1 : ev fr f = ev fr' f) (h2 : ∀ x ∈ args.toList, ev fr x = ev fr' x) : callO P fr H f args K = callO P fr' H f args K := by
  unfold callO
  rw [h1, argVs_congr _ h2]
theorem ostep_congr {K : S → Heap → Prop} (h : ∀ x ∈ o.op.operands.toList, ev fr x = ev fr' x) : ostep P o fr H K = ostep P o fr' H K := by
  cases ho : o.op <;> rw [ho] at h
  case build t ps =>
    have e : ∀ place K cs, fillK fr place K cs ps.toList = fillK fr' place K cs ps.toList := fun place K cs => fillK_congr _ _ fun x hx => h x.2 (by simp [Op.operands]; exact ⟨x.1, by simpa using hx⟩)
    simp only [ostep, ho, e]
  case buildSlice t n ps =>
    have e : ∀ place K cs, fillK fr place K cs ps.toList = fillK fr' place K cs ps.toList := fun place K cs => fillK_congr _ _ fun x hx => h x.2 (by simp [Op.operands]; exact ⟨x.1, by simpa using hx⟩)
    simp only [ostep, ho, e]
  case makeFunc fn first cap =>
    have e : caps fr cap.toList = caps fr' cap.toList := caps_congr _ fun x hx => h x (by simp at hx; simp [Op.operands, hx])
    cases fn <;> simp only [ostep, ho, pstep, e]
  case slice t x lo hi mx =>
    have e1 : ev fr x = ev fr' x := h x (by simp [Op.operands])
    have e2 : optI fr lo = optI fr' lo := optI_congr _ fun y hy => h y (by simp [Op.operands, hy])
    have e3 : optI fr hi = optI fr' hi := optI_congr _ fun y hy => h y (by simp [Op.operands, hy])
    have e4 : optI fr mx = optI fr' mx := optI_congr _ fun y hy => h y (by simp [Op.operands, hy])
    simp only [ostep, ho, pstep, e1, e2, e3, e4]
  case call c =>
    obtain ⟨callee, args, ats⟩ := c
    cases callee with
    | value f =>
      have h1 : ev fr f = ev fr' f := h f (by simp [Op.operands, Call.operands])
      have h2 : ∀ x ∈ args.toList, ev fr x = ev fr' x := fun x hx => h x (by simp at hx; simp [Op.operands, Call.operands, hx])
      simp only [ostep, ho, callO_congr h1 h2]
    | invoke r m => simp only [ostep, ho]
    | builtin b =>
      have ha : ∀ l, args.toList = l → ∀ x ∈ l, ev fr x = ev fr' x := fun l hl x hx => h x (by rw [← hl] at hx; simp at hx; simp [Op.operands, Call.operands, hx])
      cases b
      case append =>
        simp only [ostep, ho]
        split
        · rename_i s x t t' h1 h2
          simp only [ha _ h1 s (by simp), ha _ h1 x (by simp)]
        · rfl
      case copy =>
        simp only [ostep, ho]
        split
        · rename_i s x t t' h1 h2
          simp only [ha _ h1 s (by simp), ha _ h1 x (by simp)]
        · rfl
      case len =>
        simp only [ostep, ho, pstep]
        split
        · rename_i x t h1 h2
          simp only [ha _ h1 x (by simp)]
        · rfl
      case min =>
        simp only [ostep, ho, pstep]
        split
        · rename_i x y h1
          simp only [ha _ h1 x (by simp), ha _ h1 y (by simp)]
        · rfl
      case max =>
        simp only [ostep, ho, pstep]
        split
        · rename_i x y h1
          simp only [ha _ h1 x (by simp), ha _ h1 y (by simp)]
        · rfl
      all_goals simp only [ostep, ho, pstep]
  case move x => simp only [ostep, ho, pstep, h x (by simp [Op.operands])]
  case assign x => simp only [ostep, ho, pstep, h x (by simp [Op.operands])]
  case pick c x y => simp only [ostep, ho, pstep, h c (by simp [Op.operands]), h x (by simp [Op.operands]), h y (by simp [Op.operands])]
  case box t x => simp only [ostep, ho, h x (by simp [Op.operands])]
  case load t x => simp only [ostep, ho, loadR, h x (by simp [Op.operands])]
  case store t x y => simp only [ostep, ho, h x (by simp [Op.operands]), h y (by simp [Op.operands])]
  case nilCheck x => simp only [ostep, ho, pstep, h x (by simp [Op.operands])]
  case binOp op t x y u => simp only [ostep, ho, pstep, h x (by simp [Op.operands]), h y (by simp [Op.operands])]
  case unOp op t x => simp only [ostep, ho, pstep, h x (by simp [Op.operands])]
  case convert s d x => simp only [ostep, ho, pstep, h x (by simp [Op.operands])]
  case sliceToArrayPointer t x => simp only [ostep, ho, pstep, h x (by simp [Op.operands])]
  case makeSlice t l c => simp only [ostep, ho, h l (by simp [Op.operands]), h c (by simp [Op.operands])]
  case fieldAddr t x f => simp only [ostep, ho, pstep, h x (by simp [Op.operands])]
  case field t x f => simp only [ostep, ho, pstep, h x (by simp [Op.operands])]
  case indexAddr t x i => simp only [ostep, ho, pstep, h x (by simp [Op.operands]), h i (by simp [Op.operands])]
  case index t x i => simp only [ostep, ho, pstep, h x (by simp [Op.operands]), h i (by simp [Op.operands])]
  case extract x i => simp only [ostep, ho, pstep, h x (by simp [Op.operands])]
  all_goals simp only [ostep, ho, pstep]
end
end Go.Abs

/- The abstract machine: a region that draws its order comes to what its text comes to. -/
namespace Go.Abs
open Go
def reads (o : Oper) : List Nat := o.op.operands.toList.filterMap fun | .tmp t => some t | _ => none
def rst (keep : List Nat) (fr : List S) : List S := vwF id keep 0 fr
theorem sm_id (s : S) : sm id s = s := by
  cases s with
  | v x => cases x <;> simp [sm, vm]
  | t xs =>
    have : (vm id) = (id : V → V) := by
      funext x
      cases x <;> simp [vm]
    simp [sm, this]
theorem vwF_keep (f : Cell → Cell) (keep : List Nat) : ∀ (fr : List S) (i j : Nat), keep.contains (i + j) = true → (vwF f keep i fr)[j]? = (fr[j]?).map (sm f)
  | [], i, j, _ => by simp [vwF]
  | s :: r, i, 0, h => by
    have h' : i ∈ keep := by simpa using h
    simp [vwF, h']
  | s :: r, i, j + 1, h => by
    simp only [vwF, List.getElem?_cons_succ]
    exact vwF_keep f keep r (i + 1) j (by rw [show i + 1 + j = i + (j + 1) by omega]; exact h)
theorem rst_get {keep : List Nat} {fr : List S} {t : Nat} (h : t ∈ keep) : (rst keep fr)[t]? = fr[t]? := by
  unfold rst
  rw [vwF_keep id keep fr 0 t (by simpa using h)]
  cases fr[t]? <;> simp [sm_id]
theorem ev_rst {o : Oper} {fr : List S} {x : Operand} (h : x ∈ o.op.operands.toList) : ev (rst (reads o) fr) x = ev fr x := by
  cases x with
  | tmp t =>
    have : t ∈ reads o := by
      simp only [reads, List.mem_filterMap]
      exact ⟨.tmp t, h, rfl⟩
    simp only [ev, rst_get this]
  | const v => cases v <;> rfl
  | global g => rfl
  | func f => rfl
theorem ostep_rst {P : Program} {o : Oper} {fr : List S} {H : Heap} {K : S → Heap → Prop} : ostep P o (rst (reads o) fr) H K = ostep P o fr H K :=
  ostep_congr fun _ hx => ev_rst hx
inductive Anc (ops : List Oper) : Nat → Nat → Prop
  | one {i : Nat} {o : Oper} {e : Edge} : ops[i]? = some o → e ∈ o.after → Region.binds .any e = true → Anc ops i e.on
  | more {i j : Nat} {o : Oper} {e : Edge} : ops[i]? = some o → e ∈ o.after → Region.binds .any e = true → Anc ops e.on j → Anc ops i j
def ancOf (A : List Nat) (o : Oper) : Nat := (o.after.toList.filter fun e => Region.binds .any e).foldl (fun m e => m ||| (2 ^ e.on ||| A.getD e.on 0)) 0
def ancs : List Oper → List Nat → List Nat
  | [], A => A
  | o :: r, A => ancs r (A ++ [ancOf A o])
theorem foldl_bit {A : List Nat} {j : Nat} : ∀ (l : List Edge) (m : Nat), (l.foldl (fun m e => m ||| (2 ^ e.on ||| A.getD e.on 0)) m).testBit j = true → m.testBit j = true ∨ ∃ e ∈ l, j = e.on ∨ (A.getD e.on 0).testBit j = true
  | [], m, h => .inl h
  | e :: r, m, h => by
    rcases foldl_bit r _ h with h | ⟨e', h1, h2⟩
    · rw [Nat.testBit_or, Nat.testBit_or, Nat.testBit_two_pow] at h
      simp only [Bool.or_eq_true, decide_eq_true_eq] at h
      rcases h with h | h | h
      · exact .inl h
      · exact .inr ⟨e, by simp, .inl h.symm⟩
      · exact .inr ⟨e, by simp, .inr h⟩
    · exact .inr ⟨e', by simp [h1], h2⟩
theorem ancs_spec {ops : List Oper} : ∀ (r : List Oper) (A : List Nat), (∀ j, r[j]? = ops[A.length + j]?) → (∀ i j, (A.getD i 0).testBit j = true → Anc ops i j) →
    ∀ i j, ((ancs r A).getD i 0).testBit j = true → Anc ops i j
  | [], A, _, h => h
  | o :: r, A, hr, h => by
    refine ancs_spec r (A ++ [ancOf A o]) (fun j => ?_) (fun i j hb => ?_)
    · have := hr (j + 1)
      simp only [List.getElem?_cons_succ] at this
      rw [this, List.length_append]
      simp only [List.length_cons, List.length_nil]
      rw [show A.length + (j + 1) = A.length + (0 + 1) + j by omega]
    · rw [List.getD_eq_getElem?_getD] at hb
      by_cases hi : i < A.length
      · rw [List.getElem?_append_left hi, ← List.getD_eq_getElem?_getD] at hb
        exact h i j hb
      · by_cases hi2 : i = A.length
        · subst hi2
          rw [List.getElem?_append_right (Nat.le_refl _)] at hb
          simp only [Nat.sub_self, List.getElem?_cons_zero, Option.getD_some] at hb
          have ho := hr 0
          simp only [List.getElem?_cons_zero, Nat.add_zero] at ho
          rcases foldl_bit _ _ hb with hb | ⟨e, h1, h2⟩
          · simp at hb
          · simp only [List.mem_filter, Array.mem_toList_iff] at h1
            rcases h2 with rfl | h2
            · exact .one ho.symm h1.1 h1.2
            · exact .more ho.symm h1.1 h1.2 (h _ _ h2)
        · rw [List.getElem?_eq_none (by simp; omega)] at hb
          simp at hb
structure Fits (ops : List Oper) (n : Nat) (fr0 : List S) (vals : Nat → S) (D : Nat → Bool) (fr : List S) : Prop where
  len : fr.length = fr0.length
  old : ∀ t, (∀ (j : Nat) o, j < n → D j = true → ops[j]? = some o → o.dst ≠ some t) → fr[t]? = fr0[t]?
  new : ∀ (j : Nat) o t, j < n → D j = true → ops[j]? = some o → o.dst = some t → t < fr0.length → fr[t]? = some (vals j)
def rdsB (ops : List Oper) (o : Oper) : List Nat := reads o ++ (match o.guard with | some (j, _) => ((ops[j]?).bind (·.dst)).toList | none => [])
def Uniq (ops : List Oper) (n : Nat) : Prop := ∀ (i j : Nat) oi oj t, i < n → j < n → i ≠ j → ops[i]? = some oi → ops[j]? = some oj → oj.dst = some t → oi.dst ≠ some t
def topoE (ops : List Oper) : Bool :=
  (List.range ops.length).all fun i => match ops[i]? with
    | some o => o.after.all fun e => !Region.binds .any e || decide (e.on < i)
    | none => false
def depE (ops : List Oper) (A : List Nat) : Bool :=
  (List.range ops.length).all fun i => (List.range ops.length).all fun j => i == j || (match ops[i]?, ops[j]? with
    | some oi, some oj => (match oj.dst with
      | some t => oi.dst != some t && (!(rdsB ops oi).contains t || (if j < i then (A.getD i 0).testBit j else (A.getD j 0).testBit i))
      | none => true)
    | _, _ => false)
def chainE (n : Nat) (A : List Nat) (es : List Nat) : Bool :=
  (List.range es.length).all fun m => decide (es.getD m 0 < n) && (m + 1 == es.length || (decide (es.getD m 0 < es.getD (m + 1) 0) && (A.getD (es.getD (m + 1) 0) 0).testBit (es.getD m 0)))
def rangeE (n : Nat) (A : List Nat) (es lo hi : List Nat) : Bool :=
  (List.range n).all fun i => es.contains i || ((lo.getD i 0 == 0 || (decide (lo.getD i 0 ≤ es.length) && (A.getD i 0).testBit (es.getD (lo.getD i 0 - 1) 0))) && (decide (es.length ≤ hi.getD i 0) || (A.getD (es.getD (hi.getD i 0) 0) 0).testBit i))
def drawE (ops : List Oper) (es lo hi : List Nat) : Bool :=
  let A := ancs ops []
  topoE ops && depE ops A && chainE ops.length A es && rangeE ops.length A es lo hi
structure DrawOk (ops : List Oper) (es lo hi : List Nat) : Prop where
  topo : ∀ (i : Nat) o, ops[i]? = some o → ∀ e ∈ o.after, Region.binds .any e = true → e.on < i
  uniq : Uniq ops ops.length
  dep : ∀ (i j : Nat) oi oj t, i ≠ j → ops[i]? = some oi → ops[j]? = some oj → oj.dst = some t → t ∈ rdsB ops oi → (j < i ∧ Anc ops i j) ∨ (i < j ∧ Anc ops j i)
  lt : ∀ (m e : Nat), es[m]? = some e → e < ops.length
  chain : ∀ (m e e' : Nat), es[m]? = some e → es[m + 1]? = some e' → e < e' ∧ Anc ops e' e
  lo : ∀ i, i < ops.length → i ∉ es → lo.getD i 0 ≤ es.length ∧ ∀ m e, m + 1 = lo.getD i 0 → es[m]? = some e → Anc ops i e
  hi : ∀ i, i < ops.length → i ∉ es → ∀ e, es[hi.getD i 0]? = some e → Anc ops e i
theorem drawE_ok {ops : List Oper} {es lo hi : List Nat} (h : drawE ops es lo hi = true) : DrawOk ops es lo hi := by
  simp only [drawE, Bool.and_eq_true] at h
  obtain ⟨⟨⟨h1, h2⟩, h3⟩, h4⟩ := h
  have hA : ∀ i j, ((ancs ops []).getD i 0).testBit j = true → Anc ops i j := ancs_spec ops [] (fun j => by simp) (fun i j hb => by simp at hb)
  have hd : ∀ (i j : Nat) oi oj t, i < ops.length → j < ops.length → i ≠ j → ops[i]? = some oi → ops[j]? = some oj → oj.dst = some t →
      oi.dst ≠ some t ∧ (t ∈ rdsB ops oi → (j < i ∧ Anc ops i j) ∨ (i < j ∧ Anc ops j i)) := by
    intro i j oi oj t hi hj hij hoi hoj ht
    have := List.all_eq_true.1 (List.all_eq_true.1 h2 i (List.mem_range.2 hi)) j (List.mem_range.2 hj)
    rw [hoi, hoj] at this
    simp only [ht, Bool.or_eq_true, beq_iff_eq, Bool.and_eq_true, bne_iff_ne, Bool.not_eq_true'] at this
    rcases this with h | ⟨h, k⟩
    · exact absurd h hij
    · refine ⟨h, fun hm => ?_⟩
      rcases k with k | k
      · have : (rdsB ops oi).contains t = true := by simpa using hm
        rw [this] at k; cases k
      · by_cases hlt : j < i
        · rw [if_pos hlt] at k; exact .inl ⟨hlt, hA _ _ k⟩
        · rw [if_neg hlt] at k; exact .inr ⟨by omega, hA _ _ k⟩
  have hget : ∀ (m e : Nat), es[m]? = some e → m < es.length ∧ es.getD m 0 = e := fun m e h => by
    obtain ⟨g1, g2⟩ := List.getElem?_eq_some_iff.1 h
    exact ⟨g1, by rw [List.getD_eq_getElem?_getD, h]; rfl⟩
  have hc : ∀ m, m < es.length → es.getD m 0 < ops.length ∧ (m + 1 = es.length ∨ (es.getD m 0 < es.getD (m + 1) 0 ∧ ((ancs ops []).getD (es.getD (m + 1) 0) 0).testBit (es.getD m 0) = true)) := by
    intro m hm
    have := List.all_eq_true.1 h3 m (List.mem_range.2 hm)
    simpa [Bool.and_eq_true, Bool.or_eq_true] using this
  have hr : ∀ i, i < ops.length → i ∉ es → (lo.getD i 0 = 0 ∨ (lo.getD i 0 ≤ es.length ∧ ((ancs ops []).getD i 0).testBit (es.getD (lo.getD i 0 - 1) 0) = true)) ∧ (es.length ≤ hi.getD i 0 ∨ ((ancs ops []).getD (es.getD (hi.getD i 0) 0) 0).testBit i = true) := by
    intro i hi' hne
    have := List.all_eq_true.1 h4 i (List.mem_range.2 hi')
    simp only [Bool.and_eq_true, Bool.or_eq_true, beq_iff_eq, decide_eq_true_eq, List.contains_iff_mem] at this
    rcases this with h | h
    · exact absurd h hne
    · exact h
  refine ⟨fun i o ho e he hb => ?_, fun i j oi oj t hi hj hij hoi hoj ht => (hd i j oi oj t hi hj hij hoi hoj ht).1, fun i j oi oj t hij hoi hoj ht hm => (hd i j oi oj t (List.getElem?_eq_some_iff.1 hoi).1 (List.getElem?_eq_some_iff.1 hoj).1 hij hoi hoj ht).2 hm,
    fun m e hm => ?_, fun m e e' hm hm' => ?_, fun i hi' hne => ?_, fun i hi' hne e he => ?_⟩
  · have := List.all_eq_true.1 h1 i (List.mem_range.2 (List.getElem?_eq_some_iff.1 ho).1)
    rw [ho] at this
    have := Array.all_eq_true'.1 this e he
    simp only [hb, Bool.not_true, Bool.false_or, decide_eq_true_eq] at this
    exact this
  · obtain ⟨g1, g2⟩ := hget m e hm
    rw [← g2]; exact (hc m g1).1
  · obtain ⟨g1, g2⟩ := hget m e hm
    obtain ⟨g3, g4⟩ := hget (m + 1) e' hm'
    rcases (hc m g1).2 with k | ⟨k1, k2⟩
    · omega
    · rw [g2, g4] at k1 k2; exact ⟨k1, hA _ _ k2⟩
  · rcases (hr i hi' hne).1 with k | ⟨k1, k2⟩
    · exact ⟨by omega, fun m e hm _ => by omega⟩
    · refine ⟨k1, fun m e hm he => ?_⟩
      rw [show lo.getD i 0 - 1 = m by omega, (hget m e he).2] at k2
      exact hA _ _ k2
  · obtain ⟨g1, g2⟩ := hget _ e he
    rcases (hr i hi' hne).2 with k | k
    · omega
    · rw [g2] at k; exact hA _ _ k
theorem Fits.agree {ops : List Oper} {n : Nat} {fr0 fr fr' : List S} {vals : Nat → S} {D D' : Nat → Bool} (h : Fits ops n fr0 vals D fr) (h' : Fits ops n fr0 vals D' fr') {t : Nat}
    (hD : ∀ (j : Nat) o, j < n → ops[j]? = some o → o.dst = some t → D j = D' j) : fr[t]? = fr'[t]? := by
  by_cases ht : t < fr0.length
  · by_cases hw : ∃ (j : Nat) (o : Oper), j < n ∧ D j = true ∧ ops[j]? = some o ∧ o.dst = some t
    · obtain ⟨j, o, h1, h2, h3, h4⟩ := hw
      rw [h.new j o t h1 h2 h3 h4 ht, h'.new j o t h1 (by rw [← hD j o h1 h3 h4]; exact h2) h3 h4 ht]
    · rw [h.old t (fun j o h1 h2 h3 h4 => hw ⟨j, o, h1, h2, h3, h4⟩), h'.old t (fun j o h1 h2 h3 h4 => hw ⟨j, o, h1, by rw [hD j o h1 h3 h4]; exact h2, h3, h4⟩)]
  · rw [List.getElem?_eq_none (by rw [h.len]; omega), List.getElem?_eq_none (by rw [h'.len]; omega)]
theorem Fits.put {ops : List Oper} {n : Nat} (ok : Uniq ops n) {fr0 fr : List S} {vals : Nat → S} {D D' : Nat → Bool} (h : Fits ops n fr0 vals D fr) {i : Nat} {o : Oper} (hi : i < n) (ho : ops[i]? = some o)
    (hD : ∀ j, D' j = true ↔ (D j = true ∨ j = i)) : Fits ops n fr0 vals D' (put fr o.dst (vals i)) := by
  refine ⟨by rw [put_length]; exact h.len, fun t ht => ?_, fun j oj t hj hd hoj hdst htl => ?_⟩
  · have h1 : o.dst ≠ some t := ht i o hi ((hD i).2 (.inr rfl)) ho
    have h2 := h.old t fun j oj hj hd hoj => ht j oj hj ((hD j).2 (.inl hd)) hoj
    cases hdd : o.dst with
    | none => simpa [Abs.put] using h2
    | some d =>
      simp only [Abs.put]
      rw [List.getElem?_set_ne (fun e => h1 (by rw [hdd, e]))]
      exact h2
  · by_cases hji : j = i
    · subst hji
      rw [ho] at hoj
      obtain rfl := Option.some.inj hoj
      rw [hdst]
      simp only [Abs.put]
      rw [List.getElem?_set_self (by rw [h.len]; exact htl)]
    · have hdj : D j = true := by
        rcases (hD j).1 hd with h1 | h1
        · exact h1
        · exact absurd h1 hji
      have h2 := h.new j oj t hj hdj hoj hdst htl
      cases hdd : o.dst with
      | none => simpa [Abs.put] using h2
      | some d =>
        have h3 := ok i j o oj t hi hj (fun e => hji e.symm) ho hoj hdst
        simp only [Abs.put]
        rw [List.getElem?_set_ne (fun e => h3 (by rw [hdd, e]))]
        exact h2
theorem countP_set {p p' : Nat → Bool} {i : Nat} : ∀ {l : List Nat}, l.Nodup → i ∈ l → p i = false → (∀ j, p' j = (p j || j == i)) → l.countP p' = l.countP p + 1
  | [], _, h, _, _ => by cases h
  | x :: l, hnd, hm, hp, hpp => by
    rw [List.nodup_cons] at hnd
    rw [List.countP_cons, List.countP_cons]
    by_cases hx : x = i
    · subst hx
      have hsame : l.countP p' = l.countP p := by
        apply List.countP_congr
        intro j hj
        rw [hpp j]
        have : j ≠ x := fun e => hnd.1 (e ▸ hj)
        simp [this]
      rw [hsame, hpp x, hp]
      simp
    · have hm' : i ∈ l := by
        rcases List.mem_cons.1 hm with h | h
        · exact absurd h.symm hx
        · exact h
      rw [countP_set hnd.2 hm' hp hpp, hpp x]
      have : (x == i) = false := by simpa using hx
      simp only [this, Bool.or_false]
      omega
end Go.Abs

/- The abstract machine: a region that draws its order, whatever order is drawn. -/
namespace Go.Abs
open Go
theorem getD_set_i {l : Array Bool} {i j : Nat} (d : Bool) (hi : i < l.size) : (l.setIfInBounds i true).getD j d = if j = i then true else l.getD j d := by
  simp only [Array.getD_eq_getD_getElem?]
  by_cases h : j = i
  · subst h; simp [hi]
  · rw [if_neg h, Array.getElem?_setIfInBounds_ne (fun e => h e.symm)]
def Sub (V H : Heap) : Prop := ∀ (p : Nat) cs, V[p]? = some (some cs) → H[p]? = some (some cs)
def EStep (P : Program) (ops : List Oper) (o : Oper) (fr : List S) (H : Heap) (s : S) (H' : Heap) : Prop :=
  match o.guard with
  | none => OpG P o (rst (reads o) fr) H s H'
  | some (j, want) => ∃ b, guardOf ops fr j = some b ∧ (b = some want → OpG P o (rst (reads o) fr) H s H') ∧ (b ≠ some want → s = us ∧ H' = H)
def RStep (P : Program) (ops : List Oper) (o : Oper) (fr : List S) (V : Heap) (s : S) : Prop :=
  match o.guard with
  | none => ∀ V', Sub V V' → OpG P o (rst (reads o) fr) V' s V'
  | some (j, want) => ∃ b, guardOf ops fr j = some b ∧ (b = some want → ∀ V', Sub V V' → OpG P o (rst (reads o) fr) V' s V') ∧ (b ≠ some want → s = us)
def Tr (P : Program) (ops : List Oper) (E : Nat) (lo hi : List Nat) (vals : Nat → S) (hp Vs : Nat → Heap) (Q : St → Prop) : List Oper → Nat → List Nat → Nat → List S → Prop
  | [], _, rem, k, fr => rem = [] ∧ Q ⟨fr, hp k⟩
  | o :: r, i, rem, k, fr =>
    if rem.head? = some i then EStep P ops o fr (hp k) (vals i) (hp (k + 1)) ∧ Tr P ops E lo hi vals hp Vs Q r (i + 1) rem.tail (k + 1) (put fr o.dst (vals i))
    else RStep P ops o fr (Vs i) (vals i) ∧ (∀ k', lo.getD i 0 ≤ k' → k' ≤ hi.getD i 0 → k' ≤ E → Sub (Vs i) (hp k')) ∧ Tr P ops E lo hi vals hp Vs Q r (i + 1) rem k (put fr o.dst (vals i))
theorem Tr.congr {P : Program} {ops : List Oper} {E : Nat} {lo hi : List Nat} {hp : Nat → Heap} {vals vals' : Nat → S} {Vs Vs' : Nat → Heap} {Q : St → Prop} : ∀ (l : List Oper) (i : Nat) (rem : List Nat) (k : Nat) (fr : List S),
    (∀ j, i ≤ j → vals j = vals' j ∧ Vs j = Vs' j) → Tr P ops E lo hi vals hp Vs Q l i rem k fr → Tr P ops E lo hi vals' hp Vs' Q l i rem k fr
  | [], _, _, _, _, _, h => h
  | o :: r, i, rem, k, fr, he, h => by
    simp only [Tr] at h ⊢
    rw [← (he i (Nat.le_refl _)).1, ← (he i (Nat.le_refl _)).2]
    split at h
    · rename_i hr; rw [if_pos hr]
      exact ⟨h.1, Tr.congr r (i + 1) _ _ _ (fun j hj => he j (by omega)) h.2⟩
    · rename_i hr; rw [if_neg hr]
      exact ⟨h.1, h.2.1, Tr.congr r (i + 1) _ _ _ (fun j hj => he j (by omega)) h.2.2⟩
def pendOk : List (Nat × Heap) → Nat → Heap → Prop
  | [], _, _ => True
  | (h, V) :: r, m, H => (bif Nat.ble m h then Sub V H else True) ∧ pendOk r m H
theorem pendOk_get : ∀ {l : List (Nat × Heap)} {m : Nat} {H : Heap}, pendOk l m H → ∀ x ∈ l, m ≤ x.1 → Sub x.2 H
  | [], _, _, _, x, hx, _ => by cases hx
  | (h, V) :: r, m, H, hk, x, hx, hm => by
    simp only [pendOk] at hk
    rcases List.mem_cons.1 hx with rfl | hx
    · have : Nat.ble m h = true := by rw [Nat.ble_eq]; exact hm
      rw [this] at hk
      exact hk.1
    · exact pendOk_get hk.2 x hx hm
def seen (V : Heap) : List Heap → Prop
  | [] => True
  | H :: r => Sub V H ∧ seen V r
theorem seen_get {V : Heap} : ∀ {l : List Heap}, seen V l → ∀ H ∈ l, Sub V H
  | [], _, _, h => by cases h
  | H :: r, hs, x, hx => by
    rcases List.mem_cons.1 hx with rfl | hx
    · exact hs.1
    · exact seen_get hs.2 x hx
def Dw (P : Program) (ops : List Oper) (lo hi : List Nat) (Q : St → Prop) : List Oper → Nat → List Nat → List Heap → List (Nat × Heap) → List S → Prop
  | [], _, rem, hist, _, fr => rem = [] ∧ Q ⟨fr, hist.headD []⟩
  | o :: r, i, rem, hist, pend, fr =>
    if rem.head? = some i then
      match o.guard with
      | none => ostep P o fr (hist.headD []) fun s H' => pendOk pend hist.length H' ∧ Dw P ops lo hi Q r (i + 1) rem.tail (H' :: hist) pend (put fr o.dst s)
      | some (j, want) => ∃ b, guardOf ops fr j = some b ∧ (b = some want → ostep P o fr (hist.headD []) fun s H' => pendOk pend hist.length H' ∧ Dw P ops lo hi Q r (i + 1) rem.tail (H' :: hist) pend (put fr o.dst s)) ∧
          (b ≠ some want → pendOk pend hist.length (hist.headD []) ∧ Dw P ops lo hi Q r (i + 1) rem.tail (hist.headD [] :: hist) pend (put fr o.dst us))
    else ∃ V s pend', (pend' = (hi.getD i 0, V) :: pend ∨ (pend' = pend ∧ V = [])) ∧ seen V (hist.take (hist.length - lo.getD i 0)) ∧
      (match o.guard with
        | none => ∀ V', Sub V V' → ostep P o fr V' fun s' H' => s' = s ∧ H' = V'
        | some (j, want) => ∃ b, guardOf ops fr j = some b ∧ (b = some want → ∀ V', Sub V V' → ostep P o fr V' fun s' H' => s' = s ∧ H' = V') ∧ (b ≠ some want → s = us)) ∧
      Dw P ops lo hi Q r (i + 1) rem hist pend' (put fr o.dst s)
theorem dw_tr {P : Program} {ops : List Oper} {E : Nat} {lo hi : List Nat} {Q : St → Prop} : ∀ (l : List Oper) (i : Nat) (rem : List Nat) (hist : List Heap) (pend : List (Nat × Heap)) (fr : List S),
    hist ≠ [] → E + 1 = hist.length + rem.length → Dw P ops lo hi Q l i rem hist pend fr →
    ∃ vals hp Vs, (∀ j, j < hist.length → hist[hist.length - 1 - j]? = some (hp j)) ∧ (∀ x ∈ pend, ∀ k', hist.length ≤ k' → k' ≤ x.1 → k' ≤ E → Sub x.2 (hp k')) ∧
      Tr P ops E lo hi vals hp Vs Q l i rem (hist.length - 1) fr
  | [], i, rem, hist, pend, fr, hne, hE, h => by
    obtain ⟨rfl, hq⟩ := h
    have hlen : 0 < hist.length := List.length_pos_iff.2 hne
    refine ⟨fun _ => ud, fun j => (hist[hist.length - 1 - j]?).getD [], fun _ => [], fun j hj => ?_, fun x _ k' h1 _ h3 => ?_, rfl, ?_⟩
    · show _ = some ((hist[hist.length - 1 - j]?).getD [])
      rw [List.getElem?_eq_getElem (by omega)]; rfl
    · simp at hE; omega
    · have : (hist[hist.length - 1 - (hist.length - 1)]?).getD [] = hist.headD [] := by
        rw [Nat.sub_self]; cases hist <;> simp
      show Q ⟨fr, (hist[hist.length - 1 - (hist.length - 1)]?).getD []⟩
      rw [this]; exact hq
  | o :: r, i, rem, hist, pend, fr, hne, hE, h => by
    have hlen : 0 < hist.length := List.length_pos_iff.2 hne
    simp only [Dw] at h
    split at h
    · rename_i hr
      have hrem : rem.length = rem.tail.length + 1 := by cases rem <;> simp at hr ⊢
      have mk : ∀ s H', pendOk pend hist.length H' → EStep P ops o fr (hist.headD []) s H' → Dw P ops lo hi Q r (i + 1) rem.tail (H' :: hist) pend (put fr o.dst s) →
          ∃ vals hp Vs, (∀ j, j < hist.length → hist[hist.length - 1 - j]? = some (hp j)) ∧ (∀ x ∈ pend, ∀ k', hist.length ≤ k' → k' ≤ x.1 → k' ≤ E → Sub x.2 (hp k')) ∧ Tr P ops E lo hi vals hp Vs Q (o :: r) i rem (hist.length - 1) fr := by
        intro s H' hp1 hst hd
        obtain ⟨vals, hp, Vs, k1, k2, k3⟩ := dw_tr (E := E) r (i + 1) rem.tail (H' :: hist) pend _ (by simp) (by rw [List.length_cons]; omega) hd
        have g0 : hp hist.length = H' := by
          have := k1 hist.length (by simp)
          simpa using this.symm
        have g1 : ∀ j, j < hist.length → hist[hist.length - 1 - j]? = some (hp j) := fun j hj => by
          have := k1 j (by rw [List.length_cons]; omega)
          rw [← this, List.length_cons, show hist.length + 1 - 1 - j = (hist.length - 1 - j) + 1 by omega, List.getElem?_cons_succ]
        have g2 : hp (hist.length - 1) = hist.headD [] := by
          have := g1 (hist.length - 1) (by omega)
          rw [Nat.sub_self] at this
          cases hist with
          | nil => simp at hlen
          | cons x y => simp at this ⊢; exact this.symm
        refine ⟨fun j => if j = i then s else vals j, hp, Vs, g1, fun x hx k' h1 h2 h3 => ?_, ?_⟩
        · by_cases hk : k' = hist.length
          · subst hk; rw [g0]; exact pendOk_get hp1 x hx h2
          · exact k2 x hx k' (by rw [List.length_cons]; omega) h2 h3
        · simp only [Tr, if_pos hr, if_true]
          refine ⟨?_, ?_⟩
          · rw [g2, show hist.length - 1 + 1 = hist.length by omega, g0]; exact hst
          · rw [show hist.length - 1 + 1 = hist.length by omega]
            exact Tr.congr r (i + 1) _ _ _ (fun j hj => ⟨by rw [if_neg (by omega)], rfl⟩) (by simpa using k3)
      split at h
      · rename_i hg
        rw [← ostep_rst] at h
        obtain ⟨s, H', h1, h2, h3⟩ := ostep_sound h
        exact mk s H' h2 (by simp only [EStep, hg]; exact h1) h3
      · rename_i j want hg
        obtain ⟨b, hb, h1, h2⟩ := h
        by_cases hbw : b = some want
        · have h' := h1 hbw
          rw [← ostep_rst] at h'
          obtain ⟨s, H', g1, g2, g3⟩ := ostep_sound h'
          exact mk s H' g2 (by simp only [EStep, hg]; exact ⟨b, hb, fun _ => g1, fun hn => absurd hbw hn⟩) g3
        · obtain ⟨g2, g3⟩ := h2 hbw
          exact mk us (hist.headD []) g2 (by simp only [EStep, hg]; exact ⟨b, hb, fun he => absurd he hbw, fun _ => ⟨trivial, trivial⟩⟩) g3
    · rename_i hr
      obtain ⟨V, s, pend', hp', hsn, hst, hd⟩ := h
      have still : ∀ {V' : Heap}, (ostep P o fr V' fun s' H' => s' = s ∧ H' = V') → OpG P o (rst (reads o) fr) V' s V' := fun {V'} h => by
        rw [← ostep_rst] at h
        obtain ⟨s1, H1, g1, rfl, rfl⟩ := ostep_sound h
        exact g1
      obtain ⟨vals, hp, Vs, k1, k2, k3⟩ := dw_tr r (i + 1) rem hist pend' _ hne hE hd
      refine ⟨fun j => if j = i then s else vals j, hp, fun j => if j = i then V else Vs j, k1, fun x hx k' h1 h2 h3 => k2 x (by rcases hp' with rfl | ⟨rfl, _⟩ <;> simp [hx]) k' h1 h2 h3, ?_⟩
      simp only [Tr, if_neg hr, if_true]
      refine ⟨?_, fun k' g1 g2 g3 => ?_, Tr.congr r (i + 1) _ _ _ (fun j hj => ⟨by rw [if_neg (by omega)], by rw [if_neg (by omega)]⟩) k3⟩
      · unfold RStep
        split at hst
        · rename_i hg
          exact fun V' hV => still (hst V' hV)
        · rename_i j want hg
          obtain ⟨b, hb, h1, h2⟩ := hst
          exact ⟨b, hb, fun he V' hV => still (h1 he V' hV), h2⟩
      · by_cases hk : k' < hist.length
        · have hm := k1 k' hk
          have hmem : hp k' ∈ hist.take (hist.length - lo.getD i 0) := by
            rw [List.mem_iff_getElem?]
            exact ⟨hist.length - 1 - k', by rw [List.getElem?_take, if_pos (by omega)]; exact hm⟩
          exact seen_get hsn _ hmem
        · rcases hp' with rfl | ⟨_, rfl⟩
          · exact k2 (hi.getD i 0, V) (by simp) k' (by omega) g2 g3
          · intro p cs h; simp at h
theorem tr_each {P : Program} {ops : List Oper} {es lo hi : List Nat} (ok : DrawOk ops es lo hi) {vals : Nat → S} {hp Vs : Nat → Heap} {Q : St → Prop} {fr0 : List S} : ∀ (l : List Oper) (i k : Nat) (fr : List S),
    (∀ j, l[j]? = ops[i + j]?) → i + l.length = ops.length → k ≤ es.length → (∀ (m e : Nat), es[m]? = some e → (e < i ↔ m < k)) → Fits ops ops.length fr0 vals (fun j => decide (j < i)) fr → Tr P ops es.length lo hi vals hp Vs Q l i (es.drop k) k fr →
    (∀ (j : Nat) o, i ≤ j → ops[j]? = some o → ∃ frj, Fits ops ops.length fr0 vals (fun k => decide (k < j)) frj ∧ (∀ m, es[m]? = some j → EStep P ops o frj (hp m) (vals j) (hp (m + 1))) ∧
        (j ∉ es → RStep P ops o frj (Vs j) (vals j) ∧ ∀ k', lo.getD j 0 ≤ k' → k' ≤ hi.getD j 0 → k' ≤ es.length → Sub (Vs j) (hp k'))) ∧
      ∃ frn, Fits ops ops.length fr0 vals (fun k => decide (k < ops.length)) frn ∧ Q ⟨frn, hp es.length⟩
  | [], i, k, fr, hl, hn, hk, hm, hf, h => by
    obtain ⟨h1, h2⟩ := h
    have hi' : i = ops.length := by simpa using hn
    subst hi'
    refine ⟨fun j o h1 h2 => by have := (List.getElem?_eq_some_iff.1 h2).1; omega, fr, hf, ?_⟩
    have hk2 : es.length ≤ k := by
      have := congrArg List.length h1
      simp at this; omega
    rw [show es.length = k by omega]; exact h2
  | o :: r, i, k, fr, hl, hn, hk, hm, hf, h => by
    simp only [List.length_cons] at hn
    have ho : ops[i]? = some o := by
      have := hl 0
      simpa using this.symm
    have hf' : Fits ops ops.length fr0 vals (fun j => decide (j < i + 1)) (put fr o.dst (vals i)) := hf.put ok.uniq (by omega) ho fun j => by simp; omega
    have hl' : ∀ j, r[j]? = ops[i + 1 + j]? := fun j => by
      have := hl (j + 1)
      simp only [List.getElem?_cons_succ] at this
      rw [this, show i + 1 + j = i + (j + 1) by omega]
    simp only [Tr] at h
    by_cases hr : (es.drop k).head? = some i
    · rw [if_pos hr] at h
      have hek : es[k]? = some i := by
        rw [List.head?_drop] at hr; exact hr
      have hklt := (List.getElem?_eq_some_iff.1 hek).1
      have hm' : ∀ (m e : Nat), es[m]? = some e → (e < i + 1 ↔ m < k + 1) := fun m e he => by
        have h1 := hm m e he
        constructor
        · intro hlt
          rcases Nat.lt_or_ge e i with g | g
          · have := h1.1 g; omega
          · have hei : e = i := by omega
            subst hei
            rcases Nat.lt_or_ge m (k + 1) with g2 | g2
            · exact g2
            · exfalso
              have hs : ∀ d, k + d + 1 < es.length → ∀ e', es[k + d + 1]? = some e' → e < e' := by
                intro d
                induction d with
                | zero => intro hd e' he'; exact (ok.chain k e e' hek he').1
                | succ d ih =>
                  intro hd e' he'
                  obtain ⟨e'', hee⟩ : ∃ e'', es[k + d + 1]? = some e'' := ⟨_, List.getElem?_eq_getElem (by omega)⟩
                  have := ih (by omega) e'' hee
                  have := (ok.chain (k + d + 1) e'' e' hee he').1
                  omega
              have hml := (List.getElem?_eq_some_iff.1 he).1
              have := hs (m - k - 1) (by omega) e (by rw [show k + (m - k - 1) + 1 = m by omega]; exact he)
              omega
        · intro hlt
          by_cases hmk : m = k
          · subst hmk; rw [hek] at he; have := Option.some.inj he; omega
          · have := h1.2 (by omega); omega
      have htl : (es.drop k).tail = es.drop (k + 1) := by rw [List.tail_drop]
      rw [htl] at h
      obtain ⟨g1, g2⟩ := tr_each ok r (i + 1) (k + 1) _ hl' (by omega) (by omega) hm' hf' h.2
      refine ⟨fun j oj k1 k2 => ?_, g2⟩
      by_cases hji : j = i
      · subst hji
        rw [ho] at k2
        obtain rfl := Option.some.inj k2
        refine ⟨fr, hf, fun m hme => ?_, fun hne => absurd (List.mem_of_getElem? hek) hne⟩
        have hmk : m = k := by
          have := (hm' m j hme).1 (by omega)
          have h2 := hm m j hme
          rcases Nat.lt_or_ge m k with g | g
          · have := h2.2 g; omega
          · omega
        subst hmk; exact h.1
      · exact g1 j oj (by omega) k2
    · rw [if_neg hr] at h
      have hne : i ∉ es := by
        intro hmem
        obtain ⟨m, hme⟩ := List.mem_iff_getElem?.1 hmem
        have h1 := hm m i hme
        have hmk : k ≤ m := by
          rcases Nat.lt_or_ge m k with g | g
          · have := h1.2 g; omega
          · exact g
        have hml := (List.getElem?_eq_some_iff.1 hme).1
        obtain ⟨e, hek⟩ : ∃ e, es[k]? = some e := ⟨_, List.getElem?_eq_getElem (by omega)⟩
        have hei : i ≤ e := by
          rcases Nat.lt_or_ge e i with g | g
          · have := (hm k e hek).1 g; omega
          · exact g
        by_cases hmk2 : m = k
        · subst hmk2
          apply hr
          rw [List.head?_drop]; exact hme
        · have hs : ∀ d, k + d + 1 < es.length → ∀ e', es[k + d + 1]? = some e' → e < e' := by
            intro d
            induction d with
            | zero => intro hd e' he'; exact (ok.chain k e e' hek he').1
            | succ d ih =>
              intro hd e' he'
              obtain ⟨e'', hee⟩ : ∃ e'', es[k + d + 1]? = some e'' := ⟨_, List.getElem?_eq_getElem (by omega)⟩
              have := ih (by omega) e'' hee
              have := (ok.chain (k + d + 1) e'' e' hee he').1
              omega
          have := hs (m - k - 1) (by omega) i (by rw [show k + (m - k - 1) + 1 = m by omega]; exact hme)
          omega
      have hm' : ∀ (m e : Nat), es[m]? = some e → (e < i + 1 ↔ m < k) := fun m e he => by
        have h1 := hm m e he
        have : e ≠ i := fun h => hne (h ▸ List.mem_of_getElem? he)
        constructor
        · intro hlt; exact h1.1 (by omega)
        · intro hlt; have := h1.2 hlt; omega
      obtain ⟨g1, g2⟩ := tr_each ok r (i + 1) k _ hl' (by omega) hk hm' hf' h.2.2
      refine ⟨fun j oj k1 k2 => ?_, g2⟩
      by_cases hji : j = i
      · subst hji
        rw [ho] at k2
        obtain rfl := Option.some.inj k2
        exact ⟨fr, hf, fun m hme => absurd (List.mem_of_getElem? hme) hne, fun _ => ⟨h.1, h.2.1⟩⟩
      · exact g1 j oj (by omega) k2
theorem anc_listed {ops : List Oper} {listed : Array Bool} (closed : ∀ (j : Nat) oj, ops[j]? = some oj → listed.getD j false = true → ∀ e ∈ oj.after, Region.binds .any e = true → listed.getD e.on false = true) {i j : Nat} (h : Anc ops i j) :
    (∀ o, ops[i]? = some o → ∀ e ∈ o.after, Region.binds .any e = true → listed.getD e.on false = true) → listed.getD j false = true := by
  induction h with
  | one ho he hb => exact fun hd => hd _ ho _ he hb
  | more ho he hb _ ih => exact fun hd => ih fun o' ho' e' he' hb' => closed _ o' ho' (hd _ ho _ he hb) e' he' hb'
section
variable {P : Program} {ops : List Oper} {es lo hi : List Nat} {n0 : Nat} {vals : Nat → S} {hp Vs : Nat → Heap} {fr0 : List S} {Q : Exit → St → Prop}
def post (n0 : Nat) (E : Env) (ρ : Nat → Place) (Q : Exit → St → Prop) : Exit → Act → World → Prop :=
  fun e a' w' => ∃ st' ρ', Q e st' ∧ (∀ p, p < n0 → ρ' p = ρ p) ∧ Sim E ρ' st' a' w'
theorem post_trans {E : Env} {ρ ρ' : Nat → Place} (h : ∀ p, p < n0 → ρ' p = ρ p) : post n0 E ρ' Q = post n0 E ρ Q := by
  funext e a w
  apply propext
  constructor
  · rintro ⟨s, r, k1, k2, k3⟩; exact ⟨s, r, k1, fun p hp => (k2 p hp).trans (h p hp), k3⟩
  · rintro ⟨s, r, k1, k2, k3⟩; exact ⟨s, r, k1, fun p hp => (k2 p hp).trans (h p hp).symm, k3⟩
theorem draw_game (ok : DrawOk ops es lo hi)
    (hst : ∀ (j : Nat) o, ops[j]? = some o → ∃ frj, Fits ops ops.length fr0 vals (fun k => decide (k < j)) frj ∧ (∀ m, es[m]? = some j → EStep P ops o frj (hp m) (vals j) (hp (m + 1))) ∧
        (j ∉ es → RStep P ops o frj (Vs j) (vals j) ∧ ∀ k', lo.getD j 0 ≤ k' → k' ≤ hi.getD j 0 → k' ≤ es.length → Sub (Vs j) (hp k')))
    (hend : ∃ frn, Fits ops ops.length fr0 vals (fun k => decide (k < ops.length)) frn ∧ Q .normal ⟨frn, hp es.length⟩) {E : Env} (hE : E.Ok) :
    ∀ (f k : Nat) (ρ : Nat → Place) (listed : Array Bool) (fr : List S) (a : Act) (w : World), (List.range ops.length).countP (fun j => listed.getD j false) + f = ops.length →
      HeadInv .any ops.toArray ops.length listed → k ≤ es.length → (∀ (m e : Nat), es[m]? = some e → (listed.getD e false = true ↔ m < k)) → Fits ops ops.length fr0 vals (fun j => listed.getD j false) fr → n0 ≤ (hp k).length → Sim E ρ ⟨fr, hp k⟩ a w →
      wpAny P .any ops.toArray (post n0 E ρ Q) f listed a w := by
  intro f
  induction f with
  | zero =>
    intro k ρ listed fr a w hc inv hk hm hfit hn0 hs
    have hall : ∀ j, j < ops.length → listed.getD j false = true := by
      have : (List.range ops.length).countP (fun j => listed.getD j false) = (List.range ops.length).length := by rw [List.length_range]; omega
      rw [List.countP_eq_length] at this
      exact fun j hj => this j (List.mem_range.2 hj)
    have hsz : listed.size = ops.length := by simpa using inv.size
    obtain ⟨frn, hfn, hq⟩ := hend
    have hfr : fr = frn := by
      apply List.ext_getElem?
      intro t
      exact hfit.agree hfn fun j o hj _ _ => by rw [hall j hj]; simp [hj]
    subst hfr
    have hke : k = es.length := by
      rcases Nat.lt_or_ge k es.length with hlt | hge
      · exfalso
        obtain ⟨e, he⟩ : ∃ e, es[k]? = some e := ⟨_, List.getElem?_eq_getElem hlt⟩
        have := (hm k e he).1 (hall e (ok.lt k e he))
        omega
      · omega
    subst hke
    refine ⟨?_, ⟨fr, hp es.length⟩, ρ, hq, fun _ _ => rfl, hs⟩
    apply List.eq_nil_iff_forall_not_mem.2
    intro i hi
    obtain ⟨h1, o, h2, _⟩ := mem_ready.1 hi
    have hlt : i < ops.length := by
      have := (Array.getElem?_eq_some_iff.1 h2).1
      simpa using this
    have := hall i hlt
    have h3 := getD_both h1
    rw [this] at h3; cases h3
  | succ f ih =>
    intro k ρ listed fr a w hc inv hk hm hfit hn0 hs
    have hsz : listed.size = ops.length := by simpa using inv.size
    have closed : ∀ (j : Nat) oj, ops[j]? = some oj → listed.getD j false = true → ∀ e ∈ oj.after, Region.binds .any e = true → listed.getD e.on false = true := fun j oj hj hl e he hb => inv.closed j oj (by simpa using hj) hl e he hb
    have hready : ∀ (d j : Nat), j ≤ d → j < ops.length → listed.getD j false = false → ∃ i, i ∈ Region.ready .any ops.toArray listed := by
      intro d
      induction d with
      | zero =>
        intro j hj hjn hun
        have : j = 0 := by omega
        subst this
        obtain ⟨o, ho⟩ : ∃ o, ops[0]? = some o := ⟨_, List.getElem?_eq_getElem (by omega)⟩
        exact ⟨0, mem_ready.2 ⟨getD_in (by omega) hun, o, by simpa using ho, fun e he hb => by have := ok.topo 0 o ho e he hb; omega⟩⟩
      | succ d ihd =>
        intro j hj hjn hun
        obtain ⟨o, ho⟩ : ∃ o, ops[j]? = some o := ⟨_, List.getElem?_eq_getElem (by omega)⟩
        by_cases hall : ∀ e ∈ o.after, Region.binds .any e = true → listed.getD e.on false = true
        · exact ⟨j, mem_ready.2 ⟨getD_in (by omega) hun, o, by simpa using ho, hall⟩⟩
        · obtain ⟨e, he⟩ := Classical.not_forall.1 hall
          obtain ⟨he1, he⟩ := Classical.not_imp.1 he
          obtain ⟨he2, he3⟩ := Classical.not_imp.1 he
          have hlt := ok.topo j o ho e he1 he2
          exact ihd e.on (by omega) (by omega) (by simpa using he3)
    have hun : ∃ j, j < ops.length ∧ listed.getD j false = false := by
      apply Classical.byContradiction
      intro hno
      have : ∀ j, j < ops.length → listed.getD j false = true := fun j hj => by
        cases hb : listed.getD j false with
        | true => rfl
        | false => exact absurd ⟨j, hj, hb⟩ hno
      have hcc : (List.range ops.length).countP (fun j => listed.getD j false) = (List.range ops.length).length := List.countP_eq_length.2 fun j hj => this j (List.mem_range.1 hj)
      rw [List.length_range] at hcc
      omega
    obtain ⟨j0, hj0, hun0⟩ := hun
    refine ⟨fun hnil => ?_, fun i hrdy => ?_⟩
    · obtain ⟨i, hrdy⟩ := hready j0 j0 (Nat.le_refl _) hj0 hun0
      rw [hnil] at hrdy; cases hrdy
    · obtain ⟨hui, o, ho', hdeps⟩ := mem_ready.1 hrdy
      have ho : ops[i]? = some o := by simpa using ho'
      have hin : i < ops.length := (List.getElem?_eq_some_iff.1 ho).1
      have huif : listed.getD i false = false := getD_both hui
      have hdeps' : ∀ o', ops[i]? = some o' → ∀ e ∈ o'.after, Region.binds .any e = true → listed.getD e.on false = true := fun o' h => by
        rw [ho] at h
        obtain rfl := Option.some.inj h
        exact hdeps
      obtain ⟨frj, hfj, hE1, hR1⟩ := hst i o ho
      have hagree : ∀ t, t ∈ rdsB ops o → fr[t]? = frj[t]? := fun t ht => hfit.agree hfj fun j oj hj hoj hdst => by
        by_cases hji : j = i
        · subst hji
          simp only [Nat.lt_irrefl, decide_false]
          exact huif
        · rcases ok.dep i j o oj t (fun e => hji e.symm) ho hoj hdst ht with ⟨h1, h2⟩ | ⟨h1, h2⟩
          · rw [anc_listed closed h2 hdeps']; simp [h1]
          · cases hlj : listed.getD j false with
            | false => simp; omega
            | true =>
              have := anc_listed closed h2 (fun o' ho'' e he hb => closed j o' ho'' hlj e he hb)
              rw [huif] at this; cases this
      have hsr : Sim E ρ ⟨rst (reads o) frj, hp k⟩ a w := by
        refine ⟨⟨hs.fr.1, ?_, fun t s ht => ?_⟩, hs.heap⟩
        · rw [show (rst (reads o) frj).length = frj.length from vwF_length _ _ _ _, hfj.len, ← hfit.len]; exact hs.fr.2.1
        · obtain ⟨s0, g1, g2⟩ := vwF_get id (reads o) frj 0 t s ht
          rcases g2 with rfl | rfl
          · by_cases hm : t ∈ reads o
            · have h1 : frj[t]? = some s0 := g1
              have h2 := hagree t (by simp [rdsB, hm])
              obtain ⟨v, k1, k2⟩ := hs.fr.2.2 t s0 (by rw [h2]; exact h1)
              exact ⟨v, k1, by rw [sm_id]; exact k2⟩
            ·
              have hlt := (List.getElem?_eq_some_iff.1 g1).1
              have hlt2 : t < a.tmps.size := by rw [hs.fr.2.1, hfit.len, ← hfj.len]; exact hlt
              have hnone : (rst (reads o) frj)[t]? = some ud := by
                have : ∀ (l : List S) (i j : Nat), (reads o).contains (i + j) = false → j < l.length → (vwF id (reads o) i l)[j]? = some ud := by
                  intro l
                  induction l with
                  | nil => intro i j _ h; simp at h
                  | cons x r ihl =>
                    intro i j hc hj
                    cases j with
                    | zero =>
                      have : ¬ i ∈ reads o := by simpa using hc
                      simp [vwF, this, ud]
                    | succ j =>
                      simp only [vwF, List.getElem?_cons_succ]
                      exact ihl (i + 1) j (by rw [show i + 1 + j = i + (j + 1) by omega]; exact hc) (by simpa using hj)
                exact this frj 0 t (by simpa using hm) hlt
              rw [hnone] at ht
              refine ⟨a.tmps[t], by simp [hlt2], ?_⟩
              rw [← Option.some.inj ht]
              simp [ud, SRel, VRel, CRel]
          · have hlt := (List.getElem?_eq_some_iff.1 g1).1
            have hlt2 : t < a.tmps.size := by rw [hs.fr.2.1, hfit.len, ← hfj.len]; exact hlt
            exact ⟨a.tmps[t], by simp [hlt2], by simp [SRel, VRel, CRel]⟩
      have inv' := inv.set hrdy hin
      have hD : ∀ j, (listed.setIfInBounds i true).getD j false = true ↔ (listed.getD j false = true ∨ j = i) := fun j => by
        rw [getD_set_i false (by omega)]
        by_cases h : j = i <;> simp [h]
      have hfit' : Fits ops ops.length fr0 vals (fun j => (listed.setIfInBounds i true).getD j false) (put fr o.dst (vals i)) := hfit.put ok.uniq hin ho hD
      have hc' : (List.range ops.length).countP (fun j => (listed.setIfInBounds i true).getD j false) + f = ops.length := by
        have := countP_set (p := fun j => listed.getD j false) (p' := fun j => (listed.setIfInBounds i true).getD j false) (i := i) (List.nodup_range (n := ops.length)) (List.mem_range.2 hin) huif (fun j => by
          rw [getD_set_i false (by omega)]
          by_cases h : j = i
          · subst h; simp
          · rw [if_neg h]
            have : (j == i) = false := by simpa using h
            rw [this, Bool.or_false])
        omega
      have hgd : ∀ (j : Nat) (want : Bool) (b : Option Bool), o.guard = some (j, want) → guardOf ops frj j = some b → yielded ops.toArray a.tmps j = b := fun j want b hg hb => by
        have hb' : guardOf ops fr j = some b := by
          unfold guardOf at hb ⊢
          cases hd : (ops[j]?).bind (·.dst) with
          | none => rw [hd] at hb; simp at hb
          | some d =>
            rw [hd] at hb
            simp only at hb ⊢
            rw [hagree d (by simp [rdsB, hg, hd])]
            exact hb
        exact guardOf_sound hs.fr hb'
      by_cases hmem : i ∈ es
      ·
        obtain ⟨m, hme⟩ := List.mem_iff_getElem?.1 hmem
        have hmk : m = k := by
          rcases Nat.lt_trichotomy m k with h | h | h
          · have := (hm m i hme).2 h
            rw [huif] at this; cases this
          · exact h
          · exfalso
            have hml := (List.getElem?_eq_some_iff.1 hme).1
            obtain ⟨e, he⟩ : ∃ e, es[m - 1]? = some e := ⟨_, List.getElem?_eq_getElem (by omega)⟩
            have h1 := (ok.chain (m - 1) e i he (by rw [show m - 1 + 1 = m by omega]; exact hme)).2
            have h2 := anc_listed closed h1 hdeps'
            have := (hm (m - 1) e he).1 h2
            omega
        subst hmk
        have hml := (List.getElem?_eq_some_iff.1 hme).1
        have hm' : ∀ (m' e : Nat), es[m']? = some e → ((listed.setIfInBounds i true).getD e false = true ↔ m' < m + 1) := fun m' e he => by
          rw [hD e]
          have hinc : ∀ d p e1, es[p]? = some e1 → ∀ e2, es[p + d + 1]? = some e2 → e1 < e2 := by
            intro d
            induction d with
            | zero => intro p e1 h1 e2 h2; exact (ok.chain p e1 e2 h1 h2).1
            | succ d ihd =>
              intro p e1 h1 e2 h2
              have hl2 := (List.getElem?_eq_some_iff.1 h2).1
              obtain ⟨e3, h3⟩ : ∃ e3, es[p + d + 1]? = some e3 := ⟨_, List.getElem?_eq_getElem (by omega)⟩
              have := ihd p e1 h1 e3 h3
              have := (ok.chain (p + d + 1) e3 e2 h3 h2).1
              omega
          constructor
          · rintro (h | h)
            · have := (hm m' e he).1 h; omega
            · subst h
              rcases Nat.lt_trichotomy m' m with g | g | g
              · omega
              · omega
              · have := hinc (m' - m - 1) m e hme e (by rw [show m + (m' - m - 1) + 1 = m' by omega]; exact he); omega
          · intro h
            by_cases hh : m' = m
            · subst hh; rw [hme] at he; exact .inr (Option.some.inj he).symm
            · exact .inl ((hm m' e he).2 (by omega))
        have next : ∀ (ρ' : Nat → Place) (a' : Act) (w' : World), (∀ p, p < (hp m).length → ρ' p = ρ p) → n0 ≤ (hp (m + 1)).length → Sim E ρ' ⟨put fr o.dst (vals i), hp (m + 1)⟩ a' w' →
            wpAny P .any ops.toArray (post n0 E ρ Q) f (listed.setIfInBounds i true) a' w' := fun ρ' a' w' hρ hn' hs' => by
          have := ih (m + 1) ρ' _ _ a' w' hc' inv' (by omega) hm' hfit' hn' hs'
          rwa [post_trans (fun p hp' => hρ p (Nat.lt_of_lt_of_le hp' hn0))] at this
        have hstep := hE1 m hme
        have go : OpG P o (rst (reads o) frj) (hp m) (vals i) (hp (m + 1)) → o.wp P a w (wpAny P .any ops.toArray (post n0 E ρ Q) f (listed.setIfInBounds i true)) (post n0 E ρ Q) := fun hg => by
          refine hg.2 E ρ a w hE hsr _ _ fun v w' ρ' h1 h2 h3 => next ρ' _ w' h1 (Nat.le_trans hn0 hg.1) ⟨?_, h2⟩
          exact FRel.put_grow hg.1 h1 hs.fr o.dst h3
        unfold wpOp
        simp only [ho']
        unfold EStep at hstep
        split at hstep
        · rename_i hg
          have hw : Region.wanted o (yielded ops.toArray a.tmps) = true := by simp [Region.wanted, hg]
          rw [if_pos hw]
          exact .inl (go hstep)
        · rename_i j want hg
          obtain ⟨b, hb, k1, k2⟩ := hstep
          have hy := hgd j want b hg hb
          by_cases hbw : b = some want
          · have hw : Region.wanted o (yielded ops.toArray a.tmps) = true := by simp [Region.wanted, hg, hy, hbw]
            rw [if_pos hw]
            exact .inl (go (k1 hbw))
          · have hw : ¬ Region.wanted o (yielded ops.toArray a.tmps) = true := by simp [Region.wanted, hg, hy, hbw]
            rw [if_neg hw]
            obtain ⟨k3, k4⟩ := k2 hbw
            refine next ρ _ w (fun _ _ => rfl) (by rw [k4]; exact hn0) ?_
            rw [k3, k4]
            exact ⟨put_sound hs.fr o.dst us_rel, hs.heap⟩
      ·
        have hm' : ∀ (m' e : Nat), es[m']? = some e → ((listed.setIfInBounds i true).getD e false = true ↔ m' < k) := fun m' e he => by
          rw [hD e]
          have hne : e ≠ i := fun h => hmem (h ▸ List.mem_of_getElem? he)
          rw [← hm m' e he]
          exact ⟨fun h => h.resolve_right hne, .inl⟩
        obtain ⟨hstep, hsub⟩ := hR1 hmem
        have hlo : lo.getD i 0 ≤ k := by
          obtain ⟨g1, g2⟩ := ok.lo i hin hmem
          rcases Nat.eq_zero_or_pos (lo.getD i 0) with h0 | h0
          · omega
          · obtain ⟨e, he⟩ : ∃ e, es[lo.getD i 0 - 1]? = some e := ⟨_, List.getElem?_eq_getElem (by omega)⟩
            have h1 := g2 (lo.getD i 0 - 1) e (by omega) he
            have h2 := anc_listed closed h1 hdeps'
            have := (hm _ e he).1 h2
            omega
        have hhi : k ≤ hi.getD i 0 := by
          rcases Nat.lt_or_ge (hi.getD i 0) k with h | h
          · exfalso
            obtain ⟨e, he⟩ : ∃ e, es[hi.getD i 0]? = some e := ⟨_, List.getElem?_eq_getElem (by omega)⟩
            have h1 := ok.hi i hin hmem e he
            have hl := (hm _ e he).2 h
            have h2 := anc_listed closed h1 (fun o' ho'' e' he' hb => closed e o' ho'' hl e' he' hb)
            rw [huif] at h2; cases h2
          · exact h
        have hV := hsub k hlo hhi hk
        have next : ∀ (ρ' : Nat → Place) (a' : Act) (w' : World), (∀ p, p < (hp k).length → ρ' p = ρ p) → Sim E ρ' ⟨put fr o.dst (vals i), hp k⟩ a' w' →
            wpAny P .any ops.toArray (post n0 E ρ Q) f (listed.setIfInBounds i true) a' w' := fun ρ' a' w' hρ hs' => by
          have := ih k ρ' _ _ a' w' hc' inv' hk hm' hfit' hn0 hs'
          rwa [post_trans (fun p hp' => hρ p (Nat.lt_of_lt_of_le hp' hn0))] at this
        have go : OpG P o (rst (reads o) frj) (hp k) (vals i) (hp k) → o.wp P a w (wpAny P .any ops.toArray (post n0 E ρ Q) f (listed.setIfInBounds i true)) (post n0 E ρ Q) := fun hg => by
          refine hg.2 E ρ a w hE hsr _ _ fun v w' ρ' h1 h2 h3 => next ρ' _ w' h1 ⟨?_, h2⟩
          exact FRel.put_grow hg.1 h1 hs.fr o.dst h3
        unfold wpOp
        simp only [ho']
        unfold RStep at hstep
        split at hstep
        · rename_i hg
          have hw : Region.wanted o (yielded ops.toArray a.tmps) = true := by simp [Region.wanted, hg]
          rw [if_pos hw]
          exact .inl (go (hstep _ hV))
        · rename_i j want hg
          obtain ⟨b, hb, k1, k2⟩ := hstep
          have hy := hgd j want b hg hb
          by_cases hbw : b = some want
          · have hw : Region.wanted o (yielded ops.toArray a.tmps) = true := by simp [Region.wanted, hg, hy, hbw]
            rw [if_pos hw]
            exact .inl (go (k1 hbw _ hV))
          · have hw : ¬ Region.wanted o (yielded ops.toArray a.tmps) = true := by simp [Region.wanted, hg, hy, hbw]
            rw [if_neg hw]
            refine next ρ _ w (fun _ _ => rfl) ⟨?_, hs.heap⟩
            rw [k2 hbw]
            exact put_sound hs.fr o.dst us_rel
end
theorem awp_drawE {P : Program} {n0 id : Nat} {ops : Array Oper} {Q : Exit → St → Prop} {fr : List S} {H : Heap} (es lo hi : List Nat) (hm : P.follows .mixedOrders = true) (hB : drawE ops.toList es lo hi = true) (hn : n0 ≤ H.length)
    (h : Dw P ops.toList lo hi (Q .normal) ops.toList 0 es [H] [] fr) : AWp P n0 (.region id ops true) Q ⟨fr, H⟩ := by
  intro E ρ a w hE hs
  have ok := drawE_ok hB
  obtain ⟨vals, hp, Vs, h1, _, h2⟩ := dw_tr (E := es.length) ops.toList 0 es [H] [] fr (by simp) (by simp; omega) h
  have h0 : hp 0 = H := by
    have := h1 0 (by simp)
    simpa using this.symm
  obtain ⟨hst, hend⟩ := tr_each ok (fr0 := fr) ops.toList 0 0 fr (fun j => by rw [Nat.zero_add]) (by simp) (Nat.zero_le _) (fun m e _ => by omega) ⟨rfl, fun _ _ => rfl, fun j o t _ hd => by simp at hd⟩ (by simpa using h2)
  refine wp_region_any hm ?_
  have := draw_game (P := P) (n0 := n0) (Q := Q) ok (fun j o ho => hst j o (Nat.zero_le _) ho) hend hE ops.size 0 ρ (Array.replicate ops.size false) fr a { w with drawn := w.drawn + 1 } (by
      have : (List.range ops.toList.length).countP (fun j => (Array.replicate ops.size false).getD j false) = 0 := by
        rw [List.countP_eq_zero]
        intro j _
        rw [getD_replicate_false]; simp
      rw [this]; simp)
    ⟨by simp, fun j oj _ hl => (by rw [getD_replicate_false] at hl; cases hl), fun t ht ht' => by simp at ht ht'; omega⟩ (Nat.zero_le _)
    (fun m e _ => by rw [getD_replicate_false]; simp)
    ⟨rfl, fun _ _ => rfl, fun j o t _ hd => by rw [getD_replicate_false] at hd; cases hd⟩ (by rw [h0]; exact hn) ⟨by rw [h0]; exact hs.fr, by rw [h0]; exact hs.heap.drew _⟩
  have e : ops.toList.toArray = ops := by simp
  rw [e] at this
  exact this
end Go.Abs

/- The abstract machine: bodies of functions. -/
namespace Go.Abs
open Go
def resK (P : Program) (st : St) : List ResultVar → (List V → Prop) → Prop
  | [], K => K []
  | .tmp t :: r, K => match ev st.fr (.tmp t) with
    | .v x => resK P st r fun xs => K (x :: xs)
    | _ => False
  | .cell a t :: r, K => loadR P st.fr st.H t (.tmp a) fun s => match s with
    | .v x => resK P st r fun xs => K (x :: xs)
    | _ => False
def packR : List V → S
  | [x] => .v x
  | xs => .t xs
theorem loadAt_asAddr {P : Program} {t : TypeId} {v u : Value} {w : World} (h : (Instr.loadAt t v).run P w = .ok u w) : (do loadVar t (← asAddr v) : Sem Value).run P w = .ok u w := by
  cases v <;> try (simp [Instr.loadAt, Instr.sureAddr] at h; done)
  rename_i a
  cases a with
  | none => simp [Instr.loadAt, Instr.sureAddr] at h
  | some a => simpa [Instr.loadAt, Instr.sureAddr, asAddr] using h
theorem resK_sound {P : Program} {st : St} : ∀ (l : List ResultVar) (K : List V → Prop), resK P st l K → ∃ xs, K xs ∧ ∀ (E : Env) (ρ : Nat → Place) (a : Act) (w : World), E.Ok → Sim E ρ st a w →
    ∃ vs, (l.mapM (fun x : ResultVar => match x with
      | .tmp t => pure (a.tmps.getD t undef)
      | .cell b t => do loadVar t (← asAddr (a.tmps.getD b undef)) : ResultVar → Sem Value)).run P w = .ok vs w ∧ VsRel (E.rl st.H.length ρ) xs vs
  | [], K, h => ⟨[], h, fun E ρ a w _ _ => ⟨[], rfl, by simp [VsRel]⟩⟩
  | .tmp t :: r, K, h => by
    simp only [resK] at h
    split at h
    · rename_i x hx
      obtain ⟨xs, h1, h2⟩ := resK_sound r _ h
      refine ⟨x :: xs, h1, fun E ρ a w hE hs => ?_⟩
      obtain ⟨vs, k1, k2⟩ := h2 E ρ a w hE hs
      have hv := ev_sound hs.fr (.tmp t)
      rw [hx] at hv
      refine ⟨a.tmps.getD t undef :: vs, ?_, _, vs, rfl, hv, k2⟩
      rw [List.mapM_cons, Sem.run_bind]
      simp only [Sem.run_pure, Result.andThen_ok, Sem.run_bind]
      rw [k1]; rfl
    · exact h.elim
  | .cell b t :: r, K, h => by
    simp only [resK] at h
    obtain ⟨s, h, hl⟩ := loadR_sound h
    split at h
    · rename_i x
      obtain ⟨xs, h1, h2⟩ := resK_sound r _ h
      refine ⟨x :: xs, h1, fun E ρ a w hE hs => ?_⟩
      obtain ⟨vs, k1, k2⟩ := h2 E ρ a w hE hs
      obtain ⟨v, g1, g2⟩ := hl E ρ a w hE hs
      have g3 := loadAt_asAddr g1
      refine ⟨v :: vs, ?_, _, vs, rfl, g2, k2⟩
      rw [List.mapM_cons, Sem.run_bind]
      have g4 : (do loadVar t (← asAddr (a.tmps.getD b undef)) : Sem Value).run P w = .ok v w := g3
      simp only [g4, Result.andThen_ok, Sem.run_bind]
      rw [k1]; rfl
    · exact h.elim
theorem vsrel_length {R : Rl} : ∀ {xs : List V} {vs : List Value}, VsRel R xs vs → vs.length = xs.length
  | [], vs, h => by simp only [VsRel] at h; simp [h]
  | x :: xs, vs, h => by simp only [VsRel] at h; obtain ⟨v, vs', rfl, _, h2⟩ := h; simp [vsrel_length h2]
theorem packR_sound {R : Rl} {xs : List V} {vs : Array Value} (h : VsRel R xs vs.toList) : SRel R (packR xs) (if h : vs.size = 1 then vs[0] else .tuple vs) := by
  have hlen := vsrel_length h
  rw [Array.length_toList] at hlen
  match xs, h, hlen with
  | [], h, hlen =>
    rw [dif_neg (by rw [hlen]; simp)]
    exact ⟨vs, rfl, h⟩
  | [x], h, hlen =>
    simp only [VsRel] at h
    obtain ⟨v, vs', e, h1, h2⟩ := h
    subst h2
    have hvs : vs = #[v] := by apply Array.ext'; simpa using e
    subst hvs
    exact h1
  | x :: y :: r, h, hlen =>
    rw [dif_neg (by rw [hlen]; simp)]
    exact ⟨vs, rfl, h⟩
def fin (P : Program) (fn : Func) (n : Nat) (v : S) (H' : Heap) (st : St) : Prop :=
  resK P st fn.results.toList fun xs => ∃ π : List Nat, (∀ p, p < n → π[p]? = some p) ∧ π.Nodup ∧
    v = sm (cm ⟨fun p => idx p π, fun _ => none, true, false⟩ 8) (packR xs) ∧ H' = π.map (pick st.H (cm ⟨fun p => idx p π, fun _ => none, true, false⟩ 8))
def ended (P : Program) (fn : Func) (n : Nat) (v : S) (H' : Heap) : Exit → St → Prop
  | .normal, st => fin P fn n v H' st
  | .ret, st => fin P fn n v H' st
  | _, _ => False
theorem good_of_body {P : Program} {k : FuncId} {fn : Func} {c : Code} {args : List V} {H H' : Heap} {v : S} {n : Nat} {fr0 : List S} (hf : P.funcs[k]? = some fn) (hb : fn.body = some c) (ha : args.length ≤ fn.ntmps) (hfr : args.map .v ++ List.replicate (fn.ntmps - args.length) ud = fr0) (hn : H.length = n) (hl : n ≤ H'.length) (hnm : (fn.name == "runtime.NumGoroutine") = false)
    (h : AWp P n c (ended P fn n v H') ⟨fr0, H⟩) : Good P k args H v H' := by
  subst hfr
  subst hn
  refine ⟨hl, ⟨fn, hf, by rw [hb]; rfl, hnm⟩, fun E ρ w rargs hE hw himg hH hargs => calls_of_wp hf hb ?_⟩
  have hla := vsrel_length hargs
  have hsim : Sim E ρ ⟨args.map .v ++ List.replicate (fn.ntmps - args.length) ud, H⟩ { tmps := rargs.toArray ++ Array.replicate (fn.ntmps - rargs.toArray.size) undef, defers := [] } w := by
    refine ⟨⟨rfl, by simp; omega, fun i s hi => ?_⟩, hH⟩
    by_cases hlt : i < args.length
    · rw [List.getElem?_append_left (by simpa using hlt), List.getElem?_map, Option.map_eq_some_iff] at hi
      obtain ⟨x, h1, rfl⟩ := hi
      obtain ⟨u, h2, h3⟩ := vsrel_get hargs h1
      refine ⟨u, ?_, h3⟩
      rw [Array.getElem?_append_left (by simp; omega)]
      simpa using h2
    · rw [List.getElem?_append_right (by simp; omega)] at hi
      simp only [List.length_map] at hi
      have hlt2 := (List.getElem?_eq_some_iff.1 hi).1
      simp at hlt2
      refine ⟨undef, ?_, ?_⟩
      · rw [Array.getElem?_append_right (by simp; omega), Array.getElem?_replicate, if_pos (by simp; omega)]
      · have : s = ud := by
          rw [List.getElem?_replicate, if_pos (by omega)] at hi
          exact (Option.some.inj hi).symm
        subst this
        simp [ud, SRel, VRel, CRel]
  refine wp_mono (h E ρ _ w hE hsim) ?_
  have fin_ok : ∀ (st : St) (ρ' : Nat → Place) (a' : Act) (w' : World), fin P fn H.length v H' st → (∀ p, p < H.length → ρ' p = ρ p) → Sim E ρ' st a' w' →
      a'.defers = [] ∧ ∃ rv, (results fn a'.tmps).run P w' = .ok rv w' ∧ ∃ rv' ρ'', Ending.returned rv = .returned rv' ∧ (∀ p, p < H.length → ρ'' p = ρ p) ∧ HRel E ρ'' w' H' ∧ SRel (E.rl H'.length ρ'') v rv' := by
    intro st ρ' a' w' hfin hρ hs
    obtain ⟨xs, ⟨π, h1, h2, h3, h4⟩, h5⟩ := resK_sound _ _ hfin
    obtain ⟨vs, k1, k2⟩ := h5 E ρ' a' w' hE hs
    have hrun : (results fn a'.tmps).run P w' = .ok (if h : vs.toArray.size = 1 then vs.toArray[0] else .tuple vs.toArray) w' := by
      unfold results
      rw [Array.mapM_eq_mapM_toList, Sem.run_bind, Sem.run_map]
      have : (fn.results.toList.mapM (fun x : ResultVar => match x with
        | .tmp t => pure (a'.tmps.getD t undef)
        | .cell b t => do loadVar t (← asAddr (a'.tmps.getD b undef)) : ResultVar → Sem Value)).run P w' = .ok vs w' := k1
      first
        | rw [this]; rfl
        | (erw [this]; rfl)
    refine ⟨hs.fr.1, _, hrun, _, fun j => ρ' (π.getD j 0), rfl, fun p hp => ?_, ?_, ?_⟩
    · show ρ' (π.getD p 0) = ρ p
      rw [List.getD_eq_getElem?_getD, h1 p hp]; exact hρ p hp
    · have := (view_sim π [] h2 hs).heap
      rw [h4]
      exact this
    · have hk := view_key E ρ' π st.H.length
      rw [h3, h4, List.length_map]
      exact sm_sound hk (packR_sound (by simpa using k2))
  rintro e a' w' ⟨st, ρ', h1, h2, h3⟩
  cases e <;> simp only [ended] at h1 <;> first | exact h1.elim | exact fin_ok st ρ' a' w' h1 h2 h3
end Go.Abs

/- The abstract machine: lists of integers of one kind; words. -/
namespace Go.Abs
open Go
abbrev u32s (l : List UInt32) : List Cell := mapc .u32 (fun b : UInt32 => (b.toNat : Int)) l
abbrev u64s (l : List UInt64) : List Cell := mapc .u64 (fun b : UInt64 => (b.toNat : Int)) l
abbrev i64s (l : List Int) : List Cell := mapc .i64 (fun n : Int => n) l
abbrev c8 (b : UInt8) : Cell := .int .u8 (b.toNat : Int)
abbrev c32 (b : UInt32) : Cell := .int .u32 (b.toNat : Int)
abbrev c64 (b : UInt64) : Cell := .int .u64 (b.toNat : Int)
section
variable {α : Type} {k : IntKind} {g : α → Int}
theorem mapc_length (l : List α) : (mapc k g l).length = l.length := by simp [mapc]
theorem mapc_drop (l : List α) (n : Nat) : (mapc k g l).drop n = mapc k g (l.drop n) := by simp [mapc]
theorem mapc_take (l : List α) (n : Nat) : (mapc k g l).take n = mapc k g (l.take n) := by simp [mapc]
theorem mapc_append (l m : List α) : mapc k g l ++ mapc k g m = mapc k g (l ++ m) := by simp [mapc]
theorem mapc_set (l : List α) (i : Nat) (x : α) : (mapc k g l).set i (.int k (g x)) = mapc k g (l.set i x) := by simp [mapc, List.map_set]
theorem mapc_allInt (l : List α) : allInt k (mapc k g l) = true := by
  induction l with
  | nil => rfl
  | cons x l ih => simp only [mapc, List.map_cons, allInt] at ih ⊢; simp [ih]
theorem mapc_cm (m : CM) (d : Nat) (l : List α) : (mapc k g l).map (cm m d) = mapc k g l := by
  simp only [mapc, List.map_map]
  apply List.map_congr_left
  intro x _
  cases d <;> rfl
end
section
variable {α : Type} {k : IntKind} {g : α → Int}
theorem cut_m {l : List α} {q n : Nat} : ((mapc k g l).drop q).take n = mapc k g ((l.drop q).take n) := by simp [mapc]
theorem cut_w {l : List α} : ((mapc k g l).drop 0).take l.length = mapc k g l := by
  rw [List.drop_zero, ← mapc_length (k := k) (g := g) l, List.take_length]
theorem cut_h {l : List α} {n : Nat} (h : l.length = n) : ((mapc k g l).drop 0).take (n * 1) = mapc k g l := by
  subst h
  rw [Nat.mul_one]
  exact cut_w
end
theorem bytesOf_u8s (l : List UInt8) : bytesOf (u8s l) = l := by
  induction l with
  | nil => rfl
  | cons x l ih =>
    simp only [mapc, List.map_cons, bytesOf] at ih ⊢
    rw [ih]
    simp
/-! Arithmetic of words. -/
theorem wrap_u (k : IntKind) (hk : k.signed = false) (n : Int) : k.wrap n = n % 2 ^ k.bits := by
  simp [IntKind.wrap, hk]
theorem wrap8 (n : Int) : IntKind.u8.wrap n = n % 256 := wrap_u .u8 rfl n
theorem wrap32 (n : Int) : IntKind.u32.wrap n = n % 4294967296 := wrap_u .u32 rfl n
theorem wrap64u (n : Int) : IntKind.u64.wrap n = n % 18446744073709551616 := wrap_u .u64 rfl n
theorem add32 (x y : UInt32) : IntKind.u32.wrap ((x.toNat : Int) + y.toNat) = ((x + y).toNat : Int) := by rw [wrap32, UInt32.toNat_add]; rfl
theorem add64 (x y : UInt64) : IntKind.u64.wrap ((x.toNat : Int) + y.toNat) = ((x + y).toNat : Int) := by rw [wrap64u, UInt64.toNat_add]; rfl
theorem mul64 (x y : UInt64) : IntKind.u64.wrap ((x.toNat : Int) * y.toNat) = ((x * y).toNat : Int) := by rw [wrap64u, UInt64.toNat_mul]; rfl
theorem sub64 (x y : UInt64) : IntKind.u64.wrap ((x.toNat : Int) - y.toNat) = ((x - y).toNat : Int) := by
  rw [wrap64u, UInt64.toNat_sub]; have := x.toNat_lt; have := y.toNat_lt; omega
theorem of8 (x : UInt8) : BitVec.ofInt 8 (x.toNat : Int) = x.toBitVec := by
  apply BitVec.eq_of_toNat_eq; simp
theorem of32 (x : UInt32) : BitVec.ofInt 32 (x.toNat : Int) = x.toBitVec := by
  apply BitVec.eq_of_toNat_eq; simp
theorem of64 (x : UInt64) : BitVec.ofInt 64 (x.toNat : Int) = x.toBitVec := by
  apply BitVec.eq_of_toNat_eq; simp
theorem xor8 (x y : UInt8) : IntKind.u8.wrap ((BitVec.ofInt IntKind.u8.bits (x.toNat : Int) ^^^ BitVec.ofInt IntKind.u8.bits (y.toNat : Int)).toNat : Int) = ((x ^^^ y).toNat : Int) := by
  show IntKind.u8.wrap ((BitVec.ofInt 8 _ ^^^ BitVec.ofInt 8 _).toNat : Int) = _
  rw [of8, of8, wrap8, ← UInt8.toBitVec_xor]; show ((x ^^^ y).toNat : Int) % 256 = _; have := (x ^^^ y).toNat_lt; omega
theorem or8 (x y : UInt8) : IntKind.u8.wrap ((BitVec.ofInt IntKind.u8.bits (x.toNat : Int) ||| BitVec.ofInt IntKind.u8.bits (y.toNat : Int)).toNat : Int) = ((x ||| y).toNat : Int) := by
  show IntKind.u8.wrap ((BitVec.ofInt 8 _ ||| BitVec.ofInt 8 _).toNat : Int) = _
  rw [of8, of8, wrap8, ← UInt8.toBitVec_or]; show ((x ||| y).toNat : Int) % 256 = _; have := (x ||| y).toNat_lt; omega
theorem xor32 (x y : UInt32) : IntKind.u32.wrap ((BitVec.ofInt IntKind.u32.bits (x.toNat : Int) ^^^ BitVec.ofInt IntKind.u32.bits (y.toNat : Int)).toNat : Int) = ((x ^^^ y).toNat : Int) := by
  show IntKind.u32.wrap ((BitVec.ofInt 32 _ ^^^ BitVec.ofInt 32 _).toNat : Int) = _
  rw [of32, of32, wrap32, ← UInt32.toBitVec_xor]; show ((x ^^^ y).toNat : Int) % 4294967296 = _; have := (x ^^^ y).toNat_lt; omega
theorem or32 (x y : UInt32) : IntKind.u32.wrap ((BitVec.ofInt IntKind.u32.bits (x.toNat : Int) ||| BitVec.ofInt IntKind.u32.bits (y.toNat : Int)).toNat : Int) = ((x ||| y).toNat : Int) := by
  show IntKind.u32.wrap ((BitVec.ofInt 32 _ ||| BitVec.ofInt 32 _).toNat : Int) = _
  rw [of32, of32, wrap32, ← UInt32.toBitVec_or]; show ((x ||| y).toNat : Int) % 4294967296 = _; have := (x ||| y).toNat_lt; omega
theorem and64 (x y : UInt64) : IntKind.u64.wrap ((BitVec.ofInt IntKind.u64.bits (x.toNat : Int) &&& BitVec.ofInt IntKind.u64.bits (y.toNat : Int)).toNat : Int) = ((x &&& y).toNat : Int) := by
  show IntKind.u64.wrap ((BitVec.ofInt 64 _ &&& BitVec.ofInt 64 _).toNat : Int) = _
  rw [of64, of64, wrap64u, ← UInt64.toBitVec_and]; show ((x &&& y).toNat : Int) % 18446744073709551616 = _; have := (x &&& y).toNat_lt; omega
theorem or64 (x y : UInt64) : IntKind.u64.wrap ((BitVec.ofInt IntKind.u64.bits (x.toNat : Int) ||| BitVec.ofInt IntKind.u64.bits (y.toNat : Int)).toNat : Int) = ((x ||| y).toNat : Int) := by
  show IntKind.u64.wrap ((BitVec.ofInt 64 _ ||| BitVec.ofInt 64 _).toNat : Int) = _
  rw [of64, of64, wrap64u, ← UInt64.toBitVec_or]; show ((x ||| y).toNat : Int) % 18446744073709551616 = _; have := (x ||| y).toNat_lt; omega
/-! Conversions of one kind into another. -/
theorem cv8_32 (x : UInt8) : IntKind.u32.wrap (x.toNat : Int) = (x.toUInt32.toNat : Int) := by rw [wrap32]; have := x.toNat_lt; simp; omega
theorem cv8_64 (x : UInt8) : IntKind.u64.wrap (x.toNat : Int) = (x.toUInt64.toNat : Int) := by rw [wrap64u]; have := x.toNat_lt; simp; omega
theorem cv32_8 (x : UInt32) : IntKind.u8.wrap (x.toNat : Int) = (x.toUInt8.toNat : Int) := by rw [wrap8]; simp
theorem cv64_8 (x : UInt64) : IntKind.u8.wrap (x.toNat : Int) = (x.toUInt8.toNat : Int) := by rw [wrap8]; simp
end Go.Abs

/- The abstract machine: frames as lists of what was put; how a walk goes on. -/
namespace Go.Abs
open Go
def lkp : List (Nat × S) → Nat → S
  | [], _ => ud
  | (i, s) :: r, t => bif Nat.beq i t then s else lkp r t
def lkpB (N : Nat) (al : List (Nat × S)) (t : Nat) : S := bif Nat.blt t N then lkp al t else ud
def frm (N : Nat) (al : List (Nat × S)) : List S := (List.range N).map (lkp al)
theorem frm_length (N : Nat) (al : List (Nat × S)) : (frm N al).length = N := by simp [frm]
theorem frm_get {N : Nat} {al : List (Nat × S)} {t : Nat} (h : t < N) : (frm N al)[t]? = some (lkp al t) := by
  simp [frm, h]
theorem et {N : Nat} {al : List (Nat × S)} {t : Nat} {s : S} (h : lkpB N al t = s) : ev (frm N al) (.tmp t) = s := by
  subst h
  show ((frm N al)[t]?).getD ud = lkpB N al t
  unfold lkpB
  cases hb : Nat.blt t N with
  | true =>
    have : t < N := by simpa [Nat.blt_eq] using hb
    rw [frm_get this]; rfl
  | false =>
    have : ¬ t < N := by
      intro h
      rw [← Nat.blt_eq] at h
      rw [h] at hb; cases hb
    rw [List.getElem?_eq_none (by rw [frm_length]; omega)]; rfl
theorem put_frm (N : Nat) (al : List (Nat × S)) (d : Nat) (s : S) : put (frm N al) (some d) s = frm N ((d, s) :: al) := by
  apply List.ext_getElem?
  intro t
  simp only [put, List.getElem?_set]
  by_cases ht : t < N
  · rw [frm_get ht, frm_get ht]
    by_cases hd : d = t
    · subst hd
      rw [if_pos rfl, if_pos (by rw [frm_length]; exact ht)]
      simp [lkp]
    · rw [if_neg hd]
      have : Nat.beq d t = false := by
        cases h : Nat.beq d t with
        | false => rfl
        | true => exact absurd (Nat.eq_of_beq_eq_true h) hd
      simp [lkp, this]
  · have h2 : (frm N ((d, s) :: al))[t]? = none := List.getElem?_eq_none (by rw [frm_length]; omega)
    rw [h2]
    by_cases hd : d = t
    · subst hd
      rw [if_pos rfl, if_neg (by rw [frm_length]; exact ht)]
    · rw [if_neg hd, List.getElem?_eq_none (by rw [frm_length]; omega)]
def args0 : Nat → List V → List (Nat × S)
  | _, [] => []
  | i, x :: r => (i, .v x) :: args0 (i + 1) r
theorem lkp_args0 : ∀ (l : List V) (i t : Nat), lkp (args0 i l) t = if i ≤ t then ((l[t - i]?).map S.v).getD ud else ud
  | [], i, t => by simp [args0, lkp]
  | x :: r, i, t => by
    simp only [args0, lkp]
    cases hb : Nat.beq i t with
    | true =>
      have := Nat.eq_of_beq_eq_true hb
      subst this
      simp
    | false =>
      have hne : i ≠ t := fun h => by subst h; rw [Nat.beq_refl] at hb; cases hb
      rw [cond_false, lkp_args0 r (i + 1) t]
      by_cases h : i ≤ t
      · rw [if_pos (by omega), if_pos h, show t - i = (t - (i + 1)) + 1 by omega]; simp
      · rw [if_neg (by omega), if_neg h]
theorem frm_args {N : Nat} {l : List V} (h : l.length ≤ N) : l.map S.v ++ List.replicate (N - l.length) ud = frm N (args0 0 l) := by
  apply List.ext_getElem?
  intro t
  by_cases ht : t < N
  · rw [frm_get ht, lkp_args0, if_pos (Nat.zero_le _)]
    by_cases hl : t < l.length
    · rw [List.getElem?_append_left (by simpa using hl)]
      simp [hl]
    · rw [List.getElem?_append_right (by simp; omega), List.getElem?_replicate, List.length_map, if_pos (by omega)]
      rw [Nat.sub_zero, List.getElem?_eq_none (by omega)]; rfl
  · rw [List.getElem?_eq_none (by simp; omega), List.getElem?_eq_none (by rw [frm_length]; omega)]
theorem good_frm {P : Program} {k : FuncId} {fn : Func} {c : Code} {args : List V} {H H' : Heap} {v : S} {n : Nat} (N : Nat) (hf : P.funcs[k]? = some fn) (hb : fn.body = some c) (hN : fn.ntmps = N)
    (ha : Nat.ble args.length N = true) (hn : H.length = n) (hl : Nat.ble n H'.length = true) (hnm : (fn.name == "runtime.NumGoroutine") = false)
    (h : AWp P n c (ended P fn n v H') ⟨frm N (args0 0 args), H⟩) : Good P k args H v H' := by
  subst hN
  exact good_of_body hf hb (Nat.le_of_ble_eq_true ha) (frm_args (Nat.le_of_ble_eq_true ha)) hn (Nat.le_of_ble_eq_true hl) hnm h
section
variable {P : Program} {n N : Nat} {Q : Exit → St → Prop} {al al' : List (Nat × S)} {H H' : Heap} {ops r : List Oper} {q : St → Prop} {o : Oper}
/-! One operation ahead. -/
theorem guard_frm {j t : Nat} {b : Bool} {oj : Oper} (hj : ops[j]? = some oj) (hjd : oj.dst = some t) (hv : lkpB N al t = .v (.c (.bool b))) : guardOf ops (frm N al) j = some (some b) := by
  have hlt : t < N := by
    unfold lkpB at hv
    cases hb : Nat.blt t N with
    | true => simpa [Nat.blt_eq] using hb
    | false => rw [hb] at hv; simp [ud] at hv
  have hv' : lkp al t = .v (.c (.bool b)) := by
    unfold lkpB at hv
    rwa [show Nat.blt t N = true by simpa [Nat.blt_eq] using hlt] at hv
  simp [guardOf, hj, hjd, frm_get hlt, hv']
def Taken (ops : List Oper) (N : Nat) (al : List (Nat × S)) (o : Oper) : Prop := o.guard = none ∨ ∃ j want, o.guard = some (j, want) ∧ guardOf ops (frm N al) j = some (some want)
def Skipped (ops : List Oper) (N : Nat) (al : List (Nat × S)) (o : Oper) : Prop := ∃ j want b, o.guard = some (j, want) ∧ guardOf ops (frm N al) j = some b ∧ b ≠ some want
theorem tk (h : o.guard = none) : Taken ops N al o := .inl h
theorem tkg {j t : Nat} {want : Bool} {oj : Oper} (hg : o.guard = some (j, want)) (hj : ops[j]? = some oj) (hjd : oj.dst = some t) (hv : lkpB N al t = .v (.c (.bool want))) : Taken ops N al o := .inr ⟨j, want, hg, guard_frm hj hjd hv⟩
theorem sk {j t : Nat} {want b : Bool} {oj : Oper} (hg : o.guard = some (j, want)) (hj : ops[j]? = some oj) (hjd : oj.dst = some t) (hv : lkpB N al t = .v (.c (.bool b))) (hne : b ≠ want) : Skipped ops N al o := ⟨j, want, some b, hg, guard_frm hj hjd hv, fun h => hne (Option.some.inj h)⟩
theorem g1 {d : Nat} (hd : o.dst = some d) (hg : Taken ops N al o) (h : ostep P o (frm N al) H fun s H' => aops P ops q r ⟨frm N ((d, s) :: al), H'⟩) : aops P ops q (o :: r) ⟨frm N al, H⟩ := by
  rcases hg with hg | ⟨j, want, hg, hb⟩
  · simp only [aops, hg, hd, put_frm]; exact h
  · simp only [aops, hg, hb, hd, put_frm]; exact ⟨fun _ => h, fun hne => absurd rfl hne⟩
theorem g0 (hd : o.dst = none) (hg : Taken ops N al o) (h : ostep P o (frm N al) H fun _ H' => aops P ops q r ⟨frm N al, H'⟩) : aops P ops q (o :: r) ⟨frm N al, H⟩ := by
  rcases hg with hg | ⟨j, want, hg, hb⟩
  · simp only [aops, hg, hd]; exact h
  · simp only [aops, hg, hb, hd]; exact ⟨fun _ => h, fun hne => absurd rfl hne⟩
theorem gS {d : Nat} (hd : o.dst = some d) (hg : Skipped ops N al o) (h : aops P ops q r ⟨frm N ((d, us) :: al), H⟩) : aops P ops q (o :: r) ⟨frm N al, H⟩ := by
  obtain ⟨j, want, b, hg, hb, hne⟩ := hg
  simp only [aops, hg, hb, hd, put_frm]
  exact ⟨fun he => absurd he hne, fun _ => h⟩
theorem gend {st : St} (h : q st) : aops P ops q [] st := h
/-! The same in a region that draws its order: an operation without memory; one that looks at a block; an effect. -/
section
variable {lo hi : List Nat} {i : Nat} {rem : List Nat} {hist : List Heap} {pend : List (Nat × Heap)}
theorem dP {d : Nat} {s : S} (hd : o.dst = some d) (hg : Taken ops N al o) (hne : (rem.head? == some i) = false) (h : ∀ V', ostep P o (frm N al) V' fun s' H' => s' = s ∧ H' = V')
    (k : Dw P ops lo hi q r (i + 1) rem hist pend (frm N ((d, s) :: al))) : Dw P ops lo hi q (o :: r) i rem hist pend (frm N al) := by
  have hne' : ¬ rem.head? = some i := fun e => by rw [e] at hne; simp at hne
  simp only [Dw, if_neg hne']
  refine ⟨[], s, pend, .inr ⟨rfl, rfl⟩, ?_, ?_, by rw [hd, put_frm]; exact k⟩
  · have : ∀ l : List Heap, seen [] l := by
      intro l
      induction l with
      | nil => trivial
      | cons x r ih => exact ⟨fun p cs h => by simp at h, ih⟩
    exact this _
  · rcases hg with hg | ⟨j, want, hg, hb⟩
    · simp only [hg]; exact fun V' _ => h V'
    · simp only [hg]; exact ⟨some want, hb, fun _ V' _ => h V', fun hn => absurd rfl hn⟩
def one (p : Nat) (cs : List Cell) : Heap := List.replicate p none ++ [some cs]
theorem one_get {p q : Nat} {cs ds : List Cell} (h : (one p cs)[q]? = some (some ds)) : q = p ∧ ds = cs := by
  unfold one at h
  by_cases hq : q < p
  · rw [List.getElem?_append_left (by simpa using hq), List.getElem?_replicate, if_pos hq] at h; simp at h
  · rw [List.getElem?_append_right (by simpa using hq)] at h
    simp only [List.length_replicate] at h
    by_cases h0 : q - p = 0
    · rw [h0] at h; simp at h; exact ⟨by omega, h.symm⟩
    · rw [List.getElem?_eq_none (by simp; omega)] at h; simp at h
theorem sub_one {p : Nat} {cs : List Cell} {H : Heap} (h : H[p]? = some (some cs)) : Sub (one p cs) H := fun q ds hq => by
  obtain ⟨rfl, rfl⟩ := one_get hq; exact h
theorem one_at {p : Nat} {cs : List Cell} {V' : Heap} (h : Sub (one p cs) V') : V'[p]? = some (some cs) := h p cs (by simp [one])
theorem dR {d : Nat} {s : S} (p : Nat) {cs : List Cell} (hd : o.dst = some d) (hg : Taken ops N al o) (hne : (rem.head? == some i) = false) (hs : seen (one p cs) (hist.take (hist.length - lo.getD i 0))) (h : ∀ V' : Heap, V'[p]? = some (some cs) → ostep P o (frm N al) V' fun s' H' => s' = s ∧ H' = V')
    (k : Dw P ops lo hi q r (i + 1) rem hist ((hi.getD i 0, one p cs) :: pend) (frm N ((d, s) :: al))) : Dw P ops lo hi q (o :: r) i rem hist pend (frm N al) := by
  have hne' : ¬ rem.head? = some i := fun e => by rw [e] at hne; simp at hne
  simp only [Dw, if_neg hne']
  refine ⟨one p cs, s, _, .inl rfl, hs, ?_, by rw [hd, put_frm]; exact k⟩
  rcases hg with hg | ⟨j, want, hg, hb⟩
  · simp only [hg]; exact fun V' hV => h V' (one_at hV)
  · simp only [hg]; exact ⟨some want, hb, fun _ V' hV => h V' (one_at hV), fun hn => absurd rfl hn⟩
theorem dE {d : Nat} (hd : o.dst = some d) (hg : Taken ops N al o) (h : ostep P o (frm N al) H fun s H' => pendOk pend (hist.length + 1) H' ∧ Dw P ops lo hi q r (i + 1) rem (H' :: H :: hist) pend (frm N ((d, s) :: al))) :
    Dw P ops lo hi q (o :: r) i (i :: rem) (H :: hist) pend (frm N al) := by
  simp only [Dw, List.head?_cons, if_true, List.headD_cons, List.tail_cons]
  rcases hg with hg | ⟨j, want, hg, hb⟩
  · simp only [hg, hd, put_frm]; exact h
  · simp only [hg, hd, put_frm]; exact ⟨some want, hb, fun _ => h, fun hn => absurd rfl hn⟩
theorem dE0 (hd : o.dst = none) (hg : Taken ops N al o) (h : ostep P o (frm N al) H fun _ H' => pendOk pend (hist.length + 1) H' ∧ Dw P ops lo hi q r (i + 1) rem (H' :: H :: hist) pend (frm N al)) :
    Dw P ops lo hi q (o :: r) i (i :: rem) (H :: hist) pend (frm N al) := by
  simp only [Dw, List.head?_cons, if_true, List.headD_cons, List.tail_cons]
  rcases hg with hg | ⟨j, want, hg, hb⟩
  · simp only [hg, hd]; exact h
  · simp only [hg, hd]; exact ⟨some want, hb, fun _ => h, fun hn => absurd rfl hn⟩
theorem dN {d : Nat} (hd : o.dst = some d) (hg : Skipped ops N al o) (hne : (rem.head? == some i) = false) (k : Dw P ops lo hi q r (i + 1) rem hist pend (frm N ((d, us) :: al))) : Dw P ops lo hi q (o :: r) i rem hist pend (frm N al) := by
  have hne' : ¬ rem.head? = some i := fun e => by rw [e] at hne; simp at hne
  obtain ⟨j, want, b, hg, hb, hbw⟩ := hg
  simp only [Dw, if_neg hne', hg]
  refine ⟨[], us, pend, .inr ⟨rfl, rfl⟩, ?_, ⟨b, hb, fun he => absurd he hbw, fun _ => rfl⟩, by rw [hd, put_frm]; exact k⟩
  have : ∀ l : List Heap, seen [] l := by
    intro l
    induction l with
    | nil => trivial
    | cons x r ih => exact ⟨fun p cs h => by simp at h, ih⟩
  exact this _
theorem dM {d : Nat} (hd : o.dst = some d) (hg : Skipped ops N al o) (hp : pendOk pend (hist.length + 1) H) (k : Dw P ops lo hi q r (i + 1) rem (H :: H :: hist) pend (frm N ((d, us) :: al))) : Dw P ops lo hi q (o :: r) i (i :: rem) (H :: hist) pend (frm N al) := by
  obtain ⟨j, want, b, hg, hb, hbw⟩ := hg
  simp only [Dw, List.head?_cons, if_true, List.headD_cons, List.tail_cons, hg]
  exact ⟨b, hb, fun he => absurd he hbw, fun _ => ⟨hp, by rw [hd, put_frm]; exact k⟩⟩
theorem dend {fr : List S} (h : q ⟨fr, H⟩) : Dw P ops lo hi q [] i [] (H :: hist) pend fr := ⟨rfl, h⟩
end
/-! Less is told. -/
def SubL (al : List (Nat × S)) : List (Nat × S) → Prop
  | [] => True
  | (t, s) :: r => lkp al t = s ∧ SubL al r
theorem sub_get : ∀ {al' : List (Nat × S)}, SubL al al' → ∀ t, lkp al' t = ud ∨ lkp al' t = lkp al t
  | [], _, _ => .inl rfl
  | (i, s) :: r, h, t => by
    simp only [SubL] at h
    simp only [lkp]
    cases hb : Nat.beq i t with
    | true =>
      have := Nat.eq_of_beq_eq_true hb
      subst this
      exact .inr (by rw [cond_true]; exact h.1.symm)
    | false => rw [cond_false]; exact sub_get h.2 t
theorem sle_view (π : List Nat) (hn : ∀ p, p < n → π[p]? = some p) (hnd : π.Nodup)
    (hf : SubL (al.map fun x => (x.1, sm (cm ⟨fun p => idx p π, fun _ => none, true, false⟩ 8) x.2)) al')
    (hH : H' = π.map (pick H (cm ⟨fun p => idx p π, fun _ => none, true, false⟩ 8))) : SLe n ⟨frm N al, H⟩ ⟨frm N al', H'⟩ := by
  have hl : ∀ (f : Cell → Cell) (al : List (Nat × S)) t, lkp al t = ud ∨ lkp (al.map fun x => (x.1, sm f x.2)) t = sm f (lkp al t) := by
    intro f al t
    induction al with
    | nil => exact .inl rfl
    | cons x r ih =>
      obtain ⟨i, s⟩ := x
      simp only [List.map_cons, lkp]
      cases Nat.beq i t with
      | true => exact .inr rfl
      | false => exact ih
  have hl0 : ∀ (f : Cell → Cell) (al : List (Nat × S)) t, lkp al t = ud → lkp (al.map fun x => (x.1, sm f x.2)) t = ud ∨ lkp (al.map fun x => (x.1, sm f x.2)) t = sm f ud := by
    intro f al t h
    induction al with
    | nil => exact .inl rfl
    | cons x r ih =>
      obtain ⟨i, s⟩ := x
      simp only [List.map_cons, lkp] at h ⊢
      cases hb : Nat.beq i t with
      | true => rw [hb, cond_true] at h; rw [h]; exact .inr rfl
      | false => rw [hb, cond_false] at h; exact ih h
  intro E ρ a w hs
  obtain ⟨ρ', h1, h2⟩ := SLe.view (n := n) (st := ⟨frm N al, H⟩) π (List.range N) hn hnd E ρ a w hs
  refine ⟨ρ', h1, ?_, ?_⟩
  · refine ⟨h2.fr.1, ?_, fun t s ht => ?_⟩
    · rw [frm_length]
      have := hs.fr.2.1
      rw [frm_length] at this
      exact this
    · have hlt : t < N := by
        have := (List.getElem?_eq_some_iff.1 ht).1
        rwa [frm_length] at this
      rw [frm_get hlt] at ht
      obtain rfl := Option.some.inj ht
      have hv : (Abs.view π (List.range N) ⟨frm N al, H⟩).fr[t]? = some (sm (cm ⟨fun p => idx p π, fun _ => none, true, false⟩ 8) (lkp al t)) := by
        show (vwF _ (List.range N) 0 (frm N al))[t]? = _
        rw [vwF_keep _ _ _ 0 t (by simpa using hlt), frm_get hlt]; rfl
      obtain ⟨v, k1, k2⟩ := h2.fr.2.2 t _ hv
      refine ⟨v, k1, ?_⟩
      have hlen : (Abs.view π (List.range N) ⟨frm N al, H⟩).H.length = H'.length := by rw [hH]; rfl
      rw [hlen] at k2
      show SRel (E.rl H'.length ρ') (lkp al' t) v
      rcases sub_get hf t with h | h
      · rw [h]; simp [ud, SRel, VRel, CRel]
      · rw [h]
        rcases hl (cm ⟨fun p => idx p π, fun _ => none, true, false⟩ 8) al t with g | g
        · rcases hl0 (cm ⟨fun p => idx p π, fun _ => none, true, false⟩ 8) al t g with g' | g'
          · rw [g']; simp [ud, SRel, VRel, CRel]
          · rw [g']; rw [g] at k2; exact k2
        · rw [g]; exact k2
  · have : (Abs.view π (List.range N) ⟨frm N al, H⟩).H = H' := by rw [hH]; rfl
    rw [← this]; exact h2.heap
theorem sle_sub (hf : SubL al al') (hH : H = H') : SLe n ⟨frm N al, H⟩ ⟨frm N al', H'⟩ := by
  subst hH
  intro E ρ a w hs
  refine ⟨ρ, fun _ _ => rfl, ⟨hs.fr.1, by rw [frm_length]; have := hs.fr.2.1; rwa [frm_length] at this, fun t s ht => ?_⟩, hs.heap⟩
  have hlt : t < N := by
    have := (List.getElem?_eq_some_iff.1 ht).1
    rwa [frm_length] at this
  rw [frm_get hlt] at ht
  obtain rfl := Option.some.inj ht
  obtain ⟨v, k1, k2⟩ := hs.fr.2.2 t _ (frm_get hlt)
  refine ⟨v, k1, ?_⟩
  rcases sub_get hf t with h | h
  · rw [h]; simp [ud, SRel, VRel, CRel]
  · rw [h]; exact k2
/-! Control. -/
theorem awp_c {c : Operand} {x y : Code} {st : St} {p : Prop} [Decidable p] (hc : ev st.fr c = .v (.c (.bool (decide p)))) (h1 : p → AWp P n x Q st) (h2 : ¬ p → AWp P n y Q st) : AWp P n (.cond c x y) Q st :=
  awp_cond hc (fun h => h1 (by simpa using h)) (fun h => h2 (by simpa using h))
theorem awp_cb {c : Operand} {x y : Code} {st : St} {b : Bool} (hc : ev st.fr c = .v (.c (.bool b))) (h1 : b = true → AWp P n x Q st) (h2 : b = false → AWp P n y Q st) : AWp P n (.cond c x y) Q st :=
  awp_cond hc h1 h2
theorem awp_ct {c : Operand} {x y : Code} {st : St} (hc : ev st.fr c = .v (.c (.bool true))) (h1 : AWp P n x Q st) : AWp P n (.cond c x y) Q st :=
  awp_cond hc (fun _ => h1) (fun h => by cases h)
theorem awp_cf {c : Operand} {x y : Code} {st : St} (hc : ev st.fr c = .v (.c (.bool false))) (h2 : AWp P n y Q st) : AWp P n (.cond c x y) Q st :=
  awp_cond hc (fun h => by cases h) (fun _ => h2)
theorem awp_label {l : Nat} {st : St} (h : Q .normal st) : AWp P n (.label l) Q st := fun _ ρ _ _ _ hs => wp_label ⟨st, ρ, h, fun _ _ => rfl, hs⟩
theorem awp_goto {l : Nat} {st : St} (h : Q (.goto l) st) : AWp P n (.goto l) Q st := fun _ ρ _ _ _ hs => wp_goto ⟨st, ρ, h, fun _ _ => rfl, hs⟩
def jump_ (l : Nat) (J : St → Prop) (Q : Exit → St → Prop) : Exit → St → Prop
  | .goto l', s => l' = l ∧ J s
  | e, s => Q e s
theorem awp_scope {c rest : Code} {st : St} (l : Nat) (J : St → Prop) (hl : findLabel c l = some rest) (h : AWp P n c (jump_ l J Q) st) (hJ : ∀ s, J s → AWp P n rest (jump_ l (fun _ => False) Q) s) : AWp P n (.scope c) Q st := by
  intro E ρ a w hE hs
  refine wp_scope_jumps l (fun a' w' => ∃ s ρ', J s ∧ (∀ p, p < n → ρ' p = ρ p) ∧ Sim E ρ' s a' w') (fun _ _ => 0) hl ?_ ?_
  · refine wp_mono (h E ρ a w hE hs) ?_
    rintro e a' w' ⟨s, ρ', k1, k2, k3⟩
    cases e with
    | goto l' => exact ⟨k1.1, s, ρ', k1.2, k2, k3⟩
    | _ => exact ⟨s, ρ', k1, k2, k3⟩
  · rintro a w ⟨s, ρ', k1, k2, k3⟩
    refine wp_mono (hJ s k1 E ρ' a w hE k3) ?_
    rintro e a' w' ⟨s', ρ'', l1, l2, l3⟩
    cases e with
    | goto l' => exact l1.2.elim
    | _ => exact ⟨s', ρ'', l1, fun p hp => (l2 p hp).trans (k2 p hp), l3⟩
def arounds (P : Program) (n : Nat) (c : Code) (Q : Exit → St → Prop) : Nat → St → Prop
  | 0, _ => False
  | m + 1, st => AWp P n c (then_ (arounds P n c Q m) Q) st
end
end Go.Abs

/- The abstract machine: rules for single operations, by the kinds of their operands. Printed by rules.py. -/
namespace Go.Abs
open Go
abbrev cn (n : Nat) : Cell := .int .i64 (n : Int)
abbrev ci (n : Int) : Cell := .int .i64 n
/-! Words: what the reference calls shifts, whatever the count. -/
def shl8n (x : UInt8) (n : Nat) : UInt8 := if n < 8 then x <<< UInt8.ofNat n else 0
def shr8n (x : UInt8) (n : Nat) : UInt8 := if n < 8 then x >>> UInt8.ofNat n else 0
def shl32n (x : UInt32) (n : Nat) : UInt32 := if n < 32 then x <<< UInt32.ofNat n else 0
def shr32n (x : UInt32) (n : Nat) : UInt32 := if n < 32 then x >>> UInt32.ofNat n else 0
theorem wr_shl32 (x : UInt32) (n : Nat) : IntKind.u32.wrap ((x.toNat : Int) * 2 ^ (min n 32)) = ((shl32n x n).toNat : Int) := by
  unfold shl32n
  have e : IntKind.u32.wrap ((x.toNat : Int) * 2 ^ (min n 32)) = (((x.toNat * 2 ^ (min n 32)) % 2 ^ 32 : Nat) : Int) := by
    rw [wrap_u .u32 rfl]; simp [IntKind.bits]
  rw [e]
  by_cases h : n < 32
  · rw [if_pos h, Nat.min_eq_left (by omega), UInt32.toNat_shiftLeft]
    have h1 : (UInt32.ofNat n).toNat = n := by simp; omega
    rw [h1, Nat.mod_eq_of_lt h, Nat.shiftLeft_eq]
  · rw [if_neg h, Nat.min_eq_right (by omega)]
    simp
theorem wr_shr32 (x : UInt32) (n : Nat) : ((x.toNat : Int)).fdiv (2 ^ (min n 32)) = ((shr32n x n).toNat : Int) := by
  unfold shr32n
  have e : ((x.toNat : Int)).fdiv (2 ^ (min n 32)) = ((x.toNat / 2 ^ (min n 32) : Nat) : Int) := by
    rw [Int.fdiv_eq_ediv_of_nonneg _ (by exact Int.le_of_lt (Int.pow_pos (by decide)))]
    simp
  rw [e]
  by_cases h : n < 32
  · rw [if_pos h, Nat.min_eq_left (by omega), UInt32.toNat_shiftRight]
    have h1 : (UInt32.ofNat n).toNat = n := by simp; omega
    rw [h1, Nat.mod_eq_of_lt h, Nat.shiftRight_eq_div_pow]
  · rw [if_neg h, Nat.min_eq_right (by omega)]
    have : x.toNat / 2 ^ 32 = 0 := Nat.div_eq_of_lt x.toNat_lt
    rw [this]; rfl
def shl64n (x : UInt64) (n : Nat) : UInt64 := if n < 64 then x <<< UInt64.ofNat n else 0
def shr64n (x : UInt64) (n : Nat) : UInt64 := if n < 64 then x >>> UInt64.ofNat n else 0
theorem wr_shl64 (x : UInt64) (n : Nat) : IntKind.u64.wrap ((x.toNat : Int) * 2 ^ (min n 64)) = ((shl64n x n).toNat : Int) := by
  unfold shl64n
  have e : IntKind.u64.wrap ((x.toNat : Int) * 2 ^ (min n 64)) = (((x.toNat * 2 ^ (min n 64)) % 2 ^ 64 : Nat) : Int) := by
    rw [wrap_u .u64 rfl]; simp [IntKind.bits]
  rw [e]
  by_cases h : n < 64
  · rw [if_pos h, Nat.min_eq_left (by omega), UInt64.toNat_shiftLeft]
    have h1 : (UInt64.ofNat n).toNat = n := by simp; omega
    rw [h1, Nat.mod_eq_of_lt h, Nat.shiftLeft_eq]
  · rw [if_neg h, Nat.min_eq_right (by omega)]
    simp
theorem wr_shr64 (x : UInt64) (n : Nat) : ((x.toNat : Int)).fdiv (2 ^ (min n 64)) = ((shr64n x n).toNat : Int) := by
  unfold shr64n
  have e : ((x.toNat : Int)).fdiv (2 ^ (min n 64)) = ((x.toNat / 2 ^ (min n 64) : Nat) : Int) := by
    rw [Int.fdiv_eq_ediv_of_nonneg _ (by exact Int.le_of_lt (Int.pow_pos (by decide)))]
    simp
  rw [e]
  by_cases h : n < 64
  · rw [if_pos h, Nat.min_eq_left (by omega), UInt64.toNat_shiftRight]
    have h1 : (UInt64.ofNat n).toNat = n := by simp; omega
    rw [h1, Nat.mod_eq_of_lt h, Nat.shiftRight_eq_div_pow]
  · rw [if_neg h, Nat.min_eq_right (by omega)]
    have : x.toNat / 2 ^ 64 = 0 := Nat.div_eq_of_lt x.toNat_lt
    rw [this]; rfl
theorem wr_quo64 (x y : UInt64) : IntKind.u64.wrap ((x.toNat : Int).tdiv y.toNat) = ((x / y).toNat : Int) := by
  have h : ((x.toNat : Int).tdiv y.toNat) = ((x.toNat / y.toNat : Nat) : Int) := by rw [Int.ofNat_tdiv]
  rw [h, wrap_u .u64 rfl, UInt64.toNat_div]
  have := x.toNat_lt
  have h2 : x.toNat / y.toNat < 2 ^ 64 := Nat.lt_of_le_of_lt (Nat.div_le_self _ _) this
  have : ((x.toNat / y.toNat : Nat) : Int) < 2 ^ 64 := by exact_mod_cast h2
  exact Int.emod_eq_of_lt (Int.natCast_nonneg _) this
theorem wr_rem64 (x y : UInt64) : (x.toNat : Int).tmod y.toNat = ((x % y).toNat : Int) := by
  rw [UInt64.toNat_mod, Int.ofNat_tmod]
section
variable {P : Program} {fr : List S} {H : Heap} {K : S → Heap → Prop} {o : Oper} {t u : TypeId} {ti : TI} {a b : Operand}
theorem binI {op : BinOp} {k k' : IntKind} {x y : Int} (ho : o.op = .binOp op t a b u) (ht : tiOf P t = some ti) (hx : ev fr a = sc (.int k x)) (hy : ev fr b = sc (.int k' y))
    (h : binC op ti.kind (.int k x) (.int k' y) fun r => K (sc r) H) : ostep P o fr H K := by
  simp only [ostep, ho, hx, hy, pstep, ht]
  exact h
theorem r_or8 {x y : UInt8} (ho : o.op = .binOp .or t a b u) (ht : tiOf P t = some ti) (hx : ev fr a = sc (c8 x)) (hy : ev fr b = sc (c8 y)) (h : K (sc (c8 (x ||| y))) H) : ostep P o fr H K :=
  binI ho ht hx hy (by simp only [binC, shiftv, arithv, true_and]; rw [or8]; exact h)
theorem r_xor8 {x y : UInt8} (ho : o.op = .binOp .xor t a b u) (ht : tiOf P t = some ti) (hx : ev fr a = sc (c8 x)) (hy : ev fr b = sc (c8 y)) (h : K (sc (c8 (x ^^^ y))) H) : ostep P o fr H K :=
  binI ho ht hx hy (by simp only [binC, shiftv, arithv, true_and]; rw [xor8]; exact h)
theorem r_eql8 {x y : UInt8} (ho : o.op = .binOp .eql t a b u) (ht : tiOf P t = some ti) (hx : ev fr a = sc (c8 x)) (hy : ev fr b = sc (c8 y)) (h : K (sc (.bool (decide (x = y)))) H) : ostep P o fr H K :=
  binI ho ht hx hy (by
    simp only [binC, shiftv, arithv, divv, cmpv, true_and]
    refine cast (congrArg (fun z => K (sc (.bool z)) H) ?_) h
    rw [Bool.eq_iff_iff]; simp only [decide_eq_true_eq, beq_iff_eq, ← UInt8.toNat_inj]; omega)
theorem r_add32 {x y : UInt32} (ho : o.op = .binOp .add t a b u) (ht : tiOf P t = some ti) (hx : ev fr a = sc (c32 x)) (hy : ev fr b = sc (c32 y)) (h : K (sc (c32 (x + y))) H) : ostep P o fr H K :=
  binI ho ht hx hy (by simp only [binC, shiftv, arithv, true_and]; rw [add32]; exact h)
theorem r_or32 {x y : UInt32} (ho : o.op = .binOp .or t a b u) (ht : tiOf P t = some ti) (hx : ev fr a = sc (c32 x)) (hy : ev fr b = sc (c32 y)) (h : K (sc (c32 (x ||| y))) H) : ostep P o fr H K :=
  binI ho ht hx hy (by simp only [binC, shiftv, arithv, true_and]; rw [or32]; exact h)
theorem r_xor32 {x y : UInt32} (ho : o.op = .binOp .xor t a b u) (ht : tiOf P t = some ti) (hx : ev fr a = sc (c32 x)) (hy : ev fr b = sc (c32 y)) (h : K (sc (c32 (x ^^^ y))) H) : ostep P o fr H K :=
  binI ho ht hx hy (by simp only [binC, shiftv, arithv, true_and]; rw [xor32]; exact h)
theorem r_shl32_64 {x : UInt32} {n : UInt64} (ho : o.op = .binOp .shl t a b u) (ht : tiOf P t = some ti) (hx : ev fr a = sc (c32 x)) (hy : ev fr b = sc (c64 n)) (h : K (sc (c32 (shl32n x n.toNat))) H) : ostep P o fr H K :=
  binI ho ht hx hy (by
    simp only [binC, shiftv, Int.toNat_natCast]
    exact ⟨by omega, by rw [show IntKind.u32.bits = 32 from rfl, wr_shl32]; exact h⟩)
theorem r_shr32_64 {x : UInt32} {n : UInt64} (ho : o.op = .binOp .shr t a b u) (ht : tiOf P t = some ti) (hx : ev fr a = sc (c32 x)) (hy : ev fr b = sc (c64 n)) (h : K (sc (c32 (shr32n x n.toNat))) H) : ostep P o fr H K :=
  binI ho ht hx hy (by
    simp only [binC, shiftv, Int.toNat_natCast]
    exact ⟨by omega, by rw [show IntKind.u32.bits = 32 from rfl, wr_shr32]; exact h⟩)
theorem r_shr32_0 {x : UInt32} {n : Nat} (ho : o.op = .binOp .shr t a b u) (ht : tiOf P t = some ti) (hx : ev fr a = sc (c32 x)) (hy : ev fr b = sc (cn n)) (h : K (sc (c32 (shr32n x n))) H) : ostep P o fr H K :=
  binI ho ht hx hy (by
    simp only [binC, shiftv, Int.toNat_natCast]
    exact ⟨by omega, by rw [show IntKind.u32.bits = 32 from rfl, wr_shr32]; exact h⟩)
theorem r_add64 {x y : UInt64} (ho : o.op = .binOp .add t a b u) (ht : tiOf P t = some ti) (hx : ev fr a = sc (c64 x)) (hy : ev fr b = sc (c64 y)) (h : K (sc (c64 (x + y))) H) : ostep P o fr H K :=
  binI ho ht hx hy (by simp only [binC, shiftv, arithv, true_and]; rw [add64]; exact h)
theorem r_sub64 {x y : UInt64} (ho : o.op = .binOp .sub t a b u) (ht : tiOf P t = some ti) (hx : ev fr a = sc (c64 x)) (hy : ev fr b = sc (c64 y)) (h : K (sc (c64 (x - y))) H) : ostep P o fr H K :=
  binI ho ht hx hy (by simp only [binC, shiftv, arithv, true_and]; rw [sub64]; exact h)
theorem r_mul64 {x y : UInt64} (ho : o.op = .binOp .mul t a b u) (ht : tiOf P t = some ti) (hx : ev fr a = sc (c64 x)) (hy : ev fr b = sc (c64 y)) (h : K (sc (c64 (x * y))) H) : ostep P o fr H K :=
  binI ho ht hx hy (by simp only [binC, shiftv, arithv, true_and]; rw [mul64]; exact h)
theorem r_and64 {x y : UInt64} (ho : o.op = .binOp .and t a b u) (ht : tiOf P t = some ti) (hx : ev fr a = sc (c64 x)) (hy : ev fr b = sc (c64 y)) (h : K (sc (c64 (x &&& y))) H) : ostep P o fr H K :=
  binI ho ht hx hy (by simp only [binC, shiftv, arithv, true_and]; rw [and64]; exact h)
theorem r_or64 {x y : UInt64} (ho : o.op = .binOp .or t a b u) (ht : tiOf P t = some ti) (hx : ev fr a = sc (c64 x)) (hy : ev fr b = sc (c64 y)) (h : K (sc (c64 (x ||| y))) H) : ostep P o fr H K :=
  binI ho ht hx hy (by simp only [binC, shiftv, arithv, true_and]; rw [or64]; exact h)
theorem r_quo64 {x y : UInt64} (ho : o.op = .binOp .quo t a b u) (ht : tiOf P t = some ti) (hx : ev fr a = sc (c64 x)) (hy : ev fr b = sc (c64 y)) (hz : y ≠ 0) (h : K (sc (c64 (x / y))) H) : ostep P o fr H K :=
  binI ho ht hx hy (by
    simp only [binC, shiftv, arithv, divv, true_and]; rw [wr_quo64]
    exact ⟨fun e => hz (UInt64.toNat_inj.1 (by exact_mod_cast e)), h⟩)
theorem r_rem64 {x y : UInt64} (ho : o.op = .binOp .rem t a b u) (ht : tiOf P t = some ti) (hx : ev fr a = sc (c64 x)) (hy : ev fr b = sc (c64 y)) (hz : y ≠ 0) (h : K (sc (c64 (x % y))) H) : ostep P o fr H K :=
  binI ho ht hx hy (by
    simp only [binC, shiftv, arithv, divv, true_and]; rw [wr_rem64]
    exact ⟨fun e => hz (UInt64.toNat_inj.1 (by exact_mod_cast e)), h⟩)
theorem r_eql64 {x y : UInt64} (ho : o.op = .binOp .eql t a b u) (ht : tiOf P t = some ti) (hx : ev fr a = sc (c64 x)) (hy : ev fr b = sc (c64 y)) (h : K (sc (.bool (decide (x = y)))) H) : ostep P o fr H K :=
  binI ho ht hx hy (by
    simp only [binC, shiftv, arithv, divv, cmpv, true_and]
    refine cast (congrArg (fun z => K (sc (.bool z)) H) ?_) h
    rw [Bool.eq_iff_iff]; simp only [decide_eq_true_eq, beq_iff_eq, ← UInt64.toNat_inj]; omega)
theorem r_neq64 {x y : UInt64} (ho : o.op = .binOp .neq t a b u) (ht : tiOf P t = some ti) (hx : ev fr a = sc (c64 x)) (hy : ev fr b = sc (c64 y)) (h : K (sc (.bool (decide (x ≠ y)))) H) : ostep P o fr H K :=
  binI ho ht hx hy (by
    simp only [binC, shiftv, arithv, divv, cmpv, true_and]
    refine cast (congrArg (fun z => K (sc (.bool z)) H) ?_) h
    rw [Bool.eq_iff_iff]; simp only [decide_eq_true_eq, bne_iff_ne, ne_eq, ← UInt64.toNat_inj]; omega)
theorem r_lss64 {x y : UInt64} (ho : o.op = .binOp .lss t a b u) (ht : tiOf P t = some ti) (hx : ev fr a = sc (c64 x)) (hy : ev fr b = sc (c64 y)) (h : K (sc (.bool (decide (x < y)))) H) : ostep P o fr H K :=
  binI ho ht hx hy (by
    simp only [binC, shiftv, arithv, divv, cmpv, true_and]
    refine cast (congrArg (fun z => K (sc (.bool z)) H) ?_) h
    rw [Bool.eq_iff_iff]; simp only [decide_eq_true_eq, UInt64.lt_iff_toNat_lt]; omega)
theorem r_leq64 {x y : UInt64} (ho : o.op = .binOp .leq t a b u) (ht : tiOf P t = some ti) (hx : ev fr a = sc (c64 x)) (hy : ev fr b = sc (c64 y)) (h : K (sc (.bool (decide (x ≤ y)))) H) : ostep P o fr H K :=
  binI ho ht hx hy (by
    simp only [binC, shiftv, arithv, divv, cmpv, true_and]
    refine cast (congrArg (fun z => K (sc (.bool z)) H) ?_) h
    rw [Bool.eq_iff_iff]; simp only [decide_eq_true_eq, UInt64.le_iff_toNat_le]; omega)
theorem r_gtr64 {x y : UInt64} (ho : o.op = .binOp .gtr t a b u) (ht : tiOf P t = some ti) (hx : ev fr a = sc (c64 x)) (hy : ev fr b = sc (c64 y)) (h : K (sc (.bool (decide (y < x)))) H) : ostep P o fr H K :=
  binI ho ht hx hy (by
    simp only [binC, shiftv, arithv, divv, cmpv, true_and]
    refine cast (congrArg (fun z => K (sc (.bool z)) H) ?_) h
    rw [Bool.eq_iff_iff]; simp only [decide_eq_true_eq, gt_iff_lt, UInt64.lt_iff_toNat_lt]; omega)
theorem r_geq64 {x y : UInt64} (ho : o.op = .binOp .geq t a b u) (ht : tiOf P t = some ti) (hx : ev fr a = sc (c64 x)) (hy : ev fr b = sc (c64 y)) (h : K (sc (.bool (decide (y ≤ x)))) H) : ostep P o fr H K :=
  binI ho ht hx hy (by
    simp only [binC, shiftv, arithv, divv, cmpv, true_and]
    refine cast (congrArg (fun z => K (sc (.bool z)) H) ?_) h
    rw [Bool.eq_iff_iff]; simp only [decide_eq_true_eq, ge_iff_le, UInt64.le_iff_toNat_le]; omega)
theorem r_shl64_64 {x : UInt64} {n : UInt64} (ho : o.op = .binOp .shl t a b u) (ht : tiOf P t = some ti) (hx : ev fr a = sc (c64 x)) (hy : ev fr b = sc (c64 n)) (h : K (sc (c64 (shl64n x n.toNat))) H) : ostep P o fr H K :=
  binI ho ht hx hy (by
    simp only [binC, shiftv, Int.toNat_natCast]
    exact ⟨by omega, by rw [show IntKind.u64.bits = 64 from rfl, wr_shl64]; exact h⟩)
theorem r_shr64_64 {x : UInt64} {n : UInt64} (ho : o.op = .binOp .shr t a b u) (ht : tiOf P t = some ti) (hx : ev fr a = sc (c64 x)) (hy : ev fr b = sc (c64 n)) (h : K (sc (c64 (shr64n x n.toNat))) H) : ostep P o fr H K :=
  binI ho ht hx hy (by
    simp only [binC, shiftv, Int.toNat_natCast]
    exact ⟨by omega, by rw [show IntKind.u64.bits = 64 from rfl, wr_shr64]; exact h⟩)
theorem r_shl64_0 {x : UInt64} {n : Nat} (ho : o.op = .binOp .shl t a b u) (ht : tiOf P t = some ti) (hx : ev fr a = sc (c64 x)) (hy : ev fr b = sc (cn n)) (h : K (sc (c64 (shl64n x n))) H) : ostep P o fr H K :=
  binI ho ht hx hy (by
    simp only [binC, shiftv, Int.toNat_natCast]
    exact ⟨by omega, by rw [show IntKind.u64.bits = 64 from rfl, wr_shl64]; exact h⟩)
theorem r_shr64_0 {x : UInt64} {n : Nat} (ho : o.op = .binOp .shr t a b u) (ht : tiOf P t = some ti) (hx : ev fr a = sc (c64 x)) (hy : ev fr b = sc (cn n)) (h : K (sc (c64 (shr64n x n))) H) : ostep P o fr H K :=
  binI ho ht hx hy (by
    simp only [binC, shiftv, Int.toNat_natCast]
    exact ⟨by omega, by rw [show IntKind.u64.bits = 64 from rfl, wr_shr64]; exact h⟩)
/-! Ints: as natural numbers, or as any. -/
theorem wi64 {n : Int} (h : -9223372036854775808 ≤ n ∧ n ≤ 9223372036854775807) : IntKind.i64.wrap n = n := by
  unfold IntKind.wrap
  have hb : IntKind.i64.bits = 64 := rfl
  have hs : IntKind.i64.signed = true := rfl
  rw [hb, hs]
  simp only [Bool.true_and, decide_eq_true_eq]
  split <;> omega
theorem r_addi {x y : Int} (ho : o.op = .binOp .add t a b u) (ht : tiOf P t = some ti) (hx : ev fr a = sc (ci x)) (hy : ev fr b = sc (ci y)) (hb : -9223372036854775808 ≤ x + y ∧ x + y ≤ 9223372036854775807) (h : K (sc (ci (x + y))) H) : ostep P o fr H K :=
  binI ho ht hx hy (by simp only [binC, shiftv, arithv, true_and]; rw [wi64 hb]; exact h)
theorem r_subi {x y : Int} (ho : o.op = .binOp .sub t a b u) (ht : tiOf P t = some ti) (hx : ev fr a = sc (ci x)) (hy : ev fr b = sc (ci y)) (hb : -9223372036854775808 ≤ x - y ∧ x - y ≤ 9223372036854775807) (h : K (sc (ci (x - y))) H) : ostep P o fr H K :=
  binI ho ht hx hy (by simp only [binC, shiftv, arithv, true_and]; rw [wi64 hb]; exact h)
theorem r_muli {x y : Int} (ho : o.op = .binOp .mul t a b u) (ht : tiOf P t = some ti) (hx : ev fr a = sc (ci x)) (hy : ev fr b = sc (ci y)) (hb : -9223372036854775808 ≤ x * y ∧ x * y ≤ 9223372036854775807) (h : K (sc (ci (x * y))) H) : ostep P o fr H K :=
  binI ho ht hx hy (by simp only [binC, shiftv, arithv, true_and]; rw [wi64 hb]; exact h)
theorem r_addn {x y : Nat} (ho : o.op = .binOp .add t a b u) (ht : tiOf P t = some ti) (hx : ev fr a = sc (cn x)) (hy : ev fr b = sc (cn y)) (hb : x + y ≤ 9223372036854775807) (h : K (sc (cn (x + y))) H) : ostep P o fr H K :=
  r_addi ho ht hx hy (by omega) (by rw [← Int.natCast_add]; exact h)
theorem r_subn {x y : Nat} (ho : o.op = .binOp .sub t a b u) (ht : tiOf P t = some ti) (hx : ev fr a = sc (cn x)) (hy : ev fr b = sc (cn y)) (hb : y ≤ x ∧ x ≤ 9223372036854775807) (h : K (sc (cn (x - y))) H) : ostep P o fr H K :=
  r_subi ho ht hx hy (by omega) (by rw [show ((x : Int) - (y : Int)) = ((x - y : Nat) : Int) by omega]; exact h)
theorem r_muln {x y : Nat} (ho : o.op = .binOp .mul t a b u) (ht : tiOf P t = some ti) (hx : ev fr a = sc (cn x)) (hy : ev fr b = sc (cn y)) (hb : x * y ≤ 9223372036854775807) (h : K (sc (cn (x * y))) H) : ostep P o fr H K :=
  r_muli ho ht hx hy (by
    have h0 : (0 : Int) ≤ ((x * y : Nat) : Int) := Int.natCast_nonneg _
    rw [← Int.natCast_mul]; omega) (by rw [← Int.natCast_mul]; exact h)
theorem r_quon {x y : Nat} (ho : o.op = .binOp .quo t a b u) (ht : tiOf P t = some ti) (hx : ev fr a = sc (cn x)) (hy : ev fr b = sc (cn y)) (hb : 0 < y ∧ x ≤ 9223372036854775807) (h : K (sc (cn (x / y))) H) : ostep P o fr H K :=
  binI ho ht hx hy (by
    simp only [binC, shiftv, arithv, divv, true_and]
    have e : (x : Int).tdiv y = ((x / y : Nat) : Int) := by rw [Int.ofNat_tdiv]
    have hle : x / y ≤ x := Nat.div_le_self _ _
    have h0 : (0 : Int) ≤ ((x / y : Nat) : Int) := Int.natCast_nonneg _
    rw [e, wi64 (by omega)]
    exact ⟨by omega, h⟩)
theorem r_remn {x y : Nat} (ho : o.op = .binOp .rem t a b u) (ht : tiOf P t = some ti) (hx : ev fr a = sc (cn x)) (hy : ev fr b = sc (cn y)) (hb : 0 < y) (h : K (sc (cn (x % y))) H) : ostep P o fr H K :=
  binI ho ht hx hy (by
    simp only [binC, shiftv, arithv, divv, true_and]
    have e : (x : Int).tmod y = ((x % y : Nat) : Int) := by rw [Int.ofNat_tmod]
    rw [e]
    exact ⟨by omega, h⟩)
theorem r_remi {x y : Int} (ho : o.op = .binOp .rem t a b u) (ht : tiOf P t = some ti) (hx : ev fr a = sc (ci x)) (hy : ev fr b = sc (ci y)) (hb : y ≠ 0) (h : K (sc (ci (x.tmod y))) H) : ostep P o fr H K :=
  binI ho ht hx hy (by simp only [binC, shiftv, arithv, divv, true_and]; exact ⟨hb, h⟩)
theorem r_eqli {x y : Int} (ho : o.op = .binOp .eql t a b u) (ht : tiOf P t = some ti) (hx : ev fr a = sc (ci x)) (hy : ev fr b = sc (ci y)) (h : K (sc (.bool (decide (x = y)))) H) : ostep P o fr H K :=
  binI ho ht hx hy (by
    simp only [binC, shiftv, arithv, divv, cmpv, true_and]
    refine cast (congrArg (fun z => K (sc (.bool z)) H) ?_) h
    first | rfl | (rw [Bool.eq_iff_iff]; simp))
theorem r_eqln {x y : Nat} (ho : o.op = .binOp .eql t a b u) (ht : tiOf P t = some ti) (hx : ev fr a = sc (cn x)) (hy : ev fr b = sc (cn y)) (h : K (sc (.bool (decide (x = y)))) H) : ostep P o fr H K :=
  r_eqli ho ht hx hy (cast (congrArg (fun z => K (sc (.bool z)) H) (decide_eq_decide.2 (by omega))) h)
theorem r_neqi {x y : Int} (ho : o.op = .binOp .neq t a b u) (ht : tiOf P t = some ti) (hx : ev fr a = sc (ci x)) (hy : ev fr b = sc (ci y)) (h : K (sc (.bool (decide (x ≠ y)))) H) : ostep P o fr H K :=
  binI ho ht hx hy (by
    simp only [binC, shiftv, arithv, divv, cmpv, true_and]
    refine cast (congrArg (fun z => K (sc (.bool z)) H) ?_) h
    first | rfl | (rw [Bool.eq_iff_iff]; simp))
theorem r_neqn {x y : Nat} (ho : o.op = .binOp .neq t a b u) (ht : tiOf P t = some ti) (hx : ev fr a = sc (cn x)) (hy : ev fr b = sc (cn y)) (h : K (sc (.bool (decide (x ≠ y)))) H) : ostep P o fr H K :=
  r_neqi ho ht hx hy (cast (congrArg (fun z => K (sc (.bool z)) H) (decide_eq_decide.2 (by omega))) h)
theorem r_lssi {x y : Int} (ho : o.op = .binOp .lss t a b u) (ht : tiOf P t = some ti) (hx : ev fr a = sc (ci x)) (hy : ev fr b = sc (ci y)) (h : K (sc (.bool (decide (x < y)))) H) : ostep P o fr H K :=
  binI ho ht hx hy (by
    simp only [binC, shiftv, arithv, divv, cmpv, true_and]
    refine cast (congrArg (fun z => K (sc (.bool z)) H) ?_) h
    first | rfl | (rw [Bool.eq_iff_iff]; simp))
theorem r_lssn {x y : Nat} (ho : o.op = .binOp .lss t a b u) (ht : tiOf P t = some ti) (hx : ev fr a = sc (cn x)) (hy : ev fr b = sc (cn y)) (h : K (sc (.bool (decide (x < y)))) H) : ostep P o fr H K :=
  r_lssi ho ht hx hy (cast (congrArg (fun z => K (sc (.bool z)) H) (decide_eq_decide.2 (by omega))) h)
theorem r_leqi {x y : Int} (ho : o.op = .binOp .leq t a b u) (ht : tiOf P t = some ti) (hx : ev fr a = sc (ci x)) (hy : ev fr b = sc (ci y)) (h : K (sc (.bool (decide (x ≤ y)))) H) : ostep P o fr H K :=
  binI ho ht hx hy (by
    simp only [binC, shiftv, arithv, divv, cmpv, true_and]
    refine cast (congrArg (fun z => K (sc (.bool z)) H) ?_) h
    first | rfl | (rw [Bool.eq_iff_iff]; simp))
theorem r_gtri {x y : Int} (ho : o.op = .binOp .gtr t a b u) (ht : tiOf P t = some ti) (hx : ev fr a = sc (ci x)) (hy : ev fr b = sc (ci y)) (h : K (sc (.bool (decide (y < x)))) H) : ostep P o fr H K :=
  binI ho ht hx hy (by
    simp only [binC, shiftv, arithv, divv, cmpv, true_and]
    refine cast (congrArg (fun z => K (sc (.bool z)) H) ?_) h
    first | rfl | (rw [Bool.eq_iff_iff]; simp))
theorem r_gtrn {x y : Nat} (ho : o.op = .binOp .gtr t a b u) (ht : tiOf P t = some ti) (hx : ev fr a = sc (cn x)) (hy : ev fr b = sc (cn y)) (h : K (sc (.bool (decide (y < x)))) H) : ostep P o fr H K :=
  r_gtri ho ht hx hy (cast (congrArg (fun z => K (sc (.bool z)) H) (decide_eq_decide.2 (by omega))) h)
theorem r_geqi {x y : Int} (ho : o.op = .binOp .geq t a b u) (ht : tiOf P t = some ti) (hx : ev fr a = sc (ci x)) (hy : ev fr b = sc (ci y)) (h : K (sc (.bool (decide (y ≤ x)))) H) : ostep P o fr H K :=
  binI ho ht hx hy (by
    simp only [binC, shiftv, arithv, divv, cmpv, true_and]
    refine cast (congrArg (fun z => K (sc (.bool z)) H) ?_) h
    first | rfl | (rw [Bool.eq_iff_iff]; simp))
/-! Conversions of numbers. -/
theorem convI {k k' : IntKind} {s d : TypeId} {si di : TI} {n : Int} (ho : o.op = .convert s d a) (hs : tiOf P s = some si) (hd : tiOf P d = some di) (hk : si.kind = .int k) (hk' : di.kind = .int k') (hx : ev fr a = sc (.int k n))
    (h : K (sc (.int k' (k'.wrap n))) H) : ostep P o fr H K := by
  simp only [ostep, ho, hs, hd, hk, hk', hx, pstep]
  exact h
theorem r_cv8_32 {s d : TypeId} {si di : TI} {x : UInt8} (ho : o.op = .convert s d a) (hs : tiOf P s = some si) (hd : tiOf P d = some di) (hk : si.kind = .int .u8) (hk' : di.kind = .int .u32) (hx : ev fr a = sc (c8 x)) (h : K (sc (c32 (x.toUInt32))) H) : ostep P o fr H K :=
  convI ho hs hd hk hk' hx (by rw [show IntKind.u32.wrap (x.toNat : Int) = ((x.toUInt32).toNat : Int) from cv8_32 x]; exact h)
theorem r_cv8_64 {s d : TypeId} {si di : TI} {x : UInt8} (ho : o.op = .convert s d a) (hs : tiOf P s = some si) (hd : tiOf P d = some di) (hk : si.kind = .int .u8) (hk' : di.kind = .int .u64) (hx : ev fr a = sc (c8 x)) (h : K (sc (c64 (x.toUInt64))) H) : ostep P o fr H K :=
  convI ho hs hd hk hk' hx (by rw [show IntKind.u64.wrap (x.toNat : Int) = ((x.toUInt64).toNat : Int) from cv8_64 x]; exact h)
theorem r_cv0_8 {s d : TypeId} {si di : TI} {x : Nat} (ho : o.op = .convert s d a) (hs : tiOf P s = some si) (hd : tiOf P d = some di) (hk : si.kind = .int .i64) (hk' : di.kind = .int .u8) (hx : ev fr a = sc (cn x)) (h : K (sc (c8 (UInt8.ofNat x))) H) : ostep P o fr H K :=
  convI ho hs hd hk hk' hx (by rw [show IntKind.u8.wrap (x : Int) = ((UInt8.ofNat x).toNat : Int) by rw [wrap_u .u8 rfl]; simp [IntKind.bits]]; exact h)
theorem r_cv32_8 {s d : TypeId} {si di : TI} {x : UInt32} (ho : o.op = .convert s d a) (hs : tiOf P s = some si) (hd : tiOf P d = some di) (hk : si.kind = .int .u32) (hk' : di.kind = .int .u8) (hx : ev fr a = sc (c32 x)) (h : K (sc (c8 (x.toUInt8))) H) : ostep P o fr H K :=
  convI ho hs hd hk hk' hx (by rw [show IntKind.u8.wrap (x.toNat : Int) = ((x.toUInt8).toNat : Int) from cv32_8 x]; exact h)
theorem r_cv64_8 {s d : TypeId} {si di : TI} {x : UInt64} (ho : o.op = .convert s d a) (hs : tiOf P s = some si) (hd : tiOf P d = some di) (hk : si.kind = .int .u64) (hk' : di.kind = .int .u8) (hx : ev fr a = sc (c64 x)) (h : K (sc (c8 (x.toUInt8))) H) : ostep P o fr H K :=
  convI ho hs hd hk hk' hx (by rw [show IntKind.u8.wrap (x.toNat : Int) = ((x.toUInt8).toNat : Int) from cv64_8 x]; exact h)
theorem r_cv0_64 {s d : TypeId} {si di : TI} {x : Nat} (ho : o.op = .convert s d a) (hs : tiOf P s = some si) (hd : tiOf P d = some di) (hk : si.kind = .int .i64) (hk' : di.kind = .int .u64) (hx : ev fr a = sc (cn x)) (h : K (sc (c64 (UInt64.ofNat x))) H) : ostep P o fr H K :=
  convI ho hs hd hk hk' hx (by rw [show IntKind.u64.wrap (x : Int) = ((UInt64.ofNat x).toNat : Int) by rw [wrap_u .u64 rfl]; simp [IntKind.bits]]; exact h)
end
end Go.Abs

/- The abstract machine: rules for single operations: moves, places, memory. -/
namespace Go.Abs
open Go
section
variable {P : Program} {fr : List S} {H H' : Heap} {K : S → Heap → Prop} {o : Oper} {t u : TypeId} {ti : TI} {a b i : Operand}
theorem r_mv {s : S} (ho : o.op = .move a) (hx : ev fr a = s) (h : K s H) : ostep P o fr H K := by
  subst hx; simp only [ostep, ho, pstep]; exact h
theorem r_as {s : S} (ho : o.op = .assign a) (hx : ev fr a = s) (h : K s H) : ostep P o fr H K := by
  subst hx; simp only [ostep, ho, pstep]; exact h
theorem r_pkt {c : Operand} {s : S} (ho : o.op = .pick c a b) (hc : ev fr c = sc (.bool true)) (hx : ev fr a = s) (h : K s H) : ostep P o fr H K := by
  subst hx; simp only [ostep, ho, pstep, hc, if_true]; exact h
theorem r_pkf {c : Operand} {s : S} (ho : o.op = .pick c a b) (hc : ev fr c = sc (.bool false)) (hx : ev fr b = s) (h : K s H) : ostep P o fr H K := by
  subst hx; simp only [ostep, ho, pstep, hc]; exact h
theorem r_ncp {p q : Nat} (ho : o.op = .nilCheck a) (hx : ev fr a = sc (.ptr p q)) (h : K (sc (.ptr p q)) H) : ostep P o fr H K := by
  simp only [ostep, ho, pstep, hx]; exact h
theorem r_ncr {cs : List Cell} (ho : o.op = .nilCheck a) (hx : ev fr a = sc (.rop cs)) (h : K (sc (.rop cs)) H) : ostep P o fr H K := by
  simp only [ostep, ho, pstep, hx]; exact h
theorem r_notb {x : Bool} (ho : o.op = .unOp .not t a) (hx : ev fr a = sc (.bool x)) (h : K (sc (.bool (!x))) H) : ostep P o fr H K := by
  simp only [ostep, ho, pstep, hx]; exact h
theorem binG {op : BinOp} {x y : Cell} (ho : o.op = .binOp op t a b u) (ht : tiOf P t = some ti) (hx : ev fr a = sc x) (hy : ev fr b = sc y)
    (h : binC op ti.kind x y fun r => K (sc r) H) : ostep P o fr H K := by
  simp only [ostep, ho, hx, hy, pstep, ht]
  exact h
theorem r_eqlp {x : Cell} {e : Nat} {r : Bool} (ho : o.op = .binOp .eql t a b u) (ht : tiOf P t = some ti) (hk : ti.kind = .ptr e) (hx : ev fr a = sc x) (hn : isNilP x = some r) (hy : ev fr b = sc .nilp) (h : K (sc (.bool r)) H) : ostep P o fr H K :=
  binG ho ht hx hy (by cases x <;> simp only [isNilP, reduceCtorEq, Option.some.injEq] at hn <;> (subst hn; simp only [binC, hk, isNilP, eqv]; exact h))
theorem r_neqp {x : Cell} {e : Nat} {r : Bool} (ho : o.op = .binOp .neq t a b u) (ht : tiOf P t = some ti) (hk : ti.kind = .ptr e) (hx : ev fr a = sc x) (hn : isNilP x = some r) (hy : ev fr b = sc .nilp) (h : K (sc (.bool (!r))) H) : ostep P o fr H K :=
  binG ho ht hx hy (by cases x <;> simp only [isNilP, reduceCtorEq, Option.some.injEq] at hn <;> (subst hn; simp only [binC, hk, isNilP, eqv]; exact h))
theorem ba_toList (x : ByteArray) : x.toList = x.data.toList := by
  have : ∀ (n i : Nat) (r : List UInt8), x.size - i = n → i ≤ x.size → ByteArray.toList.loop x i r = r.reverse ++ x.data.toList.drop i := by
    intro n
    induction n with
    | zero =>
      intro i r hn hi
      unfold ByteArray.toList.loop
      rw [if_neg (by omega)]
      have e : x.size = x.data.toList.length := by rw [Array.length_toList]; rfl
      have : i = x.data.toList.length := by omega
      rw [this, List.drop_length, List.append_nil]
    | succ n ih =>
      intro i r hn hi
      unfold ByteArray.toList.loop
      rw [if_pos (by omega), ih (i + 1) _ (by omega) (by omega)]
      have e : x.size = x.data.toList.length := by rw [Array.length_toList]; rfl
      have hlt : i < x.data.toList.length := by omega
      rw [List.drop_eq_getElem_cons hlt]
      have hg : x.get! i = x.data.toList[i] := by
        have hd : i < x.data.size := by simpa using hlt
        simp [ByteArray.get!, getElem!_pos x.data i hd]
      rw [hg]; simp
  have h := this x.size 0 [] (by simp) (Nat.zero_le _)
  simpa [ByteArray.toList] using h
theorem ba_ext {x y : ByteArray} (h : x.data.toList = y.data.toList) : x = y := by
  cases x; cases y; simp at h; rw [ByteArray.mk.injEq]; exact h
theorem ba_eq (x y : ByteArray) : (x.toList == y.toList) = decide (x = y) := by
  rw [ba_toList, ba_toList, Bool.eq_iff_iff]
  simp only [beq_iff_eq, decide_eq_true_eq]
  exact ⟨ba_ext, fun h => by rw [h]⟩
theorem r_eqls {x y : ByteArray} (ho : o.op = .binOp .eql t a b u) (ht : tiOf P t = some ti) (hx : ev fr a = sc (.str x)) (hy : ev fr b = sc (.str y)) (h : K (sc (.bool (decide (x = y)))) H) : ostep P o fr H K :=
  binG ho ht hx hy (by simp only [binC, strv]; rw [ba_eq]; exact h)
theorem r_neqs {x y : ByteArray} (ho : o.op = .binOp .neq t a b u) (ht : tiOf P t = some ti) (hx : ev fr a = sc (.str x)) (hy : ev fr b = sc (.str y)) (h : K (sc (.bool (!decide (x = y)))) H) : ostep P o fr H K :=
  binG ho ht hx hy (by simp only [binC, strv]; rw [ba_eq]; exact h)
/-! Places. -/
theorem r_fap {p q f off ft : Nat} {fs : List (Nat × Nat)} {fti : TI} (ho : o.op = .fieldAddr t a f) (ht : tiOf P t = some ti) (hk : ti.kind = .struct fs) (hf : fs[f]? = some (off, ft)) (hft : tiOf P ft = some fti) (hz : Nat.blt 0 fti.size = true)
    (hx : ev fr a = sc (.ptr p q)) (h : K (sc (.ptr p (q + off))) H) : ostep P o fr H K := by
  simp only [ostep, ho, pstep, ht, hk, hf, hft, hx]; exact ⟨by rw [Nat.blt_eq] at hz; omega, h⟩
theorem r_fap0 {p f off ft : Nat} {fs : List (Nat × Nat)} {fti : TI} (ho : o.op = .fieldAddr t a f) (ht : tiOf P t = some ti) (hk : ti.kind = .struct fs) (hf : fs[f]? = some (off, ft)) (hft : tiOf P ft = some fti) (hz : Nat.blt 0 fti.size = true)
    (hx : ev fr a = sc (.ptr p 0)) (h : K (sc (.ptr p off)) H) : ostep P o fr H K :=
  r_fap ho ht hk hf hft hz hx (by rw [Nat.zero_add]; exact h)
theorem r_far {cs : List Cell} {f off ft : Nat} {fs : List (Nat × Nat)} {fti : TI} (ho : o.op = .fieldAddr t a f) (ht : tiOf P t = some ti) (hk : ti.kind = .struct fs) (hf : fs[f]? = some (off, ft)) (hft : tiOf P ft = some fti) (hz : Nat.blt 0 fti.size = true)
    (hx : ev fr a = sc (.rop cs)) (h : K (sc (.rop (cs.drop off))) H) : ostep P o fr H K := by
  simp only [ostep, ho, pstep, ht, hk, hf, hft, hx]; exact ⟨by rw [Nat.blt_eq] at hz; omega, h⟩
def Ix (s : S) (j : Nat) : Prop := ∃ k, s = sc (.int k (j : Int))
theorem ixn {j : Nat} (h : ev fr i = sc (cn j)) : Ix (ev fr i) j := ⟨_, h⟩
theorem ix64 {j : UInt64} (h : ev fr i = sc (c64 j)) : Ix (ev fr i) j.toNat := ⟨_, h⟩
theorem ix32 {j : UInt32} (h : ev fr i = sc (c32 j)) : Ix (ev fr i) j.toNat := ⟨_, h⟩
theorem ix8 {j : UInt8} (h : ev fr i = sc (c8 j)) : Ix (ev fr i) j.toNat := ⟨_, h⟩
theorem r_ixp {p q n e j : Nat} {ei : TI} (ho : o.op = .indexAddr t a i) (ht : tiOf P t = some ti) (hk : ti.kind = .array n e) (he : tiOf P e = some ei) (hi : Ix (ev fr i) j) (hx : ev fr a = sc (.ptr p q)) (hlt : j < n)
    (h : K (sc (.ptr p (q + j * ei.size))) H) : ostep P o fr H K := by
  obtain ⟨k, hi⟩ := hi
  simp only [ostep, ho, pstep, ht, hk, he, hi, hx, Int.toNat_natCast]; exact ⟨by omega, by omega, h⟩
theorem r_ixp1 {p n e j : Nat} {ei : TI} (ho : o.op = .indexAddr t a i) (ht : tiOf P t = some ti) (hk : ti.kind = .array n e) (he : tiOf P e = some ei) (hs : ei.size = 1) (hi : Ix (ev fr i) j) (hx : ev fr a = sc (.ptr p 0)) (hlt : j < n)
    (h : K (sc (.ptr p j)) H) : ostep P o fr H K :=
  r_ixp ho ht hk he hi hx hlt (by rw [hs, Nat.mul_one, Nat.zero_add]; exact h)
theorem r_ixs {p q m sz e j : Nat} {ei : TI} (ho : o.op = .indexAddr t a i) (ht : tiOf P t = some ti) (hk : ti.kind = .slice e) (he : tiOf P e = some ei) (hi : Ix (ev fr i) j) (hx : ev fr a = sc (.slc p q m sz)) (hlt : j < m)
    (h : K (sc (.ptr p (q + j * ei.size))) H) : ostep P o fr H K := by
  obtain ⟨k, hi⟩ := hi
  simp only [ostep, ho, pstep, ht, hk, he, hi, hx, Int.toNat_natCast]; exact ⟨by omega, by omega, h⟩
theorem r_ixs1 {p m sz e j : Nat} {ei : TI} (ho : o.op = .indexAddr t a i) (ht : tiOf P t = some ti) (hk : ti.kind = .slice e) (he : tiOf P e = some ei) (hs : ei.size = 1) (hi : Ix (ev fr i) j) (hx : ev fr a = sc (.slc p 0 m sz)) (hlt : j < m)
    (h : K (sc (.ptr p j)) H) : ostep P o fr H K :=
  r_ixs ho ht hk he hi hx hlt (by rw [hs, Nat.mul_one, Nat.zero_add]; exact h)
theorem r_ixo {m e j : Nat} {cs : List Cell} {ei : TI} (ho : o.op = .indexAddr t a i) (ht : tiOf P t = some ti) (hk : ti.kind = .slice e) (he : tiOf P e = some ei) (hi : Ix (ev fr i) j) (hx : ev fr a = sc (.ro m cs)) (hlt : j < m) (hc : j * ei.size < cs.length)
    (h : K (sc (.rop (cs.drop (j * ei.size)))) H) : ostep P o fr H K := by
  obtain ⟨k, hi⟩ := hi
  simp only [ostep, ho, pstep, ht, hk, he, hi, hx, Int.toNat_natCast]; exact ⟨by omega, by omega, hc, h⟩
theorem r_ixo1 {m e j : Nat} {cs : List Cell} {ei : TI} (ho : o.op = .indexAddr t a i) (ht : tiOf P t = some ti) (hk : ti.kind = .slice e) (he : tiOf P e = some ei) (hs : ei.size = 1) (hi : Ix (ev fr i) j) (hx : ev fr a = sc (.ro m cs)) (hlt : j < m) (hc : j < cs.length)
    (h : K (sc (.rop (cs.drop j))) H) : ostep P o fr H K :=
  r_ixo ho ht hk he hi hx hlt (by rw [hs, Nat.mul_one]; exact hc) (by rw [hs, Nat.mul_one]; exact h)
/-! Loads and stores. -/
def ldOk : TK → Cell → Bool
  | .int k, .int k' _ => k == k'
  | .int _, _ => false
  | .struct _, _ => false
  | .array _ _, _ => false
  | _, _ => true
theorem ldOk_agg {k : TK} {c : Cell} (h : ldOk k c = true) : k.agg = false := by cases k <;> first | rfl | (cases c <;> simp [ldOk] at h)
theorem int_at {k : IntKind} {cs : List Cell} {q : Nat} {c : Cell} (hc : cs[q]? = some c) (hk : ldOk (.int k) c = true) : isInt k cs q ∧ Cell.int k (intAt cs q) = c := by
  cases c <;> simp only [ldOk, Bool.false_eq_true] at hk
  rename_i k' n
  have : k = k' := by simpa using hk
  subst this
  have : intAt cs q = n := by simp [intAt, hc]
  exact ⟨by simp [isInt, this, hc], by rw [this]⟩
theorem loadP {p q : Nat} {cs : List Cell} {c : Cell} {K : S → Prop} (ht : tiOf P t = some ti) (hx : ev fr a = sc (.ptr p q)) (hp : H[p]? = some (some cs)) (hc : cs[q]? = some c) (hk : ldOk ti.kind c = true) (h : K (sc c)) : loadR P fr H t a K := by
  simp only [loadR, ht, ldOk_agg hk, hx, hp]
  cases hkk : ti.kind with
  | int k =>
    rw [hkk] at hk
    obtain ⟨h1, h2⟩ := int_at hc hk
    exact ⟨h1, by rw [h2]; exact h⟩
  | _ => simp only [hc]; exact h
theorem loadRo {cs : List Cell} {c : Cell} {K : S → Prop} (ht : tiOf P t = some ti) (hx : ev fr a = sc (.rop cs)) (hc : cs[0]? = some c) (hk : ldOk ti.kind c = true) (h : K (sc c)) : loadR P fr H t a K := by
  simp only [loadR, ht, ldOk_agg hk, hx]
  cases hkk : ti.kind with
  | int k =>
    rw [hkk] at hk
    obtain ⟨h1, h2⟩ := int_at hc hk
    exact ⟨h1, by rw [h2]; exact h⟩
  | _ => simp only [hc]; exact h
theorem loadA {p q : Nat} {cs xs : List Cell} {K : S → Prop} (ht : tiOf P t = some ti) (hk : ti.kind.agg = true) (hz : Nat.blt 0 ti.size = true) (hx : ev fr a = sc (.ptr p q)) (hp : H[p]? = some (some cs)) (hl : q + ti.size ≤ cs.length) (hc : (cs.drop q).take ti.size = xs) (h : K (sa xs)) : loadR P fr H t a K := by
  simp only [loadR, ht, hk, hx, hp, hc]; exact ⟨by rw [Nat.blt_eq] at hz; omega, hl, h⟩
theorem loadARo {cs xs : List Cell} {K : S → Prop} (ht : tiOf P t = some ti) (hk : ti.kind.agg = true) (hz : Nat.blt 0 ti.size = true) (hx : ev fr a = sc (.rop cs)) (hl : ti.size ≤ cs.length) (hc : cs.take ti.size = xs) (h : K (sa xs)) : loadR P fr H t a K := by
  simp only [loadR, ht, hk, hx, hc]; exact ⟨by rw [Nat.blt_eq] at hz; omega, hl, h⟩
theorem r_ldp {p q : Nat} {cs : List Cell} {c : Cell} (ho : o.op = .load t a) (ht : tiOf P t = some ti) (hx : ev fr a = sc (.ptr p q)) (hp : H[p]? = some (some cs)) (hc : cs[q]? = some c) (hk : ldOk ti.kind c = true) (h : K (sc c) H) : ostep P o fr H K := by
  simp only [ostep, ho]; exact loadP ht hx hp hc hk h
theorem r_ldr {cs : List Cell} {c : Cell} (ho : o.op = .load t a) (ht : tiOf P t = some ti) (hx : ev fr a = sc (.rop cs)) (hc : cs[0]? = some c) (hk : ldOk ti.kind c = true) (h : K (sc c) H) : ostep P o fr H K := by
  simp only [ostep, ho]; exact loadRo ht hx hc hk h
theorem r_ldrd {cs : List Cell} {j : Nat} {c : Cell} (ho : o.op = .load t a) (ht : tiOf P t = some ti) (hx : ev fr a = sc (.rop (cs.drop j))) (hc : cs[j]? = some c) (hk : ldOk ti.kind c = true) (h : K (sc c) H) : ostep P o fr H K :=
  r_ldr ho ht hx (by simpa using hc) hk h
theorem r_lda {p q : Nat} {cs xs : List Cell} (ho : o.op = .load t a) (ht : tiOf P t = some ti) (hk : ti.kind.agg = true) (hz : Nat.blt 0 ti.size = true) (hx : ev fr a = sc (.ptr p q)) (hp : H[p]? = some (some cs)) (hl : q + ti.size ≤ cs.length) (hc : (cs.drop q).take ti.size = xs) (h : K (sa xs) H) : ostep P o fr H K := by
  simp only [ostep, ho]; exact loadA ht hk hz hx hp hl hc h
theorem r_ldw {p : Nat} {cs : List Cell} (ho : o.op = .load t a) (ht : tiOf P t = some ti) (hk : ti.kind.agg = true) (hz : Nat.blt 0 ti.size = true) (hx : ev fr a = sc (.ptr p 0)) (hp : H[p]? = some (some cs)) (hl : cs.length = ti.size) (h : K (sa cs) H) : ostep P o fr H K :=
  r_lda ho ht hk hz hx hp (by omega) (by rw [List.drop_zero, ← hl, List.take_length]) h
theorem r_ldar {cs xs : List Cell} (ho : o.op = .load t a) (ht : tiOf P t = some ti) (hk : ti.kind.agg = true) (hz : Nat.blt 0 ti.size = true) (hx : ev fr a = sc (.rop cs)) (hl : ti.size ≤ cs.length) (hc : cs.take ti.size = xs) (h : K (sa xs) H) : ostep P o fr H K := by
  simp only [ostep, ho]; exact loadARo ht hk hz hx hl hc h
theorem r_st {p q : Nat} {cs : List Cell} {c : Cell} (ho : o.op = .store t a b) (ht : tiOf P t = some ti) (hs : ti.size = 1) (hx : ev fr a = sc (.ptr p q)) (hp : H[p]? = some (some cs)) (hy : ev fr b = sc c) (hcv : cellsV (sc c) = some [c]) (hq : q < cs.length)
    (h : K ud (H.set p (some (cs.set q c)))) : ostep P o fr H K := by
  simp only [ostep, ho, ht, hx, hp, hy, hcv, hs]; exact ⟨rfl, by omega, by omega, h⟩
theorem r_stm {α : Type} {k : IntKind} {g : α → Int} {x : α} {p q : Nat} {l : List α} (ho : o.op = .store t a b) (ht : tiOf P t = some ti) (hs : ti.size = 1) (hx : ev fr a = sc (.ptr p q)) (hp : H[p]? = some (some (mapc k g l))) (hy : ev fr b = sc (.int k (g x))) (hq : q < l.length)
    (h : K ud (H.set p (some (mapc k g (l.set q x))))) : ostep P o fr H K :=
  r_st ho ht hs hx hp hy rfl (by rw [mapc_length]; exact hq) (by rw [mapc_set]; exact h)
theorem r_sta {p q : Nat} {cs xs : List Cell} (ho : o.op = .store t a b) (ht : tiOf P t = some ti) (hx : ev fr a = sc (.ptr p q)) (hp : H[p]? = some (some cs)) (hy : ev fr b = sa xs) (hl : xs.length = ti.size) (hz : Nat.blt 0 ti.size = true) (hq : q + ti.size ≤ cs.length)
    (h : K ud (H.set p (some (splice cs q xs)))) : ostep P o fr H K := by
  simp only [ostep, ho, ht, hx, hp, hy, cellsV]; exact ⟨hl, by rw [Nat.blt_eq] at hz; omega, hq, h⟩
theorem splice_whole {cs xs : List Cell} (h : cs.length = xs.length) : splice cs 0 xs = xs := by
  simp [splice, List.drop_eq_nil_of_le, h]
theorem r_stw {p : Nat} {cs xs : List Cell} (ho : o.op = .store t a b) (ht : tiOf P t = some ti) (hx : ev fr a = sc (.ptr p 0)) (hp : H[p]? = some (some cs)) (hy : ev fr b = sa xs) (hl : xs.length = ti.size) (hz : Nat.blt 0 ti.size = true) (hc : cs.length = ti.size)
    (h : K ud (H.set p (some xs))) : ostep P o fr H K :=
  r_sta ho ht hx hp hy hl hz (by omega) (by rw [splice_whole (by omega)]; exact h)
theorem r_al {z : List Cell} {m : Nat} (ho : o.op = .alloc t) (ht : tiOf P t = some ti) (hz : ti.zero = some z) (hm : H.length = m) (h : K (sc (.ptr m 0)) (H ++ [some z])) : ostep P o fr H K := by
  subst hm; simp only [ostep, ho, ht, hz]; exact h
theorem r_boxa {xs : List Cell} {m : Nat} (ho : o.op = .box t a) (hx : ev fr a = sa xs) (hm : H.length = m) (h : K (sc (.ptr m 0)) (H ++ [some xs])) : ostep P o fr H K := by
  subst hm; simp only [ostep, ho, hx, cellsV]; exact h
/-! Parts put together. -/
section
variable {place : Nat → Option (Nat × Nat)} {KK : List Cell → Prop} {cells : List Cell} {j off size : Nat} {x : Operand} {r : List (Nat × Operand)}
theorem fk0 (h : KK cells) : fillK fr place KK cells [] := h
theorem fkc {c : Cell} (hp : place j = some (off, 1)) (hx : ev fr x = sc c) (hcv : cellsV (sc c) = some [c]) (hl : off < cells.length) (h : fillK fr place KK (cells.set off c) r) : fillK fr place KK cells ((j, x) :: r) := by
  simp only [fillK, hp, hx, hcv]; exact ⟨rfl, by omega, h⟩
theorem fka {xs : List Cell} (hp : place j = some (off, size)) (hx : ev fr x = sa xs) (hs : xs.length = size) (hl : off + size ≤ cells.length) (h : fillK fr place KK (splice cells off xs) r) : fillK fr place KK cells ((j, x) :: r) := by
  simp only [fillK, hp, hx, cellsV]; exact ⟨hs, hl, h⟩
end
theorem r_bla {n e : Nat} {z : List Cell} {ei : TI} {parts : Array (Nat × Operand)} (ho : o.op = .build t parts) (ht : tiOf P t = some ti) (hz : ti.zero = some z) (hk : ti.kind = .array n e) (he : tiOf P e = some ei)
    (h : fillK fr (fun i => some (i * ei.size, ei.size)) (fun cs => K (sa cs) H) z parts.toList) : ostep P o fr H K := by
  simp only [ostep, ho, ht, hz, hk, he]; exact h
theorem r_bls {fs : List (Nat × Nat)} {z : List Cell} {parts : Array (Nat × Operand)} (ho : o.op = .build t parts) (ht : tiOf P t = some ti) (hz : ti.zero = some z) (hk : ti.kind = .struct fs) (hfs : (fs.all fun f => (tiOf P f.2).isSome) = true)
    (h : fillK fr (placeS P fs) (fun cs => K (sa cs) H) z parts.toList) : ostep P o fr H K := by
  simp only [ostep, ho, ht, hz, hk]; exact ⟨hfs, h⟩
theorem r_bsl {e len m : Nat} {z : List Cell} {ei : TI} {parts : Array (Nat × Operand)} (ho : o.op = .buildSlice t len parts) (ht : tiOf P t = some ti) (hk : ti.kind = .slice e) (he : tiOf P e = some ei) (hz : ei.zero = some z) (hzl : z.length = ei.size) (hb : Nat.ble (len * ei.size) 16777216 = true) (hm : H.length = m)
    (h : fillK fr (fun i => some (i * ei.size, ei.size)) (fun cs => K (sc (.slc m 0 len ei.size)) (H ++ [some cs])) (rep len z) parts.toList) : ostep P o fr H K := by
  subst hm; simp only [ostep, ho, ht, hz, hk, he]; exact ⟨hzl, Nat.le_of_ble_eq_true hb, h⟩
theorem r_mks {e n m : Nat} {z : List Cell} {ei : TI} {l c : Operand} (ho : o.op = .makeSlice t l c) (ht : tiOf P t = some ti) (hk : ti.kind = .slice e) (he : tiOf P e = some ei) (hz : ei.zero = some z) (hzl : z.length = ei.size) (hs : Nat.blt 0 ei.size = true)
    (hl : ev fr l = sc (cn n)) (hc : ev fr c = sc (cn n)) (hn : n ≤ 281474976710656) (hb : ei.bytes * n ≤ 281474976710656) (hm : H.length = m) (h : K (sc (.slc m 0 n ei.size)) (H ++ [some (rep n z)])) : ostep P o fr H K := by
  subst hm
  simp only [ostep, ho, ht, hk, he, hz, hl, hc, Int.toNat_natCast]
  exact ⟨hzl, by rw [Nat.blt_eq] at hs; exact hs, trivial, by omega, by omega, by rw [← Int.natCast_mul]; omega, h⟩
/-! Elements. -/
structure Elems (H : Heap) (esz : Nat) (s : S) (n : Nat) (cs : List Cell) : Prop where
  h : elems H esz s fun n' cs' => n' = n ∧ cs' = cs
theorem el_nil {e : Nat} : Elems H e (sc .nils) 0 [] := ⟨⟨rfl, rfl⟩⟩
theorem el_str {s : ByteArray} : Elems H 1 (sc (.str s)) s.size (u8s s.data.toList) := ⟨⟨rfl, rfl, rfl⟩⟩
theorem el_ro {e n : Nat} {cs : List Cell} (h : cs.length = n * e) : Elems H e (sc (.ro n cs)) n cs := ⟨⟨h, rfl, rfl⟩⟩
theorem el_slc {p q n e : Nat} {cs xs : List Cell} (hp : H[p]? = some (some cs)) (hl : q + n * e ≤ cs.length) (hx : (cs.drop q).take (n * e) = xs) : Elems H e (sc (.slc p q n e)) n xs := by
  subst hx; refine ⟨?_⟩; simp only [elems, hp]; exact ⟨trivial, hl, trivial, trivial⟩
theorem elems_of {e n : Nat} {s : S} {cs : List Cell} {KK : Nat → List Cell → Prop} (h : Elems H e s n cs) (hk : KK n cs) : elems H e s KK := by
  replace h := h.h
  cases s with
  | t xs => exact h.elim
  | v x => cases x with
    | a xs => exact h.elim
    | c c => cases c with
      | nils => obtain ⟨h1, h2⟩ := h; subst h1; subst h2; exact hk
      | str s => obtain ⟨h0, h1, h2⟩ := h; subst h1; subst h2; exact ⟨h0, hk⟩
      | ro m ds => obtain ⟨h0, h1, h2⟩ := h; subst h1; subst h2; exact ⟨h0, hk⟩
      | slc p q m sz =>
        simp only [elems] at h ⊢
        cases hp : H[p]? with
        | none => rw [hp] at h; exact h.elim
        | some x => cases x with
          | none => rw [hp] at h; exact h.elim
          | some ds =>
            rw [hp] at h
            obtain ⟨h0, h3, h1, h2⟩ := h
            subst h1; subst h2
            exact ⟨h0, h3, hk⟩
      | _ => exact h.elim
theorem r_app {e n m w : Nat} {z cs ds : List Cell} {ei ti' : TI} {u : TypeId} {sA sB : S} (ho : o.op = .call ⟨.builtin .append, #[a, b], #[t, u]⟩) (ht : tiOf P t = some ti) (hu : tiOf P u = some ti') (hni : ∀ k, ti'.kind ≠ .int k) (hk : ti.kind = .slice e) (he : tiOf P e = some ei) (hz : ei.zero = some z) (hzl : z.length = ei.size)
    (hby : Nat.blt 0 ei.bytes = true) (hs : Nat.blt 0 ei.size = true) (ha : ev fr a = sA) (hb : ev fr b = sB) (eA : Elems H ei.size sA n cs) (eB : Elems H ei.size sB m ds) (hsl : (∃ p q l s, sA = sc (.slc p q l s)) ∨ sA = sc .nils)
    (h1 : (2 * (n + m) + 192) * ei.bytes ≤ 281474976710656) (h2 : n + m ≤ 281474976710656) (hw : H.length = w) (h : K (sc (.slc w 0 (n + m) ei.size)) (kill H sA ++ [some (cs ++ ds)])) : ostep P o fr H K := by
  subst hw; subst ha; subst hb
  simp only [ostep, ho, ht, hu, hk, he, hz]
  have hh : 0 < ei.bytes ∧ 0 < ei.size ∧ z.length = ei.size ∧ elems H ei.size (ev fr a) fun n cs => elems H ei.size (ev fr b) fun m ds =>
      (2 * (n + m) + 192) * ei.bytes ≤ 281474976710656 ∧ n + m ≤ 281474976710656 ∧
      match ev fr a with
      | .v (.c (.slc _ _ _ _)) | .v (.c .nils) => K (sc (.slc H.length 0 (n + m) ei.size)) (kill H (ev fr a) ++ [some (cs ++ ds)])
      | _ => False := by
    refine ⟨by rw [Nat.blt_eq] at hby; exact hby, by rw [Nat.blt_eq] at hs; exact hs, hzl, elems_of eA (elems_of eB ⟨h1, h2, ?_⟩)⟩
    rcases hsl with ⟨p, q, l, s, hsl⟩ | hsl
    · rw [hsl] at h ⊢; exact h
    · rw [hsl] at h ⊢; exact h
  cases hkk : ti'.kind with
  | int k => exact absurd hkk (hni k)
  | _ => exact hh
theorem r_cpy {e n m p q sz : Nat} {cs ds : List Cell} {ei : TI} {u : TypeId} {sB : S} (ho : o.op = .call ⟨.builtin .copy, #[a, b], #[t, u]⟩) (ht : tiOf P t = some ti) (hk : ti.kind = .slice e) (he : tiOf P e = some ei) (ha : ev fr a = sc (.slc p q n sz)) (hp : H[p]? = some (some cs)) (hsz : sz = ei.size) (hl : q + n * sz ≤ cs.length)
    (hb : ev fr b = sB) (eB : Elems H ei.size sB m ds) (h : K (sc (cn (min m n))) (H.set p (some (splice cs q (ds.take (min m n * sz)))))) : ostep P o fr H K := by
  subst hb
  simp only [ostep, ho, ht, hk, he, ha, hp]
  exact ⟨hsz, hl, elems_of eB h⟩
/-! Slices, lengths. -/
section
variable {KK : Nat → Nat → Prop} {len l h m : Nat}
theorem bn_lo (h1 : l ≤ len) (k : KK l len) : bnds len (some (l : Int)) none none KK := ⟨by simp, by simp; omega, by simp, by simpa using k⟩
theorem bn_hi (h1 : h ≤ len) (k : KK 0 h) : bnds len none (some (h : Int)) none KK := ⟨by simp, by simp, by simp; omega, by simpa using k⟩
theorem bn_no (k : KK 0 len) : bnds len none none none KK := ⟨by simp, by simp, by simp, by simpa using k⟩
end
theorem oi_no : optI fr none = some none := rfl
theorem oi_n {x : Operand} {j : Nat} (h : ev fr x = sc (cn j)) : optI fr (some x) = some (some (j : Int)) := by simp only [optI, h]
section
variable {lo hi mx : Option Operand} {l h m : Option Int}
theorem r_sls {p q n e sz : Nat} {ei : TI} (ho : o.op = .slice t a lo hi mx) (ht : tiOf P t = some ti) (hk : ti.kind = .slice e) (he : tiOf P e = some ei) (hx : ev fr a = sc (.slc p q n sz)) (hsz : sz = ei.size) (h1 : optI fr lo = some l) (h2 : optI fr hi = some h) (h3 : optI fr mx = some m)
    (hb : bnds n l h m fun l h => K (sc (.slc p (q + l * sz) (h - l) sz)) H) : ostep P o fr H K := by
  simp only [ostep, ho, hx, pstep, ht, hk, he, h1, h2, h3]; exact ⟨hsz, hb⟩
theorem r_slo {n e : Nat} {cs : List Cell} {ei : TI} (ho : o.op = .slice t a lo hi mx) (ht : tiOf P t = some ti) (hk : ti.kind = .slice e) (he : tiOf P e = some ei) (hx : ev fr a = sc (.ro n cs)) (h1 : optI fr lo = some l) (h2 : optI fr hi = some h) (h3 : optI fr mx = some m)
    (hb : bnds n l h m fun l h => K (sc (.ro (h - l) ((cs.drop (l * ei.size)).take ((h - l) * ei.size)))) H) : ostep P o fr H K := by
  simp only [ostep, ho, hx, pstep, ht, hk, he, h1, h2, h3]; exact hb
theorem r_slp {p q n e : Nat} {cs : List Cell} {ei : TI} (ho : o.op = .slice t a lo hi mx) (ht : tiOf P t = some ti) (hk : ti.kind = .array n e) (he : tiOf P e = some ei) (hx : ev fr a = sc (.ptr p q)) (hp : H[p]? = some (some cs)) (hs : Nat.blt 0 ei.size = true) (hl : q + n * ei.size ≤ cs.length) (h1 : optI fr lo = some l) (h2 : optI fr hi = some h) (h3 : optI fr mx = some m)
    (hb : bnds n l h m fun l h => K (sc (.slc p (q + l * ei.size) (h - l) ei.size)) H) : ostep P o fr H K := by
  simp only [ostep, ho, hx, ht, hk, he, h1, h2, h3, hp]; exact ⟨by rw [Nat.blt_eq] at hs; exact hs, hl, hb⟩
end
theorem r_lenc {p q n sz e : Nat} (ho : o.op = .call ⟨.builtin .len, #[a], #[t]⟩) (ht : tiOf P t = some ti) (hk : ti.kind = .slice e) (hx : ev fr a = sc (.slc p q n sz)) (h : K (sc (cn n)) H) : ostep P o fr H K := by
  simp only [ostep, ho, pstep, ht, hk, hx]; exact h
theorem r_leno {n e : Nat} {cs : List Cell} (ho : o.op = .call ⟨.builtin .len, #[a], #[t]⟩) (ht : tiOf P t = some ti) (hk : ti.kind = .slice e) (hx : ev fr a = sc (.ro n cs)) (h : K (sc (cn n)) H) : ostep P o fr H K := by
  simp only [ostep, ho, pstep, ht, hk, hx]; exact h
theorem r_minn {x y : Nat} {ats : Array TypeId} (ho : o.op = .call ⟨.builtin .min, #[a, b], ats⟩) (hx : ev fr a = sc (cn x)) (hy : ev fr b = sc (cn y)) (h : K (sc (cn (min x y))) H) : ostep P o fr H K := by
  simp only [ostep, ho, pstep, hx, hy]
  rw [show (if (y : Int) < x then (y : Int) else x) = ((min x y : Nat) : Int) by split <;> omega]; exact h
theorem r_max64 {x y : UInt64} {ats : Array TypeId} (ho : o.op = .call ⟨.builtin .max, #[a, b], ats⟩) (hx : ev fr a = sc (c64 x)) (hy : ev fr b = sc (c64 y)) (h : K (sc (c64 (if x < y then y else x))) H) : ostep P o fr H K := by
  simp only [ostep, ho, pstep, hx, hy]
  rw [show (if (y.toNat : Int) > x.toNat then (y.toNat : Int) else x.toNat) = (((if x < y then y else x) : UInt64).toNat : Int) by
    simp only [UInt64.lt_iff_toNat_lt]; split <;> split <;> first | rfl | omega]
  exact h
/-! Parts of values. -/
theorem r_ext {xs : List V} {j : Nat} {y : V} (ho : o.op = .extract a j) (hx : ev fr a = .t xs) (hj : xs[j]? = some y) (h : K (.v y) H) : ostep P o fr H K := by
  simp only [ostep, ho, pstep, hx, hj]; exact h
theorem partAg {xs ys : List Cell} {off : Nat} {K : S → Prop} (hk : ti.kind.agg = true) (hy : (xs.drop off).take ti.size = ys) (h : K (sa ys)) : partA ti xs off K := by
  unfold partA; rw [if_pos hk, hy]; exact h
theorem r_ina {xs ys : List Cell} {n e j : Nat} {ei : TI} (ho : o.op = .index t a i) (ht : tiOf P t = some ti) (hk : ti.kind = .array n e) (he : tiOf P e = some ei) (hi : Ix (ev fr i) j) (hx : ev fr a = sa xs) (hlt : j < n) (hl : ei.kind.agg = true) (hy : (xs.drop (j * ei.size)).take ei.size = ys) (h : K (sa ys) H) : ostep P o fr H K := by
  obtain ⟨k, hi⟩ := hi
  simp only [ostep, ho, pstep, ht, hk, he, hi, hx, Int.toNat_natCast]; exact ⟨by omega, by omega, partAg hl hy h⟩
theorem r_mkf {f : Nat} {cap : Array Operand} {cs : List Cell} (ho : o.op = .makeFunc (.func f) #[] cap) (hc : caps fr cap.toList = some cs) (h : K (sc (.fn f cs)) H) : ostep P o fr H K := by
  simp only [ostep, ho, pstep, hc]; exact h
theorem caps0 : caps fr [] = some [] := rfl
theorem caps1 {x : Operand} {r : List Operand} {c : Cell} {cs : List Cell} (hx : ev fr x = sc c) (hc : cellsV (sc c) = some [c]) (hr : caps fr r = some cs) : caps fr (x :: r) = some (c :: cs) := by
  simp only [caps, hx, hr]
  cases c <;> first | rfl | (simp [cellsV] at hc)
theorem r_s2p {p q l sz n e : Nat} (ho : o.op = .sliceToArrayPointer t a) (ht : tiOf P t = some ti) (hk : ti.kind = .array n e) (hx : ev fr a = sc (.slc p q l sz)) (hl : n ≤ l) (hn : 0 < n) (h : K (sc (.ptr p q)) H) : ostep P o fr H K := by
  simp only [ostep, ho, pstep, ht, hk, hx]; exact ⟨hl, hn, h⟩
theorem r_s2r {l n e : Nat} {cs : List Cell} (ho : o.op = .sliceToArrayPointer t a) (ht : tiOf P t = some ti) (hk : ti.kind = .array n e) (hx : ev fr a = sc (.ro l cs)) (hl : n ≤ l) (hn : 0 < n) (hc : cs ≠ []) (h : K (sc (.rop cs)) H) : ostep P o fr H K := by
  simp only [ostep, ho, pstep, ht, hk, hx]; exact ⟨hl, hn, hc, h⟩
/-! Bytes and texts. -/
theorem r_csl {s d e p q n : Nat} {si di ei : TI} {cs : List Cell} {l : List UInt8} (ho : o.op = .convert s d a) (hs : tiOf P s = some si) (hd : tiOf P d = some di) (hk : si.kind = .slice e) (hk' : di.kind = .str) (he : tiOf P e = some ei) (hek : ei.kind = .int .u8) (hx : ev fr a = sc (.slc p q n 1)) (hp : H[p]? = some (some cs)) (hl : q + n ≤ cs.length) (hc : (cs.drop q).take n = u8s l)
    (h : K (sc (.str ⟨l.toArray⟩)) H) : ostep P o fr H K := by
  simp only [ostep, ho, hs, hd, hk, hk', hx, he, hp, hek, hc, bytesOf_u8s]
  exact ⟨trivial, hl, mapc_allInt _, h⟩
/-! Cells of lists. -/
theorem u8_at {l : List UInt8} {j : Nat} (h : j < l.length) : (u8s l)[j]? = some (c8 (l.getD j 0)) := by
  simp [mapc, h, List.getD_eq_getElem?_getD]
theorem u32_at {l : List UInt32} {j : Nat} (h : j < l.length) : (u32s l)[j]? = some (c32 (l.getD j 0)) := by
  simp [mapc, h, List.getD_eq_getElem?_getD]
theorem u64_at {l : List UInt64} {j : Nat} (h : j < l.length) : (u64s l)[j]? = some (c64 (l.getD j 0)) := by
  simp [mapc, h, List.getD_eq_getElem?_getD]
theorem i64_at {l : List Int} {j : Nat} (h : j < l.length) : (i64s l)[j]? = some (ci (l.getD j 0)) := by
  simp [mapc, h, List.getD_eq_getElem?_getD]
end
end Go.Abs

/- The abstract machine: rules for calls, and for a body's end. -/
namespace Go.Abs
open Go
section
variable {P : Program} {fr : List S} {H H' : Heap} {K : S → Heap → Prop} {o : Oper} {π : List Nat} {lend : Bool}
def CA (fr : List S) (H : Heap) (π : List Nat) (lend : Bool) (l : List Operand) (ys : List V) : Prop := ∃ avs, argVs fr l = some avs ∧ avs.map (vm (cm (cin π lend H) 8)) = ys
theorem ca0 : CA fr H π lend [] [] := ⟨[], rfl, rfl⟩
theorem cac {x : Operand} {r : List Operand} {c c' : Cell} {ys : List V} (hx : ev fr x = sc c) (hc : cm (cin π lend H) 8 c = c') (hr : CA fr H π lend r ys) : CA fr H π lend (x :: r) (.c c' :: ys) := by
  obtain ⟨avs, h1, h2⟩ := hr
  exact ⟨.c c :: avs, by simp only [argVs, hx, h1], by simp only [List.map_cons, vm, hc, h2]⟩
theorem caa {x : Operand} {r : List Operand} {xs xs' : List Cell} {ys : List V} (hx : ev fr x = sa xs) (hc : xs.map (cm (cin π lend H) 8) = xs') (hr : CA fr H π lend r ys) : CA fr H π lend (x :: r) (.a xs' :: ys) := by
  obtain ⟨avs, h1, h2⟩ := hr
  exact ⟨.a xs :: avs, by simp only [argVs, hx, h1], by simp only [List.map_cons, vm, hc, h2]⟩
theorem sees_ro {α : Type} {k : IntKind} {g : α → Int} {n : Nat} {l : List α} : cm (cin π lend H) 8 (.ro n (mapc k g l)) = .ro n (mapc k g l) := by simp [cm, cin, mapc]
theorem sees_slc {α : Type} {k : IntKind} {g : α → Int} {p q n sz : Nat} {cs : List Cell} {l : List α} (hi : idx p π = none) (hp : H[p]? = some (some cs)) (hc : (cs.drop q).take (n * sz) = mapc k g l) : cm (cin π true H) 8 (.slc p q n sz) = .ro n (mapc k g l) := by
  simp only [cm, cin, hi, joinH, hp, if_true, hc]
  simp [mapc]
theorem sees_m {α : Type} {k : IntKind} {g : α → Int} {l : List α} {m : CM} {d : Nat} : (mapc k g l).map (cm m d) = mapc k g l := mapc_cm m d l
theorem sees_ptr {p o : Nat} {cs cs' : List Cell} (hi : idx p π = none) (hp : H[p]? = some (some cs)) (hne : cs.isEmpty = false) (hc : (cs.drop o).map (cm (cin π true H) 7) = cs') : cm (cin π true H) 8 (.ptr p o) = .rop cs' := by
  subst hc
  simp only [cm, cin, hi, joinH, hp, if_true, hne]
  rfl
theorem sees_nil : cm (cin π true H) 8 .nils = .ro 0 [] := rfl
theorem sees_nil8 : cm (cin π true H) 8 .nils = .ro 0 (u8s []) := rfl
/-! What the caller has of a result. -/
section
variable {m : CM} {k : IntKind} {n : Int} {b : Bool} {x y z x' y' z' w w' : V} {f : Cell → Cell}
theorem rs_int : sm (cm m 8) (sc (.int k n)) = sc (.int k n) := rfl
theorem rs_bool : sm (cm m 8) (sc (.bool b)) = sc (.bool b) := rfl
theorem rs_str {s : ByteArray} : sm (cm m 8) (sc (.str s)) = sc (.str s) := rfl
theorem rs_nilp : sm (cm m 8) (sc .nilp) = sc .nilp := rfl
theorem rs_m {α : Type} {g : α → Int} {l : List α} : sm (cm m 8) (sa (mapc k g l)) = sa (mapc k g l) := by
  show S.v (.a ((mapc k g l).map (cm m 8))) = _
  rw [mapc_cm]
theorem vs_int : vm (cm m 8) (.c (.int k n)) = .c (.int k n) := rfl
theorem vs_bool : vm (cm m 8) (.c (.bool b)) = .c (.bool b) := rfl
theorem vs_str {s : ByteArray} : vm (cm m 8) (.c (.str s)) = .c (.str s) := rfl
theorem vs_nilp : vm (cm m 8) (.c .nilp) = .c .nilp := rfl
theorem vs_m {α : Type} {g : α → Int} {l : List α} : vm (cm m 8) (.a (mapc k g l)) = .a (mapc k g l) := by
  show V.a ((mapc k g l).map (cm m 8)) = _
  rw [mapc_cm]
theorem vt0 : sm f (.t []) = .t [] := rfl
theorem vt2 (h1 : vm f x = x') (h2 : vm f y = y') : sm f (.t [x, y]) = .t [x', y'] := by simp [sm, h1, h2]
theorem vt3 (h1 : vm f x = x') (h2 : vm f y = y') (h3 : vm f z = z') : sm f (.t [x, y, z]) = .t [x', y', z'] := by simp [sm, h1, h2, h3]
theorem vt4 (h1 : vm f x = x') (h2 : vm f y = y') (h3 : vm f z = z') (h4 : vm f w = w') : sm f (.t [x, y, z, w]) = .t [x', y', z', w'] := by simp [sm, h1, h2, h3, h4]
theorem rs_nils {l : List Nat} {j : Nat} : sm (cm (cout l true j) 8) (sc .nils) = sc .nils := rfl
theorem vs_nils {l : List Nat} {j : Nat} : vm (cm (cout l true j) 8) (.c .nils) = .c .nils := rfl
theorem rs_new {j q n sz : Nat} : sm (cm (cout [] true j) 8) (sc (.slc 0 q n sz)) = sc (.slc j q n sz) := rfl
theorem vs_new {j q n sz : Nat} : vm (cm (cout [] true j) 8) (.c (.slc 0 q n sz)) = .c (.slc j q n sz) := rfl
theorem rs_newp {j q : Nat} : sm (cm (cout [] true j) 8) (sc (.ptr 0 q)) = sc (.ptr j q) := rfl
theorem vs_newp {j q : Nat} : vm (cm (cout [] true j) 8) (.c (.ptr 0 q)) = .c (.ptr j q) := rfl
end
theorem r_call {f : Operand} {args : Array Operand} {ats : Array TypeId} {k : Nat} {caps : List Cell} {avs : List V} {v s : S} {Hl Hl' : Heap} {args' : List V} (π : List Nat) (lend : Bool) (ho : o.op = .call ⟨.value f, args, ats⟩) (hf : ev fr f = sc (.fn k caps)) (ha : argVs fr args.toList = some avs)
    (hnd : π.Nodup) (hπ : ∀ p ∈ π, p < H.length) (e1 : (avs ++ caps.map V.c).map (vm (cm (cin π lend H) 8)) = args') (e2 : π.map (pick H (cm (cin π lend H) 8)) = Hl) (hg : Good P k args' Hl v Hl')
    (e3 : sm (cm (cout π lend H.length) 8) v = s) (e4 : back π (cm (cout π lend H.length) 8) H Hl' = H') (h : K s H') : ostep P o fr H K := by
  subst e1; subst e2; subst e3; subst e4
  simp only [ostep, ho, callO, hf, ha]
  exact .inl ⟨π, lend, v, Hl', hnd, hπ, hg, h⟩
theorem back_nil (f : Cell → Cell) (H Hl : Heap) : back [] f H Hl = H ++ picks f Hl := by
  have : ∀ (H : Heap) (p : Nat), putB [] f Hl p H = H := by
    intro H
    induction H with
    | nil => intro p; rfl
    | cons b r ih => intro p; simp only [putB, pbk, idx, ih]
  simp [back, this]
theorem r_callp {f : Nat} {args : Array Operand} {ats : Array TypeId} {v s : S} {args' : List V} (ho : o.op = .call ⟨.value (.func f), args, ats⟩) (ha : CA fr H [] true args.toList args') (hg : Good P f args' [] v [])
    (e3 : sm (cm (cout [] true H.length) 8) v = s) (h : K s H) : ostep P o fr H K := by
  obtain ⟨avs, h1, h2⟩ := ha
  exact r_call [] true ho rfl h1 List.nodup_nil (by simp) (by simpa using h2) rfl hg e3 (by rw [back_nil]; simp [picks]) h
theorem r_calln {f m : Nat} {args : Array Operand} {ats : Array TypeId} {v s : S} {cs : List Cell} {args' : List V} (ho : o.op = .call ⟨.value (.func f), args, ats⟩) (ha : CA fr H [] true args.toList args') (hg : Good P f args' [] v [some cs])
    (hm : H.length = m) (hcs : cs.map (cm (cout [] true m) 8) = cs) (e3 : sm (cm (cout [] true m) 8) v = s) (h : K s (H ++ [some cs])) : ostep P o fr H K := by
  subst hm
  obtain ⟨avs, h1, h2⟩ := ha
  exact r_call [] true ho rfl h1 List.nodup_nil (by simp) (by simpa using h2) rfl hg e3 (by rw [back_nil]; simp [picks, hcs]) h
theorem r_callw {f : Nat} {args : Array Operand} {ats : Array TypeId} {v s : S} {cs cs' ds ds' : List Cell} {args' : List V} (p : Nat) (ho : o.op = .call ⟨.value (.func f), args, ats⟩) (ha : CA fr H [p] true args.toList args') (hp : H[p]? = some (some cs)) (hcs : cs.map (cm (cin [p] true H) 8) = cs')
    (hg : Good P f args' [some cs'] v [some ds]) (hds : ds.map (cm (cout [p] true H.length) 8) = ds') (e3 : sm (cm (cout [p] true H.length) 8) v = s) (h : K s (H.set p (some ds'))) : ostep P o fr H K := by
  obtain ⟨avs, h1, h2⟩ := ha
  have hlt : p < H.length := (List.getElem?_eq_some_iff.1 hp).1
  refine r_call [p] true ho rfl h1 (by simp) (by simpa using hlt) (by simpa using h2) (by simp [pick, hp, hcs]) hg e3 ?_ h
  apply List.ext_getElem?
  intro j
  rw [back, List.drop_of_length_le (by simp)]
  simp only [picks, List.append_nil]
  rw [putB_get, List.getElem?_set, Nat.zero_add]
  by_cases hj : p = j
  · subst hj
    simp [hlt, pbk, idx, pick, hds]
  · rw [if_neg hj]
    cases H[j]? <;> simp [pbk, idx, hj]
/-! Slices, by their bounds. -/
section
variable {t : TypeId} {ti : TI} {a : Operand}
theorem r_sls_lo {p q n e sz : Nat} {ei : TI} {j : Nat} {x : Operand} (ho : o.op = .slice t a (some x) none none) (ht : tiOf P t = some ti) (hk : ti.kind = .slice e) (he : tiOf P e = some ei) (hx : ev fr a = sc (.slc p q n sz)) (hsz : sz = ei.size) (hj : ev fr x = sc (cn j)) (hb : j ≤ n) (h : K (sc (.slc p (q + j * sz) (n - j) sz)) H) : ostep P o fr H K :=
  r_sls ho ht hk he hx hsz (oi_n hj) oi_no oi_no (bn_lo hb (by simpa using h))
theorem r_sls_hi {p q n e sz : Nat} {ei : TI} {k : Nat} {y : Operand} (ho : o.op = .slice t a none (some y) none) (ht : tiOf P t = some ti) (hk : ti.kind = .slice e) (he : tiOf P e = some ei) (hx : ev fr a = sc (.slc p q n sz)) (hsz : sz = ei.size) (hk' : ev fr y = sc (cn k)) (hb : k ≤ n) (h : K (sc (.slc p (q) (k) sz)) H) : ostep P o fr H K :=
  r_sls ho ht hk he hx hsz oi_no (oi_n hk') oi_no (bn_hi hb (by simpa using h))
theorem r_slo_lo {n e : Nat} {cs xs : List Cell} {ei : TI} {j : Nat} {x : Operand} (ho : o.op = .slice t a (some x) none none) (ht : tiOf P t = some ti) (hk : ti.kind = .slice e) (he : tiOf P e = some ei) (hx : ev fr a = sc (.ro n cs)) (hj : ev fr x = sc (cn j)) (hb : j ≤ n) (hc : (cs.drop (j * ei.size)).take ((n - j) * ei.size) = xs) (h : K (sc (.ro (n - j) xs)) H) : ostep P o fr H K :=
  r_slo ho ht hk he hx (oi_n hj) oi_no oi_no (bn_lo hb (by subst hc; simpa using h))
theorem r_slo_hi {n e : Nat} {cs xs : List Cell} {ei : TI} {k : Nat} {y : Operand} (ho : o.op = .slice t a none (some y) none) (ht : tiOf P t = some ti) (hk : ti.kind = .slice e) (he : tiOf P e = some ei) (hx : ev fr a = sc (.ro n cs)) (hk' : ev fr y = sc (cn k)) (hb : k ≤ n) (hc : (cs.drop (0 * ei.size)).take ((k) * ei.size) = xs) (h : K (sc (.ro (k) xs)) H) : ostep P o fr H K :=
  r_slo ho ht hk he hx oi_no (oi_n hk') oi_no (bn_hi hb (by subst hc; simpa using h))
theorem r_slp_no {p q n e : Nat} {cs : List Cell} {ei : TI}  (ho : o.op = .slice t a none none none) (ht : tiOf P t = some ti) (hk : ti.kind = .array n e) (he : tiOf P e = some ei) (hx : ev fr a = sc (.ptr p q)) (hp : H[p]? = some (some cs)) (hs : Nat.blt 0 ei.size = true) (hl : q + n * ei.size ≤ cs.length)  (h : K (sc (.slc p (q) (n) ei.size)) H) : ostep P o fr H K :=
  r_slp ho ht hk he hx hp hs hl oi_no oi_no oi_no (bn_no (by simpa using h))
theorem r_slp_lo {p q n e : Nat} {cs : List Cell} {ei : TI} {j : Nat} {x : Operand} (ho : o.op = .slice t a (some x) none none) (ht : tiOf P t = some ti) (hk : ti.kind = .array n e) (he : tiOf P e = some ei) (hx : ev fr a = sc (.ptr p q)) (hp : H[p]? = some (some cs)) (hs : Nat.blt 0 ei.size = true) (hl : q + n * ei.size ≤ cs.length) (hj : ev fr x = sc (cn j)) (hb : j ≤ n) (h : K (sc (.slc p (q + j * ei.size) (n - j) ei.size)) H) : ostep P o fr H K :=
  r_slp ho ht hk he hx hp hs hl (oi_n hj) oi_no oi_no (bn_lo hb (by simpa using h))
theorem r_slp_hi {p q n e : Nat} {cs : List Cell} {ei : TI} {k : Nat} {y : Operand} (ho : o.op = .slice t a none (some y) none) (ht : tiOf P t = some ti) (hk : ti.kind = .array n e) (he : tiOf P e = some ei) (hx : ev fr a = sc (.ptr p q)) (hp : H[p]? = some (some cs)) (hs : Nat.blt 0 ei.size = true) (hl : q + n * ei.size ≤ cs.length) (hk' : ev fr y = sc (cn k)) (hb : k ≤ n) (h : K (sc (.slc p (q) (k) ei.size)) H) : ostep P o fr H K :=
  r_slp ho ht hk he hx hp hs hl oi_no (oi_n hk') oi_no (bn_hi hb (by simpa using h))
end
end
/-! A body's end. -/
section
variable {P : Program} {st : St} {K : List V → Prop}
theorem rk0 (h : K []) : resK P st [] K := h
theorem rkt {t : Nat} {x : V} {r : List ResultVar} (hx : ev st.fr (.tmp t) = .v x) (h : resK P st r fun xs => K (x :: xs)) : resK P st (.tmp t :: r) K := by
  simp only [resK, hx]; exact h
theorem rka {a t p : Nat} {ti : TI} {cs : List Cell} {r : List ResultVar} (ht : tiOf P t = some ti) (hk : ti.kind.agg = true) (hz : Nat.blt 0 ti.size = true) (hx : ev st.fr (.tmp a) = sc (.ptr p 0)) (hp : st.H[p]? = some (some cs)) (hl : cs.length = ti.size) (h : resK P st r fun xs => K (.a cs :: xs)) : resK P st (.cell a t :: r) K := by
  simp only [resK]; exact loadA ht hk hz hx hp (by omega) (by rw [List.drop_zero, ← hl, List.take_length]) h
variable {fn : Func} {v : S} {H' : Heap}
theorem fin_of {n : Nat} (π : List Nat) (hn : ∀ p, p < n → π[p]? = some p) (hnd : π.Nodup) {l : List ResultVar} (hl : fn.results.toList = l) {xs : List V} (hr : ∀ K : List V → Prop, K xs → resK P st l K)
    (hv : v = sm (cm ⟨fun p => idx p π, fun _ => none, true, false⟩ 8) (packR xs)) (hH : H' = π.map (pick st.H (cm ⟨fun p => idx p π, fun _ => none, true, false⟩ 8))) : fin P fn n v H' st := by
  unfold fin
  rw [hl]
  exact hr _ ⟨π, hn, hnd, hv, hH⟩
end
def pcs (ps : List (List UInt8)) : List Cell := ps.map fun l => .ro l.length (u8s l)
theorem pcs_at {ps : List (List UInt8)} {i : Nat} (h : i < ps.length) : (pcs ps)[i]? = some (.ro (ps.getD i []).length (u8s (ps.getD i []))) := by
  simp [pcs, List.getD_eq_getElem?_getD, h]
theorem rs_pcs {n : Nat} {ps : List (List UInt8)} {f : Nat → Option Nat} {x : Nat → Option (List Cell)} {b : Bool} : sm (cm ⟨f, x, true, b⟩ 8) (sc (.ro n (pcs ps))) = sc (.ro n (pcs ps)) := by
  show S.v (.c (.ro n ((pcs ps).map (cm ⟨f, x, true, b⟩ 7)))) = _
  congr 3
  simp only [pcs, List.map_map]
  apply List.map_congr_left
  intro l _
  show Cell.ro l.length ((u8s l).map (cm ⟨f, x, true, b⟩ 6)) = _
  rw [mapc_cm]
def fl (ps : List (List UInt8)) (i : Nat) : List UInt8 := (ps.take i).flatten
theorem fl_succ (ps : List (List UInt8)) (i : Nat) (h : i < ps.length) : fl ps (i + 1) = fl ps i ++ ps.getD i [] := by
  unfold fl
  rw [List.take_succ_eq_append_getElem h, List.flatten_append]
  simp [List.getD_eq_getElem?_getD, h]
theorem fl_le (ps : List (List UInt8)) (i : Nat) (h : i < ps.length) : (fl ps i).length + (ps.getD i []).length ≤ ps.flatten.length := by
  have e : ps.flatten = fl ps (i + 1) ++ (ps.drop (i + 1)).flatten := by rw [fl, ← List.flatten_append, List.take_append_drop]
  rw [e, fl_succ ps i h]
  simp only [List.length_append]
  omega
theorem sees_parts {π : List Nat} {H : Heap} {p q n : Nat} {cs : List Cell} {ps : List (List UInt8)} (hi : idx p π = none) (hp : H[p]? = some (some cs)) (hc : ((cs.drop q).take (n * 1)).map (cm (cin π true H) 7) = pcs ps) : cm (cin π true H) 8 (.slc p q n 1) = .ro n (pcs ps) := by
  rw [← hc]
  simp only [cm, cin, hi, joinH, hp, if_true]
theorem pq0 {f : Cell → Cell} : ([] : List Cell).map f = pcs [] := rfl
theorem pq_ro {π : List Nat} {H : Heap} {d n : Nat} {l : List UInt8} {cs : List Cell} {ps : List (List UInt8)} (hn : l.length = n) (h : cs.map (cm (cin π true H) (d + 1)) = pcs ps) : (.ro n (u8s l) :: cs).map (cm (cin π true H) (d + 1)) = pcs (l :: ps) := by
  rw [List.map_cons, h]
  have e : cm (cin π true H) (d + 1) (.ro n (u8s l)) = .ro n ((u8s l).map (cm (cin π true H) d)) := by simp only [cm, cin, if_true]
  rw [e, mapc_cm, ← hn]; rfl
theorem pq_nil {π : List Nat} {H : Heap} {d : Nat} {cs : List Cell} {ps : List (List UInt8)} (h : cs.map (cm (cin π true H) (d + 1)) = pcs ps) : (.nils :: cs).map (cm (cin π true H) (d + 1)) = pcs ([] :: ps) := by
  rw [List.map_cons, h]; rfl
theorem pq_slc {π : List Nat} {H : Heap} {d p q n : Nat} {l : List UInt8} {c cs : List Cell} {ps : List (List UInt8)} (hi : idx p π = none) (hp : H[p]? = some (some c)) (hc : (c.drop q).take (n * 1) = u8s l) (hn : l.length = n) (h : cs.map (cm (cin π true H) (d + 1)) = pcs ps) : (.slc p q n 1 :: cs).map (cm (cin π true H) (d + 1)) = pcs (l :: ps) := by
  rw [List.map_cons, h]
  have e : cm (cin π true H) (d + 1) (.slc p q n 1) = .ro n ((u8s l).map (cm (cin π true H) d)) := by
    rw [← hc]; simp only [cm, cin, hi, joinH, hp, if_true]
  rw [e, mapc_cm, ← hn]; rfl
section
variable {m : CM}
theorem cm_int {k : IntKind} {n : Int} : cm m 8 (.int k n) = .int k n := rfl
theorem cm_bool {b : Bool} : cm m 8 (.bool b) = .bool b := rfl
theorem cm_str {s : ByteArray} : cm m 8 (.str s) = .str s := rfl
theorem cm_nilp : cm m 8 .nilp = .nilp := rfl
theorem cm_nils {l : Nat → Option Nat} {x : Nat → Option (List Cell)} {k : Bool} : cm ⟨l, x, k, false⟩ 8 .nils = .nils := rfl
theorem cm_nilf : cm m 8 .nilf = .nilf := rfl
end
end Go.Abs


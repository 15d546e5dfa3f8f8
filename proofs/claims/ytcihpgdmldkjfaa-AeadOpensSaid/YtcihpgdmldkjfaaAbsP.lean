/- The abstract machine: calls. -/
import Derived.Test.YtcihpgdmldkjfaaAbsO
namespace Go.Abs
open Go

theorem putB_length (π : List Nat) (f : Cell → Cell) (Hl : Heap) : ∀ (H : Heap) (p : Nat), (putB π f Hl p H).length = H.length
  | [], _ => rfl
  | b :: r, p => by simp [putB, putB_length π f Hl r (p + 1)]
theorem putB_get (π : List Nat) (f : Cell → Cell) (Hl : Heap) : ∀ (H : Heap) (s p : Nat), (putB π f Hl s H)[p]? = (H[p]?).map fun b => pbk π f Hl (s + p) b
  | [], s, p => by simp [putB]
  | b :: r, s, 0 => by simp [putB]
  | b :: r, s, p + 1 => by
    simp only [putB, List.getElem?_cons_succ]
    rw [putB_get π f Hl r (s + 1) p, show s + 1 + p = s + (p + 1) by omega]
theorem picks_length (f : Cell → Cell) : ∀ (H : Heap), (picks f H).length = H.length
  | [] => rfl
  | some _ :: r => by simp [picks, picks_length f r]
  | none :: r => by simp [picks, picks_length f r]
theorem picks_get (f : Cell → Cell) : ∀ (H : Heap) (p : Nat) cs, (picks f H)[p]? = some (some cs) → ∃ c0, H[p]? = some (some c0) ∧ cs = c0.map f
  | [], p, cs, h => by simp [picks] at h
  | some c :: r, 0, cs, h => by simp [picks] at h; exact ⟨c, rfl, h.symm⟩
  | none :: r, 0, cs, h => by simp [picks] at h
  | some c :: r, p + 1, cs, h => by
    simp only [picks, List.getElem?_cons_succ] at h ⊢
    exact picks_get f r p cs h
  | none :: r, p + 1, cs, h => by
    simp only [picks, List.getElem?_cons_succ] at h ⊢
    exact picks_get f r p cs h

theorem pick_get {H : Heap} {f : Cell → Cell} {p : Nat} {cs : List Cell} (h : pick H f p = some cs) : ∃ c0, H[p]? = some (some c0) ∧ cs = c0.map f := by
  unfold pick at h
  split at h
  · rename_i c0 hc; exact ⟨c0, hc, (Option.some.inj h).symm⟩
  · simp at h

/-- What lies where behind a call. -/
theorem back_get {π : List Nat} {f : Cell → Cell} {H Hl : Heap} {p : Nat} {cs : List Cell} (h : (back π f H Hl)[p]? = some (some cs)) :
    (p < H.length ∧ idx p π = none ∧ H[p]? = some (some cs)) ∨
    (∃ j c0, p < H.length ∧ idx p π = some j ∧ Hl[j]? = some (some c0) ∧ cs = c0.map f) ∨
    (∃ j c0, p = H.length + (j - π.length) ∧ π.length ≤ j ∧ Hl[j]? = some (some c0) ∧ cs = c0.map f) := by
  unfold back at h
  rcases Nat.lt_or_ge p H.length with hlt | hge
  · rw [List.getElem?_append_left (by rw [putB_length]; exact hlt), putB_get] at h
    rw [List.getElem?_eq_getElem hlt] at h ⊢
    simp only [Nat.zero_add, Option.map_some, Option.some.injEq, pbk] at h ⊢
    split at h
    · rename_i j hj
      obtain ⟨c0, h1, h2⟩ := pick_get h
      exact .inr (.inl ⟨j, c0, hlt, hj, h1, h2⟩)
    · rename_i hj
      exact .inl ⟨hlt, hj, h⟩
  · rw [List.getElem?_append_right (by rw [putB_length]; exact hge), putB_length] at h
    obtain ⟨c0, h1, h2⟩ := picks_get f _ _ _ h
    rw [List.getElem?_drop] at h1
    exact .inr (.inr ⟨π.length + (p - H.length), c0, by omega, by omega, h1, h2⟩)

theorem argVs_sound {R : Rl} {fr : List S} {a : Act} (hf : FRel R fr a) : ∀ (l : List Operand) (vs : List V), argVs fr l = some vs → VsRel R vs (l.map a.eval)
  | [], vs, h => by simp [argVs] at h; subst h; simp [VsRel]
  | x :: r, vs, h => by
    simp only [argVs] at h
    have hx := ev_sound hf x
    split at h
    · rename_i y ys h1 h2
      obtain rfl := Option.some.inj h
      rw [h1] at hx
      exact ⟨_, _, rfl, hx, argVs_sound hf r ys h2⟩
    · simp at h

theorem vsrel_append {R : Rl} : ∀ {xs ys : List V} {vs us : List Value}, VsRel R xs vs → VsRel R ys us → VsRel R (xs ++ ys) (vs ++ us)
  | [], ys, vs, us, h, k => by simp only [VsRel] at h; subst h; exact k
  | x :: xs, ys, vs, us, h, k => by
    simp only [VsRel, List.cons_append] at h ⊢
    obtain ⟨v, vs', rfl, h1, h2⟩ := h
    exact ⟨v, vs' ++ us, rfl, h1, vsrel_append h2 k⟩
theorem vsrel_cells {R : Rl} : ∀ {cs : List Cell} {vs : List Value}, LRel R cs vs → VsRel R (cs.map V.c) vs
  | [], vs, h => by simp only [LRel] at h; subst h; simp [VsRel]
  | c :: cs, vs, h => by
    simp only [LRel] at h
    obtain ⟨v, vs', rfl, _, h1, h2⟩ := h
    exact ⟨v, vs', rfl, h1, vsrel_cells h2⟩

theorem opg_call {P : Program} {o : Oper} {fr : List S} {H Hl' : Heap} {f : Operand} {args : Array Operand} {ats : Array TypeId} {k : Nat} {caps : List Cell} {avs : List V} {fn : Func} {v : S}
    (π : List Nat) (lend : Bool) (ho : o.op = .call ⟨.value f, args, ats⟩) (hf : ev fr f = sc (.fn k caps)) (ha : argVs fr args.toList = some avs)
    (hfn : P.funcs[k]? = some fn) (hbody : fn.body.isSome = true) (hname : (fn.name == "runtime.NumGoroutine") = false) (hnd : π.Nodup) (hπ : ∀ p ∈ π, p < H.length)
    (hgood : Good P k ((avs ++ caps.map V.c).map (vm (cm (cin π lend H) 8))) (π.map (pick H (cm (cin π lend H) 8))) v Hl') :
    OpG P o fr H (sm (cm (cout π lend H.length) 8) v) (back π (cm (cout π lend H.length) 8) H Hl') := by
  obtain ⟨hlen, _, hgood⟩ := hgood
  have hlen' : π.length ≤ Hl'.length := by simpa using hlen
  have hbl : (back π (cm (cout π lend H.length) 8) H Hl').length = H.length + (Hl'.length - π.length) := by
    simp [back, putB_length, picks_length]
  refine ⟨by omega, fun E ρ a w hE hs K Q hK => ?_⟩
  have hfv := ev_sound hs.fr f
  rw [hf] at hfv
  simp only [SRel, VRel, CRel] at hfv
  obtain ⟨cvs, hev, hcl⟩ := hfv
  have hargs := argVs_sound hs.fr _ _ ha
  -- the callee's memory and words
  let ρl : Nat → Place := fun j => ρ (π.getD j 0)
  let Hl : Heap := π.map (pick H (cm (cin π lend H) 8))
  let img' : Nat → Prop := fun b => ∃ p cs, Hl[p]? = some (some cs) ∧ (ρl p).room ≠ 0 ∧ (ρl p).blk = b
  let T' : Nat → Prop := fun b => if lend then b < w.heap.size ∧ ¬ img' b else E.T b
  let El : Env := ⟨w, T', img'⟩
  have hHl : ∀ (j : Nat) cs, Hl[j]? = some (some cs) → ∃ p c0, π[j]? = some p ∧ H[p]? = some (some c0) ∧ cs = c0.map (cm (cin π lend H) 8) ∧ ρl j = ρ p := by
    intro j cs hj
    simp only [Hl, List.getElem?_map, Option.map_eq_some_iff] at hj
    obtain ⟨p, h1, h2⟩ := hj
    obtain ⟨c0, h3, h4⟩ := pick_get h2
    exact ⟨p, c0, h1, h3, h4, by simp only [ρl]; rw [List.getD_eq_getElem?_getD, h1]; rfl⟩
  have himg : ∀ b, img' b → ∃ p c0, p ∈ π ∧ H[p]? = some (some c0) ∧ (ρ p).room ≠ 0 ∧ (ρ p).blk = b := by
    rintro b ⟨j, cs, h1, h2, h3⟩
    obtain ⟨p, c0, k1, k2, k3, k4⟩ := hHl j cs h1
    rw [k4] at h2 h3
    exact ⟨p, c0, List.mem_of_getElem? k1, k2, h2, h3⟩
  have hTnot : ∀ b, E.T b → ¬ img' b := by
    intro b hT hi
    obtain ⟨p, c0, _, h1, h2, h3⟩ := himg b hi
    rcases hs.heap.fresh p c0 h1 h2 with h4 | h4
    · rw [h3] at h4; exact hE.apart b hT h4
    · rw [h3] at h4; have := hE.old b hT; omega
  have hTold : ∀ b, E.T b → b < w.heap.size := fun b hT => Nat.lt_of_lt_of_le (hE.old b hT) hs.heap.size
  have hElOk : El.Ok := by
    refine ⟨fun b hb => ?_, fun b hb => ?_, fun b hb => ?_⟩
    · show b < w.heap.size
      have hb' : T' b := hb
      simp only [T'] at hb'
      split at hb'
      · exact hb'.1
      · exact hTold b hb'
    · have hb' : T' b := hb
      simp only [T'] at hb'
      split at hb'
      · exact hb'.2
      · exact hTnot b hb'
    · obtain ⟨p, c0, _, h1, h2, h3⟩ := himg b hb
      show b < w.heap.size
      rw [← h3]
      exact hs.heap.lt h1 h2
  have hTT : ∀ b, E.T b → T' b ∧ w.heap[b]? = E.w0.heap[b]? := by
    intro b hT
    refine ⟨?_, hs.heap.frame b (hE.old b hT) (hE.apart b hT)⟩
    simp only [T']
    split
    · exact ⟨hTold b hT, hTnot b hT⟩
    · exact hT
  have hcin : ∀ c v, CRel (E.rl H.length ρ) c v → CRel (El.rl π.length ρl) (cm (cin π lend H) 8 c) v := by
    refine cm_sound (R := E.rl H.length ρ) (R' := El.rl π.length ρl) (m := cin π lend H) ⟨fun p q hq hp => ?_, fun p cs hcs hne hnone hp => ?_, fun _ b hb => hTT b hb⟩ 8
    · have hq' : idx p π = some q := hq
      have h1 := idx_get hq'
      refine ⟨(List.getElem?_eq_some_iff.1 h1).1, ?_⟩
      show ρ (π.getD q 0) = ρ p
      rw [List.getD_eq_getElem?_getD, h1]; rfl
    · have hcs' : (if lend then joinH H p else none) = some cs := hcs
      have hno : idx p π = none := hnone
      split at hcs'
      · rename_i hl
        unfold joinH at hcs'
        split at hcs'
        · rename_i c0 hc0
          obtain rfl := Option.some.inj hcs'
          have hpos : 0 < c0.length := List.length_pos_iff.2 hne
          obtain ⟨hr, arr, el, f0, b1, b2, b3, b4, b5⟩ := brel_of hs.heap hc0 hpos
          refine ⟨?_, fun i c hi => ?_⟩
          · show T' (ρ p).blk
            simp only [T']
            rw [if_pos hl]
            refine ⟨hs.heap.lt hc0 hr, fun hi => ?_⟩
            obtain ⟨p', c1, k1, k2, k3, k4⟩ := himg _ hi
            have := hs.heap.inj p' p c1 c0 k2 hc0 k3 hr k4
            subst this
            have : ∀ (l : List Nat), p' ∈ l → idx p' l ≠ none := by
              intro l
              induction l with
              | nil => intro h; cases h
              | cons x r ih =>
                intro h
                simp only [idx]
                split
                · simp
                · rename_i hne
                  rcases List.mem_cons.1 h with rfl | h
                  · exact absurd rfl hne
                  · have := ih h
                    simpa using this
            exact this π k1 hno
          · obtain ⟨v, g1, g2, g3⟩ := b5 i c hi
            exact ⟨arr, el, f0, v, b1, g1, g2, g3⟩
        · simp at hcs'
      · simp at hcs'
  have hHlRel : HRel El ρl w Hl := by
    refine ⟨rfl, rfl, rfl, Nat.le_refl _, fun _ _ _ => rfl, fun j cs hj hr => .inl ⟨j, cs, hj, hr, rfl⟩, fun i j cs ds hi hj hr1 hr2 he => ?_, fun j cs hj hr => ?_, fun j cs hj hr => ?_⟩
    · obtain ⟨p, c0, k1, k2, k3, k4⟩ := hHl i cs hi
      obtain ⟨q, d0, l1, l2, l3, l4⟩ := hHl j ds hj
      rw [k4] at hr1 he
      rw [l4] at hr2 he
      have := hs.heap.inj p q c0 d0 k2 l2 hr1 hr2 he
      subst this
      obtain ⟨hp1, hp2⟩ := List.getElem?_eq_some_iff.1 k1
      obtain ⟨hq1, hq2⟩ := List.getElem?_eq_some_iff.1 l1
      exact (List.getElem_inj hnd).1 (hp2.trans hq2.symm)
    · obtain ⟨p, c0, k1, k2, k3, k4⟩ := hHl j cs hj
      rw [k4] at hr ⊢
      obtain ⟨arr, el, f0, b1, b2, b3, b4, b5⟩ := hs.heap.blk p c0 k2 hr
      refine ⟨arr, el, f0, b1, b2, b3, by rw [k3]; simpa using b4, fun i c hi => ?_⟩
      rw [k3, List.getElem?_map, Option.map_eq_some_iff] at hi
      obtain ⟨c1, h5, rfl⟩ := hi
      obtain ⟨v, h6, ho', h7⟩ := b5 i c1 h5
      exact ⟨v, h6, ho', by have := hcin _ _ h7; simpa [Hl] using this⟩
    · obtain ⟨p, c0, k1, k2, k3, k4⟩ := hHl j cs hj
      rw [k4] at hr
      rw [k3, hs.heap.emp p c0 k2 hr]; rfl
  have hvs : VsRel (El.rl Hl.length ρl) ((avs ++ caps.map V.c).map (vm (cm (cin π lend H) 8))) ((args.map a.eval).toList ++ cvs.toList) := by
    have h1 : VsRel (E.rl H.length ρ) (avs ++ caps.map V.c) ((args.map a.eval).toList ++ cvs.toList) := vsrel_append (by simpa using hargs) (vsrel_cells hcl)
    have := vsm_sound (R' := El.rl π.length ρl) hcin h1
    simpa [Hl] using this
  have hcall := hgood El ρl w _ hElOk rfl (fun b => Iff.rfl) hHlRel hvs
  have hrun : (execOp a.eval o).run P w = .ok (.enter k (args.map a.eval ++ cvs)) w := by
    have hb : fn.body.isNone = false := by cases hfb : fn.body with
      | none => rw [hfb] at hbody; cases hbody
      | some c => rfl
    simp only [execOp, ho, resolve, hev, Deferred.ofValue, invoke, callFunc, Sem.run_bind, Sem.run_pure, Result.andThen_ok, run_program, hfn, hname, hb, Bool.false_eq_true, if_false, Array.empty_append]
  unfold Oper.wp
  rw [hrun, Oper.upon_enter]
  have harr : ((args.map a.eval).toList ++ cvs.toList).toArray = args.map a.eval ++ cvs := by
    apply Array.ext'; simp
  rw [harr] at hcall
  refine hcall.mono ?_
  rintro e w' ⟨rv, ρl', rfl, hρ, hH', hv⟩
  have hρ' : ∀ j, j < π.length → ρl' j = ρ (π.getD j 0) := fun j hj => hρ j (by simpa [Hl] using hj)
  have hideq : ∀ p, idx p π = none → p ∉ π := by
    intro p
    have : ∀ (l : List Nat), idx p l = none → p ∉ l := by
      intro l
      induction l with
      | nil => intro _ h; cases h
      | cons x r ih =>
        intro h hm
        simp only [idx] at h
        split at h
        · cases h
        · rename_i hne
          rcases List.mem_cons.1 hm with rfl | hm
          · exact hne rfl
          · exact ih (by simpa using h) hm
    exact this π
  let ρ' : Nat → Place := fun p => if p < H.length then ρ p else ρl' (π.length + (p - H.length))
  have r1 : ∀ p, p < H.length → ρ' p = ρ p := fun p hp => by simp only [ρ']; rw [if_pos hp]
  have r2 : ∀ j, π.length ≤ j → ρ' (H.length + (j - π.length)) = ρl' j := fun j hj => by
    simp only [ρ']; rw [if_neg (by omega)]; congr 1; omega
  have r3 : ∀ p j, idx p π = some j → ρl' j = ρ p ∧ p < H.length := fun p j hj => by
    have h1 := idx_get hj
    have h2 := (List.getElem?_eq_some_iff.1 h1).1
    rw [hρ' j h2, List.getD_eq_getElem?_getD, h1]
    exact ⟨rfl, hπ p (List.mem_of_getElem? h1)⟩
  have hcout : ∀ c v, CRel (El.rl Hl'.length ρl') c v → CRel (E.rl (back π (cm (cout π lend H.length) 8) H Hl').length ρ') (cm (cout π lend H.length) 8 c) v := by
    refine cm_sound (R := El.rl Hl'.length ρl') (R' := E.rl (back π (cm (cout π lend H.length) 8) H Hl').length ρ') (m := cout π lend H.length) ⟨fun j q hq hj => ?_, fun p cs hcs => by simp [cout] at hcs, fun hk b hb => ?_⟩ 8
    · have hj' : j < Hl'.length := hj
      have hq' : (match π[j]? with | some p => some p | none => some (H.length + (j - π.length))) = some q := hq
      show q < (back π (cm (cout π lend H.length) 8) H Hl').length ∧ ρ' q = ρl' j
      rw [hbl]
      cases hπj : π[j]? with
      | some p =>
        rw [hπj] at hq'
        obtain rfl := Option.some.inj hq'
        have hlt := hπ p (List.mem_of_getElem? hπj)
        refine ⟨by omega, ?_⟩
        rw [r1 p hlt, hρ' j (List.getElem?_eq_some_iff.1 hπj).1, List.getD_eq_getElem?_getD, hπj]
        rfl
      | none =>
        rw [hπj] at hq'
        obtain rfl := Option.some.inj hq'
        have hge := List.getElem?_eq_none_iff.1 hπj
        exact ⟨by omega, r2 j hge⟩
    · have hl : lend = false := by simpa [cout] using hk
      have hb' : T' b := hb
      simp only [T'] at hb'
      rw [if_neg (by rw [hl]; simp)] at hb'
      exact ⟨hb', (hTT b hb').2.symm⟩
  have hsize : w.heap.size ≤ w'.heap.size := hH'.size
  have hkeep : ∀ b, b < w.heap.size → ¬ img' b → w'.heap[b]? = w.heap[b]? := fun b h1 h2 => hH'.frame b h1 h2
  -- the callee's blocks are the callee's
  have hown : ∀ j cs, Hl'[j]? = some (some cs) → (ρl' j).room ≠ 0 → (∃ p c0, p ∈ π ∧ H[p]? = some (some c0) ∧ (ρ p).room ≠ 0 ∧ (ρ p).blk = (ρl' j).blk) ∨ w.heap.size ≤ (ρl' j).blk := fun j cs h1 h2 => by
    rcases hH'.fresh j cs h1 h2 with h3 | h3
    · exact .inl (himg _ h3)
    · exact .inr h3
  have hfreshc : ∀ j cs, Hl'[j]? = some (some cs) → (ρl' j).room ≠ 0 → E.img (ρl' j).blk ∨ E.w0.heap.size ≤ (ρl' j).blk := fun j cs h1 h2 => by
    rcases hown j cs h1 h2 with ⟨p, c0, _, k2, k3, k4⟩ | h3
    · rw [← k4]; exact hs.heap.fresh p c0 k2 k3
    · exact .inr (Nat.le_trans hs.heap.size h3)
  -- a block of the caller that was not handed over is none of the callee's
  have hcross : ∀ p c0 j cs, idx p π = none → H[p]? = some (some c0) → (ρ p).room ≠ 0 → Hl'[j]? = some (some cs) → (ρl' j).room ≠ 0 → (ρ p).blk ≠ (ρl' j).blk := fun p c0 j cs h1 h2 h3 h4 h5 he => by
    rcases hown j cs h4 h5 with ⟨q, d0, k1, k2, k3, k4⟩ | h6
    · have := hs.heap.inj p q c0 d0 h2 k2 h3 k3 (he.trans k4.symm)
      subst this
      exact hideq p h1 k1
    · have := hs.heap.lt h2 h3
      omega
  have hBR : ∀ j c0, Hl'[j]? = some (some c0) → (ρl' j).room ≠ 0 → BRel (E.rl (back π (cm (cout π lend H.length) 8) H Hl').length ρ') w' (ρl' j) (c0.map (cm (cout π lend H.length) 8)) := fun j c0 h1 h2 => by
    obtain ⟨arr, el, f0, b1, b2, b3, b4, b5⟩ := hH'.blk j c0 h1 h2
    refine ⟨arr, el, f0, b1, b2, b3, by simpa using b4, fun i c hi => ?_⟩
    rw [List.getElem?_map, Option.map_eq_some_iff] at hi
    obtain ⟨c1, h5, rfl⟩ := hi
    obtain ⟨v, h6, ho', h7⟩ := b5 i c1 h5
    exact ⟨v, h6, ho', hcout _ _ h7⟩
  refine hK rv w' ρ' r1 ?_ (sm_sound hcout hv)
  refine ⟨hH'.os.trans hs.heap.os, hH'.tape.trans hs.heap.tape, hH'.output.trans hs.heap.output, Nat.le_trans hs.heap.size hsize, fun b h1 h2 => ?_, fun p cs hp hr => ?_, fun p q cs ds hp hq hr1 hr2 he => ?_, fun p cs hp hr => ?_, fun p cs hp hr => ?_⟩
  · rw [hkeep b (Nat.lt_of_lt_of_le h1 hs.heap.size) (fun hi => ?_)]
    · exact hs.heap.frame b h1 h2
    · obtain ⟨p, c0, _, k2, k3, k4⟩ := himg b hi
      rcases hs.heap.fresh p c0 k2 k3 with k5 | k5
      · rw [k4] at k5; exact h2 k5
      · rw [k4] at k5; omega
  · rcases back_get hp with ⟨h1, h2, h3⟩ | ⟨j, c0, h1, h2, h3, _⟩ | ⟨j, c0, rfl, h2, h3, _⟩
    · rw [r1 p h1] at hr ⊢; exact hs.heap.fresh p cs h3 hr
    · rw [r1 p h1] at hr ⊢
      rw [← (r3 p j h2).1] at hr ⊢
      exact hfreshc j c0 h3 hr
    · rw [r2 j h2] at hr ⊢; exact hfreshc j c0 h3 hr
  · have place : ∀ p cs, (back π (cm (cout π lend H.length) 8) H Hl')[p]? = some (some cs) → (p < H.length ∧ idx p π = none ∧ H[p]? = some (some cs) ∧ ρ' p = ρ p) ∨
        ∃ j c0, Hl'[j]? = some (some c0) ∧ ρ' p = ρl' j ∧ (idx p π = some j ∨ (π.length ≤ j ∧ p = H.length + (j - π.length))) := fun p cs hp => by
      rcases back_get hp with ⟨h1, h2, h3⟩ | ⟨j, c0, h1, h2, h3, _⟩ | ⟨j, c0, rfl, h2, h3, _⟩
      · exact .inl ⟨h1, h2, h3, r1 p h1⟩
      · exact .inr ⟨j, c0, h3, by rw [r1 p h1, (r3 p j h2).1], .inl h2⟩
      · exact .inr ⟨j, c0, h3, r2 j h2, .inr ⟨h2, rfl⟩⟩
    rcases place p cs hp with ⟨h1, h2, h3, h4⟩ | ⟨j, c0, h3, h4, h5⟩
    · rcases place q ds hq with ⟨k1, k2, k3, k4⟩ | ⟨i, d0, k3, k4, k5⟩
      · rw [h4] at hr1 he; rw [k4] at hr2 he
        exact hs.heap.inj p q cs ds h3 k3 hr1 hr2 he
      · rw [h4] at hr1 he; rw [k4] at hr2 he
        exact absurd he (hcross p cs i d0 h2 h3 hr1 k3 hr2)
    · rcases place q ds hq with ⟨k1, k2, k3, k4⟩ | ⟨i, d0, k3, k4, k5⟩
      · rw [h4] at hr1 he; rw [k4] at hr2 he
        exact absurd he.symm (hcross q ds j c0 k2 k3 hr2 h3 hr1)
      · rw [h4] at hr1 he; rw [k4] at hr2 he
        have := hH'.inj j i c0 d0 h3 k3 hr1 hr2 he
        subst this
        rcases h5 with h5 | ⟨h5, h6⟩
        · have g1 := idx_get h5
          rcases k5 with k5 | ⟨k5, k6⟩
          · have g2 := idx_get k5
            rw [g1] at g2
            exact Option.some.inj g2
          · have := (List.getElem?_eq_some_iff.1 g1).1; omega
        · rcases k5 with k5 | ⟨k5, k6⟩
          · have := (List.getElem?_eq_some_iff.1 (idx_get k5)).1; omega
          · omega
  · rcases back_get hp with ⟨h1, h2, h3⟩ | ⟨j, c0, h1, h2, h3, rfl⟩ | ⟨j, c0, rfl, h2, h3, rfl⟩
    · rw [r1 p h1] at hr ⊢
      refine BRel.mono (R := E.rl H.length ρ) (R' := E.rl (back π (cm (cout π lend H.length) 8) H Hl').length ρ') ⟨fun _ hb => ⟨hb, rfl⟩, fun x hx => ⟨?_, r1 x hx⟩⟩ (hkeep _ (hs.heap.lt h3 hr) fun hi => ?_) (hs.heap.blk p cs h3 hr)
      · have : x < H.length := hx
        show x < (back π (cm (cout π lend H.length) 8) H Hl').length
        rw [hbl]; omega
      · obtain ⟨q, d0, k1, k2, k3, k4⟩ := himg _ hi
        have := hs.heap.inj q p d0 cs k2 h3 k3 hr k4
        subst this
        exact hideq q h2 k1
    · rw [r1 p h1] at hr ⊢
      rw [← (r3 p j h2).1] at hr ⊢
      exact hBR j c0 h3 hr
    · rw [r2 j h2] at hr ⊢; exact hBR j c0 h3 hr
  · rcases back_get hp with ⟨h1, h2, h3⟩ | ⟨j, c0, h1, h2, h3, rfl⟩ | ⟨j, c0, rfl, h2, h3, rfl⟩
    · rw [r1 p h1] at hr; exact hs.heap.emp p cs h3 hr
    · rw [r1 p h1] at hr
      rw [← (r3 p j h2).1] at hr
      rw [hH'.emp j c0 h3 hr]; rfl
    · rw [r2 j h2] at hr
      rw [hH'.emp j c0 h3 hr]; rfl

theorem opg_ext {P : Program} {o : Oper} {fr : List S} {H : Heap} {f : Operand} {args : Array Operand} {ats : Array TypeId} {k : Nat} {avs : List V} {v : S}
    (ho : o.op = .call ⟨.value f, args, ats⟩) (hf : ev fr f = sc (.fn k [])) (ha : argVs fr args.toList = some avs) (hx : Ext P k avs v) : OpG P o fr H v H := by
  refine opg_opr fun E ρ a w hE hs => ?_
  have hfv := ev_sound hs.fr f
  rw [hf] at hfv
  simp only [SRel, VRel, CRel] at hfv
  obtain ⟨cvs, hev, hcl⟩ := hfv
  have hargs := argVs_sound hs.fr _ _ ha
  simp only [LRel] at hcl
  have hcv : cvs = #[] := by
    apply Array.ext'; simpa using hcl
  subst hcv
  obtain ⟨rv, h1, h2⟩ := hx _ w _ hargs
  refine ⟨rv, ?_, h2⟩
  have e : (args.toList.map a.eval).toArray = args.map a.eval := by apply Array.ext'; simp
  rw [e] at h1
  simp only [execOp, ho, resolve, hev, Deferred.ofValue, invoke, Sem.run_bind, Sem.run_pure, Result.andThen_ok, Array.empty_append, Array.append_empty]
  exact h1

theorem callO_sound {P : Program} {o : Oper} {fr : List S} {H : Heap} {f : Operand} {args : Array Operand} {ats : Array TypeId} {K : S → Heap → Prop} (ho : o.op = .call ⟨.value f, args, ats⟩) (h : callO P fr H f args K) :
    ∃ s H', OpG P o fr H s H' ∧ K s H' := by
  unfold callO at h
  split at h
  · rename_i k cap avs h1 h2
    rcases h with ⟨π, lend, v, Hl', h6, h7, h8, h9⟩ | ⟨rfl, v, h6, h7⟩
    · obtain ⟨fn, h3, h4, h5⟩ := h8.2.1
      exact ⟨_, _, opg_call _ _ ho h1 h2 h3 h4 h5 h6 h7 h8, h9⟩
    · exact ⟨_, _, opg_ext ho h1 h2 h6, h7⟩
  · exact h.elim
end Go.Abs

/- Texts that the proof stands on, put together: the abstract machine, and what functions do over it. -/
import Derived.Test.YtlnepajgnckolaaOutTwinsd
/- The abstract machine: what a function does is told of more memory, and its outcome in other words; memory under other numbers. -/
namespace Go.Abs
open Go

/-! What a function does, told of more memory: as a call does it. -/
theorem argVs_tmps : ∀ (pre args : List V) (post : List S), argVs ((pre ++ args).map S.v ++ post) ((List.range' pre.length args.length).map Operand.tmp) = some args
  | pre, [], post => rfl
  | pre, a :: r, post => by
    have h := argVs_tmps (pre ++ [a]) r post
    rw [List.append_assoc] at h
    simp only [List.length_cons, List.range'_succ, List.map_cons, argVs]
    have e : ev ((pre ++ a :: r).map S.v ++ post) (.tmp pre.length) = .v a := by
      simp [ev]
    rw [e]
    have h' : argVs ((pre ++ a :: r).map S.v ++ post) ((List.range' (pre.length + 1) r.length).map Operand.tmp) = some r := by
      simpa using h
    rw [h']

theorem vsrel_at {R : Rl} : ∀ {xs : List V} {vs : List Value}, VsRel R xs vs → ∀ (i : Nat) x, xs[i]? = some x → ∃ v, vs[i]? = some v ∧ VRel R x v
  | [], vs, _, i, x, h => by simp at h
  | y :: xs, vs, k, i, x, h => by
    simp only [VsRel] at k
    obtain ⟨v, vs', rfl, h1, h2⟩ := k
    cases i with
    | zero => simp at h; subst h; exact ⟨v, rfl, h1⟩
    | succ i => simpa using vsrel_at h2 i x (by simpa using h)

theorem Good.call {P : Program} {k : FuncId} {args : List V} {H Hl' : Heap} {v : S} (π : List Nat) (lend : Bool) (hnd : π.Nodup) (hπ : ∀ p ∈ π, p < H.length)
    (hg : Good P k (args.map (vm (cm (cin π lend H) 8))) (π.map (pick H (cm (cin π lend H) 8))) v Hl') :
    Good P k args H (sm (cm (cout π lend H.length) 8) v) (back π (cm (cout π lend H.length) 8) H Hl') := by
  obtain ⟨fn, hfn, hbody, hname⟩ := hg.2.1
  let fr : List S := args.map S.v ++ [ud]
  let xs : List Operand := (List.range' 0 args.length).map Operand.tmp
  have hargs : argVs fr xs = some args := by
    have := argVs_tmps [] args [ud]
    simpa [fr, xs] using this
  let o : Oper := { dst := some args.length, op := .call ⟨.value (.func k), xs.toArray, #[]⟩, type := 0, pos := "", after := #[], guard := none }
  have hg' : Good P k ((args ++ ([] : List Cell).map V.c).map (vm (cm (cin π lend H) 8))) (π.map (pick H (cm (cin π lend H) 8))) v Hl' := by simpa using hg
  have hop := opg_call (P := P) (o := o) (fr := fr) (H := H) (f := .func k) (args := xs.toArray) (ats := #[]) π lend rfl (by rfl : ev fr (.func k) = sc (.fn k [])) hargs hfn hbody hname hnd hπ hg'
  refine ⟨hop.1, ⟨fn, hfn, hbody, hname⟩, ?_⟩
  intro E ρ w rargs hE hw himg hH hrel
  subst hw
  have hlen := vsrel_length hrel
  let a : Act := ⟨(rargs ++ [undef]).toArray, []⟩
  have hs : Sim E ρ ⟨fr, H⟩ a E.w0 := by
    refine ⟨⟨rfl, by simp [a, fr, hlen], fun i s hi => ?_⟩, hH⟩
    by_cases hlt : i < args.length
    · simp only [fr] at hi
      rw [List.getElem?_append_left (by simpa using hlt)] at hi
      simp only [List.getElem?_map, Option.map_eq_some_iff] at hi
      obtain ⟨x, h1, rfl⟩ := hi
      obtain ⟨v, h2, h3⟩ := vsrel_at hrel i x h1
      refine ⟨v, ?_, h3⟩
      have hlt' : i < rargs.length := by omega
      simp only [a, List.getElem?_toArray]
      rw [List.getElem?_append_left hlt']
      exact h2
    · have h1 := (List.getElem?_eq_some_iff.1 hi).1
      simp [fr] at h1
      have hi' : i = args.length := by omega
      subst hi'
      simp [fr] at hi
      subst hi
      exact ⟨undef, by simp [a, hlen.symm], by simp [ud, SRel, VRel, CRel]⟩
  have hrun : (execOp a.eval o).run P E.w0 = .ok (.enter k rargs.toArray) E.w0 := by
    have hb : fn.body.isNone = false := by cases hfb : fn.body with
      | none => rw [hfb] at hbody; cases hbody
      | some c => rfl
    have hev : xs.toArray.map a.eval = rargs.toArray := by
      apply Array.ext'
      simp only [xs, List.map_toArray, List.map_map]
      apply List.ext_getElem?
      intro i
      simp only [List.getElem?_map, List.getElem?_range']
      by_cases hi : i < args.length
      · have hi' : i < rargs.length := by omega
        simp [hi, a, Act.eval, Array.getD_eq_getD_getElem?, hi', List.getElem?_append_left]
      · rw [List.getElem?_eq_none (l := rargs) (by omega)]
        simp [hi]
    simp only [execOp, o, resolve, Act.eval, Deferred.ofValue, invoke, callFunc, Sem.run_bind, Sem.run_pure, Result.andThen_ok, run_program, hfn, hname, hb, Bool.false_eq_true, if_false, Array.empty_append, Array.append_empty]
    exact congrArg (fun z => Result.ok (Next.enter k z) E.w0) hev
  have key := hop.2 E ρ a E.w0 hE hs (fun a' w' => ∃ ρ', (∀ p, p < H.length → ρ' p = ρ p) ∧ HRel E ρ' w' (back π (cm (cout π lend H.length) 8) H Hl') ∧ SRel (E.rl (back π (cm (cout π lend H.length) 8) H Hl').length ρ') (sm (cm (cout π lend H.length) 8) v) (a'.tmps.getD args.length undef)) (fun _ _ _ => False) ?_
  · unfold Oper.wp at key
    rw [hrun, Oper.upon_enter] at key
    refine key.mono ?_
    intro e w' h
    cases e with
    | returned rv =>
      obtain ⟨ρ', h1, h2, h3⟩ := h
      refine ⟨rv, ρ', rfl, h1, h2, ?_⟩
      have : (a.put o.dst rv).tmps.getD args.length undef = rv := by
        simp [Act.put, o, a, Array.getD_eq_getD_getElem?, hlen.symm]
      rw [this] at h3
      exact h3
    | panicked chain => exact h.elim
    | outgrown => exact absurd h (by simp [LetsOut])
  · intro rv w' ρ' h1 h2 h3
    refine ⟨ρ', h1, h2, ?_⟩
    have : (a.put o.dst rv).tmps.getD args.length undef = rv := by
      simp [Act.put, o, a, Array.getD_eq_getD_getElem?, hlen.symm]
    rw [this]
    exact h3

/-! The outcome told in other words. -/
theorem Good.out {P : Program} {k : FuncId} {args : List V} {H H' H2 : Heap} {v v2 : S} (hg : Good P k args H v H') (hl : H.length ≤ H2.length) (hle : SLe H.length ⟨[v], H'⟩ ⟨[v2], H2⟩) : Good P k args H v2 H2 := by
  refine ⟨hl, hg.2.1, fun E ρ w rargs hE hw himg hH hrel => ?_⟩
  refine (hg.2.2 E ρ w rargs hE hw himg hH hrel).mono ?_
  rintro e w' ⟨rv, ρ', rfl, h1, h2, h3⟩
  obtain ⟨ρ2, k1, k2⟩ := hle E ρ' ⟨#[rv], []⟩ w' ⟨⟨rfl, rfl, fun i s hi => by
    cases i with
    | zero => simp at hi; subst hi; exact ⟨rv, rfl, h3⟩
    | succ i => simp at hi⟩, h2⟩
  refine ⟨rv, ρ2, rfl, fun p hp => (k1 p hp).trans (h1 p hp), k2.heap, ?_⟩
  obtain ⟨v', g1, g2⟩ := k2.fr.2.2 0 v2 rfl
  simp at g1
  subst g1
  exact g2

/-- A nil slice as an empty one of this block. -/
def e2 (q sz : Nat) : Cell → Cell
  | .nils => .slc q 0 0 sz
  | c => c
theorem e2_sound {R R' : Rl} {q sz : Nat} (h : R.Le R') (hq : q < R'.n) (c : Cell) (v : Value) (k : CRel R c v) : CRel R' (e2 q sz c) v := by
  by_cases hc : c = .nils
  · subst hc
    simp only [CRel] at k
    subst k
    simp only [e2, CRel]
    exact ⟨hq, none, 0, rfl, Nat.le_refl _, .inr rfl⟩
  · have : e2 q sz c = c := by unfold e2; split <;> first | exact absurd rfl hc | rfl
    rw [this]; exact CRel.mono h c v k
/-- The same with an empty block behind all others. -/
theorem emp_sim {E : Env} {ρ : Nat → Place} {w : World} {H : Heap} (hh : HRel E ρ w H) : ∃ ρ', (∀ p, p < H.length → ρ' p = ρ p) ∧ HRel E ρ' w (H ++ [some []]) := by
  let ρ' : Nat → Place := fun p => if p = H.length then ⟨0, 0, 0⟩ else ρ p
  have hρ : ∀ p, p < H.length → ρ' p = ρ p := fun p hp => if_neg (by omega)
  have hle : (E.rl H.length ρ).Le (E.rl (H ++ [some []]).length ρ') := ⟨fun b hb => ⟨hb, rfl⟩, fun p hp => ⟨by
    show p < (H ++ [some []]).length
    have hp' : p < H.length := hp
    simp; omega, hρ p hp⟩⟩
  have hget : ∀ p cs, (H ++ [some ([] : List Cell)])[p]? = some (some cs) → (ρ' p).room ≠ 0 → p < H.length ∧ H[p]? = some (some cs) := by
    intro p cs hp hr
    by_cases hlt : p < H.length
    · rw [List.getElem?_append_left hlt] at hp; exact ⟨hlt, hp⟩
    · have := (List.getElem?_eq_some_iff.1 hp).1
      simp at this
      have : p = H.length := by omega
      subst this
      simp [ρ'] at hr
  refine ⟨ρ', hρ, hh.os, hh.tape, hh.output, hh.size, hh.frame, fun p cs hp hr => ?_, fun p q cs ds hp hq hrp hrq he => ?_, fun p cs hp hr => ?_, fun p cs hp hr => ?_⟩
  · obtain ⟨h1, h2⟩ := hget p cs hp hr
    rw [hρ p h1] at hr ⊢
    exact hh.fresh p cs h2 hr
  · obtain ⟨h1, h2⟩ := hget p cs hp hrp
    obtain ⟨h3, h4⟩ := hget q ds hq hrq
    rw [hρ p h1] at hrp he
    rw [hρ q h3] at hrq he
    exact hh.inj p q cs ds h2 h4 hrp hrq he
  · obtain ⟨h1, h2⟩ := hget p cs hp hr
    rw [hρ p h1] at hr ⊢
    exact (hh.blk p cs h2 hr).mono hle rfl
  · by_cases hlt : p < H.length
    · rw [List.getElem?_append_left hlt] at hp
      rw [hρ p hlt] at hr
      exact hh.emp p cs hp hr
    · have := (List.getElem?_eq_some_iff.1 hp).1
      simp at this
      have : p = H.length := by omega
      subst this
      simpa using hp
theorem sle_emp2 {n : Nat} {v : S} {H : Heap} (sz : Nat) (hn : n ≤ H.length) : SLe n ⟨[v], H⟩ ⟨[sm (e2 H.length sz) v], H ++ [some []]⟩ := by
  intro E ρ a w hs
  obtain ⟨ρ', h1, h2⟩ := emp_sim hs.heap
  have hle : (E.rl H.length ρ).Le (E.rl (H ++ [some []]).length ρ') := ⟨fun b hb => ⟨hb, rfl⟩, fun p hp => ⟨by
    show p < (H ++ [some []]).length
    have hp' : p < H.length := hp
    simp; omega, h1 p hp⟩⟩
  refine ⟨ρ', fun p hp => h1 p (Nat.lt_of_lt_of_le hp hn), ⟨hs.fr.1, hs.fr.2.1, fun i s hi => ?_⟩, h2⟩
  cases i with
  | zero =>
    simp at hi
    subst hi
    obtain ⟨u, k1, k2⟩ := hs.fr.2.2 0 v rfl
    exact ⟨u, k1, sm_sound (fun c v k => e2_sound hle (by show H.length < (H ++ [some []]).length; simp) c v k) k2⟩
  | succ i => simp at hi
/-- What was nil is an empty slice of a new, empty block. -/
theorem Good.emp {P : Program} {k : FuncId} {args : List V} {H H' : Heap} {v v2 : S} (hg : Good P k args H v H') (sz : Nat) (hv : sm (e2 H'.length sz) v = v2 := by rfl) : Good P k args H v2 (H' ++ [some []]) := by
  subst hv
  exact hg.out (H2 := H' ++ [some []]) (Nat.le_trans hg.1 (by simp)) (sle_emp2 sz hg.1)

/-! Memory under other numbers: for each new block the old one, and whether it is told of. -/
def nfi (p : Nat) (b : Bool) : List (Nat × Bool) → Option Nat
  | [] => none
  | (q, c) :: r => if Nat.beq q p && (!b || c) then some 0 else (nfi p b r).map (· + 1)
theorem nfi_get {p : Nat} {b : Bool} : ∀ {l : List (Nat × Bool)} {j : Nat}, nfi p b l = some j → (l[j]?).map (·.1) = some p
  | [], j, h => by simp [nfi] at h
  | (q, c) :: r, j, h => by
    simp only [nfi] at h
    split at h
    · rename_i hq
      simp at h
      subst h
      simp at hq
      simp [hq.1]
    · rw [Option.map_eq_some_iff] at h
      obtain ⟨i, h1, rfl⟩ := h
      simpa using nfi_get h1
def nph (τ : List (Nat × Bool)) (p : Nat) : Option Nat := match nfi p true τ with
  | some j => some j
  | none => nfi p false τ
theorem nph_get {τ : List (Nat × Bool)} {p j : Nat} (h : nph τ p = some j) : (τ[j]?).map (·.1) = some p := by
  unfold nph at h
  split at h
  · rename_i h1; simp at h; subst h; exact nfi_get h1
  · exact nfi_get h
abbrev nm (τ : List (Nat × Bool)) : Cell → Cell := cm ⟨nph τ, fun _ => none, true, false⟩ 8
def renB (τ : List (Nat × Bool)) (H : Heap) : Heap := τ.map fun x => if x.2 then pick H (nm τ) x.1 else none
def uniqT : List (Nat × Bool) → Bool
  | [] => true
  | (p, b) :: r => (!b || r.all fun x => !(x.2 && Nat.beq x.1 p)) && uniqT r
theorem uniqT_ok : ∀ {τ : List (Nat × Bool)}, uniqT τ = true → ∀ {i j p : Nat}, τ[i]? = some (p, true) → τ[j]? = some (p, true) → i = j
  | [], _, i, j, p, h1, _ => by simp at h1
  | (q, b) :: r, h, i, j, p, h1, h2 => by
    simp only [uniqT, Bool.and_eq_true] at h
    have no : ∀ k : Nat, b = true → q = p → r[k]? = some (p, true) → False := by
      intro k hb hq hk
      have h3 := h.1
      rw [hb] at h3
      simp only [Bool.not_true, Bool.false_or] at h3
      have := List.all_eq_true.1 h3 _ (List.mem_of_getElem? hk)
      simp [hq] at this
    cases i with
    | zero =>
      simp at h1
      cases j with
      | zero => rfl
      | succ j => simp at h2; exact (no j h1.2 h1.1 h2).elim
    | succ i =>
      simp at h1
      cases j with
      | zero => simp at h2; exact (no i h2.2 h2.1 h1).elim
      | succ j => simp at h2; rw [uniqT_ok h.2 h1 h2]
theorem ren_sim {τ : List (Nat × Bool)} {E : Env} {ρ : Nat → Place} {w : World} {H : Heap} (hu : uniqT τ = true) (hh : HRel E ρ w H) :
    HRel E (fun j => ρ ((τ.getD j (0, false)).1)) w (renB τ H) ∧ ∀ c v, CRel (E.rl H.length ρ) c v → CRel (E.rl (renB τ H).length fun j => ρ ((τ.getD j (0, false)).1)) (nm τ c) v := by
  have key : ∀ c v, CRel (E.rl H.length ρ) c v → CRel (E.rl (renB τ H).length fun j => ρ ((τ.getD j (0, false)).1)) (nm τ c) v := by
    refine cm_sound (R := E.rl H.length ρ) (R' := E.rl (renB τ H).length fun j => ρ ((τ.getD j (0, false)).1)) (m := ⟨nph τ, fun _ => none, true, false⟩) ⟨fun p q hq hp => ?_, fun p cs hcs => by simp at hcs, fun _ b hb => ⟨hb, rfl⟩⟩ 8
    have := nph_get hq
    rw [Option.map_eq_some_iff] at this
    obtain ⟨x, h1, h2⟩ := this
    have hlt := (List.getElem?_eq_some_iff.1 h1).1
    refine ⟨by show q < (renB τ H).length; simpa [renB] using hlt, ?_⟩
    show ρ ((τ.getD q (0, false)).1) = ρ p
    rw [List.getD_eq_getElem?_getD, h1]; exact congrArg ρ h2
  have hget : ∀ (j : Nat) cs, (renB τ H)[j]? = some (some cs) → ∃ p c0, τ[j]? = some (p, true) ∧ H[p]? = some (some c0) ∧ cs = c0.map (nm τ) ∧ (τ.getD j (0, false)).1 = p := by
    intro j cs hj
    simp only [renB, List.getElem?_map, Option.map_eq_some_iff] at hj
    obtain ⟨⟨p, b⟩, h1, h2⟩ := hj
    cases b with
    | false => simp at h2
    | true =>
      simp only [if_true] at h2
      obtain ⟨c0, h3, h4⟩ := pick_get h2
      exact ⟨p, c0, h1, h3, h4, by rw [List.getD_eq_getElem?_getD, h1]; rfl⟩
  refine ⟨⟨hh.os, hh.tape, hh.output, hh.size, hh.frame, fun p cs hp hr => ?_, fun p q cs ds hp hq hr1 hr2 he => ?_, fun p cs hp hr => ?_, fun p cs hp hr => ?_⟩, key⟩
  · obtain ⟨q, c0, h1, h2, h3, h4⟩ := hget p cs hp
    simp only [h4] at hr ⊢
    exact hh.fresh q c0 h2 hr
  · obtain ⟨p', c0, h1, h2, h3, h4⟩ := hget p cs hp
    obtain ⟨q', d0, k1, k2, k3, k4⟩ := hget q ds hq
    simp only [h4] at hr1 he
    simp only [k4] at hr2 he
    have := hh.inj p' q' c0 d0 h2 k2 hr1 hr2 he
    subst this
    exact uniqT_ok hu h1 k1
  · obtain ⟨q, c0, h1, h2, h3, h4⟩ := hget p cs hp
    simp only [h4] at hr ⊢
    obtain ⟨arr, el, fr, b1, b2, b3, b4, b5⟩ := hh.blk q c0 h2 hr
    refine ⟨arr, el, fr, b1, b2, b3, by rw [h3]; simpa using b4, fun i c hi => ?_⟩
    rw [h3, List.getElem?_map, Option.map_eq_some_iff] at hi
    obtain ⟨c1, h5, rfl⟩ := hi
    obtain ⟨v, h6, ho, h7⟩ := b5 i c1 h5
    exact ⟨v, h6, ho, key _ _ h7⟩
  · obtain ⟨q, c0, h1, h2, h3, h4⟩ := hget p cs hp
    simp only [h4] at hr
    rw [h3, hh.emp q c0 h2 hr]; rfl
theorem sle_renS {n : Nat} {fr : List S} {H : Heap} (τ : List (Nat × Bool)) (hu : uniqT τ = true) (hn : ∀ p, p < n → (τ[p]?).map (·.1) = some p) : SLe n ⟨fr, H⟩ ⟨fr.map (sm (nm τ)), renB τ H⟩ := by
  intro E ρ a w hs
  obtain ⟨h1, h2⟩ := ren_sim (τ := τ) hu hs.heap
  refine ⟨_, fun p hp => ?_, ⟨hs.fr.1, by simpa using hs.fr.2.1, fun i s hi => ?_⟩, h1⟩
  · have := hn p hp
    rw [Option.map_eq_some_iff] at this
    obtain ⟨x, k1, k2⟩ := this
    show ρ ((τ.getD p (0, false)).1) = ρ p
    rw [List.getD_eq_getElem?_getD, k1]; exact congrArg ρ k2
  · rw [List.getElem?_map, Option.map_eq_some_iff] at hi
    obtain ⟨s0, k1, rfl⟩ := hi
    obtain ⟨v, k2, k3⟩ := hs.fr.2.2 i s0 k1
    exact ⟨v, k2, sm_sound h2 k3⟩
theorem piT {τ : List (Nat × Bool)} {n : Nat} (h : ((List.range n).all fun p => (τ[p]?).map (·.1) == some p) = true) : ∀ p, p < n → (τ[p]?).map (·.1) = some p := fun p hp => by
  have := List.all_eq_true.1 h p (List.mem_range.2 hp)
  simpa using this
theorem Good.ren {P : Program} {k : FuncId} {args : List V} {H H' H2 : Heap} {v v2 : S} (hg : Good P k args H v H') (τ : List (Nat × Bool)) (hu : uniqT τ = true) (hn : ∀ p, p < H.length → (τ[p]?).map (·.1) = some p)
    (hv : sm (nm τ) v = v2) (hH : renB τ H' = H2) : Good P k args H v2 H2 := by
  subst hv hH
  refine hg.out ?_ (sle_renS τ hu hn)
  rcases Nat.eq_zero_or_pos H.length with h | h
  · omega
  · have := hn (H.length - 1) (by omega)
    rw [Option.map_eq_some_iff] at this
    obtain ⟨x, h1, _⟩ := this
    have := (List.getElem?_eq_some_iff.1 h1).1
    simp only [renB, List.length_map]
    omega
theorem frm_map (f : Cell → Cell) {N : Nat} {al : List (Nat × S)} {t : Nat} : lkp (al.map fun x => (x.1, sm f x.2)) t = sm f (lkp al t) ∨ (lkp al t = ud ∧ lkp (al.map fun x => (x.1, sm f x.2)) t = ud) := by
  induction al with
  | nil => exact .inr ⟨rfl, rfl⟩
  | cons x r ih =>
    obtain ⟨i, s⟩ := x
    simp only [List.map_cons, lkp]
    cases Nat.beq i t with
    | true => exact .inl rfl
    | false => exact ih
/-- As a frame says it. -/
theorem sle_ren {n N : Nat} {al al' : List (Nat × S)} {H H' : Heap} (τ : List (Nat × Bool)) (hu : uniqT τ = true) (hn : ∀ p, p < n → (τ[p]?).map (·.1) = some p)
    (hf : SubL (al.map fun x => (x.1, sm (nm τ) x.2)) al') (hH : H' = renB τ H) : SLe n ⟨frm N al, H⟩ ⟨frm N al', H'⟩ := by
  intro E ρ a w hs
  obtain ⟨ρ', h1, h2⟩ := sle_renS (n := n) (fr := frm N al) (H := H) τ hu hn E ρ a w hs
  subst hH
  refine ⟨ρ', h1, ⟨h2.fr.1, by rw [frm_length]; have := hs.fr.2.1; rwa [frm_length] at this, fun t s ht => ?_⟩, h2.heap⟩
  have hlt : t < N := by
    have := (List.getElem?_eq_some_iff.1 ht).1
    rwa [frm_length] at this
  rw [frm_get hlt] at ht
  obtain rfl := Option.some.inj ht
  obtain ⟨v, k1, k2⟩ := h2.fr.2.2 t _ (by rw [List.getElem?_map, frm_get hlt]; rfl)
  refine ⟨v, k1, ?_⟩
  rcases sub_get hf t with h | h
  · rw [h]; simp [ud, SRel, VRel, CRel]
  · rw [h]
    rcases frm_map (N := N) (nm τ) (al := al) (t := t) with g | ⟨_, g⟩
    · rw [g]; exact k2
    · rw [g]; simp [ud, SRel, VRel, CRel]
end Go.Abs

/- The abstract machine: words for memory where a block may be told of or not. -/
namespace Go.Abs
open Go

/-- What a function does, told of more memory: block by block. -/
theorem Good.callv {P : Program} {k : FuncId} {args args' : List V} {H Hl H2 L L' M M' : Heap} {v s : S} (π : List Nat) (hg : Good P k args' Hl v (L ++ M)) (ha : args.map (vm (cm (cin π true H) 8)) = args')
    (e2 : π.map (pick H (cm (cin π true H) 8)) = Hl) (hl : L.length = π.length) (eL : L.map (Option.map (List.map (cm (cout π true H.length) 8))) = L') (eM : M.map (Option.map (List.map (cm (cout π true H.length) 8))) = M')
    (e3 : sm (cm (cout π true H.length) 8) v = s) (hH : setB π L' H ++ M' = H2) (hnd : π.Nodup := by decide) (hπ : (π.all fun p => Nat.blt p H.length) = true := by exact rfl) : Good P k args H s H2 := by
  subst ha e2
  have h := Good.call π true hnd (allB hπ) hg
  rwa [back_split hnd hl, eL, eM, e3, hH] at h
theorem am1 {f : Cell → Cell} {x x' : V} (h : vm f x = x') : [x].map (vm f) = [x'] := by simp [h]
theorem am2 {f : Cell → Cell} {x x' y y' : V} (h : vm f x = x') (h1 : vm f y = y') : [x, y].map (vm f) = [x', y'] := by simp [h, h1]
theorem vs_ro {α : Type} {k : IntKind} {g : α → Int} {l : List α} {n : Nat} {f : Nat → Option Nat} {x : Nat → Option (List Cell)} {b : Bool} : vm (cm ⟨f, x, true, b⟩ 8) (.c (.ro n (mapc k g l))) = .c (.ro n (mapc k g l)) := by
  have h := rs_ro (k := k) (g := g) (l := l) (n := n) (f := f) (x := x) (b := b)
  simp only [sm, S.v.injEq] at h
  exact h
/-- A block that may be told of or not. -/
theorem plb {H Hl : Heap} {f : Cell → Cell} {p : Nat} {π : List Nat} {b b' : Option (List Cell)} (hp : H[p]? = some b) (hc : b.map (List.map f) = b') (h : π.map (pick H f) = Hl) : (p :: π).map (pick H f) = b' :: Hl := by
  subst hc
  cases b <;> simp [pick, hp, ← h]
theorem mlb {f : Cell → Cell} {L L' : Heap} {b b' : Option (List Cell)} (hx : b.map (List.map f) = b') (h : L.map (Option.map (List.map f)) = L') : (b :: L).map (Option.map (List.map f)) = b' :: L' := by
  simp [hx, h]
/-- Bytes, if there are any to be told of. -/
def kb (has : Bool) (key : List UInt8) : Option (List Cell) := bif has then some (u8s key) else none
theorem kb_map {has : Bool} {key : List UInt8} {m : CM} {d : Nat} : (kb has key).map (List.map (cm m d)) = kb has key := by
  cases has
  · rfl
  · simp [kb, mapc_cm]
/-- A pointer to them, or none. -/
def kp (has : Bool) (p : Nat) : Cell := bif has then .ptr p 0 else .nilp
/-- The same, looked at. -/
def kr (has : Bool) (key : List UInt8) : Cell := bif has then .rop (u8s key) else .nilp
/-! Blocks under other numbers, one by one. -/
def renL (τ0 τ : List (Nat × Bool)) (H : Heap) : Heap := τ.map fun x => if x.2 then pick H (nm τ0) x.1 else none
theorem rl0 {τ0 : List (Nat × Bool)} {H : Heap} : renL τ0 [] H = [] := rfl
theorem rlT {τ0 τ : List (Nat × Bool)} {H R : Heap} {p : Nat} {cs cs' : List Cell} (hp : H[p]? = some (some cs)) (hc : cs.map (nm τ0) = cs') (h : renL τ0 τ H = R) : renL τ0 ((p, true) :: τ) H = some cs' :: R := by
  subst hc h; simp [renL, pick, hp]
theorem rlF {τ0 τ : List (Nat × Bool)} {H R : Heap} {p : Nat} (h : renL τ0 τ H = R) : renL τ0 ((p, false) :: τ) H = none :: R := by
  subst h; simp [renL]
theorem rlB {τ0 τ : List (Nat × Bool)} {H R : Heap} {p : Nat} {b b' : Option (List Cell)} (hp : H[p]? = some b) (hc : b.map (List.map (nm τ0)) = b') (h : renL τ0 τ H = R) : renL τ0 ((p, true) :: τ) H = b' :: R := by
  subst hc h; cases b <;> simp [renL, pick, hp]
theorem Good.ren' {P : Program} {k : FuncId} {args : List V} {H H' H2 : Heap} {v v2 : S} (hg : Good P k args H v H') (τ : List (Nat × Bool)) (hH : renL τ τ H' = H2) (hv : sm (nm τ) v = v2 := by rfl) (hu : uniqT τ = true := by rfl) (hn : ((List.range H.length).all fun p => (τ[p]?).map (·.1) == some p) = true := by rfl) : Good P k args H v2 H2 :=
  hg.ren τ hu (piT hn) hv hH
end Go.Abs

/- What functions of the program do, walked over the abstract machine. -/
namespace Go.Proofs.Ytlnepajgnckolaa
open Go Go.Abs Go.Proofs Go.Proofs.Ytlnepajgnckolaa.Ch Go.Proofs.Ytlnepajgnckolaa.Po Go.Proofs.Ytlnepajgnckolaa.Ae Go.Proofs.Ytlnepajgnckolaa.Bl

set_option maxRecDepth 20000
def cSl (has : Bool) (key : List UInt8) (n : UInt64) (ad l : List UInt8) : List UInt8 × UInt64 × Nat :=
  bif has then (if n = 18446744073709551615 then ([], n, 11) else (aseal key (anonce n) ad l, n + 1, 0)) else (l, n, 0)
def cOp (has : Bool) (key : List UInt8) (n : UInt64) (ad l : List UInt8) : List UInt8 × UInt64 × Nat :=
  bif has then (if n = 18446744073709551615 then ([], n, 11) else match aopen key (anonce n) ad l with | none => ([], n, 8) | some p => (p, n + 1, 0)) else (l, n, 0)
theorem cSl_len {has : Bool} {key ad l : List UInt8} {n : UInt64} : (cSl has key n ad l).1.length ≤ l.length + 16 := by
  cases has
  · exact Nat.le_add_right ..
  · simp only [cSl, cond_true]; split
    · exact Nat.zero_le _
    · exact Nat.le_of_eq (aseal_len ..)
/-- What was sealed is opened. -/
theorem cOp_cSl {has : Bool} {key ad l : List UInt8} {n : UInt64} (h : (cSl has key n ad l).2.2 = 0) : cOp has key n ad (cSl has key n ad l).1 = (l, (cSl has key n ad l).2.1, 0) := by
  cases has
  · rfl
  · by_cases hn : n = 18446744073709551615
    · exfalso; revert h; simp [cSl, hn]
    · simp [cSl, cOp, hn, aopen_aseal]
theorem sees_ku {H : Heap} {has : Bool} {key : List UInt8} {p q d : Nat} {n : UInt64} {π : List Nat} (hp : idx p π = none) (hq : idx q π = none) (hk : key.length = 32) (hC : H[q]? = some (some (cC (kp has p) n))) (hK : H[p]? = some (kb has key)) : cm (cin π true H) (d + 2) (.ptr q 0) = .rop [kr has key, c64 n, .bool true] := by
  cases has
  · exact sees_nk hq hC
  · exact sees_key hp hq hk hC hK
end Go.Proofs.Ytlnepajgnckolaa

/- What functions of the program do, walked over the abstract machine. -/
namespace Go.Proofs.Ytlnepajgnckolaa
open Go Go.Abs Go.Proofs Go.Proofs.Ytlnepajgnckolaa.Ch Go.Proofs.Ytlnepajgnckolaa.Po Go.Proofs.Ytlnepajgnckolaa.Ae Go.Proofs.Ytlnepajgnckolaa.Bl

set_option maxRecDepth 20000
end Go.Proofs.Ytlnepajgnckolaa

/- The abstract machine: elements of a slice of structs that may be looked at. -/
namespace Go.Abs
open Go

theorem flat_at {α β : Type} {g : α → List β} {sz : Nat} (hg : ∀ x, (g x).length = sz) : ∀ (l : List α) (j : Nat) (d : α), j < l.length → (l.flatMap g).drop (j * sz) = g (l.getD j d) ++ (l.drop (j + 1)).flatMap g
  | [], j, d, h => by simp at h
  | a :: r, 0, d, h => by simp
  | a :: r, j + 1, d, h => by
    have hj : (j + 1) * sz = sz + j * sz := by rw [Nat.succ_mul]; omega
    rw [List.flatMap_cons, hj, ← List.drop_drop, List.drop_append_of_le_length (by rw [hg]; exact Nat.le_refl _), List.drop_of_length_le (l := g a) (by rw [hg]; exact Nat.le_refl _), List.nil_append, flat_at hg r j d (by simpa using h)]
    simp
theorem flat_len {α β : Type} {g : α → List β} {sz : Nat} (hg : ∀ x, (g x).length = sz) : ∀ l : List α, (l.flatMap g).length = l.length * sz
  | [] => by simp
  | a :: r => by rw [List.flatMap_cons, List.length_append, hg, flat_len hg r, List.length_cons, Nat.succ_mul]; omega
theorem flat_cm {α : Type} {g : α → List Cell} {f : Cell → Cell} (hg : ∀ x, (g x).map f = g x) (l : List α) : (l.flatMap g).map f = l.flatMap g := by
  rw [List.map_flatMap]; exact congrArg (fun z => List.flatMap z l) (funext hg)
theorem rs_fl {α : Type} {g : α → List Cell} {l : List α} {n : Nat} {f : Nat → Option Nat} {x : Nat → Option (List Cell)} {b : Bool} (hg : ∀ y, (g y).map (cm ⟨f, x, true, b⟩ 7) = g y) : sm (cm ⟨f, x, true, b⟩ 8) (sc (.ro n (l.flatMap g))) = sc (.ro n (l.flatMap g)) := by
  show S.v (V.c (.ro n ((l.flatMap g).map (cm ⟨f, x, true, b⟩ 7)))) = _
  rw [flat_cm hg]
section
variable {P : Program} {fr : List S} {H : Heap} {K : S → Heap → Prop} {od : Option Nat} {oty : TypeId} {ops_ : String} {oaf : Array Edge} {ogu : Option (Nat × Bool)} {t u : TypeId} {a b i : Operand} {ti : TI}
/-- An element of a slice of structs, told by its parts. -/
theorem q_ixe {α : Type} {g : α → List Cell} {l : List α} {m e j : Nat} {ei : TI} {sz_ : Nat} {d x : α} (hx_ : l.getD j d = x) (hg : ∀ x, (g x).length = sz_) [it_ : SlT P t ti e ei sz_] (h : K (sc (.rop (g x ++ (l.drop (j + 1)).flatMap g))) H) (hz : Nat.blt 0 sz_ = true := by exact rfl)
    (hi : Ix (ev fr i) j := by first | exact ixn (et rfl) | exact ixn rfl | exact ix64 (et rfl) | exact ix8 (et rfl) | exact ix32 (et rfl)) (hx : ev fr a = sc (.ro m (l.flatMap g)) := by first | exact et rfl | exact rfl) (hm : l.length = m := by first | with_reducible assumption | exact rfl)
    (hlt : j < m := by first | omega | with_reducible assumption) : ostep P ⟨od, .indexAddr t a i, oty, ops_, oaf, ogu⟩ fr H K := by
  have hz' : 0 < sz_ := by simpa [Nat.blt_eq] using hz
  have hj : j < l.length := by omega
  refine q_ixo (cs := l.flatMap g) (j := j) ?_ hi hx hlt ?_
  · rw [flat_at hg l j d hj, hx_]; exact h
  · rw [flat_len hg]
    have : (j + 1) * sz_ ≤ l.length * sz_ := Nat.mul_le_mul_right _ hj
    rw [Nat.succ_mul] at this
    omega
end
end Go.Abs

/- What functions of the program do, walked over the abstract machine. -/
namespace Go.Proofs.Ytlnepajgnckolaa
open Go Go.Abs Go.Proofs Go.Proofs.Ytlnepajgnckolaa.Ch Go.Proofs.Ytlnepajgnckolaa.Po Go.Proofs.Ytlnepajgnckolaa.Ae Go.Proofs.Ytlnepajgnckolaa.Bl

set_option maxRecDepth 20000
/-- An act, as the statement's slice holds it. -/
structure A16 where
  kind : Int
  ad : List UInt8
  b : List UInt8
  n : UInt64
abbrev a16 : A16 := ⟨0, [], [], 0⟩
def aC (x : A16) : List Cell := [ci x.kind, .ro x.ad.length (u8s x.ad), .ro x.b.length (u8s x.b), c64 x.n]
def fewB (l : List A16) : Bool := (l.all fun x => decide (x.ad.length ≤ 200) && decide (x.b.length ≤ 200)) && decide (l.length ≤ 40)
structure FP (l : List A16) where
  i : Nat
  hi : i ≤ l.length
  ok : ∀ j, j < i → (l.getD j a16).ad.length ≤ 200 ∧ (l.getD j a16).b.length ≤ 200
end Go.Proofs.Ytlnepajgnckolaa

/- What functions of the program do, walked over the abstract machine. -/
namespace Go.Proofs.Ytlnepajgnckolaa
open Go Go.Abs Go.Proofs Go.Proofs.Ytlnepajgnckolaa.Ch Go.Proofs.Ytlnepajgnckolaa.Po Go.Proofs.Ytlnepajgnckolaa.Ae Go.Proofs.Ytlnepajgnckolaa.Bl

set_option maxRecDepth 20000
def kz (has : Bool) (key : List UInt8) : List UInt8 := bif has then key else List.replicate 32 0
theorem kC_map {has : Bool} {p q d : Nat} {n : UInt64} {m : CM} (h : m.fp p = some q) : (cC (kp has p) n).map (cm m (d + 1)) = cC (kp has q) n := by
  cases has
  · rfl
  · show [cm m (d + 1) (.ptr p 0), _, _] = _
    simp [kp, cm, h]
structure LP (n : Nat) where
  i : Nat
  key : List UInt8
  num : UInt64
  hi : i ≤ n
  hk : key.length = 32
end Go.Proofs.Ytlnepajgnckolaa

/- What functions of the program do, walked over the abstract machine. -/
namespace Go.Proofs.Ytlnepajgnckolaa
open Go Go.Abs Go.Proofs Go.Proofs.Ytlnepajgnckolaa.Ch Go.Proofs.Ytlnepajgnckolaa.Po Go.Proofs.Ytlnepajgnckolaa.Ae Go.Proofs.Ytlnepajgnckolaa.Bl

set_option maxRecDepth 20000
/-- What a state's hash is when it opened. -/
def sOh (has : Bool) (key : List UInt8) (n : UInt64) (h l : List UInt8) : List UInt8 := if (cOp has key n h l).2.2 = 0 then bsum (h ++ l) else h
theorem cSl_ok {has : Bool} {key ad l : List UInt8} {n : UInt64} (hn : n ≠ 18446744073709551615) : (cSl has key n ad l).2.2 = 0 := by
  cases has
  · rfl
  · simp [cSl, hn]
theorem kr_cm {has : Bool} {key : List UInt8} {n : UInt64} {π : List Nat} {H : Heap} : cm (cin π true H) 7 (.rop [kr has key, c64 n, .bool true]) = .rop [kr has key, c64 n, .bool true] := by
  cases has
  · rfl
  · show Cell.rop [Cell.rop ((u8s key).map _), _, _] = _
    rw [mapc_cm]; rfl
theorem smixhash_u (has : Bool) (h ck : List UInt8) (hh : h.length = 32) (hk : ck.length = 32) (key : List UInt8) (n : UInt64) (hkey : key.length = 32) (b : List UInt8) (a : Nat) (hb : b.length = a) (ha : a ≤ 10000) : Good Try.prog 22 [.c (.ptr 0 0), .c (.ro a (u8s b))] [some (sC (.ptr 1 0) h ck), some (cC (kp has 2) n), kb has key] (.t []) [some (sC (.ptr 1 0) (bsum (h ++ b)) ck), some (cC (kp has 2) n), kb has key] := by
  cases has with
  | false => exact Good.callv [0, 1] (L := [some (sC (.ptr 1 0) (bsum (h ++ b)) ck), some (cC .nilp n)]) (M := []) (mixhash_0 h ck hh hk n b a hb ha) (am2 rfl vs_ro) (pl1 rfl (sC_map.trans rfl) (pl1 rfl rfl pl0)) rfl (ml1 (sC_map.trans rfl) (ml1 rfl ml0)) ml0 rfl rfl
  | true => exact mixhash_k h ck hh hk key n hkey b a hb ha
theorem smixkey_u (has : Bool) (h ck : List UInt8) (hh : h.length = 32) (hk : ck.length = 32) (key : List UInt8) (n : UInt64) (hkey : key.length = 32) (b : List UInt8) (a : Nat) (hb : b.length = a) (ha : a ≤ 10000) : Good Try.prog 23 [.c (.ptr 0 0), .c (.ro a (u8s b))] [some (sC (.ptr 1 0) h ck), some (cC (kp has 2) n), kb has key] (.t []) [some (sC (.ptr 3 0) h (h3x ck b)), none, none, some (cC (kp true 4) 0), kb true (h3y ck b)] := by
  cases has with
  | false =>
    have g : Good Try.prog 23 [.c (.ptr 0 0), .c (.ro a (u8s b))] [some (sC (.ptr 1 0) h ck), some (cC .nilp n), none] (.t []) [some (sC (.ptr 4 0) h (h3x ck b)), some (cC .nilp n), none, some (u8s (h3y ck b)), some (cC (.ptr 3 0) 0)] :=
      Good.callv [0, 1] (L := [some (sC (.ptr 3 0) h (h3x ck b)), some (cC .nilp n)]) (M := [some (u8s (h3y ck b)), some (cC (.ptr 2 0) 0)]) (mixkey_0 h ck hh hk n b a hb ha) (am2 rfl vs_ro) (pl1 rfl (sC_map.trans rfl) (pl1 rfl rfl pl0)) rfl (ml1 (sC_map.trans rfl) (ml1 rfl ml0)) (ml1 sees_m (ml1 rfl ml0)) rfl rfl
    exact g.ren' [(0, true), (1, false), (2, false), (4, true), (3, true)] (rlT rfl (sC_map.trans rfl) (rlF (rlF (rlT rfl rfl (rlT rfl sees_m rl0)))))
  | true => exact (mixkey_k h ck hh hk key n hkey b a hb ha).ren' [(0, true), (1, false), (2, false), (4, true), (3, true)] (rlT rfl (sC_map.trans rfl) (rlF (rlF (rlT rfl rfl (rlT rfl sees_m rl0)))))
theorem sseal_u (has : Bool) (h ck : List UInt8) (hh : h.length = 32) (hk : ck.length = 32) (key : List UInt8) (n : UInt64) (hkey : key.length = 32) (l : List UInt8) (k : Nat) (hl : l.length = k) (hk9 : k ≤ 9000) (hn : n ≠ 18446744073709551615) : Good Try.prog 24 [.c (.ptr 0 0), .c (.ro k (u8s l))] [some (sC (.ptr 1 0) h ck), some (cC (kp has 2) n), kb has key] (.t [.c (.slc 3 0 (cSl has key n h l).1.length 1), .c (cn 0)]) [some (sC (.ptr 1 0) (bsum (h ++ (cSl has key n h l).1)) ck), some (cC (kp has 2) (cSl has key n h l).2.1), kb has key, some (u8s (cSl has key n h l).1)] := by
  cases has with
  | false =>
    subst hl
    exact Good.callv [0, 1] (L := [some (sC (.ptr 1 0) (bsum (h ++ l)) ck), some (cC .nilp n)]) (M := [some (u8s l)]) (sseal_0 h ck l n _ hh hk rfl hk9) (am2 rfl vs_ro) (pl1 rfl (sC_map.trans rfl) (pl1 rfl rfl pl0)) rfl (ml1 (sC_map.trans rfl) (ml1 rfl ml0)) (ml1 sees_m ml0) rfl rfl
  | true =>
    have e : cSl true key n h l = (aseal key (anonce n) h l, n + 1, 0) := by simp [cSl, hn]
    have g := sseal_k h ck key l n k hh hk hkey hl hk9 hn
    have hs := aseal_len key (anonce n) h l
    rw [hl] at hs
    rw [e]
    show Good _ _ _ _ (.t [.c (.slc 3 0 (aseal key (anonce n) h l).length 1), _]) _
    rw [hs]; exact g
theorem sopen_u (has : Bool) (h ck : List UInt8) (hh : h.length = 32) (hk : ck.length = 32) (key : List UInt8) (n : UInt64) (hkey : key.length = 32) (l : List UInt8) (k : Nat) (hl : l.length = k) (hk9 : k ≤ 9000) (hn : n ≠ 18446744073709551615) : Good Try.prog 25 [.c (.ptr 0 0), .c (.ro k (u8s l))] [some (sC (.ptr 1 0) h ck), some (cC (kp has 2) n), kb has key] (.t [.c (.slc 3 0 (cOp has key n h l).1.length 1), .c (cn (cOp has key n h l).2.2)]) [some (sC (.ptr 1 0) (sOh has key n h l) ck), some (cC (kp has 2) (cOp has key n h l).2.1), kb has key, some (u8s (cOp has key n h l).1)] := by
  cases has with
  | false =>
    subst hl
    exact Good.callv [0, 1] (L := [some (sC (.ptr 1 0) (bsum (h ++ l)) ck), some (cC .nilp n)]) (M := [some (u8s l)]) (sopen_0 h ck l n _ hh hk rfl hk9) (am2 rfl vs_ro) (pl1 rfl (sC_map.trans rfl) (pl1 rfl rfl pl0)) rfl (ml1 (sC_map.trans rfl) (ml1 rfl ml0)) (ml1 sees_m ml0) rfl rfl
  | true =>
    cases hp : aopen key (anonce n) h l with
    | none =>
      have e : cOp true key n h l = ([], n, 8) := by simp [cOp, hn, hp]
      have e2 : sOh true key n h l = h := by simp [sOh, e]
      rw [e2, e]
      exact (sopen_bad h ck key l n k hh hk hkey hl hk9 hn hp).emp 1
    | some p =>
      have e : cOp true key n h l = (p, n + 1, 0) := by simp [cOp, hn, hp]
      have e2 : sOh true key n h l = bsum (h ++ l) := by simp [sOh, e]
      have g := sopen_k h ck key l p n k hh hk hkey hl hk9 hn hp
      have hs := aopen_len hp
      rw [e2, e]
      show Good _ _ _ _ (.t [.c (.slc 3 0 p.length 1), _]) _
      rw [show p.length = k - 16 by omega]; exact g
theorem split_u (has : Bool) (h ck : List UInt8) (hh : h.length = 32) (hk : ck.length = 32) (key : List UInt8) (n : UInt64) (hkey : key.length = 32) : Good Try.prog 28 [.c (.ptr 0 0)] [some (sC (.ptr 1 0) h ck), some (cC (kp has 2) n), kb has key] (.t [.c (.ptr 4 0), .c (.ptr 6 0)]) [some (sC (.ptr 1 0) h ck), some (cC (kp has 2) n), kb has key, some (u8s (h3x ck [])), some (cC (.ptr 3 0) 0), some (u8s (h3y ck [])), some (cC (.ptr 5 0) 0)] := by
  cases has with
  | false => exact Good.callv [0, 1] (L := [some (sC (.ptr 1 0) h ck), some (cC .nilp n)]) (M := [some (u8s (h3x ck [])), some (cC (.ptr 2 0) 0), some (u8s (h3y ck [])), some (cC (.ptr 4 0) 0)]) (split_0 h ck hh hk n) (am1 rfl) (pl1 rfl (sC_map.trans rfl) (pl1 rfl rfl pl0)) rfl (ml1 (sC_map.trans rfl) (ml1 rfl ml0)) (ml1 sees_m (ml1 rfl (ml1 sees_m (ml1 rfl ml0)))) rfl rfl
  | true => exact split_k h ck hh hk key n hkey
theorem hash_u (has : Bool) (h ck : List UInt8) (hh : h.length = 32) (hk : ck.length = 32) (key : List UInt8) (n : UInt64) (hkey : key.length = 32) : Good Try.prog 26 [.c (.rop (.rop [kr has key, c64 n, .bool true] :: (u8s h ++ u8s ck)))] [] (sa (u8s h)) [] := hash_ _ h ck hh hk (fun _ _ => kr_cm)
theorem chain_u (has : Bool) (h ck : List UInt8) (hh : h.length = 32) (hk : ck.length = 32) (key : List UInt8) (n : UInt64) (hkey : key.length = 32) : Good Try.prog 27 [.c (.rop (.rop [kr has key, c64 n, .bool true] :: (u8s h ++ u8s ck)))] [] (sa (u8s ck)) [] := chain_ _ h ck hh hk (fun _ _ => kr_cm)
theorem sees_su {H : Heap} {has : Bool} {key h ck : List UInt8} {s p q : Nat} {n : UInt64} {π : List Nat} (hs : idx s π = none) (hp : idx p π = none) (hq : idx q π = none) (hk : key.length = 32) (hS : H[s]? = some (some (sC (.ptr q 0) h ck))) (hC : H[q]? = some (some (cC (kp has p) n))) (hK : H[p]? = some (kb has key)) : cm (cin π true H) 8 (.ptr s 0) = .rop (.rop [kr has key, c64 n, .bool true] :: (u8s h ++ u8s ck)) :=
  sees_st hs hS (sees_ku hp hq hk hC hK)
end Go.Proofs.Ytlnepajgnckolaa

/- What functions of the program do, walked over the abstract machine. -/
namespace Go.Proofs.Ytlnepajgnckolaa
open Go Go.Abs Go.Proofs Go.Proofs.Ytlnepajgnckolaa.Ch Go.Proofs.Ytlnepajgnckolaa.Po Go.Proofs.Ytlnepajgnckolaa.Ae Go.Proofs.Ytlnepajgnckolaa.Bl

set_option maxRecDepth 20000
/-- The reference state's cells. -/
abbrev rS (h ck : List UInt8) (b : Bool) (key : List UInt8) (n : UInt64) : List Cell := (u8s h ++ u8s ck) ++ rC b key n
theorem app_cut {l m : List UInt8} {n : Nat} (h : l.length + m.length = n) : ((u8s l ++ u8s m).drop 0).take (n * 1) = u8s (l ++ m) := by
  rw [mapc_append]; exact cut_h (by rw [List.length_append]; exact h)
end Go.Proofs.Ytlnepajgnckolaa

/- What functions of the program do, walked over the abstract machine. -/
namespace Go.Proofs.Ytlnepajgnckolaa
open Go Go.Abs Go.Proofs Go.Proofs.Ytlnepajgnckolaa.Ch Go.Proofs.Ytlnepajgnckolaa.Po Go.Proofs.Ytlnepajgnckolaa.Ae Go.Proofs.Ytlnepajgnckolaa.Bl

set_option maxRecDepth 20000
end Go.Proofs.Ytlnepajgnckolaa

/- What functions of the program do, walked over the abstract machine. -/
namespace Go.Proofs.Ytlnepajgnckolaa
open Go Go.Abs Go.Proofs Go.Proofs.Ytlnepajgnckolaa.Ch Go.Proofs.Ytlnepajgnckolaa.Po Go.Proofs.Ytlnepajgnckolaa.Ae Go.Proofs.Ytlnepajgnckolaa.Bl

set_option maxRecDepth 20000
/-- A step, as the statement's slice holds it. -/
structure B16 where
  kind : Int
  b : List UInt8
abbrev b16 : B16 := ⟨0, []⟩
def bC (x : B16) : List Cell := [ci x.kind, .ro x.b.length (u8s x.b)]
theorem bC_len (x : B16) : (bC x).length = 2 := rfl
theorem bC_cm {f : Nat → Option Nat} {m : Nat → Option (List Cell)} {b : Bool} (x : B16) : (bC x).map (cm ⟨f, m, true, b⟩ 7) = bC x := by
  show [_, Cell.ro _ ((u8s x.b).map _)] = _
  rw [mapc_cm]; rfl
theorem add1_le (n : UInt64) : (n + 1).toNat ≤ n.toNat + 1 := by
  rw [UInt64.toNat_add]; exact Nat.mod_le _ _
theorem cSl_num {has : Bool} {key ad l : List UInt8} {n : UInt64} : (cSl has key n ad l).2.1.toNat ≤ n.toNat + 1 := by
  cases has
  · exact Nat.le_succ _
  · simp only [cSl, cond_true]; split
    · exact Nat.le_succ _
    · exact add1_le n
/-- A state's hash at its begin. -/
def bH (s : ByteArray) : List UInt8 := if s.size ≤ 32 then pad32 s else bsum s.data.toList
theorem bH_len (s : ByteArray) : (bH s).length = 32 := by
  unfold bH; split
  · rename_i h; exact pad32_len h
  · exact bsum_len _
theorem begin_u (s : ByteArray) (h9 : s.size ≤ 10000) : Good Try.prog 21 [.c (.str s)] [] (sc (.ptr 1 0)) [some (cC .nilp 0), some (sC (.ptr 0 0) (bH s) (bH s))] := by
  by_cases h : s.size ≤ 32
  · rw [show bH s = pad32 s from if_pos h]; exact begin_s s h
  · rw [show bH s = bsum s.data.toList from if_neg h]; exact begin_l s h h9
structure SP (n : Nat) where
  i : Nat
  has : Bool
  h : List UInt8
  ck : List UInt8
  key : List UInt8
  num : UInt64
  hi : i ≤ n
  hh : h.length = 32
  hk : ck.length = 32
  hkey : key.length = 32
  hn : num.toNat ≤ i
theorem not_max {n : UInt64} {i : Nat} (h : n.toNat ≤ i) (hi : i ≤ 1000) : n ≠ 18446744073709551615 := fun e => by
  rw [e] at h
  have : (18446744073709551615 : UInt64).toNat = 18446744073709551615 := rfl
  omega
end Go.Proofs.Ytlnepajgnckolaa

/- What functions of the program do, walked over the abstract machine. -/
namespace Go.Proofs.Ytlnepajgnckolaa
open Go Go.Abs Go.Proofs Go.Proofs.Ytlnepajgnckolaa.Ch Go.Proofs.Ytlnepajgnckolaa.Po Go.Proofs.Ytlnepajgnckolaa.Ae Go.Proofs.Ytlnepajgnckolaa.Bl

set_option maxRecDepth 20000
set_option maxHeartbeats 1600000 in
/-- escutcheonlaw16.StateTwins -/
theorem twins_ (s : ByteArray) (l : List B16) (n : Nat) (hl : l.length = n) (hl9 : n ≤ 140737488351232) (m : List UInt8) (mm : Nat) (hm : m.length = mm) : Good Try.prog 4 [.c (.str s), .c (.ro n (l.flatMap bC)), .c (.ro mm (u8s m))] [] (sc (.bool true)) [] := by
  refine good_frm 218 Try.func4 rfl rfl rfl rfl rfl rfl ?_
  refine awp_seq ?_
  refine rln ?_
  refine As ?_
  refine gend ?_
  refine awp_seq ?_
  refine awp_seq ?_
  refine rln ?_
  refine Mv ?_
  refine G (q_lens ?_)
  refine G (q_gtrn (y := 100) ?_)
  refine Mv ?_
  refine Aspd 34 (fun hb4 => ?_) (fun hb4 => ?_)
  · refine Gn ?_
    refine Gn ?_
    refine Gn ?_
    refine G (q_pkt ?_)
    refine Mv ?_
    refine Gn ?_
    refine Gn ?_
    refine Gn ?_
    refine G (q_pkt ?_)
    refine gend ?_
    refine cndT ?_
    refine awp_seq ?_
    refine rln ?_
    refine G2 (fun _ k_ => q_callp known_ k_) ?_
    refine As ?_
    refine gend ?_
    refine awp_ret ?_
    exact fp1
  refine Gg (q_mv (s := .v (.c _)) ?_)
  refine Gg (q_leno ?_)
  refine Gg (q_gtrn (y := 20) ?_)
  refine G (q_pkf ?_)
  refine Mv ?_
  refine Aspd 39 (fun hb9 => ?_) (fun hb9 => ?_)
  · refine Gn ?_
    refine Gn ?_
    refine Gn ?_
    refine G (q_pkt ?_)
    refine gend ?_
    refine cndT ?_
    refine awp_seq ?_
    refine rln ?_
    refine G2 (fun _ k_ => q_callp known_ k_) ?_
    refine As ?_
    refine gend ?_
    refine awp_ret ?_
    exact fp1
  refine Gg (q_mv (s := .v (.c _)) ?_)
  refine Gg (q_leno ?_)
  refine Gg (q_gtrn (y := 100) ?_)
  refine G (q_pkf ?_)
  refine gend ?_
  refine cnd (fun hc1 => ?_) (fun hc1 => ?_)
  · refine awp_seq ?_
    refine rln ?_
    refine G2 (fun _ k_ => q_callp known_ k_) ?_
    refine As ?_
    refine gend ?_
    refine awp_ret ?_
    exact fp1
  refine awp_skip ?_
  refine awp_seq ?_
  refine rln ?_
  refine Mv ?_
  refine G2 (fun _ k_ => q_callv [] [] [some (cC .nilp 0), some (sC (.ptr 0 0) (bH s) (bH s))] (begin_u s (by omega)) k_ (ha := (cac (et rfl) cm_str ca0)) (e2 := pl0) (eL := ml0) (eM := ml1 rfl (ml1 (sC_map.trans rfl) ml0))) ?_
  refine Mv ?_
  refine G2 (fun _ k_ => q_callv [] [] [some (cC .nilp 0), some (sC (.ptr 0 0) (bH s) (bH s))] (begin_u s (by omega)) k_ (ha := (cac (et rfl) cm_str ca0)) (e2 := pl0) (eL := ml0) (eM := ml1 rfl (ml1 (sC_map.trans rfl) ml0))) ?_
  refine As ?_
  refine As ?_
  refine gend ?_
  refine awp_seq ?_
  refine awp_seq ?_
  refine rln ?_
  refine G (q_as (s := sc (cn 0)) ?_)
  refine gend ?_
  refine awp_block ?_
  refine awp_loop (fun x : SP n => ⟨frm 218 [(1, sc (.ro n (l.flatMap bC))), (2, sc (.ro mm (u8s m))), (7, sc (.ptr 0 0)), (8, sc (.ptr 3 0)), (9, sc (cn x.i))], [some (sC (.ptr 1 0) x.h x.ck), some (cC (kp x.has 2) x.num), kb x.has x.key, some (sC (.ptr 4 0) x.h x.ck), some (cC (kp x.has 5) x.num), kb x.has x.key]⟩) (fun x => n - x.i) ⟨0, false, bH s, bH s, List.replicate 32 0, 0, Nat.zero_le _, bH_len s, bH_len s, rfl, Nat.le_refl _⟩ (sle_ren [(1, true), (0, true), (0, false), (3, true), (2, true), (2, false)] rfl (fun p h => absurd h (Nat.not_lt_zero _)) ⟨rs_fl (fun y => bC_cm y), rs_ro, rfl, rfl, rfl, trivial⟩ (Eq.symm (a := renL _ _ _) (rlT rfl (sC_map.trans rfl) (rlT rfl rfl (rlF (rlT rfl (sC_map.trans rfl) (rlT rfl rfl (rlF rl0)))))))) fun x => ?_   -- live: [1, 7, 8, 9]
  obtain ⟨a, ha⟩ : ∃ a, l.getD x.i b16 = a := ⟨_, rfl⟩
  have hxi := x.hi
  have hxh := x.hh
  have hxk := x.hk
  have hnM := not_max x.hn (by omega)
  refine awp_seq ?_
  refine awp_seq ?_
  refine rln ?_
  refine Mv ?_
  refine Mv ?_
  refine G (q_leno ?_)
  refine G (q_lssn ?_)
  refine gend ?_
  refine cnd (fun hc2 => ?_) (fun hc2 => ?_); rotate_left
  · refine awp_exit ?_
    have gsp := split_u x.has x.h x.ck x.hh x.hk x.key x.num x.hkey
    obtain ⟨X, hX⟩ : ∃ z, h3x x.ck [] = z := ⟨_, rfl⟩
    have hXl : X.length = 32 := by rw [← hX]; exact h3x_len _ _
    obtain ⟨Y, hY⟩ : ∃ z, h3y x.ck [] = z := ⟨_, rfl⟩
    have hYl : Y.length = 32 := by rw [← hY]; exact h3y_len _ _
    rw [hX, hY] at gsp
    have hm2 : m.length = mm + 16 - 16 := by omega
    have gx := cseal_ok X [] m 0 0 mm hXl rfl (by decide) hm (by omega) (by decide)
    have hSx : (aseal X (anonce 0) [] m).length = mm + 16 := by rw [aseal_len, hm]
    have ox := copen_ok X [] (aseal X (anonce 0) [] m) 0 0 (mm + 16) hXl rfl (by decide) hSx (by omega) (by decide) m (aopen_aseal ..)
    obtain ⟨SX, hSX⟩ : ∃ z, aseal X (anonce 0) [] m = z := ⟨_, rfl⟩
    rw [hSX] at gx ox hSx
    have gy := cseal_ok Y m m 0 mm mm hYl hm (by omega) hm (by omega) (by decide)
    have hSy : (aseal Y (anonce 0) m m).length = mm + 16 := by rw [aseal_len, hm]
    have oy := copen_ok Y m (aseal Y (anonce 0) m m) 0 mm (mm + 16) hYl hm (by omega) hSy (by omega) (by decide) m (aopen_aseal ..)
    obtain ⟨SY, hSY⟩ : ∃ z, aseal Y (anonce 0) m m = z := ⟨_, rfl⟩
    rw [hSY] at gy oy hSy
    refine awp_seq ?_
    refine rln ?_
    refine Mv ?_
    refine G2 (fun _ k_ => q_callv [0, 1, 2] [some (sC (.ptr 1 0) x.h x.ck), some (cC (kp x.has 2) x.num), kb x.has x.key] [some (u8s X), some (cC (.ptr 3 0) 0), some (u8s Y), some (cC (.ptr 5 0) 0)] gsp k_ (ha := (cac (et rfl) rfl ca0)) (e2 := pl1 rfl (sC_map.trans rfl) (pl1 rfl (kC_map rfl) (plb rfl kb_map pl0))) (eL := ml1 (sC_map.trans rfl) (ml1 (kC_map rfl) (mlb kb_map ml0))) (eM := ml1 sees_m (ml1 rfl (ml1 sees_m (ml1 rfl ml0))))) ?_
    refine G (q_mv (s := .t _) ?_)
    refine G (q_ext (y := .c _) ?_)
    refine G (q_ext (y := .c _) ?_)
    refine As ?_
    refine As ?_
    refine gend ?_
    refine awp_seq ?_
    refine rln ?_
    refine Mv ?_
    refine G2 (fun _ k_ => q_callv [3, 4, 5] [some (sC (.ptr 1 0) x.h x.ck), some (cC (kp x.has 2) x.num), kb x.has x.key] [some (u8s X), some (cC (.ptr 3 0) 0), some (u8s Y), some (cC (.ptr 5 0) 0)] gsp k_ (ha := (cac (et rfl) rfl ca0)) (e2 := pl1 rfl (sC_map.trans rfl) (pl1 rfl (kC_map rfl) (plb rfl kb_map pl0))) (eL := ml1 (sC_map.trans rfl) (ml1 (kC_map rfl) (mlb kb_map ml0))) (eM := ml1 sees_m (ml1 rfl (ml1 sees_m (ml1 rfl ml0))))) ?_
    refine G (q_mv (s := .t _) ?_)
    refine G (q_ext (y := .c _) ?_)
    refine G (q_ext (y := .c _) ?_)
    refine As ?_
    refine As ?_
    refine gend ?_
    refine awp_seq ?_
    refine rln ?_
    refine Mv ?_
    refine Mv ?_
    refine G2 (fun _ k_ => q_callv [7, 6] [some (cC (.ptr 1 0) (0 + 1)), some (u8s X)] [some (u8s SX)] gx k_ (ha := (cac (et rfl) rfl (cac rfl sees_nil8 (cac (et rfl) sees_ro ca0)))) (e2 := pl1 rfl rfl (pl1 rfl sees_m pl0)) (eL := ml1 rfl (ml1 sees_m ml0)) (eM := ml1 sees_m ml0)) ?_
    refine G (q_mv (s := .t _) ?_)
    refine G (q_ext (y := .c _) ?_)
    refine G (q_ext (y := .c _) ?_)
    refine As ?_
    refine As ?_
    refine gend ?_
    refine awp_seq ?_
    refine rln ?_
    refine Mv ?_
    refine Mv ?_
    refine G2 (fun _ k_ => q_callv [11, 10] [some (cC (.ptr 1 0) (0 + 1)), some (u8s X)] [some (u8s m)] ox k_ (ha := (cac (et rfl) rfl (cac rfl sees_nil8 (cac (et rfl) (sees_slc rfl rfl (cut_h hSx)) ca0)))) (e2 := pl1 rfl rfl (pl1 rfl sees_m pl0)) (eL := ml1 rfl (ml1 sees_m ml0)) (eM := ml1 sees_m ml0)) ?_
    refine G (q_mv (s := .t _) ?_)
    refine G (q_ext (y := .c _) ?_)
    refine G (q_ext (y := .c _) ?_)
    refine As ?_
    refine As ?_
    refine gend ?_
    refine awp_seq ?_
    refine rln ?_
    refine Mv ?_
    refine Mv ?_
    refine Mv ?_
    refine G2 (fun _ k_ => q_callv [13, 12] [some (cC (.ptr 1 0) (0 + 1)), some (u8s Y)] [some (u8s SY)] gy k_ (ha := (cac (et rfl) rfl (cac (et rfl) sees_ro (cac (et rfl) sees_ro ca0)))) (e2 := pl1 rfl rfl (pl1 rfl sees_m pl0)) (eL := ml1 rfl (ml1 sees_m ml0)) (eM := ml1 sees_m ml0)) ?_
    refine G (q_mv (s := .t _) ?_)
    refine G (q_ext (y := .c _) ?_)
    refine G (q_ext (y := .c _) ?_)
    refine As ?_
    refine As ?_
    refine gend ?_
    refine awp_seq ?_
    refine rln ?_
    refine Mv ?_
    refine Mv ?_
    refine Mv ?_
    refine G2 (fun _ k_ => q_callv [9, 8] [some (cC (.ptr 1 0) (0 + 1)), some (u8s Y)] [some (u8s m)] oy k_ (ha := (cac (et rfl) rfl (cac (et rfl) sees_ro (cac (et rfl) (sees_slc rfl rfl (cut_h hSy)) ca0)))) (e2 := pl1 rfl rfl (pl1 rfl sees_m pl0)) (eL := ml1 rfl (ml1 sees_m ml0)) (eM := ml1 sees_m ml0)) ?_
    refine G (q_mv (s := .t _) ?_)
    refine G (q_ext (y := .c _) ?_)
    refine G (q_ext (y := .c _) ?_)
    refine As ?_
    refine As ?_
    refine gend ?_
    refine awp_seq ?_
    refine rln ?_
    refine Mv ?_
    refine G (q_eqln (y := 0) ?_)
    refine Mv ?_
    refine Aknd 189 (fun hb3 => ?_) ?_; rotate_left
    · exact rfl
    refine Gg (q_mv (s := .v (.c _)) ?_)
    refine Gg (q_eqln (y := 0) ?_)
    refine G (q_pkt ?_)
    refine Mv ?_
    refine Aknd 193 (fun hb7 => ?_) ?_; rotate_left
    · exact rfl
    refine Gg (q_mv (s := .v (.c _)) ?_)
    refine Gg (q_eqln (y := 0) ?_)
    refine G (q_pkt ?_)
    refine Mv ?_
    refine Aknd 197 (fun hb11 => ?_) ?_; rotate_left
    · exact rfl
    refine Gg (q_mv (s := .v (.c _)) ?_)
    refine Gg (q_eqln (y := 0) ?_)
    refine G (q_pkt ?_)
    refine Mv ?_
    refine Aknd 201 (fun hb15 => ?_) ?_; rotate_left
    · exact rfl
    refine Gg (q_mv (s := .v (.c _)) ?_)
    refine Gg (q_csl ?_)
    refine Gg (q_mv (s := .v (.c _)) ?_)
    refine Gg (q_cso ?_)
    refine Gg (q_eqls ?_)
    refine G (q_pkt ?_)
    refine Mv ?_
    refine Aknd 208 (fun hb22 => ?_) ?_; rotate_left
    · rw [List.drop_zero, List.take_of_length_le (by omega)]
    refine Gg (q_mv (s := .v (.c _)) ?_)
    refine Gg (q_csl ?_)
    refine Gg (q_mv (s := .v (.c _)) ?_)
    refine Gg (q_cso ?_)
    refine Gg (q_eqls ?_)
    refine G (q_pkt ?_)
    refine Mv ?_
    refine Aknd 215 (fun hb29 => ?_) ?_; rotate_left
    · rw [List.drop_zero, List.take_of_length_le (by omega)]
    refine G2g (fun _ k_ => q_callp known_ k_) ?_
    refine G (q_pkt ?_)
    refine As ?_
    refine gend ?_
    refine awp_ret ?_
    exact fp1
  refine awp_skip ?_
  refine awp_seq ?_
  refine awp_block ?_
  refine awp_seq ?_
  refine rln ?_
  refine Mv ?_
  refine Mv ?_
  refine G (q_ixe (l := l) ha bC_len ?_)
  refine G (q_far ?_)
  refine G (q_ldr ?_)
  refine As ?_
  refine gend ?_
  refine awp_seq ?_
  refine awp_seq ?_
  refine rln ?_
  refine Mv ?_
  refine G (q_leno ?_)
  refine G (q_gtrn (y := 100) ?_)
  refine gend ?_
  refine cnd (fun hc3 => ?_) (fun hc3 => ?_)
  · refine awp_seq ?_
    refine rln ?_
    refine G2 (fun _ k_ => q_callp known_ k_) ?_
    refine As ?_
    refine gend ?_
    refine awp_ret ?_
    exact fp1
  refine awp_skip ?_
  refine awp_seq ?_
  refine awp_seq ?_
  refine rln ?_
  refine Mv ?_
  refine Mv ?_
  refine G (q_ixe (l := l) ha bC_len ?_)
  refine G (q_far ?_)
  refine G (q_ldr ?_)
  refine gend ?_
  refine awp_block ?_
  refine awp_seq ?_
  refine rln ?_
  refine G (q_eqli (y := 1) ?_)
  refine As ?_
  refine gend ?_
  refine cnd (fun hc4 => ?_) (fun hc4 => ?_)
  · have gm := smixhash_u x.has x.h x.ck x.hh x.hk x.key x.num x.hkey a.b _ rfl (by omega)
    obtain ⟨B, hB⟩ : ∃ z, bsum (x.h ++ a.b) = z := ⟨_, rfl⟩
    have hBl : B.length = 32 := by rw [← hB]; exact bsum_len _
    rw [hB] at gm
    refine awp_seq ?_
    refine rln ?_
    refine Mv ?_
    refine Mv ?_
    refine G2 (fun _ k_ => q_callv [0, 1, 2] [some (sC (.ptr 1 0) B x.ck), some (cC (kp x.has 2) x.num), kb x.has x.key] [] gm k_ (ha := (cac (et rfl) rfl (cac (et rfl) sees_ro ca0))) (e2 := pl1 rfl (sC_map.trans rfl) (pl1 rfl (kC_map rfl) (plb rfl kb_map pl0))) (eL := ml1 (sC_map.trans rfl) (ml1 (kC_map rfl) (mlb kb_map ml0))) (eM := ml0)) ?_
    refine gend ?_
    refine rln ?_
    refine Mv ?_
    refine Mv ?_
    refine G2 (fun _ k_ => q_callv [3, 4, 5] [some (sC (.ptr 1 0) B x.ck), some (cC (kp x.has 2) x.num), kb x.has x.key] [] gm k_ (ha := (cac (et rfl) rfl (cac (et rfl) sees_ro ca0))) (e2 := pl1 rfl (sC_map.trans rfl) (pl1 rfl (kC_map rfl) (plb rfl kb_map pl0))) (eL := ml1 (sC_map.trans rfl) (ml1 (kC_map rfl) (mlb kb_map ml0))) (eM := ml0)) ?_
    refine gend ?_
    refine awp_seq ?_
    refine rln ?_
    refine Mv ?_
    refine G2 (fun _ k_ => q_callp (hash_u x.has B x.ck hBl x.hk x.key x.num x.hkey) k_ (ha := (cac (et rfl) (sees_su rfl rfl rfl x.hkey rfl rfl rfl) ca0))) ?_
    refine Mv ?_
    refine G2 (fun _ k_ => q_callp (hash_u x.has B x.ck hBl x.hk x.key x.num x.hkey) k_ (ha := (cac (et rfl) (sees_su rfl rfl rfl x.hkey rfl rfl rfl) ca0))) ?_
    refine G (q_nea8 ?_)
    refine Mv ?_
    refine Akf 144 (fun hb6 => ?_) ?_; rotate_left
    · simp
    refine Gg (q_mv (s := .v (.c _)) ?_)
    refine G2g (fun _ k_ => q_callp (chain_u x.has B x.ck hBl x.hk x.key x.num x.hkey) k_ (ha := (cac (et rfl) (sees_su rfl rfl rfl x.hkey rfl rfl rfl) ca0))) ?_
    refine Gg (q_mv (s := .v (.c _)) ?_)
    refine G2g (fun _ k_ => q_callp (chain_u x.has B x.ck hBl x.hk x.key x.num x.hkey) k_ (ha := (cac (et rfl) (sees_su rfl rfl rfl x.hkey rfl rfl rfl) ca0))) ?_
    refine Gg (q_nea8 ?_)
    refine G (q_pkf ?_)
    refine gend ?_
    refine cndnN (fun hc5 => ?_) ?_; rotate_left
    · simp
    refine awp_skip ?_
    refine rln ?_
    refine Mv ?_
    refine G (q_addn (y := 1) ?_)
    refine As ?_
    refine gend ?_
    exact ⟨⟨x.i + 1, x.has, B, x.ck, x.key, x.num, by omega, hBl, x.hk, x.hkey, Nat.le_trans x.hn (Nat.le_succ _)⟩, by show n - (x.i + 1) < n - x.i; omega, sle_sub ⟨rfl, rfl, rfl, rfl, rfl, trivial⟩ rfl⟩   -- endloop 1
  refine awp_seq ?_
  refine rln ?_
  refine G (q_eqli (y := 2) ?_)
  refine As ?_
  refine gend ?_
  refine cnd (fun hc6 => ?_) (fun hc6 => ?_)
  · have gm := smixkey_u x.has x.h x.ck x.hh x.hk x.key x.num x.hkey a.b _ rfl (by omega)
    obtain ⟨X, hX⟩ : ∃ z, h3x x.ck a.b = z := ⟨_, rfl⟩
    have hXl : X.length = 32 := by rw [← hX]; exact h3x_len _ _
    obtain ⟨Y, hY⟩ : ∃ z, h3y x.ck a.b = z := ⟨_, rfl⟩
    have hYl : Y.length = 32 := by rw [← hY]; exact h3y_len _ _
    rw [hX, hY] at gm
    refine awp_seq ?_
    refine rln ?_
    refine Mv ?_
    refine Mv ?_
    refine G2 (fun _ k_ => q_callv [0, 1, 2] [some (sC (.ptr 3 0) x.h X), none, none] [some (cC (kp true 4) 0), kb true Y] gm k_ (ha := (cac (et rfl) rfl (cac (et rfl) sees_ro ca0))) (e2 := pl1 rfl (sC_map.trans rfl) (pl1 rfl (kC_map rfl) (plb rfl kb_map pl0))) (eL := ml1 (sC_map.trans rfl) (mln (mln ml0))) (eM := ml1 (kC_map (q := 7) rfl) (mlb kb_map ml0))) ?_
    refine gend ?_
    refine rln ?_
    refine Mv ?_
    refine Mv ?_
    refine G2 (fun _ k_ => q_callv [3, 4, 5] [some (sC (.ptr 3 0) x.h X), none, none] [some (cC (kp true 4) 0), kb true Y] gm k_ (ha := (cac (et rfl) rfl (cac (et rfl) sees_ro ca0))) (e2 := pl1 rfl (sC_map.trans rfl) (pl1 rfl (kC_map rfl) (plb rfl kb_map pl0))) (eL := ml1 (sC_map.trans rfl) (mln (mln ml0))) (eM := ml1 (kC_map (q := 9) rfl) (mlb kb_map ml0))) ?_
    refine gend ?_
    refine awp_seq ?_
    refine rln ?_
    refine Mv ?_
    refine G2 (fun _ k_ => q_callp (hash_u true x.h X x.hh hXl Y 0 hYl) k_ (ha := (cac (et rfl) (sees_su rfl rfl rfl hYl rfl rfl rfl) ca0))) ?_
    refine Mv ?_
    refine G2 (fun _ k_ => q_callp (hash_u true x.h X x.hh hXl Y 0 hYl) k_ (ha := (cac (et rfl) (sees_su rfl rfl rfl hYl rfl rfl rfl) ca0))) ?_
    refine G (q_nea8 ?_)
    refine Mv ?_
    refine Akf 144 (fun hb6 => ?_) ?_; rotate_left
    · simp
    refine Gg (q_mv (s := .v (.c _)) ?_)
    refine G2g (fun _ k_ => q_callp (chain_u true x.h X x.hh hXl Y 0 hYl) k_ (ha := (cac (et rfl) (sees_su rfl rfl rfl hYl rfl rfl rfl) ca0))) ?_
    refine Gg (q_mv (s := .v (.c _)) ?_)
    refine G2g (fun _ k_ => q_callp (chain_u true x.h X x.hh hXl Y 0 hYl) k_ (ha := (cac (et rfl) (sees_su rfl rfl rfl hYl rfl rfl rfl) ca0))) ?_
    refine Gg (q_nea8 ?_)
    refine G (q_pkf ?_)
    refine gend ?_
    refine cndnN (fun hc7 => ?_) ?_; rotate_left
    · simp
    refine awp_skip ?_
    refine rln ?_
    refine Mv ?_
    refine G (q_addn (y := 1) ?_)
    refine As ?_
    refine gend ?_
    exact ⟨⟨x.i + 1, true, x.h, X, Y, 0, by omega, x.hh, hXl, hYl, Nat.zero_le _⟩, by show n - (x.i + 1) < n - x.i; omega, sle_ren [(0, true), (6, true), (7, true), (3, true), (8, true), (9, true)] rfl (fun p h => absurd h (Nat.not_lt_zero _)) ⟨rs_fl (fun y => bC_cm y), rs_ro, rfl, rfl, rfl, trivial⟩ (Eq.symm (a := renL _ _ _) (rlT rfl (sC_map.trans rfl) (rlT rfl (kC_map rfl) (rlB rfl kb_map (rlT rfl (sC_map.trans rfl) (rlT rfl (kC_map rfl) (rlB rfl kb_map rl0)))))))⟩   -- endloop 1
  refine awp_seq ?_
  refine rln ?_
  refine G (q_eqli (y := 3) ?_)
  refine As ?_
  refine gend ?_
  refine cnd (fun hc8 => ?_) (fun hc8 => ?_)
  · have gm := sseal_u x.has x.h x.ck x.hh x.hk x.key x.num x.hkey a.b _ rfl (by omega) hnM
    have hSn := cSl_num (has := x.has) (key := x.key) (ad := x.h) (l := a.b) (n := x.num)
    have hSl := cSl_len (has := x.has) (key := x.key) (ad := x.h) (l := a.b) (n := x.num)
    have h0 : (cSl x.has x.key x.num x.h a.b).2.2 = 0 := cSl_ok hnM
    have g1 := sopen_u x.has x.h x.ck x.hh x.hk x.key x.num x.hkey (cSl x.has x.key x.num x.h a.b).1 _ rfl (by omega) hnM
    have hso : sOh x.has x.key x.num x.h (cSl x.has x.key x.num x.h a.b).1 = bsum (x.h ++ (cSl x.has x.key x.num x.h a.b).1) := by unfold sOh; rw [if_pos (by rw [cOp_cSl h0])]
    rw [hso, cOp_cSl h0] at g1
    obtain ⟨S, hS⟩ : ∃ z, cSl x.has x.key x.num x.h a.b = z := ⟨_, rfl⟩
    rw [hS] at gm hSn g1
    obtain ⟨B, hB⟩ : ∃ z, bsum (x.h ++ S.1) = z := ⟨_, rfl⟩
    have hBl : B.length = 32 := by rw [← hB]; exact bsum_len _
    rw [hB] at gm g1
    refine awp_seq ?_
    refine rln ?_
    refine Mv ?_
    refine Mv ?_
    refine G2 (fun _ k_ => q_callv [0, 1, 2] [some (sC (.ptr 1 0) B x.ck), some (cC (kp x.has 2) S.2.1), kb x.has x.key] [some (u8s S.1)] gm k_ (ha := (cac (et rfl) rfl (cac (et rfl) sees_ro ca0))) (e2 := pl1 rfl (sC_map.trans rfl) (pl1 rfl (kC_map rfl) (plb rfl kb_map pl0))) (eL := ml1 (sC_map.trans rfl) (ml1 (kC_map rfl) (mlb kb_map ml0))) (eM := ml1 sees_m ml0)) ?_
    refine G (q_mv (s := .t _) ?_)
    refine G (q_ext (y := .c _) ?_)
    refine G (q_ext (y := .c _) ?_)
    refine As ?_
    refine As ?_
    refine gend ?_
    refine awp_seq ?_
    refine rln ?_
    refine Mv ?_
    refine Mv ?_
    refine G2 (fun _ k_ => q_callv [3, 4, 5] [some (sC (.ptr 1 0) B x.ck), some (cC (kp x.has 2) S.2.1), kb x.has x.key] [some (u8s a.b)] g1 k_ (ha := (cac (et rfl) rfl (cac (et rfl) (sees_slc rfl rfl (cut_h rfl)) ca0))) (e2 := pl1 rfl (sC_map.trans rfl) (pl1 rfl (kC_map rfl) (plb rfl kb_map pl0))) (eL := ml1 (sC_map.trans rfl) (ml1 (kC_map rfl) (mlb kb_map ml0))) (eM := ml1 sees_m ml0)) ?_
    refine G (q_mv (s := .t _) ?_)
    refine G (q_ext (y := .c _) ?_)
    refine G (q_ext (y := .c _) ?_)
    refine As ?_
    refine As ?_
    refine gend ?_
    refine awp_seq ?_
    refine rln ?_
    refine Mv ?_
    refine G (q_neqn (y := 0) ?_)
    refine Mv ?_
    refine Akfd 101 (fun hb3 => ?_) ?_; rotate_left
    · exact fun h => h rfl
    refine Gg (q_mv (s := .v (.c _)) ?_)
    refine Gg (q_neqn (y := 0) ?_)
    refine G (q_pkf ?_)
    refine Mv ?_
    refine Akfd 105 (fun hb7 => ?_) ?_; rotate_left
    · exact fun h => h rfl
    refine Gg (q_mv (s := .v (.c _)) ?_)
    refine Gg (q_csl ?_)
    refine Gg (q_mv (s := .v (.c _)) ?_)
    refine Gg (q_cso ?_)
    refine Gg (q_neqs ?_)
    refine G (q_pkf ?_)
    refine gend ?_
    refine cndnN (fun hc9 => ?_) ?_; rotate_left
    · simp
    refine awp_skip ?_
    refine awp_seq ?_
    refine rln ?_
    refine Mv ?_
    refine G2 (fun _ k_ => q_callp (hash_u x.has B x.ck hBl x.hk x.key S.2.1 x.hkey) k_ (ha := (cac (et rfl) (sees_su rfl rfl rfl x.hkey rfl rfl rfl) ca0))) ?_
    refine Mv ?_
    refine G2 (fun _ k_ => q_callp (hash_u x.has B x.ck hBl x.hk x.key S.2.1 x.hkey) k_ (ha := (cac (et rfl) (sees_su rfl rfl rfl x.hkey rfl rfl rfl) ca0))) ?_
    refine G (q_nea8 ?_)
    refine Mv ?_
    refine Akf 144 (fun hb6 => ?_) ?_; rotate_left
    · simp
    refine Gg (q_mv (s := .v (.c _)) ?_)
    refine G2g (fun _ k_ => q_callp (chain_u x.has B x.ck hBl x.hk x.key S.2.1 x.hkey) k_ (ha := (cac (et rfl) (sees_su rfl rfl rfl x.hkey rfl rfl rfl) ca0))) ?_
    refine Gg (q_mv (s := .v (.c _)) ?_)
    refine G2g (fun _ k_ => q_callp (chain_u x.has B x.ck hBl x.hk x.key S.2.1 x.hkey) k_ (ha := (cac (et rfl) (sees_su rfl rfl rfl x.hkey rfl rfl rfl) ca0))) ?_
    refine Gg (q_nea8 ?_)
    refine G (q_pkf ?_)
    refine gend ?_
    refine cndnN (fun hc10 => ?_) ?_; rotate_left
    · simp
    refine awp_skip ?_
    refine rln ?_
    refine Mv ?_
    refine G (q_addn (y := 1) ?_)
    refine As ?_
    refine gend ?_
    exact ⟨⟨x.i + 1, x.has, B, x.ck, x.key, S.2.1, by omega, hBl, x.hk, x.hkey, Nat.le_trans hSn (Nat.succ_le_succ x.hn)⟩, by show n - (x.i + 1) < n - x.i; omega, sle_ren [(0, true), (1, true), (2, true), (3, true), (4, true), (5, true)] rfl (fun p h => absurd h (Nat.not_lt_zero _)) ⟨rs_fl (fun y => bC_cm y), rs_ro, rfl, rfl, rfl, trivial⟩ (Eq.symm (a := renL _ _ _) (rlT rfl (sC_map.trans rfl) (rlT rfl (kC_map rfl) (rlB rfl kb_map (rlT rfl (sC_map.trans rfl) (rlT rfl (kC_map rfl) (rlB rfl kb_map rl0)))))))⟩   -- endloop 1
  refine awp_seq ?_
  refine rln ?_
  refine G (q_eqli (y := 4) ?_)
  refine As ?_
  refine gend ?_
  refine cnd (fun hc11 => ?_) (fun hc11 => ?_)
  · have gm := sseal_u x.has x.h x.ck x.hh x.hk x.key x.num x.hkey a.b _ rfl (by omega) hnM
    have hSn := cSl_num (has := x.has) (key := x.key) (ad := x.h) (l := a.b) (n := x.num)
    have hSl := cSl_len (has := x.has) (key := x.key) (ad := x.h) (l := a.b) (n := x.num)
    have h0 : (cSl x.has x.key x.num x.h a.b).2.2 = 0 := cSl_ok hnM
    have g1 := sopen_u x.has x.h x.ck x.hh x.hk x.key x.num x.hkey (cSl x.has x.key x.num x.h a.b).1 _ rfl (by omega) hnM
    have hso : sOh x.has x.key x.num x.h (cSl x.has x.key x.num x.h a.b).1 = bsum (x.h ++ (cSl x.has x.key x.num x.h a.b).1) := by unfold sOh; rw [if_pos (by rw [cOp_cSl h0])]
    rw [hso, cOp_cSl h0] at g1
    obtain ⟨S, hS⟩ : ∃ z, cSl x.has x.key x.num x.h a.b = z := ⟨_, rfl⟩
    rw [hS] at gm hSn g1
    obtain ⟨B, hB⟩ : ∃ z, bsum (x.h ++ S.1) = z := ⟨_, rfl⟩
    have hBl : B.length = 32 := by rw [← hB]; exact bsum_len _
    rw [hB] at gm g1
    refine awp_seq ?_
    refine rln ?_
    refine Mv ?_
    refine Mv ?_
    refine G2 (fun _ k_ => q_callv [3, 4, 5] [some (sC (.ptr 1 0) B x.ck), some (cC (kp x.has 2) S.2.1), kb x.has x.key] [some (u8s S.1)] gm k_ (ha := (cac (et rfl) rfl (cac (et rfl) sees_ro ca0))) (e2 := pl1 rfl (sC_map.trans rfl) (pl1 rfl (kC_map rfl) (plb rfl kb_map pl0))) (eL := ml1 (sC_map.trans rfl) (ml1 (kC_map rfl) (mlb kb_map ml0))) (eM := ml1 sees_m ml0)) ?_
    refine G (q_mv (s := .t _) ?_)
    refine G (q_ext (y := .c _) ?_)
    refine G (q_ext (y := .c _) ?_)
    refine As ?_
    refine As ?_
    refine gend ?_
    refine awp_seq ?_
    refine rln ?_
    refine Mv ?_
    refine Mv ?_
    refine G2 (fun _ k_ => q_callv [0, 1, 2] [some (sC (.ptr 1 0) B x.ck), some (cC (kp x.has 2) S.2.1), kb x.has x.key] [some (u8s a.b)] g1 k_ (ha := (cac (et rfl) rfl (cac (et rfl) (sees_slc rfl rfl (cut_h rfl)) ca0))) (e2 := pl1 rfl (sC_map.trans rfl) (pl1 rfl (kC_map rfl) (plb rfl kb_map pl0))) (eL := ml1 (sC_map.trans rfl) (ml1 (kC_map rfl) (mlb kb_map ml0))) (eM := ml1 sees_m ml0)) ?_
    refine G (q_mv (s := .t _) ?_)
    refine G (q_ext (y := .c _) ?_)
    refine G (q_ext (y := .c _) ?_)
    refine As ?_
    refine As ?_
    refine gend ?_
    refine awp_seq ?_
    refine rln ?_
    refine Mv ?_
    refine G (q_neqn (y := 0) ?_)
    refine Mv ?_
    refine Akfd 128 (fun hb3 => ?_) ?_; rotate_left
    · exact fun h => h rfl
    refine Gg (q_mv (s := .v (.c _)) ?_)
    refine Gg (q_neqn (y := 0) ?_)
    refine G (q_pkf ?_)
    refine Mv ?_
    refine Akfd 132 (fun hb7 => ?_) ?_; rotate_left
    · exact fun h => h rfl
    refine Gg (q_mv (s := .v (.c _)) ?_)
    refine Gg (q_csl ?_)
    refine Gg (q_mv (s := .v (.c _)) ?_)
    refine Gg (q_cso ?_)
    refine Gg (q_neqs ?_)
    refine G (q_pkf ?_)
    refine gend ?_
    refine cndnN (fun hc12 => ?_) ?_; rotate_left
    · simp
    refine awp_skip ?_
    refine awp_seq ?_
    refine rln ?_
    refine Mv ?_
    refine G2 (fun _ k_ => q_callp (hash_u x.has B x.ck hBl x.hk x.key S.2.1 x.hkey) k_ (ha := (cac (et rfl) (sees_su rfl rfl rfl x.hkey rfl rfl rfl) ca0))) ?_
    refine Mv ?_
    refine G2 (fun _ k_ => q_callp (hash_u x.has B x.ck hBl x.hk x.key S.2.1 x.hkey) k_ (ha := (cac (et rfl) (sees_su rfl rfl rfl x.hkey rfl rfl rfl) ca0))) ?_
    refine G (q_nea8 ?_)
    refine Mv ?_
    refine Akf 144 (fun hb6 => ?_) ?_; rotate_left
    · simp
    refine Gg (q_mv (s := .v (.c _)) ?_)
    refine G2g (fun _ k_ => q_callp (chain_u x.has B x.ck hBl x.hk x.key S.2.1 x.hkey) k_ (ha := (cac (et rfl) (sees_su rfl rfl rfl x.hkey rfl rfl rfl) ca0))) ?_
    refine Gg (q_mv (s := .v (.c _)) ?_)
    refine G2g (fun _ k_ => q_callp (chain_u x.has B x.ck hBl x.hk x.key S.2.1 x.hkey) k_ (ha := (cac (et rfl) (sees_su rfl rfl rfl x.hkey rfl rfl rfl) ca0))) ?_
    refine Gg (q_nea8 ?_)
    refine G (q_pkf ?_)
    refine gend ?_
    refine cndnN (fun hc13 => ?_) ?_; rotate_left
    · simp
    refine awp_skip ?_
    refine rln ?_
    refine Mv ?_
    refine G (q_addn (y := 1) ?_)
    refine As ?_
    refine gend ?_
    exact ⟨⟨x.i + 1, x.has, B, x.ck, x.key, S.2.1, by omega, hBl, x.hk, x.hkey, Nat.le_trans hSn (Nat.succ_le_succ x.hn)⟩, by show n - (x.i + 1) < n - x.i; omega, sle_ren [(0, true), (1, true), (2, true), (3, true), (4, true), (5, true)] rfl (fun p h => absurd h (Nat.not_lt_zero _)) ⟨rs_fl (fun y => bC_cm y), rs_ro, rfl, rfl, rfl, trivial⟩ (Eq.symm (a := renL _ _ _) (rlT rfl (sC_map.trans rfl) (rlT rfl (kC_map rfl) (rlB rfl kb_map (rlT rfl (sC_map.trans rfl) (rlT rfl (kC_map rfl) (rlB rfl kb_map rl0)))))))⟩   -- endloop 1
  refine awp_skip ?_
  refine awp_seq ?_
  refine rln ?_
  refine Mv ?_
  refine G2 (fun _ k_ => q_callp (hash_u x.has x.h x.ck x.hh x.hk x.key x.num x.hkey) k_ (ha := (cac (et rfl) (sees_su rfl rfl rfl x.hkey rfl rfl rfl) ca0))) ?_
  refine Mv ?_
  refine G2 (fun _ k_ => q_callp (hash_u x.has x.h x.ck x.hh x.hk x.key x.num x.hkey) k_ (ha := (cac (et rfl) (sees_su rfl rfl rfl x.hkey rfl rfl rfl) ca0))) ?_
  refine G (q_nea8 ?_)
  refine Mv ?_
  refine Akf 144 (fun hb6 => ?_) ?_; rotate_left
  · simp
  refine Gg (q_mv (s := .v (.c _)) ?_)
  refine G2g (fun _ k_ => q_callp (chain_u x.has x.h x.ck x.hh x.hk x.key x.num x.hkey) k_ (ha := (cac (et rfl) (sees_su rfl rfl rfl x.hkey rfl rfl rfl) ca0))) ?_
  refine Gg (q_mv (s := .v (.c _)) ?_)
  refine G2g (fun _ k_ => q_callp (chain_u x.has x.h x.ck x.hh x.hk x.key x.num x.hkey) k_ (ha := (cac (et rfl) (sees_su rfl rfl rfl x.hkey rfl rfl rfl) ca0))) ?_
  refine Gg (q_nea8 ?_)
  refine G (q_pkf ?_)
  refine gend ?_
  refine cndnN (fun hc14 => ?_) ?_; rotate_left
  · simp
  refine awp_skip ?_
  refine rln ?_
  refine Mv ?_
  refine G (q_addn (y := 1) ?_)
  refine As ?_
  refine gend ?_
  exact ⟨⟨x.i + 1, x.has, x.h, x.ck, x.key, x.num, by omega, x.hh, x.hk, x.hkey, Nat.le_trans x.hn (Nat.le_succ _)⟩, by show n - (x.i + 1) < n - x.i; omega, sle_sub ⟨rfl, rfl, rfl, rfl, rfl, trivial⟩ rfl⟩   -- endloop 1
end Go.Proofs.Ytlnepajgnckolaa


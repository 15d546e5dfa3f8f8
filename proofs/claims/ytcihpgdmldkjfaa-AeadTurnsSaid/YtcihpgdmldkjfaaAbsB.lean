/- The abstract machine: forgetting and renaming; frames; conditions. -/
import Derived.Test.YtcihpgdmldkjfaaAbsA
namespace Go.Abs
open Go

/-- How a cell is carried over: which block becomes which; what may be lent; are 'ro' kept? -/
structure CM where
  fp : Nat → Option Nat
  mem : Nat → Option (List Cell)
  keep : Bool
  lend : Bool

def cm (m : CM) : Nat → Cell → Cell
  | 0, c => match c with
    | .bool b => .bool b
    | .int k n => .int k n
    | .str s => .str s
    | .nilp => .nilp
    | .nils => if m.lend then .ro 0 [] else .nils
    | .nilf => .nilf
    | _ => .undef
  | d + 1, c => match c with
    | .undef => .undef
    | .bool b => .bool b
    | .int k n => .int k n
    | .str s => .str s
    | .nilp => .nilp
    | .nils => if m.lend then .ro 0 [] else .nils
    | .nilf => .nilf
    | .ptr p o => match m.fp p with
      | some q => .ptr q o
      | none => match m.mem p with
        | some cs => if cs.isEmpty then .undef else .rop ((cs.drop o).map (cm m d))
        | none => .undef
    | .slc p o n sz => match m.fp p with
      | some q => .slc q o n sz
      | none => match m.mem p with
        | some cs => .ro n (((cs.drop o).take (n * sz)).map (cm m d))
        | none => .undef
    | .ro n cs => if m.keep then .ro n (cs.map (cm m d)) else .undef
    | .rop cs => if m.keep then .rop (cs.map (cm m d)) else .undef
    | .fn f cap => .fn f (cap.map (cm m d))

structure CM.Ok (m : CM) (R R' : Rl) : Prop where
  fp : ∀ p q, m.fp p = some q → p < R.n → q < R'.n ∧ R'.ρ q = R.ρ p
  mem : ∀ p cs, m.mem p = some cs → cs ≠ [] → m.fp p = none → p < R.n → R'.T (R.ρ p).blk ∧
    ∀ (i : Nat) c, cs[i]? = some c → ∃ arr el fr v, R'.h0[(R.ρ p).blk]? = some (.cells arr el fr) ∧ arr[(R.ρ p).dl + i]? = some v ∧ v.oneCell' = true ∧ CRel R c v
  keep : m.keep = true → ∀ b, R.T b → R'.T b ∧ R'.h0[b]? = R.h0[b]?

theorem cm_sound {m : CM} {R R' : Rl} (h : m.Ok R R') : ∀ (d : Nat) (c : Cell) (v : Value), CRel R c v → CRel R' (cm m d c) v := by
  intro d
  induction d with
  | zero =>
    intro c v k
    cases c <;> simp only [cm] <;> first | (simp [CRel]; done) | exact k | skip
    split
    · simp only [CRel] at k ⊢
      exact ⟨none, 0, k, Nat.le_refl _, by simp, fun x hx => by simp at hx⟩
    · simpa [CRel] using k
  | succ d ih =>
    have hl : ∀ (cs : List Cell) (vs : List Value), LRel R cs vs → LRel R' (cs.map (cm m d)) vs := by
      intro cs vs k
      refine LRel.of_get (by simp [k.length]) fun i c hi => ?_
      rw [List.getElem?_map, Option.map_eq_some_iff] at hi
      obtain ⟨c0, h1, rfl⟩ := hi
      obtain ⟨v, h2, ho, h3⟩ := k.get h1
      exact ⟨v, h2, ho, ih _ _ h3⟩
    have hm : m.keep = true → ∀ (cs : List Cell) (b o : Nat), R.T b → MRel R cs b o → MRel R' (cs.map (cm m d)) b o := by
      intro hk cs b o hb k
      refine MRel.of_get fun i c hi => ?_
      rw [List.getElem?_map, Option.map_eq_some_iff] at hi
      obtain ⟨c0, h1, rfl⟩ := hi
      obtain ⟨arr, el, fr, v, h2, h3, ho, h4⟩ := k.get h1
      exact ⟨arr, el, fr, v, by rw [(h.keep hk b hb).2]; exact h2, h3, ho, ih _ _ h4⟩
    intro c v k
    cases c with
    | undef => simp [cm, CRel]
    | bool b => simpa [cm, CRel] using k
    | int kk n => simpa [cm, CRel] using k
    | str s => simpa [cm, CRel] using k
    | nilp => simpa [cm, CRel] using k
    | nilf => simpa [cm, CRel] using k
    | nils =>
      simp only [cm]
      split
      · simp only [CRel] at k ⊢
        exact ⟨none, 0, k, Nat.le_refl _, by simp, fun x hx => by simp at hx⟩
      · simpa [CRel] using k
    | ptr p o =>
      simp only [CRel] at k
      simp only [cm]
      split
      · rename_i q hq
        obtain ⟨h1, h2⟩ := h.fp p q hq k.1
        simp only [CRel]
        rw [h2]
        exact ⟨h1, k.2⟩
      · rename_i hq
        split
        · rename_i cs hcs
          by_cases hemp : cs.isEmpty = true
          · rw [if_pos hemp]; simp [CRel]
          rw [if_neg hemp]
          obtain ⟨h1, h2⟩ := h.mem p cs hcs (by rintro rfl; exact hemp rfl) hq k.1
          simp only [CRel]
          refine ⟨_, _, k.2, h1, MRel.of_get fun i c hi => ?_⟩
          rw [List.getElem?_map, Option.map_eq_some_iff] at hi
          obtain ⟨c0, h3, rfl⟩ := hi
          rw [List.getElem?_drop] at h3
          obtain ⟨arr, el, fr, v, h4, h5, ho, h6⟩ := h2 _ _ h3
          exact ⟨arr, el, fr, v, h4, by rw [Nat.add_assoc]; exact h5, ho, ih _ _ h6⟩
        · simp [CRel]
    | slc p o n sz =>
      simp only [CRel] at k
      simp only [cm]
      split
      · rename_i q hq
        obtain ⟨h1, h2⟩ := h.fp p q hq k.1
        simp only [CRel]
        rw [h2]
        exact ⟨h1, k.2⟩
      · rename_i hq
        split
        · rename_i cs hcs
          obtain ⟨hp, a, c, e1, e2, e3⟩ := k
          simp only [CRel]
          refine ⟨a, c, e1, e2, fun ha => ?_, fun x hx hne => ?_⟩
          · rcases e3 with ⟨e3, e4⟩ | e3
            · rw [ha] at e3; cases e3
            · omega
          subst hx
          obtain ⟨h1, h2⟩ := h.mem p cs hcs (by rintro rfl; simp at hne) hq hp
          rcases e3 with ⟨e3, e4⟩ | e3
          · obtain rfl := Option.some.inj e3
            refine ⟨rfl, h1, MRel.of_get fun i c hi => ?_⟩
            rw [List.getElem?_map, Option.map_eq_some_iff] at hi
            obtain ⟨c0, h3, rfl⟩ := hi
            rw [List.getElem?_take] at h3
            split at h3
            · rw [List.getElem?_drop] at h3
              obtain ⟨arr, el, fr, v, h4, h5, ho, h6⟩ := h2 _ _ h3
              exact ⟨arr, el, fr, v, h4, by simp only [Nat.add_assoc] at h5 ⊢; exact h5, ho, ih _ _ h6⟩
            · simp at h3
          · exfalso
            apply hne
            have : n = 0 := by omega
            subst this
            simp
        · simp [CRel]
    | ro n cs =>
      simp only [cm]
      split
      · rename_i hk
        simp only [CRel] at k ⊢
        obtain ⟨a, c, e1, e2, e3, e4⟩ := k
        refine ⟨a, c, e1, e2, e3, fun x hx hne => ?_⟩
        obtain ⟨f1, f2, f3⟩ := e4 x hx (by simpa using hne)
        exact ⟨f1, (h.keep hk _ f2).1, hm hk _ _ _ f2 f3⟩
      · simp [CRel]
    | rop cs =>
      simp only [cm]
      split
      · rename_i hk
        simp only [CRel] at k ⊢
        obtain ⟨b, o, e1, e2, e3⟩ := k
        exact ⟨b, o, e1, (h.keep hk _ e2).1, hm hk _ _ _ e2 e3⟩
      · simp [CRel]
    | fn f cap =>
      simp only [cm, CRel] at k ⊢
      obtain ⟨vs, e1, e2⟩ := k
      exact ⟨vs, e1, hl _ _ e2⟩

def vm (f : Cell → Cell) : V → V
  | .c x => .c (f x)
  | .a xs => .a (xs.map f)
def sm (f : Cell → Cell) : S → S
  | .v x => .v (vm f x)
  | .t xs => .t (xs.map (vm f))

theorem lm_sound {R R' : Rl} {f : Cell → Cell} (hf : ∀ c v, CRel R c v → CRel R' (f c) v) {cs : List Cell} {vs : List Value} (k : LRel R cs vs) : LRel R' (cs.map f) vs := by
  refine LRel.of_get (by simp [k.length]) fun i c hi => ?_
  rw [List.getElem?_map, Option.map_eq_some_iff] at hi
  obtain ⟨c0, h1, rfl⟩ := hi
  obtain ⟨v, h2, ho, h3⟩ := k.get h1
  exact ⟨v, h2, ho, hf _ _ h3⟩
theorem vm_sound {R R' : Rl} {f : Cell → Cell} (hf : ∀ c v, CRel R c v → CRel R' (f c) v) {x : V} {v : Value} (k : VRel R x v) : VRel R' (vm f x) v := by
  cases x with
  | c x => exact hf _ _ k
  | a xs => obtain ⟨vs, e1, e2⟩ := k; exact ⟨vs, e1, lm_sound hf e2⟩
theorem vsm_sound {R R' : Rl} {f : Cell → Cell} (hf : ∀ c v, CRel R c v → CRel R' (f c) v) : ∀ {cs : List V} {vs : List Value}, VsRel R cs vs → VsRel R' (cs.map (vm f)) vs
  | [], vs, k => by simpa [VsRel] using k
  | c :: cs, vs, k => by
    simp only [VsRel, List.map_cons] at k ⊢
    obtain ⟨v, vs', e1, e2, e3⟩ := k
    exact ⟨v, vs', e1, vm_sound hf e2, vsm_sound hf e3⟩
theorem sm_sound {R R' : Rl} {f : Cell → Cell} (hf : ∀ c v, CRel R c v → CRel R' (f c) v) {x : S} {v : Value} (k : SRel R x v) : SRel R' (sm f x) v := by
  cases x with
  | v x => exact vm_sound hf k
  | t xs => obtain ⟨vs, e1, e2⟩ := k; exact ⟨vs, e1, vsm_sound hf e2⟩

/-- A list's place. -/
def idx (p : Nat) : List Nat → Option Nat
  | [] => none
  | q :: r => if q = p then some 0 else (idx p r).map (· + 1)
theorem idx_get {p : Nat} : ∀ {l : List Nat} {j : Nat}, idx p l = some j → l[j]? = some p
  | [], j, h => by simp [idx] at h
  | q :: r, j, h => by
    simp only [idx] at h
    split at h
    · rename_i hq; simp at h; subst h; simp [hq]
    · rw [Option.map_eq_some_iff] at h
      obtain ⟨i, h1, rfl⟩ := h
      simpa using idx_get h1

def vwF (f : Cell → Cell) (keep : List Nat) : Nat → List S → List S
  | _, [] => []
  | i, s :: r => (if keep.contains i then sm f s else .v (.c .undef)) :: vwF f keep (i + 1) r
theorem vwF_length (f : Cell → Cell) (keep : List Nat) : ∀ (fr : List S) (i : Nat), (vwF f keep i fr).length = fr.length
  | [], _ => rfl
  | s :: r, i => by simp [vwF, vwF_length f keep r (i + 1)]
theorem vwF_get (f : Cell → Cell) (keep : List Nat) : ∀ (fr : List S) (i j : Nat) (s : S), (vwF f keep i fr)[j]? = some s →
    ∃ s0, fr[j]? = some s0 ∧ (s = sm f s0 ∨ s = .v (.c .undef))
  | [], i, j, s, h => by simp [vwF] at h
  | s0 :: r, i, 0, s, h => by
    simp only [vwF, List.getElem?_cons_zero, Option.some.injEq] at h
    refine ⟨s0, rfl, ?_⟩
    split at h
    · exact .inl h.symm
    · exact .inr h.symm
  | s0 :: r, i, j + 1, s, h => by
    simp only [vwF, List.getElem?_cons_succ] at h ⊢
    exact vwF_get f keep r (i + 1) j s h

def pick (H : Heap) (f : Cell → Cell) (p : Nat) : Option (List Cell) :=
  match H[p]? with
  | some (some cs) => some (cs.map f)
  | _ => none

/-- The same state, looked at in other words: block 'j' is what block 'π j' was; only the slots of 'keep' are told. -/
def view (π keep : List Nat) (st : St) : St :=
  let f := cm ⟨fun p => idx p π, fun _ => none, true, false⟩ 8
  ⟨vwF f keep 0 st.fr, π.map (pick st.H f)⟩

theorem view_key (E : Env) (ρ : Nat → Place) (π : List Nat) (m : Nat) : ∀ c v, CRel (E.rl m ρ) c v →
    CRel (E.rl π.length fun j => ρ (π.getD j 0)) (cm ⟨fun p => idx p π, fun _ => none, true, false⟩ 8 c) v := by
  refine cm_sound (R := E.rl m ρ) (R' := E.rl π.length fun j => ρ (π.getD j 0)) (m := ⟨fun p => idx p π, fun _ => none, true, false⟩) ⟨fun p q hq hp => ?_, fun p cs hcs => by simp at hcs, fun _ b hb => ⟨hb, rfl⟩⟩ 8
  have := idx_get hq
  have hlt : q < π.length := (List.getElem?_eq_some_iff.1 this).1
  refine ⟨hlt, ?_⟩
  show ρ (π.getD q 0) = ρ p
  rw [List.getD_eq_getElem?_getD, this]; rfl

theorem view_sim {st : St} (π keep : List Nat) (hnd : π.Nodup) {E : Env} {ρ : Nat → Place} {a : Act} {w : World} (hs : Sim E ρ st a w) : Sim E (fun j => ρ (π.getD j 0)) (Abs.view π keep st) a w := by
  have key : ∀ c v, CRel (E.rl st.H.length ρ) c v →
      CRel (E.rl (Abs.view π keep st).H.length fun j => ρ (π.getD j 0)) (cm ⟨fun p => idx p π, fun _ => none, true, false⟩ 8 c) v := by
    have := view_key E ρ π st.H.length
    simpa [Abs.view] using this
  refine ⟨?_, ?_⟩
  · refine ⟨hs.fr.1, by simpa [Abs.view, vwF_length] using hs.fr.2.1, fun i s hi => ?_⟩
    obtain ⟨s0, h1, h2⟩ := vwF_get _ _ _ _ _ _ hi
    obtain ⟨v, h3, h4⟩ := hs.fr.2.2 i s0 h1
    refine ⟨v, h3, ?_⟩
    rcases h2 with rfl | rfl
    · exact sm_sound key h4
    · simp [SRel, VRel, CRel]
  · have hget : ∀ (p : Nat) cs, (Abs.view π keep st).H[p]? = some (some cs) → ∃ q c0, π[p]? = some q ∧ st.H[q]? = some (some c0) ∧ cs = c0.map (cm ⟨fun p => idx p π, fun _ => none, true, false⟩ 8) ∧ π.getD p 0 = q := by
      intro p cs hp
      simp only [Abs.view, List.getElem?_map, Option.map_eq_some_iff] at hp
      obtain ⟨q, h1, h2⟩ := hp
      unfold pick at h2
      split at h2
      · rename_i c0 hc0
        exact ⟨q, c0, h1, hc0, (Option.some.inj h2).symm, by rw [List.getD_eq_getElem?_getD, h1]; rfl⟩
      · simp at h2
    refine ⟨hs.heap.os, hs.heap.tape, hs.heap.output, hs.heap.size, hs.heap.frame, fun p cs hp hr => ?_, fun p q cs ds hp hq hr1 hr2 he => ?_, fun p cs hp hr => ?_, fun p cs hp hr => ?_⟩
    · obtain ⟨q, c0, h1, h2, h3, h4⟩ := hget p cs hp
      show E.img (ρ (π.getD p 0)).blk ∨ _ ≤ (ρ (π.getD p 0)).blk
      have hr' : (ρ (π.getD p 0)).room ≠ 0 := hr
      rw [h4] at hr' ⊢
      exact hs.heap.fresh q c0 h2 hr'
    · obtain ⟨p', c0, h1, h2, h3, h4⟩ := hget p cs hp
      obtain ⟨q', d0, k1, k2, k3, k4⟩ := hget q ds hq
      have he' : (ρ (π.getD p 0)).blk = (ρ (π.getD q 0)).blk := he
      have hr1' : (ρ (π.getD p 0)).room ≠ 0 := hr1
      have hr2' : (ρ (π.getD q 0)).room ≠ 0 := hr2
      rw [h4, k4] at he'
      rw [h4] at hr1'
      rw [k4] at hr2'
      have := hs.heap.inj p' q' c0 d0 h2 k2 hr1' hr2' he'
      subst this
      obtain ⟨hp1, hp2⟩ := List.getElem?_eq_some_iff.1 h1
      obtain ⟨hq1, hq2⟩ := List.getElem?_eq_some_iff.1 k1
      exact (List.getElem_inj hnd).1 (hp2.trans hq2.symm)
    · obtain ⟨q, c0, h1, h2, h3, h4⟩ := hget p cs hp
      have hr' : (ρ (π.getD p 0)).room ≠ 0 := hr
      rw [h4] at hr'
      obtain ⟨arr, el, fr, b1, b2, b3, b4, b5⟩ := hs.heap.blk q c0 h2 hr'
      show BRel _ w (ρ (π.getD p 0)) cs
      rw [h4]
      refine ⟨arr, el, fr, b1, b2, b3, by rw [h3]; simpa using b4, fun i c hi => ?_⟩
      rw [h3, List.getElem?_map, Option.map_eq_some_iff] at hi
      obtain ⟨c1, h5, rfl⟩ := hi
      obtain ⟨v, h6, ho, h7⟩ := b5 i c1 h5
      exact ⟨v, h6, ho, key _ _ h7⟩
    · obtain ⟨q, c0, h1, h2, h3, h4⟩ := hget p cs hp
      have hr' : (ρ (π.getD p 0)).room = 0 := hr
      rw [h4] at hr'
      rw [h3, hs.heap.emp q c0 h2 hr']; rfl

theorem SLe.view {n : Nat} {st : St} (π keep : List Nat) (hn : ∀ p, p < n → π[p]? = some p) (hnd : π.Nodup) : SLe n st (Abs.view π keep st) := by
  intro E ρ a w hs
  refine ⟨fun j => ρ (π.getD j 0), fun p hp => ?_, view_sim π keep hnd hs⟩
  show ρ (π.getD p 0) = ρ p
  rw [List.getD_eq_getElem?_getD, hn p hp]; rfl

/-! Frames. -/
def ud : S := .v (.c .undef)
def vOf : Value → Cell
  | .bool b => .bool b
  | .int k n => .int k n
  | .string s => .str s
  | .pointer none => .nilp
  | .slice none 0 0 => .nils
  | .nilFunc => .nilf
  | _ => .undef
theorem vOf_sound (R : Rl) (v : Value) : CRel R (vOf v) v := by
  unfold vOf
  split <;> simp [CRel]

def ev (fr : List S) : Operand → S
  | .tmp t => (fr[t]?).getD ud
  | .const (.agg cs) => if cs.toList.all Value.oneCell' then .v (.a (cs.toList.map vOf)) else ud
  | .const v => .v (.c (vOf v))
  | .global _ => ud
  | .func f => .v (.c (.fn f []))

theorem ev_sound {R : Rl} {fr : List S} {a : Act} (h : FRel R fr a) (x : Operand) : SRel R (ev fr x) (a.eval x) := by
  cases x with
  | tmp t =>
    simp only [ev, Act.eval]
    cases hf : fr[t]? with
    | none => simp [ud, SRel, VRel, CRel]
    | some s =>
      obtain ⟨v, h1, h2⟩ := h.2.2 t s hf
      have : a.tmps.getD t undef = v := by simp [Array.getD_eq_getD_getElem?, h1]
      rw [this]; simpa using h2
  | const v =>
    cases v with
    | agg cs =>
      simp only [ev]
      split
      · rename_i hone
        refine ⟨cs, rfl, LRel.of_get (by simp) fun i c hi => ?_⟩
        rw [List.getElem?_map, Option.map_eq_some_iff] at hi
        obtain ⟨v, h1, rfl⟩ := hi
        exact ⟨v, h1, List.all_eq_true.1 hone v (List.mem_of_getElem? h1), vOf_sound R v⟩
      · simp [ud, SRel, VRel, CRel]
    | _ => exact vOf_sound R _
  | global g => simp [ev, ud, SRel, VRel, CRel]
  | func f => simp [ev, Act.eval, SRel, VRel, CRel, LRel]

def put (fr : List S) (dst : Option Nat) (s : S) : List S :=
  match dst with
  | some d => fr.set d s
  | none => fr

theorem put_length (fr : List S) (dst : Option Nat) (s : S) : (put fr dst s).length = fr.length := by cases dst <;> simp [put]

theorem put_sound {R : Rl} {fr : List S} {a : Act} (h : FRel R fr a) (dst : Option Nat) {s : S} {v : Value} (hs : SRel R s v) : FRel R (put fr dst s) (a.put dst v) := by
  cases dst with
  | none => exact h
  | some d =>
    refine ⟨h.1, by simpa [put, Act.put] using h.2.1, fun i s' hi => ?_⟩
    simp only [put, List.getElem?_set] at hi
    simp only [Act.put]
    by_cases hd : d = i
    · subst hd
      simp only [if_true] at hi
      split at hi
      · rename_i hlt
        obtain rfl := Option.some.inj hi
        exact ⟨v, by rw [Array.getElem?_setIfInBounds_self, if_pos (by rw [h.2.1]; exact hlt)], hs⟩
      · simp at hi
    · rw [if_neg hd] at hi
      obtain ⟨v', h1, h2⟩ := h.2.2 i s' hi
      exact ⟨v', by rw [Array.getElem?_setIfInBounds_ne hd]; exact h1, h2⟩

theorem FRel.mono {R R' : Rl} (h : R.Le R') {fr : List S} {a : Act} (k : FRel R fr a) : FRel R' fr a :=
  ⟨k.1, k.2.1, fun i s hi => let ⟨v, h1, h2⟩ := k.2.2 i s hi; ⟨v, h1, h2.mono h⟩⟩

theorem awp_cond {P : Program} {n : Nat} {Q : Exit → St → Prop} {st : St} {c : Operand} {x y : Code} {t : Bool} (hc : ev st.fr c = .v (.c (.bool t)))
    (h1 : t = true → AWp P n x Q st) (h2 : t = false → AWp P n y Q st) : AWp P n (.cond c x y) Q st := by
  intro E ρ a w hE hs
  have := ev_sound hs.fr c
  rw [hc] at this
  simp only [SRel, VRel, CRel] at this
  exact wp_cond_split this (fun ht => h1 ht E ρ a w hE hs) (fun ht => h2 ht E ρ a w hE hs)
end Go.Abs

/- The abstract machine: every operation; regions in the order of the text. -/
import Derived.Test.YtcihpgdmldkjfaaAbsP
namespace Go.Abs
open Go
section
variable {P : Program} {fr : List S} {H : Heap} {K : S → Heap → Prop} {o : Oper}

theorem ostep_sound (h : ostep P o fr H K) : ∃ s H', OpG P o fr H s H' ∧ K s H' := by
  have pure : pstep P o.op fr (fun s => K s H) → ∃ s H', OpG P o fr H s H' ∧ K s H' := fun h => by
    obtain ⟨s, h1, h2⟩ := pstep_sound h
    exact ⟨s, H, opg_pv H h2, h1⟩
  cases ho : o.op
  case alloc t => exact og_alloc ho h
  case box t x => exact og_box ho h
  case build t p => exact og_build ho h
  case buildSlice t n p => exact og_buildSlice ho h
  case load t x => exact og_load ho h
  case store t x y => exact og_store ho h
  case makeSlice t l c => exact og_makeSlice ho h
  case convert s d x => exact og_convert ho h
  case slice t x l h' m => exact og_slice ho h
  case binOp op t x y u => exact og_binOp ho h
  case call c =>
    obtain ⟨callee, args, ats⟩ := c
    cases callee with
    | builtin b =>
      cases b
      case append => exact og_append ho h
      case copy => exact og_copy ho h
      all_goals
        simp only [ostep, ho] at h
        rw [← ho] at h
        exact pure h
    | value f =>
      simp only [ostep, ho] at h
      exact callO_sound ho h
    | invoke r m =>
      simp only [ostep, ho] at h
  all_goals
    simp only [ostep, ho] at h
    rw [← ho] at h
    exact pure h

end

/-! ## A region in the order of its text. -/
def us : S := .t []
def guardOf (ops : List Oper) (fr : List S) (j : Nat) : Option (Option Bool) :=
  match (ops[j]?).bind (·.dst) with
  | some d => match fr[d]? with
    | some (.v (.c (.bool b))) => some (some b)
    | some (.t []) => some none
    | _ => none
  | none => none
theorem us_rel {R : Rl} : SRel R us undef := ⟨#[], rfl, rfl⟩

def aops (P : Program) (ops : List Oper) (Q : St → Prop) : List Oper → St → Prop
  | [], st => Q st
  | o :: rest, st =>
    match o.guard with
    | none => ostep P o st.fr st.H fun s H' => aops P ops Q rest ⟨put st.fr o.dst s, H'⟩
    | some (j, want) => match guardOf ops st.fr j with
      | some b => (b = some want → ostep P o st.fr st.H fun s H' => aops P ops Q rest ⟨put st.fr o.dst s, H'⟩) ∧ (b ≠ some want → aops P ops Q rest ⟨put st.fr o.dst us, st.H⟩)
      | none => False

theorem guardOf_sound {ops : List Oper} {R : Rl} {fr : List S} {a : Act} (hf : FRel R fr a) {j : Nat} {b : Option Bool} (h : guardOf ops fr j = some b) : yielded ops.toArray a.tmps j = b := by
  unfold guardOf at h
  split at h
  · rename_i d hd
    split at h
    · rename_i b' hb
      obtain rfl := Option.some.inj h
      obtain ⟨v, h1, h2⟩ := hf.2.2 d _ hb
      simp only [SRel, VRel, CRel] at h2
      subst h2
      unfold yielded
      have : (ops.toArray[j]?).bind (·.dst) = some d := by simpa using hd
      rw [this]
      simp [h1]
    · rename_i hb
      obtain rfl := Option.some.inj h
      obtain ⟨v, h1, vs, h2, h3⟩ := hf.2.2 d _ hb
      unfold yielded
      have : (ops.toArray[j]?).bind (·.dst) = some d := by simpa using hd
      rw [this]
      simp [h1, h2]
    · simp at h
  · simp at h

theorem FRel.put_grow {E : Env} {ρ ρ' : Nat → Place} {n m : Nat} (h : n ≤ m) (hρ : ∀ p, p < n → ρ' p = ρ p) {fr : List S} {a : Act} (k : FRel (E.rl n ρ) fr a) (dst : Option Nat) {s : S} {v : Value} (hs : SRel (E.rl m ρ') s v) :
    FRel (E.rl m ρ') (put fr dst s) (a.put dst v) := put_sound (k.grow h hρ) dst hs

theorem aops_sound {P : Program} {n : Nat} {ops : List Oper} {Q : Exit → St → Prop} : ∀ (l : List Oper) (st : St), n ≤ st.H.length → aops P ops (Q .normal) l st →
    ∀ (E : Env) (ρ : Nat → Place) (a : Act) (w : World), E.Ok → Sim E ρ st a w →
      wpList P ops.toArray (fun e a' w' => ∃ st' ρ', Q e st' ∧ (∀ p, p < n → ρ' p = ρ p) ∧ Sim E ρ' st' a' w') l a w
  | [], st, hn, h, E, ρ, a, w, hE, hs => ⟨st, ρ, h, fun _ _ => rfl, hs⟩
  | o :: rest, st, hn, h, E, ρ, a, w, hE, hs => by
    have go : (ostep P o st.fr st.H fun s H' => aops P ops (Q .normal) rest ⟨put st.fr o.dst s, H'⟩) →
        o.wp P a w (wpList P ops.toArray (fun e a' w' => ∃ st' ρ', Q e st' ∧ (∀ p, p < n → ρ' p = ρ p) ∧ Sim E ρ' st' a' w') rest) (fun e a' w' => ∃ st' ρ', Q e st' ∧ (∀ p, p < n → ρ' p = ρ p) ∧ Sim E ρ' st' a' w') := fun h => by
      obtain ⟨s, H', ⟨hl, hg⟩, hK⟩ := ostep_sound h
      refine hg E ρ a w hE hs _ _ fun v w' ρ' h1 h2 h3 => ?_
      have := aops_sound (Q := Q) rest ⟨put st.fr o.dst s, H'⟩ (Nat.le_trans hn hl) hK E ρ' (a.put o.dst v) w' hE ⟨FRel.put_grow hl h1 hs.fr o.dst h3, h2⟩
      have hmono : ∀ (l : List Oper) (a : Act) (w : World), wpList P ops.toArray (fun e a' w' => ∃ st' ρ'', Q e st' ∧ (∀ p, p < n → ρ'' p = ρ' p) ∧ Sim E ρ'' st' a' w') l a w → wpList P ops.toArray (fun e a' w' => ∃ st' ρ'', Q e st' ∧ (∀ p, p < n → ρ'' p = ρ p) ∧ Sim E ρ'' st' a' w') l a w := by
        have e : (fun (e : Exit) (a' : Act) (w' : World) => ∃ (st' : St) (ρ'' : Nat → Place), Q e st' ∧ (∀ p, p < n → ρ'' p = ρ' p) ∧ Sim E ρ'' st' a' w') = fun e a' w' => ∃ st' ρ'', Q e st' ∧ (∀ p, p < n → ρ'' p = ρ p) ∧ Sim E ρ'' st' a' w' := by
          funext e a' w'
          apply propext
          constructor
          · rintro ⟨s, r, k1, k2, k3⟩
            exact ⟨s, r, k1, fun p hp => (k2 p hp).trans (h1 p (Nat.lt_of_lt_of_le hp hn)), k3⟩
          · rintro ⟨s, r, k1, k2, k3⟩
            exact ⟨s, r, k1, fun p hp => (k2 p hp).trans (h1 p (Nat.lt_of_lt_of_le hp hn)).symm, k3⟩
        intro l a w hh
        rw [← e]
        exact hh
      exact hmono _ _ _ this
    simp only [aops] at h
    unfold wpList
    split at h
    · rename_i hg
      have hw : Region.wanted o (yielded ops.toArray a.tmps) = true := by simp [Region.wanted, hg]
      rw [if_pos hw]
      exact .inl (go h)
    · rename_i j want hg
      split at h
      · rename_i b hb
        have hy := guardOf_sound hs.fr hb
        by_cases hbw : b = some want
        · have hw : Region.wanted o (yielded ops.toArray a.tmps) = true := by simp [Region.wanted, hg, hy, hbw]
          rw [if_pos hw]
          exact .inl (go (h.1 hbw))
        · have hw : ¬ Region.wanted o (yielded ops.toArray a.tmps) = true := by simp [Region.wanted, hg, hy, hbw]
          rw [if_neg hw]
          exact aops_sound (Q := Q) rest ⟨put st.fr o.dst us, st.H⟩ hn (h.2 hbw) E ρ (a.put o.dst undef) w hE ⟨put_sound hs.fr o.dst us_rel, hs.heap⟩
      · exact h.elim

theorem awp_region {P : Program} {n id : Nat} {ops : Array Oper} {Q : Exit → St → Prop} {st : St} (hn : n ≤ st.H.length) (h : aops P ops.toList (Q .normal) ops.toList st) : AWp P n (.region id ops false) Q st := by
  intro E ρ a w hE hs
  refine wp_region_list ?_
  have := aops_sound (Q := Q) ops.toList st hn h E ρ a w hE hs
  simpa using this
end Go.Abs

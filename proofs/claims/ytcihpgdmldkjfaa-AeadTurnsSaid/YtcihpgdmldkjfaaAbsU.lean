/- The abstract machine: bodies of functions. -/
import Derived.Test.YtcihpgdmldkjfaaAbsT
namespace Go.Abs
open Go

def resK (P : Program) (st : St) : List ResultVar → (List V → Prop) → Prop
  | [], K => K []
  | .tmp t :: r, K => match ev st.fr (.tmp t) with
    | .v x => resK P st r fun xs => K (x :: xs)
    | _ => False
  | .cell a t :: r, K => loadR P st.fr st.H t (.tmp a) fun s => match s with
    | .v x => resK P st r fun xs => K (x :: xs)
    | _ => False

def packR : List V → S
  | [x] => .v x
  | xs => .t xs

theorem loadAt_asAddr {P : Program} {t : TypeId} {v u : Value} {w : World} (h : (Instr.loadAt t v).run P w = .ok u w) : (do loadVar t (← asAddr v) : Sem Value).run P w = .ok u w := by
  cases v <;> try (simp [Instr.loadAt, Instr.sureAddr] at h; done)
  rename_i a
  cases a with
  | none => simp [Instr.loadAt, Instr.sureAddr] at h
  | some a => simpa [Instr.loadAt, Instr.sureAddr, asAddr] using h

theorem resK_sound {P : Program} {st : St} : ∀ (l : List ResultVar) (K : List V → Prop), resK P st l K → ∃ xs, K xs ∧ ∀ (E : Env) (ρ : Nat → Place) (a : Act) (w : World), E.Ok → Sim E ρ st a w →
    ∃ vs, (l.mapM (fun x : ResultVar => match x with
      | .tmp t => pure (a.tmps.getD t undef)
      | .cell b t => do loadVar t (← asAddr (a.tmps.getD b undef)) : ResultVar → Sem Value)).run P w = .ok vs w ∧ VsRel (E.rl st.H.length ρ) xs vs
  | [], K, h => ⟨[], h, fun E ρ a w _ _ => ⟨[], rfl, by simp [VsRel]⟩⟩
  | .tmp t :: r, K, h => by
    simp only [resK] at h
    split at h
    · rename_i x hx
      obtain ⟨xs, h1, h2⟩ := resK_sound r _ h
      refine ⟨x :: xs, h1, fun E ρ a w hE hs => ?_⟩
      obtain ⟨vs, k1, k2⟩ := h2 E ρ a w hE hs
      have hv := ev_sound hs.fr (.tmp t)
      rw [hx] at hv
      refine ⟨a.tmps.getD t undef :: vs, ?_, _, vs, rfl, hv, k2⟩
      rw [List.mapM_cons, Sem.run_bind]
      simp only [Sem.run_pure, Result.andThen_ok, Sem.run_bind]
      rw [k1]; rfl
    · exact h.elim
  | .cell b t :: r, K, h => by
    simp only [resK] at h
    obtain ⟨s, h, hl⟩ := loadR_sound h
    split at h
    · rename_i x
      obtain ⟨xs, h1, h2⟩ := resK_sound r _ h
      refine ⟨x :: xs, h1, fun E ρ a w hE hs => ?_⟩
      obtain ⟨vs, k1, k2⟩ := h2 E ρ a w hE hs
      obtain ⟨v, g1, g2⟩ := hl E ρ a w hE hs
      have g3 := loadAt_asAddr g1
      refine ⟨v :: vs, ?_, _, vs, rfl, g2, k2⟩
      rw [List.mapM_cons, Sem.run_bind]
      have g4 : (do loadVar t (← asAddr (a.tmps.getD b undef)) : Sem Value).run P w = .ok v w := g3
      simp only [g4, Result.andThen_ok, Sem.run_bind]
      rw [k1]; rfl
    · exact h.elim

theorem vsrel_length {R : Rl} : ∀ {xs : List V} {vs : List Value}, VsRel R xs vs → vs.length = xs.length
  | [], vs, h => by simp only [VsRel] at h; simp [h]
  | x :: xs, vs, h => by simp only [VsRel] at h; obtain ⟨v, vs', rfl, _, h2⟩ := h; simp [vsrel_length h2]

theorem packR_sound {R : Rl} {xs : List V} {vs : Array Value} (h : VsRel R xs vs.toList) : SRel R (packR xs) (if h : vs.size = 1 then vs[0] else .tuple vs) := by
  have hlen := vsrel_length h
  rw [Array.length_toList] at hlen
  match xs, h, hlen with
  | [], h, hlen =>
    rw [dif_neg (by rw [hlen]; simp)]
    exact ⟨vs, rfl, h⟩
  | [x], h, hlen =>
    simp only [VsRel] at h
    obtain ⟨v, vs', e, h1, h2⟩ := h
    subst h2
    have hvs : vs = #[v] := by apply Array.ext'; simpa using e
    subst hvs
    exact h1
  | x :: y :: r, h, hlen =>
    rw [dif_neg (by rw [hlen]; simp)]
    exact ⟨vs, rfl, h⟩

/-- The end of a body: what is returned and what memory is left, in the words of the contract. -/
def fin (P : Program) (fn : Func) (n : Nat) (v : S) (H' : Heap) (st : St) : Prop :=
  resK P st fn.results.toList fun xs => ∃ π : List Nat, (∀ p, p < n → π[p]? = some p) ∧ π.Nodup ∧
    v = sm (cm ⟨fun p => idx p π, fun _ => none, true, false⟩ 8) (packR xs) ∧ H' = π.map (pick st.H (cm ⟨fun p => idx p π, fun _ => none, true, false⟩ 8))

def ended (P : Program) (fn : Func) (n : Nat) (v : S) (H' : Heap) : Exit → St → Prop
  | .normal, st => fin P fn n v H' st
  | .ret, st => fin P fn n v H' st
  | _, _ => False

theorem good_of_body {P : Program} {k : FuncId} {fn : Func} {c : Code} {args : List V} {H H' : Heap} {v : S} {n : Nat} {fr0 : List S} (hf : P.funcs[k]? = some fn) (hb : fn.body = some c) (ha : args.length ≤ fn.ntmps) (hfr : args.map .v ++ List.replicate (fn.ntmps - args.length) ud = fr0) (hn : H.length = n) (hl : n ≤ H'.length) (hnm : (fn.name == "runtime.NumGoroutine") = false)
    (h : AWp P n c (ended P fn n v H') ⟨fr0, H⟩) : Good P k args H v H' := by
  subst hfr
  subst hn
  refine ⟨hl, ⟨fn, hf, by rw [hb]; rfl, hnm⟩, fun E ρ w rargs hE hw himg hH hargs => calls_of_wp hf hb ?_⟩
  have hla := vsrel_length hargs
  have hsim : Sim E ρ ⟨args.map .v ++ List.replicate (fn.ntmps - args.length) ud, H⟩ { tmps := rargs.toArray ++ Array.replicate (fn.ntmps - rargs.toArray.size) undef, defers := [] } w := by
    refine ⟨⟨rfl, by simp; omega, fun i s hi => ?_⟩, hH⟩
    by_cases hlt : i < args.length
    · rw [List.getElem?_append_left (by simpa using hlt), List.getElem?_map, Option.map_eq_some_iff] at hi
      obtain ⟨x, h1, rfl⟩ := hi
      obtain ⟨u, h2, h3⟩ := vsrel_get hargs h1
      refine ⟨u, ?_, h3⟩
      rw [Array.getElem?_append_left (by simp; omega)]
      simpa using h2
    · rw [List.getElem?_append_right (by simp; omega)] at hi
      simp only [List.length_map] at hi
      have hlt2 := (List.getElem?_eq_some_iff.1 hi).1
      simp at hlt2
      refine ⟨undef, ?_, ?_⟩
      · rw [Array.getElem?_append_right (by simp; omega), Array.getElem?_replicate, if_pos (by simp; omega)]
      · have : s = ud := by
          rw [List.getElem?_replicate, if_pos (by omega)] at hi
          exact (Option.some.inj hi).symm
        subst this
        simp [ud, SRel, VRel, CRel]
  refine wp_mono (h E ρ _ w hE hsim) ?_
  have fin_ok : ∀ (st : St) (ρ' : Nat → Place) (a' : Act) (w' : World), fin P fn H.length v H' st → (∀ p, p < H.length → ρ' p = ρ p) → Sim E ρ' st a' w' →
      a'.defers = [] ∧ ∃ rv, (results fn a'.tmps).run P w' = .ok rv w' ∧ ∃ rv' ρ'', Ending.returned rv = .returned rv' ∧ (∀ p, p < H.length → ρ'' p = ρ p) ∧ HRel E ρ'' w' H' ∧ SRel (E.rl H'.length ρ'') v rv' := by
    intro st ρ' a' w' hfin hρ hs
    obtain ⟨xs, ⟨π, h1, h2, h3, h4⟩, h5⟩ := resK_sound _ _ hfin
    obtain ⟨vs, k1, k2⟩ := h5 E ρ' a' w' hE hs
    have hrun : (results fn a'.tmps).run P w' = .ok (if h : vs.toArray.size = 1 then vs.toArray[0] else .tuple vs.toArray) w' := by
      unfold results
      rw [Array.mapM_eq_mapM_toList, Sem.run_bind, Sem.run_map]
      have : (fn.results.toList.mapM (fun x : ResultVar => match x with
        | .tmp t => pure (a'.tmps.getD t undef)
        | .cell b t => do loadVar t (← asAddr (a'.tmps.getD b undef)) : ResultVar → Sem Value)).run P w' = .ok vs w' := k1
      first
        | rw [this]; rfl
        | (erw [this]; rfl)
    refine ⟨hs.fr.1, _, hrun, _, fun j => ρ' (π.getD j 0), rfl, fun p hp => ?_, ?_, ?_⟩
    · show ρ' (π.getD p 0) = ρ p
      rw [List.getD_eq_getElem?_getD, h1 p hp]; exact hρ p hp
    · have := (view_sim π [] h2 hs).heap
      rw [h4]
      exact this
    · have hk := view_key E ρ' π st.H.length
      rw [h3, h4, List.length_map]
      exact sm_sound hk (packR_sound (by simpa using k2))
  rintro e a' w' ⟨st, ρ', h1, h2, h3⟩
  cases e <;> simp only [ended] at h1 <;> first | exact h1.elim | exact fin_ok st ρ' a' w' h1 h2 h3

theorem awp_seq_k {P : Program} {n : Nat} {Q : Exit → St → Prop} {st : St} {x y : Code} (h : ∀ K : St → Prop, (∀ s, AWp P n y Q s → K s) → AWp P n x (then_ K Q) st) : AWp P n (.seq x y) Q st :=
  awp_seq (h _ fun _ h => h)
theorem then_normal (K : St → Prop) (Q : Exit → St → Prop) (s : St) : then_ K Q .normal s = K s := rfl
theorem then_exit (K : St → Prop) (Q : Exit → St → Prop) (id : Nat) (s : St) : then_ K Q (.exit id) s = Q (.exit id) s := rfl
theorem then_ret (K : St → Prop) (Q : Exit → St → Prop) (s : St) : then_ K Q .ret s = Q .ret s := rfl
theorem inBlock_normal (id : Nat) (Q : Exit → St → Prop) (s : St) : inBlock_ id Q .normal s = Q .normal s := rfl
theorem inBlock_ret (id : Nat) (Q : Exit → St → Prop) (s : St) : inBlock_ id Q .ret s = Q .ret s := rfl
theorem inBlock_exit (id id' : Nat) (Q : Exit → St → Prop) (s : St) : inBlock_ id Q (.exit id') s = if id' = id then Q .normal s else Q (.exit id') s := rfl
theorem ended_normal {P : Program} {fn : Func} {n : Nat} {v : S} {H' : Heap} (st : St) : ended P fn n v H' .normal st = fin P fn n v H' st := rfl
theorem ended_ret {P : Program} {fn : Func} {n : Nat} {v : S} {H' : Heap} (st : St) : ended P fn n v H' .ret st = fin P fn n v H' st := rfl
end Go.Abs

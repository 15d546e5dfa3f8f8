/- The abstract machine: the operations on memory are described rightly. -/
import Derived.Test.YtcihpgdmldkjfaaAbsH
namespace Go.Abs
open Go

theorem one_of_rel {R : Rl} {c : Cell} {v : Value} (h : CRel R c v) (hc : c ≠ .undef) : v.oneCell' = true := by
  cases c <;> first | exact absurd rfl hc | skip
  all_goals simp only [CRel] at h
  all_goals first
    | (rw [h]; rfl)
    | (rw [h.2]; rfl)
    | (obtain ⟨_, _, _, e, _⟩ := h; rw [e]; rfl)
    | (obtain ⟨_, _, e, _⟩ := h; rw [e]; rfl)
    | (obtain ⟨_, e, _⟩ := h; rw [e]; rfl)

theorem cells_of_one {v : Value} (h : v.oneCell' = true) : v.cells = #[v] := by
  cases v <;> first | rfl | (simp [Value.oneCell'] at h)

theorem cellsV_sound {R : Rl} {s : S} {cs : List Cell} (h : cellsV s = some cs) {v : Value} (hv : SRel R s v) : LRel R cs v.cells.toList := by
  unfold cellsV at h
  split at h
  · simp at h
  · rename_i c hne
    obtain rfl := Option.some.inj h
    have h1 : CRel R c v := hv
    have h2 := one_of_rel h1 (by rintro rfl; exact hne rfl)
    rw [cells_of_one h2]
    simp only [LRel]
    exact ⟨v, [], rfl, h2, h1, rfl⟩
  · rename_i xs
    obtain rfl := Option.some.inj h
    obtain ⟨vs, rfl, hl⟩ := hv
    exact hl
  · simp at h

theorem LRel.one {R : Rl} {cs : List Cell} {vs : List Value} (h : LRel R cs vs) : ∀ v ∈ vs, v.oneCell' = true := by
  intro v hv
  obtain ⟨i, hi⟩ := List.getElem?_of_mem hv
  have hlt : i < cs.length := by rw [← h.length]; exact (List.getElem?_eq_some_iff.1 hi).1
  obtain ⟨v', h1, h2, h3⟩ := h.get (List.getElem?_eq_getElem hlt)
  rw [hi] at h1
  obtain rfl := Option.some.inj h1
  exact h2

section
variable {P : Program} {fr : List S} {H : Heap} {K : S → Heap → Prop} {o : Oper}

theorem lrel_vOf {R : Rl} {vs : List Value} (h : vs.all Value.oneCell' = true) : LRel R (vs.map vOf) vs := by
  refine LRel.of_get (by simp) fun i c hi => ?_
  rw [List.getElem?_map, Option.map_eq_some_iff] at hi
  obtain ⟨v, h1, rfl⟩ := hi
  exact ⟨v, h1, List.all_eq_true.1 h v (List.mem_of_getElem? h1), vOf_sound R v⟩

/-- A new block out of cells that are described. -/
theorem push_lrel {E : Env} {ρ : Nat → Place} {w : World} (h : HRel E ρ w H) {cs : List Cell} {vs : Array Value} (hl : LRel (E.rl H.length ρ) cs vs.toList) (el : TypeId) :
    HRel E (upd ρ H.length ⟨w.heap.size, 0, vs.size⟩) { w with heap := w.heap.push (.cells vs el) } (H ++ [some cs]) := by
  refine h.push (arr := vs) (el := el) (fr := (0, 0)) rfl rfl rfl rfl (.inl rfl) (by have := hl.length; simp at this; omega) fun i c hi => ?_
  obtain ⟨v, h1, h2, h3⟩ := hl.get hi
  exact ⟨v, by simpa using h1, h2, h3.mono (rl_le_upd E ρ H.length H.length _ (Nat.le_refl _))⟩

theorem upd_old {ρ : Nat → Place} {m : Nat} {pl : Place} : ∀ p, p < m → upd ρ m pl p = ρ p := fun p hp => by unfold upd; rw [if_neg (by omega)]
theorem upd_new {ρ : Nat → Place} {m : Nat} {pl : Place} : upd ρ m pl m = pl := by unfold upd; rw [if_pos rfl]

theorem og_alloc {t : TypeId} (ho : o.op = .alloc t) (h : ostep P o fr H K) : ∃ s H', OpG P o fr H s H' ∧ K s H' := by
  simp only [ostep, ho] at h
  split at h
  · rename_i ti ht
    obtain ⟨i1, d1, hs1⟩ := ti_spec ht
    split at h
    · rename_i z hz
      refine ⟨_, _, opg_run (by simp) fun E ρ a w hE hs => ?_, h⟩
      obtain ⟨v, h1, h2, h3⟩ := hs1.run_zero hz w
      refine ⟨.pointer (some ⟨w.heap.size, 0, none⟩), _, upd ρ H.length ⟨w.heap.size, 0, v.cells.size⟩, .inl ?_, upd_old, push_lrel hs.heap (by rw [h3]; exact lrel_vOf h2) t, ?_⟩
      · simp [execOp, ho, Instr.alloc, h1, newVar, newRow]
      · simp only [SRel, VRel, CRel]
        refine ⟨by simp [Env.rl], ?_⟩
        simp [Env.rl, upd_new]
    · exact h.elim
  · exact h.elim

theorem og_box {t : TypeId} {x : Operand} (ho : o.op = .box t x) (h : ostep P o fr H K) : ∃ s H', OpG P o fr H s H' ∧ K s H' := by
  simp only [ostep, ho] at h
  split at h
  · rename_i cs hcs
    refine ⟨_, _, opg_run (by simp) fun E ρ a w hE hs => ?_, h⟩
    have hl := cellsV_sound hcs (ev_sound hs.fr x)
    refine ⟨.pointer (some ⟨w.heap.size, 0, none⟩), _, upd ρ H.length ⟨w.heap.size, 0, (a.eval x).cells.size⟩, .inl ?_, upd_old, push_lrel hs.heap hl t, ?_⟩
    · simp [execOp, ho, Instr.box, newVar, newRow]
    · simp only [SRel, VRel, CRel]
      refine ⟨by simp [Env.rl], ?_⟩
      simp [Env.rl, upd_new]
  · exact h.elim

/-- Parts put into their places, abstractly and really. -/
theorem set_fold {R : Rl} {cells : List Cell} {arr : Array Value} (h : LRel R cells arr.toList) {cs : List Cell} {vs : Array Value} (hv : LRel R cs vs.toList) {off : Nat} (hle : off + cs.length ≤ cells.length) :
    LRel R (splice cells off cs) (vs.zipIdx.foldl (fun a (c, j) => a.setIfInBounds (off + j) c) arr).toList := by
  have hfold : ∀ (l : List Value) (k : Nat) (b : Array Value), ((l.zipIdx k).foldl (fun a (x : Value × Nat) => a.setIfInBounds (off + x.2) x.1) b) = wrA b (off + k) l := by
    intro l
    induction l with
    | nil => intro k b; rfl
    | cons v r ih => intro k b; simp only [List.zipIdx_cons, List.foldl_cons]; rw [ih]; rfl
  have e : vs.zipIdx.foldl (fun a (c, j) => a.setIfInBounds (off + j) c) arr = wrA arr off vs.toList := by
    rw [← Array.foldl_toList]
    simpa using hfold vs.toList 0 arr
  rw [e]
  have hlc := h.length
  have hlv := hv.length
  simp at hlc
  refine LRel.of_get ?_ fun i c hi => ?_
  · simp only [Array.length_toList, wrA_size, splice, List.length_append, List.length_take, List.length_drop]
    omega
  · have hg := wrA_get vs.toList arr off i (by rw [hlv]; omega)
    rw [Array.getElem?_toList, hg]
    unfold splice at hi
    by_cases h1 : i < off
    · rw [List.getElem?_append_left (by simp; omega), List.getElem?_take, if_pos h1] at hi
      rw [if_neg (by omega)]
      simpa using h.get hi
    · rw [List.getElem?_append_right (by simp; omega)] at hi
      simp only [List.length_take, show min off cells.length = off by omega] at hi
      by_cases h2 : i - off < cs.length
      · rw [List.getElem?_append_left h2] at hi
        rw [if_pos (by rw [hlv]; omega)]
        exact hv.get hi
      · rw [List.getElem?_append_right (by omega), List.getElem?_drop, show off + cs.length + (i - off - cs.length) = i by omega] at hi
        rw [if_neg (by rw [hlv]; omega)]
        simpa using h.get hi

theorem splice_one (cells : List Cell) (off : Nat) (c : Cell) (h : off < cells.length) : splice cells off [c] = cells.set off c := by
  unfold splice
  rw [List.set_eq_take_append_cons_drop, if_pos h]
  simp

theorem wrV_splice {cells : List Cell} {off : Nat} {s : S} {cs : List Cell} (h : cellsV s = some cs) (hle : off + cs.length ≤ cells.length) : wrV cells off s = splice cells off cs := by
  unfold cellsV at h
  split at h
  · simp at h
  · obtain rfl := Option.some.inj h
    simp only [wrV]
    rw [splice_one _ _ _ (by simp at hle; omega)]
  · obtain rfl := Option.some.inj h
    rfl
  · simp at h

theorem fillK_sound {R : Rl} {a : Act} (hf : FRel R fr a) {place : Nat → Option (Nat × Nat)} {KK : List Cell → Prop} : ∀ (parts : List (Nat × Operand)) (cells : List Cell) (arr : Array Value),
    LRel R cells arr.toList → fillK fr place KK cells parts → ∃ cs vs, KK cs ∧ Instr.fill place arr (parts.map fun (i, x) => (i, a.eval x)) = some vs ∧ LRel R cs vs.toList
  | [], cells, arr, hl, h => ⟨cells, arr, h, rfl, hl⟩
  | (i, x) :: r, cells, arr, hl, h => by
    simp only [fillK] at h
    split at h
    · rename_i off size cs hp hcs
      obtain ⟨h1, h2, h3⟩ := h
      have hv := cellsV_sound hcs (ev_sound hf x)
      have hlv := hv.length
      have hlc := hl.length
      simp at hlv hlc
      rw [wrV_splice hcs (by omega)] at h3
      obtain ⟨cs', vs, k1, k2, k3⟩ := fillK_sound hf r _ _ (set_fold hl hv (off := off) (by omega)) h3
      refine ⟨cs', vs, k1, ?_, k3⟩
      simp only [List.map_cons, Instr.fill, hp]
      rw [if_neg (by simp; omega)]
      exact k2
    · exact h.elim

theorem fillK_uniform {place : Nat → Option (Nat × Nat)} {KK : List Cell → Prop} : ∀ (parts : List (Nat × Operand)) (cells : List Cell), fillK fr place KK cells parts → ∃ cs, KK cs ∧ fillK fr place (fun c => c = cs) cells parts
  | [], cells, h => ⟨cells, h, rfl⟩
  | (i, x) :: r, cells, h => by
    simp only [fillK] at h ⊢
    split at h
    · rename_i off size cs hp hcs
      obtain ⟨h1, h2, h3⟩ := h
      obtain ⟨cs', k1, k2⟩ := fillK_uniform r _ h3
      exact ⟨cs', k1, h1, h2, k2⟩
    · exact h.elim

theorem run_mapM_list {α β : Type} (f : α → Sem β) (g : α → β) (w : World) : ∀ (l : List α), (∀ x ∈ l, (f x).run P w = .ok (g x) w) → (l.mapM f).run P w = .ok (l.map g) w
  | [], _ => by simp
  | x :: r, h => by
    rw [List.mapM_cons, Sem.run_bind, h x (by simp)]
    simp only [Result.andThen_ok, Sem.run_bind]
    rw [run_mapM_list f g w r (fun y hy => h y (by simp [hy]))]
    simp
theorem run_mapM {α β : Type} (f : α → Sem β) (g : α → β) (w : World) (l : Array α) (h : ∀ x ∈ l.toList, (f x).run P w = .ok (g x) w) : (l.mapM f).run P w = .ok (l.map g) w := by
  rw [Array.mapM_eq_mapM_toList, Sem.run_map, run_mapM_list f g w l.toList h]
  simp only [Result.andThen_ok, Result.ok.injEq, and_true]
  apply Array.ext'
  simp

theorem og_build {t : TypeId} {parts : Array (Nat × Operand)} (ho : o.op = .build t parts) (h : ostep P o fr H K) : ∃ s H', OpG P o fr H s H' ∧ K s H' := by
  simp only [ostep, ho] at h
  split at h
  · rename_i ti ht
    obtain ⟨i1, d1, hs1⟩ := ti_spec ht
    split at h
    · rename_i z n e hz hk
      have ed := tkOf_array (hk.symm.trans hs1.kind)
      split at h
      · rename_i ei hei
        obtain ⟨i2, d2, hs2⟩ := ti_spec hei
        obtain ⟨cs, hK, hu⟩ := fillK_uniform _ _ h
        refine ⟨_, _, opg_run (Nat.le_refl _) fun E ρ a w hE hs => ?_, hK⟩
        obtain ⟨v, h1, h2, h3⟩ := hs1.run_zero hz w
        subst h3
        obtain ⟨cs', vs, rfl, k2, k3⟩ := fillK_sound hs.fr _ _ v.cells (lrel_vOf h2) hu
        have u1 := hs1.run_underlying w
        rw [ed] at u1
        refine ⟨.agg vs, w, ρ, .inl ?_, fun _ _ => rfl, hs.heap, ⟨vs, rfl, k3⟩⟩
        have hmap : (parts.map fun (x : Nat × Operand) => (x.1, a.eval x.2)).toList = parts.toList.map fun x => (x.1, a.eval x.2) := by simp
        simp only [execOp, ho, Instr.build, Sem.run_bind, h1, Result.andThen_ok, u1, hs2.run_sizeOf w, hmap]
        rw [k2]
        rfl
      · exact h.elim
    · rename_i z fs hz hk
      obtain ⟨F, ed, rfl⟩ := tkOf_struct (hk.symm.trans hs1.kind)
      obtain ⟨hall, h⟩ := h
      have hfi : ∀ f ∈ F.toList, ∃ fi, tiOf P f.type = some fi := fun f hf => by
        have := List.all_eq_true.1 hall (f.offset, f.type) (by simpa using ⟨f, by simpa using hf, rfl, rfl⟩)
        exact Option.isSome_iff_exists.1 this
      obtain ⟨cs, hK, hu⟩ := fillK_uniform _ _ h
      refine ⟨_, _, opg_run (Nat.le_refl _) fun E ρ a w hE hs => ?_, hK⟩
      obtain ⟨v, h1, h2, h3⟩ := hs1.run_zero hz w
      subst h3
      obtain ⟨cs', vs, rfl, k2, k3⟩ := fillK_sound hs.fr _ _ v.cells (lrel_vOf h2) hu
      have u1 := hs1.run_underlying w
      rw [ed] at u1
      refine ⟨.agg vs, w, ρ, .inl ?_, fun _ _ => rfl, hs.heap, ⟨vs, rfl, k3⟩⟩
      have hmap : (parts.map fun (x : Nat × Operand) => (x.1, a.eval x.2)).toList = parts.toList.map fun x => (x.1, a.eval x.2) := by simp
      have hM := run_mapM (P := P) (fun f : Field => do pure (f.offset, ← sizeOf f.type)) (fun f => (f.offset, ((tiOf P f.type).map (·.size)).getD 0)) w F (fun f hf => by
        obtain ⟨fi, hfi⟩ := hfi f hf
        obtain ⟨i2, d2, hs2⟩ := ti_spec hfi
        simp [hs2.run_sizeOf w, hfi])
      have hpl : (fun (i : Nat) => (F.map fun f => (f.offset, ((tiOf P f.type).map (·.size)).getD 0))[i]?) = placeS P (F.toList.map fun f => (f.offset, f.type)) := by
        funext i
        rw [placeS, List.getElem?_map, Array.getElem?_map, Array.getElem?_toList]
        cases hF : F[i]? with
        | none => rfl
        | some f =>
          obtain ⟨fi, hfi⟩ := hfi f (by
            have : F.toList[i]? = some f := by simpa using hF
            exact List.mem_of_getElem? this)
          simp [hfi]
      rw [← hpl] at k2
      simp only [execOp, ho, Instr.build, Sem.run_bind, h1, Result.andThen_ok, u1, hM, hmap]
      rw [k2]
      rfl
    · exact h.elim
  · exact h.elim
end
end Go.Abs

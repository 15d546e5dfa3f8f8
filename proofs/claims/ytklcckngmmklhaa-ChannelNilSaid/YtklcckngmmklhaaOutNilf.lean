/- Texts that the proof stands on, put together: the abstract machine, and what functions do over it. -/
import Derived.Test.YtklcckngmmklhaaOutNile
import Derived.OpenShut
import Derived.Handed
import Derived.Carry
/- The abstract machine: the entry: arguments that read as data are described by cells; a law that is Good answers as_ its row says. -/
namespace Go.Abs
open Go Go.ChangeShapes Go.WideShapes Go.RowKit

/-- All old blocks may be looked at; nothing is handed over. -/
def R0 (W : World) : Rl := ⟨fun b => b < W.heap.size, W.heap, 0, fun _ => ⟨0, 0, 0⟩⟩

/-- What reads as_ data of this type is described by cells of this shape. -/
def Rd (P : Program) (t : TypeId) {α : Type} (p : α → Prop) (g : α → List Cell) : Prop :=
  ∀ (H : Type) (enc : TypeId × Value → H) (W : World) (fuel : Nat) (vs : List Value) (d : DataW H) (ps : List MemPlace),
    DataW.trod enc P W 0 (fun _ => true) true fuel t vs = some (d, ps) → (∀ x ∈ d.weights P t, x ≤ reachBytes) → ∃ x, p x ∧ LRel (R0 W) (g x) vs

theorem Rd.mono {P : Program} {t : TypeId} {α β : Type} {p : α → Prop} {g : α → List Cell} {p' : β → Prop} {g' : β → List Cell} (h : Rd P t p g) (f : ∀ x, p x → ∃ y, p' y ∧ g x = g' y) : Rd P t p' g' := by
  intro H enc W fuel vs d ps h1 h2
  obtain ⟨x, hx, hr⟩ := h H enc W fuel vs d ps h1 h2
  obtain ⟨y, hy, e⟩ := f x hx
  exact ⟨y, hy, e ▸ hr⟩

section
variable {P : Program} {t e : TypeId}

/-- The fields of a struct, from this offset on: their shapes. -/
inductive Fds (P : Program) : Nat → List Field → Nat → {α : Type} → (α → Prop) → (α → List Cell) → Prop
  | nil (o : Nat) : Fds P o [] o (α := Unit) (fun _ => True) (fun _ => [])
  | cons {o tot : Nat} {f : Field} {fs : List Field} {α β : Type} {p : α → Prop} {g : α → List Cell} {q : β → Prop} {k : β → List Cell}
      (ho : f.offset = o) (h : Rd P f.type p g) (r : Fds P (o + P.cellsOf f.type) fs tot q k) : Fds P o (f :: fs) tot (α := α × β) (fun x => p x.1 ∧ q x.2) (fun x => g x.1 ++ k x.2)

/-- An argument: how it is described. -/
def Av (P : Program) (t : TypeId) (s : V → Prop) : Prop :=
  ∀ (H : Type) (enc : TypeId × Value → H) (W : World) (base : Nat) (v : Value) (d : DataW H) (ps : List MemPlace), Value.okWide P W .any base t v →
    DataW.Trod enc P W 0 (fun _ => true) true t v d ps → (∀ x ∈ d.weights P t, x ≤ reachBytes) → ∃ a, s a ∧ VRel (R0 W) a v

end

/-- Arguments, one for one. -/
def Avs (P : Program) : List TypeId → (List V → Prop) → Prop
  | [], q => q []
  | t :: ts, q => ∃ s : V → Prop, Av P t s ∧ Avs P ts (fun r => ∀ a, s a → q (a :: r))

theorem avs_sound {P : Program} {H : Type} {enc : TypeId × Value → H} {W : World} {base : Nat} : ∀ (ts : List TypeId) (q : List V → Prop) (vs : List Value) (ds : List (DataW H)) (ps : List MemPlace),
    Avs P ts q → DataW.TrodAll enc P W 0 (fun _ => true) true ts vs ds ps → (∀ (j : Nat) t v, ts[j]? = some t → vs[j]? = some v → Value.okWide P W .any base t v) →
    (∀ x ∈ DataW.weightsEach P ts ds, x ≤ reachBytes) → ∃ as_, q as_ ∧ VsRel (R0 W) as_ vs
  | [], q, vs, ds, ps, h, ht, _, _ => by
    obtain ⟨rfl, _, _⟩ := trodAll_nil ht
    exact ⟨[], h, rfl⟩
  | t :: ts, q, vs, ds, ps, h, ht, ho, hw => by
    obtain ⟨s, hs, hr⟩ := h
    cases vs with
    | nil => simp [DataW.TrodAll] at ht
    | cons v vs => cases ds with
      | nil => simp [DataW.TrodAll] at ht
      | cons d ds =>
        obtain ⟨p, r, h1, h2, _⟩ := ht
        obtain ⟨a, ha, hva⟩ := hs H enc W base v d p (ho 0 t v rfl rfl) h1 (fun x hx => hw x (by rw [DataW.weightsEach]; exact List.mem_append_left _ hx))
        obtain ⟨as_, has, hvs⟩ := avs_sound ts _ vs ds r hr h2 (fun j t' v' h3 h4 => ho (j + 1) t' v' (by simpa using h3) (by simpa using h4)) (fun x hx => hw x (by rw [DataW.weightsEach]; exact List.mem_append_right _ hx))
        exact ⟨a :: as_, has a ha, v, vs, rfl, hva, hvs⟩

theorem trodAll_below {P : Program} {H : Type} {enc : TypeId × Value → H} {W W' : World} (hl : laidOutB P = true) (hb : Below W.heap.size W W') : ∀ (ts : List TypeId) (vs : List Value) (ds : List (DataW H)) (ps : List MemPlace),
    (∀ t ∈ ts, P.readableRec t = true ∧ t < P.types.size) → DataW.TrodAll enc P W 0 (fun _ => true) true ts vs ds ps → (∀ x ∈ ps, x.block < W.heap.size) →
    DataW.TrodAll enc P W' 0 (fun b => decide (b < W.heap.size)) true ts vs ds ps
  | [], vs, ds, ps, _, ht, _ => by
    obtain ⟨rfl, rfl, rfl⟩ := trodAll_nil ht
    exact rfl
  | t :: ts, vs, ds, ps, hr, ht, hlt => by
    cases vs with
    | nil => simp [DataW.TrodAll] at ht
    | cons v vs => cases ds with
      | nil => simp [DataW.TrodAll] at ht
      | cons d ds =>
        obtain ⟨p, r, h1, h2, rfl⟩ := ht
        exact ⟨p, r, Below.trod hl (hr t (by simp)).1 (hr t (by simp)).2 h1 hb (fun x hx => hlt x (List.mem_append_left _ hx)),
          trodAll_below hl hb ts vs ds r (fun t' h => hr t' (by simp [h])) h2 (fun x hx => hlt x (List.mem_append_right _ hx)), rfl⟩

/-- A law of which we know that it is Good answers as_ its row says: true, and its arguments read as_ they did. -/
theorem law_lifted {C : Checked} {os : Os} {f : FuncId} {fn : Func} {s : ChangeSpec} {H : Type} {enc : TypeId × Value → H} (own : ownKnob C.prog.godebug = none) (started : os.Started) (noInit : C.prog.inits.idxOf? f = none) (hfn : C.prog.funcs[f]? = some fn)
    (hl : laidOutB C.prog = true)
    (witness : ∃ (w : World) (tape : Tape) (i : Input), w.os = os ∧ (w.forCall tape i).Shaped C.prog ∧ i.vars = [] ∧ Input.okWide C.prog (w.forCall tape i) .any w.heap.size f i ∧
      s.pre6 enc C.prog fn [] false (w.forCall tape i).memory i.args ∧ ({} : Assume).holds C.prog (lone (Frame.enter C.prog f i.args .normal) [] (w.forCall tape i)))
    (tb : TypeId) (hres : fn.resultTypes = #[tb]) (htb : C.prog.underlying tb = some .bool) (hvars : s.vars = [])
    (hspec : ∀ ds : List (DataW H), ds.length = fn.params.toList.length → s.fn H ds = { results := [.lit (.bool true)], args := ds })
    (hread : ∀ t ∈ fn.params.toList, C.prog.readableRec t = true ∧ t < C.prog.types.size)
    (good : Avs C.prog fn.params.toList (fun as_ => Good C.prog f as_ [] (sc (.bool true)) [])) :
    ReturnsInHanded {} C os f .any (s.pre6 enc C.prog fn [] false) (s.post enc C.prog fn false true false false) := by
  have key := returnsInHanded_of_change_and (a := {}) (enc := enc) (s := s) (conds := []) (apart := false) (fresh := true) (handsOn := false) (again := false) (X := fun _ _ => True) (fun _ _ _ _ h => h) own started noInit hfn
    (by
      obtain ⟨w, tape, i, h1, h2, h3, h4, h5, h6⟩ := witness
      exact ⟨w, tape, i, h1, h2, h3, h4, ⟨⟨h5.1, trivial⟩, h5.2⟩, h6⟩) ?_
  · have e : (fun w args => (s.pre enc C.prog fn [] false w args ∧ True) ∧ sizedMet enc C.prog fn (OpenSpec.ofChange s) false w args) = s.pre6 enc C.prog fn [] false := by
      funext w args
      unfold ChangeSpec.pre6
      rw [and_true]
    rw [e] at key
    exact key
  · intro W base args ds gs before hval hW _ hwt _ _
    obtain ⟨p, q, hA, hV, hps, hfz, hnd⟩ := hW
    have hW' : DataW.Whole enc C.prog fn.params.toList s.vars false W args.toList ds gs before := ⟨p, q, hA, hV, hps, hfz, hnd⟩
    have hg : gs = [] ∧ q = [] := by
      rw [hvars] at hV
      cases gs with
      | nil => exact ⟨rfl, hV⟩
      | cons _ _ => exact hV.elim
    obtain ⟨rfl, rfl⟩ := hg
    rw [List.append_nil] at hps
    subst hps
    rw [List.append_nil] at hwt
    have hlenA : ∀ (ts : List TypeId) (vs : List Value) (ds : List (DataW H)) (ps : List MemPlace), DataW.TrodAll enc C.prog W 0 (fun _ => true) true ts vs ds ps → ds.length = ts.length := by
      intro ts
      induction ts with
      | nil => intro vs ds ps h; obtain ⟨_, rfl, _⟩ := trodAll_nil h; rfl
      | cons t ts ih =>
        intro vs ds ps h
        cases vs with
        | nil => simp [DataW.TrodAll] at h
        | cons v vs => cases ds with
          | nil => simp [DataW.TrodAll] at h
          | cons d ds =>
            obtain ⟨_, _, _, h2, _⟩ := h
            simp [ih _ _ _ h2]
    have hlen := hlenA _ _ _ _ hA
    have hwt' : ∀ x ∈ DataW.weightsEach C.prog fn.params.toList ds, x ≤ reachBytes := by
      intro x hx
      rw [List.all_eq_true] at hwt
      have hx' : x ∈ DataW.weightsEach C.prog (fn.params.toList ++ s.plain.varTypes C.prog) ds := by
        have : ∀ (ts us : List TypeId) (ds : List (DataW H)), ds.length = ts.length → DataW.weightsEach C.prog (ts ++ us) ds = DataW.weightsEach C.prog ts ds := by
          intro ts
          induction ts with
          | nil => intro us ds h; have : ds = [] := List.eq_nil_of_length_eq_zero h; subst this; cases us <;> rfl
          | cons t ts ih =>
            intro us ds h
            cases ds with
            | nil => simp at h
            | cons d ds => rw [List.cons_append, DataW.weightsEach, DataW.weightsEach, ih us ds (by simpa using h)]
        rw [this _ _ _ hlen]; exact hx
      simpa using hwt x hx'
    obtain ⟨as_, hgood, hrel⟩ := avs_sound _ _ _ _ _ good hA (fun j t v h1 h2 => hval j t v (by simpa using h1) (by simpa using h2)) hwt'
    obtain ⟨_, _, hg⟩ := hgood
    let E : Env := ⟨W, fun b => b < W.heap.size, fun _ => False⟩
    have hE : E.Ok := ⟨fun b h => h, fun b _ h => h, fun b h => h.elim⟩
    have call := hg E (fun _ => ⟨0, 0, 0⟩) W args.toList hE rfl (fun b => ⟨fun h => h.elim, fun ⟨p, cs, h, _⟩ => by simp at h⟩)
      ⟨rfl, rfl, rfl, Nat.le_refl _, fun _ _ _ => rfl, fun p cs h => by simp at h, fun p q cs ds h => by simp at h, fun p cs h => by simp at h, fun p cs h => by simp at h⟩ hrel
    rw [Array.toArray_toList] at call
    refine Calls.mono call ?_
    rintro ee w' ⟨rv, ρ', rfl, _, hH, hS⟩
    refine ⟨rv, rfl, ?_⟩
    have hrv : rv = .bool true := by simpa [SRel, VRel, CRel] using hS
    subst hrv
    have hb : Below W.heap.size W w' := ⟨hH.os, hH.tape, hH.output, hH.size, fun k hk => hH.frame k hk (fun h => h)⟩
    have hold : ∀ x ∈ before, x.block < W.heap.size := fun x hx => hW'.lt x hx
    refine ⟨ds, [], before, [], before, [], hW', ?_, ?_, ?_, Below.frame hb _, fun h => by cases h⟩
    · rw [List.append_nil, hspec ds hlen, hres]
      exact trodAll_mk1 ⟨1, by simp [DataW.trod, Value.cells, htb]⟩
    · rw [List.append_nil, hspec ds hlen]
      exact trodAll_below hl hb _ _ _ _ hread hA hold
    · rw [List.append_nil, hspec ds hlen, hvars]
      exact rfl
end Go.Abs

/- The abstract machine: the entry: structs that read as data, told by their offsets and types. -/
namespace Go.Abs
open Go Go.ChangeShapes Go.WideShapes Go.RowKit

/-- A struct's offsets and types. -/
def stF (P : Program) (t : TypeId) : Option (List (Nat × TypeId)) := match P.underlying t with
  | some (.struct fs) => some (fs.toList.map fun f => (f.offset, f.type))
  | _ => none
inductive Fdp (P : Program) : Nat → List (Nat × TypeId) → Nat → {α : Type} → (α → Prop) → (α → List Cell) → Prop
  | nil (o : Nat) : Fdp P o [] o (α := Unit) (fun _ => True) (fun _ => [])
  | cons {o tot off : Nat} {t : TypeId} {fs : List (Nat × TypeId)} {α β : Type} {p : α → Prop} {g : α → List Cell} {q : β → Prop} {k : β → List Cell}
      (ho : off = o) (h : Rd P t p g) (r : Fdp P (o + P.cellsOf t) fs tot q k) : Fdp P o ((off, t) :: fs) tot (α := α × β) (fun x => p x.1 ∧ q x.2) (fun x => g x.1 ++ k x.2)
end Go.Abs


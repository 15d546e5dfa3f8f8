/- Texts that the proof stands on, put together: the abstract machine, and what functions do over it. -/
import Derived.Orders
import Derived.Below
import Derived.Deep.LoopGhost
import Derived.KernelRfl
import Derived.Tactics
/- The abstract machine: values, memory, and what it means that a real state is described by an abstract one. -/
namespace Go.Abs
open Go
structure Place where
  blk : Nat
  dl : Nat
  room : Nat
inductive Cell where
  | undef
  | bool (b : Bool)
  | int (k : IntKind) (n : Int)
  | str (s : ByteArray)
  | nilp
  | ptr (p off : Nat)
  | nils
  | slc (p off len sz : Nat)
  | ro (n : Nat) (cs : List Cell)
  | rop (cs : List Cell)
  | nilf
  | anyb
  | fn (f : Nat) (cap : List Cell)
inductive V where
  | c (x : Cell)
  | a (xs : List Cell)
inductive S where
  | v (x : V)
  | t (xs : List V)
abbrev Heap := List (Option (List Cell))
structure St where
  fr : List S
  H : Heap
structure Rl where
  T : Nat → Prop
  h0 : Array Obj
  n : Nat
  ρ : Nat → Place
section
variable (R : Rl)
mutual
def CRel : Cell → Value → Prop
  | .undef, _ => True
  | .bool b, v => v = .bool b
  | .int k n, v => v = .int k n
  | .str s, v => v = .string s
  | .nilp, v => v = .pointer none
  | .ptr p o, v => p < R.n ∧ v = .pointer (some ⟨(R.ρ p).blk, (R.ρ p).dl + o, none⟩)
  | .nils, v => v = .slice none 0 0
  | .slc p o n sz, v => p < R.n ∧ ∃ a c, v = .slice a n c ∧ n ≤ c ∧
      ((a = some ⟨(R.ρ p).blk, (R.ρ p).dl + o, none⟩ ∧ (R.ρ p).dl + o + c * sz ≤ (R.ρ p).room) ∨ c = 0)
  | .ro n cs, v => ∃ a c, v = .slice a n c ∧ n ≤ c ∧ (a = none → n = 0) ∧ ∀ x, a = some x → cs ≠ [] → x.spot = none ∧ R.T x.block ∧ MRel cs x.block x.off
  | .rop cs, v => ∃ b o, v = .pointer (some ⟨b, o, none⟩) ∧ R.T b ∧ MRel cs b o
  | .nilf, v => v = .nilFunc
  | .anyb, v => ∃ b, v = .bool b
  | .fn f cap, v => ∃ vs, v = .func (.func f) #[] vs ∧ LRel cap vs.toList
def MRel : List Cell → Nat → Nat → Prop
  | [], _, _ => True
  | c :: cs, b, o => (∃ arr el fr v, R.h0[b]? = some (.cells arr el fr) ∧ arr[o]? = some v ∧ v.oneCell' = true ∧ CRel c v) ∧ MRel cs b (o + 1)
def LRel : List Cell → List Value → Prop
  | [], vs => vs = []
  | c :: cs, vs => ∃ v vs', vs = v :: vs' ∧ v.oneCell' = true ∧ CRel c v ∧ LRel cs vs'
end
def VRel : V → Value → Prop
  | .c x, v => CRel R x v
  | .a xs, v => ∃ vs, v = .agg vs ∧ LRel R xs vs.toList
def VsRel : List V → List Value → Prop
  | [], vs => vs = []
  | c :: cs, vs => ∃ v vs', vs = v :: vs' ∧ VRel R c v ∧ VsRel cs vs'
def SRel : S → Value → Prop
  | .v x, v => VRel R x v
  | .t xs, v => ∃ vs, v = .tuple vs ∧ VsRel R xs vs.toList
end
structure Rl.Le (R R' : Rl) : Prop where
  T : ∀ b, R.T b → R'.T b ∧ R'.h0[b]? = R.h0[b]?
  n : ∀ p, p < R.n → p < R'.n ∧ R'.ρ p = R.ρ p
theorem Rl.Le.refl (R : Rl) : R.Le R := ⟨fun _ h => ⟨h, rfl⟩, fun _ h => ⟨h, rfl⟩⟩
theorem Rl.Le.trans {a b c : Rl} (h : a.Le b) (k : b.Le c) : a.Le c :=
  ⟨fun x hx => ⟨(k.T x (h.T x hx).1).1, ((k.T x (h.T x hx).1).2).trans (h.T x hx).2⟩, fun p hp => ⟨(k.n p (h.n p hp).1).1, ((k.n p (h.n p hp).1).2).trans (h.n p hp).2⟩⟩
mutual
theorem CRel.mono {R R' : Rl} (h : R.Le R') : ∀ (c : Cell) (v : Value), CRel R c v → CRel R' c v
  | .undef, _, _ => by simp [CRel]
  | .bool b, v, k => by simpa [CRel] using k
  | .int _ _, v, k => by simpa [CRel] using k
  | .str s, v, k => by simpa [CRel] using k
  | .nilp, v, k => by simpa [CRel] using k
  | .ptr p o, v, k => by
    simp only [CRel] at k ⊢
    rw [(h.n p k.1).2]
    exact ⟨(h.n p k.1).1, k.2⟩
  | .nils, v, k => by simpa [CRel] using k
  | .slc p o n sz, v, k => by
    simp only [CRel] at k ⊢
    rw [(h.n p k.1).2]
    exact ⟨(h.n p k.1).1, k.2⟩
  | .ro n cs, v, k => by
    simp only [CRel] at k ⊢
    obtain ⟨a, c, e1, e2, e3, e4⟩ := k
    refine ⟨a, c, e1, e2, e3, fun x hx hne => ?_⟩
    obtain ⟨f1, f2, f3⟩ := e4 x hx hne
    exact ⟨f1, (h.T _ f2).1, MRel.mono h cs x.block f2 x.off f3⟩
  | .rop cs, v, k => by
    simp only [CRel] at k ⊢
    obtain ⟨b, o, e1, e2, e3⟩ := k
    exact ⟨b, o, e1, (h.T _ e2).1, MRel.mono h cs b e2 o e3⟩
  | .nilf, v, k => by simpa [CRel] using k
  | .anyb, v, k => by simpa [CRel] using k
  | .fn f cap, v, k => by
    simp only [CRel] at k ⊢
    obtain ⟨vs, e1, e2⟩ := k
    exact ⟨vs, e1, LRel.mono h cap vs.toList e2⟩
theorem MRel.mono {R R' : Rl} (h : R.Le R') : ∀ (cs : List Cell) (b : Nat), R.T b → ∀ (o : Nat), MRel R cs b o → MRel R' cs b o
  | [], _, _, _, _ => by simp [MRel]
  | c :: cs, b, hb, o, k => by
    simp only [MRel] at k ⊢
    obtain ⟨⟨arr, el, fr, v, e1, e2, e4, e3⟩, k2⟩ := k
    exact ⟨⟨arr, el, fr, v, by rw [(h.T b hb).2]; exact e1, e2, e4, CRel.mono h c v e3⟩, MRel.mono h cs b hb (o + 1) k2⟩
theorem LRel.mono {R R' : Rl} (h : R.Le R') : ∀ (cs : List Cell) (vs : List Value), LRel R cs vs → LRel R' cs vs
  | [], vs, k => by simpa [LRel] using k
  | c :: cs, vs, k => by
    simp only [LRel] at k ⊢
    obtain ⟨v, vs', e1, e4, e2, e3⟩ := k
    exact ⟨v, vs', e1, e4, CRel.mono h c v e2, LRel.mono h cs vs' e3⟩
end
theorem VRel.mono {R R' : Rl} (h : R.Le R') (x : V) (v : Value) (k : VRel R x v) : VRel R' x v := by
  cases x with
  | c x => exact CRel.mono h x v k
  | a xs => obtain ⟨vs, e1, e2⟩ := k; exact ⟨vs, e1, LRel.mono h xs _ e2⟩
theorem VsRel.mono {R R' : Rl} (h : R.Le R') : ∀ (cs : List V) (vs : List Value), VsRel R cs vs → VsRel R' cs vs
  | [], vs, k => by simpa [VsRel] using k
  | c :: cs, vs, k => by
    simp only [VsRel] at k ⊢
    obtain ⟨v, vs', e1, e2, e3⟩ := k
    exact ⟨v, vs', e1, VRel.mono h c v e2, VsRel.mono h cs vs' e3⟩
theorem SRel.mono {R R' : Rl} (h : R.Le R') (x : S) (v : Value) (k : SRel R x v) : SRel R' x v := by
  cases x with
  | v x => exact VRel.mono h x v k
  | t xs => obtain ⟨vs, e1, e2⟩ := k; exact ⟨vs, e1, VsRel.mono h xs _ e2⟩
theorem LRel.length {R : Rl} : ∀ {cs : List Cell} {vs : List Value}, LRel R cs vs → vs.length = cs.length
  | [], vs, k => by simp only [LRel] at k; simp [k]
  | c :: cs, vs, k => by
    simp only [LRel] at k
    obtain ⟨v, vs', rfl, _, _, e3⟩ := k
    simp [LRel.length e3]
theorem LRel.get {R : Rl} : ∀ {cs : List Cell} {vs : List Value}, LRel R cs vs → ∀ {i : Nat} {c : Cell}, cs[i]? = some c → ∃ v, vs[i]? = some v ∧ v.oneCell' = true ∧ CRel R c v
  | [], vs, _, i, c, hi => by simp at hi
  | c :: cs, vs, k, i, d, hi => by
    simp only [LRel] at k
    obtain ⟨v, vs', rfl, e1, e2, e3⟩ := k
    cases i with
    | zero => simp at hi; subst hi; exact ⟨v, rfl, e1, e2⟩
    | succ i => simpa using LRel.get e3 (i := i) (c := d) (by simpa using hi)
theorem LRel.of_get {R : Rl} : ∀ {cs : List Cell} {vs : List Value}, vs.length = cs.length → (∀ (i : Nat) c, cs[i]? = some c → ∃ v, vs[i]? = some v ∧ v.oneCell' = true ∧ CRel R c v) → LRel R cs vs
  | [], vs, h, _ => by simp at h; simp [LRel, h]
  | c :: cs, [], h, _ => by simp at h
  | c :: cs, v :: vs, h, k => by
    simp only [LRel]
    obtain ⟨v', hv, ho, hr⟩ := k 0 c rfl
    simp at hv
    subst hv
    exact ⟨v, vs, rfl, ho, hr, LRel.of_get (by simpa using h) (fun i d hi => by simpa using k (i + 1) d (by simpa using hi))⟩
theorem MRel.get {R : Rl} : ∀ {cs : List Cell} {b o : Nat}, MRel R cs b o → ∀ {i : Nat} {c : Cell}, cs[i]? = some c → ∃ arr el fr v, R.h0[b]? = some (.cells arr el fr) ∧ arr[o + i]? = some v ∧ v.oneCell' = true ∧ CRel R c v
  | [], b, o, _, i, c, hi => by simp at hi
  | c :: cs, b, o, k, i, d, hi => by
    simp only [MRel] at k
    obtain ⟨⟨arr, el, fr, v, e1, e2, e4, e3⟩, k2⟩ := k
    cases i with
    | zero => simp at hi; subst hi; exact ⟨arr, el, fr, v, e1, e2, e4, e3⟩
    | succ i =>
      have := MRel.get k2 (i := i) (c := d) (by simpa using hi)
      simpa [Nat.add_assoc, Nat.add_comm 1 i] using this
theorem MRel.of_get {R : Rl} : ∀ {cs : List Cell} {b o : Nat}, (∀ (i : Nat) c, cs[i]? = some c → ∃ arr el fr v, R.h0[b]? = some (.cells arr el fr) ∧ arr[o + i]? = some v ∧ v.oneCell' = true ∧ CRel R c v) → MRel R cs b o
  | [], b, o, _ => by simp [MRel]
  | c :: cs, b, o, k => by
    simp only [MRel]
    refine ⟨by simpa using k 0 c rfl, MRel.of_get fun i d hi => ?_⟩
    have := k (i + 1) d (by simpa using hi)
    simpa [Nat.add_assoc, Nat.add_comm 1 i] using this
structure Env where
  w0 : World
  T : Nat → Prop
  img : Nat → Prop
def Env.rl (E : Env) (n : Nat) (ρ : Nat → Place) : Rl := ⟨E.T, E.w0.heap, n, ρ⟩
structure Env.Ok (E : Env) : Prop where
  old : ∀ b, E.T b → b < E.w0.heap.size
  apart : ∀ b, E.T b → ¬ E.img b
  img : ∀ b, E.img b → b < E.w0.heap.size
def Fz (fr : Nat × Nat) (n : Nat) : Prop := fr.1 = fr.2 ∨ (n ≤ fr.1 ∧ fr.1 ≤ fr.2)
theorem Fz.no {fr : Nat × Nat} {n : Nat} (h : Fz fr n) : ∀ i, i < n → ¬ (fr.1 ≤ i ∧ i < fr.2) := by
  intro i hi hh
  rcases h with h | h
  · omega
  · omega
def BRel (R : Rl) (w : World) (pl : Place) (cs : List Cell) : Prop :=
  ∃ arr el fr, w.heap[pl.blk]? = some (.cells arr el fr) ∧ arr.size = pl.room ∧ Fz fr arr.size ∧ pl.dl + cs.length ≤ pl.room ∧
    ∀ (i : Nat) c, cs[i]? = some c → ∃ v, arr[pl.dl + i]? = some v ∧ v.oneCell' = true ∧ CRel R c v
structure HRel (E : Env) (ρ : Nat → Place) (w : World) (H : Heap) : Prop where
  os : w.os = E.w0.os
  tape : w.tape = E.w0.tape
  output : w.output = E.w0.output
  size : E.w0.heap.size ≤ w.heap.size
  frame : ∀ b, b < E.w0.heap.size → ¬ E.img b → w.heap[b]? = E.w0.heap[b]?
  fresh : ∀ p cs, H[p]? = some (some cs) → (ρ p).room ≠ 0 → E.img (ρ p).blk ∨ E.w0.heap.size ≤ (ρ p).blk
  inj : ∀ p q cs ds, H[p]? = some (some cs) → H[q]? = some (some ds) → (ρ p).room ≠ 0 → (ρ q).room ≠ 0 → (ρ p).blk = (ρ q).blk → p = q
  blk : ∀ p cs, H[p]? = some (some cs) → (ρ p).room ≠ 0 → BRel (E.rl H.length ρ) w (ρ p) cs
  emp : ∀ p cs, H[p]? = some (some cs) → (ρ p).room = 0 → cs = []
def FRel (R : Rl) (fr : List S) (a : Act) : Prop :=
  a.defers = [] ∧ a.tmps.size = fr.length ∧ ∀ (i : Nat) s, fr[i]? = some s → ∃ v, a.tmps[i]? = some v ∧ SRel R s v
structure Sim (E : Env) (ρ : Nat → Place) (st : St) (a : Act) (w : World) : Prop where
  fr : FRel (E.rl st.H.length ρ) st.fr a
  heap : HRel E ρ w st.H
def AWp (P : Program) (n : Nat) (c : Code) (Q : Exit → St → Prop) (st : St) : Prop :=
  ∀ (E : Env) (ρ : Nat → Place) (a : Act) (w : World), E.Ok → Sim E ρ st a w →
    c.wp P (fun e a' w' => ∃ st' ρ', Q e st' ∧ (∀ p, p < n → ρ' p = ρ p) ∧ Sim E ρ' st' a' w') a w
section rules
variable {P : Program} {n : Nat} {Q : Exit → St → Prop} {st : St}
theorem AWp.mono {c : Code} {Q' : Exit → St → Prop} (h : AWp P n c Q st) (hq : ∀ e s, Q e s → Q' e s) : AWp P n c Q' st := by
  intro E ρ a w hE hs
  refine wp_mono (h E ρ a w hE hs) ?_
  rintro e a' w' ⟨st', ρ', h1, h2, h3⟩
  exact ⟨st', ρ', hq _ _ h1, h2, h3⟩
theorem awp_skip (h : Q .normal st) : AWp P n .skip Q st := fun _ ρ _ _ _ hs => wp_skip ⟨st, ρ, h, fun _ _ => rfl, hs⟩
theorem awp_exit {id : Nat} (h : Q (.exit id) st) : AWp P n (.exit id) Q st := fun _ ρ _ _ _ hs => wp_exit ⟨st, ρ, h, fun _ _ => rfl, hs⟩
theorem awp_ret (h : Q .ret st) : AWp P n .ret Q st := fun _ ρ _ _ _ hs => wp_ret ⟨st, ρ, h, fun _ _ => rfl, hs⟩
def then_ (next : St → Prop) (Q : Exit → St → Prop) : Exit → St → Prop
  | .normal, s => next s
  | e, s => Q e s
theorem awp_seq {x y : Code} (h : AWp P n x (then_ (AWp P n y Q) Q) st) : AWp P n (.seq x y) Q st := by
  intro E ρ a w hE hs
  refine wp_seq (wp_mono (h E ρ a w hE hs) ?_)
  rintro e a' w' ⟨st', ρ', h1, h2, h3⟩
  cases e with
  | normal =>
    refine wp_mono (h1 E ρ' a' w' hE h3) ?_
    rintro e a'' w'' ⟨st'', ρ'', k1, k2, k3⟩
    exact ⟨st'', ρ'', k1, fun p hp => (k2 p hp).trans (h2 p hp), k3⟩
  | _ => exact ⟨st', ρ', h1, h2, h3⟩
def inBlock_ (id : Nat) (Q : Exit → St → Prop) : Exit → St → Prop
  | .exit id', s => if id' = id then Q .normal s else Q (.exit id') s
  | e, s => Q e s
theorem awp_block {id : Nat} {c : Code} (h : AWp P n c (inBlock_ id Q) st) : AWp P n (.block id c) Q st := by
  intro E ρ a w hE hs
  refine wp_block (wp_mono (h E ρ a w hE hs) ?_)
  rintro e a' w' ⟨st', ρ', h1, h2, h3⟩
  cases e with
  | exit id' =>
    simp only [inBlock_] at h1
    simp only [Exit.inBlock]
    split
    · rename_i he; rw [if_pos he] at h1; exact ⟨st', ρ', h1, h2, h3⟩
    · rename_i he; rw [if_neg he] at h1; exact ⟨st', ρ', h1, h2, h3⟩
  | _ => exact ⟨st', ρ', h1, h2, h3⟩
def SLe (n : Nat) (st st' : St) : Prop :=
  ∀ (E : Env) (ρ : Nat → Place) (a : Act) (w : World), Sim E ρ st a w → ∃ ρ', (∀ p, p < n → ρ' p = ρ p) ∧ Sim E ρ' st' a w
theorem SLe.refl (n : Nat) (st : St) : SLe n st st := fun _ ρ _ _ h => ⟨ρ, fun _ _ => rfl, h⟩
theorem awp_le {c : Code} {st' : St} (hle : SLe n st st') (h : AWp P n c Q st') : AWp P n c Q st := by
  intro E ρ a w hE hs
  obtain ⟨ρ', h1, h2⟩ := hle E ρ a w hs
  refine wp_mono (h E ρ' a w hE h2) ?_
  rintro e a' w' ⟨st', ρ'', k1, k2, k3⟩
  exact ⟨st', ρ'', k1, fun p hp => (k2 p hp).trans (h1 p hp), k3⟩
theorem awp_loop {c : Code} {α : Type} (I : α → St) (μ : α → Nat) (x₀ : α) (h₀ : SLe n st (I x₀))
    (round : ∀ x, AWp P n c (then_ (fun s => ∃ y, μ y < μ x ∧ SLe n s (I y)) Q) (I x)) : AWp P n (.loop c) Q st := by
  intro E ρ a w hE hs
  obtain ⟨ρ0, h1, h2⟩ := h₀ E ρ a w hs
  refine wp_mono (wp_loop_ghost (Q := fun e a' w' => ∃ st' ρ', Q e st' ∧ (∀ p, p < n → ρ' p = ρ0 p) ∧ Sim E ρ' st' a' w')
    (fun m a w => ∃ x ρ', μ x = m ∧ (∀ p, p < n → ρ' p = ρ0 p) ∧ Sim E ρ' (I x) a w) (μ x₀) ⟨x₀, ρ0, rfl, fun _ _ => rfl, h2⟩ ?_) ?_
  · rintro m a w ⟨x, ρ', rfl, k1, k2⟩
    refine wp_mono (round x E ρ' a w hE k2) ?_
    rintro e a' w' ⟨s, ρ'', l1, l2, l3⟩
    cases e with
    | normal =>
      obtain ⟨y, m1, m2⟩ := l1
      obtain ⟨ρ3, o1, o2⟩ := m2 E ρ'' a' w' l3
      exact ⟨μ y, m1, y, ρ3, rfl, fun p hp => (o1 p hp).trans ((l2 p hp).trans (k1 p hp)), o2⟩
    | _ => exact ⟨s, ρ'', l1, fun p hp => (l2 p hp).trans (k1 p hp), l3⟩
  · rintro e a' w' ⟨s, ρ', k1, k2, k3⟩
    exact ⟨s, ρ', k1, fun p hp => (k2 p hp).trans (h1 p hp), k3⟩
end rules
end Go.Abs

/- The abstract machine: forgetting and renaming; frames; conditions. -/
namespace Go.Abs
open Go
structure CM where
  fp : Nat → Option Nat
  mem : Nat → Option (List Cell)
  keep : Bool
  lend : Bool
def cm (m : CM) : Nat → Cell → Cell
  | 0, c => match c with
    | .bool b => .bool b
    | .int k n => .int k n
    | .str s => .str s
    | .nilp => .nilp
    | .nils => if m.lend then .ro 0 [] else .nils
    | .nilf => .nilf
    | .anyb => .anyb
    | _ => .undef
  | d + 1, c => match c with
    | .undef => .undef
    | .bool b => .bool b
    | .int k n => .int k n
    | .str s => .str s
    | .nilp => .nilp
    | .nils => if m.lend then .ro 0 [] else .nils
    | .nilf => .nilf
    | .anyb => .anyb
    | .ptr p o => match m.fp p with
      | some q => .ptr q o
      | none => match m.mem p with
        | some cs => if cs.isEmpty then .undef else .rop ((cs.drop o).map (cm m d))
        | none => .undef
    | .slc p o n sz => match m.fp p with
      | some q => .slc q o n sz
      | none => match m.mem p with
        | some cs => .ro n (((cs.drop o).take (n * sz)).map (cm m d))
        | none => .undef
    | .ro n cs => if m.keep then .ro n (cs.map (cm m d)) else .undef
    | .rop cs => if m.keep then .rop (cs.map (cm m d)) else .undef
    | .fn f cap => .fn f (cap.map (cm m d))
structure CM.Ok (m : CM) (R R' : Rl) : Prop where
  fp : ∀ p q, m.fp p = some q → p < R.n → q < R'.n ∧ R'.ρ q = R.ρ p
  mem : ∀ p cs, m.mem p = some cs → cs ≠ [] → m.fp p = none → p < R.n → R'.T (R.ρ p).blk ∧
    ∀ (i : Nat) c, cs[i]? = some c → ∃ arr el fr v, R'.h0[(R.ρ p).blk]? = some (.cells arr el fr) ∧ arr[(R.ρ p).dl + i]? = some v ∧ v.oneCell' = true ∧ CRel R c v
  keep : m.keep = true → ∀ b, R.T b → R'.T b ∧ R'.h0[b]? = R.h0[b]?
theorem cm_sound {m : CM} {R R' : Rl} (h : m.Ok R R') : ∀ (d : Nat) (c : Cell) (v : Value), CRel R c v → CRel R' (cm m d c) v := by
  intro d
  induction d with
  | zero =>
    intro c v k
    cases c <;> simp only [cm] <;> first | (simp [CRel]; done) | exact k | skip
    split
    · simp only [CRel] at k ⊢
      exact ⟨none, 0, k, Nat.le_refl _, by simp, fun x hx => by simp at hx⟩
    · simpa [CRel] using k
  | succ d ih =>
    have hl : ∀ (cs : List Cell) (vs : List Value), LRel R cs vs → LRel R' (cs.map (cm m d)) vs := by
      intro cs vs k
      refine LRel.of_get (by simp [k.length]) fun i c hi => ?_
      rw [List.getElem?_map, Option.map_eq_some_iff] at hi
      obtain ⟨c0, h1, rfl⟩ := hi
      obtain ⟨v, h2, ho, h3⟩ := k.get h1
      exact ⟨v, h2, ho, ih _ _ h3⟩
    have hm : m.keep = true → ∀ (cs : List Cell) (b o : Nat), R.T b → MRel R cs b o → MRel R' (cs.map (cm m d)) b o := by
      intro hk cs b o hb k
      refine MRel.of_get fun i c hi => ?_
      rw [List.getElem?_map, Option.map_eq_some_iff] at hi
      obtain ⟨c0, h1, rfl⟩ := hi
      obtain ⟨arr, el, fr, v, h2, h3, ho, h4⟩ := k.get h1
      exact ⟨arr, el, fr, v, by rw [(h.keep hk b hb).2]; exact h2, h3, ho, ih _ _ h4⟩
    intro c v k
    cases c with
    | undef => simp [cm, CRel]
    | bool b => simpa [cm, CRel] using k
    | int kk n => simpa [cm, CRel] using k
    | str s => simpa [cm, CRel] using k
    | nilp => simpa [cm, CRel] using k
    | nilf => simpa [cm, CRel] using k
    | anyb => simpa [cm, CRel] using k
    | nils =>
      simp only [cm]
      split
      · simp only [CRel] at k ⊢
        exact ⟨none, 0, k, Nat.le_refl _, by simp, fun x hx => by simp at hx⟩
      · simpa [CRel] using k
    | ptr p o =>
      simp only [CRel] at k
      simp only [cm]
      split
      · rename_i q hq
        obtain ⟨h1, h2⟩ := h.fp p q hq k.1
        simp only [CRel]
        rw [h2]
        exact ⟨h1, k.2⟩
      · rename_i hq
        split
        · rename_i cs hcs
          by_cases hemp : cs.isEmpty = true
          · rw [if_pos hemp]; simp [CRel]
          rw [if_neg hemp]
          obtain ⟨h1, h2⟩ := h.mem p cs hcs (by rintro rfl; exact hemp rfl) hq k.1
          simp only [CRel]
          refine ⟨_, _, k.2, h1, MRel.of_get fun i c hi => ?_⟩
          rw [List.getElem?_map, Option.map_eq_some_iff] at hi
          obtain ⟨c0, h3, rfl⟩ := hi
          rw [List.getElem?_drop] at h3
          obtain ⟨arr, el, fr, v, h4, h5, ho, h6⟩ := h2 _ _ h3
          exact ⟨arr, el, fr, v, h4, by rw [Nat.add_assoc]; exact h5, ho, ih _ _ h6⟩
        · simp [CRel]
    | slc p o n sz =>
      simp only [CRel] at k
      simp only [cm]
      split
      · rename_i q hq
        obtain ⟨h1, h2⟩ := h.fp p q hq k.1
        simp only [CRel]
        rw [h2]
        exact ⟨h1, k.2⟩
      · rename_i hq
        split
        · rename_i cs hcs
          obtain ⟨hp, a, c, e1, e2, e3⟩ := k
          simp only [CRel]
          refine ⟨a, c, e1, e2, fun ha => ?_, fun x hx hne => ?_⟩
          · rcases e3 with ⟨e3, e4⟩ | e3
            · rw [ha] at e3; cases e3
            · omega
          subst hx
          obtain ⟨h1, h2⟩ := h.mem p cs hcs (by rintro rfl; simp at hne) hq hp
          rcases e3 with ⟨e3, e4⟩ | e3
          · obtain rfl := Option.some.inj e3
            refine ⟨rfl, h1, MRel.of_get fun i c hi => ?_⟩
            rw [List.getElem?_map, Option.map_eq_some_iff] at hi
            obtain ⟨c0, h3, rfl⟩ := hi
            rw [List.getElem?_take] at h3
            split at h3
            · rw [List.getElem?_drop] at h3
              obtain ⟨arr, el, fr, v, h4, h5, ho, h6⟩ := h2 _ _ h3
              exact ⟨arr, el, fr, v, h4, by simp only [Nat.add_assoc] at h5 ⊢; exact h5, ho, ih _ _ h6⟩
            · simp at h3
          · exfalso
            apply hne
            have : n = 0 := by omega
            subst this
            simp
        · simp [CRel]
    | ro n cs =>
      simp only [cm]
      split
      · rename_i hk
        simp only [CRel] at k ⊢
        obtain ⟨a, c, e1, e2, e3, e4⟩ := k
        refine ⟨a, c, e1, e2, e3, fun x hx hne => ?_⟩
        obtain ⟨f1, f2, f3⟩ := e4 x hx (by simpa using hne)
        exact ⟨f1, (h.keep hk _ f2).1, hm hk _ _ _ f2 f3⟩
      · simp [CRel]
    | rop cs =>
      simp only [cm]
      split
      · rename_i hk
        simp only [CRel] at k ⊢
        obtain ⟨b, o, e1, e2, e3⟩ := k
        exact ⟨b, o, e1, (h.keep hk _ e2).1, hm hk _ _ _ e2 e3⟩
      · simp [CRel]
    | fn f cap =>
      simp only [cm, CRel] at k ⊢
      obtain ⟨vs, e1, e2⟩ := k
      exact ⟨vs, e1, hl _ _ e2⟩
def vm (f : Cell → Cell) : V → V
  | .c x => .c (f x)
  | .a xs => .a (xs.map f)
def sm (f : Cell → Cell) : S → S
  | .v x => .v (vm f x)
  | .t xs => .t (xs.map (vm f))
theorem lm_sound {R R' : Rl} {f : Cell → Cell} (hf : ∀ c v, CRel R c v → CRel R' (f c) v) {cs : List Cell} {vs : List Value} (k : LRel R cs vs) : LRel R' (cs.map f) vs := by
  refine LRel.of_get (by simp [k.length]) fun i c hi => ?_
  rw [List.getElem?_map, Option.map_eq_some_iff] at hi
  obtain ⟨c0, h1, rfl⟩ := hi
  obtain ⟨v, h2, ho, h3⟩ := k.get h1
  exact ⟨v, h2, ho, hf _ _ h3⟩
theorem vm_sound {R R' : Rl} {f : Cell → Cell} (hf : ∀ c v, CRel R c v → CRel R' (f c) v) {x : V} {v : Value} (k : VRel R x v) : VRel R' (vm f x) v := by
  cases x with
  | c x => exact hf _ _ k
  | a xs => obtain ⟨vs, e1, e2⟩ := k; exact ⟨vs, e1, lm_sound hf e2⟩
theorem vsm_sound {R R' : Rl} {f : Cell → Cell} (hf : ∀ c v, CRel R c v → CRel R' (f c) v) : ∀ {cs : List V} {vs : List Value}, VsRel R cs vs → VsRel R' (cs.map (vm f)) vs
  | [], vs, k => by simpa [VsRel] using k
  | c :: cs, vs, k => by
    simp only [VsRel, List.map_cons] at k ⊢
    obtain ⟨v, vs', e1, e2, e3⟩ := k
    exact ⟨v, vs', e1, vm_sound hf e2, vsm_sound hf e3⟩
theorem sm_sound {R R' : Rl} {f : Cell → Cell} (hf : ∀ c v, CRel R c v → CRel R' (f c) v) {x : S} {v : Value} (k : SRel R x v) : SRel R' (sm f x) v := by
  cases x with
  | v x => exact vm_sound hf k
  | t xs => obtain ⟨vs, e1, e2⟩ := k; exact ⟨vs, e1, vsm_sound hf e2⟩
def idx (p : Nat) : List Nat → Option Nat
  | [] => none
  | q :: r => if q = p then some 0 else (idx p r).map (· + 1)
theorem idx_get {p : Nat} : ∀ {l : List Nat} {j : Nat}, idx p l = some j → l[j]? = some p
  | [], j, h => by simp [idx] at h
  | q :: r, j, h => by
    simp only [idx] at h
    split at h
    · rename_i hq; simp at h; subst h; simp [hq]
    · rw [Option.map_eq_some_iff] at h
      obtain ⟨i, h1, rfl⟩ := h
      simpa using idx_get h1
def vwF (f : Cell → Cell) (keep : List Nat) : Nat → List S → List S
  | _, [] => []
  | i, s :: r => (if keep.contains i then sm f s else .v (.c .undef)) :: vwF f keep (i + 1) r
theorem vwF_length (f : Cell → Cell) (keep : List Nat) : ∀ (fr : List S) (i : Nat), (vwF f keep i fr).length = fr.length
  | [], _ => rfl
  | s :: r, i => by simp [vwF, vwF_length f keep r (i + 1)]
theorem vwF_get (f : Cell → Cell) (keep : List Nat) : ∀ (fr : List S) (i j : Nat) (s : S), (vwF f keep i fr)[j]? = some s →
    ∃ s0, fr[j]? = some s0 ∧ (s = sm f s0 ∨ s = .v (.c .undef))
  | [], i, j, s, h => by simp [vwF] at h
  | s0 :: r, i, 0, s, h => by
    simp only [vwF, List.getElem?_cons_zero, Option.some.injEq] at h
    refine ⟨s0, rfl, ?_⟩
    split at h
    · exact .inl h.symm
    · exact .inr h.symm
  | s0 :: r, i, j + 1, s, h => by
    simp only [vwF, List.getElem?_cons_succ] at h ⊢
    exact vwF_get f keep r (i + 1) j s h
def pick (H : Heap) (f : Cell → Cell) (p : Nat) : Option (List Cell) :=
  match H[p]? with
  | some (some cs) => some (cs.map f)
  | _ => none
def view (π keep : List Nat) (st : St) : St :=
  let f := cm ⟨fun p => idx p π, fun _ => none, true, false⟩ 8
  ⟨vwF f keep 0 st.fr, π.map (pick st.H f)⟩
theorem view_key (E : Env) (ρ : Nat → Place) (π : List Nat) (m : Nat) : ∀ c v, CRel (E.rl m ρ) c v →
    CRel (E.rl π.length fun j => ρ (π.getD j 0)) (cm ⟨fun p => idx p π, fun _ => none, true, false⟩ 8 c) v := by
  refine cm_sound (R := E.rl m ρ) (R' := E.rl π.length fun j => ρ (π.getD j 0)) (m := ⟨fun p => idx p π, fun _ => none, true, false⟩) ⟨fun p q hq hp => ?_, fun p cs hcs => by simp at hcs, fun _ b hb => ⟨hb, rfl⟩⟩ 8
  have := idx_get hq
  have hlt : q < π.length := (List.getElem?_eq_some_iff.1 this).1
  refine ⟨hlt, ?_⟩
  show ρ (π.getD q 0) = ρ p
  rw [List.getD_eq_getElem?_getD, this]; rfl
theorem view_sim {st : St} (π keep : List Nat) (hnd : π.Nodup) {E : Env} {ρ : Nat → Place} {a : Act} {w : World} (hs : Sim E ρ st a w) : Sim E (fun j => ρ (π.getD j 0)) (Abs.view π keep st) a w := by
  have key : ∀ c v, CRel (E.rl st.H.length ρ) c v →
      CRel (E.rl (Abs.view π keep st).H.length fun j => ρ (π.getD j 0)) (cm ⟨fun p => idx p π, fun _ => none, true, false⟩ 8 c) v := by
    have := view_key E ρ π st.H.length
    simpa [Abs.view] using this
  refine ⟨?_, ?_⟩
  · refine ⟨hs.fr.1, by simpa [Abs.view, vwF_length] using hs.fr.2.1, fun i s hi => ?_⟩
    obtain ⟨s0, h1, h2⟩ := vwF_get _ _ _ _ _ _ hi
    obtain ⟨v, h3, h4⟩ := hs.fr.2.2 i s0 h1
    refine ⟨v, h3, ?_⟩
    rcases h2 with rfl | rfl
    · exact sm_sound key h4
    · simp [SRel, VRel, CRel]
  · have hget : ∀ (p : Nat) cs, (Abs.view π keep st).H[p]? = some (some cs) → ∃ q c0, π[p]? = some q ∧ st.H[q]? = some (some c0) ∧ cs = c0.map (cm ⟨fun p => idx p π, fun _ => none, true, false⟩ 8) ∧ π.getD p 0 = q := by
      intro p cs hp
      simp only [Abs.view, List.getElem?_map, Option.map_eq_some_iff] at hp
      obtain ⟨q, h1, h2⟩ := hp
      unfold pick at h2
      split at h2
      · rename_i c0 hc0
        exact ⟨q, c0, h1, hc0, (Option.some.inj h2).symm, by rw [List.getD_eq_getElem?_getD, h1]; rfl⟩
      · simp at h2
    refine ⟨hs.heap.os, hs.heap.tape, hs.heap.output, hs.heap.size, hs.heap.frame, fun p cs hp hr => ?_, fun p q cs ds hp hq hr1 hr2 he => ?_, fun p cs hp hr => ?_, fun p cs hp hr => ?_⟩
    · obtain ⟨q, c0, h1, h2, h3, h4⟩ := hget p cs hp
      show E.img (ρ (π.getD p 0)).blk ∨ _ ≤ (ρ (π.getD p 0)).blk
      have hr' : (ρ (π.getD p 0)).room ≠ 0 := hr
      rw [h4] at hr' ⊢
      exact hs.heap.fresh q c0 h2 hr'
    · obtain ⟨p', c0, h1, h2, h3, h4⟩ := hget p cs hp
      obtain ⟨q', d0, k1, k2, k3, k4⟩ := hget q ds hq
      have he' : (ρ (π.getD p 0)).blk = (ρ (π.getD q 0)).blk := he
      have hr1' : (ρ (π.getD p 0)).room ≠ 0 := hr1
      have hr2' : (ρ (π.getD q 0)).room ≠ 0 := hr2
      rw [h4, k4] at he'
      rw [h4] at hr1'
      rw [k4] at hr2'
      have := hs.heap.inj p' q' c0 d0 h2 k2 hr1' hr2' he'
      subst this
      obtain ⟨hp1, hp2⟩ := List.getElem?_eq_some_iff.1 h1
      obtain ⟨hq1, hq2⟩ := List.getElem?_eq_some_iff.1 k1
      exact (List.getElem_inj hnd).1 (hp2.trans hq2.symm)
    · obtain ⟨q, c0, h1, h2, h3, h4⟩ := hget p cs hp
      have hr' : (ρ (π.getD p 0)).room ≠ 0 := hr
      rw [h4] at hr'
      obtain ⟨arr, el, fr, b1, b2, b3, b4, b5⟩ := hs.heap.blk q c0 h2 hr'
      show BRel _ w (ρ (π.getD p 0)) cs
      rw [h4]
      refine ⟨arr, el, fr, b1, b2, b3, by rw [h3]; simpa using b4, fun i c hi => ?_⟩
      rw [h3, List.getElem?_map, Option.map_eq_some_iff] at hi
      obtain ⟨c1, h5, rfl⟩ := hi
      obtain ⟨v, h6, ho, h7⟩ := b5 i c1 h5
      exact ⟨v, h6, ho, key _ _ h7⟩
    · obtain ⟨q, c0, h1, h2, h3, h4⟩ := hget p cs hp
      have hr' : (ρ (π.getD p 0)).room = 0 := hr
      rw [h4] at hr'
      rw [h3, hs.heap.emp q c0 h2 hr']; rfl
theorem SLe.view {n : Nat} {st : St} (π keep : List Nat) (hn : ∀ p, p < n → π[p]? = some p) (hnd : π.Nodup) : SLe n st (Abs.view π keep st) := by
  intro E ρ a w hs
  refine ⟨fun j => ρ (π.getD j 0), fun p hp => ?_, view_sim π keep hnd hs⟩
  show ρ (π.getD p 0) = ρ p
  rw [List.getD_eq_getElem?_getD, hn p hp]; rfl
/-! Frames. -/
def ud : S := .v (.c .undef)
def vOf : Value → Cell
  | .bool b => .bool b
  | .int k n => .int k n
  | .string s => .str s
  | .pointer none => .nilp
  | .slice none 0 0 => .nils
  | .nilFunc => .nilf
  | _ => .undef
theorem vOf_sound (R : Rl) (v : Value) : CRel R (vOf v) v := by
  unfold vOf
  split <;> simp [CRel]
def ev (fr : List S) : Operand → S
  | .tmp t => (fr[t]?).getD ud
  | .const (.agg cs) => if cs.toList.all Value.oneCell' then .v (.a (cs.toList.map vOf)) else ud
  | .const v => .v (.c (vOf v))
  | .global _ => ud
  | .func f => .v (.c (.fn f []))
theorem ev_sound {R : Rl} {fr : List S} {a : Act} (h : FRel R fr a) (x : Operand) : SRel R (ev fr x) (a.eval x) := by
  cases x with
  | tmp t =>
    simp only [ev, Act.eval]
    cases hf : fr[t]? with
    | none => simp [ud, SRel, VRel, CRel]
    | some s =>
      obtain ⟨v, h1, h2⟩ := h.2.2 t s hf
      have : a.tmps.getD t undef = v := by simp [Array.getD_eq_getD_getElem?, h1]
      rw [this]; simpa using h2
  | const v =>
    cases v with
    | agg cs =>
      simp only [ev]
      split
      · rename_i hone
        refine ⟨cs, rfl, LRel.of_get (by simp) fun i c hi => ?_⟩
        rw [List.getElem?_map, Option.map_eq_some_iff] at hi
        obtain ⟨v, h1, rfl⟩ := hi
        exact ⟨v, h1, List.all_eq_true.1 hone v (List.mem_of_getElem? h1), vOf_sound R v⟩
      · simp [ud, SRel, VRel, CRel]
    | _ => exact vOf_sound R _
  | global g => simp [ev, ud, SRel, VRel, CRel]
  | func f => simp [ev, Act.eval, SRel, VRel, CRel, LRel]
def put (fr : List S) (dst : Option Nat) (s : S) : List S :=
  match dst with
  | some d => fr.set d s
  | none => fr
theorem put_length (fr : List S) (dst : Option Nat) (s : S) : (put fr dst s).length = fr.length := by cases dst <;> simp [put]
theorem put_sound {R : Rl} {fr : List S} {a : Act} (h : FRel R fr a) (dst : Option Nat) {s : S} {v : Value} (hs : SRel R s v) : FRel R (put fr dst s) (a.put dst v) := by
  cases dst with
  | none => exact h
  | some d =>
    refine ⟨h.1, by simpa [put, Act.put] using h.2.1, fun i s' hi => ?_⟩
    simp only [put, List.getElem?_set] at hi
    simp only [Act.put]
    by_cases hd : d = i
    · subst hd
      simp only [if_true] at hi
      split at hi
      · rename_i hlt
        obtain rfl := Option.some.inj hi
        exact ⟨v, by rw [Array.getElem?_setIfInBounds_self, if_pos (by rw [h.2.1]; exact hlt)], hs⟩
      · simp at hi
    · rw [if_neg hd] at hi
      obtain ⟨v', h1, h2⟩ := h.2.2 i s' hi
      exact ⟨v', by rw [Array.getElem?_setIfInBounds_ne hd]; exact h1, h2⟩
theorem FRel.mono {R R' : Rl} (h : R.Le R') {fr : List S} {a : Act} (k : FRel R fr a) : FRel R' fr a :=
  ⟨k.1, k.2.1, fun i s hi => let ⟨v, h1, h2⟩ := k.2.2 i s hi; ⟨v, h1, h2.mono h⟩⟩
theorem awp_cond {P : Program} {n : Nat} {Q : Exit → St → Prop} {st : St} {c : Operand} {x y : Code} {t : Bool} (hc : ev st.fr c = .v (.c (.bool t)))
    (h1 : t = true → AWp P n x Q st) (h2 : t = false → AWp P n y Q st) : AWp P n (.cond c x y) Q st := by
  intro E ρ a w hE hs
  have := ev_sound hs.fr c
  rw [hc] at this
  simp only [SRel, VRel, CRel] at this
  exact wp_cond_split this (fun ht => h1 ht E ρ a w hE hs) (fun ht => h2 ht E ρ a w hE hs)
end Go.Abs

/- The abstract machine: memory: what a load gives, what a store does, new blocks. -/
namespace Go.Abs
open Go
theorem add_none (b o i : Nat) : (Addr.add ⟨b, o, none⟩ i) = ⟨b, o + i, none⟩ := by
  unfold Addr.add
  split
  · rename_i h; subst h; rfl
  · rfl
def withBlock (w : World) (b : Nat) (o : Obj) : World := { w with heap := w.heap.setIfInBounds b o }
def wrA (arr : Array Value) (o : Nat) : List Value → Array Value
  | [] => arr
  | v :: r => wrA (arr.setIfInBounds o v) (o + 1) r
theorem wrA_size : ∀ (vs : List Value) (arr : Array Value) (o : Nat), (wrA arr o vs).size = arr.size
  | [], _, _ => rfl
  | v :: r, arr, o => by simp [wrA, wrA_size r]
theorem wrA_get : ∀ (vs : List Value) (arr : Array Value) (o i : Nat), o + vs.length ≤ arr.size →
    (wrA arr o vs)[i]? = if o ≤ i ∧ i < o + vs.length then vs[i - o]? else arr[i]?
  | [], arr, o, i, _ => by
    have : ¬ (o ≤ i ∧ i < o + ([] : List Value).length) := by rintro ⟨h1, h2⟩; simp only [List.length_nil] at h2; omega
    rw [if_neg this]; rfl
  | v :: r, arr, o, i, h => by
    simp only [List.length_cons] at h
    rw [wrA, wrA_get r _ _ _ (by simp; omega)]
    by_cases h1 : o + 1 ≤ i ∧ i < o + 1 + r.length
    · rw [if_pos h1, if_pos (by simp only [List.length_cons]; omega)]
      obtain ⟨k, rfl⟩ : ∃ k, i = o + 1 + k := ⟨i - (o + 1), by omega⟩
      rw [show o + 1 + k - (o + 1) = k by omega, show o + 1 + k - o = k + 1 by omega]
      simp
    · rw [if_neg h1]
      by_cases h2 : o = i
      · subst h2
        rw [if_pos (by simp only [List.length_cons]; omega)]
        simp [show o < arr.size by omega]
      · rw [if_neg (by simp only [List.length_cons]; omega), Array.getElem?_setIfInBounds_ne h2]
theorem setCell_eq (w : World) (b o : Nat) (v : Value) (arr : Array Value) (el : TypeId) (fr : Nat × Nat) (h : w.heap[b]? = some (.cells arr el fr)) :
    w.setCell ⟨b, o, none⟩ v = withBlock w b (.cells (arr.setIfInBounds o v) el fr) := by
  unfold World.setCell withBlock
  congr 1
  apply Array.ext_getElem?
  intro i
  rw [Array.getElem?_modify]
  by_cases hi : b = i
  · subst hi
    obtain ⟨hlt, he⟩ := Array.getElem?_eq_some_iff.1 h
    simp [hlt, he]
  · rw [if_neg hi, Array.getElem?_setIfInBounds_ne hi]
theorem withBlock_same (w : World) (b : Nat) (o : Obj) (h : w.heap[b]? = some o) : withBlock w b o = w := by
  have e : w.heap.setIfInBounds b o = w.heap := by
    apply Array.ext_getElem?
    intro i
    by_cases hi : b = i
    · subst hi
      obtain ⟨hlt, he⟩ := Array.getElem?_eq_some_iff.1 h
      simp [hlt, he]
    · rw [Array.getElem?_setIfInBounds_ne hi]
  unfold withBlock
  rw [e]
theorem withBlock_withBlock (w : World) (b : Nat) (o o' : Obj) : withBlock (withBlock w b o) b o' = withBlock w b o' := by
  unfold withBlock
  congr 1
  apply Array.ext_getElem?
  intro i
  by_cases hi : b = i
  · subst hi
    by_cases hlt : b < w.heap.size
    · simp [hlt]
    · simp [hlt]
  · simp [Array.getElem?_setIfInBounds_ne hi]
theorem withBlock_get (w : World) (b : Nat) (o : Obj) (h : b < w.heap.size) : (withBlock w b o).heap[b]? = some o := by
  simp [withBlock, h]
theorem run_storeCells (P : Program) : ∀ (vs : List Value) (w : World) (b o i : Nat) (arr : Array Value) (el : TypeId) (fr : Nat × Nat),
    w.heap[b]? = some (.cells arr el fr) → (∀ k, k < arr.size → ¬ (fr.1 ≤ k ∧ k < fr.2)) → o + i + vs.length ≤ arr.size → (∀ v ∈ vs, v.oneCell' = true) →
    (storeCells ⟨b, o, none⟩ vs i).run P w = .ok () (withBlock w b (.cells (wrA arr (o + i) vs) el fr))
  | [], w, b, o, i, arr, el, fr, h, _, _, _ => by
    rw [wrA, withBlock_same _ _ _ h]; rfl
  | v :: r, w, b, o, i, arr, el, fr, h, hf, hl, ho => by
    simp only [List.length_cons] at hl
    have hc : w.cell? ⟨b, o + i, none⟩ = some (arr[o + i]'(by omega)) := by
      simp [World.cell?, h]
    have hfz : w.frozen? ⟨b, o + i, none⟩ = false := by
      have := hf (o + i) (by omega)
      simp only [World.frozen?, h]
      simpa using this
    have hlt : b < w.heap.size := (Array.getElem?_eq_some_iff.1 h).1
    rw [storeCells, Sem.run_bind, add_none, run_store P w _ v _ (ho v (by simp)), hc]
    simp only [hfz, Bool.false_eq_true, if_false, Result.andThen_ok]
    rw [setCell_eq w b (o + i) v arr el fr h,
      run_storeCells P r _ b o (i + 1) (arr.setIfInBounds (o + i) v) el fr (withBlock_get _ _ _ hlt) (by simpa using hf) (by simp; omega) (fun v hv => ho v (by simp [hv])),
      withBlock_withBlock]
    rfl
theorem run_loadCellsFrom (P : Program) : ∀ (n : Nat) (w : World) (b o i : Nat) (acc : Array Value) (arr : Array Value) (el : TypeId) (fr : Nat × Nat),
    w.heap[b]? = some (.cells arr el fr) → o + i + n ≤ arr.size →
    (loadCellsFrom ⟨b, o, none⟩ i n acc).run P w = .ok (acc ++ arr.extract (o + i) (o + i + n)) w
  | 0, w, b, o, i, acc, arr, el, fr, h, hl => by
    simp only [loadCellsFrom, Sem.run_pure]
    congr 1
    apply Array.ext'
    simp
  | n + 1, w, b, o, i, acc, arr, el, fr, h, hl => by
    have hc : w.cell? ⟨b, o + i, none⟩ = some (arr[o + i]'(by omega)) := by
      simp [World.cell?, h]
    rw [loadCellsFrom, Sem.run_bind, add_none, run_load, hc]
    simp only [Result.andThen_ok]
    rw [run_loadCellsFrom P n w b o (i + 1) _ arr el fr h (by omega)]
    congr 1
    apply Array.ext'
    simp only [Array.toList_append, Array.toList_push, Array.toList_extract, List.append_assoc, List.extract_eq_take_drop]
    congr 1
    rw [show o + i + (n + 1) - (o + i) = n + 1 by omega, show o + (i + 1) + n - (o + (i + 1)) = n by omega]
    have hd : arr.toList.drop (o + i) = arr[o + i]'(by omega) :: arr.toList.drop (o + (i + 1)) := by
      rw [List.drop_eq_getElem_cons (by simp; omega)]
      simp [Nat.add_assoc]
    rw [hd]
    simp
theorem run_loadCells (P : Program) (n : Nat) (w : World) (b o : Nat) (arr : Array Value) (el : TypeId) (fr : Nat × Nat) (h : w.heap[b]? = some (.cells arr el fr)) (hl : o + n ≤ arr.size) :
    (loadCells ⟨b, o, none⟩ n).run P w = .ok (arr.extract o (o + n)) w := by
  rw [loadCells, run_loadCellsFrom P n w b o 0 #[] arr el fr h (by omega)]
  simp
/-! ## The description of memory under writes and new blocks. -/
def upd (ρ : Nat → Place) (p : Nat) (pl : Place) : Nat → Place := fun q => if q = p then pl else ρ q
theorem rl_le_upd (E : Env) (ρ : Nat → Place) (n m : Nat) (pl : Place) (h : n ≤ m) : (E.rl n ρ).Le (E.rl (m + 1) (upd ρ m pl)) :=
  ⟨fun _ hb => ⟨hb, rfl⟩, fun p hp => ⟨(by have : p < n := hp; show p < m + 1; omega), by
    have : p < n := hp
    simp only [Env.rl, upd]; rw [if_neg (by omega)]⟩⟩
theorem BRel.mono {R R' : Rl} (h : R.Le R') {w w' : World} {pl : Place} {cs : List Cell} (hb : w'.heap[pl.blk]? = w.heap[pl.blk]?) (k : BRel R w pl cs) : BRel R' w' pl cs := by
  obtain ⟨arr, el, fr, b1, b2, b3, b4, b5⟩ := k
  exact ⟨arr, el, fr, by rw [hb]; exact b1, b2, b3, b4, fun i c hi => let ⟨v, h1, h2, h3⟩ := b5 i c hi; ⟨v, h1, h2, h3.mono h⟩⟩
theorem HRel.lt {E : Env} {ρ : Nat → Place} {w : World} {H : Heap} (h : HRel E ρ w H) {p : Nat} {cs : List Cell} (hp : H[p]? = some (some cs)) (hr : (ρ p).room ≠ 0) : (ρ p).blk < w.heap.size := by
  obtain ⟨arr, el, fr, b1, _⟩ := h.blk p cs hp hr
  exact (Array.getElem?_eq_some_iff.1 b1).1
theorem HRel.same {E : Env} {ρ : Nat → Place} {w w' : World} {H : Heap} (h : HRel E ρ w H) (h1 : w'.heap = w.heap) (h2 : w'.os = w.os) (h3 : w'.tape = w.tape) (h4 : w'.output = w.output) : HRel E ρ w' H :=
  ⟨h2.trans h.os, h3.trans h.tape, h4.trans h.output, by rw [h1]; exact h.size, fun b k1 k2 => by rw [h1]; exact h.frame b k1 k2, h.fresh, h.inj,
    fun p cs hp hr => (h.blk p cs hp hr).mono (Rl.Le.refl _) (by rw [h1]), h.emp⟩
theorem HRel.drew {E : Env} {ρ : Nat → Place} {w : World} {H : Heap} (h : HRel E ρ w H) (k : Nat) : HRel E ρ { w with drawn := k } H := h.same rfl rfl rfl rfl
theorem HRel.push {E : Env} {ρ : Nat → Place} {w w' : World} {H : Heap} (h : HRel E ρ w H) {arr : Array Value} {el : TypeId} {fr : Nat × Nat} {cs : List Cell}
    (h1 : w'.heap = w.heap.push (.cells arr el fr)) (h2 : w'.os = w.os) (h3 : w'.tape = w.tape) (h4 : w'.output = w.output)
    (hfr : Fz fr arr.size) (hlen : cs.length ≤ arr.size)
    (hcs : ∀ (i : Nat) c, cs[i]? = some c → ∃ v, arr[i]? = some v ∧ v.oneCell' = true ∧ CRel (E.rl (H.length + 1) (upd ρ H.length ⟨w.heap.size, 0, arr.size⟩)) c v) :
    HRel E (upd ρ H.length ⟨w.heap.size, 0, arr.size⟩) w' (H ++ [some cs]) := by
  have hle := rl_le_upd E ρ H.length H.length ⟨w.heap.size, 0, arr.size⟩ (Nat.le_refl _)
  have hold : ∀ b, b < w.heap.size → w'.heap[b]? = w.heap[b]? := fun b hb => by
    rw [h1, Array.getElem?_push, if_neg (by omega)]
  have hget : ∀ (p : Nat) ds, (H ++ [some cs])[p]? = some (some ds) → (H[p]? = some (some ds) ∧ p < H.length) ∨ (p = H.length ∧ ds = cs) := by
    intro p ds hp
    rcases Nat.lt_or_ge p H.length with hlt | hge
    · rw [List.getElem?_append_left hlt] at hp
      exact .inl ⟨hp, hlt⟩
    · rw [List.getElem?_append_right hge] at hp
      rcases Nat.eq_or_lt_of_le hge with he | hgt
      · subst he; simp at hp; exact .inr ⟨rfl, hp.symm⟩
      · rw [List.getElem?_eq_none (by simp; omega)] at hp; simp at hp
  have hu : ∀ p, p < H.length → upd ρ H.length ⟨w.heap.size, 0, arr.size⟩ p = ρ p := fun p hp => by unfold upd; rw [if_neg (by omega)]
  have hn : upd ρ H.length ⟨w.heap.size, 0, arr.size⟩ H.length = ⟨w.heap.size, 0, arr.size⟩ := by unfold upd; rw [if_pos rfl]
  refine ⟨h2.trans h.os, h3.trans h.tape, h4.trans h.output, ?_, fun b k1 k2 => ?_, fun p ds hp hr => ?_, fun p q ds es hp hq hr1 hr2 he => ?_, fun p ds hp hr => ?_, fun p ds hp hr => ?_⟩
  · have := h.size; rw [h1]; simp; omega
  · have := h.size
    rw [hold b (by omega)]; exact h.frame b k1 k2
  · rcases hget p ds hp with ⟨k, hlt⟩ | ⟨rfl, rfl⟩
    · rw [hu p hlt] at hr ⊢; exact h.fresh p ds k hr
    · rw [hn]; exact .inr h.size
  · rcases hget p ds hp with ⟨k, hlt⟩ | ⟨rfl, rfl⟩
    · rw [hu p hlt] at hr1
      rcases hget q es hq with ⟨k', hlt'⟩ | ⟨rfl, rfl⟩
      · rw [hu q hlt'] at hr2
        rw [hu p hlt, hu q hlt'] at he; exact h.inj p q ds es k k' hr1 hr2 he
      · rw [hu p hlt, hn] at he
        have := h.lt k hr1
        simp only at he
        omega
    · rcases hget q es hq with ⟨k', hlt'⟩ | ⟨h5, h6⟩
      · rw [hu q hlt'] at hr2
        rw [hu q hlt', hn] at he
        have := h.lt k' hr2
        simp only at he
        omega
      · exact h5.symm
  · rcases hget p ds hp with ⟨k, hlt⟩ | ⟨rfl, rfl⟩
    · rw [hu p hlt] at hr ⊢
      refine (h.blk p ds k hr).mono ?_ (hold _ (h.lt k hr))
      simpa using hle
    · rw [hn]
      refine ⟨arr, el, fr, by rw [h1]; simp, rfl, hfr, by simpa using hlen, fun i c hi => ?_⟩
      obtain ⟨v, k1, k2, k3⟩ := hcs i c hi
      exact ⟨v, by simpa using k1, k2, by simpa using k3⟩
  · rcases hget p ds hp with ⟨k, hlt⟩ | ⟨rfl, rfl⟩
    · rw [hu p hlt] at hr; exact h.emp p ds k hr
    · rw [hn] at hr
      simp only at hr
      rw [hr] at hlen
      simpa using hlen
theorem HRel.pushEmp {E : Env} {ρ : Nat → Place} {w w' : World} {H : Heap} (h : HRel E ρ w H) (h1 : w'.heap = w.heap) (h2 : w'.os = w.os) (h3 : w'.tape = w.tape) (h4 : w'.output = w.output) :
    HRel E (upd ρ H.length ⟨0, 0, 0⟩) w' (H ++ [some []]) := by
  have hle := rl_le_upd E ρ H.length H.length ⟨0, 0, 0⟩ (Nat.le_refl _)
  have hget : ∀ (p : Nat) ds, (H ++ [some []])[p]? = some (some ds) → (H[p]? = some (some ds) ∧ p < H.length) ∨ (p = H.length ∧ ds = []) := by
    intro p ds hp
    rcases Nat.lt_or_ge p H.length with hlt | hge
    · rw [List.getElem?_append_left hlt] at hp
      exact .inl ⟨hp, hlt⟩
    · rw [List.getElem?_append_right hge] at hp
      rcases Nat.eq_or_lt_of_le hge with he | hgt
      · subst he; simp at hp; exact .inr ⟨rfl, hp⟩
      · rw [List.getElem?_eq_none (by simp; omega)] at hp; simp at hp
  have hu : ∀ p, p < H.length → upd ρ H.length ⟨0, 0, 0⟩ p = ρ p := fun p hp => by unfold upd; rw [if_neg (by omega)]
  have hn : upd ρ H.length ⟨0, 0, 0⟩ H.length = ⟨0, 0, 0⟩ := by unfold upd; rw [if_pos rfl]
  refine ⟨h2.trans h.os, h3.trans h.tape, h4.trans h.output, by rw [h1]; exact h.size, fun b k1 k2 => by rw [h1]; exact h.frame b k1 k2, fun p ds hp hr => ?_, fun p q ds es hp hq hr1 hr2 he => ?_, fun p ds hp hr => ?_, fun p ds hp hr => ?_⟩
  · rcases hget p ds hp with ⟨k, hlt⟩ | ⟨rfl, rfl⟩
    · rw [hu p hlt] at hr ⊢; exact h.fresh p ds k hr
    · rw [hn] at hr; exact absurd rfl hr
  · rcases hget p ds hp with ⟨k, hlt⟩ | ⟨rfl, rfl⟩
    · rw [hu p hlt] at hr1
      rcases hget q es hq with ⟨k', hlt'⟩ | ⟨rfl, rfl⟩
      · rw [hu q hlt'] at hr2
        rw [hu p hlt, hu q hlt'] at he; exact h.inj p q ds es k k' hr1 hr2 he
      · rw [hn] at hr2; exact absurd rfl hr2
    · rw [hn] at hr1; exact absurd rfl hr1
  · rcases hget p ds hp with ⟨k, hlt⟩ | ⟨rfl, rfl⟩
    · rw [hu p hlt] at hr ⊢
      refine (h.blk p ds k hr).mono ?_ (by rw [h1])
      simpa using hle
    · rw [hn] at hr; exact absurd rfl hr
  · rcases hget p ds hp with ⟨k, hlt⟩ | ⟨rfl, rfl⟩
    · rw [hu p hlt] at hr; exact h.emp p ds k hr
    · rfl
theorem HRel.write {E : Env} {ρ : Nat → Place} {w w' : World} {H : Heap} (h : HRel E ρ w H) {p : Nat} {cs ds : List Cell} (hp : H[p]? = some (some cs)) (hr : (ρ p).room ≠ 0)
    {arr : Array Value} {el : TypeId} {fr : Nat × Nat}
    (h1 : w' = withBlock w (ρ p).blk (.cells arr el fr)) (hsz : arr.size = (ρ p).room) (hfr : Fz fr arr.size) (hlen : (ρ p).dl + ds.length ≤ (ρ p).room)
    (hcs : ∀ (i : Nat) c, ds[i]? = some c → ∃ v, arr[(ρ p).dl + i]? = some v ∧ v.oneCell' = true ∧ CRel (E.rl H.length ρ) c v) :
    HRel E ρ w' (H.set p (some ds)) := by
  subst h1
  have hlt := h.lt hp hr
  have hpl : p < H.length := (List.getElem?_eq_some_iff.1 hp).1
  have hget : ∀ (q : Nat) es, (H.set p (some ds))[q]? = some (some es) → (q = p ∧ es = ds) ∨ (q ≠ p ∧ H[q]? = some (some es)) := by
    intro q es hq
    rw [List.getElem?_set] at hq
    by_cases hqp : p = q
    · subst hqp
      rw [if_pos rfl, if_pos hpl] at hq
      exact .inl ⟨rfl, (Option.some.inj (Option.some.inj hq)).symm⟩
    · rw [if_neg hqp] at hq
      exact .inr ⟨fun e => hqp e.symm, hq⟩
  have hother : ∀ b, b ≠ (ρ p).blk → (withBlock w (ρ p).blk (.cells arr el fr)).heap[b]? = w.heap[b]? := fun b hb => by
    simp only [withBlock]; rw [Array.getElem?_setIfInBounds_ne (fun e => hb e.symm)]
  refine ⟨h.os, h.tape, h.output, by simpa [withBlock] using h.size, fun b k1 k2 => ?_, fun q es hq hrq => ?_, fun q r es fs hq hrr h5 h6 he => ?_, fun q es hq hrq => ?_, fun q es hq hrq => ?_⟩
  · rw [hother b (fun e => ?_)]
    · exact h.frame b k1 k2
    · subst e
      rcases h.fresh p cs hp hr with h5 | h5
      · exact k2 h5
      · omega
  · rcases hget q es hq with ⟨rfl, rfl⟩ | ⟨hne, k⟩
    · exact h.fresh q cs hp hr
    · exact h.fresh q es k hrq
  · rcases hget q es hq with ⟨rfl, rfl⟩ | ⟨hne, k⟩
    · rcases hget r fs hrr with ⟨h7, h8⟩ | ⟨hne', k'⟩
      · exact h7.symm
      · exact h.inj q r cs fs hp k' h5 h6 he
    · rcases hget r fs hrr with ⟨rfl, rfl⟩ | ⟨hne', k'⟩
      · exact h.inj q r es cs k hp h5 h6 he
      · exact h.inj q r es fs k k' h5 h6 he
  · rw [List.length_set]
    rcases hget q es hq with ⟨rfl, rfl⟩ | ⟨hne, k⟩
    · exact ⟨arr, el, fr, withBlock_get _ _ _ hlt, hsz, hfr, hlen, hcs⟩
    · exact (h.blk q es k hrq).mono (Rl.Le.refl _) (hother _ fun e => hne (h.inj q p es cs k hp hrq hr e))
  · rcases hget q es hq with ⟨rfl, rfl⟩ | ⟨hne, k⟩
    · exact absurd hrq hr
    · exact h.emp q es k hrq
theorem FRel.grow {E : Env} {ρ ρ' : Nat → Place} {n m : Nat} (h : n ≤ m) (hρ : ∀ p, p < n → ρ' p = ρ p) {fr : List S} {a : Act} (k : FRel (E.rl n ρ) fr a) : FRel (E.rl m ρ') fr a :=
  FRel.mono (R := E.rl n ρ) (R' := E.rl m ρ') ⟨fun _ hb => ⟨hb, rfl⟩, fun p hp => ⟨Nat.lt_of_lt_of_le hp h, hρ p hp⟩⟩ k
end Go.Abs

/- The abstract machine: types; operations that look at no memory. -/
namespace Go.Abs
open Go
inductive TK where
  | bool | int (k : IntKind) | str | ptr (e : Nat) | slice (e : Nat) | array (n e : Nat) | struct (fs : List (Nat × Nat)) | func | other
structure TI where
  size : Nat
  bytes : Nat
  zero : Option (List Cell)
  kind : TK
  plain : Bool
def tkOf : TypeDesc → TK
  | .bool => .bool
  | .int k => .int k
  | .string => .str
  | .pointer e => .ptr e
  | .slice e => .slice e
  | .array n e => .array n e
  | .struct fs => .struct (fs.toList.map fun f => (f.offset, f.type))
  | .func .. => .func
  | _ => .other
def TK.agg : TK → Bool
  | .struct _ | .array _ _ => true
  | _ => false
def zcells : Option Value → Option (List Cell)
  | some v => if v.cells.toList.all Value.oneCell' then some (v.cells.toList.map vOf) else none
  | none => none
def tiOf (P : Program) (t : TypeId) : Option TI :=
  match P.info? t, P.underlying t with
  | some i, some d => some ⟨i.size, i.bytes, zcells i.zero, tkOf d, !P.eqGuardType P.depth t⟩
  | _, _ => none
structure TiSpec (P : Program) (t : TypeId) (ti : TI) (i : TypeInfo) (d : TypeDesc) : Prop where
  info : P.info? t = some i
  und : P.underlying t = some d
  size : ti.size = i.size
  bytes : ti.bytes = i.bytes
  zero : ti.zero = zcells i.zero
  kind : ti.kind = tkOf d
  plain : ti.plain = !P.eqGuardType P.depth t
theorem ti_spec {P : Program} {t : TypeId} {ti : TI} (h : tiOf P t = some ti) : ∃ i d, TiSpec P t ti i d := by
  unfold tiOf at h
  split at h
  · rename_i i d h1 h2
    obtain rfl := Option.some.inj h
    exact ⟨i, d, h1, h2, rfl, rfl, rfl, rfl, rfl⟩
  · simp at h
section
variable {P : Program} {t : TypeId} {ti : TI} {i : TypeInfo} {d : TypeDesc}
theorem TiSpec.run_underlying (h : TiSpec P t ti i d) (w : World) : (underlying t).run P w = .ok d w := by
  simp [underlying, h.und]
theorem TiSpec.run_typeInfo (h : TiSpec P t ti i d) (w : World) : (typeInfo t).run P w = .ok i w := by
  simp [typeInfo, h.info]
theorem TiSpec.run_sizeOf (h : TiSpec P t ti i d) (w : World) : (sizeOf t).run P w = .ok ti.size w := by
  simp [sizeOf, h.run_typeInfo, h.size]
theorem TiSpec.run_isAgg (h : TiSpec P t ti i d) (w : World) : (isAgg t).run P w = .ok ti.kind.agg w := by
  rw [isAgg, Sem.run_bind, h.run_underlying]
  simp only [Result.andThen_ok, h.kind]
  cases d <;> rfl
theorem TiSpec.run_zero (h : TiSpec P t ti i d) {z : List Cell} (hz : ti.zero = some z) (w : World) :
    ∃ v, (zeroValue t).run P w = .ok v w ∧ v.cells.toList.all Value.oneCell' = true ∧ z = v.cells.toList.map vOf := by
  rw [h.zero] at hz
  unfold zcells at hz
  split at hz
  · rename_i v hv
    split at hz
    · rename_i hall
      exact ⟨v, by simp [zeroValue, h.run_typeInfo, hv], hall, (Option.some.inj hz).symm⟩
    · simp at hz
  · simp at hz
end
def shiftv (op : BinOp) (k : IntKind) (a b : Int) : Option Int :=
  match op with
  | .shl => some (k.wrap (a * 2 ^ (min b.toNat k.bits)))
  | .shr => some (a.fdiv (2 ^ (min b.toNat k.bits)))
  | _ => none
def arithv (op : BinOp) (k : IntKind) (a b : Int) : Option Int :=
  match op with
  | .add => some (k.wrap (a + b))
  | .sub => some (k.wrap (a - b))
  | .mul => some (k.wrap (a * b))
  | .and => some (k.wrap (BitVec.ofInt k.bits a &&& BitVec.ofInt k.bits b).toNat)
  | .or => some (k.wrap (BitVec.ofInt k.bits a ||| BitVec.ofInt k.bits b).toNat)
  | .xor => some (k.wrap (BitVec.ofInt k.bits a ^^^ BitVec.ofInt k.bits b).toNat)
  | .andNot => some (k.wrap (BitVec.ofInt k.bits a &&& ~~~BitVec.ofInt k.bits b).toNat)
  | _ => none
def divv (op : BinOp) (k : IntKind) (a b : Int) : Option Int :=
  match op with
  | .quo => some (k.wrap (a.tdiv b))
  | .rem => some (a.tmod b)
  | _ => none
def cmpv (op : BinOp) (a b : Int) : Option Bool :=
  match op with
  | .eql => some (a == b)
  | .neq => some (a != b)
  | .lss => some (decide (a < b))
  | .leq => some (decide (a ≤ b))
  | .gtr => some (decide (a > b))
  | .geq => some (decide (a ≥ b))
  | _ => none
def strv (op : BinOp) (x y : ByteArray) : Option Bool :=
  match op with
  | .eql => some (x.toList == y.toList)
  | .neq => some (!(x.toList == y.toList))
  | .lss => some (Op.bytesLess x.toList y.toList)
  | .leq => some (Op.bytesLess x.toList y.toList || x.toList == y.toList)
  | .gtr => some (!(Op.bytesLess x.toList y.toList || x.toList == y.toList))
  | .geq => some (!(Op.bytesLess x.toList y.toList))
  | _ => none
def isNilP : Cell → Option Bool
  | .nilp => some true
  | .ptr _ _ => some false
  | .rop _ => some false
  | _ => none
def isNilS : Cell → Option Bool
  | .nils => some true
  | .ro n _ => bif Nat.beq n 0 then none else some false
  | .slc _ _ n _ => bif Nat.beq n 0 then none else some false
  | _ => none
def isSl : Cell → Bool
  | .ro _ _ | .slc _ _ _ _ => true
  | _ => false
def isNilF : Cell → Option Bool
  | .nilf => some true
  | .fn _ _ => some false
  | _ => none
def eqv (op : BinOp) (b : Bool) : Option Bool :=
  match op with
  | .eql => some b
  | .neq => some (!b)
  | _ => none
def intsOf : List Cell → List Int
  | [] => []
  | .int _ n :: r => n :: intsOf r
  | _ :: r => 0 :: intsOf r
def allInt (k : IntKind) : List Cell → Bool
  | [] => true
  | .int k' _ :: r => k == k' && allInt k r
  | _ :: _ => false
def binC (op : BinOp) (tk : TK) (x y : Cell) (K : Cell → Prop) : Prop :=
  match x, y with
  | .int k a, .int k' b =>
    match shiftv op k a b with
    | some r => 0 ≤ b ∧ K (.int k r)
    | none => k = k' ∧ match arithv op k a b with
      | some r => K (.int k r)
      | none => match divv op k a b with
        | some r => b ≠ 0 ∧ K (.int k r)
        | none => match cmpv op a b with
          | some r => K (.bool r)
          | none => False
  | .bool a, .bool b => match tk with
    | .bool => match eqv op (a == b) with
      | some r => K (.bool r)
      | none => False
    | _ => False
  | .str a, .str b => match strv op a b with
    | some r => K (.bool r)
    | none => match op with
      | .add => a.size + b.size ≤ 1073741824 ∧ K (.str (a ++ b))
      | _ => False
  | x, .nilp => match tk with
    | .ptr _ => match isNilP x with
      | some b => match eqv op b with
        | some r => K (.bool r)
        | none => False
      | none => False
    | _ => False
  | x, .nils => match tk with
    | .slice _ => match isNilS x with
      | some b => match eqv op b with
        | some r => K (.bool r)
        | none => False
      | none => isSl x = true ∧ (eqv op true).isSome = true ∧ K .anyb
    | _ => False
  | x, .nilf => match tk with
    | .func => match isNilF x with
      | some b => match eqv op b with
        | some r => K (.bool r)
        | none => False
      | none => False
    | _ => False
  | _, _ => False
def PV (P : Program) (o : Oper) (fr : List S) (s : S) : Prop :=
  ∀ (R : Rl) (a : Act) (w : World), FRel R fr a → ∃ v, (execOp a.eval o).run P w = .ok (.value v) w ∧ SRel R s v
theorem eqGuard_ok {P : Program} (op : BinOp) (t : TypeId) (x y : Operand) (v u : Value) (w : World) (h1 : ∀ cs, v ≠ .agg cs) (h2 : v ≠ .nilIface) :
    (eqGuard op t x y v u).run P w = .ok () w := by
  unfold eqGuard
  cases v <;> first
    | exact absurd rfl (h1 _)
    | exact absurd rfl h2
    | (cases op <;> rfl)
theorem binInt_sound {P : Program} (op : BinOp) (t : TypeId) (k k' : IntKind) (a b : Int) (K : Cell → Prop) (tk : TK) (w : World) (h : binC op tk (.int k a) (.int k' b) K) :
    ∃ r rv, K r ∧ (binOp op t (.int k a) (.int k' b)).run P w = .ok rv w ∧ ∀ R, CRel R r rv := by
  cases op <;> simp only [binC, shiftv, arithv, divv, cmpv] at h
  case shl => exact ⟨_, _, h.2, by simp [binOp, Op.shift, show ¬ b < 0 by omega]; rfl, fun R => by simp [CRel]⟩
  case shr => exact ⟨_, _, h.2, by simp [binOp, Op.shift, show ¬ b < 0 by omega]; rfl, fun R => by simp [CRel]⟩
  case quo =>
    obtain ⟨rfl, hb, hk⟩ := h
    exact ⟨_, _, hk, by simp [binOp, Op.intDiv, hb]; rfl, fun R => by simp [CRel]⟩
  case rem =>
    obtain ⟨rfl, hb, hk⟩ := h
    exact ⟨_, _, hk, by simp [binOp, Op.intDiv, hb]; rfl, fun R => by simp [CRel]⟩
  all_goals
    obtain ⟨rfl, hk⟩ := h
    exact ⟨_, _, hk, by simp [binOp, Op.intArith, Op.intBits, Op.intCmp]; try rfl, fun R => by simp [CRel]⟩
theorem equal_bool {P : Program} {t : TypeId} {w : World} (hd : (underlying t).run P w = .ok .bool w) (a b : Bool) : (Op.equal t (.bool a) (.bool b)).run P w = .ok (a == b) w := by
  show (Op.equalIn (9999 + 1) t (.bool a) (.bool b)).run P w = _
  rw [Op.equalIn, Sem.run_bind, hd]; rfl
theorem equal_ptr {P : Program} {t e : TypeId} {w : World} (hd : (underlying t).run P w = .ok (.pointer e) w) (a : Option Addr) : (Op.equal t (.pointer a) (.pointer none)).run P w = .ok a.isNone w := by
  show (Op.equalIn (9999 + 1) t (.pointer a) (.pointer none)).run P w = _
  rw [Op.equalIn, Sem.run_bind, hd]; cases a <;> rfl
theorem equal_slice {P : Program} {t e : TypeId} {w : World} (hd : (underlying t).run P w = .ok (.slice e) w) (a : Option Addr) (n c : Nat) : (Op.equal t (.slice a n c) (.slice none 0 0)).run P w = .ok a.isNone w := by
  show (Op.equalIn (9999 + 1) t (.slice a n c) (.slice none 0 0)).run P w = _
  rw [Op.equalIn, Sem.run_bind, hd]; cases a <;> rfl
theorem equal_nilf {P : Program} {t : TypeId} {x y : Array TypeId} {z : Bool} {w : World} (hd : (underlying t).run P w = .ok (.func x y z) w) : (Op.equal t .nilFunc .nilFunc).run P w = .ok true w := by
  show (Op.equalIn (9999 + 1) t .nilFunc .nilFunc).run P w = _
  rw [Op.equalIn, Sem.run_bind, hd]; rfl
theorem equal_func {P : Program} {t : TypeId} {x y : Array TypeId} {z : Bool} {w : World} (hd : (underlying t).run P w = .ok (.func x y z) w) (f : Fn) (a b : Array Value) : (Op.equal t (.func f a b) .nilFunc).run P w = .ok false w := by
  show (Op.equalIn (9999 + 1) t (.func f a b) .nilFunc).run P w = _
  rw [Op.equalIn, Sem.run_bind, hd]; rfl
def simpleV : Value → Bool
  | .int _ _ | .string _ | .float _ _ | .complex _ _ _ => false
  | _ => true
theorem binC_sound {P : Program} {op : BinOp} {t : TypeId} {ti : TI} (ht : tiOf P t = some ti) {x y : Cell} {K : Cell → Prop} (h : binC op ti.kind x y K) {R : Rl} {v u : Value} (hx : CRel R x v) (hy : CRel R y u)
    (ox oy : Operand) (w : World) :
    ∃ r rv, K r ∧ (do eqGuard op t ox oy v u; binOp op t v u : Sem Value).run P w = .ok rv w ∧ CRel R r rv := by
  obtain ⟨i, d, hs⟩ := ti_spec ht
  have fin : ∀ {r : Cell} {rv : Value}, K r → (∀ cs, v ≠ .agg cs) → v ≠ .nilIface → (binOp op t v u).run P w = .ok rv w → CRel R r rv →
      ∃ r rv, K r ∧ (do eqGuard op t ox oy v u; binOp op t v u : Sem Value).run P w = .ok rv w ∧ CRel R r rv := fun k h1 h2 h3 h4 =>
    ⟨_, _, k, by rw [Sem.run_bind, eqGuard_ok op t ox oy v u w h1 h2]; simpa using h3, h4⟩
  have eqs : ∀ {b : Bool} {r : Bool}, (Op.equal t v u).run P w = .ok b w → eqv op b = some r → simpleV v = true → (binOp op t v u).run P w = .ok (.bool r) w := by
    intro b r h1 h2 h3
    cases op <;> simp only [eqv] at h2 <;> try (cases h2; done)
    all_goals
      obtain rfl := Option.some.inj h2
      cases v <;> cases u <;> first
        | (simp [simpleV] at h3; done)
        | simp [binOp, h1]
  cases x <;> cases y <;> (try (simp only [binC] at h; done))
  case int.int k a k' b =>
    simp only [CRel] at hx hy
    subst hx; subst hy
    obtain ⟨r, rv, h1, h2, h3⟩ := binInt_sound (P := P) op t k k' a b K ti.kind w h
    exact fin h1 (by simp) (by simp) h2 (h3 R)
  case bool.bool a b =>
    simp only [CRel] at hx hy
    subst hx; subst hy
    simp only [binC] at h
    split at h
    · rename_i hk
      have hd : d = .bool := by rw [hs.kind] at hk; cases d <;> simp [tkOf] at hk; rfl
      split at h
      · rename_i r hr
        have he : (Op.equal t (.bool a) (.bool b)).run P w = .ok (a == b) w := by
          have := hs.run_underlying w
          rw [hd] at this
          exact equal_bool this a b
        exact fin h (by simp) (by simp) (eqs he hr rfl) (by simp [CRel])
      · exact h.elim
    · exact h.elim
  case str.str a b =>
    simp only [CRel] at hx hy
    subst hx; subst hy
    simp only [binC] at h
    split at h
    · rename_i r hr
      refine fin h (by simp) (by simp) ?_ (show CRel R (.bool r) (.bool r) by simp [CRel])
      cases op <;> simp only [strv] at hr <;> try (cases hr; done)
      all_goals (obtain rfl := Option.some.inj hr; simp [binOp, Op.stringOp])
    · split at h
      · refine fin h.2 (by simp) (by simp) ?_ (show CRel R (.str (a ++ b)) (.string (a ++ b)) by simp [CRel])
        have : ¬ (((a.size + b.size : Nat) : Int) > IntKind.i64.max) := by
          simp only [IntKind.max, IntKind.signed, IntKind.bits]
          have := h.1
          simp
          omega
        simp only [binOp, Op.stringOp]
        rw [if_neg this]
        rfl
      · exact h.elim
  case ro.nils n cs =>
    simp only [binC] at h
    split at h
    · rename_i hk
      split at h
      · rename_i b hb
        split at h
        · rename_i r hr
          have hn : n ≠ 0 ∧ b = false := by
            simp only [isNilS] at hb
            cases hb' : Nat.beq n 0 with
            | true => rw [hb'] at hb; cases hb
            | false =>
              refine ⟨fun e => ?_, ?_⟩
              · rw [e] at hb'; cases hb'
              · rw [hb', cond_false] at hb; exact (Option.some.inj hb).symm
          obtain ⟨hn, rfl⟩ := hn
          simp only [CRel] at hx hy
          subst hy
          have hd := hs.run_underlying w
          rw [hs.kind] at hk
          cases d <;> (try (simp only [tkOf] at hk; done)) <;> (try (exact absurd hk TK.noConfusion))
          obtain ⟨a, c, rfl, h1, h2, h3⟩ := hx
          cases a with
          | none => exact absurd (h2 rfl) hn
          | some a => exact fin h (by simp) (by simp) (eqs (equal_slice hd _ _ _) hr rfl) (by simp [CRel])
        · exact h.elim
      · obtain ⟨_, hop, h⟩ := h
        simp only [CRel] at hx hy
        subst hy
        have hd := hs.run_underlying w
        rw [hs.kind] at hk
        cases d <;> (try (simp only [tkOf] at hk; done)) <;> (try (exact absurd hk TK.noConfusion))
        obtain ⟨a, c, rfl, h1, h2, h3⟩ := hx
        obtain ⟨r, hr⟩ : ∃ r, eqv op a.isNone = some r := by cases op <;> simp [eqv] at hop ⊢
        exact fin h (by simp) (by simp) (eqs (equal_slice hd _ _ _) hr rfl) (by simp [CRel])
    · exact h.elim
  case slc.nils p q n sz =>
    simp only [binC] at h
    split at h
    · rename_i hk
      split at h
      · rename_i b hb
        split at h
        · rename_i r hr
          have hn : n ≠ 0 ∧ b = false := by
            simp only [isNilS] at hb
            cases hb' : Nat.beq n 0 with
            | true => rw [hb'] at hb; cases hb
            | false =>
              refine ⟨fun e => ?_, ?_⟩
              · rw [e] at hb'; cases hb'
              · rw [hb', cond_false] at hb; exact (Option.some.inj hb).symm
          obtain ⟨hn, rfl⟩ := hn
          simp only [CRel] at hx hy
          subst hy
          have hd := hs.run_underlying w
          rw [hs.kind] at hk
          cases d <;> (try (simp only [tkOf] at hk; done)) <;> (try (exact absurd hk TK.noConfusion))
          obtain ⟨hp, a, c, rfl, h1, h2⟩ := hx
          rcases h2 with ⟨rfl, _⟩ | h2
          · exact fin h (by simp) (by simp) (eqs (equal_slice hd _ _ _) hr rfl) (by simp [CRel])
          · omega
        · exact h.elim
      · obtain ⟨_, hop, h⟩ := h
        simp only [CRel] at hx hy
        subst hy
        have hd := hs.run_underlying w
        rw [hs.kind] at hk
        cases d <;> (try (simp only [tkOf] at hk; done)) <;> (try (exact absurd hk TK.noConfusion))
        obtain ⟨hp, a, c, rfl, h1, h2⟩ := hx
        obtain ⟨r, hr⟩ : ∃ r, eqv op a.isNone = some r := by cases op <;> simp [eqv] at hop ⊢
        exact fin h (by simp) (by simp) (eqs (equal_slice hd _ _ _) hr rfl) (by simp [CRel])
    · exact h.elim
  all_goals
    simp only [binC] at h
    split at h
    · rename_i hk
      split at h
      · rename_i b hb
        split at h
        · rename_i r hr
          simp only [isNilP, isNilS, isNilF, Option.some.injEq, reduceCtorEq] at hb
          all_goals
            subst hb
            simp only [CRel] at hx hy
            have hd := hs.run_underlying w
            rw [hs.kind] at hk
            cases d <;> (try (simp only [tkOf] at hk; done)) <;> (try (exact absurd hk TK.noConfusion))
            first
              | (subst hx; subst hy; exact fin h (by simp) (by simp) (eqs (equal_ptr hd _) hr rfl) (by simp [CRel]))
              | (obtain ⟨_, rfl⟩ := hx; subst hy; exact fin h (by simp) (by simp) (eqs (equal_ptr hd _) hr rfl) (by simp [CRel]))
              | (obtain ⟨_, _, rfl, _⟩ := hx; subst hy; exact fin h (by simp) (by simp) (eqs (equal_ptr hd _) hr rfl) (by simp [CRel]))
              | (subst hx; subst hy; exact fin h (by simp) (by simp) (eqs (equal_slice hd _ _ _) hr rfl) (by simp [CRel]))
                | (subst hx; subst hy; exact fin h (by simp) (by simp) (eqs (equal_nilf hd) hr rfl) (by simp [CRel]))
              | (obtain ⟨_, rfl, _⟩ := hx; subst hy; exact fin h (by simp) (by simp) (eqs (equal_func hd _ _ _) hr rfl) (by simp [CRel]))
        · exact h.elim
      · first
          | exact h.elim
          | (have := h.1; simp [isSl] at this)
    · exact h.elim
end Go.Abs

/- The abstract machine: the operations that look at no memory. -/
namespace Go.Abs
open Go
def intAt (cs : List Cell) (i : Nat) : Int :=
  match cs[i]? with
  | some (.int _ n) => n
  | _ => 0
def isInt (k : IntKind) (cs : List Cell) (i : Nat) : Prop := cs[i]? = some (.int k (intAt cs i))
abbrev sc (x : Cell) : S := .v (.c x)
abbrev sa (xs : List Cell) : S := .v (.a xs)
def partA (ti : TI) (xs : List Cell) (off : Nat) (K : S → Prop) : Prop :=
  if ti.kind.agg then K (sa ((xs.drop off).take ti.size))
  else match ti.kind with
    | .int k => isInt k xs off ∧ K (sc (.int k (intAt xs off)))
    | _ => match xs[off]? with
      | some c => K (sc c)
      | none => False
def caps (fr : List S) : List Operand → Option (List Cell)
  | [] => some []
  | x :: r => match ev fr x, caps fr r with
    | .v (.c .undef), _ => none
    | .v (.c c), some cs => some (c :: cs)
    | _, _ => none
def optI (fr : List S) : Option Operand → Option (Option Int)
  | none => some none
  | some x => match ev fr x with
    | .v (.c (.int _ n)) => some (some n)
    | _ => none
def bnds (len : Nat) (lo hi mx : Option Int) (K : Nat → Nat → Prop) : Prop :=
  let h : Int := hi.getD len
  let l : Int := lo.getD 0
  match mx with
  | none => 0 ≤ l ∧ l ≤ h ∧ h ≤ len ∧ K l.toNat h.toNat
  | some m => match hi with
    | none => False
    | some _ => 0 ≤ l ∧ l ≤ h ∧ h ≤ m ∧ m ≤ len ∧ K l.toNat h.toNat
def pstep (P : Program) (op : Op) (fr : List S) (K : S → Prop) : Prop :=
  match op with
  | .move x | .assign x => K (ev fr x)
  | .pick c a b => match ev fr c with
    | .v (.c (.bool t)) => K (if t then ev fr a else ev fr b)
    | _ => False
  | .nilCheck x => match ev fr x with
    | .v (.c (.ptr p o)) => K (sc (.ptr p o))
    | .v (.c (.rop cs)) => K (sc (.rop cs))
    | .v (.c (.fn f cs)) => K (sc (.fn f cs))
    | _ => False
  | .binOp op xt x y _ => match tiOf P xt with
    | some ti => match ev fr x, ev fr y with
      | .v (.c a), .v (.c b) => binC op ti.kind a b (fun r => K (sc r))
      | _, _ => False
    | none => False
  | .unOp op _ x => match op, ev fr x with
    | .not, .v (.c (.bool b)) => K (sc (.bool !b))
    | .neg, .v (.c (.int k n)) => K (sc (.int k (k.wrap (0 - n))))
    | .xor, .v (.c (.int k n)) => match arithv .xor k (if k.signed then -1 else k.max) n with
      | some r => K (sc (.int k r))
      | none => False
    | _, _ => False
  | .convert src dst x => match tiOf P src, tiOf P dst with
    | some si, some di => match di.kind, ev fr x with
      | .int k, .v (.c (.int _ n)) => match si.kind with
        | .int _ => K (sc (.int k (k.wrap n)))
        | _ => False
      | .str, .v (.c (.str s)) => match si.kind with
        | .str => K (sc (.str s))
        | _ => False
      | _, _ => False
    | _, _ => False
  | .fieldAddr s x f => match tiOf P s with
    | some ti => match ti.kind with
      | .struct fs => match fs[f]? with
        | some (off, ft) => match tiOf P ft with
          | some fti => fti.size ≠ 0 ∧ match ev fr x with
            | .v (.c (.ptr p o)) => K (sc (.ptr p (o + off)))
            | .v (.c (.rop cs)) => K (sc (.rop (cs.drop off)))
            | _ => False
          | none => False
        | none => False
      | _ => False
    | none => False
  | .field s x f => match tiOf P s with
    | some ti => match ti.kind with
      | .struct fs => match fs[f]? with
        | some (off, ft) => match tiOf P ft with
          | some fti => match ev fr x with
            | .v (.a xs) => partA fti xs off K
            | _ => False
          | none => False
        | none => False
      | _ => False
    | none => False
  | .indexAddr t x ix => match ev fr ix, tiOf P t with
    | .v (.c (.int _ i)), some ti => match ti.kind, ev fr x with
      | .array n e, .v (.c (.ptr p o)) => match tiOf P e with
        | some ei => 0 ≤ i ∧ i < n ∧ K (sc (.ptr p (o + i.toNat * ei.size)))
        | none => False
      | .array n e, .v (.c (.rop cs)) => match tiOf P e with
        | some ei => 0 ≤ i ∧ i < n ∧ K (sc (.rop (cs.drop (i.toNat * ei.size))))
        | none => False
      | .slice e, .v (.c (.slc p o n _)) => match tiOf P e with
        | some ei => 0 ≤ i ∧ i < n ∧ K (sc (.ptr p (o + i.toNat * ei.size)))
        | none => False
      | .slice e, .v (.c (.ro n cs)) => match tiOf P e with
        | some ei => 0 ≤ i ∧ i < n ∧ i.toNat * ei.size < cs.length ∧ K (sc (.rop (cs.drop (i.toNat * ei.size))))
        | none => False
      | _, _ => False
    | _, _ => False
  | .index t x ix => match ev fr ix, tiOf P t with
    | .v (.c (.int _ i)), some ti => match ti.kind, ev fr x with
      | .array n e, .v (.a xs) => match tiOf P e with
        | some ei => 0 ≤ i ∧ i < n ∧ partA ei xs (i.toNat * ei.size) K
        | none => False
      | .str, .v (.c (.str s)) => 0 ≤ i ∧ i < s.size ∧ K (sc (.int .u8 ((s.data.getD i.toNat 0).toNat)))
      | _, _ => False
    | _, _ => False
  | .extract t i => match ev fr t with
    | .t xs => match xs[i]? with
      | some x => K (.v x)
      | none => False
    | _ => False
  | .makeFunc (.func f) first cap => match first.toList, caps fr cap.toList with
    | [], some cs => K (sc (.fn f cs))
    | _, _ => False
  | .sliceToArrayPointer t x => match tiOf P t with
    | some ti => match ti.kind, ev fr x with
      | .array n _, .v (.c (.slc p o len _)) => n ≤ len ∧ 0 < n ∧ K (sc (.ptr p o))
      | .array n _, .v (.c (.ro len cs)) => n ≤ len ∧ 0 < n ∧ cs ≠ [] ∧ K (sc (.rop cs))
      | _, _ => False
    | none => False
  | .slice t x lo hi mx => match tiOf P t, optI fr lo, optI fr hi, optI fr mx with
    | some ti, some l, some h, some m => match ti.kind, ev fr x with
      | .str, .v (.c (.str s)) => m = none ∧ bnds s.size l h none fun l h => K (sc (.str (s.extract l h)))
      | .slice e, .v (.c (.slc p o n sz)) => match tiOf P e with
        | some ei => sz = ei.size ∧ bnds n l h m fun l h => K (sc (.slc p (o + l * sz) (h - l) sz))
        | none => False
      | .slice e, .v (.c (.ro n cs)) => match tiOf P e with
        | some ei => bnds n l h m fun l h => K (sc (.ro (h - l) ((cs.drop (l * ei.size)).take ((h - l) * ei.size))))
        | none => False
      | .slice e, .v (.c .nils) => match tiOf P e with
        | some _ => bnds 0 l h m fun _ _ => K (sc .nils)
        | none => False
      | .array n e, .v (.c (.rop cs)) => match tiOf P e with
        | some ei => bnds n l h m fun l h => K (sc (.ro (h - l) ((cs.drop (l * ei.size)).take ((h - l) * ei.size))))
        | none => False
      | _, _ => False
    | _, _, _, _ => False
  | .call ⟨.builtin .len, args, ats⟩ => match args.toList, ats.toList with
    | [x], [t] => match tiOf P t with
      | some ti => match ti.kind, ev fr x with
        | .str, .v (.c (.str s)) => K (sc (.int .i64 s.size))
        | .slice _, .v (.c (.slc _ _ n _)) => K (sc (.int .i64 n))
        | .slice _, .v (.c (.ro n _)) => K (sc (.int .i64 n))
        | .slice _, .v (.c .nils) => K (sc (.int .i64 0))
        | .array n _, _ => K (sc (.int .i64 n))
        | _, _ => False
      | none => False
    | _, _ => False
  | .call ⟨.builtin .min, args, _⟩ => match args.toList with
    | [x, y] => match ev fr x, ev fr y with
      | .v (.c (.int k a)), .v (.c (.int _ b)) => K (sc (.int k (if b < a then b else a)))
      | _, _ => False
    | _ => False
  | .call ⟨.builtin .max, args, _⟩ => match args.toList with
    | [x, y] => match ev fr x, ev fr y with
      | .v (.c (.int k a)), .v (.c (.int _ b)) => K (sc (.int k (if b > a then b else a)))
      | _, _ => False
    | _ => False
  | _ => False
end Go.Abs

/- The abstract machine: the operations that look at no memory are described rightly. -/
namespace Go.Abs
open Go
section
variable {P : Program} {R : Rl} {a : Act} {fr : List S}
theorem LRel.extract {cs : List Cell} {vs : Array Value} (h : LRel R cs vs.toList) (off n : Nat) : LRel R ((cs.drop off).take n) (vs.extract off (off + n)).toList := by
  refine LRel.of_get ?_ fun i c hi => ?_
  · have := h.length
    simp at this
    simp [this]
  · rw [List.getElem?_take] at hi
    split at hi
    · rename_i hlt
      rw [List.getElem?_drop] at hi
      obtain ⟨v, h1, h2, h3⟩ := h.get hi
      refine ⟨v, ?_, h2, h3⟩
      rw [Array.toList_extract, List.extract_eq_take_drop, List.getElem?_take, if_pos (by omega), List.getElem?_drop]
      exact h1
    · simp at hi
theorem partA_sound {t : TypeId} {ti : TI} (ht : tiOf P t = some ti) {xs : List Cell} {off : Nat} {K : S → Prop} (h : partA ti xs off K) {vs : Array Value} (hv : LRel R xs vs.toList) (w : World) :
    ∃ s v, K s ∧ (part t vs off).run P w = .ok v w ∧ SRel R s v := by
  obtain ⟨i, d, hs⟩ := ti_spec ht
  unfold partA at h
  have hag := hs.run_isAgg w
  split at h
  · rename_i hk
    rw [hk] at hag
    refine ⟨_, .agg (vs.extract off (off + ti.size)), h, ?_, ?_⟩
    · rw [part, Sem.run_bind, hag]
      simp [hs.run_sizeOf w]
    · exact ⟨_, rfl, hv.extract off ti.size⟩
  · rename_i hk
    have hk' : ti.kind.agg = false := by simpa using hk
    rw [hk'] at hag
    have key : ∀ c, xs[off]? = some c → ∃ v, (part t vs off).run P w = .ok v w ∧ CRel R c v := fun c hc => by
      obtain ⟨v, h1, h2, h3⟩ := hv.get hc
      refine ⟨v, ?_, h3⟩
      have h4 : vs[off]? = some v := by simpa using h1
      rw [part, Sem.run_bind, hag]
      simp [h4]
    split at h
    · obtain ⟨h1, h2⟩ := h
      obtain ⟨v, k1, k2⟩ := key _ h1
      exact ⟨_, v, h2, k1, k2⟩
    · split at h
      · rename_i c hc
        obtain ⟨v, k1, k2⟩ := key _ hc
        exact ⟨_, v, h, k1, k2⟩
      · exact h.elim
theorem caps_sound (h : FRel R fr a) : ∀ (l : List Operand) (cs : List Cell), caps fr l = some cs → LRel R cs (l.map a.eval)
  | [], cs, hc => by simp [caps] at hc; subst hc; simp [LRel]
  | x :: r, cs, hc => by
    simp only [caps] at hc
    have hx := ev_sound h x
    split at hc
    · simp at hc
    · rename_i c cs' hne he1 he2
      obtain rfl := Option.some.inj hc
      rw [he1] at hx
      simp only [List.map_cons, LRel]
      refine ⟨_, _, rfl, ?_, hx, caps_sound h r cs' he2⟩
      have hx' : CRel R c (a.eval x) := hx
      cases c <;> first | (exact absurd rfl (by simpa using hne)) | skip
      all_goals simp only [CRel] at hx'
      all_goals first
        | (exfalso; simp_all; done)
        | (rw [hx']; rfl)
        | (obtain ⟨_, e⟩ := hx'; rw [e]; rfl)
        | (obtain ⟨_, _, _, e, _⟩ := hx'; rw [e]; rfl)
        | (obtain ⟨_, _, e, _⟩ := hx'; rw [e]; rfl)
        | (obtain ⟨_, e, _⟩ := hx'; rw [e]; rfl)
    · simp at hc
theorem optI_sound (h : FRel R fr a) {x : Option Operand} {r : Option Int} (hr : optI fr x = some r) :
    (x = none ∧ r = none) ∨ ∃ y k n, x = some y ∧ r = some n ∧ a.eval y = .int k n := by
  cases x with
  | none => simp [optI] at hr; exact .inl ⟨rfl, hr.symm⟩
  | some y =>
    simp only [optI] at hr
    have hy := ev_sound h y
    split at hr
    · rename_i k n he
      rw [he] at hy
      simp only [SRel, VRel, CRel] at hy
      exact .inr ⟨y, k, n, rfl, (Option.some.inj hr).symm, hy⟩
    · simp at hr
theorem run_sliceBound {k : IntKind} {n : Int} {y : Nat} {code : BoundsCode} {w : World} (h0 : 0 ≤ n) (h1 : n ≤ y) : (Instr.sliceBound (.int k n) y code).run P w = .ok n.toNat w := by
  simp [Instr.sliceBound, asIntOf, h0, h1]
theorem bnds_sound (h : FRel R fr a) {lo hi mx : Option Operand} {l hh m : Option Int} (h1 : optI fr lo = some l) (h2 : optI fr hi = some hh) (h3 : optI fr mx = some m)
    {len cap : Nat} (hlc : len ≤ cap) (isS : Bool) {K : Nat → Nat → Prop} (hb : bnds len l hh m K) (w : World) :
    ∃ L H M, (Instr.sliceBounds isS len cap (lo.map a.eval) (hi.map a.eval) (mx.map a.eval)).run P w = .ok (L, H, M) w ∧ K L H ∧ L ≤ H ∧ H ≤ M ∧ M ≤ cap ∧ H ≤ len := by
  unfold bnds at hb
  rcases optI_sound h h3 with ⟨rfl, rfl⟩ | ⟨ym, km, nm, rfl, rfl, em⟩
  · obtain ⟨b1, b2, b3, b4⟩ := hb
    rcases optI_sound h h2 with ⟨rfl, rfl⟩ | ⟨yh, kh, nh, rfl, rfl, eh⟩
    · simp only [Option.getD_none] at b1 b2 b3 b4
      rcases optI_sound h h1 with ⟨rfl, rfl⟩ | ⟨yl, kl, nl, rfl, rfl, el⟩
      · exact ⟨0, len, cap, by simp [Instr.sliceBounds], by simpa using b4, by omega, by omega, by omega, by omega⟩
      · simp only [Option.getD_some] at b1 b2 b3 b4
        exact ⟨nl.toNat, len, cap, by simp [Instr.sliceBounds, el, run_sliceBound b1 b2], by simpa using b4, by omega, by omega, by omega, by omega⟩
    · simp only [Option.getD_some] at b2 b3 b4
      rcases optI_sound h h1 with ⟨rfl, rfl⟩ | ⟨yl, kl, nl, rfl, rfl, el⟩
      · simp only [Option.getD_none] at b1 b2 b3 b4
        exact ⟨0, nh.toNat, cap, by simp [Instr.sliceBounds, eh, run_sliceBound b2 (show nh ≤ cap by omega)], by simpa using b4, by omega, by omega, by omega, by omega⟩
      · simp only [Option.getD_some] at b1 b2 b3 b4
        exact ⟨nl.toNat, nh.toNat, cap, by simp [Instr.sliceBounds, eh, el, run_sliceBound (show 0 ≤ nh by omega) (show nh ≤ cap by omega), run_sliceBound b1 (show nl ≤ (nh.toNat : Int) by omega)], by simpa using b4, by omega, by omega, by omega, by omega⟩
  · rcases optI_sound h h2 with ⟨rfl, rfl⟩ | ⟨yh, kh, nh, rfl, rfl, eh⟩
    · exact hb.elim
    · obtain ⟨b1, b2, b3, b5, b4⟩ := hb
      simp only [Option.getD_some] at b2 b3 b4
      rcases optI_sound h h1 with ⟨rfl, rfl⟩ | ⟨yl, kl, nl, rfl, rfl, el⟩
      · simp only [Option.getD_none] at b1 b2 b3 b4
        exact ⟨0, nh.toNat, nm.toNat, by simp [Instr.sliceBounds, em, eh, run_sliceBound (show 0 ≤ nm by omega) (show nm ≤ cap by omega), run_sliceBound b2 (show nh ≤ (nm.toNat : Int) by omega)], by simpa using b4, by omega, by omega, by omega, by omega⟩
      · simp only [Option.getD_some] at b1 b2 b3 b4
        exact ⟨nl.toNat, nh.toNat, nm.toNat, by simp [Instr.sliceBounds, em, eh, el, run_sliceBound (show 0 ≤ nm by omega) (show nm ≤ cap by omega), run_sliceBound (show 0 ≤ nh by omega) (show nh ≤ (nm.toNat : Int) by omega), run_sliceBound b1 (show nl ≤ (nh.toNat : Int) by omega)], by simpa using b4, by omega, by omega, by omega, by omega⟩
end
theorem tkOf_int {d : TypeDesc} {k : IntKind} (h : TK.int k = tkOf d) : d = .int k := by cases d <;> simp [tkOf] at h; rw [h]
theorem tkOf_str {d : TypeDesc} (h : TK.str = tkOf d) : d = .string := by cases d <;> simp [tkOf] at h; rfl
theorem tkOf_slice {d : TypeDesc} {e : Nat} (h : TK.slice e = tkOf d) : d = .slice e := by cases d <;> simp [tkOf] at h; rw [h]
theorem tkOf_array {d : TypeDesc} {n e : Nat} (h : TK.array n e = tkOf d) : d = .array n e := by cases d <;> simp [tkOf] at h; rw [h.1, h.2]
theorem tkOf_struct {d : TypeDesc} {fs : List (Nat × Nat)} (h : TK.struct fs = tkOf d) : ∃ f, d = .struct f ∧ fs = f.toList.map fun f => (f.offset, f.type) := by
  cases d <;> simp [tkOf] at h; exact ⟨_, rfl, h⟩
end Go.Abs

/- The abstract machine: the operations that look at no memory, one by one. -/
namespace Go.Abs
open Go
section
variable {P : Program} {fr : List S} {K : S → Prop} {o : Oper}
theorem pv_move {x : Operand} (ho : o.op = .move x ∨ o.op = .assign x) (h : K (ev fr x)) : ∃ s, K s ∧ PV P o fr s := by
  refine ⟨_, h, fun R a w hf => ⟨a.eval x, ?_, ev_sound hf x⟩⟩
  rcases ho with ho | ho <;> simp [execOp, ho]
theorem pv_pick {c x y : Operand} (ho : o.op = .pick c x y) (h : pstep P (.pick c x y) fr K) : ∃ s, K s ∧ PV P o fr s := by
  simp only [pstep] at h
  split at h
  · rename_i t ht
    refine ⟨_, h, fun R a w hf => ?_⟩
    have hc := ev_sound hf c
    rw [ht] at hc
    simp only [SRel, VRel, CRel] at hc
    cases t
    · exact ⟨a.eval y, by simp [execOp, ho, hc, asBool], ev_sound hf y⟩
    · exact ⟨a.eval x, by simp [execOp, ho, hc, asBool], ev_sound hf x⟩
  · exact h.elim
theorem pv_nilCheck {x : Operand} (ho : o.op = .nilCheck x) (h : pstep P (.nilCheck x) fr K) : ∃ s, K s ∧ PV P o fr s := by
  simp only [pstep] at h
  split at h
  · rename_i p q hx
    refine ⟨_, h, fun R a w hf => ?_⟩
    have hc := ev_sound hf x
    rw [hx] at hc
    refine ⟨a.eval x, ?_, hc⟩
    simp only [SRel, VRel, CRel] at hc
    rw [hc.2]; simp [execOp, ho, hc.2]
  · rename_i cs hx
    refine ⟨_, h, fun R a w hf => ?_⟩
    have hc := ev_sound hf x
    rw [hx] at hc
    refine ⟨a.eval x, ?_, hc⟩
    simp only [SRel, VRel, CRel] at hc
    obtain ⟨_, _, e, _⟩ := hc
    rw [e]; simp [execOp, ho, e]
  · rename_i f cs hx
    refine ⟨_, h, fun R a w hf => ?_⟩
    have hc := ev_sound hf x
    rw [hx] at hc
    refine ⟨a.eval x, ?_, hc⟩
    simp only [SRel, VRel, CRel] at hc
    obtain ⟨_, e, _⟩ := hc
    rw [e]; simp [execOp, ho, e]
  · exact h.elim
theorem binC_uniform {op : BinOp} {tk : TK} {x y : Cell} {K : Cell → Prop} (h : binC op tk x y K) : ∃ r, K r ∧ binC op tk x y (fun r' => r' = r) := by
  unfold binC at h ⊢
  repeat' (first | (exact h.elim) | (exact ⟨_, h, rfl⟩) | (exact ⟨_, h.2, h.1, rfl⟩) | (exact ⟨_, h.2.2, h.1, h.2.1, rfl⟩) | split at h | (obtain ⟨h1, h⟩ := h))
theorem pv_binOp {op : BinOp} {xt yt : TypeId} {x y : Operand} (ho : o.op = .binOp op xt x y yt) (h : pstep P (.binOp op xt x y yt) fr K) : ∃ s, K s ∧ PV P o fr s := by
  simp only [pstep] at h
  split at h
  · rename_i ti ht
    split at h
    · rename_i c d hc hd
      obtain ⟨r, hr, hb⟩ := binC_uniform h
      refine ⟨_, hr, fun R a w hf => ?_⟩
      have hx := ev_sound hf x
      have hy := ev_sound hf y
      rw [hc] at hx
      rw [hd] at hy
      obtain ⟨r', rv, e, h1, h2⟩ := binC_sound ht hb hx hy x y w
      subst e
      refine ⟨rv, ?_, h2⟩
      simp only [execOp, ho, Sem.run_bind] at h1 ⊢
      rw [h1]
      rfl
    · exact h.elim
  · exact h.elim
theorem pv_unOp {op : UnOp} {xt : TypeId} {x : Operand} (ho : o.op = .unOp op xt x) (h : pstep P (.unOp op xt x) fr K) : ∃ s, K s ∧ PV P o fr s := by
  simp only [pstep] at h
  split at h
  · rename_i b hx
    refine ⟨_, h, fun R a w hf => ?_⟩
    have hc := ev_sound hf x
    rw [hx] at hc
    simp only [SRel, VRel, CRel] at hc
    exact ⟨.bool !b, by simp [execOp, ho, hc, Op.unary], by simp [SRel, VRel, CRel]⟩
  · rename_i k n hx
    refine ⟨_, h, fun R a w hf => ?_⟩
    have hc := ev_sound hf x
    rw [hx] at hc
    simp only [SRel, VRel, CRel] at hc
    exact ⟨.int k (k.wrap (0 - n)), by simp [execOp, ho, hc, Op.unary, Op.intArith], by simp [SRel, VRel, CRel]⟩
  · rename_i k n hx
    simp only [arithv] at h
    refine ⟨_, h, fun R a w hf => ?_⟩
    have hc := ev_sound hf x
    rw [hx] at hc
    simp only [SRel, VRel, CRel] at hc
    exact ⟨_, by simp [execOp, ho, hc, Op.unary, Op.intBits]; rfl, by simp [SRel, VRel, CRel]⟩
  · exact h.elim
theorem pv_convert {src dst : TypeId} {x : Operand} (ho : o.op = .convert src dst x) (h : pstep P (.convert src dst x) fr K) : ∃ s, K s ∧ PV P o fr s := by
  simp only [pstep] at h
  split at h
  · rename_i si di hsi hdi
    obtain ⟨i1, d1, hs1⟩ := ti_spec hsi
    obtain ⟨i2, d2, hs2⟩ := ti_spec hdi
    split at h
    · rename_i k k' n hk hx
      split at h
      · rename_i k2 hk2
        have e2 := tkOf_int (hk.symm.trans hs2.kind)
        have e1 := tkOf_int (hk2.symm.trans hs1.kind)
        refine ⟨_, h, fun R a w hf => ?_⟩
        have hc := ev_sound hf x
        rw [hx] at hc
        simp only [SRel, VRel, CRel] at hc
        refine ⟨.int k (k.wrap n), ?_, by simp [SRel, VRel, CRel]⟩
        have u1 := hs1.run_underlying w
        have u2 := hs2.run_underlying w
        rw [e1] at u1; rw [e2] at u2
        simp [execOp, ho, hc, convert, u1, u2, Conv.intToInt]
      · exact h.elim
    · rename_i s hk hx
      split at h
      · rename_i hk2
        have e2 := tkOf_str (hk.symm.trans hs2.kind)
        have e1 := tkOf_str (hk2.symm.trans hs1.kind)
        refine ⟨_, h, fun R a w hf => ?_⟩
        have hc := ev_sound hf x
        rw [hx] at hc
        simp only [SRel, VRel, CRel] at hc
        refine ⟨.string s, ?_, by simp [SRel, VRel, CRel]⟩
        have u1 := hs1.run_underlying w
        have u2 := hs2.run_underlying w
        rw [e1] at u1; rw [e2] at u2
        simp [execOp, ho, hc, convert, u1, u2]
      · exact h.elim
    · exact h.elim
  · exact h.elim
theorem rop_drop {R : Rl} {cs : List Cell} {b off : Nat} (k : Nat) (h : MRel R cs b off) : MRel R (cs.drop k) b (off + k) := by
  refine MRel.of_get fun i c hi => ?_
  rw [List.getElem?_drop] at hi
  obtain ⟨arr, el, fr, v, h1, h2, h3, h4⟩ := h.get hi
  exact ⟨arr, el, fr, v, h1, by rw [Nat.add_assoc]; exact h2, h3, h4⟩
theorem mrel_take {R : Rl} {cs : List Cell} {b off : Nat} (k : Nat) (h : MRel R cs b off) : MRel R (cs.take k) b off := by
  refine MRel.of_get fun i c hi => ?_
  rw [List.getElem?_take] at hi
  split at hi
  · exact h.get hi
  · simp at hi
theorem pv_fieldAddr {t : TypeId} {x : Operand} {f : Nat} (ho : o.op = .fieldAddr t x f) (h : pstep P (.fieldAddr t x f) fr K) : ∃ s, K s ∧ PV P o fr s := by
  simp only [pstep] at h
  split at h
  · rename_i ti ht
    obtain ⟨i1, d1, hs1⟩ := ti_spec ht
    split at h
    · rename_i fs hk
      obtain ⟨F, rfl, rfl⟩ := tkOf_struct (hk.symm.trans hs1.kind)
      split at h
      · rename_i off ft hft
        split at h
        · rename_i fti hfti
          obtain ⟨i2, d2, hs2⟩ := ti_spec hfti
          obtain ⟨hz, h⟩ := h
          rw [List.getElem?_map, Option.map_eq_some_iff] at hft
          obtain ⟨fd, hfd, e⟩ := hft
          obtain ⟨rfl, rfl⟩ := Prod.mk.inj e
          have hfd' : F[f]? = some fd := by simpa using hfd
          have run : ∀ (b q : Nat) (w : World) (a : Act), a.eval x = .pointer (some ⟨b, q, none⟩) → (execOp a.eval o).run P w = .ok (.value (.pointer (some ⟨b, q + fd.offset, none⟩))) w := by
            intro b q w a hc
            simp [execOp, ho, hc, Instr.fieldAt, hs1.run_underlying w, hfd', Instr.sureAddr, fieldPlace, hs2.run_sizeOf w, hz, add_none]
          split at h
          · rename_i p q hx
            refine ⟨_, h, fun R a w hf => ?_⟩
            have hc := ev_sound hf x
            rw [hx] at hc
            simp only [SRel, VRel, CRel] at hc
            exact ⟨_, run _ _ w a hc.2, by simp only [SRel, VRel, CRel]; exact ⟨hc.1, by rw [Nat.add_assoc]⟩⟩
          · rename_i cs hx
            refine ⟨_, h, fun R a w hf => ?_⟩
            have hc := ev_sound hf x
            rw [hx] at hc
            simp only [SRel, VRel, CRel] at hc
            obtain ⟨b, q, e, hT, hM⟩ := hc
            exact ⟨_, run _ _ w a e, by simp only [SRel, VRel, CRel]; exact ⟨b, _, rfl, hT, rop_drop _ hM⟩⟩
          · exact h.elim
        · exact h.elim
      · exact h.elim
    · exact h.elim
  · exact h.elim
theorem partA_uniform {ti : TI} {xs : List Cell} {off : Nat} {K : S → Prop} (h : partA ti xs off K) : ∃ s, K s ∧ partA ti xs off (fun s' => s' = s) := by
  unfold partA at h ⊢
  split at h
  · rename_i hk; exact ⟨_, h, by rw [if_pos hk]⟩
  · rename_i hk
    split at h
    · rename_i k e; exact ⟨_, h.2, by rw [if_neg hk]; exact ⟨h.1, rfl⟩⟩
    · split at h
      · rename_i c hc; exact ⟨_, h, by rw [if_neg hk]⟩
      · exact h.elim
theorem pv_field {t : TypeId} {x : Operand} {f : Nat} (ho : o.op = .field t x f) (h : pstep P (.field t x f) fr K) : ∃ s, K s ∧ PV P o fr s := by
  simp only [pstep] at h
  split at h
  · rename_i ti ht
    obtain ⟨i1, d1, hs1⟩ := ti_spec ht
    split at h
    · rename_i fs hk
      obtain ⟨F, rfl, rfl⟩ := tkOf_struct (hk.symm.trans hs1.kind)
      split at h
      · rename_i off ft hft
        split at h
        · rename_i fti hfti
          rw [List.getElem?_map, Option.map_eq_some_iff] at hft
          obtain ⟨fd, hfd, e⟩ := hft
          obtain ⟨rfl, rfl⟩ := Prod.mk.inj e
          have hfd' : F[f]? = some fd := by simpa using hfd
          split at h
          · rename_i xs hx
            obtain ⟨s, hs, hp⟩ := partA_uniform h
            refine ⟨s, hs, fun R a w hf => ?_⟩
            have hc := ev_sound hf x
            rw [hx] at hc
            obtain ⟨vs, e, hl⟩ := hc
            obtain ⟨s', v, e', h1, h2⟩ := partA_sound hfti hp hl w
            subst e'
            exact ⟨v, by simp [execOp, ho, e, Instr.field, hs1.run_underlying w, hfd', asAgg, h1], h2⟩
          · exact h.elim
        · exact h.elim
      · exact h.elim
    · exact h.elim
  · exact h.elim
theorem pv_indexAddr {t : TypeId} {x ix : Operand} (ho : o.op = .indexAddr t x ix) (h : pstep P (.indexAddr t x ix) fr K) : ∃ s, K s ∧ PV P o fr s := by
  simp only [pstep] at h
  split at h
  · rename_i k i ti hix ht
    obtain ⟨i1, d1, hs1⟩ := ti_spec ht
    have hI : ∀ (R : Rl) (a : Act), FRel R fr a → a.eval ix = .int k i := fun R a hf => by
      have := ev_sound hf ix
      rw [hix] at this
      simpa [SRel, VRel, CRel] using this
    split at h
    · rename_i n e p q hk hx
      have ed := tkOf_array (hk.symm.trans hs1.kind)
      split at h
      · rename_i ei hei
        obtain ⟨i2, d2, hs2⟩ := ti_spec hei
        obtain ⟨h0, h1, h⟩ := h
        refine ⟨_, h, fun R a w hf => ?_⟩
        have hc := ev_sound hf x
        rw [hx] at hc
        simp only [SRel, VRel, CRel] at hc
        have u1 := hs1.run_underlying w
        rw [ed] at u1
        exact ⟨_, by simp [execOp, ho, hI R a hf, hc.2, Instr.indexAt, asIntOf, u1, Instr.sureAddr, h0, h1, hs2.run_sizeOf w, add_none]; rfl, by
          simp only [SRel, VRel, CRel]; exact ⟨hc.1, by rw [Nat.add_assoc]⟩⟩
      · exact h.elim
    · rename_i n e cs hk hx
      have ed := tkOf_array (hk.symm.trans hs1.kind)
      split at h
      · rename_i ei hei
        obtain ⟨i2, d2, hs2⟩ := ti_spec hei
        obtain ⟨h0, h1, h⟩ := h
        refine ⟨_, h, fun R a w hf => ?_⟩
        have hc := ev_sound hf x
        rw [hx] at hc
        simp only [SRel, VRel, CRel] at hc
        obtain ⟨b, q, e, hT, hM⟩ := hc
        have u1 := hs1.run_underlying w
        rw [ed] at u1
        exact ⟨_, by simp [execOp, ho, hI R a hf, e, Instr.indexAt, asIntOf, u1, Instr.sureAddr, h0, h1, hs2.run_sizeOf w, add_none]; rfl, by
          simp only [SRel, VRel, CRel]; exact ⟨b, _, rfl, hT, rop_drop _ hM⟩⟩
      · exact h.elim
    · rename_i e p q n sz hk hx
      have ed := tkOf_slice (hk.symm.trans hs1.kind)
      split at h
      · rename_i ei hei
        obtain ⟨i2, d2, hs2⟩ := ti_spec hei
        obtain ⟨h0, h1, h⟩ := h
        refine ⟨_, h, fun R a w hf => ?_⟩
        have hc := ev_sound hf x
        rw [hx] at hc
        simp only [SRel, VRel, CRel] at hc
        obtain ⟨hp, b, c, e1, e2, e3⟩ := hc
        have u1 := hs1.run_underlying w
        rw [ed] at u1
        rcases e3 with ⟨rfl, e4⟩ | e3
        · exact ⟨_, by simp [execOp, ho, hI R a hf, e1, Instr.indexAt, asIntOf, u1, h0, h1, hs2.run_sizeOf w, add_none]; rfl, by
            simp only [SRel, VRel, CRel]; exact ⟨hp, by rw [Nat.add_assoc]⟩⟩
        · omega
      · exact h.elim
    · rename_i e n cs hk hx
      have ed := tkOf_slice (hk.symm.trans hs1.kind)
      split at h
      · rename_i ei hei
        obtain ⟨i2, d2, hs2⟩ := ti_spec hei
        obtain ⟨h0, h1, h2, h⟩ := h
        refine ⟨_, h, fun R a w hf => ?_⟩
        have hc := ev_sound hf x
        rw [hx] at hc
        simp only [SRel, VRel, CRel] at hc
        obtain ⟨b, c, e1, e2, e3, e4⟩ := hc
        have u1 := hs1.run_underlying w
        rw [ed] at u1
        cases b with
        | none => have := e3 rfl; omega
        | some b =>
          obtain ⟨f1, f2, f3⟩ := e4 b rfl (by rintro rfl; simp at h2)
          obtain ⟨bb, bo, bs⟩ := b
          simp only at f1 f2 f3
          subst f1
          exact ⟨_, by simp [execOp, ho, hI R a hf, e1, Instr.indexAt, asIntOf, u1, h0, h1, hs2.run_sizeOf w, add_none]; rfl, by
            simp only [SRel, VRel, CRel]; exact ⟨bb, _, rfl, f2, rop_drop _ f3⟩⟩
      · exact h.elim
    · exact h.elim
  · exact h.elim
theorem pv_index {t : TypeId} {x ix : Operand} (ho : o.op = .index t x ix) (h : pstep P (.index t x ix) fr K) : ∃ s, K s ∧ PV P o fr s := by
  simp only [pstep] at h
  split at h
  · rename_i k i ti hix ht
    obtain ⟨i1, d1, hs1⟩ := ti_spec ht
    have hI : ∀ (R : Rl) (a : Act), FRel R fr a → a.eval ix = .int k i := fun R a hf => by
      have := ev_sound hf ix
      rw [hix] at this
      simpa [SRel, VRel, CRel] using this
    split at h
    · rename_i n e xs hk hx
      have ed := tkOf_array (hk.symm.trans hs1.kind)
      split at h
      · rename_i ei hei
        obtain ⟨i2, d2, hs2⟩ := ti_spec hei
        obtain ⟨h0, h1, h⟩ := h
        obtain ⟨s, hs, hp⟩ := partA_uniform h
        refine ⟨s, hs, fun R a w hf => ?_⟩
        have hc := ev_sound hf x
        rw [hx] at hc
        obtain ⟨vs, e, hl⟩ := hc
        obtain ⟨s', v, e', h3, h4⟩ := partA_sound hei hp hl w
        subst e'
        have u1 := hs1.run_underlying w
        rw [ed] at u1
        exact ⟨v, by simp [execOp, ho, hI R a hf, e, Instr.index, asIntOf, u1, h0, h1, hs2.run_sizeOf w, h3], h4⟩
      · exact h.elim
    · rename_i s hk hx
      have ed := tkOf_str (hk.symm.trans hs1.kind)
      obtain ⟨h0, h1, h⟩ := h
      refine ⟨_, h, fun R a w hf => ?_⟩
      have hc := ev_sound hf x
      rw [hx] at hc
      simp only [SRel, VRel, CRel] at hc
      have u1 := hs1.run_underlying w
      rw [ed] at u1
      have hlt : i.toNat < s.size := by omega
      have hg : s[i.toNat]? = some (s.data.getD i.toNat 0) := by
        have hd : i.toNat < s.data.size := hlt
        rw [getElem?_pos s i.toNat hlt]
        congr 1
        simp only [Array.getD_eq_getD_getElem?]
        rw [Array.getElem?_eq_getElem hd]
        rfl
      exact ⟨_, by simp only [execOp, ho, hI R a hf, hc, Instr.index, asIntOf, Sem.run_bind, Sem.run_pure, Result.andThen_ok, u1, h0, if_true, hg]; rfl, by simp [SRel, VRel, CRel]⟩
    · exact h.elim
  · exact h.elim
theorem vsrel_get {R : Rl} : ∀ {xs : List V} {vs : List Value}, VsRel R xs vs → ∀ {i : Nat} {x : V}, xs[i]? = some x → ∃ v, vs[i]? = some v ∧ VRel R x v
  | [], vs, _, i, x, hi => by simp at hi
  | y :: xs, vs, k, i, x, hi => by
    simp only [VsRel] at k
    obtain ⟨v, vs', rfl, e2, e3⟩ := k
    cases i with
    | zero => simp at hi; subst hi; exact ⟨v, rfl, e2⟩
    | succ i => simpa using vsrel_get e3 (i := i) (x := x) (by simpa using hi)
theorem pv_extract {x : Operand} {i : Nat} (ho : o.op = .extract x i) (h : pstep P (.extract x i) fr K) : ∃ s, K s ∧ PV P o fr s := by
  simp only [pstep] at h
  split at h
  · rename_i xs hx
    split at h
    · rename_i y hy
      refine ⟨_, h, fun R a w hf => ?_⟩
      have hc := ev_sound hf x
      rw [hx] at hc
      obtain ⟨vs, e, hl⟩ := hc
      obtain ⟨v, h1, h2⟩ := vsrel_get hl hy
      have h3 : vs[i]? = some v := by simpa using h1
      exact ⟨v, by simp [execOp, ho, e, Instr.extract, h3], h2⟩
    · exact h.elim
  · exact h.elim
theorem pv_makeFunc {fn : Fn} {first cap : Array Operand} (ho : o.op = .makeFunc fn first cap) (h : pstep P (.makeFunc fn first cap) fr K) : ∃ s, K s ∧ PV P o fr s := by
  cases fn with
  | func f =>
    simp only [pstep] at h
    split at h
    · rename_i cs hfi hca
      refine ⟨_, h, fun R a w hf => ⟨.func (.func f) #[] (cap.map a.eval), ?_, ?_⟩⟩
      · have : first = #[] := by simpa using hfi
        subst this
        simp [execOp, ho, Instr.makeFunc]
      · simp only [SRel, VRel, CRel]
        exact ⟨_, rfl, by simpa using caps_sound hf _ _ hca⟩
    · exact h.elim
  | _ => exact h.elim
theorem pv_s2ap {t : TypeId} {x : Operand} (ho : o.op = .sliceToArrayPointer t x) (h : pstep P (.sliceToArrayPointer t x) fr K) : ∃ s, K s ∧ PV P o fr s := by
  simp only [pstep] at h
  split at h
  · rename_i ti ht
    obtain ⟨i1, d1, hs1⟩ := ti_spec ht
    split at h
    · rename_i n e p q len sz hk hx
      have ed := tkOf_array (hk.symm.trans hs1.kind)
      obtain ⟨h0, h1, h⟩ := h
      refine ⟨_, h, fun R a w hf => ?_⟩
      have hc := ev_sound hf x
      rw [hx] at hc
      simp only [SRel, VRel, CRel] at hc
      obtain ⟨hp, b, c, e1, e2, e3⟩ := hc
      have u1 := hs1.run_underlying w
      rw [ed] at u1
      rcases e3 with ⟨rfl, e4⟩ | e3
      · exact ⟨_, by simp [execOp, ho, e1, Instr.arrayAt, u1, show ¬ len < n by omega]; rfl, by simp [SRel, VRel, CRel, hp]⟩
      · omega
    · rename_i n e len cs hk hx
      have ed := tkOf_array (hk.symm.trans hs1.kind)
      obtain ⟨h0, h1, h2, h⟩ := h
      refine ⟨_, h, fun R a w hf => ?_⟩
      have hc := ev_sound hf x
      rw [hx] at hc
      simp only [SRel, VRel, CRel] at hc
      obtain ⟨b, c, e1, e2, e3, e4⟩ := hc
      have u1 := hs1.run_underlying w
      rw [ed] at u1
      cases b with
      | none => have := e3 rfl; omega
      | some b =>
        obtain ⟨f1, f2, f3⟩ := e4 b rfl h2
        obtain ⟨bb, bo, bs⟩ := b
        simp only at f1 f2 f3
        subst f1
        exact ⟨_, by simp [execOp, ho, e1, Instr.arrayAt, u1, show ¬ len < n by omega]; rfl, by simp only [SRel, VRel, CRel]; exact ⟨bb, bo, rfl, f2, f3⟩⟩
    · exact h.elim
  · exact h.elim
theorem bnds_uniform {len : Nat} {l h m : Option Int} {K : Nat → Nat → Prop} (hb : bnds len l h m K) : ∃ L H, K L H ∧ bnds len l h m (fun L' H' => L' = L ∧ H' = H) := by
  unfold bnds at hb ⊢
  split at hb
  · obtain ⟨h1, h2, h3, h4⟩ := hb
    exact ⟨_, _, h4, h1, h2, h3, rfl, rfl⟩
  · split at hb
    · exact hb.elim
    · obtain ⟨h1, h2, h3, h5, h4⟩ := hb
      exact ⟨_, _, h4, h1, h2, h3, h5, rfl, rfl⟩
theorem pv_slice {t : TypeId} {x : Operand} {lo hi mx : Option Operand} (ho : o.op = .slice t x lo hi mx) (h : pstep P (.slice t x lo hi mx) fr K) : ∃ s, K s ∧ PV P o fr s := by
  simp only [pstep] at h
  split at h
  · rename_i ti l hh m ht hl hhi hm
    obtain ⟨i1, d1, hs1⟩ := ti_spec ht
    split at h
    · rename_i s hk hx
      have ed := tkOf_str (hk.symm.trans hs1.kind)
      obtain ⟨rfl, h⟩ := h
      obtain ⟨L, H, hK, hb⟩ := bnds_uniform h
      refine ⟨_, hK, fun R a w hf => ?_⟩
      have hc := ev_sound hf x
      rw [hx] at hc
      simp only [SRel, VRel, CRel] at hc
      have u1 := hs1.run_underlying w
      rw [ed] at u1
      obtain ⟨L', H', M, hrun, ⟨rfl, rfl⟩, h1, h2, h3, h4⟩ := bnds_sound (P := P) hf hl hhi (show optI fr none = some none from rfl) (Nat.le_refl _) false hb w
      have hmx : mx = none := by
        cases mx with
        | none => rfl
        | some y => simp only [optI] at hm; split at hm <;> simp at hm
      subst hmx
      simp only [Option.map_none] at hrun
      exact ⟨.string (s.extract L' H'), by simp [execOp, ho, hc, Instr.sliceAt, Instr.slice, u1, hrun], by simp [SRel, VRel, CRel]⟩
    · rename_i e p q n sz hk hx
      have ed := tkOf_slice (hk.symm.trans hs1.kind)
      split at h
      · rename_i ei hei
        obtain ⟨i2, d2, hs2⟩ := ti_spec hei
        obtain ⟨hsz, h⟩ := h
        obtain ⟨L, H, hK, hb⟩ := bnds_uniform h
        refine ⟨_, hK, fun R a w hf => ?_⟩
        have hc := ev_sound hf x
        rw [hx] at hc
        simp only [SRel, VRel, CRel] at hc
        obtain ⟨hp, b, c, e1, e2, e3⟩ := hc
        have u1 := hs1.run_underlying w
        rw [ed] at u1
        obtain ⟨L', H', M, hrun, ⟨rfl, rfl⟩, h1, h2, h3, h4⟩ := bnds_sound (P := P) hf hl hhi hm e2 true hb w
        refine ⟨.slice (if M = L' then b else b.map (·.add (L' * ei.size))) (H' - L') (M - L'), ?_, ?_⟩
        · simp only [execOp, ho, e1, Instr.sliceAt, Instr.slice, Sem.run_bind, u1, Result.andThen_ok, hrun, hs2.run_sizeOf w, Sem.run_pure]
        · simp only [SRel, VRel, CRel]
          refine ⟨hp, _, _, rfl, by omega, ?_⟩
          rcases e3 with ⟨rfl, e4⟩ | e3
          · by_cases hML : M = L'
            · right; omega
            · left
              rw [if_neg hML, Option.map_some, add_none, ← hsz]
              refine ⟨by rw [Nat.add_assoc], ?_⟩
              have : (L' + (M - L')) * sz ≤ c * sz := Nat.mul_le_mul_right _ (by omega)
              rw [Nat.add_mul] at this
              omega
          · right; omega
      · exact h.elim
    · rename_i e n cs hk hx
      have ed := tkOf_slice (hk.symm.trans hs1.kind)
      split at h
      · rename_i ei hei
        obtain ⟨i2, d2, hs2⟩ := ti_spec hei
        obtain ⟨L, H, hK, hb⟩ := bnds_uniform h
        refine ⟨_, hK, fun R a w hf => ?_⟩
        have hc := ev_sound hf x
        rw [hx] at hc
        simp only [SRel, VRel, CRel] at hc
        obtain ⟨b, c, e1, e2, e3, e4⟩ := hc
        have u1 := hs1.run_underlying w
        rw [ed] at u1
        obtain ⟨L', H', M, hrun, ⟨rfl, rfl⟩, h1, h2, h3, h4⟩ := bnds_sound (P := P) hf hl hhi hm e2 true hb w
        refine ⟨.slice (if M = L' then b else b.map (·.add (L' * ei.size))) (H' - L') (M - L'), ?_, ?_⟩
        · simp only [execOp, ho, e1, Instr.sliceAt, Instr.slice, Sem.run_bind, u1, Result.andThen_ok, hrun, hs2.run_sizeOf w, Sem.run_pure]
        · simp only [SRel, VRel, CRel]
          refine ⟨_, _, rfl, by omega, fun hn => ?_, fun y hy hne => ?_⟩
          · have : b = none := by
              split at hn
              · exact hn
              · simpa using hn
            have := e3 this
            omega
          · have hne' : cs ≠ [] := by rintro rfl; simp at hne
            have hML : ¬ M = L' := by
              intro e
              apply hne
              have : H' - L' = 0 := by omega
              simp [this]
            rw [if_neg hML] at hy
            cases b with
            | none => simp at hy
            | some b =>
              obtain ⟨f1, f2, f3⟩ := e4 b rfl hne'
              obtain ⟨bb, bo, bs⟩ := b
              simp only at f1 f2 f3
              subst f1
              simp only [Option.map_some, Option.some.injEq] at hy
              subst hy
              rw [add_none]
              exact ⟨rfl, f2, mrel_take _ (rop_drop _ f3)⟩
      · exact h.elim
    · rename_i e hk hx
      have ed := tkOf_slice (hk.symm.trans hs1.kind)
      split at h
      · rename_i ei hei
        obtain ⟨i2, d2, hs2⟩ := ti_spec hei
        obtain ⟨L, H, hK, hb⟩ := bnds_uniform h
        refine ⟨_, hK, fun R a w hf => ?_⟩
        have hc := ev_sound hf x
        rw [hx] at hc
        simp only [SRel, VRel, CRel] at hc
        have u1 := hs1.run_underlying w
        rw [ed] at u1
        obtain ⟨L', H', M, hrun, ⟨rfl, rfl⟩, h1, h2, h3, h4⟩ := bnds_sound (P := P) hf hl hhi hm (Nat.le_refl 0) true hb w
        refine ⟨.slice none 0 0, ?_, by simp [SRel, VRel, CRel]⟩
        have z1 : M = 0 := by omega
        have z2 : H' = 0 := by omega
        have z3 : L' = 0 := by omega
        subst z1; subst z2; subst z3
        simp [execOp, ho, hc, Instr.sliceAt, Instr.slice, u1, hrun, hs2.run_sizeOf w]
      · exact h.elim
    · rename_i n e cs hk hx
      have ed := tkOf_array (hk.symm.trans hs1.kind)
      split at h
      · rename_i ei hei
        obtain ⟨i2, d2, hs2⟩ := ti_spec hei
        obtain ⟨L, H, hK, hb⟩ := bnds_uniform h
        refine ⟨_, hK, fun R a w hf => ?_⟩
        have hc := ev_sound hf x
        rw [hx] at hc
        simp only [SRel, VRel, CRel] at hc
        obtain ⟨b, q, e1, hT, hM⟩ := hc
        have u1 := hs1.run_underlying w
        rw [ed] at u1
        obtain ⟨L', H', M, hrun, ⟨rfl, rfl⟩, h1, h2, h3, h4⟩ := bnds_sound (P := P) hf hl hhi hm (Nat.le_refl n) false hb w
        refine ⟨.slice (some (if M = L' then ⟨b, q, none⟩ else ⟨b, q + L' * ei.size, none⟩)) (H' - L') (M - L'), ?_, ?_⟩
        · simp [execOp, ho, e1, Instr.sliceAt, u1, Instr.sureAddr, hrun, hs2.run_sizeOf w, add_none]
        · simp only [SRel, VRel, CRel]
          refine ⟨_, _, rfl, by omega, by simp, fun y hy hne => ?_⟩
          have hML : ¬ M = L' := by
            intro e
            apply hne
            have : H' - L' = 0 := by omega
            simp [this]
          rw [if_neg hML] at hy
          obtain rfl := Option.some.inj hy
          exact ⟨rfl, hT, mrel_take _ (rop_drop _ hM)⟩
      · exact h.elim
    · exact h.elim
  · exact h.elim
theorem pv_call {c : Call} (ho : o.op = .call c) (h : pstep P (.call c) fr K) : ∃ s, K s ∧ PV P o fr s := by
  obtain ⟨callee, args, ats⟩ := c
  cases callee with
  | builtin b =>
    cases b
    case len =>
      simp only [pstep] at h
      split at h
      · rename_i x t hargs hats
        split at h
        · rename_i ti ht
          obtain ⟨i1, d1, hs1⟩ := ti_spec ht
          have ha : args = #[x] := by apply Array.ext'; simpa using hargs
          have hat : ats = #[t] := by apply Array.ext'; simpa using hats
          subst ha; subst hat
          split at h
          · rename_i s hk hx
            have ed := tkOf_str (hk.symm.trans hs1.kind)
            refine ⟨_, h, fun R a w hf => ?_⟩
            have hc := ev_sound hf x
            rw [hx] at hc
            simp only [SRel, VRel, CRel] at hc
            have u1 := hs1.run_underlying w
            rw [ed] at u1
            exact ⟨.int .i64 s.size, by simp [execOp, ho, resolve, invoke, builtin, Builtin.len_, hc, u1, goInt], by simp [SRel, VRel, CRel]⟩
          · rename_i e p q n sz hk hx
            have ed := tkOf_slice (hk.symm.trans hs1.kind)
            refine ⟨_, h, fun R a w hf => ?_⟩
            have hc := ev_sound hf x
            rw [hx] at hc
            simp only [SRel, VRel, CRel] at hc
            obtain ⟨hp, b, c, e1, e2, e3⟩ := hc
            have u1 := hs1.run_underlying w
            rw [ed] at u1
            exact ⟨.int .i64 n, by simp [execOp, ho, resolve, invoke, builtin, Builtin.len_, e1, u1, goInt], by simp [SRel, VRel, CRel]⟩
          · rename_i e n cs hk hx
            have ed := tkOf_slice (hk.symm.trans hs1.kind)
            refine ⟨_, h, fun R a w hf => ?_⟩
            have hc := ev_sound hf x
            rw [hx] at hc
            simp only [SRel, VRel, CRel] at hc
            obtain ⟨b, c, e1, e2, e3⟩ := hc
            have u1 := hs1.run_underlying w
            rw [ed] at u1
            exact ⟨.int .i64 n, by simp [execOp, ho, resolve, invoke, builtin, Builtin.len_, e1, u1, goInt], by simp [SRel, VRel, CRel]⟩
          · rename_i e hk hx
            have ed := tkOf_slice (hk.symm.trans hs1.kind)
            refine ⟨_, h, fun R a w hf => ?_⟩
            have hc := ev_sound hf x
            rw [hx] at hc
            simp only [SRel, VRel, CRel] at hc
            have u1 := hs1.run_underlying w
            rw [ed] at u1
            exact ⟨.int .i64 0, by simp [execOp, ho, resolve, invoke, builtin, Builtin.len_, hc, u1, goInt], by simp [SRel, VRel, CRel]⟩
          · rename_i n e hk
            have ed := tkOf_array (hk.symm.trans hs1.kind)
            refine ⟨_, h, fun R a w hf => ?_⟩
            have u1 := hs1.run_underlying w
            rw [ed] at u1
            exact ⟨.int .i64 n, by simp [execOp, ho, resolve, invoke, builtin, Builtin.len_, u1, goInt], by simp [SRel, VRel, CRel]⟩
          · exact h.elim
        · exact h.elim
      · exact h.elim
    case min =>
      simp only [pstep] at h
      split at h
      · rename_i x y hargs
        have ha : args = #[x, y] := by apply Array.ext'; simpa using hargs
        subst ha
        split at h
        · rename_i k c k' d hx hy
          refine ⟨_, h, fun R a w hf => ?_⟩
          have h1 := ev_sound hf x
          rw [hx] at h1
          have h2 := ev_sound hf y
          rw [hy] at h2
          simp only [SRel, VRel, CRel] at h1 h2
          exact ⟨.int k (if d < c then d else c), by simp [execOp, ho, resolve, invoke, builtin, Builtin.min_, Builtin.min2, h1, h2], by simp [SRel, VRel, CRel]⟩
        · exact h.elim
      · exact h.elim
    case max =>
      simp only [pstep] at h
      split at h
      · rename_i x y hargs
        have ha : args = #[x, y] := by apply Array.ext'; simpa using hargs
        subst ha
        split at h
        · rename_i k c k' d hx hy
          refine ⟨_, h, fun R a w hf => ?_⟩
          have h1 := ev_sound hf x
          rw [hx] at h1
          have h2 := ev_sound hf y
          rw [hy] at h2
          simp only [SRel, VRel, CRel] at h1 h2
          exact ⟨.int k (if d > c then d else c), by simp [execOp, ho, resolve, invoke, builtin, Builtin.max_, Builtin.max2, h1, h2], by simp [SRel, VRel, CRel]⟩
        · exact h.elim
      · exact h.elim
    all_goals exact h.elim
  | _ => exact h.elim
theorem pstep_sound (h : pstep P o.op fr K) : ∃ s, K s ∧ PV P o fr s := by
  cases ho : o.op <;> rw [ho] at h
  case move x => exact pv_move (.inl ho) h
  case assign x => exact pv_move (.inr ho) h
  case pick c x y => exact pv_pick ho h
  case nilCheck x => exact pv_nilCheck ho h
  case binOp op xt x y yt => exact pv_binOp ho h
  case unOp op xt x => exact pv_unOp ho h
  case convert s d x => exact pv_convert ho h
  case fieldAddr t x f => exact pv_fieldAddr ho h
  case field t x f => exact pv_field ho h
  case indexAddr t x ix => exact pv_indexAddr ho h
  case index t x ix => exact pv_index ho h
  case extract x i => exact pv_extract ho h
  case makeFunc fn f c => exact pv_makeFunc ho h
  case sliceToArrayPointer t x => exact pv_s2ap ho h
  case slice t x lo hi mx => exact pv_slice ho h
  case call c => exact pv_call ho h
  all_goals exact h.elim
end
end Go.Abs

/- The abstract machine: operations that look at memory, or write it. -/
namespace Go.Abs
open Go
def Good (P : Program) (k : FuncId) (args : List V) (H : Heap) (v : S) (H' : Heap) : Prop :=
  H.length ≤ H'.length ∧ (∃ fn, P.funcs[k]? = some fn ∧ fn.body.isSome = true ∧ (fn.name == "runtime.NumGoroutine") = false) ∧ ∀ (E : Env) (ρ : Nat → Place) (w : World) (rargs : List Value), E.Ok → E.w0 = w →
    (∀ b, E.img b ↔ ∃ p cs, H[p]? = some (some cs) ∧ (ρ p).room ≠ 0 ∧ (ρ p).blk = b) → HRel E ρ w H → VsRel (E.rl H.length ρ) args rargs →
    Calls P k rargs.toArray w fun e w' => ∃ rv ρ', e = .returned rv ∧ (∀ p, p < H.length → ρ' p = ρ p) ∧ HRel E ρ' w' H' ∧ SRel (E.rl H'.length ρ') v rv
def joinH (H : Heap) (p : Nat) : Option (List Cell) :=
  match H[p]? with
  | some (some cs) => some cs
  | _ => none
def cin (π : List Nat) (lend : Bool) (H : Heap) : CM := ⟨fun p => idx p π, fun p => if lend then joinH H p else none, true, lend⟩
def cout (π : List Nat) (lend : Bool) (n : Nat) : CM := ⟨fun j => match π[j]? with | some p => some p | none => some (n + (j - π.length)), fun _ => none, !lend, false⟩
def pbk (π : List Nat) (f : Cell → Cell) (Hl : Heap) (p : Nat) (b : Option (List Cell)) : Option (List Cell) :=
  match idx p π with
  | some j => pick Hl f j
  | none => b
def putB (π : List Nat) (f : Cell → Cell) (Hl : Heap) : Nat → Heap → Heap
  | _, [] => []
  | p, b :: r => pbk π f Hl p b :: putB π f Hl (p + 1) r
def picks (f : Cell → Cell) : Heap → Heap
  | [] => []
  | some cs :: r => some (cs.map f) :: picks f r
  | none :: r => none :: picks f r
def back (π : List Nat) (f : Cell → Cell) (H Hl : Heap) : Heap := putB π f Hl 0 H ++ picks f (Hl.drop π.length)
def argVs (fr : List S) : List Operand → Option (List V)
  | [] => some []
  | x :: r => match ev fr x, argVs fr r with
    | .v y, some ys => some (y :: ys)
    | _, _ => none
def Ext (P : Program) (k : FuncId) (args : List V) (v : S) : Prop :=
  ∀ (R : Rl) (w : World) (rargs : List Value), VsRel R args rargs → ∃ rv, (callFunc k rargs.toArray).run P w = .ok (.value rv) w ∧ SRel R v rv
def callO (P : Program) (fr : List S) (H : Heap) (f : Operand) (args : Array Operand) (K : S → Heap → Prop) : Prop :=
  match ev fr f, argVs fr args.toList with
  | .v (.c (.fn k cap)), some avs => (∃ (π : List Nat) (lend : Bool) (v : S) (Hl' : Heap), π.Nodup ∧ (∀ p ∈ π, p < H.length) ∧
      Good P k ((avs ++ cap.map V.c).map (vm (cm (cin π lend H) 8))) (π.map (pick H (cm (cin π lend H) 8))) v Hl' ∧
        K (sm (cm (cout π lend H.length) 8) v) (back π (cm (cout π lend H.length) 8) H Hl')) ∨ (cap = [] ∧ ∃ v, Ext P k avs v ∧ K v H)
  | _, _ => False
def OpG (P : Program) (o : Oper) (fr : List S) (H : Heap) (s : S) (H' : Heap) : Prop :=
  H.length ≤ H'.length ∧ ∀ (E : Env) (ρ : Nat → Place) (a : Act) (w : World), E.Ok → Sim E ρ ⟨fr, H⟩ a w →
    ∀ (K : Act → World → Prop) (Q : Exit → Act → World → Prop),
      (∀ v w' ρ', (∀ p, p < H.length → ρ' p = ρ p) → HRel E ρ' w' H' → SRel (E.rl H'.length ρ') s v → K (a.put o.dst v) w') → o.wp P a w K Q
def OpR (P : Program) (o : Oper) (fr : List S) (H : Heap) (s : S) : Prop :=
  ∀ (E : Env) (ρ : Nat → Place) (a : Act) (w : World), E.Ok → Sim E ρ ⟨fr, H⟩ a w → ∃ v, (execOp a.eval o).run P w = .ok (.value v) w ∧ SRel (E.rl H.length ρ) s v
theorem opg_opr {P : Program} {o : Oper} {fr : List S} {H : Heap} {s : S} (h : OpR P o fr H s) : OpG P o fr H s H := by
  refine ⟨Nat.le_refl _, fun E ρ a w hE hs K Q hK => ?_⟩
  obtain ⟨v, h1, h2⟩ := h E ρ a w hE hs
  unfold Oper.wp
  rw [h1]
  exact hK v w ρ (fun _ _ => rfl) hs.heap h2
theorem opr_pv {P : Program} {o : Oper} {fr : List S} {s : S} (H : Heap) (h : PV P o fr s) : OpR P o fr H s := fun _ _ a w _ hs => h _ a w hs.fr
theorem opg_pv {P : Program} {o : Oper} {fr : List S} {s : S} (H : Heap) (h : PV P o fr s) : OpG P o fr H s H := by
  refine ⟨Nat.le_refl _, fun E ρ a w hE hs K Q hK => ?_⟩
  obtain ⟨v, h1, h2⟩ := h _ a w hs.fr
  unfold Oper.wp
  rw [h1]
  exact hK v w ρ (fun _ _ => rfl) hs.heap h2
theorem opg_run {P : Program} {o : Oper} {fr : List S} {H H' : Heap} {s : S} (hl : H.length ≤ H'.length)
    (h : ∀ (E : Env) (ρ : Nat → Place) (a : Act) (w : World), E.Ok → Sim E ρ ⟨fr, H⟩ a w →
      ∃ v w' ρ', ((execOp a.eval o).run P w = .ok (.value v) w' ∨ ((execOp a.eval o).run P w = .ok .skip w' ∧ v = undef)) ∧ (∀ p, p < H.length → ρ' p = ρ p) ∧ HRel E ρ' w' H' ∧ SRel (E.rl H'.length ρ') s v) :
    OpG P o fr H s H' := by
  refine ⟨hl, fun E ρ a w hE hs K Q hK => ?_⟩
  obtain ⟨v, w', ρ', h1, h2, h3, h4⟩ := h E ρ a w hE hs
  unfold Oper.wp
  rcases h1 with h1 | ⟨h1, rfl⟩
  · rw [h1]; exact hK v w' ρ' h2 h3 h4
  · rw [h1]; exact hK undef w' ρ' h2 h3 h4
def cellsV : S → Option (List Cell)
  | .v (.c .undef) => none
  | .v (.c c) => some [c]
  | .v (.a xs) => some xs
  | .t _ => none
def splice (cs : List Cell) (q : Nat) (xs : List Cell) : List Cell := cs.take q ++ (xs ++ cs.drop (q + xs.length))
def wrV (cs : List Cell) (q : Nat) : S → List Cell
  | .v (.c c) => cs.set q c
  | .v (.a xs) => splice cs q xs
  | _ => cs
def fillK (fr : List S) (place : Nat → Option (Nat × Nat)) (K : List Cell → Prop) : List Cell → List (Nat × Operand) → Prop
  | cells, [] => K cells
  | cells, (i, x) :: r => match place i, cellsV (ev fr x) with
    | some (off, size), some cs => cs.length = size ∧ off + size ≤ cells.length ∧ fillK fr place K (wrV cells off (ev fr x)) r
    | _, _ => False
def bytesOf : List Cell → List UInt8
  | [] => []
  | .int _ n :: r => UInt8.ofNat n.toNat :: bytesOf r
  | _ :: r => 0 :: bytesOf r
def mapc {α : Type} (k : IntKind) (g : α → Int) (l : List α) : List Cell := l.map fun a => .int k (g a)
abbrev u8s (l : List UInt8) : List Cell := mapc .u8 (fun b : UInt8 => (b.toNat : Int)) l
def rep (n : Nat) : List Cell → List Cell
  | [z] => List.replicate n z
  | zs => (List.replicate n zs).flatten
def elems (H : Heap) (esz : Nat) (s : S) (K : Nat → List Cell → Prop) : Prop :=
  match s with
  | .v (.c .nils) => K 0 []
  | .v (.c (.str s)) => esz = 1 ∧ K s.size (u8s s.data.toList)
  | .v (.c (.ro n cs)) => cs.length = n * esz ∧ K n cs
  | .v (.c (.slc p q n sz)) => match H[p]? with
    | some (some cs) => sz = esz ∧ q + n * esz ≤ cs.length ∧ K n ((cs.drop q).take (n * esz))
    | _ => False
  | _ => False
def kill (H : Heap) : S → Heap
  | .v (.c (.slc p _ _ _)) => H.set p none
  | _ => H
def loadR (P : Program) (fr : List S) (H : Heap) (t : TypeId) (x : Operand) (K : S → Prop) : Prop :=
  match tiOf P t with
  | some ti => match ti.kind.agg, ev fr x with
    | true, .v (.c (.ptr p q)) => match H[p]? with
      | some (some cs) => 0 < ti.size ∧ q + ti.size ≤ cs.length ∧ K (sa ((cs.drop q).take ti.size))
      | _ => False
    | true, .v (.c (.rop cs)) => 0 < ti.size ∧ ti.size ≤ cs.length ∧ K (sa (cs.take ti.size))
    | false, .v (.c (.ptr p q)) => match H[p]? with
      | some (some cs) => match ti.kind with
        | .int k => isInt k cs q ∧ K (sc (.int k (intAt cs q)))
        | _ => match cs[q]? with
          | some c => K (sc c)
          | none => False
      | _ => False
    | false, .v (.c (.rop cs)) => match ti.kind with
      | .int k => isInt k cs 0 ∧ K (sc (.int k (intAt cs 0)))
      | _ => match cs[0]? with
        | some c => K (sc c)
        | none => False
    | _, _ => False
  | none => False
def placeS (P : Program) (fs : List (Nat × Nat)) (i : Nat) : Option (Nat × Nat) :=
  match fs[i]? with
  | some (off, ft) => (tiOf P ft).map fun fi => (off, fi.size)
  | none => none
def ostep (P : Program) (o : Oper) (fr : List S) (H : Heap) (K : S → Heap → Prop) : Prop :=
  match o.op with
  | .alloc t => match tiOf P t with
    | some ti => match ti.zero with
      | some z => K (sc (.ptr H.length 0)) (H ++ [some z])
      | none => False
    | none => False
  | .box _ x => match cellsV (ev fr x) with
    | some cs => K (sc (.ptr H.length 0)) (H ++ [some cs])
    | none => False
  | .build t parts => match tiOf P t with
    | some ti => match ti.zero, ti.kind with
      | some z, .array _ e => match tiOf P e with
        | some ei => fillK fr (fun i => some (i * ei.size, ei.size)) (fun cs => K (sa cs) H) z parts.toList
        | none => False
      | some z, .struct fs => (fs.all fun f => (tiOf P f.2).isSome) = true ∧ fillK fr (placeS P fs) (fun cs => K (sa cs) H) z parts.toList
      | _, _ => False
    | none => False
  | .buildSlice t len parts => match tiOf P t with
    | some ti => match ti.kind with
      | .slice e => match tiOf P e with
        | some ei => match ei.zero with
          | some z => z.length = ei.size ∧ len * ei.size ≤ 16777216 ∧ fillK fr (fun i => some (i * ei.size, ei.size)) (fun cs => K (sc (.slc H.length 0 len ei.size)) (H ++ [some cs])) (rep len z) parts.toList
          | none => False
        | none => False
      | _ => False
    | none => False
  | .load t x => loadR P fr H t x fun s => K s H
  | .store t x y => match tiOf P t with
    | some ti => match ev fr x with
      | .v (.c (.ptr p q)) => match H[p]? with
        | some (some cs) => match cellsV (ev fr y) with
          | some ds => ds.length = ti.size ∧ 0 < ti.size ∧ q + ti.size ≤ cs.length ∧ K ud (H.set p (some (wrV cs q (ev fr y))))
          | none => False
        | _ => False
      | _ => False
    | none => False
  | .makeSlice t l c => match tiOf P t with
    | some ti => match ti.kind, ev fr l, ev fr c with
      | .slice e, .v (.c (.int .i64 n)), .v (.c (.int .i64 m)) => match tiOf P e with
        | some ei => match ei.zero with
          | some z => z.length = ei.size ∧ 0 < ei.size ∧ n = m ∧ 0 ≤ n ∧ n ≤ 281474976710656 ∧ ei.bytes * n ≤ 281474976710656 ∧ K (sc (.slc H.length 0 n.toNat ei.size)) (H ++ [some (rep n.toNat z)])
          | none => False
        | none => False
      | _, _, _ => False
    | none => False
  | .convert src dst x => match tiOf P src, tiOf P dst with
    | some si, some di => match si.kind, di.kind, ev fr x with
      | .slice e, .str, .v (.c (.slc p q n sz)) => match tiOf P e, H[p]? with
        | some ei, some (some cs) => match ei.kind with
          | .int .u8 => sz = 1 ∧ q + n ≤ cs.length ∧ allInt .u8 ((cs.drop q).take n) = true ∧ K (sc (.str ⟨(bytesOf ((cs.drop q).take n)).toArray⟩)) H
          | _ => False
        | _, _ => False
      | .slice e, .str, .v (.c (.ro n cs)) => match tiOf P e with
        | some ei => match ei.kind with
          | .int .u8 => cs.length = n ∧ allInt .u8 cs = true ∧ K (sc (.str ⟨(bytesOf cs).toArray⟩)) H
          | _ => False
        | none => False
      | .slice e, .str, .v (.c .nils) => match tiOf P e with
        | some ei => match ei.kind with
          | .int .u8 => K (sc (.str ⟨#[]⟩)) H
          | _ => False
        | none => False
      | .str, .slice e, .v (.c (.str s)) => match tiOf P e with
        | some ei => match ei.kind with
          | .int .u8 => ei.size = 1 ∧ K (sc (.slc H.length 0 s.size 1)) (H ++ [some (u8s s.data.toList)])
          | _ => False
        | none => False
      | .slice e, .slice _, .v (.c (.slc p q n sz)) => match tiOf P e, H[p]? with
        | some ei, some (some _) => match ei.kind with
          | .int .u8 => src = dst ∧ sz = 1 ∧ 0 < n ∧ K (sc (.slc p q n sz)) H
          | _ => False
        | _, _ => False
      | _, _, _ => pstep P o.op fr fun s => K s H
    | _, _ => False
  | .slice t x lo hi mx => match ev fr x with
    | .v (.c (.ptr p q)) => match tiOf P t, optI fr lo, optI fr hi, optI fr mx, H[p]? with
      | some ti, some l, some h, some m, some (some cs) => match ti.kind with
        | .array n e => match tiOf P e with
          | some ei => 0 < ei.size ∧ q + n * ei.size ≤ cs.length ∧ bnds n l h m fun l h => K (sc (.slc p (q + l * ei.size) (h - l) ei.size)) H
          | none => False
        | _ => False
      | _, _, _, _, _ => False
    | _ => pstep P o.op fr fun s => K s H
  | .binOp op xt x y _ => match ev fr x, ev fr y with
    | .v (.a xs), .v (.a ys) => match tiOf P xt with
      | some ti => match ti.kind with
        | .array n e => match tiOf P e with
          | some ei => match ei.kind, eqv op (decide (intsOf xs = intsOf ys)) with
            | .int k, some r => ti.plain = true ∧ ei.size = 1 ∧ allInt k xs = true ∧ allInt k ys = true ∧ xs.length = n ∧ ys.length = n ∧ K (sc (.bool r)) H
            | _, _ => False
          | none => False
        | _ => False
      | none => False
    | _, _ => pstep P o.op fr fun s => K s H
  | .call c => match c.callee with
    | .builtin .append => match c.args.toList, c.argTypes.toList with
      | [s, x], [t, t'] => match tiOf P t, tiOf P t' with
        | some ti, some ti' => match ti.kind, ti'.kind with
          | .slice e, .int _ => match tiOf P e with
            | some ei => match ei.zero with
              | some z => 0 < ei.bytes ∧ 0 < ei.size ∧ z.length = ei.size ∧ elems H ei.size (ev fr s) fun n cs => match ev fr x with
                | .v (.c (.int .i64 mi)) => 0 ≤ mi ∧ (2 * (n + mi.toNat) + 192) * ei.bytes ≤ 281474976710656 ∧ n + mi.toNat ≤ 281474976710656 ∧
                  match ev fr s with
                  | .v (.c (.slc _ _ _ _)) | .v (.c .nils) => K (sc (.slc H.length 0 (n + mi.toNat) ei.size)) (kill H (ev fr s) ++ [some (cs ++ rep mi.toNat z)])
                  | _ => False
                | _ => False
              | none => False
            | none => False
          | _, .int _ => False
          | .slice e, _ => match tiOf P e with
            | some ei => match ei.zero with
              | some z => 0 < ei.bytes ∧ 0 < ei.size ∧ z.length = ei.size ∧ elems H ei.size (ev fr s) fun n cs => elems H ei.size (ev fr x) fun m ds =>
                  (2 * (n + m) + 192) * ei.bytes ≤ 281474976710656 ∧ n + m ≤ 281474976710656 ∧
                  match ev fr s with
                  | .v (.c (.slc _ _ _ _)) | .v (.c .nils) => K (sc (.slc H.length 0 (n + m) ei.size)) (kill H (ev fr s) ++ [some (cs ++ ds)])
                  | _ => False
              | none => False
            | none => False
          | _, _ => False
        | _, _ => False
      | _, _ => False
    | .builtin .copy => match c.args.toList, c.argTypes.toList with
      | [d, x], [t, _] => match tiOf P t with
        | some ti => match ti.kind with
          | .slice e => match tiOf P e with
            | some ei => match ev fr d with
              | .v (.c (.slc p q n sz)) => match H[p]? with
                | some (some cs) => sz = ei.size ∧ q + n * sz ≤ cs.length ∧ elems H ei.size (ev fr x) fun m ds =>
                    K (sc (.int .i64 (min m n : Nat))) (H.set p (some (splice cs q (ds.take (min m n * sz)))))
                | _ => False
              | _ => False
            | none => False
          | _ => False
        | none => False
      | _, _ => False
    | .builtin _ => pstep P o.op fr fun s => K s H
    | .value f => callO P fr H f c.args K
    | _ => False
  | _ => pstep P o.op fr fun s => K s H
end Go.Abs

/- The abstract machine: the operations on memory are described rightly. -/
namespace Go.Abs
open Go
theorem one_of_rel {R : Rl} {c : Cell} {v : Value} (h : CRel R c v) (hc : c ≠ .undef) : v.oneCell' = true := by
  cases c <;> first | exact absurd rfl hc | skip
  all_goals simp only [CRel] at h
  all_goals first
    | (rw [h]; rfl)
    | (obtain ⟨_, e⟩ := h; rw [e]; rfl)
    | (obtain ⟨_, _, _, e, _⟩ := h; rw [e]; rfl)
    | (obtain ⟨_, _, e, _⟩ := h; rw [e]; rfl)
    | (obtain ⟨_, e, _⟩ := h; rw [e]; rfl)
theorem cells_of_one {v : Value} (h : v.oneCell' = true) : v.cells = #[v] := by
  cases v <;> first | rfl | (simp [Value.oneCell'] at h)
theorem cellsV_sound {R : Rl} {s : S} {cs : List Cell} (h : cellsV s = some cs) {v : Value} (hv : SRel R s v) : LRel R cs v.cells.toList := by
  unfold cellsV at h
  split at h
  · simp at h
  · rename_i c hne
    obtain rfl := Option.some.inj h
    have h1 : CRel R c v := hv
    have h2 := one_of_rel h1 (by rintro rfl; exact hne rfl)
    rw [cells_of_one h2]
    simp only [LRel]
    exact ⟨v, [], rfl, h2, h1, rfl⟩
  · rename_i xs
    obtain rfl := Option.some.inj h
    obtain ⟨vs, rfl, hl⟩ := hv
    exact hl
  · simp at h
theorem LRel.one {R : Rl} {cs : List Cell} {vs : List Value} (h : LRel R cs vs) : ∀ v ∈ vs, v.oneCell' = true := by
  intro v hv
  obtain ⟨i, hi⟩ := List.getElem?_of_mem hv
  have hlt : i < cs.length := by rw [← h.length]; exact (List.getElem?_eq_some_iff.1 hi).1
  obtain ⟨v', h1, h2, h3⟩ := h.get (List.getElem?_eq_getElem hlt)
  rw [hi] at h1
  obtain rfl := Option.some.inj h1
  exact h2
section
variable {P : Program} {fr : List S} {H : Heap} {K : S → Heap → Prop} {o : Oper}
theorem lrel_vOf {R : Rl} {vs : List Value} (h : vs.all Value.oneCell' = true) : LRel R (vs.map vOf) vs := by
  refine LRel.of_get (by simp) fun i c hi => ?_
  rw [List.getElem?_map, Option.map_eq_some_iff] at hi
  obtain ⟨v, h1, rfl⟩ := hi
  exact ⟨v, h1, List.all_eq_true.1 h v (List.mem_of_getElem? h1), vOf_sound R v⟩
theorem push_lrel {E : Env} {ρ : Nat → Place} {w : World} (h : HRel E ρ w H) {cs : List Cell} {vs : Array Value} (hl : LRel (E.rl H.length ρ) cs vs.toList) (el : TypeId) :
    HRel E (upd ρ H.length ⟨w.heap.size, 0, vs.size⟩) { w with heap := w.heap.push (.cells vs el) } (H ++ [some cs]) := by
  refine h.push (arr := vs) (el := el) (fr := (0, 0)) rfl rfl rfl rfl (.inl rfl) (by have := hl.length; simp at this; omega) fun i c hi => ?_
  obtain ⟨v, h1, h2, h3⟩ := hl.get hi
  exact ⟨v, by simpa using h1, h2, h3.mono (rl_le_upd E ρ H.length H.length _ (Nat.le_refl _))⟩
theorem upd_old {ρ : Nat → Place} {m : Nat} {pl : Place} : ∀ p, p < m → upd ρ m pl p = ρ p := fun p hp => by unfold upd; rw [if_neg (by omega)]
theorem upd_new {ρ : Nat → Place} {m : Nat} {pl : Place} : upd ρ m pl m = pl := by unfold upd; rw [if_pos rfl]
theorem og_alloc {t : TypeId} (ho : o.op = .alloc t) (h : ostep P o fr H K) : ∃ s H', OpG P o fr H s H' ∧ K s H' := by
  simp only [ostep, ho] at h
  split at h
  · rename_i ti ht
    obtain ⟨i1, d1, hs1⟩ := ti_spec ht
    split at h
    · rename_i z hz
      refine ⟨_, _, opg_run (by simp) fun E ρ a w hE hs => ?_, h⟩
      obtain ⟨v, h1, h2, h3⟩ := hs1.run_zero hz w
      refine ⟨.pointer (some ⟨w.heap.size, 0, none⟩), _, upd ρ H.length ⟨w.heap.size, 0, v.cells.size⟩, .inl ?_, upd_old, push_lrel hs.heap (by rw [h3]; exact lrel_vOf h2) t, ?_⟩
      · simp [execOp, ho, Instr.alloc, h1, newVar, newRow]
      · simp only [SRel, VRel, CRel]
        refine ⟨by simp [Env.rl], ?_⟩
        simp [Env.rl, upd_new]
    · exact h.elim
  · exact h.elim
theorem og_box {t : TypeId} {x : Operand} (ho : o.op = .box t x) (h : ostep P o fr H K) : ∃ s H', OpG P o fr H s H' ∧ K s H' := by
  simp only [ostep, ho] at h
  split at h
  · rename_i cs hcs
    refine ⟨_, _, opg_run (by simp) fun E ρ a w hE hs => ?_, h⟩
    have hl := cellsV_sound hcs (ev_sound hs.fr x)
    refine ⟨.pointer (some ⟨w.heap.size, 0, none⟩), _, upd ρ H.length ⟨w.heap.size, 0, (a.eval x).cells.size⟩, .inl ?_, upd_old, push_lrel hs.heap hl t, ?_⟩
    · simp [execOp, ho, Instr.box, newVar, newRow]
    · simp only [SRel, VRel, CRel]
      refine ⟨by simp [Env.rl], ?_⟩
      simp [Env.rl, upd_new]
  · exact h.elim
theorem set_fold {R : Rl} {cells : List Cell} {arr : Array Value} (h : LRel R cells arr.toList) {cs : List Cell} {vs : Array Value} (hv : LRel R cs vs.toList) {off : Nat} (hle : off + cs.length ≤ cells.length) :
    LRel R (splice cells off cs) (vs.zipIdx.foldl (fun a (c, j) => a.setIfInBounds (off + j) c) arr).toList := by
  have hfold : ∀ (l : List Value) (k : Nat) (b : Array Value), ((l.zipIdx k).foldl (fun a (x : Value × Nat) => a.setIfInBounds (off + x.2) x.1) b) = wrA b (off + k) l := by
    intro l
    induction l with
    | nil => intro k b; rfl
    | cons v r ih => intro k b; simp only [List.zipIdx_cons, List.foldl_cons]; rw [ih]; rfl
  have e : vs.zipIdx.foldl (fun a (c, j) => a.setIfInBounds (off + j) c) arr = wrA arr off vs.toList := by
    rw [← Array.foldl_toList]
    simpa using hfold vs.toList 0 arr
  rw [e]
  have hlc := h.length
  have hlv := hv.length
  simp at hlc
  refine LRel.of_get ?_ fun i c hi => ?_
  · simp only [Array.length_toList, wrA_size, splice, List.length_append, List.length_take, List.length_drop]
    omega
  · have hg := wrA_get vs.toList arr off i (by rw [hlv]; omega)
    rw [Array.getElem?_toList, hg]
    unfold splice at hi
    by_cases h1 : i < off
    · rw [List.getElem?_append_left (by simp; omega), List.getElem?_take, if_pos h1] at hi
      rw [if_neg (by omega)]
      simpa using h.get hi
    · rw [List.getElem?_append_right (by simp; omega)] at hi
      simp only [List.length_take, show min off cells.length = off by omega] at hi
      by_cases h2 : i - off < cs.length
      · rw [List.getElem?_append_left h2] at hi
        rw [if_pos (by rw [hlv]; omega)]
        exact hv.get hi
      · rw [List.getElem?_append_right (by omega), List.getElem?_drop, show off + cs.length + (i - off - cs.length) = i by omega] at hi
        rw [if_neg (by rw [hlv]; omega)]
        simpa using h.get hi
theorem splice_one (cells : List Cell) (off : Nat) (c : Cell) (h : off < cells.length) : splice cells off [c] = cells.set off c := by
  unfold splice
  rw [List.set_eq_take_append_cons_drop, if_pos h]
  simp
theorem wrV_splice {cells : List Cell} {off : Nat} {s : S} {cs : List Cell} (h : cellsV s = some cs) (hle : off + cs.length ≤ cells.length) : wrV cells off s = splice cells off cs := by
  unfold cellsV at h
  split at h
  · simp at h
  · obtain rfl := Option.some.inj h
    simp only [wrV]
    rw [splice_one _ _ _ (by simp at hle; omega)]
  · obtain rfl := Option.some.inj h
    rfl
  · simp at h
theorem fillK_sound {R : Rl} {a : Act} (hf : FRel R fr a) {place : Nat → Option (Nat × Nat)} {KK : List Cell → Prop} : ∀ (parts : List (Nat × Operand)) (cells : List Cell) (arr : Array Value),
    LRel R cells arr.toList → fillK fr place KK cells parts → ∃ cs vs, KK cs ∧ Instr.fill place arr (parts.map fun (i, x) => (i, a.eval x)) = some vs ∧ LRel R cs vs.toList
  | [], cells, arr, hl, h => ⟨cells, arr, h, rfl, hl⟩
  | (i, x) :: r, cells, arr, hl, h => by
    simp only [fillK] at h
    split at h
    · rename_i off size cs hp hcs
      obtain ⟨h1, h2, h3⟩ := h
      have hv := cellsV_sound hcs (ev_sound hf x)
      have hlv := hv.length
      have hlc := hl.length
      simp at hlv hlc
      rw [wrV_splice hcs (by omega)] at h3
      obtain ⟨cs', vs, k1, k2, k3⟩ := fillK_sound hf r _ _ (set_fold hl hv (off := off) (by omega)) h3
      refine ⟨cs', vs, k1, ?_, k3⟩
      simp only [List.map_cons, Instr.fill, hp]
      rw [if_neg (by simp; omega)]
      exact k2
    · exact h.elim
theorem fillK_uniform {place : Nat → Option (Nat × Nat)} {KK : List Cell → Prop} : ∀ (parts : List (Nat × Operand)) (cells : List Cell), fillK fr place KK cells parts → ∃ cs, KK cs ∧ fillK fr place (fun c => c = cs) cells parts
  | [], cells, h => ⟨cells, h, rfl⟩
  | (i, x) :: r, cells, h => by
    simp only [fillK] at h ⊢
    split at h
    · rename_i off size cs hp hcs
      obtain ⟨h1, h2, h3⟩ := h
      obtain ⟨cs', k1, k2⟩ := fillK_uniform r _ h3
      exact ⟨cs', k1, h1, h2, k2⟩
    · exact h.elim
theorem run_mapM_list {α β : Type} (f : α → Sem β) (g : α → β) (w : World) : ∀ (l : List α), (∀ x ∈ l, (f x).run P w = .ok (g x) w) → (l.mapM f).run P w = .ok (l.map g) w
  | [], _ => by simp
  | x :: r, h => by
    rw [List.mapM_cons, Sem.run_bind, h x (by simp)]
    simp only [Result.andThen_ok, Sem.run_bind]
    rw [run_mapM_list f g w r (fun y hy => h y (by simp [hy]))]
    simp
theorem run_mapM {α β : Type} (f : α → Sem β) (g : α → β) (w : World) (l : Array α) (h : ∀ x ∈ l.toList, (f x).run P w = .ok (g x) w) : (l.mapM f).run P w = .ok (l.map g) w := by
  rw [Array.mapM_eq_mapM_toList, Sem.run_map, run_mapM_list f g w l.toList h]
  simp only [Result.andThen_ok, Result.ok.injEq, and_true]
  apply Array.ext'
  simp
theorem og_build {t : TypeId} {parts : Array (Nat × Operand)} (ho : o.op = .build t parts) (h : ostep P o fr H K) : ∃ s H', OpG P o fr H s H' ∧ K s H' := by
  simp only [ostep, ho] at h
  split at h
  · rename_i ti ht
    obtain ⟨i1, d1, hs1⟩ := ti_spec ht
    split at h
    · rename_i z n e hz hk
      have ed := tkOf_array (hk.symm.trans hs1.kind)
      split at h
      · rename_i ei hei
        obtain ⟨i2, d2, hs2⟩ := ti_spec hei
        obtain ⟨cs, hK, hu⟩ := fillK_uniform _ _ h
        refine ⟨_, _, opg_run (Nat.le_refl _) fun E ρ a w hE hs => ?_, hK⟩
        obtain ⟨v, h1, h2, h3⟩ := hs1.run_zero hz w
        subst h3
        obtain ⟨cs', vs, rfl, k2, k3⟩ := fillK_sound hs.fr _ _ v.cells (lrel_vOf h2) hu
        have u1 := hs1.run_underlying w
        rw [ed] at u1
        refine ⟨.agg vs, w, ρ, .inl ?_, fun _ _ => rfl, hs.heap, ⟨vs, rfl, k3⟩⟩
        have hmap : (parts.map fun (x : Nat × Operand) => (x.1, a.eval x.2)).toList = parts.toList.map fun x => (x.1, a.eval x.2) := by simp
        simp only [execOp, ho, Instr.build, Sem.run_bind, h1, Result.andThen_ok, u1, hs2.run_sizeOf w, hmap]
        rw [k2]
        rfl
      · exact h.elim
    · rename_i z fs hz hk
      obtain ⟨F, ed, rfl⟩ := tkOf_struct (hk.symm.trans hs1.kind)
      obtain ⟨hall, h⟩ := h
      have hfi : ∀ f ∈ F.toList, ∃ fi, tiOf P f.type = some fi := fun f hf => by
        have := List.all_eq_true.1 hall (f.offset, f.type) (by simpa using ⟨f, by simpa using hf, rfl, rfl⟩)
        exact Option.isSome_iff_exists.1 this
      obtain ⟨cs, hK, hu⟩ := fillK_uniform _ _ h
      refine ⟨_, _, opg_run (Nat.le_refl _) fun E ρ a w hE hs => ?_, hK⟩
      obtain ⟨v, h1, h2, h3⟩ := hs1.run_zero hz w
      subst h3
      obtain ⟨cs', vs, rfl, k2, k3⟩ := fillK_sound hs.fr _ _ v.cells (lrel_vOf h2) hu
      have u1 := hs1.run_underlying w
      rw [ed] at u1
      refine ⟨.agg vs, w, ρ, .inl ?_, fun _ _ => rfl, hs.heap, ⟨vs, rfl, k3⟩⟩
      have hmap : (parts.map fun (x : Nat × Operand) => (x.1, a.eval x.2)).toList = parts.toList.map fun x => (x.1, a.eval x.2) := by simp
      have hM := run_mapM (P := P) (fun f : Field => do pure (f.offset, ← sizeOf f.type)) (fun f => (f.offset, ((tiOf P f.type).map (·.size)).getD 0)) w F (fun f hf => by
        obtain ⟨fi, hfi⟩ := hfi f hf
        obtain ⟨i2, d2, hs2⟩ := ti_spec hfi
        simp [hs2.run_sizeOf w, hfi])
      have hpl : (fun (i : Nat) => (F.map fun f => (f.offset, ((tiOf P f.type).map (·.size)).getD 0))[i]?) = placeS P (F.toList.map fun f => (f.offset, f.type)) := by
        funext i
        rw [placeS, List.getElem?_map, Array.getElem?_map, Array.getElem?_toList]
        cases hF : F[i]? with
        | none => rfl
        | some f =>
          obtain ⟨fi, hfi⟩ := hfi f (by
            have : F.toList[i]? = some f := by simpa using hF
            exact List.mem_of_getElem? this)
          simp [hfi]
      rw [← hpl] at k2
      simp only [execOp, ho, Instr.build, Sem.run_bind, h1, Result.andThen_ok, u1, hM, hmap]
      rw [k2]
      rfl
    · exact h.elim
  · exact h.elim
end
end Go.Abs

/- The abstract machine: the operations on memory are described rightly, further. -/
namespace Go.Abs
open Go
theorem rep_eq (n : Nat) (z : List Cell) : rep n z = (List.replicate n z).flatten := by
  unfold rep
  split
  · rename_i x
    induction n with
    | zero => rfl
    | succ n ih => simp [List.replicate_succ, ← ih]
  · rfl
theorem flat_get {α : Type} (z : List α) : ∀ (n i : Nat), ((List.replicate n z).flatten)[i]? = if i < n * z.length then z[i % z.length]? else none
  | 0, i => by simp
  | n + 1, i => by
    rw [List.replicate_succ, List.flatten_cons]
    by_cases h : i < z.length
    · rw [List.getElem?_append_left h, if_pos (by rw [Nat.add_mul]; omega), Nat.mod_eq_of_lt h]
    · rw [List.getElem?_append_right (by omega), flat_get z n]
      have hz : i % z.length = (i - z.length) % z.length := by
        rw [Nat.mod_eq_sub_mod (by omega)]
      by_cases h2 : i < (n + 1) * z.length
      · rw [if_pos h2, if_pos (by rw [Nat.add_mul] at h2; omega), hz]
      · rw [if_neg h2, if_neg (by rw [Nat.add_mul] at h2; omega)]
theorem flat_length {α : Type} (z : List α) (n : Nat) : ((List.replicate n z).flatten).length = n * z.length := by
  induction n with
  | zero => simp
  | succ n ih => rw [List.replicate_succ, List.flatten_cons, List.length_append, ih, Nat.add_mul]; omega
section
variable {P : Program} {fr : List S} {H : Heap} {K : S → Heap → Prop} {o : Oper}
theorem zeros_lrel {R : Rl} {zv : Array Value} (h : zv.toList.all Value.oneCell' = true) (n : Nat) :
    LRel R (rep n (zv.toList.map vOf)) ((Array.range (n * zv.size)).map (zv[· % zv.size]!)).toList := by
  rw [rep_eq]
  refine LRel.of_get (by rw [flat_length]; simp) fun i c hi => ?_
  rw [flat_get] at hi
  simp only [List.length_map, Array.length_toList] at hi
  split at hi
  · rename_i hlt
    rw [List.getElem?_map, Option.map_eq_some_iff] at hi
    obtain ⟨v, h1, rfl⟩ := hi
    have hv : zv[i % zv.size]? = some v := by simpa using h1
    refine ⟨v, ?_, List.all_eq_true.1 h v (List.mem_of_getElem? h1), vOf_sound R v⟩
    rw [Array.getElem?_toList, Array.getElem?_map, Array.getElem?_range]
    rw [if_pos hlt]
    simp only [Option.map_some, Array.getElem!_eq_getD, Array.getD_eq_getD_getElem?, hv, Option.getD_some]
  · simp at hi
theorem slc_new {E : Env} {ρ : Nat → Place} {w : World} {n c sz size : Nat} (hnc : n ≤ c) (h : c * sz ≤ size) : SRel (E.rl (H.length + 1) (upd ρ H.length ⟨w.heap.size, 0, size⟩)) (sc (.slc H.length 0 n sz)) (.slice (some ⟨w.heap.size, 0, none⟩) n c) := by
  simp only [SRel, VRel, CRel]
  refine ⟨by simp [Env.rl], _, _, rfl, hnc, .inl ?_⟩
  simp only [Env.rl, upd_new]
  exact ⟨by first | rfl | trivial, by omega⟩
theorem og_buildSlice {t : TypeId} {len : Nat} {parts : Array (Nat × Operand)} (ho : o.op = .buildSlice t len parts) (h : ostep P o fr H K) : ∃ s H', OpG P o fr H s H' ∧ K s H' := by
  simp only [ostep, ho] at h
  split at h
  · rename_i ti ht
    obtain ⟨i1, d1, hs1⟩ := ti_spec ht
    split at h
    · rename_i e hk
      have ed := tkOf_slice (hk.symm.trans hs1.kind)
      split at h
      · rename_i ei hei
        obtain ⟨i2, d2, hs2⟩ := ti_spec hei
        split at h
        · rename_i z hz
          obtain ⟨hzl, hle, h⟩ := h
          obtain ⟨cs, hK, hu⟩ := fillK_uniform _ _ h
          refine ⟨_, _, opg_run (by simp) fun E ρ a w hE hs => ?_, hK⟩
          obtain ⟨v, h1, h2, h3⟩ := hs2.run_zero hz w
          have hzs : v.cells.size = ei.size := by rw [← hzl, h3]; simp
          have u1 := hs1.run_underlying w
          rw [ed] at u1
          have hmap : (parts.map fun (x : Nat × Operand) => (x.1, a.eval x.2)).toList = parts.toList.map fun x => (x.1, a.eval x.2) := by simp
          have hinit : LRel (E.rl H.length ρ) (rep len z) ((Array.range (len * ei.size)).map ((if len * ei.size = 0 then #[] else v.cells)[· % (if len * ei.size = 0 then #[] else v.cells).size]!)).toList := by
            by_cases h0 : len * ei.size = 0
            · rw [if_pos h0, h0]
              have : rep len z = [] := by
                rw [rep_eq]; apply List.eq_nil_of_length_eq_zero; rw [flat_length, hzl]; exact h0
              rw [this]
              simp [LRel]
            · rw [if_neg h0, ← hzs, h3]
              exact zeros_lrel h2 len
          obtain ⟨cs', vs, rfl, k2, k3⟩ := fillK_sound hs.fr _ _ _ hinit hu
          have hlen : vs.size = len * ei.size := by
            have l1 := k3.length
            have l2 := hinit.length
            have l3 : ∀ (parts : List (Nat × Operand)) (cells cs : List Cell), fillK fr (fun i => some (i * ei.size, ei.size)) (fun c => c = cs) cells parts → cs.length = cells.length := by
              intro parts
              induction parts with
              | nil => intro cells cs hh; simp only [fillK] at hh; rw [hh]
              | cons p r ih =>
                obtain ⟨i, x⟩ := p
                intro cells cs hh
                simp only [fillK] at hh
                split at hh
                · rename_i off size ds hp hds
                  obtain ⟨g1, g2, g3⟩ := hh
                  rw [ih _ _ g3, wrV_splice hds (by omega)]
                  simp only [splice, List.length_append, List.length_take, List.length_drop]
                  omega
                · exact hh.elim
            have := l3 _ _ _ hu
            simp at l1 l2
            omega
          refine ⟨.slice (some ⟨w.heap.size, 0, none⟩) len len, _, upd ρ H.length ⟨w.heap.size, 0, vs.size⟩, .inl ?_, upd_old, push_lrel hs.heap k3 e, ?_⟩
          · simp only [execOp, ho, Instr.buildSlice, Sem.run_bind, u1, Result.andThen_ok, hs2.run_sizeOf w]
            rw [if_neg (by omega)]
            by_cases h0 : len * ei.size = 0
            · simp only [if_pos h0] at k2 ⊢
              simp only [Sem.run_bind, Sem.run_pure, Result.andThen_ok, hmap]
              rw [k2]
              simp [newRow]
            · simp only [if_neg h0] at k2 ⊢
              simp only [Sem.run_bind, Sem.run_pure, Result.andThen_ok, h1, hmap]
              rw [k2]
              simp [newRow]
          · rw [List.length_append]
            exact slc_new (Nat.le_refl _) (by omega)
        · exact h.elim
      · exact h.elim
    · exact h.elim
  · exact h.elim
theorem brel_of {E : Env} {ρ : Nat → Place} {w : World} (h : HRel E ρ w H) {p : Nat} {cs : List Cell} (hp : H[p]? = some (some cs)) (hne : 0 < cs.length) :
    (ρ p).room ≠ 0 ∧ BRel (E.rl H.length ρ) w (ρ p) cs := by
  have hr : (ρ p).room ≠ 0 := by
    intro hr
    have := h.emp p cs hp hr
    subst this
    simp at hne
  exact ⟨hr, h.blk p cs hp hr⟩
theorem load_sound {t : TypeId} {ti : TI} (ht : tiOf P t = some ti) {R : Rl} {cs : List Cell} {q : Nat} {w : World} {b o' : Nat} {arr : Array Value} {el : TypeId} {f : Nat × Nat}
    (hb : w.heap[b]? = some (.cells arr el f)) (hlen : o' + (cs.length - q) ≤ arr.size) (hrel : ∀ (i : Nat) c, (cs.drop q)[i]? = some c → ∃ v, arr[o' + i]? = some v ∧ v.oneCell' = true ∧ CRel R c v) :
    (ti.kind.agg = true → 0 < ti.size → q + ti.size ≤ cs.length → ∃ v, (loadVar t ⟨b, o', none⟩).run P w = .ok v w ∧ SRel R (sa ((cs.drop q).take ti.size)) v) ∧
    (ti.kind.agg = false → ∀ c, cs[q]? = some c → ∃ v, (loadVar t ⟨b, o', none⟩).run P w = .ok v w ∧ SRel R (sc c) v) := by
  obtain ⟨i1, d1, hs1⟩ := ti_spec ht
  constructor
  · intro hag h0 hle
    have hag' := hs1.run_isAgg w
    rw [hag] at hag'
    refine ⟨.agg (arr.extract o' (o' + ti.size)), ?_, arr.extract o' (o' + ti.size), rfl, ?_⟩
    · rw [loadVar, Sem.run_bind, hag']
      simp only [Result.andThen_ok, if_true, Sem.run_bind, hs1.run_sizeOf w, run_loadCells P ti.size w b o' arr el f hb (by omega), Sem.run_pure]
    · refine LRel.of_get ?_ fun i c hi => ?_
      · simp; omega
      · rw [List.getElem?_take] at hi
        split at hi
        · rename_i hlt
          obtain ⟨v, h1, h2, h3⟩ := hrel i c hi
          refine ⟨v, ?_, h2, h3⟩
          rw [Array.toList_extract, List.extract_eq_take_drop, List.getElem?_take, if_pos (by omega), List.getElem?_drop]
          simpa using h1
        · simp at hi
  · intro hag c hc
    have hag' := hs1.run_isAgg w
    rw [hag] at hag'
    obtain ⟨v, h1, h2, h3⟩ := hrel 0 c (by rw [List.getElem?_drop]; simpa using hc)
    refine ⟨v, ?_, h3⟩
    rw [loadVar, Sem.run_bind, hag']
    have hcell : w.cell? ⟨b, o', none⟩ = some v := by
      simp only [World.cell?, hb]
      simpa using h1
    simp [hcell]
def LoadOk (P : Program) (fr : List S) (H : Heap) (t : TypeId) (x : Operand) (s : S) : Prop :=
  ∀ (E : Env) (ρ : Nat → Place) (a : Act) (w : World), E.Ok → Sim E ρ ⟨fr, H⟩ a w → ∃ v, (Instr.loadAt t (a.eval x)).run P w = .ok v w ∧ SRel (E.rl H.length ρ) s v
theorem loadR_sound {t : TypeId} {x : Operand} {K : S → Prop} (h : loadR P fr H t x K) : ∃ s, K s ∧ LoadOk P fr H t x s := by
  unfold loadR at h
  split at h
  · rename_i ti ht
    have hptr : ∀ p q cs, ev fr x = .v (.c (.ptr p q)) → H[p]? = some (some cs) → ∀ s, ((ti.kind.agg = true ∧ 0 < ti.size ∧ q + ti.size ≤ cs.length ∧ s = sa ((cs.drop q).take ti.size)) ∨ (ti.kind.agg = false ∧ ∃ c, cs[q]? = some c ∧ s = sc c)) → LoadOk P fr H t x s := by
      intro p q cs hx hp s hcase
      intro E ρ a w hE hs
      have hc := ev_sound hs.fr x
      rw [hx] at hc
      simp only [SRel, VRel, CRel] at hc
      have hq : q < cs.length := by
        rcases hcase with ⟨_, h0, h1, _⟩ | ⟨_, c, h1, _⟩
        · omega
        · exact (List.getElem?_eq_some_iff.1 h1).1
      have hpos : 0 < cs.length := by omega
      obtain ⟨hr, arr, el, f, b1, b2, b3, b4, b5⟩ := brel_of hs.heap hp hpos
      have hl := load_sound (P := P) ht (R := E.rl H.length ρ) (cs := cs) (q := q) (w := w) (b := (ρ p).blk) (o' := (ρ p).dl + q) b1 (by omega) (fun i c hi => by
        rw [List.getElem?_drop] at hi
        have := b5 _ _ hi
        rwa [← Nat.add_assoc] at this)
      have e1 : a.eval x = .pointer (some ⟨(ρ p).blk, (ρ p).dl + q, none⟩) := hc.2
      rcases hcase with ⟨k1, k2, k3, rfl⟩ | ⟨k1, c, k2, rfl⟩
      · obtain ⟨v, g1, g2⟩ := hl.1 k1 k2 k3
        exact ⟨v, by simp [e1, Instr.loadAt, Instr.sureAddr, g1], g2⟩
      · obtain ⟨v, g1, g2⟩ := hl.2 k1 c k2
        exact ⟨v, by simp [e1, Instr.loadAt, Instr.sureAddr, g1], g2⟩
    have hrop : ∀ cs, ev fr x = .v (.c (.rop cs)) → ∀ s, ((ti.kind.agg = true ∧ 0 < ti.size ∧ ti.size ≤ cs.length ∧ s = sa (cs.take ti.size)) ∨ (ti.kind.agg = false ∧ ∃ c, cs[0]? = some c ∧ s = sc c)) → LoadOk P fr H t x s := by
      intro cs hx s hcase
      intro E ρ a w hE hs
      have hc := ev_sound hs.fr x
      rw [hx] at hc
      simp only [SRel, VRel, CRel] at hc
      obtain ⟨b, o', e1, hT, hM⟩ := hc
      have hpos : 0 < cs.length := by
        rcases hcase with ⟨_, h0, h1, _⟩ | ⟨_, c, h1, _⟩
        · omega
        · have := (List.getElem?_eq_some_iff.1 h1).1; omega
      have hb : w.heap[b]? = E.w0.heap[b]? := hs.heap.frame b (hE.old b hT) (hE.apart b hT)
      obtain ⟨arr, el, f, v0, g1, g2, g3, g4⟩ := hM.get (List.getElem?_eq_getElem hpos)
      have hg1 : E.w0.heap[b]? = some (.cells arr el f) := g1
      have hall : ∀ (i : Nat) c, cs[i]? = some c → ∃ v, arr[o' + i]? = some v ∧ v.oneCell' = true ∧ CRel (E.rl H.length ρ) c v := fun i c hi => by
        obtain ⟨arr', el', f', v, k1, k2, k3, k4⟩ := hM.get hi
        have hk1 : E.w0.heap[b]? = some (.cells arr' el' f') := k1
        rw [hg1] at hk1
        injection hk1 with hk1
        injection hk1 with e _ _
        subst e
        exact ⟨v, k2, k3, k4⟩
      have hsz : o' + cs.length ≤ arr.size := by
        obtain ⟨v, k1, _, _⟩ := hall (cs.length - 1) _ (List.getElem?_eq_getElem (by omega))
        have := (Array.getElem?_eq_some_iff.1 k1).1
        omega
      have hl := load_sound (P := P) ht (R := E.rl H.length ρ) (cs := cs) (q := 0) (w := w) (b := b) (o' := o') (hb.trans hg1) (by omega) (fun i c hi => by
        rw [List.getElem?_drop, Nat.zero_add] at hi
        exact hall i c hi)
      rcases hcase with ⟨k1, k2, k3, rfl⟩ | ⟨k1, c, k2, rfl⟩
      · obtain ⟨v, g1, g2⟩ := hl.1 k1 k2 (by omega)
        exact ⟨v, by simp [e1, Instr.loadAt, Instr.sureAddr, g1], by simpa using g2⟩
      · obtain ⟨v, g1, g2⟩ := hl.2 k1 c k2
        exact ⟨v, by simp [e1, Instr.loadAt, Instr.sureAddr, g1], g2⟩
    split at h
    · rename_i p q hag hx
      split at h
      · rename_i cs hp
        exact ⟨_, h.2.2, hptr p q cs hx hp _ (.inl ⟨hag, h.1, h.2.1, rfl⟩)⟩
      · exact h.elim
    · rename_i cs hag hx
      exact ⟨_, h.2.2, hrop cs hx _ (.inl ⟨hag, h.1, h.2.1, rfl⟩)⟩
    · rename_i p q hag hx
      split at h
      · rename_i cs hp
        split at h
        · exact ⟨_, h.2, hptr p q cs hx hp _ (.inr ⟨hag, _, h.1, rfl⟩)⟩
        · split at h
          · rename_i c hc
            exact ⟨_, h, hptr p q cs hx hp _ (.inr ⟨hag, _, hc, rfl⟩)⟩
          · exact h.elim
      · exact h.elim
    · rename_i cs hag hx
      split at h
      · exact ⟨_, h.2, hrop cs hx _ (.inr ⟨hag, _, h.1, rfl⟩)⟩
      · split at h
        · rename_i c hc
          exact ⟨_, h, hrop cs hx _ (.inr ⟨hag, _, hc, rfl⟩)⟩
        · exact h.elim
    · exact h.elim
  · exact h.elim
theorem or_load {t : TypeId} {x : Operand} (ho : o.op = .load t x) (h : ostep P o fr H K) : ∃ s, OpR P o fr H s ∧ K s H := by
  simp only [ostep, ho] at h
  obtain ⟨s, h1, h2⟩ := loadR_sound h
  refine ⟨s, fun E ρ a w hE hs => ?_, h1⟩
  obtain ⟨v, g1, g2⟩ := h2 E ρ a w hE hs
  exact ⟨v, by simp [execOp, ho, g1], g2⟩
theorem og_load {t : TypeId} {x : Operand} (ho : o.op = .load t x) (h : ostep P o fr H K) : ∃ s H', OpG P o fr H s H' ∧ K s H' :=
  let ⟨s, h1, h2⟩ := or_load ho h; ⟨s, H, opg_opr h1, h2⟩
end
end Go.Abs

/- The abstract machine: stores, makes, conversions. -/
namespace Go.Abs
open Go
theorem lrel_u8s {R : Rl} (l : List UInt8) : LRel R (u8s l) (l.map fun b => Value.int .u8 b.toNat) := by
  refine LRel.of_get (by simp [mapc]) fun i c hi => ?_
  simp only [mapc, List.getElem?_map, Option.map_eq_some_iff] at hi
  obtain ⟨b, h1, rfl⟩ := hi
  exact ⟨.int .u8 b.toNat, by simp [h1], rfl, by simp [CRel]⟩
section
variable {P : Program} {fr : List S} {H : Heap} {K : S → Heap → Prop} {o : Oper}
theorem write_sound {E : Env} {ρ : Nat → Place} {w : World} (h : HRel E ρ w H) {p : Nat} {cs : List Cell} (hp : H[p]? = some (some cs)) {q : Nat} {ds : List Cell} {vs : Array Value}
    (hl : LRel (E.rl H.length ρ) ds vs.toList) (h0 : 0 < ds.length) (hle : q + ds.length ≤ cs.length) :
    ∃ w', (storeCells ⟨(ρ p).blk, (ρ p).dl + q, none⟩ vs.toList).run P w = .ok () w' ∧ HRel E ρ w' (H.set p (some (splice cs q ds))) := by
  obtain ⟨hr, arr, el, f, b1, b2, b3, b4, b5⟩ := brel_of h hp (by omega)
  have hlen := hl.length
  have hrun := run_storeCells P vs.toList w (ρ p).blk ((ρ p).dl + q) 0 arr el f b1 b3.no (by rw [hlen]; omega) hl.one
  refine ⟨_, hrun, h.write hp hr rfl (by rw [wrA_size]; exact b2) (by rw [wrA_size]; exact b3) ?_ fun i c hi => ?_⟩
  · simp only [splice, List.length_append, List.length_take, List.length_drop]; omega
  · have hg := wrA_get vs.toList arr ((ρ p).dl + q + 0) ((ρ p).dl + i) (by rw [hlen]; omega)
    rw [hg]
    unfold splice at hi
    by_cases h1 : i < q
    · rw [List.getElem?_append_left (by simp; omega), List.getElem?_take, if_pos h1] at hi
      rw [if_neg (by omega)]
      exact b5 i c hi
    · rw [List.getElem?_append_right (by simp; omega)] at hi
      simp only [List.length_take, show min q cs.length = q by omega] at hi
      by_cases h2 : i - q < ds.length
      · rw [List.getElem?_append_left h2] at hi
        rw [if_pos (by rw [hlen]; omega), show (ρ p).dl + i - ((ρ p).dl + q + 0) = i - q by omega]
        exact hl.get hi
      · rw [List.getElem?_append_right (by omega), List.getElem?_drop, show q + ds.length + (i - q - ds.length) = i by omega] at hi
        rw [if_neg (by rw [hlen]; omega)]
        exact b5 i c hi
theorem og_store {t : TypeId} {x y : Operand} (ho : o.op = .store t x y) (h : ostep P o fr H K) : ∃ s H', OpG P o fr H s H' ∧ K s H' := by
  simp only [ostep, ho] at h
  split at h
  · rename_i ti ht
    obtain ⟨i1, d1, hs1⟩ := ti_spec ht
    split at h
    · rename_i p q hx
      split at h
      · rename_i cs hp
        split at h
        · rename_i ds hds
          obtain ⟨h1, h2, h3, h⟩ := h
          refine ⟨_, _, opg_run (by simp) fun E ρ a w hE hs => ?_, h⟩
          have hc := ev_sound hs.fr x
          rw [hx] at hc
          simp only [SRel, VRel, CRel] at hc
          have hl := cellsV_sound hds (ev_sound hs.fr y)
          obtain ⟨w', hw, hh⟩ := write_sound (P := P) hs.heap hp hl (q := q) (by omega) (by omega)
          have hlen := hl.length
          simp at hlen
          refine ⟨undef, w', ρ, .inr ⟨?_, rfl⟩, fun _ _ => rfl, ?_, by simp [ud, SRel, VRel, CRel]⟩
          · have e1 : a.eval x = .pointer (some ⟨(ρ p).blk, (ρ p).dl + q, none⟩) := hc.2
            simp only [execOp, ho, Instr.storeAt, e1, Instr.sureAddr, storeVar, Sem.run_bind, Sem.run_pure, Result.andThen_ok, hs1.run_sizeOf w]
            rw [if_neg (by rw [hlen, h1]; simp)]
            rw [hw]
            rfl
          · rw [wrV_splice hds (by omega)]
            exact hh
        · exact h.elim
      · exact h.elim
    · exact h.elim
  · exact h.elim
theorem wrap64_id {n : Int} (h0 : 0 ≤ n) (h1 : n ≤ 9223372036854775807) : IntKind.i64.wrap n = n := by
  simp only [IntKind.wrap, IntKind.bits, IntKind.signed]
  have e : n % 2 ^ 64 = n := by omega
  simp only [e]
  rw [if_neg (by simp; omega)]
theorem og_makeSlice {t : TypeId} {l c : Operand} (ho : o.op = .makeSlice t l c) (h : ostep P o fr H K) : ∃ s H', OpG P o fr H s H' ∧ K s H' := by
  simp only [ostep, ho] at h
  split at h
  · rename_i ti ht
    obtain ⟨i1, d1, hs1⟩ := ti_spec ht
    split at h
    · rename_i e n m hk hn hm
      have ed := tkOf_slice (hk.symm.trans hs1.kind)
      split at h
      · rename_i ei hei
        obtain ⟨i2, d2, hs2⟩ := ti_spec hei
        split at h
        · rename_i z hz
          obtain ⟨hzl, hsz, rfl, h0, h1, h2, h⟩ := h
          refine ⟨_, _, opg_run (by simp) fun E ρ a w hE hs => ?_, h⟩
          obtain ⟨v, g1, g2, g3⟩ := hs2.run_zero hz w
          have hzs : v.cells.size = ei.size := by rw [← hzl, g3]; simp
          have u1 := hs1.run_underlying w
          rw [ed] at u1
          have en := ev_sound hs.fr l
          rw [hn] at en
          have em := ev_sound hs.fr c
          rw [hm] at em
          simp only [SRel, VRel, CRel] at en em
          have hw := wrap64_id h0 (by omega)
          have hb : i2.bytes = ei.bytes := hs2.bytes.symm
          have hlr : LRel (E.rl H.length ρ) (rep n.toNat z) ((Array.range (n.toNat * ei.size)).map (v.cells[· % v.cells.size]!)).toList := by
            have := zeros_lrel (R := E.rl H.length ρ) g2 n.toNat
            rw [hzs] at this
            rw [g3, hzs]
            exact this
          have hasize : ((Array.range (n.toNat * ei.size)).map (v.cells[· % v.cells.size]!)).size = n.toNat * ei.size := by simp
          refine ⟨.slice (some ⟨w.heap.size, 0, none⟩) n.toNat n.toNat, _, upd ρ H.length ⟨w.heap.size, 0, _⟩, .inl ?_, upd_old, push_lrel hs.heap hlr e, ?_⟩
          · simp only [execOp, ho, Instr.makeSlice, Sem.run_bind, u1, Result.andThen_ok, en, em, asInt, asIntOf, Sem.run_pure, hs2.run_typeInfo w, hw, hb]
            rw [if_neg (by simp; omega)]
            simp only [Sem.run_bind, run_askRoom, Result.andThen_ok, hs2.run_sizeOf w]
            by_cases hz0 : n.toNat * ei.size = 0
            · simp only [if_pos hz0, Sem.run_bind, Sem.run_pure, Result.andThen_ok, newRow, run_newObj]
              have e1 : ∀ (f : Nat → Value) , (Array.range (n.toNat * ei.size)).map f = #[] := fun f => by rw [hz0]; simp
              rw [e1, e1]
            · simp only [if_neg hz0, Sem.run_bind, Sem.run_pure, Result.andThen_ok, g1, newRow, run_newObj]
          · rw [List.length_append]
            exact slc_new (Nat.le_refl _) (by rw [hasize]; exact Nat.le_refl _)
        · exact h.elim
      · exact h.elim
    · exact h.elim
  · exact h.elim
theorem allInt_get {k : IntKind} : ∀ {cs : List Cell}, allInt k cs = true → ∀ {i : Nat} {c : Cell}, cs[i]? = some c → ∃ n, c = .int k n ∧ (intsOf cs)[i]? = some n
  | [], _, i, c, hi => by simp at hi
  | c0 :: r, h, i, c, hi => by
    cases c0 <;> simp only [allInt] at h <;> try (cases h; done)
    rename_i k' n
    simp only [Bool.and_eq_true, beq_iff_eq] at h
    obtain ⟨rfl, h⟩ := h
    cases i with
    | zero => simp at hi; subst hi; exact ⟨n, rfl, rfl⟩
    | succ i => simpa [intsOf] using allInt_get h (i := i) (c := c) (by simpa using hi)
theorem run_pushes {R : Rl} (f : Value → ByteArray → Sem (ForInStep ByteArray)) (hf : ∀ n s, f (.int .u8 n) s = pure (.yield (s.push (UInt8.ofNat n.toNat)))) : ∀ (cs : List Cell) (vs : List Value) (acc : ByteArray) (w : World), allInt .u8 cs = true → LRel R cs vs →
    (forIn vs acc f).run P w = .ok ⟨acc.data ++ (bytesOf cs).toArray⟩ w
  | [], vs, acc, w, _, hl => by
    simp only [LRel] at hl
    subst hl
    simp [bytesOf]
  | c :: r, vs, acc, w, h, hl => by
    simp only [LRel] at hl
    obtain ⟨v, vs', rfl, h1, h2, h3⟩ := hl
    cases c <;> simp only [allInt] at h <;> try (cases h; done)
    rename_i k' n
    simp only [Bool.and_eq_true, beq_iff_eq] at h
    obtain ⟨rfl, h⟩ := h
    simp only [CRel] at h2
    subst h2
    rw [List.forIn_cons, Sem.run_bind, hf]
    simp only [Sem.run_pure, Result.andThen_ok]
    rw [run_pushes f hf r vs' _ w h h3]
    simp [bytesOf, ByteArray.push]
end
end Go.Abs

/- The abstract machine: conversions, comparisons of arrays, slices of arrays. -/
namespace Go.Abs
open Go
section
variable {P : Program} {fr : List S} {H : Heap} {K : S → Heap → Prop} {o : Oper}
theorem run_toString {R : Rl} {cs : List Cell} {a : Addr} {len c : Nat} {vs : Array Value} {w : World} (hrun : (loadCells a len).run P w = .ok vs w) (hl : LRel R cs vs.toList) (hi : allInt .u8 cs = true) :
    (Conv.bytesToString (.slice (some a) len c)).run P w = .ok (.string ⟨(bytesOf cs).toArray⟩) w := by
  unfold Conv.bytesToString
  simp only [Sem.run_bind, hrun, Result.andThen_ok]
  rw [← Array.forIn_toList]
  rw [run_pushes (P := P) _ (fun n s => rfl) cs vs.toList ByteArray.empty w hi hl]
  simp [ByteArray.empty, ByteArray.emptyWithCapacity]
  rfl
theorem slc_cells {E : Env} {ρ : Nat → Place} {w : World} (h : HRel E ρ w H) {p : Nat} {cs : List Cell} (hp : H[p]? = some (some cs)) {q n sz : Nat} {v : Value}
    (hv : CRel (E.rl H.length ρ) (.slc p q n sz) v) (hle : q + n * sz ≤ cs.length) :
    (n * sz = 0 ∧ ∃ a c, v = .slice a n c) ∨ ∃ c vs, v = .slice (some ⟨(ρ p).blk, (ρ p).dl + q, none⟩) n c ∧ (loadCells ⟨(ρ p).blk, (ρ p).dl + q, none⟩ (n * sz)).run P w = .ok vs w ∧ LRel (E.rl H.length ρ) ((cs.drop q).take (n * sz)) vs.toList := by
  simp only [CRel] at hv
  obtain ⟨hpn, a, c, rfl, h1, h2⟩ := hv
  by_cases h0 : n * sz = 0
  · exact .inl ⟨h0, a, c, rfl⟩
  · right
    rcases h2 with ⟨rfl, h2⟩ | h2
    · obtain ⟨hr, arr, el, f, b1, b2, b3, b4, b5⟩ := brel_of h hp (by omega)
      refine ⟨c, _, rfl, run_loadCells P (n * sz) w (ρ p).blk ((ρ p).dl + q) arr el f b1 (by omega), LRel.of_get (by simp; omega) fun i c hi => ?_⟩
      rw [List.getElem?_take] at hi
      split at hi
      · rename_i hlt
        rw [List.getElem?_drop] at hi
        obtain ⟨v, g1, g2, g3⟩ := b5 _ _ hi
        refine ⟨v, ?_, g2, g3⟩
        rw [Array.toList_extract, List.extract_eq_take_drop, List.getElem?_take, if_pos (by omega), List.getElem?_drop]
        rw [← Nat.add_assoc] at g1
        simpa using g1
      · simp at hi
    · exfalso
      have : n = 0 := by omega
      subst this
      simp at h0
theorem ro_cells {E : Env} {ρ : Nat → Place} {w : World} (hE : E.Ok) (h : HRel E ρ w H) {n : Nat} {cs : List Cell} {v : Value} {esz : Nat} (hn : cs.length = n * esz) (hv : CRel (E.rl H.length ρ) (.ro n cs) v) :
    (cs = [] ∧ ∃ a c, v = .slice a n c) ∨ ∃ b o' c vs, v = .slice (some ⟨b, o', none⟩) n c ∧ (loadCells ⟨b, o', none⟩ cs.length).run P w = .ok vs w ∧ LRel (E.rl H.length ρ) cs vs.toList ∧
      b < w.heap.size ∧ ∀ p ds, H[p]? = some (some ds) → (ρ p).room ≠ 0 → (ρ p).blk ≠ b := by
  simp only [CRel] at hv
  obtain ⟨a, c, rfl, h1, h2, h3⟩ := hv
  by_cases h0 : cs = []
  · exact .inl ⟨h0, a, c, rfl⟩
  · right
    cases a with
    | none =>
      exfalso
      have := h2 rfl
      subst this
      rw [Nat.zero_mul] at hn
      exact h0 (List.length_eq_zero_iff.1 hn)
    | some a =>
      obtain ⟨f1, hT, hM⟩ := h3 a rfl h0
      obtain ⟨b, o', sp⟩ := a
      simp only at f1 hT hM
      subst f1
      have hpos : 0 < cs.length := List.length_pos_iff.2 h0
      have hb : w.heap[b]? = E.w0.heap[b]? := h.frame b (hE.old b hT) (hE.apart b hT)
      obtain ⟨arr, el, f, v0, g1, g2, g3, g4⟩ := hM.get (List.getElem?_eq_getElem hpos)
      have hg1 : E.w0.heap[b]? = some (.cells arr el f) := g1
      have hall : ∀ (i : Nat) c, cs[i]? = some c → ∃ v, arr[o' + i]? = some v ∧ v.oneCell' = true ∧ CRel (E.rl H.length ρ) c v := fun i c hi => by
        obtain ⟨arr', el', f', v, k1, k2, k3, k4⟩ := hM.get hi
        have hk1 : E.w0.heap[b]? = some (.cells arr' el' f') := k1
        rw [hg1] at hk1
        injection hk1 with hk1
        injection hk1 with e _ _
        subst e
        exact ⟨v, k2, k3, k4⟩
      have hsz : o' + cs.length ≤ arr.size := by
        obtain ⟨v, k1, _, _⟩ := hall (cs.length - 1) _ (List.getElem?_eq_getElem (by omega))
        have := (Array.getElem?_eq_some_iff.1 k1).1
        omega
      refine ⟨b, o', c, _, rfl, run_loadCells P cs.length w b o' arr el f (hb.trans hg1) hsz, LRel.of_get (by simp; omega) fun i c hi => ?_, ?_, fun p ds hp hr e => ?_⟩
      · obtain ⟨v, k1, k2, k3⟩ := hall i c hi
        have hlt := (List.getElem?_eq_some_iff.1 hi).1
        refine ⟨v, ?_, k2, k3⟩
        rw [Array.toList_extract, List.extract_eq_take_drop, List.getElem?_take, if_pos (by omega), List.getElem?_drop]
        simpa using k1
      · have := hE.old b hT
        have := h.size
        omega
      · rcases h.fresh p ds hp hr with k | k
        · rw [e] at k; exact hE.apart b hT k
        · rw [e] at k
          have := hE.old b hT
          omega
theorem or_convert {src dst : TypeId} {x : Operand} (ho : o.op = .convert src dst x) (h : ostep P o fr H K) : (∃ s, OpR P o fr H s ∧ K s H) ∨ ∃ s H', OpG P o fr H s H' ∧ K s H' := by
  simp only [ostep, ho] at h
  split at h
  · rename_i si di hsi hdi
    obtain ⟨i1, d1, hs1⟩ := ti_spec hsi
    obtain ⟨i2, d2, hs2⟩ := ti_spec hdi
    split at h
    · rename_i e p q n sz hk1 hk2 hx
      have e1 := tkOf_slice (hk1.symm.trans hs1.kind)
      have e2 := tkOf_str (hk2.symm.trans hs2.kind)
      split at h
      · rename_i ei cs hei hp
        obtain ⟨i3, d3, hs3⟩ := ti_spec hei
        split at h
        · rename_i hk3
          have e3 := tkOf_int (hk3.symm.trans hs3.kind)
          obtain ⟨rfl, h1, h2, h⟩ := h
          refine .inl ⟨_, fun E ρ a w hE hs => ?_, h⟩
          have hc := ev_sound hs.fr x
          rw [hx] at hc
          have u1 := hs1.run_underlying w
          rw [e1] at u1
          have u2 := hs2.run_underlying w
          rw [e2] at u2
          have u3 := hs3.run_underlying w
          rw [e3] at u3
          refine ⟨.string ⟨(bytesOf ((cs.drop q).take n)).toArray⟩, ?_, by simp [SRel, VRel, CRel]⟩
          rcases slc_cells (P := P) hs.heap hp hc (by omega) with ⟨h0, b, c, e⟩ | ⟨c, vs, e, hrun, hl⟩
          · have h0' : n = 0 := by omega
            subst h0'
            cases b with
            | none =>
              simp [execOp, ho, convert, u1, u2, u3, e, Conv.bytesToString, bytesOf, ByteArray.empty, ByteArray.emptyWithCapacity]
              rfl
            | some b =>
              have hr0 : (loadCells b 0).run P w = .ok #[] w := rfl
              have := run_toString (P := P) (R := E.rl H.length ρ) (cs := []) (a := b) (len := 0) (c := c) hr0 (by simp [LRel]) rfl
              simp [execOp, ho, convert, u1, u2, u3, e, this, bytesOf]
          · rw [Nat.mul_one] at hrun hl
            have := run_toString (P := P) (c := c) hrun hl h2
            simp [execOp, ho, convert, u1, u2, u3, e, this]
        · exact h.elim
      · exact h.elim
    · rename_i e n cs hk1 hk2 hx
      have e1 := tkOf_slice (hk1.symm.trans hs1.kind)
      have e2 := tkOf_str (hk2.symm.trans hs2.kind)
      split at h
      · rename_i ei hei
        obtain ⟨i3, d3, hs3⟩ := ti_spec hei
        split at h
        · rename_i hk3
          have e3 := tkOf_int (hk3.symm.trans hs3.kind)
          obtain ⟨h1, h2, h⟩ := h
          refine .inl ⟨_, fun E ρ a w hE hs => ?_, h⟩
          have hc := ev_sound hs.fr x
          rw [hx] at hc
          have u1 := hs1.run_underlying w
          rw [e1] at u1
          have u2 := hs2.run_underlying w
          rw [e2] at u2
          have u3 := hs3.run_underlying w
          rw [e3] at u3
          refine ⟨.string ⟨(bytesOf cs).toArray⟩, ?_, by simp [SRel, VRel, CRel]⟩
          rcases ro_cells (P := P) hE hs.heap (esz := 1) (by omega) hc with ⟨rfl, b, c, e⟩ | ⟨b, o', c, vs, e, hrun, hl, _⟩
          · have h0' : n = 0 := by simpa using h1.symm
            subst h0'
            cases b with
            | none =>
              simp [execOp, ho, convert, u1, u2, u3, e, Conv.bytesToString, bytesOf, ByteArray.empty, ByteArray.emptyWithCapacity]
              rfl
            | some b =>
              have hr0 : (loadCells b 0).run P w = .ok #[] w := rfl
              have := run_toString (P := P) (R := E.rl H.length ρ) (cs := []) (a := b) (len := 0) (c := c) hr0 (by simp [LRel]) rfl
              simp [execOp, ho, convert, u1, u2, u3, e, this, bytesOf]
          · rw [h1] at hrun
            have := run_toString (P := P) (c := c) hrun hl h2
            simp [execOp, ho, convert, u1, u2, u3, e, this]
        · exact h.elim
      · exact h.elim
    · rename_i e hk1 hk2 hx
      have e1 := tkOf_slice (hk1.symm.trans hs1.kind)
      have e2 := tkOf_str (hk2.symm.trans hs2.kind)
      split at h
      · rename_i ei hei
        obtain ⟨i3, d3, hs3⟩ := ti_spec hei
        split at h
        · rename_i hk3
          have e3 := tkOf_int (hk3.symm.trans hs3.kind)
          refine .inl ⟨_, fun E ρ a w hE hs => ?_, h⟩
          have hc := ev_sound hs.fr x
          rw [hx] at hc
          simp only [SRel, VRel, CRel] at hc
          have u1 := hs1.run_underlying w
          rw [e1] at u1
          have u2 := hs2.run_underlying w
          rw [e2] at u2
          have u3 := hs3.run_underlying w
          rw [e3] at u3
          exact ⟨.string ⟨#[]⟩, (by simp [execOp, ho, convert, u1, u2, u3, hc, Conv.bytesToString, ByteArray.empty, ByteArray.emptyWithCapacity]; rfl), by simp [SRel, VRel, CRel]⟩
        · exact h.elim
      · exact h.elim
    · rename_i e s hk1 hk2 hx
      have e1 := tkOf_str (hk1.symm.trans hs1.kind)
      have e2 := tkOf_slice (hk2.symm.trans hs2.kind)
      split at h
      · rename_i ei hei
        obtain ⟨i3, d3, hs3⟩ := ti_spec hei
        split at h
        · rename_i hk3
          have e3 := tkOf_int (hk3.symm.trans hs3.kind)
          obtain ⟨hsz, h⟩ := h
          refine .inr ⟨_, _, opg_run (by simp) fun E ρ a w hE hs => ?_, h⟩
          have hc := ev_sound hs.fr x
          rw [hx] at hc
          simp only [SRel, VRel, CRel] at hc
          have u1 : ∀ w, (underlying src).run P w = .ok .string w := fun w => by have := hs1.run_underlying w; rwa [e1] at this
          have u2 : ∀ w, (underlying dst).run P w = .ok (.slice e) w := fun w => by have := hs2.run_underlying w; rwa [e2] at this
          have u3 : ∀ w, (underlying e).run P w = .ok (.int .u8) w := fun w => by have := hs3.run_underlying w; rwa [e3] at this
          have hcap : s.size ≤ (Question.appendCap s.size 0 e).cut (w.tape w.drawn (.appendCap s.size 0 e)) := by simp [Question.cut]
          generalize hcdef : (Question.appendCap s.size 0 e).cut (w.tape w.drawn (.appendCap s.size 0 e)) = cap at hcap
          generalize harr : (s.data.map (fun b => Value.int .u8 b.toNat) ++ Array.replicate (cap - s.size) (.int .u8 0) : Array Value) = arr
          have hasz : arr.size = cap := by rw [← harr]; simp; have : s.data.size = s.size := rfl; omega
          refine ⟨.slice (some ⟨w.heap.size, 0, none⟩) s.size cap, (World.freeze { w with drawn := w.drawn + 1, heap := w.heap.push (.cells arr e) } ⟨w.heap.size, arr.size, none⟩ 1), upd ρ H.length ⟨w.heap.size, 0, arr.size⟩, .inl ?_, upd_old, ?_, ?_⟩
          · simp only [execOp, ho, convert, Sem.run_bind, u1, u2, u3, hc, Result.andThen_ok, Conv.stringToBytes, run_choose, Question.forced, Bool.false_eq_true, if_false, hcdef, newRow, run_newObj, Sem.run_pure, harr]
            simp [markStringish, World.shape?]
          · refine HRel.push (w := { w with drawn := w.drawn + 1 }) (hs.heap.drew _) (arr := arr) (el := e) (fr := (arr.size, arr.size + 1)) ?_ ?_ ?_ ?_ (.inr ⟨Nat.le_refl _, Nat.le_succ _⟩) ?_ fun i c hi => ?_
            · simp only [World.freeze]
              apply Array.ext_getElem?
              intro i
              rw [if_neg (by omega)]
              simp only
              rw [Array.getElem?_modify]
              by_cases hi : w.heap.size = i
              · subst hi; simp
              · rw [if_neg hi, Array.getElem?_push, Array.getElem?_push, if_neg (fun e => hi e.symm), if_neg (fun e => hi e.symm)]
            · simp only [World.freeze]; split <;> rfl
            · simp only [World.freeze]; split <;> rfl
            · simp only [World.freeze]; split <;> rfl
            · simp only [mapc, List.length_map, Array.length_toList]
              have : s.data.size = s.size := rfl
              omega
            · simp only [mapc, List.getElem?_map, Option.map_eq_some_iff] at hi
              obtain ⟨b, h1, rfl⟩ := hi
              have hlt := (List.getElem?_eq_some_iff.1 h1).1
              have h1' : s.data[i]? = some b := by simpa using h1
              refine ⟨.int .u8 b.toNat, ?_, rfl, by simp [CRel]⟩
              rw [← harr, Array.getElem?_append_left (by simpa using hlt), Array.getElem?_map, h1']
              rfl
          · rw [List.length_append]
            have := slc_new (E := E) (ρ := ρ) (H := H) (w := w) (n := s.size) (c := cap) (sz := 1) (size := arr.size) hcap (by omega)
            exact this
        · exact h.elim
      · exact h.elim
    · rename_i e e' p q n sz hk1 hk2 hx
      have e1 := tkOf_slice (hk1.symm.trans hs1.kind)
      have e2 := tkOf_slice (hk2.symm.trans hs2.kind)
      split at h
      · rename_i ei cs hei hp
        obtain ⟨i3, d3, hs3⟩ := ti_spec hei
        split at h
        · rename_i hk3
          have e3 := tkOf_int (hk3.symm.trans hs3.kind)
          obtain ⟨rfl, rfl, hn, h⟩ := h
          refine .inr ⟨_, _, opg_run (Nat.le_refl _) fun E ρ a w hE hs => ?_, h⟩
          have hc := ev_sound hs.fr x
          rw [hx] at hc
          simp only [SRel, VRel, CRel] at hc
          obtain ⟨hpl, b, c, hv, hnc, hb⟩ := hc
          have ee : e = e' := by
            obtain rfl := Option.some.inj (hsi.symm.trans hdi)
            exact TK.slice.inj (hk1.symm.trans hk2)
          subst ee
          have u1 : ∀ w, (underlying src).run P w = .ok (.slice e) w := fun w => by have := hs1.run_underlying w; rwa [e1] at this
          have u3 : ∀ w, (underlying e).run P w = .ok (.int .u8) w := fun w => by have := hs3.run_underlying w; rwa [e3] at this
          rcases hb with ⟨rfl, hroom⟩ | h0
          · simp only [Env.rl] at hroom hv
            have hr : (ρ p).room ≠ 0 := by omega
            obtain ⟨arr, el, f, b1, b2, b3, b4, b5⟩ := hs.heap.blk p cs hp hr
            have hlt : (ρ p).blk < w.heap.size := (Array.getElem?_eq_some_iff.1 b1).1
            refine ⟨.slice (some ⟨(ρ p).blk, (ρ p).dl + q, none⟩) n c, w.freeze ⟨(ρ p).blk, arr.size, none⟩ 1, ρ, .inl ?_, fun _ _ => rfl, ?_, ?_⟩
            · simp only [execOp, ho, convert, Sem.run_bind, u1, u3, hv, Result.andThen_ok, markStringish, beq_self_eq_true, Sem.run_pure]
              simp [World.shape?, b1]
            · have hw : w.freeze ⟨(ρ p).blk, arr.size, none⟩ 1 = withBlock w (ρ p).blk (.cells arr el (if f.1 == f.2 then (arr.size, arr.size + 1) else (min f.1 arr.size, max f.2 (arr.size + 1)))) := by
                simp only [World.freeze, withBlock]
                rw [if_neg (by decide)]
                congr 1
                apply Array.ext_getElem?
                intro i
                rw [Array.getElem?_modify, Array.getElem?_setIfInBounds]
                by_cases hi : (ρ p).blk = i
                · subst hi; rw [if_pos rfl, if_pos rfl, b1, if_pos hlt]; rfl
                · rw [if_neg hi, if_neg hi]
              have := hs.heap.write (ds := cs) hp hr hw b2 (by
                rcases b3 with b3 | b3
                · rw [if_pos (by simpa using b3)]; exact .inr ⟨Nat.le_refl _, Nat.le_succ _⟩
                · by_cases hf : f.1 = f.2
                  · rw [if_pos (by simpa using hf)]; exact .inr ⟨Nat.le_refl _, Nat.le_succ _⟩
                  · rw [if_neg (by simpa using hf)]; exact .inr ⟨by simp only; omega, by simp only; omega⟩) b4 b5
              have hset : H.set p (some cs) = H := by
                apply List.ext_getElem?
                intro i
                rw [List.getElem?_set]
                by_cases hi : p = i
                · subst hi; rw [if_pos rfl, if_pos (List.getElem?_eq_some_iff.1 hp).1, hp]
                · rw [if_neg hi]
              rwa [hset] at this
            · simp only [SRel, VRel, CRel]
              exact ⟨hpl, _, _, rfl, hnc, .inl ⟨rfl, hroom⟩⟩
          · omega
        · exact h.elim
      · exact h.elim
    · rw [← ho] at h
      obtain ⟨s, h1, h2⟩ := pstep_sound h
      exact .inl ⟨s, opr_pv H h2, h1⟩
  · exact h.elim
theorem og_convert {src dst : TypeId} {x : Operand} (ho : o.op = .convert src dst x) (h : ostep P o fr H K) : ∃ s H', OpG P o fr H s H' ∧ K s H' := by
  rcases or_convert ho h with ⟨s, h1, h2⟩ | ⟨s, H', h1, h2⟩
  · exact ⟨s, H, opg_opr h1, h2⟩
  · exact ⟨s, H', h1, h2⟩
theorem or_slice {t : TypeId} {x : Operand} {lo hi mx : Option Operand} (ho : o.op = .slice t x lo hi mx) (h : ostep P o fr H K) : ∃ s, OpR P o fr H s ∧ K s H := by
  simp only [ostep, ho] at h
  split at h
  · rename_i p q hx
    split at h
    · rename_i ti l hh m cs ht hl hhi hm hp
      obtain ⟨i1, d1, hs1⟩ := ti_spec ht
      split at h
      · rename_i n e hk
        have ed := tkOf_array (hk.symm.trans hs1.kind)
        split at h
        · rename_i ei hei
          obtain ⟨i2, d2, hs2⟩ := ti_spec hei
          obtain ⟨hz, hle, h⟩ := h
          obtain ⟨L, U, hK, hb⟩ := bnds_uniform h
          refine ⟨_, fun E ρ a w hE hs => ?_, hK⟩
          have hc := ev_sound hs.fr x
          rw [hx] at hc
          simp only [SRel, VRel, CRel] at hc
          have e1 : a.eval x = .pointer (some ⟨(ρ p).blk, (ρ p).dl + q, none⟩) := hc.2
          have u1 := hs1.run_underlying w
          rw [ed] at u1
          obtain ⟨L', U', M, hrun, ⟨rfl, rfl⟩, h1, h2, h3, h4⟩ := bnds_sound (P := P) hs.fr hl hhi hm (Nat.le_refl n) false hb w
          refine ⟨.slice (some (if M = L' then ⟨(ρ p).blk, (ρ p).dl + q, none⟩ else ⟨(ρ p).blk, (ρ p).dl + q + L' * ei.size, none⟩)) (U' - L') (M - L'), ?_, ?_⟩
          · simp [execOp, ho, e1, Instr.sliceAt, u1, Instr.sureAddr, hrun, hs2.run_sizeOf w, add_none]
          · simp only [SRel, VRel, CRel]
            refine ⟨hc.1, _, _, rfl, by omega, ?_⟩
            by_cases hML : M = L'
            · right; omega
            · left
              rw [if_neg hML]
              refine ⟨by simp only [Env.rl]; rw [Nat.add_assoc], ?_⟩
              have hmul : (L' + (M - L')) * ei.size ≤ n * ei.size := Nat.mul_le_mul_right _ (by omega)
              rw [Nat.add_mul] at hmul
              simp only [Env.rl]
              have hpos : 0 < n := by omega
              have : 0 < n * ei.size := Nat.mul_pos hpos hz
              obtain ⟨hr, arr, el, f, b1, b2, b3, b4, b5⟩ := brel_of hs.heap hp (by omega)
              omega
        · exact h.elim
      · exact h.elim
    · exact h.elim
  · rw [← ho] at h
    obtain ⟨s, h1, h2⟩ := pstep_sound h
    exact ⟨s, opr_pv H h2, h1⟩
theorem og_slice {t : TypeId} {x : Operand} {lo hi mx : Option Operand} (ho : o.op = .slice t x lo hi mx) (h : ostep P o fr H K) : ∃ s H', OpG P o fr H s H' ∧ K s H' :=
  let ⟨s, h1, h2⟩ := or_slice ho h; ⟨s, H, opg_opr h1, h2⟩
end
end Go.Abs

/- The abstract machine: arrays compared. -/
namespace Go.Abs
open Go
theorem intsOf_length : ∀ (cs : List Cell), (intsOf cs).length = cs.length
  | [] => rfl
  | c :: r => by cases c <;> simp [intsOf, intsOf_length r]
section
variable {P : Program} {fr : List S} {H : Heap} {K : S → Heap → Prop} {o : Oper}
theorem forIn_same (f : Nat → Option Bool × Unit → Sem (ForInStep (Option Bool × Unit))) (b : Nat → Bool) (w : World) : ∀ (l : List Nat),
    (∀ i ∈ l, ∀ r, (f i r).run P w = .ok (if b i then .yield (none, ()) else .done (some false, ())) w) →
    (forIn l (none, ()) f).run P w = .ok (if l.all b then (none, ()) else (some false, ())) w
  | [], _ => rfl
  | i :: l, h => by
    rw [List.forIn_cons, Sem.run_bind, h i (by simp)]
    simp only [Result.andThen_ok]
    by_cases hb : b i = true
    · simp only [hb, if_true]
      rw [forIn_same f b w l (fun j hj => h j (by simp [hj]))]
      simp [hb]
    · simp [hb]
theorem equal_arr {t e n : Nat} {ei : TI} {k : IntKind} {w : World} (hd : (underlying t).run P w = .ok (.array n e) w) (hei : tiOf P e = some ei) (hk : ei.kind = .int k) (hsz : ei.size = 1)
    {R : Rl} {xs ys : List Cell} {vx vy : Array Value} (hx : LRel R xs vx.toList) (hy : LRel R ys vy.toList) (h1 : allInt k xs = true) (h2 : allInt k ys = true) (l1 : xs.length = n) (l2 : ys.length = n) :
    (Op.equal t (.agg vx) (.agg vy)).run P w = .ok (decide (intsOf xs = intsOf ys)) w := by
  obtain ⟨i1, d1, hs1⟩ := ti_spec hei
  have ed := tkOf_int (hk.symm.trans hs1.kind)
  have u1 := hs1.run_underlying w
  rw [ed] at u1
  have ag := hs1.run_isAgg w
  rw [hk] at ag
  have part1 : ∀ (cs : List Cell) (vs : Array Value), LRel R cs vs.toList → allInt k cs = true → ∀ i, i < cs.length → ∃ m, (intsOf cs)[i]? = some m ∧ (part e vs (i * ei.size)).run P w = .ok (.int k m) w := by
    intro cs vs hl ha i hi
    obtain ⟨m, e1, e2⟩ := allInt_get ha (List.getElem?_eq_getElem hi)
    obtain ⟨v, g1, g2, g3⟩ := hl.get (List.getElem?_eq_getElem hi)
    rw [e1] at g3
    simp only [CRel] at g3
    subst g3
    have g4 : vs[i]? = some (.int k m) := by simpa using g1
    refine ⟨m, e2, ?_⟩
    rw [part, Sem.run_bind, ag, hsz, Nat.mul_one]
    simp [TK.agg, g4]
  show (Op.equalIn (9999 + 1) t (.agg vx) (.agg vy)).run P w = _
  rw [Op.equalIn, Sem.run_bind, hd]
  simp only [Result.andThen_ok, Sem.run_bind, hs1.run_sizeOf w]
  rw [Std.Legacy.Range.forIn_eq_forIn_range']
  rw [forIn_same (P := P) _ (fun i => decide ((intsOf xs)[i]? = (intsOf ys)[i]?)) w _ (fun i hi r => by
    have hi' : i < n := by
      simp [List.mem_range', Std.Legacy.Range.size] at hi
      omega
    obtain ⟨m1, e1, r1⟩ := part1 xs vx hx h1 i (by omega)
    obtain ⟨m2, e2, r2⟩ := part1 ys vy hy h2 i (by omega)
    have heq : (Op.equalIn 9999 e (.int k m1) (.int k m2)).run P w = .ok (m1 == m2) w := by
      show (Op.equalIn (9998 + 1) e (.int k m1) (.int k m2)).run P w = _
      rw [Op.equalIn, Sem.run_bind, u1]
      simp
    simp only [Sem.run_bind, r1, r2, Result.andThen_ok, heq, e1, e2]
    by_cases hm : m1 = m2 <;> simp [hm])]
  simp only [Result.andThen_ok]
  have key : (List.range' 0 n).all (fun i => decide ((intsOf xs)[i]? = (intsOf ys)[i]?)) = decide (intsOf xs = intsOf ys) := by
    rw [Bool.eq_iff_iff, List.all_eq_true]
    simp only [decide_eq_true_eq, List.mem_range'_1]
    constructor
    · intro h
      apply List.ext_getElem?
      intro i
      by_cases hi : i < n
      · exact h i ⟨by omega, by omega⟩
      · rw [List.getElem?_eq_none (by rw [intsOf_length]; omega), List.getElem?_eq_none (by rw [intsOf_length]; omega)]
    · intro h i _
      rw [h]
  have hr : List.range' [:n].start [:n].size [:n].step = List.range' 0 n := by simp [Std.Legacy.Range.size]
  rw [hr, key]
  by_cases hh : intsOf xs = intsOf ys <;> simp [hh]
theorem or_binOp {op : BinOp} {xt yt : TypeId} {x y : Operand} (ho : o.op = .binOp op xt x y yt) (h : ostep P o fr H K) : ∃ s, OpR P o fr H s ∧ K s H := by
  simp only [ostep, ho] at h
  split at h
  · rename_i xs ys hx hy
    split at h
    · rename_i ti ht
      obtain ⟨i1, d1, hs1⟩ := ti_spec ht
      split at h
      · rename_i n e hk
        have ed := tkOf_array (hk.symm.trans hs1.kind)
        split at h
        · rename_i ei hei
          split at h
          · rename_i k r hke hr
            obtain ⟨hpl, hsz, h1, h2, l1, l2, h⟩ := h
            refine ⟨_, fun E ρ a w hE hs => ?_, h⟩
            have hcx := ev_sound hs.fr x
            rw [hx] at hcx
            obtain ⟨vx, ex, hlx⟩ := hcx
            have hcy := ev_sound hs.fr y
            rw [hy] at hcy
            obtain ⟨vy, ey, hly⟩ := hcy
            have u1 := hs1.run_underlying w
            rw [ed] at u1
            have heq := equal_arr (P := P) u1 hei hke hsz hlx hly h1 h2 l1 l2
            have hg : P.eqGuardType P.depth xt = false := by
              have := hs1.plain
              rw [hpl] at this
              simpa using this.symm
            have hguard : (eqGuard op xt x y (.agg vx) (.agg vy)).run P w = .ok () w := by
              cases op <;> simp only [eqGuard] <;> first | rfl | simp [hg]
            refine ⟨.bool r, ?_, by simp [SRel, VRel, CRel]⟩
            simp only [execOp, ho, ex, ey, Sem.run_bind, hguard, Result.andThen_ok]
            cases op <;> simp only [eqv] at hr <;> try (cases hr; done)
            all_goals
              obtain rfl := Option.some.inj hr
              simp [binOp, heq]
          · exact h.elim
        · exact h.elim
      · exact h.elim
    · exact h.elim
  · rw [← ho] at h
    obtain ⟨s, h1, h2⟩ := pstep_sound h
    exact ⟨s, opr_pv H h2, h1⟩
theorem og_binOp {op : BinOp} {xt yt : TypeId} {x y : Operand} (ho : o.op = .binOp op xt x y yt) (h : ostep P o fr H K) : ∃ s H', OpG P o fr H s H' ∧ K s H' :=
  let ⟨s, h1, h2⟩ := or_binOp ho h; ⟨s, H, opg_opr h1, h2⟩
end
end Go.Abs

/- The abstract machine: append and copy. -/
namespace Go.Abs
open Go
theorem HRel.kill {E : Env} {ρ : Nat → Place} {w : World} {H : Heap} (h : HRel E ρ w H) (p : Nat) : HRel E ρ w (H.set p none) := by
  have hget : ∀ (q : Nat) cs, (H.set p none)[q]? = some (some cs) → H[q]? = some (some cs) := by
    intro q cs hq
    rw [List.getElem?_set] at hq
    by_cases hqp : p = q
    · subst hqp
      rw [if_pos rfl] at hq
      split at hq <;> simp at hq
    · rwa [if_neg hqp] at hq
  refine ⟨h.os, h.tape, h.output, h.size, h.frame, fun q cs hq hr => h.fresh q cs (hget q cs hq) hr, fun q r cs ds hq hr h1 h2 he => h.inj q r cs ds (hget q cs hq) (hget r ds hr) h1 h2 he, fun q cs hq hr => ?_, fun q cs hq hr => h.emp q cs (hget q cs hq) hr⟩
  rw [List.length_set]
  exact h.blk q cs (hget q cs hq) hr
theorem HRel.move {E : Env} {ρ : Nat → Place} {w w' : World} {H : Heap} (h : HRel E ρ w H) {p : Nat} {cs ds : List Cell} (hp : H[p]? = some (some cs)) (hr : (ρ p).room ≠ 0)
    {arr : Array Value} {el : TypeId} {fr : Nat × Nat} {dl : Nat}
    (h1 : w' = withBlock w (ρ p).blk (.cells arr el fr)) (hsz : arr.size = (ρ p).room) (hfr : Fz fr arr.size) (hlen : dl + ds.length ≤ (ρ p).room)
    (hcs : ∀ (i : Nat) c, ds[i]? = some c → ∃ v, arr[dl + i]? = some v ∧ v.oneCell' = true ∧ CRel (E.rl (H.length + 1) (upd ρ H.length ⟨(ρ p).blk, dl, (ρ p).room⟩)) c v) :
    HRel E (upd ρ H.length ⟨(ρ p).blk, dl, (ρ p).room⟩) w' (H.set p none ++ [some ds]) := by
  subst h1
  have hlt := h.lt hp hr
  have hpl : p < H.length := (List.getElem?_eq_some_iff.1 hp).1
  have hle := rl_le_upd E ρ H.length H.length ⟨(ρ p).blk, dl, (ρ p).room⟩ (Nat.le_refl _)
  have hget : ∀ (q : Nat) es, (H.set p none ++ [some ds])[q]? = some (some es) → (q ≠ p ∧ q < H.length ∧ H[q]? = some (some es)) ∨ (q = H.length ∧ es = ds) := by
    intro q es hq
    rcases Nat.lt_or_ge q H.length with hlt' | hge
    · rw [List.getElem?_append_left (by simpa using hlt'), List.getElem?_set] at hq
      by_cases hqp : p = q
      · subst hqp
        rw [if_pos rfl, if_pos hpl] at hq
        simp at hq
      · rw [if_neg hqp] at hq
        exact .inl ⟨fun e => hqp e.symm, hlt', hq⟩
    · rw [List.getElem?_append_right (by simpa using hge)] at hq
      rcases Nat.eq_or_lt_of_le hge with he | hgt
      · subst he; simp at hq; exact .inr ⟨rfl, hq.symm⟩
      · rw [List.getElem?_eq_none (by simp; omega)] at hq; simp at hq
  have hu : ∀ q, q < H.length → upd ρ H.length ⟨(ρ p).blk, dl, (ρ p).room⟩ q = ρ q := upd_old
  have hn : upd ρ H.length ⟨(ρ p).blk, dl, (ρ p).room⟩ H.length = ⟨(ρ p).blk, dl, (ρ p).room⟩ := upd_new
  have hother : ∀ b, b ≠ (ρ p).blk → (withBlock w (ρ p).blk (.cells arr el fr)).heap[b]? = w.heap[b]? := fun b hb => by
    simp only [withBlock]; rw [Array.getElem?_setIfInBounds_ne (fun e => hb e.symm)]
  refine ⟨h.os, h.tape, h.output, by simpa [withBlock] using h.size, fun b k1 k2 => ?_, fun q es hq hrq => ?_, fun q r es fs hq hrr h5 h6 he => ?_, fun q es hq hrq => ?_, fun q es hq hrq => ?_⟩
  · rw [hother b (fun e => ?_)]
    · exact h.frame b k1 k2
    · subst e
      rcases h.fresh p cs hp hr with h5 | h5
      · exact k2 h5
      · omega
  · rcases hget q es hq with ⟨hne, hql, k⟩ | ⟨rfl, rfl⟩
    · rw [hu q hql] at hrq ⊢; exact h.fresh q es k hrq
    · rw [hn]; exact h.fresh p cs hp hr
  · rcases hget q es hq with ⟨hne, hql, k⟩ | ⟨rfl, rfl⟩
    · rw [hu q hql] at h5
      rcases hget r fs hrr with ⟨hne', hrl, k'⟩ | ⟨rfl, rfl⟩
      · rw [hu r hrl] at h6
        rw [hu q hql, hu r hrl] at he; exact h.inj q r es fs k k' h5 h6 he
      · rw [hu q hql, hn] at he
        exact absurd (h.inj q p es cs k hp h5 hr he) hne
    · rcases hget r fs hrr with ⟨hne', hrl, k'⟩ | ⟨h7, h8⟩
      · rw [hu r hrl] at h6
        rw [hu r hrl, hn] at he
        exact absurd (h.inj r p fs cs k' hp h6 hr he.symm) hne'
      · exact h7.symm
  · rcases hget q es hq with ⟨hne, hql, k⟩ | ⟨rfl, rfl⟩
    · rw [hu q hql] at hrq ⊢
      refine (h.blk q es k hrq).mono ?_ (hother _ fun e => hne (h.inj q p es cs k hp hrq hr e))
      simpa using hle
    · rw [hn]
      exact ⟨arr, el, fr, withBlock_get _ _ _ hlt, hsz, hfr, hlen, fun i c hi => by simpa using hcs i c hi⟩
  · rcases hget q es hq with ⟨hne, hql, k⟩ | ⟨rfl, rfl⟩
    · rw [hu q hql] at hrq; exact h.emp q es k hrq
    · rw [hn] at hrq; exact absurd hrq hr
section
variable {P : Program} {fr : List S} {H : Heap} {K : S → Heap → Prop} {o : Oper}
theorem elems_sound {esz : Nat} {s : S} {KK : Nat → List Cell → Prop} (h : elems H esz s KK) : ∃ n cs, KK n cs ∧ elems H esz s (fun n' cs' => n' = n ∧ cs' = cs) ∧ cs.length = n * esz ∧
    ∀ (E : Env) (ρ : Nat → Place) (w : World) (v : Value), E.Ok → HRel E ρ w H → SRel (E.rl H.length ρ) s v →
      (Builtin.lenOf v).run P w = .ok n w ∧ ∀ m, m ≤ n → ∃ vs, (Builtin.firstCells esz m v).run P w = .ok vs w ∧ LRel (E.rl H.length ρ) (cs.take (m * esz)) vs.toList := by
  unfold elems at h
  split at h
  · refine ⟨0, [], h, ⟨rfl, rfl⟩, by simp, fun E ρ w v hE hh hv => ?_⟩
    simp only [SRel, VRel, CRel] at hv
    subst hv
    refine ⟨rfl, fun m hm => ⟨#[], rfl, by simp [LRel]⟩⟩
  · rename_i s
    obtain ⟨rfl, h⟩ := h
    refine ⟨_, _, h, ⟨rfl, rfl, rfl⟩, by simp [mapc], fun E ρ w v hE hh hv => ?_⟩
    simp only [SRel, VRel, CRel] at hv
    subst hv
    refine ⟨rfl, fun m hm => ⟨_, rfl, ?_⟩⟩
    have e : ((s.extract 0 m).data.map fun b => Value.int .u8 b.toNat).toList = (s.data.toList.take m).map fun b => Value.int .u8 b.toNat := by
      simp [ByteArray.data_extract]
    rw [e]
    have e2 : (u8s s.data.toList).take (m * 1) = u8s (s.data.toList.take m) := by simp [mapc]
    rw [e2]
    exact lrel_u8s _
  · rename_i n cs
    obtain ⟨hl, h⟩ := h
    refine ⟨_, _, h, ⟨hl, rfl, rfl⟩, hl, fun E ρ w v hE hh hv => ?_⟩
    rcases ro_cells (P := P) hE hh hl hv with ⟨rfl, a, c, rfl⟩ | ⟨b, o', c, vs, rfl, hrun, hlr, _⟩
    · refine ⟨rfl, fun m hm => ⟨#[], ?_, by simp [LRel]⟩⟩
      have h0 : m * esz = 0 := by
        have h1 : m * esz ≤ n * esz := Nat.mul_le_mul_right _ hm
        have h2 : n * esz = 0 := by rw [← hl]; rfl
        omega
      cases a with
      | none => rfl
      | some a => simp only [Builtin.firstCells, h0]; rfl
    · refine ⟨rfl, fun m hm => ?_⟩
      have hle : m * esz ≤ cs.length := by rw [hl]; exact Nat.mul_le_mul_right _ hm
      by_cases h0 : cs.length = 0
      · have hm0 : m * esz = 0 := by omega
        refine ⟨#[], by simp only [Builtin.firstCells, hm0]; rfl, ?_⟩
        rw [hm0]; simp [LRel]
      ·
        simp only [SRel, VRel, CRel] at hv
        obtain ⟨a, c', e1, e2, e3, e4⟩ := hv
        injection e1 with e1 _ _
        subst e1
        obtain ⟨f1, hT, hM⟩ := e4 _ rfl (by intro e; rw [e] at h0; exact h0 rfl)
        have hb : w.heap[b]? = E.w0.heap[b]? := hh.frame b (hE.old b hT) (hE.apart b hT)
        have hpos : 0 < cs.length := by omega
        obtain ⟨arr, el, f, v0, g1, g2, g3, g4⟩ := hM.get (List.getElem?_eq_getElem hpos)
        have hg1 : E.w0.heap[b]? = some (.cells arr el f) := g1
        have hall : ∀ (i : Nat) c, cs[i]? = some c → ∃ v, arr[o' + i]? = some v ∧ v.oneCell' = true ∧ CRel (E.rl H.length ρ) c v := fun i c hi => by
          obtain ⟨arr', el', f', v, k1, k2, k3, k4⟩ := hM.get hi
          have hk1 : E.w0.heap[b]? = some (.cells arr' el' f') := k1
          rw [hg1] at hk1
          injection hk1 with hk1
          injection hk1 with e _ _
          subst e
          exact ⟨v, k2, k3, k4⟩
        have hsz : o' + cs.length ≤ arr.size := by
          obtain ⟨v, k1, _, _⟩ := hall (cs.length - 1) _ (List.getElem?_eq_getElem (by omega))
          have := (Array.getElem?_eq_some_iff.1 k1).1
          omega
        refine ⟨_, by simp only [Builtin.firstCells]; exact run_loadCells P (m * esz) w b o' arr el f (hb.trans hg1) (by omega), LRel.of_get (by simp; omega) fun i c hi => ?_⟩
        rw [List.getElem?_take] at hi
        split at hi
        · rename_i hlt
          obtain ⟨v, k1, k2, k3⟩ := hall i c hi
          refine ⟨v, ?_, k2, k3⟩
          rw [Array.toList_extract, List.extract_eq_take_drop, List.getElem?_take, if_pos (by omega), List.getElem?_drop]
          simpa using k1
        · simp at hi
  · rename_i p q n sz
    split at h
    · rename_i cs hp
      obtain ⟨rfl, hle, h⟩ := h
      refine ⟨_, _, h, by simp [elems, hp, hle], by simp; omega, fun E ρ w v hE hh hv => ?_⟩
      have hv' : CRel (E.rl H.length ρ) (.slc p q n sz) v := hv
      have hlen : (Builtin.lenOf v).run P w = .ok n w := by
        simp only [CRel] at hv'
        obtain ⟨_, a, c, rfl, _⟩ := hv'
        rfl
      refine ⟨hlen, fun m hm => ?_⟩
      have hmn : m * sz ≤ n * sz := Nat.mul_le_mul_right _ hm
      rw [List.take_take, Nat.min_eq_left hmn]
      simp only [CRel] at hv'
      obtain ⟨hpn, a, c, rfl, h1, h2⟩ := hv'
      by_cases h0 : m * sz = 0
      · refine ⟨#[], ?_, by rw [h0]; simp [LRel]⟩
        cases a with
        | none => rfl
        | some a => simp only [Builtin.firstCells, h0]; rfl
      · rcases h2 with ⟨rfl, h2⟩ | h2
        · obtain ⟨hr, arr, el, f, b1, b2, b3, b4, b5⟩ := brel_of hh hp (by omega)
          refine ⟨_, by simp only [Builtin.firstCells]; exact run_loadCells P (m * sz) w (ρ p).blk ((ρ p).dl + q) arr el f b1 (by omega), LRel.of_get (by simp; omega) fun i c hi => ?_⟩
          rw [List.getElem?_take] at hi
          split at hi
          · rename_i hlt
            rw [List.getElem?_drop] at hi
            obtain ⟨v, g1, g2, g3⟩ := b5 _ _ hi
            refine ⟨v, ?_, g2, g3⟩
            rw [Array.toList_extract, List.extract_eq_take_drop, List.getElem?_take, if_pos (by omega), List.getElem?_drop]
            rw [← Nat.add_assoc] at g1
            simpa using g1
          · simp at hi
        · exfalso
          have : m = 0 := by omega
          subst this
          simp at h0
    · exact h.elim
  · exact h.elim
theorem nextslicecap_le (need c : Nat) (h : c < need) : Builtin.nextslicecap need c ≤ 2 * need + 192 := by
  unfold Builtin.nextslicecap
  split
  · omega
  · split
    · omega
    · have key : ∀ (r c : Nat), c ≤ 2 * need + 192 → c < need ∨ need ≤ c → Builtin.growBy need r c ≤ 2 * need + 192 := by
        intro r
        induction r with
        | zero => intro c hc _; exact hc
        | succ r ih =>
          intro c hc _
          rw [Builtin.growBy]
          split
          · exact hc
          · exact ih _ (by omega) (by omega)
      exact key 4 c (by omega) (by omega)
theorem len_eq {s : S} {n : Nat} {esz : Nat} {cs : List Cell} (h : elems H esz s (fun n' cs' => n' = n ∧ cs' = cs)) : (∀ p q m sz, s = .v (.c (.slc p q m sz)) → m = n ∧ sz = esz ∧ ∃ ds, H[p]? = some (some ds) ∧ q + n * esz ≤ ds.length ∧ cs = (ds.drop q).take (n * esz)) ∧ (s = .v (.c .nils) → n = 0 ∧ cs = []) := by
  constructor
  · rintro p q m sz rfl
    simp only [elems] at h
    split at h
    · rename_i ds hp
      obtain ⟨rfl, h1, rfl, rfl⟩ := h
      exact ⟨rfl, rfl, ds, hp, h1, rfl⟩
    · exact h.elim
  · rintro rfl
    simp only [elems] at h
    exact ⟨h.1.symm, h.2.symm⟩
def notInt : TypeDesc → Bool | .int _ => false | _ => true
theorem run_append_fit {P : Program} {t t' e ty n m cap sz : Nat} {base : Option Addr} {x : Value} {vn : Array Value} {w : World} {d : TypeDesc} (u1 : (underlying t).run P w = .ok (.slice e) w) (u2 : (underlying t').run P w = .ok d w) (hd : notInt d = true)
  (hsz : (sizeOf e).run P w = .ok sz w) (hl : (Builtin.lenOf x).run P w = .ok m w) (hf : (Builtin.firstCells sz m x).run P w = .ok vn w) (hfit : n + m ≤ cap) :
  (Builtin.append_ #[t, t'] ty #[.slice base n cap, x]).run P w = ((match base with | some a => storeCells (a.add (n*sz)) vn.toList | none => pure () : Sem Unit).run P w).andThen (fun _ w' => .ok (.slice base (n+m) cap) w') := by
  have e0 : #[t, t'][0]? = some t := rfl
  have e1 : #[t, t'][1]? = some t' := rfl
  have e2 : #[Value.slice base n cap, x][0]? = some (.slice base n cap) := rfl
  have e3 : #[Value.slice base n cap, x][1]? = some x := rfl
  unfold Builtin.append_
  simp only [e0, e1, e2, e3, Sem.run_bind, u1, Result.andThen_ok, hsz, u2, Sem.run_pure]
  cases d <;> simp only [notInt] at hd <;> first | (cases hd; done) | skip
  all_goals
    simp only [Bool.false_eq_true, if_false, Sem.run_bind, hl, Result.andThen_ok, if_pos hfit, Bool.not_false, if_true, hf]
    cases base <;> simp
theorem run_append_grow {P : Program} {t t' e ty n m cap sz : Nat} {base : Option Addr} {x zv : Value} {vo vn : Array Value} {w : World} {d : TypeDesc} {ei : TypeInfo} (u1 : (underlying t).run P w = .ok (.slice e) w) (u2 : (underlying t').run P w = .ok d w) (hd : notInt d = true)
  (hsz : ∀ w, (sizeOf e).run P w = .ok sz w) (hl : (Builtin.lenOf x).run P w = .ok m w) (hf : (Builtin.firstCells sz m x).run P { w with drawn := w.drawn + 1 } = .ok vn { w with drawn := w.drawn + 1 }) (hf0 : (Builtin.firstCells sz n (.slice base n cap)).run P { w with drawn := w.drawn + 1 } = .ok vo { w with drawn := w.drawn + 1 })
  (hti : ∀ w, (typeInfo e).run P w = .ok ei w) (hz : ∀ w, (zeroValue e).run P w = .ok zv w) (hb : 0 < ei.bytes)
  (hfit : ¬ n + m ≤ cap) (hroom : Builtin.nextslicecap (n + m) cap * ei.bytes ≤ 2 ^ 48) :
  ∃ c, n + m ≤ c ∧ (Builtin.append_ #[t, t'] ty #[.slice base n cap, x]).run P w = .ok (.slice (some ⟨w.heap.size, 0, none⟩) (n + m) c) { w with drawn := w.drawn + 1, heap := w.heap.push (.cells (vo ++ vn ++ Builtin.zeroCells zv.cells (c - (n + m))) e) } := by
  have e0 : #[t, t'][0]? = some t := rfl
  have e1 : #[t, t'][1]? = some t' := rfl
  have e2 : #[Value.slice base n cap, x][0]? = some (.slice base n cap) := rfl
  have e3 : #[Value.slice base n cap, x][1]? = some x := rfl
  refine ⟨(Question.appendCap (n + m) cap e).cut (w.tape w.drawn (.appendCap (n + m) cap e)), by simp [Question.cut], ?_⟩
  unfold Builtin.append_
  simp only [e0, e1, e2, e3, Sem.run_bind, u1, Result.andThen_ok, hsz, u2, Sem.run_pure]
  cases d <;> simp only [notInt] at hd <;> first | (cases hd; done) | skip
  all_goals
    simp only [Bool.false_eq_true, if_false, Sem.run_bind, hl, Result.andThen_ok, if_neg hfit, Bool.not_false, if_true, hti]
    rw [if_neg (by simp; omega)]
    simp only [Sem.run_bind, hti, Result.andThen_ok]
    rw [if_neg (by omega)]
    simp only [Sem.run_bind, run_choose, Question.forced, Bool.false_eq_true, if_false, Result.andThen_ok, hti, run_askRoom, hf, hf0, hz, newRow, run_newObj, Sem.run_pure]
theorem run_appmk_fit {P : Program} {t t' e ty n m cap sz : Nat} {mi : Int} {base : Option Addr} {zv : Value} {w : World} {k : IntKind} {ei : TypeInfo} (u1 : (underlying t).run P w = .ok (.slice e) w) (u2 : (underlying t').run P w = .ok (.int k) w)
  (hsz : (sizeOf e).run P w = .ok sz w) (hti : ∀ w, (typeInfo e).run P w = .ok ei w) (hz : ∀ w, (zeroValue e).run P w = .ok zv w) (hzs : zv.cells.size = sz) (h0 : 0 ≤ mi) (hm : mi.toNat = m) (h1 : mi ≤ 281474976710656) (h2 : mi * ei.bytes ≤ 281474976710656) (hfit : n + m ≤ cap) :
  (Builtin.append_ #[t, t'] ty #[.slice base n cap, .int .i64 mi]).run P w = ((match base with | some a => storeCells (a.add (n*sz)) (Builtin.zeroCells zv.cells m).toList | none => pure () : Sem Unit).run P w).andThen (fun _ w' => .ok (.slice base (n+m) cap) w') := by
  have e0 : #[t, t'][0]? = some t := rfl
  have e1 : #[t, t'][1]? = some t' := rfl
  have e2 : #[Value.slice base n cap, .int .i64 mi][0]? = some (.slice base n cap) := rfl
  have e3 : #[Value.slice base n cap, .int .i64 mi][1]? = some (.int .i64 mi) := rfl
  have hw := wrap64_id h0 (by omega)
  unfold Builtin.append_
  simp only [e0, e1, e2, e3, Sem.run_bind, u1, Result.andThen_ok, hsz, u2, Sem.run_pure, if_true, asInt, asIntOf, hw]
  rw [if_neg (by omega)]
  simp only [Sem.run_bind, Result.andThen_ok, hti]
  rw [if_neg (by omega)]
  simp only [Sem.run_bind, Sem.run_pure, Result.andThen_ok, hm, if_pos hfit, Bool.not_true, Bool.false_eq_true, if_false]
  by_cases hz0 : m * sz = 0
  · have hv : Builtin.zeroCells zv.cells m = #[] := by simp [Builtin.zeroCells, hzs, hz0]
    simp only [if_pos hz0, Sem.run_pure, Result.andThen_ok, hv]
    cases base <;> simp
  · simp only [if_neg hz0, Sem.run_bind, Sem.run_pure, Result.andThen_ok, hz]
    cases base <;> simp
theorem run_appmk_grow {P : Program} {t t' e ty n m cap sz : Nat} {mi : Int} {base : Option Addr} {zv : Value} {vo : Array Value} {w : World} {k : IntKind} {ei : TypeInfo} (u1 : (underlying t).run P w = .ok (.slice e) w) (u2 : (underlying t').run P w = .ok (.int k) w)
  (hsz : ∀ w, (sizeOf e).run P w = .ok sz w) (hf0 : (Builtin.firstCells sz n (.slice base n cap)).run P { w with drawn := w.drawn + 1 } = .ok vo { w with drawn := w.drawn + 1 })
  (hti : ∀ w, (typeInfo e).run P w = .ok ei w) (hz : ∀ w, (zeroValue e).run P w = .ok zv w) (_hb : 0 < ei.bytes) (hzs : zv.cells.size = sz) (h0 : 0 ≤ mi) (hm : mi.toNat = m) (h1 : n + m ≤ 281474976710656) (h2 : mi * ei.bytes ≤ 281474976710656)
  (hfit : ¬ n + m ≤ cap) (hroom : Builtin.nextslicecap (n + m) cap * ei.bytes ≤ 2 ^ 48) :
  ∃ c, n + m ≤ c ∧ (Builtin.append_ #[t, t'] ty #[.slice base n cap, .int .i64 mi]).run P w = .ok (.slice (some ⟨w.heap.size, 0, none⟩) (n + m) c) { w with drawn := w.drawn + 1, heap := w.heap.push (.cells (vo ++ Builtin.zeroCells zv.cells m ++ Builtin.zeroCells zv.cells (c - (n + m))) e) } := by
  have e0 : #[t, t'][0]? = some t := rfl
  have e1 : #[t, t'][1]? = some t' := rfl
  have e2 : #[Value.slice base n cap, .int .i64 mi][0]? = some (.slice base n cap) := rfl
  have e3 : #[Value.slice base n cap, .int .i64 mi][1]? = some (.int .i64 mi) := rfl
  have hw := wrap64_id h0 (by omega)
  refine ⟨(Question.appendCap (n + m) cap e).cut (w.tape w.drawn (.appendCap (n + m) cap e)), by simp [Question.cut], ?_⟩
  unfold Builtin.append_
  simp only [e0, e1, e2, e3, Sem.run_bind, u1, Result.andThen_ok, hsz, u2, Sem.run_pure, if_true, asInt, asIntOf, hw]
  rw [if_neg (by omega)]
  simp only [Sem.run_bind, Result.andThen_ok, hti]
  rw [if_neg (by omega)]
  simp only [Sem.run_bind, Sem.run_pure, Result.andThen_ok, hm, if_neg hfit, Bool.not_true, Bool.false_eq_true, if_false, hti]
  rw [if_neg (by simp; omega)]
  simp only [Sem.run_bind, hti, Result.andThen_ok]
  rw [if_neg (by omega)]
  by_cases hz0 : m * sz = 0
  · have hv : Builtin.zeroCells zv.cells m = #[] := by simp [Builtin.zeroCells, hzs, hz0]
    simp only [Sem.run_bind, run_choose, Question.forced, Bool.false_eq_true, if_false, Result.andThen_ok, hti, run_askRoom, hf0, hz, newRow, run_newObj, Sem.run_pure, if_pos hz0, hv]
  · simp only [Sem.run_bind, run_choose, Question.forced, Bool.false_eq_true, if_false, Result.andThen_ok, hti, run_askRoom, hf0, hz, newRow, run_newObj, Sem.run_pure, if_neg hz0]
theorem og_appmk {s x : Operand} {t t' e : TypeId} {ti ti' ei : TI} {k : IntKind} {z : List Cell} (ho : o.op = .call ⟨.builtin .append, #[s, x], #[t, t']⟩) (ht : tiOf P t = some ti) (ht' : tiOf P t' = some ti') (hk : ti.kind = .slice e) (hk' : ti'.kind = .int k) (hei : tiOf P e = some ei) (hz : ei.zero = some z)
    (h : 0 < ei.bytes ∧ 0 < ei.size ∧ z.length = ei.size ∧ elems H ei.size (ev fr s) fun n cs => match ev fr x with
      | .v (.c (.int .i64 mi)) => 0 ≤ mi ∧ (2 * (n + mi.toNat) + 192) * ei.bytes ≤ 281474976710656 ∧ n + mi.toNat ≤ 281474976710656 ∧
        match ev fr s with
        | .v (.c (.slc _ _ _ _)) | .v (.c .nils) => K (sc (.slc H.length 0 (n + mi.toNat) ei.size)) (Abs.kill H (ev fr s) ++ [some (cs ++ rep mi.toNat z)])
        | _ => False
      | _ => False) : ∃ s H', OpG P o fr H s H' ∧ K s H' := by
  obtain ⟨i1, d1, hs1⟩ := ti_spec ht
  obtain ⟨i1', d1', hs1'⟩ := ti_spec ht'
  have ed := tkOf_slice (hk.symm.trans hs1.kind)
  have ed' := tkOf_int (hk'.symm.trans hs1'.kind)
  obtain ⟨i2, d2, hs2⟩ := ti_spec hei
  obtain ⟨hby, hsz, hzl, h⟩ := h
  obtain ⟨n, cs, h, hes, hcl, hsnd⟩ := elems_sound (P := P) h
  split at h
  case h_2 => exact h.elim
  rename_i mi hxe
  obtain ⟨hmi, hroom, hmax, h⟩ := h
  obtain ⟨m, hm⟩ : ∃ m, mi.toNat = m := ⟨_, rfl⟩
  rw [hm] at hroom hmax h
  obtain ⟨ds, hds⟩ : ∃ ds, rep m z = ds := ⟨_, rfl⟩
  rw [hds] at h
  have hdl : ds.length = m * ei.size := by rw [← hds, rep_eq, ← hzl]; simp
  have hfin : (∃ p q sz, ev fr s = .v (.c (.slc p q n sz)) ∧ sz = ei.size ∧ ∃ bs, H[p]? = some (some bs) ∧ q + n * ei.size ≤ bs.length ∧ cs = (bs.drop q).take (n * ei.size)) ∨ (ev fr s = .v (.c .nils) ∧ n = 0 ∧ cs = []) := by
    split at h
    · rename_i p q n' sz hx
      obtain ⟨e1, e2, bs, e3, e4, e5⟩ := (len_eq hes).1 p q n' sz hx
      subst e1
      exact .inl ⟨p, q, sz, hx, e2, bs, e3, e4, e5⟩
    · rename_i hx
      exact .inr ⟨hx, (len_eq hes).2 hx⟩
    · exact h.elim
  have hK : K (sc (.slc H.length 0 (n + m) ei.size)) (Abs.kill H (ev fr s) ++ [some (cs ++ ds)]) := by
    rcases hfin with ⟨p, q, sz, hx, _⟩ | ⟨hx, _⟩ <;> · rw [hx] at h ⊢; exact h
  refine ⟨_, _, opg_run (by rcases hfin with ⟨p, q, sz, hx, _⟩ | ⟨hx, _⟩ <;> rw [hx] <;> simp [Abs.kill]) fun E ρ a w hE hs => ?_, hK⟩
  have hcs := ev_sound hs.fr s
  have hcx := ev_sound hs.fr x
  obtain ⟨hl1, hf1⟩ := hsnd E ρ w (a.eval s) hE hs.heap hcs
  rw [hxe] at hcx
  simp only [SRel, VRel, CRel] at hcx
  obtain ⟨zv, z1, z2, z3⟩ := hs2.run_zero hz w
  have hzall : ∀ w, (zeroValue e).run P w = .ok zv w := fun w' => by
    obtain ⟨zv', y1, _, _⟩ := hs2.run_zero hz w'
    have hzi : i2.zero = some zv := by
      simp only [zeroValue, Sem.run_bind, hs2.run_typeInfo, Result.andThen_ok] at z1
      cases hiz : i2.zero with
      | none => rw [hiz] at z1; simp at z1
      | some v => rw [hiz] at z1; simp at z1; rw [z1]
    simp [zeroValue, hs2.run_typeInfo, hzi]
  have hzc : zv.cells.size = ei.size := by rw [← hzl, z3]; simp
  obtain ⟨vn, hvn⟩ : ∃ vn, Builtin.zeroCells zv.cells m = vn := ⟨_, rfl⟩
  have hln : LRel (E.rl H.length ρ) ds vn.toList := by
    have := zeros_lrel (R := E.rl H.length ρ) z2 m
    rw [← hvn, ← hds, z3]
    exact this
  obtain ⟨vo, hro, hlo⟩ := hf1 n (Nat.le_refl _)
  rw [← hcl, List.take_length] at hlo
  have hcat : LRel (E.rl H.length ρ) (cs ++ ds) (vo.toList ++ vn.toList) := by
    have l1 := hlo.length
    have l2 := hln.length
    refine LRel.of_get (by simp [l1, l2]) fun i c hi => ?_
    by_cases hlt : i < cs.length
    · rw [List.getElem?_append_left hlt] at hi
      rw [List.getElem?_append_left (by omega)]
      exact hlo.get hi
    · rw [List.getElem?_append_right (by omega)] at hi
      rw [List.getElem?_append_right (by omega), l1]
      exact hln.get hi
  have u1 : ∀ w, (underlying t).run P w = .ok (.slice e) w := fun w => by have := hs1.run_underlying w; rwa [ed] at this
  have u2 : ∀ w, (underlying t').run P w = .ok (.int k) w := fun w => by have := hs1'.run_underlying w; rwa [ed'] at this
  obtain ⟨base, cap, hev, hcap⟩ : ∃ base cap, a.eval s = .slice base n cap ∧ n ≤ cap := by
    rcases hfin with ⟨p, q, sz, hx, _⟩ | ⟨hx, rfl, _⟩
    · rw [hx] at hcs
      simp only [SRel, VRel, CRel] at hcs
      obtain ⟨_, b, c, e, e', _⟩ := hcs
      exact ⟨b, c, e, e'⟩
    · rw [hx] at hcs
      simp only [SRel, VRel, CRel] at hcs
      exact ⟨none, 0, hcs, Nat.le_refl _⟩
  have hb : i2.bytes = ei.bytes := hs2.bytes.symm
  have hkl : (Abs.kill H (ev fr s)).length = H.length := by rcases hfin with ⟨p, q, sz, hx, _⟩ | ⟨hx, _⟩ <;> rw [hx] <;> simp [Abs.kill]
  have hkr : HRel E ρ w (Abs.kill H (ev fr s)) := by
    rcases hfin with ⟨p, q, sz, hx, _⟩ | ⟨hx, _⟩ <;> rw [hx]
    · exact hs.heap.kill p
    · exact hs.heap
  have lo := hlo.length
  have ln := hln.length
  simp at lo ln
  have hmap : (#[s, x] : Array Operand).map a.eval = #[.slice base n cap, Value.int .i64 mi] := by simp [hev, hcx]
  have hexec : ∀ r w', (Builtin.append_ #[t, t'] o.type #[.slice base n cap, Value.int .i64 mi]).run P w = .ok r w' → (execOp a.eval o).run P w = .ok (.value r) w' := fun r w' hr => by
    simp only [execOp, ho, resolve, invoke, builtin, hmap, Sem.run_bind, Sem.run_pure, Result.andThen_ok, hr]
  by_cases hfit : n + m ≤ cap
  ·
    have hbi : i2.bytes = ei.bytes := hs2.bytes.symm
    have hmb : mi * i2.bytes ≤ 281474976710656 := by
      rw [hbi, ← Int.toNat_of_nonneg hmi, hm]
      have : m * ei.bytes ≤ (2 * (n + m) + 192) * ei.bytes := Nat.mul_le_mul_right _ (by omega)
      have : m * ei.bytes ≤ 281474976710656 := by omega
      rw [← Int.natCast_mul]; omega
    have hrun := run_appmk_fit (ty := o.type) (n := n) (base := base) (u1 w) (u2 w) (hs2.run_sizeOf w) (fun w => hs2.run_typeInfo w) hzall hzc hmi hm (by omega) hmb hfit
    rw [hvn] at hrun
    by_cases hc0 : cap = 0
    · have hn0 : n = 0 := by omega
      have hm0 : m = 0 := by omega
      subst hn0; subst hm0; subst hc0
      have hvn : vn = #[] := by apply Array.eq_empty_of_size_eq_zero; omega
      subst hvn
      have he : cs ++ ds = [] := by
        apply List.eq_nil_of_length_eq_zero
        simp [hcl, hdl]
      refine ⟨.slice base 0 0, w, upd ρ H.length ⟨0, 0, 0⟩, .inl (hexec _ _ (hrun.trans ?_)), upd_old, ?_, ?_⟩
      · cases base <;> rfl
      · rw [he, ← hkl]
        exact hkr.pushEmp (w' := w) rfl rfl rfl rfl
      · simp only [SRel, VRel, CRel]
        refine ⟨by simp [Env.rl, hkl], base, 0, rfl, by omega, .inr rfl⟩
    · rcases hfin with ⟨p, q, sz, hx, rfl, bs, hp, hle, hcs'⟩ | ⟨hx, rfl, _⟩
      · rw [hx] at hcs
        simp only [SRel, VRel, CRel] at hcs
        obtain ⟨hpn, b, c, e1, e2, e3⟩ := hcs
        rw [hev] at e1
        injection e1 with e1 _ e4
        subst e1; subst e4
        rcases e3 with ⟨rfl, e3⟩ | e3
        · have e3' : (ρ p).dl + q + cap * ei.size ≤ (ρ p).room := e3
          have hpos : 0 < cap * ei.size := Nat.mul_pos (by omega) hsz
          have hr : (ρ p).room ≠ 0 := by omega
          obtain ⟨arr, el, f, b1, b2, b3, b4, b5⟩ := hs.heap.blk p bs hp hr
          have hmul : (n + m) * ei.size ≤ cap * ei.size := Nat.mul_le_mul_right _ hfit
          rw [Nat.add_mul] at hmul
          have hst := run_storeCells P vn.toList w (ρ p).blk ((ρ p).dl + q + n * ei.size) 0 arr el f b1 b3.no (by simp; omega) hln.one
          refine ⟨.slice (some ⟨(ρ p).blk, (ρ p).dl + q, none⟩) (n + m) cap, withBlock w (ρ p).blk (.cells (wrA arr ((ρ p).dl + q + n * ei.size + 0) vn.toList) el f), upd ρ H.length ⟨(ρ p).blk, (ρ p).dl + q, (ρ p).room⟩, .inl (hexec _ _ (hrun.trans ?_)), upd_old, ?_, ?_⟩
          · show ((storeCells ((⟨(ρ p).blk, (ρ p).dl + q, none⟩ : Addr).add (n * ei.size)) vn.toList).run P w).andThen _ = _
            rw [add_none, hst]
            rfl
          · rw [hx]
            refine hs.heap.move hp hr rfl (by rw [wrA_size]; exact b2) (by rw [wrA_size]; exact b3) (by simp [hcl, hdl]; omega) fun i c hi => ?_
            rw [wrA_get _ _ _ _ (by simp; omega)]
            have hmono := rl_le_upd E ρ H.length H.length ⟨(ρ p).blk, (ρ p).dl + q, (ρ p).room⟩ (Nat.le_refl _)
            by_cases hlt : i < cs.length
            · rw [List.getElem?_append_left hlt] at hi
              rw [if_neg (by omega)]
              rw [hcs', List.getElem?_take, if_pos (by omega), List.getElem?_drop] at hi
              obtain ⟨v, g1, g2, g3⟩ := b5 _ _ hi
              exact ⟨v, by rw [← Nat.add_assoc] at g1; exact g1, g2, g3.mono hmono⟩
            · rw [List.getElem?_append_right (by omega)] at hi
              have hi2 := (List.getElem?_eq_some_iff.1 hi).1
              rw [if_pos (by simp; omega)]
              obtain ⟨v, g1, g2, g3⟩ := hln.get hi
              refine ⟨v, ?_, g2, g3.mono hmono⟩
              rw [show (ρ p).dl + q + i - ((ρ p).dl + q + n * ei.size + 0) = i - cs.length by omega]
              exact g1
          · simp only [SRel, VRel, CRel]
            refine ⟨by simp [Env.rl, hkl], _, cap, rfl, by omega, .inl ?_⟩
            simp only [Env.rl, upd_new]
            exact ⟨by simp, by omega⟩
        · exact absurd e3 hc0
      · rw [hx] at hcs
        simp only [SRel, VRel, CRel] at hcs
        rw [hev] at hcs
        injection hcs with _ _ e
        exact absurd e hc0
  ·
    have hh' : HRel E ρ { w with drawn := w.drawn + 1 } H := hs.heap.drew _
    obtain ⟨_, hf1'⟩ := hsnd E ρ _ (a.eval s) hE hh' (ev_sound hs.fr s)
    obtain ⟨vo', hro', hlo'⟩ := hf1' n (Nat.le_refl _)
    rw [← hcl, List.take_length] at hlo'
    rw [hev] at hro'
    have hns := nextslicecap_le (n + m) cap (by omega)
    have hroom' : Builtin.nextslicecap (n + m) cap * i2.bytes ≤ 2 ^ 48 := by
      rw [hb]
      exact Nat.le_trans (Nat.mul_le_mul_right _ hns) (by omega)
    have hmb : mi * i2.bytes ≤ 281474976710656 := by
      rw [hb, ← Int.toNat_of_nonneg hmi, hm]
      have : m * ei.bytes ≤ (2 * (n + m) + 192) * ei.bytes := Nat.mul_le_mul_right _ (by omega)
      have : m * ei.bytes ≤ 281474976710656 := by omega
      rw [← Int.natCast_mul]; omega
    obtain ⟨c, hc1, hrun⟩ := run_appmk_grow (ty := o.type) (n := n) (base := base) (cap := cap) (u1 w) (u2 w) (fun w => hs2.run_sizeOf w) hro' (fun w => hs2.run_typeInfo w) hzall (by omega) hzc hmi hm hmax hmb hfit hroom'
    rw [hvn] at hrun
    have lo' := hlo'.length
    have ln' := hln.length
    simp at lo' ln'
    generalize harr : vo' ++ vn ++ Builtin.zeroCells zv.cells (c - (n + m)) = arr at hrun
    have hasz : arr.size = c * ei.size := by
      rw [← harr]
      simp only [Array.size_append, Builtin.zeroCells, Array.size_map, Array.size_range, hzc]
      rw [lo', ln', hcl, hdl, ← Nat.add_mul, ← Nat.add_mul]
      congr 1
      omega
    refine ⟨_, _, upd ρ H.length ⟨w.heap.size, 0, arr.size⟩, .inl (hexec _ _ hrun), upd_old, ?_, ?_⟩
    · have hpush := (hkr.drew (w.drawn + 1)).push (w' := { w with drawn := w.drawn + 1, heap := w.heap.push (.cells arr e) }) (arr := arr) (el := e) (fr := (0, 0)) (cs := cs ++ ds) rfl rfl rfl rfl (.inl rfl)
        (by rw [hasz]; simp [hcl, hdl]; rw [← Nat.add_mul]; exact Nat.mul_le_mul_right _ hc1) (fun i c hi => by
          have hmono := rl_le_upd E ρ H.length H.length ⟨w.heap.size, 0, arr.size⟩ (Nat.le_refl _)
          rw [hkl]
          by_cases hlt : i < cs.length
          · rw [List.getElem?_append_left hlt] at hi
            obtain ⟨v, g1, g2, g3⟩ := hlo'.get hi
            refine ⟨v, ?_, g2, g3.mono hmono⟩
            rw [← harr, Array.append_assoc, Array.getElem?_append_left (by omega)]
            simpa using g1
          · rw [List.getElem?_append_right (by omega)] at hi
            have hi2 := (List.getElem?_eq_some_iff.1 hi).1
            obtain ⟨v, g1, g2, g3⟩ := hln.get hi
            refine ⟨v, ?_, g2, g3.mono hmono⟩
            rw [← harr, Array.append_assoc, Array.getElem?_append_right (by omega), Array.getElem?_append_left (by omega), lo']
            simpa using g1)
      rw [hkl] at hpush
      exact hpush
    · rw [List.length_append, hkl]
      exact slc_new hc1 (by omega)
theorem og_append {args : Array Operand} {ats : Array TypeId} (ho : o.op = .call ⟨.builtin .append, args, ats⟩) (h : ostep P o fr H K) : ∃ s H', OpG P o fr H s H' ∧ K s H' := by
  simp only [ostep, ho] at h
  split at h
  · rename_i s x t t' hargs hats
    have ha : args = #[s, x] := by apply Array.ext'; simpa using hargs
    have hat : ats = #[t, t'] := by apply Array.ext'; simpa using hats
    subst ha; subst hat
    split at h
    · rename_i ti ti' ht ht'
      obtain ⟨i1, d1, hs1⟩ := ti_spec ht
      obtain ⟨i1', d1', hs1'⟩ := ti_spec ht'
      split at h
      · rename_i e k hk hk'
        split at h
        · rename_i ei hei
          split at h
          · rename_i z hz
            exact og_appmk ho ht ht' hk hk' hei hz h
          · exact h.elim
        · exact h.elim
      · exact h.elim
      · rename_i e hk hnint
        have ed := tkOf_slice (hk.symm.trans hs1.kind)
        split at h
        · rename_i ei hei
          obtain ⟨i2, d2, hs2⟩ := ti_spec hei
          split at h
          · rename_i z hz
            obtain ⟨hby, hsz, hzl, h⟩ := h
            obtain ⟨n, cs, h, hes, hcl, hsnd⟩ := elems_sound (P := P) h
            obtain ⟨m, ds, h, hex, hdl, hxnd⟩ := elems_sound (P := P) h
            obtain ⟨hroom, hmax, h⟩ := h
            have hfin : (∃ p q sz, ev fr s = .v (.c (.slc p q n sz)) ∧ sz = ei.size ∧ ∃ bs, H[p]? = some (some bs) ∧ q + n * ei.size ≤ bs.length ∧ cs = (bs.drop q).take (n * ei.size)) ∨ (ev fr s = .v (.c .nils) ∧ n = 0 ∧ cs = []) := by
              split at h
              · rename_i p q n' sz hx
                obtain ⟨e1, e2, bs, e3, e4, e5⟩ := (len_eq hes).1 p q n' sz hx
                subst e1
                exact .inl ⟨p, q, sz, hx, e2, bs, e3, e4, e5⟩
              · rename_i hx
                exact .inr ⟨hx, (len_eq hes).2 hx⟩
              · exact h.elim
            have hK : K (sc (.slc H.length 0 (n + m) ei.size)) (Abs.kill H (ev fr s) ++ [some (cs ++ ds)]) := by
              rcases hfin with ⟨p, q, sz, hx, _⟩ | ⟨hx, _⟩ <;> · rw [hx] at h ⊢; exact h
            refine ⟨_, _, opg_run (by rcases hfin with ⟨p, q, sz, hx, _⟩ | ⟨hx, _⟩ <;> rw [hx] <;> simp [Abs.kill]) fun E ρ a w hE hs => ?_, hK⟩
            have hcs := ev_sound hs.fr s
            have hcx := ev_sound hs.fr x
            obtain ⟨hl1, hf1⟩ := hsnd E ρ w (a.eval s) hE hs.heap hcs
            obtain ⟨hl2, hf2⟩ := hxnd E ρ w (a.eval x) hE hs.heap hcx
            obtain ⟨vo, hro, hlo⟩ := hf1 n (Nat.le_refl _)
            obtain ⟨vn, hrn, hln⟩ := hf2 m (Nat.le_refl _)
            rw [← hcl, List.take_length] at hlo
            rw [← hdl, List.take_length] at hln
            have hcat : LRel (E.rl H.length ρ) (cs ++ ds) (vo.toList ++ vn.toList) := by
              have l1 := hlo.length
              have l2 := hln.length
              refine LRel.of_get (by simp [l1, l2]) fun i c hi => ?_
              by_cases hlt : i < cs.length
              · rw [List.getElem?_append_left hlt] at hi
                rw [List.getElem?_append_left (by omega)]
                exact hlo.get hi
              · rw [List.getElem?_append_right (by omega)] at hi
                rw [List.getElem?_append_right (by omega), l1]
                exact hln.get hi
            have u1 : ∀ w, (underlying t).run P w = .ok (.slice e) w := fun w => by have := hs1.run_underlying w; rwa [ed] at this
            have u2 : ∀ w, (do pure ((← underlying t') matches .int _) : Sem Bool).run P w = .ok false w := fun w => by
              have := hs1'.run_underlying w
              rw [Sem.run_bind, this]
              simp only [Result.andThen_ok, Sem.run_pure]
              cases hd : d1' with
              | int k => exfalso; rw [hd] at hs1'; exact hnint k (by rw [hs1'.kind]; rfl)
              | _ => rfl
            obtain ⟨base, cap, hev, hcap⟩ : ∃ base cap, a.eval s = .slice base n cap ∧ n ≤ cap := by
              rcases hfin with ⟨p, q, sz, hx, _⟩ | ⟨hx, rfl, _⟩
              · rw [hx] at hcs
                simp only [SRel, VRel, CRel] at hcs
                obtain ⟨_, b, c, e, e', _⟩ := hcs
                exact ⟨b, c, e, e'⟩
              · rw [hx] at hcs
                simp only [SRel, VRel, CRel] at hcs
                exact ⟨none, 0, hcs, Nat.le_refl _⟩
            have hb : i2.bytes = ei.bytes := hs2.bytes.symm
            have hkl : (Abs.kill H (ev fr s)).length = H.length := by rcases hfin with ⟨p, q, sz, hx, _⟩ | ⟨hx, _⟩ <;> rw [hx] <;> simp [Abs.kill]
            have hkr : HRel E ρ w (Abs.kill H (ev fr s)) := by
              rcases hfin with ⟨p, q, sz, hx, _⟩ | ⟨hx, _⟩ <;> rw [hx]
              · exact hs.heap.kill p
              · exact hs.heap
            have lo := hlo.length
            have ln := hln.length
            simp at lo ln
            have hnd : notInt d1' = true := by
              cases hd : d1' with
              | int k => exfalso; rw [hd] at hs1'; exact hnint k (by rw [hs1'.kind]; rfl)
              | _ => rfl
            have hmap : (#[s, x] : Array Operand).map a.eval = #[.slice base n cap, a.eval x] := by simp [hev]
            have hexec : ∀ r w', (Builtin.append_ #[t, t'] o.type #[.slice base n cap, a.eval x]).run P w = .ok r w' → (execOp a.eval o).run P w = .ok (.value r) w' := fun r w' hr => by
              simp only [execOp, ho, resolve, invoke, builtin, hmap, Sem.run_bind, Sem.run_pure, Result.andThen_ok, hr]
            by_cases hfit : n + m ≤ cap
            ·
              have hrun := run_append_fit (ty := o.type) (n := n) (base := base) (x := a.eval x) (u1 w) (hs1'.run_underlying w) hnd (hs2.run_sizeOf w) hl2 hrn hfit
              by_cases hc0 : cap = 0
              · have hn0 : n = 0 := by omega
                have hm0 : m = 0 := by omega
                subst hn0; subst hm0; subst hc0
                have hvn : vn = #[] := by apply Array.eq_empty_of_size_eq_zero; omega
                subst hvn
                have he : cs ++ ds = [] := by
                  apply List.eq_nil_of_length_eq_zero
                  simp [hcl, hdl]
                refine ⟨.slice base 0 0, w, upd ρ H.length ⟨0, 0, 0⟩, .inl (hexec _ _ (hrun.trans ?_)), upd_old, ?_, ?_⟩
                · cases base <;> rfl
                · rw [he, ← hkl]
                  exact hkr.pushEmp (w' := w) rfl rfl rfl rfl
                · simp only [SRel, VRel, CRel]
                  refine ⟨by simp [Env.rl, hkl], base, 0, rfl, by omega, .inr rfl⟩
              · rcases hfin with ⟨p, q, sz, hx, rfl, bs, hp, hle, hcs'⟩ | ⟨hx, rfl, _⟩
                · rw [hx] at hcs
                  simp only [SRel, VRel, CRel] at hcs
                  obtain ⟨hpn, b, c, e1, e2, e3⟩ := hcs
                  rw [hev] at e1
                  injection e1 with e1 _ e4
                  subst e1; subst e4
                  rcases e3 with ⟨rfl, e3⟩ | e3
                  · have e3' : (ρ p).dl + q + cap * ei.size ≤ (ρ p).room := e3
                    have hpos : 0 < cap * ei.size := Nat.mul_pos (by omega) hsz
                    have hr : (ρ p).room ≠ 0 := by omega
                    obtain ⟨arr, el, f, b1, b2, b3, b4, b5⟩ := hs.heap.blk p bs hp hr
                    have hmul : (n + m) * ei.size ≤ cap * ei.size := Nat.mul_le_mul_right _ hfit
                    rw [Nat.add_mul] at hmul
                    have hst := run_storeCells P vn.toList w (ρ p).blk ((ρ p).dl + q + n * ei.size) 0 arr el f b1 b3.no (by simp; omega) hln.one
                    refine ⟨.slice (some ⟨(ρ p).blk, (ρ p).dl + q, none⟩) (n + m) cap, withBlock w (ρ p).blk (.cells (wrA arr ((ρ p).dl + q + n * ei.size + 0) vn.toList) el f), upd ρ H.length ⟨(ρ p).blk, (ρ p).dl + q, (ρ p).room⟩, .inl (hexec _ _ (hrun.trans ?_)), upd_old, ?_, ?_⟩
                    · show ((storeCells ((⟨(ρ p).blk, (ρ p).dl + q, none⟩ : Addr).add (n * ei.size)) vn.toList).run P w).andThen _ = _
                      rw [add_none, hst]
                      rfl
                    · rw [hx]
                      refine hs.heap.move hp hr rfl (by rw [wrA_size]; exact b2) (by rw [wrA_size]; exact b3) (by simp [hcl, hdl]; omega) fun i c hi => ?_
                      rw [wrA_get _ _ _ _ (by simp; omega)]
                      have hmono := rl_le_upd E ρ H.length H.length ⟨(ρ p).blk, (ρ p).dl + q, (ρ p).room⟩ (Nat.le_refl _)
                      by_cases hlt : i < cs.length
                      · rw [List.getElem?_append_left hlt] at hi
                        rw [if_neg (by omega)]
                        rw [hcs', List.getElem?_take, if_pos (by omega), List.getElem?_drop] at hi
                        obtain ⟨v, g1, g2, g3⟩ := b5 _ _ hi
                        exact ⟨v, by rw [← Nat.add_assoc] at g1; exact g1, g2, g3.mono hmono⟩
                      · rw [List.getElem?_append_right (by omega)] at hi
                        have hi2 := (List.getElem?_eq_some_iff.1 hi).1
                        rw [if_pos (by simp; omega)]
                        obtain ⟨v, g1, g2, g3⟩ := hln.get hi
                        refine ⟨v, ?_, g2, g3.mono hmono⟩
                        rw [show (ρ p).dl + q + i - ((ρ p).dl + q + n * ei.size + 0) = i - cs.length by omega]
                        exact g1
                    · simp only [SRel, VRel, CRel]
                      refine ⟨by simp [Env.rl, hkl], _, cap, rfl, by omega, .inl ?_⟩
                      simp only [Env.rl, upd_new]
                      exact ⟨by simp, by omega⟩
                  · exact absurd e3 hc0
                · rw [hx] at hcs
                  simp only [SRel, VRel, CRel] at hcs
                  rw [hev] at hcs
                  injection hcs with _ _ e
                  exact absurd e hc0
            ·
              have hh' : HRel E ρ { w with drawn := w.drawn + 1 } H := hs.heap.drew _
              obtain ⟨_, hf1'⟩ := hsnd E ρ _ (a.eval s) hE hh' (ev_sound hs.fr s)
              obtain ⟨_, hf2'⟩ := hxnd E ρ _ (a.eval x) hE hh' hcx
              obtain ⟨vo', hro', hlo'⟩ := hf1' n (Nat.le_refl _)
              obtain ⟨vn', hrn', hln'⟩ := hf2' m (Nat.le_refl _)
              rw [← hcl, List.take_length] at hlo'
              rw [← hdl, List.take_length] at hln'
              rw [hev] at hro'
              obtain ⟨zv, z1, z2, z3⟩ := hs2.run_zero hz w
              have hzall : ∀ w, (zeroValue e).run P w = .ok zv w := fun w' => by
                obtain ⟨zv', y1, _, _⟩ := hs2.run_zero hz w'
                have hzi : i2.zero = some zv := by
                  simp only [zeroValue, Sem.run_bind, hs2.run_typeInfo, Result.andThen_ok] at z1
                  cases hiz : i2.zero with
                  | none => rw [hiz] at z1; simp at z1
                  | some v => rw [hiz] at z1; simp at z1; rw [z1]
                simp [zeroValue, hs2.run_typeInfo, hzi]
              have hns := nextslicecap_le (n + m) cap (by omega)
              have hroom' : Builtin.nextslicecap (n + m) cap * i2.bytes ≤ 2 ^ 48 := by
                rw [hb]
                exact Nat.le_trans (Nat.mul_le_mul_right _ hns) (by omega)
              obtain ⟨c, hc1, hrun⟩ := run_append_grow (ty := o.type) (n := n) (base := base) (x := a.eval x) (cap := cap) (u1 w) (hs1'.run_underlying w) hnd (fun w => hs2.run_sizeOf w) hl2 hrn' hro' (fun w => hs2.run_typeInfo w) hzall (by omega) hfit hroom'
              have lo' := hlo'.length
              have ln' := hln'.length
              simp at lo' ln'
              have hzc : zv.cells.size = ei.size := by rw [← hzl, z3]; simp
              generalize harr : vo' ++ vn' ++ Builtin.zeroCells zv.cells (c - (n + m)) = arr at hrun
              have hasz : arr.size = c * ei.size := by
                rw [← harr]
                simp only [Array.size_append, Builtin.zeroCells, Array.size_map, Array.size_range, hzc]
                rw [lo', ln', hcl, hdl, ← Nat.add_mul, ← Nat.add_mul]
                congr 1
                omega
              refine ⟨_, _, upd ρ H.length ⟨w.heap.size, 0, arr.size⟩, .inl (hexec _ _ hrun), upd_old, ?_, ?_⟩
              · have hpush := (hkr.drew (w.drawn + 1)).push (w' := { w with drawn := w.drawn + 1, heap := w.heap.push (.cells arr e) }) (arr := arr) (el := e) (fr := (0, 0)) (cs := cs ++ ds) rfl rfl rfl rfl (.inl rfl)
                  (by rw [hasz]; simp [hcl, hdl]; rw [← Nat.add_mul]; exact Nat.mul_le_mul_right _ hc1) (fun i c hi => by
                    have hmono := rl_le_upd E ρ H.length H.length ⟨w.heap.size, 0, arr.size⟩ (Nat.le_refl _)
                    rw [hkl]
                    by_cases hlt : i < cs.length
                    · rw [List.getElem?_append_left hlt] at hi
                      obtain ⟨v, g1, g2, g3⟩ := hlo'.get hi
                      refine ⟨v, ?_, g2, g3.mono hmono⟩
                      rw [← harr, Array.append_assoc, Array.getElem?_append_left (by omega)]
                      simpa using g1
                    · rw [List.getElem?_append_right (by omega)] at hi
                      have hi2 := (List.getElem?_eq_some_iff.1 hi).1
                      obtain ⟨v, g1, g2, g3⟩ := hln'.get hi
                      refine ⟨v, ?_, g2, g3.mono hmono⟩
                      rw [← harr, Array.append_assoc, Array.getElem?_append_right (by omega), Array.getElem?_append_left (by omega), lo']
                      simpa using g1)
                rw [hkl] at hpush
                exact hpush
              · rw [List.length_append, hkl]
                exact slc_new hc1 (by omega)
          · exact h.elim
        · exact h.elim
      · exact h.elim
    · exact h.elim
  · exact h.elim
end
end Go.Abs

/- The abstract machine: every operation; regions in the order of the text. -/
namespace Go.Abs
open Go
section
variable {P : Program} {fr : List S} {H : Heap} {K : S → Heap → Prop} {o : Oper}
theorem og_copy {args : Array Operand} {ats : Array TypeId} (ho : o.op = .call ⟨.builtin .copy, args, ats⟩) (h : ostep P o fr H K) : ∃ s H', OpG P o fr H s H' ∧ K s H' := by
  simp only [ostep, ho] at h
  split at h
  · rename_i d x t t' hargs hats
    have ha : args = #[d, x] := by apply Array.ext'; simpa using hargs
    have hat : ats = #[t, t'] := by apply Array.ext'; simpa using hats
    subst ha; subst hat
    split at h
    · rename_i ti ht
      obtain ⟨i1, d1, hs1⟩ := ti_spec ht
      split at h
      · rename_i e hk
        have ed := tkOf_slice (hk.symm.trans hs1.kind)
        split at h
        · rename_i ei hei
          obtain ⟨i2, d2, hs2⟩ := ti_spec hei
          split at h
          · rename_i p q n sz hx
            split at h
            · rename_i cs hp
              obtain ⟨rfl, hle, h⟩ := h
              obtain ⟨m, ds, h, hex, hdl, hxnd⟩ := elems_sound (P := P) h
              refine ⟨_, _, opg_run (by simp) fun E ρ a w hE hs => ?_, h⟩
              have hcd := ev_sound hs.fr d
              rw [hx] at hcd
              simp only [SRel, VRel, CRel] at hcd
              obtain ⟨hpn, b, c, e1, e2, e3⟩ := hcd
              have hcx := ev_sound hs.fr x
              obtain ⟨hl2, hf2⟩ := hxnd E ρ w (a.eval x) hE hs.heap hcx
              obtain ⟨vn, hrn, hln⟩ := hf2 (min m n) (Nat.min_le_left _ _)
              have u1 := hs1.run_underlying w
              rw [ed] at u1
              have hmap : (#[d, x] : Array Operand).map a.eval = #[.slice b n c, a.eval x] := by simp [e1]
              have hlen : (ds.take (min m n * ei.size)).length = min m n * ei.size := by
                have : min m n * ei.size ≤ m * ei.size := Nat.mul_le_mul_right _ (Nat.min_le_left _ _)
                simp; omega
              have hle2 : min m n * ei.size ≤ n * ei.size := Nat.mul_le_mul_right _ (Nat.min_le_right _ _)
              have e0 : #[t, t'][0]? = some t := rfl
              have e4 : #[Value.slice b n c, a.eval x][0]? = some (.slice b n c) := rfl
              have e5 : #[Value.slice b n c, a.eval x][1]? = some (a.eval x) := rfl
              by_cases h0 : min m n * ei.size = 0
              · have hvn : vn = #[] := by
                  apply Array.eq_empty_of_size_eq_zero
                  have := hln.length
                  simp at this
                  omega
                subst hvn
                refine ⟨.int .i64 (min m n : Nat), w, ρ, .inl ?_, fun _ _ => rfl, ?_, by simp [SRel, VRel, CRel]⟩
                · simp only [execOp, ho, resolve, invoke, builtin, hmap, Sem.run_bind, Sem.run_pure, Result.andThen_ok, Builtin.copy_, e0, e4, e5, u1, hl2, hs2.run_sizeOf w]
                  simp only [Nat.min_def] at hrn ⊢
                  cases b <;> simp [hrn, goInt, storeCells]
                · rw [h0]
                  have : splice cs q (ds.take 0) = cs := by simp [splice]
                  rw [this]
                  have e : H.set p (some cs) = H := by
                    apply List.ext_getElem?
                    intro i
                    rw [List.getElem?_set]
                    by_cases hpi : p = i
                    · subst hpi; rw [if_pos rfl, if_pos (List.getElem?_eq_some_iff.1 hp).1, hp]
                    · rw [if_neg hpi]
                  rw [e]; exact hs.heap
              · rcases e3 with ⟨rfl, e3⟩ | e3
                · obtain ⟨w', hw, hh⟩ := write_sound (P := P) hs.heap hp hln (q := q) (by rw [hlen]; omega) (by rw [hlen]; omega)
                  refine ⟨.int .i64 (min m n : Nat), w', ρ, .inl ?_, fun _ _ => rfl, hh, by simp [SRel, VRel, CRel]⟩
                  simp only [execOp, ho, resolve, invoke, builtin, hmap, Sem.run_bind, Sem.run_pure, Result.andThen_ok, Builtin.copy_, e0, e4, e5, u1, hl2, hs2.run_sizeOf w]
                  have hw' : (storeCells (⟨((E.rl H.length ρ).ρ p).blk, ((E.rl H.length ρ).ρ p).dl + q, none⟩ : Addr) vn.toList).run P w = .ok () w' := hw
                  simp only [Nat.min_def] at hrn ⊢
                  simp [hrn, hw', goInt]
                · exfalso
                  apply h0
                  have : n = 0 := by omega
                  subst this
                  simp
            · exact h.elim
          · exact h.elim
        · exact h.elim
      · exact h.elim
    · exact h.elim
  · exact h.elim
end
end Go.Abs


/- The abstract machine: values, memory, and what it means that a real state is described by an abstract one. -/
import Derived.Orders
import Derived.Below
import Derived.Deep.LoopGhost
import Derived.KernelRfl
namespace Go.Abs
open Go

/-- Where an abstract block lies. -/
structure Place where
  blk : Nat
  dl : Nat
  room : Nat

/-- One abstract cell. -/
inductive Cell where
  | undef
  | bool (b : Bool)
  | int (k : IntKind) (n : Int)
  | str (s : ByteArray)
  | nilp
  | ptr (p off : Nat)
  | nils
  | slc (p off len sz : Nat)
  | ro (n : Nat) (cs : List Cell)
  | rop (cs : List Cell)
  | nilf
  | fn (f : Nat) (cap : List Cell)

/-- One abstract value: a cell, or the cells of a struct or an array. -/
inductive V where
  | c (x : Cell)
  | a (xs : List Cell)

/-- What a slot holds: a value or several results. -/
inductive S where
  | v (x : V)
  | t (xs : List V)

abbrev Heap := List (Option (List Cell))

structure St where
  fr : List S
  H : Heap

/-- What a description leans on: the blocks that may be looked at as 'ro' and what they hold, how many abstract blocks there are, where they lie. -/
structure Rl where
  T : Nat → Prop
  h0 : Array Obj
  n : Nat
  ρ : Nat → Place

section
variable (R : Rl)
mutual
def CRel : Cell → Value → Prop
  | .undef, _ => True
  | .bool b, v => v = .bool b
  | .int k n, v => v = .int k n
  | .str s, v => v = .string s
  | .nilp, v => v = .pointer none
  | .ptr p o, v => p < R.n ∧ v = .pointer (some ⟨(R.ρ p).blk, (R.ρ p).dl + o, none⟩)
  | .nils, v => v = .slice none 0 0
  | .slc p o n sz, v => p < R.n ∧ ∃ a c, v = .slice a n c ∧ n ≤ c ∧
      ((a = some ⟨(R.ρ p).blk, (R.ρ p).dl + o, none⟩ ∧ (R.ρ p).dl + o + c * sz ≤ (R.ρ p).room) ∨ c = 0)
  | .ro n cs, v => ∃ a c, v = .slice a n c ∧ n ≤ c ∧ (a = none → n = 0) ∧ ∀ x, a = some x → cs ≠ [] → x.spot = none ∧ R.T x.block ∧ MRel cs x.block x.off
  | .rop cs, v => ∃ b o, v = .pointer (some ⟨b, o, none⟩) ∧ R.T b ∧ MRel cs b o
  | .nilf, v => v = .nilFunc
  | .fn f cap, v => ∃ vs, v = .func (.func f) #[] vs ∧ LRel cap vs.toList
def MRel : List Cell → Nat → Nat → Prop
  | [], _, _ => True
  | c :: cs, b, o => (∃ arr el fr v, R.h0[b]? = some (.cells arr el fr) ∧ arr[o]? = some v ∧ v.oneCell' = true ∧ CRel c v) ∧ MRel cs b (o + 1)
def LRel : List Cell → List Value → Prop
  | [], vs => vs = []
  | c :: cs, vs => ∃ v vs', vs = v :: vs' ∧ v.oneCell' = true ∧ CRel c v ∧ LRel cs vs'
end
def VRel : V → Value → Prop
  | .c x, v => CRel R x v
  | .a xs, v => ∃ vs, v = .agg vs ∧ LRel R xs vs.toList
def VsRel : List V → List Value → Prop
  | [], vs => vs = []
  | c :: cs, vs => ∃ v vs', vs = v :: vs' ∧ VRel R c v ∧ VsRel cs vs'
def SRel : S → Value → Prop
  | .v x, v => VRel R x v
  | .t xs, v => ∃ vs, v = .tuple vs ∧ VsRel R xs vs.toList
end

/-- More is known: the same old blocks, at least as many abstract ones, where they were. -/
structure Rl.Le (R R' : Rl) : Prop where
  T : ∀ b, R.T b → R'.T b ∧ R'.h0[b]? = R.h0[b]?
  n : ∀ p, p < R.n → p < R'.n ∧ R'.ρ p = R.ρ p

theorem Rl.Le.refl (R : Rl) : R.Le R := ⟨fun _ h => ⟨h, rfl⟩, fun _ h => ⟨h, rfl⟩⟩
theorem Rl.Le.trans {a b c : Rl} (h : a.Le b) (k : b.Le c) : a.Le c :=
  ⟨fun x hx => ⟨(k.T x (h.T x hx).1).1, ((k.T x (h.T x hx).1).2).trans (h.T x hx).2⟩, fun p hp => ⟨(k.n p (h.n p hp).1).1, ((k.n p (h.n p hp).1).2).trans (h.n p hp).2⟩⟩

mutual
theorem CRel.mono {R R' : Rl} (h : R.Le R') : ∀ (c : Cell) (v : Value), CRel R c v → CRel R' c v
  | .undef, _, _ => by simp [CRel]
  | .bool b, v, k => by simpa [CRel] using k
  | .int _ _, v, k => by simpa [CRel] using k
  | .str s, v, k => by simpa [CRel] using k
  | .nilp, v, k => by simpa [CRel] using k
  | .ptr p o, v, k => by
    simp only [CRel] at k ⊢
    rw [(h.n p k.1).2]
    exact ⟨(h.n p k.1).1, k.2⟩
  | .nils, v, k => by simpa [CRel] using k
  | .slc p o n sz, v, k => by
    simp only [CRel] at k ⊢
    rw [(h.n p k.1).2]
    exact ⟨(h.n p k.1).1, k.2⟩
  | .ro n cs, v, k => by
    simp only [CRel] at k ⊢
    obtain ⟨a, c, e1, e2, e3, e4⟩ := k
    refine ⟨a, c, e1, e2, e3, fun x hx hne => ?_⟩
    obtain ⟨f1, f2, f3⟩ := e4 x hx hne
    exact ⟨f1, (h.T _ f2).1, MRel.mono h cs x.block f2 x.off f3⟩
  | .rop cs, v, k => by
    simp only [CRel] at k ⊢
    obtain ⟨b, o, e1, e2, e3⟩ := k
    exact ⟨b, o, e1, (h.T _ e2).1, MRel.mono h cs b e2 o e3⟩
  | .nilf, v, k => by simpa [CRel] using k
  | .fn f cap, v, k => by
    simp only [CRel] at k ⊢
    obtain ⟨vs, e1, e2⟩ := k
    exact ⟨vs, e1, LRel.mono h cap vs.toList e2⟩
theorem MRel.mono {R R' : Rl} (h : R.Le R') : ∀ (cs : List Cell) (b : Nat), R.T b → ∀ (o : Nat), MRel R cs b o → MRel R' cs b o
  | [], _, _, _, _ => by simp [MRel]
  | c :: cs, b, hb, o, k => by
    simp only [MRel] at k ⊢
    obtain ⟨⟨arr, el, fr, v, e1, e2, e4, e3⟩, k2⟩ := k
    exact ⟨⟨arr, el, fr, v, by rw [(h.T b hb).2]; exact e1, e2, e4, CRel.mono h c v e3⟩, MRel.mono h cs b hb (o + 1) k2⟩
theorem LRel.mono {R R' : Rl} (h : R.Le R') : ∀ (cs : List Cell) (vs : List Value), LRel R cs vs → LRel R' cs vs
  | [], vs, k => by simpa [LRel] using k
  | c :: cs, vs, k => by
    simp only [LRel] at k ⊢
    obtain ⟨v, vs', e1, e4, e2, e3⟩ := k
    exact ⟨v, vs', e1, e4, CRel.mono h c v e2, LRel.mono h cs vs' e3⟩
end
theorem VRel.mono {R R' : Rl} (h : R.Le R') (x : V) (v : Value) (k : VRel R x v) : VRel R' x v := by
  cases x with
  | c x => exact CRel.mono h x v k
  | a xs => obtain ⟨vs, e1, e2⟩ := k; exact ⟨vs, e1, LRel.mono h xs _ e2⟩
theorem VsRel.mono {R R' : Rl} (h : R.Le R') : ∀ (cs : List V) (vs : List Value), VsRel R cs vs → VsRel R' cs vs
  | [], vs, k => by simpa [VsRel] using k
  | c :: cs, vs, k => by
    simp only [VsRel] at k ⊢
    obtain ⟨v, vs', e1, e2, e3⟩ := k
    exact ⟨v, vs', e1, VRel.mono h c v e2, VsRel.mono h cs vs' e3⟩
theorem SRel.mono {R R' : Rl} (h : R.Le R') (x : S) (v : Value) (k : SRel R x v) : SRel R' x v := by
  cases x with
  | v x => exact VRel.mono h x v k
  | t xs => obtain ⟨vs, e1, e2⟩ := k; exact ⟨vs, e1, VsRel.mono h xs _ e2⟩

/-- Lists, place by place. -/
theorem LRel.length {R : Rl} : ∀ {cs : List Cell} {vs : List Value}, LRel R cs vs → vs.length = cs.length
  | [], vs, k => by simp only [LRel] at k; simp [k]
  | c :: cs, vs, k => by
    simp only [LRel] at k
    obtain ⟨v, vs', rfl, _, _, e3⟩ := k
    simp [LRel.length e3]
theorem LRel.get {R : Rl} : ∀ {cs : List Cell} {vs : List Value}, LRel R cs vs → ∀ {i : Nat} {c : Cell}, cs[i]? = some c → ∃ v, vs[i]? = some v ∧ v.oneCell' = true ∧ CRel R c v
  | [], vs, _, i, c, hi => by simp at hi
  | c :: cs, vs, k, i, d, hi => by
    simp only [LRel] at k
    obtain ⟨v, vs', rfl, e1, e2, e3⟩ := k
    cases i with
    | zero => simp at hi; subst hi; exact ⟨v, rfl, e1, e2⟩
    | succ i => simpa using LRel.get e3 (i := i) (c := d) (by simpa using hi)
theorem LRel.of_get {R : Rl} : ∀ {cs : List Cell} {vs : List Value}, vs.length = cs.length → (∀ (i : Nat) c, cs[i]? = some c → ∃ v, vs[i]? = some v ∧ v.oneCell' = true ∧ CRel R c v) → LRel R cs vs
  | [], vs, h, _ => by simp at h; simp [LRel, h]
  | c :: cs, [], h, _ => by simp at h
  | c :: cs, v :: vs, h, k => by
    simp only [LRel]
    obtain ⟨v', hv, ho, hr⟩ := k 0 c rfl
    simp at hv
    subst hv
    exact ⟨v, vs, rfl, ho, hr, LRel.of_get (by simpa using h) (fun i d hi => by simpa using k (i + 1) d (by simpa using hi))⟩
theorem MRel.get {R : Rl} : ∀ {cs : List Cell} {b o : Nat}, MRel R cs b o → ∀ {i : Nat} {c : Cell}, cs[i]? = some c → ∃ arr el fr v, R.h0[b]? = some (.cells arr el fr) ∧ arr[o + i]? = some v ∧ v.oneCell' = true ∧ CRel R c v
  | [], b, o, _, i, c, hi => by simp at hi
  | c :: cs, b, o, k, i, d, hi => by
    simp only [MRel] at k
    obtain ⟨⟨arr, el, fr, v, e1, e2, e4, e3⟩, k2⟩ := k
    cases i with
    | zero => simp at hi; subst hi; exact ⟨arr, el, fr, v, e1, e2, e4, e3⟩
    | succ i =>
      have := MRel.get k2 (i := i) (c := d) (by simpa using hi)
      simpa [Nat.add_assoc, Nat.add_comm 1 i] using this
theorem MRel.of_get {R : Rl} : ∀ {cs : List Cell} {b o : Nat}, (∀ (i : Nat) c, cs[i]? = some c → ∃ arr el fr v, R.h0[b]? = some (.cells arr el fr) ∧ arr[o + i]? = some v ∧ v.oneCell' = true ∧ CRel R c v) → MRel R cs b o
  | [], b, o, _ => by simp [MRel]
  | c :: cs, b, o, k => by
    simp only [MRel]
    refine ⟨by simpa using k 0 c rfl, MRel.of_get fun i d hi => ?_⟩
    have := k (i + 1) d (by simpa using hi)
    simpa [Nat.add_assoc, Nat.add_comm 1 i] using this

/-- The world in which a call began, the blocks that may be looked at, those that were handed over. -/
structure Env where
  w0 : World
  T : Nat → Prop
  img : Nat → Prop

def Env.rl (E : Env) (n : Nat) (ρ : Nat → Place) : Rl := ⟨E.T, E.w0.heap, n, ρ⟩

/-- Which blocks may be looked at: old ones that were not handed over. -/
structure Env.Ok (E : Env) : Prop where
  old : ∀ b, E.T b → b < E.w0.heap.size
  apart : ∀ b, E.T b → ¬ E.img b
  img : ∀ b, E.img b → b < E.w0.heap.size

/-- What of a block is frozen lies behind its cells. -/
def Fz (fr : Nat × Nat) (n : Nat) : Prop := fr.1 = fr.2 ∨ (n ≤ fr.1 ∧ fr.1 ≤ fr.2)
theorem Fz.no {fr : Nat × Nat} {n : Nat} (h : Fz fr n) : ∀ i, i < n → ¬ (fr.1 ≤ i ∧ i < fr.2) := by
  intro i hi hh
  rcases h with h | h
  · omega
  · omega
/-- A block of the world is described by abstract cells. -/
def BRel (R : Rl) (w : World) (pl : Place) (cs : List Cell) : Prop :=
  ∃ arr el fr, w.heap[pl.blk]? = some (.cells arr el fr) ∧ arr.size = pl.room ∧ Fz fr arr.size ∧ pl.dl + cs.length ≤ pl.room ∧
    ∀ (i : Nat) c, cs[i]? = some c → ∃ v, arr[pl.dl + i]? = some v ∧ v.oneCell' = true ∧ CRel R c v

structure HRel (E : Env) (ρ : Nat → Place) (w : World) (H : Heap) : Prop where
  os : w.os = E.w0.os
  tape : w.tape = E.w0.tape
  output : w.output = E.w0.output
  size : E.w0.heap.size ≤ w.heap.size
  frame : ∀ b, b < E.w0.heap.size → ¬ E.img b → w.heap[b]? = E.w0.heap[b]?
  fresh : ∀ p cs, H[p]? = some (some cs) → (ρ p).room ≠ 0 → E.img (ρ p).blk ∨ E.w0.heap.size ≤ (ρ p).blk
  inj : ∀ p q cs ds, H[p]? = some (some cs) → H[q]? = some (some ds) → (ρ p).room ≠ 0 → (ρ q).room ≠ 0 → (ρ p).blk = (ρ q).blk → p = q
  blk : ∀ p cs, H[p]? = some (some cs) → (ρ p).room ≠ 0 → BRel (E.rl H.length ρ) w (ρ p) cs
  emp : ∀ p cs, H[p]? = some (some cs) → (ρ p).room = 0 → cs = []

/-- The real frame is described by the abstract one. -/
def FRel (R : Rl) (fr : List S) (a : Act) : Prop :=
  a.defers = [] ∧ a.tmps.size = fr.length ∧ ∀ (i : Nat) s, fr[i]? = some s → ∃ v, a.tmps[i]? = some v ∧ SRel R s v

structure Sim (E : Env) (ρ : Nat → Place) (st : St) (a : Act) (w : World) : Prop where
  fr : FRel (E.rl st.H.length ρ) st.fr a
  heap : HRel E ρ w st.H

/-- Abstract weakest precondition, said of real runs. 'n': so many abstract blocks were there at the begin of the call. -/
def AWp (P : Program) (n : Nat) (c : Code) (Q : Exit → St → Prop) (st : St) : Prop :=
  ∀ (E : Env) (ρ : Nat → Place) (a : Act) (w : World), E.Ok → Sim E ρ st a w →
    c.wp P (fun e a' w' => ∃ st' ρ', Q e st' ∧ (∀ p, p < n → ρ' p = ρ p) ∧ Sim E ρ' st' a' w') a w

section rules
variable {P : Program} {n : Nat} {Q : Exit → St → Prop} {st : St}

theorem AWp.mono {c : Code} {Q' : Exit → St → Prop} (h : AWp P n c Q st) (hq : ∀ e s, Q e s → Q' e s) : AWp P n c Q' st := by
  intro E ρ a w hE hs
  refine wp_mono (h E ρ a w hE hs) ?_
  rintro e a' w' ⟨st', ρ', h1, h2, h3⟩
  exact ⟨st', ρ', hq _ _ h1, h2, h3⟩

theorem awp_skip (h : Q .normal st) : AWp P n .skip Q st := fun _ ρ _ _ _ hs => wp_skip ⟨st, ρ, h, fun _ _ => rfl, hs⟩
theorem awp_exit {id : Nat} (h : Q (.exit id) st) : AWp P n (.exit id) Q st := fun _ ρ _ _ _ hs => wp_exit ⟨st, ρ, h, fun _ _ => rfl, hs⟩
theorem awp_ret (h : Q .ret st) : AWp P n .ret Q st := fun _ ρ _ _ _ hs => wp_ret ⟨st, ρ, h, fun _ _ => rfl, hs⟩

/-- What stands behind. -/
def then_ (next : St → Prop) (Q : Exit → St → Prop) : Exit → St → Prop
  | .normal, s => next s
  | e, s => Q e s

theorem awp_seq {x y : Code} (h : AWp P n x (then_ (AWp P n y Q) Q) st) : AWp P n (.seq x y) Q st := by
  intro E ρ a w hE hs
  refine wp_seq (wp_mono (h E ρ a w hE hs) ?_)
  rintro e a' w' ⟨st', ρ', h1, h2, h3⟩
  cases e with
  | normal =>
    refine wp_mono (h1 E ρ' a' w' hE h3) ?_
    rintro e a'' w'' ⟨st'', ρ'', k1, k2, k3⟩
    exact ⟨st'', ρ'', k1, fun p hp => (k2 p hp).trans (h2 p hp), k3⟩
  | _ => exact ⟨st', ρ', h1, h2, h3⟩

def inBlock_ (id : Nat) (Q : Exit → St → Prop) : Exit → St → Prop
  | .exit id', s => if id' = id then Q .normal s else Q (.exit id') s
  | e, s => Q e s

theorem awp_block {id : Nat} {c : Code} (h : AWp P n c (inBlock_ id Q) st) : AWp P n (.block id c) Q st := by
  intro E ρ a w hE hs
  refine wp_block (wp_mono (h E ρ a w hE hs) ?_)
  rintro e a' w' ⟨st', ρ', h1, h2, h3⟩
  cases e with
  | exit id' =>
    simp only [inBlock_] at h1
    simp only [Exit.inBlock]
    split
    · rename_i he; rw [if_pos he] at h1; exact ⟨st', ρ', h1, h2, h3⟩
    · rename_i he; rw [if_neg he] at h1; exact ⟨st', ρ', h1, h2, h3⟩
  | _ => exact ⟨st', ρ', h1, h2, h3⟩

/-- One description says no more than another one. -/
def SLe (n : Nat) (st st' : St) : Prop :=
  ∀ (E : Env) (ρ : Nat → Place) (a : Act) (w : World), Sim E ρ st a w → ∃ ρ', (∀ p, p < n → ρ' p = ρ p) ∧ Sim E ρ' st' a w

theorem SLe.refl (n : Nat) (st : St) : SLe n st st := fun _ ρ _ _ h => ⟨ρ, fun _ _ => rfl, h⟩

theorem awp_le {c : Code} {st' : St} (hle : SLe n st st') (h : AWp P n c Q st') : AWp P n c Q st := by
  intro E ρ a w hE hs
  obtain ⟨ρ', h1, h2⟩ := hle E ρ a w hs
  refine wp_mono (h E ρ' a w hE h2) ?_
  rintro e a' w' ⟨st', ρ'', k1, k2, k3⟩
  exact ⟨st', ρ'', k1, fun p hp => (k2 p hp).trans (h1 p hp), k3⟩

theorem awp_post_le {c : Code} {Q' : Exit → St → Prop} (h : AWp P n c Q st) (hq : ∀ e s, Q e s → ∃ s', SLe n s s' ∧ Q' e s') : AWp P n c Q' st := by
  intro E ρ a w hE hs
  refine wp_mono (h E ρ a w hE hs) ?_
  rintro e a' w' ⟨s, ρ', k1, k2, k3⟩
  obtain ⟨s', l1, l2⟩ := hq e s k1
  obtain ⟨ρ'', m1, m2⟩ := l1 E ρ' a' w' k3
  exact ⟨s', ρ'', l2, fun p hp => (m1 p hp).trans (k2 p hp), m2⟩

/-- A loop: what holds at each round's head, and what every round lowers. -/
theorem awp_loop {c : Code} {α : Type} (I : α → St) (μ : α → Nat) (x₀ : α) (h₀ : SLe n st (I x₀))
    (round : ∀ x, AWp P n c (then_ (fun s => ∃ y, μ y < μ x ∧ SLe n s (I y)) Q) (I x)) : AWp P n (.loop c) Q st := by
  intro E ρ a w hE hs
  obtain ⟨ρ0, h1, h2⟩ := h₀ E ρ a w hs
  refine wp_mono (wp_loop_ghost (Q := fun e a' w' => ∃ st' ρ', Q e st' ∧ (∀ p, p < n → ρ' p = ρ0 p) ∧ Sim E ρ' st' a' w')
    (fun m a w => ∃ x ρ', μ x = m ∧ (∀ p, p < n → ρ' p = ρ0 p) ∧ Sim E ρ' (I x) a w) (μ x₀) ⟨x₀, ρ0, rfl, fun _ _ => rfl, h2⟩ ?_) ?_
  · rintro m a w ⟨x, ρ', rfl, k1, k2⟩
    refine wp_mono (round x E ρ' a w hE k2) ?_
    rintro e a' w' ⟨s, ρ'', l1, l2, l3⟩
    cases e with
    | normal =>
      obtain ⟨y, m1, m2⟩ := l1
      obtain ⟨ρ3, o1, o2⟩ := m2 E ρ'' a' w' l3
      exact ⟨μ y, m1, y, ρ3, rfl, fun p hp => (o1 p hp).trans ((l2 p hp).trans (k1 p hp)), o2⟩
    | _ => exact ⟨s, ρ'', l1, fun p hp => (l2 p hp).trans (k1 p hp), l3⟩
  · rintro e a' w' ⟨s, ρ', k1, k2, k3⟩
    exact ⟨s, ρ', k1, fun p hp => (k2 p hp).trans (h1 p hp), k3⟩
end rules
end Go.Abs

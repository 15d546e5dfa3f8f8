/- The abstract machine: types; operations that look at no memory. -/
import Derived.Test.YtcihpgdmldkjfaaAbsC
namespace Go.Abs
open Go

inductive TK where
  | bool | int (k : IntKind) | str | ptr (e : Nat) | slice (e : Nat) | array (n e : Nat) | struct (fs : List (Nat × Nat)) | func | other
structure TI where
  size : Nat
  bytes : Nat
  zero : Option (List Cell)
  kind : TK
  plain : Bool

def tkOf : TypeDesc → TK
  | .bool => .bool
  | .int k => .int k
  | .string => .str
  | .pointer e => .ptr e
  | .slice e => .slice e
  | .array n e => .array n e
  | .struct fs => .struct (fs.toList.map fun f => (f.offset, f.type))
  | .func .. => .func
  | _ => .other
def TK.agg : TK → Bool
  | .struct _ | .array _ _ => true
  | _ => false
def zcells : Option Value → Option (List Cell)
  | some v => if v.cells.toList.all Value.oneCell' then some (v.cells.toList.map vOf) else none
  | none => none
def tiOf (P : Program) (t : TypeId) : Option TI :=
  match P.info? t, P.underlying t with
  | some i, some d => some ⟨i.size, i.bytes, zcells i.zero, tkOf d, !P.eqGuardType P.depth t⟩
  | _, _ => none

structure TiSpec (P : Program) (t : TypeId) (ti : TI) (i : TypeInfo) (d : TypeDesc) : Prop where
  info : P.info? t = some i
  und : P.underlying t = some d
  size : ti.size = i.size
  bytes : ti.bytes = i.bytes
  zero : ti.zero = zcells i.zero
  kind : ti.kind = tkOf d
  plain : ti.plain = !P.eqGuardType P.depth t

theorem ti_spec {P : Program} {t : TypeId} {ti : TI} (h : tiOf P t = some ti) : ∃ i d, TiSpec P t ti i d := by
  unfold tiOf at h
  split at h
  · rename_i i d h1 h2
    obtain rfl := Option.some.inj h
    exact ⟨i, d, h1, h2, rfl, rfl, rfl, rfl, rfl⟩
  · simp at h

section
variable {P : Program} {t : TypeId} {ti : TI} {i : TypeInfo} {d : TypeDesc}
theorem TiSpec.run_underlying (h : TiSpec P t ti i d) (w : World) : (underlying t).run P w = .ok d w := by
  simp [underlying, h.und]
theorem TiSpec.run_typeInfo (h : TiSpec P t ti i d) (w : World) : (typeInfo t).run P w = .ok i w := by
  simp [typeInfo, h.info]
theorem TiSpec.run_sizeOf (h : TiSpec P t ti i d) (w : World) : (sizeOf t).run P w = .ok ti.size w := by
  simp [sizeOf, h.run_typeInfo, h.size]
theorem TiSpec.run_isAgg (h : TiSpec P t ti i d) (w : World) : (isAgg t).run P w = .ok ti.kind.agg w := by
  rw [isAgg, Sem.run_bind, h.run_underlying]
  simp only [Result.andThen_ok, h.kind]
  cases d <;> rfl
theorem TiSpec.run_zero (h : TiSpec P t ti i d) {z : List Cell} (hz : ti.zero = some z) (w : World) :
    ∃ v, (zeroValue t).run P w = .ok v w ∧ v.cells.toList.all Value.oneCell' = true ∧ z = v.cells.toList.map vOf := by
  rw [h.zero] at hz
  unfold zcells at hz
  split at hz
  · rename_i v hv
    split at hz
    · rename_i hall
      exact ⟨v, by simp [zeroValue, h.run_typeInfo, hv], hall, (Option.some.inj hz).symm⟩
    · simp at hz
  · simp at hz
end

def shiftv (op : BinOp) (k : IntKind) (a b : Int) : Option Int :=
  match op with
  | .shl => some (k.wrap (a * 2 ^ (min b.toNat k.bits)))
  | .shr => some (a.fdiv (2 ^ (min b.toNat k.bits)))
  | _ => none
def arithv (op : BinOp) (k : IntKind) (a b : Int) : Option Int :=
  match op with
  | .add => some (k.wrap (a + b))
  | .sub => some (k.wrap (a - b))
  | .mul => some (k.wrap (a * b))
  | .and => some (k.wrap (BitVec.ofInt k.bits a &&& BitVec.ofInt k.bits b).toNat)
  | .or => some (k.wrap (BitVec.ofInt k.bits a ||| BitVec.ofInt k.bits b).toNat)
  | .xor => some (k.wrap (BitVec.ofInt k.bits a ^^^ BitVec.ofInt k.bits b).toNat)
  | .andNot => some (k.wrap (BitVec.ofInt k.bits a &&& ~~~BitVec.ofInt k.bits b).toNat)
  | _ => none
def divv (op : BinOp) (k : IntKind) (a b : Int) : Option Int :=
  match op with
  | .quo => some (k.wrap (a.tdiv b))
  | .rem => some (a.tmod b)
  | _ => none
def cmpv (op : BinOp) (a b : Int) : Option Bool :=
  match op with
  | .eql => some (a == b)
  | .neq => some (a != b)
  | .lss => some (decide (a < b))
  | .leq => some (decide (a ≤ b))
  | .gtr => some (decide (a > b))
  | .geq => some (decide (a ≥ b))
  | _ => none
def strv (op : BinOp) (x y : ByteArray) : Option Bool :=
  match op with
  | .eql => some (x.toList == y.toList)
  | .neq => some (!(x.toList == y.toList))
  | .lss => some (Op.bytesLess x.toList y.toList)
  | .leq => some (Op.bytesLess x.toList y.toList || x.toList == y.toList)
  | .gtr => some (!(Op.bytesLess x.toList y.toList || x.toList == y.toList))
  | .geq => some (!(Op.bytesLess x.toList y.toList))
  | _ => none
/-- Is it nil? -/
def isNilP : Cell → Option Bool
  | .nilp => some true
  | .ptr _ _ => some false
  | .rop _ => some false
  | _ => none
def isNilS : Cell → Option Bool
  | .nils => some true
  | .ro n _ => bif Nat.beq n 0 then none else some false
  | .slc _ _ n _ => bif Nat.beq n 0 then none else some false
  | _ => none
def isNilF : Cell → Option Bool
  | .nilf => some true
  | .fn _ _ => some false
  | _ => none
def eqv (op : BinOp) (b : Bool) : Option Bool :=
  match op with
  | .eql => some b
  | .neq => some (!b)
  | _ => none

def intsOf : List Cell → List Int
  | [] => []
  | .int _ n :: r => n :: intsOf r
  | _ :: r => 0 :: intsOf r
def allInt (k : IntKind) : List Cell → Bool
  | [] => true
  | .int k' _ :: r => k == k' && allInt k r
  | _ :: _ => false

/-- What a binary operation of two cells comes to, and what it asks. -/
def binC (op : BinOp) (tk : TK) (x y : Cell) (K : Cell → Prop) : Prop :=
  match x, y with
  | .int k a, .int k' b =>
    match shiftv op k a b with
    | some r => 0 ≤ b ∧ K (.int k r)
    | none => k = k' ∧ match arithv op k a b with
      | some r => K (.int k r)
      | none => match divv op k a b with
        | some r => b ≠ 0 ∧ K (.int k r)
        | none => match cmpv op a b with
          | some r => K (.bool r)
          | none => False
  | .bool a, .bool b => match tk with
    | .bool => match eqv op (a == b) with
      | some r => K (.bool r)
      | none => False
    | _ => False
  | .str a, .str b => match strv op a b with
    | some r => K (.bool r)
    | none => match op with
      | .add => a.size + b.size ≤ 1073741824 ∧ K (.str (a ++ b))
      | _ => False
  | x, .nilp => match tk with
    | .ptr _ => match isNilP x with
      | some b => match eqv op b with
        | some r => K (.bool r)
        | none => False
      | none => False
    | _ => False
  | x, .nils => match tk with
    | .slice _ => match isNilS x with
      | some b => match eqv op b with
        | some r => K (.bool r)
        | none => False
      | none => False
    | _ => False
  | x, .nilf => match tk with
    | .func => match isNilF x with
      | some b => match eqv op b with
        | some r => K (.bool r)
        | none => False
      | none => False
    | _ => False
  | _, _ => False

/-- A value that an operation without memory gives. -/
def PV (P : Program) (o : Oper) (fr : List S) (s : S) : Prop :=
  ∀ (R : Rl) (a : Act) (w : World), FRel R fr a → ∃ v, (execOp a.eval o).run P w = .ok (.value v) w ∧ SRel R s v
theorem eqGuard_ok {P : Program} (op : BinOp) (t : TypeId) (x y : Operand) (v u : Value) (w : World) (h1 : ∀ cs, v ≠ .agg cs) (h2 : v ≠ .nilIface) :
    (eqGuard op t x y v u).run P w = .ok () w := by
  unfold eqGuard
  cases v <;> first
    | exact absurd rfl (h1 _)
    | exact absurd rfl h2
    | (cases op <;> rfl)

theorem binInt_sound {P : Program} (op : BinOp) (t : TypeId) (k k' : IntKind) (a b : Int) (K : Cell → Prop) (tk : TK) (w : World) (h : binC op tk (.int k a) (.int k' b) K) :
    ∃ r rv, K r ∧ (binOp op t (.int k a) (.int k' b)).run P w = .ok rv w ∧ ∀ R, CRel R r rv := by
  cases op <;> simp only [binC, shiftv, arithv, divv, cmpv] at h
  case shl => exact ⟨_, _, h.2, by simp [binOp, Op.shift, show ¬ b < 0 by omega]; rfl, fun R => by simp [CRel]⟩
  case shr => exact ⟨_, _, h.2, by simp [binOp, Op.shift, show ¬ b < 0 by omega]; rfl, fun R => by simp [CRel]⟩
  case quo =>
    obtain ⟨rfl, hb, hk⟩ := h
    exact ⟨_, _, hk, by simp [binOp, Op.intDiv, hb]; rfl, fun R => by simp [CRel]⟩
  case rem =>
    obtain ⟨rfl, hb, hk⟩ := h
    exact ⟨_, _, hk, by simp [binOp, Op.intDiv, hb]; rfl, fun R => by simp [CRel]⟩
  all_goals
    obtain ⟨rfl, hk⟩ := h
    exact ⟨_, _, hk, by simp [binOp, Op.intArith, Op.intBits, Op.intCmp]; try rfl, fun R => by simp [CRel]⟩

theorem equal_bool {P : Program} {t : TypeId} {w : World} (hd : (underlying t).run P w = .ok .bool w) (a b : Bool) : (Op.equal t (.bool a) (.bool b)).run P w = .ok (a == b) w := by
  show (Op.equalIn (9999 + 1) t (.bool a) (.bool b)).run P w = _
  rw [Op.equalIn, Sem.run_bind, hd]; rfl
theorem equal_ptr {P : Program} {t e : TypeId} {w : World} (hd : (underlying t).run P w = .ok (.pointer e) w) (a : Option Addr) : (Op.equal t (.pointer a) (.pointer none)).run P w = .ok a.isNone w := by
  show (Op.equalIn (9999 + 1) t (.pointer a) (.pointer none)).run P w = _
  rw [Op.equalIn, Sem.run_bind, hd]; cases a <;> rfl
theorem equal_slice {P : Program} {t e : TypeId} {w : World} (hd : (underlying t).run P w = .ok (.slice e) w) (a : Option Addr) (n c : Nat) : (Op.equal t (.slice a n c) (.slice none 0 0)).run P w = .ok a.isNone w := by
  show (Op.equalIn (9999 + 1) t (.slice a n c) (.slice none 0 0)).run P w = _
  rw [Op.equalIn, Sem.run_bind, hd]; cases a <;> rfl
theorem equal_nilf {P : Program} {t : TypeId} {x y : Array TypeId} {z : Bool} {w : World} (hd : (underlying t).run P w = .ok (.func x y z) w) : (Op.equal t .nilFunc .nilFunc).run P w = .ok true w := by
  show (Op.equalIn (9999 + 1) t .nilFunc .nilFunc).run P w = _
  rw [Op.equalIn, Sem.run_bind, hd]; rfl
theorem equal_func {P : Program} {t : TypeId} {x y : Array TypeId} {z : Bool} {w : World} (hd : (underlying t).run P w = .ok (.func x y z) w) (f : Fn) (a b : Array Value) : (Op.equal t (.func f a b) .nilFunc).run P w = .ok false w := by
  show (Op.equalIn (9999 + 1) t (.func f a b) .nilFunc).run P w = _
  rw [Op.equalIn, Sem.run_bind, hd]; rfl
def simpleV : Value → Bool
  | .int _ _ | .string _ | .float _ _ | .complex _ _ _ => false
  | _ => true
theorem binC_sound {P : Program} {op : BinOp} {t : TypeId} {ti : TI} (ht : tiOf P t = some ti) {x y : Cell} {K : Cell → Prop} (h : binC op ti.kind x y K) {R : Rl} {v u : Value} (hx : CRel R x v) (hy : CRel R y u)
    (ox oy : Operand) (w : World) :
    ∃ r rv, K r ∧ (do eqGuard op t ox oy v u; binOp op t v u : Sem Value).run P w = .ok rv w ∧ CRel R r rv := by
  obtain ⟨i, d, hs⟩ := ti_spec ht
  have fin : ∀ {r : Cell} {rv : Value}, K r → (∀ cs, v ≠ .agg cs) → v ≠ .nilIface → (binOp op t v u).run P w = .ok rv w → CRel R r rv →
      ∃ r rv, K r ∧ (do eqGuard op t ox oy v u; binOp op t v u : Sem Value).run P w = .ok rv w ∧ CRel R r rv := fun k h1 h2 h3 h4 =>
    ⟨_, _, k, by rw [Sem.run_bind, eqGuard_ok op t ox oy v u w h1 h2]; simpa using h3, h4⟩
  have eqs : ∀ {b : Bool} {r : Bool}, (Op.equal t v u).run P w = .ok b w → eqv op b = some r → simpleV v = true → (binOp op t v u).run P w = .ok (.bool r) w := by
    intro b r h1 h2 h3
    cases op <;> simp only [eqv] at h2 <;> try (cases h2; done)
    all_goals
      obtain rfl := Option.some.inj h2
      cases v <;> cases u <;> first
        | (simp [simpleV] at h3; done)
        | simp [binOp, h1]
  cases x <;> cases y <;> (try (simp only [binC] at h; done))
  case int.int k a k' b =>
    simp only [CRel] at hx hy
    subst hx; subst hy
    obtain ⟨r, rv, h1, h2, h3⟩ := binInt_sound (P := P) op t k k' a b K ti.kind w h
    exact fin h1 (by simp) (by simp) h2 (h3 R)
  case bool.bool a b =>
    simp only [CRel] at hx hy
    subst hx; subst hy
    simp only [binC] at h
    split at h
    · rename_i hk
      have hd : d = .bool := by rw [hs.kind] at hk; cases d <;> simp [tkOf] at hk; rfl
      split at h
      · rename_i r hr
        have he : (Op.equal t (.bool a) (.bool b)).run P w = .ok (a == b) w := by
          have := hs.run_underlying w
          rw [hd] at this
          exact equal_bool this a b
        exact fin h (by simp) (by simp) (eqs he hr rfl) (by simp [CRel])
      · exact h.elim
    · exact h.elim
  case str.str a b =>
    simp only [CRel] at hx hy
    subst hx; subst hy
    simp only [binC] at h
    split at h
    · rename_i r hr
      refine fin h (by simp) (by simp) ?_ (show CRel R (.bool r) (.bool r) by simp [CRel])
      cases op <;> simp only [strv] at hr <;> try (cases hr; done)
      all_goals (obtain rfl := Option.some.inj hr; simp [binOp, Op.stringOp])
    · split at h
      · refine fin h.2 (by simp) (by simp) ?_ (show CRel R (.str (a ++ b)) (.string (a ++ b)) by simp [CRel])
        have : ¬ (((a.size + b.size : Nat) : Int) > IntKind.i64.max) := by
          simp only [IntKind.max, IntKind.signed, IntKind.bits]
          have := h.1
          simp
          omega
        simp only [binOp, Op.stringOp]
        rw [if_neg this]
        rfl
      · exact h.elim
  case ro.nils n cs =>
    simp only [binC] at h
    split at h
    · rename_i hk
      split at h
      · rename_i b hb
        split at h
        · rename_i r hr
          have hn : n ≠ 0 ∧ b = false := by
            simp only [isNilS] at hb
            cases hb' : Nat.beq n 0 with
            | true => rw [hb'] at hb; cases hb
            | false =>
              refine ⟨fun e => ?_, ?_⟩
              · rw [e] at hb'; cases hb'
              · rw [hb', cond_false] at hb; exact (Option.some.inj hb).symm
          obtain ⟨hn, rfl⟩ := hn
          simp only [CRel] at hx hy
          subst hy
          have hd := hs.run_underlying w
          rw [hs.kind] at hk
          cases d <;> (try (simp only [tkOf] at hk; done)) <;> (try (exact absurd hk TK.noConfusion))
          obtain ⟨a, c, rfl, h1, h2, h3⟩ := hx
          cases a with
          | none => exact absurd (h2 rfl) hn
          | some a => exact fin h (by simp) (by simp) (eqs (equal_slice hd _ _ _) hr rfl) (by simp [CRel])
        · exact h.elim
      · exact h.elim
    · exact h.elim
  case slc.nils p q n sz =>
    simp only [binC] at h
    split at h
    · rename_i hk
      split at h
      · rename_i b hb
        split at h
        · rename_i r hr
          have hn : n ≠ 0 ∧ b = false := by
            simp only [isNilS] at hb
            cases hb' : Nat.beq n 0 with
            | true => rw [hb'] at hb; cases hb
            | false =>
              refine ⟨fun e => ?_, ?_⟩
              · rw [e] at hb'; cases hb'
              · rw [hb', cond_false] at hb; exact (Option.some.inj hb).symm
          obtain ⟨hn, rfl⟩ := hn
          simp only [CRel] at hx hy
          subst hy
          have hd := hs.run_underlying w
          rw [hs.kind] at hk
          cases d <;> (try (simp only [tkOf] at hk; done)) <;> (try (exact absurd hk TK.noConfusion))
          obtain ⟨hp, a, c, rfl, h1, h2⟩ := hx
          rcases h2 with ⟨rfl, _⟩ | h2
          · exact fin h (by simp) (by simp) (eqs (equal_slice hd _ _ _) hr rfl) (by simp [CRel])
          · omega
        · exact h.elim
      · exact h.elim
    · exact h.elim
  all_goals
    simp only [binC] at h
    split at h
    · rename_i hk
      split at h
      · rename_i b hb
        split at h
        · rename_i r hr
          simp only [isNilP, isNilS, isNilF, Option.some.injEq, reduceCtorEq] at hb
          all_goals
            subst hb
            simp only [CRel] at hx hy
            have hd := hs.run_underlying w
            rw [hs.kind] at hk
            cases d <;> (try (simp only [tkOf] at hk; done)) <;> (try (exact absurd hk TK.noConfusion))
            first
              | (subst hx; subst hy; exact fin h (by simp) (by simp) (eqs (equal_ptr hd _) hr rfl) (by simp [CRel]))
              | (obtain ⟨_, rfl⟩ := hx; subst hy; exact fin h (by simp) (by simp) (eqs (equal_ptr hd _) hr rfl) (by simp [CRel]))
              | (obtain ⟨_, _, rfl, _⟩ := hx; subst hy; exact fin h (by simp) (by simp) (eqs (equal_ptr hd _) hr rfl) (by simp [CRel]))
              | (subst hx; subst hy; exact fin h (by simp) (by simp) (eqs (equal_slice hd _ _ _) hr rfl) (by simp [CRel]))
                | (subst hx; subst hy; exact fin h (by simp) (by simp) (eqs (equal_nilf hd) hr rfl) (by simp [CRel]))
              | (obtain ⟨_, rfl, _⟩ := hx; subst hy; exact fin h (by simp) (by simp) (eqs (equal_func hd _ _ _) hr rfl) (by simp [CRel]))
        · exact h.elim
      · exact h.elim
    · exact h.elim
end Go.Abs

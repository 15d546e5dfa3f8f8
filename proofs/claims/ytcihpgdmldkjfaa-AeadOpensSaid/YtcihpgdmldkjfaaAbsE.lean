/- The abstract machine: the operations that look at no memory. -/
import Derived.Test.YtcihpgdmldkjfaaAbsD
namespace Go.Abs
open Go

def intAt (cs : List Cell) (i : Nat) : Int :=
  match cs[i]? with
  | some (.int _ n) => n
  | _ => 0
def isInt (k : IntKind) (cs : List Cell) (i : Nat) : Prop := cs[i]? = some (.int k (intAt cs i))

abbrev sc (x : Cell) : S := .v (.c x)
abbrev sa (xs : List Cell) : S := .v (.a xs)

/-- One part of an aggregate. -/
def partA (ti : TI) (xs : List Cell) (off : Nat) (K : S → Prop) : Prop :=
  if ti.kind.agg then K (sa ((xs.drop off).take ti.size))
  else match ti.kind with
    | .int k => isInt k xs off ∧ K (sc (.int k (intAt xs off)))
    | _ => match xs[off]? with
      | some c => K (sc c)
      | none => False

def caps (fr : List S) : List Operand → Option (List Cell)
  | [] => some []
  | x :: r => match ev fr x, caps fr r with
    | .v (.c .undef), _ => none
    | .v (.c c), some cs => some (c :: cs)
    | _, _ => none

def optI (fr : List S) : Option Operand → Option (Option Int)
  | none => some none
  | some x => match ev fr x with
    | .v (.c (.int _ n)) => some (some n)
    | _ => none

/-- Bounds of a slice expression: low, high. -/
def bnds (len : Nat) (lo hi mx : Option Int) (K : Nat → Nat → Prop) : Prop :=
  let h : Int := hi.getD len
  let l : Int := lo.getD 0
  match mx with
  | none => 0 ≤ l ∧ l ≤ h ∧ h ≤ len ∧ K l.toNat h.toNat
  | some m => match hi with
    | none => False
    | some _ => 0 ≤ l ∧ l ≤ h ∧ h ≤ m ∧ m ≤ len ∧ K l.toNat h.toNat

def pstep (P : Program) (op : Op) (fr : List S) (K : S → Prop) : Prop :=
  match op with
  | .move x | .assign x => K (ev fr x)
  | .pick c a b => match ev fr c with
    | .v (.c (.bool t)) => K (if t then ev fr a else ev fr b)
    | _ => False
  | .nilCheck x => match ev fr x with
    | .v (.c (.ptr p o)) => K (sc (.ptr p o))
    | .v (.c (.rop cs)) => K (sc (.rop cs))
    | .v (.c (.fn f cs)) => K (sc (.fn f cs))
    | _ => False
  | .binOp op xt x y _ => match tiOf P xt with
    | some ti => match ev fr x, ev fr y with
      | .v (.c a), .v (.c b) => binC op ti.kind a b (fun r => K (sc r))
      | _, _ => False
    | none => False
  | .unOp op _ x => match op, ev fr x with
    | .not, .v (.c (.bool b)) => K (sc (.bool !b))
    | .neg, .v (.c (.int k n)) => K (sc (.int k (k.wrap (0 - n))))
    | .xor, .v (.c (.int k n)) => match arithv .xor k (if k.signed then -1 else k.max) n with
      | some r => K (sc (.int k r))
      | none => False
    | _, _ => False
  | .convert src dst x => match tiOf P src, tiOf P dst with
    | some si, some di => match di.kind, ev fr x with
      | .int k, .v (.c (.int _ n)) => match si.kind with
        | .int _ => K (sc (.int k (k.wrap n)))
        | _ => False
      | .str, .v (.c (.str s)) => match si.kind with
        | .str => K (sc (.str s))
        | _ => False
      | _, _ => False
    | _, _ => False
  | .fieldAddr s x f => match tiOf P s with
    | some ti => match ti.kind with
      | .struct fs => match fs[f]? with
        | some (off, ft) => match tiOf P ft with
          | some fti => fti.size ≠ 0 ∧ match ev fr x with
            | .v (.c (.ptr p o)) => K (sc (.ptr p (o + off)))
            | .v (.c (.rop cs)) => K (sc (.rop (cs.drop off)))
            | _ => False
          | none => False
        | none => False
      | _ => False
    | none => False
  | .field s x f => match tiOf P s with
    | some ti => match ti.kind with
      | .struct fs => match fs[f]? with
        | some (off, ft) => match tiOf P ft with
          | some fti => match ev fr x with
            | .v (.a xs) => partA fti xs off K
            | _ => False
          | none => False
        | none => False
      | _ => False
    | none => False
  | .indexAddr t x ix => match ev fr ix, tiOf P t with
    | .v (.c (.int _ i)), some ti => match ti.kind, ev fr x with
      | .array n e, .v (.c (.ptr p o)) => match tiOf P e with
        | some ei => 0 ≤ i ∧ i < n ∧ K (sc (.ptr p (o + i.toNat * ei.size)))
        | none => False
      | .array n e, .v (.c (.rop cs)) => match tiOf P e with
        | some ei => 0 ≤ i ∧ i < n ∧ K (sc (.rop (cs.drop (i.toNat * ei.size))))
        | none => False
      | .slice e, .v (.c (.slc p o n _)) => match tiOf P e with
        | some ei => 0 ≤ i ∧ i < n ∧ K (sc (.ptr p (o + i.toNat * ei.size)))
        | none => False
      | .slice e, .v (.c (.ro n cs)) => match tiOf P e with
        | some ei => 0 ≤ i ∧ i < n ∧ i.toNat * ei.size < cs.length ∧ K (sc (.rop (cs.drop (i.toNat * ei.size))))
        | none => False
      | _, _ => False
    | _, _ => False
  | .index t x ix => match ev fr ix, tiOf P t with
    | .v (.c (.int _ i)), some ti => match ti.kind, ev fr x with
      | .array n e, .v (.a xs) => match tiOf P e with
        | some ei => 0 ≤ i ∧ i < n ∧ partA ei xs (i.toNat * ei.size) K
        | none => False
      | .str, .v (.c (.str s)) => 0 ≤ i ∧ i < s.size ∧ K (sc (.int .u8 ((s.data.getD i.toNat 0).toNat)))
      | _, _ => False
    | _, _ => False
  | .extract t i => match ev fr t with
    | .t xs => match xs[i]? with
      | some x => K (.v x)
      | none => False
    | _ => False
  | .makeFunc (.func f) first cap => match first.toList, caps fr cap.toList with
    | [], some cs => K (sc (.fn f cs))
    | _, _ => False
  | .sliceToArrayPointer t x => match tiOf P t with
    | some ti => match ti.kind, ev fr x with
      | .array n _, .v (.c (.slc p o len _)) => n ≤ len ∧ 0 < n ∧ K (sc (.ptr p o))
      | .array n _, .v (.c (.ro len cs)) => n ≤ len ∧ 0 < n ∧ cs ≠ [] ∧ K (sc (.rop cs))
      | _, _ => False
    | none => False
  | .slice t x lo hi mx => match tiOf P t, optI fr lo, optI fr hi, optI fr mx with
    | some ti, some l, some h, some m => match ti.kind, ev fr x with
      | .str, .v (.c (.str s)) => m = none ∧ bnds s.size l h none fun l h => K (sc (.str (s.extract l h)))
      | .slice e, .v (.c (.slc p o n sz)) => match tiOf P e with
        | some ei => sz = ei.size ∧ bnds n l h m fun l h => K (sc (.slc p (o + l * sz) (h - l) sz))
        | none => False
      | .slice e, .v (.c (.ro n cs)) => match tiOf P e with
        | some ei => bnds n l h m fun l h => K (sc (.ro (h - l) ((cs.drop (l * ei.size)).take ((h - l) * ei.size))))
        | none => False
      | .slice e, .v (.c .nils) => match tiOf P e with
        | some _ => bnds 0 l h m fun _ _ => K (sc .nils)
        | none => False
      | .array n e, .v (.c (.rop cs)) => match tiOf P e with
        | some ei => bnds n l h m fun l h => K (sc (.ro (h - l) ((cs.drop (l * ei.size)).take ((h - l) * ei.size))))
        | none => False
      | _, _ => False
    | _, _, _, _ => False
  | .call ⟨.builtin .len, args, ats⟩ => match args.toList, ats.toList with
    | [x], [t] => match tiOf P t with
      | some ti => match ti.kind, ev fr x with
        | .str, .v (.c (.str s)) => K (sc (.int .i64 s.size))
        | .slice _, .v (.c (.slc _ _ n _)) => K (sc (.int .i64 n))
        | .slice _, .v (.c (.ro n _)) => K (sc (.int .i64 n))
        | .slice _, .v (.c .nils) => K (sc (.int .i64 0))
        | .array n _, _ => K (sc (.int .i64 n))
        | _, _ => False
      | none => False
    | _, _ => False
  | .call ⟨.builtin .min, args, _⟩ => match args.toList with
    | [x, y] => match ev fr x, ev fr y with
      | .v (.c (.int k a)), .v (.c (.int _ b)) => K (sc (.int k (if b < a then b else a)))
      | _, _ => False
    | _ => False
  | .call ⟨.builtin .max, args, _⟩ => match args.toList with
    | [x, y] => match ev fr x, ev fr y with
      | .v (.c (.int k a)), .v (.c (.int _ b)) => K (sc (.int k (if b > a then b else a)))
      | _, _ => False
    | _ => False
  | _ => False
end Go.Abs

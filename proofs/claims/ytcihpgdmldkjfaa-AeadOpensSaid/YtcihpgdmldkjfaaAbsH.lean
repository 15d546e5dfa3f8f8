/- The abstract machine: operations that look at memory, or write it. -/
import Derived.Test.YtcihpgdmldkjfaaAbsG
namespace Go.Abs
open Go

/-- A function, called with these arguments over this memory, returns this and leaves that memory; nothing else is touched. -/
def Good (P : Program) (k : FuncId) (args : List V) (H : Heap) (v : S) (H' : Heap) : Prop :=
  H.length ≤ H'.length ∧ (∃ fn, P.funcs[k]? = some fn ∧ fn.body.isSome = true ∧ (fn.name == "runtime.NumGoroutine") = false) ∧ ∀ (E : Env) (ρ : Nat → Place) (w : World) (rargs : List Value), E.Ok → E.w0 = w →
    (∀ b, E.img b ↔ ∃ p cs, H[p]? = some (some cs) ∧ (ρ p).room ≠ 0 ∧ (ρ p).blk = b) → HRel E ρ w H → VsRel (E.rl H.length ρ) args rargs →
    Calls P k rargs.toArray w fun e w' => ∃ rv ρ', e = .returned rv ∧ (∀ p, p < H.length → ρ' p = ρ p) ∧ HRel E ρ' w' H' ∧ SRel (E.rl H'.length ρ') v rv

def joinH (H : Heap) (p : Nat) : Option (List Cell) :=
  match H[p]? with
  | some (some cs) => some cs
  | _ => none

/-- How the caller's words become the callee's. -/
def cin (π : List Nat) (lend : Bool) (H : Heap) : CM := ⟨fun p => idx p π, fun p => if lend then joinH H p else none, true, lend⟩
/-- How the callee's words become the caller's. -/
def cout (π : List Nat) (lend : Bool) (n : Nat) : CM := ⟨fun j => match π[j]? with | some p => some p | none => some (n + (j - π.length)), fun _ => none, !lend, false⟩

def pbk (π : List Nat) (f : Cell → Cell) (Hl : Heap) (p : Nat) (b : Option (List Cell)) : Option (List Cell) :=
  match idx p π with
  | some j => pick Hl f j
  | none => b
def putB (π : List Nat) (f : Cell → Cell) (Hl : Heap) : Nat → Heap → Heap
  | _, [] => []
  | p, b :: r => pbk π f Hl p b :: putB π f Hl (p + 1) r

def picks (f : Cell → Cell) : Heap → Heap
  | [] => []
  | some cs :: r => some (cs.map f) :: picks f r
  | none :: r => none :: picks f r

def back (π : List Nat) (f : Cell → Cell) (H Hl : Heap) : Heap := putB π f Hl 0 H ++ picks f (Hl.drop π.length)

def argVs (fr : List S) : List Operand → Option (List V)
  | [] => some []
  | x :: r => match ev fr x, argVs fr r with
    | .v y, some ys => some (y :: ys)
    | _, _ => none


/-- A function without a body that the model stands in for: what it answers. -/
def Ext (P : Program) (k : FuncId) (args : List V) (v : S) : Prop :=
  ∀ (R : Rl) (w : World) (rargs : List Value), VsRel R args rargs → ∃ rv, (callFunc k rargs.toArray).run P w = .ok (.value rv) w ∧ SRel R v rv
def callO (P : Program) (fr : List S) (H : Heap) (f : Operand) (args : Array Operand) (K : S → Heap → Prop) : Prop :=
  match ev fr f, argVs fr args.toList with
  | .v (.c (.fn k cap)), some avs => (∃ (π : List Nat) (lend : Bool) (v : S) (Hl' : Heap), π.Nodup ∧ (∀ p ∈ π, p < H.length) ∧
      Good P k ((avs ++ cap.map V.c).map (vm (cm (cin π lend H) 8))) (π.map (pick H (cm (cin π lend H) 8))) v Hl' ∧
        K (sm (cm (cout π lend H.length) 8) v) (back π (cm (cout π lend H.length) 8) H Hl')) ∨ (cap = [] ∧ ∃ v, Ext P k avs v ∧ K v H)
  | _, _ => False

/-- An operation leads from (fr, H) to value s and memory H', whatever the real state is. -/
def OpG (P : Program) (o : Oper) (fr : List S) (H : Heap) (s : S) (H' : Heap) : Prop :=
  H.length ≤ H'.length ∧ ∀ (E : Env) (ρ : Nat → Place) (a : Act) (w : World), E.Ok → Sim E ρ ⟨fr, H⟩ a w →
    ∀ (K : Act → World → Prop) (Q : Exit → Act → World → Prop),
      (∀ v w' ρ', (∀ p, p < H.length → ρ' p = ρ p) → HRel E ρ' w' H' → SRel (E.rl H'.length ρ') s v → K (a.put o.dst v) w') → o.wp P a w K Q

/-- An operation that only looks. -/
def OpR (P : Program) (o : Oper) (fr : List S) (H : Heap) (s : S) : Prop :=
  ∀ (E : Env) (ρ : Nat → Place) (a : Act) (w : World), E.Ok → Sim E ρ ⟨fr, H⟩ a w → ∃ v, (execOp a.eval o).run P w = .ok (.value v) w ∧ SRel (E.rl H.length ρ) s v
theorem opg_opr {P : Program} {o : Oper} {fr : List S} {H : Heap} {s : S} (h : OpR P o fr H s) : OpG P o fr H s H := by
  refine ⟨Nat.le_refl _, fun E ρ a w hE hs K Q hK => ?_⟩
  obtain ⟨v, h1, h2⟩ := h E ρ a w hE hs
  unfold Oper.wp
  rw [h1]
  exact hK v w ρ (fun _ _ => rfl) hs.heap h2
theorem opr_pv {P : Program} {o : Oper} {fr : List S} {s : S} (H : Heap) (h : PV P o fr s) : OpR P o fr H s := fun _ _ a w _ hs => h _ a w hs.fr

theorem opg_pv {P : Program} {o : Oper} {fr : List S} {s : S} (H : Heap) (h : PV P o fr s) : OpG P o fr H s H := by
  refine ⟨Nat.le_refl _, fun E ρ a w hE hs K Q hK => ?_⟩
  obtain ⟨v, h1, h2⟩ := h _ a w hs.fr
  unfold Oper.wp
  rw [h1]
  exact hK v w ρ (fun _ _ => rfl) hs.heap h2

/-- The same, told by the run. -/
theorem opg_run {P : Program} {o : Oper} {fr : List S} {H H' : Heap} {s : S} (hl : H.length ≤ H'.length)
    (h : ∀ (E : Env) (ρ : Nat → Place) (a : Act) (w : World), E.Ok → Sim E ρ ⟨fr, H⟩ a w →
      ∃ v w' ρ', ((execOp a.eval o).run P w = .ok (.value v) w' ∨ ((execOp a.eval o).run P w = .ok .skip w' ∧ v = undef)) ∧ (∀ p, p < H.length → ρ' p = ρ p) ∧ HRel E ρ' w' H' ∧ SRel (E.rl H'.length ρ') s v) :
    OpG P o fr H s H' := by
  refine ⟨hl, fun E ρ a w hE hs K Q hK => ?_⟩
  obtain ⟨v, w', ρ', h1, h2, h3, h4⟩ := h E ρ a w hE hs
  unfold Oper.wp
  rcases h1 with h1 | ⟨h1, rfl⟩
  · rw [h1]; exact hK v w' ρ' h2 h3 h4
  · rw [h1]; exact hK undef w' ρ' h2 h3 h4

def cellsV : S → Option (List Cell)
  | .v (.c .undef) => none
  | .v (.c c) => some [c]
  | .v (.a xs) => some xs
  | .t _ => none

def splice (cs : List Cell) (q : Nat) (xs : List Cell) : List Cell := cs.take q ++ (xs ++ cs.drop (q + xs.length))

def wrV (cs : List Cell) (q : Nat) : S → List Cell
  | .v (.c c) => cs.set q c
  | .v (.a xs) => splice cs q xs
  | _ => cs

def fillK (fr : List S) (place : Nat → Option (Nat × Nat)) (K : List Cell → Prop) : List Cell → List (Nat × Operand) → Prop
  | cells, [] => K cells
  | cells, (i, x) :: r => match place i, cellsV (ev fr x) with
    | some (off, size), some cs => cs.length = size ∧ off + size ≤ cells.length ∧ fillK fr place K (wrV cells off (ev fr x)) r
    | _, _ => False

def bytesOf : List Cell → List UInt8
  | [] => []
  | .int _ n :: r => UInt8.ofNat n.toNat :: bytesOf r
  | _ :: r => 0 :: bytesOf r

/-- Cells of one kind of integer. -/
def mapc {α : Type} (k : IntKind) (g : α → Int) (l : List α) : List Cell := l.map fun a => .int k (g a)
abbrev u8s (l : List UInt8) : List Cell := mapc .u8 (fun b : UInt8 => (b.toNat : Int)) l

def rep (n : Nat) : List Cell → List Cell
  | [z] => List.replicate n z
  | zs => (List.replicate n zs).flatten

/-- The elements of what is appended or copied. -/
def elems (H : Heap) (esz : Nat) (s : S) (K : Nat → List Cell → Prop) : Prop :=
  match s with
  | .v (.c .nils) => K 0 []
  | .v (.c (.str s)) => esz = 1 ∧ K s.size (u8s s.data.toList)
  | .v (.c (.ro n cs)) => cs.length = n * esz ∧ K n cs
  | .v (.c (.slc p q n sz)) => match H[p]? with
    | some (some cs) => sz = esz ∧ q + n * esz ≤ cs.length ∧ K n ((cs.drop q).take (n * esz))
    | _ => False
  | _ => False

def kill (H : Heap) : S → Heap
  | .v (.c (.slc p _ _ _)) => H.set p none
  | _ => H

/-- What a load gives. -/
def loadR (P : Program) (fr : List S) (H : Heap) (t : TypeId) (x : Operand) (K : S → Prop) : Prop :=
  match tiOf P t with
  | some ti => match ti.kind.agg, ev fr x with
    | true, .v (.c (.ptr p q)) => match H[p]? with
      | some (some cs) => 0 < ti.size ∧ q + ti.size ≤ cs.length ∧ K (sa ((cs.drop q).take ti.size))
      | _ => False
    | true, .v (.c (.rop cs)) => 0 < ti.size ∧ ti.size ≤ cs.length ∧ K (sa (cs.take ti.size))
    | false, .v (.c (.ptr p q)) => match H[p]? with
      | some (some cs) => match ti.kind with
        | .int k => isInt k cs q ∧ K (sc (.int k (intAt cs q)))
        | _ => match cs[q]? with
          | some c => K (sc c)
          | none => False
      | _ => False
    | false, .v (.c (.rop cs)) => match ti.kind with
      | .int k => isInt k cs 0 ∧ K (sc (.int k (intAt cs 0)))
      | _ => match cs[0]? with
        | some c => K (sc c)
        | none => False
    | _, _ => False
  | none => False

/-- Where a struct's part lies. -/
def placeS (P : Program) (fs : List (Nat × Nat)) (i : Nat) : Option (Nat × Nat) :=
  match fs[i]? with
  | some (off, ft) => (tiOf P ft).map fun fi => (off, fi.size)
  | none => none

def ostep (P : Program) (o : Oper) (fr : List S) (H : Heap) (K : S → Heap → Prop) : Prop :=
  match o.op with
  | .alloc t => match tiOf P t with
    | some ti => match ti.zero with
      | some z => K (sc (.ptr H.length 0)) (H ++ [some z])
      | none => False
    | none => False
  | .box _ x => match cellsV (ev fr x) with
    | some cs => K (sc (.ptr H.length 0)) (H ++ [some cs])
    | none => False
  | .build t parts => match tiOf P t with
    | some ti => match ti.zero, ti.kind with
      | some z, .array _ e => match tiOf P e with
        | some ei => fillK fr (fun i => some (i * ei.size, ei.size)) (fun cs => K (sa cs) H) z parts.toList
        | none => False
      | some z, .struct fs => (fs.all fun f => (tiOf P f.2).isSome) = true ∧ fillK fr (placeS P fs) (fun cs => K (sa cs) H) z parts.toList
      | _, _ => False
    | none => False
  | .buildSlice t len parts => match tiOf P t with
    | some ti => match ti.kind with
      | .slice e => match tiOf P e with
        | some ei => match ei.zero with
          | some z => z.length = ei.size ∧ len * ei.size ≤ 16777216 ∧ fillK fr (fun i => some (i * ei.size, ei.size)) (fun cs => K (sc (.slc H.length 0 len ei.size)) (H ++ [some cs])) (rep len z) parts.toList
          | none => False
        | none => False
      | _ => False
    | none => False
  | .load t x => loadR P fr H t x fun s => K s H
  | .store t x y => match tiOf P t with
    | some ti => match ev fr x with
      | .v (.c (.ptr p q)) => match H[p]? with
        | some (some cs) => match cellsV (ev fr y) with
          | some ds => ds.length = ti.size ∧ 0 < ti.size ∧ q + ti.size ≤ cs.length ∧ K ud (H.set p (some (wrV cs q (ev fr y))))
          | none => False
        | _ => False
      | _ => False
    | none => False
  | .makeSlice t l c => match tiOf P t with
    | some ti => match ti.kind, ev fr l, ev fr c with
      | .slice e, .v (.c (.int .i64 n)), .v (.c (.int .i64 m)) => match tiOf P e with
        | some ei => match ei.zero with
          | some z => z.length = ei.size ∧ 0 < ei.size ∧ n = m ∧ 0 ≤ n ∧ n ≤ 281474976710656 ∧ ei.bytes * n ≤ 281474976710656 ∧ K (sc (.slc H.length 0 n.toNat ei.size)) (H ++ [some (rep n.toNat z)])
          | none => False
        | none => False
      | _, _, _ => False
    | none => False
  | .convert src dst x => match tiOf P src, tiOf P dst with
    | some si, some di => match si.kind, di.kind, ev fr x with
      | .slice e, .str, .v (.c (.slc p q n sz)) => match tiOf P e, H[p]? with
        | some ei, some (some cs) => match ei.kind with
          | .int .u8 => sz = 1 ∧ q + n ≤ cs.length ∧ allInt .u8 ((cs.drop q).take n) = true ∧ K (sc (.str ⟨(bytesOf ((cs.drop q).take n)).toArray⟩)) H
          | _ => False
        | _, _ => False
      | .slice e, .str, .v (.c (.ro n cs)) => match tiOf P e with
        | some ei => match ei.kind with
          | .int .u8 => cs.length = n ∧ allInt .u8 cs = true ∧ K (sc (.str ⟨(bytesOf cs).toArray⟩)) H
          | _ => False
        | none => False
      | .slice e, .str, .v (.c .nils) => match tiOf P e with
        | some ei => match ei.kind with
          | .int .u8 => K (sc (.str ⟨#[]⟩)) H
          | _ => False
        | none => False
      | .str, .slice e, .v (.c (.str s)) => match tiOf P e with
        | some ei => match ei.kind with
          | .int .u8 => ei.size = 1 ∧ K (sc (.slc H.length 0 s.size 1)) (H ++ [some (u8s s.data.toList)])
          | _ => False
        | none => False
      | .slice e, .slice _, .v (.c (.slc p q n sz)) => match tiOf P e, H[p]? with
        | some ei, some (some _) => match ei.kind with
          | .int .u8 => src = dst ∧ sz = 1 ∧ 0 < n ∧ K (sc (.slc p q n sz)) H
          | _ => False
        | _, _ => False
      | _, _, _ => pstep P o.op fr fun s => K s H
    | _, _ => False
  | .slice t x lo hi mx => match ev fr x with
    | .v (.c (.ptr p q)) => match tiOf P t, optI fr lo, optI fr hi, optI fr mx, H[p]? with
      | some ti, some l, some h, some m, some (some cs) => match ti.kind with
        | .array n e => match tiOf P e with
          | some ei => 0 < ei.size ∧ q + n * ei.size ≤ cs.length ∧ bnds n l h m fun l h => K (sc (.slc p (q + l * ei.size) (h - l) ei.size)) H
          | none => False
        | _ => False
      | _, _, _, _, _ => False
    | _ => pstep P o.op fr fun s => K s H
  | .binOp op xt x y _ => match ev fr x, ev fr y with
    | .v (.a xs), .v (.a ys) => match tiOf P xt with
      | some ti => match ti.kind with
        | .array n e => match tiOf P e with
          | some ei => match ei.kind, eqv op (decide (intsOf xs = intsOf ys)) with
            | .int k, some r => ti.plain = true ∧ ei.size = 1 ∧ allInt k xs = true ∧ allInt k ys = true ∧ xs.length = n ∧ ys.length = n ∧ K (sc (.bool r)) H
            | _, _ => False
          | none => False
        | _ => False
      | none => False
    | _, _ => pstep P o.op fr fun s => K s H
  | .call c => match c.callee with
    | .builtin .append => match c.args.toList, c.argTypes.toList with
      | [s, x], [t, t'] => match tiOf P t, tiOf P t' with
        | some ti, some ti' => match ti.kind, ti'.kind with
          | _, .int _ => False
          | .slice e, _ => match tiOf P e with
            | some ei => match ei.zero with
              | some z => 0 < ei.bytes ∧ 0 < ei.size ∧ z.length = ei.size ∧ elems H ei.size (ev fr s) fun n cs => elems H ei.size (ev fr x) fun m ds =>
                  (2 * (n + m) + 192) * ei.bytes ≤ 281474976710656 ∧ n + m ≤ 281474976710656 ∧
                  match ev fr s with
                  | .v (.c (.slc _ _ _ _)) | .v (.c .nils) => K (sc (.slc H.length 0 (n + m) ei.size)) (kill H (ev fr s) ++ [some (cs ++ ds)])
                  | _ => False
              | none => False
            | none => False
          | _, _ => False
        | _, _ => False
      | _, _ => False
    | .builtin .copy => match c.args.toList, c.argTypes.toList with
      | [d, x], [t, _] => match tiOf P t with
        | some ti => match ti.kind with
          | .slice e => match tiOf P e with
            | some ei => match ev fr d with
              | .v (.c (.slc p q n sz)) => match H[p]? with
                | some (some cs) => sz = ei.size ∧ q + n * sz ≤ cs.length ∧ elems H ei.size (ev fr x) fun m ds =>
                    K (sc (.int .i64 (min m n : Nat))) (H.set p (some (splice cs q (ds.take (min m n * sz)))))
                | _ => False
              | _ => False
            | none => False
          | _ => False
        | none => False
      | _, _ => False
    | .builtin _ => pstep P o.op fr fun s => K s H
    | .value f => callO P fr H f c.args K
    | _ => False
  | _ => pstep P o.op fr fun s => K s H
end Go.Abs

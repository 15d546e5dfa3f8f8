/-
  No cell of these rows narrows 'for every input' (looked for: loops, veiled, ifaces, maps, wideKeys, modest, calm, conditions, laid).
  DERIVED. THE GIVEN ROWS OF THIS SEAT. 4 by the template 'for every input the law returns true; each argument reads behind the call as it read before'; 0 by the template 'total and deterministic' (their statements: YthompdmdlackoaaTotals.lean).
  GIVEN WITH THE SEED: the statements are not yours to turn. If you find one false, say at which input.
  Laid BY PROGRAM, IN A SANDBOX (cutbox-rows.mjs): the forced cells as the released guide's own fill.sh prints them over the translation 801ae0222c0035ab… (all of the seat's roots in one cut). By AI agents, Wed Nov 11 2026. No macro, syntax, notation, axiom, sorry.
-/
import Derived.Test.YthompdmdlackoaaChecked
import GoSem.Claim
import GoSem.ClaimJoined
import GoSem.ClaimMapViews
import Derived.JoinedTies
import Derived.KernelRfl
namespace Go.Proofs.Ythompdmdlackoaa
/- THE CELL 'sum', in the pinned program and in every row, IS THE sha256 OF THE DUMP (.gsa) THAT YthompdmdlackoaaProg.lean LOADS. Nothing in Lean hashes anything: it is a label: what it is worth is what the hold of that sum in a sandbox is worth. -/
noncomputable def Try.pinned : Pinned := { name := "ythompdmdlackoaa", sum := "801ae0222c0035abd066bc4c685683588818d24f84dd97aedf7c36676d69c267", checked := Try.checked }
namespace Rows
def none {H : Type} : Left H := { results := [], args := [] }

/-- 'escutcheonlaw09.PolyTags': WHATEVER THE INPUT: true; the input reads as it did. -/
def polyTagsSpec : ChangeSpec := { name := "polyTags", fn := fun _ => fun
  | [d1, d2, d3] => { results := [.lit (.bool true)], args := [d1, d2, d3] }
  | _ => none }
def polyTagsRow : OpenClaim := { program := "ythompdmdlackoaa", sum := "801ae0222c0035abd066bc4c685683588818d24f84dd97aedf7c36676d69c267", func := "escutcheon/escutcheonlaw09.PolyTags", spec := "polyTags", inPlace := ["math/bits.Add64", "math/bits.Sub64"], apart := false }
def PolyTagsSaid : Prop := polyTagsRow.holds Try.pinned (OpenSpec.ofChange polyTagsSpec)

/-- ITS FALSE NEIGHBOUR: 'it returns false'. Refute it at one input. -/
def polyTagsWrong : ChangeSpec := { name := "polyTags", fn := fun _ => fun
  | [d1, d2, d3] => { results := [.lit (.bool false)], args := [d1, d2, d3] }
  | _ => none }
def PolyTagsWrongFalsely : Prop := polyTagsRow.holds Try.pinned (OpenSpec.ofChange polyTagsWrong)

/-- 'escutcheonlaw09.PolyNoughts': WHATEVER THE INPUT: true; the input reads as it did. -/
def polyNoughtsSpec : ChangeSpec := { name := "polyNoughts", fn := fun _ => fun
  | [d1, d2] => { results := [.lit (.bool true)], args := [d1, d2] }
  | _ => none }
def polyNoughtsRow : OpenClaim := { program := "ythompdmdlackoaa", sum := "801ae0222c0035abd066bc4c685683588818d24f84dd97aedf7c36676d69c267", func := "escutcheon/escutcheonlaw09.PolyNoughts", spec := "polyNoughts", inPlace := ["math/bits.Add64", "math/bits.Sub64"], apart := false }
def PolyNoughtsSaid : Prop := polyNoughtsRow.holds Try.pinned (OpenSpec.ofChange polyNoughtsSpec)

/-- ITS FALSE NEIGHBOUR: 'it returns false'. Refute it at one input. -/
def polyNoughtsWrong : ChangeSpec := { name := "polyNoughts", fn := fun _ => fun
  | [d1, d2] => { results := [.lit (.bool false)], args := [d1, d2] }
  | _ => none }
def PolyNoughtsWrongFalsely : Prop := polyNoughtsRow.holds Try.pinned (OpenSpec.ofChange polyNoughtsWrong)

/-- 'escutcheonlaw09.PolySums': WHATEVER THE INPUT: true; the input reads as it did. -/
def polySumsSpec : ChangeSpec := { name := "polySums", fn := fun _ => fun
  | [d1, d2, d3] => { results := [.lit (.bool true)], args := [d1, d2, d3] }
  | _ => none }
def polySumsRow : OpenClaim := { program := "ythompdmdlackoaa", sum := "801ae0222c0035abd066bc4c685683588818d24f84dd97aedf7c36676d69c267", func := "escutcheon/escutcheonlaw09.PolySums", spec := "polySums", inPlace := ["math/bits.Add64", "math/bits.Sub64"], apart := false }
def PolySumsSaid : Prop := polySumsRow.holds Try.pinned (OpenSpec.ofChange polySumsSpec)

/-- ITS FALSE NEIGHBOUR: 'it returns false'. Refute it at one input. -/
def polySumsWrong : ChangeSpec := { name := "polySums", fn := fun _ => fun
  | [d1, d2, d3] => { results := [.lit (.bool false)], args := [d1, d2, d3] }
  | _ => none }
def PolySumsWrongFalsely : Prop := polySumsRow.holds Try.pinned (OpenSpec.ofChange polySumsWrong)

/-- 'escutcheonlaw09.PolyEqual': WHATEVER THE INPUT: true; the input reads as it did. -/
def polyEqualSpec : ChangeSpec := { name := "polyEqual", fn := fun _ => fun
  | [d1, d2] => { results := [.lit (.bool true)], args := [d1, d2] }
  | _ => none }
def polyEqualRow : OpenClaim := { program := "ythompdmdlackoaa", sum := "801ae0222c0035abd066bc4c685683588818d24f84dd97aedf7c36676d69c267", func := "escutcheon/escutcheonlaw09.PolyEqual", spec := "polyEqual", inPlace := ["math/bits.Add64", "math/bits.Sub64"], apart := false }
def PolyEqualSaid : Prop := polyEqualRow.holds Try.pinned (OpenSpec.ofChange polyEqualSpec)

/-- ITS FALSE NEIGHBOUR: 'it returns false'. Refute it at one input. -/
def polyEqualWrong : ChangeSpec := { name := "polyEqual", fn := fun _ => fun
  | [d1, d2] => { results := [.lit (.bool false)], args := [d1, d2] }
  | _ => none }
def PolyEqualWrongFalsely : Prop := polyEqualRow.holds Try.pinned (OpenSpec.ofChange polyEqualWrong)

/- THE SECOND FORM. 'bulk': how many values and letters a reading holds, each counted each time it is reached (what is shared counts as often as it is met; a slice's spare places count too). A statement '..UptoSaid' is the law's where the arguments, and the package variables that the reading takes, are together of bulk at most 1048576: NARROWER than '..Said'. Prove '..Said' where nothing that the law and all that it calls make is longer than what came in: it says more and counts as full. Else prove '..UptoSaid'. A law counts once. -/
mutual
def uptoBulk {H : Type} : DataW H → Nat
  | .lit (.string bytes) => bytes.length + 1
  | .lit _ => 1
  | .nil => 1
  | .ptr d => uptoBulk d + 1
  | .slice elems spare => uptoBulkAll elems + uptoBulkAll spare + 1
  | .agg parts => uptoBulkAll parts + 1
  | .iface _ d => uptoBulk d + 1
  | .map entries => uptoBulkEntries entries + 1
  | .held _ => 1
def uptoBulkAll {H : Type} : List (DataW H) → Nat
  | [] => 0
  | d :: r => uptoBulk d + uptoBulkAll r
def uptoBulkEntries {H : Type} : List (Lit × DataW H) → Nat
  | [] => 0
  | x :: r => uptoBulkEntry x + uptoBulkEntries r
def uptoBulkEntry {H : Type} : Lit × DataW H → Nat
  | (.string bytes, d) => bytes.length + uptoBulk d + 1
  | (_, d) => uptoBulk d + 1
 end
def uptoSmall : (H : Type) → List (DataW H) → Bool := fun _ ds => decide (uptoBulkAll ds ≤ 1048576)
def OpenSpec.upto (s : _root_.Go.ChangeSpec) : _root_.Go.OpenSpec := { _root_.Go.OpenSpec.ofChange s with cond := some uptoSmall }

/-- 'escutcheonlaw09.PolyTags', WHERE WHAT IT READS IS OF BULK AT MOST 1048576: true; the input reads as it did. -/
def polyTagsUptoRow : OpenClaim := { program := "ythompdmdlackoaa", sum := "801ae0222c0035abd066bc4c685683588818d24f84dd97aedf7c36676d69c267", func := "escutcheon/escutcheonlaw09.PolyTags", spec := "polyTags", inPlace := ["math/bits.Add64", "math/bits.Sub64"], apart := false, narrowed := true }
def PolyTagsUptoSaid : Prop := polyTagsUptoRow.holds Try.pinned (OpenSpec.upto polyTagsSpec)

/-- 'escutcheonlaw09.PolyNoughts', WHERE WHAT IT READS IS OF BULK AT MOST 1048576: true; the input reads as it did. -/
def polyNoughtsUptoRow : OpenClaim := { program := "ythompdmdlackoaa", sum := "801ae0222c0035abd066bc4c685683588818d24f84dd97aedf7c36676d69c267", func := "escutcheon/escutcheonlaw09.PolyNoughts", spec := "polyNoughts", inPlace := ["math/bits.Add64", "math/bits.Sub64"], apart := false, narrowed := true }
def PolyNoughtsUptoSaid : Prop := polyNoughtsUptoRow.holds Try.pinned (OpenSpec.upto polyNoughtsSpec)

/-- 'escutcheonlaw09.PolySums', WHERE WHAT IT READS IS OF BULK AT MOST 1048576: true; the input reads as it did. -/
def polySumsUptoRow : OpenClaim := { program := "ythompdmdlackoaa", sum := "801ae0222c0035abd066bc4c685683588818d24f84dd97aedf7c36676d69c267", func := "escutcheon/escutcheonlaw09.PolySums", spec := "polySums", inPlace := ["math/bits.Add64", "math/bits.Sub64"], apart := false, narrowed := true }
def PolySumsUptoSaid : Prop := polySumsUptoRow.holds Try.pinned (OpenSpec.upto polySumsSpec)

/-- 'escutcheonlaw09.PolyEqual', WHERE WHAT IT READS IS OF BULK AT MOST 1048576: true; the input reads as it did. -/
def polyEqualUptoRow : OpenClaim := { program := "ythompdmdlackoaa", sum := "801ae0222c0035abd066bc4c685683588818d24f84dd97aedf7c36676d69c267", func := "escutcheon/escutcheonlaw09.PolyEqual", spec := "polyEqual", inPlace := ["math/bits.Add64", "math/bits.Sub64"], apart := false, narrowed := true }
def PolyEqualUptoSaid : Prop := polyEqualUptoRow.holds Try.pinned (OpenSpec.upto polyEqualSpec)

end Rows
end Go.Proofs.Ythompdmdlackoaa

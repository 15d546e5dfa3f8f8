/-
  No cell of these rows narrows 'for every input' (looked for: loops, veiled, ifaces, maps, wideKeys, modest, calm, conditions, laid).
  DERIVED. THE GIVEN ROWS OF THIS SEAT. 4 by the template 'for every input the law returns true; each argument reads behind the call as it read before'; 0 by the template 'total and deterministic' (their statements: YtlidpcjinillfaaTotals.lean).
  GIVEN WITH THE SEED: the statements are not yours to turn. If you find one false, say at which input.
  Laid BY PROGRAM, IN A SANDBOX (cutbox-rows.mjs): the forced cells as the released guide's own fill.sh prints them over the translation af0032375c3402f8… (all of the seat's roots in one cut). By AI agents, Wed Nov 11 2026. No macro, syntax, notation, axiom, sorry.
-/
import Derived.Test.YtlidpcjinillfaaChecked
import GoSem.Claim
import GoSem.ClaimJoined
import GoSem.ClaimMapViews
import Derived.JoinedTies
import Derived.KernelRfl
namespace Go.Proofs.Ytlidpcjinillfaa
/- THE CELL 'sum', in the pinned program and in every row, IS THE sha256 OF THE DUMP (.gsa) THAT YtlidpcjinillfaaProg.lean LOADS. Nothing in Lean hashes anything: it is a label: what it is worth is what the hold of that sum in a sandbox is worth. -/
noncomputable def Try.pinned : Pinned := { name := "ytlidpcjinillfaa", sum := "af0032375c3402f831952d9f642371d9a5692d6202f8ce28a8fc24975b61d272", checked := Try.checked }
namespace Rows
def none {H : Type} : Left H := { results := [], args := [] }

/-- 'escutcheonlaw04.LadderMuls': WHATEVER THE INPUT: true; the input reads as it did. -/
def ladderMulsSpec : ChangeSpec := { name := "ladderMuls", fn := fun _ => fun
  | [d1, d2] => { results := [.lit (.bool true)], args := [d1, d2] }
  | _ => none }
def ladderMulsRow : OpenClaim := { program := "ytlidpcjinillfaa", sum := "af0032375c3402f831952d9f642371d9a5692d6202f8ce28a8fc24975b61d272", func := "escutcheon/escutcheonlaw04.LadderMuls", spec := "ladderMuls", inPlace := ["math/bits.Sub64", "math/bits.Add64"], recurses := true, apart := false }
def LadderMulsSaid : Prop := ladderMulsRow.holds Try.pinned (OpenSpec.ofChange ladderMulsSpec)

/-- ITS FALSE NEIGHBOUR: 'it returns false'. Refute it at one input. -/
def ladderMulsWrong : ChangeSpec := { name := "ladderMuls", fn := fun _ => fun
  | [d1, d2] => { results := [.lit (.bool false)], args := [d1, d2] }
  | _ => none }
def LadderMulsWrongFalsely : Prop := ladderMulsRow.holds Try.pinned (OpenSpec.ofChange ladderMulsWrong)

/-- 'escutcheonlaw04.LadderMeets': WHATEVER THE INPUT: true; the input reads as it did. -/
def ladderMeetsSpec : ChangeSpec := { name := "ladderMeets", fn := fun _ => fun
  | [d1, d2] => { results := [.lit (.bool true)], args := [d1, d2] }
  | _ => none }
def ladderMeetsRow : OpenClaim := { program := "ytlidpcjinillfaa", sum := "af0032375c3402f831952d9f642371d9a5692d6202f8ce28a8fc24975b61d272", func := "escutcheon/escutcheonlaw04.LadderMeets", spec := "ladderMeets", inPlace := ["math/bits.Sub64", "math/bits.Add64"], recurses := true, apart := false }
def LadderMeetsSaid : Prop := ladderMeetsRow.holds Try.pinned (OpenSpec.ofChange ladderMeetsSpec)

/-- ITS FALSE NEIGHBOUR: 'it returns false'. Refute it at one input. -/
def ladderMeetsWrong : ChangeSpec := { name := "ladderMeets", fn := fun _ => fun
  | [d1, d2] => { results := [.lit (.bool false)], args := [d1, d2] }
  | _ => none }
def LadderMeetsWrongFalsely : Prop := ladderMeetsRow.holds Try.pinned (OpenSpec.ofChange ladderMeetsWrong)

/-- 'escutcheonlaw04.LadderTurns': WHATEVER THE INPUT: true; the input reads as it did. -/
def ladderTurnsSpec : ChangeSpec := { name := "ladderTurns", fn := fun _ => fun
  | [d1, d2, d3, d4] => { results := [.lit (.bool true)], args := [d1, d2, d3, d4] }
  | _ => none }
def ladderTurnsRow : OpenClaim := { program := "ytlidpcjinillfaa", sum := "af0032375c3402f831952d9f642371d9a5692d6202f8ce28a8fc24975b61d272", func := "escutcheon/escutcheonlaw04.LadderTurns", spec := "ladderTurns", inPlace := ["math/bits.Sub64", "math/bits.Add64"], apart := false }
def LadderTurnsSaid : Prop := ladderTurnsRow.holds Try.pinned (OpenSpec.ofChange ladderTurnsSpec)

/-- ITS FALSE NEIGHBOUR: 'it returns false'. Refute it at one input. -/
def ladderTurnsWrong : ChangeSpec := { name := "ladderTurns", fn := fun _ => fun
  | [d1, d2, d3, d4] => { results := [.lit (.bool false)], args := [d1, d2, d3, d4] }
  | _ => none }
def LadderTurnsWrongFalsely : Prop := ladderTurnsRow.holds Try.pinned (OpenSpec.ofChange ladderTurnsWrong)

/-- 'escutcheonlaw04.LadderLow': WHATEVER THE INPUT: true; the input reads as it did. -/
def ladderLowSpec : ChangeSpec := { name := "ladderLow", fn := fun _ => fun
  | [d1, d2] => { results := [.lit (.bool true)], args := [d1, d2] }
  | _ => none }
def ladderLowRow : OpenClaim := { program := "ytlidpcjinillfaa", sum := "af0032375c3402f831952d9f642371d9a5692d6202f8ce28a8fc24975b61d272", func := "escutcheon/escutcheonlaw04.LadderLow", spec := "ladderLow", inPlace := ["math/bits.Sub64", "math/bits.Add64"], apart := false }
def LadderLowSaid : Prop := ladderLowRow.holds Try.pinned (OpenSpec.ofChange ladderLowSpec)

/-- ITS FALSE NEIGHBOUR: 'it returns false'. Refute it at one input. -/
def ladderLowWrong : ChangeSpec := { name := "ladderLow", fn := fun _ => fun
  | [d1, d2] => { results := [.lit (.bool false)], args := [d1, d2] }
  | _ => none }
def LadderLowWrongFalsely : Prop := ladderLowRow.holds Try.pinned (OpenSpec.ofChange ladderLowWrong)

/- THE SECOND FORM. 'bulk': how many values and letters a reading holds, each counted each time it is reached (what is shared counts as often as it is met; a slice's spare places count too). A statement '..UptoSaid' is the law's where the arguments, and the package variables that the reading takes, are together of bulk at most 1048576: NARROWER than '..Said'. Prove '..Said' where nothing that the law and all that it calls make is longer than what came in: it says more and counts as full. Else prove '..UptoSaid'. A law counts once. -/
mutual
def uptoBulk {H : Type} : DataW H → Nat
  | .lit (.string bytes) => bytes.length + 1
  | .lit _ => 1
  | .nil => 1
  | .ptr d => uptoBulk d + 1
  | .slice elems spare => uptoBulkAll elems + uptoBulkAll spare + 1
  | .agg parts => uptoBulkAll parts + 1
  | .iface _ d => uptoBulk d + 1
  | .map entries => uptoBulkEntries entries + 1
  | .held _ => 1
def uptoBulkAll {H : Type} : List (DataW H) → Nat
  | [] => 0
  | d :: r => uptoBulk d + uptoBulkAll r
def uptoBulkEntries {H : Type} : List (Lit × DataW H) → Nat
  | [] => 0
  | x :: r => uptoBulkEntry x + uptoBulkEntries r
def uptoBulkEntry {H : Type} : Lit × DataW H → Nat
  | (.string bytes, d) => bytes.length + uptoBulk d + 1
  | (_, d) => uptoBulk d + 1
 end
def uptoSmall : (H : Type) → List (DataW H) → Bool := fun _ ds => decide (uptoBulkAll ds ≤ 1048576)
def OpenSpec.upto (s : _root_.Go.ChangeSpec) : _root_.Go.OpenSpec := { _root_.Go.OpenSpec.ofChange s with cond := some uptoSmall }

/-- 'escutcheonlaw04.LadderMuls', WHERE WHAT IT READS IS OF BULK AT MOST 1048576: true; the input reads as it did. -/
def ladderMulsUptoRow : OpenClaim := { program := "ytlidpcjinillfaa", sum := "af0032375c3402f831952d9f642371d9a5692d6202f8ce28a8fc24975b61d272", func := "escutcheon/escutcheonlaw04.LadderMuls", spec := "ladderMuls", inPlace := ["math/bits.Sub64", "math/bits.Add64"], recurses := true, apart := false, narrowed := true }
def LadderMulsUptoSaid : Prop := ladderMulsUptoRow.holds Try.pinned (OpenSpec.upto ladderMulsSpec)

/-- 'escutcheonlaw04.LadderMeets', WHERE WHAT IT READS IS OF BULK AT MOST 1048576: true; the input reads as it did. -/
def ladderMeetsUptoRow : OpenClaim := { program := "ytlidpcjinillfaa", sum := "af0032375c3402f831952d9f642371d9a5692d6202f8ce28a8fc24975b61d272", func := "escutcheon/escutcheonlaw04.LadderMeets", spec := "ladderMeets", inPlace := ["math/bits.Sub64", "math/bits.Add64"], recurses := true, apart := false, narrowed := true }
def LadderMeetsUptoSaid : Prop := ladderMeetsUptoRow.holds Try.pinned (OpenSpec.upto ladderMeetsSpec)

/-- 'escutcheonlaw04.LadderTurns', WHERE WHAT IT READS IS OF BULK AT MOST 1048576: true; the input reads as it did. -/
def ladderTurnsUptoRow : OpenClaim := { program := "ytlidpcjinillfaa", sum := "af0032375c3402f831952d9f642371d9a5692d6202f8ce28a8fc24975b61d272", func := "escutcheon/escutcheonlaw04.LadderTurns", spec := "ladderTurns", inPlace := ["math/bits.Sub64", "math/bits.Add64"], apart := false, narrowed := true }
def LadderTurnsUptoSaid : Prop := ladderTurnsUptoRow.holds Try.pinned (OpenSpec.upto ladderTurnsSpec)

/-- 'escutcheonlaw04.LadderLow', WHERE WHAT IT READS IS OF BULK AT MOST 1048576: true; the input reads as it did. -/
def ladderLowUptoRow : OpenClaim := { program := "ytlidpcjinillfaa", sum := "af0032375c3402f831952d9f642371d9a5692d6202f8ce28a8fc24975b61d272", func := "escutcheon/escutcheonlaw04.LadderLow", spec := "ladderLow", inPlace := ["math/bits.Sub64", "math/bits.Add64"], apart := false, narrowed := true }
def LadderLowUptoSaid : Prop := ladderLowUptoRow.holds Try.pinned (OpenSpec.upto ladderLowSpec)

end Rows
end Go.Proofs.Ytlidpcjinillfaa

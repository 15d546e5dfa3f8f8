/-
  No cell of these rows narrows 'for every input' (looked for: loops, veiled, ifaces, maps, wideKeys, modest, calm, conditions, laid).
  DERIVED. THE GIVEN ROWS OF THIS SEAT. 5 by the template 'for every input the law returns true; each argument reads behind the call as it read before'; 0 by the template 'total and deterministic' (their statements: YtlnepajgnckolaaTotals.lean).
  GIVEN WITH THE SEED: the statements are not yours to turn. If you find one false, say at which input.
  Laid BY PROGRAM, IN A SANDBOX (cutbox-rows.mjs): the forced cells as the released guide's own fill.sh prints them over the translation b639f5e116335f6d… (all of the seat's roots in one cut). By AI agents, Wed Nov 11 2026. No macro, syntax, notation, axiom, sorry.
-/
import Derived.Test.YtlnepajgnckolaaChecked
import GoSem.Claim
import GoSem.ClaimJoined
import GoSem.ClaimMapViews
import Derived.JoinedTies
import Derived.KernelRfl
namespace Go.Proofs.Ytlnepajgnckolaa
/- THE CELL 'sum', in the pinned program and in every row, IS THE sha256 OF THE DUMP (.gsa) THAT YtlnepajgnckolaaProg.lean LOADS. Nothing in Lean hashes anything: it is a label: what it is worth is what the hold of that sum in a sandbox is worth. -/
noncomputable def Try.pinned : Pinned := { name := "ytlnepajgnckolaa", sum := "b639f5e116335f6d47a6b43848ecbeed83dc8180c0df4a050a4745b9a5c2d5d1", checked := Try.checked }
namespace Rows
def none {H : Type} : Left H := { results := [], args := [] }

/-- 'escutcheonlaw16.CipherPlays': WHATEVER THE INPUT: true; the input reads as it did. -/
def cipherPlaysSpec : ChangeSpec := { name := "cipherPlays", fn := fun _ => fun
  | [d1, d2, d3] => { results := [.lit (.bool true)], args := [d1, d2, d3] }
  | _ => none }
def cipherPlaysRow : OpenClaim := { program := "ytlnepajgnckolaa", sum := "b639f5e116335f6d47a6b43848ecbeed83dc8180c0df4a050a4745b9a5c2d5d1", func := "escutcheon/escutcheonlaw16.CipherPlays", spec := "cipherPlays", inPlace := ["math/bits.Add64", "math/bits.Sub64"], unfollowed := true, recurses := true, apart := false }
def CipherPlaysSaid : Prop := cipherPlaysRow.holds Try.pinned (OpenSpec.ofChange cipherPlaysSpec)

/-- ITS FALSE NEIGHBOUR: 'it returns false'. Refute it at one input. -/
def cipherPlaysWrong : ChangeSpec := { name := "cipherPlays", fn := fun _ => fun
  | [d1, d2, d3] => { results := [.lit (.bool false)], args := [d1, d2, d3] }
  | _ => none }
def CipherPlaysWrongFalsely : Prop := cipherPlaysRow.holds Try.pinned (OpenSpec.ofChange cipherPlaysWrong)

/-- 'escutcheonlaw16.StateTwins': WHATEVER THE INPUT: true; the input reads as it did. -/
def stateTwinsSpec : ChangeSpec := { name := "stateTwins", fn := fun _ => fun
  | [d1, d2, d3] => { results := [.lit (.bool true)], args := [d1, d2, d3] }
  | _ => none }
def stateTwinsRow : OpenClaim := { program := "ytlnepajgnckolaa", sum := "b639f5e116335f6d47a6b43848ecbeed83dc8180c0df4a050a4745b9a5c2d5d1", func := "escutcheon/escutcheonlaw16.StateTwins", spec := "stateTwins", inPlace := ["math/bits.Add64", "math/bits.Sub64"], unfollowed := true, recurses := true, apart := false }
def StateTwinsSaid : Prop := stateTwinsRow.holds Try.pinned (OpenSpec.ofChange stateTwinsSpec)

/-- ITS FALSE NEIGHBOUR: 'it returns false'. Refute it at one input. -/
def stateTwinsWrong : ChangeSpec := { name := "stateTwins", fn := fun _ => fun
  | [d1, d2, d3] => { results := [.lit (.bool false)], args := [d1, d2, d3] }
  | _ => none }
def StateTwinsWrongFalsely : Prop := stateTwinsRow.holds Try.pinned (OpenSpec.ofChange stateTwinsWrong)

/-- 'escutcheonlaw16.CipherApart': WHATEVER THE INPUT: true; the input reads as it did. -/
def cipherApartSpec : ChangeSpec := { name := "cipherApart", fn := fun _ => fun
  | [d1, d2, d3] => { results := [.lit (.bool true)], args := [d1, d2, d3] }
  | _ => none }
def cipherApartRow : OpenClaim := { program := "ytlnepajgnckolaa", sum := "b639f5e116335f6d47a6b43848ecbeed83dc8180c0df4a050a4745b9a5c2d5d1", func := "escutcheon/escutcheonlaw16.CipherApart", spec := "cipherApart", inPlace := ["math/bits.Add64", "math/bits.Sub64"], unfollowed := true, recurses := true, apart := false }
def CipherApartSaid : Prop := cipherApartRow.holds Try.pinned (OpenSpec.ofChange cipherApartSpec)

/-- ITS FALSE NEIGHBOUR: 'it returns false'. Refute it at one input. -/
def cipherApartWrong : ChangeSpec := { name := "cipherApart", fn := fun _ => fun
  | [d1, d2, d3] => { results := [.lit (.bool false)], args := [d1, d2, d3] }
  | _ => none }
def CipherApartWrongFalsely : Prop := cipherApartRow.holds Try.pinned (OpenSpec.ofChange cipherApartWrong)

/-- 'escutcheonlaw16.StatePlays': WHATEVER THE INPUT: true; the input reads as it did. -/
def statePlaysSpec : ChangeSpec := { name := "statePlays", fn := fun _ => fun
  | [d1, d2] => { results := [.lit (.bool true)], args := [d1, d2] }
  | _ => none }
def statePlaysRow : OpenClaim := { program := "ytlnepajgnckolaa", sum := "b639f5e116335f6d47a6b43848ecbeed83dc8180c0df4a050a4745b9a5c2d5d1", func := "escutcheon/escutcheonlaw16.StatePlays", spec := "statePlays", inPlace := ["math/bits.Add64", "math/bits.Sub64"], unfollowed := true, recurses := true, apart := false }
def StatePlaysSaid : Prop := statePlaysRow.holds Try.pinned (OpenSpec.ofChange statePlaysSpec)

/-- ITS FALSE NEIGHBOUR: 'it returns false'. Refute it at one input. -/
def statePlaysWrong : ChangeSpec := { name := "statePlays", fn := fun _ => fun
  | [d1, d2] => { results := [.lit (.bool false)], args := [d1, d2] }
  | _ => none }
def StatePlaysWrongFalsely : Prop := statePlaysRow.holds Try.pinned (OpenSpec.ofChange statePlaysWrong)

/-- 'escutcheonlaw16.CipherNil': WHATEVER THE INPUT: true; the input reads as it did. -/
def cipherNilSpec : ChangeSpec := { name := "cipherNil", fn := fun _ => fun
  | [] => { results := [.lit (.bool true)], args := [] }
  | _ => none }
def cipherNilRow : OpenClaim := { program := "ytlnepajgnckolaa", sum := "b639f5e116335f6d47a6b43848ecbeed83dc8180c0df4a050a4745b9a5c2d5d1", func := "escutcheon/escutcheonlaw16.CipherNil", spec := "cipherNil", inPlace := ["math/bits.Add64", "math/bits.Sub64"], unfollowed := true, recurses := true, apart := false }
def CipherNilSaid : Prop := cipherNilRow.holds Try.pinned (OpenSpec.ofChange cipherNilSpec)

/-- ITS FALSE NEIGHBOUR: 'it returns false'. Refute it at one input. -/
def cipherNilWrong : ChangeSpec := { name := "cipherNil", fn := fun _ => fun
  | [] => { results := [.lit (.bool false)], args := [] }
  | _ => none }
def CipherNilWrongFalsely : Prop := cipherNilRow.holds Try.pinned (OpenSpec.ofChange cipherNilWrong)

/- THE SECOND FORM. 'bulk': how many values and letters a reading holds, each counted each time it is reached (what is shared counts as often as it is met; a slice's spare places count too). A statement '..UptoSaid' is the law's where the arguments, and the package variables that the reading takes, are together of bulk at most 1048576: NARROWER than '..Said'. Prove '..Said' where nothing that the law and all that it calls make is longer than what came in: it says more and counts as full. Else prove '..UptoSaid'. A law counts once. -/
mutual
def uptoBulk {H : Type} : DataW H → Nat
  | .lit (.string bytes) => bytes.length + 1
  | .lit _ => 1
  | .nil => 1
  | .ptr d => uptoBulk d + 1
  | .slice elems spare => uptoBulkAll elems + uptoBulkAll spare + 1
  | .agg parts => uptoBulkAll parts + 1
  | .iface _ d => uptoBulk d + 1
  | .map entries => uptoBulkEntries entries + 1
  | .held _ => 1
def uptoBulkAll {H : Type} : List (DataW H) → Nat
  | [] => 0
  | d :: r => uptoBulk d + uptoBulkAll r
def uptoBulkEntries {H : Type} : List (Lit × DataW H) → Nat
  | [] => 0
  | x :: r => uptoBulkEntry x + uptoBulkEntries r
def uptoBulkEntry {H : Type} : Lit × DataW H → Nat
  | (.string bytes, d) => bytes.length + uptoBulk d + 1
  | (_, d) => uptoBulk d + 1
 end
def uptoSmall : (H : Type) → List (DataW H) → Bool := fun _ ds => decide (uptoBulkAll ds ≤ 1048576)
def OpenSpec.upto (s : _root_.Go.ChangeSpec) : _root_.Go.OpenSpec := { _root_.Go.OpenSpec.ofChange s with cond := some uptoSmall }

/-- 'escutcheonlaw16.CipherPlays', WHERE WHAT IT READS IS OF BULK AT MOST 1048576: true; the input reads as it did. -/
def cipherPlaysUptoRow : OpenClaim := { program := "ytlnepajgnckolaa", sum := "b639f5e116335f6d47a6b43848ecbeed83dc8180c0df4a050a4745b9a5c2d5d1", func := "escutcheon/escutcheonlaw16.CipherPlays", spec := "cipherPlays", inPlace := ["math/bits.Add64", "math/bits.Sub64"], unfollowed := true, recurses := true, apart := false, narrowed := true }
def CipherPlaysUptoSaid : Prop := cipherPlaysUptoRow.holds Try.pinned (OpenSpec.upto cipherPlaysSpec)

/-- 'escutcheonlaw16.StateTwins', WHERE WHAT IT READS IS OF BULK AT MOST 1048576: true; the input reads as it did. -/
def stateTwinsUptoRow : OpenClaim := { program := "ytlnepajgnckolaa", sum := "b639f5e116335f6d47a6b43848ecbeed83dc8180c0df4a050a4745b9a5c2d5d1", func := "escutcheon/escutcheonlaw16.StateTwins", spec := "stateTwins", inPlace := ["math/bits.Add64", "math/bits.Sub64"], unfollowed := true, recurses := true, apart := false, narrowed := true }
def StateTwinsUptoSaid : Prop := stateTwinsUptoRow.holds Try.pinned (OpenSpec.upto stateTwinsSpec)

/-- 'escutcheonlaw16.CipherApart', WHERE WHAT IT READS IS OF BULK AT MOST 1048576: true; the input reads as it did. -/
def cipherApartUptoRow : OpenClaim := { program := "ytlnepajgnckolaa", sum := "b639f5e116335f6d47a6b43848ecbeed83dc8180c0df4a050a4745b9a5c2d5d1", func := "escutcheon/escutcheonlaw16.CipherApart", spec := "cipherApart", inPlace := ["math/bits.Add64", "math/bits.Sub64"], unfollowed := true, recurses := true, apart := false, narrowed := true }
def CipherApartUptoSaid : Prop := cipherApartUptoRow.holds Try.pinned (OpenSpec.upto cipherApartSpec)

/-- 'escutcheonlaw16.StatePlays', WHERE WHAT IT READS IS OF BULK AT MOST 1048576: true; the input reads as it did. -/
def statePlaysUptoRow : OpenClaim := { program := "ytlnepajgnckolaa", sum := "b639f5e116335f6d47a6b43848ecbeed83dc8180c0df4a050a4745b9a5c2d5d1", func := "escutcheon/escutcheonlaw16.StatePlays", spec := "statePlays", inPlace := ["math/bits.Add64", "math/bits.Sub64"], unfollowed := true, recurses := true, apart := false, narrowed := true }
def StatePlaysUptoSaid : Prop := statePlaysUptoRow.holds Try.pinned (OpenSpec.upto statePlaysSpec)

/-- 'escutcheonlaw16.CipherNil', WHERE WHAT IT READS IS OF BULK AT MOST 1048576: true; the input reads as it did. -/
def cipherNilUptoRow : OpenClaim := { program := "ytlnepajgnckolaa", sum := "b639f5e116335f6d47a6b43848ecbeed83dc8180c0df4a050a4745b9a5c2d5d1", func := "escutcheon/escutcheonlaw16.CipherNil", spec := "cipherNil", inPlace := ["math/bits.Add64", "math/bits.Sub64"], unfollowed := true, recurses := true, apart := false, narrowed := true }
def CipherNilUptoSaid : Prop := cipherNilUptoRow.holds Try.pinned (OpenSpec.upto cipherNilSpec)

end Rows
end Go.Proofs.Ytlnepajgnckolaa

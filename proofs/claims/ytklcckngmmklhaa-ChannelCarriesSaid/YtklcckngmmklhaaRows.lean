/-
  No cell of these rows narrows 'for every input' (looked for: loops, veiled, ifaces, maps, wideKeys, modest, calm, conditions, laid).
  DERIVED. THE GIVEN ROWS OF THIS SEAT. 5 by the template 'for every input the law returns true; each argument reads behind the call as it read before'; 0 by the template 'total and deterministic' (their statements: YtklcckngmmklhaaTotals.lean).
  GIVEN WITH THE SEED: the statements are not yours to turn. If you find one false, say at which input.
  Laid BY PROGRAM, IN A SANDBOX (cutbox-rows.mjs): the forced cells as the released guide's own fill.sh prints them over the translation 93e3c61f88d1efa1… (all of the seat's roots in one cut). By AI agents, Wed Nov 11 2026. No macro, syntax, notation, axiom, sorry.
-/
import Derived.Test.YtklcckngmmklhaaChecked
import GoSem.Claim
import GoSem.ClaimJoined
import GoSem.ClaimMapViews
import Derived.JoinedTies
import Derived.KernelRfl
namespace Go.Proofs.Ytklcckngmmklhaa
/- THE CELL 'sum', in the pinned program and in every row, IS THE sha256 OF THE DUMP (.gsa) THAT YtklcckngmmklhaaProg.lean LOADS. Nothing in Lean hashes anything: it is a label: what it is worth is what the hold of that sum in a sandbox is worth. -/
noncomputable def Try.pinned : Pinned := { name := "ytklcckngmmklhaa", sum := "93e3c61f88d1efa11e4ef8ed1c9812070fcaeca3934cab52ebd200c18f18d1a0", checked := Try.checked }
namespace Rows
def none {H : Type} : Left H := { results := [], args := [] }

/-- 'escutcheonlaw19.ChannelCarries': WHATEVER THE INPUT: true; the input reads as it did. -/
def channelCarriesSpec : ChangeSpec := { name := "channelCarries", fn := fun _ => fun
  | [d1, d2, d3, d4, d5] => { results := [.lit (.bool true)], args := [d1, d2, d3, d4, d5] }
  | _ => none }
def channelCarriesRow : OpenClaim := { program := "ytklcckngmmklhaa", sum := "93e3c61f88d1efa11e4ef8ed1c9812070fcaeca3934cab52ebd200c18f18d1a0", func := "escutcheon/escutcheonlaw19.ChannelCarries", spec := "channelCarries", inPlace := ["math/bits.Add64", "math/bits.Sub64"], unfollowed := true, recurses := true, apart := false }
def ChannelCarriesSaid : Prop := channelCarriesRow.holds Try.pinned (OpenSpec.ofChange channelCarriesSpec)

/-- ITS FALSE NEIGHBOUR: 'it returns false'. Refute it at one input. -/
def channelCarriesWrong : ChangeSpec := { name := "channelCarries", fn := fun _ => fun
  | [d1, d2, d3, d4, d5] => { results := [.lit (.bool false)], args := [d1, d2, d3, d4, d5] }
  | _ => none }
def ChannelCarriesWrongFalsely : Prop := channelCarriesRow.holds Try.pinned (OpenSpec.ofChange channelCarriesWrong)

/-- 'escutcheonlaw19.ChannelEpochs': WHATEVER THE INPUT: true; the input reads as it did. -/
def channelEpochsSpec : ChangeSpec := { name := "channelEpochs", fn := fun _ => fun
  | [d1, d2, d3, d4] => { results := [.lit (.bool true)], args := [d1, d2, d3, d4] }
  | _ => none }
def channelEpochsRow : OpenClaim := { program := "ytklcckngmmklhaa", sum := "93e3c61f88d1efa11e4ef8ed1c9812070fcaeca3934cab52ebd200c18f18d1a0", func := "escutcheon/escutcheonlaw19.ChannelEpochs", spec := "channelEpochs", inPlace := ["math/bits.Add64", "math/bits.Sub64"], unfollowed := true, recurses := true, apart := false }
def ChannelEpochsSaid : Prop := channelEpochsRow.holds Try.pinned (OpenSpec.ofChange channelEpochsSpec)

/-- ITS FALSE NEIGHBOUR: 'it returns false'. Refute it at one input. -/
def channelEpochsWrong : ChangeSpec := { name := "channelEpochs", fn := fun _ => fun
  | [d1, d2, d3, d4] => { results := [.lit (.bool false)], args := [d1, d2, d3, d4] }
  | _ => none }
def ChannelEpochsWrongFalsely : Prop := channelEpochsRow.holds Try.pinned (OpenSpec.ofChange channelEpochsWrong)

/-- 'escutcheonlaw19.ChannelPlays': WHATEVER THE INPUT: true; the input reads as it did. -/
def channelPlaysSpec : ChangeSpec := { name := "channelPlays", fn := fun _ => fun
  | [d1, d2, d3, d4] => { results := [.lit (.bool true)], args := [d1, d2, d3, d4] }
  | _ => none }
def channelPlaysRow : OpenClaim := { program := "ytklcckngmmklhaa", sum := "93e3c61f88d1efa11e4ef8ed1c9812070fcaeca3934cab52ebd200c18f18d1a0", func := "escutcheon/escutcheonlaw19.ChannelPlays", spec := "channelPlays", inPlace := ["math/bits.Add64", "math/bits.Sub64"], unfollowed := true, recurses := true, apart := false }
def ChannelPlaysSaid : Prop := channelPlaysRow.holds Try.pinned (OpenSpec.ofChange channelPlaysSpec)

/-- ITS FALSE NEIGHBOUR: 'it returns false'. Refute it at one input. -/
def channelPlaysWrong : ChangeSpec := { name := "channelPlays", fn := fun _ => fun
  | [d1, d2, d3, d4] => { results := [.lit (.bool false)], args := [d1, d2, d3, d4] }
  | _ => none }
def ChannelPlaysWrongFalsely : Prop := channelPlaysRow.holds Try.pinned (OpenSpec.ofChange channelPlaysWrong)

/-- 'escutcheonlaw19.ChannelApart': WHATEVER THE INPUT: true; the input reads as it did. -/
def channelApartSpec : ChangeSpec := { name := "channelApart", fn := fun _ => fun
  | [d1, d2, d3, d4, d5] => { results := [.lit (.bool true)], args := [d1, d2, d3, d4, d5] }
  | _ => none }
def channelApartRow : OpenClaim := { program := "ytklcckngmmklhaa", sum := "93e3c61f88d1efa11e4ef8ed1c9812070fcaeca3934cab52ebd200c18f18d1a0", func := "escutcheon/escutcheonlaw19.ChannelApart", spec := "channelApart", inPlace := ["math/bits.Add64", "math/bits.Sub64"], unfollowed := true, recurses := true, apart := false }
def ChannelApartSaid : Prop := channelApartRow.holds Try.pinned (OpenSpec.ofChange channelApartSpec)

/-- ITS FALSE NEIGHBOUR: 'it returns false'. Refute it at one input. -/
def channelApartWrong : ChangeSpec := { name := "channelApart", fn := fun _ => fun
  | [d1, d2, d3, d4, d5] => { results := [.lit (.bool false)], args := [d1, d2, d3, d4, d5] }
  | _ => none }
def ChannelApartWrongFalsely : Prop := channelApartRow.holds Try.pinned (OpenSpec.ofChange channelApartWrong)

/-- 'escutcheonlaw19.ChannelNil': WHATEVER THE INPUT: true; the input reads as it did. -/
def channelNilSpec : ChangeSpec := { name := "channelNil", fn := fun _ => fun
  | [] => { results := [.lit (.bool true)], args := [] }
  | _ => none }
def channelNilRow : OpenClaim := { program := "ytklcckngmmklhaa", sum := "93e3c61f88d1efa11e4ef8ed1c9812070fcaeca3934cab52ebd200c18f18d1a0", func := "escutcheon/escutcheonlaw19.ChannelNil", spec := "channelNil", inPlace := ["math/bits.Add64", "math/bits.Sub64"], unfollowed := true, recurses := true, apart := false }
def ChannelNilSaid : Prop := channelNilRow.holds Try.pinned (OpenSpec.ofChange channelNilSpec)

/-- ITS FALSE NEIGHBOUR: 'it returns false'. Refute it at one input. -/
def channelNilWrong : ChangeSpec := { name := "channelNil", fn := fun _ => fun
  | [] => { results := [.lit (.bool false)], args := [] }
  | _ => none }
def ChannelNilWrongFalsely : Prop := channelNilRow.holds Try.pinned (OpenSpec.ofChange channelNilWrong)

/- THE SECOND FORM. 'bulk': how many values and letters a reading holds, each counted each time it is reached (what is shared counts as often as it is met; a slice's spare places count too). A statement '..UptoSaid' is the law's where the arguments, and the package variables that the reading takes, are together of bulk at most 1048576: NARROWER than '..Said'. Prove '..Said' where nothing that the law and all that it calls make is longer than what came in: it says more and counts as full. Else prove '..UptoSaid'. A law counts once. -/
mutual
def uptoBulk {H : Type} : DataW H → Nat
  | .lit (.string bytes) => bytes.length + 1
  | .lit _ => 1
  | .nil => 1
  | .ptr d => uptoBulk d + 1
  | .slice elems spare => uptoBulkAll elems + uptoBulkAll spare + 1
  | .agg parts => uptoBulkAll parts + 1
  | .iface _ d => uptoBulk d + 1
  | .map entries => uptoBulkEntries entries + 1
  | .held _ => 1
def uptoBulkAll {H : Type} : List (DataW H) → Nat
  | [] => 0
  | d :: r => uptoBulk d + uptoBulkAll r
def uptoBulkEntries {H : Type} : List (Lit × DataW H) → Nat
  | [] => 0
  | x :: r => uptoBulkEntry x + uptoBulkEntries r
def uptoBulkEntry {H : Type} : Lit × DataW H → Nat
  | (.string bytes, d) => bytes.length + uptoBulk d + 1
  | (_, d) => uptoBulk d + 1
 end
def uptoSmall : (H : Type) → List (DataW H) → Bool := fun _ ds => decide (uptoBulkAll ds ≤ 1048576)
def OpenSpec.upto (s : _root_.Go.ChangeSpec) : _root_.Go.OpenSpec := { _root_.Go.OpenSpec.ofChange s with cond := some uptoSmall }

/-- 'escutcheonlaw19.ChannelCarries', WHERE WHAT IT READS IS OF BULK AT MOST 1048576: true; the input reads as it did. -/
def channelCarriesUptoRow : OpenClaim := { program := "ytklcckngmmklhaa", sum := "93e3c61f88d1efa11e4ef8ed1c9812070fcaeca3934cab52ebd200c18f18d1a0", func := "escutcheon/escutcheonlaw19.ChannelCarries", spec := "channelCarries", inPlace := ["math/bits.Add64", "math/bits.Sub64"], unfollowed := true, recurses := true, apart := false, narrowed := true }
def ChannelCarriesUptoSaid : Prop := channelCarriesUptoRow.holds Try.pinned (OpenSpec.upto channelCarriesSpec)

/-- 'escutcheonlaw19.ChannelEpochs', WHERE WHAT IT READS IS OF BULK AT MOST 1048576: true; the input reads as it did. -/
def channelEpochsUptoRow : OpenClaim := { program := "ytklcckngmmklhaa", sum := "93e3c61f88d1efa11e4ef8ed1c9812070fcaeca3934cab52ebd200c18f18d1a0", func := "escutcheon/escutcheonlaw19.ChannelEpochs", spec := "channelEpochs", inPlace := ["math/bits.Add64", "math/bits.Sub64"], unfollowed := true, recurses := true, apart := false, narrowed := true }
def ChannelEpochsUptoSaid : Prop := channelEpochsUptoRow.holds Try.pinned (OpenSpec.upto channelEpochsSpec)

/-- 'escutcheonlaw19.ChannelPlays', WHERE WHAT IT READS IS OF BULK AT MOST 1048576: true; the input reads as it did. -/
def channelPlaysUptoRow : OpenClaim := { program := "ytklcckngmmklhaa", sum := "93e3c61f88d1efa11e4ef8ed1c9812070fcaeca3934cab52ebd200c18f18d1a0", func := "escutcheon/escutcheonlaw19.ChannelPlays", spec := "channelPlays", inPlace := ["math/bits.Add64", "math/bits.Sub64"], unfollowed := true, recurses := true, apart := false, narrowed := true }
def ChannelPlaysUptoSaid : Prop := channelPlaysUptoRow.holds Try.pinned (OpenSpec.upto channelPlaysSpec)

/-- 'escutcheonlaw19.ChannelApart', WHERE WHAT IT READS IS OF BULK AT MOST 1048576: true; the input reads as it did. -/
def channelApartUptoRow : OpenClaim := { program := "ytklcckngmmklhaa", sum := "93e3c61f88d1efa11e4ef8ed1c9812070fcaeca3934cab52ebd200c18f18d1a0", func := "escutcheon/escutcheonlaw19.ChannelApart", spec := "channelApart", inPlace := ["math/bits.Add64", "math/bits.Sub64"], unfollowed := true, recurses := true, apart := false, narrowed := true }
def ChannelApartUptoSaid : Prop := channelApartUptoRow.holds Try.pinned (OpenSpec.upto channelApartSpec)

/-- 'escutcheonlaw19.ChannelNil', WHERE WHAT IT READS IS OF BULK AT MOST 1048576: true; the input reads as it did. -/
def channelNilUptoRow : OpenClaim := { program := "ytklcckngmmklhaa", sum := "93e3c61f88d1efa11e4ef8ed1c9812070fcaeca3934cab52ebd200c18f18d1a0", func := "escutcheon/escutcheonlaw19.ChannelNil", spec := "channelNil", inPlace := ["math/bits.Add64", "math/bits.Sub64"], unfollowed := true, recurses := true, apart := false, narrowed := true }
def ChannelNilUptoSaid : Prop := channelNilUptoRow.holds Try.pinned (OpenSpec.upto channelNilSpec)

end Rows
end Go.Proofs.Ytklcckngmmklhaa

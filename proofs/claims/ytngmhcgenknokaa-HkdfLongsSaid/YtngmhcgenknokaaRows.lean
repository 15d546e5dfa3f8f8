/-
  No cell of these rows narrows 'for every input' (looked for: loops, veiled, ifaces, maps, wideKeys, modest, calm, conditions, laid).
  DERIVED. THE GIVEN ROWS OF THIS SEAT. 4 by the template 'for every input the law returns true; each argument reads behind the call as it read before'; 0 by the template 'total and deterministic' (their statements: YtngmhcgenknokaaTotals.lean).
  GIVEN WITH THE SEED: the statements are not yours to turn. If you find one false, say at which input.
  Laid BY PROGRAM, IN A SANDBOX (cutbox-rows.mjs): the forced cells as the released guide's own fill.sh prints them over the translation 32dde9af157b58f9… (all of the seat's roots in one cut). By AI agents, Wed Nov 11 2026. No macro, syntax, notation, axiom, sorry.
-/
import Derived.Test.YtngmhcgenknokaaChecked
import GoSem.Claim
import GoSem.ClaimJoined
import GoSem.ClaimMapViews
import Derived.JoinedTies
import Derived.KernelRfl
namespace Go.Proofs.Ytngmhcgenknokaa
/- THE CELL 'sum', in the pinned program and in every row, IS THE sha256 OF THE DUMP (.gsa) THAT YtngmhcgenknokaaProg.lean LOADS. Nothing in Lean hashes anything: it is a label: what it is worth is what the hold of that sum in a sandbox is worth. -/
noncomputable def Try.pinned : Pinned := { name := "ytngmhcgenknokaa", sum := "32dde9af157b58f925b07effcbd84ea01ede30dfbec07c94dce3da4d33801d36", checked := Try.checked }
namespace Rows
def none {H : Type} : Left H := { results := [], args := [] }

/-- 'escutcheonlaw12.HkdfMacs': WHATEVER THE INPUT: true; the input reads as it did. -/
def hkdfMacsSpec : ChangeSpec := { name := "hkdfMacs", fn := fun _ => fun
  | [d1, d2, d3] => { results := [.lit (.bool true)], args := [d1, d2, d3] }
  | _ => none }
def hkdfMacsRow : OpenClaim := { program := "ytngmhcgenknokaa", sum := "32dde9af157b58f925b07effcbd84ea01ede30dfbec07c94dce3da4d33801d36", func := "escutcheon/escutcheonlaw12.HkdfMacs", spec := "hkdfMacs", unfollowed := true, recurses := true, apart := false }
def HkdfMacsSaid : Prop := hkdfMacsRow.holds Try.pinned (OpenSpec.ofChange hkdfMacsSpec)

/-- ITS FALSE NEIGHBOUR: 'it returns false'. Refute it at one input. -/
def hkdfMacsWrong : ChangeSpec := { name := "hkdfMacs", fn := fun _ => fun
  | [d1, d2, d3] => { results := [.lit (.bool false)], args := [d1, d2, d3] }
  | _ => none }
def HkdfMacsWrongFalsely : Prop := hkdfMacsRow.holds Try.pinned (OpenSpec.ofChange hkdfMacsWrong)

/-- 'escutcheonlaw12.HkdfLongs': WHATEVER THE INPUT: true; the input reads as it did. -/
def hkdfLongsSpec : ChangeSpec := { name := "hkdfLongs", fn := fun _ => fun
  | [d1, d2, d3] => { results := [.lit (.bool true)], args := [d1, d2, d3] }
  | _ => none }
def hkdfLongsRow : OpenClaim := { program := "ytngmhcgenknokaa", sum := "32dde9af157b58f925b07effcbd84ea01ede30dfbec07c94dce3da4d33801d36", func := "escutcheon/escutcheonlaw12.HkdfLongs", spec := "hkdfLongs", unfollowed := true, recurses := true, apart := false }
def HkdfLongsSaid : Prop := hkdfLongsRow.holds Try.pinned (OpenSpec.ofChange hkdfLongsSpec)

/-- ITS FALSE NEIGHBOUR: 'it returns false'. Refute it at one input. -/
def hkdfLongsWrong : ChangeSpec := { name := "hkdfLongs", fn := fun _ => fun
  | [d1, d2, d3] => { results := [.lit (.bool false)], args := [d1, d2, d3] }
  | _ => none }
def HkdfLongsWrongFalsely : Prop := hkdfLongsRow.holds Try.pinned (OpenSpec.ofChange hkdfLongsWrong)

/-- 'escutcheonlaw12.HkdfOutputs': WHATEVER THE INPUT: true; the input reads as it did. -/
def hkdfOutputsSpec : ChangeSpec := { name := "hkdfOutputs", fn := fun _ => fun
  | [d1, d2, d3] => { results := [.lit (.bool true)], args := [d1, d2, d3] }
  | _ => none }
def hkdfOutputsRow : OpenClaim := { program := "ytngmhcgenknokaa", sum := "32dde9af157b58f925b07effcbd84ea01ede30dfbec07c94dce3da4d33801d36", func := "escutcheon/escutcheonlaw12.HkdfOutputs", spec := "hkdfOutputs", unfollowed := true, recurses := true, apart := false }
def HkdfOutputsSaid : Prop := hkdfOutputsRow.holds Try.pinned (OpenSpec.ofChange hkdfOutputsSpec)

/-- ITS FALSE NEIGHBOUR: 'it returns false'. Refute it at one input. -/
def hkdfOutputsWrong : ChangeSpec := { name := "hkdfOutputs", fn := fun _ => fun
  | [d1, d2, d3] => { results := [.lit (.bool false)], args := [d1, d2, d3] }
  | _ => none }
def HkdfOutputsWrongFalsely : Prop := hkdfOutputsRow.holds Try.pinned (OpenSpec.ofChange hkdfOutputsWrong)

/-- 'escutcheonlaw12.HkdfChains': WHATEVER THE INPUT: true; the input reads as it did. -/
def hkdfChainsSpec : ChangeSpec := { name := "hkdfChains", fn := fun _ => fun
  | [d1, d2] => { results := [.lit (.bool true)], args := [d1, d2] }
  | _ => none }
def hkdfChainsRow : OpenClaim := { program := "ytngmhcgenknokaa", sum := "32dde9af157b58f925b07effcbd84ea01ede30dfbec07c94dce3da4d33801d36", func := "escutcheon/escutcheonlaw12.HkdfChains", spec := "hkdfChains", unfollowed := true, recurses := true, apart := false }
def HkdfChainsSaid : Prop := hkdfChainsRow.holds Try.pinned (OpenSpec.ofChange hkdfChainsSpec)

/-- ITS FALSE NEIGHBOUR: 'it returns false'. Refute it at one input. -/
def hkdfChainsWrong : ChangeSpec := { name := "hkdfChains", fn := fun _ => fun
  | [d1, d2] => { results := [.lit (.bool false)], args := [d1, d2] }
  | _ => none }
def HkdfChainsWrongFalsely : Prop := hkdfChainsRow.holds Try.pinned (OpenSpec.ofChange hkdfChainsWrong)

/- THE SECOND FORM. 'bulk': how many values and letters a reading holds, each counted each time it is reached (what is shared counts as often as it is met; a slice's spare places count too). A statement '..UptoSaid' is the law's where the arguments, and the package variables that the reading takes, are together of bulk at most 1048576: NARROWER than '..Said'. Prove '..Said' where nothing that the law and all that it calls make is longer than what came in: it says more and counts as full. Else prove '..UptoSaid'. A law counts once. -/
mutual
def uptoBulk {H : Type} : DataW H → Nat
  | .lit (.string bytes) => bytes.length + 1
  | .lit _ => 1
  | .nil => 1
  | .ptr d => uptoBulk d + 1
  | .slice elems spare => uptoBulkAll elems + uptoBulkAll spare + 1
  | .agg parts => uptoBulkAll parts + 1
  | .iface _ d => uptoBulk d + 1
  | .map entries => uptoBulkEntries entries + 1
  | .held _ => 1
def uptoBulkAll {H : Type} : List (DataW H) → Nat
  | [] => 0
  | d :: r => uptoBulk d + uptoBulkAll r
def uptoBulkEntries {H : Type} : List (Lit × DataW H) → Nat
  | [] => 0
  | x :: r => uptoBulkEntry x + uptoBulkEntries r
def uptoBulkEntry {H : Type} : Lit × DataW H → Nat
  | (.string bytes, d) => bytes.length + uptoBulk d + 1
  | (_, d) => uptoBulk d + 1
 end
def uptoSmall : (H : Type) → List (DataW H) → Bool := fun _ ds => decide (uptoBulkAll ds ≤ 1048576)
def OpenSpec.upto (s : _root_.Go.ChangeSpec) : _root_.Go.OpenSpec := { _root_.Go.OpenSpec.ofChange s with cond := some uptoSmall }

/-- 'escutcheonlaw12.HkdfMacs', WHERE WHAT IT READS IS OF BULK AT MOST 1048576: true; the input reads as it did. -/
def hkdfMacsUptoRow : OpenClaim := { program := "ytngmhcgenknokaa", sum := "32dde9af157b58f925b07effcbd84ea01ede30dfbec07c94dce3da4d33801d36", func := "escutcheon/escutcheonlaw12.HkdfMacs", spec := "hkdfMacs", unfollowed := true, recurses := true, apart := false, narrowed := true }
def HkdfMacsUptoSaid : Prop := hkdfMacsUptoRow.holds Try.pinned (OpenSpec.upto hkdfMacsSpec)

/-- 'escutcheonlaw12.HkdfLongs', WHERE WHAT IT READS IS OF BULK AT MOST 1048576: true; the input reads as it did. -/
def hkdfLongsUptoRow : OpenClaim := { program := "ytngmhcgenknokaa", sum := "32dde9af157b58f925b07effcbd84ea01ede30dfbec07c94dce3da4d33801d36", func := "escutcheon/escutcheonlaw12.HkdfLongs", spec := "hkdfLongs", unfollowed := true, recurses := true, apart := false, narrowed := true }
def HkdfLongsUptoSaid : Prop := hkdfLongsUptoRow.holds Try.pinned (OpenSpec.upto hkdfLongsSpec)

/-- 'escutcheonlaw12.HkdfOutputs', WHERE WHAT IT READS IS OF BULK AT MOST 1048576: true; the input reads as it did. -/
def hkdfOutputsUptoRow : OpenClaim := { program := "ytngmhcgenknokaa", sum := "32dde9af157b58f925b07effcbd84ea01ede30dfbec07c94dce3da4d33801d36", func := "escutcheon/escutcheonlaw12.HkdfOutputs", spec := "hkdfOutputs", unfollowed := true, recurses := true, apart := false, narrowed := true }
def HkdfOutputsUptoSaid : Prop := hkdfOutputsUptoRow.holds Try.pinned (OpenSpec.upto hkdfOutputsSpec)

/-- 'escutcheonlaw12.HkdfChains', WHERE WHAT IT READS IS OF BULK AT MOST 1048576: true; the input reads as it did. -/
def hkdfChainsUptoRow : OpenClaim := { program := "ytngmhcgenknokaa", sum := "32dde9af157b58f925b07effcbd84ea01ede30dfbec07c94dce3da4d33801d36", func := "escutcheon/escutcheonlaw12.HkdfChains", spec := "hkdfChains", unfollowed := true, recurses := true, apart := false, narrowed := true }
def HkdfChainsUptoSaid : Prop := hkdfChainsUptoRow.holds Try.pinned (OpenSpec.upto hkdfChainsSpec)

end Rows
end Go.Proofs.Ytngmhcgenknokaa

/-
  No cell of these rows narrows 'for every input' (looked for: loops, veiled, ifaces, maps, wideKeys, modest, calm, conditions, laid).
  DERIVED. THE GIVEN ROWS OF THIS SEAT. 5 by the template 'for every input the law returns true; each argument reads behind the call as it read before'; 0 by the template 'total and deterministic' (their statements: YtgnkeojclibbdaaTotals.lean).
  GIVEN WITH THE SEED: the statements are not yours to turn. If you find one false, say at which input.
  Laid BY PROGRAM, IN A SANDBOX (cutbox-rows.mjs): the forced cells as the released guide's own fill.sh prints them over the translation f6f845eb8fcccfdd… (all of the seat's roots in one cut). By AI agents, Wed Nov 11 2026. No macro, syntax, notation, axiom, sorry.
-/
import Derived.Test.YtgnkeojclibbdaaChecked
import GoSem.Claim
import GoSem.ClaimJoined
import GoSem.ClaimMapViews
import Derived.JoinedTies
import Derived.KernelRfl
namespace Go.Proofs.Ytgnkeojclibbdaa
/- THE CELL 'sum', in the pinned program and in every row, IS THE sha256 OF THE DUMP (.gsa) THAT YtgnkeojclibbdaaProg.lean LOADS. Nothing in Lean hashes anything: it is a label: what it is worth is what the hold of that sum in a sandbox is worth. -/
noncomputable def Try.pinned : Pinned := { name := "ytgnkeojclibbdaa", sum := "f6f845eb8fcccfdd92f0cfd7b1d0bf5cdfb77d0e0225dca187a26e12da89e5c9", checked := Try.checked }
namespace Rows
def none {H : Type} : Left H := { results := [], args := [] }

/-- 'garboardlaw01.SatSums': WHATEVER THE INPUT: true; the input reads as it did. -/
def satSumsSpec : ChangeSpec := { name := "satSums", fn := fun _ => fun
  | [d1, d2] => { results := [.lit (.bool true)], args := [d1, d2] }
  | _ => none }
def satSumsRow : OpenClaim := { program := "ytgnkeojclibbdaa", sum := "f6f845eb8fcccfdd92f0cfd7b1d0bf5cdfb77d0e0225dca187a26e12da89e5c9", func := "garboard/garboardlaw01.SatSums", spec := "satSums", apart := false }
def SatSumsSaid : Prop := satSumsRow.holds Try.pinned (OpenSpec.ofChange satSumsSpec)

/-- ITS FALSE NEIGHBOUR: 'it returns false'. Refute it at one input. -/
def satSumsWrong : ChangeSpec := { name := "satSums", fn := fun _ => fun
  | [d1, d2] => { results := [.lit (.bool false)], args := [d1, d2] }
  | _ => none }
def SatSumsWrongFalsely : Prop := satSumsRow.holds Try.pinned (OpenSpec.ofChange satSumsWrong)

/-- 'garboardlaw01.SatProducts': WHATEVER THE INPUT: true; the input reads as it did. -/
def satProductsSpec : ChangeSpec := { name := "satProducts", fn := fun _ => fun
  | [d1, d2] => { results := [.lit (.bool true)], args := [d1, d2] }
  | _ => none }
def satProductsRow : OpenClaim := { program := "ytgnkeojclibbdaa", sum := "f6f845eb8fcccfdd92f0cfd7b1d0bf5cdfb77d0e0225dca187a26e12da89e5c9", func := "garboard/garboardlaw01.SatProducts", spec := "satProducts", apart := false }
def SatProductsSaid : Prop := satProductsRow.holds Try.pinned (OpenSpec.ofChange satProductsSpec)

/-- ITS FALSE NEIGHBOUR: 'it returns false'. Refute it at one input. -/
def satProductsWrong : ChangeSpec := { name := "satProducts", fn := fun _ => fun
  | [d1, d2] => { results := [.lit (.bool false)], args := [d1, d2] }
  | _ => none }
def SatProductsWrongFalsely : Prop := satProductsRow.holds Try.pinned (OpenSpec.ofChange satProductsWrong)

/-- 'garboardlaw01.SatTurned': WHATEVER THE INPUT: true; the input reads as it did. -/
def satTurnedSpec : ChangeSpec := { name := "satTurned", fn := fun _ => fun
  | [d1, d2] => { results := [.lit (.bool true)], args := [d1, d2] }
  | _ => none }
def satTurnedRow : OpenClaim := { program := "ytgnkeojclibbdaa", sum := "f6f845eb8fcccfdd92f0cfd7b1d0bf5cdfb77d0e0225dca187a26e12da89e5c9", func := "garboard/garboardlaw01.SatTurned", spec := "satTurned", apart := false }
def SatTurnedSaid : Prop := satTurnedRow.holds Try.pinned (OpenSpec.ofChange satTurnedSpec)

/-- ITS FALSE NEIGHBOUR: 'it returns false'. Refute it at one input. -/
def satTurnedWrong : ChangeSpec := { name := "satTurned", fn := fun _ => fun
  | [d1, d2] => { results := [.lit (.bool false)], args := [d1, d2] }
  | _ => none }
def SatTurnedWrongFalsely : Prop := satTurnedRow.holds Try.pinned (OpenSpec.ofChange satTurnedWrong)

/-- 'garboardlaw01.SatCounters': WHATEVER THE INPUT: true; the input reads as it did. -/
def satCountersSpec : ChangeSpec := { name := "satCounters", fn := fun _ => fun
  | [d1, d2, d3] => { results := [.lit (.bool true)], args := [d1, d2, d3] }
  | _ => none }
def satCountersRow : OpenClaim := { program := "ytgnkeojclibbdaa", sum := "f6f845eb8fcccfdd92f0cfd7b1d0bf5cdfb77d0e0225dca187a26e12da89e5c9", func := "garboard/garboardlaw01.SatCounters", spec := "satCounters", apart := false }
def SatCountersSaid : Prop := satCountersRow.holds Try.pinned (OpenSpec.ofChange satCountersSpec)

/-- ITS FALSE NEIGHBOUR: 'it returns false'. Refute it at one input. -/
def satCountersWrong : ChangeSpec := { name := "satCounters", fn := fun _ => fun
  | [d1, d2, d3] => { results := [.lit (.bool false)], args := [d1, d2, d3] }
  | _ => none }
def SatCountersWrongFalsely : Prop := satCountersRow.holds Try.pinned (OpenSpec.ofChange satCountersWrong)

/-- 'garboardlaw01.SatWithin': WHATEVER THE INPUT: true; the input reads as it did. -/
def satWithinSpec : ChangeSpec := { name := "satWithin", fn := fun _ => fun
  | [d1, d2, d3] => { results := [.lit (.bool true)], args := [d1, d2, d3] }
  | _ => none }
def satWithinRow : OpenClaim := { program := "ytgnkeojclibbdaa", sum := "f6f845eb8fcccfdd92f0cfd7b1d0bf5cdfb77d0e0225dca187a26e12da89e5c9", func := "garboard/garboardlaw01.SatWithin", spec := "satWithin", apart := false }
def SatWithinSaid : Prop := satWithinRow.holds Try.pinned (OpenSpec.ofChange satWithinSpec)

/-- ITS FALSE NEIGHBOUR: 'it returns false'. Refute it at one input. -/
def satWithinWrong : ChangeSpec := { name := "satWithin", fn := fun _ => fun
  | [d1, d2, d3] => { results := [.lit (.bool false)], args := [d1, d2, d3] }
  | _ => none }
def SatWithinWrongFalsely : Prop := satWithinRow.holds Try.pinned (OpenSpec.ofChange satWithinWrong)

/- THE SECOND FORM. 'bulk': how many values and letters a reading holds, each counted each time it is reached (what is shared counts as often as it is met; a slice's spare places count too). A statement '..UptoSaid' is the law's where the arguments, and the package variables that the reading takes, are together of bulk at most 1048576: NARROWER than '..Said'. Prove '..Said' where nothing that the law and all that it calls make is longer than what came in: it says more and counts as full. Else prove '..UptoSaid'. A law counts once. -/
mutual
def uptoBulk {H : Type} : DataW H → Nat
  | .lit (.string bytes) => bytes.length + 1
  | .lit _ => 1
  | .nil => 1
  | .ptr d => uptoBulk d + 1
  | .slice elems spare => uptoBulkAll elems + uptoBulkAll spare + 1
  | .agg parts => uptoBulkAll parts + 1
  | .iface _ d => uptoBulk d + 1
  | .map entries => uptoBulkEntries entries + 1
  | .held _ => 1
def uptoBulkAll {H : Type} : List (DataW H) → Nat
  | [] => 0
  | d :: r => uptoBulk d + uptoBulkAll r
def uptoBulkEntries {H : Type} : List (Lit × DataW H) → Nat
  | [] => 0
  | x :: r => uptoBulkEntry x + uptoBulkEntries r
def uptoBulkEntry {H : Type} : Lit × DataW H → Nat
  | (.string bytes, d) => bytes.length + uptoBulk d + 1
  | (_, d) => uptoBulk d + 1
 end
def uptoSmall : (H : Type) → List (DataW H) → Bool := fun _ ds => decide (uptoBulkAll ds ≤ 1048576)
def OpenSpec.upto (s : _root_.Go.ChangeSpec) : _root_.Go.OpenSpec := { _root_.Go.OpenSpec.ofChange s with cond := some uptoSmall }

/-- 'garboardlaw01.SatSums', WHERE WHAT IT READS IS OF BULK AT MOST 1048576: true; the input reads as it did. -/
def satSumsUptoRow : OpenClaim := { program := "ytgnkeojclibbdaa", sum := "f6f845eb8fcccfdd92f0cfd7b1d0bf5cdfb77d0e0225dca187a26e12da89e5c9", func := "garboard/garboardlaw01.SatSums", spec := "satSums", apart := false, narrowed := true }
def SatSumsUptoSaid : Prop := satSumsUptoRow.holds Try.pinned (OpenSpec.upto satSumsSpec)

/-- 'garboardlaw01.SatProducts', WHERE WHAT IT READS IS OF BULK AT MOST 1048576: true; the input reads as it did. -/
def satProductsUptoRow : OpenClaim := { program := "ytgnkeojclibbdaa", sum := "f6f845eb8fcccfdd92f0cfd7b1d0bf5cdfb77d0e0225dca187a26e12da89e5c9", func := "garboard/garboardlaw01.SatProducts", spec := "satProducts", apart := false, narrowed := true }
def SatProductsUptoSaid : Prop := satProductsUptoRow.holds Try.pinned (OpenSpec.upto satProductsSpec)

/-- 'garboardlaw01.SatTurned', WHERE WHAT IT READS IS OF BULK AT MOST 1048576: true; the input reads as it did. -/
def satTurnedUptoRow : OpenClaim := { program := "ytgnkeojclibbdaa", sum := "f6f845eb8fcccfdd92f0cfd7b1d0bf5cdfb77d0e0225dca187a26e12da89e5c9", func := "garboard/garboardlaw01.SatTurned", spec := "satTurned", apart := false, narrowed := true }
def SatTurnedUptoSaid : Prop := satTurnedUptoRow.holds Try.pinned (OpenSpec.upto satTurnedSpec)

/-- 'garboardlaw01.SatCounters', WHERE WHAT IT READS IS OF BULK AT MOST 1048576: true; the input reads as it did. -/
def satCountersUptoRow : OpenClaim := { program := "ytgnkeojclibbdaa", sum := "f6f845eb8fcccfdd92f0cfd7b1d0bf5cdfb77d0e0225dca187a26e12da89e5c9", func := "garboard/garboardlaw01.SatCounters", spec := "satCounters", apart := false, narrowed := true }
def SatCountersUptoSaid : Prop := satCountersUptoRow.holds Try.pinned (OpenSpec.upto satCountersSpec)

/-- 'garboardlaw01.SatWithin', WHERE WHAT IT READS IS OF BULK AT MOST 1048576: true; the input reads as it did. -/
def satWithinUptoRow : OpenClaim := { program := "ytgnkeojclibbdaa", sum := "f6f845eb8fcccfdd92f0cfd7b1d0bf5cdfb77d0e0225dca187a26e12da89e5c9", func := "garboard/garboardlaw01.SatWithin", spec := "satWithin", apart := false, narrowed := true }
def SatWithinUptoSaid : Prop := satWithinUptoRow.holds Try.pinned (OpenSpec.upto satWithinSpec)

end Rows
end Go.Proofs.Ytgnkeojclibbdaa

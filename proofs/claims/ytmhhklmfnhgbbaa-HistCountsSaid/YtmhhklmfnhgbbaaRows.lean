/-
  No cell of these rows narrows 'for every input' (looked for: loops, veiled, ifaces, maps, wideKeys, modest, calm, conditions, laid).
  DERIVED. THE GIVEN ROWS OF THIS SEAT. 5 by the template 'for every input the law returns true; each argument reads behind the call as it read before'; 0 by the template 'total and deterministic' (their statements: YtmhhklmfnhgbbaaTotals.lean).
  GIVEN WITH THE SEED: the statements are not yours to turn. If you find one false, say at which input.
  Laid BY PROGRAM, IN A SANDBOX (cutbox-rows.mjs): the forced cells as the released guide's own fill.sh prints them over the translation deefef0e0c634d19… (all of the seat's roots in one cut). By AI agents, Wed Nov 11 2026. No macro, syntax, notation, axiom, sorry.
-/
import Derived.Test.YtmhhklmfnhgbbaaChecked
import GoSem.Claim
import GoSem.ClaimJoined
import GoSem.ClaimMapViews
import Derived.JoinedTies
import Derived.KernelRfl
namespace Go.Proofs.Ytmhhklmfnhgbbaa
/- THE CELL 'sum', in the pinned program and in every row, IS THE sha256 OF THE DUMP (.gsa) THAT YtmhhklmfnhgbbaaProg.lean LOADS. Nothing in Lean hashes anything: it is a label: what it is worth is what the hold of that sum in a sandbox is worth. -/
noncomputable def Try.pinned : Pinned := { name := "ytmhhklmfnhgbbaa", sum := "deefef0e0c634d199b21b7d5c617e303573aa0d1f5d3d140db6e82af3d5ca1b3", checked := Try.checked }
namespace Rows
def none {H : Type} : Left H := { results := [], args := [] }

/-- 'garboardlaw34.HistBoxes': WHATEVER THE INPUT: true; the input reads as it did. -/
def histBoxesSpec : ChangeSpec := { name := "histBoxes", fn := fun _ => fun
  | [d1, d2] => { results := [.lit (.bool true)], args := [d1, d2] }
  | _ => none }
def histBoxesRow : OpenClaim := { program := "ytmhhklmfnhgbbaa", sum := "deefef0e0c634d199b21b7d5c617e303573aa0d1f5d3d140db6e82af3d5ca1b3", func := "garboard/garboardlaw34.HistBoxes", spec := "histBoxes", apart := false }
def HistBoxesSaid : Prop := histBoxesRow.holds Try.pinned (OpenSpec.ofChange histBoxesSpec)

/-- ITS FALSE NEIGHBOUR: 'it returns false'. Refute it at one input. -/
def histBoxesWrong : ChangeSpec := { name := "histBoxes", fn := fun _ => fun
  | [d1, d2] => { results := [.lit (.bool false)], args := [d1, d2] }
  | _ => none }
def HistBoxesWrongFalsely : Prop := histBoxesRow.holds Try.pinned (OpenSpec.ofChange histBoxesWrong)

/-- 'garboardlaw34.HistRises': WHATEVER THE INPUT: true; the input reads as it did. -/
def histRisesSpec : ChangeSpec := { name := "histRises", fn := fun _ => fun
  | [d1, d2] => { results := [.lit (.bool true)], args := [d1, d2] }
  | _ => none }
def histRisesRow : OpenClaim := { program := "ytmhhklmfnhgbbaa", sum := "deefef0e0c634d199b21b7d5c617e303573aa0d1f5d3d140db6e82af3d5ca1b3", func := "garboard/garboardlaw34.HistRises", spec := "histRises", apart := false }
def HistRisesSaid : Prop := histRisesRow.holds Try.pinned (OpenSpec.ofChange histRisesSpec)

/-- ITS FALSE NEIGHBOUR: 'it returns false'. Refute it at one input. -/
def histRisesWrong : ChangeSpec := { name := "histRises", fn := fun _ => fun
  | [d1, d2] => { results := [.lit (.bool false)], args := [d1, d2] }
  | _ => none }
def HistRisesWrongFalsely : Prop := histRisesRow.holds Try.pinned (OpenSpec.ofChange histRisesWrong)

/-- 'garboardlaw34.HistQuantiles': WHATEVER THE INPUT: true; the input reads as it did. -/
def histQuantilesSpec : ChangeSpec := { name := "histQuantiles", fn := fun _ => fun
  | [d1, d2, d3] => { results := [.lit (.bool true)], args := [d1, d2, d3] }
  | _ => none }
def histQuantilesRow : OpenClaim := { program := "ytmhhklmfnhgbbaa", sum := "deefef0e0c634d199b21b7d5c617e303573aa0d1f5d3d140db6e82af3d5ca1b3", func := "garboard/garboardlaw34.HistQuantiles", spec := "histQuantiles", apart := false }
def HistQuantilesSaid : Prop := histQuantilesRow.holds Try.pinned (OpenSpec.ofChange histQuantilesSpec)

/-- ITS FALSE NEIGHBOUR: 'it returns false'. Refute it at one input. -/
def histQuantilesWrong : ChangeSpec := { name := "histQuantiles", fn := fun _ => fun
  | [d1, d2, d3] => { results := [.lit (.bool false)], args := [d1, d2, d3] }
  | _ => none }
def HistQuantilesWrongFalsely : Prop := histQuantilesRow.holds Try.pinned (OpenSpec.ofChange histQuantilesWrong)

/-- 'garboardlaw34.HistCounts': WHATEVER THE INPUT: true; the input reads as it did. -/
def histCountsSpec : ChangeSpec := { name := "histCounts", fn := fun _ => fun
  | [d1, d2, d3] => { results := [.lit (.bool true)], args := [d1, d2, d3] }
  | _ => none }
def histCountsRow : OpenClaim := { program := "ytmhhklmfnhgbbaa", sum := "deefef0e0c634d199b21b7d5c617e303573aa0d1f5d3d140db6e82af3d5ca1b3", func := "garboard/garboardlaw34.HistCounts", spec := "histCounts", apart := false }
def HistCountsSaid : Prop := histCountsRow.holds Try.pinned (OpenSpec.ofChange histCountsSpec)

/-- ITS FALSE NEIGHBOUR: 'it returns false'. Refute it at one input. -/
def histCountsWrong : ChangeSpec := { name := "histCounts", fn := fun _ => fun
  | [d1, d2, d3] => { results := [.lit (.bool false)], args := [d1, d2, d3] }
  | _ => none }
def HistCountsWrongFalsely : Prop := histCountsRow.holds Try.pinned (OpenSpec.ofChange histCountsWrong)

/-- 'garboardlaw34.HistOrder': WHATEVER THE INPUT: true; the input reads as it did. -/
def histOrderSpec : ChangeSpec := { name := "histOrder", fn := fun _ => fun
  | [d1, d2] => { results := [.lit (.bool true)], args := [d1, d2] }
  | _ => none }
def histOrderRow : OpenClaim := { program := "ytmhhklmfnhgbbaa", sum := "deefef0e0c634d199b21b7d5c617e303573aa0d1f5d3d140db6e82af3d5ca1b3", func := "garboard/garboardlaw34.HistOrder", spec := "histOrder", apart := false }
def HistOrderSaid : Prop := histOrderRow.holds Try.pinned (OpenSpec.ofChange histOrderSpec)

/-- ITS FALSE NEIGHBOUR: 'it returns false'. Refute it at one input. -/
def histOrderWrong : ChangeSpec := { name := "histOrder", fn := fun _ => fun
  | [d1, d2] => { results := [.lit (.bool false)], args := [d1, d2] }
  | _ => none }
def HistOrderWrongFalsely : Prop := histOrderRow.holds Try.pinned (OpenSpec.ofChange histOrderWrong)

/- THE SECOND FORM. 'bulk': how many values and letters a reading holds, each counted each time it is reached (what is shared counts as often as it is met; a slice's spare places count too). A statement '..UptoSaid' is the law's where the arguments, and the package variables that the reading takes, are together of bulk at most 1048576: NARROWER than '..Said'. Prove '..Said' where nothing that the law and all that it calls make is longer than what came in: it says more and counts as full. Else prove '..UptoSaid'. A law counts once. -/
mutual
def uptoBulk {H : Type} : DataW H → Nat
  | .lit (.string bytes) => bytes.length + 1
  | .lit _ => 1
  | .nil => 1
  | .ptr d => uptoBulk d + 1
  | .slice elems spare => uptoBulkAll elems + uptoBulkAll spare + 1
  | .agg parts => uptoBulkAll parts + 1
  | .iface _ d => uptoBulk d + 1
  | .map entries => uptoBulkEntries entries + 1
  | .held _ => 1
def uptoBulkAll {H : Type} : List (DataW H) → Nat
  | [] => 0
  | d :: r => uptoBulk d + uptoBulkAll r
def uptoBulkEntries {H : Type} : List (Lit × DataW H) → Nat
  | [] => 0
  | x :: r => uptoBulkEntry x + uptoBulkEntries r
def uptoBulkEntry {H : Type} : Lit × DataW H → Nat
  | (.string bytes, d) => bytes.length + uptoBulk d + 1
  | (_, d) => uptoBulk d + 1
 end
def uptoSmall : (H : Type) → List (DataW H) → Bool := fun _ ds => decide (uptoBulkAll ds ≤ 1048576)
def OpenSpec.upto (s : _root_.Go.ChangeSpec) : _root_.Go.OpenSpec := { _root_.Go.OpenSpec.ofChange s with cond := some uptoSmall }

/-- 'garboardlaw34.HistBoxes', WHERE WHAT IT READS IS OF BULK AT MOST 1048576: true; the input reads as it did. -/
def histBoxesUptoRow : OpenClaim := { program := "ytmhhklmfnhgbbaa", sum := "deefef0e0c634d199b21b7d5c617e303573aa0d1f5d3d140db6e82af3d5ca1b3", func := "garboard/garboardlaw34.HistBoxes", spec := "histBoxes", apart := false, narrowed := true }
def HistBoxesUptoSaid : Prop := histBoxesUptoRow.holds Try.pinned (OpenSpec.upto histBoxesSpec)

/-- 'garboardlaw34.HistRises', WHERE WHAT IT READS IS OF BULK AT MOST 1048576: true; the input reads as it did. -/
def histRisesUptoRow : OpenClaim := { program := "ytmhhklmfnhgbbaa", sum := "deefef0e0c634d199b21b7d5c617e303573aa0d1f5d3d140db6e82af3d5ca1b3", func := "garboard/garboardlaw34.HistRises", spec := "histRises", apart := false, narrowed := true }
def HistRisesUptoSaid : Prop := histRisesUptoRow.holds Try.pinned (OpenSpec.upto histRisesSpec)

/-- 'garboardlaw34.HistQuantiles', WHERE WHAT IT READS IS OF BULK AT MOST 1048576: true; the input reads as it did. -/
def histQuantilesUptoRow : OpenClaim := { program := "ytmhhklmfnhgbbaa", sum := "deefef0e0c634d199b21b7d5c617e303573aa0d1f5d3d140db6e82af3d5ca1b3", func := "garboard/garboardlaw34.HistQuantiles", spec := "histQuantiles", apart := false, narrowed := true }
def HistQuantilesUptoSaid : Prop := histQuantilesUptoRow.holds Try.pinned (OpenSpec.upto histQuantilesSpec)

/-- 'garboardlaw34.HistCounts', WHERE WHAT IT READS IS OF BULK AT MOST 1048576: true; the input reads as it did. -/
def histCountsUptoRow : OpenClaim := { program := "ytmhhklmfnhgbbaa", sum := "deefef0e0c634d199b21b7d5c617e303573aa0d1f5d3d140db6e82af3d5ca1b3", func := "garboard/garboardlaw34.HistCounts", spec := "histCounts", apart := false, narrowed := true }
def HistCountsUptoSaid : Prop := histCountsUptoRow.holds Try.pinned (OpenSpec.upto histCountsSpec)

/-- 'garboardlaw34.HistOrder', WHERE WHAT IT READS IS OF BULK AT MOST 1048576: true; the input reads as it did. -/
def histOrderUptoRow : OpenClaim := { program := "ytmhhklmfnhgbbaa", sum := "deefef0e0c634d199b21b7d5c617e303573aa0d1f5d3d140db6e82af3d5ca1b3", func := "garboard/garboardlaw34.HistOrder", spec := "histOrder", apart := false, narrowed := true }
def HistOrderUptoSaid : Prop := histOrderUptoRow.holds Try.pinned (OpenSpec.upto histOrderSpec)

end Rows
end Go.Proofs.Ytmhhklmfnhgbbaa

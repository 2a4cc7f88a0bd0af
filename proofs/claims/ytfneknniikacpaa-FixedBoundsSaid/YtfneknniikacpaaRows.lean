/-
  No cell of these rows narrows 'for every input' (looked for: loops, veiled, ifaces, maps, wideKeys, modest, calm, conditions, laid).
  DERIVED. THE GIVEN ROWS OF THIS SEAT. 6 by the template 'for every input the law returns true; each argument reads behind the call as it read before'; 0 by the template 'total and deterministic' (their statements: YtfneknniikacpaaTotals.lean).
  GIVEN WITH THE SEED: the statements are not yours to turn. If you find one false, say at which input.
  Laid BY PROGRAM, IN A SANDBOX (cutbox-rows.mjs): the forced cells as the released guide's own fill.sh prints them over the translation cb340d12764c42b0… (all of the seat's roots in one cut). By AI agents, Wed Nov 11 2026. No macro, syntax, notation, axiom, sorry.
-/
import Derived.Test.YtfneknniikacpaaChecked
import GoSem.Claim
import GoSem.ClaimJoined
import GoSem.ClaimMapViews
import Derived.JoinedTies
import Derived.KernelRfl
namespace Go.Proofs.Ytfneknniikacpaa
/- THE CELL 'sum', in the pinned program and in every row, IS THE sha256 OF THE DUMP (.gsa) THAT YtfneknniikacpaaProg.lean LOADS. Nothing in Lean hashes anything: it is a label: what it is worth is what the hold of that sum in a sandbox is worth. -/
noncomputable def Try.pinned : Pinned := { name := "ytfneknniikacpaa", sum := "cb340d12764c42b05741fc7426897607312a8b275f201caa5db13f09912a4986", checked := Try.checked }
namespace Rows
def none {H : Type} : Left H := { results := [], args := [] }

/-- 'garboardlaw07.FixedExps': WHATEVER THE INPUT: true; the input reads as it did. -/
def fixedExpsSpec : ChangeSpec := { name := "fixedExps", fn := fun _ => fun
  | [d] => { results := [.lit (.bool true)], args := [d] }
  | _ => none }
def fixedExpsRow : OpenClaim := { program := "ytfneknniikacpaa", sum := "cb340d12764c42b05741fc7426897607312a8b275f201caa5db13f09912a4986", func := "garboard/garboardlaw07.FixedExps", spec := "fixedExps", apart := false }
def FixedExpsSaid : Prop := fixedExpsRow.holds Try.pinned (OpenSpec.ofChange fixedExpsSpec)

/-- ITS FALSE NEIGHBOUR: 'it returns false'. Refute it at one input. -/
def fixedExpsWrong : ChangeSpec := { name := "fixedExps", fn := fun _ => fun
  | [d] => { results := [.lit (.bool false)], args := [d] }
  | _ => none }
def FixedExpsWrongFalsely : Prop := fixedExpsRow.holds Try.pinned (OpenSpec.ofChange fixedExpsWrong)

/-- 'garboardlaw07.FixedRoots': WHATEVER THE INPUT: true; the input reads as it did. -/
def fixedRootsSpec : ChangeSpec := { name := "fixedRoots", fn := fun _ => fun
  | [d] => { results := [.lit (.bool true)], args := [d] }
  | _ => none }
def fixedRootsRow : OpenClaim := { program := "ytfneknniikacpaa", sum := "cb340d12764c42b05741fc7426897607312a8b275f201caa5db13f09912a4986", func := "garboard/garboardlaw07.FixedRoots", spec := "fixedRoots", apart := false }
def FixedRootsSaid : Prop := fixedRootsRow.holds Try.pinned (OpenSpec.ofChange fixedRootsSpec)

/-- ITS FALSE NEIGHBOUR: 'it returns false'. Refute it at one input. -/
def fixedRootsWrong : ChangeSpec := { name := "fixedRoots", fn := fun _ => fun
  | [d] => { results := [.lit (.bool false)], args := [d] }
  | _ => none }
def FixedRootsWrongFalsely : Prop := fixedRootsRow.holds Try.pinned (OpenSpec.ofChange fixedRootsWrong)

/-- 'garboardlaw07.FixedRises': WHATEVER THE INPUT: true; the input reads as it did. -/
def fixedRisesSpec : ChangeSpec := { name := "fixedRises", fn := fun _ => fun
  | [d1, d2] => { results := [.lit (.bool true)], args := [d1, d2] }
  | _ => none }
def fixedRisesRow : OpenClaim := { program := "ytfneknniikacpaa", sum := "cb340d12764c42b05741fc7426897607312a8b275f201caa5db13f09912a4986", func := "garboard/garboardlaw07.FixedRises", spec := "fixedRises", apart := false }
def FixedRisesSaid : Prop := fixedRisesRow.holds Try.pinned (OpenSpec.ofChange fixedRisesSpec)

/-- ITS FALSE NEIGHBOUR: 'it returns false'. Refute it at one input. -/
def fixedRisesWrong : ChangeSpec := { name := "fixedRises", fn := fun _ => fun
  | [d1, d2] => { results := [.lit (.bool false)], args := [d1, d2] }
  | _ => none }
def FixedRisesWrongFalsely : Prop := fixedRisesRow.holds Try.pinned (OpenSpec.ofChange fixedRisesWrong)

/-- 'garboardlaw07.FixedSums': WHATEVER THE INPUT: true; the input reads as it did. -/
def fixedSumsSpec : ChangeSpec := { name := "fixedSums", fn := fun _ => fun
  | [d1, d2] => { results := [.lit (.bool true)], args := [d1, d2] }
  | _ => none }
def fixedSumsRow : OpenClaim := { program := "ytfneknniikacpaa", sum := "cb340d12764c42b05741fc7426897607312a8b275f201caa5db13f09912a4986", func := "garboard/garboardlaw07.FixedSums", spec := "fixedSums", apart := false }
def FixedSumsSaid : Prop := fixedSumsRow.holds Try.pinned (OpenSpec.ofChange fixedSumsSpec)

/-- ITS FALSE NEIGHBOUR: 'it returns false'. Refute it at one input. -/
def fixedSumsWrong : ChangeSpec := { name := "fixedSums", fn := fun _ => fun
  | [d1, d2] => { results := [.lit (.bool false)], args := [d1, d2] }
  | _ => none }
def FixedSumsWrongFalsely : Prop := fixedSumsRow.holds Try.pinned (OpenSpec.ofChange fixedSumsWrong)

/-- 'garboardlaw07.FixedTurned': WHATEVER THE INPUT: true; the input reads as it did. -/
def fixedTurnedSpec : ChangeSpec := { name := "fixedTurned", fn := fun _ => fun
  | [d1, d2] => { results := [.lit (.bool true)], args := [d1, d2] }
  | _ => none }
def fixedTurnedRow : OpenClaim := { program := "ytfneknniikacpaa", sum := "cb340d12764c42b05741fc7426897607312a8b275f201caa5db13f09912a4986", func := "garboard/garboardlaw07.FixedTurned", spec := "fixedTurned", apart := false }
def FixedTurnedSaid : Prop := fixedTurnedRow.holds Try.pinned (OpenSpec.ofChange fixedTurnedSpec)

/-- ITS FALSE NEIGHBOUR: 'it returns false'. Refute it at one input. -/
def fixedTurnedWrong : ChangeSpec := { name := "fixedTurned", fn := fun _ => fun
  | [d1, d2] => { results := [.lit (.bool false)], args := [d1, d2] }
  | _ => none }
def FixedTurnedWrongFalsely : Prop := fixedTurnedRow.holds Try.pinned (OpenSpec.ofChange fixedTurnedWrong)

/-- 'garboardlaw07.FixedBounds': WHATEVER THE INPUT: true; the input reads as it did. -/
def fixedBoundsSpec : ChangeSpec := { name := "fixedBounds", fn := fun _ => fun
  | [d] => { results := [.lit (.bool true)], args := [d] }
  | _ => none }
def fixedBoundsRow : OpenClaim := { program := "ytfneknniikacpaa", sum := "cb340d12764c42b05741fc7426897607312a8b275f201caa5db13f09912a4986", func := "garboard/garboardlaw07.FixedBounds", spec := "fixedBounds", apart := false }
def FixedBoundsSaid : Prop := fixedBoundsRow.holds Try.pinned (OpenSpec.ofChange fixedBoundsSpec)

/-- ITS FALSE NEIGHBOUR: 'it returns false'. Refute it at one input. -/
def fixedBoundsWrong : ChangeSpec := { name := "fixedBounds", fn := fun _ => fun
  | [d] => { results := [.lit (.bool false)], args := [d] }
  | _ => none }
def FixedBoundsWrongFalsely : Prop := fixedBoundsRow.holds Try.pinned (OpenSpec.ofChange fixedBoundsWrong)

/- THE SECOND FORM. 'bulk': how many values and letters a reading holds, each counted each time it is reached (what is shared counts as often as it is met; a slice's spare places count too). A statement '..UptoSaid' is the law's where the arguments, and the package variables that the reading takes, are together of bulk at most 1048576: NARROWER than '..Said'. Prove '..Said' where nothing that the law and all that it calls make is longer than what came in: it says more and counts as full. Else prove '..UptoSaid'. A law counts once. -/
mutual
def uptoBulk {H : Type} : DataW H → Nat
  | .lit (.string bytes) => bytes.length + 1
  | .lit _ => 1
  | .nil => 1
  | .ptr d => uptoBulk d + 1
  | .slice elems spare => uptoBulkAll elems + uptoBulkAll spare + 1
  | .agg parts => uptoBulkAll parts + 1
  | .iface _ d => uptoBulk d + 1
  | .map entries => uptoBulkEntries entries + 1
  | .held _ => 1
def uptoBulkAll {H : Type} : List (DataW H) → Nat
  | [] => 0
  | d :: r => uptoBulk d + uptoBulkAll r
def uptoBulkEntries {H : Type} : List (Lit × DataW H) → Nat
  | [] => 0
  | x :: r => uptoBulkEntry x + uptoBulkEntries r
def uptoBulkEntry {H : Type} : Lit × DataW H → Nat
  | (.string bytes, d) => bytes.length + uptoBulk d + 1
  | (_, d) => uptoBulk d + 1
 end
def uptoSmall : (H : Type) → List (DataW H) → Bool := fun _ ds => decide (uptoBulkAll ds ≤ 1048576)
def OpenSpec.upto (s : _root_.Go.ChangeSpec) : _root_.Go.OpenSpec := { _root_.Go.OpenSpec.ofChange s with cond := some uptoSmall }

/-- 'garboardlaw07.FixedExps', WHERE WHAT IT READS IS OF BULK AT MOST 1048576: true; the input reads as it did. -/
def fixedExpsUptoRow : OpenClaim := { program := "ytfneknniikacpaa", sum := "cb340d12764c42b05741fc7426897607312a8b275f201caa5db13f09912a4986", func := "garboard/garboardlaw07.FixedExps", spec := "fixedExps", apart := false, narrowed := true }
def FixedExpsUptoSaid : Prop := fixedExpsUptoRow.holds Try.pinned (OpenSpec.upto fixedExpsSpec)

/-- 'garboardlaw07.FixedRoots', WHERE WHAT IT READS IS OF BULK AT MOST 1048576: true; the input reads as it did. -/
def fixedRootsUptoRow : OpenClaim := { program := "ytfneknniikacpaa", sum := "cb340d12764c42b05741fc7426897607312a8b275f201caa5db13f09912a4986", func := "garboard/garboardlaw07.FixedRoots", spec := "fixedRoots", apart := false, narrowed := true }
def FixedRootsUptoSaid : Prop := fixedRootsUptoRow.holds Try.pinned (OpenSpec.upto fixedRootsSpec)

/-- 'garboardlaw07.FixedRises', WHERE WHAT IT READS IS OF BULK AT MOST 1048576: true; the input reads as it did. -/
def fixedRisesUptoRow : OpenClaim := { program := "ytfneknniikacpaa", sum := "cb340d12764c42b05741fc7426897607312a8b275f201caa5db13f09912a4986", func := "garboard/garboardlaw07.FixedRises", spec := "fixedRises", apart := false, narrowed := true }
def FixedRisesUptoSaid : Prop := fixedRisesUptoRow.holds Try.pinned (OpenSpec.upto fixedRisesSpec)

/-- 'garboardlaw07.FixedSums', WHERE WHAT IT READS IS OF BULK AT MOST 1048576: true; the input reads as it did. -/
def fixedSumsUptoRow : OpenClaim := { program := "ytfneknniikacpaa", sum := "cb340d12764c42b05741fc7426897607312a8b275f201caa5db13f09912a4986", func := "garboard/garboardlaw07.FixedSums", spec := "fixedSums", apart := false, narrowed := true }
def FixedSumsUptoSaid : Prop := fixedSumsUptoRow.holds Try.pinned (OpenSpec.upto fixedSumsSpec)

/-- 'garboardlaw07.FixedTurned', WHERE WHAT IT READS IS OF BULK AT MOST 1048576: true; the input reads as it did. -/
def fixedTurnedUptoRow : OpenClaim := { program := "ytfneknniikacpaa", sum := "cb340d12764c42b05741fc7426897607312a8b275f201caa5db13f09912a4986", func := "garboard/garboardlaw07.FixedTurned", spec := "fixedTurned", apart := false, narrowed := true }
def FixedTurnedUptoSaid : Prop := fixedTurnedUptoRow.holds Try.pinned (OpenSpec.upto fixedTurnedSpec)

/-- 'garboardlaw07.FixedBounds', WHERE WHAT IT READS IS OF BULK AT MOST 1048576: true; the input reads as it did. -/
def fixedBoundsUptoRow : OpenClaim := { program := "ytfneknniikacpaa", sum := "cb340d12764c42b05741fc7426897607312a8b275f201caa5db13f09912a4986", func := "garboard/garboardlaw07.FixedBounds", spec := "fixedBounds", apart := false, narrowed := true }
def FixedBoundsUptoSaid : Prop := fixedBoundsUptoRow.holds Try.pinned (OpenSpec.upto fixedBoundsSpec)

end Rows
end Go.Proofs.Ytfneknniikacpaa

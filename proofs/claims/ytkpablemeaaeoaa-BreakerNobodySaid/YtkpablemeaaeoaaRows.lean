/-
  No cell of these rows narrows 'for every input' (looked for: loops, veiled, ifaces, maps, wideKeys, modest, calm, conditions, laid).
  DERIVED. THE GIVEN ROWS OF THIS SEAT. 4 by the template 'for every input the law returns true; each argument reads behind the call as it read before'; 0 by the template 'total and deterministic' (their statements: YtkpablemeaaeoaaTotals.lean).
  GIVEN WITH THE SEED: the statements are not yours to turn. If you find one false, say at which input.
  Laid BY PROGRAM, IN A SANDBOX (cutbox-rows.mjs): the forced cells as the released guide's own fill.sh prints them over the translation aee35ce0c2910aea… (all of the seat's roots in one cut). By AI agents, Wed Nov 11 2026. No macro, syntax, notation, axiom, sorry.
-/
import Derived.Test.YtkpablemeaaeoaaChecked
import GoSem.Claim
import GoSem.ClaimJoined
import GoSem.ClaimMapViews
import Derived.JoinedTies
import Derived.KernelRfl
namespace Go.Proofs.Ytkpablemeaaeoaa
/- THE CELL 'sum', in the pinned program and in every row, IS THE sha256 OF THE DUMP (.gsa) THAT YtkpablemeaaeoaaProg.lean LOADS. Nothing in Lean hashes anything: it is a label: what it is worth is what the hold of that sum in a sandbox is worth. -/
noncomputable def Try.pinned : Pinned := { name := "ytkpablemeaaeoaa", sum := "aee35ce0c2910aeaed19b6600cf8df1790297823402ddbc46ed664b16d5f2f20", checked := Try.checked }
namespace Rows
def none {H : Type} : Left H := { results := [], args := [] }

/-- 'garboardlaw22.BreakerEdges': WHATEVER THE INPUT: true; the input reads as it did. -/
def breakerEdgesSpec : ChangeSpec := { name := "breakerEdges", fn := fun _ => fun
  | [d1, d2] => { results := [.lit (.bool true)], args := [d1, d2] }
  | _ => none }
def breakerEdgesRow : OpenClaim := { program := "ytkpablemeaaeoaa", sum := "aee35ce0c2910aeaed19b6600cf8df1790297823402ddbc46ed664b16d5f2f20", func := "garboard/garboardlaw22.BreakerEdges", spec := "breakerEdges", apart := false }
def BreakerEdgesSaid : Prop := breakerEdgesRow.holds Try.pinned (OpenSpec.ofChange breakerEdgesSpec)

/-- ITS FALSE NEIGHBOUR: 'it returns false'. Refute it at one input. -/
def breakerEdgesWrong : ChangeSpec := { name := "breakerEdges", fn := fun _ => fun
  | [d1, d2] => { results := [.lit (.bool false)], args := [d1, d2] }
  | _ => none }
def BreakerEdgesWrongFalsely : Prop := breakerEdgesRow.holds Try.pinned (OpenSpec.ofChange breakerEdgesWrong)

/-- 'garboardlaw22.BreakerEnds': WHATEVER THE INPUT: true; the input reads as it did. -/
def breakerEndsSpec : ChangeSpec := { name := "breakerEnds", fn := fun _ => fun
  | [d1, d2] => { results := [.lit (.bool true)], args := [d1, d2] }
  | _ => none }
def breakerEndsRow : OpenClaim := { program := "ytkpablemeaaeoaa", sum := "aee35ce0c2910aeaed19b6600cf8df1790297823402ddbc46ed664b16d5f2f20", func := "garboard/garboardlaw22.BreakerEnds", spec := "breakerEnds", apart := false }
def BreakerEndsSaid : Prop := breakerEndsRow.holds Try.pinned (OpenSpec.ofChange breakerEndsSpec)

/-- ITS FALSE NEIGHBOUR: 'it returns false'. Refute it at one input. -/
def breakerEndsWrong : ChangeSpec := { name := "breakerEnds", fn := fun _ => fun
  | [d1, d2] => { results := [.lit (.bool false)], args := [d1, d2] }
  | _ => none }
def BreakerEndsWrongFalsely : Prop := breakerEndsRow.holds Try.pinned (OpenSpec.ofChange breakerEndsWrong)

/-- 'garboardlaw22.BreakerPlays': WHATEVER THE INPUT: true; the input reads as it did. -/
def breakerPlaysSpec : ChangeSpec := { name := "breakerPlays", fn := fun _ => fun
  | [d1, d2] => { results := [.lit (.bool true)], args := [d1, d2] }
  | _ => none }
def breakerPlaysRow : OpenClaim := { program := "ytkpablemeaaeoaa", sum := "aee35ce0c2910aeaed19b6600cf8df1790297823402ddbc46ed664b16d5f2f20", func := "garboard/garboardlaw22.BreakerPlays", spec := "breakerPlays", apart := false }
def BreakerPlaysSaid : Prop := breakerPlaysRow.holds Try.pinned (OpenSpec.ofChange breakerPlaysSpec)

/-- ITS FALSE NEIGHBOUR: 'it returns false'. Refute it at one input. -/
def breakerPlaysWrong : ChangeSpec := { name := "breakerPlays", fn := fun _ => fun
  | [d1, d2] => { results := [.lit (.bool false)], args := [d1, d2] }
  | _ => none }
def BreakerPlaysWrongFalsely : Prop := breakerPlaysRow.holds Try.pinned (OpenSpec.ofChange breakerPlaysWrong)

/-- 'garboardlaw22.BreakerNobody': WHATEVER THE INPUT: true; the input reads as it did. -/
def breakerNobodySpec : ChangeSpec := { name := "breakerNobody", fn := fun _ => fun
  | [d] => { results := [.lit (.bool true)], args := [d] }
  | _ => none }
def breakerNobodyRow : OpenClaim := { program := "ytkpablemeaaeoaa", sum := "aee35ce0c2910aeaed19b6600cf8df1790297823402ddbc46ed664b16d5f2f20", func := "garboard/garboardlaw22.BreakerNobody", spec := "breakerNobody", apart := false }
def BreakerNobodySaid : Prop := breakerNobodyRow.holds Try.pinned (OpenSpec.ofChange breakerNobodySpec)

/-- ITS FALSE NEIGHBOUR: 'it returns false'. Refute it at one input. -/
def breakerNobodyWrong : ChangeSpec := { name := "breakerNobody", fn := fun _ => fun
  | [d] => { results := [.lit (.bool false)], args := [d] }
  | _ => none }
def BreakerNobodyWrongFalsely : Prop := breakerNobodyRow.holds Try.pinned (OpenSpec.ofChange breakerNobodyWrong)

/- THE SECOND FORM. 'bulk': how many values and letters a reading holds, each counted each time it is reached (what is shared counts as often as it is met; a slice's spare places count too). A statement '..UptoSaid' is the law's where the arguments, and the package variables that the reading takes, are together of bulk at most 1048576: NARROWER than '..Said'. Prove '..Said' where nothing that the law and all that it calls make is longer than what came in: it says more and counts as full. Else prove '..UptoSaid'. A law counts once. -/
mutual
def uptoBulk {H : Type} : DataW H → Nat
  | .lit (.string bytes) => bytes.length + 1
  | .lit _ => 1
  | .nil => 1
  | .ptr d => uptoBulk d + 1
  | .slice elems spare => uptoBulkAll elems + uptoBulkAll spare + 1
  | .agg parts => uptoBulkAll parts + 1
  | .iface _ d => uptoBulk d + 1
  | .map entries => uptoBulkEntries entries + 1
  | .held _ => 1
def uptoBulkAll {H : Type} : List (DataW H) → Nat
  | [] => 0
  | d :: r => uptoBulk d + uptoBulkAll r
def uptoBulkEntries {H : Type} : List (Lit × DataW H) → Nat
  | [] => 0
  | x :: r => uptoBulkEntry x + uptoBulkEntries r
def uptoBulkEntry {H : Type} : Lit × DataW H → Nat
  | (.string bytes, d) => bytes.length + uptoBulk d + 1
  | (_, d) => uptoBulk d + 1
 end
def uptoSmall : (H : Type) → List (DataW H) → Bool := fun _ ds => decide (uptoBulkAll ds ≤ 1048576)
def OpenSpec.upto (s : _root_.Go.ChangeSpec) : _root_.Go.OpenSpec := { _root_.Go.OpenSpec.ofChange s with cond := some uptoSmall }

/-- 'garboardlaw22.BreakerEdges', WHERE WHAT IT READS IS OF BULK AT MOST 1048576: true; the input reads as it did. -/
def breakerEdgesUptoRow : OpenClaim := { program := "ytkpablemeaaeoaa", sum := "aee35ce0c2910aeaed19b6600cf8df1790297823402ddbc46ed664b16d5f2f20", func := "garboard/garboardlaw22.BreakerEdges", spec := "breakerEdges", apart := false, narrowed := true }
def BreakerEdgesUptoSaid : Prop := breakerEdgesUptoRow.holds Try.pinned (OpenSpec.upto breakerEdgesSpec)

/-- 'garboardlaw22.BreakerEnds', WHERE WHAT IT READS IS OF BULK AT MOST 1048576: true; the input reads as it did. -/
def breakerEndsUptoRow : OpenClaim := { program := "ytkpablemeaaeoaa", sum := "aee35ce0c2910aeaed19b6600cf8df1790297823402ddbc46ed664b16d5f2f20", func := "garboard/garboardlaw22.BreakerEnds", spec := "breakerEnds", apart := false, narrowed := true }
def BreakerEndsUptoSaid : Prop := breakerEndsUptoRow.holds Try.pinned (OpenSpec.upto breakerEndsSpec)

/-- 'garboardlaw22.BreakerPlays', WHERE WHAT IT READS IS OF BULK AT MOST 1048576: true; the input reads as it did. -/
def breakerPlaysUptoRow : OpenClaim := { program := "ytkpablemeaaeoaa", sum := "aee35ce0c2910aeaed19b6600cf8df1790297823402ddbc46ed664b16d5f2f20", func := "garboard/garboardlaw22.BreakerPlays", spec := "breakerPlays", apart := false, narrowed := true }
def BreakerPlaysUptoSaid : Prop := breakerPlaysUptoRow.holds Try.pinned (OpenSpec.upto breakerPlaysSpec)

/-- 'garboardlaw22.BreakerNobody', WHERE WHAT IT READS IS OF BULK AT MOST 1048576: true; the input reads as it did. -/
def breakerNobodyUptoRow : OpenClaim := { program := "ytkpablemeaaeoaa", sum := "aee35ce0c2910aeaed19b6600cf8df1790297823402ddbc46ed664b16d5f2f20", func := "garboard/garboardlaw22.BreakerNobody", spec := "breakerNobody", apart := false, narrowed := true }
def BreakerNobodyUptoSaid : Prop := breakerNobodyUptoRow.holds Try.pinned (OpenSpec.upto breakerNobodySpec)

end Rows
end Go.Proofs.Ytkpablemeaaeoaa

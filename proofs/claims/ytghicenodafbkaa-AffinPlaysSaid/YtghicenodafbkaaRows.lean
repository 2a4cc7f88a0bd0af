/-
  No cell of these rows narrows 'for every input' (looked for: loops, veiled, ifaces, maps, wideKeys, modest, calm, conditions, laid).
  DERIVED. THE GIVEN ROWS OF THIS SEAT. 3 by the template 'for every input the law returns true; each argument reads behind the call as it read before'; 0 by the template 'total and deterministic' (their statements: YtghicenodafbkaaTotals.lean).
  GIVEN WITH THE SEED: the statements are not yours to turn. If you find one false, say at which input.
  Laid BY PROGRAM, IN A SANDBOX (cutbox-rows.mjs): the forced cells as the released guide's own fill.sh prints them over the translation 065043da7db55090… (all of the seat's roots in one cut). By AI agents, Wed Nov 11 2026. No macro, syntax, notation, axiom, sorry.
-/
import Derived.Test.YtghicenodafbkaaChecked
import GoSem.Claim
import GoSem.ClaimJoined
import GoSem.ClaimMapViews
import Derived.JoinedTies
import Derived.KernelRfl
namespace Go.Proofs.Ytghicenodafbkaa
/- THE CELL 'sum', in the pinned program and in every row, IS THE sha256 OF THE DUMP (.gsa) THAT YtghicenodafbkaaProg.lean LOADS. Nothing in Lean hashes anything: it is a label: what it is worth is what the hold of that sum in a sandbox is worth. -/
noncomputable def Try.pinned : Pinned := { name := "ytghicenodafbkaa", sum := "065043da7db550907db41b1ebb9ea8922e5cdd2a072273d35125c009a2fb2f9b", checked := Try.checked }
namespace Rows
def none {H : Type} : Left H := { results := [], args := [] }

/-- 'garboardlaw18.AffinKeeps': WHATEVER THE INPUT: true; the input reads as it did. -/
def affinKeepsSpec : ChangeSpec := { name := "affinKeeps", fn := fun _ => fun
  | [d] => { results := [.lit (.bool true)], args := [d] }
  | _ => none }
def affinKeepsRow : OpenClaim := { program := "ytghicenodafbkaa", sum := "065043da7db550907db41b1ebb9ea8922e5cdd2a072273d35125c009a2fb2f9b", func := "garboard/garboardlaw18.AffinKeeps", spec := "affinKeeps", unfollowed := true, recurses := true, apart := false }
def AffinKeepsSaid : Prop := affinKeepsRow.holds Try.pinned (OpenSpec.ofChange affinKeepsSpec)

/-- ITS FALSE NEIGHBOUR: 'it returns false'. Refute it at one input. -/
def affinKeepsWrong : ChangeSpec := { name := "affinKeeps", fn := fun _ => fun
  | [d] => { results := [.lit (.bool false)], args := [d] }
  | _ => none }
def AffinKeepsWrongFalsely : Prop := affinKeepsRow.holds Try.pinned (OpenSpec.ofChange affinKeepsWrong)

/-- 'garboardlaw18.AffinPlays': WHATEVER THE INPUT: true; the input reads as it did. -/
def affinPlaysSpec : ChangeSpec := { name := "affinPlays", fn := fun _ => fun
  | [d1, d2, d3] => { results := [.lit (.bool true)], args := [d1, d2, d3] }
  | _ => none }
def affinPlaysRow : OpenClaim := { program := "ytghicenodafbkaa", sum := "065043da7db550907db41b1ebb9ea8922e5cdd2a072273d35125c009a2fb2f9b", func := "garboard/garboardlaw18.AffinPlays", spec := "affinPlays", unfollowed := true, recurses := true, apart := false }
def AffinPlaysSaid : Prop := affinPlaysRow.holds Try.pinned (OpenSpec.ofChange affinPlaysSpec)

/-- ITS FALSE NEIGHBOUR: 'it returns false'. Refute it at one input. -/
def affinPlaysWrong : ChangeSpec := { name := "affinPlays", fn := fun _ => fun
  | [d1, d2, d3] => { results := [.lit (.bool false)], args := [d1, d2, d3] }
  | _ => none }
def AffinPlaysWrongFalsely : Prop := affinPlaysRow.holds Try.pinned (OpenSpec.ofChange affinPlaysWrong)

/-- 'garboardlaw18.AffinNobody': WHATEVER THE INPUT: true; the input reads as it did. -/
def affinNobodySpec : ChangeSpec := { name := "affinNobody", fn := fun _ => fun
  | [d] => { results := [.lit (.bool true)], args := [d] }
  | _ => none }
def affinNobodyRow : OpenClaim := { program := "ytghicenodafbkaa", sum := "065043da7db550907db41b1ebb9ea8922e5cdd2a072273d35125c009a2fb2f9b", func := "garboard/garboardlaw18.AffinNobody", spec := "affinNobody", unfollowed := true, recurses := true, apart := false }
def AffinNobodySaid : Prop := affinNobodyRow.holds Try.pinned (OpenSpec.ofChange affinNobodySpec)

/-- ITS FALSE NEIGHBOUR: 'it returns false'. Refute it at one input. -/
def affinNobodyWrong : ChangeSpec := { name := "affinNobody", fn := fun _ => fun
  | [d] => { results := [.lit (.bool false)], args := [d] }
  | _ => none }
def AffinNobodyWrongFalsely : Prop := affinNobodyRow.holds Try.pinned (OpenSpec.ofChange affinNobodyWrong)

/- THE SECOND FORM. 'bulk': how many values and letters a reading holds, each counted each time it is reached (what is shared counts as often as it is met; a slice's spare places count too). A statement '..UptoSaid' is the law's where the arguments, and the package variables that the reading takes, are together of bulk at most 1048576: NARROWER than '..Said'. Prove '..Said' where nothing that the law and all that it calls make is longer than what came in: it says more and counts as full. Else prove '..UptoSaid'. A law counts once. -/
mutual
def uptoBulk {H : Type} : DataW H → Nat
  | .lit (.string bytes) => bytes.length + 1
  | .lit _ => 1
  | .nil => 1
  | .ptr d => uptoBulk d + 1
  | .slice elems spare => uptoBulkAll elems + uptoBulkAll spare + 1
  | .agg parts => uptoBulkAll parts + 1
  | .iface _ d => uptoBulk d + 1
  | .map entries => uptoBulkEntries entries + 1
  | .held _ => 1
def uptoBulkAll {H : Type} : List (DataW H) → Nat
  | [] => 0
  | d :: r => uptoBulk d + uptoBulkAll r
def uptoBulkEntries {H : Type} : List (Lit × DataW H) → Nat
  | [] => 0
  | x :: r => uptoBulkEntry x + uptoBulkEntries r
def uptoBulkEntry {H : Type} : Lit × DataW H → Nat
  | (.string bytes, d) => bytes.length + uptoBulk d + 1
  | (_, d) => uptoBulk d + 1
 end
def uptoSmall : (H : Type) → List (DataW H) → Bool := fun _ ds => decide (uptoBulkAll ds ≤ 1048576)
def OpenSpec.upto (s : _root_.Go.ChangeSpec) : _root_.Go.OpenSpec := { _root_.Go.OpenSpec.ofChange s with cond := some uptoSmall }

/-- 'garboardlaw18.AffinKeeps', WHERE WHAT IT READS IS OF BULK AT MOST 1048576: true; the input reads as it did. -/
def affinKeepsUptoRow : OpenClaim := { program := "ytghicenodafbkaa", sum := "065043da7db550907db41b1ebb9ea8922e5cdd2a072273d35125c009a2fb2f9b", func := "garboard/garboardlaw18.AffinKeeps", spec := "affinKeeps", unfollowed := true, recurses := true, apart := false, narrowed := true }
def AffinKeepsUptoSaid : Prop := affinKeepsUptoRow.holds Try.pinned (OpenSpec.upto affinKeepsSpec)

/-- 'garboardlaw18.AffinPlays', WHERE WHAT IT READS IS OF BULK AT MOST 1048576: true; the input reads as it did. -/
def affinPlaysUptoRow : OpenClaim := { program := "ytghicenodafbkaa", sum := "065043da7db550907db41b1ebb9ea8922e5cdd2a072273d35125c009a2fb2f9b", func := "garboard/garboardlaw18.AffinPlays", spec := "affinPlays", unfollowed := true, recurses := true, apart := false, narrowed := true }
def AffinPlaysUptoSaid : Prop := affinPlaysUptoRow.holds Try.pinned (OpenSpec.upto affinPlaysSpec)

/-- 'garboardlaw18.AffinNobody', WHERE WHAT IT READS IS OF BULK AT MOST 1048576: true; the input reads as it did. -/
def affinNobodyUptoRow : OpenClaim := { program := "ytghicenodafbkaa", sum := "065043da7db550907db41b1ebb9ea8922e5cdd2a072273d35125c009a2fb2f9b", func := "garboard/garboardlaw18.AffinNobody", spec := "affinNobody", unfollowed := true, recurses := true, apart := false, narrowed := true }
def AffinNobodyUptoSaid : Prop := affinNobodyUptoRow.holds Try.pinned (OpenSpec.upto affinNobodySpec)

end Rows
end Go.Proofs.Ytghicenodafbkaa

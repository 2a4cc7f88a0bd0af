/-
  No cell of these rows narrows 'for every input' (looked for: loops, veiled, ifaces, maps, wideKeys, modest, calm, conditions, laid).
  DERIVED. THE GIVEN ROWS OF THIS SEAT. 3 by the template 'for every input the law returns true; each argument reads behind the call as it read before'; 0 by the template 'total and deterministic' (their statements: YtiekmjkeoicjfaaTotals.lean).
  GIVEN WITH THE SEED: the statements are not yours to turn. If you find one false, say at which input.
  Laid BY PROGRAM, IN A SANDBOX (cutbox-rows.mjs): the forced cells as the released guide's own fill.sh prints them over the translation 82e727f6c9d5c2e3… (all of the seat's roots in one cut). By AI agents, Wed Nov 11 2026. No macro, syntax, notation, axiom, sorry.
-/
import Derived.Test.YtiekmjkeoicjfaaChecked
import GoSem.Claim
import GoSem.ClaimJoined
import GoSem.ClaimMapViews
import Derived.JoinedTies
import Derived.KernelRfl
namespace Go.Proofs.Ytiekmjkeoicjfaa
/- THE CELL 'sum', in the pinned program and in every row, IS THE sha256 OF THE DUMP (.gsa) THAT YtiekmjkeoicjfaaProg.lean LOADS. Nothing in Lean hashes anything: it is a label: what it is worth is what the hold of that sum in a sandbox is worth. -/
noncomputable def Try.pinned : Pinned := { name := "ytiekmjkeoicjfaa", sum := "82e727f6c9d5c2e37b111aba7714e57d891b2e7687362a12e0f1edc9428f2c0a", checked := Try.checked }
namespace Rows
def none {H : Type} : Left H := { results := [], args := [] }

/-- 'garboardlaw13.PagePlays': WHATEVER THE INPUT: true; the input reads as it did. -/
def pagePlaysSpec : ChangeSpec := { name := "pagePlays", fn := fun _ => fun
  | [d1, d2] => { results := [.lit (.bool true)], args := [d1, d2] }
  | _ => none }
def pagePlaysRow : OpenClaim := { program := "ytiekmjkeoicjfaa", sum := "82e727f6c9d5c2e37b111aba7714e57d891b2e7687362a12e0f1edc9428f2c0a", func := "garboard/garboardlaw13.PagePlays", spec := "pagePlays", unfollowed := true, recurses := true, apart := false }
def PagePlaysSaid : Prop := pagePlaysRow.holds Try.pinned (OpenSpec.ofChange pagePlaysSpec)

/-- ITS FALSE NEIGHBOUR: 'it returns false'. Refute it at one input. -/
def pagePlaysWrong : ChangeSpec := { name := "pagePlays", fn := fun _ => fun
  | [d1, d2] => { results := [.lit (.bool false)], args := [d1, d2] }
  | _ => none }
def PagePlaysWrongFalsely : Prop := pagePlaysRow.holds Try.pinned (OpenSpec.ofChange pagePlaysWrong)

/-- 'garboardlaw13.PageCounts': WHATEVER THE INPUT: true; the input reads as it did. -/
def pageCountsSpec : ChangeSpec := { name := "pageCounts", fn := fun _ => fun
  | [d1, d2] => { results := [.lit (.bool true)], args := [d1, d2] }
  | _ => none }
def pageCountsRow : OpenClaim := { program := "ytiekmjkeoicjfaa", sum := "82e727f6c9d5c2e37b111aba7714e57d891b2e7687362a12e0f1edc9428f2c0a", func := "garboard/garboardlaw13.PageCounts", spec := "pageCounts", unfollowed := true, recurses := true, apart := false }
def PageCountsSaid : Prop := pageCountsRow.holds Try.pinned (OpenSpec.ofChange pageCountsSpec)

/-- ITS FALSE NEIGHBOUR: 'it returns false'. Refute it at one input. -/
def pageCountsWrong : ChangeSpec := { name := "pageCounts", fn := fun _ => fun
  | [d1, d2] => { results := [.lit (.bool false)], args := [d1, d2] }
  | _ => none }
def PageCountsWrongFalsely : Prop := pageCountsRow.holds Try.pinned (OpenSpec.ofChange pageCountsWrong)

/-- 'garboardlaw13.PageNobody': WHATEVER THE INPUT: true; the input reads as it did. -/
def pageNobodySpec : ChangeSpec := { name := "pageNobody", fn := fun _ => fun
  | [d] => { results := [.lit (.bool true)], args := [d] }
  | _ => none }
def pageNobodyRow : OpenClaim := { program := "ytiekmjkeoicjfaa", sum := "82e727f6c9d5c2e37b111aba7714e57d891b2e7687362a12e0f1edc9428f2c0a", func := "garboard/garboardlaw13.PageNobody", spec := "pageNobody", unfollowed := true, recurses := true, apart := false }
def PageNobodySaid : Prop := pageNobodyRow.holds Try.pinned (OpenSpec.ofChange pageNobodySpec)

/-- ITS FALSE NEIGHBOUR: 'it returns false'. Refute it at one input. -/
def pageNobodyWrong : ChangeSpec := { name := "pageNobody", fn := fun _ => fun
  | [d] => { results := [.lit (.bool false)], args := [d] }
  | _ => none }
def PageNobodyWrongFalsely : Prop := pageNobodyRow.holds Try.pinned (OpenSpec.ofChange pageNobodyWrong)

/- THE SECOND FORM. 'bulk': how many values and letters a reading holds, each counted each time it is reached (what is shared counts as often as it is met; a slice's spare places count too). A statement '..UptoSaid' is the law's where the arguments, and the package variables that the reading takes, are together of bulk at most 1048576: NARROWER than '..Said'. Prove '..Said' where nothing that the law and all that it calls make is longer than what came in: it says more and counts as full. Else prove '..UptoSaid'. A law counts once. -/
mutual
def uptoBulk {H : Type} : DataW H → Nat
  | .lit (.string bytes) => bytes.length + 1
  | .lit _ => 1
  | .nil => 1
  | .ptr d => uptoBulk d + 1
  | .slice elems spare => uptoBulkAll elems + uptoBulkAll spare + 1
  | .agg parts => uptoBulkAll parts + 1
  | .iface _ d => uptoBulk d + 1
  | .map entries => uptoBulkEntries entries + 1
  | .held _ => 1
def uptoBulkAll {H : Type} : List (DataW H) → Nat
  | [] => 0
  | d :: r => uptoBulk d + uptoBulkAll r
def uptoBulkEntries {H : Type} : List (Lit × DataW H) → Nat
  | [] => 0
  | x :: r => uptoBulkEntry x + uptoBulkEntries r
def uptoBulkEntry {H : Type} : Lit × DataW H → Nat
  | (.string bytes, d) => bytes.length + uptoBulk d + 1
  | (_, d) => uptoBulk d + 1
 end
def uptoSmall : (H : Type) → List (DataW H) → Bool := fun _ ds => decide (uptoBulkAll ds ≤ 1048576)
def OpenSpec.upto (s : _root_.Go.ChangeSpec) : _root_.Go.OpenSpec := { _root_.Go.OpenSpec.ofChange s with cond := some uptoSmall }

/-- 'garboardlaw13.PagePlays', WHERE WHAT IT READS IS OF BULK AT MOST 1048576: true; the input reads as it did. -/
def pagePlaysUptoRow : OpenClaim := { program := "ytiekmjkeoicjfaa", sum := "82e727f6c9d5c2e37b111aba7714e57d891b2e7687362a12e0f1edc9428f2c0a", func := "garboard/garboardlaw13.PagePlays", spec := "pagePlays", unfollowed := true, recurses := true, apart := false, narrowed := true }
def PagePlaysUptoSaid : Prop := pagePlaysUptoRow.holds Try.pinned (OpenSpec.upto pagePlaysSpec)

/-- 'garboardlaw13.PageCounts', WHERE WHAT IT READS IS OF BULK AT MOST 1048576: true; the input reads as it did. -/
def pageCountsUptoRow : OpenClaim := { program := "ytiekmjkeoicjfaa", sum := "82e727f6c9d5c2e37b111aba7714e57d891b2e7687362a12e0f1edc9428f2c0a", func := "garboard/garboardlaw13.PageCounts", spec := "pageCounts", unfollowed := true, recurses := true, apart := false, narrowed := true }
def PageCountsUptoSaid : Prop := pageCountsUptoRow.holds Try.pinned (OpenSpec.upto pageCountsSpec)

/-- 'garboardlaw13.PageNobody', WHERE WHAT IT READS IS OF BULK AT MOST 1048576: true; the input reads as it did. -/
def pageNobodyUptoRow : OpenClaim := { program := "ytiekmjkeoicjfaa", sum := "82e727f6c9d5c2e37b111aba7714e57d891b2e7687362a12e0f1edc9428f2c0a", func := "garboard/garboardlaw13.PageNobody", spec := "pageNobody", unfollowed := true, recurses := true, apart := false, narrowed := true }
def PageNobodyUptoSaid : Prop := pageNobodyUptoRow.holds Try.pinned (OpenSpec.upto pageNobodySpec)

end Rows
end Go.Proofs.Ytiekmjkeoicjfaa

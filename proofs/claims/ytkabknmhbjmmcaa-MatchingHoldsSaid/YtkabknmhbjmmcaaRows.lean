/-
  No cell of these rows narrows 'for every input' (looked for: loops, veiled, ifaces, maps, wideKeys, modest, calm, conditions, laid).
  DERIVED. THE GIVEN ROWS OF THIS SEAT. 6 by the template 'for every input the law returns true; each argument reads behind the call as it read before'; 0 by the template 'total and deterministic' (their statements: YtkabknmhbjmmcaaTotals.lean).
  GIVEN WITH THE SEED: the statements are not yours to turn. If you find one false, say at which input.
  Laid BY PROGRAM, IN A SANDBOX (cutbox-rows.mjs): the forced cells as the released guide's own fill.sh prints them over the translation 063b5cb7c7bb27e8… (all of the seat's roots in one cut). By AI agents, Wed Nov 11 2026. No macro, syntax, notation, axiom, sorry.
-/
import Derived.Test.YtkabknmhbjmmcaaChecked
import GoSem.Claim
import GoSem.ClaimJoined
import GoSem.ClaimMapViews
import Derived.JoinedTies
import Derived.KernelRfl
namespace Go.Proofs.Ytkabknmhbjmmcaa
/- THE CELL 'sum', in the pinned program and in every row, IS THE sha256 OF THE DUMP (.gsa) THAT YtkabknmhbjmmcaaProg.lean LOADS. Nothing in Lean hashes anything: it is a label: what it is worth is what the hold of that sum in a sandbox is worth. -/
noncomputable def Try.pinned : Pinned := { name := "ytkabknmhbjmmcaa", sum := "063b5cb7c7bb27e87953dc6872c7401143d14bbe9142f0a2d43ae974a77dfaa1", checked := Try.checked }
namespace Rows
def none {H : Type} : Left H := { results := [], args := [] }

/-- 'skylanternlaw11.MatchingValid': WHATEVER THE INPUT: true; the input reads as it did. -/
def matchingValidSpec : ChangeSpec := { name := "matchingValid", fn := fun _ => fun
  | [d1, d2, d3] => { results := [.lit (.bool true)], args := [d1, d2, d3] }
  | _ => none }
def matchingValidRow : OpenClaim := { program := "ytkabknmhbjmmcaa", sum := "063b5cb7c7bb27e87953dc6872c7401143d14bbe9142f0a2d43ae974a77dfaa1", func := "skylantern/skylanternlaw11.MatchingValid", spec := "matchingValid", recurses := true, apart := false }
def MatchingValidSaid : Prop := matchingValidRow.holds Try.pinned (OpenSpec.ofChange matchingValidSpec)

/-- ITS FALSE NEIGHBOUR: 'it returns false'. Refute it at one input. -/
def matchingValidWrong : ChangeSpec := { name := "matchingValid", fn := fun _ => fun
  | [d1, d2, d3] => { results := [.lit (.bool false)], args := [d1, d2, d3] }
  | _ => none }
def MatchingValidWrongFalsely : Prop := matchingValidRow.holds Try.pinned (OpenSpec.ofChange matchingValidWrong)

/-- 'skylanternlaw11.MatchingChecks': WHATEVER THE INPUT: true; the input reads as it did. -/
def matchingChecksSpec : ChangeSpec := { name := "matchingChecks", fn := fun _ => fun
  | [d1, d2, d3] => { results := [.lit (.bool true)], args := [d1, d2, d3] }
  | _ => none }
def matchingChecksRow : OpenClaim := { program := "ytkabknmhbjmmcaa", sum := "063b5cb7c7bb27e87953dc6872c7401143d14bbe9142f0a2d43ae974a77dfaa1", func := "skylantern/skylanternlaw11.MatchingChecks", spec := "matchingChecks", recurses := true, apart := false }
def MatchingChecksSaid : Prop := matchingChecksRow.holds Try.pinned (OpenSpec.ofChange matchingChecksSpec)

/-- ITS FALSE NEIGHBOUR: 'it returns false'. Refute it at one input. -/
def matchingChecksWrong : ChangeSpec := { name := "matchingChecks", fn := fun _ => fun
  | [d1, d2, d3] => { results := [.lit (.bool false)], args := [d1, d2, d3] }
  | _ => none }
def MatchingChecksWrongFalsely : Prop := matchingChecksRow.holds Try.pinned (OpenSpec.ofChange matchingChecksWrong)

/-- 'skylanternlaw11.MatchingGreatest': WHATEVER THE INPUT: true; the input reads as it did. -/
def matchingGreatestSpec : ChangeSpec := { name := "matchingGreatest", fn := fun _ => fun
  | [d] => { results := [.lit (.bool true)], args := [d] }
  | _ => none }
def matchingGreatestRow : OpenClaim := { program := "ytkabknmhbjmmcaa", sum := "063b5cb7c7bb27e87953dc6872c7401143d14bbe9142f0a2d43ae974a77dfaa1", func := "skylantern/skylanternlaw11.MatchingGreatest", spec := "matchingGreatest", recurses := true, apart := false }
def MatchingGreatestSaid : Prop := matchingGreatestRow.holds Try.pinned (OpenSpec.ofChange matchingGreatestSpec)

/-- ITS FALSE NEIGHBOUR: 'it returns false'. Refute it at one input. -/
def matchingGreatestWrong : ChangeSpec := { name := "matchingGreatest", fn := fun _ => fun
  | [d] => { results := [.lit (.bool false)], args := [d] }
  | _ => none }
def MatchingGreatestWrongFalsely : Prop := matchingGreatestRow.holds Try.pinned (OpenSpec.ofChange matchingGreatestWrong)

/-- 'skylanternlaw11.MatchingCovers': WHATEVER THE INPUT: true; the input reads as it did. -/
def matchingCoversSpec : ChangeSpec := { name := "matchingCovers", fn := fun _ => fun
  | [d] => { results := [.lit (.bool true)], args := [d] }
  | _ => none }
def matchingCoversRow : OpenClaim := { program := "ytkabknmhbjmmcaa", sum := "063b5cb7c7bb27e87953dc6872c7401143d14bbe9142f0a2d43ae974a77dfaa1", func := "skylantern/skylanternlaw11.MatchingCovers", spec := "matchingCovers", recurses := true, apart := false }
def MatchingCoversSaid : Prop := matchingCoversRow.holds Try.pinned (OpenSpec.ofChange matchingCoversSpec)

/-- ITS FALSE NEIGHBOUR: 'it returns false'. Refute it at one input. -/
def matchingCoversWrong : ChangeSpec := { name := "matchingCovers", fn := fun _ => fun
  | [d] => { results := [.lit (.bool false)], args := [d] }
  | _ => none }
def MatchingCoversWrongFalsely : Prop := matchingCoversRow.holds Try.pinned (OpenSpec.ofChange matchingCoversWrong)

/-- 'skylanternlaw11.MatchingLarge': WHATEVER THE INPUT: true; the input reads as it did. -/
def matchingLargeSpec : ChangeSpec := { name := "matchingLarge", fn := fun _ => fun
  | [d1, d2, d3, d4, d5] => { results := [.lit (.bool true)], args := [d1, d2, d3, d4, d5] }
  | _ => none }
def matchingLargeRow : OpenClaim := { program := "ytkabknmhbjmmcaa", sum := "063b5cb7c7bb27e87953dc6872c7401143d14bbe9142f0a2d43ae974a77dfaa1", func := "skylantern/skylanternlaw11.MatchingLarge", spec := "matchingLarge", recurses := true, apart := false }
def MatchingLargeSaid : Prop := matchingLargeRow.holds Try.pinned (OpenSpec.ofChange matchingLargeSpec)

/-- ITS FALSE NEIGHBOUR: 'it returns false'. Refute it at one input. -/
def matchingLargeWrong : ChangeSpec := { name := "matchingLarge", fn := fun _ => fun
  | [d1, d2, d3, d4, d5] => { results := [.lit (.bool false)], args := [d1, d2, d3, d4, d5] }
  | _ => none }
def MatchingLargeWrongFalsely : Prop := matchingLargeRow.holds Try.pinned (OpenSpec.ofChange matchingLargeWrong)

/-- 'skylanternlaw11.MatchingHolds': WHATEVER THE INPUT: true; the input reads as it did. -/
def matchingHoldsSpec : ChangeSpec := { name := "matchingHolds", fn := fun _ => fun
  | [d1, d2, d3, d4, d5] => { results := [.lit (.bool true)], args := [d1, d2, d3, d4, d5] }
  | _ => none }
def matchingHoldsRow : OpenClaim := { program := "ytkabknmhbjmmcaa", sum := "063b5cb7c7bb27e87953dc6872c7401143d14bbe9142f0a2d43ae974a77dfaa1", func := "skylantern/skylanternlaw11.MatchingHolds", spec := "matchingHolds", recurses := true, apart := false }
def MatchingHoldsSaid : Prop := matchingHoldsRow.holds Try.pinned (OpenSpec.ofChange matchingHoldsSpec)

/-- ITS FALSE NEIGHBOUR: 'it returns false'. Refute it at one input. -/
def matchingHoldsWrong : ChangeSpec := { name := "matchingHolds", fn := fun _ => fun
  | [d1, d2, d3, d4, d5] => { results := [.lit (.bool false)], args := [d1, d2, d3, d4, d5] }
  | _ => none }
def MatchingHoldsWrongFalsely : Prop := matchingHoldsRow.holds Try.pinned (OpenSpec.ofChange matchingHoldsWrong)

/- THE SECOND FORM. 'bulk': how many values and letters a reading holds, each counted each time it is reached (what is shared counts as often as it is met; a slice's spare places count too). A statement '..UptoSaid' is the law's where the arguments, and the package variables that the reading takes, are together of bulk at most 1048576: NARROWER than '..Said'. Prove '..Said' where nothing that the law and all that it calls make is longer than what came in: it says more and counts as full. Else prove '..UptoSaid'. A law counts once. -/
mutual
def uptoBulk {H : Type} : DataW H → Nat
  | .lit (.string bytes) => bytes.length + 1
  | .lit _ => 1
  | .nil => 1
  | .ptr d => uptoBulk d + 1
  | .slice elems spare => uptoBulkAll elems + uptoBulkAll spare + 1
  | .agg parts => uptoBulkAll parts + 1
  | .iface _ d => uptoBulk d + 1
  | .map entries => uptoBulkEntries entries + 1
  | .held _ => 1
def uptoBulkAll {H : Type} : List (DataW H) → Nat
  | [] => 0
  | d :: r => uptoBulk d + uptoBulkAll r
def uptoBulkEntries {H : Type} : List (Lit × DataW H) → Nat
  | [] => 0
  | x :: r => uptoBulkEntry x + uptoBulkEntries r
def uptoBulkEntry {H : Type} : Lit × DataW H → Nat
  | (.string bytes, d) => bytes.length + uptoBulk d + 1
  | (_, d) => uptoBulk d + 1
 end
def uptoSmall : (H : Type) → List (DataW H) → Bool := fun _ ds => decide (uptoBulkAll ds ≤ 1048576)
def OpenSpec.upto (s : _root_.Go.ChangeSpec) : _root_.Go.OpenSpec := { _root_.Go.OpenSpec.ofChange s with cond := some uptoSmall }

/-- 'skylanternlaw11.MatchingValid', WHERE WHAT IT READS IS OF BULK AT MOST 1048576: true; the input reads as it did. -/
def matchingValidUptoRow : OpenClaim := { program := "ytkabknmhbjmmcaa", sum := "063b5cb7c7bb27e87953dc6872c7401143d14bbe9142f0a2d43ae974a77dfaa1", func := "skylantern/skylanternlaw11.MatchingValid", spec := "matchingValid", recurses := true, apart := false, narrowed := true }
def MatchingValidUptoSaid : Prop := matchingValidUptoRow.holds Try.pinned (OpenSpec.upto matchingValidSpec)

/-- 'skylanternlaw11.MatchingChecks', WHERE WHAT IT READS IS OF BULK AT MOST 1048576: true; the input reads as it did. -/
def matchingChecksUptoRow : OpenClaim := { program := "ytkabknmhbjmmcaa", sum := "063b5cb7c7bb27e87953dc6872c7401143d14bbe9142f0a2d43ae974a77dfaa1", func := "skylantern/skylanternlaw11.MatchingChecks", spec := "matchingChecks", recurses := true, apart := false, narrowed := true }
def MatchingChecksUptoSaid : Prop := matchingChecksUptoRow.holds Try.pinned (OpenSpec.upto matchingChecksSpec)

/-- 'skylanternlaw11.MatchingGreatest', WHERE WHAT IT READS IS OF BULK AT MOST 1048576: true; the input reads as it did. -/
def matchingGreatestUptoRow : OpenClaim := { program := "ytkabknmhbjmmcaa", sum := "063b5cb7c7bb27e87953dc6872c7401143d14bbe9142f0a2d43ae974a77dfaa1", func := "skylantern/skylanternlaw11.MatchingGreatest", spec := "matchingGreatest", recurses := true, apart := false, narrowed := true }
def MatchingGreatestUptoSaid : Prop := matchingGreatestUptoRow.holds Try.pinned (OpenSpec.upto matchingGreatestSpec)

/-- 'skylanternlaw11.MatchingCovers', WHERE WHAT IT READS IS OF BULK AT MOST 1048576: true; the input reads as it did. -/
def matchingCoversUptoRow : OpenClaim := { program := "ytkabknmhbjmmcaa", sum := "063b5cb7c7bb27e87953dc6872c7401143d14bbe9142f0a2d43ae974a77dfaa1", func := "skylantern/skylanternlaw11.MatchingCovers", spec := "matchingCovers", recurses := true, apart := false, narrowed := true }
def MatchingCoversUptoSaid : Prop := matchingCoversUptoRow.holds Try.pinned (OpenSpec.upto matchingCoversSpec)

/-- 'skylanternlaw11.MatchingLarge', WHERE WHAT IT READS IS OF BULK AT MOST 1048576: true; the input reads as it did. -/
def matchingLargeUptoRow : OpenClaim := { program := "ytkabknmhbjmmcaa", sum := "063b5cb7c7bb27e87953dc6872c7401143d14bbe9142f0a2d43ae974a77dfaa1", func := "skylantern/skylanternlaw11.MatchingLarge", spec := "matchingLarge", recurses := true, apart := false, narrowed := true }
def MatchingLargeUptoSaid : Prop := matchingLargeUptoRow.holds Try.pinned (OpenSpec.upto matchingLargeSpec)

/-- 'skylanternlaw11.MatchingHolds', WHERE WHAT IT READS IS OF BULK AT MOST 1048576: true; the input reads as it did. -/
def matchingHoldsUptoRow : OpenClaim := { program := "ytkabknmhbjmmcaa", sum := "063b5cb7c7bb27e87953dc6872c7401143d14bbe9142f0a2d43ae974a77dfaa1", func := "skylantern/skylanternlaw11.MatchingHolds", spec := "matchingHolds", recurses := true, apart := false, narrowed := true }
def MatchingHoldsUptoSaid : Prop := matchingHoldsUptoRow.holds Try.pinned (OpenSpec.upto matchingHoldsSpec)

end Rows
end Go.Proofs.Ytkabknmhbjmmcaa

/-
  No cell of these rows narrows 'for every input' (looked for: loops, veiled, ifaces, maps, wideKeys, modest, calm, conditions, laid).
  DERIVED. THE GIVEN ROWS OF THIS SEAT. 5 by the template 'for every input the law returns true; each argument reads behind the call as it read before'; 0 by the template 'total and deterministic' (their statements: YtjiknjcmfiapjaaTotals.lean).
  GIVEN WITH THE SEED: the statements are not yours to turn. If you find one false, say at which input.
  Laid BY PROGRAM, IN A SANDBOX (cutbox-rows.mjs): the forced cells as the released guide's own fill.sh prints them over the translation 044e08741c17a580… (all of the seat's roots in one cut). By AI agents, Wed Nov 11 2026. No macro, syntax, notation, axiom, sorry.
-/
import Derived.Test.YtjiknjcmfiapjaaChecked
import GoSem.Claim
import GoSem.ClaimJoined
import GoSem.ClaimMapViews
import Derived.JoinedTies
import Derived.KernelRfl
namespace Go.Proofs.Ytjiknjcmfiapjaa
/- THE CELL 'sum', in the pinned program and in every row, IS THE sha256 OF THE DUMP (.gsa) THAT YtjiknjcmfiapjaaProg.lean LOADS. Nothing in Lean hashes anything: it is a label: what it is worth is what the hold of that sum in a sandbox is worth. -/
noncomputable def Try.pinned : Pinned := { name := "ytjiknjcmfiapjaa", sum := "044e08741c17a58001d258214598be13a6393f5c057c828d03dc5c57e7025fe4", checked := Try.checked }
namespace Rows
def none {H : Type} : Left H := { results := [], args := [] }

/-- 'skylanternlaw12.BottleneckChecks': WHATEVER THE INPUT: true; the input reads as it did. -/
def bottleneckChecksSpec : ChangeSpec := { name := "bottleneckChecks", fn := fun _ => fun
  | [d1, d2, d3] => { results := [.lit (.bool true)], args := [d1, d2, d3] }
  | _ => none }
def bottleneckChecksRow : OpenClaim := { program := "ytjiknjcmfiapjaa", sum := "044e08741c17a58001d258214598be13a6393f5c057c828d03dc5c57e7025fe4", func := "skylantern/skylanternlaw12.BottleneckChecks", spec := "bottleneckChecks", unfollowed := true, recurses := true, apart := false }
def BottleneckChecksSaid : Prop := bottleneckChecksRow.holds Try.pinned (OpenSpec.ofChange bottleneckChecksSpec)

/-- ITS FALSE NEIGHBOUR: 'it returns false'. Refute it at one input. -/
def bottleneckChecksWrong : ChangeSpec := { name := "bottleneckChecks", fn := fun _ => fun
  | [d1, d2, d3] => { results := [.lit (.bool false)], args := [d1, d2, d3] }
  | _ => none }
def BottleneckChecksWrongFalsely : Prop := bottleneckChecksRow.holds Try.pinned (OpenSpec.ofChange bottleneckChecksWrong)

/-- 'skylanternlaw12.BottleneckHolds': WHATEVER THE INPUT: true; the input reads as it did. -/
def bottleneckHoldsSpec : ChangeSpec := { name := "bottleneckHolds", fn := fun _ => fun
  | [d1, d2, d3, d4, d5, d6, d7] => { results := [.lit (.bool true)], args := [d1, d2, d3, d4, d5, d6, d7] }
  | _ => none }
def bottleneckHoldsRow : OpenClaim := { program := "ytjiknjcmfiapjaa", sum := "044e08741c17a58001d258214598be13a6393f5c057c828d03dc5c57e7025fe4", func := "skylantern/skylanternlaw12.BottleneckHolds", spec := "bottleneckHolds", unfollowed := true, recurses := true, apart := false }
def BottleneckHoldsSaid : Prop := bottleneckHoldsRow.holds Try.pinned (OpenSpec.ofChange bottleneckHoldsSpec)

/-- ITS FALSE NEIGHBOUR: 'it returns false'. Refute it at one input. -/
def bottleneckHoldsWrong : ChangeSpec := { name := "bottleneckHolds", fn := fun _ => fun
  | [d1, d2, d3, d4, d5, d6, d7] => { results := [.lit (.bool false)], args := [d1, d2, d3, d4, d5, d6, d7] }
  | _ => none }
def BottleneckHoldsWrongFalsely : Prop := bottleneckHoldsRow.holds Try.pinned (OpenSpec.ofChange bottleneckHoldsWrong)

/-- 'skylanternlaw12.BottleneckOf': WHATEVER THE INPUT: true; the input reads as it did. -/
def bottleneckOfSpec : ChangeSpec := { name := "bottleneckOf", fn := fun _ => fun
  | [d1, d2, d3] => { results := [.lit (.bool true)], args := [d1, d2, d3] }
  | _ => none }
def bottleneckOfRow : OpenClaim := { program := "ytjiknjcmfiapjaa", sum := "044e08741c17a58001d258214598be13a6393f5c057c828d03dc5c57e7025fe4", func := "skylantern/skylanternlaw12.BottleneckOf", spec := "bottleneckOf", unfollowed := true, recurses := true, apart := false }
def BottleneckOfSaid : Prop := bottleneckOfRow.holds Try.pinned (OpenSpec.ofChange bottleneckOfSpec)

/-- ITS FALSE NEIGHBOUR: 'it returns false'. Refute it at one input. -/
def bottleneckOfWrong : ChangeSpec := { name := "bottleneckOf", fn := fun _ => fun
  | [d1, d2, d3] => { results := [.lit (.bool false)], args := [d1, d2, d3] }
  | _ => none }
def BottleneckOfWrongFalsely : Prop := bottleneckOfRow.holds Try.pinned (OpenSpec.ofChange bottleneckOfWrong)

/-- 'skylanternlaw12.BottleneckBest': WHATEVER THE INPUT: true; the input reads as it did. -/
def bottleneckBestSpec : ChangeSpec := { name := "bottleneckBest", fn := fun _ => fun
  | [d] => { results := [.lit (.bool true)], args := [d] }
  | _ => none }
def bottleneckBestRow : OpenClaim := { program := "ytjiknjcmfiapjaa", sum := "044e08741c17a58001d258214598be13a6393f5c057c828d03dc5c57e7025fe4", func := "skylantern/skylanternlaw12.BottleneckBest", spec := "bottleneckBest", unfollowed := true, recurses := true, apart := false }
def BottleneckBestSaid : Prop := bottleneckBestRow.holds Try.pinned (OpenSpec.ofChange bottleneckBestSpec)

/-- ITS FALSE NEIGHBOUR: 'it returns false'. Refute it at one input. -/
def bottleneckBestWrong : ChangeSpec := { name := "bottleneckBest", fn := fun _ => fun
  | [d] => { results := [.lit (.bool false)], args := [d] }
  | _ => none }
def BottleneckBestWrongFalsely : Prop := bottleneckBestRow.holds Try.pinned (OpenSpec.ofChange bottleneckBestWrong)

/-- 'skylanternlaw12.BottleneckLarge': WHATEVER THE INPUT: true; the input reads as it did. -/
def bottleneckLargeSpec : ChangeSpec := { name := "bottleneckLarge", fn := fun _ => fun
  | [d1, d2, d3, d4, d5, d6] => { results := [.lit (.bool true)], args := [d1, d2, d3, d4, d5, d6] }
  | _ => none }
def bottleneckLargeRow : OpenClaim := { program := "ytjiknjcmfiapjaa", sum := "044e08741c17a58001d258214598be13a6393f5c057c828d03dc5c57e7025fe4", func := "skylantern/skylanternlaw12.BottleneckLarge", spec := "bottleneckLarge", unfollowed := true, recurses := true, apart := false }
def BottleneckLargeSaid : Prop := bottleneckLargeRow.holds Try.pinned (OpenSpec.ofChange bottleneckLargeSpec)

/-- ITS FALSE NEIGHBOUR: 'it returns false'. Refute it at one input. -/
def bottleneckLargeWrong : ChangeSpec := { name := "bottleneckLarge", fn := fun _ => fun
  | [d1, d2, d3, d4, d5, d6] => { results := [.lit (.bool false)], args := [d1, d2, d3, d4, d5, d6] }
  | _ => none }
def BottleneckLargeWrongFalsely : Prop := bottleneckLargeRow.holds Try.pinned (OpenSpec.ofChange bottleneckLargeWrong)

/- THE SECOND FORM. 'bulk': how many values and letters a reading holds, each counted each time it is reached (what is shared counts as often as it is met; a slice's spare places count too). A statement '..UptoSaid' is the law's where the arguments, and the package variables that the reading takes, are together of bulk at most 1048576: NARROWER than '..Said'. Prove '..Said' where nothing that the law and all that it calls make is longer than what came in: it says more and counts as full. Else prove '..UptoSaid'. A law counts once. -/
mutual
def uptoBulk {H : Type} : DataW H → Nat
  | .lit (.string bytes) => bytes.length + 1
  | .lit _ => 1
  | .nil => 1
  | .ptr d => uptoBulk d + 1
  | .slice elems spare => uptoBulkAll elems + uptoBulkAll spare + 1
  | .agg parts => uptoBulkAll parts + 1
  | .iface _ d => uptoBulk d + 1
  | .map entries => uptoBulkEntries entries + 1
  | .held _ => 1
def uptoBulkAll {H : Type} : List (DataW H) → Nat
  | [] => 0
  | d :: r => uptoBulk d + uptoBulkAll r
def uptoBulkEntries {H : Type} : List (Lit × DataW H) → Nat
  | [] => 0
  | x :: r => uptoBulkEntry x + uptoBulkEntries r
def uptoBulkEntry {H : Type} : Lit × DataW H → Nat
  | (.string bytes, d) => bytes.length + uptoBulk d + 1
  | (_, d) => uptoBulk d + 1
 end
def uptoSmall : (H : Type) → List (DataW H) → Bool := fun _ ds => decide (uptoBulkAll ds ≤ 1048576)
def OpenSpec.upto (s : _root_.Go.ChangeSpec) : _root_.Go.OpenSpec := { _root_.Go.OpenSpec.ofChange s with cond := some uptoSmall }

/-- 'skylanternlaw12.BottleneckChecks', WHERE WHAT IT READS IS OF BULK AT MOST 1048576: true; the input reads as it did. -/
def bottleneckChecksUptoRow : OpenClaim := { program := "ytjiknjcmfiapjaa", sum := "044e08741c17a58001d258214598be13a6393f5c057c828d03dc5c57e7025fe4", func := "skylantern/skylanternlaw12.BottleneckChecks", spec := "bottleneckChecks", unfollowed := true, recurses := true, apart := false, narrowed := true }
def BottleneckChecksUptoSaid : Prop := bottleneckChecksUptoRow.holds Try.pinned (OpenSpec.upto bottleneckChecksSpec)

/-- 'skylanternlaw12.BottleneckHolds', WHERE WHAT IT READS IS OF BULK AT MOST 1048576: true; the input reads as it did. -/
def bottleneckHoldsUptoRow : OpenClaim := { program := "ytjiknjcmfiapjaa", sum := "044e08741c17a58001d258214598be13a6393f5c057c828d03dc5c57e7025fe4", func := "skylantern/skylanternlaw12.BottleneckHolds", spec := "bottleneckHolds", unfollowed := true, recurses := true, apart := false, narrowed := true }
def BottleneckHoldsUptoSaid : Prop := bottleneckHoldsUptoRow.holds Try.pinned (OpenSpec.upto bottleneckHoldsSpec)

/-- 'skylanternlaw12.BottleneckOf', WHERE WHAT IT READS IS OF BULK AT MOST 1048576: true; the input reads as it did. -/
def bottleneckOfUptoRow : OpenClaim := { program := "ytjiknjcmfiapjaa", sum := "044e08741c17a58001d258214598be13a6393f5c057c828d03dc5c57e7025fe4", func := "skylantern/skylanternlaw12.BottleneckOf", spec := "bottleneckOf", unfollowed := true, recurses := true, apart := false, narrowed := true }
def BottleneckOfUptoSaid : Prop := bottleneckOfUptoRow.holds Try.pinned (OpenSpec.upto bottleneckOfSpec)

/-- 'skylanternlaw12.BottleneckBest', WHERE WHAT IT READS IS OF BULK AT MOST 1048576: true; the input reads as it did. -/
def bottleneckBestUptoRow : OpenClaim := { program := "ytjiknjcmfiapjaa", sum := "044e08741c17a58001d258214598be13a6393f5c057c828d03dc5c57e7025fe4", func := "skylantern/skylanternlaw12.BottleneckBest", spec := "bottleneckBest", unfollowed := true, recurses := true, apart := false, narrowed := true }
def BottleneckBestUptoSaid : Prop := bottleneckBestUptoRow.holds Try.pinned (OpenSpec.upto bottleneckBestSpec)

/-- 'skylanternlaw12.BottleneckLarge', WHERE WHAT IT READS IS OF BULK AT MOST 1048576: true; the input reads as it did. -/
def bottleneckLargeUptoRow : OpenClaim := { program := "ytjiknjcmfiapjaa", sum := "044e08741c17a58001d258214598be13a6393f5c057c828d03dc5c57e7025fe4", func := "skylantern/skylanternlaw12.BottleneckLarge", spec := "bottleneckLarge", unfollowed := true, recurses := true, apart := false, narrowed := true }
def BottleneckLargeUptoSaid : Prop := bottleneckLargeUptoRow.holds Try.pinned (OpenSpec.upto bottleneckLargeSpec)

end Rows
end Go.Proofs.Ytjiknjcmfiapjaa

/-
  No cell of these rows narrows 'for every input' (looked for: loops, veiled, ifaces, maps, wideKeys, modest, calm, conditions, laid).
  DERIVED. THE GIVEN ROWS OF THIS SEAT. 5 by the template 'for every input the law returns true; each argument reads behind the call as it read before'; 0 by the template 'total and deterministic' (their statements: YtoaakjkflcjkhaaTotals.lean).
  GIVEN WITH THE SEED: the statements are not yours to turn. If you find one false, say at which input.
  Laid BY PROGRAM, IN A SANDBOX (cutbox-rows.mjs): the forced cells as the released guide's own fill.sh prints them over the translation 664f84ac5934a3c8… (all of the seat's roots in one cut). By AI agents, Wed Nov 11 2026. No macro, syntax, notation, axiom, sorry.
-/
import Derived.Test.YtoaakjkflcjkhaaChecked
import GoSem.Claim
import GoSem.ClaimJoined
import GoSem.ClaimMapViews
import Derived.JoinedTies
import Derived.KernelRfl
namespace Go.Proofs.Ytoaakjkflcjkhaa
/- THE CELL 'sum', in the pinned program and in every row, IS THE sha256 OF THE DUMP (.gsa) THAT YtoaakjkflcjkhaaProg.lean LOADS. Nothing in Lean hashes anything: it is a label: what it is worth is what the hold of that sum in a sandbox is worth. -/
noncomputable def Try.pinned : Pinned := { name := "ytoaakjkflcjkhaa", sum := "664f84ac5934a3c84d8e538aecd6230bf1e20730ecb69daa27f026c5a65b19b1", checked := Try.checked }
namespace Rows
def none {H : Type} : Left H := { results := [], args := [] }

/-- 'skylanternlaw22.GridSpots': WHATEVER THE INPUT: true; the input reads as it did. -/
def gridSpotsSpec : ChangeSpec := { name := "gridSpots", fn := fun _ => fun
  | [d1, d2, d3, d4] => { results := [.lit (.bool true)], args := [d1, d2, d3, d4] }
  | _ => none }
def gridSpotsRow : OpenClaim := { program := "ytoaakjkflcjkhaa", sum := "664f84ac5934a3c84d8e538aecd6230bf1e20730ecb69daa27f026c5a65b19b1", func := "skylantern/skylanternlaw22.GridSpots", spec := "gridSpots", unfollowed := true, recurses := true, apart := false }
def GridSpotsSaid : Prop := gridSpotsRow.holds Try.pinned (OpenSpec.ofChange gridSpotsSpec)

/-- ITS FALSE NEIGHBOUR: 'it returns false'. Refute it at one input. -/
def gridSpotsWrong : ChangeSpec := { name := "gridSpots", fn := fun _ => fun
  | [d1, d2, d3, d4] => { results := [.lit (.bool false)], args := [d1, d2, d3, d4] }
  | _ => none }
def GridSpotsWrongFalsely : Prop := gridSpotsRow.holds Try.pinned (OpenSpec.ofChange gridSpotsWrong)

/-- 'skylanternlaw22.GridNeighbours': WHATEVER THE INPUT: true; the input reads as it did. -/
def gridNeighboursSpec : ChangeSpec := { name := "gridNeighbours", fn := fun _ => fun
  | [d1, d2] => { results := [.lit (.bool true)], args := [d1, d2] }
  | _ => none }
def gridNeighboursRow : OpenClaim := { program := "ytoaakjkflcjkhaa", sum := "664f84ac5934a3c84d8e538aecd6230bf1e20730ecb69daa27f026c5a65b19b1", func := "skylantern/skylanternlaw22.GridNeighbours", spec := "gridNeighbours", unfollowed := true, recurses := true, apart := false }
def GridNeighboursSaid : Prop := gridNeighboursRow.holds Try.pinned (OpenSpec.ofChange gridNeighboursSpec)

/-- ITS FALSE NEIGHBOUR: 'it returns false'. Refute it at one input. -/
def gridNeighboursWrong : ChangeSpec := { name := "gridNeighbours", fn := fun _ => fun
  | [d1, d2] => { results := [.lit (.bool false)], args := [d1, d2] }
  | _ => none }
def GridNeighboursWrongFalsely : Prop := gridNeighboursRow.holds Try.pinned (OpenSpec.ofChange gridNeighboursWrong)

/-- 'skylanternlaw22.GridNear': WHATEVER THE INPUT: true; the input reads as it did. -/
def gridNearSpec : ChangeSpec := { name := "gridNear", fn := fun _ => fun
  | [d1, d2] => { results := [.lit (.bool true)], args := [d1, d2] }
  | _ => none }
def gridNearRow : OpenClaim := { program := "ytoaakjkflcjkhaa", sum := "664f84ac5934a3c84d8e538aecd6230bf1e20730ecb69daa27f026c5a65b19b1", func := "skylantern/skylanternlaw22.GridNear", spec := "gridNear", unfollowed := true, recurses := true, apart := false }
def GridNearSaid : Prop := gridNearRow.holds Try.pinned (OpenSpec.ofChange gridNearSpec)

/-- ITS FALSE NEIGHBOUR: 'it returns false'. Refute it at one input. -/
def gridNearWrong : ChangeSpec := { name := "gridNear", fn := fun _ => fun
  | [d1, d2] => { results := [.lit (.bool false)], args := [d1, d2] }
  | _ => none }
def GridNearWrongFalsely : Prop := gridNearRow.holds Try.pinned (OpenSpec.ofChange gridNearWrong)

/-- 'skylanternlaw22.GridAssigns': WHATEVER THE INPUT: true; the input reads as it did. -/
def gridAssignsSpec : ChangeSpec := { name := "gridAssigns", fn := fun _ => fun
  | [d1, d2] => { results := [.lit (.bool true)], args := [d1, d2] }
  | _ => none }
def gridAssignsRow : OpenClaim := { program := "ytoaakjkflcjkhaa", sum := "664f84ac5934a3c84d8e538aecd6230bf1e20730ecb69daa27f026c5a65b19b1", func := "skylantern/skylanternlaw22.GridAssigns", spec := "gridAssigns", unfollowed := true, recurses := true, apart := false }
def GridAssignsSaid : Prop := gridAssignsRow.holds Try.pinned (OpenSpec.ofChange gridAssignsSpec)

/-- ITS FALSE NEIGHBOUR: 'it returns false'. Refute it at one input. -/
def gridAssignsWrong : ChangeSpec := { name := "gridAssigns", fn := fun _ => fun
  | [d1, d2] => { results := [.lit (.bool false)], args := [d1, d2] }
  | _ => none }
def GridAssignsWrongFalsely : Prop := gridAssignsRow.holds Try.pinned (OpenSpec.ofChange gridAssignsWrong)

/-- 'skylanternlaw22.GridHolds': WHATEVER THE INPUT: true; the input reads as it did. -/
def gridHoldsSpec : ChangeSpec := { name := "gridHolds", fn := fun _ => fun
  | [d1, d2, d3, d4] => { results := [.lit (.bool true)], args := [d1, d2, d3, d4] }
  | _ => none }
def gridHoldsRow : OpenClaim := { program := "ytoaakjkflcjkhaa", sum := "664f84ac5934a3c84d8e538aecd6230bf1e20730ecb69daa27f026c5a65b19b1", func := "skylantern/skylanternlaw22.GridHolds", spec := "gridHolds", unfollowed := true, recurses := true, apart := false }
def GridHoldsSaid : Prop := gridHoldsRow.holds Try.pinned (OpenSpec.ofChange gridHoldsSpec)

/-- ITS FALSE NEIGHBOUR: 'it returns false'. Refute it at one input. -/
def gridHoldsWrong : ChangeSpec := { name := "gridHolds", fn := fun _ => fun
  | [d1, d2, d3, d4] => { results := [.lit (.bool false)], args := [d1, d2, d3, d4] }
  | _ => none }
def GridHoldsWrongFalsely : Prop := gridHoldsRow.holds Try.pinned (OpenSpec.ofChange gridHoldsWrong)

/- THE SECOND FORM. 'bulk': how many values and letters a reading holds, each counted each time it is reached (what is shared counts as often as it is met; a slice's spare places count too). A statement '..UptoSaid' is the law's where the arguments, and the package variables that the reading takes, are together of bulk at most 1048576: NARROWER than '..Said'. Prove '..Said' where nothing that the law and all that it calls make is longer than what came in: it says more and counts as full. Else prove '..UptoSaid'. A law counts once. -/
mutual
def uptoBulk {H : Type} : DataW H → Nat
  | .lit (.string bytes) => bytes.length + 1
  | .lit _ => 1
  | .nil => 1
  | .ptr d => uptoBulk d + 1
  | .slice elems spare => uptoBulkAll elems + uptoBulkAll spare + 1
  | .agg parts => uptoBulkAll parts + 1
  | .iface _ d => uptoBulk d + 1
  | .map entries => uptoBulkEntries entries + 1
  | .held _ => 1
def uptoBulkAll {H : Type} : List (DataW H) → Nat
  | [] => 0
  | d :: r => uptoBulk d + uptoBulkAll r
def uptoBulkEntries {H : Type} : List (Lit × DataW H) → Nat
  | [] => 0
  | x :: r => uptoBulkEntry x + uptoBulkEntries r
def uptoBulkEntry {H : Type} : Lit × DataW H → Nat
  | (.string bytes, d) => bytes.length + uptoBulk d + 1
  | (_, d) => uptoBulk d + 1
 end
def uptoSmall : (H : Type) → List (DataW H) → Bool := fun _ ds => decide (uptoBulkAll ds ≤ 1048576)
def OpenSpec.upto (s : _root_.Go.ChangeSpec) : _root_.Go.OpenSpec := { _root_.Go.OpenSpec.ofChange s with cond := some uptoSmall }

/-- 'skylanternlaw22.GridSpots', WHERE WHAT IT READS IS OF BULK AT MOST 1048576: true; the input reads as it did. -/
def gridSpotsUptoRow : OpenClaim := { program := "ytoaakjkflcjkhaa", sum := "664f84ac5934a3c84d8e538aecd6230bf1e20730ecb69daa27f026c5a65b19b1", func := "skylantern/skylanternlaw22.GridSpots", spec := "gridSpots", unfollowed := true, recurses := true, apart := false, narrowed := true }
def GridSpotsUptoSaid : Prop := gridSpotsUptoRow.holds Try.pinned (OpenSpec.upto gridSpotsSpec)

/-- 'skylanternlaw22.GridNeighbours', WHERE WHAT IT READS IS OF BULK AT MOST 1048576: true; the input reads as it did. -/
def gridNeighboursUptoRow : OpenClaim := { program := "ytoaakjkflcjkhaa", sum := "664f84ac5934a3c84d8e538aecd6230bf1e20730ecb69daa27f026c5a65b19b1", func := "skylantern/skylanternlaw22.GridNeighbours", spec := "gridNeighbours", unfollowed := true, recurses := true, apart := false, narrowed := true }
def GridNeighboursUptoSaid : Prop := gridNeighboursUptoRow.holds Try.pinned (OpenSpec.upto gridNeighboursSpec)

/-- 'skylanternlaw22.GridNear', WHERE WHAT IT READS IS OF BULK AT MOST 1048576: true; the input reads as it did. -/
def gridNearUptoRow : OpenClaim := { program := "ytoaakjkflcjkhaa", sum := "664f84ac5934a3c84d8e538aecd6230bf1e20730ecb69daa27f026c5a65b19b1", func := "skylantern/skylanternlaw22.GridNear", spec := "gridNear", unfollowed := true, recurses := true, apart := false, narrowed := true }
def GridNearUptoSaid : Prop := gridNearUptoRow.holds Try.pinned (OpenSpec.upto gridNearSpec)

/-- 'skylanternlaw22.GridAssigns', WHERE WHAT IT READS IS OF BULK AT MOST 1048576: true; the input reads as it did. -/
def gridAssignsUptoRow : OpenClaim := { program := "ytoaakjkflcjkhaa", sum := "664f84ac5934a3c84d8e538aecd6230bf1e20730ecb69daa27f026c5a65b19b1", func := "skylantern/skylanternlaw22.GridAssigns", spec := "gridAssigns", unfollowed := true, recurses := true, apart := false, narrowed := true }
def GridAssignsUptoSaid : Prop := gridAssignsUptoRow.holds Try.pinned (OpenSpec.upto gridAssignsSpec)

/-- 'skylanternlaw22.GridHolds', WHERE WHAT IT READS IS OF BULK AT MOST 1048576: true; the input reads as it did. -/
def gridHoldsUptoRow : OpenClaim := { program := "ytoaakjkflcjkhaa", sum := "664f84ac5934a3c84d8e538aecd6230bf1e20730ecb69daa27f026c5a65b19b1", func := "skylantern/skylanternlaw22.GridHolds", spec := "gridHolds", unfollowed := true, recurses := true, apart := false, narrowed := true }
def GridHoldsUptoSaid : Prop := gridHoldsUptoRow.holds Try.pinned (OpenSpec.upto gridHoldsSpec)

end Rows
end Go.Proofs.Ytoaakjkflcjkhaa

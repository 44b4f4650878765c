/-
  No cell of these rows narrows 'for every input' (looked for: loops, veiled, ifaces, maps, wideKeys, modest, calm, conditions, laid).
  DERIVED. THE GIVEN ROWS OF THIS SEAT. 5 by the template 'for every input the law returns true; each argument reads behind the call as it read before'; 0 by the template 'total and deterministic' (their statements: YtiikejhkhdmgeaaTotals.lean).
  GIVEN WITH THE SEED: the statements are not yours to turn. If you find one false, say at which input.
  Laid BY PROGRAM, IN A SANDBOX (cutbox-rows.mjs): the forced cells as the released guide's own fill.sh prints them over the translation addc6867807ca9b1… (all of the seat's roots in one cut). By AI agents, Wed Nov 11 2026. No macro, syntax, notation, axiom, sorry.
-/
import Derived.Test.YtiikejhkhdmgeaaChecked
import GoSem.Claim
import GoSem.ClaimJoined
import GoSem.ClaimMapViews
import Derived.JoinedTies
import Derived.KernelRfl
namespace Go.Proofs.Ytiikejhkhdmgeaa
/- THE CELL 'sum', in the pinned program and in every row, IS THE sha256 OF THE DUMP (.gsa) THAT YtiikejhkhdmgeaaProg.lean LOADS. Nothing in Lean hashes anything: it is a label: what it is worth is what the hold of that sum in a sandbox is worth. -/
noncomputable def Try.pinned : Pinned := { name := "ytiikejhkhdmgeaa", sum := "addc6867807ca9b1c16682b675feda30847720ada4af8e6e0e76881049019721", checked := Try.checked }
namespace Rows
def none {H : Type} : Left H := { results := [], args := [] }

/-- 'skylanternlaw30.LightValids': WHATEVER THE INPUT: true; the input reads as it did. -/
def lightValidsSpec : ChangeSpec := { name := "lightValids", fn := fun _ => fun
  | [d] => { results := [.lit (.bool true)], args := [d] }
  | _ => none }
def lightValidsRow : OpenClaim := { program := "ytiikejhkhdmgeaa", sum := "addc6867807ca9b1c16682b675feda30847720ada4af8e6e0e76881049019721", func := "skylantern/skylanternlaw30.LightValids", spec := "lightValids", inPlace := ["internal/bytealg.abigen_runtime_cmpstring"], unfollowed := true, recurses := true, apart := false }
def LightValidsSaid : Prop := lightValidsRow.holds Try.pinned (OpenSpec.ofChange lightValidsSpec)

/-- ITS FALSE NEIGHBOUR: 'it returns false'. Refute it at one input. -/
def lightValidsWrong : ChangeSpec := { name := "lightValids", fn := fun _ => fun
  | [d] => { results := [.lit (.bool false)], args := [d] }
  | _ => none }
def LightValidsWrongFalsely : Prop := lightValidsRow.holds Try.pinned (OpenSpec.ofChange lightValidsWrong)

/-- 'skylanternlaw30.LightAts': WHATEVER THE INPUT: true; the input reads as it did. -/
def lightAtsSpec : ChangeSpec := { name := "lightAts", fn := fun _ => fun
  | [d1, d2, d3, d4] => { results := [.lit (.bool true)], args := [d1, d2, d3, d4] }
  | _ => none }
def lightAtsRow : OpenClaim := { program := "ytiikejhkhdmgeaa", sum := "addc6867807ca9b1c16682b675feda30847720ada4af8e6e0e76881049019721", func := "skylantern/skylanternlaw30.LightAts", spec := "lightAts", inPlace := ["internal/bytealg.abigen_runtime_cmpstring"], unfollowed := true, recurses := true, apart := false }
def LightAtsSaid : Prop := lightAtsRow.holds Try.pinned (OpenSpec.ofChange lightAtsSpec)

/-- ITS FALSE NEIGHBOUR: 'it returns false'. Refute it at one input. -/
def lightAtsWrong : ChangeSpec := { name := "lightAts", fn := fun _ => fun
  | [d1, d2, d3, d4] => { results := [.lit (.bool false)], args := [d1, d2, d3, d4] }
  | _ => none }
def LightAtsWrongFalsely : Prop := lightAtsRow.holds Try.pinned (OpenSpec.ofChange lightAtsWrong)

/-- 'skylanternlaw30.LightWhich': WHATEVER THE INPUT: true; the input reads as it did. -/
def lightWhichSpec : ChangeSpec := { name := "lightWhich", fn := fun _ => fun
  | [d1, d2, d3] => { results := [.lit (.bool true)], args := [d1, d2, d3] }
  | _ => none }
def lightWhichRow : OpenClaim := { program := "ytiikejhkhdmgeaa", sum := "addc6867807ca9b1c16682b675feda30847720ada4af8e6e0e76881049019721", func := "skylantern/skylanternlaw30.LightWhich", spec := "lightWhich", inPlace := ["internal/bytealg.abigen_runtime_cmpstring"], unfollowed := true, recurses := true, apart := false }
def LightWhichSaid : Prop := lightWhichRow.holds Try.pinned (OpenSpec.ofChange lightWhichSpec)

/-- ITS FALSE NEIGHBOUR: 'it returns false'. Refute it at one input. -/
def lightWhichWrong : ChangeSpec := { name := "lightWhich", fn := fun _ => fun
  | [d1, d2, d3] => { results := [.lit (.bool false)], args := [d1, d2, d3] }
  | _ => none }
def LightWhichWrongFalsely : Prop := lightWhichRow.holds Try.pinned (OpenSpec.ofChange lightWhichWrong)

/-- 'skylanternlaw30.LightChanges': WHATEVER THE INPUT: true; the input reads as it did. -/
def lightChangesSpec : ChangeSpec := { name := "lightChanges", fn := fun _ => fun
  | [d1, d2] => { results := [.lit (.bool true)], args := [d1, d2] }
  | _ => none }
def lightChangesRow : OpenClaim := { program := "ytiikejhkhdmgeaa", sum := "addc6867807ca9b1c16682b675feda30847720ada4af8e6e0e76881049019721", func := "skylantern/skylanternlaw30.LightChanges", spec := "lightChanges", inPlace := ["internal/bytealg.abigen_runtime_cmpstring"], unfollowed := true, recurses := true, apart := false }
def LightChangesSaid : Prop := lightChangesRow.holds Try.pinned (OpenSpec.ofChange lightChangesSpec)

/-- ITS FALSE NEIGHBOUR: 'it returns false'. Refute it at one input. -/
def lightChangesWrong : ChangeSpec := { name := "lightChanges", fn := fun _ => fun
  | [d1, d2] => { results := [.lit (.bool false)], args := [d1, d2] }
  | _ => none }
def LightChangesWrongFalsely : Prop := lightChangesRow.holds Try.pinned (OpenSpec.ofChange lightChangesWrong)

/-- 'skylanternlaw30.LightHolds': WHATEVER THE INPUT: true; the input reads as it did. -/
def lightHoldsSpec : ChangeSpec := { name := "lightHolds", fn := fun _ => fun
  | [d1, d2, d3, d4, d5] => { results := [.lit (.bool true)], args := [d1, d2, d3, d4, d5] }
  | _ => none }
def lightHoldsRow : OpenClaim := { program := "ytiikejhkhdmgeaa", sum := "addc6867807ca9b1c16682b675feda30847720ada4af8e6e0e76881049019721", func := "skylantern/skylanternlaw30.LightHolds", spec := "lightHolds", inPlace := ["internal/bytealg.abigen_runtime_cmpstring"], unfollowed := true, recurses := true, apart := false }
def LightHoldsSaid : Prop := lightHoldsRow.holds Try.pinned (OpenSpec.ofChange lightHoldsSpec)

/-- ITS FALSE NEIGHBOUR: 'it returns false'. Refute it at one input. -/
def lightHoldsWrong : ChangeSpec := { name := "lightHolds", fn := fun _ => fun
  | [d1, d2, d3, d4, d5] => { results := [.lit (.bool false)], args := [d1, d2, d3, d4, d5] }
  | _ => none }
def LightHoldsWrongFalsely : Prop := lightHoldsRow.holds Try.pinned (OpenSpec.ofChange lightHoldsWrong)

/- THE SECOND FORM. 'bulk': how many values and letters a reading holds, each counted each time it is reached (what is shared counts as often as it is met; a slice's spare places count too). A statement '..UptoSaid' is the law's where the arguments, and the package variables that the reading takes, are together of bulk at most 1048576: NARROWER than '..Said'. Prove '..Said' where nothing that the law and all that it calls make is longer than what came in: it says more and counts as full. Else prove '..UptoSaid'. A law counts once. -/
mutual
def uptoBulk {H : Type} : DataW H → Nat
  | .lit (.string bytes) => bytes.length + 1
  | .lit _ => 1
  | .nil => 1
  | .ptr d => uptoBulk d + 1
  | .slice elems spare => uptoBulkAll elems + uptoBulkAll spare + 1
  | .agg parts => uptoBulkAll parts + 1
  | .iface _ d => uptoBulk d + 1
  | .map entries => uptoBulkEntries entries + 1
  | .held _ => 1
def uptoBulkAll {H : Type} : List (DataW H) → Nat
  | [] => 0
  | d :: r => uptoBulk d + uptoBulkAll r
def uptoBulkEntries {H : Type} : List (Lit × DataW H) → Nat
  | [] => 0
  | x :: r => uptoBulkEntry x + uptoBulkEntries r
def uptoBulkEntry {H : Type} : Lit × DataW H → Nat
  | (.string bytes, d) => bytes.length + uptoBulk d + 1
  | (_, d) => uptoBulk d + 1
 end
def uptoSmall : (H : Type) → List (DataW H) → Bool := fun _ ds => decide (uptoBulkAll ds ≤ 1048576)
def OpenSpec.upto (s : _root_.Go.ChangeSpec) : _root_.Go.OpenSpec := { _root_.Go.OpenSpec.ofChange s with cond := some uptoSmall }

/-- 'skylanternlaw30.LightValids', WHERE WHAT IT READS IS OF BULK AT MOST 1048576: true; the input reads as it did. -/
def lightValidsUptoRow : OpenClaim := { program := "ytiikejhkhdmgeaa", sum := "addc6867807ca9b1c16682b675feda30847720ada4af8e6e0e76881049019721", func := "skylantern/skylanternlaw30.LightValids", spec := "lightValids", inPlace := ["internal/bytealg.abigen_runtime_cmpstring"], unfollowed := true, recurses := true, apart := false, narrowed := true }
def LightValidsUptoSaid : Prop := lightValidsUptoRow.holds Try.pinned (OpenSpec.upto lightValidsSpec)

/-- 'skylanternlaw30.LightAts', WHERE WHAT IT READS IS OF BULK AT MOST 1048576: true; the input reads as it did. -/
def lightAtsUptoRow : OpenClaim := { program := "ytiikejhkhdmgeaa", sum := "addc6867807ca9b1c16682b675feda30847720ada4af8e6e0e76881049019721", func := "skylantern/skylanternlaw30.LightAts", spec := "lightAts", inPlace := ["internal/bytealg.abigen_runtime_cmpstring"], unfollowed := true, recurses := true, apart := false, narrowed := true }
def LightAtsUptoSaid : Prop := lightAtsUptoRow.holds Try.pinned (OpenSpec.upto lightAtsSpec)

/-- 'skylanternlaw30.LightWhich', WHERE WHAT IT READS IS OF BULK AT MOST 1048576: true; the input reads as it did. -/
def lightWhichUptoRow : OpenClaim := { program := "ytiikejhkhdmgeaa", sum := "addc6867807ca9b1c16682b675feda30847720ada4af8e6e0e76881049019721", func := "skylantern/skylanternlaw30.LightWhich", spec := "lightWhich", inPlace := ["internal/bytealg.abigen_runtime_cmpstring"], unfollowed := true, recurses := true, apart := false, narrowed := true }
def LightWhichUptoSaid : Prop := lightWhichUptoRow.holds Try.pinned (OpenSpec.upto lightWhichSpec)

/-- 'skylanternlaw30.LightChanges', WHERE WHAT IT READS IS OF BULK AT MOST 1048576: true; the input reads as it did. -/
def lightChangesUptoRow : OpenClaim := { program := "ytiikejhkhdmgeaa", sum := "addc6867807ca9b1c16682b675feda30847720ada4af8e6e0e76881049019721", func := "skylantern/skylanternlaw30.LightChanges", spec := "lightChanges", inPlace := ["internal/bytealg.abigen_runtime_cmpstring"], unfollowed := true, recurses := true, apart := false, narrowed := true }
def LightChangesUptoSaid : Prop := lightChangesUptoRow.holds Try.pinned (OpenSpec.upto lightChangesSpec)

/-- 'skylanternlaw30.LightHolds', WHERE WHAT IT READS IS OF BULK AT MOST 1048576: true; the input reads as it did. -/
def lightHoldsUptoRow : OpenClaim := { program := "ytiikejhkhdmgeaa", sum := "addc6867807ca9b1c16682b675feda30847720ada4af8e6e0e76881049019721", func := "skylantern/skylanternlaw30.LightHolds", spec := "lightHolds", inPlace := ["internal/bytealg.abigen_runtime_cmpstring"], unfollowed := true, recurses := true, apart := false, narrowed := true }
def LightHoldsUptoSaid : Prop := lightHoldsUptoRow.holds Try.pinned (OpenSpec.upto lightHoldsSpec)

end Rows
end Go.Proofs.Ytiikejhkhdmgeaa

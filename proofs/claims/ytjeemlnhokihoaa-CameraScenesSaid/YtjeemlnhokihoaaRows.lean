/-
  No cell of these rows narrows 'for every input' (looked for: loops, veiled, ifaces, maps, wideKeys, modest, calm, conditions, laid).
  DERIVED. THE GIVEN ROWS OF THIS SEAT. 7 by the template 'for every input the law returns true; each argument reads behind the call as it read before'; 0 by the template 'total and deterministic' (their statements: YtjeemlnhokihoaaTotals.lean).
  GIVEN WITH THE SEED: the statements are not yours to turn. If you find one false, say at which input.
  Laid BY PROGRAM, IN A SANDBOX (cutbox-rows.mjs): the forced cells as the released guide's own fill.sh prints them over the translation cd48302d06187de3… (all of the seat's roots in one cut). By AI agents, Wed Nov 11 2026. No macro, syntax, notation, axiom, sorry.
-/
import Derived.Test.YtjeemlnhokihoaaChecked
import GoSem.Claim
import GoSem.ClaimJoined
import GoSem.ClaimMapViews
import Derived.JoinedTies
import Derived.KernelRfl
namespace Go.Proofs.Ytjeemlnhokihoaa
/- THE CELL 'sum', in the pinned program and in every row, IS THE sha256 OF THE DUMP (.gsa) THAT YtjeemlnhokihoaaProg.lean LOADS. Nothing in Lean hashes anything: it is a label: what it is worth is what the hold of that sum in a sandbox is worth. -/
noncomputable def Try.pinned : Pinned := { name := "ytjeemlnhokihoaa", sum := "cd48302d06187de321100686e093b06ca2da84b7fe61592a08df303936265834", checked := Try.checked }
namespace Rows
def none {H : Type} : Left H := { results := [], args := [] }

/-- 'skylanternlaw31.CameraValids': WHATEVER THE INPUT: true; the input reads as it did. -/
def cameraValidsSpec : ChangeSpec := { name := "cameraValids", fn := fun _ => fun
  | [d] => { results := [.lit (.bool true)], args := [d] }
  | _ => none }
def cameraValidsRow : OpenClaim := { program := "ytjeemlnhokihoaa", sum := "cd48302d06187de321100686e093b06ca2da84b7fe61592a08df303936265834", func := "skylantern/skylanternlaw31.CameraValids", spec := "cameraValids", unfollowed := true, recurses := true, apart := false }
def CameraValidsSaid : Prop := cameraValidsRow.holds Try.pinned (OpenSpec.ofChange cameraValidsSpec)

/-- ITS FALSE NEIGHBOUR: 'it returns false'. Refute it at one input. -/
def cameraValidsWrong : ChangeSpec := { name := "cameraValids", fn := fun _ => fun
  | [d] => { results := [.lit (.bool false)], args := [d] }
  | _ => none }
def CameraValidsWrongFalsely : Prop := cameraValidsRow.holds Try.pinned (OpenSpec.ofChange cameraValidsWrong)

/-- 'skylanternlaw31.CameraLooks': WHATEVER THE INPUT: true; the input reads as it did. -/
def cameraLooksSpec : ChangeSpec := { name := "cameraLooks", fn := fun _ => fun
  | [d1, d2, d3, d4, d5, d6] => { results := [.lit (.bool true)], args := [d1, d2, d3, d4, d5, d6] }
  | _ => none }
def cameraLooksRow : OpenClaim := { program := "ytjeemlnhokihoaa", sum := "cd48302d06187de321100686e093b06ca2da84b7fe61592a08df303936265834", func := "skylantern/skylanternlaw31.CameraLooks", spec := "cameraLooks", unfollowed := true, recurses := true, apart := false }
def CameraLooksSaid : Prop := cameraLooksRow.holds Try.pinned (OpenSpec.ofChange cameraLooksSpec)

/-- ITS FALSE NEIGHBOUR: 'it returns false'. Refute it at one input. -/
def cameraLooksWrong : ChangeSpec := { name := "cameraLooks", fn := fun _ => fun
  | [d1, d2, d3, d4, d5, d6] => { results := [.lit (.bool false)], args := [d1, d2, d3, d4, d5, d6] }
  | _ => none }
def CameraLooksWrongFalsely : Prop := cameraLooksRow.holds Try.pinned (OpenSpec.ofChange cameraLooksWrong)

/-- 'skylanternlaw31.CameraProjects': WHATEVER THE INPUT: true; the input reads as it did. -/
def cameraProjectsSpec : ChangeSpec := { name := "cameraProjects", fn := fun _ => fun
  | [d1, d2, d3] => { results := [.lit (.bool true)], args := [d1, d2, d3] }
  | _ => none }
def cameraProjectsRow : OpenClaim := { program := "ytjeemlnhokihoaa", sum := "cd48302d06187de321100686e093b06ca2da84b7fe61592a08df303936265834", func := "skylantern/skylanternlaw31.CameraProjects", spec := "cameraProjects", unfollowed := true, recurses := true, apart := false }
def CameraProjectsSaid : Prop := cameraProjectsRow.holds Try.pinned (OpenSpec.ofChange cameraProjectsSpec)

/-- ITS FALSE NEIGHBOUR: 'it returns false'. Refute it at one input. -/
def cameraProjectsWrong : ChangeSpec := { name := "cameraProjects", fn := fun _ => fun
  | [d1, d2, d3] => { results := [.lit (.bool false)], args := [d1, d2, d3] }
  | _ => none }
def CameraProjectsWrongFalsely : Prop := cameraProjectsRow.holds Try.pinned (OpenSpec.ofChange cameraProjectsWrong)

/-- 'skylanternlaw31.CameraScenes': WHATEVER THE INPUT: true; the input reads as it did. -/
def cameraScenesSpec : ChangeSpec := { name := "cameraScenes", fn := fun _ => fun
  | [d1, d2, d3] => { results := [.lit (.bool true)], args := [d1, d2, d3] }
  | _ => none }
def cameraScenesRow : OpenClaim := { program := "ytjeemlnhokihoaa", sum := "cd48302d06187de321100686e093b06ca2da84b7fe61592a08df303936265834", func := "skylantern/skylanternlaw31.CameraScenes", spec := "cameraScenes", unfollowed := true, recurses := true, apart := false }
def CameraScenesSaid : Prop := cameraScenesRow.holds Try.pinned (OpenSpec.ofChange cameraScenesSpec)

/-- ITS FALSE NEIGHBOUR: 'it returns false'. Refute it at one input. -/
def cameraScenesWrong : ChangeSpec := { name := "cameraScenes", fn := fun _ => fun
  | [d1, d2, d3] => { results := [.lit (.bool false)], args := [d1, d2, d3] }
  | _ => none }
def CameraScenesWrongFalsely : Prop := cameraScenesRow.holds Try.pinned (OpenSpec.ofChange cameraScenesWrong)

/-- 'skylanternlaw31.CameraTurns': WHATEVER THE INPUT: true; the input reads as it did. -/
def cameraTurnsSpec : ChangeSpec := { name := "cameraTurns", fn := fun _ => fun
  | [d1, d2] => { results := [.lit (.bool true)], args := [d1, d2] }
  | _ => none }
def cameraTurnsRow : OpenClaim := { program := "ytjeemlnhokihoaa", sum := "cd48302d06187de321100686e093b06ca2da84b7fe61592a08df303936265834", func := "skylantern/skylanternlaw31.CameraTurns", spec := "cameraTurns", unfollowed := true, recurses := true, apart := false }
def CameraTurnsSaid : Prop := cameraTurnsRow.holds Try.pinned (OpenSpec.ofChange cameraTurnsSpec)

/-- ITS FALSE NEIGHBOUR: 'it returns false'. Refute it at one input. -/
def cameraTurnsWrong : ChangeSpec := { name := "cameraTurns", fn := fun _ => fun
  | [d1, d2] => { results := [.lit (.bool false)], args := [d1, d2] }
  | _ => none }
def CameraTurnsWrongFalsely : Prop := cameraTurnsRow.holds Try.pinned (OpenSpec.ofChange cameraTurnsWrong)

/-- 'skylanternlaw31.CameraMoves': WHATEVER THE INPUT: true; the input reads as it did. -/
def cameraMovesSpec : ChangeSpec := { name := "cameraMoves", fn := fun _ => fun
  | [d1, d2, d3, d4] => { results := [.lit (.bool true)], args := [d1, d2, d3, d4] }
  | _ => none }
def cameraMovesRow : OpenClaim := { program := "ytjeemlnhokihoaa", sum := "cd48302d06187de321100686e093b06ca2da84b7fe61592a08df303936265834", func := "skylantern/skylanternlaw31.CameraMoves", spec := "cameraMoves", unfollowed := true, recurses := true, apart := false }
def CameraMovesSaid : Prop := cameraMovesRow.holds Try.pinned (OpenSpec.ofChange cameraMovesSpec)

/-- ITS FALSE NEIGHBOUR: 'it returns false'. Refute it at one input. -/
def cameraMovesWrong : ChangeSpec := { name := "cameraMoves", fn := fun _ => fun
  | [d1, d2, d3, d4] => { results := [.lit (.bool false)], args := [d1, d2, d3, d4] }
  | _ => none }
def CameraMovesWrongFalsely : Prop := cameraMovesRow.holds Try.pinned (OpenSpec.ofChange cameraMovesWrong)

/-- 'skylanternlaw31.CameraHolds': WHATEVER THE INPUT: true; the input reads as it did. -/
def cameraHoldsSpec : ChangeSpec := { name := "cameraHolds", fn := fun _ => fun
  | [d1, d2, d3, d4, d5, d6] => { results := [.lit (.bool true)], args := [d1, d2, d3, d4, d5, d6] }
  | _ => none }
def cameraHoldsRow : OpenClaim := { program := "ytjeemlnhokihoaa", sum := "cd48302d06187de321100686e093b06ca2da84b7fe61592a08df303936265834", func := "skylantern/skylanternlaw31.CameraHolds", spec := "cameraHolds", unfollowed := true, recurses := true, apart := false }
def CameraHoldsSaid : Prop := cameraHoldsRow.holds Try.pinned (OpenSpec.ofChange cameraHoldsSpec)

/-- ITS FALSE NEIGHBOUR: 'it returns false'. Refute it at one input. -/
def cameraHoldsWrong : ChangeSpec := { name := "cameraHolds", fn := fun _ => fun
  | [d1, d2, d3, d4, d5, d6] => { results := [.lit (.bool false)], args := [d1, d2, d3, d4, d5, d6] }
  | _ => none }
def CameraHoldsWrongFalsely : Prop := cameraHoldsRow.holds Try.pinned (OpenSpec.ofChange cameraHoldsWrong)

/- THE SECOND FORM. 'bulk': how many values and letters a reading holds, each counted each time it is reached (what is shared counts as often as it is met; a slice's spare places count too). A statement '..UptoSaid' is the law's where the arguments, and the package variables that the reading takes, are together of bulk at most 1048576: NARROWER than '..Said'. Prove '..Said' where nothing that the law and all that it calls make is longer than what came in: it says more and counts as full. Else prove '..UptoSaid'. A law counts once. -/
mutual
def uptoBulk {H : Type} : DataW H → Nat
  | .lit (.string bytes) => bytes.length + 1
  | .lit _ => 1
  | .nil => 1
  | .ptr d => uptoBulk d + 1
  | .slice elems spare => uptoBulkAll elems + uptoBulkAll spare + 1
  | .agg parts => uptoBulkAll parts + 1
  | .iface _ d => uptoBulk d + 1
  | .map entries => uptoBulkEntries entries + 1
  | .held _ => 1
def uptoBulkAll {H : Type} : List (DataW H) → Nat
  | [] => 0
  | d :: r => uptoBulk d + uptoBulkAll r
def uptoBulkEntries {H : Type} : List (Lit × DataW H) → Nat
  | [] => 0
  | x :: r => uptoBulkEntry x + uptoBulkEntries r
def uptoBulkEntry {H : Type} : Lit × DataW H → Nat
  | (.string bytes, d) => bytes.length + uptoBulk d + 1
  | (_, d) => uptoBulk d + 1
 end
def uptoSmall : (H : Type) → List (DataW H) → Bool := fun _ ds => decide (uptoBulkAll ds ≤ 1048576)
def OpenSpec.upto (s : _root_.Go.ChangeSpec) : _root_.Go.OpenSpec := { _root_.Go.OpenSpec.ofChange s with cond := some uptoSmall }

/-- 'skylanternlaw31.CameraValids', WHERE WHAT IT READS IS OF BULK AT MOST 1048576: true; the input reads as it did. -/
def cameraValidsUptoRow : OpenClaim := { program := "ytjeemlnhokihoaa", sum := "cd48302d06187de321100686e093b06ca2da84b7fe61592a08df303936265834", func := "skylantern/skylanternlaw31.CameraValids", spec := "cameraValids", unfollowed := true, recurses := true, apart := false, narrowed := true }
def CameraValidsUptoSaid : Prop := cameraValidsUptoRow.holds Try.pinned (OpenSpec.upto cameraValidsSpec)

/-- 'skylanternlaw31.CameraLooks', WHERE WHAT IT READS IS OF BULK AT MOST 1048576: true; the input reads as it did. -/
def cameraLooksUptoRow : OpenClaim := { program := "ytjeemlnhokihoaa", sum := "cd48302d06187de321100686e093b06ca2da84b7fe61592a08df303936265834", func := "skylantern/skylanternlaw31.CameraLooks", spec := "cameraLooks", unfollowed := true, recurses := true, apart := false, narrowed := true }
def CameraLooksUptoSaid : Prop := cameraLooksUptoRow.holds Try.pinned (OpenSpec.upto cameraLooksSpec)

/-- 'skylanternlaw31.CameraProjects', WHERE WHAT IT READS IS OF BULK AT MOST 1048576: true; the input reads as it did. -/
def cameraProjectsUptoRow : OpenClaim := { program := "ytjeemlnhokihoaa", sum := "cd48302d06187de321100686e093b06ca2da84b7fe61592a08df303936265834", func := "skylantern/skylanternlaw31.CameraProjects", spec := "cameraProjects", unfollowed := true, recurses := true, apart := false, narrowed := true }
def CameraProjectsUptoSaid : Prop := cameraProjectsUptoRow.holds Try.pinned (OpenSpec.upto cameraProjectsSpec)

/-- 'skylanternlaw31.CameraScenes', WHERE WHAT IT READS IS OF BULK AT MOST 1048576: true; the input reads as it did. -/
def cameraScenesUptoRow : OpenClaim := { program := "ytjeemlnhokihoaa", sum := "cd48302d06187de321100686e093b06ca2da84b7fe61592a08df303936265834", func := "skylantern/skylanternlaw31.CameraScenes", spec := "cameraScenes", unfollowed := true, recurses := true, apart := false, narrowed := true }
def CameraScenesUptoSaid : Prop := cameraScenesUptoRow.holds Try.pinned (OpenSpec.upto cameraScenesSpec)

/-- 'skylanternlaw31.CameraTurns', WHERE WHAT IT READS IS OF BULK AT MOST 1048576: true; the input reads as it did. -/
def cameraTurnsUptoRow : OpenClaim := { program := "ytjeemlnhokihoaa", sum := "cd48302d06187de321100686e093b06ca2da84b7fe61592a08df303936265834", func := "skylantern/skylanternlaw31.CameraTurns", spec := "cameraTurns", unfollowed := true, recurses := true, apart := false, narrowed := true }
def CameraTurnsUptoSaid : Prop := cameraTurnsUptoRow.holds Try.pinned (OpenSpec.upto cameraTurnsSpec)

/-- 'skylanternlaw31.CameraMoves', WHERE WHAT IT READS IS OF BULK AT MOST 1048576: true; the input reads as it did. -/
def cameraMovesUptoRow : OpenClaim := { program := "ytjeemlnhokihoaa", sum := "cd48302d06187de321100686e093b06ca2da84b7fe61592a08df303936265834", func := "skylantern/skylanternlaw31.CameraMoves", spec := "cameraMoves", unfollowed := true, recurses := true, apart := false, narrowed := true }
def CameraMovesUptoSaid : Prop := cameraMovesUptoRow.holds Try.pinned (OpenSpec.upto cameraMovesSpec)

/-- 'skylanternlaw31.CameraHolds', WHERE WHAT IT READS IS OF BULK AT MOST 1048576: true; the input reads as it did. -/
def cameraHoldsUptoRow : OpenClaim := { program := "ytjeemlnhokihoaa", sum := "cd48302d06187de321100686e093b06ca2da84b7fe61592a08df303936265834", func := "skylantern/skylanternlaw31.CameraHolds", spec := "cameraHolds", unfollowed := true, recurses := true, apart := false, narrowed := true }
def CameraHoldsUptoSaid : Prop := cameraHoldsUptoRow.holds Try.pinned (OpenSpec.upto cameraHoldsSpec)

end Rows
end Go.Proofs.Ytjeemlnhokihoaa

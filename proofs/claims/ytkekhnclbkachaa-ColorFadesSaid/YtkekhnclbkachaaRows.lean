/-
  No cell of these rows narrows 'for every input' (looked for: loops, veiled, ifaces, maps, wideKeys, modest, calm, conditions, laid).
  DERIVED. THE GIVEN ROWS OF THIS SEAT. 7 by the template 'for every input the law returns true; each argument reads behind the call as it read before'; 0 by the template 'total and deterministic' (their statements: YtkekhnclbkachaaTotals.lean).
  GIVEN WITH THE SEED: the statements are not yours to turn. If you find one false, say at which input.
  Laid BY PROGRAM, IN A SANDBOX (cutbox-rows.mjs): the forced cells as the released guide's own fill.sh prints them over the translation 4dd6c786f22d973b… (all of the seat's roots in one cut). By AI agents, Wed Nov 11 2026. No macro, syntax, notation, axiom, sorry.
-/
import Derived.Test.YtkekhnclbkachaaChecked
import GoSem.Claim
import GoSem.ClaimJoined
import GoSem.ClaimMapViews
import Derived.JoinedTies
import Derived.KernelRfl
namespace Go.Proofs.Ytkekhnclbkachaa
/- THE CELL 'sum', in the pinned program and in every row, IS THE sha256 OF THE DUMP (.gsa) THAT YtkekhnclbkachaaProg.lean LOADS. Nothing in Lean hashes anything: it is a label: what it is worth is what the hold of that sum in a sandbox is worth. -/
noncomputable def Try.pinned : Pinned := { name := "ytkekhnclbkachaa", sum := "4dd6c786f22d973b11eec38541d50286303099151027a97c5030111a55a59f91", checked := Try.checked }
namespace Rows
def none {H : Type} : Left H := { results := [], args := [] }

/-- 'skylanternlaw13.ColorNames': WHATEVER THE INPUT: true; the input reads as it did. -/
def colorNamesSpec : ChangeSpec := { name := "colorNames", fn := fun _ => fun
  | [d] => { results := [.lit (.bool true)], args := [d] }
  | _ => none }
def colorNamesRow : OpenClaim := { program := "ytkekhnclbkachaa", sum := "4dd6c786f22d973b11eec38541d50286303099151027a97c5030111a55a59f91", func := "skylantern/skylanternlaw13.ColorNames", spec := "colorNames", unfollowed := true, recurses := true, apart := false }
def ColorNamesSaid : Prop := colorNamesRow.holds Try.pinned (OpenSpec.ofChange colorNamesSpec)

/-- ITS FALSE NEIGHBOUR: 'it returns false'. Refute it at one input. -/
def colorNamesWrong : ChangeSpec := { name := "colorNames", fn := fun _ => fun
  | [d] => { results := [.lit (.bool false)], args := [d] }
  | _ => none }
def ColorNamesWrongFalsely : Prop := colorNamesRow.holds Try.pinned (OpenSpec.ofChange colorNamesWrong)

/-- 'skylanternlaw13.ColorMixes': WHATEVER THE INPUT: true; the input reads as it did. -/
def colorMixesSpec : ChangeSpec := { name := "colorMixes", fn := fun _ => fun
  | [d1, d2, d3, d4] => { results := [.lit (.bool true)], args := [d1, d2, d3, d4] }
  | _ => none }
def colorMixesRow : OpenClaim := { program := "ytkekhnclbkachaa", sum := "4dd6c786f22d973b11eec38541d50286303099151027a97c5030111a55a59f91", func := "skylantern/skylanternlaw13.ColorMixes", spec := "colorMixes", unfollowed := true, recurses := true, apart := false }
def ColorMixesSaid : Prop := colorMixesRow.holds Try.pinned (OpenSpec.ofChange colorMixesSpec)

/-- ITS FALSE NEIGHBOUR: 'it returns false'. Refute it at one input. -/
def colorMixesWrong : ChangeSpec := { name := "colorMixes", fn := fun _ => fun
  | [d1, d2, d3, d4] => { results := [.lit (.bool false)], args := [d1, d2, d3, d4] }
  | _ => none }
def ColorMixesWrongFalsely : Prop := colorMixesRow.holds Try.pinned (OpenSpec.ofChange colorMixesWrong)

/-- 'skylanternlaw13.ColorFades': WHATEVER THE INPUT: true; the input reads as it did. -/
def colorFadesSpec : ChangeSpec := { name := "colorFades", fn := fun _ => fun
  | [d1, d2, d3, d4] => { results := [.lit (.bool true)], args := [d1, d2, d3, d4] }
  | _ => none }
def colorFadesRow : OpenClaim := { program := "ytkekhnclbkachaa", sum := "4dd6c786f22d973b11eec38541d50286303099151027a97c5030111a55a59f91", func := "skylantern/skylanternlaw13.ColorFades", spec := "colorFades", unfollowed := true, recurses := true, apart := false }
def ColorFadesSaid : Prop := colorFadesRow.holds Try.pinned (OpenSpec.ofChange colorFadesSpec)

/-- ITS FALSE NEIGHBOUR: 'it returns false'. Refute it at one input. -/
def colorFadesWrong : ChangeSpec := { name := "colorFades", fn := fun _ => fun
  | [d1, d2, d3, d4] => { results := [.lit (.bool false)], args := [d1, d2, d3, d4] }
  | _ => none }
def ColorFadesWrongFalsely : Prop := colorFadesRow.holds Try.pinned (OpenSpec.ofChange colorFadesWrong)

/-- 'skylanternlaw13.ColorTexts': WHATEVER THE INPUT: true; the input reads as it did. -/
def colorTextsSpec : ChangeSpec := { name := "colorTexts", fn := fun _ => fun
  | [d1, d2, d3] => { results := [.lit (.bool true)], args := [d1, d2, d3] }
  | _ => none }
def colorTextsRow : OpenClaim := { program := "ytkekhnclbkachaa", sum := "4dd6c786f22d973b11eec38541d50286303099151027a97c5030111a55a59f91", func := "skylantern/skylanternlaw13.ColorTexts", spec := "colorTexts", unfollowed := true, recurses := true, apart := false }
def ColorTextsSaid : Prop := colorTextsRow.holds Try.pinned (OpenSpec.ofChange colorTextsSpec)

/-- ITS FALSE NEIGHBOUR: 'it returns false'. Refute it at one input. -/
def colorTextsWrong : ChangeSpec := { name := "colorTexts", fn := fun _ => fun
  | [d1, d2, d3] => { results := [.lit (.bool false)], args := [d1, d2, d3] }
  | _ => none }
def ColorTextsWrongFalsely : Prop := colorTextsRow.holds Try.pinned (OpenSpec.ofChange colorTextsWrong)

/-- 'skylanternlaw13.ColorPalettes': WHATEVER THE INPUT: true; the input reads as it did. -/
def colorPalettesSpec : ChangeSpec := { name := "colorPalettes", fn := fun _ => fun
  | [d1, d2, d3] => { results := [.lit (.bool true)], args := [d1, d2, d3] }
  | _ => none }
def colorPalettesRow : OpenClaim := { program := "ytkekhnclbkachaa", sum := "4dd6c786f22d973b11eec38541d50286303099151027a97c5030111a55a59f91", func := "skylantern/skylanternlaw13.ColorPalettes", spec := "colorPalettes", unfollowed := true, recurses := true, apart := false }
def ColorPalettesSaid : Prop := colorPalettesRow.holds Try.pinned (OpenSpec.ofChange colorPalettesSpec)

/-- ITS FALSE NEIGHBOUR: 'it returns false'. Refute it at one input. -/
def colorPalettesWrong : ChangeSpec := { name := "colorPalettes", fn := fun _ => fun
  | [d1, d2, d3] => { results := [.lit (.bool false)], args := [d1, d2, d3] }
  | _ => none }
def ColorPalettesWrongFalsely : Prop := colorPalettesRow.holds Try.pinned (OpenSpec.ofChange colorPalettesWrong)

/-- 'skylanternlaw13.ColorNearest': WHATEVER THE INPUT: true; the input reads as it did. -/
def colorNearestSpec : ChangeSpec := { name := "colorNearest", fn := fun _ => fun
  | [d1, d2, d3] => { results := [.lit (.bool true)], args := [d1, d2, d3] }
  | _ => none }
def colorNearestRow : OpenClaim := { program := "ytkekhnclbkachaa", sum := "4dd6c786f22d973b11eec38541d50286303099151027a97c5030111a55a59f91", func := "skylantern/skylanternlaw13.ColorNearest", spec := "colorNearest", unfollowed := true, recurses := true, apart := false }
def ColorNearestSaid : Prop := colorNearestRow.holds Try.pinned (OpenSpec.ofChange colorNearestSpec)

/-- ITS FALSE NEIGHBOUR: 'it returns false'. Refute it at one input. -/
def colorNearestWrong : ChangeSpec := { name := "colorNearest", fn := fun _ => fun
  | [d1, d2, d3] => { results := [.lit (.bool false)], args := [d1, d2, d3] }
  | _ => none }
def ColorNearestWrongFalsely : Prop := colorNearestRow.holds Try.pinned (OpenSpec.ofChange colorNearestWrong)

/-- 'skylanternlaw13.ColorHolds': WHATEVER THE INPUT: true; the input reads as it did. -/
def colorHoldsSpec : ChangeSpec := { name := "colorHolds", fn := fun _ => fun
  | [d1, d2, d3, d4, d5, d6, d7] => { results := [.lit (.bool true)], args := [d1, d2, d3, d4, d5, d6, d7] }
  | _ => none }
def colorHoldsRow : OpenClaim := { program := "ytkekhnclbkachaa", sum := "4dd6c786f22d973b11eec38541d50286303099151027a97c5030111a55a59f91", func := "skylantern/skylanternlaw13.ColorHolds", spec := "colorHolds", unfollowed := true, recurses := true, apart := false }
def ColorHoldsSaid : Prop := colorHoldsRow.holds Try.pinned (OpenSpec.ofChange colorHoldsSpec)

/-- ITS FALSE NEIGHBOUR: 'it returns false'. Refute it at one input. -/
def colorHoldsWrong : ChangeSpec := { name := "colorHolds", fn := fun _ => fun
  | [d1, d2, d3, d4, d5, d6, d7] => { results := [.lit (.bool false)], args := [d1, d2, d3, d4, d5, d6, d7] }
  | _ => none }
def ColorHoldsWrongFalsely : Prop := colorHoldsRow.holds Try.pinned (OpenSpec.ofChange colorHoldsWrong)

/- THE SECOND FORM. 'bulk': how many values and letters a reading holds, each counted each time it is reached (what is shared counts as often as it is met; a slice's spare places count too). A statement '..UptoSaid' is the law's where the arguments, and the package variables that the reading takes, are together of bulk at most 1048576: NARROWER than '..Said'. Prove '..Said' where nothing that the law and all that it calls make is longer than what came in: it says more and counts as full. Else prove '..UptoSaid'. A law counts once. -/
mutual
def uptoBulk {H : Type} : DataW H → Nat
  | .lit (.string bytes) => bytes.length + 1
  | .lit _ => 1
  | .nil => 1
  | .ptr d => uptoBulk d + 1
  | .slice elems spare => uptoBulkAll elems + uptoBulkAll spare + 1
  | .agg parts => uptoBulkAll parts + 1
  | .iface _ d => uptoBulk d + 1
  | .map entries => uptoBulkEntries entries + 1
  | .held _ => 1
def uptoBulkAll {H : Type} : List (DataW H) → Nat
  | [] => 0
  | d :: r => uptoBulk d + uptoBulkAll r
def uptoBulkEntries {H : Type} : List (Lit × DataW H) → Nat
  | [] => 0
  | x :: r => uptoBulkEntry x + uptoBulkEntries r
def uptoBulkEntry {H : Type} : Lit × DataW H → Nat
  | (.string bytes, d) => bytes.length + uptoBulk d + 1
  | (_, d) => uptoBulk d + 1
 end
def uptoSmall : (H : Type) → List (DataW H) → Bool := fun _ ds => decide (uptoBulkAll ds ≤ 1048576)
def OpenSpec.upto (s : _root_.Go.ChangeSpec) : _root_.Go.OpenSpec := { _root_.Go.OpenSpec.ofChange s with cond := some uptoSmall }

/-- 'skylanternlaw13.ColorNames', WHERE WHAT IT READS IS OF BULK AT MOST 1048576: true; the input reads as it did. -/
def colorNamesUptoRow : OpenClaim := { program := "ytkekhnclbkachaa", sum := "4dd6c786f22d973b11eec38541d50286303099151027a97c5030111a55a59f91", func := "skylantern/skylanternlaw13.ColorNames", spec := "colorNames", unfollowed := true, recurses := true, apart := false, narrowed := true }
def ColorNamesUptoSaid : Prop := colorNamesUptoRow.holds Try.pinned (OpenSpec.upto colorNamesSpec)

/-- 'skylanternlaw13.ColorMixes', WHERE WHAT IT READS IS OF BULK AT MOST 1048576: true; the input reads as it did. -/
def colorMixesUptoRow : OpenClaim := { program := "ytkekhnclbkachaa", sum := "4dd6c786f22d973b11eec38541d50286303099151027a97c5030111a55a59f91", func := "skylantern/skylanternlaw13.ColorMixes", spec := "colorMixes", unfollowed := true, recurses := true, apart := false, narrowed := true }
def ColorMixesUptoSaid : Prop := colorMixesUptoRow.holds Try.pinned (OpenSpec.upto colorMixesSpec)

/-- 'skylanternlaw13.ColorFades', WHERE WHAT IT READS IS OF BULK AT MOST 1048576: true; the input reads as it did. -/
def colorFadesUptoRow : OpenClaim := { program := "ytkekhnclbkachaa", sum := "4dd6c786f22d973b11eec38541d50286303099151027a97c5030111a55a59f91", func := "skylantern/skylanternlaw13.ColorFades", spec := "colorFades", unfollowed := true, recurses := true, apart := false, narrowed := true }
def ColorFadesUptoSaid : Prop := colorFadesUptoRow.holds Try.pinned (OpenSpec.upto colorFadesSpec)

/-- 'skylanternlaw13.ColorTexts', WHERE WHAT IT READS IS OF BULK AT MOST 1048576: true; the input reads as it did. -/
def colorTextsUptoRow : OpenClaim := { program := "ytkekhnclbkachaa", sum := "4dd6c786f22d973b11eec38541d50286303099151027a97c5030111a55a59f91", func := "skylantern/skylanternlaw13.ColorTexts", spec := "colorTexts", unfollowed := true, recurses := true, apart := false, narrowed := true }
def ColorTextsUptoSaid : Prop := colorTextsUptoRow.holds Try.pinned (OpenSpec.upto colorTextsSpec)

/-- 'skylanternlaw13.ColorPalettes', WHERE WHAT IT READS IS OF BULK AT MOST 1048576: true; the input reads as it did. -/
def colorPalettesUptoRow : OpenClaim := { program := "ytkekhnclbkachaa", sum := "4dd6c786f22d973b11eec38541d50286303099151027a97c5030111a55a59f91", func := "skylantern/skylanternlaw13.ColorPalettes", spec := "colorPalettes", unfollowed := true, recurses := true, apart := false, narrowed := true }
def ColorPalettesUptoSaid : Prop := colorPalettesUptoRow.holds Try.pinned (OpenSpec.upto colorPalettesSpec)

/-- 'skylanternlaw13.ColorNearest', WHERE WHAT IT READS IS OF BULK AT MOST 1048576: true; the input reads as it did. -/
def colorNearestUptoRow : OpenClaim := { program := "ytkekhnclbkachaa", sum := "4dd6c786f22d973b11eec38541d50286303099151027a97c5030111a55a59f91", func := "skylantern/skylanternlaw13.ColorNearest", spec := "colorNearest", unfollowed := true, recurses := true, apart := false, narrowed := true }
def ColorNearestUptoSaid : Prop := colorNearestUptoRow.holds Try.pinned (OpenSpec.upto colorNearestSpec)

/-- 'skylanternlaw13.ColorHolds', WHERE WHAT IT READS IS OF BULK AT MOST 1048576: true; the input reads as it did. -/
def colorHoldsUptoRow : OpenClaim := { program := "ytkekhnclbkachaa", sum := "4dd6c786f22d973b11eec38541d50286303099151027a97c5030111a55a59f91", func := "skylantern/skylanternlaw13.ColorHolds", spec := "colorHolds", unfollowed := true, recurses := true, apart := false, narrowed := true }
def ColorHoldsUptoSaid : Prop := colorHoldsUptoRow.holds Try.pinned (OpenSpec.upto colorHoldsSpec)

end Rows
end Go.Proofs.Ytkekhnclbkachaa

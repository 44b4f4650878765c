/-
  No cell of these rows narrows 'for every input' (looked for: loops, veiled, ifaces, maps, wideKeys, modest, calm, conditions, laid).
  DERIVED. THE GIVEN ROWS OF THIS SEAT. 6 by the template 'for every input the law returns true; each argument reads behind the call as it read before'; 0 by the template 'total and deterministic' (their statements: YtjnajibflalmbaaTotals.lean).
  GIVEN WITH THE SEED: the statements are not yours to turn. If you find one false, say at which input.
  Laid BY PROGRAM, IN A SANDBOX (cutbox-rows.mjs): the forced cells as the released guide's own fill.sh prints them over the translation d632845b931909ca… (all of the seat's roots in one cut). By AI agents, Wed Nov 11 2026. No macro, syntax, notation, axiom, sorry.
-/
import Derived.Test.YtjnajibflalmbaaChecked
import GoSem.Claim
import GoSem.ClaimJoined
import GoSem.ClaimMapViews
import Derived.JoinedTies
import Derived.KernelRfl
namespace Go.Proofs.Ytjnajibflalmbaa
/- THE CELL 'sum', in the pinned program and in every row, IS THE sha256 OF THE DUMP (.gsa) THAT YtjnajibflalmbaaProg.lean LOADS. Nothing in Lean hashes anything: it is a label: what it is worth is what the hold of that sum in a sandbox is worth. -/
noncomputable def Try.pinned : Pinned := { name := "ytjnajibflalmbaa", sum := "d632845b931909ca8774af62e0c1cf802d0b04ca9196d1674815ce1ca3f6b806", checked := Try.checked }
namespace Rows
def none {H : Type} : Left H := { results := [], args := [] }

/-- 'skylanternlaw29.EffectValids': WHATEVER THE INPUT: true; the input reads as it did. -/
def effectValidsSpec : ChangeSpec := { name := "effectValids", fn := fun _ => fun
  | [d] => { results := [.lit (.bool true)], args := [d] }
  | _ => none }
def effectValidsRow : OpenClaim := { program := "ytjnajibflalmbaa", sum := "d632845b931909ca8774af62e0c1cf802d0b04ca9196d1674815ce1ca3f6b806", func := "skylantern/skylanternlaw29.EffectValids", spec := "effectValids", apart := false }
def EffectValidsSaid : Prop := effectValidsRow.holds Try.pinned (OpenSpec.ofChange effectValidsSpec)

/-- ITS FALSE NEIGHBOUR: 'it returns false'. Refute it at one input. -/
def effectValidsWrong : ChangeSpec := { name := "effectValids", fn := fun _ => fun
  | [d] => { results := [.lit (.bool false)], args := [d] }
  | _ => none }
def EffectValidsWrongFalsely : Prop := effectValidsRow.holds Try.pinned (OpenSpec.ofChange effectValidsWrong)

/-- 'skylanternlaw29.EffectPhases': WHATEVER THE INPUT: true; the input reads as it did. -/
def effectPhasesSpec : ChangeSpec := { name := "effectPhases", fn := fun _ => fun
  | [d1, d2] => { results := [.lit (.bool true)], args := [d1, d2] }
  | _ => none }
def effectPhasesRow : OpenClaim := { program := "ytjnajibflalmbaa", sum := "d632845b931909ca8774af62e0c1cf802d0b04ca9196d1674815ce1ca3f6b806", func := "skylantern/skylanternlaw29.EffectPhases", spec := "effectPhases", apart := false }
def EffectPhasesSaid : Prop := effectPhasesRow.holds Try.pinned (OpenSpec.ofChange effectPhasesSpec)

/-- ITS FALSE NEIGHBOUR: 'it returns false'. Refute it at one input. -/
def effectPhasesWrong : ChangeSpec := { name := "effectPhases", fn := fun _ => fun
  | [d1, d2] => { results := [.lit (.bool false)], args := [d1, d2] }
  | _ => none }
def EffectPhasesWrongFalsely : Prop := effectPhasesRow.holds Try.pinned (OpenSpec.ofChange effectPhasesWrong)

/-- 'skylanternlaw29.EffectAts': WHATEVER THE INPUT: true; the input reads as it did. -/
def effectAtsSpec : ChangeSpec := { name := "effectAts", fn := fun _ => fun
  | [d1, d2, d3, d4] => { results := [.lit (.bool true)], args := [d1, d2, d3, d4] }
  | _ => none }
def effectAtsRow : OpenClaim := { program := "ytjnajibflalmbaa", sum := "d632845b931909ca8774af62e0c1cf802d0b04ca9196d1674815ce1ca3f6b806", func := "skylantern/skylanternlaw29.EffectAts", spec := "effectAts", apart := false }
def EffectAtsSaid : Prop := effectAtsRow.holds Try.pinned (OpenSpec.ofChange effectAtsSpec)

/-- ITS FALSE NEIGHBOUR: 'it returns false'. Refute it at one input. -/
def effectAtsWrong : ChangeSpec := { name := "effectAts", fn := fun _ => fun
  | [d1, d2, d3, d4] => { results := [.lit (.bool false)], args := [d1, d2, d3, d4] }
  | _ => none }
def EffectAtsWrongFalsely : Prop := effectAtsRow.holds Try.pinned (OpenSpec.ofChange effectAtsWrong)

/-- 'skylanternlaw29.EffectNumbers': WHATEVER THE INPUT: true; the input reads as it did. -/
def effectNumbersSpec : ChangeSpec := { name := "effectNumbers", fn := fun _ => fun
  | [d1, d2, d3] => { results := [.lit (.bool true)], args := [d1, d2, d3] }
  | _ => none }
def effectNumbersRow : OpenClaim := { program := "ytjnajibflalmbaa", sum := "d632845b931909ca8774af62e0c1cf802d0b04ca9196d1674815ce1ca3f6b806", func := "skylantern/skylanternlaw29.EffectNumbers", spec := "effectNumbers", apart := false }
def EffectNumbersSaid : Prop := effectNumbersRow.holds Try.pinned (OpenSpec.ofChange effectNumbersSpec)

/-- ITS FALSE NEIGHBOUR: 'it returns false'. Refute it at one input. -/
def effectNumbersWrong : ChangeSpec := { name := "effectNumbers", fn := fun _ => fun
  | [d1, d2, d3] => { results := [.lit (.bool false)], args := [d1, d2, d3] }
  | _ => none }
def EffectNumbersWrongFalsely : Prop := effectNumbersRow.holds Try.pinned (OpenSpec.ofChange effectNumbersWrong)

/-- 'skylanternlaw29.EffectHolds': WHATEVER THE INPUT: true; the input reads as it did. -/
def effectHoldsSpec : ChangeSpec := { name := "effectHolds", fn := fun _ => fun
  | [d1, d2, d3, d4, d5, d6] => { results := [.lit (.bool true)], args := [d1, d2, d3, d4, d5, d6] }
  | _ => none }
def effectHoldsRow : OpenClaim := { program := "ytjnajibflalmbaa", sum := "d632845b931909ca8774af62e0c1cf802d0b04ca9196d1674815ce1ca3f6b806", func := "skylantern/skylanternlaw29.EffectHolds", spec := "effectHolds", apart := false }
def EffectHoldsSaid : Prop := effectHoldsRow.holds Try.pinned (OpenSpec.ofChange effectHoldsSpec)

/-- ITS FALSE NEIGHBOUR: 'it returns false'. Refute it at one input. -/
def effectHoldsWrong : ChangeSpec := { name := "effectHolds", fn := fun _ => fun
  | [d1, d2, d3, d4, d5, d6] => { results := [.lit (.bool false)], args := [d1, d2, d3, d4, d5, d6] }
  | _ => none }
def EffectHoldsWrongFalsely : Prop := effectHoldsRow.holds Try.pinned (OpenSpec.ofChange effectHoldsWrong)

/-- 'skylanternlaw29.EffectAlls': WHATEVER THE INPUT: true; the input reads as it did. -/
def effectAllsSpec : ChangeSpec := { name := "effectAlls", fn := fun _ => fun
  | [d1, d2, d3] => { results := [.lit (.bool true)], args := [d1, d2, d3] }
  | _ => none }
def effectAllsRow : OpenClaim := { program := "ytjnajibflalmbaa", sum := "d632845b931909ca8774af62e0c1cf802d0b04ca9196d1674815ce1ca3f6b806", func := "skylantern/skylanternlaw29.EffectAlls", spec := "effectAlls", unfollowed := true, recurses := true, apart := false }
def EffectAllsSaid : Prop := effectAllsRow.holds Try.pinned (OpenSpec.ofChange effectAllsSpec)

/-- ITS FALSE NEIGHBOUR: 'it returns false'. Refute it at one input. -/
def effectAllsWrong : ChangeSpec := { name := "effectAlls", fn := fun _ => fun
  | [d1, d2, d3] => { results := [.lit (.bool false)], args := [d1, d2, d3] }
  | _ => none }
def EffectAllsWrongFalsely : Prop := effectAllsRow.holds Try.pinned (OpenSpec.ofChange effectAllsWrong)

/- THE SECOND FORM. 'bulk': how many values and letters a reading holds, each counted each time it is reached (what is shared counts as often as it is met; a slice's spare places count too). A statement '..UptoSaid' is the law's where the arguments, and the package variables that the reading takes, are together of bulk at most 1048576: NARROWER than '..Said'. Prove '..Said' where nothing that the law and all that it calls make is longer than what came in: it says more and counts as full. Else prove '..UptoSaid'. A law counts once. -/
mutual
def uptoBulk {H : Type} : DataW H → Nat
  | .lit (.string bytes) => bytes.length + 1
  | .lit _ => 1
  | .nil => 1
  | .ptr d => uptoBulk d + 1
  | .slice elems spare => uptoBulkAll elems + uptoBulkAll spare + 1
  | .agg parts => uptoBulkAll parts + 1
  | .iface _ d => uptoBulk d + 1
  | .map entries => uptoBulkEntries entries + 1
  | .held _ => 1
def uptoBulkAll {H : Type} : List (DataW H) → Nat
  | [] => 0
  | d :: r => uptoBulk d + uptoBulkAll r
def uptoBulkEntries {H : Type} : List (Lit × DataW H) → Nat
  | [] => 0
  | x :: r => uptoBulkEntry x + uptoBulkEntries r
def uptoBulkEntry {H : Type} : Lit × DataW H → Nat
  | (.string bytes, d) => bytes.length + uptoBulk d + 1
  | (_, d) => uptoBulk d + 1
 end
def uptoSmall : (H : Type) → List (DataW H) → Bool := fun _ ds => decide (uptoBulkAll ds ≤ 1048576)
def OpenSpec.upto (s : _root_.Go.ChangeSpec) : _root_.Go.OpenSpec := { _root_.Go.OpenSpec.ofChange s with cond := some uptoSmall }

/-- 'skylanternlaw29.EffectValids', WHERE WHAT IT READS IS OF BULK AT MOST 1048576: true; the input reads as it did. -/
def effectValidsUptoRow : OpenClaim := { program := "ytjnajibflalmbaa", sum := "d632845b931909ca8774af62e0c1cf802d0b04ca9196d1674815ce1ca3f6b806", func := "skylantern/skylanternlaw29.EffectValids", spec := "effectValids", apart := false, narrowed := true }
def EffectValidsUptoSaid : Prop := effectValidsUptoRow.holds Try.pinned (OpenSpec.upto effectValidsSpec)

/-- 'skylanternlaw29.EffectPhases', WHERE WHAT IT READS IS OF BULK AT MOST 1048576: true; the input reads as it did. -/
def effectPhasesUptoRow : OpenClaim := { program := "ytjnajibflalmbaa", sum := "d632845b931909ca8774af62e0c1cf802d0b04ca9196d1674815ce1ca3f6b806", func := "skylantern/skylanternlaw29.EffectPhases", spec := "effectPhases", apart := false, narrowed := true }
def EffectPhasesUptoSaid : Prop := effectPhasesUptoRow.holds Try.pinned (OpenSpec.upto effectPhasesSpec)

/-- 'skylanternlaw29.EffectAts', WHERE WHAT IT READS IS OF BULK AT MOST 1048576: true; the input reads as it did. -/
def effectAtsUptoRow : OpenClaim := { program := "ytjnajibflalmbaa", sum := "d632845b931909ca8774af62e0c1cf802d0b04ca9196d1674815ce1ca3f6b806", func := "skylantern/skylanternlaw29.EffectAts", spec := "effectAts", apart := false, narrowed := true }
def EffectAtsUptoSaid : Prop := effectAtsUptoRow.holds Try.pinned (OpenSpec.upto effectAtsSpec)

/-- 'skylanternlaw29.EffectNumbers', WHERE WHAT IT READS IS OF BULK AT MOST 1048576: true; the input reads as it did. -/
def effectNumbersUptoRow : OpenClaim := { program := "ytjnajibflalmbaa", sum := "d632845b931909ca8774af62e0c1cf802d0b04ca9196d1674815ce1ca3f6b806", func := "skylantern/skylanternlaw29.EffectNumbers", spec := "effectNumbers", apart := false, narrowed := true }
def EffectNumbersUptoSaid : Prop := effectNumbersUptoRow.holds Try.pinned (OpenSpec.upto effectNumbersSpec)

/-- 'skylanternlaw29.EffectHolds', WHERE WHAT IT READS IS OF BULK AT MOST 1048576: true; the input reads as it did. -/
def effectHoldsUptoRow : OpenClaim := { program := "ytjnajibflalmbaa", sum := "d632845b931909ca8774af62e0c1cf802d0b04ca9196d1674815ce1ca3f6b806", func := "skylantern/skylanternlaw29.EffectHolds", spec := "effectHolds", apart := false, narrowed := true }
def EffectHoldsUptoSaid : Prop := effectHoldsUptoRow.holds Try.pinned (OpenSpec.upto effectHoldsSpec)

/-- 'skylanternlaw29.EffectAlls', WHERE WHAT IT READS IS OF BULK AT MOST 1048576: true; the input reads as it did. -/
def effectAllsUptoRow : OpenClaim := { program := "ytjnajibflalmbaa", sum := "d632845b931909ca8774af62e0c1cf802d0b04ca9196d1674815ce1ca3f6b806", func := "skylantern/skylanternlaw29.EffectAlls", spec := "effectAlls", unfollowed := true, recurses := true, apart := false, narrowed := true }
def EffectAllsUptoSaid : Prop := effectAllsUptoRow.holds Try.pinned (OpenSpec.upto effectAllsSpec)

end Rows
end Go.Proofs.Ytjnajibflalmbaa

/-
  No cell of these rows narrows 'for every input' (looked for: loops, veiled, ifaces, maps, wideKeys, modest, calm, conditions, laid).
  DERIVED. THE GIVEN ROWS OF THIS SEAT. 7 by the template 'for every input the law returns true; each argument reads behind the call as it read before'; 0 by the template 'total and deterministic' (their statements: YtjgfobknifobhaaTotals.lean).
  GIVEN WITH THE SEED: the statements are not yours to turn. If you find one false, say at which input.
  Laid BY PROGRAM, IN A SANDBOX (cutbox-rows.mjs): the forced cells as the released guide's own fill.sh prints them over the translation f2f9ed721be585f8… (all of the seat's roots in one cut). By AI agents, Wed Nov 11 2026. No macro, syntax, notation, axiom, sorry.
-/
import Derived.Test.YtjgfobknifobhaaChecked
import GoSem.Claim
import GoSem.ClaimJoined
import GoSem.ClaimMapViews
import Derived.JoinedTies
import Derived.KernelRfl
namespace Go.Proofs.Ytjgfobknifobhaa
/- THE CELL 'sum', in the pinned program and in every row, IS THE sha256 OF THE DUMP (.gsa) THAT YtjgfobknifobhaaProg.lean LOADS. Nothing in Lean hashes anything: it is a label: what it is worth is what the hold of that sum in a sandbox is worth. -/
noncomputable def Try.pinned : Pinned := { name := "ytjgfobknifobhaa", sum := "f2f9ed721be585f88a4dcce2e2ad54bff14f23b5d501a6ae9fc906a37df88319", checked := Try.checked }
namespace Rows
def none {H : Type} : Left H := { results := [], args := [] }

/-- 'skylanternlaw06.VectorSums': WHATEVER THE INPUT: true; the input reads as it did. -/
def vectorSumsSpec : ChangeSpec := { name := "vectorSums", fn := fun _ => fun
  | [d1, d2, d3] => { results := [.lit (.bool true)], args := [d1, d2, d3] }
  | _ => none }
def vectorSumsRow : OpenClaim := { program := "ytjgfobknifobhaa", sum := "f2f9ed721be585f88a4dcce2e2ad54bff14f23b5d501a6ae9fc906a37df88319", func := "skylantern/skylanternlaw06.VectorSums", spec := "vectorSums", unfollowed := true, recurses := true, apart := false }
def VectorSumsSaid : Prop := vectorSumsRow.holds Try.pinned (OpenSpec.ofChange vectorSumsSpec)

/-- ITS FALSE NEIGHBOUR: 'it returns false'. Refute it at one input. -/
def vectorSumsWrong : ChangeSpec := { name := "vectorSums", fn := fun _ => fun
  | [d1, d2, d3] => { results := [.lit (.bool false)], args := [d1, d2, d3] }
  | _ => none }
def VectorSumsWrongFalsely : Prop := vectorSumsRow.holds Try.pinned (OpenSpec.ofChange vectorSumsWrong)

/-- 'skylanternlaw06.VectorProducts': WHATEVER THE INPUT: true; the input reads as it did. -/
def vectorProductsSpec : ChangeSpec := { name := "vectorProducts", fn := fun _ => fun
  | [d1, d2] => { results := [.lit (.bool true)], args := [d1, d2] }
  | _ => none }
def vectorProductsRow : OpenClaim := { program := "ytjgfobknifobhaa", sum := "f2f9ed721be585f88a4dcce2e2ad54bff14f23b5d501a6ae9fc906a37df88319", func := "skylantern/skylanternlaw06.VectorProducts", spec := "vectorProducts", unfollowed := true, recurses := true, apart := false }
def VectorProductsSaid : Prop := vectorProductsRow.holds Try.pinned (OpenSpec.ofChange vectorProductsSpec)

/-- ITS FALSE NEIGHBOUR: 'it returns false'. Refute it at one input. -/
def vectorProductsWrong : ChangeSpec := { name := "vectorProducts", fn := fun _ => fun
  | [d1, d2] => { results := [.lit (.bool false)], args := [d1, d2] }
  | _ => none }
def VectorProductsWrongFalsely : Prop := vectorProductsRow.holds Try.pinned (OpenSpec.ofChange vectorProductsWrong)

/-- 'skylanternlaw06.VectorBetween': WHATEVER THE INPUT: true; the input reads as it did. -/
def vectorBetweenSpec : ChangeSpec := { name := "vectorBetween", fn := fun _ => fun
  | [d1, d2, d3, d4] => { results := [.lit (.bool true)], args := [d1, d2, d3, d4] }
  | _ => none }
def vectorBetweenRow : OpenClaim := { program := "ytjgfobknifobhaa", sum := "f2f9ed721be585f88a4dcce2e2ad54bff14f23b5d501a6ae9fc906a37df88319", func := "skylantern/skylanternlaw06.VectorBetween", spec := "vectorBetween", unfollowed := true, recurses := true, apart := false }
def VectorBetweenSaid : Prop := vectorBetweenRow.holds Try.pinned (OpenSpec.ofChange vectorBetweenSpec)

/-- ITS FALSE NEIGHBOUR: 'it returns false'. Refute it at one input. -/
def vectorBetweenWrong : ChangeSpec := { name := "vectorBetween", fn := fun _ => fun
  | [d1, d2, d3, d4] => { results := [.lit (.bool false)], args := [d1, d2, d3, d4] }
  | _ => none }
def VectorBetweenWrongFalsely : Prop := vectorBetweenRow.holds Try.pinned (OpenSpec.ofChange vectorBetweenWrong)

/-- 'skylanternlaw06.VectorTurn': WHATEVER THE INPUT: true; the input reads as it did. -/
def vectorTurnSpec : ChangeSpec := { name := "vectorTurn", fn := fun _ => fun
  | [d1, d2, d3] => { results := [.lit (.bool true)], args := [d1, d2, d3] }
  | _ => none }
def vectorTurnRow : OpenClaim := { program := "ytjgfobknifobhaa", sum := "f2f9ed721be585f88a4dcce2e2ad54bff14f23b5d501a6ae9fc906a37df88319", func := "skylantern/skylanternlaw06.VectorTurn", spec := "vectorTurn", unfollowed := true, recurses := true, apart := false }
def VectorTurnSaid : Prop := vectorTurnRow.holds Try.pinned (OpenSpec.ofChange vectorTurnSpec)

/-- ITS FALSE NEIGHBOUR: 'it returns false'. Refute it at one input. -/
def vectorTurnWrong : ChangeSpec := { name := "vectorTurn", fn := fun _ => fun
  | [d1, d2, d3] => { results := [.lit (.bool false)], args := [d1, d2, d3] }
  | _ => none }
def VectorTurnWrongFalsely : Prop := vectorTurnRow.holds Try.pinned (OpenSpec.ofChange vectorTurnWrong)

/-- 'skylanternlaw06.VectorBox': WHATEVER THE INPUT: true; the input reads as it did. -/
def vectorBoxSpec : ChangeSpec := { name := "vectorBox", fn := fun _ => fun
  | [d] => { results := [.lit (.bool true)], args := [d] }
  | _ => none }
def vectorBoxRow : OpenClaim := { program := "ytjgfobknifobhaa", sum := "f2f9ed721be585f88a4dcce2e2ad54bff14f23b5d501a6ae9fc906a37df88319", func := "skylantern/skylanternlaw06.VectorBox", spec := "vectorBox", unfollowed := true, recurses := true, apart := false }
def VectorBoxSaid : Prop := vectorBoxRow.holds Try.pinned (OpenSpec.ofChange vectorBoxSpec)

/-- ITS FALSE NEIGHBOUR: 'it returns false'. Refute it at one input. -/
def vectorBoxWrong : ChangeSpec := { name := "vectorBox", fn := fun _ => fun
  | [d] => { results := [.lit (.bool false)], args := [d] }
  | _ => none }
def VectorBoxWrongFalsely : Prop := vectorBoxRow.holds Try.pinned (OpenSpec.ofChange vectorBoxWrong)

/-- 'skylanternlaw06.VectorHolds': WHATEVER THE INPUT: true; the input reads as it did. -/
def vectorHoldsSpec : ChangeSpec := { name := "vectorHolds", fn := fun _ => fun
  | [d1, d2, d3, d4, d5] => { results := [.lit (.bool true)], args := [d1, d2, d3, d4, d5] }
  | _ => none }
def vectorHoldsRow : OpenClaim := { program := "ytjgfobknifobhaa", sum := "f2f9ed721be585f88a4dcce2e2ad54bff14f23b5d501a6ae9fc906a37df88319", func := "skylantern/skylanternlaw06.VectorHolds", spec := "vectorHolds", unfollowed := true, recurses := true, apart := false }
def VectorHoldsSaid : Prop := vectorHoldsRow.holds Try.pinned (OpenSpec.ofChange vectorHoldsSpec)

/-- ITS FALSE NEIGHBOUR: 'it returns false'. Refute it at one input. -/
def vectorHoldsWrong : ChangeSpec := { name := "vectorHolds", fn := fun _ => fun
  | [d1, d2, d3, d4, d5] => { results := [.lit (.bool false)], args := [d1, d2, d3, d4, d5] }
  | _ => none }
def VectorHoldsWrongFalsely : Prop := vectorHoldsRow.holds Try.pinned (OpenSpec.ofChange vectorHoldsWrong)

/-- 'skylanternlaw06.VectorValid': WHATEVER THE INPUT: true; the input reads as it did. -/
def vectorValidSpec : ChangeSpec := { name := "vectorValid", fn := fun _ => fun
  | [d1, d2] => { results := [.lit (.bool true)], args := [d1, d2] }
  | _ => none }
def vectorValidRow : OpenClaim := { program := "ytjgfobknifobhaa", sum := "f2f9ed721be585f88a4dcce2e2ad54bff14f23b5d501a6ae9fc906a37df88319", func := "skylantern/skylanternlaw06.VectorValid", spec := "vectorValid", unfollowed := true, recurses := true, apart := false }
def VectorValidSaid : Prop := vectorValidRow.holds Try.pinned (OpenSpec.ofChange vectorValidSpec)

/-- ITS FALSE NEIGHBOUR: 'it returns false'. Refute it at one input. -/
def vectorValidWrong : ChangeSpec := { name := "vectorValid", fn := fun _ => fun
  | [d1, d2] => { results := [.lit (.bool false)], args := [d1, d2] }
  | _ => none }
def VectorValidWrongFalsely : Prop := vectorValidRow.holds Try.pinned (OpenSpec.ofChange vectorValidWrong)

/- THE SECOND FORM. 'bulk': how many values and letters a reading holds, each counted each time it is reached (what is shared counts as often as it is met; a slice's spare places count too). A statement '..UptoSaid' is the law's where the arguments, and the package variables that the reading takes, are together of bulk at most 1048576: NARROWER than '..Said'. Prove '..Said' where nothing that the law and all that it calls make is longer than what came in: it says more and counts as full. Else prove '..UptoSaid'. A law counts once. -/
mutual
def uptoBulk {H : Type} : DataW H → Nat
  | .lit (.string bytes) => bytes.length + 1
  | .lit _ => 1
  | .nil => 1
  | .ptr d => uptoBulk d + 1
  | .slice elems spare => uptoBulkAll elems + uptoBulkAll spare + 1
  | .agg parts => uptoBulkAll parts + 1
  | .iface _ d => uptoBulk d + 1
  | .map entries => uptoBulkEntries entries + 1
  | .held _ => 1
def uptoBulkAll {H : Type} : List (DataW H) → Nat
  | [] => 0
  | d :: r => uptoBulk d + uptoBulkAll r
def uptoBulkEntries {H : Type} : List (Lit × DataW H) → Nat
  | [] => 0
  | x :: r => uptoBulkEntry x + uptoBulkEntries r
def uptoBulkEntry {H : Type} : Lit × DataW H → Nat
  | (.string bytes, d) => bytes.length + uptoBulk d + 1
  | (_, d) => uptoBulk d + 1
 end
def uptoSmall : (H : Type) → List (DataW H) → Bool := fun _ ds => decide (uptoBulkAll ds ≤ 1048576)
def OpenSpec.upto (s : _root_.Go.ChangeSpec) : _root_.Go.OpenSpec := { _root_.Go.OpenSpec.ofChange s with cond := some uptoSmall }

/-- 'skylanternlaw06.VectorSums', WHERE WHAT IT READS IS OF BULK AT MOST 1048576: true; the input reads as it did. -/
def vectorSumsUptoRow : OpenClaim := { program := "ytjgfobknifobhaa", sum := "f2f9ed721be585f88a4dcce2e2ad54bff14f23b5d501a6ae9fc906a37df88319", func := "skylantern/skylanternlaw06.VectorSums", spec := "vectorSums", unfollowed := true, recurses := true, apart := false, narrowed := true }
def VectorSumsUptoSaid : Prop := vectorSumsUptoRow.holds Try.pinned (OpenSpec.upto vectorSumsSpec)

/-- 'skylanternlaw06.VectorProducts', WHERE WHAT IT READS IS OF BULK AT MOST 1048576: true; the input reads as it did. -/
def vectorProductsUptoRow : OpenClaim := { program := "ytjgfobknifobhaa", sum := "f2f9ed721be585f88a4dcce2e2ad54bff14f23b5d501a6ae9fc906a37df88319", func := "skylantern/skylanternlaw06.VectorProducts", spec := "vectorProducts", unfollowed := true, recurses := true, apart := false, narrowed := true }
def VectorProductsUptoSaid : Prop := vectorProductsUptoRow.holds Try.pinned (OpenSpec.upto vectorProductsSpec)

/-- 'skylanternlaw06.VectorBetween', WHERE WHAT IT READS IS OF BULK AT MOST 1048576: true; the input reads as it did. -/
def vectorBetweenUptoRow : OpenClaim := { program := "ytjgfobknifobhaa", sum := "f2f9ed721be585f88a4dcce2e2ad54bff14f23b5d501a6ae9fc906a37df88319", func := "skylantern/skylanternlaw06.VectorBetween", spec := "vectorBetween", unfollowed := true, recurses := true, apart := false, narrowed := true }
def VectorBetweenUptoSaid : Prop := vectorBetweenUptoRow.holds Try.pinned (OpenSpec.upto vectorBetweenSpec)

/-- 'skylanternlaw06.VectorTurn', WHERE WHAT IT READS IS OF BULK AT MOST 1048576: true; the input reads as it did. -/
def vectorTurnUptoRow : OpenClaim := { program := "ytjgfobknifobhaa", sum := "f2f9ed721be585f88a4dcce2e2ad54bff14f23b5d501a6ae9fc906a37df88319", func := "skylantern/skylanternlaw06.VectorTurn", spec := "vectorTurn", unfollowed := true, recurses := true, apart := false, narrowed := true }
def VectorTurnUptoSaid : Prop := vectorTurnUptoRow.holds Try.pinned (OpenSpec.upto vectorTurnSpec)

/-- 'skylanternlaw06.VectorBox', WHERE WHAT IT READS IS OF BULK AT MOST 1048576: true; the input reads as it did. -/
def vectorBoxUptoRow : OpenClaim := { program := "ytjgfobknifobhaa", sum := "f2f9ed721be585f88a4dcce2e2ad54bff14f23b5d501a6ae9fc906a37df88319", func := "skylantern/skylanternlaw06.VectorBox", spec := "vectorBox", unfollowed := true, recurses := true, apart := false, narrowed := true }
def VectorBoxUptoSaid : Prop := vectorBoxUptoRow.holds Try.pinned (OpenSpec.upto vectorBoxSpec)

/-- 'skylanternlaw06.VectorHolds', WHERE WHAT IT READS IS OF BULK AT MOST 1048576: true; the input reads as it did. -/
def vectorHoldsUptoRow : OpenClaim := { program := "ytjgfobknifobhaa", sum := "f2f9ed721be585f88a4dcce2e2ad54bff14f23b5d501a6ae9fc906a37df88319", func := "skylantern/skylanternlaw06.VectorHolds", spec := "vectorHolds", unfollowed := true, recurses := true, apart := false, narrowed := true }
def VectorHoldsUptoSaid : Prop := vectorHoldsUptoRow.holds Try.pinned (OpenSpec.upto vectorHoldsSpec)

/-- 'skylanternlaw06.VectorValid', WHERE WHAT IT READS IS OF BULK AT MOST 1048576: true; the input reads as it did. -/
def vectorValidUptoRow : OpenClaim := { program := "ytjgfobknifobhaa", sum := "f2f9ed721be585f88a4dcce2e2ad54bff14f23b5d501a6ae9fc906a37df88319", func := "skylantern/skylanternlaw06.VectorValid", spec := "vectorValid", unfollowed := true, recurses := true, apart := false, narrowed := true }
def VectorValidUptoSaid : Prop := vectorValidUptoRow.holds Try.pinned (OpenSpec.upto vectorValidSpec)

end Rows
end Go.Proofs.Ytjgfobknifobhaa


/- Walks of the statements on lights: the four that hold the program against the reference. Conditions stand in each theorem. -/
import Derived.Test.YtiikejhkhdmgeaaGreatLigK3
import Derived.Test.YtiikejhkhdmgeaaGreatLigR4
import Derived.Test.YtiikejhkhdmgeaaGreatLigR6
import Derived.Test.YtiikejhkhdmgeaaGreatLigO
namespace Go.Proofs.YtiikejhkhdmgeaaGreat
open Go.RowKit
set_option linter.unusedVariables false
set_option linter.unusedSimpArgs false
attribute [local go_sem ↓] ldr16 ldr18

theorem LightsOk.fine {W : World} {A1 A2 A3 : Option Addr} {n1 n2 n3 c1 c2 c3 : Nat} {L : Li} (h : LightsOk W A1 A2 A3 n1 n2 n3 c1 c2 c3 L) (hs : L.nG ≤ 70 ∧ L.cs.length ≤ 40 ∧ L.os.length ≤ 70 ∧ ∀ i, i < L.nG → (L.G i).length ≤ 20) : FineL L where
  n := by omega
  gs := fun i hi => ⟨by have := hs.2.2.2 i hi; omega, (h.g i (by have := h.e1; omega)).2⟩
  cn := by omega
  cs := h.u
  on := by omega
  os := h.o
theorem LightsOk.small {W : World} {A1 A2 A3 : Option Addr} {n1 n2 n3 c1 c2 c3 : Nat} {L : Li} (h : LightsOk W A1 A2 A3 n1 n2 n3 c1 c2 c3 L) (w : World) (hr : RowL w A1 A2 A3 L) : Calls Tryz.prog 4 #[.agg #[.slice A1 L.nG c1, .slice A2 L.cs.length c2, .slice A3 L.os.length c3]] w (SmallRet L w) :=
  small_any A1 A2 A3 c1 c2 c3 L w (by have := h.e1; have := h.l1; omega) (by have := h.e2; have := h.l2; omega) (by have := h.e3; have := h.l3; omega) (fun i hi => h.g i (by have := h.e1; omega)) h.u h.o hr

theorem chg_len (g : List ByteArray) (cs : List Cu) (os : List Ov) : (chg g cs os).length ≤ 2 * cs.length + 1 + 2 * os.length := refO_len g cs os os.length
end Go.Proofs.YtiikejhkhdmgeaaGreat

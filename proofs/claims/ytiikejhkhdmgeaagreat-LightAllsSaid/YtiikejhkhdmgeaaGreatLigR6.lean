
/- Walks: the changes of an aircraft, by the reference. Conditions stand in each theorem. -/
import Derived.Test.YtiikejhkhdmgeaaGreatLigR5
import Derived.Test.YtiikejhkhdmgeaaGreatLigR2
import Derived.Deep.RegionHeld3
namespace Go.Proofs.YtiikejhkhdmgeaaGreat
open Go.RowKit
set_option linter.unusedVariables false
set_option linter.unusedSimpArgs false
attribute [local go_sem ↓] ldr16 ldr18

def chgR (L : Li) (a : Int) : List Int := if fineE L a 0 = 0 then chg (L.G a.toNat) L.cs L.os else []
theorem refC_pos (g : List ByteArray) (cs : List Cu) (k : Nat) : 0 < (refC g cs k).length := by
  have h : (0 : Int) ∈ rawC g cs k := by
    induction k with
    | zero => simp [rawC]
    | succ k ih => rw [rawC, List.mem_append]; exact .inl ih
  exact List.length_pos_of_mem (((refC_spec g cs k).2 0).2 h)
theorem refO_pos (g : List ByteArray) (cs : List Cu) (os : List Ov) (k : Nat) : 0 < (refO g cs os k).length := by
  have h : (0 : Int) ∈ rawO g cs os k := by
    induction k with
    | zero =>
      show (0 : Int) ∈ rawC g cs cs.length
      generalize cs.length = k
      induction k with
      | zero => simp [rawC]
      | succ k ih => rw [rawC, List.mem_append]; exact .inl ih
    | succ k ih => rw [rawO, List.mem_append]; exact .inl ih
  exact List.length_pos_of_mem (((refO_spec g cs os k).2 0).2 h)
theorem insL_pos (l : List Int) (n : Int) : 0 < (insL l n).length := List.length_pos_of_mem (insL_mem.2 (.inl rfl))
/-- The list that has been made so far, in slot u of world W. -/
def ChRel (w0 : World) (l : List Int) (u : Value) (W : World) : Prop := ∃ (g : Gr) (A : Option Addr) (c : Nat), W = xt w0 g ∧ u = .slice A l.length c ∧ Hid (RowI (xt w0 g) A l) ∧ l.length ≤ c ∧ c ≤ maxLen
theorem ChRel.mk {w0 W : World} {A : Option Addr} {c : Nat} {l : List Int} (hb : Below w0.heap.size w0 W) (hr : RowI W A l) (h1 : l.length ≤ c) (h2 : c ≤ maxLen) : ChRel w0 l (.slice A l.length c) W := by
  obtain ⟨g, rfl⟩ := xt_of_below hb
  exact ⟨g, A, c, rfl, rfl, Lib.hid hr, h1, h2⟩
theorem ChRel.to {w0 W : World} {A : Option Addr} {c : Nat} {l m : List Int} (e : m = l) (hb : Below w0.heap.size w0 W) (hr : RowI W A l) (h1 : l.length ≤ c) (h2 : c ≤ maxLen) : ChRel w0 m (.slice A l.length c) W := by
  subst e; exact ChRel.mk hb hr h1 h2
theorem row_one {w : World} {t : TypeId} {m : Nat} {n : Int} (hm : m = w.heap.size) : RowI (w.alloc (.cells #[.int .i64 n] t)) (some ⟨m, 0, none⟩) [n] :=
  Row.made hm fun i j hi hj => by
    have : i = 0 := by simp at hi; omega
    have : j = 0 := by omega
    subst i j
    rfl

end Go.Proofs.YtiikejhkhdmgeaaGreat

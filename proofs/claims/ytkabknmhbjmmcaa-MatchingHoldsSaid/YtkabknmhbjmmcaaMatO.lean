/- Arguments that are graphs, covers, lists of numbers: opened. Conditions stand in each theorem. -/
import Derived.Test.YtkabknmhbjmmcaaMatG
import Derived.Test.YtkabknmhbjmmcaaOpen
import Derived.ChangeSame
namespace Go.Proofs.Ytkabknmhbjmmcaa
open Go.RowKit Go.WideShapes Go.ChangeShapes Go.ChangeAt
set_option linter.unusedVariables false

/-- A slice of numbers that was handed over. -/
def IntsOk (W : World) (A : Option Addr) (n c : Nat) : Prop := ∃ l, n = l.length ∧ n ≤ maxLen ∧ n ≤ c ∧ (∀ x ∈ l, I64 x) ∧ RowI W A l
def GraphOk (W : World) (A : Option Addr) (n c : Nat) (R : Int) : Prop := ∃ G : Nat → List Int, n ≤ maxLen ∧ (∀ i, i < n → (G i).length ≤ maxLen ∧ ∀ x ∈ G i, I64 x) ∧ GRow W A n G ∧ n ≤ c ∧ I64 R
section
variable {H : Type} {enc : TypeId × Value → H} {W : World}
theorem open_Ints {b : Nat} {sp : Nat → Bool} {held : Bool} {A : Option Addr} {n c : Nat} {d : DataW H} {p : List MemPlace} (hsp : sp = fun _ => true) (h : DataW.Trod enc Try.prog W b sp held 25 (.slice A n c) d p) : IntsOk W A n c := by
  obtain ⟨l, h1, h2, h3, h4, h5⟩ := open_I hsp h
  refine ⟨l, h1, h2, ?_, h3, h4⟩
  subst hsp
  obtain ⟨fuel, hf⟩ := h
  rcases open_ints Try.underlying25 Try.underlying3 (by kernel_rfl) hf with ⟨hcs, _⟩ | ⟨a', len', cap', zs, hcs, hb', hl', hm', hz, hy, hcell, hwz⟩
  · simp [Value.cells] at hcs
    obtain ⟨rfl, rfl, rfl⟩ := hcs
    exact Nat.le_refl _
  · simp [Value.cells] at hcs
    obtain ⟨rfl, rfl, rfl⟩ := hcs
    omega
theorem open_GC {b : Nat} {sp : Nat → Bool} {held : Bool} {A : Option Addr} {n c : Nat} {d : DataW H} {p : List MemPlace} (hsp : sp = fun _ => true) (h : DataW.Trod enc Try.prog W b sp held 22 (.slice A n c) d p) : n ≤ c := by
  subst hsp
  obtain ⟨fuel, hf⟩ := h
  rcases Go.Deep.open_int_rows Try.underlying22 Try.underlying25 Try.underlying3 (by kernel_rfl) (by kernel_rfl) hf with ⟨hcs, _⟩ | ⟨a, len, cap, AA, L, C, Z, hcs, hb, hl, hm, _, hr⟩
  · simp [Value.cells] at hcs
    obtain ⟨rfl, rfl, rfl⟩ := hcs
    exact Nat.le_refl _
  · simp [Value.cells] at hcs
    obtain ⟨rfl, rfl, rfl⟩ := hcs
    omega
theorem len2 {cs : List Value} (h : cs.length = 2) : ∃ a b, cs = [a, b] := by
  match cs, h with
  | [a, b], _ => exact ⟨a, b, rfl⟩
theorem open_Graph {b b' : Nat} {sp : Nat → Bool} {held : Bool} {v : Value} {d : DataW H} {p : List MemPlace} (hk : Value.okWide Try.prog W .any b' 24 v) (hsp : sp = fun _ => true) (h : DataW.Trod enc Try.prog W b sp held 24 v d p) :
    ∃ A n c R, v = .agg #[.slice A n c, .int .i64 R] ∧ GraphOk W A n c R := by
  obtain ⟨cs, rfl, hl, hc⟩ := open_cells (tys := [22, 3]) Try.underlying24 (by kernel_rfl) (by kernel_rfl) hk
  obtain ⟨a0, a1, rfl⟩ := len2 hl
  obtain ⟨_, e0, h0⟩ := hc 0 22 rfl
  obtain ⟨_, e1, h1⟩ := hc 1 3 rfl
  simp only [List.getElem?_cons_zero, List.getElem?_cons_succ, Option.some.injEq] at e0 e1
  subst e0 e1
  obtain ⟨A, n, c, rfl⟩ := cell_slice Try.underlying22 h0
  obtain ⟨R, rfl, k1⟩ := cell_int Try.underlying3 h1
  refine ⟨A, n, c, R, rfl, ?_⟩
  obtain ⟨fuel, hf⟩ := h
  obtain ⟨y0, y1, k, hx, _, f0, f1⟩ := trod_struct2 Try.underlying24 hf
  have hI : Try.prog.cellsOf 22 = 1 := by kernel_rfl
  have f0' : DataW.Trod enc Try.prog W b sp held 22 (.slice A n c) y0.1 y0.2 := ⟨k, by
    dsimp only at f0
    rw [hI] at f0
    exact f0⟩
  obtain ⟨G, g1, g2, g3, _⟩ := open_GR hsp f0'
  exact ⟨G, g1, g2, g3, open_GC hsp f0', has_i64 k1⟩
theorem open_Cover {b b' : Nat} {sp : Nat → Bool} {held : Bool} {v : Value} {d : DataW H} {p : List MemPlace} (hk : Value.okWide Try.prog W .any b' 32 v) (hsp : sp = fun _ => true) (h : DataW.Trod enc Try.prog W b sp held 32 v d p) :
    ∃ A n c A' n' c', v = .agg #[.slice A n c, .slice A' n' c'] ∧ IntsOk W A n c ∧ IntsOk W A' n' c' := by
  obtain ⟨cs, rfl, hl, hc⟩ := open_cells (tys := [25, 25]) Try.underlying32 (by kernel_rfl) (by kernel_rfl) hk
  obtain ⟨a0, a1, rfl⟩ := len2 hl
  obtain ⟨_, e0, h0⟩ := hc 0 25 rfl
  obtain ⟨_, e1, h1⟩ := hc 1 25 rfl
  simp only [List.getElem?_cons_zero, List.getElem?_cons_succ, Option.some.injEq] at e0 e1
  subst e0 e1
  obtain ⟨A, n, c, rfl⟩ := cell_slice Try.underlying25 h0
  obtain ⟨A', n', c', rfl⟩ := cell_slice Try.underlying25 h1
  refine ⟨A, n, c, A', n', c', rfl, ?_⟩
  obtain ⟨fuel, hf⟩ := h
  obtain ⟨y0, y1, k, hx, _, f0, f1⟩ := trod_struct2 Try.underlying32 hf
  have hI : Try.prog.cellsOf 25 = 1 := by kernel_rfl
  have f0' : DataW.Trod enc Try.prog W b sp held 25 (.slice A n c) y0.1 y0.2 := ⟨k, by
    dsimp only at f0
    rw [hI] at f0
    exact f0⟩
  have f1' : DataW.Trod enc Try.prog W b sp held 25 (.slice A' n' c') y1.1 y1.2 := ⟨k, by
    dsimp only at f1
    rw [hI] at f1
    exact f1⟩
  exact ⟨open_Ints hsp f0', open_Ints hsp f1'⟩
end
end Go.Proofs.Ytkabknmhbjmmcaa

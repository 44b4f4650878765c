
/- Arguments that are costs, assignments and proofs: opened. Conditions stand in each theorem. -/
import Derived.Test.YtjiknjcmfiapjaaMatG
import Derived.Test.YtjiknjcmfiapjaaOpen
import Derived.ChangeSame
import Derived.Deep.Strs
namespace Go.Proofs.Ytjiknjcmfiapjaa
open Go.RowKit Go.WideShapes Go.ChangeShapes Go.ChangeAt
set_option linter.unusedVariables false

theorem len3 {cs : List Value} (h : cs.length = 3) : ∃ a b c, cs = [a, b, c] := by
  match cs, h with
  | [a, b, c], _ => exact ⟨a, b, c, rfl⟩
theorem len4 {cs : List Value} (h : cs.length = 4) : ∃ a b c d, cs = [a, b, c, d] := by
  match cs, h with
  | [a, b, c, d], _ => exact ⟨a, b, c, d, rfl⟩
/-- A slice of numbers that was handed over. -/
def IntsOk (W : World) (A : Option Addr) (n c : Nat) : Prop := ∃ l, n = l.length ∧ n ≤ maxLen ∧ n ≤ c ∧ (∀ x ∈ l, I64 x) ∧ RowI W A l ∧ (A = none → l.length = 0 ∧ c = 0)
/-- Costs that were handed over. -/
def CostsOk (W : World) (A : Option Addr) (n c : Nat) : Prop := ∃ G : Nat → List Int, n ≤ maxLen ∧ (∀ i, i < n → (G i).length ≤ maxLen ∧ ∀ x ∈ G i, I64 x) ∧ GRow W A n G ∧ n ≤ c
section
variable {H : Type} {enc : TypeId × Value → H} {W : World}
theorem open_Ints {b : Nat} {sp : Nat → Bool} {held : Bool} {A : Option Addr} {n c : Nat} {d : DataW H} {p : List MemPlace} (hsp : sp = fun _ => true) (h : DataW.Trod enc Try.prog W b sp held 23 (.slice A n c) d p) : IntsOk W A n c := by
  obtain ⟨l, h1, h2, h3, h4, h5⟩ := open_I hsp h
  refine ⟨l, h1, h2, ?_, h3, h4, fun e => by have := h5 e; omega⟩
  subst hsp
  obtain ⟨fuel, hf⟩ := h
  rcases open_ints Try.underlying23 Try.underlying3 (by kernel_rfl) hf with ⟨hcs, _⟩ | ⟨a', len', cap', zs, hcs, hb', hl', hm', hz, hy, hcell, hwz⟩
  · simp [Value.cells] at hcs
    obtain ⟨rfl, rfl, rfl⟩ := hcs
    exact Nat.le_refl _
  · simp [Value.cells] at hcs
    obtain ⟨rfl, rfl, rfl⟩ := hcs
    omega
theorem open_Costs {b : Nat} {sp : Nat → Bool} {held : Bool} {A : Option Addr} {n c : Nat} {d : DataW H} {p : List MemPlace} (hsp : sp = fun _ => true) (h : DataW.Trod enc Try.prog W b sp held 22 (.slice A n c) d p) : CostsOk W A n c := by
  obtain ⟨G, g1, g2, g3, _⟩ := open_GR hsp h
  refine ⟨G, g1, g2, g3, ?_⟩
  subst hsp
  obtain ⟨fuel, hf⟩ := h
  rcases Go.Deep.open_int_rows Try.underlying22 Try.underlying23 Try.underlying3 (by kernel_rfl) (by kernel_rfl) hf with ⟨hcs, _⟩ | ⟨a, len, cap, AA, L, C, Z, hcs, hb, hl, hm, _, hr⟩
  · simp [Value.cells] at hcs
    obtain ⟨rfl, rfl, rfl⟩ := hcs
    exact Nat.le_refl _
  · simp [Value.cells] at hcs
    obtain ⟨rfl, rfl, rfl⟩ := hcs
    omega
set_option maxRecDepth 100000 in
theorem open_As {b b' : Nat} {sp : Nat → Bool} {held : Bool} {v : Value} {d : DataW H} {p : List MemPlace} (hk : Value.okWide Try.prog W .any b' 25 v) (hsp : sp = fun _ => true) (h : DataW.Trod enc Try.prog W b sp held 25 v d p) :
    ∃ A n c g s, v = .agg #[.slice A n c, .int .i64 g, .int .i64 s] ∧ IntsOk W A n c := by
  obtain ⟨cs, rfl, hl, hc⟩ := open_cells (tys := [23, 3, 3]) Try.underlying25 (by kernel_rfl) (by kernel_rfl) hk
  obtain ⟨a0, a1, a2, rfl⟩ := len3 hl
  obtain ⟨_, e0, h0⟩ := hc 0 23 rfl
  obtain ⟨_, e1, h1⟩ := hc 1 3 rfl
  obtain ⟨_, e2, h2⟩ := hc 2 3 rfl
  simp only [List.getElem?_cons_zero, List.getElem?_cons_succ, Option.some.injEq] at e0 e1 e2
  subst e0 e1 e2
  obtain ⟨A, n, c, rfl⟩ := cell_slice Try.underlying23 h0
  obtain ⟨g, rfl, k1⟩ := cell_int Try.underlying3 h1
  obtain ⟨s, rfl, k2⟩ := cell_int Try.underlying3 h2
  refine ⟨A, n, c, g, s, rfl, ?_⟩
  obtain ⟨fuel, hf⟩ := h
  obtain ⟨y0, y1, y2, k, hx, _, f0, f1, f2⟩ := Go.Deep.trod_struct3 Try.underlying25 hf
  have hI : Try.prog.cellsOf 23 = 1 := by kernel_rfl
  have f0' : DataW.Trod enc Try.prog W b sp held 23 (.slice A n c) y0.1 y0.2 := ⟨k, by
    dsimp only at f0
    rw [hI] at f0
    exact f0⟩
  exact open_Ints hsp f0'
set_option maxRecDepth 100000 in
theorem open_Pr {b b' : Nat} {sp : Nat → Bool} {held : Bool} {v : Value} {d : DataW H} {p : List MemPlace} (hk : Value.okWide Try.prog W .any b' 29 v) (hsp : sp = fun _ => true) (h : DataW.Trod enc Try.prog W b sp held 29 v d p) :
    ∃ A n c A' n' c' A2 n2 c2 A3 n3 c3, v = .agg #[.slice A n c, .slice A' n' c', .slice A2 n2 c2, .slice A3 n3 c3] ∧ IntsOk W A n c ∧ IntsOk W A' n' c' ∧ IntsOk W A2 n2 c2 ∧ IntsOk W A3 n3 c3 := by
  obtain ⟨cs, rfl, hl, hc⟩ := open_cells (tys := [23, 23, 23, 23]) Try.underlying29 (by kernel_rfl) (by kernel_rfl) hk
  obtain ⟨a0, a1, a2, a3, rfl⟩ := len4 hl
  obtain ⟨_, e0, h0⟩ := hc 0 23 rfl
  obtain ⟨_, e1, h1⟩ := hc 1 23 rfl
  obtain ⟨_, e2, h2⟩ := hc 2 23 rfl
  obtain ⟨_, e3, h3⟩ := hc 3 23 rfl
  simp only [List.getElem?_cons_zero, List.getElem?_cons_succ, Option.some.injEq] at e0 e1 e2 e3
  subst e0 e1 e2 e3
  obtain ⟨A, n, c, rfl⟩ := cell_slice Try.underlying23 h0
  obtain ⟨A', n', c', rfl⟩ := cell_slice Try.underlying23 h1
  obtain ⟨A2, n2, c2, rfl⟩ := cell_slice Try.underlying23 h2
  obtain ⟨A3, n3, c3, rfl⟩ := cell_slice Try.underlying23 h3
  refine ⟨A, n, c, A', n', c', A2, n2, c2, A3, n3, c3, rfl, ?_⟩
  obtain ⟨fuel, hf⟩ := h
  obtain ⟨y0, y1, y2, k, hx, _, f0, f1, f2⟩ := Go.Deep.trod_struct3 Try.underlying29 hf
  have hI : Try.prog.cellsOf 23 = 1 := by kernel_rfl
  have hI2 : Try.prog.cellsOf 27 = 2 := by kernel_rfl
  dsimp only at f0 f1 f2
  rw [hI2] at f0
  rw [hI] at f1 f2
  obtain ⟨z0, z1, k2, _, _, q0, q1⟩ := trod_struct2 Try.underlying27 f0
  dsimp only at q0 q1
  rw [hI] at q0 q1
  exact ⟨open_Ints hsp ⟨k2, q0⟩, open_Ints hsp ⟨k2, q1⟩, open_Ints hsp ⟨k, f1⟩, open_Ints hsp ⟨k, f2⟩⟩
end
end Go.Proofs.Ytjiknjcmfiapjaa

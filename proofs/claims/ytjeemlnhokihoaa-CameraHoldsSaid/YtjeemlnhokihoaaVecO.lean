/- Vectors as arguments. No condition. -/
import Derived.Test.YtjeemlnhokihoaaOpen
import Derived.Test.YtjeemlnhokihoaaVecP
namespace Go.Proofs.Ytjeemlnhokihoaa
open Go.RowKit Go.WideShapes

theorem len3 {α : Type} {l : List α} (h : l.length = 3) : ∃ a b c, l = [a, b, c] := by
  match l, h with
  | [a, b, c], _ => exact ⟨a, b, c, rfl⟩

def V3.ok (a : V3) : Prop := I64 a.x ∧ I64 a.y ∧ I64 a.z
theorem open_V3 {W : World} {b : Nat} {v : Value} (h : Value.okWide Try.prog W .any b 23 v) : ∃ a : V3, v = .agg #[.int .i64 a.x, .int .i64 a.y, .int .i64 a.z] ∧ a.ok := by
  obtain ⟨cs, rfl, hl, hc⟩ := open_cells (tys := [3, 3, 3]) Try.underlying23 (by kernel_rfl) (by kernel_rfl) h
  obtain ⟨c0, c1, c2, rfl⟩ := len3 hl
  obtain ⟨_, e0, h0⟩ := hc 0 3 rfl
  obtain ⟨_, e1, h1⟩ := hc 1 3 rfl
  obtain ⟨_, e2, h2⟩ := hc 2 3 rfl
  simp only [List.getElem?_cons_zero, List.getElem?_cons_succ, Option.some.injEq] at e0 e1 e2
  subst e0 e1 e2
  obtain ⟨x, rfl, hx⟩ := cell_int Try.underlying3 h0
  obtain ⟨y, rfl, hy⟩ := cell_int Try.underlying3 h1
  obtain ⟨z, rfl, hz⟩ := cell_int Try.underlying3 h2
  exact ⟨⟨x, y, z⟩, rfl, hx, hy, hz⟩

end Go.Proofs.Ytjeemlnhokihoaa

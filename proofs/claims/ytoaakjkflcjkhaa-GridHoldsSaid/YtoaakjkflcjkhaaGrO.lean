/- Grids as arguments. No condition. -/
import Derived.Test.YtoaakjkflcjkhaaOpen
import Derived.Test.YtoaakjkflcjkhaaGrP
namespace Go.Proofs.Ytoaakjkflcjkhaa
open Go.RowKit Go.WideShapes

theorem len6 {α : Type} {l : List α} (h : l.length = 6) : ∃ a b c d e f, l = [a, b, c, d, e, f] := by
  match l, h with
  | [a, b, c, d, e, f], _ => exact ⟨a, b, c, d, e, f, rfl⟩

def Gd.ok (q : Gd) : Prop := I64 q.ox
theorem open_Grid {W : World} {b : Nat} {v : Value} (h : Value.okWide Try.prog W .any b 25 v) : ∃ q : Gd, v = .agg #[.int .i64 q.ox, .int .i64 q.oy, .int .i64 q.oz, .int .i64 q.rows, .int .i64 q.cols, .int .i64 q.sp] ∧ q.ok := by
  obtain ⟨cs, rfl, hl, hc⟩ := open_cells (tys := [3, 3, 3, 3, 3, 3]) Try.underlying25 (by kernel_rfl) (by kernel_rfl) h
  obtain ⟨c0, c1, c2, c3, c4, c5, rfl⟩ := len6 hl
  obtain ⟨_, e0, h0⟩ := hc 0 3 rfl
  obtain ⟨_, e1, h1⟩ := hc 1 3 rfl
  obtain ⟨_, e2, h2⟩ := hc 2 3 rfl
  obtain ⟨_, e3, h3⟩ := hc 3 3 rfl
  obtain ⟨_, e4, h4⟩ := hc 4 3 rfl
  obtain ⟨_, e5, h5⟩ := hc 5 3 rfl
  simp only [List.getElem?_cons_zero, List.getElem?_cons_succ, Option.some.injEq] at e0 e1 e2 e3 e4 e5
  subst e0 e1 e2 e3 e4 e5
  obtain ⟨x0, rfl, k0⟩ := cell_int Try.underlying3 h0
  obtain ⟨x1, rfl, _⟩ := cell_int Try.underlying3 h1
  obtain ⟨x2, rfl, _⟩ := cell_int Try.underlying3 h2
  obtain ⟨x3, rfl, _⟩ := cell_int Try.underlying3 h3
  obtain ⟨x4, rfl, _⟩ := cell_int Try.underlying3 h4
  obtain ⟨x5, rfl, _⟩ := cell_int Try.underlying3 h5
  exact ⟨⟨x0, x1, x2, x3, x4, x5⟩, rfl, k0⟩

end Go.Proofs.Ytoaakjkflcjkhaa

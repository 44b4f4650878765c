/- Cameras as arguments. No condition. -/
import Derived.Test.YtjeemlnhokihoaaOpen
import Derived.Test.YtjeemlnhokihoaaCamP
namespace Go.Proofs.Ytjeemlnhokihoaa
open Go.RowKit Go.WideShapes

theorem len16 {α : Type} {l : List α} (h : l.length = 16) : ∃ a0 a1 a2 a3 a4 a5 a6 a7 a8 a9 a10 a11 a12 a13 a14 a15, l = [a0, a1, a2, a3, a4, a5, a6, a7, a8, a9, a10, a11, a12, a13, a14, a15] := by
  match l, h with
  | [a0, a1, a2, a3, a4, a5, a6, a7, a8, a9, a10, a11, a12, a13, a14, a15], _ => exact ⟨a0, a1, a2, a3, a4, a5, a6, a7, a8, a9, a10, a11, a12, a13, a14, a15, rfl⟩

def Cam.ok (c : Cam) : Prop := I64 c.fo
theorem open_Cam {W : World} {b : Nat} {v : Value} (h : Value.okWide Try.prog W .any b 25 v) : ∃ c : Cam, v = .agg #[.int .i64 c.e.x, .int .i64 c.e.y, .int .i64 c.e.z, .int .i64 c.r.x, .int .i64 c.r.y, .int .i64 c.r.z, .int .i64 c.u.x, .int .i64 c.u.y, .int .i64 c.u.z, .int .i64 c.f.x, .int .i64 c.f.y, .int .i64 c.f.z, .int .i64 c.fo, .int .i64 c.wi, .int .i64 c.he, .int .i64 c.ne] ∧ c.ok := by
  obtain ⟨cs, rfl, hl, hc⟩ := open_cells (tys := [3, 3, 3, 3, 3, 3, 3, 3, 3, 3, 3, 3, 3, 3, 3, 3]) Try.underlying25 (by kernel_rfl) (by kernel_rfl) h
  obtain ⟨a0, a1, a2, a3, a4, a5, a6, a7, a8, a9, a10, a11, a12, a13, a14, a15, rfl⟩ := len16 hl
  obtain ⟨_, e0, h0⟩ := hc 0 3 rfl
  obtain ⟨_, e1, h1⟩ := hc 1 3 rfl
  obtain ⟨_, e2, h2⟩ := hc 2 3 rfl
  obtain ⟨_, e3, h3⟩ := hc 3 3 rfl
  obtain ⟨_, e4, h4⟩ := hc 4 3 rfl
  obtain ⟨_, e5, h5⟩ := hc 5 3 rfl
  obtain ⟨_, e6, h6⟩ := hc 6 3 rfl
  obtain ⟨_, e7, h7⟩ := hc 7 3 rfl
  obtain ⟨_, e8, h8⟩ := hc 8 3 rfl
  obtain ⟨_, e9, h9⟩ := hc 9 3 rfl
  obtain ⟨_, e10, h10⟩ := hc 10 3 rfl
  obtain ⟨_, e11, h11⟩ := hc 11 3 rfl
  obtain ⟨_, e12, h12⟩ := hc 12 3 rfl
  obtain ⟨_, e13, h13⟩ := hc 13 3 rfl
  obtain ⟨_, e14, h14⟩ := hc 14 3 rfl
  obtain ⟨_, e15, h15⟩ := hc 15 3 rfl
  simp only [List.getElem?_cons_zero, List.getElem?_cons_succ, Option.some.injEq] at e0 e1 e2 e3 e4 e5 e6 e7 e8 e9 e10 e11 e12 e13 e14 e15
  subst e0 e1 e2 e3 e4 e5 e6 e7 e8 e9 e10 e11 e12 e13 e14 e15
  obtain ⟨x0, rfl, _⟩ := cell_int Try.underlying3 h0
  obtain ⟨x1, rfl, _⟩ := cell_int Try.underlying3 h1
  obtain ⟨x2, rfl, _⟩ := cell_int Try.underlying3 h2
  obtain ⟨x3, rfl, _⟩ := cell_int Try.underlying3 h3
  obtain ⟨x4, rfl, _⟩ := cell_int Try.underlying3 h4
  obtain ⟨x5, rfl, _⟩ := cell_int Try.underlying3 h5
  obtain ⟨x6, rfl, _⟩ := cell_int Try.underlying3 h6
  obtain ⟨x7, rfl, _⟩ := cell_int Try.underlying3 h7
  obtain ⟨x8, rfl, _⟩ := cell_int Try.underlying3 h8
  obtain ⟨x9, rfl, _⟩ := cell_int Try.underlying3 h9
  obtain ⟨x10, rfl, _⟩ := cell_int Try.underlying3 h10
  obtain ⟨x11, rfl, _⟩ := cell_int Try.underlying3 h11
  obtain ⟨x12, rfl, k12⟩ := cell_int Try.underlying3 h12
  obtain ⟨x13, rfl, _⟩ := cell_int Try.underlying3 h13
  obtain ⟨x14, rfl, _⟩ := cell_int Try.underlying3 h14
  obtain ⟨x15, rfl, _⟩ := cell_int Try.underlying3 h15
  exact ⟨⟨⟨x0, x1, x2⟩, ⟨x3, x4, x5⟩, ⟨x6, x7, x8⟩, ⟨x9, x10, x11⟩, x12, x13, x14, x15⟩, rfl, k12⟩

end Go.Proofs.Ytjeemlnhokihoaa

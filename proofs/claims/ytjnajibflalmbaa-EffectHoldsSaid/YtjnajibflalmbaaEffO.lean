/- Vectors, colours and effects as arguments. No condition. -/
import Derived.Test.YtjnajibflalmbaaOpen
import Derived.Test.YtjnajibflalmbaaEffP
namespace Go.Proofs.Ytjnajibflalmbaa
open Go.RowKit Go.WideShapes

theorem len3 {α : Type} {l : List α} (h : l.length = 3) : ∃ a b c, l = [a, b, c] := by
  match l, h with
  | [a, b, c], _ => exact ⟨a, b, c, rfl⟩
theorem len16 {α : Type} {l : List α} (h : l.length = 16) : ∃ a0 a1 a2 a3 a4 a5 a6 a7 a8 a9 b0 b1 b2 b3 b4 b5, l = [a0, a1, a2, a3, a4, a5, a6, a7, a8, a9, b0, b1, b2, b3, b4, b5] := by
  match l, h with
  | [a0, a1, a2, a3, a4, a5, a6, a7, a8, a9, b0, b1, b2, b3, b4, b5], _ => exact ⟨_, _, _, _, _, _, _, _, _, _, _, _, _, _, _, _, rfl⟩

def V3.ok (a : V3) : Prop := I64 a.x ∧ I64 a.y ∧ I64 a.z
structure Eff.ok (e : Eff) : Prop where
  kind : I64 e.kind
  fr : I64 e.fr
  to : I64 e.to
  period : I64 e.period
  width : I64 e.width
  along : e.along.ok
  scale : I64 e.scale
  seed : I64 e.seed
  a : e.a.ok
  b : e.b.ok

theorem open_V3 {W : World} {b : Nat} {v : Value} (h : Value.okWide Try.prog W .any b 24 v) : ∃ a : V3, v = .agg #[.int .i64 a.x, .int .i64 a.y, .int .i64 a.z] ∧ a.ok := by
  obtain ⟨cs, rfl, hl, hc⟩ := open_cells (tys := [3, 3, 3]) Try.underlying24 (by kernel_rfl) (by kernel_rfl) h
  obtain ⟨c0, c1, c2, rfl⟩ := len3 hl
  obtain ⟨_, e0, h0⟩ := hc 0 3 rfl
  obtain ⟨_, e1, h1⟩ := hc 1 3 rfl
  obtain ⟨_, e2, h2⟩ := hc 2 3 rfl
  simp only [List.getElem?_cons_zero, List.getElem?_cons_succ, Option.some.injEq] at e0 e1 e2
  subst e0 e1 e2
  obtain ⟨x, rfl, hx⟩ := cell_int Try.underlying3 h0
  obtain ⟨y, rfl, hy⟩ := cell_int Try.underlying3 h1
  obtain ⟨z, rfl, hz⟩ := cell_int Try.underlying3 h2
  exact ⟨⟨x, y, z⟩, rfl, hx, hy, hz⟩

theorem open_Eff {W : World} {b : Nat} {v : Value} (h : Value.okWide Try.prog W .any b 28 v) : ∃ e : Eff, v = .agg #[.int .i64 e.kind, .int .i64 e.fr, .int .i64 e.to, .int .i64 e.period, .int .i64 e.width, .int .i64 e.along.x, .int .i64 e.along.y, .int .i64 e.along.z, .int .i64 e.scale, .int .i64 e.seed, .int .u8 e.a.r, .int .u8 e.a.g, .int .u8 e.a.b, .int .u8 e.b.r, .int .u8 e.b.g, .int .u8 e.b.b] ∧ e.ok := by
  obtain ⟨cs, rfl, hl, hc⟩ := open_cells (tys := [22, 3, 3, 3, 3, 3, 3, 3, 3, 3, 5, 5, 5, 5, 5, 5]) Try.underlying28 (by kernel_rfl) (by kernel_rfl) h
  obtain ⟨c0, c1, c2, c3, c4, c5, c6, c7, c8, c9, d0, d1, d2, d3, d4, d5, rfl⟩ := len16 hl
  obtain ⟨_, e0, h0⟩ := hc 0 22 rfl
  obtain ⟨_, e1, h1⟩ := hc 1 3 rfl
  obtain ⟨_, e2, h2⟩ := hc 2 3 rfl
  obtain ⟨_, e3, h3⟩ := hc 3 3 rfl
  obtain ⟨_, e4, h4⟩ := hc 4 3 rfl
  obtain ⟨_, e5, h5⟩ := hc 5 3 rfl
  obtain ⟨_, e6, h6⟩ := hc 6 3 rfl
  obtain ⟨_, e7, h7⟩ := hc 7 3 rfl
  obtain ⟨_, e8, h8⟩ := hc 8 3 rfl
  obtain ⟨_, e9, h9⟩ := hc 9 3 rfl
  obtain ⟨_, f0, k0⟩ := hc 10 5 rfl
  obtain ⟨_, f1, k1⟩ := hc 11 5 rfl
  obtain ⟨_, f2, k2⟩ := hc 12 5 rfl
  obtain ⟨_, f3, k3⟩ := hc 13 5 rfl
  obtain ⟨_, f4, k4⟩ := hc 14 5 rfl
  obtain ⟨_, f5, k5⟩ := hc 15 5 rfl
  simp only [List.getElem?_cons_zero, List.getElem?_cons_succ, Option.some.injEq] at e0 e1 e2 e3 e4 e5 e6 e7 e8 e9 f0 f1 f2 f3 f4 f5
  subst e0 e1 e2 e3 e4 e5 e6 e7 e8 e9 f0 f1 f2 f3 f4 f5
  obtain ⟨n0, rfl, g0⟩ := cell_int Try.underlying22 h0
  obtain ⟨n1, rfl, g1⟩ := cell_int Try.underlying3 h1
  obtain ⟨n2, rfl, g2⟩ := cell_int Try.underlying3 h2
  obtain ⟨n3, rfl, g3⟩ := cell_int Try.underlying3 h3
  obtain ⟨n4, rfl, g4⟩ := cell_int Try.underlying3 h4
  obtain ⟨n5, rfl, g5⟩ := cell_int Try.underlying3 h5
  obtain ⟨n6, rfl, g6⟩ := cell_int Try.underlying3 h6
  obtain ⟨n7, rfl, g7⟩ := cell_int Try.underlying3 h7
  obtain ⟨n8, rfl, g8⟩ := cell_int Try.underlying3 h8
  obtain ⟨n9, rfl, g9⟩ := cell_int Try.underlying3 h9
  obtain ⟨m0, rfl, j0⟩ := cell_int Try.underlying5 k0
  obtain ⟨m1, rfl, j1⟩ := cell_int Try.underlying5 k1
  obtain ⟨m2, rfl, j2⟩ := cell_int Try.underlying5 k2
  obtain ⟨m3, rfl, j3⟩ := cell_int Try.underlying5 k3
  obtain ⟨m4, rfl, j4⟩ := cell_int Try.underlying5 k4
  obtain ⟨m5, rfl, j5⟩ := cell_int Try.underlying5 k5
  exact ⟨⟨n0, n1, n2, n3, n4, ⟨n5, n6, n7⟩, n8, n9, ⟨m0, m1, m2⟩, ⟨m3, m4, m5⟩⟩, rfl, ⟨g0, g1, g2, g3, g4, ⟨g5, g6, g7⟩, g8, g9, ⟨j0, j1, j2⟩, ⟨j3, j4, j5⟩⟩⟩

end Go.Proofs.Ytjnajibflalmbaa

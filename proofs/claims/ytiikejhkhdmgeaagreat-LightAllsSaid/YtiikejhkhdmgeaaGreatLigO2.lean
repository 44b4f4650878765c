
/- Vectors and overlays as arguments. No condition. -/
import Derived.Test.YtiikejhkhdmgeaaGreatLigO
namespace Go.Proofs.YtiikejhkhdmgeaaGreat
open Go.RowKit Go.WideShapes Go.ChangeShapes
set_option linter.unusedVariables false

set_option maxRecDepth 100000 in
theorem open_V3 {W : World} {b : Nat} {v : Value} (h : Value.okWide Tryz.prog W .any b 37 v) : ∃ a : V3, v = .agg #[.int .i64 a.x, .int .i64 a.y, .int .i64 a.z] ∧ True := by
  obtain ⟨cs, rfl, hl, hc⟩ := open_cells (tys := [3, 3, 3]) Tryz.underlying37 (by kernel_rfl) (by kernel_rfl) h
  obtain ⟨c0, c1, c2, rfl⟩ := len3 hl
  obtain ⟨_, e0, h0⟩ := hc 0 3 rfl
  obtain ⟨_, e1, h1⟩ := hc 1 3 rfl
  obtain ⟨_, e2, h2⟩ := hc 2 3 rfl
  simp only [List.getElem?_cons_zero, List.getElem?_cons_succ, Option.some.injEq] at e0 e1 e2
  subst e0 e1 e2
  obtain ⟨x, rfl, hx⟩ := cell_int Tryz.underlying3 h0
  obtain ⟨y, rfl, hy⟩ := cell_int Tryz.underlying3 h1
  obtain ⟨z, rfl, hz⟩ := cell_int Tryz.underlying3 h2
  exact ⟨⟨x, y, z⟩, rfl, trivial⟩
/-- An overlay that was handed over. -/
def OvOk (o : Ov) : Prop := o.g.size ≤ maxLen ∧ o.e.a.ok ∧ o.e.b.ok
set_option maxRecDepth 100000 in
theorem open_Ov {H : Type} {enc : TypeId × Value → H} {W : World} {b b' : Nat} {sp : Nat → Bool} {held : Bool} {v : Value} {d : DataW H} {p : List MemPlace} (hk : Value.okWide Tryz.prog W .any b' 49 v) (h : DataW.Trod enc Tryz.prog W b sp held 49 v d p) : ∃ o : Ov, v = .agg #[.string o.g, .int .i64 o.p, .int .i64 o.e.kind, .int .i64 o.e.fr, .int .i64 o.e.to, .int .i64 o.e.period, .int .i64 o.e.width, .int .i64 o.e.along.x, .int .i64 o.e.along.y, .int .i64 o.e.along.z, .int .i64 o.e.scale, .int .i64 o.e.seed, .int .u8 o.e.a.r, .int .u8 o.e.a.g, .int .u8 o.e.a.b, .int .u8 o.e.b.r, .int .u8 o.e.b.g, .int .u8 o.e.b.b] ∧ OvOk o := by
  have hv : ∃ cs : Array Value, v = .agg cs := by
    simp only [Value.okWide, show Tryz.prog.underlying 49 = _ from Tryz.underlying49] at hk
    obtain ⟨cs, rfl, _⟩ := hk
    exact ⟨cs, rfl⟩
  obtain ⟨cs, rfl⟩ := hv
  obtain ⟨fuel, hf⟩ := h
  obtain ⟨o, e, ho⟩ := trodO hf
  refine ⟨o, ?_, ho⟩
  have e' : cs.toList = [.string o.g, .int .i64 o.p, .int .i64 o.e.kind, .int .i64 o.e.fr, .int .i64 o.e.to, .int .i64 o.e.period, .int .i64 o.e.width, .int .i64 o.e.along.x, .int .i64 o.e.along.y, .int .i64 o.e.along.z, .int .i64 o.e.scale, .int .i64 o.e.seed, .int .u8 o.e.a.r, .int .u8 o.e.a.g, .int .u8 o.e.a.b, .int .u8 o.e.b.r, .int .u8 o.e.b.g, .int .u8 o.e.b.b] := e
  have : cs = ([.string o.g, .int .i64 o.p, .int .i64 o.e.kind, .int .i64 o.e.fr, .int .i64 o.e.to, .int .i64 o.e.period, .int .i64 o.e.width, .int .i64 o.e.along.x, .int .i64 o.e.along.y, .int .i64 o.e.along.z, .int .i64 o.e.scale, .int .i64 o.e.seed, .int .u8 o.e.a.r, .int .u8 o.e.a.g, .int .u8 o.e.a.b, .int .u8 o.e.b.r, .int .u8 o.e.b.g, .int .u8 o.e.b.b] : List Value).toArray := by rw [← e']
  rw [this]

end Go.Proofs.YtiikejhkhdmgeaaGreat

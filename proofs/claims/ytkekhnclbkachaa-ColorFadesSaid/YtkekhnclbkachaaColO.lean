/- Colours, texts and slices of swatches as arguments. No condition. -/
import Derived.Test.YtkekhnclbkachaaOpen
import Derived.Test.YtkekhnclbkachaaColS
import Derived.Deep.Strs
import Derived.OpenShut
namespace Go.Proofs.Ytkekhnclbkachaa
open Go.RowKit Go.WideShapes Go.ChangeShapes
set_option linter.unusedVariables false

theorem len3 {α : Type} {l : List α} (h : l.length = 3) : ∃ a b c, l = [a, b, c] := by
  match l, h with
  | [a, b, c], _ => exact ⟨a, b, c, rfl⟩
theorem open_Col {W : World} {b : Nat} {v : Value} (h : Value.okWide Try.prog W .any b 25 v) : ∃ c : Col, v = .agg #[.int .u8 c.r, .int .u8 c.g, .int .u8 c.b] ∧ c.ok := by
  obtain ⟨cs, rfl, hl, hc⟩ := open_cells (tys := [5, 5, 5]) Try.underlying25 (by kernel_rfl) (by kernel_rfl) h
  obtain ⟨a0, a1, a2, rfl⟩ := len3 hl
  obtain ⟨_, e0, h0⟩ := hc 0 5 rfl
  obtain ⟨_, e1, h1⟩ := hc 1 5 rfl
  obtain ⟨_, e2, h2⟩ := hc 2 5 rfl
  simp only [List.getElem?_cons_zero, List.getElem?_cons_succ, Option.some.injEq] at e0 e1 e2
  subst e0 e1 e2
  obtain ⟨x0, rfl, k0⟩ := cell_int Try.underlying5 h0
  obtain ⟨x1, rfl, k1⟩ := cell_int Try.underlying5 h1
  obtain ⟨x2, rfl, k2⟩ := cell_int Try.underlying5 h2
  exact ⟨⟨x0, x1, x2⟩, rfl, has_u8 k0, has_u8 k1, has_u8 k2⟩

theorem wf_u8 {n : Int} (h : (Lit.int .u8 n).wf = true) : U8 n := by
  have : IntKind.u8.has n := by simpa [Lit.wf, IntKind.has] using h
  exact has_u8 this

section
variable {H : Type} {enc : TypeId × Value → H} {W : World}
theorem open_Str {r : Reach} {b0 b : Nat} {sp : Nat → Bool} {held : Bool} {v : Value} {d : DataW H} {p : List MemPlace} (h : Value.okWide Try.prog W r b0 9 v) (hd : DataW.Trod enc Try.prog W b sp held 9 v d p) : ∃ s, v = .string s ∧ s.size ≤ maxLen := by
  obtain ⟨s, rfl, _, _, hs⟩ := Go.ChangeMaps.open_string Try.underlying9 h hd
  exact ⟨s, rfl, hs⟩

theorem cells_SW {b : Nat} {sp : Nat → Bool} {held : Bool} {A : Option Addr} {n c : Nat} {d : DataW H} {p : List MemPlace} (h : DataW.Trod enc Try.prog W b sp held 41 (.slice A n c) d p) :
    (A = none ∧ n = 0 ∧ c = 0) ∨ ∃ ad, A = some ad ∧ n ≤ c ∧ c ≤ maxLen ∧ ∀ i, i < n → ∃ s : Sw, s.n.size ≤ maxLen ∧ s.c.ok ∧ ∀ j, j < 4 → W.cell? (ad.add (i * 4 + j)) = some (swcell s j) := by
  obtain ⟨fuel, hf⟩ := h
  rcases Go.Deep.open_slice Try.underlying41 hf with ⟨hcs, _⟩ | ⟨a, len, cap, m, k, D, Pl, hcs, _, hl, hm, hmm, _, hi⟩
  · simp [Value.cells] at hcs
    exact .inl ⟨hcs.1, hcs.2.1, hcs.2.2⟩
  · simp [Value.cells] at hcs
    obtain ⟨rfl, rfl, rfl⟩ := hcs
    refine .inr ⟨a, rfl, hl, hm, fun i hin => ?_⟩
    have him : i < m := by rw [hmm]; split <;> omega
    obtain ⟨cs', hc, ht'⟩ := hi i him
    have hC : Try.prog.cellsOf 54 = 4 := by kernel_rfl
    rw [hC] at hc
    obtain ⟨_, hcl, hat⟩ := World.cells?_some hc
    match cs', hcl with
    | [u0, u1, u2, u3], _ =>
      obtain ⟨y0, y1, k', _, _, g0, g1⟩ := trod_struct2 Try.underlying54 ht'
      have hS : Try.prog.cellsOf 9 = 1 := by kernel_rfl
      have hCo : Try.prog.cellsOf 25 = 3 := by kernel_rfl
      have hI : Try.prog.cellsOf 5 = 1 := by kernel_rfl
      dsimp only at g0 g1
      rw [hS] at g0
      rw [hCo] at g1
      obtain ⟨z0, z1, z2, k2, _, _, q0, q1, q2⟩ := Go.Deep.trod_struct3 Try.underlying25 g1
      dsimp only at q0 q1 q2
      rw [hI] at q0 q1 q2
      obtain ⟨s, e, _, hs⟩ := DataW.trod_string Try.underlying9 g0
      obtain ⟨x, e0, _, w0⟩ := DataW.trod_int Try.underlying5 q0
      obtain ⟨y, e1, _, w1⟩ := DataW.trod_int Try.underlying5 q1
      obtain ⟨z, e2, _, w2⟩ := DataW.trod_int Try.underlying5 q2
      simp at e e0 e1 e2
      subst e e0 e1 e2
      have h0 := hat 0 (by omega)
      have h1 := hat 1 (by omega)
      have h2 := hat 2 (by omega)
      have h3 := hat 3 (by omega)
      rw [Go.Deep.add_add] at h0 h1 h2 h3
      refine ⟨⟨s, ⟨x, y, z⟩⟩, hs, ⟨wf_u8 w0, wf_u8 w1, wf_u8 w2⟩, fun j hj => ?_⟩
      have : j = 0 ∨ j = 1 ∨ j = 2 ∨ j = 3 := by omega
      rcases this with rfl | rfl | rfl | rfl
      · simpa [swcell] using h0
      · simpa [swcell] using h1
      · simpa [swcell] using h2
      · simpa [swcell] using h3

/-- A slice of swatches: nil, or so many swatches in memory. -/
theorem open_SW {b : Nat} {sp : Nat → Bool} {held : Bool} {A : Option Addr} {n c : Nat} {d : DataW H} {p : List MemPlace} (h : DataW.Trod enc Try.prog W b sp held 41 (.slice A n c) d p) :
    ∃ l, n = l.length ∧ n ≤ maxLen ∧ fineW l ∧ RowW W A l ∧ (n = 0 ∧ A = none ∧ c = 0 ∨ A ≠ none) := by
  rcases cells_SW h with ⟨rfl, rfl, rfl⟩ | ⟨ad, rfl, hl, hm, hc⟩
  · exact ⟨[], rfl, by unfold maxLen; omega, fun i hi => absurd hi (by simp), Row.none_, .inl ⟨rfl, rfl, rfl⟩⟩
  · have hex : ∀ i, ∃ s : Sw, i < n → s.n.size ≤ maxLen ∧ s.c.ok ∧ ∀ j, j < 4 → W.cell? (ad.add (i * 4 + j)) = some (swcell s j) := fun i => by
      by_cases hi : i < n
      · obtain ⟨s, h⟩ := hc i hi
        exact ⟨s, fun _ => h⟩
      · exact ⟨default, fun h => absurd h hi⟩
    obtain ⟨f, hf⟩ := Classical.axiomOfChoice hex
    have hat : ∀ i, i < n → sw ((List.range n).map f) i = f i := fun i hi => by simp [sw, List.getD, hi]
    refine ⟨(List.range n).map f, by simp, by omega, fun i hi => ?_, ⟨fun hn => ?_⟩, .inr (by simp)⟩
    · simp only [List.length_map, List.length_range] at hi
      rw [hat i hi]
      exact ⟨(hf i hi).1, (hf i hi).2.1⟩
    · simp only [List.length_map, List.length_range] at hn ⊢
      obtain ⟨q, o, spot⟩ := ad
      have hspot : spot = none := by simpa [Addr.add] using World.cell?_spot ((hf 0 hn).2.2 0 (by omega))
      subst hspot
      have hadd : ∀ k, (⟨q, o, none⟩ : Addr).add k = ⟨q, o + k, none⟩ := fun k => by
        unfold Addr.add
        split
        · rename_i h0; rw [h0]; rfl
        · rfl
      simp only [hadd] at hf
      have hold : old q W := by
        have h0 := (hf 0 hn).2.2 0 (by omega)
        rcases Nat.lt_or_ge q W.heap.size with hlt | hge
        · exact hlt
        · simp [World.cell?, Array.getElem?_eq_none hge] at h0
      refine ⟨q, o, rfl, hold, fun i j hi hj => ?_⟩
      rw [hat i hi]
      have h0 := (hf i hi).2.2 j hj
      rwa [← Nat.add_assoc] at h0
end

end Go.Proofs.Ytkekhnclbkachaa

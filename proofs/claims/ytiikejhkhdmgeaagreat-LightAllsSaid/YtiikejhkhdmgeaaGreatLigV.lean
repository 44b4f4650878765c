
/- Lights in memory: the lists of groups, the overlays, the whole. No condition. -/
import Derived.Test.YtiikejhkhdmgeaaGreatLigC1
import Derived.Test.YtiikejhkhdmgeaaGreatLigP
namespace Go.Proofs.YtiikejhkhdmgeaaGreat
open Go.RowKit
set_option linter.unusedVariables false
set_option linter.unusedSimpArgs false

theorem Row.below {w w' : World} {A : Option Addr} {n s : Nat} {f : Nat → Nat → Value} (h : Row w A n s f) (hb : Below w.heap.size w w') : Row w' A n s f :=
  ⟨fun hn => by
    obtain ⟨b, o, e, hold, hc⟩ := h.at_ hn
    exact ⟨b, o, e, Nat.lt_of_lt_of_le hold hb.size, fun i j hi hj => (hb.cell (p := ⟨b, o + i * s + j, none⟩) hold).trans (hc i j hi hj)⟩⟩
/-- The slice at A holds these strings. -/
def RowN (w : World) (A : Option Addr) (l : List ByteArray) : Prop := Row w A l.length 1 fun i _ => .string (nm l i)
theorem RowN.at_ {w : World} {A : Option Addr} {l : List ByteArray} (h : RowN w A l) (h0 : 0 < l.length) : ∃ b o, A = some ⟨b, o, none⟩ ∧ old b w ∧ ∀ i, i < l.length → w.cell? ⟨b, o + i, none⟩ = some (.string (nm l i)) := by
  obtain ⟨b, o, e, hb, hc⟩ := Row.at_ h h0
  refine ⟨b, o, e, hb, fun i hi => ?_⟩
  have := hc i 0 hi (by omega)
  simpa using this
theorem RowN.below {w w' : World} {A : Option Addr} {l : List ByteArray} (h : RowN w A l) (hb : Below w.heap.size w w') : RowN w' A l := Row.below h hb
theorem RowN.xt {w : World} {A : Option Addr} {l : List ByteArray} (h : RowN w A l) (g : Gr) : RowN (xt w g) A l := Row.xt h g
theorem RowN.alloc {w : World} {A : Option Addr} {l : List ByteArray} (h : RowN w A l) (o : Obj) : RowN (w.alloc o) A l := Row.alloc h o
theorem RowN.drew {w : World} {A : Option Addr} {l : List ByteArray} (h : RowN w A l) : RowN w.drew A l := Row.drew h
/-- The lists of groups lie at A. -/
structure RowG (w : World) (A : Option Addr) (n : Nat) (G : Nat → List ByteArray) : Prop where
  top : 0 < n → ∃ b o, A = some ⟨b, o, none⟩ ∧ old b w ∧ ∀ i, i < n → ∃ Ai ci, w.cell? ⟨b, o + i, none⟩ = some (.slice Ai (G i).length ci) ∧ RowN w Ai (G i)
theorem RowG.below {w w' : World} {A : Option Addr} {n : Nat} {G : Nat → List ByteArray} (h : RowG w A n G) (hb : Below w.heap.size w w') : RowG w' A n G :=
  ⟨fun hn => by
    obtain ⟨b, o, e, hold, hc⟩ := h.top hn
    refine ⟨b, o, e, Nat.lt_of_lt_of_le hold hb.size, fun i hi => ?_⟩
    obtain ⟨Ai, ci, h1, h2⟩ := hc i hi
    exact ⟨Ai, ci, (hb.cell (p := ⟨b, o + i, none⟩) hold).trans h1, h2.below hb⟩⟩
theorem below_xt (w : World) (g : Gr) : Below w.heap.size w (xt w g) := Below.xt (Below.refl _ _) (Nat.le_refl _) g
theorem below_alloc (w : World) (o : Obj) : Below w.heap.size w (w.alloc o) := (Below.refl _ _).alloc (Nat.le_refl _) o
theorem RowG.xt {w : World} {A : Option Addr} {n : Nat} {G : Nat → List ByteArray} (h : RowG w A n G) (g : Gr) : RowG (xt w g) A n G := h.below (below_xt w g)
theorem RowG.alloc {w : World} {A : Option Addr} {n : Nat} {G : Nat → List ByteArray} (h : RowG w A n G) (o : Obj) : RowG (w.alloc o) A n G := h.below (below_alloc w o)
theorem RowG.drew {w : World} {A : Option Addr} {n : Nat} {G : Nat → List ByteArray} (h : RowG w A n G) : RowG w.drew A n G := ⟨fun h0 => by
  obtain ⟨b, o, e, hold, hc⟩ := h.top h0
  exact ⟨b, o, e, hold, fun i hi => by
    obtain ⟨Ai, ci, h1, h2⟩ := hc i hi
    exact ⟨Ai, ci, h1, h2.drew⟩⟩⟩

/-- The cells of an overlay. -/
def ocell (o : Ov) (j : Nat) : Value := (([.string o.g, .int .i64 o.p, .int .i64 o.e.kind, .int .i64 o.e.fr, .int .i64 o.e.to, .int .i64 o.e.period, .int .i64 o.e.width, .int .i64 o.e.along.x, .int .i64 o.e.along.y, .int .i64 o.e.along.z, .int .i64 o.e.scale, .int .i64 o.e.seed, .int .u8 o.e.a.r, .int .u8 o.e.a.g, .int .u8 o.e.a.b, .int .u8 o.e.b.r, .int .u8 o.e.b.g, .int .u8 o.e.b.b] : List Value).getD j undef)
/-- The slice at A holds these overlays. -/
def RowO (w : World) (A : Option Addr) (l : List Ov) : Prop := Row w A l.length 18 fun i => ocell (ov l i)
theorem RowO.below {w w' : World} {A : Option Addr} {l : List Ov} (h : RowO w A l) (hb : Below w.heap.size w w') : RowO w' A l := Row.below h hb
theorem RowO.xt {w : World} {A : Option Addr} {l : List Ov} (h : RowO w A l) (g : Gr) : RowO (xt w g) A l := Row.xt h g
theorem RowO.alloc {w : World} {A : Option Addr} {l : List Ov} (h : RowO w A l) (o : Obj) : RowO (w.alloc o) A l := Row.alloc h o
theorem RowO.drew {w : World} {A : Option Addr} {l : List Ov} (h : RowO w A l) : RowO w.drew A l := Row.drew h
theorem RowU.below {w w' : World} {A : Option Addr} {l : List Cu} (h : RowU w A l) (hb : Below w.heap.size w w') : RowU w' A l := Row.below h hb
theorem RowO.cells {w : World} {b q : Nat} {l : List Ov} {i : Nat} (h : ∀ i j, i < l.length → j < 18 → w.cell? ⟨b, q + i * 18 + j, none⟩ = some (ocell (ov l i) j)) (hi : i < l.length) :
    w.cell? ⟨b, q + i * 18, none⟩ = some (.string (ov l i).g) ∧ w.cell? ⟨b, q + i * 18 + 1, none⟩ = some (.int .i64 (ov l i).p) ∧ w.cell? ⟨b, q + i * 18 + 2, none⟩ = some (.int .i64 (ov l i).e.kind) ∧ w.cell? ⟨b, q + i * 18 + 3, none⟩ = some (.int .i64 (ov l i).e.fr) ∧ w.cell? ⟨b, q + i * 18 + 4, none⟩ = some (.int .i64 (ov l i).e.to) ∧ w.cell? ⟨b, q + i * 18 + 5, none⟩ = some (.int .i64 (ov l i).e.period) ∧
    w.cell? ⟨b, q + i * 18 + 6, none⟩ = some (.int .i64 (ov l i).e.width) ∧ w.cell? ⟨b, q + i * 18 + 7, none⟩ = some (.int .i64 (ov l i).e.along.x) ∧ w.cell? ⟨b, q + i * 18 + 8, none⟩ = some (.int .i64 (ov l i).e.along.y) ∧ w.cell? ⟨b, q + i * 18 + 9, none⟩ = some (.int .i64 (ov l i).e.along.z) ∧ w.cell? ⟨b, q + i * 18 + 10, none⟩ = some (.int .i64 (ov l i).e.scale) ∧ w.cell? ⟨b, q + i * 18 + 11, none⟩ = some (.int .i64 (ov l i).e.seed) ∧
    w.cell? ⟨b, q + i * 18 + 12, none⟩ = some (.int .u8 (ov l i).e.a.r) ∧ w.cell? ⟨b, q + i * 18 + 13, none⟩ = some (.int .u8 (ov l i).e.a.g) ∧ w.cell? ⟨b, q + i * 18 + 14, none⟩ = some (.int .u8 (ov l i).e.a.b) ∧ w.cell? ⟨b, q + i * 18 + 15, none⟩ = some (.int .u8 (ov l i).e.b.r) ∧ w.cell? ⟨b, q + i * 18 + 16, none⟩ = some (.int .u8 (ov l i).e.b.g) ∧ w.cell? ⟨b, q + i * 18 + 17, none⟩ = some (.int .u8 (ov l i).e.b.b) :=
  ⟨h i 0 hi (by omega), h i 1 hi (by omega), h i 2 hi (by omega), h i 3 hi (by omega), h i 4 hi (by omega), h i 5 hi (by omega), h i 6 hi (by omega), h i 7 hi (by omega), h i 8 hi (by omega), h i 9 hi (by omega), h i 10 hi (by omega), h i 11 hi (by omega), h i 12 hi (by omega), h i 13 hi (by omega), h i 14 hi (by omega), h i 15 hi (by omega), h i 16 hi (by omega), h i 17 hi (by omega)⟩

/-- The lights lie in memory. -/
structure RowL (w : World) (A1 A2 A3 : Option Addr) (L : Li) : Prop where
  g : RowG w A1 L.nG L.G
  u : RowU w A2 L.cs
  o : RowO w A3 L.os
section
variable {w w' : World} {A1 A2 A3 : Option Addr} {L : Li}
theorem RowL.below (h : RowL w A1 A2 A3 L) (hb : Below w.heap.size w w') : RowL w' A1 A2 A3 L := ⟨h.g.below hb, h.u.below hb, h.o.below hb⟩
theorem RowL.xt (h : RowL w A1 A2 A3 L) (g : Gr) : RowL (xt w g) A1 A2 A3 L := h.below (below_xt w g)
theorem RowL.alloc (h : RowL w A1 A2 A3 L) (o : Obj) : RowL (w.alloc o) A1 A2 A3 L := h.below (below_alloc w o)
theorem RowL.drew (h : RowL w A1 A2 A3 L) : RowL w.drew A1 A2 A3 L := ⟨h.g.drew, h.u.drew, h.o.drew⟩
end
/-- What the overlays, and the lights, of a program are like. -/
def fineO (l : List Ov) : Prop := ∀ i, i < l.length → (ov l i).g.size ≤ maxLen ∧ (ov l i).e.a.ok ∧ (ov l i).e.b.ok
def fineN (l : List ByteArray) : Prop := ∀ i, i < l.length → (nm l i).size ≤ maxLen
structure FineL (L : Li) : Prop where
  n : L.nG ≤ 4294967296
  gs : ∀ i, i < L.nG → (L.G i).length ≤ 4294967296 ∧ fineN (L.G i)
  cn : L.cs.length ≤ 4294967296
  cs : fineU L.cs
  on : L.os.length ≤ 4294967296
  os : fineO L.os

end Go.Proofs.YtiikejhkhdmgeaaGreat

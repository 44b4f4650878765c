
/- Lights, overlays and cues as arguments. No condition. -/
import Derived.Test.YtiikejhkhdmgeaaGreatOpen
import Derived.Test.YtiikejhkhdmgeaaGreatLigV
import Derived.Deep.Strs
import Derived.OpenShut
import Derived.SliceStrings
import Derived.ChangeSame
namespace Go.Proofs.YtiikejhkhdmgeaaGreat
open Go.RowKit Go.WideShapes Go.ChangeShapes
set_option linter.unusedVariables false
set_option linter.unusedSimpArgs false

theorem wf_u8 {n : Int} (h : (Lit.int .u8 n).wf = true) : U8 n := by
  have : IntKind.u8.has n := by simpa [Lit.wf, IntKind.has] using h
  exact has_u8 this
theorem wf_i64 {n : Int} (h : (Lit.int .i64 n).wf = true) : I64 n := by
  have h1 : IntKind.i64.has n := by simpa [Lit.wf, IntKind.has] using h
  exact h1
theorem len3 {α : Type} {l : List α} (h : l.length = 3) : ∃ a b c, l = [a, b, c] := by
  match l, h with
  | [a, b, c], _ => exact ⟨a, b, c, rfl⟩
section
variable {H : Type} {enc : TypeId × Value → H} {W : World} {b : Nat} {sp : Nat → Bool} {held : Bool}
theorem sI : Tryz.prog.cellsOf 3 = 1 := by kernel_rfl
theorem sU : Tryz.prog.cellsOf 5 = 1 := by kernel_rfl
theorem sS : Tryz.prog.cellsOf 9 = 1 := by kernel_rfl
theorem sK : Tryz.prog.cellsOf 45 = 1 := by kernel_rfl
theorem sC : Tryz.prog.cellsOf 42 = 3 := by kernel_rfl
theorem sV : Tryz.prog.cellsOf 37 = 3 := by kernel_rfl
theorem sE : Tryz.prog.cellsOf 47 = 16 := by kernel_rfl
theorem sO : Tryz.prog.cellsOf 49 = 18 := by kernel_rfl
theorem sQ : Tryz.prog.cellsOf 44 = 6 := by kernel_rfl
theorem trodI {fuel : Nat} {u : Value} {x : DataW H × List MemPlace} (h : DataW.trod enc Tryz.prog W b sp held fuel 3 [u] = some x) : ∃ n, u = .int .i64 n ∧ I64 n := by
  obtain ⟨n, e, _, hw⟩ := DataW.trod_int Tryz.underlying3 h
  simp at e
  exact ⟨n, e, wf_i64 hw⟩
theorem trodK {fuel : Nat} {u : Value} {x : DataW H × List MemPlace} (h : DataW.trod enc Tryz.prog W b sp held fuel 45 [u] = some x) : ∃ n, u = .int .i64 n := by
  obtain ⟨n, e, _, hw⟩ := DataW.trod_int Tryz.underlying45 h
  simp at e
  exact ⟨n, e⟩
theorem trodU {fuel : Nat} {u : Value} {x : DataW H × List MemPlace} (h : DataW.trod enc Tryz.prog W b sp held fuel 5 [u] = some x) : ∃ n, u = .int .u8 n ∧ U8 n := by
  obtain ⟨n, e, _, hw⟩ := DataW.trod_int Tryz.underlying5 h
  simp at e
  exact ⟨n, e, wf_u8 hw⟩
theorem trodS {fuel : Nat} {u : Value} {x : DataW H × List MemPlace} (h : DataW.trod enc Tryz.prog W b sp held fuel 9 [u] = some x) : ∃ s, u = .string s ∧ s.size ≤ maxLen := by
  obtain ⟨s, e, _, hs⟩ := DataW.trod_string Tryz.underlying9 h
  simp at e
  exact ⟨s, e, hs⟩
theorem trodC {fuel : Nat} {cs : List Value} {x : DataW H × List MemPlace} (h : DataW.trod enc Tryz.prog W b sp held fuel 42 cs = some x) : ∃ c : Col, cs = [.int .u8 c.r, .int .u8 c.g, .int .u8 c.b] ∧ c.ok := by
  obtain ⟨y0, y1, y2, n, _, hl, q0, q1, q2⟩ := Go.Deep.trod_struct3 Tryz.underlying42 h
  rw [sC] at hl
  obtain ⟨u0, u1, u2, rfl⟩ := len3 hl
  dsimp only at q0 q1 q2
  rw [sU] at q0 q1 q2
  obtain ⟨r, rfl, h0⟩ := trodU q0
  obtain ⟨g, rfl, h1⟩ := trodU q1
  obtain ⟨b, rfl, h2⟩ := trodU q2
  exact ⟨⟨r, g, b⟩, rfl, h0, h1, h2⟩
theorem trodV {fuel : Nat} {cs : List Value} {x : DataW H × List MemPlace} (h : DataW.trod enc Tryz.prog W b sp held fuel 37 cs = some x) : ∃ v : V3, cs = [.int .i64 v.x, .int .i64 v.y, .int .i64 v.z] := by
  obtain ⟨y0, y1, y2, n, _, hl, q0, q1, q2⟩ := Go.Deep.trod_struct3 Tryz.underlying37 h
  rw [sV] at hl
  obtain ⟨u0, u1, u2, rfl⟩ := len3 hl
  dsimp only at q0 q1 q2
  rw [sI] at q0 q1 q2
  obtain ⟨r, rfl, h0⟩ := trodI q0
  obtain ⟨g, rfl, h1⟩ := trodI q1
  obtain ⟨b, rfl, h2⟩ := trodI q2
  exact ⟨⟨r, g, b⟩, rfl⟩
set_option maxRecDepth 100000 in
theorem trodE {fuel : Nat} {cs : List Value} {x : DataW H × List MemPlace} (h : DataW.trod enc Tryz.prog W b sp held fuel 47 cs = some x) : ∃ e : Eff, cs = [.int .i64 e.kind, .int .i64 e.fr, .int .i64 e.to, .int .i64 e.period, .int .i64 e.width, .int .i64 e.along.x, .int .i64 e.along.y, .int .i64 e.along.z, .int .i64 e.scale, .int .i64 e.seed, .int .u8 e.a.r, .int .u8 e.a.g, .int .u8 e.a.b, .int .u8 e.b.r, .int .u8 e.b.g, .int .u8 e.b.b] ∧ e.a.ok ∧ e.b.ok := by
  obtain ⟨xs, n, _, _, hl, hlen, hf⟩ := DataW.trod_struct Tryz.underlying47 h
  rw [sE] at hl
  match cs, hl with
  | [u0, u1, u2, u3, u4, u5, u6, u7, u8, u9, v0, v1, v2, v3, v4, v5], _ =>
    match xs, hlen with
    | [y0, y1, y2, y3, y4, y5, y6, y7, y8, y9], _ =>
      have q0 : DataW.trod enc Tryz.prog W b sp held n 45 (List.take (Tryz.prog.cellsOf 45) (List.drop 0 [u0, u1, u2, u3, u4, u5, u6, u7, u8, u9, v0, v1, v2, v3, v4, v5])) = some y0 := hf 0 _ rfl
      have q1 : DataW.trod enc Tryz.prog W b sp held n 3 (List.take (Tryz.prog.cellsOf 3) (List.drop 1 [u0, u1, u2, u3, u4, u5, u6, u7, u8, u9, v0, v1, v2, v3, v4, v5])) = some y1 := hf 1 _ rfl
      have q2 : DataW.trod enc Tryz.prog W b sp held n 3 (List.take (Tryz.prog.cellsOf 3) (List.drop 2 [u0, u1, u2, u3, u4, u5, u6, u7, u8, u9, v0, v1, v2, v3, v4, v5])) = some y2 := hf 2 _ rfl
      have q3 : DataW.trod enc Tryz.prog W b sp held n 3 (List.take (Tryz.prog.cellsOf 3) (List.drop 3 [u0, u1, u2, u3, u4, u5, u6, u7, u8, u9, v0, v1, v2, v3, v4, v5])) = some y3 := hf 3 _ rfl
      have q4 : DataW.trod enc Tryz.prog W b sp held n 3 (List.take (Tryz.prog.cellsOf 3) (List.drop 4 [u0, u1, u2, u3, u4, u5, u6, u7, u8, u9, v0, v1, v2, v3, v4, v5])) = some y4 := hf 4 _ rfl
      have q5 : DataW.trod enc Tryz.prog W b sp held n 37 (List.take (Tryz.prog.cellsOf 37) (List.drop 5 [u0, u1, u2, u3, u4, u5, u6, u7, u8, u9, v0, v1, v2, v3, v4, v5])) = some y5 := hf 5 _ rfl
      have q6 : DataW.trod enc Tryz.prog W b sp held n 3 (List.take (Tryz.prog.cellsOf 3) (List.drop 8 [u0, u1, u2, u3, u4, u5, u6, u7, u8, u9, v0, v1, v2, v3, v4, v5])) = some y6 := hf 6 _ rfl
      have q7 : DataW.trod enc Tryz.prog W b sp held n 3 (List.take (Tryz.prog.cellsOf 3) (List.drop 9 [u0, u1, u2, u3, u4, u5, u6, u7, u8, u9, v0, v1, v2, v3, v4, v5])) = some y7 := hf 7 _ rfl
      have q8 : DataW.trod enc Tryz.prog W b sp held n 42 (List.take (Tryz.prog.cellsOf 42) (List.drop 10 [u0, u1, u2, u3, u4, u5, u6, u7, u8, u9, v0, v1, v2, v3, v4, v5])) = some y8 := hf 8 _ rfl
      have q9 : DataW.trod enc Tryz.prog W b sp held n 42 (List.take (Tryz.prog.cellsOf 42) (List.drop 13 [u0, u1, u2, u3, u4, u5, u6, u7, u8, u9, v0, v1, v2, v3, v4, v5])) = some y9 := hf 9 _ rfl
      rw [sK] at q0
      rw [sI] at q1 q2 q3 q4 q6 q7
      rw [sV] at q5
      rw [sC] at q8 q9
      obtain ⟨k, rfl⟩ := trodK q0
      obtain ⟨fr, rfl, _⟩ := trodI q1
      obtain ⟨to, rfl, _⟩ := trodI q2
      obtain ⟨pe, rfl, _⟩ := trodI q3
      obtain ⟨wi, rfl, _⟩ := trodI q4
      obtain ⟨al, e5⟩ := trodV q5
      obtain ⟨sc, rfl, _⟩ := trodI q6
      obtain ⟨se, rfl, _⟩ := trodI q7
      obtain ⟨a, e8, ha⟩ := trodC q8
      obtain ⟨b, e9, hb⟩ := trodC q9
      simp at e5 e8 e9
      obtain ⟨rfl, rfl, rfl⟩ := e5
      obtain ⟨rfl, rfl, rfl⟩ := e8
      obtain ⟨rfl, rfl, rfl⟩ := e9
      exact ⟨⟨k, fr, to, pe, wi, al, sc, se, a, b⟩, rfl, ha, hb⟩
set_option maxRecDepth 100000 in
theorem trodO {fuel : Nat} {cs : List Value} {x : DataW H × List MemPlace} (h : DataW.trod enc Tryz.prog W b sp held fuel 49 cs = some x) : ∃ o : Ov, cs = [.string o.g, .int .i64 o.p, .int .i64 o.e.kind, .int .i64 o.e.fr, .int .i64 o.e.to, .int .i64 o.e.period, .int .i64 o.e.width, .int .i64 o.e.along.x, .int .i64 o.e.along.y, .int .i64 o.e.along.z, .int .i64 o.e.scale, .int .i64 o.e.seed, .int .u8 o.e.a.r, .int .u8 o.e.a.g, .int .u8 o.e.a.b, .int .u8 o.e.b.r, .int .u8 o.e.b.g, .int .u8 o.e.b.b] ∧ o.g.size ≤ maxLen ∧ o.e.a.ok ∧ o.e.b.ok := by
  obtain ⟨y0, y1, y2, n, _, hl, q0, q1, q2⟩ := Go.Deep.trod_struct3 Tryz.underlying49 h
  rw [sO] at hl
  match cs, hl with
  | [u0, u1, u2, u3, u4, u5, u6, u7, u8, u9, v0, v1, v2, v3, v4, v5, v6, v7], _ =>
    dsimp only at q0 q1 q2
    rw [sS] at q0
    rw [sI] at q1
    rw [sE] at q2
    obtain ⟨g, rfl, hg⟩ := trodS q0
    obtain ⟨p, rfl, _⟩ := trodI q1
    obtain ⟨e, e2, ha, hb⟩ := trodE q2
    simp only [List.drop_succ_cons, List.drop_zero, List.take_succ_cons, List.take_zero] at e2
    refine ⟨⟨g, p, e⟩, ?_, hg, ha, hb⟩
    rw [e2]
set_option maxRecDepth 100000 in
theorem trodQ {fuel : Nat} {cs : List Value} {x : DataW H × List MemPlace} (h : DataW.trod enc Tryz.prog W b sp held fuel 44 cs = some x) : ∃ c : Cu, cs = [.int .i64 c.t, .int .i64 c.f, .string c.g, .int .u8 c.c.r, .int .u8 c.c.g, .int .u8 c.c.b] ∧ c.g.size ≤ maxLen ∧ c.c.ok ∧ I64 c.t ∧ I64 c.f := by
  obtain ⟨xs, n, _, _, hl, hlen, hf⟩ := DataW.trod_struct Tryz.underlying44 h
  rw [sQ] at hl
  match cs, hl with
  | [u0, u1, u2, u3, u4, u5], _ =>
    match xs, hlen with
    | [y0, y1, y2, y3], _ =>
      have q0 : DataW.trod enc Tryz.prog W b sp held n 3 (List.take (Tryz.prog.cellsOf 3) (List.drop 0 [u0, u1, u2, u3, u4, u5])) = some y0 := hf 0 _ rfl
      have q1 : DataW.trod enc Tryz.prog W b sp held n 3 (List.take (Tryz.prog.cellsOf 3) (List.drop 1 [u0, u1, u2, u3, u4, u5])) = some y1 := hf 1 _ rfl
      have q2 : DataW.trod enc Tryz.prog W b sp held n 9 (List.take (Tryz.prog.cellsOf 9) (List.drop 2 [u0, u1, u2, u3, u4, u5])) = some y2 := hf 2 _ rfl
      have q3 : DataW.trod enc Tryz.prog W b sp held n 42 (List.take (Tryz.prog.cellsOf 42) (List.drop 3 [u0, u1, u2, u3, u4, u5])) = some y3 := hf 3 _ rfl
      rw [sI] at q0 q1
      rw [sS] at q2
      rw [sC] at q3
      obtain ⟨t, rfl, h0⟩ := trodI q0
      obtain ⟨f, rfl, h1⟩ := trodI q1
      obtain ⟨g, rfl, h2⟩ := trodS q2
      obtain ⟨c, e3, h3⟩ := trodC q3
      simp at e3
      obtain ⟨rfl, rfl, rfl⟩ := e3
      exact ⟨⟨t, f, g, c⟩, rfl, h2, h3, h0, h1⟩

/-- A slice of structs as an argument. -/
theorem open_rows {α : Type} [Inhabited α] {T E : TypeId} {s : Nat} {cells : α → List Value} {good : α → Prop} (hT : Tryz.prog.underlying T = some (.slice E)) (hs : Tryz.prog.cellsOf E = s) (hs0 : 0 < s) (hlen : ∀ a, (cells a).length = s)
    (hel : ∀ {fuel : Nat} {cs : List Value} {x : DataW H × List MemPlace}, DataW.trod enc Tryz.prog W b sp held fuel E cs = some x → ∃ a, cs = cells a ∧ good a)
    {A : Option Addr} {n c : Nat} {d : DataW H} {p : List MemPlace} (h : DataW.Trod enc Tryz.prog W b sp held T (.slice A n c) d p) :
    ∃ l : List α, n = l.length ∧ n ≤ maxLen ∧ n ≤ c ∧ c ≤ maxLen ∧ (∀ i, i < n → good (l.getD i default)) ∧ Row W A n s (fun i j => (cells (l.getD i default)).getD j undef) := by
  obtain ⟨fuel, hf⟩ := h
  rcases Go.Deep.open_slice hT hf with ⟨hcs, _⟩ | ⟨a, len, cap, m, k, D, Pl, hcs, _, hl, hm, hmm, _, hi⟩
  · simp [Value.cells] at hcs
    obtain ⟨rfl, rfl, rfl⟩ := hcs
    exact ⟨[], rfl, Nat.zero_le _, Nat.le_refl _, Nat.zero_le _, fun i hi => absurd hi (by omega), Row.none_⟩
  · simp [Value.cells] at hcs
    obtain ⟨rfl, rfl, rfl⟩ := hcs
    have hex : ∀ i, ∃ y : α, i < n → good y ∧ ∀ j, j < s → W.cell? (a.add (i * s + j)) = some ((cells y).getD j undef) := fun i => by
      by_cases hin : i < n
      · have him : i < m := by rw [hmm]; split <;> omega
        obtain ⟨cs', hc, ht'⟩ := hi i him
        rw [hs] at hc
        obtain ⟨_, hcl, hat⟩ := World.cells?_some hc
        obtain ⟨y, rfl, hy⟩ := hel ht'
        refine ⟨y, fun _ => ⟨hy, fun j hj => ?_⟩⟩
        have h1 := hat j (by first | exact hj | (rw [hlen]; exact hj))
        rw [Go.Deep.add_add] at h1
        rw [h1]
        simp [List.getD, hlen, hj]
      · exact ⟨default, fun h => absurd h hin⟩
    obtain ⟨f, hfx⟩ := Classical.axiomOfChoice hex
    have hat : ∀ i, i < n → ((List.range n).map f).getD i default = f i := fun i hi => by simp [List.getD, hi]
    refine ⟨(List.range n).map f, by simp, by omega, hl, hm, fun i hi => by rw [hat i hi]; exact (hfx i hi).1, ⟨fun hn => ?_⟩⟩
    obtain ⟨q, o, spot⟩ := a
    have hspot : spot = none := by simpa [Addr.add] using World.cell?_spot ((hfx 0 hn).2 0 hs0)
    subst hspot
    have hadd : ∀ k, (⟨q, o, none⟩ : Addr).add k = ⟨q, o + k, none⟩ := fun k => by
      unfold Addr.add
      split
      · rename_i h0; rw [h0]; rfl
      · rfl
    simp only [hadd] at hfx
    have hold : old q W := by
      have h0 := (hfx 0 hn).2 0 hs0
      rcases Nat.lt_or_ge q W.heap.size with hlt | hge
      · exact hlt
      · simp [World.cell?, Array.getElem?_eq_none hge] at h0
    refine ⟨q, o, rfl, hold, fun i j hi hj => ?_⟩
    rw [hat i hi]
    have h0 := (hfx i hi).2 j hj
    rwa [← Nat.add_assoc] at h0

theorem open_SU {A : Option Addr} {n c : Nat} {d : DataW H} {p : List MemPlace} (h : DataW.Trod enc Tryz.prog W b sp held 23 (.slice A n c) d p) : ∃ l, n = l.length ∧ n ≤ maxLen ∧ n ≤ c ∧ c ≤ maxLen ∧ fineU l ∧ RowU W A l := by
  obtain ⟨l, hn, h1, h2, h3, h4, h5⟩ := open_rows (α := Cu) (s := 6) (cells := fun c => [.int .i64 c.t, .int .i64 c.f, .string c.g, .int .u8 c.c.r, .int .u8 c.c.g, .int .u8 c.c.b]) (good := fun c => c.g.size ≤ maxLen ∧ c.c.ok ∧ I64 c.t ∧ I64 c.f) Tryz.underlying23 sQ (by omega) (fun _ => rfl) (fun h => trodQ h) h
  refine ⟨l, hn, h1, h2, h3, fun i hi => h4 i (by omega), ?_⟩
  subst hn
  exact h5.congr fun i j hi hj => by
    have : j = 0 ∨ j = 1 ∨ j = 2 ∨ j = 3 ∨ j = 4 ∨ j = 5 := by omega
    rcases this with rfl | rfl | rfl | rfl | rfl | rfl <;> rfl
theorem open_SO {A : Option Addr} {n c : Nat} {d : DataW H} {p : List MemPlace} (h : DataW.Trod enc Tryz.prog W b sp held 24 (.slice A n c) d p) : ∃ l, n = l.length ∧ n ≤ maxLen ∧ n ≤ c ∧ c ≤ maxLen ∧ fineO l ∧ RowO W A l := by
  obtain ⟨l, hn, h1, h2, h3, h4, h5⟩ := open_rows (α := Ov) (s := 18) (cells := fun o => [.string o.g, .int .i64 o.p, .int .i64 o.e.kind, .int .i64 o.e.fr, .int .i64 o.e.to, .int .i64 o.e.period, .int .i64 o.e.width, .int .i64 o.e.along.x, .int .i64 o.e.along.y, .int .i64 o.e.along.z, .int .i64 o.e.scale, .int .i64 o.e.seed, .int .u8 o.e.a.r, .int .u8 o.e.a.g, .int .u8 o.e.a.b, .int .u8 o.e.b.r, .int .u8 o.e.b.g, .int .u8 o.e.b.b]) (good := fun o => o.g.size ≤ maxLen ∧ o.e.a.ok ∧ o.e.b.ok) Tryz.underlying24 sO (by omega) (fun _ => rfl) (fun h => trodO h) h
  refine ⟨l, hn, h1, h2, h3, fun i hi => h4 i (by omega), ?_⟩
  subst hn
  exact h5.congr fun i j hi hj => rfl
/-- A slice of strings. -/
theorem open_SN {A : Option Addr} {n c : Nat} {d : DataW H} {p : List MemPlace} (h : DataW.Trod enc Tryz.prog W b sp held 40 (.slice A n c) d p) : ∃ l, n = l.length ∧ n ≤ maxLen ∧ fineN l ∧ RowN W A l := by
  obtain ⟨l, hn, h1, h2, h3, h4, h5⟩ := open_rows (α := ByteArray) (s := 1) (cells := fun s => [.string s]) (good := fun s => s.size ≤ maxLen) Tryz.underlying40 sS (by omega) (fun _ => rfl) (fun {_ cs _} h => by
    have hl : cs.length = 1 := by
      obtain ⟨s, e, _⟩ := DataW.trod_string Tryz.underlying9 h
      rw [e]; rfl
    match cs, hl with
    | [u], _ =>
      obtain ⟨s, rfl, hs⟩ := trodS h
      exact ⟨s, rfl, hs⟩) h
  have hdef : ∀ i, i < n → l.getD i default = nm l i := fun i hi => by
    have : i < l.length := by omega
    simp [nm, List.getD, this]
  refine ⟨l, hn, h1, fun i hi => by rw [← hdef i (by omega)]; exact h4 i (by omega), ?_⟩
  subst hn
  exact h5.congr fun i j hi hj => by
    have : j = 0 := by omega
    subst this
    rw [hdef i hi]; rfl
/-- A slice of slices of strings. -/
theorem open_SG {A : Option Addr} {n c : Nat} {d : DataW H} {p : List MemPlace} (h : DataW.Trod enc Tryz.prog W b sp held 22 (.slice A n c) d p) :
    ∃ G : Nat → List ByteArray, n ≤ maxLen ∧ n ≤ c ∧ c ≤ maxLen ∧ (∀ i, i < n → (G i).length ≤ maxLen ∧ fineN (G i)) ∧ RowG W A n G := by
  obtain ⟨fuel, hf⟩ := h
  have hC : Tryz.prog.cellsOf 40 = 1 := by kernel_rfl
  rcases Go.Deep.open_slice1 Tryz.underlying22 hC hf with ⟨hcs, _⟩ | ⟨a, len, cap, m, k, V, D, Pl, hcs, _, hl, hm, hmm, _, hi⟩
  · simp [Value.cells] at hcs
    obtain ⟨rfl, rfl, rfl⟩ := hcs
    exact ⟨fun _ => [], Nat.zero_le _, Nat.le_refl _, Nat.zero_le _, fun i hi => absurd hi (by omega), ⟨fun h => absurd h (by omega)⟩⟩
  · simp [Value.cells] at hcs
    obtain ⟨rfl, rfl, rfl⟩ := hcs
    have hex : ∀ i, ∃ l : List ByteArray, i < n → (l.length ≤ maxLen ∧ fineN l) ∧ ∃ Ai ci, W.cell? (a.add i) = some (.slice Ai l.length ci) ∧ RowN W Ai l := fun i => by
      by_cases hin : i < n
      · have him : i < m := by rw [hmm]; split <;> omega
        obtain ⟨hc, ht⟩ := hi i him
        have hV : ∃ Ai ni ci, V i = .slice Ai ni ci := by
          rcases open_strings Tryz.underlying40 Tryz.underlying9 sS ht with ⟨e, _⟩ | ⟨a', len', cap', ss, e, _⟩
          · simp at e; exact ⟨_, _, _, e⟩
          · simp at e; exact ⟨_, _, _, e⟩
        obtain ⟨Ai, ni, ci, e⟩ := hV
        rw [e] at hc ht
        obtain ⟨l, h1, h2, h3, h4⟩ := open_SN (d := D i) (p := Pl i) ⟨k, ht⟩
        subst h1
        exact ⟨l, fun _ => ⟨⟨h2, h3⟩, Ai, ci, hc, h4⟩⟩
      · exact ⟨[], fun h => absurd h hin⟩
    obtain ⟨G, hG⟩ := Classical.axiomOfChoice hex
    refine ⟨G, by omega, hl, hm, fun i hi => (hG i hi).1, ⟨fun hn => ?_⟩⟩
    obtain ⟨q, o, spot⟩ := a
    obtain ⟨_, A0, c0, h0, _⟩ := hG 0 hn
    have hspot : spot = none := by simpa [Addr.add] using World.cell?_spot h0
    subst hspot
    have hadd : ∀ k, (⟨q, o, none⟩ : Addr).add k = ⟨q, o + k, none⟩ := fun k => by
      unfold Addr.add
      split
      · rename_i h0; rw [h0]; rfl
      · rfl
    simp only [hadd] at hG h0
    have hold : old q W := by
      rcases Nat.lt_or_ge q W.heap.size with hlt | hge
      · exact hlt
      · simp [World.cell?, Array.getElem?_eq_none hge] at h0
    exact ⟨q, o, rfl, hold, fun i hi => (hG i hi).2⟩

/-- Lights that were handed over. -/
structure LightsOk (W : World) (A1 A2 A3 : Option Addr) (n1 n2 n3 c1 c2 c3 : Nat) (L : Li) : Prop where
  e1 : n1 = L.nG
  e2 : n2 = L.cs.length
  e3 : n3 = L.os.length
  l1 : n1 ≤ maxLen
  l2 : n2 ≤ maxLen
  l3 : n3 ≤ maxLen
  k3 : n3 ≤ c3
  m3 : c3 ≤ maxLen
  g : ∀ i, i < n1 → (L.G i).length ≤ maxLen ∧ fineN (L.G i)
  u : fineU L.cs
  o : fineO L.os
  r : RowL W A1 A2 A3 L
set_option maxRecDepth 100000 in
theorem open_Lights {b' : Nat} {v : Value} {d : DataW H} {p : List MemPlace} (hk : Value.okWide Tryz.prog W .any b' 26 v) (h : DataW.Trod enc Tryz.prog W b sp held 26 v d p) :
    ∃ A1 n1 c1 A2 n2 c2 A3 n3 c3, v = .agg #[.slice A1 n1 c1, .slice A2 n2 c2, .slice A3 n3 c3] ∧ ∃ L, LightsOk W A1 A2 A3 n1 n2 n3 c1 c2 c3 L := by
  obtain ⟨cs, rfl, hl, hc⟩ := open_cells (tys := [22, 23, 24]) Tryz.underlying26 (by kernel_rfl) (by kernel_rfl) hk
  obtain ⟨a0, a1, a2, rfl⟩ := len3 hl
  obtain ⟨_, e0, h0⟩ := hc 0 22 rfl
  obtain ⟨_, e1, h1⟩ := hc 1 23 rfl
  obtain ⟨_, e2, h2⟩ := hc 2 24 rfl
  simp only [List.getElem?_cons_zero, List.getElem?_cons_succ, Option.some.injEq] at e0 e1 e2
  subst e0 e1 e2
  obtain ⟨A1, n1, c1, rfl⟩ := cell_slice Tryz.underlying22 h0
  obtain ⟨A2, n2, c2, rfl⟩ := cell_slice Tryz.underlying23 h1
  obtain ⟨A3, n3, c3, rfl⟩ := cell_slice Tryz.underlying24 h2
  refine ⟨A1, n1, c1, A2, n2, c2, A3, n3, c3, rfl, ?_⟩
  obtain ⟨fuel, hf⟩ := h
  obtain ⟨y0, y1, y2, k, _, _, f0, f1, f2⟩ := Go.Deep.trod_struct3 Tryz.underlying26 hf
  have hI : Tryz.prog.cellsOf 22 = 1 := by kernel_rfl
  have hJ : Tryz.prog.cellsOf 23 = 1 := by kernel_rfl
  have hK : Tryz.prog.cellsOf 24 = 1 := by kernel_rfl
  have f0' : DataW.Trod enc Tryz.prog W b sp held 22 (.slice A1 n1 c1) y0.1 y0.2 := ⟨k, by
    dsimp only at f0
    rw [hI] at f0
    exact f0⟩
  have f1' : DataW.Trod enc Tryz.prog W b sp held 23 (.slice A2 n2 c2) y1.1 y1.2 := ⟨k, by
    dsimp only at f1
    rw [hJ] at f1
    exact f1⟩
  have f2' : DataW.Trod enc Tryz.prog W b sp held 24 (.slice A3 n3 c3) y2.1 y2.2 := ⟨k, by
    dsimp only at f2
    rw [hK] at f2
    exact f2⟩
  obtain ⟨G, g1, g2, g3, g4, g5⟩ := open_SG f0'
  obtain ⟨cs, u1, u2, u3, u4, u5, u6⟩ := open_SU f1'
  obtain ⟨os, o1, o2, o3, o4, o5, o6⟩ := open_SO f2'
  exact ⟨⟨n1, G, cs, os⟩, ⟨rfl, u1, o1, g1, u2, o2, o3, o4, g4, u5, o5, ⟨g5, u6, o6⟩⟩⟩
end

end Go.Proofs.YtiikejhkhdmgeaaGreat

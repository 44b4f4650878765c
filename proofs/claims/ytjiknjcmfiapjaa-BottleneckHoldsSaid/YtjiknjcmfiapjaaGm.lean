
/- Numbers and lists of numbers in memory: graphs as arguments. No condition. -/
import Derived.Test.YtjiknjcmfiapjaaProg
import Derived.Test.YtjiknjcmfiapjaaSl
import Derived.Test.YtjiknjcmfiapjaaSg
import Derived.Deep.Matrix
import Derived.OpenShut
import Derived.Laws.AppendOwnNone
namespace Go.Proofs.Ytjiknjcmfiapjaa
open Go.RowKit Go.WideShapes Go.ChangeShapes
set_option linter.unusedVariables false

theorem Row.below {w w' : World} {A : Option Addr} {n s : Nat} {f : Nat → Nat → Value} (h : Row w A n s f) (hb : Below w.heap.size w w') : Row w' A n s f :=
  ⟨fun hn => by
    obtain ⟨b, o, e, hold, hc⟩ := h.at_ hn
    exact ⟨b, o, e, Nat.lt_of_lt_of_le hold hb.size, fun i j hi hj => (hb.cell (p := ⟨b, o + i * s + j, none⟩) hold).trans (hc i j hi hj)⟩⟩
def icell (l : List Int) (i : Nat) (j : Nat) : Value := .int .i64 (l.getD i 0)
/-- The slice at A holds these numbers. -/
def RowI (w : World) (A : Option Addr) (l : List Int) : Prop := Row w A l.length 1 (icell l)
theorem flat_ints (l : List Int) : flat l.length 1 (icell l) = l.map (Value.int .i64) := by
  apply List.ext_getElem?
  intro i
  rcases Nat.lt_or_ge i l.length with hi | hi
  · have h := flat_get (n := l.length) (s := 1) (f := icell l) hi (show 0 < 1 by omega)
    simp only [Nat.mul_one, Nat.add_zero] at h
    rw [h]
    simp [icell, hi, List.getD]
  · rw [List.getElem?_eq_none (by rw [flat_length]; omega), List.getElem?_eq_none (by simpa using hi)]
theorem infoInt : (Try.prog.info? 3).map (fun i => (i.zero, i.size, i.bytes)) = some (some (.int .i64 0), 1, 8) := by kernel_rfl
theorem one_ints (l : List Int) : ∀ u ∈ l.map (Value.int .i64), u.oneCell' = true := by
  intro u hu
  obtain ⟨k, _, rfl⟩ := List.mem_map.1 hu
  rfl
theorem RowI.at_ {w : World} {A : Option Addr} {l : List Int} (h : RowI w A l) (h0 : 0 < l.length) : ∃ b o, A = some ⟨b, o, none⟩ ∧ old b w ∧ ∀ i, i < l.length → w.cell? ⟨b, o + i, none⟩ = some (.int .i64 (l.getD i 0)) := by
  obtain ⟨b, o, e, hb, hc⟩ := Row.at_ h h0
  refine ⟨b, o, e, hb, fun i hi => ?_⟩
  have := hc i 0 hi (by omega)
  simpa [icell] using this
theorem RowI.of_own {w : World} {base : Nat} {e : TypeId} {n : Nat} {v : Value} {l : List Int} (h : w.ownsRow base e 1 v n (l.map (Value.int .i64))) (hn : n = l.length) : ∃ A c, v = .slice A l.length c ∧ RowI w A l := by
  subst hn
  exact Row.of_own h (flat_ints l).symm
theorem RowI.xt {w : World} {A : Option Addr} {l : List Int} (h : RowI w A l) (g : Gr) : RowI (xt w g) A l := Row.xt h g
theorem RowI.alloc {w : World} {A : Option Addr} {l : List Int} (h : RowI w A l) (o : Obj) : RowI (w.alloc o) A l := Row.alloc h o
theorem RowI.drew {w : World} {A : Option Addr} {l : List Int} (h : RowI w A l) : RowI w.drew A l := Row.drew h
theorem RowI.below {w w' : World} {A : Option Addr} {l : List Int} (h : RowI w A l) (hb : Below w.heap.size w w') : RowI w' A l := Row.below h hb
theorem RowI.nil (w : World) (A : Option Addr) : RowI w A [] := ⟨fun h => absurd h (Nat.lt_irrefl 0)⟩
/-- The call returns these numbers and an error's number; what was there is as it was. -/
def RetInts (l : List Int) (d : Int) (w : World) (e : Ending) (w' : World) : Prop := ∃ A c, e = .returned (.tuple #[.slice A l.length c, .int .i64 d]) ∧ Below w.heap.size w w' ∧ RowI w' A l

/-- The graph's lists of neighbours lie at A. -/
structure GRow (w : World) (A : Option Addr) (nL : Nat) (G : Nat → List Int) : Prop where
  top : 0 < nL → ∃ b o, A = some ⟨b, o, none⟩ ∧ old b w ∧ ∀ i, i < nL → ∃ Ai ci, w.cell? ⟨b, o + i, none⟩ = some (.slice Ai (G i).length ci) ∧ RowI w Ai (G i)
theorem GRow.below {w w' : World} {A : Option Addr} {nL : Nat} {G : Nat → List Int} (h : GRow w A nL G) (hb : Below w.heap.size w w') : GRow w' A nL G :=
  ⟨fun hn => by
    obtain ⟨b, o, e, hold, hc⟩ := h.top hn
    refine ⟨b, o, e, Nat.lt_of_lt_of_le hold hb.size, fun i hi => ?_⟩
    obtain ⟨Ai, ci, h1, h2⟩ := hc i hi
    exact ⟨Ai, ci, (hb.cell (p := ⟨b, o + i, none⟩) hold).trans h1, h2.below hb⟩⟩
theorem below_xt (w : World) (g : Gr) : Below w.heap.size w (xt w g) := Below.xt (Below.refl _ _) (Nat.le_refl _) g
theorem GRow.xt {w : World} {A : Option Addr} {nL : Nat} {G : Nat → List Int} (h : GRow w A nL G) (g : Gr) : GRow (xt w g) A nL G := h.below (below_xt w g)
theorem GRow.alloc {w : World} {A : Option Addr} {nL : Nat} {G : Nat → List Int} (h : GRow w A nL G) (o : Obj) : GRow (w.alloc o) A nL G := h.below ((Below.refl _ _).alloc (Nat.le_refl _) o)
theorem GRow.drew {w : World} {A : Option Addr} {nL : Nat} {G : Nat → List Int} (h : GRow w A nL G) : GRow w.drew A nL G := ⟨fun h0 => by
  obtain ⟨b, o, e, hold, hc⟩ := h.top h0
  exact ⟨b, o, e, hold, fun i hi => by
    obtain ⟨Ai, ci, h1, h2⟩ := hc i hi
    exact ⟨Ai, ci, h1, h2.drew⟩⟩⟩

section
variable {H : Type} {enc : TypeId × Value → H} {W : World}

theorem add_none {b o k : Nat} : (⟨b, o, none⟩ : Addr).add k = ⟨b, o + k, none⟩ := by
  unfold Addr.add
  split
  · rename_i h0; rw [h0]; rfl
  · rfl
theorem wf_i64 {n : Int} (h : (Lit.int .i64 n).wf = true) : I64 n := by
  have h1 : IntKind.i64.has n := by simpa [Lit.wf, IntKind.has] using h
  exact h1
/-- Cells known from an address on: a row of numbers. -/
theorem rowI_of {A : Option Addr} {l : List Int} (hA : A = none → l = []) (h : ∀ a, A = some a → ∀ c, c < l.length → W.cell? (a.add c) = some (.int .i64 (l.getD c 0))) : RowI W A l := by
  refine ⟨fun hn => ?_⟩
  cases A with
  | none => rw [hA rfl] at hn; exact absurd hn (Nat.lt_irrefl 0)
  | some a =>
    obtain ⟨q, o, spot⟩ := a
    have h0 := h _ rfl 0 hn
    have hspot : spot = none := by simpa [Addr.add] using World.cell?_spot h0
    subst hspot
    have hold : old q W := by
      rcases Nat.lt_or_ge q W.heap.size with hlt | hge
      · exact hlt
      · simp [World.cell?, Addr.add, Array.getElem?_eq_none hge] at h0
    refine ⟨q, o, rfl, hold, fun i j hi hj => ?_⟩
    have := h _ rfl i hi
    rw [add_none] at this
    have e : o + i * 1 + j = o + i := by omega
    rw [e]
    exact this

/-- A slice of numbers: nil, or so many numbers in memory. -/
theorem open_I {b : Nat} {sp : Nat → Bool} {held : Bool} {A : Option Addr} {n c : Nat} {d : DataW H} {p : List MemPlace} (hsp : sp = fun _ => true) (h : DataW.Trod enc Try.prog W b sp held 23 (.slice A n c) d p) :
    ∃ l, n = l.length ∧ n ≤ maxLen ∧ (∀ x ∈ l, I64 x) ∧ RowI W A l ∧ (A = none → n = 0 ∧ c = 0) := by
  subst hsp
  obtain ⟨fuel, hf⟩ := h
  rcases open_ints Try.underlying23 Try.underlying3 (by kernel_rfl) hf with ⟨hcs, _⟩ | ⟨a', len', cap', zs, hcs, hb', hl', hm', hz, hy, hcell, hwz⟩
  · simp [Value.cells] at hcs
    obtain ⟨rfl, rfl, rfl⟩ := hcs
    exact ⟨[], rfl, Nat.zero_le _, by simp, RowI.nil _ _, fun _ => ⟨rfl, rfl⟩⟩
  · simp [Value.cells] at hcs
    obtain ⟨rfl, rfl, rfl⟩ := hcs
    simp only [if_true] at hz
    refine ⟨zs.take n, by rw [List.length_take]; omega, by omega, fun x hx => wf_i64 (hwz x (List.mem_of_mem_take hx)), rowI_of (fun h => by cases h) fun a ha k hk => ?_, fun h => by cases h⟩
    injection ha with ha
    subst ha
    rw [List.length_take] at hk
    rw [hcell k (by omega)]
    simp only [List.getD, List.getElem?_take]
    rw [if_pos (by omega)]

/-- A slice of slices of numbers. -/
theorem open_GR {b : Nat} {sp : Nat → Bool} {held : Bool} {A : Option Addr} {n c : Nat} {d : DataW H} {p : List MemPlace} (hsp : sp = fun _ => true) (h : DataW.Trod enc Try.prog W b sp held 22 (.slice A n c) d p) :
    ∃ G : Nat → List Int, n ≤ maxLen ∧ (∀ i, i < n → (G i).length ≤ maxLen ∧ ∀ x ∈ G i, I64 x) ∧ GRow W A n G ∧ (A = none → n = 0 ∧ c = 0) := by
  subst hsp
  obtain ⟨fuel, hf⟩ := h
  rcases Go.Deep.open_int_rows Try.underlying22 Try.underlying23 Try.underlying3 (by kernel_rfl) (by kernel_rfl) hf with ⟨hcs, _⟩ | ⟨a, len, cap, AA, L, C, Z, hcs, hb, hl, hm, _, hr⟩
  · simp [Value.cells] at hcs
    obtain ⟨rfl, rfl, rfl⟩ := hcs
    exact ⟨fun _ => [], Nat.zero_le _, fun i hi => absurd hi (by omega), ⟨fun h => absurd h (by omega)⟩, fun _ => ⟨rfl, rfl⟩⟩
  · simp [Value.cells] at hcs
    obtain ⟨rfl, rfl, rfl⟩ := hcs
    refine ⟨fun i => (Z i).take (L i), by omega, fun i hi => ?_, ⟨fun hn => ?_⟩, fun h => by cases h⟩
    · obtain ⟨h1, h2, h3, h4, h5, h6, h7⟩ := hr i (by omega)
      exact ⟨by rw [List.length_take]; omega, fun x hx => wf_i64 (h5 x (List.mem_of_mem_take hx))⟩
    · obtain ⟨q, o, spot⟩ := a
      have h0 := (hr 0 (by omega)).1
      have hspot : spot = none := by simpa [Addr.add] using World.cell?_spot h0
      subst hspot
      have hold : old q W := by
        rcases Nat.lt_or_ge q W.heap.size with hlt | hge
        · exact hlt
        · simp [World.cell?, Addr.add, Array.getElem?_eq_none hge] at h0
      refine ⟨q, o, rfl, hold, fun i hi => ?_⟩
      obtain ⟨h1, h2, h3, h4, h5, h6, h7⟩ := hr i (by omega)
      have hlen : ((Z i).take (L i)).length = L i := by rw [List.length_take]; omega
      refine ⟨AA i, C i, by rw [hlen, ← add_none]; exact h1, rowI_of (fun h => ?_) fun a ha k hk => ?_⟩
      · have := h6 h
        exact List.eq_nil_of_length_eq_zero (by rw [hlen]; omega)
      · rw [hlen] at hk
        rw [(h7 a ha).2 k (by omega)]
        simp only [List.getD, List.getElem?_take]
        rw [if_pos hk]
end

end Go.Proofs.Ytjiknjcmfiapjaa

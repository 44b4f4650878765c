
/- Lists of lists of numbers that a call has made itself. Conditions stand in each theorem. -/
import Derived.Test.YtjiknjcmfiapjaaMatM
namespace Go.Proofs.Ytjiknjcmfiapjaa
open Go.RowKit
set_option linter.unusedVariables false

/-- n lists of the call's own, in a slice of the call's own. -/
def GOwn (w : World) (base : Nat) (v : Value) (n : Nat) (G : Nat → List Int) : Prop :=
  ∃ xs : List Value, w.ownsRow base 23 1 v n xs ∧ ∀ i, i < n → ∃ u, xs[i]? = some u ∧ w.ownsRow base 3 1 u (G i).length ((G i).map (Value.int .i64))
section
variable {w w' : World} {base n : Nat} {v u v' : Value} {G : Nat → List Int} {xs : List Value}
theorem GOwn.nil : GOwn w base (.slice none 0 0) 0 G := ⟨[], own_nil, fun i h => absurd h (by omega)⟩
theorem GOwn.below (h : GOwn w base v n G) (hb : Below w.heap.size w w') : GOwn w' base v n G := by
  obtain ⟨xs, hx, hi⟩ := h
  exact ⟨xs, own_later hx hb, fun i hlt => by obtain ⟨u, e, ho⟩ := hi i hlt; exact ⟨u, e, own_later ho hb⟩⟩
theorem GOwn.xt (h : GOwn w base v n G) (g : Gr) : GOwn (xt w g) base v n G := h.below (below_xt w g)
theorem GOwn.alloc (h : GOwn w base v n G) (o : Obj) : GOwn (w.alloc o) base v n G := h.below ((Below.refl _ _).alloc (Nat.le_refl _) o)
theorem GOwn.drew (h : GOwn w base v n G) : GOwn w.drew base v n G := h.below (Below.refl _ _).drew
theorem own_set {e : TypeId} {s : Nat} (h : w.ownsRow base e s v n xs) (b k : Nat) (x : Value) (hb : b < base) : (w.setCell ⟨b, k, none⟩ x).ownsRow base e s v n xs := by
  refine h.kept (grownBy_set w b k x) ?_
  rcases h.2 with ⟨rfl, _⟩ | ⟨g, cap, cur, rfl, hg, _⟩
  · exact .inl rfl
  · right
    simp only [Value.ownBlock, ne_eq, Option.some.injEq]
    omega
theorem GOwn.set (h : GOwn w base v n G) (b k : Nat) (x : Value) (hb : b < base) : GOwn (w.setCell ⟨b, k, none⟩ x) base v n G := by
  obtain ⟨xs, hx, hi⟩ := h
  exact ⟨xs, own_set hx b k x hb, fun i hlt => by obtain ⟨u, e, ho⟩ := hi i hlt; exact ⟨u, e, own_set ho b k x hb⟩⟩
theorem gown_push (hx : w.ownsRow base 23 1 v n xs) (hi : ∀ i, i < n → ∃ u, xs[i]? = some u ∧ w.ownsRow base 3 1 u (G i).length ((G i).map (Value.int .i64)))
    (hu : w.ownsRow base 3 1 u (G n).length ((G n).map (Value.int .i64))) (ho : w'.ownsRow base 23 1 v' (n + 1) (xs ++ [u])) (hg : w.grownBy w' v.ownBlock) : GOwn w' base v' (n + 1) G := by
  have hl : xs.length = n := by have := hx.1; omega
  refine ⟨xs ++ [u], ho, fun i hlt => ?_⟩
  by_cases e : i < n
  · obtain ⟨y, hy, hyo⟩ := hi i e
    exact ⟨y, by rw [List.getElem?_append_left (by omega)]; exact hy, own_kept hyo hx hg (by decide)⟩
  · obtain rfl : i = n := by omega
    exact ⟨u, by rw [List.getElem?_append_right (by omega), hl]; simp, own_kept hu hx hg (by decide)⟩
theorem GOwn.congr {G' : Nat → List Int} (h : GOwn w base v n G) (e : ∀ i, i < n → G i = G' i) : GOwn w base v n G' := by
  obtain ⟨xs, hx, hi⟩ := h
  exact ⟨xs, hx, fun i hlt => by rw [← e i hlt]; exact hi i hlt⟩
/-- Such a graph reads as one. -/
theorem GOwn.row (h : GOwn w base v n G) : ∃ A c, v = .slice A n c ∧ GRow w A n G := by
  obtain ⟨xs, hx, hi⟩ := h
  rcases hx.2 with ⟨rfl, rfl⟩ | ⟨g, cap, cur, rfl, hb, hg, hcap, hm, hsz, ht⟩
  · exact ⟨none, 0, rfl, ⟨fun h => absurd h (by omega)⟩⟩
  · refine ⟨_, _, rfl, ⟨fun hn => ⟨g, 0, rfl, ?_, fun i hlt => ?_⟩⟩⟩
    · rcases Nat.lt_or_ge g w.heap.size with hlt | hge
      · exact hlt
      · rw [Array.getElem?_eq_none hge] at hg; cases hg
    · obtain ⟨u, e, ho⟩ := hi i hlt
      obtain ⟨Ai, ci, rfl, hrow⟩ := RowI.of_own ho rfl
      refine ⟨Ai, ci, ?_, hrow⟩
      have h1 := hx.cells (g := g) rfl i _ e
      rw [zero_add_addr] at h1
      rw [Nat.zero_add]
      exact h1
end
theorem ints_snoc (l : List Int) (x : Int) : (l ++ [x]).map (Value.int .i64) = l.map (Value.int .i64) ++ [.int .i64 x] := by simp
end Go.Proofs.Ytjiknjcmfiapjaa


/- Slices of structs in memory: what their cells hold. No condition. -/
import Derived.Test.YtjiknjcmfiapjaaMem
namespace Go.Proofs.Ytjiknjcmfiapjaa
open Go.RowKit
section
variable {w : World} {A : Option Addr} {n s : Nat} {f : Nat → Nat → Value}

/-- The n elements of the slice at A, of s cells each, hold f. -/
structure Row (w : World) (A : Option Addr) (n s : Nat) (f : Nat → Nat → Value) : Prop where
  at_ : 0 < n → ∃ b o, A = some ⟨b, o, none⟩ ∧ old b w ∧ ∀ i j, i < n → j < s → w.cell? ⟨b, o + i * s + j, none⟩ = some (f i j)

theorem Row.none_ : Row w A 0 s f := ⟨fun h => absurd h (by omega)⟩
theorem Row.xt (h : Row w A n s f) (g : Gr) : Row (xt w g) A n s f :=
  ⟨fun hn => by
    obtain ⟨b, o, e, hb, hc⟩ := h.at_ hn
    refine ⟨b, o, e, by rw [old_xt]; exact .inl hb, fun i j hi hj => ?_⟩
    rw [xt_cell w g b _ none hb]
    exact hc i j hi hj⟩
theorem Row.alloc (h : Row w A n s f) (o : Obj) : Row (w.alloc o) A n s f :=
  ⟨fun hn => by
    obtain ⟨b, q, e, hb, hc⟩ := h.at_ hn
    refine ⟨b, q, e, by rw [old_alloc]; exact .inl hb, fun i j hi hj => ?_⟩
    rw [cell_alloc_old w o b _ none hb]
    exact hc i j hi hj⟩
theorem Row.drew (h : Row w A n s f) : Row w.drew A n s f := ⟨h.at_⟩
theorem Row.congr {f' : Nat → Nat → Value} (h : Row w A n s f) (e : ∀ i j, i < n → j < s → f i j = f' i j) : Row w A n s f' :=
  ⟨fun hn => by
    obtain ⟨b, o, ea, hb, hc⟩ := h.at_ hn
    exact ⟨b, o, ea, hb, fun i j hi hj => by rw [hc i j hi hj, e i j hi hj]⟩⟩

theorem Row.made {m : Nat} {cs : Array Value} {t : TypeId} (hm : m = w.heap.size) (h : ∀ i j, i < n → j < s → cs[i * s + j]? = some (f i j)) : Row (w.alloc (.cells cs t)) (some ⟨m, 0, none⟩) n s f :=
  ⟨fun _ => ⟨m, 0, rfl, by rw [old_alloc]; exact .inr hm, fun i j hi hj => by rw [World.cell?_alloc_at _ _ _ _ hm, Nat.zero_add]; exact h i j hi hj⟩⟩

/-- The cells of an array of n elements of s cells each. -/
def flat (n s : Nat) (f : Nat → Nat → Value) : List Value := (List.range (n * s)).map fun k => f (k / s) (k % s)
theorem flat_length (n s : Nat) (f : Nat → Nat → Value) : (flat n s f).length = n * s := by simp [flat]
theorem flat_get {i j : Nat} (hi : i < n) (hj : j < s) : (flat n s f)[i * s + j]? = some (f i j) := by
  have h1 : i * s + j < n * s := by
    have h2 : i * s + s ≤ n * s := by
      have := Nat.mul_le_mul_right s (show i + 1 ≤ n by omega)
      rwa [Nat.add_mul, Nat.one_mul] at this
    omega
  have h3 : (i * s + j) / s = i := by
    rw [Nat.mul_comm, Nat.mul_add_div (by omega), Nat.div_eq_of_lt hj]; rfl
  have h4 : (i * s + j) % s = j := by
    rw [Nat.mul_comm, Nat.mul_add_mod, Nat.mod_eq_of_lt hj]
  simp [flat, h1, h3, h4]
theorem flat_succ (hs : 0 < s) : flat (n + 1) s f = flat n s f ++ (List.range s).map (f n) := by
  unfold flat
  rw [Nat.add_mul, Nat.one_mul, List.range_add, List.map_append, List.map_map]
  congr 1
  apply List.map_congr_left
  intro k hk
  have hk := List.mem_range.1 hk
  simp only [Function.comp]
  rw [Nat.mul_comm, Nat.mul_add_div hs, Nat.div_eq_of_lt hk, Nat.mul_add_mod, Nat.mod_eq_of_lt hk]
  rfl

theorem zero_add_addr (g k : Nat) : (⟨g, 0, none⟩ : Addr).add k = ⟨g, k, none⟩ := by
  unfold Addr.add
  split <;> simp_all

/-- A row of the call's own reads as such. -/
theorem Row.of_own {base : Nat} {e : TypeId} {v : Value} {xs : List Value} (h : w.ownsRow base e s v n xs) (hx : xs = flat n s f) :
    ∃ A c, v = .slice A n c ∧ Row w A n s f := by
  subst hx
  rcases h.2 with ⟨rfl, rfl⟩ | ⟨g, cap, cur, rfl, hb, hg, hcap, hm, hsz, ht⟩
  · exact ⟨none, 0, rfl, Row.none_⟩
  · refine ⟨_, _, rfl, ⟨fun hn => ⟨g, 0, rfl, ?_, fun i j hi hj => ?_⟩⟩⟩
    · rcases Nat.lt_or_ge g w.heap.size with hlt | hge
      · exact hlt
      · rw [Array.getElem?_eq_none hge] at hg; cases hg
    · have h1 := h.cells (g := g) rfl (i * s + j) (f i j) (flat_get hi hj)
      have hadd : (⟨g, 0, none⟩ : Addr).add (i * s + j) = ⟨g, 0 + i * s + j, none⟩ := by
        rw [Nat.zero_add]
        exact zero_add_addr g _
      rw [hadd] at h1
      exact h1
end
end Go.Proofs.Ytjiknjcmfiapjaa

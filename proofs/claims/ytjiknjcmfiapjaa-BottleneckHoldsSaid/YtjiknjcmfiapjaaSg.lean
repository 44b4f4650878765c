
/- Words for slices of the call's own, for any element. No condition. -/
import Derived.Test.YtjiknjcmfiapjaaProg
import Derived.Test.YtjiknjcmfiapjaaSl
import Derived.Deep.Strs
import Derived.OpenShut
import Derived.Laws.AppendOwnNone
import Derived.Deep.AppendLies
namespace Go.Proofs.Ytjiknjcmfiapjaa
open Go.RowKit Go.WideShapes Go.ChangeShapes
set_option linter.unusedVariables false

theorem own_xt {w : World} {base : Nat} {e : TypeId} {s n : Nat} {v : Value} {xs : List Value} (h : w.ownsRow base e s v n xs) (g : Gr) : (xt w g).ownsRow base e s v n xs := by
  refine ⟨h.1, ?_⟩
  rcases h.2 with h' | ⟨gb, cap, cur, hv, hb, hg, hrest⟩
  · exact .inl h'
  · have hlt : gb < w.heap.size := by
      rcases Nat.lt_or_ge gb w.heap.size with hlt | hge
      · exact hlt
      · rw [Array.getElem?_eq_none hge] at hg; cases hg
    exact .inr ⟨gb, cap, cur, hv, hb, (xt_block w g gb hlt).trans hg, hrest⟩
theorem own_drawn {w : World} {g : Gr} {base : Nat} {e : TypeId} {s n : Nat} {v : Value} {xs : List Value} (h : (xt w g).ownsRow base e s v n xs) (d : Nat) : (xt w ⟨g.blocks, d⟩).ownsRow base e s v n xs := h
theorem cells_new (w : World) (cs : Array Value) (t : TypeId) (m : Nat) (hm : m = w.heap.size) : ∀ j u, cs.toList[j]? = some u → (w.alloc (.cells cs t)).cell? ((⟨m, 0, none⟩ : Addr).add j) = some u := by
  intro j u hu
  rw [zero_add_addr, World.cell?_alloc_at _ _ _ _ hm]
  simpa using hu
theorem own_nil {w : World} {base : Nat} {e : TypeId} {s : Nat} : w.ownsRow base e s (.slice none 0 0) 0 [] := ⟨by simp, .inl ⟨rfl, rfl⟩⟩
/-- What an append leaves, seen from the world in which the call began. -/
theorem below_grown {B : Nat} {w0 w w' : World} {e : TypeId} {s n : Nat} {v : Value} {xs : List Value} (hb : Below B w0 w) (hB : B ≤ w.heap.size) (h : w.ownsRow B e s v n xs) (hg : w.grownBy w' v.ownBlock) : Below B w0 w' := by
  refine hb.grown hg hB fun k hk => ?_
  rcases h.2 with ⟨rfl, _⟩ | ⟨g, cap, cur, rfl, hb, _⟩
  · simp [Value.ownBlock] at hk
  · simp [Value.ownBlock] at hk
    omega
theorem row_news {w : World} {ad : Addr} {n s : Nat} {f : Nat → Nat → Value} (h : Row w (some ad) n s f) (hs : 0 < s) : ∀ j u, (flat n s f)[j]? = some u → w.cell? (ad.add j) = some u := by
  intro j u hu
  have hj : j < n * s := by
    have := (List.getElem?_eq_some_iff.1 hu).1
    rwa [flat_length] at this
  have hn : 0 < n := by
    rcases Nat.eq_zero_or_pos n with h0 | h0
    · subst h0; rw [Nat.zero_mul] at hj; omega
    · exact h0
  obtain ⟨b, o, e, _, hc⟩ := h.at_ hn
  injection e with e
  subst e
  have hq : j / s < n := (Nat.div_lt_iff_lt_mul hs).2 hj
  have hr : j % s < s := Nat.mod_lt _ hs
  have e1 : j = j / s * s + j % s := by rw [Nat.mul_comm]; exact (Nat.div_add_mod j s).symm
  have h1 := hc _ _ hq hr
  have h2 := flat_get (f := f) hq hr
  rw [← e1, hu] at h2
  injection h2 with h2
  have hadd : (⟨b, o, none⟩ : Addr).add j = ⟨b, o + j / s * s + j % s, none⟩ := by
    have e2 : o + j / s * s + j % s = o + j := by omega
    rw [e2]
    unfold Addr.add
    split
    · rename_i h0; rw [h0]; rfl
    · rfl
  rw [hadd, h1, h2]

theorem Below.next' {B : Nat} {a w w1 : World} (h : Below B a w) (k : Below w.heap.size w w1) (hB : B ≤ w.heap.size) : Below B a w1 := h.trans (k.mono hB)
theorem own_kept {w w' : World} {base base' : Nat} {e e' : TypeId} {s s' n n' : Nat} {v v' : Value} {xs xs' : List Value} (h : w.ownsRow base e s v n xs) (k : w.ownsRow base' e' s' v' n' xs') (hg : w.grownBy w' v'.ownBlock) (hne : e ≠ e') : w'.ownsRow base e s v n xs := by
  refine h.kept hg ?_
  rcases h.2 with ⟨rfl, _⟩ | ⟨g, cap, cur, rfl, hb, hg1, _⟩
  · exact .inl rfl
  · right
    rcases k.2 with ⟨rfl, _⟩ | ⟨g', cap', cur', rfl, hb', hg2, _⟩
    · simp [Value.ownBlock]
    · intro he
      simp only [Value.ownBlock, Option.some.injEq] at he
      subst he
      rw [hg1] at hg2
      injection hg2 with h1
      injection h1 with _ h2
      exact hne h2
theorem own_later {w w' : World} {base : Nat} {e : TypeId} {s n : Nat} {v : Value} {xs : List Value} (h : w.ownsRow base e s v n xs) (hb : Below w.heap.size w w') : w'.ownsRow base e s v n xs := by
  refine ⟨h.1, ?_⟩
  rcases h.2 with h' | ⟨gb, cap, cur, hv, hbb, hg, hrest⟩
  · exact .inl h'
  · have hlt : gb < w.heap.size := by
      rcases Nat.lt_or_ge gb w.heap.size with hlt | hge
      · exact hlt
      · rw [Array.getElem?_eq_none hge] at hg; cases hg
    exact .inr ⟨gb, cap, cur, hv, hbb, (hb.block gb hlt).trans hg, hrest⟩
theorem below_step {B : Nat} {w0 w W wq : World} {e : TypeId} {s n : Nat} {v : Value} {xs : List Value} (hW : Below B w0 w) (hb : Below w.heap.size w W) (hB : B ≤ w.heap.size) (h : W.ownsRow B e s v n xs) (hg : W.grownBy wq v.ownBlock) : Below B w0 wq :=
  below_grown (Below.next' hW hb hB) (Nat.le_trans hB hb.size) h hg
theorem own_drew {w : World} {base : Nat} {e : TypeId} {s n : Nat} {v : Value} {xs : List Value} (h : w.ownsRow base e s v n xs) : w.drew.ownsRow base e s v n xs := h

theorem news_alloc {w : World} {m : Nat} {xs : List Value} {o : Obj} (h : ∀ j u, xs[j]? = some u → w.cell? ((⟨m, 0, none⟩ : Addr).add j) = some u) (hm : m < w.heap.size) : ∀ j u, xs[j]? = some u → (w.alloc o).cell? ((⟨m, 0, none⟩ : Addr).add j) = some u := by
  intro j u hu
  rw [← h j u hu, zero_add_addr, cell_alloc_old _ _ _ _ _ hm]
theorem news_grown {w w' : World} {m : Nat} {xs : List Value} {row : Option Nat} (hg : w.grownBy w' row) (h : ∀ j u, xs[j]? = some u → w.cell? ((⟨m, 0, none⟩ : Addr).add j) = some u) (hm : m < w.heap.size) (hne : ∀ k, row = some k → k < m) : ∀ j u, xs[j]? = some u → w'.cell? ((⟨m, 0, none⟩ : Addr).add j) = some u := by
  intro j u hu
  rw [← h j u hu, zero_add_addr]
  exact hg.cell_far _ hm (fun he => by have := hne m he.symm; omega)
theorem cell_grown {w w' : World} {a : Addr} {row : Option Nat} {v : Value} {B : Nat} (hg : w.grownBy w' row) (h : w.cell? a = some v) (ho : a.block < w.heap.size) (hB : a.block < B) (hne : ∀ k, row = some k → B ≤ k) : w'.cell? a = some v := by
  rw [← h]
  exact hg.cell_far _ ho (fun he => by have := hne _ he.symm; omega)

theorem below_app {w w1 W w2 : World} {row : Option Nat} {B : Nat} (h : Below B w w1) (hB : B ≤ w1.heap.size) (hb : Below w1.heap.size w1 W) (hg : W.grownBy w2 row) (hr : ∀ k, row = some k → B ≤ k) : Below B w w2 :=
  (h.trans (hb.mono hB)).grown hg (Nat.le_trans hB hb.size) hr
theorem own_block {g k n c B : Nat} (h : B ≤ g) : (Value.slice (some ⟨g, 0, none⟩) n c).ownBlock = some k → B ≤ k := by
  intro e
  simp only [Value.ownBlock, Option.some.injEq] at e
  omega
/-- What an owned row holds lies there. -/
theorem own_at {w : World} {B : Nat} {e : TypeId} {n g c : Nat} {xs : List Value} (h : w.ownsRow B e 1 (.slice (some ⟨g, 0, none⟩) n c) n xs) {j : Nat} {u : Value} (hj : xs[j]? = some u) : w.cell? ⟨g, j, none⟩ = some u := by
  have := h.cells (g := g) rfl j u hj
  rwa [zero_add_addr] at this

end Go.Proofs.Ytjiknjcmfiapjaa


/- Sums, permutations, potentials and what they prove of assignments; plain. Conditions stand in each theorem. -/
import Derived.Test.YtjiknjcmfiapjaaBotP
namespace Go.Proofs.Ytjiknjcmfiapjaa
set_option linter.unusedVariables false

def sm (f : Nat → Int) : Nat → Int
  | 0 => 0
  | n + 1 => sm f n + f n
theorem sm_congr {f g : Nat → Int} : ∀ n, (∀ k, k < n → f k = g k) → sm f n = sm g n
  | 0, _ => rfl
  | n + 1, h => by rw [sm, sm, sm_congr n fun k hk => h k (by omega), h n (by omega)]
theorem sm_le {f g : Nat → Int} : ∀ n, (∀ k, k < n → f k ≤ g k) → sm f n ≤ sm g n
  | 0, _ => Int.le_refl _
  | n + 1, h => by
    have h1 := sm_le (f := f) (g := g) n fun k hk => h k (by omega)
    have h2 := h n (by omega)
    rw [sm, sm]; omega
theorem sm_add (f g : Nat → Int) : ∀ n, sm (fun k => f k + g k) n = sm f n + sm g n
  | 0 => rfl
  | n + 1 => by rw [sm, sm, sm, sm_add f g n]; omega
theorem sm_const (c : Int) : ∀ n, sm (fun _ => c) n = n * c
  | 0 => by simp [sm]
  | n + 1 => by rw [sm, sm_const c n]; simp [Int.add_mul]
theorem sm_up {f : Nat → Int} {i : Nat} {v : Int} : ∀ n, i < n → sm (up f i v) n = sm f n + v - f i
  | 0, h => by omega
  | n + 1, h => by
    rw [sm, sm]
    by_cases e : i = n
    · subst e
      rw [up_self, sm_congr (g := f) i fun k hk => up_ne (by omega)]; omega
    · rw [sm_up n (by omega), up_ne (fun h => e h.symm)]; omega
theorem sm_up_out {f : Nat → Int} {i : Nat} {v : Int} (n : Nat) (h : n ≤ i) : sm (up f i v) n = sm f n := sm_congr n fun k hk => up_ne (by omega)

/-- The places are exchanged among themselves. -/
structure Prm (s : Nat → Nat) (n : Nat) : Prop where
  lt : ∀ i, i < n → s i < n
  inj : ∀ i, i < n → ∀ j, j < n → s i = s j → i = j
theorem Prm.hit {s : Nat → Nat} {n : Nat} (h : Prm s n) {r : Nat} (hr : r < n) : ∃ k, k < n ∧ s k = r := by
  apply Classical.byContradiction
  intro hn
  have e : ((List.range n).map s).length ≤ ((List.range n).erase r).length := by
    refine len_sub _ _ ?_ fun x hx => ?_
    · rw [List.Nodup, List.pairwise_map]
      exact List.nodup_range.imp_of_mem fun {a b} ha hb hne he => hne (h.inj a (List.mem_range.1 ha) b (List.mem_range.1 hb) he)
    · obtain ⟨k, hk, rfl⟩ := List.mem_map.1 hx
      have hk := List.mem_range.1 hk
      exact (List.mem_erase_of_ne fun e => hn ⟨k, hk, e⟩).2 (List.mem_range.2 (h.lt k hk))
  rw [List.length_erase_of_mem (List.mem_range.2 hr)] at e
  simp at e; omega
theorem Prm.sum {s : Nat → Nat} : ∀ {n : Nat}, Prm s n → ∀ f : Nat → Int, sm (fun i => f (s i)) n = sm f n
  | 0, _, f => rfl
  | n + 1, h, f => by
    obtain ⟨j, hj, e⟩ := h.hit (r := n) (by omega)
    by_cases hjn : j = n
    · subst hjn
      have h' : Prm s j := ⟨fun i hi => by
        have := h.lt i (by omega)
        have : s i ≠ j := fun e2 => by have := h.inj i (by omega) j (by omega) (by rw [e2, e]); omega
        omega, fun a ha b hb => h.inj a (by omega) b (by omega)⟩
      rw [sm, sm, h'.sum f, e]
    · have hn : s n ≠ n := fun e2 => hjn (h.inj j hj n (by omega) (by rw [e, e2]))
      have hn' := h.lt n (by omega)
      have h' : Prm (fun i => if i = j then s n else s i) n := ⟨fun i hi => by
        try dsimp only
        split
        · omega
        · rename_i hij
          have := h.lt i (by omega)
          have : s i ≠ n := fun e2 => hij (h.inj i (by omega) j hj (by rw [e2, e]))
          omega, fun a ha b hb hab => by
        try dsimp only at hab
        split at hab <;> split at hab
        · omega
        · have := h.inj n (by omega) b (by omega) hab; omega
        · have := h.inj a (by omega) n (by omega) hab; omega
        · exact h.inj a (by omega) b (by omega) hab⟩
      have hs := h'.sum f
      have hu : sm (fun i => f (if i = j then s n else s i)) n = sm (up (fun i => f (s i)) j (f (s n))) n := sm_congr n fun k hk => by
        by_cases hk : k = j
        · subst hk; rw [up_self, if_pos rfl]
        · rw [up_ne hk, if_neg hk]
      rw [hu, sm_up n (by omega)] at hs
      rw [sm, sm]
      try dsimp only at hs ⊢
      rw [e] at hs
      omega

/-- The column of a row. -/
def colN (l : List Int) (r : Nat) : Nat := (l.getD r 0).toNat
theorem hs_takeQ {l : List Int} {j k : Nat} (hj : j < k) (hk : k < l.length) (e : l.getD j 0 = l.getD k 0) : hs (l.take k) (l.getD k 0) = true := by
  rw [← e]
  have := mem_take (m := l) hj (by omega)
  simpa [hs] using this
theorem cols_prm {l : List Int} {n : Nat} (h : colsB l n = true) : Prm (colN l) n := by
  obtain ⟨h1, h2⟩ := colsB_iff.1 h
  have key : ∀ i j, i < j → j < n → colN l i ≠ colN l j := fun i j hij hj e => by
    have a := colAt_iff.1 (h1 i (by omega))
    have b := colAt_iff.1 (h1 j hj)
    unfold colN at e
    have := hs_takeQ (l := l) hij (by omega) (by omega)
    rw [b.2.2] at this; cases this
  refine ⟨fun i hi => ?_, fun i hi j hj e => ?_⟩
  · have a := colAt_iff.1 (h1 i hi)
    unfold colN; omega
  · rcases Nat.lt_trichotomy i j with h | h | h
    · exact absurd e (key i j h hj)
    · exact h
    · exact absurd e.symm (key j i h hi)
theorem prm_cols {l : List Int} {n : Nat} (hl : l.length = n) (h0 : ∀ k, k < n → 0 ≤ l.getD k 0) (h : Prm (colN l) n) : colsB l n = true := by
  refine colsB_iff.2 ⟨fun k hk => colAt_iff.2 ⟨h0 k hk, ?_, ?_⟩, hl⟩
  · have := h.lt k hk; unfold colN at this; omega
  · rw [← Bool.not_eq_true]
    intro e
    obtain ⟨j, hj, hjl, e2⟩ := take_mem (m := l) (i := k) (x := l.getD k 0) (by simpa [hs] using e)
    have := h.inj j (by omega) k hk (by unfold colN; rw [e2])
    omega
theorem sumC_sm (G : Nat → List Int) (l : List Int) : ∀ n, sumC G l n = sm (fun r => cst G r (colN l r)) n
  | 0 => rfl
  | n + 1 => by rw [sumC, sm, sumC_sm G l n]; rfl
theorem mstC_le {G : Nat → List Int} {l : List Int} {b : Int} : ∀ n, mstC G l n ≤ b ↔ 0 ≤ b ∧ ∀ r, r < n → cst G r (colN l r) ≤ b
  | 0 => by simp [mstC]
  | n + 1 => by
    rw [mstC, Int.max_le, mstC_le n]
    constructor
    · rintro ⟨⟨h0, h1⟩, h2⟩
      refine ⟨h0, fun r hr => ?_⟩
      rcases Nat.lt_or_ge r n with h | h
      · exact h1 r h
      · obtain rfl : r = n := by omega
        exact h2
    · rintro ⟨h0, h1⟩
      exact ⟨⟨h0, fun r hr => h1 r (by omega)⟩, h1 n (by omega)⟩
theorem mstC_is {G : Nat → List Int} {l : List Int} : ∀ n, mstC G l n = 0 ∨ ∃ r, r < n ∧ mstC G l n = cst G r (colN l r)
  | 0 => .inl rfl
  | n + 1 => by
    rw [mstC]
    rcases Int.le_total (mstC G l n) (cst G n (colN l n)) with h | h
    · right; exact ⟨n, by omega, by show max _ (cst G n (colN l n)) = _; omega⟩
    · have e : max (mstC G l n) (cst G n (l.getD n 0).toNat) = mstC G l n := by
        have : cst G n (l.getD n 0).toNat ≤ mstC G l n := h
        omega
      rw [e]
      rcases mstC_is (G := G) (l := l) n with h1 | ⟨r, hr, h1⟩
      · exact .inl h1
      · exact .inr ⟨r, by omega, h1⟩

/-- Potentials below the costs of the allowed pairs. -/
def Feas (G : Nat → List Int) (n : Nat) (M : Int) (U V : Nat → Int) : Prop := ∀ r, r < n → ∀ k, k < n → cst G r k ≤ M → U r + V k ≤ cst G r k
theorem feas_sum {G : Nat → List Int} {n : Nat} {M : Int} {U V : Nat → Int} (h : Feas G n M U V) {s : Nat → Nat} (hs : Prm s n) (hM : ∀ r, r < n → cst G r (s r) ≤ M) :
    sm U n + sm V n ≤ sm (fun r => cst G r (s r)) n := by
  rw [← hs.sum V, ← sm_add]
  exact sm_le n fun r hr => h r hr (s r) (hs.lt r hr) (hM r hr)
theorem tight_sum {G : Nat → List Int} {n : Nat} {U V : Nat → Int} {s : Nat → Nat} (hs : Prm s n) (h : ∀ r, r < n → U r + V (s r) = cst G r (s r)) :
    sm U n + sm V n = sm (fun r => cst G r (s r)) n := by
  rw [← hs.sum V, ← sm_add]
  exact sm_congr n h

/-- The pair is that of a best assignment. -/
structure Opt (G : Nat → List Int) (n : Nat) (g s : Int) : Prop where
  is : ∃ l, colsB l n = true ∧ mstC G l n = g ∧ sumC G l n = s
  lo : ∀ l, colsB l n = true → g < mstC G l n ∨ (g = mstC G l n ∧ s ≤ sumC G l n)
theorem Opt.uniq {G : Nat → List Int} {n : Nat} {g s g' s' : Int} (h : Opt G n g s) (h' : Opt G n g' s') : g = g' ∧ s = s' := by
  obtain ⟨l, h1, h2, h3⟩ := h.is
  obtain ⟨l', h1', h2', h3'⟩ := h'.is
  have a := h.lo l' h1'
  have b := h'.lo l h1
  omega
end Go.Proofs.Ytjiknjcmfiapjaa

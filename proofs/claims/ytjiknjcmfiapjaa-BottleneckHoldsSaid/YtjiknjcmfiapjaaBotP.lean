
/- Costs: which are valid; columns; the costs of an assignment. No condition. -/
import Derived.Test.YtjiknjcmfiapjaaMatB2
namespace Go.Proofs.Ytjiknjcmfiapjaa
set_option linter.unusedVariables false

def inC (x : Int) : Bool := decide (0 ≤ x) && decide (x ≤ 17592186044416)
def allC (l : List Int) : Bool := l.all inC
/-- The costs are valid. -/
def cvd (G : Nat → List Int) (n : Nat) : Bool := (List.range n).all (fun i => decide ((G i).length = n) && allC (G i)) && (decide (1 ≤ n) && decide (n ≤ 64))
theorem inC_iff {x : Int} : inC x = true ↔ 0 ≤ x ∧ x ≤ 17592186044416 := by simp [inC]
theorem allC_iff {l : List Int} : allC l = true ↔ ∀ j, j < l.length → inC (l.getD j 0) = true := by
  unfold allC
  rw [List.all_eq_true]
  constructor
  · intro h j hj; exact h _ (getD_in hj)
  · intro h x hx; obtain ⟨j, hj, e⟩ := mem_getD hx; rw [← e]; exact h j hj
theorem allC_no {l : List Int} {k : Nat} (hk : k < l.length) (h : inC (l.getD k 0) = false) : allC l = false := by
  rw [← Bool.not_eq_true, allC_iff]
  intro e
  have := e k hk
  rw [h] at this
  cases this
/-- Valid costs. -/
structure Cst (G : Nat → List Int) (n : Nat) : Prop where
  len : ∀ i, i < n → (G i).length = n
  rng : ∀ i, i < n → ∀ k, k < n → 0 ≤ (G i).getD k 0 ∧ (G i).getD k 0 ≤ 17592186044416
  pos : 1 ≤ n
  le : n ≤ 64
theorem cvd_iff {G : Nat → List Int} {n : Nat} : cvd G n = true ↔ Cst G n := by
  simp only [cvd, Bool.and_eq_true, List.all_eq_true, List.mem_range, decide_eq_true_eq]
  constructor
  · rintro ⟨h, h1, h2⟩
    exact ⟨fun i hi => (h i hi).1, fun i hi k hk => inC_iff.1 (allC_iff.1 (h i hi).2 k (by rw [(h i hi).1]; exact hk)), h1, h2⟩
  · intro h
    exact ⟨fun i hi => ⟨h.len i hi, allC_iff.2 fun j hj => inC_iff.2 (h.rng i hi j (by rw [h.len i hi] at hj; exact hj))⟩, h.pos, h.le⟩
theorem cvd_len {G : Nat → List Int} {n i : Nat} (hi : i < n) (h : (G i).length ≠ n) : cvd G n = false := by
  rw [← Bool.not_eq_true, cvd_iff]
  intro e
  exact h (e.len i hi)
theorem cvd_row {G : Nat → List Int} {n i : Nat} (hi : i < n) (h : allC (G i) = false) : cvd G n = false := by
  rw [← Bool.not_eq_true]
  intro e
  simp only [cvd, Bool.and_eq_true, List.all_eq_true, List.mem_range, decide_eq_true_eq] at e
  have := (e.1 i hi).2
  rw [h] at this
  cases this
theorem cvd_end {G : Nat → List Int} {n : Nat} (h : ∀ i, i < n → (G i).length = n ∧ allC (G i) = true) : cvd G n = (decide (1 ≤ n) && decide (n ≤ 64)) := by
  have e : (List.range n).all (fun i => decide ((G i).length = n) && allC (G i)) = true := by
    rw [List.all_eq_true]
    intro i hi
    simp only [Bool.and_eq_true, decide_eq_true_eq]
    exact h i (List.mem_range.1 hi)
  rw [cvd, e, Bool.true_and]

/-- The number at k is one of the columns and none of those ahead. -/
def colAt (l : List Int) (n : Nat) (k : Nat) : Bool := decide (0 ≤ l.getD k 0) && decide (l.getD k 0 < (n : Int)) && !hs (l.take k) (l.getD k 0)
/-- The list gives each row a column, each column once. -/
def colsB (l : List Int) (n : Nat) : Bool := (List.range l.length).all (colAt l n) && decide (l.length = n)
theorem colsB_no {l : List Int} {n k : Nat} (hk : k < l.length) (h : colAt l n k = false) : colsB l n = false := by
  rw [← Bool.not_eq_true]
  intro e
  simp only [colsB, Bool.and_eq_true, List.all_eq_true, List.mem_range] at e
  have := e.1 k hk
  rw [h] at this
  cases this
theorem colsB_len {l : List Int} {n : Nat} (h : l.length ≠ n) : colsB l n = false := by
  rw [← Bool.not_eq_true]
  intro e
  simp only [colsB, Bool.and_eq_true, decide_eq_true_eq] at e
  exact h e.2
theorem colsB_end {l : List Int} {n : Nat} (h : ∀ k, k < l.length → colAt l n k = true) : colsB l n = decide (l.length = n) := by
  have e : (List.range l.length).all (colAt l n) = true := by
    rw [List.all_eq_true]
    intro i hi
    exact h i (List.mem_range.1 hi)
  rw [colsB, e, Bool.true_and]
theorem colsB_iff {l : List Int} {n : Nat} : colsB l n = true ↔ (∀ k, k < n → colAt l n k = true) ∧ l.length = n := by
  simp only [colsB, Bool.and_eq_true, List.all_eq_true, List.mem_range, decide_eq_true_eq]
  constructor
  · rintro ⟨h, e⟩; exact ⟨fun k hk => h k (by omega), e⟩
  · rintro ⟨h, e⟩; exact ⟨fun k hk => h k (by omega), e⟩
theorem colAt_iff {l : List Int} {n k : Nat} : colAt l n k = true ↔ 0 ≤ l.getD k 0 ∧ l.getD k 0 < (n : Int) ∧ hs (l.take k) (l.getD k 0) = false := by
  simp [colAt, and_assoc]

/-- The cost of row i and column k. -/
def cst (G : Nat → List Int) (i k : Nat) : Int := (G i).getD k 0
/-- The greatest cost of the first rows. -/
def mstC (G : Nat → List Int) (l : List Int) : Nat → Int
  | 0 => 0
  | k + 1 => max (mstC G l k) (cst G k (l.getD k 0).toNat)
/-- The sum of the costs of the first rows. -/
def sumC (G : Nat → List Int) (l : List Int) : Nat → Int
  | 0 => 0
  | k + 1 => sumC G l k + cst G k (l.getD k 0).toNat
section
variable {G : Nat → List Int} {n : Nat} {l : List Int}
theorem Cst.c (h : Cst G n) {i k : Nat} (hi : i < n) (hk : k < n) : 0 ≤ cst G i k ∧ cst G i k ≤ 17592186044416 := h.rng i hi k hk
theorem mstC_bd (h : Cst G n) : ∀ k, k ≤ n → (∀ j, j < k → colAt l n j = true) → 0 ≤ mstC G l k ∧ mstC G l k ≤ 17592186044416
  | 0, _, _ => by simp [mstC]
  | k + 1, hk, hc => by
    have h1 := mstC_bd h k (by omega) (fun j hj => hc j (by omega))
    have h2 := colAt_iff.1 (hc k (by omega))
    have h3 := h.c (i := k) (k := (l.getD k 0).toNat) (by omega) (by omega)
    rw [mstC]
    omega
theorem sumC_bd (h : Cst G n) : ∀ k, k ≤ n → (∀ j, j < k → colAt l n j = true) → 0 ≤ sumC G l k ∧ sumC G l k ≤ k * 17592186044416
  | 0, _, _ => by simp [sumC]
  | k + 1, hk, hc => by
    have h1 := sumC_bd h k (by omega) (fun j hj => hc j (by omega))
    have h2 := colAt_iff.1 (hc k (by omega))
    have h3 := h.c (i := k) (k := (l.getD k 0).toNat) (by omega) (by omega)
    rw [sumC]
    omega
end
end Go.Proofs.Ytjiknjcmfiapjaa

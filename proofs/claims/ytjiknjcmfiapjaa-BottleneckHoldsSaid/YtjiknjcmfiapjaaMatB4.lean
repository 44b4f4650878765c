
/- Walks: whether a list is a matching, by the program. Conditions stand in each theorem. -/
import Derived.Test.YtjiknjcmfiapjaaMatB3
namespace Go.Proofs.Ytjiknjcmfiapjaa
open Go.RowKit
set_option linter.unusedVariables false
set_option linter.unusedSimpArgs false

/-- The answers f 0 .. f (n - 1). -/
def arrB (n : Nat) (f : Nat → Bool) : Array Value := ((List.range n).map fun k => Value.bool (f k)).toArray
theorem arrB_get {n k : Nat} {f : Nat → Bool} (hk : k < n) : (arrB n f)[k]? = some (.bool (f k)) := by simp [arrB, hk]
theorem arrB_size {n : Nat} {f : Nat → Bool} : (arrB n f).size = n := by simp [arrB]
theorem arrB_set {n k : Nat} {f g : Nat → Bool} (h : ∀ j, j < n → g j = if j = k then true else f j) : (arrB n f).setIfInBounds k (.bool true) = arrB n g := by
  apply Array.ext_getElem?
  intro j
  by_cases hj : j < n
  · rw [arrB_get hj, Array.getElem?_setIfInBounds, h j hj]
    by_cases e : k = j
    · subst e; rw [if_pos rfl, if_pos (by rw [arrB_size]; exact hj), if_pos rfl]
    · rw [if_neg e, arrB_get hj, if_neg (Ne.symm e)]
  · rw [Array.getElem?_eq_none (by simp [arrB]; omega), Array.getElem?_eq_none (by simp [arrB]; omega)]
theorem arrB_congr {n : Nat} {f g : Nat → Bool} (h : ∀ k, k < n → f k = g k) : arrB n f = arrB n g := by
  unfold arrB
  congr 1
  apply List.map_congr_left
  intro k hk
  rw [h k (List.mem_range.1 hk)]
theorem infoBool : (Try.prog.info? 4).map (fun i => (i.zero, i.size, i.bytes)) = some (some (.bool false), 1, 1) := by kernel_rfl
theorem arrB_made (n : Nat) : madeCells #[.bool false] n = arrB n (fun _ => false) := by
  apply Array.ext_getElem?
  intro m
  by_cases hm : m < n
  · rw [arrB_get hm]
    simp [madeCells, hm, Nat.mod_one]
  · rw [Array.getElem?_eq_none (by rw [size_madeCells]; omega), Array.getElem?_eq_none (by rw [arrB_size]; omega)]
theorem mk_bools (n : Nat) (hn : n ≤ 4294967296) (W : World) : (Instr.makeSlice 64 (.int .i64 (n : Int)) (.int .i64 (n : Int))).run Try.prog W = .ok (.slice (some ⟨W.heap.size, 0, none⟩) n n) (W.alloc (.cells (arrB n (fun _ => false)) 4)) := by
  obtain ⟨i, hi, hz, hs, hb⟩ := info_parts infoBool
  have h := run_make (P := Try.prog) W 64 4 i _ Try.underlying64 hi hz .i64 .i64 n n (by omega) (by omega) (by rw [hb]; omega) (by omega)
  rw [hs] at h
  simp only [Int.toNat_natCast, Nat.mul_one] at h
  rw [← arrB_made n]
  exact h

def vmB (G : Nat → List Int) (nL : Nat) (R : Int) (m : List Int) : Bool := vld G nL R && matB G nL m
theorem hs_take {m : List Int} {k : Nat} {n : Nat} (hk : k < m.length) (h : m.getD k 0 = -1) : hs (m.take k) (n : Int) = hs (m.take (k + 1)) (n : Int) := by
  unfold hs
  rw [Bool.eq_iff_iff, List.contains_iff_mem, List.contains_iff_mem]
  constructor
  · intro h1
    obtain ⟨j, h2, h3, h4⟩ := take_mem h1
    rw [← h4]; exact mem_take (by omega) h3
  · intro h1
    obtain ⟨j, h2, h3, h4⟩ := take_mem h1
    by_cases e : j = k
    · subst e; omega
    · rw [← h4]; exact mem_take (by omega) h3
theorem hs_next {m : List Int} {k : Nat} {n x : Nat} (hk : k < m.length) (h : m.getD k 0 = (x : Int)) : hs (m.take (k + 1)) (n : Int) = if n = x then true else hs (m.take k) (n : Int) := by
  unfold hs
  rw [Bool.eq_iff_iff]
  by_cases e : n = x
  · subst e
    rw [if_pos rfl, List.contains_iff_mem]
    exact ⟨fun _ => rfl, fun _ => by rw [← h]; exact mem_take (by omega) hk⟩
  · rw [if_neg e, List.contains_iff_mem, List.contains_iff_mem]
    constructor
    · intro h1
      obtain ⟨j, h2, h3, h4⟩ := take_mem h1
      by_cases e : j = k
      · subst e; omega
      · rw [← h4]; exact mem_take (by omega) h3
    · intro h1
      obtain ⟨j, h2, h3, h4⟩ := take_mem h1
      rw [← h4]; exact mem_take (by omega) h3
theorem matAt_free {G : Nat → List Int} {m : List Int} {k : Nat} (h : m.getD k 0 = -1) : matAt G m k = true := by simp only [matAt, h, decide_true, Bool.true_or]
theorem matAt_eq {G : Nat → List Int} {m : List Int} {k : Nat} (h : m.getD k 0 ≠ -1) : matAt G m k = (hs (G k) (m.getD k 0) && !hs (m.take k) (m.getD k 0)) := by
  simp only [matAt, h, decide_false, Bool.false_or]; rfl

end Go.Proofs.Ytjiknjcmfiapjaa


/- The plain law of the changes of an aircraft. No condition. -/
import Derived.Test.YtiikejhkhdmgeaaGreatLigP
import Derived.Lib.SlicesCompact
namespace Go.Proofs.YtiikejhkhdmgeaaGreat
open Go.Lib
set_option linter.unusedVariables false
set_option linter.unusedSimpArgs false

/-- A number put into a rising list. -/
def insL : List Int → Int → List Int
  | [], n => [n]
  | x :: l, n => if x < n then x :: insL l n else if x = n then x :: l else n :: x :: l
def Rise (l : List Int) : Prop := l.Pairwise (· < ·)
theorem insL_mem {l : List Int} {n x : Int} : x ∈ insL l n ↔ x = n ∨ x ∈ l := by
  induction l with
  | nil => simp [insL]
  | cons y l ih =>
    rw [insL]
    split
    · rw [List.mem_cons, ih, List.mem_cons]
      exact ⟨fun h => by rcases h with h | h | h <;> simp [h], fun h => by rcases h with h | h | h <;> simp [h]⟩
    · split
      · rename_i h; subst h; simp
      · simp
theorem insL_rise {l : List Int} {n : Int} (h : Rise l) : Rise (insL l n) := by
  induction l with
  | nil => simp [insL, Rise]
  | cons y l ih =>
    unfold Rise at *
    rw [List.pairwise_cons] at h
    rw [insL]
    split
    · rename_i hy
      rw [List.pairwise_cons]
      refine ⟨fun z hz => ?_, ih h.2⟩
      rcases insL_mem.1 hz with rfl | hz
      · exact hy
      · exact h.1 z hz
    · split
      · rw [List.pairwise_cons]; exact h
      · rw [List.pairwise_cons, List.pairwise_cons]
        refine ⟨fun z hz => ?_, h⟩
        rcases List.mem_cons.1 hz with rfl | hz
        · omega
        · have := h.1 z hz; omega
/-- Where the number goes. -/
def plc : List Int → Int → Nat
  | [], _ => 0
  | x :: l, n => if x < n then plc l n + 1 else 0
theorem plc_le (l : List Int) (n : Int) : plc l n ≤ l.length := by
  induction l with
  | nil => simp [plc]
  | cons y l ih => rw [plc]; split <;> simp; omega
theorem plc_lt {l : List Int} {n : Int} : ∀ {j : Nat}, j < plc l n → l.getD j 0 < n := by
  induction l with
  | nil => intro j h; simp [plc] at h
  | cons y l ih =>
    intro j h
    rw [plc] at h
    split at h
    · cases j with
      | zero => simpa using (by assumption : y < n)
      | succ j => simpa using ih (j := j) (by omega)
    · omega
theorem plc_ge {l : List Int} {n : Int} (h : plc l n < l.length) : ¬ l.getD (plc l n) 0 < n := by
  induction l with
  | nil => simp at h
  | cons y l ih =>
    rw [plc] at h ⊢
    split
    · rename_i hy
      rw [if_pos hy] at h
      simpa using ih (by simp at h; omega)
    · rename_i hy; simpa using hy
theorem insL_eq {l : List Int} {n : Int} : insL l n = if plc l n < l.length ∧ l.getD (plc l n) 0 = n then l else l.take (plc l n) ++ [n] ++ l.drop (plc l n) := by
  induction l with
  | nil => simp [insL, plc]
  | cons y l ih =>
    rw [insL, plc]
    by_cases hy : y < n
    · rw [if_pos hy, if_pos hy, ih]
      by_cases hc : plc l n < l.length ∧ l.getD (plc l n) 0 = n
      · rw [if_pos hc, if_pos]
        exact ⟨by simp; omega, by simpa using hc.2⟩
      · rw [if_neg hc, if_neg]
        · simp
        · rintro ⟨h1, h2⟩
          exact hc ⟨by simp at h1; omega, by simpa using h2⟩
    · rw [if_neg hy, if_neg hy]
      by_cases he : y = n
      · subst he; simp
      · rw [if_neg he, if_neg]
        · simp
        · rintro ⟨_, h2⟩; simp at h2; exact he h2
/-- Rising lists with the same numbers are one. -/
theorem rise_ext : ∀ {l m : List Int}, Rise l → Rise m → (∀ x, x ∈ l ↔ x ∈ m) → l = m
  | [], [], _, _, _ => rfl
  | [], y :: m, _, _, h => by have := (h y).2 (by simp); simp at this
  | x :: l, [], _, _, h => by have := (h x).1 (by simp); simp at this
  | x :: l, y :: m, hl, hm, h => by
    unfold Rise at *
    rw [List.pairwise_cons] at hl hm
    have hxy : x = y := by
      have h1 := (h x).1 (by simp)
      have h2 := (h y).2 (by simp)
      rcases List.mem_cons.1 h1 with h1 | h1
      · exact h1
      · rcases List.mem_cons.1 h2 with h2 | h2
        · exact h2.symm
        · have := hm.1 x h1; have := hl.1 y h2; omega
    subst hxy
    congr 1
    refine rise_ext hl.2 hm.2 fun z => ?_
    constructor
    · intro hz
      rcases List.mem_cons.1 ((h z).1 (by simp [hz])) with e | e
      · have := hl.1 z hz; omega
      · exact e
    · intro hz
      rcases List.mem_cons.1 ((h z).2 (by simp [hz])) with e | e
      · have := hm.1 z hz; omega
      · exact e

/-- What is left of a sorted row. -/
theorem comp_spec {d : Array Int} (hs : ∀ i j, i ≤ j → j < d.size → d[i]! ≤ d[j]!) : ∀ m, m ≤ d.size → Rise (compactUpTo d m) ∧ ∀ x, x ∈ compactUpTo d m ↔ ∃ j, j < m ∧ d[j]! = x
  | 0, _ => by
    refine ⟨by simp [compactUpTo, Rise], fun x => ?_⟩
    simp [compactUpTo]
  | m + 1, hm => by
    obtain ⟨h1, h2⟩ := comp_spec hs m (by omega)
    rw [compactUpTo_succ]
    cases hk : keeps d m
    · have hk' : ¬ (m = 0 ∨ d[m]! ≠ d[m - 1]!) := by simpa [keeps] using hk
      have he : m ≠ 0 ∧ d[m]! = d[m - 1]! := by
        refine ⟨fun e => hk' (.inl e), ?_⟩
        by_cases e : d[m]! = d[m - 1]!
        · exact e
        · exact absurd (.inr e) hk'
      simp only [Bool.false_eq_true, if_false, List.append_nil]
      refine ⟨h1, fun x => ?_⟩
      rw [h2]
      constructor
      · rintro ⟨j, hj, e⟩; exact ⟨j, by omega, e⟩
      · rintro ⟨j, hj, e⟩
        by_cases hjm : j = m
        · subst hjm; exact ⟨j - 1, by omega, by rw [← he.2]; exact e⟩
        · exact ⟨j, by omega, e⟩
    · have hk' : m = 0 ∨ d[m]! ≠ d[m - 1]! := by simpa [keeps] using hk
      simp only [if_true]
      constructor
      · unfold Rise at *
        rw [List.pairwise_append]
        refine ⟨h1, by simp, fun x hx y hy => ?_⟩
        obtain ⟨j, hj, e⟩ := (h2 x).1 hx
        simp at hy
        subst hy
        rw [← e]
        have hle := hs j (m - 1) (by omega) (by omega)
        have hle2 := hs (m - 1) m (by omega) (by omega)
        rcases hk' with hk' | hk'
        · omega
        · omega
      · intro x
        rw [List.mem_append, h2]
        constructor
        · rintro (⟨j, hj, e⟩ | h)
          · exact ⟨j, by omega, e⟩
          · simp at h; exact ⟨m, by omega, h.symm⟩
        · rintro ⟨j, hj, e⟩
          by_cases hjm : j = m
          · subst hjm; exact .inr (by simp [e])
          · exact .inl ⟨j, by omega, e⟩
/-- What the program makes of its numbers: sorted, each once. -/
def sortC (l : List Int) : List Int := compactUpTo (l.mergeSort fun x y => decide (x ≤ y)).toArray l.length
theorem sortC_spec (l : List Int) : Rise (sortC l) ∧ ∀ x, x ∈ sortC l ↔ x ∈ l := by
  have hp := List.mergeSort_perm l fun x y => decide (x ≤ y)
  have hs := List.pairwise_mergeSort (le := fun x y : Int => decide (x ≤ y)) (fun a b c => by simp; omega) (fun a b => by simp; omega) l
  have hl : (l.mergeSort fun x y => decide (x ≤ y)).length = l.length := hp.length_eq
  unfold sortC
  generalize l.mergeSort (fun x y => decide (x ≤ y)) = m at *
  obtain ⟨h1, h2⟩ := comp_spec (d := m.toArray) (fun i j hij hj => by
    have hj' : j < m.length := by simpa using hj
    rw [getElem!_pos m.toArray i (by simp; omega), getElem!_pos m.toArray j (by simpa using hj)]
    by_cases e : i = j
    · subst e; exact Int.le_refl _
    · rw [List.pairwise_iff_getElem] at hs
      have := hs i j (by omega) hj' (by omega)
      simpa using this) l.length (by simp [hl])
  refine ⟨h1, fun x => ?_⟩
  rw [h2, ← hp.mem_iff]
  constructor
  · rintro ⟨j, hj, e⟩
    rw [getElem!_pos m.toArray j (by simp [hl, hj])] at e
    rw [← e]
    simp
  · intro hx
    obtain ⟨j, hj, e⟩ := List.mem_iff_getElem.1 hx
    exact ⟨j, by omega, by rw [getElem!_pos m.toArray j (by simpa using hj)]; simpa using e⟩

/-! ### The changes -/
def cueAdd (g : List ByteArray) (c : Cu) : List Int := if memB g c.g = true then (if c.t + c.f ≤ 3600000 then [c.t, c.t + c.f] else [c.t]) else []
def ovAdd (g : List ByteArray) (o : Ov) : List Int := if memB g o.g = true then [o.e.fr, o.e.to] else []
/-- The program's numbers behind the first k cues, and behind the first k overlays. -/
def rawC (g : List ByteArray) (cs : List Cu) : Nat → List Int
  | 0 => [0]
  | k + 1 => rawC g cs k ++ cueAdd g (cu cs k)
def rawO (g : List ByteArray) (cs : List Cu) (os : List Ov) : Nat → List Int
  | 0 => rawC g cs cs.length
  | k + 1 => rawO g cs os k ++ ovAdd g (ov os k)
/-- The reference's. -/
def refC (g : List ByteArray) (cs : List Cu) : Nat → List Int
  | 0 => [0]
  | k + 1 => (cueAdd g (cu cs k)).foldl insL (refC g cs k)
def refO (g : List ByteArray) (cs : List Cu) (os : List Ov) : Nat → List Int
  | 0 => refC g cs cs.length
  | k + 1 => (ovAdd g (ov os k)).foldl insL (refO g cs os k)
theorem fold_spec : ∀ {ns l : List Int}, Rise l → Rise (ns.foldl insL l) ∧ ∀ x, x ∈ ns.foldl insL l ↔ x ∈ l ∨ x ∈ ns
  | [], l, h => ⟨h, fun x => by simp⟩
  | n :: ns, l, h => by
    obtain ⟨h1, h2⟩ := fold_spec (ns := ns) (insL_rise (n := n) h)
    refine ⟨h1, fun x => ?_⟩
    rw [List.foldl_cons, h2, insL_mem, List.mem_cons]
    constructor
    · rintro ((h | h) | h) <;> simp [h]
    · rintro (h | h | h) <;> simp [h]
theorem refC_spec (g : List ByteArray) (cs : List Cu) : ∀ k, Rise (refC g cs k) ∧ ∀ x, x ∈ refC g cs k ↔ x ∈ rawC g cs k
  | 0 => ⟨by simp [refC, Rise], fun x => by simp [refC, rawC]⟩
  | k + 1 => by
    obtain ⟨h1, h2⟩ := refC_spec g cs k
    obtain ⟨h3, h4⟩ := fold_spec (ns := cueAdd g (cu cs k)) h1
    refine ⟨h3, fun x => ?_⟩
    rw [refC, h4, h2, rawC, List.mem_append]
theorem refO_spec (g : List ByteArray) (cs : List Cu) (os : List Ov) : ∀ k, Rise (refO g cs os k) ∧ ∀ x, x ∈ refO g cs os k ↔ x ∈ rawO g cs os k
  | 0 => refC_spec g cs cs.length
  | k + 1 => by
    obtain ⟨h1, h2⟩ := refO_spec g cs os k
    obtain ⟨h3, h4⟩ := fold_spec (ns := ovAdd g (ov os k)) h1
    refine ⟨h3, fun x => ?_⟩
    rw [refO, h4, h2, rawO, List.mem_append]
/-- The changes of an aircraft with these groups. -/
def chg (g : List ByteArray) (cs : List Cu) (os : List Ov) : List Int := refO g cs os os.length
theorem chg_eq (g : List ByteArray) (cs : List Cu) (os : List Ov) : sortC (rawO g cs os os.length) = chg g cs os := by
  obtain ⟨h1, h2⟩ := sortC_spec (rawO g cs os os.length)
  obtain ⟨h3, h4⟩ := refO_spec g cs os os.length
  exact rise_ext h1 h3 fun x => by rw [h2, chg, h4]
theorem rawC_len (g : List ByteArray) (cs : List Cu) : ∀ k, 0 < (rawC g cs k).length ∧ (rawC g cs k).length ≤ 2 * k + 1
  | 0 => by simp [rawC]
  | k + 1 => by
    have := rawC_len g cs k
    rw [rawC, List.length_append]
    have h2 : (cueAdd g (cu cs k)).length ≤ 2 := by
      rw [cueAdd]; split
      · split <;> simp
      · simp
    omega
theorem rawO_len (g : List ByteArray) (cs : List Cu) (os : List Ov) : ∀ k, 0 < (rawO g cs os k).length ∧ (rawO g cs os k).length ≤ 2 * cs.length + 1 + 2 * k
  | 0 => by have := rawC_len g cs cs.length; simp only [rawO]; omega
  | k + 1 => by
    have := rawO_len g cs os k
    rw [rawO, List.length_append]
    have h2 : (ovAdd g (ov os k)).length ≤ 2 := by rw [ovAdd]; split <;> simp
    omega
theorem insL_len (l : List Int) (n : Int) : (insL l n).length ≤ l.length + 1 := by
  induction l with
  | nil => simp [insL]
  | cons y l ih =>
    rw [insL]
    split
    · simp; omega
    · split <;> simp
theorem fold_len : ∀ (ns l : List Int), (ns.foldl insL l).length ≤ l.length + ns.length
  | [], l => by simp
  | n :: ns, l => by
    have := fold_len ns (insL l n)
    have := insL_len l n
    simp only [List.foldl_cons, List.length_cons]
    omega
theorem refC_len (g : List ByteArray) (cs : List Cu) : ∀ k, (refC g cs k).length ≤ 2 * k + 1
  | 0 => by simp [refC]
  | k + 1 => by
    have := refC_len g cs k
    have h1 := fold_len (cueAdd g (cu cs k)) (refC g cs k)
    have h2 : (cueAdd g (cu cs k)).length ≤ 2 := by
      rw [cueAdd]; split
      · split <;> simp
      · simp
    rw [refC]
    omega
theorem refO_len (g : List ByteArray) (cs : List Cu) (os : List Ov) : ∀ k, (refO g cs os k).length ≤ 2 * cs.length + 1 + 2 * k
  | 0 => by have := refC_len g cs cs.length; simp only [refO]; omega
  | k + 1 => by
    have := refO_len g cs os k
    have h1 := fold_len (ovAdd g (ov os k)) (refO g cs os k)
    have h2 : (ovAdd g (ov os k)).length ≤ 2 := by rw [ovAdd]; split <;> simp
    rw [refO]
    omega

end Go.Proofs.YtiikejhkhdmgeaaGreat


/- Matchings: what program and reference compute, as plain functions, and how these hang together; plain. Conditions stand in each theorem. -/
import Derived.Test.YtjiknjcmfiapjaaMatK
namespace Go.Proofs.Ytjiknjcmfiapjaa
set_option linter.unusedVariables false

/-- Place i of the list keeps to the rule. -/
def okAt (l : List Int) (b : Int) (i : Nat) : Bool := decide (0 ≤ l.getD i 0) && decide (l.getD i 0 < b) && (decide (i = 0) || decide (l.getD (i - 1) 0 < l.getD i 0))
/-- Strictly increasing, from 0 to less than b. -/
def inc (l : List Int) (b : Int) : Bool := (List.range l.length).all fun i => okAt l b i
theorem inc_of {l : List Int} {b : Int} (h : ∀ i, i < l.length → okAt l b i = true) : inc l b = true := by
  simp only [inc, List.all_eq_true, List.mem_range]; exact h
theorem inc_no {l : List Int} {b : Int} {i : Nat} (hi : i < l.length) (h : okAt l b i = false) : inc l b = false := by
  rw [← Bool.not_eq_true]
  intro e
  simp only [inc, List.all_eq_true, List.mem_range] at e
  rw [e i hi] at h; cases h
theorem inc_at {l : List Int} {b : Int} (h : inc l b = true) {i : Nat} (hi : i < l.length) : 0 ≤ l.getD i 0 ∧ l.getD i 0 < b ∧ (0 < i → l.getD (i - 1) 0 < l.getD i 0) := by
  simp only [inc, List.all_eq_true, List.mem_range] at h
  have := h i hi
  simp only [okAt, Bool.and_eq_true, Bool.or_eq_true, decide_eq_true_eq] at this
  exact ⟨this.1.1, this.1.2, fun h0 => this.2.resolve_left (by omega)⟩
theorem mem_getD {l : List Int} {n : Int} (h : n ∈ l) : ∃ i, i < l.length ∧ l.getD i 0 = n := by
  obtain ⟨i, hi, e⟩ := List.mem_iff_getElem.1 h
  exact ⟨i, hi, by simp [List.getD, hi, e]⟩
theorem getD_in {l : List Int} {i : Nat} (hi : i < l.length) : l.getD i 0 ∈ l := by simp [List.getD, hi]
theorem inc_mem {l : List Int} {b : Int} (h : inc l b = true) {n : Int} (hn : n ∈ l) : 0 ≤ n ∧ n < b := by
  obtain ⟨i, hi, rfl⟩ := mem_getD hn
  exact ⟨(inc_at h hi).1, (inc_at h hi).2.1⟩
theorem inc_lt {l : List Int} {b : Int} (h : inc l b = true) : ∀ (j i : Nat), i < j → j < l.length → l.getD i 0 < l.getD j 0
  | 0, i, hi, _ => by omega
  | j + 1, i, hi, hj => by
    have h1 := (inc_at h hj).2.2 (by omega)
    rw [Nat.add_sub_cancel] at h1
    rcases Nat.lt_or_ge i j with h2 | h2
    · have := inc_lt h j i h2 (by omega); omega
    · obtain rfl : i = j := by omega
      exact h1
theorem inc_nodup {l : List Int} {b : Int} (h : inc l b = true) : l.Nodup := by
  refine List.pairwise_iff_getElem.2 fun i j hi hj hij e => ?_
  have := inc_lt h j i hij hj
  simp [List.getD, hj, hi, e] at this
theorem inc_len {l : List Int} {b : Int} (h : inc l b = true) (hb : 0 ≤ b) : (l.length : Int) ≤ b := by
  have h1 : ∀ i, i < l.length → (i : Int) ≤ l.getD i 0 := by
    intro i
    induction i with
    | zero => intro hi; exact (inc_at h hi).1
    | succ i ih =>
      intro hi
      have := ih (by omega)
      have := (inc_at h hi).2.2 (by omega)
      rw [Nat.add_sub_cancel] at this; omega
  rcases Nat.eq_zero_or_pos l.length with h0 | h0
  · omega
  · have := h1 (l.length - 1) (by omega)
    have := (inc_at h (i := l.length - 1) (by omega)).2.1
    omega

variable (G : Nat → List Int)

def vld (nL : Nat) (R : Int) : Bool := (List.range nL).all (fun i => inc (G i) R) && (decide (nL ≤ 200) && decide (0 ≤ R) && decide (R ≤ 200))
structure Vld (nL : Nat) (R : Int) : Prop where
  inc : ∀ i, i < nL → inc (G i) R = true
  hL : nL ≤ 200
  h0 : 0 ≤ R
  hR : R ≤ 200
theorem vld_iff {nL : Nat} {R : Int} : vld G nL R = true ↔ Vld G nL R := by
  simp only [vld, Bool.and_eq_true, List.all_eq_true, List.mem_range, decide_eq_true_eq]
  exact ⟨fun h => ⟨h.1, h.2.1.1, h.2.1.2, h.2.2⟩, fun h => ⟨h.inc, ⟨h.hL, h.h0⟩, h.hR⟩⟩
theorem vld_no {nL : Nat} {R : Int} {i : Nat} (hi : i < nL) (h : inc (G i) R = false) : vld G nL R = false := by
  rw [← Bool.not_eq_true]
  intro e
  rw [((vld_iff G).1 e).inc i hi] at h; cases h

/-- A matching's place. -/
def matAt (m : List Int) (i : Nat) : Bool := decide (m.getD i 0 = -1) || ((G i).contains (m.getD i 0) && !(m.take i).contains (m.getD i 0))
def matB (nL : Nat) (m : List Int) : Bool := decide (m.length = nL) && (List.range nL).all fun i => matAt G m i
theorem matB_no {nL : Nat} {m : List Int} {i : Nat} (hi : i < nL) (h : matAt G m i = false) : matB G nL m = false := by
  rw [← Bool.not_eq_true]
  intro e
  simp only [matB, Bool.and_eq_true, List.all_eq_true, List.mem_range] at e
  rw [e.2 i hi] at h; cases h
theorem matB_of {nL : Nat} {m : List Int} (hl : m.length = nL) (h : ∀ i, i < nL → matAt G m i = true) : matB G nL m = true := by
  simp only [matB, Bool.and_eq_true, List.all_eq_true, List.mem_range, decide_eq_true_eq]
  exact ⟨hl, h⟩
theorem mem_take {m : List Int} {k i : Nat} (h : k < i) (hk : k < m.length) : m.getD k 0 ∈ m.take i := by
  rw [List.mem_iff_getElem?]
  exact ⟨k, by rw [List.getElem?_take, if_pos h]; simp [List.getD, hk]⟩
theorem take_mem {m : List Int} {i : Nat} {x : Int} (h : x ∈ m.take i) : ∃ k, k < i ∧ k < m.length ∧ m.getD k 0 = x := by
  obtain ⟨k, hk⟩ := List.mem_iff_getElem?.1 h
  rw [List.getElem?_take] at hk
  split at hk
  · rename_i h1
    obtain ⟨h2, h3⟩ := List.getElem?_eq_some_iff.1 hk
    exact ⟨k, h1, h2, by simp [List.getD, h2, h3]⟩
  · cases hk
theorem matB_mat {nL : Nat} {m : List Int} (h : matB G nL m = true) : m.length = nL ∧ Mat G nL fun i => m.getD i 0 := by
  simp only [matB, Bool.and_eq_true, List.all_eq_true, List.mem_range, decide_eq_true_eq] at h
  obtain ⟨hl, h⟩ := h
  have h2 : ∀ i, i < nL → m.getD i 0 ≠ -1 → m.getD i 0 ∈ G i ∧ m.getD i 0 ∉ m.take i := fun i hi hne => by
    have := h i hi
    simp only [matAt, Bool.or_eq_true, Bool.and_eq_true, decide_eq_true_eq, Bool.not_eq_true', List.contains_iff_mem] at this
    rcases this with h3 | h3
    · exact absurd h3 hne
    · refine ⟨h3.1, fun h4 => ?_⟩
      have h5 := h3.2
      rw [← List.contains_iff_mem] at h4
      rw [h4] at h5; cases h5
  refine ⟨hl, fun i hi hne => (h2 i hi hne).1, fun i k hi hk hne e => ?_⟩
  rcases Nat.lt_trichotomy i k with h3 | h3 | h3
  · exact absurd (by rw [← e]; exact mem_take h3 (by omega)) (h2 k hk (by rw [← e]; exact hne)).2
  · exact h3
  · exact absurd (by rw [e]; exact mem_take h3 (by omega)) (h2 i hi hne).2
theorem mat_matB {nL : Nat} {m : List Int} (hl : m.length = nL) (h : Mat G nL fun i => m.getD i 0) : matB G nL m = true := by
  refine matB_of G hl fun i hi => ?_
  simp only [matAt, Bool.or_eq_true, Bool.and_eq_true, decide_eq_true_eq, Bool.not_eq_true', List.contains_iff_mem]
  by_cases h0 : m.getD i 0 = -1
  · exact .inl h0
  · refine .inr ⟨h.edge i hi h0, ?_⟩
    rw [← Bool.not_eq_true, List.contains_iff_mem]
    intro h1
    obtain ⟨k, h2, h3, h4⟩ := take_mem h1
    have := h.once i k hi (by omega) h0 h4.symm
    omega
/-- How many are matched. -/
def cnt (m : List Int) : Nat := cntp (fun i => decide (m.getD i 0 ≠ -1)) m.length

def covB (nL : Nat) (R : Int) (cl cr : List Int) : Bool := inc cl nL && inc cr R && (List.range nL).all fun i => (G i).all fun n => cl.contains (i : Int) || cr.contains n
theorem covB_cov {nL : Nat} {R : Int} {cl cr : List Int} (h : covB G nL R cl cr = true) : Cov G nL cl cr := by
  simp only [covB, Bool.and_eq_true, List.all_eq_true, List.mem_range, Bool.or_eq_true, List.contains_iff_mem] at h
  exact h.2
theorem cov_covB {nL : Nat} {R : Int} {cl cr : List Int} (h1 : inc cl nL = true) (h2 : inc cr R = true) (h : Cov G nL cl cr) : covB G nL R cl cr = true := by
  simp only [covB, Bool.and_eq_true, List.all_eq_true, List.mem_range, Bool.or_eq_true, List.contains_iff_mem]
  exact ⟨⟨h1, h2⟩, h⟩
theorem covB_no {nL : Nat} {R : Int} {cl cr : List Int} {i : Nat} {n : Int} (hi : i < nL) (hn : n ∈ G i) (h1 : cl.contains (i : Int) = false) (h2 : cr.contains n = false) : covB G nL R cl cr = false := by
  rw [← Bool.not_eq_true]
  intro e
  rcases covB_cov G e i hi n hn with h | h
  · rw [← List.contains_iff_mem] at h; rw [h] at h1; cases h1
  · rw [← List.contains_iff_mem] at h; rw [h] at h2; cases h2
def prvB (nL : Nat) (R : Int) (m cl cr : List Int) : Bool := matB G nL m && covB G nL R cl cr && decide (cnt m = cl.length + cr.length)

/-- The search's end. -/
def fin (nL : Nat) : St := (runM G nL (nL + 1) ⟨fun _ => -1, fun _ => -1, fun _ => 0⟩).getD ⟨fun _ => -1, fun _ => -1, fun _ => 0⟩
def sizeV (nL : Nat) : Nat := cntp (used (fin G nL).M) nL
def grt (nL : Nat) : List Int := (List.range nL).map (fin G nL).M
def cvL (nL : Nat) : List Int := covL (fin G nL).V nL
def cvR (nL R : Nat) : List Int := covR G (fin G nL).V nL R
theorem vld_mem {nL R : Nat} (h : vld G nL R = true) : ∀ i, i < nL → ∀ n ∈ G i, 0 ≤ n ∧ n < (R : Int) := fun i hi n hn => inc_mem (((vld_iff G).1 h).inc i hi) hn
theorem fin_spec {nL R : Nat} (h : vld G nL R = true) : runM G nL (nL + 1) ⟨fun _ => -1, fun _ => -1, fun _ => 0⟩ = some (fin G nL) ∧ Inv G nL (fin G nL).M (fin G nL).B ∧ BfsI G (fin G nL).M (fin G nL).B nL (fin G nL).V [] false := by
  obtain ⟨t, e, h1, h2⟩ := runM_spec G nL ⟨fun i hi n hn => (vld_mem G h i hi n hn).1⟩ (nL + 1) ⟨fun _ => -1, fun _ => -1, fun _ => 0⟩
    ⟨fun k _ h => by dsimp only at h; omega, fun n h => by dsimp only at h; omega, fun _ => by dsimp only; omega, fun _ => by dsimp only; omega⟩
    (Nat.lt_succ_of_le (cntp_le _ _))
  have e2 : fin G nL = t := by unfold fin; rw [e]; rfl
  rw [e2]
  exact ⟨e, h1, h2⟩
theorem grt_len (nL : Nat) : (grt G nL).length = nL := by simp [grt]
theorem grt_get {nL i : Nat} (hi : i < nL) : (grt G nL).getD i 0 = (fin G nL).M i := by simp [grt, List.getD, hi]
theorem Mat.congr {nL : Nat} {m m' : Nat → Int} (h : Mat G nL m) (e : ∀ i, i < nL → m' i = m i) : Mat G nL m' :=
  ⟨fun i hi h0 => by rw [e i hi] at h0 ⊢; exact h.edge i hi h0, fun i k hi hk h0 e2 => by rw [e i hi] at h0 e2; rw [e k hk] at e2; exact h.once i k hi hk h0 e2⟩
theorem grt_ok {nL R : Nat} (h : vld G nL R = true) : matB G nL (grt G nL) = true :=
  mat_matB G (grt_len G nL) ((fin_spec G h).2.1.mat.congr G fun i hi => grt_get G hi)
theorem grt_cnt (nL : Nat) : cnt (grt G nL) = sizeV G nL := by
  unfold cnt sizeV
  rw [grt_len]
  exact cntp_congr nL fun k hk => by simp only [used, grt_get G hk]
theorem inc_filter (p : Nat → Bool) (n : Nat) (b : Int) (hb : (n : Int) ≤ b) : inc (((List.range n).filter p).map fun i : Nat => (i : Int)) b = true := by
  refine inc_of fun i hi => ?_
  have hl := hi
  rw [List.length_map] at hi
  have hmem : ∀ j, j < ((List.range n).filter p).length → ∃ x : Nat, x < n ∧ ((List.range n).filter p)[j]? = some x := fun j hj => by
    have : ((List.range n).filter p)[j] ∈ (List.range n).filter p := List.getElem_mem _
    rw [List.mem_filter, List.mem_range] at this
    exact ⟨_, this.1, List.getElem?_eq_getElem hj⟩
  have hget : ∀ (j x : Nat), ((List.range n).filter p)[j]? = some x → (((List.range n).filter p).map fun i : Nat => (i : Int)).getD j 0 = (x : Int) := fun j x hx => by
    simp [List.getD, hx]
  obtain ⟨x, hx, ex⟩ := hmem i hi
  simp only [okAt, Bool.and_eq_true, Bool.or_eq_true, decide_eq_true_eq, hget i x ex]
  refine ⟨⟨by omega, by omega⟩, ?_⟩
  rcases Nat.eq_zero_or_pos i with h0 | h0
  · exact .inl h0
  · right
    obtain ⟨y, hy, ey⟩ := hmem (i - 1) (by omega)
    rw [hget _ y ey]
    have hp : (List.filter p (List.range n)).Pairwise (· < ·) := List.Pairwise.filter _ List.pairwise_lt_range
    have := List.pairwise_iff_getElem.1 hp (i - 1) i (by omega) hi (by omega)
    rw [(List.getElem?_eq_some_iff.1 ex).2, (List.getElem?_eq_some_iff.1 ey).2] at this
    omega
theorem cvL_inc (nL : Nat) : inc (cvL G nL) nL = true := inc_filter _ nL _ (Int.le_refl _)
theorem cvR_inc (nL R : Nat) : inc (cvR G nL R) R = true := inc_filter _ R _ (Int.le_refl _)
theorem cv_cov {nL R : Nat} (h : vld G nL R = true) : Cov G nL (cvL G nL) (cvR G nL R) := cov_ok G (vld_mem G h)
theorem cv_ok {nL R : Nat} (h : vld G nL R = true) : covB G nL R (cvL G nL) (cvR G nL R) = true := cov_covB G (cvL_inc G nL) (cvR_inc G nL R) (cv_cov G h)
theorem cv_len {nL R : Nat} (h : vld G nL R = true) : (cvL G nL).length + (cvR G nL R).length = sizeV G nL :=
  konig G (vld_mem G h) (fin_spec G h).2.1 (fin_spec G h).2.2
theorem prv_ok {nL R : Nat} (h : vld G nL R = true) : prvB G nL R (grt G nL) (cvL G nL) (cvR G nL R) = true := by
  simp only [prvB, Bool.and_eq_true, decide_eq_true_eq]
  exact ⟨⟨grt_ok G h, cv_ok G h⟩, by rw [grt_cnt, cv_len G h]⟩
theorem cnt_mat {nL : Nat} {m : List Int} (hl : m.length = nL) : cnt m = cntp (used fun i => m.getD i 0) nL := by subst hl; rfl
/-- No matching is greater. -/
theorem mat_le {nL R : Nat} (h : vld G nL R = true) {m : Nat → Int} (hm : Mat G nL m) : cntp (used m) nL ≤ sizeV G nL := by
  rw [← cv_len G h]; exact weak G hm (cv_cov G h)
theorem matB_le {nL R : Nat} (h : vld G nL R = true) {m : List Int} (hm : matB G nL m = true) : cnt m ≤ sizeV G nL := by
  obtain ⟨hl, h1⟩ := matB_mat G hm
  rw [cnt_mat hl]; exact mat_le G h h1
/-- No cover is smaller. -/
theorem cov_ge {nL R : Nat} (h : vld G nL R = true) {cl cr : List Int} (hc : Cov G nL cl cr) : sizeV G nL ≤ cl.length + cr.length := weak G (fin_spec G h).2.1.mat hc
theorem covB_ge {nL R : Nat} (h : vld G nL R = true) {cl cr : List Int} (hc : covB G nL R cl cr = true) : sizeV G nL ≤ cl.length + cr.length := cov_ge G h (covB_cov G hc)
theorem bst_size {nL R : Nat} (h : vld G nL R = true) : bst G nL nL [] = sizeV G nL := by
  refine Nat.le_antisymm ?_ ?_
  · obtain ⟨m, _, h2, _, h4⟩ := bst_is G nL ⟨fun i hi n hn => (vld_mem G h i hi n hn).1⟩ nL [] (Nat.le_refl _)
    rw [← h4, cntl_full]; exact mat_le G h h2
  · have := bst_upper G nL (fin G nL).M (fin_spec G h).2.1.mat nL [] (Nat.le_refl _) (fun _ _ _ _ => by simp)
    rw [cntl_full] at this; exact this

/-- The sides exchanged. -/
def trn (nL : Nat) (n : Nat) : List Int := ((List.range nL).filter fun i => (G i).contains (n : Int)).map fun i : Nat => (i : Int)
theorem mem_trn {nL n : Nat} {x : Int} : x ∈ trn G nL n ↔ ∃ i : Nat, i < nL ∧ (n : Int) ∈ G i ∧ x = i := by
  simp only [trn, List.mem_map, List.mem_filter, List.mem_range, List.contains_iff_mem]
  constructor
  · rintro ⟨i, ⟨h1, h2⟩, rfl⟩; exact ⟨i, h1, h2, rfl⟩
  · rintro ⟨i, h1, h2, rfl⟩; exact ⟨i, ⟨h1, h2⟩, rfl⟩
theorem trn_vld {nL R : Nat} (h : vld G nL R = true) : vld (trn G nL) R nL = true := by
  have H := (vld_iff G).1 h
  exact (vld_iff _).2 ⟨fun i hi => inc_filter _ nL _ (Int.le_refl _), by have := H.hR; omega, by omega, by have := H.hL; omega⟩
theorem trn_size {nL R : Nat} (h : vld G nL R = true) : sizeV (trn G nL) R = sizeV G nL := by
  have ht := trn_vld G h
  refine Nat.le_antisymm ?_ ?_
  · rw [← cv_len G h, Nat.add_comm]
    refine cov_ge _ ht fun n hn x hx => ?_
    obtain ⟨i, hi, hm, rfl⟩ := (mem_trn G).1 hx
    exact (cv_cov G h i hi n hm).symm
  · rw [← cv_len _ ht, Nat.add_comm]
    refine cov_ge _ h fun i hi x hx => ?_
    have hx2 := vld_mem G h i hi x hx
    have hx3 : ((x.toNat : Nat) : Int) = x := by omega
    have := cv_cov _ ht x.toNat (by omega) i ((mem_trn G).2 ⟨i, hi, by rw [hx3]; exact hx, rfl⟩)
    rw [hx3] at this
    exact this.symm
/-- An edge more. -/
def mor (R left right : Nat) (i : Nat) : List Int := ((List.range R).filter fun k : Nat => (G i).contains (k : Int) || (decide (i = left) && decide (k = right))).map fun k : Nat => (k : Int)
theorem mem_mor {R left right i : Nat} {x : Int} : x ∈ mor G R left right i ↔ ∃ k : Nat, k < R ∧ ((k : Int) ∈ G i ∨ (i = left ∧ k = right)) ∧ x = k := by
  simp only [mor, List.mem_map, List.mem_filter, List.mem_range, Bool.or_eq_true, Bool.and_eq_true, decide_eq_true_eq, List.contains_iff_mem]
  constructor
  · rintro ⟨i, ⟨h1, h2⟩, rfl⟩; exact ⟨i, h1, h2, rfl⟩
  · rintro ⟨i, h1, h2, rfl⟩; exact ⟨i, ⟨h1, h2⟩, rfl⟩
theorem mor_vld {nL R left right : Nat} (h : vld G nL R = true) : vld (mor G R left right) nL R = true := by
  have H := (vld_iff G).1 h
  exact (vld_iff _).2 ⟨fun i hi => inc_filter _ R _ (Int.le_refl _), H.hL, H.h0, H.hR⟩
theorem mor_size {nL R left right : Nat} (h : vld G nL R = true) : sizeV (mor G R left right) nL = sizeV G nL ∨ sizeV (mor G R left right) nL = sizeV G nL + 1 := by
  have ht := mor_vld (left := left) (right := right) G h
  have h1 : sizeV G nL ≤ sizeV (mor G R left right) nL := by
    refine mat_le _ ht (m := (fin G nL).M) ⟨fun i hi h0 => ?_, (fin_spec G h).2.1.mat.once⟩
    have h1 := (fin_spec G h).2.1.mat.edge i hi h0
    have h2 := vld_mem G h i hi _ h1
    have h3 : ((((fin G nL).M i).toNat : Nat) : Int) = (fin G nL).M i := by omega
    exact (mem_mor G).2 ⟨((fin G nL).M i).toNat, by omega, .inl (by rw [h3]; exact h1), h3.symm⟩
  have h2 : sizeV (mor G R left right) nL ≤ sizeV G nL + 1 := by
    have := cov_ge _ ht (cl := cvL G nL) (cr := (right : Int) :: cvR G nL R) fun i hi x hx => by
      obtain ⟨k, hk, h3, rfl⟩ := (mem_mor G).1 hx
      rcases h3 with h3 | h3
      · rcases cv_cov G h i hi _ h3 with h4 | h4
        · exact .inl h4
        · exact .inr (List.mem_cons_of_mem _ h4)
      · right; rw [h3.2]; exact List.mem_cons_self ..
    have h4 := cv_len G h
    simp at this; omega
  omega

end Go.Proofs.Ytjiknjcmfiapjaa

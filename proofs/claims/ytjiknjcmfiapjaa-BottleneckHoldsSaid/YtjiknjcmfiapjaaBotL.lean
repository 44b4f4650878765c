
/- Assignments: the smallest greatest cost, proofs, and what they prove; plain. Conditions stand in each theorem. -/
import Derived.Test.YtjiknjcmfiapjaaBotA
import Derived.Test.YtjiknjcmfiapjaaBotT
namespace Go.Proofs.Ytjiknjcmfiapjaa
set_option linter.unusedVariables false

variable {G : Nat → List Int} {n : Nat}

theorem mem_nums {p : Nat → Bool} {m : Nat} {x : Int} : x ∈ nums p m ↔ ∃ k : Nat, k < m ∧ p k = true ∧ x = k := by
  unfold nums
  constructor
  · intro h
    obtain ⟨k, hk, rfl⟩ := List.mem_map.1 h
    obtain ⟨h1, h2⟩ := List.mem_filter.1 hk
    exact ⟨k, List.mem_range.1 h1, h2, rfl⟩
  · rintro ⟨k, hk, hp, rfl⟩
    exact List.mem_map.2 ⟨k, List.mem_filter.2 ⟨List.mem_range.2 hk, hp⟩, rfl⟩
/-- All rows can be matched by allowed pairs. -/
def PMp (G : Nat → List Int) (n : Nat) (p : Int → Bool) : Prop := ∃ s, Prm s n ∧ ∀ r, r < n → p (cst G r (s r)) = true
theorem pm_size {p : Int → Bool} (hn : n ≤ 200) : n ≤ sizeV (gph G n p) n ↔ PMp G n p := by
  have hv := gph_vld G p hn
  constructor
  · intro h
    have hm := (fin_spec _ hv).2.1.mat
    have hc : cntp (used (fin (gph G n p) n).M) n = n := Nat.le_antisymm (cntp_le _ _) h
    have hall := cntp_full n hc
    have key : ∀ i, i < n → ∃ k : Nat, k < n ∧ p (cst G i k) = true ∧ (fin (gph G n p) n).M i = k := fun i hi => by
      have h1 := hall i hi
      have h2 := hm.edge i hi (by simpa [used] using h1)
      obtain ⟨k, a, b, c⟩ := mem_nums.1 h2
      exact ⟨k, a, b, c⟩
    refine ⟨fun i => ((fin (gph G n p) n).M i).toNat, ⟨fun i hi => ?_, fun i hi j hj e => ?_⟩, fun i hi => ?_⟩
    · obtain ⟨k, a, _, c⟩ := key i hi
      show ((fin (gph G n p) n).M i).toNat < n
      omega
    · obtain ⟨k, a, _, c⟩ := key i hi
      obtain ⟨k', a', _, c'⟩ := key j hj
      have e' : ((fin (gph G n p) n).M i).toNat = ((fin (gph G n p) n).M j).toNat := e
      exact hm.once i j hi hj (by omega) (by omega)
    · obtain ⟨k, a, b, c⟩ := key i hi
      show p (cst G i ((fin (gph G n p) n).M i).toNat) = true
      rw [c]; simpa using b
  · rintro ⟨s, hs, hp⟩
    have hm : Mat (gph G n p) n (fun i => (s i : Int)) := ⟨fun i hi _ => mem_nums.2 ⟨s i, hs.lt i hi, hp i hi, rfl⟩, fun i k hi hk _ e => hs.inj i hi k hk (by have : (s i : Int) = s k := e; omega)⟩
    have h1 := mat_le _ hv hm
    have h2 : cntp (used fun i => (s i : Int)) n = n := by
      have : cntp (used fun i => (s i : Int)) n = cntp (fun _ => true) n := cntp_congr n fun k _ => by simp [used]
      rw [this]
      clear this
      have all : ∀ m, cntp (fun _ => true) m = m := fun m => by
        induction m with
        | zero => rfl
        | succ m ih => rw [cntp, ih]; simp
      exact all n
    omega
theorem enB_iff (hn : n ≤ 200) {x : Int} : enB G n x = true ↔ PM G n x := by
  unfold enB
  rw [decide_eq_true_eq, pm_size hn]
  constructor
  · rintro ⟨s, hs, h⟩; exact ⟨s, hs, fun r hr => by simpa using h r hr⟩
  · rintro ⟨s, hs, h⟩; exact ⟨s, hs, fun r hr => by simpa using h r hr⟩
theorem PM.mono {x y : Int} (h : PM G n x) (hxy : x ≤ y) : PM G n y := by
  obtain ⟨s, hs, h1⟩ := h
  exact ⟨s, hs, fun r hr => Int.le_trans (h1 r hr) hxy⟩
theorem prm_id (n : Nat) : Prm (fun i => i) n := ⟨fun _ h => h, fun _ _ _ _ h => h⟩
theorem pm_all {x : Int} (h : ∀ r, r < n → ∀ k, k < n → cst G r k ≤ x) : PM G n x := ⟨_, prm_id n, fun r hr => h r hr r hr⟩
theorem greatest_of (f : Nat → Int) : ∀ n, 1 ≤ n → ∃ r, r < n ∧ ∀ k, k < n → f k ≤ f r
  | 0, h => by omega
  | 1, _ => ⟨0, by omega, fun k hk => by
    have e : k = 0 := by omega
    rw [e]; exact Int.le_refl _⟩
  | n + 2, _ => by
    obtain ⟨r, hr, h⟩ := greatest_of f (n + 1) (by omega)
    by_cases e : f r ≤ f (n + 1)
    · refine ⟨n + 1, by omega, fun k hk => ?_⟩
      rcases Nat.lt_or_ge k (n + 1) with h1 | h1
      · have := h k h1; omega
      · obtain rfl : k = n + 1 := by omega
        exact Int.le_refl _
    · refine ⟨r, by omega, fun k hk => ?_⟩
      rcases Nat.lt_or_ge k (n + 1) with h1 | h1
      · exact h k h1
      · obtain rfl : k = n + 1 := by omega
        omega

/-- The smallest greatest cost. -/
structure Thr (G : Nat → List Int) (n : Nat) (T : Int) : Prop where
  pm : PM G n T
  is : ∃ r k, r < n ∧ k < n ∧ cst G r k = T
  lo : ∀ x, x < T → ¬ PM G n x
theorem Thr.uniq {T T' : Int} (h : Thr G n T) (h' : Thr G n T') : T = T' := by
  rcases Int.lt_trichotomy T T' with e | e | e
  · exact absurd h.pm (h'.lo T e)
  · exact e
  · exact absurd h'.pm (h.lo T' e)
/-- The first cost that suffices, out of all costs in order. -/
theorem thr_of {l : List Int} {p : Nat} (hC : Cst G n) (hs : ∀ i j, i < j → j < l.length → l.getD i 0 ≤ l.getD j 0) (hm : ∀ x, x ∈ l ↔ ∃ r k, r < n ∧ k < n ∧ cst G r k = x)
    (h0 : ∀ j, j < p → enB G n (l.getD j 0) = false) (h1 : ∀ j, p ≤ j → j < l.length → enB G n (l.getD j 0) = true) (hp : p ≤ l.length) : p < l.length ∧ Thr G n (l.getD p 0) := by
  have hn := hC.le
  have hpos := hC.pos
  have hl : 0 < l.length := by
    have := (hm (cst G 0 0)).2 ⟨0, 0, by omega, by omega, rfl⟩
    exact List.length_pos_of_mem this
  have hlast : enB G n (l.getD (l.length - 1) 0) = true := by
    rw [enB_iff (by omega)]
    refine pm_all fun r hr k hk => ?_
    obtain ⟨j, hj, e⟩ := mem_getD ((hm (cst G r k)).2 ⟨r, k, hr, hk, rfl⟩)
    rw [← e]
    rcases Nat.lt_or_ge j (l.length - 1) with h | h
    · exact hs j (l.length - 1) h (by omega)
    · obtain rfl : j = l.length - 1 := by omega
      exact Int.le_refl _
  have hpl : p < l.length := by
    rcases Nat.lt_or_ge p l.length with h | h
    · exact h
    · have := h0 (l.length - 1) (by omega)
      rw [hlast] at this; cases this
  refine ⟨hpl, (enB_iff (by omega)).1 (h1 p (Nat.le_refl _) hpl), (hm _).1 (getD_in hpl), fun x hx hpm => ?_⟩
  obtain ⟨s, hs', hc⟩ := hpm
  obtain ⟨r0, hr0, hmax⟩ := greatest_of (fun r => cst G r (s r)) n hpos
  obtain ⟨j, hj, e⟩ := mem_getD ((hm (cst G r0 (s r0))).2 ⟨r0, s r0, hr0, hs'.lt r0 hr0, rfl⟩)
  have hx0 := hc r0 hr0
  have hjp : j < p := by
    rcases Nat.lt_trichotomy j p with h | h | h
    · exact h
    · subst h; omega
    · have := hs p j h hj; omega
  have h2 := h0 j hjp
  rw [← Bool.not_eq_true, enB_iff (by omega), e] at h2
  exact h2 ⟨s, hs', hmax⟩

/-- A number of a proof keeps to its limits. -/
def ptB (u v : List Int) (i : Nat) : Bool := decide (-9007199254740992 ≤ u.getD i 0) && decide (u.getD i 0 ≤ 9007199254740992) && decide (-9007199254740992 ≤ v.getD i 0) && decide (v.getD i 0 ≤ 9007199254740992)
def feA (G : Nat → List Int) (g : Int) (u v : List Int) (i k : Nat) : Bool := !decide (cst G i k ≤ g) || decide (u.getD i 0 + v.getD k 0 ≤ cst G i k)
def smU (u v : List Int) (k : Nat) : Int := sm (fun i => u.getD i 0 + v.getD i 0) k
/-- The first questions: columns, numbers of potentials. -/
def pr1 (n : Nat) (of u v : List Int) : Bool := colsB of n && decide (u.length = n) && decide (v.length = n)
/-- The costs. -/
def pr2 (G : Nat → List Int) (n : Nat) (of : List Int) (g s : Int) : Bool := decide (mstC G of n = g) && decide (sumC G of n = s)
/-- The cover. -/
def pr3 (G : Nat → List Int) (n : Nat) (g : Int) (cl cr : List Int) : Bool := covB (gph G n fun x => decide (x < g)) n n cl cr && decide (cl.length + cr.length < n)
/-- The potentials. -/
def pr4 (G : Nat → List Int) (n : Nat) (g s : Int) (u v : List Int) : Bool := (List.range n).all (ptB u v) && (List.range n).all (fun i => (List.range n).all fun k => feA G g u v i k) && decide (smU u v n = s)
/-- The proof proves that the assignment is best. -/
def prvA (G : Nat → List Int) (n : Nat) (of : List Int) (g s : Int) (cl cr u v : List Int) : Bool := pr1 n of u v && pr2 G n of g s && pr3 G n g cl cr && pr4 G n g s u v
theorem all_all {p : Nat → Nat → Bool} {a b : Nat} : ((List.range a).all fun i => (List.range b).all fun k => p i k) = true ↔ ∀ i, i < a → ∀ k, k < b → p i k = true := by
  simp [List.all_eq_true]
theorem smU_eq (u v : List Int) (n : Nat) : smU u v n = sm (fun i => u.getD i 0) n + sm (fun i => v.getD i 0) n := sm_add _ _ n
/-- What a proof proves. -/
theorem prvA_opt {of cl cr u v : List Int} {g s : Int} (hn : n ≤ 200) (h : prvA G n of g s cl cr u v = true) : Opt G n g s := by
  simp only [prvA, pr1, pr2, pr3, pr4, Bool.and_eq_true, decide_eq_true_eq] at h
  obtain ⟨⟨⟨⟨⟨h1, _⟩, _⟩, h2, h3⟩, h4, h5⟩, ⟨_, h6⟩, h7⟩ := h
  rw [all_all] at h6
  have hv := gph_vld G (fun x => decide (x < g)) hn
  have hsz := covB_ge _ hv h4
  refine ⟨⟨of, h1, h2, h3⟩, fun l hl => ?_⟩
  have hp := cols_prm hl
  have hge : g ≤ mstC G l n := by
    apply Classical.byContradiction
    intro hlt
    have h8 := (mstC_le (G := G) (l := l) (b := mstC G l n) n).1 (Int.le_refl _)
    have : n ≤ sizeV (gph G n fun x => decide (x < g)) n := (pm_size hn).2 ⟨_, hp, fun r hr => by have := h8.2 r hr; simp; omega⟩
    omega
  rcases Int.lt_or_eq_of_le hge with h8 | h8
  · exact .inl h8
  · right
    refine ⟨h8, ?_⟩
    have hf : Feas G n g (fun i => u.getD i 0) (fun i => v.getD i 0) := fun r hr k hk hc => by
      have := h6 r hr k hk
      simpa [feA, hc] using this
    have h9 := ((mstC_le (G := G) (l := l) (b := g) n).1 (by omega)).2
    have := feas_sum hf hp h9
    rw [← h7, smU_eq, sumC_sm]
    exact this
theorem sm_getD {f : Nat → Int} {n : Nat} : sm (fun i => ((List.range n).map f).getD i 0) n = sm f n := sm_congr n fun k hk => by simp [List.getD, hk]
/-- What the search leaves, with the smallest greatest cost and the cover, is a proof. -/
theorem best_prv {T : Int} {l : List Int} {U V : Nat → Int} (hC : Cst G n) (hT : Thr G n T) (hc : Chp G n T l U V) :
    mstC G l n = T ∧ prvA G n l T (sumC G l n) (cvL (gph G n fun x => decide (x < T)) n) (cvR (gph G n fun x => decide (x < T)) n n) ((List.range n).map U) ((List.range n).map V) = true := by
  have hn := hC.le
  have hpos := hC.pos
  have hp := cols_prm hc.cols
  have h0 : 0 ≤ T := by
    obtain ⟨r, k, hr, hk, e⟩ := hT.is
    have := hC.c hr hk; omega
  have hle : mstC G l n ≤ T := (mstC_le n).2 ⟨h0, fun r hr => (hc.tight r hr).1⟩
  have hm : mstC G l n = T := by
    rcases Int.lt_or_eq_of_le hle with h | h
    · exfalso
      have h8 := (mstC_le (G := G) (l := l) (b := mstC G l n) n).1 (Int.le_refl _)
      exact hT.lo _ h ⟨_, hp, h8.2⟩
    · exact h
  have hv := gph_vld G (fun x => decide (x < T)) (show n ≤ 200 by omega)
  have hsz : sizeV (gph G n fun x => decide (x < T)) n < n := by
    rcases Nat.lt_or_ge (sizeV (gph G n fun x => decide (x < T)) n) n with h | h
    · exact h
    · exfalso
      obtain ⟨s, hs, h1⟩ := (pm_size (by omega)).1 h
      exact hT.lo (T - 1) (by omega) ⟨s, hs, fun r hr => by have := h1 r hr; simp at this; omega⟩
  refine ⟨hm, ?_⟩
  have getU : ∀ (f : Nat → Int) k, k < n → ((List.range n).map f).getD k 0 = f k := fun f k hk => by simp [List.getD, hk]
  simp only [prvA, pr1, pr2, pr3, pr4, Bool.and_eq_true, decide_eq_true_eq]
  refine ⟨⟨⟨⟨⟨hc.cols, by simp⟩, by simp⟩, hm, trivial⟩, cv_ok _ hv, by rw [cv_len _ hv]; exact hsz⟩, ⟨?_, ?_⟩, ?_⟩
  · simp only [List.all_eq_true, List.mem_range]
    intro i hi
    have h1 := hc.u i hi
    have h2 := hc.v i hi
    simp only [ptB, getU _ i hi, Bool.and_eq_true, decide_eq_true_eq]
    omega
  · rw [all_all]
    intro i hi k hk
    have := hc.feas i hi k hk
    simp only [feA, getU _ i hi, getU _ k hk]
    by_cases e : cst G i k ≤ T
    · simp [e, this e]
    · simp [e]
  · rw [smU_eq, sm_getD, sm_getD, sumC_sm]
    exact tight_sum hp fun r hr => (hc.tight r hr).2
end Go.Proofs.Ytjiknjcmfiapjaa


/- Matchings and covers: no matching is greater than a cover; the search ends with both of one size; trying all finds the same; plain. Conditions stand in each theorem. -/
import Derived.Test.YtjiknjcmfiapjaaMatR
namespace Go.Proofs.Ytjiknjcmfiapjaa
set_option linter.unusedVariables false

theorem len_sub {α : Type} [DecidableEq α] : ∀ (l m : List α), l.Nodup → (∀ x ∈ l, x ∈ m) → l.length ≤ m.length
  | [], m, _, _ => Nat.zero_le _
  | a :: l, m, hn, h => by
    have ha := h a (List.mem_cons_self ..)
    have hn' := List.nodup_cons.1 hn
    have := len_sub l (m.erase a) hn'.2 fun x hx => by
      have hne : x ≠ a := fun e => by subst e; exact hn'.1 hx
      exact (List.mem_erase_of_ne hne).2 (h x (List.mem_cons_of_mem _ hx))
    rw [List.length_erase_of_mem ha] at this
    have hp := List.length_pos_of_mem ha
    simp; omega

variable (G : Nat → List Int)

/-- A list in which place i is -1 or a neighbour of i, each once. -/
structure Mat (nL : Nat) (m : Nat → Int) : Prop where
  edge : ∀ i, i < nL → m i ≠ -1 → m i ∈ G i
  once : ∀ i k, i < nL → k < nL → m i ≠ -1 → m i = m k → i = k
def Cov (nL : Nat) (cl cr : List Int) : Prop := ∀ i, i < nL → ∀ n ∈ G i, (i : Int) ∈ cl ∨ n ∈ cr
def used (m : Nat → Int) (i : Nat) : Bool := decide (m i ≠ -1)

/-- Weak duality. -/
theorem weak {nL : Nat} {m : Nat → Int} {cl cr : List Int} (hm : Mat G nL m) (hc : Cov G nL cl cr) : cntp (used m) nL ≤ cl.length + cr.length := by
  -- the matched left vertices, as members of the cover's two lists
  have key : ∀ n, n ≤ nL → ∃ a b : List Int, a.Nodup ∧ b.Nodup ∧ (∀ x ∈ a, x ∈ cl ∧ ∃ i : Nat, i < n ∧ x = i) ∧ (∀ y ∈ b, y ∈ cr ∧ ∃ i : Nat, i < n ∧ m i = y ∧ m i ≠ -1) ∧ cntp (used m) n = a.length + b.length := by
    intro n
    induction n with
    | zero => exact fun _ => ⟨[], [], List.nodup_nil, List.nodup_nil, by simp, by simp, rfl⟩
    | succ n ih =>
      intro hn
      obtain ⟨a, b, ha, hb, h1, h2, h3⟩ := ih (by omega)
      have w1 : ∀ x ∈ a, x ∈ cl ∧ ∃ i : Nat, i < n + 1 ∧ x = i := fun x hx => by obtain ⟨p, i, hi, e⟩ := h1 x hx; exact ⟨p, i, by omega, e⟩
      have w2 : ∀ y ∈ b, y ∈ cr ∧ ∃ i : Nat, i < n + 1 ∧ m i = y ∧ m i ≠ -1 := fun y hy => by obtain ⟨p, i, hi, e⟩ := h2 y hy; exact ⟨p, i, by omega, e⟩
      by_cases hu : m n = -1
      · exact ⟨a, b, ha, hb, w1, w2, by rw [cntp, h3]; simp [used, hu]⟩
      · rcases hc n (by omega) (m n) (hm.edge n (by omega) hu) with h | h
        · refine ⟨(n : Int) :: a, b, List.nodup_cons.2 ⟨fun hx => ?_, ha⟩, hb, fun x hx => ?_, w2, by rw [cntp, h3]; simp [used, hu]; omega⟩
          · obtain ⟨_, i, hi, e⟩ := h1 _ hx; omega
          · rcases List.mem_cons.1 hx with rfl | hx
            · exact ⟨h, n, by omega, rfl⟩
            · exact w1 x hx
        · refine ⟨a, m n :: b, ha, List.nodup_cons.2 ⟨fun hx => ?_, hb⟩, w1, fun x hx => ?_, by rw [cntp, h3]; simp [used, hu]; omega⟩
          · obtain ⟨_, i, hi, e, hne⟩ := h2 _ hx
            have := hm.once i n (by omega) (by omega) hne e; omega
          · rcases List.mem_cons.1 hx with rfl | hx
            · exact ⟨h, n, by omega, rfl, hu⟩
            · exact w2 x hx
  obtain ⟨a, b, ha, hb, h1, h2, h3⟩ := key nL (Nat.le_refl _)
  have := len_sub a cl ha fun x hx => (h1 x hx).1
  have := len_sub b cr hb fun x hx => (h2 x hx).1
  omega

theorem Inv.mat {nL : Nat} {M B : Nat → Int} (h : Inv G nL M B) : Mat G nL M :=
  ⟨fun i hi hne => (h.fwd i hi (by have := h.lowM i; omega)).1, fun i k hi hk hne e => by
    have h1 := (h.fwd i hi (by have := h.lowM i; omega)).2
    have h2 := (h.fwd k hk (by have := h.lowM k; omega)).2
    rw [e] at h1; omega⟩

/-- The cover: the left ones that were not reached, the right ones that were. -/
def covL (V : Nat → Int) (nL : Nat) : List Int := ((List.range nL).filter fun i => decide (V i < 0)).map fun i : Nat => (i : Int)
def rch (V : Nat → Int) (nL : Nat) (n : Nat) : Bool := (List.range nL).any fun i => decide (0 ≤ V i) && (G i).contains (n : Int)
def covR (V : Nat → Int) (nL R : Nat) : List Int := ((List.range R).filter fun n => rch G V nL n).map fun i : Nat => (i : Int)
theorem rch_iff {V : Nat → Int} {nL n : Nat} : rch G V nL n = true ↔ ∃ i, i < nL ∧ 0 ≤ V i ∧ (n : Int) ∈ G i := by
  simp [rch, List.any_eq_true]
theorem mem_covL {V : Nat → Int} {nL : Nat} {x : Int} : x ∈ covL V nL ↔ ∃ i : Nat, i < nL ∧ V i < 0 ∧ x = i := by
  simp only [covL, List.mem_map, List.mem_filter, List.mem_range, decide_eq_true_eq]
  constructor
  · rintro ⟨i, ⟨h1, h2⟩, rfl⟩; exact ⟨i, h1, h2, rfl⟩
  · rintro ⟨i, h1, h2, rfl⟩; exact ⟨i, ⟨h1, h2⟩, rfl⟩
theorem mem_covR {V : Nat → Int} {nL R : Nat} {x : Int} : x ∈ covR G V nL R ↔ ∃ n : Nat, n < R ∧ rch G V nL n = true ∧ x = n := by
  simp only [covR, List.mem_map, List.mem_filter, List.mem_range]
  constructor
  · rintro ⟨i, ⟨h1, h2⟩, rfl⟩; exact ⟨i, h1, h2, rfl⟩
  · rintro ⟨i, h1, h2, rfl⟩; exact ⟨i, ⟨h1, h2⟩, rfl⟩
theorem cov_ok {V : Nat → Int} {nL R : Nat} (hR : ∀ i, i < nL → ∀ n ∈ G i, 0 ≤ n ∧ n < R) : Cov G nL (covL V nL) (covR G V nL R) := by
  intro i hi n hn
  by_cases h : V i < 0
  · left; exact mem_covL.2 ⟨i, hi, h, rfl⟩
  · right
    have := hR i hi n hn
    refine (mem_covR G).2 ⟨n.toNat, by omega, (rch_iff G).2 ⟨i, hi, by omega, ?_⟩, by omega⟩
    rw [show ((n.toNat : Nat) : Int) = n by omega]; exact hn
theorem nodup_filter_cast (p : Nat → Bool) (n : Nat) : (((List.range n).filter p).map fun i : Nat => (i : Int)).Nodup := by
  refine List.pairwise_map.2 (List.Pairwise.imp (fun {a b} h e => h ?_) (List.Pairwise.filter _ List.nodup_range))
  omega
theorem len_filter_range (p : Nat → Bool) : ∀ n, ((List.range n).filter p).length = cntp p n
  | 0 => rfl
  | n + 1 => by
    rw [List.range_succ, List.filter_append, List.length_append, len_filter_range p n, cntp]
    cases h : p n <;> simp [h]

/-- The search's end: the cover is as great as the matching. -/
theorem konig {nL R : Nat} {t : St} (hR : ∀ i, i < nL → ∀ n ∈ G i, 0 ≤ n ∧ n < (R : Int)) (h : Inv G nL t.M t.B) (hb : BfsI G t.M t.B nL t.V [] false) :
    (covL t.V nL).length + (covR G t.V nL R).length = cntp (used t.M) nL := by
  refine Nat.le_antisymm ?_ (weak G (h.mat G) (cov_ok G hR))
  have hcl : ∀ i, i < nL → 0 ≤ t.V i → ∀ n ∈ G i, 0 ≤ t.B n.toNat ∧ 0 ≤ t.V (t.B n.toNat).toNat := fun i hi h0 n hn => by
    rcases hb.closed i hi h0 with h1 | h1
    · cases h1
    · have := h1 n hn; exact ⟨this.1 rfl, this.2 (this.1 rfl)⟩
  -- both lists together, told by their left vertices, lie among the matched ones
  have hcnt : cntp (used t.M) nL = (((List.range nL).filter (used t.M)).map fun i : Nat => (i : Int)).length := by rw [List.length_map, len_filter_range]
  rw [hcnt, ← List.length_map (f := fun n : Int => t.B n.toNat) (as := covR G t.V nL R), ← List.length_append]
  have hBr : ∀ n ∈ covR G t.V nL R, 0 ≤ t.B n.toNat ∧ 0 ≤ t.V (t.B n.toNat).toNat ∧ (t.B n.toNat).toNat < nL ∧ t.M (t.B n.toNat).toNat = n := fun n hn => by
    obtain ⟨k, hk, hr, rfl⟩ := (mem_covR G).1 hn
    obtain ⟨i, hi, h0, hg⟩ := (rch_iff G).1 hr
    have h1 := hcl i hi h0 _ hg
    rw [show ((k : Int)).toNat = k by omega] at h1 ⊢
    have h2 := h.bwd k h1.1
    exact ⟨h1.1, h1.2, h2.1, h2.2⟩
  refine len_sub _ _ (List.nodup_append.2 ⟨nodup_filter_cast _ _, ?_, ?_⟩) fun x hx => ?_
  · refine List.pairwise_map.2 (List.Pairwise.imp_of_mem (R := fun a b : Int => a ≠ b) (fun {a b} ha hb hne e => hne ?_) (nodup_filter_cast _ _))
    have h1 := hBr a ha
    have h2 := hBr b hb
    rw [← h1.2.2.2, ← h2.2.2.2, e]
  · intro a ha b hb' e
    subst e
    obtain ⟨i, hi, hv, rfl⟩ := mem_covL.1 ha
    obtain ⟨n, hn, e⟩ := List.mem_map.1 hb'
    have h1 := hBr n hn
    rw [e, show ((i : Int)).toNat = i by omega] at h1
    omega
  · rw [List.mem_map]
    rcases List.mem_append.1 hx with hx | hx
    · obtain ⟨i, hi, hv, rfl⟩ := mem_covL.1 hx
      refine ⟨i, List.mem_filter.2 ⟨List.mem_range.2 hi, ?_⟩, rfl⟩
      simp only [used, decide_eq_true_eq]
      intro e
      have := (hb.free i hi).2 (by omega)
      omega
    · obtain ⟨n, hn, e⟩ := List.mem_map.1 hx
      have h1 := hBr n hn
      refine ⟨(t.B n.toNat).toNat, List.mem_filter.2 ⟨List.mem_range.2 h1.2.2.1, ?_⟩, by omega⟩
      simp only [used, decide_eq_true_eq]
      rw [h1.2.2.2]
      obtain ⟨k, hk, hr, rfl⟩ := (mem_covR G).1 hn
      omega

/-- The greatest number of edges for the last k left vertices, some right ones being used. -/
def bst (nL : Nat) : Nat → List Int → Nat
  | 0, _ => 0
  | k + 1, us => (G (nL - (k + 1))).foldl (fun n x => if us.contains x then n else max n (1 + bst nL k (us ++ [x]))) (bst nL k us)
theorem foldl_ge {f : Int → Nat} {p : Int → Bool} : ∀ (l : List Int) (a : Nat), a ≤ l.foldl (fun n x => if p x then n else max n (f x)) a
  | [], a => Nat.le_refl a
  | x :: l, a => by
    rw [List.foldl_cons]
    refine Nat.le_trans ?_ (foldl_ge l _)
    split <;> omega
theorem foldl_hit {f : Int → Nat} {p : Int → Bool} : ∀ (l : List Int) (a : Nat) (x : Int), x ∈ l → p x = false → f x ≤ l.foldl (fun n x => if p x then n else max n (f x)) a
  | y :: l, a, x, hx, hp => by
    rw [List.foldl_cons]
    rcases List.mem_cons.1 hx with rfl | hx
    · refine Nat.le_trans ?_ (foldl_ge l _)
      rw [hp]; simp; omega
    · exact foldl_hit l _ x hx hp
theorem foldl_is {f : Int → Nat} {p : Int → Bool} : ∀ (l : List Int) (a : Nat), l.foldl (fun n x => if p x then n else max n (f x)) a = a ∨ ∃ x ∈ l, p x = false ∧ l.foldl (fun n x => if p x then n else max n (f x)) a = f x
  | [], a => .inl rfl
  | x :: l, a => by
    rw [List.foldl_cons]
    rcases foldl_is (f := f) (p := p) l (if p x then a else max a (f x)) with h | ⟨y, hy, hp, h⟩
    · rw [h]
      cases hp : p x with
      | true => left; simp
      | false =>
        rcases Nat.le_total a (f x) with h1 | h1
        · right; exact ⟨x, List.mem_cons_self .., hp, by simp; omega⟩
        · left; simp; omega
    · right; exact ⟨y, List.mem_cons_of_mem _ hy, hp, h⟩
/-- How many of the k places before nL have p. -/
def cntl (nL : Nat) (p : Nat → Bool) : Nat → Nat
  | 0 => 0
  | k + 1 => cntl nL p k + if p (nL - (k + 1)) then 1 else 0
theorem bst_upper (nL : Nat) (m : Nat → Int) (hm : Mat G nL m) : ∀ (k : Nat) (us : List Int), k ≤ nL → (∀ i, nL - k ≤ i → i < nL → m i ≠ -1 → m i ∉ us) → cntl nL (used m) k ≤ bst G nL k us
  | 0, us, _, _ => Nat.le_refl 0
  | k + 1, us, hk, hu => by
    rw [cntl, bst]
    by_cases h : m (nL - (k + 1)) = -1
    · have := bst_upper nL m hm k us (by omega) fun i h1 h2 => hu i (by omega) h2
      simp only [used, h, ne_eq, not_true_eq_false, decide_false, Bool.false_eq_true, if_false, Nat.add_zero]
      exact Nat.le_trans this (foldl_ge _ _)
    · have := bst_upper nL m hm k (us ++ [m (nL - (k + 1))]) (by omega) fun i h1 h2 h3 h4 => by
        rcases List.mem_append.1 h4 with h4 | h4
        · exact hu i (by omega) h2 h3 h4
        · simp only [List.mem_cons, List.not_mem_nil, or_false] at h4
          have := hm.once i (nL - (k + 1)) h2 (by omega) h3 h4; omega
      have h5 := foldl_hit (f := fun x => 1 + bst G nL k (us ++ [x])) (p := fun x => us.contains x) (G (nL - (k + 1))) (bst G nL k us) _ (hm.edge _ (by omega) h) (by simpa using hu _ (by omega) (by omega) h)
      simp only [used, ne_eq, h, not_false_eq_true, decide_true, if_true]
      refine Nat.le_trans ?_ h5
      omega
/-- There is a matching of that size. -/
theorem bst_is (nL : Nat) (hG : Ctx G nL) : ∀ (k : Nat) (us : List Int), k ≤ nL → ∃ m : Nat → Int, (∀ i, i < nL - k → m i = -1) ∧ Mat G nL m ∧ (∀ i, i < nL → m i ≠ -1 → m i ∉ us) ∧ cntl nL (used m) k = bst G nL k us
  | 0, us, _ => ⟨fun _ => -1, fun _ _ => rfl, ⟨fun _ _ h => absurd rfl h, fun _ _ _ _ h => absurd rfl h⟩, fun _ _ h => absurd rfl h, rfl⟩
  | k + 1, us, hk => by
    rw [bst]
    rcases foldl_is (f := fun x => 1 + bst G nL k (us ++ [x])) (p := fun x => us.contains x) (G (nL - (k + 1))) (bst G nL k us) with h | ⟨x, hx, hp, h⟩
    · obtain ⟨m, h1, h2, h3, h4⟩ := bst_is nL hG k us (by omega)
      refine ⟨m, fun i hi => h1 i (by omega), h2, h3, ?_⟩
      rw [h, cntl, h4]
      have := h1 (nL - (k + 1)) (by omega)
      simp [used, this]
    · by_cases hx1 : x = -1
      · -- a vertex -1 does not occur in a valid graph; the matching that leaves it out serves only there
        have := hG.nn _ (by omega) x hx; omega
      · obtain ⟨m, h1, h2, h3, h4⟩ := bst_is nL hG k (us ++ [x]) (by omega)
        refine ⟨up m (nL - (k + 1)) x, fun i hi => ?_, ⟨fun i hi h0 => ?_, fun i j hi hj h0 e => ?_⟩, fun i hi h0 => ?_, ?_⟩
        · rw [up_ne (by omega)]; exact h1 i (by omega)
        · by_cases e : i = nL - (k + 1)
          · subst e; rw [up_self]; exact hx
          · rw [up_ne e] at h0 ⊢; exact h2.edge i hi h0
        · by_cases ei : i = nL - (k + 1)
          · by_cases ej : j = nL - (k + 1)
            · omega
            · rw [ei, up_self, up_ne ej] at e
              exact absurd (by simp [e]) (h3 j hj (by omega))
          · rw [up_ne ei] at h0
            by_cases ej : j = nL - (k + 1)
            · rw [ej, up_self, up_ne ei] at e
              exact absurd (by simp [e]) (h3 i hi h0)
            · rw [up_ne ei, up_ne ej] at e
              exact h2.once i j hi hj h0 e
        · by_cases e : i = nL - (k + 1)
          · subst e; rw [up_self]; simpa using hp
          · rw [up_ne e] at h0 ⊢
            have := h3 i hi h0
            simp at this; exact this.1
        · rw [h, cntl]
          have e1 : ∀ j, j ≤ k → cntl nL (used (up m (nL - (k + 1)) x)) j = cntl nL (used m) j := by
            intro j
            induction j with
            | zero => exact fun _ => rfl
            | succ j ih =>
              intro hj
              rw [cntl, cntl, ih (by omega)]
              rw [show used (up m (nL - (k + 1)) x) (nL - (j + 1)) = used m (nL - (j + 1)) by unfold used; rw [up_ne (by omega)]]
          rw [e1 k (Nat.le_refl _), h4]
          simp [used, up_self, hx1]
          omega
theorem cntl_all (nL : Nat) (p : Nat → Bool) : ∀ k, k ≤ nL → cntp p nL = cntp p (nL - k) + cntl nL p k
  | 0, _ => rfl
  | k + 1, hk => by
    have := cntl_all nL p k (by omega)
    rw [this, cntl]
    have e : nL - k = (nL - (k + 1)) + 1 := by omega
    rw [e, cntp]; omega
theorem cntl_full (nL : Nat) (p : Nat → Bool) : cntl nL p nL = cntp p nL := by
  have := cntl_all nL p nL (Nat.le_refl _)
  rw [Nat.sub_self] at this
  rw [this, cntp]; omega

end Go.Proofs.Ytjiknjcmfiapjaa

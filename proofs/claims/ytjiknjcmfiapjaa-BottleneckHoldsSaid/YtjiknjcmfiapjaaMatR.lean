
/- Matchings: phases, and the search as a whole; plain. Conditions stand in each theorem. -/
import Derived.Test.YtjiknjcmfiapjaaMatA
namespace Go.Proofs.Ytjiknjcmfiapjaa
set_option linter.unusedVariables false

variable (G : Nat → List Int)

def phase (F : Nat) : List Nat → St → Option St
  | [], s => some s
  | i :: is, s => if s.M i < 0 then (match aug G F s i with
    | none => none
    | some (t, _) => phase F is t) else phase F is s
/-- The free ones have level 0. -/
def lv0 (M : Nat → Int) : Nat → Int := fun i => if M i < 0 then 0 else -1
def q0 (M : Nat → Int) (n : Nat) : List Nat := (List.range n).filter fun i => decide (M i < 0)
def runM (nL : Nat) : Nat → St → Option St
  | 0, _ => none
  | f + 1, s => match bfs G s.B nL (lv0 s.M) (q0 s.M nL) false with
    | none => none
    | some (V, true) => (match phase G (nL + 1) (List.range nL) ⟨s.M, s.B, V⟩ with
      | none => none
      | some t => runM nL f t)
    | some (V, false) => some ⟨s.M, s.B, V⟩
def free (M : Nat → Int) (k : Nat) : Bool := decide (M k < 0)

/-- While a phase goes on: nothing has been found, or there are fewer free ones. -/
structure PhI (nL : Nat) (M B V : Nat → Int) (is : List Nat) (s : St) : Prop where
  inv : Inv G nL s.M s.B
  lowV : ∀ k, -1 ≤ s.V k
  or : cntp (free s.M) nL < cntp (free M) nL ∨ (s.M = M ∧ s.B = B ∧ (∀ k, s.V k = V k ∨ s.V k = -1) ∧
    (∀ v, v < nL → 0 ≤ V v → s.V v = -1 → ∀ n ∈ G v, 0 ≤ B n.toNat ∧ (V (B n.toNat).toNat = V v + 1 → s.V (B n.toNat).toNat = -1)) ∧ ∀ i, i < nL → M i < 0 → i ∉ is → s.V i = -1)

theorem phase_spec (nL : Nat) (hG : Ctx G nL) (M B V : Nat → Int) : ∀ (is : List Nat), (∀ i ∈ is, i < nL) → ∀ s, PhI G nL M B V is s → ∃ t, phase G (nL + 1) is s = some t ∧ PhI G nL M B V [] t
  | [], _, s, h => ⟨s, rfl, h⟩
  | i :: is, his, s, h => by
    have hi := his i (List.mem_cons_self ..)
    have his' : ∀ i ∈ is, i < nL := fun j hj => his j (List.mem_cons_of_mem _ hj)
    rw [phase]
    by_cases hf : s.M i < 0
    · rw [if_pos hf]
      obtain ⟨t, b, e, hp⟩ := aug_spec G nL hG (nL + 1) s i hi h.inv h.lowV (by have := cntp_le (lps (up s.V i (-1))) nL; omega)
      rw [e]
      dsimp only
      refine phase_spec nL hG M B V is his' t ?_
      cases b with
      | true =>
        have K := hp.2 rfl
        refine ⟨⟨K.fwd, fun n h0 => ?_, K.lowM, K.lowB⟩, fun k => ?_, ?_⟩
        · have hb := K.bwd n h0
          refine ⟨hb.1, ?_⟩
          rcases hb.2 with h1 | h1
          · exact h1
          · omega
        · have := h.lowV k
          rcases K.V k with h1 | h1 <;> omega
        · have h1 : cntp (free t.M) nL < cntp (free s.M) nL := by
            refine cntp_lt nL (fun k hk hp => ?_) ⟨i, hi, by simp [free]; exact K.got, by simp [free, hf]⟩
            simp only [free, decide_eq_true_eq] at hp ⊢
            by_cases e : k = i
            · subst e; exact hf
            · have := K.same k e; omega
          rcases h.or with h2 | h2
          · exact .inl (by omega)
          · left; rw [h2.1] at h1; exact h1
      | false =>
        have F := hp.1 rfl
        refine ⟨by rw [F.M, F.B]; exact h.inv, fun k => ?_, ?_⟩
        · have := h.lowV k
          rcases F.V k with h1 | h1 <;> omega
        · rcases h.or with h2 | ⟨hM, hB, hV, hc, hs⟩
          · left; rw [F.M]; exact h2
          · right
            refine ⟨by rw [F.M, hM], by rw [F.B, hB], fun k => ?_, fun v hv h0 h1 n hn => ?_, fun j hj hfr hjn => ?_⟩
            · rcases F.V k with h1 | h1
              · rw [h1]; exact hV k
              · exact .inr h1
            · by_cases h3 : 0 ≤ s.V v
              · have hc2 := F.closed v hv h3 h1 n hn
                rw [hB] at hc2
                refine ⟨hc2.1, fun h4 => ?_⟩
                have hVv : s.V v = V v := by rcases hV v with h | h <;> omega
                rcases hV (B n.toNat).toNat with h5 | h5
                · exact hc2.2 (by rw [h5, h4, hVv])
                · rcases F.V (B n.toNat).toNat with h6 | h6
                  · rw [h6]; exact h5
                  · exact h6
              · have h4 : s.V v = -1 := by have := h.lowV v; omega
                have hc2 := hc v hv h0 h4 n hn
                refine ⟨hc2.1, fun h5 => ?_⟩
                rcases F.V (B n.toNat).toNat with h6 | h6
                · rw [h6]; exact hc2.2 h5
                · exact h6
            · by_cases ej : j = i
              · subst ej; exact F.self
              · have h3 := hs j hj hfr (by simp [ej, hjn])
                rcases F.V j with h6 | h6
                · rw [h6]; exact h3
                · exact h6
    · rw [if_neg hf]
      refine phase_spec nL hG M B V is his' s ⟨h.inv, h.lowV, ?_⟩
      rcases h.or with h2 | ⟨hM, hB, hV, hc, hs⟩
      · exact .inl h2
      · refine .inr ⟨hM, hB, hV, hc, fun j hj hfr hjn => ?_⟩
        have : j ≠ i := fun e => by subst e; rw [hM] at hf; exact hf hfr
        exact hs j hj hfr (by simp [this, hjn])

theorem q0_len (M : Nat → Int) : ∀ n, (q0 M n).length = cntp (free M) n
  | 0 => rfl
  | n + 1 => by
    have := q0_len M n
    unfold q0 at this ⊢
    rw [List.range_succ, List.filter_append, List.length_append, this, cntp]
    by_cases h : M n < 0 <;> simp [free, h]
theorem q0_snoc (M : Nat → Int) (n : Nat) : q0 M (n + 1) = if M n < 0 then q0 M n ++ [n] else q0 M n := by
  unfold q0
  rw [List.range_succ, List.filter_append]
  by_cases h : M n < 0 <;> simp [h]
theorem lv0_cnt (M : Nat → Int) : ∀ n, cntp (lng (lv0 M)) n + cntp (free M) n = n
  | 0 => rfl
  | n + 1 => by
    have := lv0_cnt M n
    rw [cntp, cntp]
    by_cases h : M n < 0 <;> simp [lng, lv0, free, h] <;> omega
theorem lv0_ok {nL : Nat} {M B : Nat → Int} (hInv : Inv G nL M B) : BfsI G M B nL (lv0 M) (q0 M nL) false :=
  ⟨fun k => by unfold lv0; split <;> omega, fun x hx => by
    simp only [q0, List.mem_filter, List.mem_range, decide_eq_true_eq] at hx
    exact ⟨hx.1, by simp [lv0, hx.2]⟩, fun i hi h0 => by
    left
    unfold lv0 at h0
    by_cases h : M i < 0
    · simp [q0, hi, h]
    · rw [if_neg h] at h0; omega, fun i hi h0 => by
    unfold lv0 at h0; split at h0 <;> omega, fun i hi => by
    unfold lv0; split <;> constructor <;> intro <;> omega, fun h => by cases h⟩

theorem runM_spec (nL : Nat) (hG : Ctx G nL) : ∀ (f : Nat) (s : St), Inv G nL s.M s.B → cntp (free s.M) nL < f → ∃ t, runM G nL f s = some t ∧ Inv G nL t.M t.B ∧ BfsI G t.M t.B nL t.V [] false
  | 0, _, _, h => by omega
  | f + 1, s, hInv, hf => by
    rw [runM]
    obtain ⟨V, r, e, hb⟩ := bfs_spec G s.M s.B nL (fun i hi n hn h0 => (hInv.bwd n.toNat h0).1) (fun i hi n hn h0 => by
      have := (hInv.bwd n.toNat h0).2; omega) nL (lv0 s.M) (q0 s.M nL) false (lv0_ok G hInv) (by rw [q0_len, lv0_cnt]; exact Nat.le_refl _)
    rw [e]
    cases r with
    | false => exact ⟨_, rfl, hInv, hb⟩
    | true =>
      dsimp only
      obtain ⟨t, e2, ht⟩ := phase_spec G nL hG s.M s.B V (List.range nL) (fun i hi => List.mem_range.1 hi) ⟨s.M, s.B, V⟩ ⟨hInv, hb.low, .inr ⟨rfl, rfl, fun _ => .inl rfl, fun v hv h0 h1 => by dsimp only at h1; omega, fun i hi _ hn => absurd (List.mem_range.2 hi) hn⟩⟩
      rw [e2]
      dsimp only
      refine runM_spec nL hG f t ht.inv ?_
      rcases ht.or with h | ⟨hM, hB, hV, hc, hs⟩
      · omega
      · exfalso
        have hall : ∀ (l : Nat) v, v < nL → V v = (l : Int) → t.V v = -1 := by
          intro l
          induction l with
          | zero => exact fun v hv h0 => hs v hv ((hb.free v hv).1 (by omega)) (by simp)
          | succ l ih =>
            intro v hv h0
            obtain ⟨j, hj, e3, n, hn, e4⟩ := hb.pred v hv (by omega)
            have := (hc j hj (by omega) (ih j hj (by omega)) n hn).2
            rw [e4] at this
            exact this (by rw [show ((v : Int)).toNat = v by omega]; omega)
        obtain ⟨v, hv, h0, n, hn, h1⟩ := hb.yes rfl
        have := (hc v hv h0 (hall (V v).toNat v hv (by omega)) n hn).1
        omega

end Go.Proofs.Ytjiknjcmfiapjaa

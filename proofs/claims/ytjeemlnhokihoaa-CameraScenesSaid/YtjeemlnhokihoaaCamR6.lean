/- The plain law of the reference's scene: a list of spots into which one more is put at its place. Conditions stand in each theorem. -/
import Derived.Test.YtjeemlnhokihoaaCamV2
namespace Go.Proofs.Ytjeemlnhokihoaa
open Go.RowKit
set_option linter.unusedVariables false
set_option linter.unusedSimpArgs false

/-- One more is put in at this place. -/
def insAt (R : List Sp) (j : Nat) (s : Sp) : List Sp := R.take j ++ s :: R.drop j
theorem insAt_len {R : List Sp} {j : Nat} (s : Sp) : (insAt R j s).length = R.length + 1 := by
  simp [insAt]; omega
theorem insAt_mem {R : List Sp} {j : Nat} {s x : Sp} : x ∈ insAt R j s ↔ x ∈ R ∨ x = s := by
  unfold insAt
  have h : x ∈ R ↔ x ∈ R.take j ∨ x ∈ R.drop j := by rw [← List.mem_append, List.take_append_drop]
  rw [List.mem_append, List.mem_cons, h]
  constructor
  · rintro (h | h | h)
    · exact .inl (.inl h)
    · exact .inr h
    · exact .inl (.inr h)
  · rintro ((h | h) | h)
    · exact .inl h
    · exact .inr (.inr h)
    · exact .inr (.inl h)
theorem insAt_srt {R : List Sp} {j : Nat} {s : Sp} (hs : R.Pairwise lts) (hj : j ≤ R.length) (hix : ∀ x ∈ R, x.ix < s.ix) (hi : ∀ i, j ≤ i → i < R.length → (sfn R i).d < s.d) (lo : j = 0 ∨ s.d ≤ (sfn R (j - 1)).d) : (insAt R j s).Pairwise lts := by
  have hp := hs
  rw [← List.take_append_drop j R, List.pairwise_append] at hp
  obtain ⟨h1, h2, h3⟩ := hp
  have G := List.pairwise_iff_getElem.1 hs
  have lo' : ∀ x ∈ R.take j, lts x s := fun x hx => by
    have hxR := List.mem_of_mem_take hx
    have h5 := hix x hxR
    obtain ⟨i, hi', e⟩ := List.mem_iff_getElem.1 hx
    rw [List.length_take] at hi'
    rw [List.getElem_take] at e
    rcases lo with e0 | lo
    · omega
    · rw [sfn_at (show j - 1 < R.length by omega)] at lo
      have h6 : R[j - 1].d ≤ x.d := by
        by_cases e1 : i = j - 1
        · subst e1; rw [← e]; omega
        · have := G i (j - 1) (by omega) (by omega) (by omega)
          rw [e] at this
          unfold lts at this; omega
      unfold lts; omega
  have hi' : ∀ x ∈ R.drop j, lts s x := fun x hx => by
    obtain ⟨i, hi', e⟩ := List.mem_iff_getElem.1 hx
    rw [List.length_drop] at hi'
    rw [List.getElem_drop] at e
    have := hi (j + i) (by omega) (by omega)
    rw [sfn_at (by omega), e] at this
    unfold lts; omega
  rw [insAt, List.pairwise_append]
  refine ⟨h1, List.pairwise_cons.2 ⟨hi', h2⟩, fun x hx y hy => ?_⟩
  rcases List.mem_cons.1 hy with e | hy
  · rw [e]; exact lo' x hx
  · exact h3 x hx y hy

/-- The cells of a list of spots. -/
def cs5 (s : Sp) : List Value := [.int .i64 s.ix, .int .i64 s.x, .int .i64 s.y, .int .i64 s.r, .int .i64 s.d]
def csl (L : List Sp) : List Value := L.flatMap cs5
theorem csl_app (A B : List Sp) : csl (A ++ B) = csl A ++ csl B := by simp [csl]
theorem csl_len : ∀ L : List Sp, (csl L).length = L.length * 5
  | [] => rfl
  | s :: L => by
    have := csl_len L
    simp only [csl, List.flatMap_cons, List.length_append, List.length_cons] at this ⊢
    simp only [cs5, List.length_cons, List.length_nil]; omega
theorem csl_one : ∀ L : List Sp, ∀ u ∈ csl L, u.oneCell' = true := fun L u hu => by
  simp only [csl, List.mem_flatMap] at hu
  obtain ⟨s, _, hs⟩ := hu
  simp only [cs5, List.mem_cons, List.not_mem_nil, or_false] at hs
  rcases hs with rfl | rfl | rfl | rfl | rfl <;> rfl
theorem row_csl : ∀ (n : Nat) (L : List Sp), L.length = n → rowS (sfn L) n = csl L
  | 0, L, h => by
    rw [List.length_eq_zero_iff.1 h]; rfl
  | n + 1, L, h => by
    have hne : L ≠ [] := by intro e; rw [e] at h; simp at h
    have e := List.dropLast_concat_getLast hne
    have hl : L.dropLast.length = n := by simp [h]
    have := row_csl n L.dropLast hl
    rw [← e]
    generalize L.dropLast = M at *
    generalize L.getLast hne = s at *
    subst hl
    rw [rowS_snoc, this, csl_app]; simp [csl, cs5]

/-- The row that the reference builds: sorted, with these members. -/
structure RefL (R L : List Sp) : Prop where
  srt : R.Pairwise lts
  mem : ∀ x, x ∈ R ↔ x ∈ L
theorem RefL.nil : RefL [] [] := ⟨List.Pairwise.nil, fun x => Iff.rfl⟩
theorem RefL.put {R L : List Sp} {j : Nat} {s : Sp} (H : RefL R L) (hj : j ≤ R.length) (hix : ∀ x ∈ L, x.ix < s.ix) (hi : ∀ i, j ≤ i → i < R.length → (sfn R i).d < s.d) (lo : j = 0 ∨ s.d ≤ (sfn R (j - 1)).d) : RefL (insAt R j s) (L ++ [s]) := by
  refine ⟨insAt_srt H.srt hj (fun x hx => hix x ((H.mem x).1 hx)) hi lo, fun x => ?_⟩
  rw [insAt_mem, List.mem_append, H.mem]; simp
/-- Both sides have the same rows. -/
theorem both_rows {L R : List Sp} {f : Nat → Sp} (M : Mrg (sfn L) 0 L.length f) (H : RefL R L) : R.length = L.length ∧ ∀ i, i < L.length → sfn R i = f i := by
  have e := els_is M H.srt H.mem
  have hl : R.length = L.length := by rw [← e, els_len]
  refine ⟨hl, fun i hi => ?_⟩
  rw [sfn_at (by omega)]
  simp only [← e, els, List.getElem_map, List.getElem_range]

end Go.Proofs.Ytjeemlnhokihoaa

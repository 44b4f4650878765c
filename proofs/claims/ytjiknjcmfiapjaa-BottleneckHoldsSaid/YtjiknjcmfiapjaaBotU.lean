
/- Walks: whether a proof proves that an assignment is best: the reference joined, and the program. Conditions stand in each theorem. -/
import Derived.Test.YtjiknjcmfiapjaaBotJ
namespace Go.Proofs.Ytjiknjcmfiapjaa
open Go.RowKit
set_option linter.unusedVariables false
set_option linter.unusedSimpArgs false

theorem rProves_any (A Lo Al Ar Au Av : Option Addr) (n cap no co kl cl0 kr cr0 ku cu kv cv : Nat) (G : Nat → List Int) (of cl cr u v : List Int) (g s : Int) (w : World) (hG : GRow w A n G) (hC : Cst G n) (hA : AP w Lo Al Ar Au Av no co kl kr ku kv of cl cr u v) :
    Calls Try.prog 12 #[.slice A n cap, .agg #[.slice Lo no co, .int .i64 g, .int .i64 s], .agg #[.slice Al kl cl0, .slice Ar kr cr0, .slice Au ku cu, .slice Av kv cv]] w (RetB (.bool (prvA G n of g s cl cr u v)) w) := by
  cases h1 : pr1 n of u v with
  | false => rw [prvA_1 h1]; exact rProves_1 A Lo Al Ar Au Av n cap no co kl cl0 kr cr0 ku cu kv cv G of cl cr u v g s w hG hC hA h1
  | true =>
    cases h2 : pr2 G n of g s with
    | false => rw [prvA_2 h2]; exact rProves_2 A Lo Al Ar Au Av n cap no co kl cl0 kr cr0 ku cu kv cv G of cl cr u v g s w hG hC hA h1 h2
    | true =>
      have e := h1
      simp only [pr1, Bool.and_eq_true, decide_eq_true_eq] at e
      obtain ⟨⟨hb, hu⟩, hv⟩ := e
      have e2 := h2
      simp only [pr2, Bool.and_eq_true, decide_eq_true_eq] at e2
      obtain rfl : no = n := hA.eno.trans (colsB_iff.1 hb).2
      obtain rfl : no = ku := (hA.eku.trans hu).symm
      obtain rfl : no = kv := (hA.ekv.trans hv).symm
      have e3 : prvA G no of g s cl cr u v = (pr3 G no g cl cr && pr4 G no g s u v) := by simp [prvA, h1, h2]
      rw [e3]
      exact rProves_3 A Lo Al Ar Au Av no cap co kl cl0 kr cr0 cu cv G of cl cr u v g s w hG hC hA hb e2.1 e2.2

/-- What is false in a part. -/
theorem prv_no {G : Nat → List Int} {n : Nat} {of cl cr u v : List Int} {g s : Int} (h : ¬ (colsB of n = true ∧ mstC G of n = g ∧ sumC G of n = s ∧ u.length = n ∧ v.length = n ∧ inc cl n = true ∧ inc cr n = true ∧ cl.length + cr.length < n)) : prvA G n of g s cl cr u v = false := by
  rw [← Bool.not_eq_true]
  intro e
  simp only [prvA, pr1, pr2, pr3, covB, Bool.and_eq_true, decide_eq_true_eq] at e
  obtain ⟨⟨⟨⟨⟨h1, h2⟩, h3⟩, h4, h5⟩, ⟨⟨h6, h7⟩, h8⟩, h9⟩, _⟩ := e
  exact h ⟨h1, h4, h5, h2, h3, h6, h7, h9⟩
/-- The pair keeps to the cover. -/
def cvA (G : Nat → List Int) (g : Int) (cl cr : List Int) (i k : Nat) : Bool := !decide (cst G i k < g) || (hs cl (i : Int) || hs cr (k : Int))
theorem prv_yes {G : Nat → List Int} {n : Nat} {of cl cr u v : List Int} {g s : Int} (h1 : colsB of n = true) (h2 : mstC G of n = g) (h3 : sumC G of n = s) (h4 : u.length = n) (h5 : v.length = n) (h6 : inc cl n = true) (h7 : inc cr n = true) (h8 : cl.length + cr.length < n)
    (h9 : ∀ k, k < n → ptB u v k = true) (h10 : smU u v n = s) (h11 : ∀ i, i < n → ∀ k, k < n → cvA G g cl cr i k = true ∧ feA G g u v i k = true) : prvA G n of g s cl cr u v = true := by
  have e1 : pr1 n of u v = true := by simp [pr1, h1, h4, h5]
  have e2 : pr2 G n of g s = true := by simp [pr2, h2, h3]
  have e3 : pr3 G n g cl cr = true := by
    simp only [pr3, covB, h6, h7, Bool.true_and, Bool.and_eq_true, decide_eq_true_eq, List.all_eq_true, List.mem_range]
    refine ⟨fun i hi x hx => ?_, h8⟩
    obtain ⟨k, hk, hp, rfl⟩ := mem_nums.1 hx
    have := (h11 i hi k hk).1
    simp only [cvA, hs] at this
    simp only [decide_eq_true_eq] at hp
    simpa [hp] using this
  rw [prvA_all e1 e2 e3, pr4_end h9 fun i hi k hk => (h11 i hi k hk).2]
  simpa using h10
theorem prv_pt {G : Nat → List Int} {n k : Nat} {of cl cr u v : List Int} {g s : Int} (hk : k < n) (h : ptB u v k = false) : prvA G n of g s cl cr u v = false := prvA_4 (pr4_pt hk h)
theorem prv_sm {G : Nat → List Int} {n : Nat} {of cl cr u v : List Int} {g s : Int} (h : smU u v n ≠ s) : prvA G n of g s cl cr u v = false := prvA_4 (by simp [pr4, h])
theorem prv_fe {G : Nat → List Int} {n i k : Nat} {of cl cr u v : List Int} {g s : Int} (hi : i < n) (hk : k < n) (h : feA G g u v i k = false) : prvA G n of g s cl cr u v = false := prvA_4 (pr4_fe hi hk h)
theorem prv_cv {G : Nat → List Int} {n i k : Nat} {of cl cr u v : List Int} {g s : Int} (hi : i < n) (hk : k < n) (h : cvA G g cl cr i k = false) : prvA G n of g s cl cr u v = false := by
  refine prvA_3 ?_
  rw [← Bool.not_eq_true]
  intro e
  simp only [pr3, covB, Bool.and_eq_true, decide_eq_true_eq, List.all_eq_true, List.mem_range] at e
  simp only [cvA, Bool.or_eq_false_iff, Bool.not_eq_false'] at h
  have := e.1.2 i hi (k : Int) (mem_nums.2 ⟨k, hk, h.1, rfl⟩)
  simp only [hs] at h
  rw [h.2.1, h.2.2] at this
  cases this
end Go.Proofs.Ytjiknjcmfiapjaa

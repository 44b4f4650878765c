/- Walks of the functions of vectors, by the program: the point between two vectors, the turn of three. Conditions stand in each theorem. -/
import Derived.Test.YtjgfobknifobhaaVecW2
namespace Go.Proofs.Ytjgfobknifobhaa
open Go.RowKit
set_option linter.unusedVariables false

set_option maxHeartbeats 800000 in
theorem Between_ok (a b c x y z num den : Int) (w : World) (ha : vok a b c = true) (hx : vok x y z = true) (hr : ratio num den = true) :
    Calls Try.prog 26 #[.agg #[.int .i64 a, .int .i64 b, .int .i64 c], .agg #[.int .i64 x, .int .i64 y, .int .i64 z], .int .i64 num, .int .i64 den] w (RetB (.tuple #[.agg #[.int .i64 (mid a x num den), .int .i64 (mid b y num den), .int .i64 (mid c z num den)], .int .i64 0]) w) := by
  obtain ⟨r1, r2, r3, r4⟩ := ratio_iff.1 hr
  go_enter Try.func26, Try.ntmps26
  go_wp2_with (first
    | (go_at_call 33; refine (RetB.grown (valid_any _ _ _ _)).mono ?_; rintro e' w' ⟨rfl, g, rfl⟩)
    | (go_at_call 39; refine (RetB.grown (join_mid a b c x y z num den _ _ _ (by go_simp) (by go_simp) ha hx hr)).mono ?_; rintro e' w' ⟨rfl, g, rfl⟩)
    | (refine wp_region_xt (by kernel_rfl) (by kernel_rfl) ?_; (repeat (go_big_quiet_step (first | (go_at_call 33; exact RetB.quiet (valid_any _ _ _ _)) | (go_at_call 39; exact RetB.quiet (join_mid a b c x y z num den _ _ _ (by go_simp) (by go_simp) ha hx hr))))); refine wpQuiet_nil ?_; intro g))
  refine bodyPost_ret (v := .tuple #[.agg #[.int .i64 (mid a x num den), .int .i64 (mid b y num den), .int .i64 (mid c z num den)], .int .i64 0]) (by simp [results, Try.results26, go_sem]) rfl ?_
  exact RetB.of rfl (by repeat' (first | exact Below.refl _ _ | assumption | refine Below.xt ?_ ?_ _ | refine Below.alloc ?_ ?_ _ | refine Below.drew ?_ | refine Below.setCell ?_ ?_ _ | (simp; done) | (simp; omega)))

set_option maxHeartbeats 800000 in
theorem Between_bad (a b c x y z num den : Int) (w : World) (h : vok a b c = false ∨ vok x y z = false ∨ ratio num den = false) :
    Calls Try.prog 26 #[.agg #[.int .i64 a, .int .i64 b, .int .i64 c], .agg #[.int .i64 x, .int .i64 y, .int .i64 z], .int .i64 num, .int .i64 den] w (RetB (.tuple #[.agg #[.int .i64 0, .int .i64 0, .int .i64 0], .int .i64 2]) w) := by
  by_cases ha : vok a b c = true
  · by_cases hx : vok x y z = true
    · have hr : ¬ (1 ≤ den ∧ den ≤ 4294967296 ∧ 0 ≤ num ∧ num ≤ den) := by
        rw [← ratio_iff]; rcases h with h | h | h <;> simp_all
      clear h
      go_enter Try.func26, Try.ntmps26
      go_wp2_with (first
        | (go_at_call 33; refine (RetB.grown (valid_any _ _ _ _)).mono ?_; rintro e' w' ⟨rfl, g, rfl⟩)
        | (refine wp_region_xt (by kernel_rfl) (by kernel_rfl) ?_; (repeat (go_big_quiet_step (first | (go_at_call 33; exact RetB.quiet (valid_any _ _ _ _))))); refine wpQuiet_nil ?_; intro g))
      all_goals first | (exfalso; omega) | skip
      all_goals
        refine bodyPost_ret (v := .tuple #[.agg #[.int .i64 0, .int .i64 0, .int .i64 0], .int .i64 2]) (by simp [results, Try.results26, go_sem]) rfl ?_
        exact RetB.of rfl (by repeat' (first | exact Below.refl _ _ | assumption | refine Below.xt ?_ ?_ _ | refine Below.alloc ?_ ?_ _ | refine Below.drew ?_ | refine Below.setCell ?_ ?_ _ | (simp; done) | (simp; omega)))
    · have hx' : vok x y z = false := by simpa using hx
      clear h hx
      go_enter Try.func26, Try.ntmps26
      go_wp2_with (first
        | (go_at_call 33; refine (RetB.grown (valid_any _ _ _ _)).mono ?_; rintro e' w' ⟨rfl, g, rfl⟩)
        | (refine wp_region_xt (by kernel_rfl) (by kernel_rfl) ?_; (repeat (go_big_quiet_step (first | (go_at_call 33; exact RetB.quiet (valid_any _ _ _ _))))); refine wpQuiet_nil ?_; intro g))
      refine bodyPost_ret (v := .tuple #[.agg #[.int .i64 0, .int .i64 0, .int .i64 0], .int .i64 2]) (by simp [results, Try.results26, go_sem]) rfl ?_
      exact RetB.of rfl (by repeat' (first | exact Below.refl _ _ | assumption | refine Below.xt ?_ ?_ _ | refine Below.alloc ?_ ?_ _ | refine Below.drew ?_ | refine Below.setCell ?_ ?_ _ | (simp; done) | (simp; omega)))
  · have hx' : vok a b c = false := by simpa using ha
    clear h ha
    go_enter Try.func26, Try.ntmps26
    go_wp2_with (first
      | (go_at_call 33; refine (RetB.grown (valid_any _ _ _ _)).mono ?_; rintro e' w' ⟨rfl, g, rfl⟩)
      | (refine wp_region_xt (by kernel_rfl) (by kernel_rfl) ?_; (repeat (go_big_quiet_step (first | (go_at_call 33; exact RetB.quiet (valid_any _ _ _ _))))); refine wpQuiet_nil ?_; intro g))
    refine bodyPost_ret (v := .tuple #[.agg #[.int .i64 0, .int .i64 0, .int .i64 0], .int .i64 2]) (by simp [results, Try.results26, go_sem]) rfl ?_
    exact RetB.of rfl (by repeat' (first | exact Below.refl _ _ | assumption | refine Below.xt ?_ ?_ _ | refine Below.alloc ?_ ?_ _ | refine Below.drew ?_ | refine Below.setCell ?_ ?_ _ | (simp; done) | (simp; omega)))

set_option maxHeartbeats 400000 in
theorem sign_any (n : Int) (w : World) : Calls Try.prog 52 #[.int .i64 n] w (Ret (.int .i64 (sgn n)) w) := by
  go_enter Try.func52, Try.ntmps52
  go_wp2
  all_goals go_ret
  all_goals refine Ret.of (int_eq ?_)
  all_goals
    unfold sgn
    repeat' split
    all_goals omega

set_option maxHeartbeats 800000 in
theorem Turn_ok (a b c x y z p q r : Int) (w : World) (ha : vok a b c = true) (hx : vok x y z = true) (hp : vok p q r = true) :
    Calls Try.prog 28 #[.agg #[.int .i64 a, .int .i64 b, .int .i64 c], .agg #[.int .i64 x, .int .i64 y, .int .i64 z], .agg #[.int .i64 p, .int .i64 q, .int .i64 r]] w (RetB (.tuple #[.int .i64 (sgn (turn2 a b x y p q)), .int .i64 0]) w) := by
  obtain ⟨⟨a1, a2⟩, ⟨b1, b2⟩, c1, c2⟩ := vok_iff.1 ha
  obtain ⟨⟨x1, x2⟩, ⟨y1, y2⟩, z1, z2⟩ := vok_iff.1 hx
  obtain ⟨⟨p1, p2⟩, ⟨q1, q2⟩, r1, r2⟩ := vok_iff.1 hp
  obtain ⟨m1, m2⟩ := prod2_le (a := x - a) (b := q - b) (by omega) (by omega)
  obtain ⟨m3, m4⟩ := prod2_le (a := y - b) (b := p - a) (by omega) (by omega)
  unfold turn2
  go_enter Try.func28, Try.ntmps28
  go_wp2_with (first
    | (go_at_call 33; refine (RetB.grown (valid_any _ _ _ _)).mono ?_; rintro e' w' ⟨rfl, g, rfl⟩)
    | (go_at_call 52; refine (sign_any _ _).mono ?_; rintro e' w' ⟨rfl, rfl⟩)
    | (refine wp_region_xt (by kernel_rfl) (by kernel_rfl) ?_; (repeat (go_big_quiet_step (first | (go_at_call 33; exact RetB.quiet (valid_any _ _ _ _)) | (go_at_call 52; exact Ret.quiet (sign_any _ _))))); refine wpQuiet_nil ?_; intro g))
  go_ret2
  exact RetB.of rfl (by repeat' (first | exact Below.refl _ _ | assumption | refine Below.xt ?_ ?_ _ | refine Below.alloc ?_ ?_ _ | refine Below.drew ?_ | refine Below.setCell ?_ ?_ _ | (simp; done) | (simp; omega)))

set_option maxHeartbeats 800000 in
theorem Turn_bad (a b c x y z p q r : Int) (w : World) (h : vok a b c = false ∨ vok x y z = false ∨ vok p q r = false) :
    Calls Try.prog 28 #[.agg #[.int .i64 a, .int .i64 b, .int .i64 c], .agg #[.int .i64 x, .int .i64 y, .int .i64 z], .agg #[.int .i64 p, .int .i64 q, .int .i64 r]] w (RetB (.tuple #[.int .i64 0, .int .i64 2]) w) := by
  by_cases ha : vok a b c = true
  · by_cases hx : vok x y z = true
    · have hr : vok p q r = false := by rcases h with h | h | h <;> simp_all
      clear h
      go_enter Try.func28, Try.ntmps28
      go_wp2_with (first
        | (go_at_call 33; refine (RetB.grown (valid_any _ _ _ _)).mono ?_; rintro e' w' ⟨rfl, g, rfl⟩)
        | (refine wp_region_xt (by kernel_rfl) (by kernel_rfl) ?_; (repeat (go_big_quiet_step (first | (go_at_call 33; exact RetB.quiet (valid_any _ _ _ _))))); refine wpQuiet_nil ?_; intro g))
      go_ret2
      exact RetB.of rfl (by repeat' (first | exact Below.refl _ _ | assumption | refine Below.xt ?_ ?_ _ | refine Below.alloc ?_ ?_ _ | refine Below.drew ?_ | refine Below.setCell ?_ ?_ _ | (simp; done) | (simp; omega)))
    · have hx' : vok x y z = false := by simpa using hx
      clear h hx
      go_enter Try.func28, Try.ntmps28
      go_wp2_with (first
        | (go_at_call 33; refine (RetB.grown (valid_any _ _ _ _)).mono ?_; rintro e' w' ⟨rfl, g, rfl⟩)
        | (refine wp_region_xt (by kernel_rfl) (by kernel_rfl) ?_; (repeat (go_big_quiet_step (first | (go_at_call 33; exact RetB.quiet (valid_any _ _ _ _))))); refine wpQuiet_nil ?_; intro g))
      go_ret2
      exact RetB.of rfl (by repeat' (first | exact Below.refl _ _ | assumption | refine Below.xt ?_ ?_ _ | refine Below.alloc ?_ ?_ _ | refine Below.drew ?_ | refine Below.setCell ?_ ?_ _ | (simp; done) | (simp; omega)))
  · have hx' : vok a b c = false := by simpa using ha
    clear h ha
    go_enter Try.func28, Try.ntmps28
    go_wp2_with (first
      | (go_at_call 33; refine (RetB.grown (valid_any _ _ _ _)).mono ?_; rintro e' w' ⟨rfl, g, rfl⟩)
      | (refine wp_region_xt (by kernel_rfl) (by kernel_rfl) ?_; (repeat (go_big_quiet_step (first | (go_at_call 33; exact RetB.quiet (valid_any _ _ _ _))))); refine wpQuiet_nil ?_; intro g))
    go_ret2
    exact RetB.of rfl (by repeat' (first | exact Below.refl _ _ | assumption | refine Below.xt ?_ ?_ _ | refine Below.alloc ?_ ?_ _ | refine Below.drew ?_ | refine Below.setCell ?_ ?_ _ | (simp; done) | (simp; omega)))

end Go.Proofs.Ytjgfobknifobhaa

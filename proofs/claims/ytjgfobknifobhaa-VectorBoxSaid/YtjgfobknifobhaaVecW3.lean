/- Walks of the functions of vectors, by the program: products with a number, scalar and vector products. Conditions stand in each theorem. -/
import Derived.Test.YtjgfobknifobhaaVecW2
namespace Go.Proofs.Ytjgfobknifobhaa
open Go.RowKit
set_option linter.unusedVariables false

def scE (a b c n : Int) : Int := if a = 0 ∧ b = 0 ∧ c = 0 then 0 else if within n (-16777216) 16777216 then outE (a * n) (b * n) (c * n) else 3
def scP (a b c n t : Int) : Int := if a = 0 ∧ b = 0 ∧ c = 0 then 0 else if within n (-16777216) 16777216 then outP (a * n) (b * n) (c * n) t else 0

set_option maxHeartbeats 400000 in
theorem Scale_bad (a b c n : Int) (w : World) (h : vok a b c = false) : Calls Try.prog 12 #[.agg #[.int .i64 a, .int .i64 b, .int .i64 c], .int .i64 n] w (RetB (.tuple #[.agg #[.int .i64 0, .int .i64 0, .int .i64 0], .int .i64 2]) w) := by
  go_enter Try.func12, Try.ntmps12
  go_wp2_with (first
    | (go_at_call 33; refine (RetB.grown (valid_any _ _ _ _)).mono ?_; rintro e' w' ⟨rfl, g, rfl⟩)
    | (refine wp_region_xt (by kernel_rfl) (by kernel_rfl) ?_; (repeat (go_big_quiet_step (first | (go_at_call 33; exact RetB.quiet (valid_any _ _ _ _))))); refine wpQuiet_nil ?_; intro g))
  refine bodyPost_ret (v := .tuple #[.agg #[.int .i64 0, .int .i64 0, .int .i64 0], .int .i64 2]) (by simp [results, Try.results12, go_sem]) rfl ?_
  exact RetB.of rfl (by repeat' (first | exact Below.refl _ _ | assumption | refine Below.xt ?_ ?_ _ | refine Below.alloc ?_ ?_ _ | refine Below.drew ?_ | refine Below.setCell ?_ ?_ _ | (simp; done) | (simp; omega)))
set_option maxHeartbeats 400000 in
theorem Scale_zero (n : Int) (w : World) : Calls Try.prog 12 #[.agg #[.int .i64 0, .int .i64 0, .int .i64 0], .int .i64 n] w (RetB (.tuple #[.agg #[.int .i64 0, .int .i64 0, .int .i64 0], .int .i64 0]) w) := by
  have h : vok 0 0 0 = true := by decide
  go_enter Try.func12, Try.ntmps12
  go_wp2_with (first
    | (go_at_call 33; refine (RetB.grown (valid_any _ _ _ _)).mono ?_; rintro e' w' ⟨rfl, g, rfl⟩)
    | (refine wp_region_xt (by kernel_rfl) (by kernel_rfl) ?_; (repeat (go_big_quiet_step (first | (go_at_call 33; exact RetB.quiet (valid_any _ _ _ _))))); refine wpQuiet_nil ?_; intro g))
  refine bodyPost_ret (v := .tuple #[.agg #[.int .i64 0, .int .i64 0, .int .i64 0], .int .i64 0]) (by simp [results, Try.results12, go_sem]) rfl ?_
  exact RetB.of rfl (by repeat' (first | exact Below.refl _ _ | assumption | refine Below.xt ?_ ?_ _ | refine Below.alloc ?_ ?_ _ | refine Below.drew ?_ | refine Below.setCell ?_ ?_ _ | (simp; done) | (simp; omega)))
set_option maxHeartbeats 400000 in
theorem Scale_far (a b c n : Int) (w : World) (h : vok a b c = true) (hz : ¬ (a = 0 ∧ b = 0 ∧ c = 0)) (hn : within n (-16777216) 16777216 = false) :
    Calls Try.prog 12 #[.agg #[.int .i64 a, .int .i64 b, .int .i64 c], .int .i64 n] w (RetB (.tuple #[.agg #[.int .i64 0, .int .i64 0, .int .i64 0], .int .i64 3]) w) := by
  go_enter Try.func12, Try.ntmps12
  go_wp2_with (first
    | (go_at_call 33; refine (RetB.grown (valid_any _ _ _ _)).mono ?_; rintro e' w' ⟨rfl, g, rfl⟩)
    | (go_at_call 42; refine (inside1 _ n _ _ _ (by decide) (by decide) (by go_simp)).mono ?_; rintro e' w' ⟨rfl, rfl⟩)
    | (refine wp_region_xt (by kernel_rfl) (by kernel_rfl) ?_; (repeat (go_big_quiet_step (first | (go_at_call 33; exact RetB.quiet (valid_any _ _ _ _)) | (go_at_call 42; exact Ret.quiet (inside1 _ n _ _ _ (by decide) (by decide) (by go_simp)))))); refine wpQuiet_nil ?_; intro g))
  all_goals first | (exfalso; omega) | skip
  all_goals
    refine bodyPost_ret (v := .tuple #[.agg #[.int .i64 0, .int .i64 0, .int .i64 0], .int .i64 3]) (by simp [results, Try.results12, go_sem]) rfl ?_
    exact RetB.of rfl (by repeat' (first | exact Below.refl _ _ | assumption | refine Below.xt ?_ ?_ _ | refine Below.alloc ?_ ?_ _ | refine Below.drew ?_ | refine Below.setCell ?_ ?_ _ | (simp; done) | (simp; omega)))
set_option maxHeartbeats 400000 in
theorem Scale_near_x (a b c n : Int) (w : World) (h : vok a b c = true) (hz : ¬ a = 0) (hn : within n (-16777216) 16777216 = true) :
    Calls Try.prog 12 #[.agg #[.int .i64 a, .int .i64 b, .int .i64 c], .int .i64 n] w (RetB (.tuple #[.agg #[.int .i64 (outP (a * n) (b * n) (c * n) (a * n)), .int .i64 (outP (a * n) (b * n) (c * n) (b * n)), .int .i64 (outP (a * n) (b * n) (c * n) (c * n))], .int .i64 (outE (a * n) (b * n) (c * n))]) w) := by
  obtain ⟨n1, n2⟩ := within_iff.1 hn
  have c1 := fun w p hp => join_scale a b c a b c n p w hp h n1 n2
  try simp only [Int.zero_mul] at c1 ⊢
  have C1 := fun w p hp => Lib.hid (c1 w p hp)
  clear c1
  go_enter Try.func12, Try.ntmps12
  go_wp2_with (first
    | (go_at_call 33; refine (RetB.grown (valid_any _ _ _ _)).mono ?_; rintro e' w' ⟨rfl, g, rfl⟩)
    | (go_at_call 42; refine (inside1 _ n _ _ _ (by decide) (by decide) (by go_simp)).mono ?_; rintro e' w' ⟨rfl, rfl⟩)
    | (go_at_call 39; refine (RetB.grown ((C1 _ _ (by go_simp)).out)).mono ?_; rintro e' w' ⟨rfl, g, rfl⟩)
    | (go_at_call 38; refine (RetB.grown (checked_any _ _ _ _)).mono ?_; rintro e' w' ⟨rfl, g, rfl⟩)
    | (refine wp_region_xt (by kernel_rfl) (by kernel_rfl) ?_; (repeat (go_big_quiet_step (first | (go_at_call 33; exact RetB.quiet (valid_any _ _ _ _)) | (go_at_call 42; exact Ret.quiet (inside1 _ n _ _ _ (by decide) (by decide) (by go_simp))) | (go_at_call 39; exact RetB.quiet ((C1 _ _ (by go_simp)).out)) | (go_at_call 38; exact RetB.quiet (checked_any _ _ _ _))))); refine wpQuiet_nil ?_; intro g))
  refine bodyPost_ret (by simp [results, Try.results12, go_sem]; rfl) rfl ?_
  exact RetB.of rfl (by repeat' (first | exact Below.refl _ _ | assumption | refine Below.xt ?_ ?_ _ | refine Below.alloc ?_ ?_ _ | refine Below.drew ?_ | refine Below.setCell ?_ ?_ _ | (simp; done) | (simp; omega)))
set_option maxHeartbeats 400000 in
theorem Scale_near_y (a b c n : Int) (w : World) (h : vok 0 b c = true) (hz : ¬ b = 0) (hn : within n (-16777216) 16777216 = true) :
    Calls Try.prog 12 #[.agg #[.int .i64 0, .int .i64 b, .int .i64 c], .int .i64 n] w (RetB (.tuple #[.agg #[.int .i64 (outP (0 * n) (b * n) (c * n) (0 * n)), .int .i64 (outP (0 * n) (b * n) (c * n) (b * n)), .int .i64 (outP (0 * n) (b * n) (c * n) (c * n))], .int .i64 (outE (0 * n) (b * n) (c * n))]) w) := by
  obtain ⟨n1, n2⟩ := within_iff.1 hn
  have c1 := fun w p hp => join_scale 0 b c 0 b c n p w hp h n1 n2
  try simp only [Int.zero_mul] at c1 ⊢
  have C1 := fun w p hp => Lib.hid (c1 w p hp)
  clear c1
  go_enter Try.func12, Try.ntmps12
  go_wp2_with (first
    | (go_at_call 33; refine (RetB.grown (valid_any _ _ _ _)).mono ?_; rintro e' w' ⟨rfl, g, rfl⟩)
    | (go_at_call 42; refine (inside1 _ n _ _ _ (by decide) (by decide) (by go_simp)).mono ?_; rintro e' w' ⟨rfl, rfl⟩)
    | (go_at_call 39; refine (RetB.grown ((C1 _ _ (by go_simp)).out)).mono ?_; rintro e' w' ⟨rfl, g, rfl⟩)
    | (go_at_call 38; refine (RetB.grown (checked_any _ _ _ _)).mono ?_; rintro e' w' ⟨rfl, g, rfl⟩)
    | (refine wp_region_xt (by kernel_rfl) (by kernel_rfl) ?_; (repeat (go_big_quiet_step (first | (go_at_call 33; exact RetB.quiet (valid_any _ _ _ _)) | (go_at_call 42; exact Ret.quiet (inside1 _ n _ _ _ (by decide) (by decide) (by go_simp))) | (go_at_call 39; exact RetB.quiet ((C1 _ _ (by go_simp)).out)) | (go_at_call 38; exact RetB.quiet (checked_any _ _ _ _))))); refine wpQuiet_nil ?_; intro g))
  refine bodyPost_ret (by simp [results, Try.results12, go_sem]; rfl) rfl ?_
  exact RetB.of rfl (by repeat' (first | exact Below.refl _ _ | assumption | refine Below.xt ?_ ?_ _ | refine Below.alloc ?_ ?_ _ | refine Below.drew ?_ | refine Below.setCell ?_ ?_ _ | (simp; done) | (simp; omega)))
set_option maxHeartbeats 400000 in
theorem Scale_near_z (a b c n : Int) (w : World) (h : vok 0 0 c = true) (hz : ¬ c = 0) (hn : within n (-16777216) 16777216 = true) :
    Calls Try.prog 12 #[.agg #[.int .i64 0, .int .i64 0, .int .i64 c], .int .i64 n] w (RetB (.tuple #[.agg #[.int .i64 (outP (0 * n) (0 * n) (c * n) (0 * n)), .int .i64 (outP (0 * n) (0 * n) (c * n) (0 * n)), .int .i64 (outP (0 * n) (0 * n) (c * n) (c * n))], .int .i64 (outE (0 * n) (0 * n) (c * n))]) w) := by
  obtain ⟨n1, n2⟩ := within_iff.1 hn
  have c1 := fun w p hp => join_scale 0 0 c 0 0 c n p w hp h n1 n2
  try simp only [Int.zero_mul] at c1 ⊢
  have C1 := fun w p hp => Lib.hid (c1 w p hp)
  clear c1
  go_enter Try.func12, Try.ntmps12
  go_wp2_with (first
    | (go_at_call 33; refine (RetB.grown (valid_any _ _ _ _)).mono ?_; rintro e' w' ⟨rfl, g, rfl⟩)
    | (go_at_call 42; refine (inside1 _ n _ _ _ (by decide) (by decide) (by go_simp)).mono ?_; rintro e' w' ⟨rfl, rfl⟩)
    | (go_at_call 39; refine (RetB.grown ((C1 _ _ (by go_simp)).out)).mono ?_; rintro e' w' ⟨rfl, g, rfl⟩)
    | (go_at_call 38; refine (RetB.grown (checked_any _ _ _ _)).mono ?_; rintro e' w' ⟨rfl, g, rfl⟩)
    | (refine wp_region_xt (by kernel_rfl) (by kernel_rfl) ?_; (repeat (go_big_quiet_step (first | (go_at_call 33; exact RetB.quiet (valid_any _ _ _ _)) | (go_at_call 42; exact Ret.quiet (inside1 _ n _ _ _ (by decide) (by decide) (by go_simp))) | (go_at_call 39; exact RetB.quiet ((C1 _ _ (by go_simp)).out)) | (go_at_call 38; exact RetB.quiet (checked_any _ _ _ _))))); refine wpQuiet_nil ?_; intro g))
  refine bodyPost_ret (by simp [results, Try.results12, go_sem]; rfl) rfl ?_
  exact RetB.of rfl (by repeat' (first | exact Below.refl _ _ | assumption | refine Below.xt ?_ ?_ _ | refine Below.alloc ?_ ?_ _ | refine Below.drew ?_ | refine Below.setCell ?_ ?_ _ | (simp; done) | (simp; omega)))
theorem Scale_near (a b c n : Int) (w : World) (h : vok a b c = true) (hz : ¬ (a = 0 ∧ b = 0 ∧ c = 0)) (hn : within n (-16777216) 16777216 = true) :
    Calls Try.prog 12 #[.agg #[.int .i64 a, .int .i64 b, .int .i64 c], .int .i64 n] w (RetB (.tuple #[.agg #[.int .i64 (outP (a * n) (b * n) (c * n) (a * n)), .int .i64 (outP (a * n) (b * n) (c * n) (b * n)), .int .i64 (outP (a * n) (b * n) (c * n) (c * n))], .int .i64 (outE (a * n) (b * n) (c * n))]) w) := by
  by_cases ha : a = 0
  · subst ha
    by_cases hb : b = 0
    · subst hb
      exact Scale_near_z 0 0 c n w h (by omega) hn
    · exact Scale_near_y 0 b c n w h hb hn
  · exact Scale_near_x a b c n w h ha hn
theorem Scale_ok (a b c n : Int) (w : World) (h : vok a b c = true) :
    Calls Try.prog 12 #[.agg #[.int .i64 a, .int .i64 b, .int .i64 c], .int .i64 n] w (RetB (.tuple #[.agg #[.int .i64 (scP a b c n (a * n)), .int .i64 (scP a b c n (b * n)), .int .i64 (scP a b c n (c * n))], .int .i64 (scE a b c n)]) w) := by
  by_cases hz : a = 0 ∧ b = 0 ∧ c = 0
  · simp only [scP, scE, if_pos hz]
    obtain ⟨rfl, rfl, rfl⟩ := hz
    exact Scale_zero n w
  · simp only [scP, scE, if_neg hz]
    by_cases hn : within n (-16777216) 16777216 = true
    · simp only [if_pos hn]
      exact Scale_near a b c n w h hz hn
    · simp only [if_neg hn]
      exact Scale_far a b c n w h hz (by simpa using hn)

set_option maxHeartbeats 400000 in
theorem dot_any (a b c x y z : Int) (w : World) (ha : -33554432 ≤ a ∧ a ≤ 33554432) (hb : -33554432 ≤ b ∧ b ≤ 33554432) (hc : -33554432 ≤ c ∧ c ≤ 33554432) (hx : -33554432 ≤ x ∧ x ≤ 33554432) (hy : -33554432 ≤ y ∧ y ≤ 33554432) (hz : -33554432 ≤ z ∧ z ≤ 33554432) :
    Calls Try.prog 47 #[.agg #[.int .i64 a, .int .i64 b, .int .i64 c], .agg #[.int .i64 x, .int .i64 y, .int .i64 z]] w (RetB (.int .i64 (a * x + b * y + c * z)) w) := by
  obtain ⟨p1, p2⟩ := prod2_le ha hx
  obtain ⟨p3, p4⟩ := prod2_le hb hy
  obtain ⟨p5, p6⟩ := prod2_le hc hz
  clear ha hb hc hx hy hz
  go_enter Try.func47, Try.ntmps47
  go_wp2_with (first
    | (refine wp_region_xt (by kernel_rfl) (by kernel_rfl) ?_; (repeat (go_big_quiet_step (first | fail))); refine wpQuiet_nil ?_; intro g))
  go_ret
  exact RetB.of rfl (by repeat' (first | exact Below.refl _ _ | assumption | refine Below.xt ?_ ?_ _ | refine Below.alloc ?_ ?_ _ | refine Below.drew ?_ | refine Below.setCell ?_ ?_ _ | (simp; done) | (simp; omega)))

set_option maxHeartbeats 400000 in
theorem Dot_ok (a b c x y z : Int) (w : World) (ha : vok a b c = true) (hx : vok x y z = true) :
    Calls Try.prog 19 #[.agg #[.int .i64 a, .int .i64 b, .int .i64 c], .agg #[.int .i64 x, .int .i64 y, .int .i64 z]] w (RetB (.tuple #[.int .i64 (a * x + b * y + c * z), .int .i64 0]) w) := by
  obtain ⟨⟨a1, a2⟩, ⟨b1, b2⟩, c1, c2⟩ := vok_iff.1 ha
  obtain ⟨⟨x1, x2⟩, ⟨y1, y2⟩, z1, z2⟩ := vok_iff.1 hx
  go_enter Try.func19, Try.ntmps19
  go_wp2_with (first
    | (go_at_call 33; refine (RetB.grown (valid_any _ _ _ _)).mono ?_; rintro e' w' ⟨rfl, g, rfl⟩)
    | (go_at_call 47; refine (RetB.grown (dot_any a b c x y z _ (by omega) (by omega) (by omega) (by omega) (by omega) (by omega))).mono ?_; rintro e' w' ⟨rfl, g, rfl⟩)
    | (refine wp_region_xt (by kernel_rfl) (by kernel_rfl) ?_; (repeat (go_big_quiet_step (first | (go_at_call 33; exact RetB.quiet (valid_any _ _ _ _)) | (go_at_call 47; exact RetB.quiet (dot_any a b c x y z _ (by omega) (by omega) (by omega) (by omega) (by omega) (by omega)))))); refine wpQuiet_nil ?_; intro g))
  go_ret2
  exact RetB.of rfl (by repeat' (first | exact Below.refl _ _ | assumption | refine Below.xt ?_ ?_ _ | refine Below.alloc ?_ ?_ _ | refine Below.drew ?_ | refine Below.setCell ?_ ?_ _ | (simp; done) | (simp; omega)))
set_option maxHeartbeats 400000 in
theorem Dot_bad (a b c x y z : Int) (w : World) (h : vok a b c = false ∨ vok x y z = false) :
    Calls Try.prog 19 #[.agg #[.int .i64 a, .int .i64 b, .int .i64 c], .agg #[.int .i64 x, .int .i64 y, .int .i64 z]] w (RetB (.tuple #[.int .i64 0, .int .i64 2]) w) := by
  by_cases ha : vok a b c = true
  · have hx : vok x y z = false := by simpa [ha] using h
    clear h
    go_enter Try.func19, Try.ntmps19
    go_wp2_with (first
      | (go_at_call 33; refine (RetB.grown (valid_any _ _ _ _)).mono ?_; rintro e' w' ⟨rfl, g, rfl⟩)
      | (refine wp_region_xt (by kernel_rfl) (by kernel_rfl) ?_; (repeat (go_big_quiet_step (first | (go_at_call 33; exact RetB.quiet (valid_any _ _ _ _))))); refine wpQuiet_nil ?_; intro g))
    go_ret2
    exact RetB.of rfl (by repeat' (first | exact Below.refl _ _ | assumption | refine Below.xt ?_ ?_ _ | refine Below.alloc ?_ ?_ _ | refine Below.drew ?_ | refine Below.setCell ?_ ?_ _ | (simp; done) | (simp; omega)))
  · have hx : vok a b c = false := by simpa using ha
    clear h ha
    go_enter Try.func19, Try.ntmps19
    go_wp2_with (first
      | (go_at_call 33; refine (RetB.grown (valid_any _ _ _ _)).mono ?_; rintro e' w' ⟨rfl, g, rfl⟩)
      | (refine wp_region_xt (by kernel_rfl) (by kernel_rfl) ?_; (repeat (go_big_quiet_step (first | (go_at_call 33; exact RetB.quiet (valid_any _ _ _ _))))); refine wpQuiet_nil ?_; intro g))
    go_ret2
    exact RetB.of rfl (by repeat' (first | exact Below.refl _ _ | assumption | refine Below.xt ?_ ?_ _ | refine Below.alloc ?_ ?_ _ | refine Below.drew ?_ | refine Below.setCell ?_ ?_ _ | (simp; done) | (simp; omega)))

set_option maxHeartbeats 400000 in
theorem Length2_ok (a b c : Int) (w : World) (ha : vok a b c = true) :
    Calls Try.prog 21 #[.agg #[.int .i64 a, .int .i64 b, .int .i64 c]] w (RetB (.tuple #[.int .i64 (a * a + b * b + c * c), .int .i64 0]) w) := by
  go_enter Try.func21, Try.ntmps21
  go_wp2_with (first
    | (go_at_call 19; refine (RetB.grown (Dot_ok a b c a b c _ ha ha)).mono ?_; rintro e' w' ⟨rfl, g, rfl⟩)
    | (refine wp_region_xt (by kernel_rfl) (by kernel_rfl) ?_; (repeat (go_big_quiet_step (first | (go_at_call 19; exact RetB.quiet (Dot_ok a b c a b c _ ha ha))))); refine wpQuiet_nil ?_; intro g))
  go_ret2
  exact RetB.of rfl (by repeat' (first | exact Below.refl _ _ | assumption | refine Below.xt ?_ ?_ _ | refine Below.alloc ?_ ?_ _ | refine Below.drew ?_ | refine Below.setCell ?_ ?_ _ | (simp; done) | (simp; omega)))
set_option maxHeartbeats 400000 in
theorem Length2_bad (a b c : Int) (w : World) (ha : vok a b c = false) :
    Calls Try.prog 21 #[.agg #[.int .i64 a, .int .i64 b, .int .i64 c]] w (RetB (.tuple #[.int .i64 0, .int .i64 2]) w) := by
  go_enter Try.func21, Try.ntmps21
  go_wp2_with (first
    | (go_at_call 19; refine (RetB.grown (Dot_bad a b c a b c _ (.inl ha))).mono ?_; rintro e' w' ⟨rfl, g, rfl⟩)
    | (refine wp_region_xt (by kernel_rfl) (by kernel_rfl) ?_; (repeat (go_big_quiet_step (first | (go_at_call 19; exact RetB.quiet (Dot_bad a b c a b c _ (.inl ha)))))); refine wpQuiet_nil ?_; intro g))
  go_ret2
  exact RetB.of rfl (by repeat' (first | exact Below.refl _ _ | assumption | refine Below.xt ?_ ?_ _ | refine Below.alloc ?_ ?_ _ | refine Below.drew ?_ | refine Below.setCell ?_ ?_ _ | (simp; done) | (simp; omega)))

set_option maxHeartbeats 800000 in
theorem Cross_ok (a b c x y z : Int) (w : World) (ha : vok a b c = true) (hx : vok x y z = true) :
    Calls Try.prog 20 #[.agg #[.int .i64 a, .int .i64 b, .int .i64 c], .agg #[.int .i64 x, .int .i64 y, .int .i64 z]] w (RetB (.tuple #[.agg #[.int .i64 (b * z - c * y), .int .i64 (c * x - a * z), .int .i64 (a * y - b * x)], .int .i64 0]) w) := by
  obtain ⟨ha', hb', hc'⟩ := vok_iff.1 ha
  obtain ⟨hx', hy', hz'⟩ := vok_iff.1 hx
  obtain ⟨p1, q1⟩ := prod_le hb' hz'
  obtain ⟨p2, q2⟩ := prod_le hc' hy'
  obtain ⟨p3, q3⟩ := prod_le hc' hx'
  obtain ⟨p4, q4⟩ := prod_le ha' hz'
  obtain ⟨p5, q5⟩ := prod_le ha' hy'
  obtain ⟨p6, q6⟩ := prod_le hb' hx'
  clear ha' hb' hc' hx' hy' hz'
  go_enter Try.func20, Try.ntmps20
  go_wp2_with (first
    | (go_at_call 33; refine (RetB.grown (valid_any _ _ _ _)).mono ?_; rintro e' w' ⟨rfl, g, rfl⟩)
    | (refine wp_region_xt (by kernel_rfl) (by kernel_rfl) ?_; (repeat (go_big_quiet_step (first | (go_at_call 33; exact RetB.quiet (valid_any _ _ _ _))))); refine wpQuiet_nil ?_; intro g))
  refine bodyPost_ret (v := .tuple #[.agg #[.int .i64 (b * z - c * y), .int .i64 (c * x - a * z), .int .i64 (a * y - b * x)], .int .i64 0]) (by simp [results, Try.results20, go_sem]) rfl ?_
  exact RetB.of rfl (by repeat' (first | exact Below.refl _ _ | assumption | refine Below.xt ?_ ?_ _ | refine Below.alloc ?_ ?_ _ | refine Below.drew ?_ | refine Below.setCell ?_ ?_ _ | (simp; done) | (simp; omega)))
set_option maxHeartbeats 400000 in
theorem Cross_bad (a b c x y z : Int) (w : World) (h : vok a b c = false ∨ vok x y z = false) :
    Calls Try.prog 20 #[.agg #[.int .i64 a, .int .i64 b, .int .i64 c], .agg #[.int .i64 x, .int .i64 y, .int .i64 z]] w (RetB (.tuple #[.agg #[.int .i64 0, .int .i64 0, .int .i64 0], .int .i64 2]) w) := by
  by_cases ha : vok a b c = true
  · have hx : vok x y z = false := by simpa [ha] using h
    clear h
    go_enter Try.func20, Try.ntmps20
    go_wp2_with (first
      | (go_at_call 33; refine (RetB.grown (valid_any _ _ _ _)).mono ?_; rintro e' w' ⟨rfl, g, rfl⟩)
      | (refine wp_region_xt (by kernel_rfl) (by kernel_rfl) ?_; (repeat (go_big_quiet_step (first | (go_at_call 33; exact RetB.quiet (valid_any _ _ _ _))))); refine wpQuiet_nil ?_; intro g))
    refine bodyPost_ret (v := .tuple #[.agg #[.int .i64 0, .int .i64 0, .int .i64 0], .int .i64 2]) (by simp [results, Try.results20, go_sem]) rfl ?_
    exact RetB.of rfl (by repeat' (first | exact Below.refl _ _ | assumption | refine Below.xt ?_ ?_ _ | refine Below.alloc ?_ ?_ _ | refine Below.drew ?_ | refine Below.setCell ?_ ?_ _ | (simp; done) | (simp; omega)))
  · have hx : vok a b c = false := by simpa using ha
    clear h ha
    go_enter Try.func20, Try.ntmps20
    go_wp2_with (first
      | (go_at_call 33; refine (RetB.grown (valid_any _ _ _ _)).mono ?_; rintro e' w' ⟨rfl, g, rfl⟩)
      | (refine wp_region_xt (by kernel_rfl) (by kernel_rfl) ?_; (repeat (go_big_quiet_step (first | (go_at_call 33; exact RetB.quiet (valid_any _ _ _ _))))); refine wpQuiet_nil ?_; intro g))
    refine bodyPost_ret (v := .tuple #[.agg #[.int .i64 0, .int .i64 0, .int .i64 0], .int .i64 2]) (by simp [results, Try.results20, go_sem]) rfl ?_
    exact RetB.of rfl (by repeat' (first | exact Below.refl _ _ | assumption | refine Below.xt ?_ ?_ _ | refine Below.alloc ?_ ?_ _ | refine Below.drew ?_ | refine Below.setCell ?_ ?_ _ | (simp; done) | (simp; omega)))

set_option maxHeartbeats 400000 in
theorem Distance2_ok (a b c x y z : Int) (w : World) (ha : vok a b c = true) (hx : vok x y z = true) :
    Calls Try.prog 22 #[.agg #[.int .i64 a, .int .i64 b, .int .i64 c], .agg #[.int .i64 x, .int .i64 y, .int .i64 z]] w (RetB (.tuple #[.int .i64 ((a - x) * (a - x) + (b - y) * (b - y) + (c - z) * (c - z)), .int .i64 0]) w) := by
  obtain ⟨⟨a1, a2⟩, ⟨b1, b2⟩, c1, c2⟩ := vok_iff.1 ha
  obtain ⟨⟨x1, x2⟩, ⟨y1, y2⟩, z1, z2⟩ := vok_iff.1 hx
  go_enter Try.func22, Try.ntmps22
  go_wp2_with (first
    | (go_at_call 33; refine (RetB.grown (valid_any _ _ _ _)).mono ?_; rintro e' w' ⟨rfl, g, rfl⟩)
    | (go_at_call 39; refine (RetB.grown (join_dist a b c x y z _ (by omega) (by omega) (by omega) (by omega) (by omega) (by omega))).mono ?_; rintro e' w' ⟨rfl, g, rfl⟩)
    | (go_at_call 47; refine (RetB.grown (dot_any (a - x) (b - y) (c - z) (a - x) (b - y) (c - z) _ (by omega) (by omega) (by omega) (by omega) (by omega) (by omega))).mono ?_; rintro e' w' ⟨rfl, g, rfl⟩)
    | (refine wp_region_xt (by kernel_rfl) (by kernel_rfl) ?_; (repeat (go_big_quiet_step (first | (go_at_call 33; exact RetB.quiet (valid_any _ _ _ _)) | (go_at_call 39; exact RetB.quiet (join_dist a b c x y z _ (by omega) (by omega) (by omega) (by omega) (by omega) (by omega))) | (go_at_call 47; exact RetB.quiet (dot_any (a - x) (b - y) (c - z) (a - x) (b - y) (c - z) _ (by omega) (by omega) (by omega) (by omega) (by omega) (by omega)))))); refine wpQuiet_nil ?_; intro g))
  go_ret2
  exact RetB.of rfl (by repeat' (first | exact Below.refl _ _ | assumption | refine Below.xt ?_ ?_ _ | refine Below.alloc ?_ ?_ _ | refine Below.drew ?_ | refine Below.setCell ?_ ?_ _ | (simp; done) | (simp; omega)))
set_option maxHeartbeats 400000 in
theorem Distance2_bad (a b c x y z : Int) (w : World) (h : vok a b c = false ∨ vok x y z = false) :
    Calls Try.prog 22 #[.agg #[.int .i64 a, .int .i64 b, .int .i64 c], .agg #[.int .i64 x, .int .i64 y, .int .i64 z]] w (RetB (.tuple #[.int .i64 0, .int .i64 2]) w) := by
  by_cases ha : vok a b c = true
  · have hx : vok x y z = false := by simpa [ha] using h
    clear h
    go_enter Try.func22, Try.ntmps22
    go_wp2_with (first
      | (go_at_call 33; refine (RetB.grown (valid_any _ _ _ _)).mono ?_; rintro e' w' ⟨rfl, g, rfl⟩)
      | (refine wp_region_xt (by kernel_rfl) (by kernel_rfl) ?_; (repeat (go_big_quiet_step (first | (go_at_call 33; exact RetB.quiet (valid_any _ _ _ _))))); refine wpQuiet_nil ?_; intro g))
    go_ret2
    exact RetB.of rfl (by repeat' (first | exact Below.refl _ _ | assumption | refine Below.xt ?_ ?_ _ | refine Below.alloc ?_ ?_ _ | refine Below.drew ?_ | refine Below.setCell ?_ ?_ _ | (simp; done) | (simp; omega)))
  · have hx : vok a b c = false := by simpa using ha
    clear h ha
    go_enter Try.func22, Try.ntmps22
    go_wp2_with (first
      | (go_at_call 33; refine (RetB.grown (valid_any _ _ _ _)).mono ?_; rintro e' w' ⟨rfl, g, rfl⟩)
      | (refine wp_region_xt (by kernel_rfl) (by kernel_rfl) ?_; (repeat (go_big_quiet_step (first | (go_at_call 33; exact RetB.quiet (valid_any _ _ _ _))))); refine wpQuiet_nil ?_; intro g))
    go_ret2
    exact RetB.of rfl (by repeat' (first | exact Below.refl _ _ | assumption | refine Below.xt ?_ ?_ _ | refine Below.alloc ?_ ?_ _ | refine Below.drew ?_ | refine Below.setCell ?_ ?_ _ | (simp; done) | (simp; omega)))

end Go.Proofs.Ytjgfobknifobhaa

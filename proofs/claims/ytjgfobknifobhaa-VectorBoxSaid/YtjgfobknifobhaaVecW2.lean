/- Walks of the functions of vectors, by the program: sums, products, points between and turns. Conditions stand in each theorem. -/
import Derived.Test.YtjgfobknifobhaaVecW1
namespace Go.Proofs.Ytjgfobknifobhaa
open Go.RowKit
set_option linter.unusedVariables false

set_option maxHeartbeats 400000 in
theorem join_add (a b c x y z : Int) (w : World) (h0 : -1125899906842624 ≤ a + x) (h1 : a + x ≤ 1125899906842624) (h2 : -1125899906842624 ≤ b + y) (h3 : b + y ≤ 1125899906842624) (h4 : -1125899906842624 ≤ c + z) (h5 : c + z ≤ 1125899906842624) :
    Calls Try.prog 39 #[.agg #[.int .i64 a, .int .i64 b, .int .i64 c], .agg #[.int .i64 x, .int .i64 y, .int .i64 z], .func (.func 40) #[] #[]] w (RetB (.agg #[.int .i64 ((a + x)), .int .i64 ((b + y)), .int .i64 ((c + z))]) w) := by
  go_enter Try.func39, Try.ntmps39
  go_wp2_with fail
  refine wp_region_xt_tail 18 (by kernel_rfl) (by kernel_rfl) ?_
  simp only [List.take_succ_cons, List.take_zero, List.drop_succ_cons, List.drop_zero]
  repeat (go_big_quiet_step ((go_at_call 40; exact Ret.quiet (add_cl _ _ _ (by omega) (by omega)))))
  refine wpQuiet_nil ?_
  intro g
  go_wp2
  refine bodyPost_ret (v := .agg #[.int .i64 ((a + x)), .int .i64 ((b + y)), .int .i64 ((c + z))]) (by simp [results, Try.results39, go_sem]) rfl ?_
  exact RetB.of rfl (by repeat' (first | exact Below.refl _ _ | assumption | refine Below.xt ?_ ?_ _ | refine Below.alloc ?_ ?_ _ | refine Below.drew ?_ | refine Below.setCell ?_ ?_ _ | (simp; done) | (simp; omega)))
set_option maxHeartbeats 400000 in
theorem join_sub (a b c x y z : Int) (w : World) (h0 : -1125899906842624 ≤ a - x) (h1 : a - x ≤ 1125899906842624) (h2 : -1125899906842624 ≤ b - y) (h3 : b - y ≤ 1125899906842624) (h4 : -1125899906842624 ≤ c - z) (h5 : c - z ≤ 1125899906842624) :
    Calls Try.prog 39 #[.agg #[.int .i64 a, .int .i64 b, .int .i64 c], .agg #[.int .i64 x, .int .i64 y, .int .i64 z], .func (.func 41) #[] #[]] w (RetB (.agg #[.int .i64 ((a - x)), .int .i64 ((b - y)), .int .i64 ((c - z))]) w) := by
  go_enter Try.func39, Try.ntmps39
  go_wp2_with fail
  refine wp_region_xt_tail 18 (by kernel_rfl) (by kernel_rfl) ?_
  simp only [List.take_succ_cons, List.take_zero, List.drop_succ_cons, List.drop_zero]
  repeat (go_big_quiet_step ((go_at_call 41; exact Ret.quiet (sub_cl _ _ _ (by omega) (by omega)))))
  refine wpQuiet_nil ?_
  intro g
  go_wp2
  refine bodyPost_ret (v := .agg #[.int .i64 ((a - x)), .int .i64 ((b - y)), .int .i64 ((c - z))]) (by simp [results, Try.results39, go_sem]) rfl ?_
  exact RetB.of rfl (by repeat' (first | exact Below.refl _ _ | assumption | refine Below.xt ?_ ?_ _ | refine Below.alloc ?_ ?_ _ | refine Below.drew ?_ | refine Below.setCell ?_ ?_ _ | (simp; done) | (simp; omega)))
set_option maxHeartbeats 400000 in
theorem join_dist (a b c x y z : Int) (w : World) (h0 : -1125899906842624 ≤ a - x) (h1 : a - x ≤ 1125899906842624) (h2 : -1125899906842624 ≤ b - y) (h3 : b - y ≤ 1125899906842624) (h4 : -1125899906842624 ≤ c - z) (h5 : c - z ≤ 1125899906842624) :
    Calls Try.prog 39 #[.agg #[.int .i64 a, .int .i64 b, .int .i64 c], .agg #[.int .i64 x, .int .i64 y, .int .i64 z], .func (.func 48) #[] #[]] w (RetB (.agg #[.int .i64 ((a - x)), .int .i64 ((b - y)), .int .i64 ((c - z))]) w) := by
  go_enter Try.func39, Try.ntmps39
  go_wp2_with fail
  refine wp_region_xt_tail 18 (by kernel_rfl) (by kernel_rfl) ?_
  simp only [List.take_succ_cons, List.take_zero, List.drop_succ_cons, List.drop_zero]
  repeat (go_big_quiet_step ((go_at_call 48; exact Ret.quiet (dist_cl _ _ _ (by omega) (by omega)))))
  refine wpQuiet_nil ?_
  intro g
  go_wp2
  refine bodyPost_ret (v := .agg #[.int .i64 ((a - x)), .int .i64 ((b - y)), .int .i64 ((c - z))]) (by simp [results, Try.results39, go_sem]) rfl ?_
  exact RetB.of rfl (by repeat' (first | exact Below.refl _ _ | assumption | refine Below.xt ?_ ?_ _ | refine Below.alloc ?_ ?_ _ | refine Below.drew ?_ | refine Below.setCell ?_ ?_ _ | (simp; done) | (simp; omega)))
set_option maxHeartbeats 400000 in
theorem join_min (a b c x y z : Int) (w : World) :
    Calls Try.prog 39 #[.agg #[.int .i64 a, .int .i64 b, .int .i64 c], .agg #[.int .i64 x, .int .i64 y, .int .i64 z], .func (.func 53) #[] #[]] w (RetB (.agg #[.int .i64 ((min a x)), .int .i64 ((min b y)), .int .i64 ((min c z))]) w) := by
  go_enter Try.func39, Try.ntmps39
  go_wp2_with fail
  refine wp_region_xt_tail 18 (by kernel_rfl) (by kernel_rfl) ?_
  simp only [List.take_succ_cons, List.take_zero, List.drop_succ_cons, List.drop_zero]
  repeat (go_big_quiet_step ((go_at_call 53; exact Ret.quiet (min_cl _ _ _))))
  refine wpQuiet_nil ?_
  intro g
  go_wp2
  refine bodyPost_ret (v := .agg #[.int .i64 ((min a x)), .int .i64 ((min b y)), .int .i64 ((min c z))]) (by simp [results, Try.results39, go_sem]) rfl ?_
  exact RetB.of rfl (by repeat' (first | exact Below.refl _ _ | assumption | refine Below.xt ?_ ?_ _ | refine Below.alloc ?_ ?_ _ | refine Below.drew ?_ | refine Below.setCell ?_ ?_ _ | (simp; done) | (simp; omega)))
set_option maxHeartbeats 400000 in
theorem join_max (a b c x y z : Int) (w : World) :
    Calls Try.prog 39 #[.agg #[.int .i64 a, .int .i64 b, .int .i64 c], .agg #[.int .i64 x, .int .i64 y, .int .i64 z], .func (.func 54) #[] #[]] w (RetB (.agg #[.int .i64 ((max a x)), .int .i64 ((max b y)), .int .i64 ((max c z))]) w) := by
  go_enter Try.func39, Try.ntmps39
  go_wp2_with fail
  refine wp_region_xt_tail 18 (by kernel_rfl) (by kernel_rfl) ?_
  simp only [List.take_succ_cons, List.take_zero, List.drop_succ_cons, List.drop_zero]
  repeat (go_big_quiet_step ((go_at_call 54; exact Ret.quiet (max_cl _ _ _))))
  refine wpQuiet_nil ?_
  intro g
  go_wp2
  refine bodyPost_ret (v := .agg #[.int .i64 ((max a x)), .int .i64 ((max b y)), .int .i64 ((max c z))]) (by simp [results, Try.results39, go_sem]) rfl ?_
  exact RetB.of rfl (by repeat' (first | exact Below.refl _ _ | assumption | refine Below.xt ?_ ?_ _ | refine Below.alloc ?_ ?_ _ | refine Below.drew ?_ | refine Below.setCell ?_ ?_ _ | (simp; done) | (simp; omega)))
set_option maxHeartbeats 400000 in
theorem join_scale (a b c x y z n : Int) (p : Nat) (w : World) (hp : w.cell? ⟨p, 0, none⟩ = some (.int .i64 n)) (ha : vok a b c = true) (h0 : -16777216 ≤ n) (h1 : n ≤ 16777216) :
    Calls Try.prog 39 #[.agg #[.int .i64 a, .int .i64 b, .int .i64 c], .agg #[.int .i64 x, .int .i64 y, .int .i64 z], .func (.func 43) #[] #[.pointer (some ⟨p, 0, none⟩)]] w (RetB (.agg #[.int .i64 ((a * n)), .int .i64 ((b * n)), .int .i64 ((c * n))]) w) := by
  have hop := old_of_cell hp
  obtain ⟨ha, hb, hc⟩ := vok_iff.1 ha
  have p0 := prod_le ha ⟨h0, h1⟩
  have p1 := prod_le hb ⟨h0, h1⟩
  have p2 := prod_le hc ⟨h0, h1⟩
  go_enter Try.func39, Try.ntmps39
  go_wp2_with fail
  refine wp_region_xt_tail 18 (by kernel_rfl) (by kernel_rfl) ?_
  simp only [List.take_succ_cons, List.take_zero, List.drop_succ_cons, List.drop_zero]
  repeat (go_big_quiet_step ((go_at_call 43; exact Ret.quiet (scale_cl _ _ n p _ (by go_simp) (by omega) (by omega)))))
  refine wpQuiet_nil ?_
  intro g
  go_wp2
  refine bodyPost_ret (v := .agg #[.int .i64 ((a * n)), .int .i64 ((b * n)), .int .i64 ((c * n))]) (by simp [results, Try.results39, go_sem]) rfl ?_
  exact RetB.of rfl (by repeat' (first | exact Below.refl _ _ | assumption | refine Below.xt ?_ ?_ _ | refine Below.alloc ?_ ?_ _ | refine Below.drew ?_ | refine Below.setCell ?_ ?_ _ | (simp; done) | (simp; omega)))

set_option maxHeartbeats 400000 in
theorem join_mid (a b c x y z num den : Int) (p q : Nat) (w : World) (hp : w.cell? ⟨p, 0, none⟩ = some (.int .i64 num)) (hq : w.cell? ⟨q, 0, none⟩ = some (.int .i64 den)) (ha : vok a b c = true) (hx : vok x y z = true) (hr : ratio num den = true) :
    Calls Try.prog 39 #[.agg #[.int .i64 a, .int .i64 b, .int .i64 c], .agg #[.int .i64 x, .int .i64 y, .int .i64 z], .func (.func 50) #[] #[.pointer (some ⟨p, 0, none⟩), .pointer (some ⟨q, 0, none⟩)]] w (RetB (.agg #[.int .i64 ((mid a x num den)), .int .i64 ((mid b y num den)), .int .i64 ((mid c z num den))]) w) := by
  have hop := old_of_cell hp
  have hoq := old_of_cell hq
  obtain ⟨ha, hb, hc⟩ := vok_iff.1 ha
  obtain ⟨hx, hy, hz⟩ := vok_iff.1 hx
  have C0 := fun w h h' => Lib.hid (mid_cl a x num den p q w ha hx hr h h')
  have C1 := fun w h h' => Lib.hid (mid_cl b y num den p q w hb hy hr h h')
  have C2 := fun w h h' => Lib.hid (mid_cl c z num den p q w hc hz hr h h')
  clear ha hb hc hx hy hz hr
  go_enter Try.func39, Try.ntmps39
  go_wp2_with fail
  refine wp_region_xt_tail 18 (by kernel_rfl) (by kernel_rfl) ?_
  simp only [List.take_succ_cons, List.take_zero, List.drop_succ_cons, List.drop_zero]
  repeat (go_big_quiet_step (first | (go_at_call 50; first | (with_reducible exact RetB.quiet (C0 _ (by go_simp) (by go_simp)).out) | (with_reducible exact RetB.quiet (C1 _ (by go_simp) (by go_simp)).out) | (with_reducible exact RetB.quiet (C2 _ (by go_simp) (by go_simp)).out))))
  refine wpQuiet_nil ?_
  intro g
  go_wp2
  refine bodyPost_ret (v := .agg #[.int .i64 ((mid a x num den)), .int .i64 ((mid b y num den)), .int .i64 ((mid c z num den))]) (by simp [results, Try.results39, go_sem]) rfl ?_
  exact RetB.of rfl (by repeat' (first | exact Below.refl _ _ | assumption | refine Below.xt ?_ ?_ _ | refine Below.alloc ?_ ?_ _ | refine Below.drew ?_ | refine Below.setCell ?_ ?_ _ | (simp; done) | (simp; omega)))

/-! ### Sums and products -/
set_option maxHeartbeats 400000 in
theorem Add_ok (a b c x y z : Int) (w : World) (ha : vok a b c = true) (hx : vok x y z = true) :
    Calls Try.prog 10 #[.agg #[.int .i64 a, .int .i64 b, .int .i64 c], .agg #[.int .i64 x, .int .i64 y, .int .i64 z]] w (RetB (.tuple #[.agg #[.int .i64 (outP (a + x) (b + y) (c + z) (a + x)), .int .i64 (outP (a + x) (b + y) (c + z) (b + y)), .int .i64 (outP (a + x) (b + y) (c + z) (c + z))], .int .i64 (outE (a + x) (b + y) (c + z))]) w) := by
  obtain ⟨⟨a1, a2⟩, ⟨b1, b2⟩, c1, c2⟩ := vok_iff.1 ha
  obtain ⟨⟨x1, x2⟩, ⟨y1, y2⟩, z1, z2⟩ := vok_iff.1 hx
  go_enter Try.func10, Try.ntmps10
  go_wp2_with (first
    | (go_at_call 33; refine (RetB.grown (valid_any _ _ _ _)).mono ?_; rintro e' w' ⟨rfl, g, rfl⟩)
    | (go_at_call 39; refine (RetB.grown (join_add a b c x y z _ (by omega) (by omega) (by omega) (by omega) (by omega) (by omega))).mono ?_; rintro e' w' ⟨rfl, g, rfl⟩)
    | (go_at_call 38; refine (RetB.grown (checked_any _ _ _ _)).mono ?_; rintro e' w' ⟨rfl, g, rfl⟩)
    | (refine wp_region_xt (by kernel_rfl) (by kernel_rfl) ?_; (repeat (go_big_quiet_step (first | (go_at_call 33; exact RetB.quiet (valid_any _ _ _ _)) | (go_at_call 39; exact RetB.quiet (join_add a b c x y z _ (by omega) (by omega) (by omega) (by omega) (by omega) (by omega))) | (go_at_call 38; exact RetB.quiet (checked_any _ _ _ _))))); refine wpQuiet_nil ?_; intro g))
  refine bodyPost_ret (v := .tuple #[.agg #[.int .i64 (outP (a + x) (b + y) (c + z) (a + x)), .int .i64 (outP (a + x) (b + y) (c + z) (b + y)), .int .i64 (outP (a + x) (b + y) (c + z) (c + z))], .int .i64 (outE (a + x) (b + y) (c + z))]) (by simp [results, Try.results10, go_sem]) rfl ?_
  exact RetB.of rfl (by repeat' (first | exact Below.refl _ _ | assumption | refine Below.xt ?_ ?_ _ | refine Below.alloc ?_ ?_ _ | refine Below.drew ?_ | refine Below.setCell ?_ ?_ _ | (simp; done) | (simp; omega)))
set_option maxHeartbeats 400000 in
theorem Add_bad (a b c x y z : Int) (w : World) (h : vok a b c = false ∨ vok x y z = false) :
    Calls Try.prog 10 #[.agg #[.int .i64 a, .int .i64 b, .int .i64 c], .agg #[.int .i64 x, .int .i64 y, .int .i64 z]] w (RetB (.tuple #[.agg #[.int .i64 0, .int .i64 0, .int .i64 0], .int .i64 2]) w) := by
  by_cases ha : vok a b c = true
  · have hx : vok x y z = false := by simpa [ha] using h
    clear h
    go_enter Try.func10, Try.ntmps10
    go_wp2_with (first
      | (go_at_call 33; refine (RetB.grown (valid_any _ _ _ _)).mono ?_; rintro e' w' ⟨rfl, g, rfl⟩)
      | (refine wp_region_xt (by kernel_rfl) (by kernel_rfl) ?_; (repeat (go_big_quiet_step (first | (go_at_call 33; exact RetB.quiet (valid_any _ _ _ _))))); refine wpQuiet_nil ?_; intro g))
    refine bodyPost_ret (v := .tuple #[.agg #[.int .i64 0, .int .i64 0, .int .i64 0], .int .i64 2]) (by simp [results, Try.results10, go_sem]) rfl ?_
    exact RetB.of rfl (by repeat' (first | exact Below.refl _ _ | assumption | refine Below.xt ?_ ?_ _ | refine Below.alloc ?_ ?_ _ | refine Below.drew ?_ | refine Below.setCell ?_ ?_ _ | (simp; done) | (simp; omega)))
  · have hx : vok a b c = false := by simpa using ha
    clear h ha
    go_enter Try.func10, Try.ntmps10
    go_wp2_with (first
      | (go_at_call 33; refine (RetB.grown (valid_any _ _ _ _)).mono ?_; rintro e' w' ⟨rfl, g, rfl⟩)
      | (refine wp_region_xt (by kernel_rfl) (by kernel_rfl) ?_; (repeat (go_big_quiet_step (first | (go_at_call 33; exact RetB.quiet (valid_any _ _ _ _))))); refine wpQuiet_nil ?_; intro g))
    refine bodyPost_ret (v := .tuple #[.agg #[.int .i64 0, .int .i64 0, .int .i64 0], .int .i64 2]) (by simp [results, Try.results10, go_sem]) rfl ?_
    exact RetB.of rfl (by repeat' (first | exact Below.refl _ _ | assumption | refine Below.xt ?_ ?_ _ | refine Below.alloc ?_ ?_ _ | refine Below.drew ?_ | refine Below.setCell ?_ ?_ _ | (simp; done) | (simp; omega)))
set_option maxHeartbeats 400000 in
theorem Sub_ok (a b c x y z : Int) (w : World) (ha : vok a b c = true) (hx : vok x y z = true) :
    Calls Try.prog 11 #[.agg #[.int .i64 a, .int .i64 b, .int .i64 c], .agg #[.int .i64 x, .int .i64 y, .int .i64 z]] w (RetB (.tuple #[.agg #[.int .i64 (outP (a - x) (b - y) (c - z) (a - x)), .int .i64 (outP (a - x) (b - y) (c - z) (b - y)), .int .i64 (outP (a - x) (b - y) (c - z) (c - z))], .int .i64 (outE (a - x) (b - y) (c - z))]) w) := by
  obtain ⟨⟨a1, a2⟩, ⟨b1, b2⟩, c1, c2⟩ := vok_iff.1 ha
  obtain ⟨⟨x1, x2⟩, ⟨y1, y2⟩, z1, z2⟩ := vok_iff.1 hx
  go_enter Try.func11, Try.ntmps11
  go_wp2_with (first
    | (go_at_call 33; refine (RetB.grown (valid_any _ _ _ _)).mono ?_; rintro e' w' ⟨rfl, g, rfl⟩)
    | (go_at_call 39; refine (RetB.grown (join_sub a b c x y z _ (by omega) (by omega) (by omega) (by omega) (by omega) (by omega))).mono ?_; rintro e' w' ⟨rfl, g, rfl⟩)
    | (go_at_call 38; refine (RetB.grown (checked_any _ _ _ _)).mono ?_; rintro e' w' ⟨rfl, g, rfl⟩)
    | (refine wp_region_xt (by kernel_rfl) (by kernel_rfl) ?_; (repeat (go_big_quiet_step (first | (go_at_call 33; exact RetB.quiet (valid_any _ _ _ _)) | (go_at_call 39; exact RetB.quiet (join_sub a b c x y z _ (by omega) (by omega) (by omega) (by omega) (by omega) (by omega))) | (go_at_call 38; exact RetB.quiet (checked_any _ _ _ _))))); refine wpQuiet_nil ?_; intro g))
  refine bodyPost_ret (v := .tuple #[.agg #[.int .i64 (outP (a - x) (b - y) (c - z) (a - x)), .int .i64 (outP (a - x) (b - y) (c - z) (b - y)), .int .i64 (outP (a - x) (b - y) (c - z) (c - z))], .int .i64 (outE (a - x) (b - y) (c - z))]) (by simp [results, Try.results11, go_sem]) rfl ?_
  exact RetB.of rfl (by repeat' (first | exact Below.refl _ _ | assumption | refine Below.xt ?_ ?_ _ | refine Below.alloc ?_ ?_ _ | refine Below.drew ?_ | refine Below.setCell ?_ ?_ _ | (simp; done) | (simp; omega)))
set_option maxHeartbeats 400000 in
theorem Sub_bad (a b c x y z : Int) (w : World) (h : vok a b c = false ∨ vok x y z = false) :
    Calls Try.prog 11 #[.agg #[.int .i64 a, .int .i64 b, .int .i64 c], .agg #[.int .i64 x, .int .i64 y, .int .i64 z]] w (RetB (.tuple #[.agg #[.int .i64 0, .int .i64 0, .int .i64 0], .int .i64 2]) w) := by
  by_cases ha : vok a b c = true
  · have hx : vok x y z = false := by simpa [ha] using h
    clear h
    go_enter Try.func11, Try.ntmps11
    go_wp2_with (first
      | (go_at_call 33; refine (RetB.grown (valid_any _ _ _ _)).mono ?_; rintro e' w' ⟨rfl, g, rfl⟩)
      | (refine wp_region_xt (by kernel_rfl) (by kernel_rfl) ?_; (repeat (go_big_quiet_step (first | (go_at_call 33; exact RetB.quiet (valid_any _ _ _ _))))); refine wpQuiet_nil ?_; intro g))
    refine bodyPost_ret (v := .tuple #[.agg #[.int .i64 0, .int .i64 0, .int .i64 0], .int .i64 2]) (by simp [results, Try.results11, go_sem]) rfl ?_
    exact RetB.of rfl (by repeat' (first | exact Below.refl _ _ | assumption | refine Below.xt ?_ ?_ _ | refine Below.alloc ?_ ?_ _ | refine Below.drew ?_ | refine Below.setCell ?_ ?_ _ | (simp; done) | (simp; omega)))
  · have hx : vok a b c = false := by simpa using ha
    clear h ha
    go_enter Try.func11, Try.ntmps11
    go_wp2_with (first
      | (go_at_call 33; refine (RetB.grown (valid_any _ _ _ _)).mono ?_; rintro e' w' ⟨rfl, g, rfl⟩)
      | (refine wp_region_xt (by kernel_rfl) (by kernel_rfl) ?_; (repeat (go_big_quiet_step (first | (go_at_call 33; exact RetB.quiet (valid_any _ _ _ _))))); refine wpQuiet_nil ?_; intro g))
    refine bodyPost_ret (v := .tuple #[.agg #[.int .i64 0, .int .i64 0, .int .i64 0], .int .i64 2]) (by simp [results, Try.results11, go_sem]) rfl ?_
    exact RetB.of rfl (by repeat' (first | exact Below.refl _ _ | assumption | refine Below.xt ?_ ?_ _ | refine Below.alloc ?_ ?_ _ | refine Below.drew ?_ | refine Below.setCell ?_ ?_ _ | (simp; done) | (simp; omega)))

end Go.Proofs.Ytjgfobknifobhaa

/- Walks of grids, by the reference: which are valid, all spots, one of them, an index. Conditions stand in each theorem. -/
import Derived.Test.YtoaakjkflcjkhaaGrW3
namespace Go.Proofs.Ytoaakjkflcjkhaa
open Go.RowKit
set_option linter.unusedVariables false

set_option maxHeartbeats 400000 in
theorem refPart_any (n : Int) (w : World) : Calls Try.prog 42 #[.int .i64 n] w (Ret (.bool (within n (-1048576) 1048576)) w) := by
  go_enter Try.func42, Try.ntmps42
  go_wp2
  all_goals go_ret
  all_goals refine Ret.of (bool_eq ?_)
  all_goals
    unfold within
    simp
    try omega
set_option maxHeartbeats 400000 in
theorem refPoint_any (x y z : Int) (w : World) : Calls Try.prog 27 #[.agg #[.int .i64 x, .int .i64 y, .int .i64 z]] w (RetB (.bool (ins 1048576 x y z)) w) := by
  by_cases h1 : within x (-1048576) 1048576 = true
  · by_cases h2 : within y (-1048576) 1048576 = true
    · have e : ins 1048576 x y z = within z (-1048576) 1048576 := by simp [ins, h1, h2]
      rw [e]; clear e
      go_enter Try.func27, Try.ntmps27
      go_wp2_with (first
        | (go_at_call 42; refine (refPart_any _ _).mono ?_; rintro e' w' ⟨rfl, rfl⟩)
        | (refine wp_region_xt (by kernel_rfl) (by kernel_rfl) ?_; (repeat (go_big_quiet_step (first | (go_at_call 42; exact Ret.quiet (refPart_any _ _))))); refine wpQuiet_nil ?_; intro g))
      go_ret
      exact RetB.of rfl (by repeat' (first | exact Below.refl _ _ | assumption | refine Below.xt ?_ ?_ _ | refine Below.alloc ?_ ?_ _ | refine Below.drew ?_ | refine Below.setCell ?_ ?_ _ | (simp; done) | (simp; omega)))
    · have h2' : within y (-1048576) 1048576 = false := by simpa using h2
      have e : ins 1048576 x y z = false := by simp [ins, h1, h2']
      rw [e]; clear e h2
      go_enter Try.func27, Try.ntmps27
      go_wp2_with (first
        | (go_at_call 42; refine (refPart_any _ _).mono ?_; rintro e' w' ⟨rfl, rfl⟩)
        | (refine wp_region_xt (by kernel_rfl) (by kernel_rfl) ?_; (repeat (go_big_quiet_step (first | (go_at_call 42; exact Ret.quiet (refPart_any _ _))))); refine wpQuiet_nil ?_; intro g))
      go_ret
      exact RetB.of rfl (by repeat' (first | exact Below.refl _ _ | assumption | refine Below.xt ?_ ?_ _ | refine Below.alloc ?_ ?_ _ | refine Below.drew ?_ | refine Below.setCell ?_ ?_ _ | (simp; done) | (simp; omega)))
  · have h1' : within x (-1048576) 1048576 = false := by simpa using h1
    have e : ins 1048576 x y z = false := by simp [ins, h1']
    rw [e]; clear e h1
    go_enter Try.func27, Try.ntmps27
    go_wp2_with (first
      | (go_at_call 42; refine (refPart_any _ _).mono ?_; rintro e' w' ⟨rfl, rfl⟩)
      | (refine wp_region_xt (by kernel_rfl) (by kernel_rfl) ?_; (repeat (go_big_quiet_step (first | (go_at_call 42; exact Ret.quiet (refPart_any _ _))))); refine wpQuiet_nil ?_; intro g))
    go_ret
    exact RetB.of rfl (by repeat' (first | exact Below.refl _ _ | assumption | refine Below.xt ?_ ?_ _ | refine Below.alloc ?_ ?_ _ | refine Below.drew ?_ | refine Below.setCell ?_ ?_ _ | (simp; done) | (simp; omega)))

set_option maxHeartbeats 400000 in
theorem refspot_any (q : Gd) (row col : Int) (w : World) (h : Fits q row col) :
    Calls Try.prog 34 #[.agg #[.int .i64 q.ox, .int .i64 q.oy, .int .i64 q.oz, .int .i64 q.rows, .int .i64 q.cols, .int .i64 q.sp], .int .i64 row, .int .i64 col] w (RetB (.agg #[.int .i64 (q.pt row col).x, .int .i64 (q.pt row col).y, .int .i64 (q.pt row col).z]) w) := by
  obtain ⟨x1, x2, y1, y2, c1, c2, r1, r2⟩ := h
  go_enter Try.func34, Try.ntmps34
  go_wp2_with (first
    | (refine wp_region_xt (by kernel_rfl) (by kernel_rfl) ?_; (repeat (go_big_quiet_step (first | fail))); refine wpQuiet_nil ?_; intro g))
  refine bodyPost_ret (v := .agg #[.int .i64 (q.pt row col).x, .int .i64 (q.pt row col).y, .int .i64 (q.pt row col).z]) (by simp [results, Try.results34, go_sem, Gd.pt]) rfl ?_
  exact RetB.of rfl (by repeat' (first | exact Below.refl _ _ | assumption | refine Below.xt ?_ ?_ _ | refine Below.alloc ?_ ?_ _ | refine Below.drew ?_ | refine Below.setCell ?_ ?_ _ | (simp; done) | (simp; omega)))

set_option maxHeartbeats 400000 in
theorem refDist_any (a b : V3) (w : World) (ha : pnt a = true) (hb : pnt b = true) : Calls Try.prog 25 #[.agg #[.int .i64 a.x, .int .i64 a.y, .int .i64 a.z], .agg #[.int .i64 b.x, .int .i64 b.y, .int .i64 b.z]] w (RetB (.int .i64 (d2 a b)) w) := by
  have h1 := pnt_iff.1 ha
  have h2 := pnt_iff.1 hb
  obtain ⟨p1, p2⟩ := prod2_le (a := a.x - b.x) (b := a.x - b.x) (by omega) (by omega)
  obtain ⟨p3, p4⟩ := prod2_le (a := a.y - b.y) (b := a.y - b.y) (by omega) (by omega)
  obtain ⟨p5, p6⟩ := prod2_le (a := a.z - b.z) (b := a.z - b.z) (by omega) (by omega)
  obtain ⟨⟨x1, x2⟩, ⟨y1, y2⟩, z1, z2⟩ := h1
  obtain ⟨⟨x3, x4⟩, ⟨y3, y4⟩, z3, z4⟩ := h2
  clear ha hb
  have w1 : IntKind.i64.wrap (a.x - b.x) = a.x - b.x := IntWalk.i64_in _ (by omega)
  have w2 : IntKind.i64.wrap (a.y - b.y) = a.y - b.y := IntWalk.i64_in _ (by omega)
  have w3 : IntKind.i64.wrap (a.z - b.z) = a.z - b.z := IntWalk.i64_in _ (by omega)
  go_enter Try.func25, Try.ntmps25
  go_wp2_with (first
    | (refine wp_region_xt (by kernel_rfl) (by kernel_rfl) ?_; (repeat (go_big_quiet_step (first | fail))); refine wpQuiet_nil ?_; intro g))
  go_ret
  exact RetB.of rfl (by repeat' (first | exact Below.refl _ _ | assumption | refine Below.xt ?_ ?_ _ | refine Below.alloc ?_ ?_ _ | refine Below.drew ?_ | refine Below.setCell ?_ ?_ _ | (simp; done) | (simp; omega)))

set_option maxHeartbeats 400000 in
theorem refvalid_p (q : Gd) (w : World) (h1 : ins 1048576 q.ox q.oy q.oz = false) : Calls Try.prog 14 #[.agg #[.int .i64 q.ox, .int .i64 q.oy, .int .i64 q.oz, .int .i64 q.rows, .int .i64 q.cols, .int .i64 q.sp]] w (RetB (.bool false) w) := by
  go_enter Try.func14, Try.ntmps14
  go_wp2_with (first
    | (go_at_call 27; refine (RetB.grown (refPoint_any _ _ _ _)).mono ?_; rintro e' w' ⟨rfl, g, rfl⟩)
    | (refine wp_region_xt (by kernel_rfl) (by kernel_rfl) ?_; (repeat (go_big_quiet_step (first | (go_at_call 27; exact RetB.quiet (refPoint_any _ _ _ _))))); refine wpQuiet_nil ?_; intro g))
  go_ret
  exact RetB.of rfl (by repeat' (first | exact Below.refl _ _ | assumption | refine Below.xt ?_ ?_ _ | refine Below.alloc ?_ ?_ _ | refine Below.drew ?_ | refine Below.setCell ?_ ?_ _ | (simp; done) | (simp; omega)))
set_option maxHeartbeats 400000 in
theorem refvalid_ra (q : Gd) (w : World) (h1 : ins 1048576 q.ox q.oy q.oz = true) (h2 : decide (q.rows < 1) = true) : Calls Try.prog 14 #[.agg #[.int .i64 q.ox, .int .i64 q.oy, .int .i64 q.oz, .int .i64 q.rows, .int .i64 q.cols, .int .i64 q.sp]] w (RetB (.bool false) w) := by
  go_enter Try.func14, Try.ntmps14
  go_wp2_with (first
    | (go_at_call 27; refine (RetB.grown (refPoint_any _ _ _ _)).mono ?_; rintro e' w' ⟨rfl, g, rfl⟩)
    | (refine wp_region_xt (by kernel_rfl) (by kernel_rfl) ?_; (repeat (go_big_quiet_step (first | (go_at_call 27; exact RetB.quiet (refPoint_any _ _ _ _))))); refine wpQuiet_nil ?_; intro g))
  go_ret
  exact RetB.of rfl (by repeat' (first | exact Below.refl _ _ | assumption | refine Below.xt ?_ ?_ _ | refine Below.alloc ?_ ?_ _ | refine Below.drew ?_ | refine Below.setCell ?_ ?_ _ | (simp; done) | (simp; omega)))
set_option maxHeartbeats 400000 in
theorem refvalid_rb (q : Gd) (w : World) (h1 : ins 1048576 q.ox q.oy q.oz = true) (h2 : decide (q.rows < 1) = false) (h3 : decide (256 < q.rows) = true) : Calls Try.prog 14 #[.agg #[.int .i64 q.ox, .int .i64 q.oy, .int .i64 q.oz, .int .i64 q.rows, .int .i64 q.cols, .int .i64 q.sp]] w (RetB (.bool false) w) := by
  go_enter Try.func14, Try.ntmps14
  go_wp2_with (first
    | (go_at_call 27; refine (RetB.grown (refPoint_any _ _ _ _)).mono ?_; rintro e' w' ⟨rfl, g, rfl⟩)
    | (refine wp_region_xt (by kernel_rfl) (by kernel_rfl) ?_; (repeat (go_big_quiet_step (first | (go_at_call 27; exact RetB.quiet (refPoint_any _ _ _ _))))); refine wpQuiet_nil ?_; intro g))
  go_ret
  exact RetB.of rfl (by repeat' (first | exact Below.refl _ _ | assumption | refine Below.xt ?_ ?_ _ | refine Below.alloc ?_ ?_ _ | refine Below.drew ?_ | refine Below.setCell ?_ ?_ _ | (simp; done) | (simp; omega)))
set_option maxHeartbeats 400000 in
theorem refvalid_ca (q : Gd) (w : World) (h1 : ins 1048576 q.ox q.oy q.oz = true) (h2 : decide (q.rows < 1) = false) (h3 : decide (256 < q.rows) = false) (h4 : decide (q.cols < 1) = true) : Calls Try.prog 14 #[.agg #[.int .i64 q.ox, .int .i64 q.oy, .int .i64 q.oz, .int .i64 q.rows, .int .i64 q.cols, .int .i64 q.sp]] w (RetB (.bool false) w) := by
  go_enter Try.func14, Try.ntmps14
  go_wp2_with (first
    | (go_at_call 27; refine (RetB.grown (refPoint_any _ _ _ _)).mono ?_; rintro e' w' ⟨rfl, g, rfl⟩)
    | (refine wp_region_xt (by kernel_rfl) (by kernel_rfl) ?_; (repeat (go_big_quiet_step (first | (go_at_call 27; exact RetB.quiet (refPoint_any _ _ _ _))))); refine wpQuiet_nil ?_; intro g))
  go_ret
  exact RetB.of rfl (by repeat' (first | exact Below.refl _ _ | assumption | refine Below.xt ?_ ?_ _ | refine Below.alloc ?_ ?_ _ | refine Below.drew ?_ | refine Below.setCell ?_ ?_ _ | (simp; done) | (simp; omega)))
set_option maxHeartbeats 400000 in
theorem refvalid_cb (q : Gd) (w : World) (h1 : ins 1048576 q.ox q.oy q.oz = true) (h2 : decide (q.rows < 1) = false) (h3 : decide (256 < q.rows) = false) (h4 : decide (q.cols < 1) = false) (h5 : decide (256 < q.cols) = true) : Calls Try.prog 14 #[.agg #[.int .i64 q.ox, .int .i64 q.oy, .int .i64 q.oz, .int .i64 q.rows, .int .i64 q.cols, .int .i64 q.sp]] w (RetB (.bool false) w) := by
  go_enter Try.func14, Try.ntmps14
  go_wp2_with (first
    | (go_at_call 27; refine (RetB.grown (refPoint_any _ _ _ _)).mono ?_; rintro e' w' ⟨rfl, g, rfl⟩)
    | (refine wp_region_xt (by kernel_rfl) (by kernel_rfl) ?_; (repeat (go_big_quiet_step (first | (go_at_call 27; exact RetB.quiet (refPoint_any _ _ _ _))))); refine wpQuiet_nil ?_; intro g))
  go_ret
  exact RetB.of rfl (by repeat' (first | exact Below.refl _ _ | assumption | refine Below.xt ?_ ?_ _ | refine Below.alloc ?_ ?_ _ | refine Below.drew ?_ | refine Below.setCell ?_ ?_ _ | (simp; done) | (simp; omega)))
set_option maxHeartbeats 400000 in
theorem refvalid_cc (q : Gd) (w : World) (h1 : ins 1048576 q.ox q.oy q.oz = true) (h2 : decide (q.rows < 1) = false) (h3 : decide (256 < q.rows) = false) (h4 : decide (q.cols < 1) = false) (h5 : decide (256 < q.cols) = false) (b1 : 0 ≤ q.rows * q.cols) (b2 : q.rows * q.cols ≤ 65536) (h8 : decide (256 < q.rows * q.cols) = true) : Calls Try.prog 14 #[.agg #[.int .i64 q.ox, .int .i64 q.oy, .int .i64 q.oz, .int .i64 q.rows, .int .i64 q.cols, .int .i64 q.sp]] w (RetB (.bool false) w) := by
  go_enter Try.func14, Try.ntmps14
  go_wp2_with (first
    | (go_at_call 27; refine (RetB.grown (refPoint_any _ _ _ _)).mono ?_; rintro e' w' ⟨rfl, g, rfl⟩)
    | (refine wp_region_xt (by kernel_rfl) (by kernel_rfl) ?_; (repeat (go_big_quiet_step (first | (go_at_call 27; exact RetB.quiet (refPoint_any _ _ _ _))))); refine wpQuiet_nil ?_; intro g))
  go_ret
  exact RetB.of rfl (by repeat' (first | exact Below.refl _ _ | assumption | refine Below.xt ?_ ?_ _ | refine Below.alloc ?_ ?_ _ | refine Below.drew ?_ | refine Below.setCell ?_ ?_ _ | (simp; done) | (simp; omega)))
set_option maxHeartbeats 400000 in
theorem refvalid_sa (q : Gd) (w : World) (h1 : ins 1048576 q.ox q.oy q.oz = true) (h2 : decide (q.rows < 1) = false) (h3 : decide (256 < q.rows) = false) (h4 : decide (q.cols < 1) = false) (h5 : decide (256 < q.cols) = false) (b1 : 0 ≤ q.rows * q.cols) (b2 : q.rows * q.cols ≤ 65536) (h8 : decide (256 < q.rows * q.cols) = false) (h6 : decide (q.sp < 1) = true) : Calls Try.prog 14 #[.agg #[.int .i64 q.ox, .int .i64 q.oy, .int .i64 q.oz, .int .i64 q.rows, .int .i64 q.cols, .int .i64 q.sp]] w (RetB (.bool false) w) := by
  go_enter Try.func14, Try.ntmps14
  go_wp2_with (first
    | (go_at_call 27; refine (RetB.grown (refPoint_any _ _ _ _)).mono ?_; rintro e' w' ⟨rfl, g, rfl⟩)
    | (refine wp_region_xt (by kernel_rfl) (by kernel_rfl) ?_; (repeat (go_big_quiet_step (first | (go_at_call 27; exact RetB.quiet (refPoint_any _ _ _ _))))); refine wpQuiet_nil ?_; intro g))
  go_ret
  exact RetB.of rfl (by repeat' (first | exact Below.refl _ _ | assumption | refine Below.xt ?_ ?_ _ | refine Below.alloc ?_ ?_ _ | refine Below.drew ?_ | refine Below.setCell ?_ ?_ _ | (simp; done) | (simp; omega)))
set_option maxHeartbeats 400000 in
theorem refvalid_sb (q : Gd) (w : World) (h1 : ins 1048576 q.ox q.oy q.oz = true) (h2 : decide (q.rows < 1) = false) (h3 : decide (256 < q.rows) = false) (h4 : decide (q.cols < 1) = false) (h5 : decide (256 < q.cols) = false) (b1 : 0 ≤ q.rows * q.cols) (b2 : q.rows * q.cols ≤ 65536) (h8 : decide (256 < q.rows * q.cols) = false) (h6 : decide (q.sp < 1) = false) (h7 : decide (1048576 < q.sp) = true) : Calls Try.prog 14 #[.agg #[.int .i64 q.ox, .int .i64 q.oy, .int .i64 q.oz, .int .i64 q.rows, .int .i64 q.cols, .int .i64 q.sp]] w (RetB (.bool false) w) := by
  go_enter Try.func14, Try.ntmps14
  go_wp2_with (first
    | (go_at_call 27; refine (RetB.grown (refPoint_any _ _ _ _)).mono ?_; rintro e' w' ⟨rfl, g, rfl⟩)
    | (refine wp_region_xt (by kernel_rfl) (by kernel_rfl) ?_; (repeat (go_big_quiet_step (first | (go_at_call 27; exact RetB.quiet (refPoint_any _ _ _ _))))); refine wpQuiet_nil ?_; intro g))
  go_ret
  exact RetB.of rfl (by repeat' (first | exact Below.refl _ _ | assumption | refine Below.xt ?_ ?_ _ | refine Below.alloc ?_ ?_ _ | refine Below.drew ?_ | refine Below.setCell ?_ ?_ _ | (simp; done) | (simp; omega)))

set_option maxHeartbeats 400000 in
theorem refvalid_last (q : Gd) (w : World) (h1 : ins 1048576 q.ox q.oy q.oz = true) (hd : q.dims) :
    Calls Try.prog 14 #[.agg #[.int .i64 q.ox, .int .i64 q.oy, .int .i64 q.oz, .int .i64 q.rows, .int .i64 q.cols, .int .i64 q.sp]] w (RetB (.bool (pnt (q.pt (q.rows - 1) (q.cols - 1)))) w) := by
  have F := fits_of h1 hd (r := q.rows - 1) (c := q.cols - 1) (by have := hd.1; omega) (by have := hd.2.1; omega) (by have := hd.2.2.1; omega) (by have := hd.2.2.2.1; omega)
  have b1 : 0 ≤ q.rows * q.cols := by have := g_n hd; omega
  obtain ⟨d1, d2, d3, d4, d5, s1, s2⟩ := hd
  have h2 : decide (q.rows < 1) = false := by simp; omega
  have h3 : decide (256 < q.rows) = false := by simp; omega
  have h4 : decide (q.cols < 1) = false := by simp; omega
  have h5 : decide (256 < q.cols) = false := by simp; omega
  have h8 : decide (256 < q.rows * q.cols) = false := by simp; omega
  have h6 : decide (q.sp < 1) = false := by simp; omega
  have h7 : decide (1048576 < q.sp) = false := by simp; omega
  have HF := Lib.hid F
  clear F
  go_enter Try.func14, Try.ntmps14
  go_wp2_with (first
    | (go_at_call 27; refine (RetB.grown (refPoint_any _ _ _ _)).mono ?_; rintro e' w' ⟨rfl, g, rfl⟩)
    | (go_at_call 34; refine (RetB.grown (refspot_any q _ _ _ HF.out)).mono ?_; rintro e' w' ⟨rfl, g, rfl⟩)
    | (refine wp_region_xt (by kernel_rfl) (by kernel_rfl) ?_; (repeat (go_big_quiet_step (first | (go_at_call 27; exact RetB.quiet (refPoint_any _ _ _ _)) | (go_at_call 34; exact RetB.quiet (refspot_any q _ _ _ HF.out))))); refine wpQuiet_nil ?_; intro g))
  go_ret
  exact RetB.of rfl (by repeat' (first | exact Below.refl _ _ | assumption | refine Below.xt ?_ ?_ _ | refine Below.alloc ?_ ?_ _ | refine Below.drew ?_ | refine Below.setCell ?_ ?_ _ | (simp; done) | (simp; omega)))

theorem refvalid_any (q : Gd) (w : World) : Calls Try.prog 14 #[.agg #[.int .i64 q.ox, .int .i64 q.oy, .int .i64 q.oz, .int .i64 q.rows, .int .i64 q.cols, .int .i64 q.sp]] w (RetB (.bool (gval q)) w) := by
  by_cases h1 : ins 1048576 q.ox q.oy q.oz = true
  · have no : ¬ q.dims → gval q = false := fun h => by simp [gval, h]
    by_cases h2 : q.rows < 1
    · rw [no (by unfold Gd.dims; omega)]; exact refvalid_ra q w h1 (by simpa using h2)
    have h2' : decide (q.rows < 1) = false := by simpa using h2
    by_cases h3 : 256 < q.rows
    · rw [no (by unfold Gd.dims; omega)]; exact refvalid_rb q w h1 h2' (by simpa using h3)
    have h3' : decide (256 < q.rows) = false := by simpa using h3
    by_cases h4 : q.cols < 1
    · rw [no (by unfold Gd.dims; omega)]; exact refvalid_ca q w h1 h2' h3' (by simpa using h4)
    have h4' : decide (q.cols < 1) = false := by simpa using h4
    by_cases h5 : 256 < q.cols
    · rw [no (by unfold Gd.dims; omega)]; exact refvalid_cb q w h1 h2' h3' h4' (by simpa using h5)
    have h5' : decide (256 < q.cols) = false := by simpa using h5
    have b1 : 0 ≤ q.rows * q.cols := Int.mul_nonneg (by omega) (by omega)
    have b2 : q.rows * q.cols ≤ 65536 := by
      have := Int.mul_le_mul (show q.rows ≤ 256 by omega) (show q.cols ≤ 256 by omega) (by omega) (by omega)
      omega
    by_cases h8 : 256 < q.rows * q.cols
    · rw [no (by unfold Gd.dims; omega)]; exact refvalid_cc q w h1 h2' h3' h4' h5' b1 b2 (by simpa using h8)
    have h8' : decide (256 < q.rows * q.cols) = false := by simpa using h8
    by_cases h6 : q.sp < 1
    · rw [no (by unfold Gd.dims; omega)]; exact refvalid_sa q w h1 h2' h3' h4' h5' b1 b2 h8' (by simpa using h6)
    have h6' : decide (q.sp < 1) = false := by simpa using h6
    by_cases h7 : 1048576 < q.sp
    · rw [no (by unfold Gd.dims; omega)]; exact refvalid_sb q w h1 h2' h3' h4' h5' b1 b2 h8' h6' (by simpa using h7)
    have hd : q.dims := ⟨by omega, by omega, by omega, by omega, by omega, by omega, by omega⟩
    have e : gval q = pnt (q.pt (q.rows - 1) (q.cols - 1)) := by simp [gval, h1, hd]
    rw [e]
    exact refvalid_last q w h1 hd
  · have h1' : ins 1048576 q.ox q.oy q.oz = false := by simpa using h1
    rw [show gval q = false by simp [gval, h1']]
    exact refvalid_p q w h1'

set_option maxHeartbeats 400000 in
theorem refIndex_a (q : Gd) (row col : Int) (w : World) (h : gval q = false) : Calls Try.prog 12 #[.agg #[.int .i64 q.ox, .int .i64 q.oy, .int .i64 q.oz, .int .i64 q.rows, .int .i64 q.cols, .int .i64 q.sp], .int .i64 row, .int .i64 col] w (RetB (.tuple #[.int .i64 0, .int .i64 2]) w) := by
  go_enter Try.func12, Try.ntmps12
  go_wp2_with (first
    | (go_at_call 14; refine (RetB.grown (refvalid_any q _)).mono ?_; rintro e' w' ⟨rfl, g, rfl⟩)
    | (refine wp_region_xt (by kernel_rfl) (by kernel_rfl) ?_; (repeat (go_big_quiet_step (first | (go_at_call 14; exact RetB.quiet (refvalid_any q _))))); refine wpQuiet_nil ?_; intro g))
  go_ret2
  exact RetB.of rfl (by repeat' (first | exact Below.refl _ _ | assumption | refine Below.xt ?_ ?_ _ | refine Below.alloc ?_ ?_ _ | refine Below.drew ?_ | refine Below.setCell ?_ ?_ _ | (simp; done) | (simp; omega)))
set_option maxHeartbeats 400000 in
theorem refIndex_b (q : Gd) (row col : Int) (w : World) (h : gval q = true) (g1 : decide (row < 0) = true) : Calls Try.prog 12 #[.agg #[.int .i64 q.ox, .int .i64 q.oy, .int .i64 q.oz, .int .i64 q.rows, .int .i64 q.cols, .int .i64 q.sp], .int .i64 row, .int .i64 col] w (RetB (.tuple #[.int .i64 0, .int .i64 3]) w) := by
  go_enter Try.func12, Try.ntmps12
  go_wp2_with (first
    | (go_at_call 14; refine (RetB.grown (refvalid_any q _)).mono ?_; rintro e' w' ⟨rfl, g, rfl⟩)
    | (refine wp_region_xt (by kernel_rfl) (by kernel_rfl) ?_; (repeat (go_big_quiet_step (first | (go_at_call 14; exact RetB.quiet (refvalid_any q _))))); refine wpQuiet_nil ?_; intro g))
  go_ret2
  exact RetB.of rfl (by repeat' (first | exact Below.refl _ _ | assumption | refine Below.xt ?_ ?_ _ | refine Below.alloc ?_ ?_ _ | refine Below.drew ?_ | refine Below.setCell ?_ ?_ _ | (simp; done) | (simp; omega)))
set_option maxHeartbeats 400000 in
theorem refIndex_c (q : Gd) (row col : Int) (w : World) (h : gval q = true) (g1 : decide (row < 0) = false) (g2 : decide (q.rows ≤ row) = true) : Calls Try.prog 12 #[.agg #[.int .i64 q.ox, .int .i64 q.oy, .int .i64 q.oz, .int .i64 q.rows, .int .i64 q.cols, .int .i64 q.sp], .int .i64 row, .int .i64 col] w (RetB (.tuple #[.int .i64 0, .int .i64 3]) w) := by
  go_enter Try.func12, Try.ntmps12
  go_wp2_with (first
    | (go_at_call 14; refine (RetB.grown (refvalid_any q _)).mono ?_; rintro e' w' ⟨rfl, g, rfl⟩)
    | (refine wp_region_xt (by kernel_rfl) (by kernel_rfl) ?_; (repeat (go_big_quiet_step (first | (go_at_call 14; exact RetB.quiet (refvalid_any q _))))); refine wpQuiet_nil ?_; intro g))
  go_ret2
  exact RetB.of rfl (by repeat' (first | exact Below.refl _ _ | assumption | refine Below.xt ?_ ?_ _ | refine Below.alloc ?_ ?_ _ | refine Below.drew ?_ | refine Below.setCell ?_ ?_ _ | (simp; done) | (simp; omega)))
set_option maxHeartbeats 400000 in
theorem refIndex_d (q : Gd) (row col : Int) (w : World) (h : gval q = true) (g1 : decide (row < 0) = false) (g2 : decide (q.rows ≤ row) = false) (g3 : decide (col < 0) = true) : Calls Try.prog 12 #[.agg #[.int .i64 q.ox, .int .i64 q.oy, .int .i64 q.oz, .int .i64 q.rows, .int .i64 q.cols, .int .i64 q.sp], .int .i64 row, .int .i64 col] w (RetB (.tuple #[.int .i64 0, .int .i64 3]) w) := by
  go_enter Try.func12, Try.ntmps12
  go_wp2_with (first
    | (go_at_call 14; refine (RetB.grown (refvalid_any q _)).mono ?_; rintro e' w' ⟨rfl, g, rfl⟩)
    | (refine wp_region_xt (by kernel_rfl) (by kernel_rfl) ?_; (repeat (go_big_quiet_step (first | (go_at_call 14; exact RetB.quiet (refvalid_any q _))))); refine wpQuiet_nil ?_; intro g))
  go_ret2
  exact RetB.of rfl (by repeat' (first | exact Below.refl _ _ | assumption | refine Below.xt ?_ ?_ _ | refine Below.alloc ?_ ?_ _ | refine Below.drew ?_ | refine Below.setCell ?_ ?_ _ | (simp; done) | (simp; omega)))
set_option maxHeartbeats 400000 in
theorem refIndex_e (q : Gd) (row col : Int) (w : World) (h : gval q = true) (g1 : decide (row < 0) = false) (g2 : decide (q.rows ≤ row) = false) (g3 : decide (col < 0) = false) (g4 : decide (q.cols ≤ col) = true) : Calls Try.prog 12 #[.agg #[.int .i64 q.ox, .int .i64 q.oy, .int .i64 q.oz, .int .i64 q.rows, .int .i64 q.cols, .int .i64 q.sp], .int .i64 row, .int .i64 col] w (RetB (.tuple #[.int .i64 0, .int .i64 3]) w) := by
  go_enter Try.func12, Try.ntmps12
  go_wp2_with (first
    | (go_at_call 14; refine (RetB.grown (refvalid_any q _)).mono ?_; rintro e' w' ⟨rfl, g, rfl⟩)
    | (refine wp_region_xt (by kernel_rfl) (by kernel_rfl) ?_; (repeat (go_big_quiet_step (first | (go_at_call 14; exact RetB.quiet (refvalid_any q _))))); refine wpQuiet_nil ?_; intro g))
  go_ret2
  exact RetB.of rfl (by repeat' (first | exact Below.refl _ _ | assumption | refine Below.xt ?_ ?_ _ | refine Below.alloc ?_ ?_ _ | refine Below.drew ?_ | refine Below.setCell ?_ ?_ _ | (simp; done) | (simp; omega)))
set_option maxHeartbeats 400000 in
theorem refIndex_f (q : Gd) (row col : Int) (w : World) (h : gval q = true) (g1 : decide (row < 0) = false) (g2 : decide (q.rows ≤ row) = false) (g3 : decide (col < 0) = false) (g4 : decide (q.cols ≤ col) = false) (b1 : -1073741824 ≤ row * q.cols) (b2 : row * q.cols ≤ 1073741824) (b3 : -1073741824 ≤ col) (b4 : col ≤ 1073741824) : Calls Try.prog 12 #[.agg #[.int .i64 q.ox, .int .i64 q.oy, .int .i64 q.oz, .int .i64 q.rows, .int .i64 q.cols, .int .i64 q.sp], .int .i64 row, .int .i64 col] w (RetB (.tuple #[.int .i64 (row * q.cols + col), .int .i64 0]) w) := by
  go_enter Try.func12, Try.ntmps12
  go_wp2_with (first
    | (go_at_call 14; refine (RetB.grown (refvalid_any q _)).mono ?_; rintro e' w' ⟨rfl, g, rfl⟩)
    | (refine wp_region_xt (by kernel_rfl) (by kernel_rfl) ?_; (repeat (go_big_quiet_step (first | (go_at_call 14; exact RetB.quiet (refvalid_any q _))))); refine wpQuiet_nil ?_; intro g))
  go_ret2
  exact RetB.of rfl (by repeat' (first | exact Below.refl _ _ | assumption | refine Below.xt ?_ ?_ _ | refine Below.alloc ?_ ?_ _ | refine Below.drew ?_ | refine Below.setCell ?_ ?_ _ | (simp; done) | (simp; omega)))
theorem refIndex_any (q : Gd) (row col : Int) (w : World) : Calls Try.prog 12 #[.agg #[.int .i64 q.ox, .int .i64 q.oy, .int .i64 q.oz, .int .i64 q.rows, .int .i64 q.cols, .int .i64 q.sp], .int .i64 row, .int .i64 col] w (RetB (.tuple #[.int .i64 (rcI q row col), .int .i64 (rcE q row col)]) w) := by
  by_cases h : gval q = true
  · by_cases h1 : row < 0
    · have e : rcE q row col = 3 := by rw [rcE, if_pos h, if_neg (by omega)]
      rw [rcI, e]; exact refIndex_b q row col w h (by simpa using h1)
    have g1 : decide (row < 0) = false := by simpa using h1
    by_cases h2 : q.rows ≤ row
    · have e : rcE q row col = 3 := by rw [rcE, if_pos h, if_neg (by omega)]
      rw [rcI, e]; exact refIndex_c q row col w h g1 (by simpa using h2)
    have g2 : decide (q.rows ≤ row) = false := by simpa using h2
    by_cases h3 : col < 0
    · have e : rcE q row col = 3 := by rw [rcE, if_pos h, if_neg (by omega)]
      rw [rcI, e]; exact refIndex_d q row col w h g1 g2 (by simpa using h3)
    have g3 : decide (col < 0) = false := by simpa using h3
    by_cases h4 : q.cols ≤ col
    · have e : rcE q row col = 3 := by rw [rcE, if_pos h, if_neg (by omega)]
      rw [rcI, e]; exact refIndex_e q row col w h g1 g2 g3 (by simpa using h4)
    have g4 : decide (q.cols ≤ col) = false := by simpa using h4
    have e : rcE q row col = 0 := by rw [rcE, if_pos h, if_pos (by omega)]
    have hb := rc_bd (gval_iff.1 h).2.1 (row := row) (col := col) (by omega)
    rw [rcI, e]
    exact refIndex_f q row col w h g1 g2 g3 g4 (by omega) (by omega) (by omega) (by omega)
  · have e : rcE q row col = 2 := by rw [rcE, if_neg h]
    rw [rcI, e]; exact refIndex_a q row col w (by simpa using h)

end Go.Proofs.Ytoaakjkflcjkhaa

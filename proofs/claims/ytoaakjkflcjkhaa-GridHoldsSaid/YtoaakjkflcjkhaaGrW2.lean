/- Walks of grids, by the program: which are valid, one spot, an index. Conditions stand in each theorem. -/
import Derived.Test.YtoaakjkflcjkhaaGrW1
namespace Go.Proofs.Ytoaakjkflcjkhaa
open Go.RowKit
set_option linter.unusedVariables false

theorem ins_bd {a b c : Int} (h : ins 1048576 a b c = true) : (-1048576 ≤ a ∧ a ≤ 1048576) ∧ (-1048576 ≤ b ∧ b ≤ 1048576) ∧ (-1048576 ≤ c ∧ c ≤ 1048576) := ins_iff.1 h
theorem fits_of {q : Gd} (ho : ins 1048576 q.ox q.oy q.oz = true) (h : q.dims) {r c : Int} (r0 : -1 ≤ r) (r1 : r ≤ 256) (c0 : -1 ≤ c) (c1 : c ≤ 256) : Fits q r c := by
  obtain ⟨⟨a1, a2⟩, a3, a4⟩ := g_add h r0 r1 c0 c1
  obtain ⟨⟨b1, b2⟩, ⟨b3, b4⟩, _⟩ := ins_bd ho
  exact ⟨by omega, by omega, by omega, by omega, by omega, by omega, by omega, by omega⟩

set_option maxHeartbeats 400000 in
theorem gvalid_p (q : Gd) (w : World) (h1 : ins 1048576 q.ox q.oy q.oz = false) : Calls Try.prog 13 #[.agg #[.int .i64 q.ox, .int .i64 q.oy, .int .i64 q.oz, .int .i64 q.rows, .int .i64 q.cols, .int .i64 q.sp]] w (RetB (.bool false) w) := by
  go_enter Try.func13, Try.ntmps13
  go_wp2_with (first
    | (go_at_call 33; refine (RetB.grown (point_any _ _ _ _)).mono ?_; rintro e' w' ⟨rfl, g, rfl⟩)
    | (refine wp_region_xt (by kernel_rfl) (by kernel_rfl) ?_; (repeat (go_big_quiet_step (first | (go_at_call 33; exact RetB.quiet (point_any _ _ _ _))))); refine wpQuiet_nil ?_; intro g))
  go_ret
  exact RetB.of rfl (by repeat' (first | exact Below.refl _ _ | assumption | refine Below.xt ?_ ?_ _ | refine Below.alloc ?_ ?_ _ | refine Below.drew ?_ | refine Below.setCell ?_ ?_ _ | (simp; done) | (simp; omega)))
set_option maxHeartbeats 400000 in
theorem gvalid_ra (q : Gd) (w : World) (h1 : ins 1048576 q.ox q.oy q.oz = true) (h2 : decide (q.rows < 1) = true) : Calls Try.prog 13 #[.agg #[.int .i64 q.ox, .int .i64 q.oy, .int .i64 q.oz, .int .i64 q.rows, .int .i64 q.cols, .int .i64 q.sp]] w (RetB (.bool false) w) := by
  go_enter Try.func13, Try.ntmps13
  go_wp2_with (first
    | (go_at_call 33; refine (RetB.grown (point_any _ _ _ _)).mono ?_; rintro e' w' ⟨rfl, g, rfl⟩)
    | (refine wp_region_xt (by kernel_rfl) (by kernel_rfl) ?_; (repeat (go_big_quiet_step (first | (go_at_call 33; exact RetB.quiet (point_any _ _ _ _))))); refine wpQuiet_nil ?_; intro g))
  go_ret
  exact RetB.of rfl (by repeat' (first | exact Below.refl _ _ | assumption | refine Below.xt ?_ ?_ _ | refine Below.alloc ?_ ?_ _ | refine Below.drew ?_ | refine Below.setCell ?_ ?_ _ | (simp; done) | (simp; omega)))
set_option maxHeartbeats 400000 in
theorem gvalid_rb (q : Gd) (w : World) (h1 : ins 1048576 q.ox q.oy q.oz = true) (h2 : decide (q.rows < 1) = false) (h3 : decide (256 < q.rows) = true) : Calls Try.prog 13 #[.agg #[.int .i64 q.ox, .int .i64 q.oy, .int .i64 q.oz, .int .i64 q.rows, .int .i64 q.cols, .int .i64 q.sp]] w (RetB (.bool false) w) := by
  go_enter Try.func13, Try.ntmps13
  go_wp2_with (first
    | (go_at_call 33; refine (RetB.grown (point_any _ _ _ _)).mono ?_; rintro e' w' ⟨rfl, g, rfl⟩)
    | (refine wp_region_xt (by kernel_rfl) (by kernel_rfl) ?_; (repeat (go_big_quiet_step (first | (go_at_call 33; exact RetB.quiet (point_any _ _ _ _))))); refine wpQuiet_nil ?_; intro g))
  go_ret
  exact RetB.of rfl (by repeat' (first | exact Below.refl _ _ | assumption | refine Below.xt ?_ ?_ _ | refine Below.alloc ?_ ?_ _ | refine Below.drew ?_ | refine Below.setCell ?_ ?_ _ | (simp; done) | (simp; omega)))
set_option maxHeartbeats 400000 in
theorem gvalid_ca (q : Gd) (w : World) (h1 : ins 1048576 q.ox q.oy q.oz = true) (h2 : decide (q.rows < 1) = false) (h3 : decide (256 < q.rows) = false) (h4 : decide (q.cols < 1) = true) : Calls Try.prog 13 #[.agg #[.int .i64 q.ox, .int .i64 q.oy, .int .i64 q.oz, .int .i64 q.rows, .int .i64 q.cols, .int .i64 q.sp]] w (RetB (.bool false) w) := by
  go_enter Try.func13, Try.ntmps13
  go_wp2_with (first
    | (go_at_call 33; refine (RetB.grown (point_any _ _ _ _)).mono ?_; rintro e' w' ⟨rfl, g, rfl⟩)
    | (refine wp_region_xt (by kernel_rfl) (by kernel_rfl) ?_; (repeat (go_big_quiet_step (first | (go_at_call 33; exact RetB.quiet (point_any _ _ _ _))))); refine wpQuiet_nil ?_; intro g))
  go_ret
  exact RetB.of rfl (by repeat' (first | exact Below.refl _ _ | assumption | refine Below.xt ?_ ?_ _ | refine Below.alloc ?_ ?_ _ | refine Below.drew ?_ | refine Below.setCell ?_ ?_ _ | (simp; done) | (simp; omega)))
set_option maxHeartbeats 400000 in
theorem gvalid_cb (q : Gd) (w : World) (h1 : ins 1048576 q.ox q.oy q.oz = true) (h2 : decide (q.rows < 1) = false) (h3 : decide (256 < q.rows) = false) (h4 : decide (q.cols < 1) = false) (h5 : decide (256 / q.rows < q.cols) = true) (hr : 1 ≤ q.rows) : Calls Try.prog 13 #[.agg #[.int .i64 q.ox, .int .i64 q.oy, .int .i64 q.oz, .int .i64 q.rows, .int .i64 q.cols, .int .i64 q.sp]] w (RetB (.bool false) w) := by
  go_enter Try.func13, Try.ntmps13
  go_wp2_with (first
    | (go_at_call 33; refine (RetB.grown (point_any _ _ _ _)).mono ?_; rintro e' w' ⟨rfl, g, rfl⟩)
    | (refine wp_region_xt (by kernel_rfl) (by kernel_rfl) ?_; (repeat (go_big_quiet_step (first | (go_at_call 33; exact RetB.quiet (point_any _ _ _ _))))); refine wpQuiet_nil ?_; intro g))
  go_ret
  exact RetB.of rfl (by repeat' (first | exact Below.refl _ _ | assumption | refine Below.xt ?_ ?_ _ | refine Below.alloc ?_ ?_ _ | refine Below.drew ?_ | refine Below.setCell ?_ ?_ _ | (simp; done) | (simp; omega)))
set_option maxHeartbeats 400000 in
theorem gvalid_sa (q : Gd) (w : World) (h1 : ins 1048576 q.ox q.oy q.oz = true) (h2 : decide (q.rows < 1) = false) (h3 : decide (256 < q.rows) = false) (h4 : decide (q.cols < 1) = false) (h5 : decide (256 / q.rows < q.cols) = false) (hr : 1 ≤ q.rows) (h6 : decide (q.sp < 1) = true) : Calls Try.prog 13 #[.agg #[.int .i64 q.ox, .int .i64 q.oy, .int .i64 q.oz, .int .i64 q.rows, .int .i64 q.cols, .int .i64 q.sp]] w (RetB (.bool false) w) := by
  go_enter Try.func13, Try.ntmps13
  go_wp2_with (first
    | (go_at_call 33; refine (RetB.grown (point_any _ _ _ _)).mono ?_; rintro e' w' ⟨rfl, g, rfl⟩)
    | (refine wp_region_xt (by kernel_rfl) (by kernel_rfl) ?_; (repeat (go_big_quiet_step (first | (go_at_call 33; exact RetB.quiet (point_any _ _ _ _))))); refine wpQuiet_nil ?_; intro g))
  go_ret
  exact RetB.of rfl (by repeat' (first | exact Below.refl _ _ | assumption | refine Below.xt ?_ ?_ _ | refine Below.alloc ?_ ?_ _ | refine Below.drew ?_ | refine Below.setCell ?_ ?_ _ | (simp; done) | (simp; omega)))
set_option maxHeartbeats 400000 in
theorem gvalid_sb (q : Gd) (w : World) (h1 : ins 1048576 q.ox q.oy q.oz = true) (h2 : decide (q.rows < 1) = false) (h3 : decide (256 < q.rows) = false) (h4 : decide (q.cols < 1) = false) (h5 : decide (256 / q.rows < q.cols) = false) (hr : 1 ≤ q.rows) (h6 : decide (q.sp < 1) = false) (h7 : decide (1048576 < q.sp) = true) : Calls Try.prog 13 #[.agg #[.int .i64 q.ox, .int .i64 q.oy, .int .i64 q.oz, .int .i64 q.rows, .int .i64 q.cols, .int .i64 q.sp]] w (RetB (.bool false) w) := by
  go_enter Try.func13, Try.ntmps13
  go_wp2_with (first
    | (go_at_call 33; refine (RetB.grown (point_any _ _ _ _)).mono ?_; rintro e' w' ⟨rfl, g, rfl⟩)
    | (refine wp_region_xt (by kernel_rfl) (by kernel_rfl) ?_; (repeat (go_big_quiet_step (first | (go_at_call 33; exact RetB.quiet (point_any _ _ _ _))))); refine wpQuiet_nil ?_; intro g))
  go_ret
  exact RetB.of rfl (by repeat' (first | exact Below.refl _ _ | assumption | refine Below.xt ?_ ?_ _ | refine Below.alloc ?_ ?_ _ | refine Below.drew ?_ | refine Below.setCell ?_ ?_ _ | (simp; done) | (simp; omega)))

set_option maxHeartbeats 400000 in
theorem gvalid_last (q : Gd) (w : World) (h1 : ins 1048576 q.ox q.oy q.oz = true) (hd : q.dims) (h5 : decide (256 / q.rows < q.cols) = false) :
    Calls Try.prog 13 #[.agg #[.int .i64 q.ox, .int .i64 q.oy, .int .i64 q.oz, .int .i64 q.rows, .int .i64 q.cols, .int .i64 q.sp]] w (RetB (.bool (pnt (q.pt (q.rows - 1) (q.cols - 1)))) w) := by
  have F := fits_of h1 hd (r := q.rows - 1) (c := q.cols - 1) (by have := hd.1; omega) (by have := hd.2.1; omega) (by have := hd.2.2.1; omega) (by have := hd.2.2.2.1; omega)
  obtain ⟨d1, d2, d3, d4, d5, s1, s2⟩ := hd
  have h2 : decide (q.rows < 1) = false := by simp; omega
  have h3 : decide (256 < q.rows) = false := by simp; omega
  have h4 : decide (q.cols < 1) = false := by simp; omega
  have h6 : decide (q.sp < 1) = false := by simp; omega
  have h7 : decide (1048576 < q.sp) = false := by simp; omega
  have HF := Lib.hid F
  clear F
  go_enter Try.func13, Try.ntmps13
  go_wp2_with (first
    | (go_at_call 33; refine (RetB.grown (point_any _ _ _ _)).mono ?_; rintro e' w' ⟨rfl, g, rfl⟩)
    | (go_at_call 31; refine (RetB.grown (vec_any q _ _ _ HF.out)).mono ?_; rintro e' w' ⟨rfl, g, rfl⟩)
    | (refine wp_region_xt (by kernel_rfl) (by kernel_rfl) ?_; (repeat (go_big_quiet_step (first | (go_at_call 33; exact RetB.quiet (point_any _ _ _ _)) | (go_at_call 31; exact RetB.quiet (vec_any q _ _ _ HF.out))))); refine wpQuiet_nil ?_; intro g))
  go_ret
  exact RetB.of rfl (by repeat' (first | exact Below.refl _ _ | assumption | refine Below.xt ?_ ?_ _ | refine Below.alloc ?_ ?_ _ | refine Below.drew ?_ | refine Below.setCell ?_ ?_ _ | (simp; done) | (simp; omega)))

theorem gvalid_any (q : Gd) (w : World) : Calls Try.prog 13 #[.agg #[.int .i64 q.ox, .int .i64 q.oy, .int .i64 q.oz, .int .i64 q.rows, .int .i64 q.cols, .int .i64 q.sp]] w (RetB (.bool (gval q)) w) := by
  by_cases h1 : ins 1048576 q.ox q.oy q.oz = true
  · have no : ¬ q.dims → gval q = false := fun h => by simp [gval, h]
    by_cases h2 : q.rows < 1
    · rw [no (by unfold Gd.dims; omega)]; exact gvalid_ra q w h1 (by simpa using h2)
    have h2' : decide (q.rows < 1) = false := by simpa using h2
    by_cases h3 : 256 < q.rows
    · rw [no (by unfold Gd.dims; omega)]; exact gvalid_rb q w h1 h2' (by simpa using h3)
    have h3' : decide (256 < q.rows) = false := by simpa using h3
    by_cases h4 : q.cols < 1
    · rw [no (by unfold Gd.dims; omega)]; exact gvalid_ca q w h1 h2' h3' (by simpa using h4)
    have h4' : decide (q.cols < 1) = false := by simpa using h4
    have hdv : q.cols ≤ 256 / q.rows ↔ q.cols * q.rows ≤ 256 := Int.le_ediv_iff_mul_le (by omega)
    rw [Int.mul_comm q.cols] at hdv
    by_cases h5 : 256 / q.rows < q.cols
    · rw [no (by unfold Gd.dims; intro h; have := hdv.2 h.2.2.2.2.1; omega)]
      exact gvalid_cb q w h1 h2' h3' h4' (by simpa using h5) (by omega)
    have h5' : decide (256 / q.rows < q.cols) = false := by simpa using h5
    by_cases h6 : q.sp < 1
    · rw [no (by unfold Gd.dims; omega)]; exact gvalid_sa q w h1 h2' h3' h4' h5' (by omega) (by simpa using h6)
    have h6' : decide (q.sp < 1) = false := by simpa using h6
    by_cases h7 : 1048576 < q.sp
    · rw [no (by unfold Gd.dims; omega)]; exact gvalid_sb q w h1 h2' h3' h4' h5' (by omega) h6' (by simpa using h7)
    have hrc := hdv.1 (by omega)
    have hc : q.cols ≤ 256 := by
      have : 1 * q.cols ≤ q.rows * q.cols := Int.mul_le_mul_of_nonneg_right (by omega) (by omega)
      omega
    have hd : q.dims := ⟨by omega, by omega, by omega, hc, hrc, by omega, by omega⟩
    have e : gval q = pnt (q.pt (q.rows - 1) (q.cols - 1)) := by simp [gval, h1, hd]
    rw [e]
    exact gvalid_last q w h1 hd h5'
  · have h1' : ins 1048576 q.ox q.oy q.oz = false := by simpa using h1
    rw [show gval q = false by simp [gval, h1']]
    exact gvalid_p q w h1'

/-! ### check -/
set_option maxHeartbeats 400000 in
theorem check_arg (q : Gd) (i : Int) (w : World) (h : gval q = false) : Calls Try.prog 29 #[.agg #[.int .i64 q.ox, .int .i64 q.oy, .int .i64 q.oz, .int .i64 q.rows, .int .i64 q.cols, .int .i64 q.sp], .int .i64 i] w (RetB (.int .i64 2) w) := by
  go_enter Try.func29, Try.ntmps29
  go_wp2_with (first
    | (go_at_call 13; refine (RetB.grown (gvalid_any q _)).mono ?_; rintro e' w' ⟨rfl, g, rfl⟩)
    | (refine wp_region_xt (by kernel_rfl) (by kernel_rfl) ?_; (repeat (go_big_quiet_step (first | (go_at_call 13; exact RetB.quiet (gvalid_any q _))))); refine wpQuiet_nil ?_; intro g))
  go_ret
  exact RetB.of rfl (by repeat' (first | exact Below.refl _ _ | assumption | refine Below.xt ?_ ?_ _ | refine Below.alloc ?_ ?_ _ | refine Below.drew ?_ | refine Below.setCell ?_ ?_ _ | (simp; done) | (simp; omega)))
set_option maxHeartbeats 400000 in
theorem check_low (q : Gd) (i : Int) (w : World) (h : gval q = true) (hi : i < 0) : Calls Try.prog 29 #[.agg #[.int .i64 q.ox, .int .i64 q.oy, .int .i64 q.oz, .int .i64 q.rows, .int .i64 q.cols, .int .i64 q.sp], .int .i64 i] w (RetB (.int .i64 3) w) := by
  have g1 : decide (i < 0) = true := by simpa using hi
  go_enter Try.func29, Try.ntmps29
  go_wp2_with (first
    | (go_at_call 13; refine (RetB.grown (gvalid_any q _)).mono ?_; rintro e' w' ⟨rfl, g, rfl⟩)
    | (refine wp_region_xt (by kernel_rfl) (by kernel_rfl) ?_; (repeat (go_big_quiet_step (first | (go_at_call 13; exact RetB.quiet (gvalid_any q _))))); refine wpQuiet_nil ?_; intro g))
  go_ret
  exact RetB.of rfl (by repeat' (first | exact Below.refl _ _ | assumption | refine Below.xt ?_ ?_ _ | refine Below.alloc ?_ ?_ _ | refine Below.drew ?_ | refine Below.setCell ?_ ?_ _ | (simp; done) | (simp; omega)))
set_option maxHeartbeats 400000 in
theorem check_high (q : Gd) (i : Int) (w : World) (h : gval q = true) (h0 : 0 ≤ i) (hi : q.rows * q.cols ≤ i) : Calls Try.prog 29 #[.agg #[.int .i64 q.ox, .int .i64 q.oy, .int .i64 q.oz, .int .i64 q.rows, .int .i64 q.cols, .int .i64 q.sp], .int .i64 i] w (RetB (.int .i64 3) w) := by
  have g1 : decide (i < 0) = false := by simp; omega
  have g2 : decide (q.rows * q.cols ≤ i) = true := by simpa using hi
  obtain ⟨b1, b2⟩ : 0 ≤ q.rows * q.cols ∧ q.rows * q.cols ≤ 256 := by have := g_n (gval_iff.1 h).2.1; omega
  go_enter Try.func29, Try.ntmps29
  go_wp2_with (first
    | (go_at_call 13; refine (RetB.grown (gvalid_any q _)).mono ?_; rintro e' w' ⟨rfl, g, rfl⟩)
    | (refine wp_region_xt (by kernel_rfl) (by kernel_rfl) ?_; (repeat (go_big_quiet_step (first | (go_at_call 13; exact RetB.quiet (gvalid_any q _))))); refine wpQuiet_nil ?_; intro g))
  go_ret
  exact RetB.of rfl (by repeat' (first | exact Below.refl _ _ | assumption | refine Below.xt ?_ ?_ _ | refine Below.alloc ?_ ?_ _ | refine Below.drew ?_ | refine Below.setCell ?_ ?_ _ | (simp; done) | (simp; omega)))
set_option maxHeartbeats 400000 in
theorem check_ok (q : Gd) (i : Int) (w : World) (h : gval q = true) (h0 : 0 ≤ i) (hi : i < q.rows * q.cols) : Calls Try.prog 29 #[.agg #[.int .i64 q.ox, .int .i64 q.oy, .int .i64 q.oz, .int .i64 q.rows, .int .i64 q.cols, .int .i64 q.sp], .int .i64 i] w (RetB (.int .i64 0) w) := by
  have g1 : decide (i < 0) = false := by simp; omega
  have g2 : decide (q.rows * q.cols ≤ i) = false := by simp; omega
  obtain ⟨b1, b2⟩ : 0 ≤ q.rows * q.cols ∧ q.rows * q.cols ≤ 256 := by have := g_n (gval_iff.1 h).2.1; omega
  go_enter Try.func29, Try.ntmps29
  go_wp2_with (first
    | (go_at_call 13; refine (RetB.grown (gvalid_any q _)).mono ?_; rintro e' w' ⟨rfl, g, rfl⟩)
    | (refine wp_region_xt (by kernel_rfl) (by kernel_rfl) ?_; (repeat (go_big_quiet_step (first | (go_at_call 13; exact RetB.quiet (gvalid_any q _))))); refine wpQuiet_nil ?_; intro g))
  go_ret
  exact RetB.of rfl (by repeat' (first | exact Below.refl _ _ | assumption | refine Below.xt ?_ ?_ _ | refine Below.alloc ?_ ?_ _ | refine Below.drew ?_ | refine Below.setCell ?_ ?_ _ | (simp; done) | (simp; omega)))
/-- The error of an index. -/
def ixE (q : Gd) (i : Int) : Int := if gval q = true then (if 0 ≤ i ∧ i < q.rows * q.cols then 0 else 3) else 2
theorem check_any (q : Gd) (i : Int) (w : World) : Calls Try.prog 29 #[.agg #[.int .i64 q.ox, .int .i64 q.oy, .int .i64 q.oz, .int .i64 q.rows, .int .i64 q.cols, .int .i64 q.sp], .int .i64 i] w (RetB (.int .i64 (ixE q i)) w) := by
  unfold ixE
  by_cases h : gval q = true
  · rw [if_pos h]
    by_cases h0 : 0 ≤ i
    · by_cases hn : i < q.rows * q.cols
      · rw [if_pos ⟨h0, hn⟩]; exact check_ok q i w h h0 hn
      · rw [if_neg (fun h => hn h.2)]; exact check_high q i w h h0 (by omega)
    · rw [if_neg (fun h => h0 h.1)]; exact check_low q i w h (by omega)
  · rw [if_neg h]; exact check_arg q i w (by simpa using h)

/-! ### Spot, Index -/
set_option maxHeartbeats 400000 in
theorem Spot_ok (q : Gd) (i : Int) (w : World) (h : gval q = true) (h0 : 0 ≤ i) (hi : i < q.rows * q.cols) : Calls Try.prog 8 #[.agg #[.int .i64 q.ox, .int .i64 q.oy, .int .i64 q.oz, .int .i64 q.rows, .int .i64 q.cols, .int .i64 q.sp], .int .i64 i] w (RetB (.tuple #[.agg #[.int .i64 (q.spot i).x, .int .i64 (q.spot i).y, .int .i64 (q.spot i).z], .int .i64 0]) w) := by
  obtain ⟨ho, hd, _⟩ := gval_iff.1 h
  obtain ⟨q0, q1, r0, r1⟩ := g_rc hd h0 hi
  have F := fits_of ho hd (r := i / q.cols) (c := i % q.cols) (by omega) (by have := hd.2.1; omega) (by omega) (by have := hd.2.2.2.1; omega)
  obtain ⟨b1, b2⟩ : 0 ≤ q.rows * q.cols ∧ q.rows * q.cols ≤ 256 := by have := g_n hd; omega
  have HF := Lib.hid F
  have HD := Lib.hid hd
  have HH := Lib.hid h
  clear F hd h ho q0 q1 r0 r1
  go_enter Try.func8, Try.ntmps8
  go_wp2_with (first
    | (go_at_call 29; refine (RetB.grown (check_ok q i _ HH.out h0 hi)).mono ?_; rintro e' w' ⟨rfl, g, rfl⟩)
    | (go_at_call 30; refine (RetB.grown (at_any q i _ HD.out h0 (by omega))).mono ?_; rintro e' w' ⟨rfl, g, rfl⟩)
    | (go_at_call 31; refine (RetB.grown (vec_any q _ _ _ HF.out)).mono ?_; rintro e' w' ⟨rfl, g, rfl⟩)
    | (refine wp_region_xt (by kernel_rfl) (by kernel_rfl) ?_; (repeat (go_big_quiet_step (first | (go_at_call 29; exact RetB.quiet (check_ok q i _ HH.out h0 hi)) | (go_at_call 30; exact RetB.quiet (at_any q i _ HD.out h0 (by omega))) | (go_at_call 31; exact RetB.quiet (vec_any q _ _ _ HF.out))))); refine wpQuiet_nil ?_; intro g))
  refine bodyPost_ret (v := .tuple #[.agg #[.int .i64 (q.spot i).x, .int .i64 (q.spot i).y, .int .i64 (q.spot i).z], .int .i64 0]) (by simp [results, Try.results8, go_sem, Gd.spot]) rfl ?_
  exact RetB.of rfl (by repeat' (first | exact Below.refl _ _ | assumption | refine Below.xt ?_ ?_ _ | refine Below.alloc ?_ ?_ _ | refine Below.drew ?_ | refine Below.setCell ?_ ?_ _ | (simp; done) | (simp; omega)))
set_option maxHeartbeats 400000 in
theorem Spot_bad (q : Gd) (i : Int) (w : World) (d : Int) (hd : d = 2 ∨ d = 3) (h : ixE q i = d) : Calls Try.prog 8 #[.agg #[.int .i64 q.ox, .int .i64 q.oy, .int .i64 q.oz, .int .i64 q.rows, .int .i64 q.cols, .int .i64 q.sp], .int .i64 i] w (RetB (.tuple #[.agg #[.int .i64 0, .int .i64 0, .int .i64 0], .int .i64 d]) w) := by
  have c := fun w => check_any q i w
  rw [h] at c
  have C := fun w => Lib.hid (c w)
  clear c h
  rcases hd with rfl | rfl
  all_goals
    go_enter Try.func8, Try.ntmps8
    go_wp2_with (first
      | (go_at_call 29; refine (RetB.grown ((C _).out)).mono ?_; rintro e' w' ⟨rfl, g, rfl⟩)
      | (refine wp_region_xt (by kernel_rfl) (by kernel_rfl) ?_; (repeat (go_big_quiet_step (first | (go_at_call 29; exact RetB.quiet ((C _).out))))); refine wpQuiet_nil ?_; intro g))
    refine bodyPost_ret (by simp [results, Try.results8, go_sem]; rfl) rfl ?_
    exact RetB.of rfl (by repeat' (first | exact Below.refl _ _ | assumption | refine Below.xt ?_ ?_ _ | refine Below.alloc ?_ ?_ _ | refine Below.drew ?_ | refine Below.setCell ?_ ?_ _ | (simp; done) | (simp; omega)))

/-- The error of a row and a column. -/
def rcE (q : Gd) (row col : Int) : Int := if gval q = true then (if 0 ≤ row ∧ row < q.rows ∧ 0 ≤ col ∧ col < q.cols then 0 else 3) else 2
def rcI (q : Gd) (row col : Int) : Int := if rcE q row col = 0 then row * q.cols + col else 0
set_option maxHeartbeats 400000 in
theorem Index_a (q : Gd) (row col : Int) (w : World) (h : gval q = false) : Calls Try.prog 10 #[.agg #[.int .i64 q.ox, .int .i64 q.oy, .int .i64 q.oz, .int .i64 q.rows, .int .i64 q.cols, .int .i64 q.sp], .int .i64 row, .int .i64 col] w (RetB (.tuple #[.int .i64 0, .int .i64 2]) w) := by
  go_enter Try.func10, Try.ntmps10
  go_wp2_with (first
    | (go_at_call 13; refine (RetB.grown (gvalid_any q _)).mono ?_; rintro e' w' ⟨rfl, g, rfl⟩)
    | (go_at_call 32; refine (RetB.grown (index_any q row col _ (by omega) (by omega) (by omega) (by omega))).mono ?_; rintro e' w' ⟨rfl, g, rfl⟩)
    | (refine wp_region_xt (by kernel_rfl) (by kernel_rfl) ?_; (repeat (go_big_quiet_step (first | (go_at_call 13; exact RetB.quiet (gvalid_any q _)) | (go_at_call 32; exact RetB.quiet (index_any q row col _ (by omega) (by omega) (by omega) (by omega)))))); refine wpQuiet_nil ?_; intro g))
  go_ret2
  exact RetB.of rfl (by repeat' (first | exact Below.refl _ _ | assumption | refine Below.xt ?_ ?_ _ | refine Below.alloc ?_ ?_ _ | refine Below.drew ?_ | refine Below.setCell ?_ ?_ _ | (simp; done) | (simp; omega)))
set_option maxHeartbeats 400000 in
theorem Index_b (q : Gd) (row col : Int) (w : World) (h : gval q = true) (g1 : decide (row < 0) = true) : Calls Try.prog 10 #[.agg #[.int .i64 q.ox, .int .i64 q.oy, .int .i64 q.oz, .int .i64 q.rows, .int .i64 q.cols, .int .i64 q.sp], .int .i64 row, .int .i64 col] w (RetB (.tuple #[.int .i64 0, .int .i64 3]) w) := by
  go_enter Try.func10, Try.ntmps10
  go_wp2_with (first
    | (go_at_call 13; refine (RetB.grown (gvalid_any q _)).mono ?_; rintro e' w' ⟨rfl, g, rfl⟩)
    | (go_at_call 32; refine (RetB.grown (index_any q row col _ (by omega) (by omega) (by omega) (by omega))).mono ?_; rintro e' w' ⟨rfl, g, rfl⟩)
    | (refine wp_region_xt (by kernel_rfl) (by kernel_rfl) ?_; (repeat (go_big_quiet_step (first | (go_at_call 13; exact RetB.quiet (gvalid_any q _)) | (go_at_call 32; exact RetB.quiet (index_any q row col _ (by omega) (by omega) (by omega) (by omega)))))); refine wpQuiet_nil ?_; intro g))
  go_ret2
  exact RetB.of rfl (by repeat' (first | exact Below.refl _ _ | assumption | refine Below.xt ?_ ?_ _ | refine Below.alloc ?_ ?_ _ | refine Below.drew ?_ | refine Below.setCell ?_ ?_ _ | (simp; done) | (simp; omega)))
set_option maxHeartbeats 400000 in
theorem Index_c (q : Gd) (row col : Int) (w : World) (h : gval q = true) (g1 : decide (row < 0) = false) (g2 : decide (q.rows ≤ row) = true) : Calls Try.prog 10 #[.agg #[.int .i64 q.ox, .int .i64 q.oy, .int .i64 q.oz, .int .i64 q.rows, .int .i64 q.cols, .int .i64 q.sp], .int .i64 row, .int .i64 col] w (RetB (.tuple #[.int .i64 0, .int .i64 3]) w) := by
  go_enter Try.func10, Try.ntmps10
  go_wp2_with (first
    | (go_at_call 13; refine (RetB.grown (gvalid_any q _)).mono ?_; rintro e' w' ⟨rfl, g, rfl⟩)
    | (go_at_call 32; refine (RetB.grown (index_any q row col _ (by omega) (by omega) (by omega) (by omega))).mono ?_; rintro e' w' ⟨rfl, g, rfl⟩)
    | (refine wp_region_xt (by kernel_rfl) (by kernel_rfl) ?_; (repeat (go_big_quiet_step (first | (go_at_call 13; exact RetB.quiet (gvalid_any q _)) | (go_at_call 32; exact RetB.quiet (index_any q row col _ (by omega) (by omega) (by omega) (by omega)))))); refine wpQuiet_nil ?_; intro g))
  go_ret2
  exact RetB.of rfl (by repeat' (first | exact Below.refl _ _ | assumption | refine Below.xt ?_ ?_ _ | refine Below.alloc ?_ ?_ _ | refine Below.drew ?_ | refine Below.setCell ?_ ?_ _ | (simp; done) | (simp; omega)))
set_option maxHeartbeats 400000 in
theorem Index_d (q : Gd) (row col : Int) (w : World) (h : gval q = true) (g1 : decide (row < 0) = false) (g2 : decide (q.rows ≤ row) = false) (g3 : decide (col < 0) = true) : Calls Try.prog 10 #[.agg #[.int .i64 q.ox, .int .i64 q.oy, .int .i64 q.oz, .int .i64 q.rows, .int .i64 q.cols, .int .i64 q.sp], .int .i64 row, .int .i64 col] w (RetB (.tuple #[.int .i64 0, .int .i64 3]) w) := by
  go_enter Try.func10, Try.ntmps10
  go_wp2_with (first
    | (go_at_call 13; refine (RetB.grown (gvalid_any q _)).mono ?_; rintro e' w' ⟨rfl, g, rfl⟩)
    | (go_at_call 32; refine (RetB.grown (index_any q row col _ (by omega) (by omega) (by omega) (by omega))).mono ?_; rintro e' w' ⟨rfl, g, rfl⟩)
    | (refine wp_region_xt (by kernel_rfl) (by kernel_rfl) ?_; (repeat (go_big_quiet_step (first | (go_at_call 13; exact RetB.quiet (gvalid_any q _)) | (go_at_call 32; exact RetB.quiet (index_any q row col _ (by omega) (by omega) (by omega) (by omega)))))); refine wpQuiet_nil ?_; intro g))
  go_ret2
  exact RetB.of rfl (by repeat' (first | exact Below.refl _ _ | assumption | refine Below.xt ?_ ?_ _ | refine Below.alloc ?_ ?_ _ | refine Below.drew ?_ | refine Below.setCell ?_ ?_ _ | (simp; done) | (simp; omega)))
set_option maxHeartbeats 400000 in
theorem Index_e (q : Gd) (row col : Int) (w : World) (h : gval q = true) (g1 : decide (row < 0) = false) (g2 : decide (q.rows ≤ row) = false) (g3 : decide (col < 0) = false) (g4 : decide (q.cols ≤ col) = true) : Calls Try.prog 10 #[.agg #[.int .i64 q.ox, .int .i64 q.oy, .int .i64 q.oz, .int .i64 q.rows, .int .i64 q.cols, .int .i64 q.sp], .int .i64 row, .int .i64 col] w (RetB (.tuple #[.int .i64 0, .int .i64 3]) w) := by
  go_enter Try.func10, Try.ntmps10
  go_wp2_with (first
    | (go_at_call 13; refine (RetB.grown (gvalid_any q _)).mono ?_; rintro e' w' ⟨rfl, g, rfl⟩)
    | (go_at_call 32; refine (RetB.grown (index_any q row col _ (by omega) (by omega) (by omega) (by omega))).mono ?_; rintro e' w' ⟨rfl, g, rfl⟩)
    | (refine wp_region_xt (by kernel_rfl) (by kernel_rfl) ?_; (repeat (go_big_quiet_step (first | (go_at_call 13; exact RetB.quiet (gvalid_any q _)) | (go_at_call 32; exact RetB.quiet (index_any q row col _ (by omega) (by omega) (by omega) (by omega)))))); refine wpQuiet_nil ?_; intro g))
  go_ret2
  exact RetB.of rfl (by repeat' (first | exact Below.refl _ _ | assumption | refine Below.xt ?_ ?_ _ | refine Below.alloc ?_ ?_ _ | refine Below.drew ?_ | refine Below.setCell ?_ ?_ _ | (simp; done) | (simp; omega)))
set_option maxHeartbeats 400000 in
theorem Index_f (q : Gd) (row col : Int) (w : World) (h : gval q = true) (g1 : decide (row < 0) = false) (g2 : decide (q.rows ≤ row) = false) (g3 : decide (col < 0) = false) (g4 : decide (q.cols ≤ col) = false) (b1 : -1073741824 ≤ row * q.cols) (b2 : row * q.cols ≤ 1073741824) (b3 : -1073741824 ≤ col) (b4 : col ≤ 1073741824) : Calls Try.prog 10 #[.agg #[.int .i64 q.ox, .int .i64 q.oy, .int .i64 q.oz, .int .i64 q.rows, .int .i64 q.cols, .int .i64 q.sp], .int .i64 row, .int .i64 col] w (RetB (.tuple #[.int .i64 (row * q.cols + col), .int .i64 0]) w) := by
  go_enter Try.func10, Try.ntmps10
  go_wp2_with (first
    | (go_at_call 13; refine (RetB.grown (gvalid_any q _)).mono ?_; rintro e' w' ⟨rfl, g, rfl⟩)
    | (go_at_call 32; refine (RetB.grown (index_any q row col _ (by omega) (by omega) (by omega) (by omega))).mono ?_; rintro e' w' ⟨rfl, g, rfl⟩)
    | (refine wp_region_xt (by kernel_rfl) (by kernel_rfl) ?_; (repeat (go_big_quiet_step (first | (go_at_call 13; exact RetB.quiet (gvalid_any q _)) | (go_at_call 32; exact RetB.quiet (index_any q row col _ (by omega) (by omega) (by omega) (by omega)))))); refine wpQuiet_nil ?_; intro g))
  go_ret2
  exact RetB.of rfl (by repeat' (first | exact Below.refl _ _ | assumption | refine Below.xt ?_ ?_ _ | refine Below.alloc ?_ ?_ _ | refine Below.drew ?_ | refine Below.setCell ?_ ?_ _ | (simp; done) | (simp; omega)))
theorem rc_bd {q : Gd} (hd : q.dims) {row col : Int} (h : 0 ≤ row ∧ row < q.rows ∧ 0 ≤ col ∧ col < q.cols) : 0 ≤ row * q.cols ∧ row * q.cols ≤ 65536 ∧ col ≤ 256 := by
  obtain ⟨d1, d2, d3, d4, d5, _⟩ := hd
  have h1 := Int.mul_nonneg h.1 (show 0 ≤ q.cols by omega)
  have h2 := Int.mul_le_mul (show row ≤ 256 by omega) d4 (by omega) (by omega)
  omega
theorem Index_any (q : Gd) (row col : Int) (w : World) : Calls Try.prog 10 #[.agg #[.int .i64 q.ox, .int .i64 q.oy, .int .i64 q.oz, .int .i64 q.rows, .int .i64 q.cols, .int .i64 q.sp], .int .i64 row, .int .i64 col] w (RetB (.tuple #[.int .i64 (rcI q row col), .int .i64 (rcE q row col)]) w) := by
  by_cases h : gval q = true
  · by_cases h1 : row < 0
    · have e : rcE q row col = 3 := by rw [rcE, if_pos h, if_neg (by omega)]
      rw [rcI, e]; exact Index_b q row col w h (by simpa using h1)
    have g1 : decide (row < 0) = false := by simpa using h1
    by_cases h2 : q.rows ≤ row
    · have e : rcE q row col = 3 := by rw [rcE, if_pos h, if_neg (by omega)]
      rw [rcI, e]; exact Index_c q row col w h g1 (by simpa using h2)
    have g2 : decide (q.rows ≤ row) = false := by simpa using h2
    by_cases h3 : col < 0
    · have e : rcE q row col = 3 := by rw [rcE, if_pos h, if_neg (by omega)]
      rw [rcI, e]; exact Index_d q row col w h g1 g2 (by simpa using h3)
    have g3 : decide (col < 0) = false := by simpa using h3
    by_cases h4 : q.cols ≤ col
    · have e : rcE q row col = 3 := by rw [rcE, if_pos h, if_neg (by omega)]
      rw [rcI, e]; exact Index_e q row col w h g1 g2 g3 (by simpa using h4)
    have g4 : decide (q.cols ≤ col) = false := by simpa using h4
    have e : rcE q row col = 0 := by rw [rcE, if_pos h, if_pos (by omega)]
    have hb := rc_bd (gval_iff.1 h).2.1 (row := row) (col := col) (by omega)
    rw [rcI, e]
    exact Index_f q row col w h g1 g2 g3 g4 (by omega) (by omega) (by omega) (by omega)
  · have e : rcE q row col = 2 := by rw [rcE, if_neg h]
    rw [rcI, e]; exact Index_a q row col w (by simpa using h)

end Go.Proofs.Ytoaakjkflcjkhaa

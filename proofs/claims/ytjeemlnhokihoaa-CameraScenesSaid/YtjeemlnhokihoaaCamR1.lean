/- Walks of cameras, by the reference: which are valid. Conditions stand in each theorem. -/
import Derived.Test.YtjeemlnhokihoaaCamW1
namespace Go.Proofs.Ytjeemlnhokihoaa
open Go.RowKit
set_option linter.unusedVariables false
set_option linter.unusedSimpArgs false
attribute [local go_sem ↓] ld16

set_option maxHeartbeats 400000 in
theorem axis_any (v : V3) (w : World) : Calls Try.prog 30 #[.agg #[.int .i64 v.x, .int .i64 v.y, .int .i64 v.z]] w (RetB (.bool (ax v)) w) := by
  by_cases h1 : within v.x (-100) 100 = true
  · by_cases h2 : within v.y (-100) 100 = true
    · have e : ax v = within v.z (-100) 100 := by simp [ax, h1, h2]
      rw [e]; clear e
      go_enter Try.func30, Try.ntmps30
      go_wp2_with (first
        | (go_at_call 31; refine (refTo_any _ _ _ _).mono ?_; rintro e' w' ⟨rfl, rfl⟩)
        | (refine wp_region_xt (by kernel_rfl) (by kernel_rfl) ?_; (repeat (go_big_quiet_step (first | (go_at_call 31; exact Ret.quiet (refTo_any _ _ _ _))))); refine wpQuiet_nil ?_; intro g))
      go_ret
      exact RetB.of rfl (by repeat' (first | exact Below.refl _ _ | assumption | refine Below.xt ?_ ?_ _ | refine Below.alloc ?_ ?_ _ | refine Below.drew ?_ | refine Below.setCell ?_ ?_ _ | (simp; done) | (simp; omega)))
    · have h2' : within v.y (-100) 100 = false := by simpa using h2
      have e : ax v = false := by simp [ax, h2']
      rw [e]; clear e h2
      go_enter Try.func30, Try.ntmps30
      go_wp2_with (first
        | (go_at_call 31; refine (refTo_any _ _ _ _).mono ?_; rintro e' w' ⟨rfl, rfl⟩)
        | (refine wp_region_xt (by kernel_rfl) (by kernel_rfl) ?_; (repeat (go_big_quiet_step (first | (go_at_call 31; exact Ret.quiet (refTo_any _ _ _ _))))); refine wpQuiet_nil ?_; intro g))
      go_ret
      exact RetB.of rfl (by repeat' (first | exact Below.refl _ _ | assumption | refine Below.xt ?_ ?_ _ | refine Below.alloc ?_ ?_ _ | refine Below.drew ?_ | refine Below.setCell ?_ ?_ _ | (simp; done) | (simp; omega)))
  · have h1' : within v.x (-100) 100 = false := by simpa using h1
    have e : ax v = false := by simp [ax, h1']
    rw [e]; clear e h1
    go_enter Try.func30, Try.ntmps30
    go_wp2_with (first
      | (go_at_call 31; refine (refTo_any _ _ _ _).mono ?_; rintro e' w' ⟨rfl, rfl⟩)
      | (refine wp_region_xt (by kernel_rfl) (by kernel_rfl) ?_; (repeat (go_big_quiet_step (first | (go_at_call 31; exact Ret.quiet (refTo_any _ _ _ _))))); refine wpQuiet_nil ?_; intro g))
    go_ret
    exact RetB.of rfl (by repeat' (first | exact Below.refl _ _ | assumption | refine Below.xt ?_ ?_ _ | refine Below.alloc ?_ ?_ _ | refine Below.drew ?_ | refine Below.setCell ?_ ?_ _ | (simp; done) | (simp; omega)))

set_option maxHeartbeats 800000 in
theorem rv_e (c : Cam) (w : World)  (he : pnt c.e = false) : Calls Try.prog 11 #[.agg #[.int .i64 c.e.x, .int .i64 c.e.y, .int .i64 c.e.z, .int .i64 c.r.x, .int .i64 c.r.y, .int .i64 c.r.z, .int .i64 c.u.x, .int .i64 c.u.y, .int .i64 c.u.z, .int .i64 c.f.x, .int .i64 c.f.y, .int .i64 c.f.z, .int .i64 c.fo, .int .i64 c.wi, .int .i64 c.he, .int .i64 c.ne]] w (RetB (.bool false) w) := by
  go_enter Try.func11, Try.ntmps11
  go_wp2_with (first
    | (go_at_call 24; refine (RetB.grown (ePoint_any _ _)).mono ?_; rintro e' w' ⟨rfl, g, rfl⟩)
    | (go_at_call 30; refine (RetB.grown (axis_any _ _)).mono ?_; rintro e' w' ⟨rfl, g, rfl⟩)
    | (refine wp_region_xt (by kernel_rfl) (by kernel_rfl) ?_; (repeat (go_big_quiet_step (first | (go_at_call 24; exact RetB.quiet (ePoint_any _ _)) | (go_at_call 30; exact RetB.quiet (axis_any _ _))))); refine wpQuiet_nil ?_; intro g))
  go_ret
  exact RetB.of rfl (by repeat' (first | exact Below.refl _ _ | assumption | refine Below.xt ?_ ?_ _ | refine Below.alloc ?_ ?_ _ | refine Below.drew ?_ | refine Below.setCell ?_ ?_ _ | (simp; done) | (simp; omega)))

set_option maxHeartbeats 800000 in
theorem rv_r (c : Cam) (w : World) (he : pnt c.e = true) (hr : ax c.r = false) : Calls Try.prog 11 #[.agg #[.int .i64 c.e.x, .int .i64 c.e.y, .int .i64 c.e.z, .int .i64 c.r.x, .int .i64 c.r.y, .int .i64 c.r.z, .int .i64 c.u.x, .int .i64 c.u.y, .int .i64 c.u.z, .int .i64 c.f.x, .int .i64 c.f.y, .int .i64 c.f.z, .int .i64 c.fo, .int .i64 c.wi, .int .i64 c.he, .int .i64 c.ne]] w (RetB (.bool false) w) := by
  go_enter Try.func11, Try.ntmps11
  go_wp2_with (first
    | (go_at_call 24; refine (RetB.grown (ePoint_any _ _)).mono ?_; rintro e' w' ⟨rfl, g, rfl⟩)
    | (go_at_call 30; refine (RetB.grown (axis_any _ _)).mono ?_; rintro e' w' ⟨rfl, g, rfl⟩)
    | (refine wp_region_xt (by kernel_rfl) (by kernel_rfl) ?_; (repeat (go_big_quiet_step (first | (go_at_call 24; exact RetB.quiet (ePoint_any _ _)) | (go_at_call 30; exact RetB.quiet (axis_any _ _))))); refine wpQuiet_nil ?_; intro g))
  go_ret
  exact RetB.of rfl (by repeat' (first | exact Below.refl _ _ | assumption | refine Below.xt ?_ ?_ _ | refine Below.alloc ?_ ?_ _ | refine Below.drew ?_ | refine Below.setCell ?_ ?_ _ | (simp; done) | (simp; omega)))

set_option maxHeartbeats 800000 in
theorem rv_u (c : Cam) (w : World) (he : pnt c.e = true) (hr : ax c.r = true) (hu : ax c.u = false) : Calls Try.prog 11 #[.agg #[.int .i64 c.e.x, .int .i64 c.e.y, .int .i64 c.e.z, .int .i64 c.r.x, .int .i64 c.r.y, .int .i64 c.r.z, .int .i64 c.u.x, .int .i64 c.u.y, .int .i64 c.u.z, .int .i64 c.f.x, .int .i64 c.f.y, .int .i64 c.f.z, .int .i64 c.fo, .int .i64 c.wi, .int .i64 c.he, .int .i64 c.ne]] w (RetB (.bool false) w) := by
  go_enter Try.func11, Try.ntmps11
  go_wp2_with (first
    | (go_at_call 24; refine (RetB.grown (ePoint_any _ _)).mono ?_; rintro e' w' ⟨rfl, g, rfl⟩)
    | (go_at_call 30; refine (RetB.grown (axis_any _ _)).mono ?_; rintro e' w' ⟨rfl, g, rfl⟩)
    | (refine wp_region_xt (by kernel_rfl) (by kernel_rfl) ?_; (repeat (go_big_quiet_step (first | (go_at_call 24; exact RetB.quiet (ePoint_any _ _)) | (go_at_call 30; exact RetB.quiet (axis_any _ _))))); refine wpQuiet_nil ?_; intro g))
  go_ret
  exact RetB.of rfl (by repeat' (first | exact Below.refl _ _ | assumption | refine Below.xt ?_ ?_ _ | refine Below.alloc ?_ ?_ _ | refine Below.drew ?_ | refine Below.setCell ?_ ?_ _ | (simp; done) | (simp; omega)))

set_option maxHeartbeats 800000 in
theorem rv_f (c : Cam) (w : World) (he : pnt c.e = true) (hr : ax c.r = true) (hu : ax c.u = true) (hf : ax c.f = false) : Calls Try.prog 11 #[.agg #[.int .i64 c.e.x, .int .i64 c.e.y, .int .i64 c.e.z, .int .i64 c.r.x, .int .i64 c.r.y, .int .i64 c.r.z, .int .i64 c.u.x, .int .i64 c.u.y, .int .i64 c.u.z, .int .i64 c.f.x, .int .i64 c.f.y, .int .i64 c.f.z, .int .i64 c.fo, .int .i64 c.wi, .int .i64 c.he, .int .i64 c.ne]] w (RetB (.bool false) w) := by
  go_enter Try.func11, Try.ntmps11
  go_wp2_with (first
    | (go_at_call 24; refine (RetB.grown (ePoint_any _ _)).mono ?_; rintro e' w' ⟨rfl, g, rfl⟩)
    | (go_at_call 30; refine (RetB.grown (axis_any _ _)).mono ?_; rintro e' w' ⟨rfl, g, rfl⟩)
    | (refine wp_region_xt (by kernel_rfl) (by kernel_rfl) ?_; (repeat (go_big_quiet_step (first | (go_at_call 24; exact RetB.quiet (ePoint_any _ _)) | (go_at_call 30; exact RetB.quiet (axis_any _ _))))); refine wpQuiet_nil ?_; intro g))
  go_ret
  exact RetB.of rfl (by repeat' (first | exact Below.refl _ _ | assumption | refine Below.xt ?_ ?_ _ | refine Below.alloc ?_ ?_ _ | refine Below.drew ?_ | refine Below.setCell ?_ ?_ _ | (simp; done) | (simp; omega)))

set_option maxHeartbeats 800000 in
theorem rv_z (c : Cam) (w : World) (he : pnt c.e = true) (hr : ax c.r = true) (hu : ax c.u = true) (hf : ax c.f = true) (hz : (dt c.r c.r == 0) = true) : Calls Try.prog 11 #[.agg #[.int .i64 c.e.x, .int .i64 c.e.y, .int .i64 c.e.z, .int .i64 c.r.x, .int .i64 c.r.y, .int .i64 c.r.z, .int .i64 c.u.x, .int .i64 c.u.y, .int .i64 c.u.z, .int .i64 c.f.x, .int .i64 c.f.y, .int .i64 c.f.z, .int .i64 c.fo, .int .i64 c.wi, .int .i64 c.he, .int .i64 c.ne]] w (RetB (.bool false) w) := by
  have D0 := fun w => Lib.hid (refDot_ax c.r c.r w hr hr)
  have bz : (dt c.r c.r != 0) = false := by simpa using hz
  go_enter Try.func11, Try.ntmps11
  go_wp2_with (first
    | (go_at_call 24; refine (RetB.grown (ePoint_any _ _)).mono ?_; rintro e' w' ⟨rfl, g, rfl⟩)
    | (go_at_call 30; refine (RetB.grown (axis_any _ _)).mono ?_; rintro e' w' ⟨rfl, g, rfl⟩)
    | (refine wp_region_xt (by kernel_rfl) (by kernel_rfl) ?_; (repeat (go_big_quiet_step (first | (go_at_call 24; exact RetB.quiet (ePoint_any _ _)) | (go_at_call 30; exact RetB.quiet (axis_any _ _))))); refine wpQuiet_nil ?_; intro g))
  refine (RetB.grown (D0 _).out).mono ?_
  rintro e' w' ⟨rfl, g, rfl⟩
  go_wp2_with fail
  go_ret
  exact RetB.of rfl (by repeat' (first | exact Below.refl _ _ | assumption | refine Below.xt ?_ ?_ _ | refine Below.alloc ?_ ?_ _ | refine Below.drew ?_ | refine Below.setCell ?_ ?_ _ | (simp; done) | (simp; omega)))

set_option maxHeartbeats 800000 in
theorem rv_uu (c : Cam) (w : World) (he : pnt c.e = true) (hr : ax c.r = true) (hu : ax c.u = true) (hf : ax c.f = true) (hz : (dt c.r c.r == 0) = false) (huu : (dt c.u c.u != dt c.r c.r) = true) : Calls Try.prog 11 #[.agg #[.int .i64 c.e.x, .int .i64 c.e.y, .int .i64 c.e.z, .int .i64 c.r.x, .int .i64 c.r.y, .int .i64 c.r.z, .int .i64 c.u.x, .int .i64 c.u.y, .int .i64 c.u.z, .int .i64 c.f.x, .int .i64 c.f.y, .int .i64 c.f.z, .int .i64 c.fo, .int .i64 c.wi, .int .i64 c.he, .int .i64 c.ne]] w (RetB (.bool false) w) := by
  have D0 := fun w => Lib.hid (refDot_ax c.r c.r w hr hr)
  have D1 := fun w => Lib.hid (refDot_ax c.u c.u w hu hu)
  have bz : (dt c.r c.r != 0) = true := by simpa using hz
  have buu : (dt c.u c.u == dt c.r c.r) = false := by simpa using huu
  go_enter Try.func11, Try.ntmps11
  go_wp2_with (first
    | (go_at_call 24; refine (RetB.grown (ePoint_any _ _)).mono ?_; rintro e' w' ⟨rfl, g, rfl⟩)
    | (go_at_call 30; refine (RetB.grown (axis_any _ _)).mono ?_; rintro e' w' ⟨rfl, g, rfl⟩)
    | (refine wp_region_xt (by kernel_rfl) (by kernel_rfl) ?_; (repeat (go_big_quiet_step (first | (go_at_call 24; exact RetB.quiet (ePoint_any _ _)) | (go_at_call 30; exact RetB.quiet (axis_any _ _))))); refine wpQuiet_nil ?_; intro g))
  refine (RetB.grown (D0 _).out).mono ?_
  rintro e' w' ⟨rfl, g, rfl⟩
  go_wp2_with fail
  refine (RetB.grown (D1 _).out).mono ?_
  rintro e' w' ⟨rfl, g, rfl⟩
  go_wp2_with fail
  go_ret
  exact RetB.of rfl (by repeat' (first | exact Below.refl _ _ | assumption | refine Below.xt ?_ ?_ _ | refine Below.alloc ?_ ?_ _ | refine Below.drew ?_ | refine Below.setCell ?_ ?_ _ | (simp; done) | (simp; omega)))

set_option maxHeartbeats 800000 in
theorem rv_ff (c : Cam) (w : World) (he : pnt c.e = true) (hr : ax c.r = true) (hu : ax c.u = true) (hf : ax c.f = true) (hz : (dt c.r c.r == 0) = false) (huu : (dt c.u c.u != dt c.r c.r) = false) (hff : (dt c.f c.f != dt c.r c.r) = true) : Calls Try.prog 11 #[.agg #[.int .i64 c.e.x, .int .i64 c.e.y, .int .i64 c.e.z, .int .i64 c.r.x, .int .i64 c.r.y, .int .i64 c.r.z, .int .i64 c.u.x, .int .i64 c.u.y, .int .i64 c.u.z, .int .i64 c.f.x, .int .i64 c.f.y, .int .i64 c.f.z, .int .i64 c.fo, .int .i64 c.wi, .int .i64 c.he, .int .i64 c.ne]] w (RetB (.bool false) w) := by
  have D0 := fun w => Lib.hid (refDot_ax c.r c.r w hr hr)
  have D1 := fun w => Lib.hid (refDot_ax c.u c.u w hu hu)
  have D2 := fun w => Lib.hid (refDot_ax c.f c.f w hf hf)
  have bz : (dt c.r c.r != 0) = true := by simpa using hz
  have buu : (dt c.u c.u == dt c.r c.r) = true := by simpa using huu
  have bff : (dt c.f c.f == dt c.r c.r) = false := by simpa using hff
  go_enter Try.func11, Try.ntmps11
  go_wp2_with (first
    | (go_at_call 24; refine (RetB.grown (ePoint_any _ _)).mono ?_; rintro e' w' ⟨rfl, g, rfl⟩)
    | (go_at_call 30; refine (RetB.grown (axis_any _ _)).mono ?_; rintro e' w' ⟨rfl, g, rfl⟩)
    | (refine wp_region_xt (by kernel_rfl) (by kernel_rfl) ?_; (repeat (go_big_quiet_step (first | (go_at_call 24; exact RetB.quiet (ePoint_any _ _)) | (go_at_call 30; exact RetB.quiet (axis_any _ _))))); refine wpQuiet_nil ?_; intro g))
  refine (RetB.grown (D0 _).out).mono ?_
  rintro e' w' ⟨rfl, g, rfl⟩
  go_wp2_with fail
  refine (RetB.grown (D1 _).out).mono ?_
  rintro e' w' ⟨rfl, g, rfl⟩
  go_wp2_with fail
  refine (RetB.grown (D2 _).out).mono ?_
  rintro e' w' ⟨rfl, g, rfl⟩
  go_wp2_with fail
  go_ret
  exact RetB.of rfl (by repeat' (first | exact Below.refl _ _ | assumption | refine Below.xt ?_ ?_ _ | refine Below.alloc ?_ ?_ _ | refine Below.drew ?_ | refine Below.setCell ?_ ?_ _ | (simp; done) | (simp; omega)))

set_option maxHeartbeats 800000 in
theorem rv_ru (c : Cam) (w : World) (he : pnt c.e = true) (hr : ax c.r = true) (hu : ax c.u = true) (hf : ax c.f = true) (hz : (dt c.r c.r == 0) = false) (huu : (dt c.u c.u != dt c.r c.r) = false) (hff : (dt c.f c.f != dt c.r c.r) = false) (hru : (dt c.r c.u != 0) = true) : Calls Try.prog 11 #[.agg #[.int .i64 c.e.x, .int .i64 c.e.y, .int .i64 c.e.z, .int .i64 c.r.x, .int .i64 c.r.y, .int .i64 c.r.z, .int .i64 c.u.x, .int .i64 c.u.y, .int .i64 c.u.z, .int .i64 c.f.x, .int .i64 c.f.y, .int .i64 c.f.z, .int .i64 c.fo, .int .i64 c.wi, .int .i64 c.he, .int .i64 c.ne]] w (RetB (.bool false) w) := by
  have D0 := fun w => Lib.hid (refDot_ax c.r c.r w hr hr)
  have D1 := fun w => Lib.hid (refDot_ax c.u c.u w hu hu)
  have D2 := fun w => Lib.hid (refDot_ax c.f c.f w hf hf)
  have D3 := fun w => Lib.hid (refDot_ax c.r c.u w hr hu)
  have bz : (dt c.r c.r != 0) = true := by simpa using hz
  have buu : (dt c.u c.u == dt c.r c.r) = true := by simpa using huu
  have bff : (dt c.f c.f == dt c.r c.r) = true := by simpa using hff
  have bru : (dt c.r c.u == 0) = false := by simpa using hru
  go_enter Try.func11, Try.ntmps11
  go_wp2_with (first
    | (go_at_call 24; refine (RetB.grown (ePoint_any _ _)).mono ?_; rintro e' w' ⟨rfl, g, rfl⟩)
    | (go_at_call 30; refine (RetB.grown (axis_any _ _)).mono ?_; rintro e' w' ⟨rfl, g, rfl⟩)
    | (refine wp_region_xt (by kernel_rfl) (by kernel_rfl) ?_; (repeat (go_big_quiet_step (first | (go_at_call 24; exact RetB.quiet (ePoint_any _ _)) | (go_at_call 30; exact RetB.quiet (axis_any _ _))))); refine wpQuiet_nil ?_; intro g))
  refine (RetB.grown (D0 _).out).mono ?_
  rintro e' w' ⟨rfl, g, rfl⟩
  go_wp2_with fail
  refine (RetB.grown (D1 _).out).mono ?_
  rintro e' w' ⟨rfl, g, rfl⟩
  go_wp2_with fail
  refine (RetB.grown (D2 _).out).mono ?_
  rintro e' w' ⟨rfl, g, rfl⟩
  go_wp2_with fail
  refine (RetB.grown (D3 _).out).mono ?_
  rintro e' w' ⟨rfl, g, rfl⟩
  go_wp2_with fail
  go_ret
  exact RetB.of rfl (by repeat' (first | exact Below.refl _ _ | assumption | refine Below.xt ?_ ?_ _ | refine Below.alloc ?_ ?_ _ | refine Below.drew ?_ | refine Below.setCell ?_ ?_ _ | (simp; done) | (simp; omega)))

set_option maxHeartbeats 800000 in
theorem rv_rf (c : Cam) (w : World) (he : pnt c.e = true) (hr : ax c.r = true) (hu : ax c.u = true) (hf : ax c.f = true) (hz : (dt c.r c.r == 0) = false) (huu : (dt c.u c.u != dt c.r c.r) = false) (hff : (dt c.f c.f != dt c.r c.r) = false) (hru : (dt c.r c.u != 0) = false) (hrf : (dt c.r c.f != 0) = true) : Calls Try.prog 11 #[.agg #[.int .i64 c.e.x, .int .i64 c.e.y, .int .i64 c.e.z, .int .i64 c.r.x, .int .i64 c.r.y, .int .i64 c.r.z, .int .i64 c.u.x, .int .i64 c.u.y, .int .i64 c.u.z, .int .i64 c.f.x, .int .i64 c.f.y, .int .i64 c.f.z, .int .i64 c.fo, .int .i64 c.wi, .int .i64 c.he, .int .i64 c.ne]] w (RetB (.bool false) w) := by
  have D0 := fun w => Lib.hid (refDot_ax c.r c.r w hr hr)
  have D1 := fun w => Lib.hid (refDot_ax c.u c.u w hu hu)
  have D2 := fun w => Lib.hid (refDot_ax c.f c.f w hf hf)
  have D3 := fun w => Lib.hid (refDot_ax c.r c.u w hr hu)
  have D4 := fun w => Lib.hid (refDot_ax c.r c.f w hr hf)
  have bz : (dt c.r c.r != 0) = true := by simpa using hz
  have buu : (dt c.u c.u == dt c.r c.r) = true := by simpa using huu
  have bff : (dt c.f c.f == dt c.r c.r) = true := by simpa using hff
  have bru : (dt c.r c.u == 0) = true := by simpa using hru
  have brf : (dt c.r c.f == 0) = false := by simpa using hrf
  go_enter Try.func11, Try.ntmps11
  go_wp2_with (first
    | (go_at_call 24; refine (RetB.grown (ePoint_any _ _)).mono ?_; rintro e' w' ⟨rfl, g, rfl⟩)
    | (go_at_call 30; refine (RetB.grown (axis_any _ _)).mono ?_; rintro e' w' ⟨rfl, g, rfl⟩)
    | (refine wp_region_xt (by kernel_rfl) (by kernel_rfl) ?_; (repeat (go_big_quiet_step (first | (go_at_call 24; exact RetB.quiet (ePoint_any _ _)) | (go_at_call 30; exact RetB.quiet (axis_any _ _))))); refine wpQuiet_nil ?_; intro g))
  refine (RetB.grown (D0 _).out).mono ?_
  rintro e' w' ⟨rfl, g, rfl⟩
  go_wp2_with fail
  refine (RetB.grown (D1 _).out).mono ?_
  rintro e' w' ⟨rfl, g, rfl⟩
  go_wp2_with fail
  refine (RetB.grown (D2 _).out).mono ?_
  rintro e' w' ⟨rfl, g, rfl⟩
  go_wp2_with fail
  refine (RetB.grown (D3 _).out).mono ?_
  rintro e' w' ⟨rfl, g, rfl⟩
  go_wp2_with fail
  refine (RetB.grown (D4 _).out).mono ?_
  rintro e' w' ⟨rfl, g, rfl⟩
  go_wp2_with fail
  go_ret
  exact RetB.of rfl (by repeat' (first | exact Below.refl _ _ | assumption | refine Below.xt ?_ ?_ _ | refine Below.alloc ?_ ?_ _ | refine Below.drew ?_ | refine Below.setCell ?_ ?_ _ | (simp; done) | (simp; omega)))

set_option maxHeartbeats 800000 in
theorem rv_uf (c : Cam) (w : World) (he : pnt c.e = true) (hr : ax c.r = true) (hu : ax c.u = true) (hf : ax c.f = true) (hz : (dt c.r c.r == 0) = false) (huu : (dt c.u c.u != dt c.r c.r) = false) (hff : (dt c.f c.f != dt c.r c.r) = false) (hru : (dt c.r c.u != 0) = false) (hrf : (dt c.r c.f != 0) = false) (huf : (dt c.u c.f != 0) = true) : Calls Try.prog 11 #[.agg #[.int .i64 c.e.x, .int .i64 c.e.y, .int .i64 c.e.z, .int .i64 c.r.x, .int .i64 c.r.y, .int .i64 c.r.z, .int .i64 c.u.x, .int .i64 c.u.y, .int .i64 c.u.z, .int .i64 c.f.x, .int .i64 c.f.y, .int .i64 c.f.z, .int .i64 c.fo, .int .i64 c.wi, .int .i64 c.he, .int .i64 c.ne]] w (RetB (.bool false) w) := by
  have D0 := fun w => Lib.hid (refDot_ax c.r c.r w hr hr)
  have D1 := fun w => Lib.hid (refDot_ax c.u c.u w hu hu)
  have D2 := fun w => Lib.hid (refDot_ax c.f c.f w hf hf)
  have D3 := fun w => Lib.hid (refDot_ax c.r c.u w hr hu)
  have D4 := fun w => Lib.hid (refDot_ax c.r c.f w hr hf)
  have D5 := fun w => Lib.hid (refDot_ax c.u c.f w hu hf)
  have bz : (dt c.r c.r != 0) = true := by simpa using hz
  have buu : (dt c.u c.u == dt c.r c.r) = true := by simpa using huu
  have bff : (dt c.f c.f == dt c.r c.r) = true := by simpa using hff
  have bru : (dt c.r c.u == 0) = true := by simpa using hru
  have brf : (dt c.r c.f == 0) = true := by simpa using hrf
  have buf : (dt c.u c.f == 0) = false := by simpa using huf
  go_enter Try.func11, Try.ntmps11
  go_wp2_with (first
    | (go_at_call 24; refine (RetB.grown (ePoint_any _ _)).mono ?_; rintro e' w' ⟨rfl, g, rfl⟩)
    | (go_at_call 30; refine (RetB.grown (axis_any _ _)).mono ?_; rintro e' w' ⟨rfl, g, rfl⟩)
    | (refine wp_region_xt (by kernel_rfl) (by kernel_rfl) ?_; (repeat (go_big_quiet_step (first | (go_at_call 24; exact RetB.quiet (ePoint_any _ _)) | (go_at_call 30; exact RetB.quiet (axis_any _ _))))); refine wpQuiet_nil ?_; intro g))
  refine (RetB.grown (D0 _).out).mono ?_
  rintro e' w' ⟨rfl, g, rfl⟩
  go_wp2_with fail
  refine (RetB.grown (D1 _).out).mono ?_
  rintro e' w' ⟨rfl, g, rfl⟩
  go_wp2_with fail
  refine (RetB.grown (D2 _).out).mono ?_
  rintro e' w' ⟨rfl, g, rfl⟩
  go_wp2_with fail
  refine (RetB.grown (D3 _).out).mono ?_
  rintro e' w' ⟨rfl, g, rfl⟩
  go_wp2_with fail
  refine (RetB.grown (D4 _).out).mono ?_
  rintro e' w' ⟨rfl, g, rfl⟩
  go_wp2_with fail
  refine (RetB.grown (D5 _).out).mono ?_
  rintro e' w' ⟨rfl, g, rfl⟩
  go_wp2_with fail
  go_ret
  exact RetB.of rfl (by repeat' (first | exact Below.refl _ _ | assumption | refine Below.xt ?_ ?_ _ | refine Below.alloc ?_ ?_ _ | refine Below.drew ?_ | refine Below.setCell ?_ ?_ _ | (simp; done) | (simp; omega)))

set_option maxHeartbeats 800000 in
theorem rv_fo (c : Cam) (w : World) (he : pnt c.e = true) (hr : ax c.r = true) (hu : ax c.u = true) (hf : ax c.f = true) (hz : (dt c.r c.r == 0) = false) (huu : (dt c.u c.u != dt c.r c.r) = false) (hff : (dt c.f c.f != dt c.r c.r) = false) (hru : (dt c.r c.u != 0) = false) (hrf : (dt c.r c.f != 0) = false) (huf : (dt c.u c.f != 0) = false) (hfo : within c.fo 1 4096 = false) : Calls Try.prog 11 #[.agg #[.int .i64 c.e.x, .int .i64 c.e.y, .int .i64 c.e.z, .int .i64 c.r.x, .int .i64 c.r.y, .int .i64 c.r.z, .int .i64 c.u.x, .int .i64 c.u.y, .int .i64 c.u.z, .int .i64 c.f.x, .int .i64 c.f.y, .int .i64 c.f.z, .int .i64 c.fo, .int .i64 c.wi, .int .i64 c.he, .int .i64 c.ne]] w (RetB (.bool false) w) := by
  have D0 := fun w => Lib.hid (refDot_ax c.r c.r w hr hr)
  have D1 := fun w => Lib.hid (refDot_ax c.u c.u w hu hu)
  have D2 := fun w => Lib.hid (refDot_ax c.f c.f w hf hf)
  have D3 := fun w => Lib.hid (refDot_ax c.r c.u w hr hu)
  have D4 := fun w => Lib.hid (refDot_ax c.r c.f w hr hf)
  have D5 := fun w => Lib.hid (refDot_ax c.u c.f w hu hf)
  have bz : (dt c.r c.r != 0) = true := by simpa using hz
  have buu : (dt c.u c.u == dt c.r c.r) = true := by simpa using huu
  have bff : (dt c.f c.f == dt c.r c.r) = true := by simpa using hff
  have bru : (dt c.r c.u == 0) = true := by simpa using hru
  have brf : (dt c.r c.f == 0) = true := by simpa using hrf
  have buf : (dt c.u c.f == 0) = true := by simpa using huf
  go_enter Try.func11, Try.ntmps11
  go_wp2_with (first
    | (go_at_call 24; refine (RetB.grown (ePoint_any _ _)).mono ?_; rintro e' w' ⟨rfl, g, rfl⟩)
    | (go_at_call 30; refine (RetB.grown (axis_any _ _)).mono ?_; rintro e' w' ⟨rfl, g, rfl⟩)
    | (refine wp_region_xt (by kernel_rfl) (by kernel_rfl) ?_; (repeat (go_big_quiet_step (first | (go_at_call 24; exact RetB.quiet (ePoint_any _ _)) | (go_at_call 30; exact RetB.quiet (axis_any _ _))))); refine wpQuiet_nil ?_; intro g))
  refine (RetB.grown (D0 _).out).mono ?_
  rintro e' w' ⟨rfl, g, rfl⟩
  go_wp2_with fail
  refine (RetB.grown (D1 _).out).mono ?_
  rintro e' w' ⟨rfl, g, rfl⟩
  go_wp2_with fail
  refine (RetB.grown (D2 _).out).mono ?_
  rintro e' w' ⟨rfl, g, rfl⟩
  go_wp2_with fail
  refine (RetB.grown (D3 _).out).mono ?_
  rintro e' w' ⟨rfl, g, rfl⟩
  go_wp2_with fail
  refine (RetB.grown (D4 _).out).mono ?_
  rintro e' w' ⟨rfl, g, rfl⟩
  go_wp2_with fail
  refine (RetB.grown (D5 _).out).mono ?_
  rintro e' w' ⟨rfl, g, rfl⟩
  go_wp2_with (first
    | (go_at_call 31; refine (refTo_any _ _ _ _).mono ?_; rintro e' w' ⟨rfl, rfl⟩)
    | (refine wp_region_xt (by kernel_rfl) (by kernel_rfl) ?_; (repeat (go_big_quiet_step (first | (go_at_call 31; exact Ret.quiet (refTo_any _ _ _ _))))); refine wpQuiet_nil ?_; intro g))
  go_ret
  exact RetB.of rfl (by repeat' (first | exact Below.refl _ _ | assumption | refine Below.xt ?_ ?_ _ | refine Below.alloc ?_ ?_ _ | refine Below.drew ?_ | refine Below.setCell ?_ ?_ _ | (simp; done) | (simp; omega)))

set_option maxHeartbeats 800000 in
theorem rv_wi (c : Cam) (w : World) (he : pnt c.e = true) (hr : ax c.r = true) (hu : ax c.u = true) (hf : ax c.f = true) (hz : (dt c.r c.r == 0) = false) (huu : (dt c.u c.u != dt c.r c.r) = false) (hff : (dt c.f c.f != dt c.r c.r) = false) (hru : (dt c.r c.u != 0) = false) (hrf : (dt c.r c.f != 0) = false) (huf : (dt c.u c.f != 0) = false) (hfo : within c.fo 1 4096 = true) (hwi : within c.wi 1 4096 = false) : Calls Try.prog 11 #[.agg #[.int .i64 c.e.x, .int .i64 c.e.y, .int .i64 c.e.z, .int .i64 c.r.x, .int .i64 c.r.y, .int .i64 c.r.z, .int .i64 c.u.x, .int .i64 c.u.y, .int .i64 c.u.z, .int .i64 c.f.x, .int .i64 c.f.y, .int .i64 c.f.z, .int .i64 c.fo, .int .i64 c.wi, .int .i64 c.he, .int .i64 c.ne]] w (RetB (.bool false) w) := by
  have D0 := fun w => Lib.hid (refDot_ax c.r c.r w hr hr)
  have D1 := fun w => Lib.hid (refDot_ax c.u c.u w hu hu)
  have D2 := fun w => Lib.hid (refDot_ax c.f c.f w hf hf)
  have D3 := fun w => Lib.hid (refDot_ax c.r c.u w hr hu)
  have D4 := fun w => Lib.hid (refDot_ax c.r c.f w hr hf)
  have D5 := fun w => Lib.hid (refDot_ax c.u c.f w hu hf)
  have bz : (dt c.r c.r != 0) = true := by simpa using hz
  have buu : (dt c.u c.u == dt c.r c.r) = true := by simpa using huu
  have bff : (dt c.f c.f == dt c.r c.r) = true := by simpa using hff
  have bru : (dt c.r c.u == 0) = true := by simpa using hru
  have brf : (dt c.r c.f == 0) = true := by simpa using hrf
  have buf : (dt c.u c.f == 0) = true := by simpa using huf
  go_enter Try.func11, Try.ntmps11
  go_wp2_with (first
    | (go_at_call 24; refine (RetB.grown (ePoint_any _ _)).mono ?_; rintro e' w' ⟨rfl, g, rfl⟩)
    | (go_at_call 30; refine (RetB.grown (axis_any _ _)).mono ?_; rintro e' w' ⟨rfl, g, rfl⟩)
    | (refine wp_region_xt (by kernel_rfl) (by kernel_rfl) ?_; (repeat (go_big_quiet_step (first | (go_at_call 24; exact RetB.quiet (ePoint_any _ _)) | (go_at_call 30; exact RetB.quiet (axis_any _ _))))); refine wpQuiet_nil ?_; intro g))
  refine (RetB.grown (D0 _).out).mono ?_
  rintro e' w' ⟨rfl, g, rfl⟩
  go_wp2_with fail
  refine (RetB.grown (D1 _).out).mono ?_
  rintro e' w' ⟨rfl, g, rfl⟩
  go_wp2_with fail
  refine (RetB.grown (D2 _).out).mono ?_
  rintro e' w' ⟨rfl, g, rfl⟩
  go_wp2_with fail
  refine (RetB.grown (D3 _).out).mono ?_
  rintro e' w' ⟨rfl, g, rfl⟩
  go_wp2_with fail
  refine (RetB.grown (D4 _).out).mono ?_
  rintro e' w' ⟨rfl, g, rfl⟩
  go_wp2_with fail
  refine (RetB.grown (D5 _).out).mono ?_
  rintro e' w' ⟨rfl, g, rfl⟩
  go_wp2_with (first
    | (go_at_call 31; refine (refTo_any _ _ _ _).mono ?_; rintro e' w' ⟨rfl, rfl⟩)
    | (refine wp_region_xt (by kernel_rfl) (by kernel_rfl) ?_; (repeat (go_big_quiet_step (first | (go_at_call 31; exact Ret.quiet (refTo_any _ _ _ _))))); refine wpQuiet_nil ?_; intro g))
  go_ret
  exact RetB.of rfl (by repeat' (first | exact Below.refl _ _ | assumption | refine Below.xt ?_ ?_ _ | refine Below.alloc ?_ ?_ _ | refine Below.drew ?_ | refine Below.setCell ?_ ?_ _ | (simp; done) | (simp; omega)))

set_option maxHeartbeats 800000 in
theorem rv_he (c : Cam) (w : World) (he : pnt c.e = true) (hr : ax c.r = true) (hu : ax c.u = true) (hf : ax c.f = true) (hz : (dt c.r c.r == 0) = false) (huu : (dt c.u c.u != dt c.r c.r) = false) (hff : (dt c.f c.f != dt c.r c.r) = false) (hru : (dt c.r c.u != 0) = false) (hrf : (dt c.r c.f != 0) = false) (huf : (dt c.u c.f != 0) = false) (hfo : within c.fo 1 4096 = true) (hwi : within c.wi 1 4096 = true) (hhe : within c.he 1 4096 = false) : Calls Try.prog 11 #[.agg #[.int .i64 c.e.x, .int .i64 c.e.y, .int .i64 c.e.z, .int .i64 c.r.x, .int .i64 c.r.y, .int .i64 c.r.z, .int .i64 c.u.x, .int .i64 c.u.y, .int .i64 c.u.z, .int .i64 c.f.x, .int .i64 c.f.y, .int .i64 c.f.z, .int .i64 c.fo, .int .i64 c.wi, .int .i64 c.he, .int .i64 c.ne]] w (RetB (.bool false) w) := by
  have D0 := fun w => Lib.hid (refDot_ax c.r c.r w hr hr)
  have D1 := fun w => Lib.hid (refDot_ax c.u c.u w hu hu)
  have D2 := fun w => Lib.hid (refDot_ax c.f c.f w hf hf)
  have D3 := fun w => Lib.hid (refDot_ax c.r c.u w hr hu)
  have D4 := fun w => Lib.hid (refDot_ax c.r c.f w hr hf)
  have D5 := fun w => Lib.hid (refDot_ax c.u c.f w hu hf)
  have bz : (dt c.r c.r != 0) = true := by simpa using hz
  have buu : (dt c.u c.u == dt c.r c.r) = true := by simpa using huu
  have bff : (dt c.f c.f == dt c.r c.r) = true := by simpa using hff
  have bru : (dt c.r c.u == 0) = true := by simpa using hru
  have brf : (dt c.r c.f == 0) = true := by simpa using hrf
  have buf : (dt c.u c.f == 0) = true := by simpa using huf
  go_enter Try.func11, Try.ntmps11
  go_wp2_with (first
    | (go_at_call 24; refine (RetB.grown (ePoint_any _ _)).mono ?_; rintro e' w' ⟨rfl, g, rfl⟩)
    | (go_at_call 30; refine (RetB.grown (axis_any _ _)).mono ?_; rintro e' w' ⟨rfl, g, rfl⟩)
    | (refine wp_region_xt (by kernel_rfl) (by kernel_rfl) ?_; (repeat (go_big_quiet_step (first | (go_at_call 24; exact RetB.quiet (ePoint_any _ _)) | (go_at_call 30; exact RetB.quiet (axis_any _ _))))); refine wpQuiet_nil ?_; intro g))
  refine (RetB.grown (D0 _).out).mono ?_
  rintro e' w' ⟨rfl, g, rfl⟩
  go_wp2_with fail
  refine (RetB.grown (D1 _).out).mono ?_
  rintro e' w' ⟨rfl, g, rfl⟩
  go_wp2_with fail
  refine (RetB.grown (D2 _).out).mono ?_
  rintro e' w' ⟨rfl, g, rfl⟩
  go_wp2_with fail
  refine (RetB.grown (D3 _).out).mono ?_
  rintro e' w' ⟨rfl, g, rfl⟩
  go_wp2_with fail
  refine (RetB.grown (D4 _).out).mono ?_
  rintro e' w' ⟨rfl, g, rfl⟩
  go_wp2_with fail
  refine (RetB.grown (D5 _).out).mono ?_
  rintro e' w' ⟨rfl, g, rfl⟩
  go_wp2_with (first
    | (go_at_call 31; refine (refTo_any _ _ _ _).mono ?_; rintro e' w' ⟨rfl, rfl⟩)
    | (refine wp_region_xt (by kernel_rfl) (by kernel_rfl) ?_; (repeat (go_big_quiet_step (first | (go_at_call 31; exact Ret.quiet (refTo_any _ _ _ _))))); refine wpQuiet_nil ?_; intro g))
  go_ret
  exact RetB.of rfl (by repeat' (first | exact Below.refl _ _ | assumption | refine Below.xt ?_ ?_ _ | refine Below.alloc ?_ ?_ _ | refine Below.drew ?_ | refine Below.setCell ?_ ?_ _ | (simp; done) | (simp; omega)))

set_option maxHeartbeats 800000 in
theorem rv_last (c : Cam) (w : World) (he : pnt c.e = true) (hr : ax c.r = true) (hu : ax c.u = true) (hf : ax c.f = true) (hz : (dt c.r c.r == 0) = false) (huu : (dt c.u c.u != dt c.r c.r) = false) (hff : (dt c.f c.f != dt c.r c.r) = false) (hru : (dt c.r c.u != 0) = false) (hrf : (dt c.r c.f != 0) = false) (huf : (dt c.u c.f != 0) = false) (hfo : within c.fo 1 4096 = true) (hwi : within c.wi 1 4096 = true) (hhe : within c.he 1 4096 = true) : Calls Try.prog 11 #[.agg #[.int .i64 c.e.x, .int .i64 c.e.y, .int .i64 c.e.z, .int .i64 c.r.x, .int .i64 c.r.y, .int .i64 c.r.z, .int .i64 c.u.x, .int .i64 c.u.y, .int .i64 c.u.z, .int .i64 c.f.x, .int .i64 c.f.y, .int .i64 c.f.z, .int .i64 c.fo, .int .i64 c.wi, .int .i64 c.he, .int .i64 c.ne]] w (RetB (.bool (within c.ne 1 1073741824)) w) := by
  have D0 := fun w => Lib.hid (refDot_ax c.r c.r w hr hr)
  have D1 := fun w => Lib.hid (refDot_ax c.u c.u w hu hu)
  have D2 := fun w => Lib.hid (refDot_ax c.f c.f w hf hf)
  have D3 := fun w => Lib.hid (refDot_ax c.r c.u w hr hu)
  have D4 := fun w => Lib.hid (refDot_ax c.r c.f w hr hf)
  have D5 := fun w => Lib.hid (refDot_ax c.u c.f w hu hf)
  have bz : (dt c.r c.r != 0) = true := by simpa using hz
  have buu : (dt c.u c.u == dt c.r c.r) = true := by simpa using huu
  have bff : (dt c.f c.f == dt c.r c.r) = true := by simpa using hff
  have bru : (dt c.r c.u == 0) = true := by simpa using hru
  have brf : (dt c.r c.f == 0) = true := by simpa using hrf
  have buf : (dt c.u c.f == 0) = true := by simpa using huf
  go_enter Try.func11, Try.ntmps11
  go_wp2_with (first
    | (go_at_call 24; refine (RetB.grown (ePoint_any _ _)).mono ?_; rintro e' w' ⟨rfl, g, rfl⟩)
    | (go_at_call 30; refine (RetB.grown (axis_any _ _)).mono ?_; rintro e' w' ⟨rfl, g, rfl⟩)
    | (refine wp_region_xt (by kernel_rfl) (by kernel_rfl) ?_; (repeat (go_big_quiet_step (first | (go_at_call 24; exact RetB.quiet (ePoint_any _ _)) | (go_at_call 30; exact RetB.quiet (axis_any _ _))))); refine wpQuiet_nil ?_; intro g))
  refine (RetB.grown (D0 _).out).mono ?_
  rintro e' w' ⟨rfl, g, rfl⟩
  go_wp2_with fail
  refine (RetB.grown (D1 _).out).mono ?_
  rintro e' w' ⟨rfl, g, rfl⟩
  go_wp2_with fail
  refine (RetB.grown (D2 _).out).mono ?_
  rintro e' w' ⟨rfl, g, rfl⟩
  go_wp2_with fail
  refine (RetB.grown (D3 _).out).mono ?_
  rintro e' w' ⟨rfl, g, rfl⟩
  go_wp2_with fail
  refine (RetB.grown (D4 _).out).mono ?_
  rintro e' w' ⟨rfl, g, rfl⟩
  go_wp2_with fail
  refine (RetB.grown (D5 _).out).mono ?_
  rintro e' w' ⟨rfl, g, rfl⟩
  go_wp2_with (first
    | (go_at_call 31; refine (refTo_any _ _ _ _).mono ?_; rintro e' w' ⟨rfl, rfl⟩)
    | (refine wp_region_xt (by kernel_rfl) (by kernel_rfl) ?_; (repeat (go_big_quiet_step (first | (go_at_call 31; exact Ret.quiet (refTo_any _ _ _ _))))); refine wpQuiet_nil ?_; intro g))
  go_ret
  exact RetB.of rfl (by repeat' (first | exact Below.refl _ _ | assumption | refine Below.xt ?_ ?_ _ | refine Below.alloc ?_ ?_ _ | refine Below.drew ?_ | refine Below.setCell ?_ ?_ _ | (simp; done) | (simp; omega)))

theorem refvalid_any (c : Cam) (w : World) : Calls Try.prog 11 #[.agg #[.int .i64 c.e.x, .int .i64 c.e.y, .int .i64 c.e.z, .int .i64 c.r.x, .int .i64 c.r.y, .int .i64 c.r.z, .int .i64 c.u.x, .int .i64 c.u.y, .int .i64 c.u.z, .int .i64 c.f.x, .int .i64 c.f.y, .int .i64 c.f.z, .int .i64 c.fo, .int .i64 c.wi, .int .i64 c.he, .int .i64 c.ne]] w (RetB (.bool (cval c)) w) := by
  have key : cval c = (pnt c.e && ax c.r && ax c.u && ax c.f && !(dt c.r c.r == 0) && !(dt c.u c.u != dt c.r c.r) && !(dt c.f c.f != dt c.r c.r) && !(dt c.r c.u != 0) && !(dt c.r c.f != 0) && !(dt c.u c.f != 0) && within c.fo 1 4096 && within c.wi 1 4096 && within c.he 1 4096 && within c.ne 1 1073741824) := by
    unfold cval
    simp [bne]
  rw [key]
  by_cases he : pnt c.e = true
  case neg =>
    have he' : pnt c.e = false := by simpa using he
    simp only [he', Bool.true_and, Bool.false_and, Bool.and_false, Bool.not_true, Bool.not_false]
    exact rv_e c w he'
  by_cases hr : ax c.r = true
  case neg =>
    have hr' : ax c.r = false := by simpa using hr
    simp only [he, hr', Bool.true_and, Bool.false_and, Bool.and_false, Bool.not_true, Bool.not_false]
    exact rv_r c w he hr'
  by_cases hu : ax c.u = true
  case neg =>
    have hu' : ax c.u = false := by simpa using hu
    simp only [he, hr, hu', Bool.true_and, Bool.false_and, Bool.and_false, Bool.not_true, Bool.not_false]
    exact rv_u c w he hr hu'
  by_cases hf : ax c.f = true
  case neg =>
    have hf' : ax c.f = false := by simpa using hf
    simp only [he, hr, hu, hf', Bool.true_and, Bool.false_and, Bool.and_false, Bool.not_true, Bool.not_false]
    exact rv_f c w he hr hu hf'
  by_cases hz : (dt c.r c.r == 0) = false
  case neg =>
    have hz' : (dt c.r c.r == 0) = true := by simpa using hz
    simp only [he, hr, hu, hf, hz', Bool.true_and, Bool.false_and, Bool.and_false, Bool.not_true, Bool.not_false]
    exact rv_z c w he hr hu hf hz'
  by_cases huu : (dt c.u c.u != dt c.r c.r) = false
  case neg =>
    have huu' : (dt c.u c.u != dt c.r c.r) = true := by simpa using huu
    simp only [he, hr, hu, hf, hz, huu', Bool.true_and, Bool.false_and, Bool.and_false, Bool.not_true, Bool.not_false]
    exact rv_uu c w he hr hu hf hz huu'
  by_cases hff : (dt c.f c.f != dt c.r c.r) = false
  case neg =>
    have hff' : (dt c.f c.f != dt c.r c.r) = true := by simpa using hff
    simp only [he, hr, hu, hf, hz, huu, hff', Bool.true_and, Bool.false_and, Bool.and_false, Bool.not_true, Bool.not_false]
    exact rv_ff c w he hr hu hf hz huu hff'
  by_cases hru : (dt c.r c.u != 0) = false
  case neg =>
    have hru' : (dt c.r c.u != 0) = true := by simpa using hru
    simp only [he, hr, hu, hf, hz, huu, hff, hru', Bool.true_and, Bool.false_and, Bool.and_false, Bool.not_true, Bool.not_false]
    exact rv_ru c w he hr hu hf hz huu hff hru'
  by_cases hrf : (dt c.r c.f != 0) = false
  case neg =>
    have hrf' : (dt c.r c.f != 0) = true := by simpa using hrf
    simp only [he, hr, hu, hf, hz, huu, hff, hru, hrf', Bool.true_and, Bool.false_and, Bool.and_false, Bool.not_true, Bool.not_false]
    exact rv_rf c w he hr hu hf hz huu hff hru hrf'
  by_cases huf : (dt c.u c.f != 0) = false
  case neg =>
    have huf' : (dt c.u c.f != 0) = true := by simpa using huf
    simp only [he, hr, hu, hf, hz, huu, hff, hru, hrf, huf', Bool.true_and, Bool.false_and, Bool.and_false, Bool.not_true, Bool.not_false]
    exact rv_uf c w he hr hu hf hz huu hff hru hrf huf'
  by_cases hfo : within c.fo 1 4096 = true
  case neg =>
    have hfo' : within c.fo 1 4096 = false := by simpa using hfo
    simp only [he, hr, hu, hf, hz, huu, hff, hru, hrf, huf, hfo', Bool.true_and, Bool.false_and, Bool.and_false, Bool.not_true, Bool.not_false]
    exact rv_fo c w he hr hu hf hz huu hff hru hrf huf hfo'
  by_cases hwi : within c.wi 1 4096 = true
  case neg =>
    have hwi' : within c.wi 1 4096 = false := by simpa using hwi
    simp only [he, hr, hu, hf, hz, huu, hff, hru, hrf, huf, hfo, hwi', Bool.true_and, Bool.false_and, Bool.and_false, Bool.not_true, Bool.not_false]
    exact rv_wi c w he hr hu hf hz huu hff hru hrf huf hfo hwi'
  by_cases hhe : within c.he 1 4096 = true
  case neg =>
    have hhe' : within c.he 1 4096 = false := by simpa using hhe
    simp only [he, hr, hu, hf, hz, huu, hff, hru, hrf, huf, hfo, hwi, hhe', Bool.true_and, Bool.false_and, Bool.and_false, Bool.not_true, Bool.not_false]
    exact rv_he c w he hr hu hf hz huu hff hru hrf huf hfo hwi hhe'
  simp only [he, hr, hu, hf, hz, huu, hff, hru, hrf, huf, hfo, hwi, hhe, Bool.true_and, Bool.false_and, Bool.and_false, Bool.not_true, Bool.not_false]
  exact rv_last c w he hr hu hf hz huu hff hru hrf huf hfo hwi hhe

end Go.Proofs.Ytjeemlnhokihoaa

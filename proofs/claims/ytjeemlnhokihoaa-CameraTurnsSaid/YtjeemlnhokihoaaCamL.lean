/- Walks of the laws CameraValids, CameraLooks, CameraTurns. No condition. -/
import Derived.Test.YtjeemlnhokihoaaCamK
import Derived.Test.YtjeemlnhokihoaaCamR2
namespace Go.Proofs.Ytjeemlnhokihoaa
open Go.RowKit
set_option linter.unusedVariables false
attribute [local go_sem ↓] ld16

set_option maxRecDepth 100000 in
set_option maxHeartbeats 800000 in
theorem CameraValids_walk (c : Cam) (w : World) : Calls Try.prog 3 #[.agg #[.int .i64 c.e.x, .int .i64 c.e.y, .int .i64 c.e.z, .int .i64 c.r.x, .int .i64 c.r.y, .int .i64 c.r.z, .int .i64 c.u.x, .int .i64 c.u.y, .int .i64 c.u.z, .int .i64 c.f.x, .int .i64 c.f.y, .int .i64 c.f.z, .int .i64 c.fo, .int .i64 c.wi, .int .i64 c.he, .int .i64 c.ne]] w (RetB (.bool true) w) := by
  go_enter Try.func3, Try.ntmps3
  go_wp2_with (first
    | (go_at_call 10; refine (RetB.grown (cvalid_any c _)).mono ?_; rintro e' w' ⟨rfl, g, rfl⟩)
    | (go_at_call 11; refine (RetB.grown (refvalid_any c _)).mono ?_; rintro e' w' ⟨rfl, g, rfl⟩)
    | (go_at_call 12; refine (RetB.grown (known_any _)).mono ?_; rintro e' w' ⟨rfl, g, rfl⟩)
    | (refine wp_region_xt (by kernel_rfl) (by kernel_rfl) ?_; (repeat (go_big_quiet_step (first | (go_at_call 10; exact RetB.quiet (cvalid_any c _)) | (go_at_call 11; exact RetB.quiet (refvalid_any c _)) | (go_at_call 12; exact RetB.quiet (known_any _))))); refine wpQuiet_nil ?_; intro g))
  go_ret
  exact RetB.of rfl (by repeat' (first | exact Below.refl _ _ | assumption | refine Below.xt ?_ ?_ _ | refine Below.alloc ?_ ?_ _ | refine Below.drew ?_ | refine Below.setCell ?_ ?_ _ | (simp; done) | (simp; omega)))

set_option maxRecDepth 100000 in
set_option maxHeartbeats 1600000 in
theorem CameraLooks_main (e : V3) (q fo wi he ne er : Int) (d : Cam) (w : World) (c1 : ∀ w, Calls Try.prog 13 #[.agg #[.int .i64 e.x, .int .i64 e.y, .int .i64 e.z], .int .i64 q, .int .i64 fo, .int .i64 wi, .int .i64 he, .int .i64 ne] w (RetB (.tuple #[.agg #[.int .i64 d.e.x, .int .i64 d.e.y, .int .i64 d.e.z, .int .i64 d.r.x, .int .i64 d.r.y, .int .i64 d.r.z, .int .i64 d.u.x, .int .i64 d.u.y, .int .i64 d.u.z, .int .i64 d.f.x, .int .i64 d.f.y, .int .i64 d.f.z, .int .i64 d.fo, .int .i64 d.wi, .int .i64 d.he, .int .i64 d.ne], .int .i64 er]) w)) (c2 : ∀ w, Calls Try.prog 14 #[.agg #[.int .i64 e.x, .int .i64 e.y, .int .i64 e.z], .int .i64 q, .int .i64 fo, .int .i64 wi, .int .i64 he, .int .i64 ne] w (RetB (.tuple #[.agg #[.int .i64 d.e.x, .int .i64 d.e.y, .int .i64 d.e.z, .int .i64 d.r.x, .int .i64 d.r.y, .int .i64 d.r.z, .int .i64 d.u.x, .int .i64 d.u.y, .int .i64 d.u.z, .int .i64 d.f.x, .int .i64 d.f.y, .int .i64 d.f.z, .int .i64 d.fo, .int .i64 d.wi, .int .i64 d.he, .int .i64 d.ne], .int .i64 er]) w)) : Calls Try.prog 4 #[.agg #[.int .i64 e.x, .int .i64 e.y, .int .i64 e.z], .int .i64 q, .int .i64 fo, .int .i64 wi, .int .i64 he, .int .i64 ne] w (RetB (.bool true) w) := by
  have C1 := fun w => Lib.hid (c1 w)
  have C2 := fun w => Lib.hid (c2 w)
  clear c1 c2
  go_enter Try.func4, Try.ntmps4
  go_wp2_with (first
    | (go_at_call 13; refine (RetB.grown ((C1 _).out)).mono ?_; rintro e' w' ⟨rfl, g, rfl⟩)
    | (go_at_call 14; refine (RetB.grown ((C2 _).out)).mono ?_; rintro e' w' ⟨rfl, g, rfl⟩)
    | (go_at_call 12; refine (RetB.grown (known_any _)).mono ?_; rintro e' w' ⟨rfl, g, rfl⟩)
    | (refine wp_region_xt (by kernel_rfl) (by kernel_rfl) ?_; (repeat (go_big_quiet_step (first | (go_at_call 13; exact RetB.quiet ((C1 _).out)) | (go_at_call 14; exact RetB.quiet ((C2 _).out)) | (go_at_call 12; exact RetB.quiet (known_any _))))); refine wpQuiet_nil ?_; intro g))
  go_ret
  exact RetB.of rfl (by repeat' (first | exact Below.refl _ _ | assumption | refine Below.xt ?_ ?_ _ | refine Below.alloc ?_ ?_ _ | refine Below.drew ?_ | refine Below.setCell ?_ ?_ _ | (simp; done) | (simp; omega)))
theorem CameraLooks_walk (e : V3) (q fo wi he ne : Int) (w : World) : Calls Try.prog 4 #[.agg #[.int .i64 e.x, .int .i64 e.y, .int .i64 e.z], .int .i64 q, .int .i64 fo, .int .i64 wi, .int .i64 he, .int .i64 ne] w (RetB (.bool true) w) := by
  by_cases h : within q 0 3 = true
  · by_cases h2 : cval (look e fo wi he ne) = true
    · exact CameraLooks_main e q fo wi he ne 0 _ w (fun w => Look_ok e q fo wi he ne _ w h h2 rfl) (fun w => refLook_ok e q fo wi he ne _ w h h2 rfl)
    · have h2' : cval (look e fo wi he ne) = false := by simpa using h2
      exact CameraLooks_main e q fo wi he ne 2 Z0 w (fun w => Look_bad e q fo wi he ne w h h2') (fun w => refLook_bad e q fo wi he ne w h h2')
  · have h' : within q 0 3 = false := by simpa using h
    exact CameraLooks_main e q fo wi he ne 2 Z0 w (fun w => Look_far e q fo wi he ne w h') (fun w => refLook_far e q fo wi he ne w h')

set_option maxRecDepth 100000 in
set_option maxHeartbeats 1600000 in
theorem CameraTurns_main (c : Cam) (q er : Int) (d : Cam) (w : World) (c1 : ∀ w, Calls Try.prog 20 #[.agg #[.int .i64 c.e.x, .int .i64 c.e.y, .int .i64 c.e.z, .int .i64 c.r.x, .int .i64 c.r.y, .int .i64 c.r.z, .int .i64 c.u.x, .int .i64 c.u.y, .int .i64 c.u.z, .int .i64 c.f.x, .int .i64 c.f.y, .int .i64 c.f.z, .int .i64 c.fo, .int .i64 c.wi, .int .i64 c.he, .int .i64 c.ne], .int .i64 q] w (RetB (.tuple #[.agg #[.int .i64 d.e.x, .int .i64 d.e.y, .int .i64 d.e.z, .int .i64 d.r.x, .int .i64 d.r.y, .int .i64 d.r.z, .int .i64 d.u.x, .int .i64 d.u.y, .int .i64 d.u.z, .int .i64 d.f.x, .int .i64 d.f.y, .int .i64 d.f.z, .int .i64 d.fo, .int .i64 d.wi, .int .i64 d.he, .int .i64 d.ne], .int .i64 er]) w)) (c2 : ∀ w, Calls Try.prog 21 #[.agg #[.int .i64 c.e.x, .int .i64 c.e.y, .int .i64 c.e.z, .int .i64 c.r.x, .int .i64 c.r.y, .int .i64 c.r.z, .int .i64 c.u.x, .int .i64 c.u.y, .int .i64 c.u.z, .int .i64 c.f.x, .int .i64 c.f.y, .int .i64 c.f.z, .int .i64 c.fo, .int .i64 c.wi, .int .i64 c.he, .int .i64 c.ne], .int .i64 q] w (RetB (.tuple #[.agg #[.int .i64 d.e.x, .int .i64 d.e.y, .int .i64 d.e.z, .int .i64 d.r.x, .int .i64 d.r.y, .int .i64 d.r.z, .int .i64 d.u.x, .int .i64 d.u.y, .int .i64 d.u.z, .int .i64 d.f.x, .int .i64 d.f.y, .int .i64 d.f.z, .int .i64 d.fo, .int .i64 d.wi, .int .i64 d.he, .int .i64 d.ne], .int .i64 er]) w)) : Calls Try.prog 7 #[.agg #[.int .i64 c.e.x, .int .i64 c.e.y, .int .i64 c.e.z, .int .i64 c.r.x, .int .i64 c.r.y, .int .i64 c.r.z, .int .i64 c.u.x, .int .i64 c.u.y, .int .i64 c.u.z, .int .i64 c.f.x, .int .i64 c.f.y, .int .i64 c.f.z, .int .i64 c.fo, .int .i64 c.wi, .int .i64 c.he, .int .i64 c.ne], .int .i64 q] w (RetB (.bool true) w) := by
  have C1 := fun w => Lib.hid (c1 w)
  have C2 := fun w => Lib.hid (c2 w)
  clear c1 c2
  go_enter Try.func7, Try.ntmps7
  go_wp2_with (first
    | (go_at_call 20; refine (RetB.grown ((C1 _).out)).mono ?_; rintro e' w' ⟨rfl, g, rfl⟩)
    | (go_at_call 21; refine (RetB.grown ((C2 _).out)).mono ?_; rintro e' w' ⟨rfl, g, rfl⟩)
    | (go_at_call 12; refine (RetB.grown (known_any _)).mono ?_; rintro e' w' ⟨rfl, g, rfl⟩)
    | (refine wp_region_xt (by kernel_rfl) (by kernel_rfl) ?_; (repeat (go_big_quiet_step (first | (go_at_call 20; exact RetB.quiet ((C1 _).out)) | (go_at_call 21; exact RetB.quiet ((C2 _).out)) | (go_at_call 12; exact RetB.quiet (known_any _))))); refine wpQuiet_nil ?_; intro g))
  go_ret
  exact RetB.of rfl (by repeat' (first | exact Below.refl _ _ | assumption | refine Below.xt ?_ ?_ _ | refine Below.alloc ?_ ?_ _ | refine Below.drew ?_ | refine Below.setCell ?_ ?_ _ | (simp; done) | (simp; omega)))
theorem CameraTurns_walk (c : Cam) (q : Int) (w : World) : Calls Try.prog 7 #[.agg #[.int .i64 c.e.x, .int .i64 c.e.y, .int .i64 c.e.z, .int .i64 c.r.x, .int .i64 c.r.y, .int .i64 c.r.z, .int .i64 c.u.x, .int .i64 c.u.y, .int .i64 c.u.z, .int .i64 c.f.x, .int .i64 c.f.y, .int .i64 c.f.z, .int .i64 c.fo, .int .i64 c.wi, .int .i64 c.he, .int .i64 c.ne], .int .i64 q] w (RetB (.bool true) w) := by
  by_cases h : cval c = true
  · exact CameraTurns_main c q 0 _ w (fun w => Turn_ok c q w h) (fun w => refTurn_ok c q w h)
  · have h' : cval c = false := by simpa using h
    exact CameraTurns_main c q 2 Z0 w (fun w => Turn_bad c q w h') (fun w => refTurn_bad c q w h')

end Go.Proofs.Ytjeemlnhokihoaa

/- Walk of the law CameraProjects. No condition. -/
import Derived.Test.YtjeemlnhokihoaaCamR5
import Derived.Test.YtjeemlnhokihoaaCamK
import Derived.Test.YtjeemlnhokihoaaVecO
namespace Go.Proofs.Ytjeemlnhokihoaa
open Go.RowKit
set_option linter.unusedVariables false
attribute [local go_sem ↓] ld16

set_option maxHeartbeats 1600000 in
theorem CameraProjects_main (c : Cam) (p : V3) (ra x y r z e : Int) (w : World) (c1 : ∀ w, Calls Try.prog 15 #[.agg #[.int .i64 c.e.x, .int .i64 c.e.y, .int .i64 c.e.z, .int .i64 c.r.x, .int .i64 c.r.y, .int .i64 c.r.z, .int .i64 c.u.x, .int .i64 c.u.y, .int .i64 c.u.z, .int .i64 c.f.x, .int .i64 c.f.y, .int .i64 c.f.z, .int .i64 c.fo, .int .i64 c.wi, .int .i64 c.he, .int .i64 c.ne], .agg #[.int .i64 p.x, .int .i64 p.y, .int .i64 p.z], .int .i64 ra] w (RetB (.tuple #[.agg #[.int .i64 0, .int .i64 x, .int .i64 y, .int .i64 r, .int .i64 z], .int .i64 e]) w)) (c2 : ∀ w, Calls Try.prog 16 #[.agg #[.int .i64 c.e.x, .int .i64 c.e.y, .int .i64 c.e.z, .int .i64 c.r.x, .int .i64 c.r.y, .int .i64 c.r.z, .int .i64 c.u.x, .int .i64 c.u.y, .int .i64 c.u.z, .int .i64 c.f.x, .int .i64 c.f.y, .int .i64 c.f.z, .int .i64 c.fo, .int .i64 c.wi, .int .i64 c.he, .int .i64 c.ne], .agg #[.int .i64 p.x, .int .i64 p.y, .int .i64 p.z], .int .i64 ra] w (RetB (.tuple #[.agg #[.int .i64 0, .int .i64 x, .int .i64 y, .int .i64 r, .int .i64 z], .int .i64 e]) w)) :
    Calls Try.prog 5 #[.agg #[.int .i64 c.e.x, .int .i64 c.e.y, .int .i64 c.e.z, .int .i64 c.r.x, .int .i64 c.r.y, .int .i64 c.r.z, .int .i64 c.u.x, .int .i64 c.u.y, .int .i64 c.u.z, .int .i64 c.f.x, .int .i64 c.f.y, .int .i64 c.f.z, .int .i64 c.fo, .int .i64 c.wi, .int .i64 c.he, .int .i64 c.ne], .agg #[.int .i64 p.x, .int .i64 p.y, .int .i64 p.z], .int .i64 ra] w (RetB (.bool true) w) := by
  have C1 := fun w => Lib.hid (c1 w)
  have C2 := fun w => Lib.hid (c2 w)
  clear c1 c2
  go_enter Try.func5, Try.ntmps5
  go_wp2_with (first
    | (go_at_call 15; refine (RetB.grown ((C1 _).out)).mono ?_; rintro e' w' ⟨rfl, g, rfl⟩)
    | (go_at_call 16; refine (RetB.grown ((C2 _).out)).mono ?_; rintro e' w' ⟨rfl, g, rfl⟩)
    | (go_at_call 12; refine (RetB.grown (known_any _)).mono ?_; rintro e' w' ⟨rfl, g, rfl⟩)
    | (refine wp_region_xt (by kernel_rfl) (by kernel_rfl) ?_; (repeat (go_big_quiet_step (first | (go_at_call 15; exact RetB.quiet ((C1 _).out)) | (go_at_call 16; exact RetB.quiet ((C2 _).out)) | (go_at_call 12; exact RetB.quiet (known_any _))))); refine wpQuiet_nil ?_; intro g))
  go_ret
  exact RetB.of rfl (by repeat' (first | exact Below.refl _ _ | assumption | refine Below.xt ?_ ?_ _ | refine Below.alloc ?_ ?_ _ | refine Below.drew ?_ | refine Below.setCell ?_ ?_ _ | (simp; done) | (simp; omega)))
theorem CameraProjects_walk (c : Cam) (p : V3) (ra : Int) (w : World) : Calls Try.prog 5 #[.agg #[.int .i64 c.e.x, .int .i64 c.e.y, .int .i64 c.e.z, .int .i64 c.r.x, .int .i64 c.r.y, .int .i64 c.r.z, .int .i64 c.u.x, .int .i64 c.u.y, .int .i64 c.u.z, .int .i64 c.f.x, .int .i64 c.f.y, .int .i64 c.f.z, .int .i64 c.fo, .int .i64 c.wi, .int .i64 c.he, .int .i64 c.ne], .agg #[.int .i64 p.x, .int .i64 p.y, .int .i64 p.z], .int .i64 ra] w (RetB (.bool true) w) :=
  CameraProjects_main c p ra _ _ _ _ _ w (fun w => Project_any c p ra w) (fun w => rProject_any c p ra w)

end Go.Proofs.Ytjeemlnhokihoaa

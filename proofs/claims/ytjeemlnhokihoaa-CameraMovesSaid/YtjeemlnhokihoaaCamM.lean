/- Walk of the law CameraMoves. No condition. -/
import Derived.Test.YtjeemlnhokihoaaCamK
import Derived.Test.YtjeemlnhokihoaaCamR3
namespace Go.Proofs.Ytjeemlnhokihoaa
open Go.RowKit
set_option linter.unusedVariables false
attribute [local go_sem ↓] ld16

set_option maxRecDepth 100000 in
set_option maxHeartbeats 1600000 in
theorem CameraMoves_main (c : Cam) (m n k er : Int) (d : Cam) (w : World) (c1 : ∀ w, Calls Try.prog 22 #[.agg #[.int .i64 c.e.x, .int .i64 c.e.y, .int .i64 c.e.z, .int .i64 c.r.x, .int .i64 c.r.y, .int .i64 c.r.z, .int .i64 c.u.x, .int .i64 c.u.y, .int .i64 c.u.z, .int .i64 c.f.x, .int .i64 c.f.y, .int .i64 c.f.z, .int .i64 c.fo, .int .i64 c.wi, .int .i64 c.he, .int .i64 c.ne], .int .i64 m, .int .i64 n, .int .i64 k] w (RetB (.tuple #[.agg #[.int .i64 d.e.x, .int .i64 d.e.y, .int .i64 d.e.z, .int .i64 d.r.x, .int .i64 d.r.y, .int .i64 d.r.z, .int .i64 d.u.x, .int .i64 d.u.y, .int .i64 d.u.z, .int .i64 d.f.x, .int .i64 d.f.y, .int .i64 d.f.z, .int .i64 d.fo, .int .i64 d.wi, .int .i64 d.he, .int .i64 d.ne], .int .i64 er]) w)) (c2 : ∀ w, Calls Try.prog 23 #[.agg #[.int .i64 c.e.x, .int .i64 c.e.y, .int .i64 c.e.z, .int .i64 c.r.x, .int .i64 c.r.y, .int .i64 c.r.z, .int .i64 c.u.x, .int .i64 c.u.y, .int .i64 c.u.z, .int .i64 c.f.x, .int .i64 c.f.y, .int .i64 c.f.z, .int .i64 c.fo, .int .i64 c.wi, .int .i64 c.he, .int .i64 c.ne], .int .i64 m, .int .i64 n, .int .i64 k] w (RetB (.tuple #[.agg #[.int .i64 d.e.x, .int .i64 d.e.y, .int .i64 d.e.z, .int .i64 d.r.x, .int .i64 d.r.y, .int .i64 d.r.z, .int .i64 d.u.x, .int .i64 d.u.y, .int .i64 d.u.z, .int .i64 d.f.x, .int .i64 d.f.y, .int .i64 d.f.z, .int .i64 d.fo, .int .i64 d.wi, .int .i64 d.he, .int .i64 d.ne], .int .i64 er]) w)) : Calls Try.prog 8 #[.agg #[.int .i64 c.e.x, .int .i64 c.e.y, .int .i64 c.e.z, .int .i64 c.r.x, .int .i64 c.r.y, .int .i64 c.r.z, .int .i64 c.u.x, .int .i64 c.u.y, .int .i64 c.u.z, .int .i64 c.f.x, .int .i64 c.f.y, .int .i64 c.f.z, .int .i64 c.fo, .int .i64 c.wi, .int .i64 c.he, .int .i64 c.ne], .int .i64 m, .int .i64 n, .int .i64 k] w (RetB (.bool true) w) := by
  have C1 := fun w => Lib.hid (c1 w)
  have C2 := fun w => Lib.hid (c2 w)
  clear c1 c2
  go_enter Try.func8, Try.ntmps8
  go_wp2_with (first
    | (go_at_call 22; refine (RetB.grown ((C1 _).out)).mono ?_; rintro e' w' ⟨rfl, g, rfl⟩)
    | (go_at_call 23; refine (RetB.grown ((C2 _).out)).mono ?_; rintro e' w' ⟨rfl, g, rfl⟩)
    | (go_at_call 12; refine (RetB.grown (known_any _)).mono ?_; rintro e' w' ⟨rfl, g, rfl⟩)
    | (refine wp_region_xt (by kernel_rfl) (by kernel_rfl) ?_; (repeat (go_big_quiet_step (first | (go_at_call 22; exact RetB.quiet ((C1 _).out)) | (go_at_call 23; exact RetB.quiet ((C2 _).out)) | (go_at_call 12; exact RetB.quiet (known_any _))))); refine wpQuiet_nil ?_; intro g))
  go_ret
  exact RetB.of rfl (by repeat' (first | exact Below.refl _ _ | assumption | refine Below.xt ?_ ?_ _ | refine Below.alloc ?_ ?_ _ | refine Below.drew ?_ | refine Below.setCell ?_ ?_ _ | (simp; done) | (simp; omega)))
theorem CameraMoves_walk (c : Cam) (a b d : Int) (w : World) : Calls Try.prog 8 #[.agg #[.int .i64 c.e.x, .int .i64 c.e.y, .int .i64 c.e.z, .int .i64 c.r.x, .int .i64 c.r.y, .int .i64 c.r.z, .int .i64 c.u.x, .int .i64 c.u.y, .int .i64 c.u.z, .int .i64 c.f.x, .int .i64 c.f.y, .int .i64 c.f.z, .int .i64 c.fo, .int .i64 c.wi, .int .i64 c.he, .int .i64 c.ne], .int .i64 a, .int .i64 b, .int .i64 d] w (RetB (.bool true) w) :=
  CameraMoves_main c a b d _ (mvd c a b d) w (fun w => Move_any c a b d w) (fun w => refMove_any c a b d w)

end Go.Proofs.Ytjeemlnhokihoaa

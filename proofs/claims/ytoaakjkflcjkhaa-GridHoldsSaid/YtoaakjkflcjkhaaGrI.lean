/- Walk of the law GridHolds. No condition but that the numbers fit their kinds. -/
import Derived.Test.YtoaakjkflcjkhaaGrH
import Derived.Deep.AppendLies
import Derived.Deep.RegionHeld3
namespace Go.Proofs.Ytoaakjkflcjkhaa
open Go.RowKit
set_option linter.unusedVariables false
attribute [local go_sem ↓] ld6

set_option maxRecDepth 100000 in
set_option maxHeartbeats 3200000 in
theorem GridHolds_bad (q : Gd) (i k s : Int) (w : World) (h : gval q = false) : Calls Try.prog 7 #[.agg #[.int .i64 q.ox, .int .i64 q.oy, .int .i64 q.oz, .int .i64 q.rows, .int .i64 q.cols, .int .i64 q.sp], .int .u8 i, .int .u8 k, .int .u8 s] w (RetB (.bool true) w) := by
  go_enter Try.func7, Try.ntmps7
  go_wp2_with (first
    | (go_at_call 9; refine (RetB.grown (Spots_bad q _ h)).mono ?_; rintro e' w' ⟨rfl, g, rfl⟩)
    | (go_at_call 15; refine (RetB.grown (known_any _)).mono ?_; rintro e' w' ⟨rfl, g, rfl⟩)
    | (refine wp_region_xt (by kernel_rfl) (by kernel_rfl) ?_; (repeat (go_big_quiet_step (first | (go_at_call 9; exact RetB.quiet (Spots_bad q _ h)) | (go_at_call 15; exact RetB.quiet (known_any _))))); refine wpQuiet_nil ?_; intro g))
  go_ret
  exact RetB.of rfl (by repeat' (first | exact Below.refl _ _ | assumption | refine Below.xt ?_ ?_ _ | refine Below.alloc ?_ ?_ _ | refine Below.drew ?_ | refine Below.setCell ?_ ?_ _ | (simp; done) | (simp; omega)))
set_option maxRecDepth 100000 in
set_option maxHeartbeats 3200000 in
theorem GridHolds_far (q : Gd) (i k s : Int) (w : World) (h : gval q = true) (hn : 64 < q.n) : Calls Try.prog 7 #[.agg #[.int .i64 q.ox, .int .i64 q.oy, .int .i64 q.oz, .int .i64 q.rows, .int .i64 q.cols, .int .i64 q.sp], .int .u8 i, .int .u8 k, .int .u8 s] w (RetB (.bool true) w) := by
  have hl : 64 < (spots q).length := by rw [spots_len]; exact hn
  have e1 : (((spots q).length : Int) == 0) = false := by simp; intro h0; rw [h0] at hl; simp at hl
  have e2 : decide ((64 : Int) < ((spots q).length : Int)) = true := by simp; omega
  have e3 : decide (64 < (spots q).length) = true := by simp; omega
  have C := fun w => Lib.hid (Spots_ok q w h)
  clear h hn
  generalize spots q = l at *
  go_enter Try.func7, Try.ntmps7
  go_wp2_with fail
  refine (C _).out.mono ?_
  rintro e w' ⟨A, c, rfl, hb, hr⟩
  obtain ⟨ga, rfl⟩ := xt_of_below hb
  clear hb hr
  go_wp2_with (first
    | (go_at_call 15; refine (RetB.grown (known_any _)).mono ?_; rintro e' w' ⟨rfl, g, rfl⟩)
    | (refine wp_region_xt (by kernel_rfl) (by kernel_rfl) ?_; (repeat (go_big_quiet_step (first | (go_at_call 15; exact RetB.quiet (known_any _))))); refine wpQuiet_nil ?_; intro g))
  go_ret
  exact RetB.of rfl (by repeat' (first | exact Below.refl _ _ | assumption | refine Below.xt ?_ ?_ _ | refine Below.alloc ?_ ?_ _ | refine Below.drew ?_ | refine Below.setCell ?_ ?_ _ | (simp; done) | (simp; omega)))

end Go.Proofs.Ytoaakjkflcjkhaa

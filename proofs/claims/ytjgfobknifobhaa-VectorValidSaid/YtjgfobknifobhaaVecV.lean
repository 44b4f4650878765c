/- The walk of VectorValid. No condition. -/
import Derived.Test.YtjgfobknifobhaaVecC2
import Derived.Test.YtjgfobknifobhaaVecK
namespace Go.Proofs.Ytjgfobknifobhaa
open Go.RowKit
set_option linter.unusedVariables false

theorem cmp3_self (a b c : Int) : cmp3 a b c a b c = 0 := by simp [cmp3, cmpI]

set_option maxRecDepth 100000 in
set_option maxHeartbeats 1600000 in
theorem VectorValid_walk (a b : V3) (w : World) : Calls Try.prog 9 #[.agg #[.int .i64 a.x, .int .i64 a.y, .int .i64 a.z], .agg #[.int .i64 b.x, .int .i64 b.y, .int .i64 b.z]] w (RetB (.bool true) w) := by
  have C1 := fun w => Lib.hid (Compare_any a.x a.y a.z b.x b.y b.z w)
  have C2 := fun w => Lib.hid (Compare_any b.x b.y b.z a.x a.y a.z w)
  have c3 := fun w => Compare_any a.x a.y a.z a.x a.y a.z w
  rw [cmp3_self] at c3
  have C3 := fun w => Lib.hid (c3 w)
  have D1 := fun w => Lib.hid (refCompare_any a.x a.y a.z b.x b.y b.z w)
  have D2 := fun w => Lib.hid (refCompare_any b.x b.y b.z a.x a.y a.z w)
  clear c3
  go_enter Try.func9, Try.ntmps9
  go_wp2_with (first
    | (go_at_call 33; refine (RetB.grown (valid_any _ _ _ _)).mono ?_; rintro e' w' ⟨rfl, g, rfl⟩)
    | (go_at_call 13; refine (RetB.grown (refValid_any _ _ _ _)).mono ?_; rintro e' w' ⟨rfl, g, rfl⟩)
    | (go_at_call 34; refine (RetB.grown (point_any _ _ _ _)).mono ?_; rintro e' w' ⟨rfl, g, rfl⟩)
    | (go_at_call 35; refine (RetB.grown (refPoint_any _ _ _ _)).mono ?_; rintro e' w' ⟨rfl, g, rfl⟩)
    | (go_at_call 36; (with_reducible refine (RetB.grown ((C1 _).out)).mono ?_); rintro e' w' ⟨rfl, g, rfl⟩)
    | (go_at_call 36; (with_reducible refine (RetB.grown ((C2 _).out)).mono ?_); rintro e' w' ⟨rfl, g, rfl⟩)
    | (go_at_call 36; (with_reducible refine (RetB.grown ((C3 _).out)).mono ?_); rintro e' w' ⟨rfl, g, rfl⟩)
    | (go_at_call 37; (with_reducible refine (RetB.grown ((D1 _).out)).mono ?_); rintro e' w' ⟨rfl, g, rfl⟩)
    | (go_at_call 37; (with_reducible refine (RetB.grown ((D2 _).out)).mono ?_); rintro e' w' ⟨rfl, g, rfl⟩)
    | (go_at_call 14; refine (RetB.grown (known_any _)).mono ?_; rintro e' w' ⟨rfl, g, rfl⟩)
    | (refine wp_region_xt (by kernel_rfl) (by kernel_rfl) ?_; (repeat (go_big_quiet_step (first | (go_at_call 33; exact RetB.quiet (valid_any _ _ _ _)) | (go_at_call 13; exact RetB.quiet (refValid_any _ _ _ _)) | (go_at_call 34; exact RetB.quiet (point_any _ _ _ _)) | (go_at_call 35; exact RetB.quiet (refPoint_any _ _ _ _)) | (go_at_call 36; (with_reducible exact RetB.quiet ((C1 _).out))) | (go_at_call 36; (with_reducible exact RetB.quiet ((C2 _).out))) | (go_at_call 36; (with_reducible exact RetB.quiet ((C3 _).out))) | (go_at_call 37; (with_reducible exact RetB.quiet ((D1 _).out))) | (go_at_call 37; (with_reducible exact RetB.quiet ((D2 _).out))) | (go_at_call 14; exact RetB.quiet (known_any _))))); refine wpQuiet_nil ?_; intro g))
  go_ret
  exact RetB.of rfl (by repeat' (first | exact Below.refl _ _ | assumption | refine Below.xt ?_ ?_ _ | refine Below.alloc ?_ ?_ _ | refine Below.drew ?_ | refine Below.setCell ?_ ?_ _ | (simp; done) | (simp; omega)))

end Go.Proofs.Ytjgfobknifobhaa

/- Walk: the examples of the chapter on vectors. No condition. -/
import Derived.Test.YtjgfobknifobhaaVecW3
import Derived.Test.YtjgfobknifobhaaVecW4
import Derived.Test.YtjgfobknifobhaaVecB
namespace Go.Proofs.Ytjgfobknifobhaa
open Go.RowKit
set_option linter.unusedVariables false

theorem kAdd (w : World) : Calls Try.prog 10 #[.agg #[.int .i64 1, .int .i64 2, .int .i64 3], .agg #[.int .i64 4, .int .i64 5, .int .i64 6]] w (RetB (.tuple #[.agg #[.int .i64 5, .int .i64 7, .int .i64 9], .int .i64 0]) w) := Add_ok 1 2 3 4 5 6 w (by decide) (by decide)
theorem kSub (w : World) : Calls Try.prog 11 #[.agg #[.int .i64 1, .int .i64 2, .int .i64 3], .agg #[.int .i64 4, .int .i64 5, .int .i64 6]] w (RetB (.tuple #[.agg #[.int .i64 (-3), .int .i64 (-3), .int .i64 (-3)], .int .i64 0]) w) := Sub_ok 1 2 3 4 5 6 w (by decide) (by decide)
theorem kScale0 (w : World) : Calls Try.prog 12 #[.agg #[.int .i64 1, .int .i64 (-2), .int .i64 3], .int .i64 (-4)] w (RetB (.tuple #[.agg #[.int .i64 (-4), .int .i64 8, .int .i64 (-12)], .int .i64 0]) w) := Scale_ok 1 (-2) 3 (-4) w (by decide)
theorem kScale1 (w : World) : Calls Try.prog 12 #[.agg #[.int .i64 16777216, .int .i64 0, .int .i64 0], .int .i64 2] w (RetB (.tuple #[.agg #[.int .i64 0, .int .i64 0, .int .i64 0], .int .i64 3]) w) := Scale_ok 16777216 0 0 2 w (by decide)
theorem kScale2 (w : World) : Calls Try.prog 12 #[.agg #[.int .i64 0, .int .i64 0, .int .i64 0], .int .i64 1152921504606846976] w (RetB (.tuple #[.agg #[.int .i64 0, .int .i64 0, .int .i64 0], .int .i64 0]) w) := Scale_zero 1152921504606846976 w
theorem kDot (w : World) : Calls Try.prog 19 #[.agg #[.int .i64 1, .int .i64 2, .int .i64 3], .agg #[.int .i64 4, .int .i64 5, .int .i64 6]] w (RetB (.tuple #[.int .i64 32, .int .i64 0]) w) := Dot_ok 1 2 3 4 5 6 w (by decide) (by decide)
theorem kCross (w : World) : Calls Try.prog 20 #[.agg #[.int .i64 1, .int .i64 0, .int .i64 0], .agg #[.int .i64 0, .int .i64 1, .int .i64 0]] w (RetB (.tuple #[.agg #[.int .i64 0, .int .i64 0, .int .i64 1], .int .i64 0]) w) := Cross_ok 1 0 0 0 1 0 w (by decide) (by decide)
theorem kLength (w : World) : Calls Try.prog 21 #[.agg #[.int .i64 3, .int .i64 4, .int .i64 12]] w (RetB (.tuple #[.int .i64 169, .int .i64 0]) w) := Length2_ok 3 4 12 w (by decide)
theorem kDistance (w : World) : Calls Try.prog 22 #[.agg #[.int .i64 1, .int .i64 1, .int .i64 1], .agg #[.int .i64 2, .int .i64 3, .int .i64 1]] w (RetB (.tuple #[.int .i64 5, .int .i64 0]) w) := Distance2_ok 1 1 1 2 3 1 w (by decide) (by decide)
theorem kBetween0 (w : World) : Calls Try.prog 26 #[.agg #[.int .i64 0, .int .i64 0, .int .i64 0], .agg #[.int .i64 10, .int .i64 (-10), .int .i64 3], .int .i64 1, .int .i64 4] w (RetB (.tuple #[.agg #[.int .i64 3, .int .i64 (-2), .int .i64 1], .int .i64 0]) w) := Between_ok 0 0 0 10 (-10) 3 1 4 w (by decide) (by decide) (by decide)
theorem kBetween1 (w : World) : Calls Try.prog 26 #[.agg #[.int .i64 0, .int .i64 0, .int .i64 0], .agg #[.int .i64 10, .int .i64 (-10), .int .i64 3], .int .i64 1, .int .i64 2] w (RetB (.tuple #[.agg #[.int .i64 5, .int .i64 (-5), .int .i64 2], .int .i64 0]) w) := Between_ok 0 0 0 10 (-10) 3 1 2 w (by decide) (by decide) (by decide)
theorem kTurn0 (w : World) : Calls Try.prog 28 #[.agg #[.int .i64 0, .int .i64 0, .int .i64 0], .agg #[.int .i64 1, .int .i64 0, .int .i64 0], .agg #[.int .i64 1, .int .i64 1, .int .i64 0]] w (RetB (.tuple #[.int .i64 1, .int .i64 0]) w) := Turn_ok 0 0 0 1 0 0 1 1 0 w (by decide) (by decide) (by decide)
theorem kTurn1 (w : World) : Calls Try.prog 28 #[.agg #[.int .i64 0, .int .i64 0, .int .i64 0], .agg #[.int .i64 1, .int .i64 1, .int .i64 0], .agg #[.int .i64 2, .int .i64 2, .int .i64 9]] w (RetB (.tuple #[.int .i64 0, .int .i64 0]) w) := Turn_ok 0 0 0 1 1 0 2 2 9 w (by decide) (by decide) (by decide)
theorem kBox (b : Nat) (w : World) (hb : old b w) (c0 : w.cell? ⟨b, 0, none⟩ = some (.int .i64 1)) (c1 : w.cell? ⟨b, 1, none⟩ = some (.int .i64 5)) (c2 : w.cell? ⟨b, 2, none⟩ = some (.int .i64 0)) (c3 : w.cell? ⟨b, 3, none⟩ = some (.int .i64 2)) (c4 : w.cell? ⟨b, 4, none⟩ = some (.int .i64 (-3))) (c5 : w.cell? ⟨b, 5, none⟩ = some (.int .i64 4)) :
    Calls Try.prog 30 #[.slice (some ⟨b, 0, none⟩) 2 2] w (RetB (.tuple #[.agg #[.int .i64 1, .int .i64 (-3), .int .i64 0], .agg #[.int .i64 2, .int .i64 5, .int .i64 4], .int .i64 0]) w) := by
  have c := Box_ok b 0 2 2 [⟨1, 5, 0⟩, ⟨2, -3, 4⟩] w rfl (by decide) (by decide)
    ⟨hb, fun i hi => by match i, hi with | 0, _ => exact c0 | 1, _ => exact c3, fun i hi => by match i, hi with | 0, _ => exact c1 | 1, _ => exact c4, fun i hi => by match i, hi with | 0, _ => exact c2 | 1, _ => exact c5⟩
    (fun i hi => by match i, hi with | 0, _ => decide | 1, _ => decide)
  have e0 : lo V3.x [⟨1, 5, 0⟩, ⟨2, -3, 4⟩] 2 = 1 := by decide
  have e1 : lo V3.y [⟨1, 5, 0⟩, ⟨2, -3, 4⟩] 2 = -3 := by decide
  have e2 : lo V3.z [⟨1, 5, 0⟩, ⟨2, -3, 4⟩] 2 = 0 := by decide
  have e3 : hi V3.x [⟨1, 5, 0⟩, ⟨2, -3, 4⟩] 2 = 2 := by decide
  have e4 : hi V3.y [⟨1, 5, 0⟩, ⟨2, -3, 4⟩] 2 = 5 := by decide
  have e5 : hi V3.z [⟨1, 5, 0⟩, ⟨2, -3, 4⟩] 2 = 4 := by decide
  rw [e0, e1, e2, e3, e4, e5] at c
  exact c

set_option maxRecDepth 100000 in
set_option maxHeartbeats 3200000 in
theorem known_any (w : World) : Calls Try.prog 14 #[] w (RetB (.bool true) w) := by
  go_enter Try.func14, Try.ntmps14
  go_wp2_with (first
    | (go_at_call 45; refine (RetB.grown (v_any _ _ _ _)).mono ?_; rintro e' w' ⟨rfl, g, rfl⟩)
    | (go_at_call 10; (with_reducible refine (RetB.grown (kAdd _)).mono ?_); rintro e' w' ⟨rfl, g, rfl⟩)
    | (go_at_call 11; (with_reducible refine (RetB.grown (kSub _)).mono ?_); rintro e' w' ⟨rfl, g, rfl⟩)
    | (go_at_call 12; (with_reducible refine (RetB.grown (kScale0 _)).mono ?_); rintro e' w' ⟨rfl, g, rfl⟩)
    | (go_at_call 12; (with_reducible refine (RetB.grown (kScale1 _)).mono ?_); rintro e' w' ⟨rfl, g, rfl⟩)
    | (go_at_call 12; (with_reducible refine (RetB.grown (kScale2 _)).mono ?_); rintro e' w' ⟨rfl, g, rfl⟩)
    | (go_at_call 19; (with_reducible refine (RetB.grown (kDot _)).mono ?_); rintro e' w' ⟨rfl, g, rfl⟩)
    | (go_at_call 20; (with_reducible refine (RetB.grown (kCross _)).mono ?_); rintro e' w' ⟨rfl, g, rfl⟩)
    | (go_at_call 21; (with_reducible refine (RetB.grown (kLength _)).mono ?_); rintro e' w' ⟨rfl, g, rfl⟩)
    | (go_at_call 22; (with_reducible refine (RetB.grown (kDistance _)).mono ?_); rintro e' w' ⟨rfl, g, rfl⟩)
    | (go_at_call 26; (with_reducible refine (RetB.grown (kBetween0 _)).mono ?_); rintro e' w' ⟨rfl, g, rfl⟩)
    | (go_at_call 26; (with_reducible refine (RetB.grown (kBetween1 _)).mono ?_); rintro e' w' ⟨rfl, g, rfl⟩)
    | (go_at_call 28; (with_reducible refine (RetB.grown (kTurn0 _)).mono ?_); rintro e' w' ⟨rfl, g, rfl⟩)
    | (go_at_call 28; (with_reducible refine (RetB.grown (kTurn1 _)).mono ?_); rintro e' w' ⟨rfl, g, rfl⟩)
    | (go_at_call 30; refine (RetB.grown (kBox _ _ (by go_simp) (by go_simp) (by go_simp) (by go_simp) (by go_simp) (by go_simp) (by go_simp))).mono ?_; rintro e' w' ⟨rfl, g, rfl⟩)
    | (refine wp_region_xt (by kernel_rfl) (by kernel_rfl) ?_; (repeat (go_big_quiet_step (first | (go_at_call 45; exact RetB.quiet (v_any _ _ _ _)) | (go_at_call 10; (with_reducible exact RetB.quiet (kAdd _))) | (go_at_call 11; (with_reducible exact RetB.quiet (kSub _))) | (go_at_call 12; (with_reducible exact RetB.quiet (kScale0 _))) | (go_at_call 12; (with_reducible exact RetB.quiet (kScale1 _))) | (go_at_call 12; (with_reducible exact RetB.quiet (kScale2 _))) | (go_at_call 19; (with_reducible exact RetB.quiet (kDot _))) | (go_at_call 20; (with_reducible exact RetB.quiet (kCross _))) | (go_at_call 21; (with_reducible exact RetB.quiet (kLength _))) | (go_at_call 22; (with_reducible exact RetB.quiet (kDistance _))) | (go_at_call 26; (with_reducible exact RetB.quiet (kBetween0 _))) | (go_at_call 26; (with_reducible exact RetB.quiet (kBetween1 _))) | (go_at_call 28; (with_reducible exact RetB.quiet (kTurn0 _))) | (go_at_call 28; (with_reducible exact RetB.quiet (kTurn1 _))) | (go_at_call 30; exact RetB.quiet (kBox _ _ (by go_simp) (by go_simp) (by go_simp) (by go_simp) (by go_simp) (by go_simp) (by go_simp)))))); refine wpQuiet_nil ?_; intro g))
  go_ret
  exact RetB.of rfl (by repeat' (first | exact Below.refl _ _ | assumption | refine Below.xt ?_ ?_ _ | refine Below.alloc ?_ ?_ _ | refine Below.drew ?_ | refine Below.setCell ?_ ?_ _ | (simp; done) | (simp; omega)))

end Go.Proofs.Ytjgfobknifobhaa

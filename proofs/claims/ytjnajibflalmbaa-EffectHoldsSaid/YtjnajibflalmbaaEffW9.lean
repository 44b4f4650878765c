/- Walks: the examples of the chapter. No condition. -/
import Derived.Test.YtjnajibflalmbaaEffW7
namespace Go.Proofs.Ytjnajibflalmbaa
open Go.RowKit
set_option linter.unusedVariables false
attribute [local go_sem ↓] ld16

set_option maxHeartbeats 800000 in
theorem wave_move (k n : Int) (w : World) (hk : (k != 3) = true) :
    Calls Try.prog 25 #[.int .i64 k, .int .i64 n] w (RetB (.agg #[.int .i64 k, .int .i64 1000, .int .i64 9000, .int .i64 1000, .int .i64 n, .int .i64 1, .int .i64 0, .int .i64 0, .int .i64 2, .int .i64 0, .int .u8 0, .int .u8 0, .int .u8 0, .int .u8 255, .int .u8 0, .int .u8 0]) w) := by
  go_enter Try.func25, Try.ntmps25
  go_wp2_with fail
  refine bodyPost_ret (v := .agg #[.int .i64 k, .int .i64 1000, .int .i64 9000, .int .i64 1000, .int .i64 n, .int .i64 1, .int .i64 0, .int .i64 0, .int .i64 2, .int .i64 0, .int .u8 0, .int .u8 0, .int .u8 0, .int .u8 255, .int .u8 0, .int .u8 0]) (by simp [results, Try.results25, go_sem]) rfl ?_
  exact RetB.of rfl (by repeat' (first | exact Below.refl _ _ | assumption | refine Below.xt ?_ ?_ _ | refine Below.alloc ?_ ?_ _ | refine Below.drew ?_ | refine Below.setCell ?_ ?_ _ | (simp; done) | (simp; omega)))

set_option maxHeartbeats 800000 in
theorem wave_spark (n : Int) (w : World) :
    Calls Try.prog 25 #[.int .i64 3, .int .i64 n] w (RetB (.agg #[.int .i64 3, .int .i64 1000, .int .i64 9000, .int .i64 1000, .int .i64 n, .int .i64 0, .int .i64 0, .int .i64 0, .int .i64 0, .int .i64 0, .int .u8 0, .int .u8 0, .int .u8 0, .int .u8 255, .int .u8 0, .int .u8 0]) w) := by
  go_enter Try.func25, Try.ntmps25
  go_wp2_with fail
  refine bodyPost_ret (v := .agg #[.int .i64 3, .int .i64 1000, .int .i64 9000, .int .i64 1000, .int .i64 n, .int .i64 0, .int .i64 0, .int .i64 0, .int .i64 0, .int .i64 0, .int .u8 0, .int .u8 0, .int .u8 0, .int .u8 255, .int .u8 0, .int .u8 0]) (by simp [results, Try.results25, go_sem]) rfl ?_
  exact RetB.of rfl (by repeat' (first | exact Below.refl _ _ | assumption | refine Below.xt ?_ ?_ _ | refine Below.alloc ?_ ?_ _ | refine Below.drew ?_ | refine Below.setCell ?_ ?_ _ | (simp; done) | (simp; omega)))

set_option maxHeartbeats 800000 in
/-- 'lit', where the first colour is black and the second one red: what At returns is known. -/
theorem lit_any (k f t p n x y z s d m tm : Int) (b : Bool) (r : Int) (hr : r = 0 ∨ r = 255) (w : World)
    (h : ∀ w, Calls Try.prog 14 #[.agg #[.int .i64 k, .int .i64 f, .int .i64 t, .int .i64 p, .int .i64 n, .int .i64 x, .int .i64 y, .int .i64 z, .int .i64 s, .int .i64 d, .int .u8 0, .int .u8 0, .int .u8 0, .int .u8 255, .int .u8 0, .int .u8 0], .int .i64 5, .agg #[.int .i64 m, .int .i64 0, .int .i64 0], .int .i64 tm] w (RetB (.tuple #[.agg #[.int .u8 r, .int .u8 0, .int .u8 0], .int .i64 0]) w)) :
    Calls Try.prog 26 #[.agg #[.int .i64 k, .int .i64 f, .int .i64 t, .int .i64 p, .int .i64 n, .int .i64 x, .int .i64 y, .int .i64 z, .int .i64 s, .int .i64 d, .int .u8 0, .int .u8 0, .int .u8 0, .int .u8 255, .int .u8 0, .int .u8 0], .int .i64 m, .int .i64 tm, .bool b] w (RetB (.bool ((decide (r = 255)) == b)) w) := by
  have H := fun w => Lib.hid (h w)
  clear h
  rcases hr with rfl | rfl <;> cases b
  all_goals
    go_enter Try.func26, Try.ntmps26
    go_wp2_with fail
    refine (RetB.grown (H _).out).mono ?_
    rintro e' w' ⟨rfl, g, rfl⟩
    go_wp2_with fail
    go_ret
    refine RetB.of (bool_eq ?_) (by repeat' (first | exact Below.refl _ _ | assumption | refine Below.xt ?_ ?_ _ | refine Below.alloc ?_ ?_ _ | refine Below.drew ?_ | refine Below.setCell ?_ ?_ _ | (simp; done) | (simp; omega)))
    simp

end Go.Proofs.Ytjnajibflalmbaa


/- Walks of the functions of effects that take structs. Conditions stand in each theorem. -/
import Derived.Test.YtiikejhkhdmgeaaEffW1
namespace Go.Proofs.Ytiikejhkhdmgeaa
open Go.RowKit

set_option maxHeartbeats 400000 in
theorem inside3 (m x y z : Int) (b c : Nat) (w : World) (hm : 0 ≤ m) (hm' : m ≤ 4294967296) (h0 : w.cell? ⟨b, 0, none⟩ = some (.int .i64 x)) (h1 : w.cell? ⟨b, 1, none⟩ = some (.int .i64 y)) (h2 : w.cell? ⟨b, 2, none⟩ = some (.int .i64 z)) :
    Calls Try.prog 99 #[.int .i64 m, .slice (some ⟨b, 0, none⟩) 3 c] w (Ret (.bool (within x (-m) m && within y (-m) m && within z (-m) m)) w) := by
  go_enter Try.func99, Try.ntmps99
  go_wp2
  go_rounds 4
  all_goals (go_ret; refine Ret.of (bool_eq ?_); simp [within]; try omega)

set_option maxHeartbeats 400000 in
theorem point_any (v : V3) (w : World) :
    Calls Try.prog 80 #[.agg #[.int .i64 v.x, .int .i64 v.y, .int .i64 v.z]] w (RetB (.bool (point v)) w) := by
  go_enter Try.func80, Try.ntmps80
  go_wp2_with fail
  refine (inside3 _ v.x v.y v.z _ _ _ (by decide) (by decide) ?_ ?_ ?_).mono ?_
  · go_simp
  · go_simp
  · go_simp
  rintro e w' ⟨rfl, rfl⟩
  go_wp2
  go_ret
  exact RetB.of rfl (by go_grown)

set_option maxHeartbeats 400000 in
theorem refPoint_any (v : V3) (w : World) :
    Calls Try.prog 20 #[.agg #[.int .i64 v.x, .int .i64 v.y, .int .i64 v.z]] w (RetB (.bool (point v)) w) := by
  go_enter Try.func20, Try.ntmps20
  go_wp2_with (go_at_call 45; refine (to_any _ _ _ _).mono ?_; rintro e w' ⟨rfl, rfl⟩)
  all_goals go_ret
  all_goals refine RetB.of (bool_eq ?_) (by go_grown)
  all_goals simp_all [point]

set_option maxHeartbeats 400000 in
theorem direction_any (v : V3) (w : World) :
    Calls Try.prog 79 #[.agg #[.int .i64 v.x, .int .i64 v.y, .int .i64 v.z]] w (RetB (.bool (direction v)) w) := by
  go_enter Try.func79, Try.ntmps79
  go_wp2_with (go_at_call 78; refine (within_any _ _ _ _).mono ?_; rintro e w' ⟨rfl, rfl⟩)
  all_goals go_ret
  all_goals refine RetB.of (bool_eq ?_) (by go_grown)
  all_goals simp_all [direction, vzero]

end Go.Proofs.Ytiikejhkhdmgeaa

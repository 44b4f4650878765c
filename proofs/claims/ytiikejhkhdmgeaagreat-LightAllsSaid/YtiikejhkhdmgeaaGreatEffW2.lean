
/- Walks of the functions of effects that take structs. Conditions stand in each theorem. -/
import Derived.Test.YtiikejhkhdmgeaaGreatEffW1
namespace Go.Proofs.YtiikejhkhdmgeaaGreat
open Go.RowKit

set_option maxHeartbeats 400000 in
theorem inside3 (m x y z : Int) (b c : Nat) (w : World) (hm : 0 ≤ m) (hm' : m ≤ 4294967296) (h0 : w.cell? ⟨b, 0, none⟩ = some (.int .i64 x)) (h1 : w.cell? ⟨b, 1, none⟩ = some (.int .i64 y)) (h2 : w.cell? ⟨b, 2, none⟩ = some (.int .i64 z)) :
    Calls Tryz.prog 90 #[.int .i64 m, .slice (some ⟨b, 0, none⟩) 3 c] w (Ret (.bool (within x (-m) m && within y (-m) m && within z (-m) m)) w) := by
  go_enter Tryz.func90, Tryz.ntmps90
  go_wp2
  go_rounds 4
  all_goals (go_ret; refine Ret.of (bool_eq ?_); simp [within]; try omega)

set_option maxHeartbeats 400000 in
theorem point_any (v : V3) (w : World) :
    Calls Tryz.prog 50 #[.agg #[.int .i64 v.x, .int .i64 v.y, .int .i64 v.z]] w (RetB (.bool (point v)) w) := by
  go_enter Tryz.func50, Tryz.ntmps50
  go_wp2_with fail
  refine (inside3 _ v.x v.y v.z _ _ _ (by decide) (by decide) ?_ ?_ ?_).mono ?_
  · go_simp
  · go_simp
  · go_simp
  rintro e w' ⟨rfl, rfl⟩
  go_wp2
  go_ret
  exact RetB.of rfl (by go_grown)

set_option maxHeartbeats 400000 in
theorem refPoint_any (v : V3) (w : World) :
    Calls Tryz.prog 21 #[.agg #[.int .i64 v.x, .int .i64 v.y, .int .i64 v.z]] w (RetB (.bool (point v)) w) := by
  go_enter Tryz.func21, Tryz.ntmps21
  go_wp2_with (go_at_call 36; refine (to_any _ _ _ _).mono ?_; rintro e w' ⟨rfl, rfl⟩)
  all_goals go_ret
  all_goals refine RetB.of (bool_eq ?_) (by go_grown)
  all_goals simp_all [point]

set_option maxHeartbeats 400000 in
theorem direction_any (v : V3) (w : World) :
    Calls Tryz.prog 89 #[.agg #[.int .i64 v.x, .int .i64 v.y, .int .i64 v.z]] w (RetB (.bool (direction v)) w) := by
  go_enter Tryz.func89, Tryz.ntmps89
  go_wp2_with (go_at_call 88; refine (within_any _ _ _ _).mono ?_; rintro e w' ⟨rfl, rfl⟩)
  all_goals go_ret
  all_goals refine RetB.of (bool_eq ?_) (by go_grown)
  all_goals simp_all [direction, vzero]

end Go.Proofs.YtiikejhkhdmgeaaGreat

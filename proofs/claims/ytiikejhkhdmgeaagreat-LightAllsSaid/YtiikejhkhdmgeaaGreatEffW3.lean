
/- Walks: which effects are valid, by the program and by the reference. No condition. -/
import Derived.Test.YtiikejhkhdmgeaaGreatEffW2
namespace Go.Proofs.YtiikejhkhdmgeaaGreat
open Go.RowKit

set_option maxHeartbeats 800000 in
set_option maxRecDepth 100000 in
theorem valid_any (e : Eff) (w : World) :
    Calls Tryz.prog 49 #[.agg #[.int .i64 e.kind, .int .i64 e.fr, .int .i64 e.to, .int .i64 e.period, .int .i64 e.width, .int .i64 e.along.x, .int .i64 e.along.y, .int .i64 e.along.z, .int .i64 e.scale, .int .i64 e.seed, .int .u8 e.a.r, .int .u8 e.a.g, .int .u8 e.a.b, .int .u8 e.b.r, .int .u8 e.b.g, .int .u8 e.b.b]] w (RetB (.bool (effValid e)) w) := by
  go_enter Tryz.func49, Tryz.ntmps49
  go_wp2_with (first
    | (go_at_call 88; refine (within_any _ _ _ _).mono ?_; rintro e' w' ⟨rfl, rfl⟩)
    | (go_at_call 89; refine (direction_any e.along _).mono ?_; rintro e' w1 ⟨rfl, hb1⟩; have hc1 := fun o => hb1.cell (p := ⟨w.heap.size, o, none⟩) (by simp)))
  all_goals go_ret
  all_goals refine RetB.of (bool_eq ?_) (by first | go_grown; done | exact Below.next (by go_grown) hb1 (by simp))
  all_goals go_tidy
  all_goals grind [effValid, spanOk, kindOk, moving, vzero]

set_option maxHeartbeats 1600000 in
set_option maxRecDepth 100000 in
theorem refValid_any (e : Eff) (w : World) :
    Calls Tryz.prog 35 #[.agg #[.int .i64 e.kind, .int .i64 e.fr, .int .i64 e.to, .int .i64 e.period, .int .i64 e.width, .int .i64 e.along.x, .int .i64 e.along.y, .int .i64 e.along.z, .int .i64 e.scale, .int .i64 e.seed, .int .u8 e.a.r, .int .u8 e.a.g, .int .u8 e.a.b, .int .u8 e.b.r, .int .u8 e.b.g, .int .u8 e.b.b]] w (RetB (.bool (effValid e)) w) := by
  go_enter Tryz.func35, Tryz.ntmps35
  go_wp2_with (go_at_call 36; refine (to_any _ _ _ _).mono ?_; rintro e' w' ⟨rfl, rfl⟩)
  all_goals go_ret
  all_goals refine RetB.of (bool_eq ?_) (by go_grown)
  all_goals go_tidy
  all_goals grind [effValid, spanOk, kindOk, moving, direction, vzero]

end Go.Proofs.YtiikejhkhdmgeaaGreat

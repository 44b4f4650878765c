
/- Walks: mixtures of colours and the colour of an aircraft at a time, by the program and by the reference. Conditions stand in each theorem. -/
import Derived.Test.YtiikejhkhdmgeaaGreatEffW5
import Derived.Test.YtiikejhkhdmgeaaGreatTail
namespace Go.Proofs.YtiikejhkhdmgeaaGreat
open Go.RowKit
set_option linter.unusedVariables false
attribute [local go_sem ↓] ld16

def mixErr (num den : Int) : Int := if mixOk num den then 0 else 2
def mixVal (a b : Col) (num den : Int) : Col := if mixOk num den then mixCol a b num den else black

theorem mixOk_iff {num den : Int} : mixOk num den = true ↔ 1 ≤ den ∧ den ≤ 3600000 ∧ 0 ≤ num ∧ num ≤ den := by simp [mixOk]

set_option maxHeartbeats 400000 in
theorem Mix_ok (a b : Col) (num den : Int) (w : World) (ha : a.ok) (hb : b.ok) (h1 : 1 ≤ den) (h2 : den ≤ 3600000) (h3 : 0 ≤ num) (h4 : num ≤ den) :
    Calls Tryz.prog 52 #[.agg #[.int .u8 a.r, .int .u8 a.g, .int .u8 a.b], .agg #[.int .u8 b.r, .int .u8 b.g, .int .u8 b.b], .int .i64 num, .int .i64 den] w (RetB (.tuple #[.agg #[.int .u8 (mixCol a b num den).r, .int .u8 (mixCol a b num den).g, .int .u8 (mixCol a b num den).b], .int .i64 0]) w) := by
  have c1 := fun w => Lib.hid (mix_any a.r b.r num den w ha.1 hb.1 h1 h2 h3 h4)
  have c2 := fun w => Lib.hid (mix_any a.g b.g num den w ha.2.1 hb.2.1 h1 h2 h3 h4)
  have c3 := fun w => Lib.hid (mix_any a.b b.b num den w ha.2.2 hb.2.2 h1 h2 h3 h4)
  clear ha hb
  go_enter Tryz.func52, Tryz.ntmps52
  go_wp2_with fail
  refine wp_region_xt_tail 22 (by kernel_rfl) (by kernel_rfl) ?_
  simp only [List.take_succ_cons, List.take_zero, List.drop_succ_cons, List.drop_zero]
  repeat (go_big_quiet_step (first | (go_at_call 92; first | (with_reducible exact Ret.quiet (c1 _).out) | (with_reducible exact Ret.quiet (c2 _).out) | (with_reducible exact Ret.quiet (c3 _).out))))
  refine wpQuiet_nil ?_
  intro g
  go_wp2
  refine bodyPost_ret (v := .tuple #[.agg #[.int .u8 (mixPart a.r b.r num den), .int .u8 (mixPart a.g b.g num den), .int .u8 (mixPart a.b b.b num den)], .int .i64 0]) (by simp [results, Tryz.results52, go_sem]) rfl ?_
  exact RetB.of rfl (by repeat' (first | exact Below.refl _ _ | assumption | refine Below.xt ?_ ?_ _ | refine Below.alloc ?_ ?_ _ | refine Below.drew ?_ | refine Below.setCell ?_ ?_ _ | (simp; done) | (simp; omega)))

set_option maxHeartbeats 400000 in
theorem Mix_bad (a b : Col) (num den : Int) (w : World) (h : mixOk num den = false) :
    Calls Tryz.prog 52 #[.agg #[.int .u8 a.r, .int .u8 a.g, .int .u8 a.b], .agg #[.int .u8 b.r, .int .u8 b.g, .int .u8 b.b], .int .i64 num, .int .i64 den] w (RetB (.tuple #[.agg #[.int .u8 0, .int .u8 0, .int .u8 0], .int .i64 2]) w) := by
  have h' : ¬ (1 ≤ den ∧ den ≤ 3600000 ∧ 0 ≤ num ∧ num ≤ den) := by rw [← mixOk_iff, h]; simp
  clear h
  go_enter Tryz.func52, Tryz.ntmps52
  go_wp2_with fail
  all_goals go_tidy
  all_goals first | (exfalso; omega) | skip
  all_goals
    refine bodyPost_ret (v := .tuple #[.agg #[.int .u8 0, .int .u8 0, .int .u8 0], .int .i64 2]) (by simp [results, Tryz.results52, go_sem]) rfl ?_
    exact RetB.of rfl (by repeat' (first | exact Below.refl _ _ | assumption | refine Below.xt ?_ ?_ _ | refine Below.alloc ?_ ?_ _ | refine Below.drew ?_ | refine Below.setCell ?_ ?_ _ | (simp; done) | (simp; omega)))

set_option maxHeartbeats 400000 in
theorem refMix_ok (a b : Col) (num den : Int) (w : World) (ha : a.ok) (hb : b.ok) (h1 : 1 ≤ den) (h2 : den ≤ 3600000) (h3 : 0 ≤ num) (h4 : num ≤ den) :
    Calls Tryz.prog 65 #[.agg #[.int .u8 a.r, .int .u8 a.g, .int .u8 a.b], .agg #[.int .u8 b.r, .int .u8 b.g, .int .u8 b.b], .int .i64 num, .int .i64 den] w (RetB (.tuple #[.agg #[.int .u8 (mixCol a b num den).r, .int .u8 (mixCol a b num den).g, .int .u8 (mixCol a b num den).b], .int .i64 0]) w) := by
  have c1 := fun w => Lib.hid (part_any a.r b.r num den w ha.1 hb.1 h1 h2 h3 h4)
  have c2 := fun w => Lib.hid (part_any a.g b.g num den w ha.2.1 hb.2.1 h1 h2 h3 h4)
  have c3 := fun w => Lib.hid (part_any a.b b.b num den w ha.2.2 hb.2.2 h1 h2 h3 h4)
  have a1 := ha.1.1
  have a2 := ha.1.2
  have a3 := ha.2.1.1
  have a4 := ha.2.1.2
  have a5 := ha.2.2.1
  have a6 := ha.2.2.2
  have b1 := hb.1.1
  have b2 := hb.1.2
  have b3 := hb.2.1.1
  have b4 := hb.2.1.2
  have b5 := hb.2.2.1
  have b6 := hb.2.2.2
  clear ha hb
  go_enter Tryz.func65, Tryz.ntmps65
  go_wp2_with fail

  refine wp_region_xt_tail 28 (by kernel_rfl) (by kernel_rfl) ?_
  simp only [List.take_succ_cons, List.take_zero, List.drop_succ_cons, List.drop_zero]
  repeat (go_big_quiet_step (first | (go_at_call 94; first | (with_reducible exact Ret.quiet (c1 _).out) | (with_reducible exact Ret.quiet (c2 _).out) | (with_reducible exact Ret.quiet (c3 _).out))))
  refine wpQuiet_nil ?_
  intro g
  go_wp2
  refine bodyPost_ret (v := .tuple #[.agg #[.int .u8 (mixPart a.r b.r num den), .int .u8 (mixPart a.g b.g num den), .int .u8 (mixPart a.b b.b num den)], .int .i64 0]) (by simp [results, Tryz.results65, go_sem]) rfl ?_
  exact RetB.of rfl (by repeat' (first | exact Below.refl _ _ | assumption | refine Below.xt ?_ ?_ _ | refine Below.alloc ?_ ?_ _ | refine Below.drew ?_ | refine Below.setCell ?_ ?_ _ | (simp; done) | (simp; omega)))

end Go.Proofs.YtiikejhkhdmgeaaGreat

/- Walks of the small functions of grids, by the program. Conditions stand in each theorem. -/
import Derived.Test.YtoaakjkflcjkhaaVecD
import Derived.Test.YtoaakjkflcjkhaaGrP
import Derived.Test.YtoaakjkflcjkhaaSv
import Derived.BigRegion
import Derived.ChangeAlike
namespace Go.Proofs.Ytoaakjkflcjkhaa
open Go.RowKit
set_option linter.unusedVariables false

/-- What a walk of a grid's spot asks. -/
structure Fits (g : Gd) (row col : Int) : Prop where
  x1 : -268435456 ≤ g.ox
  x2 : g.ox ≤ 268435456
  y1 : -268435456 ≤ g.oy
  y2 : g.oy ≤ 268435456
  c1 : -1073741824 ≤ col * g.sp
  c2 : col * g.sp ≤ 1073741824
  r1 : -1073741824 ≤ row * g.sp
  r2 : row * g.sp ≤ 1073741824

set_option maxHeartbeats 400000 in
theorem vec_any (q : Gd) (row col : Int) (w : World) (h : Fits q row col) :
    Calls Try.prog 31 #[.agg #[.int .i64 q.ox, .int .i64 q.oy, .int .i64 q.oz, .int .i64 q.rows, .int .i64 q.cols, .int .i64 q.sp, .int .i64 row, .int .i64 col]] w (RetB (.agg #[.int .i64 (q.pt row col).x, .int .i64 (q.pt row col).y, .int .i64 (q.pt row col).z]) w) := by
  obtain ⟨x1, x2, y1, y2, c1, c2, r1, r2⟩ := h
  go_enter Try.func31, Try.ntmps31
  go_wp2_with (first
    | (refine wp_region_xt (by kernel_rfl) (by kernel_rfl) ?_; (repeat (go_big_quiet_step (first | fail))); refine wpQuiet_nil ?_; intro g))
  refine bodyPost_ret (v := .agg #[.int .i64 (q.pt row col).x, .int .i64 (q.pt row col).y, .int .i64 (q.pt row col).z]) (by simp [results, Try.results31, go_sem, Gd.pt]) rfl ?_
  exact RetB.of rfl (by repeat' (first | exact Below.refl _ _ | assumption | refine Below.xt ?_ ?_ _ | refine Below.alloc ?_ ?_ _ | refine Below.drew ?_ | refine Below.setCell ?_ ?_ _ | (simp; done) | (simp; omega)))

set_option maxHeartbeats 400000 in
theorem at_any (q : Gd) (i : Int) (w : World) (h : q.dims) (h0 : 0 ≤ i) (hn : i ≤ 1073741824) :
    Calls Try.prog 30 #[.agg #[.int .i64 q.ox, .int .i64 q.oy, .int .i64 q.oz, .int .i64 q.rows, .int .i64 q.cols, .int .i64 q.sp], .int .i64 i] w (RetB (.agg #[.int .i64 q.ox, .int .i64 q.oy, .int .i64 q.oz, .int .i64 q.rows, .int .i64 q.cols, .int .i64 q.sp, .int .i64 (i / q.cols), .int .i64 (i % q.cols)]) w) := by
  obtain ⟨d1, d2, d3, d4, d5, s1, s2⟩ := h
  go_enter Try.func30, Try.ntmps30
  go_wp2_with fail
  refine wp_region_xt_tail 10 (by kernel_rfl) (by kernel_rfl) ?_
  simp only [List.take_succ_cons, List.take_zero, List.drop_succ_cons, List.drop_zero]
  repeat (go_big_quiet_step (fail))
  refine wpQuiet_nil ?_
  intro g
  go_wp2
  refine bodyPost_ret (v := .agg #[.int .i64 q.ox, .int .i64 q.oy, .int .i64 q.oz, .int .i64 q.rows, .int .i64 q.cols, .int .i64 q.sp, .int .i64 (i / q.cols), .int .i64 (i % q.cols)]) (by simp [results, Try.results30, go_sem]) rfl ?_
  exact RetB.of rfl (by repeat' (first | exact Below.refl _ _ | assumption | refine Below.xt ?_ ?_ _ | refine Below.alloc ?_ ?_ _ | refine Below.drew ?_ | refine Below.setCell ?_ ?_ _ | (simp; done) | (simp; omega)))

set_option maxHeartbeats 400000 in
theorem index_any (q : Gd) (row col : Int) (w : World) (h : -1073741824 ≤ row * q.cols) (h' : row * q.cols ≤ 1073741824) (k : -1073741824 ≤ col) (k' : col ≤ 1073741824) :
    Calls Try.prog 32 #[.agg #[.int .i64 q.ox, .int .i64 q.oy, .int .i64 q.oz, .int .i64 q.rows, .int .i64 q.cols, .int .i64 q.sp, .int .i64 row, .int .i64 col]] w (RetB (.int .i64 (row * q.cols + col)) w) := by
  go_enter Try.func32, Try.ntmps32
  go_wp2_with (first
    | (refine wp_region_xt (by kernel_rfl) (by kernel_rfl) ?_; (repeat (go_big_quiet_step (first | fail))); refine wpQuiet_nil ?_; intro g))
  go_ret
  exact RetB.of rfl (by repeat' (first | exact Below.refl _ _ | assumption | refine Below.xt ?_ ?_ _ | refine Below.alloc ?_ ?_ _ | refine Below.drew ?_ | refine Below.setCell ?_ ?_ _ | (simp; done) | (simp; omega)))

set_option maxHeartbeats 1600000 in
theorem moved_any (q : Gd) (row col a b : Int) (w : World) (h : -1073741824 ≤ row) (h' : row ≤ 1073741824) (k : -1073741824 ≤ col) (k' : col ≤ 1073741824) (ha : -1 ≤ a) (ha' : a ≤ 1) (hb : -1 ≤ b) (hb' : b ≤ 1) :
    Calls Try.prog 37 #[.agg #[.int .i64 q.ox, .int .i64 q.oy, .int .i64 q.oz, .int .i64 q.rows, .int .i64 q.cols, .int .i64 q.sp, .int .i64 row, .int .i64 col], .int .i64 a, .int .i64 b] w (RetB (.tuple #[.agg #[.int .i64 q.ox, .int .i64 q.oy, .int .i64 q.oz, .int .i64 q.rows, .int .i64 q.cols, .int .i64 q.sp, .int .i64 (row + a), .int .i64 (col + b)], .bool (decide (0 ≤ row + a ∧ row + a < q.rows ∧ 0 ≤ col + b ∧ col + b < q.cols))]) w) := by
  by_cases h1 : 0 ≤ row + a
  · by_cases h2 : row + a < q.rows
    · by_cases h3 : 0 ≤ col + b
      · by_cases h4 : col + b < q.cols
        · have e : decide (0 ≤ row + a ∧ row + a < q.rows ∧ 0 ≤ col + b ∧ col + b < q.cols) = true := by simp; omega
          rw [e]; clear e
          have g1 : decide (0 ≤ row + a) = true := by simpa using h1
          have g2 : decide (row + a < q.rows) = true := by simpa using h2
          have g3 : decide (0 ≤ col + b) = true := by simpa using h3
          have g4 : decide (col + b < q.cols) = true := by simpa using h4
          go_enter Try.func37, Try.ntmps37
          go_wp2_with fail
          go_region
          go_wp2
          refine bodyPost_ret (v := .tuple #[.agg #[.int .i64 q.ox, .int .i64 q.oy, .int .i64 q.oz, .int .i64 q.rows, .int .i64 q.cols, .int .i64 q.sp, .int .i64 (row + a), .int .i64 (col + b)], .bool true]) (by simp [results, Try.results37, go_sem]) rfl ?_
          exact RetB.of rfl (by repeat' (first | exact Below.refl _ _ | assumption | refine Below.xt ?_ ?_ _ | refine Below.alloc ?_ ?_ _ | refine Below.drew ?_ | refine Below.setCell ?_ ?_ _ | (simp; done) | (simp; omega)))
        · have e : decide (0 ≤ row + a ∧ row + a < q.rows ∧ 0 ≤ col + b ∧ col + b < q.cols) = false := by simp; omega
          rw [e]; clear e
          have g1 : decide (0 ≤ row + a) = true := by simpa using h1
          have g2 : decide (row + a < q.rows) = true := by simpa using h2
          have g3 : decide (0 ≤ col + b) = true := by simpa using h3
          have g4 : decide (col + b < q.cols) = false := by simpa using h4
          go_enter Try.func37, Try.ntmps37
          go_wp2_with fail
          go_region
          go_wp2
          refine bodyPost_ret (v := .tuple #[.agg #[.int .i64 q.ox, .int .i64 q.oy, .int .i64 q.oz, .int .i64 q.rows, .int .i64 q.cols, .int .i64 q.sp, .int .i64 (row + a), .int .i64 (col + b)], .bool false]) (by simp [results, Try.results37, go_sem]) rfl ?_
          exact RetB.of rfl (by repeat' (first | exact Below.refl _ _ | assumption | refine Below.xt ?_ ?_ _ | refine Below.alloc ?_ ?_ _ | refine Below.drew ?_ | refine Below.setCell ?_ ?_ _ | (simp; done) | (simp; omega)))
      · have e : decide (0 ≤ row + a ∧ row + a < q.rows ∧ 0 ≤ col + b ∧ col + b < q.cols) = false := by simp; omega
        rw [e]; clear e
        have g1 : decide (0 ≤ row + a) = true := by simpa using h1
        have g2 : decide (row + a < q.rows) = true := by simpa using h2
        have g3 : decide (0 ≤ col + b) = false := by simpa using h3
        go_enter Try.func37, Try.ntmps37
        go_wp2_with fail
        go_region
        go_wp2
        refine bodyPost_ret (v := .tuple #[.agg #[.int .i64 q.ox, .int .i64 q.oy, .int .i64 q.oz, .int .i64 q.rows, .int .i64 q.cols, .int .i64 q.sp, .int .i64 (row + a), .int .i64 (col + b)], .bool false]) (by simp [results, Try.results37, go_sem]) rfl ?_
        exact RetB.of rfl (by repeat' (first | exact Below.refl _ _ | assumption | refine Below.xt ?_ ?_ _ | refine Below.alloc ?_ ?_ _ | refine Below.drew ?_ | refine Below.setCell ?_ ?_ _ | (simp; done) | (simp; omega)))
    · have e : decide (0 ≤ row + a ∧ row + a < q.rows ∧ 0 ≤ col + b ∧ col + b < q.cols) = false := by simp; omega
      rw [e]; clear e
      have g1 : decide (0 ≤ row + a) = true := by simpa using h1
      have g2 : decide (row + a < q.rows) = false := by simpa using h2
      go_enter Try.func37, Try.ntmps37
      go_wp2_with fail
      go_region
      go_wp2
      refine bodyPost_ret (v := .tuple #[.agg #[.int .i64 q.ox, .int .i64 q.oy, .int .i64 q.oz, .int .i64 q.rows, .int .i64 q.cols, .int .i64 q.sp, .int .i64 (row + a), .int .i64 (col + b)], .bool false]) (by simp [results, Try.results37, go_sem]) rfl ?_
      exact RetB.of rfl (by repeat' (first | exact Below.refl _ _ | assumption | refine Below.xt ?_ ?_ _ | refine Below.alloc ?_ ?_ _ | refine Below.drew ?_ | refine Below.setCell ?_ ?_ _ | (simp; done) | (simp; omega)))
  · have e : decide (0 ≤ row + a ∧ row + a < q.rows ∧ 0 ≤ col + b ∧ col + b < q.cols) = false := by simp; omega
    rw [e]; clear e
    have g1 : decide (0 ≤ row + a) = false := by simpa using h1
    go_enter Try.func37, Try.ntmps37
    go_wp2_with fail
    go_region
    go_wp2
    refine bodyPost_ret (v := .tuple #[.agg #[.int .i64 q.ox, .int .i64 q.oy, .int .i64 q.oz, .int .i64 q.rows, .int .i64 q.cols, .int .i64 q.sp, .int .i64 (row + a), .int .i64 (col + b)], .bool false]) (by simp [results, Try.results37, go_sem]) rfl ?_
    exact RetB.of rfl (by repeat' (first | exact Below.refl _ _ | assumption | refine Below.xt ?_ ?_ _ | refine Below.alloc ?_ ?_ _ | refine Below.drew ?_ | refine Below.setCell ?_ ?_ _ | (simp; done) | (simp; omega)))

end Go.Proofs.Ytoaakjkflcjkhaa

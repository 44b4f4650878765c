/- Walks of the small functions of vectors, by the program: which vectors are valid, and the closures that parts are joined by. Conditions stand in each theorem. -/
import Derived.Test.YtjgfobknifobhaaProg
import Derived.Test.YtjgfobknifobhaaVecP
import Derived.Test.YtjgfobknifobhaaMem
import Derived.Test.YtjgfobknifobhaaTail
namespace Go.Proofs.Ytjgfobknifobhaa
open Go.RowKit
set_option linter.unusedVariables false

theorem old_of_cell {w : World} {b i : Nat} {s : Option Nat} {v : Value} (h : w.cell? ⟨b, i, s⟩ = some v) : old b w := by
  rcases Nat.lt_or_ge b w.heap.size with hlt | hge
  · exact hlt
  · simp [World.cell?, Array.getElem?_eq_none hge] at h

set_option maxHeartbeats 400000 in
theorem inside3 (m x y z : Int) (b c : Nat) (w : World) (hm : 0 ≤ m) (hm' : m ≤ 4294967296) (h0 : w.cell? ⟨b, 0, none⟩ = some (.int .i64 x)) (h1 : w.cell? ⟨b, 1, none⟩ = some (.int .i64 y)) (h2 : w.cell? ⟨b, 2, none⟩ = some (.int .i64 z)) :
    Calls Try.prog 42 #[.int .i64 m, .slice (some ⟨b, 0, none⟩) 3 c] w (Ret (.bool (ins m x y z)) w) := by
  go_enter Try.func42, Try.ntmps42
  go_wp2
  go_rounds 4
  all_goals (go_ret; refine Ret.of (bool_eq ?_); simp [ins, within]; try omega)

set_option maxHeartbeats 400000 in
theorem inside1 (m x : Int) (b c : Nat) (w : World) (hm : 0 ≤ m) (hm' : m ≤ 4294967296) (h0 : w.cell? ⟨b, 0, none⟩ = some (.int .i64 x)) :
    Calls Try.prog 42 #[.int .i64 m, .slice (some ⟨b, 0, none⟩) 1 c] w (Ret (.bool (within x (-m) m)) w) := by
  go_enter Try.func42, Try.ntmps42
  go_wp2
  go_rounds 2
  all_goals (go_ret; refine Ret.of (bool_eq ?_); simp [within]; try omega)

set_option maxHeartbeats 400000 in
theorem valid_any (x y z : Int) (w : World) : Calls Try.prog 33 #[.agg #[.int .i64 x, .int .i64 y, .int .i64 z]] w (RetB (.bool (vok x y z)) w) := by
  go_enter Try.func33, Try.ntmps33
  go_wp2_with fail
  refine (inside3 _ x y z _ _ _ (by decide) (by decide) ?_ ?_ ?_).mono ?_
  · go_simp
  · go_simp
  · go_simp
  rintro e w' ⟨rfl, rfl⟩
  go_wp2
  go_ret
  exact RetB.of rfl (by go_grown)

set_option maxHeartbeats 400000 in
theorem point_any (x y z : Int) (w : World) : Calls Try.prog 34 #[.agg #[.int .i64 x, .int .i64 y, .int .i64 z]] w (RetB (.bool (ins 1048576 x y z)) w) := by
  go_enter Try.func34, Try.ntmps34
  go_wp2_with fail
  refine (inside3 _ x y z _ _ _ (by decide) (by decide) ?_ ?_ ?_).mono ?_
  · go_simp
  · go_simp
  · go_simp
  rintro e w' ⟨rfl, rfl⟩
  go_wp2
  go_ret
  exact RetB.of rfl (by go_grown)

set_option maxHeartbeats 400000 in
theorem v_any (x y z : Int) (w : World) : Calls Try.prog 45 #[.int .i64 x, .int .i64 y, .int .i64 z] w (RetB (.agg #[.int .i64 x, .int .i64 y, .int .i64 z]) w) := by
  go_enter Try.func45, Try.ntmps45
  go_wp2
  refine bodyPost_ret (v := .agg #[.int .i64 x, .int .i64 y, .int .i64 z]) (by simp [results, Try.results45, go_sem]) rfl ?_
  exact RetB.of rfl (by repeat' (first | exact Below.refl _ _ | assumption | refine Below.xt ?_ ?_ _ | refine Below.alloc ?_ ?_ _ | refine Below.drew ?_ | refine Below.setCell ?_ ?_ _ | (simp; done) | (simp; omega)))

set_option maxHeartbeats 400000 in
theorem checked_ok (x y z : Int) (w : World) (h : vok x y z = true) : Calls Try.prog 38 #[.agg #[.int .i64 x, .int .i64 y, .int .i64 z]] w (RetB (.tuple #[.agg #[.int .i64 x, .int .i64 y, .int .i64 z], .int .i64 0]) w) := by
  go_enter Try.func38, Try.ntmps38
  go_wp2_with (first
    | (go_at_call 33; refine (RetB.grown (valid_any x y z _)).mono ?_; rintro e' w' ⟨rfl, g, rfl⟩)
    | (refine wp_region_xt (by kernel_rfl) (by kernel_rfl) ?_; (repeat (go_big_quiet_step (first | (go_at_call 33; exact RetB.quiet (valid_any x y z _))))); refine wpQuiet_nil ?_; intro g))
  refine bodyPost_ret (v := .tuple #[.agg #[.int .i64 x, .int .i64 y, .int .i64 z], .int .i64 0]) (by simp [results, Try.results38, go_sem]) rfl ?_
  exact RetB.of rfl (by repeat' (first | exact Below.refl _ _ | assumption | refine Below.xt ?_ ?_ _ | refine Below.alloc ?_ ?_ _ | refine Below.drew ?_ | refine Below.setCell ?_ ?_ _ | (simp; done) | (simp; omega)))
set_option maxHeartbeats 400000 in
theorem checked_bad (x y z : Int) (w : World) (h : vok x y z = false) : Calls Try.prog 38 #[.agg #[.int .i64 x, .int .i64 y, .int .i64 z]] w (RetB (.tuple #[.agg #[.int .i64 0, .int .i64 0, .int .i64 0], .int .i64 3]) w) := by
  go_enter Try.func38, Try.ntmps38
  go_wp2_with (first
    | (go_at_call 33; refine (RetB.grown (valid_any x y z _)).mono ?_; rintro e' w' ⟨rfl, g, rfl⟩)
    | (refine wp_region_xt (by kernel_rfl) (by kernel_rfl) ?_; (repeat (go_big_quiet_step (first | (go_at_call 33; exact RetB.quiet (valid_any x y z _))))); refine wpQuiet_nil ?_; intro g))
  refine bodyPost_ret (v := .tuple #[.agg #[.int .i64 0, .int .i64 0, .int .i64 0], .int .i64 3]) (by simp [results, Try.results38, go_sem]) rfl ?_
  exact RetB.of rfl (by repeat' (first | exact Below.refl _ _ | assumption | refine Below.xt ?_ ?_ _ | refine Below.alloc ?_ ?_ _ | refine Below.drew ?_ | refine Below.setCell ?_ ?_ _ | (simp; done) | (simp; omega)))
theorem checked_any (x y z : Int) (w : World) : Calls Try.prog 38 #[.agg #[.int .i64 x, .int .i64 y, .int .i64 z]] w (RetB (.tuple #[.agg #[.int .i64 (outP x y z x), .int .i64 (outP x y z y), .int .i64 (outP x y z z)], .int .i64 (outE x y z)]) w) := by
  by_cases h : vok x y z = true
  · simp only [outP, outE, h, if_true]
    exact checked_ok x y z w h
  · simp only [outP, outE, h]
    exact checked_bad x y z w (by simpa using h)

/-! ### The closures -/
set_option maxHeartbeats 400000 in
theorem add_cl (x y : Int) (w : World) (h : -1125899906842624 ≤ x + y) (h' : x + y ≤ 1125899906842624) : Calls Try.prog 40 #[.int .i64 x, .int .i64 y] w (Ret (.int .i64 (x + y)) w) := by
  go_enter Try.func40, Try.ntmps40
  go_wp2
  go_ret
  exact Ret.of rfl
set_option maxHeartbeats 400000 in
theorem sub_cl (x y : Int) (w : World) (h : -1125899906842624 ≤ x - y) (h' : x - y ≤ 1125899906842624) : Calls Try.prog 41 #[.int .i64 x, .int .i64 y] w (Ret (.int .i64 (x - y)) w) := by
  go_enter Try.func41, Try.ntmps41
  go_wp2
  go_ret
  exact Ret.of rfl
set_option maxHeartbeats 400000 in
theorem dist_cl (x y : Int) (w : World) (h : -1125899906842624 ≤ x - y) (h' : x - y ≤ 1125899906842624) : Calls Try.prog 48 #[.int .i64 x, .int .i64 y] w (Ret (.int .i64 (x - y)) w) := by
  go_enter Try.func48, Try.ntmps48
  go_wp2
  go_ret
  exact Ret.of rfl
set_option maxHeartbeats 400000 in
theorem scale_cl (x y n : Int) (b : Nat) (w : World) (hb : w.cell? ⟨b, 0, none⟩ = some (.int .i64 n)) (h : -1125899906842624 ≤ x * n) (h' : x * n ≤ 1125899906842624) :
    Calls Try.prog 43 #[.int .i64 x, .int .i64 y, .pointer (some ⟨b, 0, none⟩)] w (Ret (.int .i64 (x * n)) w) := by
  go_enter Try.func43, Try.ntmps43
  go_wp2
  go_ret
  exact Ret.of rfl
set_option maxHeartbeats 400000 in
theorem min_cl (x y : Int) (w : World) : Calls Try.prog 53 #[.int .i64 x, .int .i64 y] w (Ret (.int .i64 (min x y)) w) := by
  go_enter Try.func53, Try.ntmps53
  go_wp2
  all_goals go_ret
  all_goals refine Ret.of (int_eq ?_)
  all_goals omega
set_option maxHeartbeats 400000 in
theorem max_cl (x y : Int) (w : World) : Calls Try.prog 54 #[.int .i64 x, .int .i64 y] w (Ret (.int .i64 (max x y)) w) := by
  go_enter Try.func54, Try.ntmps54
  go_wp2
  all_goals go_ret
  all_goals refine Ret.of (int_eq ?_)
  all_goals omega

theorem mid_facts {x y num den : Int} (hx : -16777216 ≤ x ∧ x ≤ 16777216) (hy : -16777216 ≤ y ∧ y ≤ 16777216) (hr : ratio num den = true) :
    -144115188075855872 ≤ (y - x) * num ∧ (y - x) * num ≤ 144115188075855872 ∧ -33554432 ≤ (2 * (y - x) * num + den) / (2 * den) ∧ (2 * (y - x) * num + den) / (2 * den) ≤ 33554432 := by
  have h := ratio_iff.1 hr
  have e := mul_le_of (a := y - x) (b := num) (A := 33554432) (B := 4294967296) (by omega) (by omega)
  have e2 : 2 * (y - x) * num = 2 * ((y - x) * num) := Int.mul_assoc ..
  have b1 : (-33554432) * den ≤ (y - x) * num := by
    have h1 := Int.mul_le_mul_of_nonneg_right (show -33554432 ≤ y - x by omega) h.2.2.1
    omega
  have b2 : (y - x) * num ≤ 33554432 * den := by
    have h1 := Int.mul_le_mul_of_nonneg_right (show y - x ≤ 33554432 by omega) h.2.2.1
    omega
  refine ⟨by omega, by omega, ?_, ?_⟩
  · exact (Int.le_ediv_iff_mul_le (by omega)).2 (by rw [e2]; omega)
  · have h3 : 2 * (y - x) * num + den < (33554432 + 1) * (2 * den) := by rw [e2]; omega
    have := Int.ediv_lt_of_lt_mul (by omega) h3
    omega

set_option maxHeartbeats 800000 in
theorem mid_cl (x y num den : Int) (b c : Nat) (w : World) (hx : -16777216 ≤ x ∧ x ≤ 16777216) (hy : -16777216 ≤ y ∧ y ≤ 16777216) (hr : ratio num den = true)
    (hb : w.cell? ⟨b, 0, none⟩ = some (.int .i64 num)) (hc : w.cell? ⟨c, 0, none⟩ = some (.int .i64 den)) :
    Calls Try.prog 50 #[.int .i64 x, .int .i64 y, .pointer (some ⟨b, 0, none⟩), .pointer (some ⟨c, 0, none⟩)] w (RetB (.int .i64 (mid x y num den)) w) := by
  obtain ⟨r1, r2, r3, r4⟩ := ratio_iff.1 hr
  obtain ⟨m1, m2, m3, m4⟩ := mid_facts hx hy hr
  obtain ⟨x1, x2⟩ := hx
  obtain ⟨y1, y2⟩ := hy
  have hf := tdiv_floor (a := 2 * (y - x) * num + den) (b := 2 * den) (by omega)
  have e2 : 2 * (y - x) * num = 2 * ((y - x) * num) := Int.mul_assoc ..
  have t1 : -288230376151711744 ≤ 2 * (y - x) * num := by omega
  have t2 : 2 * (y - x) * num ≤ 288230376151711744 := by omega
  have w1 : IntKind.i64.wrap (y - x) = y - x := IntWalk.i64_in _ (by omega)
  have w2 : IntKind.i64.wrap (2 * (y - x)) = 2 * (y - x) := IntWalk.i64_in _ (by omega)
  have w3 : IntKind.i64.wrap (2 * (y - x) * num) = 2 * (y - x) * num := IntWalk.i64_in _ (by omega)
  have w4 : IntKind.i64.wrap (2 * (y - x) * num + den) = 2 * (y - x) * num + den := IntWalk.i64_in _ (by omega)
  have w5 : IntKind.i64.wrap (2 * den) = 2 * den := IntWalk.i64_in _ (by omega)
  unfold mid
  clear e2 hr
  have hob := old_of_cell hb
  have hoc := old_of_cell hc
  have hq : -33554433 ≤ (2 * (y - x) * num + den).tdiv (2 * den) ∧ (2 * (y - x) * num + den).tdiv (2 * den) ≤ 33554433 := by
    generalize 2 * (y - x) * num + den = A at *
    split at hf <;> omega
  obtain ⟨q1, q2⟩ := hq
  by_cases hn : (2 * (y - x) * num + den).tmod (2 * den) < 0
  · rw [if_pos hn] at hf
    have HF := Lib.hid hf
    clear hf
    go_enter Try.func50, Try.ntmps50
    go_wp2_with (first
      | (refine wp_region_xt (by kernel_rfl) (by kernel_rfl) ?_; (repeat (go_big_quiet_step (first | fail))); refine wpQuiet_nil ?_; intro g))
    go_ret
    exact RetB.of (int_eq (by rw [← HF.out])) (by repeat' (first | exact Below.refl _ _ | assumption | refine Below.xt ?_ ?_ _ | refine Below.alloc ?_ ?_ _ | refine Below.drew ?_ | refine Below.setCell ?_ ?_ _ | (simp; done) | (simp; omega)))
  · rw [if_neg hn] at hf
    have HF := Lib.hid hf
    clear hf
    go_enter Try.func50, Try.ntmps50
    go_wp2_with (first
      | (refine wp_region_xt (by kernel_rfl) (by kernel_rfl) ?_; (repeat (go_big_quiet_step (first | fail))); refine wpQuiet_nil ?_; intro g))
    go_ret
    exact RetB.of (int_eq (by rw [← HF.out])) (by repeat' (first | exact Below.refl _ _ | assumption | refine Below.xt ?_ ?_ _ | refine Below.alloc ?_ ?_ _ | refine Below.drew ?_ | refine Below.setCell ?_ ?_ _ | (simp; done) | (simp; omega)))

end Go.Proofs.Ytjgfobknifobhaa

/- Walks of the small functions of vectors, by the program: which vectors are valid and points, and distances. Conditions stand in each theorem. -/
import Derived.Test.YtoaakjkflcjkhaaProg
import Derived.Test.YtoaakjkflcjkhaaVecP
import Derived.Test.YtoaakjkflcjkhaaMem
import Derived.Test.YtoaakjkflcjkhaaTail
namespace Go.Proofs.Ytoaakjkflcjkhaa
open Go.RowKit
set_option linter.unusedVariables false

theorem old_of_cell {w : World} {b i : Nat} {s : Option Nat} {v : Value} (h : w.cell? ⟨b, i, s⟩ = some v) : old b w := by
  rcases Nat.lt_or_ge b w.heap.size with hlt | hge
  · exact hlt
  · simp [World.cell?, Array.getElem?_eq_none hge] at h

set_option maxHeartbeats 400000 in
theorem inside3 (m x y z : Int) (b c : Nat) (w : World) (hm : 0 ≤ m) (hm' : m ≤ 4294967296) (h0 : w.cell? ⟨b, 0, none⟩ = some (.int .i64 x)) (h1 : w.cell? ⟨b, 1, none⟩ = some (.int .i64 y)) (h2 : w.cell? ⟨b, 2, none⟩ = some (.int .i64 z)) :
    Calls Try.prog 43 #[.int .i64 m, .slice (some ⟨b, 0, none⟩) 3 c] w (Ret (.bool (ins m x y z)) w) := by
  go_enter Try.func43, Try.ntmps43
  go_wp2
  go_rounds 4
  all_goals (go_ret; refine Ret.of (bool_eq ?_); simp [ins, within]; try omega)

set_option maxHeartbeats 400000 in
theorem inside1 (m x : Int) (b c : Nat) (w : World) (hm : 0 ≤ m) (hm' : m ≤ 4294967296) (h0 : w.cell? ⟨b, 0, none⟩ = some (.int .i64 x)) :
    Calls Try.prog 43 #[.int .i64 m, .slice (some ⟨b, 0, none⟩) 1 c] w (Ret (.bool (within x (-m) m)) w) := by
  go_enter Try.func43, Try.ntmps43
  go_wp2
  go_rounds 2
  all_goals (go_ret; refine Ret.of (bool_eq ?_); simp [within]; try omega)

set_option maxHeartbeats 400000 in
theorem valid_any (x y z : Int) (w : World) : Calls Try.prog 46 #[.agg #[.int .i64 x, .int .i64 y, .int .i64 z]] w (RetB (.bool (vok x y z)) w) := by
  go_enter Try.func46, Try.ntmps46
  go_wp2_with fail
  refine (inside3 _ x y z _ _ _ (by decide) (by decide) ?_ ?_ ?_).mono ?_
  · go_simp
  · go_simp
  · go_simp
  rintro e w' ⟨rfl, rfl⟩
  go_wp2
  go_ret
  exact RetB.of rfl (by go_grown)

set_option maxHeartbeats 400000 in
theorem point_any (x y z : Int) (w : World) : Calls Try.prog 33 #[.agg #[.int .i64 x, .int .i64 y, .int .i64 z]] w (RetB (.bool (ins 1048576 x y z)) w) := by
  go_enter Try.func33, Try.ntmps33
  go_wp2_with fail
  refine (inside3 _ x y z _ _ _ (by decide) (by decide) ?_ ?_ ?_).mono ?_
  · go_simp
  · go_simp
  · go_simp
  rintro e w' ⟨rfl, rfl⟩
  go_wp2
  go_ret
  exact RetB.of rfl (by go_grown)

set_option maxHeartbeats 400000 in
theorem dist_cl (x y : Int) (w : World) (h : -1125899906842624 ≤ x - y) (h' : x - y ≤ 1125899906842624) : Calls Try.prog 48 #[.int .i64 x, .int .i64 y] w (Ret (.int .i64 (x - y)) w) := by
  go_enter Try.func48, Try.ntmps48
  go_wp2
  go_ret
  exact Ret.of rfl
set_option maxHeartbeats 400000 in
theorem join_dist (a b c x y z : Int) (w : World) (h0 : -1125899906842624 ≤ a - x) (h1 : a - x ≤ 1125899906842624) (h2 : -1125899906842624 ≤ b - y) (h3 : b - y ≤ 1125899906842624) (h4 : -1125899906842624 ≤ c - z) (h5 : c - z ≤ 1125899906842624) :
    Calls Try.prog 47 #[.agg #[.int .i64 a, .int .i64 b, .int .i64 c], .agg #[.int .i64 x, .int .i64 y, .int .i64 z], .func (.func 48) #[] #[]] w (RetB (.agg #[.int .i64 ((a - x)), .int .i64 ((b - y)), .int .i64 ((c - z))]) w) := by
  go_enter Try.func47, Try.ntmps47
  go_wp2_with fail
  refine wp_region_xt_tail 18 (by kernel_rfl) (by kernel_rfl) ?_
  simp only [List.take_succ_cons, List.take_zero, List.drop_succ_cons, List.drop_zero]
  repeat (go_big_quiet_step ((go_at_call 48; exact Ret.quiet (dist_cl _ _ _ (by omega) (by omega)))))
  refine wpQuiet_nil ?_
  intro g
  go_wp2
  refine bodyPost_ret (v := .agg #[.int .i64 ((a - x)), .int .i64 ((b - y)), .int .i64 ((c - z))]) (by simp [results, Try.results47, go_sem]) rfl ?_
  exact RetB.of rfl (by repeat' (first | exact Below.refl _ _ | assumption | refine Below.xt ?_ ?_ _ | refine Below.alloc ?_ ?_ _ | refine Below.drew ?_ | refine Below.setCell ?_ ?_ _ | (simp; done) | (simp; omega)))
set_option maxHeartbeats 400000 in
theorem dot_any (a b c x y z : Int) (w : World) (ha : -33554432 ≤ a ∧ a ≤ 33554432) (hb : -33554432 ≤ b ∧ b ≤ 33554432) (hc : -33554432 ≤ c ∧ c ≤ 33554432) (hx : -33554432 ≤ x ∧ x ≤ 33554432) (hy : -33554432 ≤ y ∧ y ≤ 33554432) (hz : -33554432 ≤ z ∧ z ≤ 33554432) :
    Calls Try.prog 49 #[.agg #[.int .i64 a, .int .i64 b, .int .i64 c], .agg #[.int .i64 x, .int .i64 y, .int .i64 z]] w (RetB (.int .i64 (a * x + b * y + c * z)) w) := by
  obtain ⟨p1, p2⟩ := prod2_le ha hx
  obtain ⟨p3, p4⟩ := prod2_le hb hy
  obtain ⟨p5, p6⟩ := prod2_le hc hz
  clear ha hb hc hx hy hz
  go_enter Try.func49, Try.ntmps49
  go_wp2_with (first
    | (refine wp_region_xt (by kernel_rfl) (by kernel_rfl) ?_; (repeat (go_big_quiet_step (first | fail))); refine wpQuiet_nil ?_; intro g))
  go_ret
  exact RetB.of rfl (by repeat' (first | exact Below.refl _ _ | assumption | refine Below.xt ?_ ?_ _ | refine Below.alloc ?_ ?_ _ | refine Below.drew ?_ | refine Below.setCell ?_ ?_ _ | (simp; done) | (simp; omega)))

set_option maxHeartbeats 400000 in
theorem Distance2_ok (a b c x y z : Int) (w : World) (ha : vok a b c = true) (hx : vok x y z = true) :
    Calls Try.prog 44 #[.agg #[.int .i64 a, .int .i64 b, .int .i64 c], .agg #[.int .i64 x, .int .i64 y, .int .i64 z]] w (RetB (.tuple #[.int .i64 ((a - x) * (a - x) + (b - y) * (b - y) + (c - z) * (c - z)), .int .i64 0]) w) := by
  obtain ⟨⟨a1, a2⟩, ⟨b1, b2⟩, c1, c2⟩ := vok_iff.1 ha
  obtain ⟨⟨x1, x2⟩, ⟨y1, y2⟩, z1, z2⟩ := vok_iff.1 hx
  go_enter Try.func44, Try.ntmps44
  go_wp2_with (first
    | (go_at_call 46; refine (RetB.grown (valid_any _ _ _ _)).mono ?_; rintro e' w' ⟨rfl, g, rfl⟩)
    | (go_at_call 47; refine (RetB.grown (join_dist a b c x y z _ (by omega) (by omega) (by omega) (by omega) (by omega) (by omega))).mono ?_; rintro e' w' ⟨rfl, g, rfl⟩)
    | (go_at_call 49; refine (RetB.grown (dot_any (a - x) (b - y) (c - z) (a - x) (b - y) (c - z) _ (by omega) (by omega) (by omega) (by omega) (by omega) (by omega))).mono ?_; rintro e' w' ⟨rfl, g, rfl⟩)
    | (refine wp_region_xt (by kernel_rfl) (by kernel_rfl) ?_; (repeat (go_big_quiet_step (first | (go_at_call 46; exact RetB.quiet (valid_any _ _ _ _)) | (go_at_call 47; exact RetB.quiet (join_dist a b c x y z _ (by omega) (by omega) (by omega) (by omega) (by omega) (by omega))) | (go_at_call 49; exact RetB.quiet (dot_any (a - x) (b - y) (c - z) (a - x) (b - y) (c - z) _ (by omega) (by omega) (by omega) (by omega) (by omega) (by omega)))))); refine wpQuiet_nil ?_; intro g))
  go_ret2
  exact RetB.of rfl (by repeat' (first | exact Below.refl _ _ | assumption | refine Below.xt ?_ ?_ _ | refine Below.alloc ?_ ?_ _ | refine Below.drew ?_ | refine Below.setCell ?_ ?_ _ | (simp; done) | (simp; omega)))
set_option maxHeartbeats 400000 in
theorem Distance2_bad (a b c x y z : Int) (w : World) (h : vok a b c = false ∨ vok x y z = false) :
    Calls Try.prog 44 #[.agg #[.int .i64 a, .int .i64 b, .int .i64 c], .agg #[.int .i64 x, .int .i64 y, .int .i64 z]] w (RetB (.tuple #[.int .i64 0, .int .i64 2]) w) := by
  by_cases ha : vok a b c = true
  · have hx : vok x y z = false := by simpa [ha] using h
    clear h
    go_enter Try.func44, Try.ntmps44
    go_wp2_with (first
      | (go_at_call 46; refine (RetB.grown (valid_any _ _ _ _)).mono ?_; rintro e' w' ⟨rfl, g, rfl⟩)
      | (refine wp_region_xt (by kernel_rfl) (by kernel_rfl) ?_; (repeat (go_big_quiet_step (first | (go_at_call 46; exact RetB.quiet (valid_any _ _ _ _))))); refine wpQuiet_nil ?_; intro g))
    go_ret2
    exact RetB.of rfl (by repeat' (first | exact Below.refl _ _ | assumption | refine Below.xt ?_ ?_ _ | refine Below.alloc ?_ ?_ _ | refine Below.drew ?_ | refine Below.setCell ?_ ?_ _ | (simp; done) | (simp; omega)))
  · have hx : vok a b c = false := by simpa using ha
    clear h ha
    go_enter Try.func44, Try.ntmps44
    go_wp2_with (first
      | (go_at_call 46; refine (RetB.grown (valid_any _ _ _ _)).mono ?_; rintro e' w' ⟨rfl, g, rfl⟩)
      | (refine wp_region_xt (by kernel_rfl) (by kernel_rfl) ?_; (repeat (go_big_quiet_step (first | (go_at_call 46; exact RetB.quiet (valid_any _ _ _ _))))); refine wpQuiet_nil ?_; intro g))
    go_ret2
    exact RetB.of rfl (by repeat' (first | exact Below.refl _ _ | assumption | refine Below.xt ?_ ?_ _ | refine Below.alloc ?_ ?_ _ | refine Below.drew ?_ | refine Below.setCell ?_ ?_ _ | (simp; done) | (simp; omega)))

end Go.Proofs.Ytoaakjkflcjkhaa

/- Walks of the small functions of cameras, by the program. Conditions stand in each theorem. -/
import Derived.Test.YtjeemlnhokihoaaProg
import Derived.Test.YtjeemlnhokihoaaCamP
import Derived.Test.YtjeemlnhokihoaaMem
import Derived.Test.YtjeemlnhokihoaaTail
import Derived.Laws.BitsAllLaws
import Derived.Laws.BitsLemmas
import Derived.BigRegion
import Derived.ChangeAlike
namespace Go.Proofs.Ytjeemlnhokihoaa
open Go.RowKit
set_option linter.unusedVariables false

set_option maxHeartbeats 400000 in
theorem within_any (a b c : Int) (w : World) : Calls Try.prog 27 #[.int .i64 a, .int .i64 b, .int .i64 c] w (Ret (.bool (within a b c)) w) := by
  go_enter Try.func27, Try.ntmps27
  go_wp2
  all_goals go_ret
  all_goals refine Ret.of (bool_eq ?_)
  all_goals
    unfold within
    simp
    try omega
set_option maxHeartbeats 400000 in
theorem refTo_any (a b c : Int) (w : World) : Calls Try.prog 31 #[.int .i64 a, .int .i64 b, .int .i64 c] w (Ret (.bool (within a b c)) w) := by
  go_enter Try.func31, Try.ntmps31
  go_wp2
  all_goals go_ret
  all_goals refine Ret.of (bool_eq ?_)
  all_goals
    unfold within
    simp
    try omega
set_option maxHeartbeats 400000 in
theorem eTo_any (a b c : Int) (w : World) : Calls Try.prog 41 #[.int .i64 a, .int .i64 b, .int .i64 c] w (Ret (.bool (within a b c)) w) := by
  go_enter Try.func41, Try.ntmps41
  go_wp2
  all_goals go_ret
  all_goals refine Ret.of (bool_eq ?_)
  all_goals
    unfold within
    simp
    try omega
set_option maxHeartbeats 400000 in
theorem dot_w (a b : V3) (w : World) : Calls Try.prog 28 #[.agg #[.int .i64 a.x, .int .i64 a.y, .int .i64 a.z], .agg #[.int .i64 b.x, .int .i64 b.y, .int .i64 b.z]] w (RetB (.int .i64 (dtW a b)) w) := by
  go_enter Try.func28, Try.ntmps28
  go_wp2_with (first
    | (refine wp_region_xt (by kernel_rfl) (by kernel_rfl) ?_; (repeat (go_big_quiet_step (first | fail))); refine wpQuiet_nil ?_; intro g))
  go_ret
  exact RetB.of rfl (by repeat' (first | exact Below.refl _ _ | assumption | refine Below.xt ?_ ?_ _ | refine Below.alloc ?_ ?_ _ | refine Below.drew ?_ | refine Below.setCell ?_ ?_ _ | (simp; done) | (simp; omega)))
theorem dot_ax (a b : V3) (w : World) (ha : ax a = true) (hb : ax b = true) : Calls Try.prog 28 #[.agg #[.int .i64 a.x, .int .i64 a.y, .int .i64 a.z], .agg #[.int .i64 b.x, .int .i64 b.y, .int .i64 b.z]] w (RetB (.int .i64 (dt a b)) w) := by
  have c := dot_w a b w
  rwa [dtW_ax ha hb] at c
set_option maxHeartbeats 400000 in
theorem refDot_w (a b : V3) (w : World) : Calls Try.prog 26 #[.agg #[.int .i64 a.x, .int .i64 a.y, .int .i64 a.z], .agg #[.int .i64 b.x, .int .i64 b.y, .int .i64 b.z]] w (RetB (.int .i64 (dtW a b)) w) := by
  go_enter Try.func26, Try.ntmps26
  go_wp2_with (first
    | (refine wp_region_xt (by kernel_rfl) (by kernel_rfl) ?_; (repeat (go_big_quiet_step (first | fail))); refine wpQuiet_nil ?_; intro g))
  go_ret
  exact RetB.of rfl (by repeat' (first | exact Below.refl _ _ | assumption | refine Below.xt ?_ ?_ _ | refine Below.alloc ?_ ?_ _ | refine Below.drew ?_ | refine Below.setCell ?_ ?_ _ | (simp; done) | (simp; omega)))
theorem refDot_ax (a b : V3) (w : World) (ha : ax a = true) (hb : ax b = true) : Calls Try.prog 26 #[.agg #[.int .i64 a.x, .int .i64 a.y, .int .i64 a.z], .agg #[.int .i64 b.x, .int .i64 b.y, .int .i64 b.z]] w (RetB (.int .i64 (dt a b)) w) := by
  have c := refDot_w a b w
  rwa [dtW_ax ha hb] at c
set_option maxHeartbeats 400000 in
theorem minus_any (a : V3) (w : World) (h : ax a = true) : Calls Try.prog 43 #[.agg #[.int .i64 a.x, .int .i64 a.y, .int .i64 a.z]] w (RetB (.agg #[.int .i64 ((neg a)).x, .int .i64 ((neg a)).y, .int .i64 ((neg a)).z]) w) := by
  obtain ⟨⟨x1, x2⟩, ⟨y1, y2⟩, z1, z2⟩ := ax_iff.1 h
  clear h
  go_enter Try.func43, Try.ntmps43
  go_wp2_with (first
    | (refine wp_region_xt (by kernel_rfl) (by kernel_rfl) ?_; (repeat (go_big_quiet_step (first | fail))); refine wpQuiet_nil ?_; intro g))
  refine bodyPost_ret (v := .agg #[.int .i64 ((neg a)).x, .int .i64 ((neg a)).y, .int .i64 ((neg a)).z]) (by simp [results, Try.results43, go_sem, neg]) rfl ?_
  exact RetB.of rfl (by repeat' (first | exact Below.refl _ _ | assumption | refine Below.xt ?_ ?_ _ | refine Below.alloc ?_ ?_ _ | refine Below.drew ?_ | refine Below.setCell ?_ ?_ _ | (simp; done) | (simp; omega)))
theorem inside3 (m x y z : Int) (b c : Nat) (w : World) (hm : 0 ≤ m) (hm' : m ≤ 4294967296) (h0 : w.cell? ⟨b, 0, none⟩ = some (.int .i64 x)) (h1 : w.cell? ⟨b, 1, none⟩ = some (.int .i64 y)) (h2 : w.cell? ⟨b, 2, none⟩ = some (.int .i64 z)) :
    Calls Try.prog 42 #[.int .i64 m, .slice (some ⟨b, 0, none⟩) 3 c] w (Ret (.bool (ins m x y z)) w) := by
  go_enter Try.func42, Try.ntmps42
  go_wp2
  go_rounds 4
  all_goals (go_ret; refine Ret.of (bool_eq ?_); simp [ins, within]; try omega)
set_option maxHeartbeats 400000 in
theorem point_any (v : V3) (w : World) : Calls Try.prog 29 #[.agg #[.int .i64 v.x, .int .i64 v.y, .int .i64 v.z]] w (RetB (.bool (pnt v)) w) := by
  go_enter Try.func29, Try.ntmps29
  go_wp2_with fail
  refine (inside3 _ v.x v.y v.z _ _ _ (by decide) (by decide) ?_ ?_ ?_).mono ?_
  · go_simp
  · go_simp
  · go_simp
  rintro e w' ⟨rfl, rfl⟩
  go_wp2
  go_ret
  exact RetB.of rfl (by go_grown)
set_option maxHeartbeats 400000 in
theorem ePoint_any (v : V3) (w : World) : Calls Try.prog 24 #[.agg #[.int .i64 v.x, .int .i64 v.y, .int .i64 v.z]] w (RetB (.bool (pnt v)) w) := by
  by_cases h1 : within v.x (-1048576) 1048576 = true
  · by_cases h2 : within v.y (-1048576) 1048576 = true
    · have e : pnt v = within v.z (-1048576) 1048576 := by simp [pnt, ins, h1, h2]
      rw [e]; clear e
      go_enter Try.func24, Try.ntmps24
      go_wp2_with (first
        | (go_at_call 41; refine (eTo_any _ _ _ _).mono ?_; rintro e' w' ⟨rfl, rfl⟩)
        | (refine wp_region_xt (by kernel_rfl) (by kernel_rfl) ?_; (repeat (go_big_quiet_step (first | (go_at_call 41; exact Ret.quiet (eTo_any _ _ _ _))))); refine wpQuiet_nil ?_; intro g))
      go_ret
      exact RetB.of rfl (by repeat' (first | exact Below.refl _ _ | assumption | refine Below.xt ?_ ?_ _ | refine Below.alloc ?_ ?_ _ | refine Below.drew ?_ | refine Below.setCell ?_ ?_ _ | (simp; done) | (simp; omega)))
    · have h2' : within v.y (-1048576) 1048576 = false := by simpa using h2
      have e : pnt v = false := by simp [pnt, ins, h1, h2']
      rw [e]; clear e h2
      go_enter Try.func24, Try.ntmps24
      go_wp2_with (first
        | (go_at_call 41; refine (eTo_any _ _ _ _).mono ?_; rintro e' w' ⟨rfl, rfl⟩)
        | (refine wp_region_xt (by kernel_rfl) (by kernel_rfl) ?_; (repeat (go_big_quiet_step (first | (go_at_call 41; exact Ret.quiet (eTo_any _ _ _ _))))); refine wpQuiet_nil ?_; intro g))
      go_ret
      exact RetB.of rfl (by repeat' (first | exact Below.refl _ _ | assumption | refine Below.xt ?_ ?_ _ | refine Below.alloc ?_ ?_ _ | refine Below.drew ?_ | refine Below.setCell ?_ ?_ _ | (simp; done) | (simp; omega)))
  · have h1' : within v.x (-1048576) 1048576 = false := by simpa using h1
    have e : pnt v = false := by simp [pnt, ins, h1']
    rw [e]; clear e h1
    go_enter Try.func24, Try.ntmps24
    go_wp2_with (first
      | (go_at_call 41; refine (eTo_any _ _ _ _).mono ?_; rintro e' w' ⟨rfl, rfl⟩)
      | (refine wp_region_xt (by kernel_rfl) (by kernel_rfl) ?_; (repeat (go_big_quiet_step (first | (go_at_call 41; exact Ret.quiet (eTo_any _ _ _ _))))); refine wpQuiet_nil ?_; intro g))
    go_ret
    exact RetB.of rfl (by repeat' (first | exact Below.refl _ _ | assumption | refine Below.xt ?_ ?_ _ | refine Below.alloc ?_ ?_ _ | refine Below.drew ?_ | refine Below.setCell ?_ ?_ _ | (simp; done) | (simp; omega)))

set_option maxHeartbeats 400000 in
theorem floor_any (a b : Int) (w : World) (hb : 1 ≤ b) (hb' : b ≤ 4611686018427387904) (ha : -4611686018427387904 ≤ a) (ha' : a ≤ 4611686018427387904) :
    Calls Try.prog 46 #[.int .i64 a, .int .i64 b] w (Ret (.int .i64 (a / b)) w) := by
  have h1 := (tmod_le (a := a) hb).1
  have h2 := (tmod_le (a := a) hb).2
  have h3 := tmod_rest (a := a) hb
  rw [Int.add_emod_right] at h3
  have h4 := floor_eq (a := a) hb
  have h5 := Int.emod_nonneg a (show b ≠ 0 by omega)
  have h6 := Int.emod_lt_of_pos a (show 0 < b by omega)
  obtain ⟨q1, q2⟩ := ediv_bd (a := a) (A := 4611686018427387904) hb (by decide) ha ha'
  rw [← h4] at q1 q2 ⊢
  rw [← h3] at q1 q2 h5 h6 ⊢
  clear h3 h4
  go_enter Try.func46, Try.ntmps46
  go_wp2
  go_ret
  exact Ret.of rfl

end Go.Proofs.Ytjeemlnhokihoaa

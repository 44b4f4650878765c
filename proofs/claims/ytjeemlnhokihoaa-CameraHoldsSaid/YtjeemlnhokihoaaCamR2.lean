/- Walks of cameras, by the reference: Turned, Look, Turn, Move. Conditions stand in each theorem. -/
import Derived.Test.YtjeemlnhokihoaaCamR1
import Derived.Test.YtjeemlnhokihoaaCamW7
namespace Go.Proofs.Ytjeemlnhokihoaa
open Go.RowKit
set_option linter.unusedVariables false
set_option linter.unusedSimpArgs false
attribute [local go_sem ↓] ld16

set_option maxHeartbeats 1600000 in
theorem refTurned_0 (c : Cam) (w : World) (hc : Good c) : Calls Try.prog 34 #[.agg #[.int .i64 c.e.x, .int .i64 c.e.y, .int .i64 c.e.z, .int .i64 c.r.x, .int .i64 c.r.y, .int .i64 c.r.z, .int .i64 c.u.x, .int .i64 c.u.y, .int .i64 c.u.z, .int .i64 c.f.x, .int .i64 c.f.y, .int .i64 c.f.z, .int .i64 c.fo, .int .i64 c.wi, .int .i64 c.he, .int .i64 c.ne], .int .i64 0] w (RetB (.agg #[.int .i64 ((c.q 0).e.x), .int .i64 ((c.q 0).e.y), .int .i64 ((c.q 0).e.z), .int .i64 ((c.q 0).r.x), .int .i64 ((c.q 0).r.y), .int .i64 ((c.q 0).r.z), .int .i64 ((c.q 0).u.x), .int .i64 ((c.q 0).u.y), .int .i64 ((c.q 0).u.z), .int .i64 ((c.q 0).f.x), .int .i64 ((c.q 0).f.y), .int .i64 ((c.q 0).f.z), .int .i64 ((c.q 0).fo), .int .i64 ((c.q 0).wi), .int .i64 ((c.q 0).he), .int .i64 ((c.q 0).ne)]) w) := by
  obtain ⟨⟨rx1, rx2⟩, ⟨ry1, ry2⟩, rz1, rz2⟩ := ax_iff.1 hc.r
  obtain ⟨⟨fx1, fx2⟩, ⟨fy1, fy2⟩, fz1, fz2⟩ := ax_iff.1 hc.f
  clear hc
  go_enter Try.func34, Try.ntmps34
  go_wp2_with fail
  go_rounds 1
  refine bodyPost_ret (v := .agg #[.int .i64 ((c.q 0).e.x), .int .i64 ((c.q 0).e.y), .int .i64 ((c.q 0).e.z), .int .i64 ((c.q 0).r.x), .int .i64 ((c.q 0).r.y), .int .i64 ((c.q 0).r.z), .int .i64 ((c.q 0).u.x), .int .i64 ((c.q 0).u.y), .int .i64 ((c.q 0).u.z), .int .i64 ((c.q 0).f.x), .int .i64 ((c.q 0).f.y), .int .i64 ((c.q 0).f.z), .int .i64 ((c.q 0).fo), .int .i64 ((c.q 0).wi), .int .i64 ((c.q 0).he), .int .i64 ((c.q 0).ne)]) (by simp [results, Try.results34, go_sem, Cam.q, neg]) rfl ?_
  exact RetB.of rfl (by repeat' (first | exact Below.refl _ _ | assumption | refine Below.xt ?_ ?_ _ | refine Below.alloc ?_ ?_ _ | refine Below.drew ?_ | refine Below.setCell ?_ ?_ _ | (simp; done) | (simp; omega)))
set_option maxHeartbeats 1600000 in
theorem refTurned_1 (c : Cam) (w : World) (hc : Good c) : Calls Try.prog 34 #[.agg #[.int .i64 c.e.x, .int .i64 c.e.y, .int .i64 c.e.z, .int .i64 c.r.x, .int .i64 c.r.y, .int .i64 c.r.z, .int .i64 c.u.x, .int .i64 c.u.y, .int .i64 c.u.z, .int .i64 c.f.x, .int .i64 c.f.y, .int .i64 c.f.z, .int .i64 c.fo, .int .i64 c.wi, .int .i64 c.he, .int .i64 c.ne], .int .i64 1] w (RetB (.agg #[.int .i64 ((c.q 1).e.x), .int .i64 ((c.q 1).e.y), .int .i64 ((c.q 1).e.z), .int .i64 ((c.q 1).r.x), .int .i64 ((c.q 1).r.y), .int .i64 ((c.q 1).r.z), .int .i64 ((c.q 1).u.x), .int .i64 ((c.q 1).u.y), .int .i64 ((c.q 1).u.z), .int .i64 ((c.q 1).f.x), .int .i64 ((c.q 1).f.y), .int .i64 ((c.q 1).f.z), .int .i64 ((c.q 1).fo), .int .i64 ((c.q 1).wi), .int .i64 ((c.q 1).he), .int .i64 ((c.q 1).ne)]) w) := by
  obtain ⟨⟨rx1, rx2⟩, ⟨ry1, ry2⟩, rz1, rz2⟩ := ax_iff.1 hc.r
  obtain ⟨⟨fx1, fx2⟩, ⟨fy1, fy2⟩, fz1, fz2⟩ := ax_iff.1 hc.f
  clear hc
  go_enter Try.func34, Try.ntmps34
  go_wp2_with fail
  go_rounds 2
  refine bodyPost_ret (v := .agg #[.int .i64 ((c.q 1).e.x), .int .i64 ((c.q 1).e.y), .int .i64 ((c.q 1).e.z), .int .i64 ((c.q 1).r.x), .int .i64 ((c.q 1).r.y), .int .i64 ((c.q 1).r.z), .int .i64 ((c.q 1).u.x), .int .i64 ((c.q 1).u.y), .int .i64 ((c.q 1).u.z), .int .i64 ((c.q 1).f.x), .int .i64 ((c.q 1).f.y), .int .i64 ((c.q 1).f.z), .int .i64 ((c.q 1).fo), .int .i64 ((c.q 1).wi), .int .i64 ((c.q 1).he), .int .i64 ((c.q 1).ne)]) (by simp [results, Try.results34, go_sem, Cam.q, neg]) rfl ?_
  exact RetB.of rfl (by repeat' (first | exact Below.refl _ _ | assumption | refine Below.xt ?_ ?_ _ | refine Below.alloc ?_ ?_ _ | refine Below.drew ?_ | refine Below.setCell ?_ ?_ _ | (simp; done) | (simp; omega)))
set_option maxHeartbeats 1600000 in
theorem refTurned_2 (c : Cam) (w : World) (hc : Good c) : Calls Try.prog 34 #[.agg #[.int .i64 c.e.x, .int .i64 c.e.y, .int .i64 c.e.z, .int .i64 c.r.x, .int .i64 c.r.y, .int .i64 c.r.z, .int .i64 c.u.x, .int .i64 c.u.y, .int .i64 c.u.z, .int .i64 c.f.x, .int .i64 c.f.y, .int .i64 c.f.z, .int .i64 c.fo, .int .i64 c.wi, .int .i64 c.he, .int .i64 c.ne], .int .i64 2] w (RetB (.agg #[.int .i64 ((c.q 2).e.x), .int .i64 ((c.q 2).e.y), .int .i64 ((c.q 2).e.z), .int .i64 ((c.q 2).r.x), .int .i64 ((c.q 2).r.y), .int .i64 ((c.q 2).r.z), .int .i64 ((c.q 2).u.x), .int .i64 ((c.q 2).u.y), .int .i64 ((c.q 2).u.z), .int .i64 ((c.q 2).f.x), .int .i64 ((c.q 2).f.y), .int .i64 ((c.q 2).f.z), .int .i64 ((c.q 2).fo), .int .i64 ((c.q 2).wi), .int .i64 ((c.q 2).he), .int .i64 ((c.q 2).ne)]) w) := by
  obtain ⟨⟨rx1, rx2⟩, ⟨ry1, ry2⟩, rz1, rz2⟩ := ax_iff.1 hc.r
  obtain ⟨⟨fx1, fx2⟩, ⟨fy1, fy2⟩, fz1, fz2⟩ := ax_iff.1 hc.f
  clear hc
  go_enter Try.func34, Try.ntmps34
  go_wp2_with fail
  go_rounds 3
  refine bodyPost_ret (v := .agg #[.int .i64 ((c.q 2).e.x), .int .i64 ((c.q 2).e.y), .int .i64 ((c.q 2).e.z), .int .i64 ((c.q 2).r.x), .int .i64 ((c.q 2).r.y), .int .i64 ((c.q 2).r.z), .int .i64 ((c.q 2).u.x), .int .i64 ((c.q 2).u.y), .int .i64 ((c.q 2).u.z), .int .i64 ((c.q 2).f.x), .int .i64 ((c.q 2).f.y), .int .i64 ((c.q 2).f.z), .int .i64 ((c.q 2).fo), .int .i64 ((c.q 2).wi), .int .i64 ((c.q 2).he), .int .i64 ((c.q 2).ne)]) (by simp [results, Try.results34, go_sem, Cam.q, neg]) rfl ?_
  exact RetB.of rfl (by repeat' (first | exact Below.refl _ _ | assumption | refine Below.xt ?_ ?_ _ | refine Below.alloc ?_ ?_ _ | refine Below.drew ?_ | refine Below.setCell ?_ ?_ _ | (simp; done) | (simp; omega)))
set_option maxHeartbeats 1600000 in
theorem refTurned_3 (c : Cam) (w : World) (hc : Good c) : Calls Try.prog 34 #[.agg #[.int .i64 c.e.x, .int .i64 c.e.y, .int .i64 c.e.z, .int .i64 c.r.x, .int .i64 c.r.y, .int .i64 c.r.z, .int .i64 c.u.x, .int .i64 c.u.y, .int .i64 c.u.z, .int .i64 c.f.x, .int .i64 c.f.y, .int .i64 c.f.z, .int .i64 c.fo, .int .i64 c.wi, .int .i64 c.he, .int .i64 c.ne], .int .i64 3] w (RetB (.agg #[.int .i64 ((c.q 3).e.x), .int .i64 ((c.q 3).e.y), .int .i64 ((c.q 3).e.z), .int .i64 ((c.q 3).r.x), .int .i64 ((c.q 3).r.y), .int .i64 ((c.q 3).r.z), .int .i64 ((c.q 3).u.x), .int .i64 ((c.q 3).u.y), .int .i64 ((c.q 3).u.z), .int .i64 ((c.q 3).f.x), .int .i64 ((c.q 3).f.y), .int .i64 ((c.q 3).f.z), .int .i64 ((c.q 3).fo), .int .i64 ((c.q 3).wi), .int .i64 ((c.q 3).he), .int .i64 ((c.q 3).ne)]) w) := by
  obtain ⟨⟨rx1, rx2⟩, ⟨ry1, ry2⟩, rz1, rz2⟩ := ax_iff.1 hc.r
  obtain ⟨⟨fx1, fx2⟩, ⟨fy1, fy2⟩, fz1, fz2⟩ := ax_iff.1 hc.f
  clear hc
  go_enter Try.func34, Try.ntmps34
  go_wp2_with fail
  go_rounds 4
  refine bodyPost_ret (v := .agg #[.int .i64 ((c.q 3).e.x), .int .i64 ((c.q 3).e.y), .int .i64 ((c.q 3).e.z), .int .i64 ((c.q 3).r.x), .int .i64 ((c.q 3).r.y), .int .i64 ((c.q 3).r.z), .int .i64 ((c.q 3).u.x), .int .i64 ((c.q 3).u.y), .int .i64 ((c.q 3).u.z), .int .i64 ((c.q 3).f.x), .int .i64 ((c.q 3).f.y), .int .i64 ((c.q 3).f.z), .int .i64 ((c.q 3).fo), .int .i64 ((c.q 3).wi), .int .i64 ((c.q 3).he), .int .i64 ((c.q 3).ne)]) (by simp [results, Try.results34, go_sem, Cam.q, neg]) rfl ?_
  exact RetB.of rfl (by repeat' (first | exact Below.refl _ _ | assumption | refine Below.xt ?_ ?_ _ | refine Below.alloc ?_ ?_ _ | refine Below.drew ?_ | refine Below.setCell ?_ ?_ _ | (simp; done) | (simp; omega)))
theorem refTurned_any (c : Cam) (q : Int) (w : World) (hc : Good c) (h0 : 0 ≤ q) (h3 : q ≤ 3) : Calls Try.prog 34 #[.agg #[.int .i64 c.e.x, .int .i64 c.e.y, .int .i64 c.e.z, .int .i64 c.r.x, .int .i64 c.r.y, .int .i64 c.r.z, .int .i64 c.u.x, .int .i64 c.u.y, .int .i64 c.u.z, .int .i64 c.f.x, .int .i64 c.f.y, .int .i64 c.f.z, .int .i64 c.fo, .int .i64 c.wi, .int .i64 c.he, .int .i64 c.ne], .int .i64 q] w (RetB (.agg #[.int .i64 ((c.turn q).e.x), .int .i64 ((c.turn q).e.y), .int .i64 ((c.turn q).e.z), .int .i64 ((c.turn q).r.x), .int .i64 ((c.turn q).r.y), .int .i64 ((c.turn q).r.z), .int .i64 ((c.turn q).u.x), .int .i64 ((c.turn q).u.y), .int .i64 ((c.turn q).u.z), .int .i64 ((c.turn q).f.x), .int .i64 ((c.turn q).f.y), .int .i64 ((c.turn q).f.z), .int .i64 ((c.turn q).fo), .int .i64 ((c.turn q).wi), .int .i64 ((c.turn q).he), .int .i64 ((c.turn q).ne)]) w) := by
  have h : q = 0 ∨ q = 1 ∨ q = 2 ∨ q = 3 := by omega
  rcases h with rfl | rfl | rfl | rfl
  · exact refTurned_0 c w hc
  · exact refTurned_1 c w hc
  · exact refTurned_2 c w hc
  · exact refTurned_3 c w hc

set_option maxHeartbeats 400000 in
theorem refTurn_bad (c : Cam) (q : Int) (w : World) (h : cval c = false) : Calls Try.prog 21 #[.agg #[.int .i64 c.e.x, .int .i64 c.e.y, .int .i64 c.e.z, .int .i64 c.r.x, .int .i64 c.r.y, .int .i64 c.r.z, .int .i64 c.u.x, .int .i64 c.u.y, .int .i64 c.u.z, .int .i64 c.f.x, .int .i64 c.f.y, .int .i64 c.f.z, .int .i64 c.fo, .int .i64 c.wi, .int .i64 c.he, .int .i64 c.ne], .int .i64 q] w (RetB (.tuple #[.agg #[.int .i64 0, .int .i64 0, .int .i64 0, .int .i64 0, .int .i64 0, .int .i64 0, .int .i64 0, .int .i64 0, .int .i64 0, .int .i64 0, .int .i64 0, .int .i64 0, .int .i64 0, .int .i64 0, .int .i64 0, .int .i64 0], .int .i64 2]) w) := by
  go_enter Try.func21, Try.ntmps21
  go_wp2_with (first
    | (go_at_call 11; refine (RetB.grown (refvalid_any c _)).mono ?_; rintro e' w' ⟨rfl, g, rfl⟩)
    | (refine wp_region_xt (by kernel_rfl) (by kernel_rfl) ?_; (repeat (go_big_quiet_step (first | (go_at_call 11; exact RetB.quiet (refvalid_any c _))))); refine wpQuiet_nil ?_; intro g))
  refine bodyPost_ret (v := .tuple #[.agg #[.int .i64 0, .int .i64 0, .int .i64 0, .int .i64 0, .int .i64 0, .int .i64 0, .int .i64 0, .int .i64 0, .int .i64 0, .int .i64 0, .int .i64 0, .int .i64 0, .int .i64 0, .int .i64 0, .int .i64 0, .int .i64 0], .int .i64 2]) (by simp [results, Try.results21, go_sem]) rfl ?_
  exact RetB.of rfl (by repeat' (first | exact Below.refl _ _ | assumption | refine Below.xt ?_ ?_ _ | refine Below.alloc ?_ ?_ _ | refine Below.drew ?_ | refine Below.setCell ?_ ?_ _ | (simp; done) | (simp; omega)))
theorem tmod4 (q : Int) : (if q.tmod 4 < 0 then q.tmod 4 + 4 else q.tmod 4) = q % 4 := by
  have h1 := Int.mul_tdiv_add_tmod q 4
  have h2 := (tmod_le (a := q) (b := 4) (by decide)).1
  have h3 := (tmod_le (a := q) (b := 4) (by decide)).2
  split <;> omega
set_option maxHeartbeats 800000 in
theorem refTurn_ok (c : Cam) (q : Int) (w : World) (h : cval c = true) : Calls Try.prog 21 #[.agg #[.int .i64 c.e.x, .int .i64 c.e.y, .int .i64 c.e.z, .int .i64 c.r.x, .int .i64 c.r.y, .int .i64 c.r.z, .int .i64 c.u.x, .int .i64 c.u.y, .int .i64 c.u.z, .int .i64 c.f.x, .int .i64 c.f.y, .int .i64 c.f.z, .int .i64 c.fo, .int .i64 c.wi, .int .i64 c.he, .int .i64 c.ne], .int .i64 q] w (RetB (.tuple #[.agg #[.int .i64 ((c.turn q).e.x), .int .i64 ((c.turn q).e.y), .int .i64 ((c.turn q).e.z), .int .i64 ((c.turn q).r.x), .int .i64 ((c.turn q).r.y), .int .i64 ((c.turn q).r.z), .int .i64 ((c.turn q).u.x), .int .i64 ((c.turn q).u.y), .int .i64 ((c.turn q).u.z), .int .i64 ((c.turn q).f.x), .int .i64 ((c.turn q).f.y), .int .i64 ((c.turn q).f.z), .int .i64 ((c.turn q).fo), .int .i64 ((c.turn q).wi), .int .i64 ((c.turn q).he), .int .i64 ((c.turn q).ne)], .int .i64 0]) w) := by
  have e := tmod4 q
  have h2 := (tmod_le (a := q) (b := 4) (by decide)).1
  have h3 := (tmod_le (a := q) (b := 4) (by decide)).2
  have T := fun w => refTurned_any c (q % 4) w (good_of h) (by omega) (by omega)
  have et : c.turn (q % 4) = c.turn q := by unfold Cam.turn; rw [Int.emod_emod_of_dvd q (by decide : (4 : Int) ∣ 4)]
  rw [et] at T
  by_cases hq : q.tmod 4 < 0
  · rw [if_pos hq] at e
    rw [← e] at T
    have T' := fun w => Lib.hid (T w)
    clear T e et
    generalize c.turn q = d at *
    go_enter Try.func21, Try.ntmps21
    go_wp2_with (first
      | (go_at_call 11; refine (RetB.grown (refvalid_any c _)).mono ?_; rintro e' w' ⟨rfl, g, rfl⟩)
      | (go_at_call 34; refine (RetB.grown ((T' _).out)).mono ?_; rintro e' w' ⟨rfl, g, rfl⟩)
      | (refine wp_region_xt (by kernel_rfl) (by kernel_rfl) ?_; (repeat (go_big_quiet_step (first | (go_at_call 11; exact RetB.quiet (refvalid_any c _)) | (go_at_call 34; exact RetB.quiet ((T' _).out))))); refine wpQuiet_nil ?_; intro g))
    refine bodyPost_ret (v := .tuple #[.agg #[.int .i64 d.e.x, .int .i64 d.e.y, .int .i64 d.e.z, .int .i64 d.r.x, .int .i64 d.r.y, .int .i64 d.r.z, .int .i64 d.u.x, .int .i64 d.u.y, .int .i64 d.u.z, .int .i64 d.f.x, .int .i64 d.f.y, .int .i64 d.f.z, .int .i64 d.fo, .int .i64 d.wi, .int .i64 d.he, .int .i64 d.ne], .int .i64 0]) (by simp [results, Try.results21, go_sem]) rfl ?_
    exact RetB.of rfl (by repeat' (first | exact Below.refl _ _ | assumption | refine Below.xt ?_ ?_ _ | refine Below.alloc ?_ ?_ _ | refine Below.drew ?_ | refine Below.setCell ?_ ?_ _ | (simp; done) | (simp; omega)))
  · rw [if_neg hq] at e
    rw [← e] at T
    have T' := fun w => Lib.hid (T w)
    clear T e et
    generalize c.turn q = d at *
    go_enter Try.func21, Try.ntmps21
    go_wp2_with (first
      | (go_at_call 11; refine (RetB.grown (refvalid_any c _)).mono ?_; rintro e' w' ⟨rfl, g, rfl⟩)
      | (go_at_call 34; refine (RetB.grown ((T' _).out)).mono ?_; rintro e' w' ⟨rfl, g, rfl⟩)
      | (refine wp_region_xt (by kernel_rfl) (by kernel_rfl) ?_; (repeat (go_big_quiet_step (first | (go_at_call 11; exact RetB.quiet (refvalid_any c _)) | (go_at_call 34; exact RetB.quiet ((T' _).out))))); refine wpQuiet_nil ?_; intro g))
    refine bodyPost_ret (v := .tuple #[.agg #[.int .i64 d.e.x, .int .i64 d.e.y, .int .i64 d.e.z, .int .i64 d.r.x, .int .i64 d.r.y, .int .i64 d.r.z, .int .i64 d.u.x, .int .i64 d.u.y, .int .i64 d.u.z, .int .i64 d.f.x, .int .i64 d.f.y, .int .i64 d.f.z, .int .i64 d.fo, .int .i64 d.wi, .int .i64 d.he, .int .i64 d.ne], .int .i64 0]) (by simp [results, Try.results21, go_sem]) rfl ?_
    exact RetB.of rfl (by repeat' (first | exact Below.refl _ _ | assumption | refine Below.xt ?_ ?_ _ | refine Below.alloc ?_ ?_ _ | refine Below.drew ?_ | refine Below.setCell ?_ ?_ _ | (simp; done) | (simp; omega)))

set_option maxHeartbeats 400000 in
theorem refLook_far (e : V3) (q fo wi he ne : Int) (w : World) (h : within q 0 3 = false) : Calls Try.prog 14 #[.agg #[.int .i64 e.x, .int .i64 e.y, .int .i64 e.z], .int .i64 q, .int .i64 fo, .int .i64 wi, .int .i64 he, .int .i64 ne] w (RetB (.tuple #[.agg #[.int .i64 0, .int .i64 0, .int .i64 0, .int .i64 0, .int .i64 0, .int .i64 0, .int .i64 0, .int .i64 0, .int .i64 0, .int .i64 0, .int .i64 0, .int .i64 0, .int .i64 0, .int .i64 0, .int .i64 0, .int .i64 0], .int .i64 2]) w) := by
  go_enter Try.func14, Try.ntmps14
  go_wp2_with (first
    | (go_at_call 31; refine (refTo_any _ _ _ _).mono ?_; rintro e' w' ⟨rfl, rfl⟩)
    | (refine wp_region_xt (by kernel_rfl) (by kernel_rfl) ?_; (repeat (go_big_quiet_step (first | (go_at_call 31; exact Ret.quiet (refTo_any _ _ _ _))))); refine wpQuiet_nil ?_; intro g))
  refine bodyPost_ret (v := .tuple #[.agg #[.int .i64 0, .int .i64 0, .int .i64 0, .int .i64 0, .int .i64 0, .int .i64 0, .int .i64 0, .int .i64 0, .int .i64 0, .int .i64 0, .int .i64 0, .int .i64 0, .int .i64 0, .int .i64 0, .int .i64 0, .int .i64 0], .int .i64 2]) (by simp [results, Try.results14, go_sem]) rfl ?_
  exact RetB.of rfl (by repeat' (first | exact Below.refl _ _ | assumption | refine Below.xt ?_ ?_ _ | refine Below.alloc ?_ ?_ _ | refine Below.drew ?_ | refine Below.setCell ?_ ?_ _ | (simp; done) | (simp; omega)))
set_option maxHeartbeats 400000 in
theorem refLook_bad (e : V3) (q fo wi he ne : Int) (w : World) (h : within q 0 3 = true) (h2 : cval (look e fo wi he ne) = false) : Calls Try.prog 14 #[.agg #[.int .i64 e.x, .int .i64 e.y, .int .i64 e.z], .int .i64 q, .int .i64 fo, .int .i64 wi, .int .i64 he, .int .i64 ne] w (RetB (.tuple #[.agg #[.int .i64 0, .int .i64 0, .int .i64 0, .int .i64 0, .int .i64 0, .int .i64 0, .int .i64 0, .int .i64 0, .int .i64 0, .int .i64 0, .int .i64 0, .int .i64 0, .int .i64 0, .int .i64 0, .int .i64 0, .int .i64 0], .int .i64 2]) w) := by
  have V := fun w => refvalid_any (look e fo wi he ne) w
  rw [h2] at V
  have V' := fun w => Lib.hid (show Calls Try.prog 11 #[.agg #[.int .i64 e.x, .int .i64 e.y, .int .i64 e.z, .int .i64 1, .int .i64 0, .int .i64 0, .int .i64 0, .int .i64 0, .int .i64 1, .int .i64 0, .int .i64 1, .int .i64 0, .int .i64 fo, .int .i64 wi, .int .i64 he, .int .i64 ne]] w (RetB (.bool false) w) from V w)
  clear V h2
  go_enter Try.func14, Try.ntmps14
  go_wp2_with (first
    | (go_at_call 31; refine (refTo_any _ _ _ _).mono ?_; rintro e' w' ⟨rfl, rfl⟩)
    | (go_at_call 11; refine (RetB.grown ((V' _).out)).mono ?_; rintro e' w' ⟨rfl, g, rfl⟩)
    | (refine wp_region_xt (by kernel_rfl) (by kernel_rfl) ?_; (repeat (go_big_quiet_step (first | (go_at_call 31; exact Ret.quiet (refTo_any _ _ _ _)) | (go_at_call 11; exact RetB.quiet ((V' _).out))))); refine wpQuiet_nil ?_; intro g))
  refine bodyPost_ret (v := .tuple #[.agg #[.int .i64 0, .int .i64 0, .int .i64 0, .int .i64 0, .int .i64 0, .int .i64 0, .int .i64 0, .int .i64 0, .int .i64 0, .int .i64 0, .int .i64 0, .int .i64 0, .int .i64 0, .int .i64 0, .int .i64 0, .int .i64 0], .int .i64 2]) (by simp [results, Try.results14, go_sem]) rfl ?_
  exact RetB.of rfl (by repeat' (first | exact Below.refl _ _ | assumption | refine Below.xt ?_ ?_ _ | refine Below.alloc ?_ ?_ _ | refine Below.drew ?_ | refine Below.setCell ?_ ?_ _ | (simp; done) | (simp; omega)))
set_option maxHeartbeats 400000 in
theorem refLook_ok (e : V3) (q fo wi he ne : Int) (d : Cam) (w : World) (h : within q 0 3 = true) (h2 : cval (look e fo wi he ne) = true) (hd : (look e fo wi he ne).turn q = d) : Calls Try.prog 14 #[.agg #[.int .i64 e.x, .int .i64 e.y, .int .i64 e.z], .int .i64 q, .int .i64 fo, .int .i64 wi, .int .i64 he, .int .i64 ne] w (RetB (.tuple #[.agg #[.int .i64 d.e.x, .int .i64 d.e.y, .int .i64 d.e.z, .int .i64 d.r.x, .int .i64 d.r.y, .int .i64 d.r.z, .int .i64 d.u.x, .int .i64 d.u.y, .int .i64 d.u.z, .int .i64 d.f.x, .int .i64 d.f.y, .int .i64 d.f.z, .int .i64 d.fo, .int .i64 d.wi, .int .i64 d.he, .int .i64 d.ne], .int .i64 0]) w) := by
  have V := fun w => refvalid_any (look e fo wi he ne) w
  rw [h2] at V
  have V' := fun w => Lib.hid (show Calls Try.prog 11 #[.agg #[.int .i64 e.x, .int .i64 e.y, .int .i64 e.z, .int .i64 1, .int .i64 0, .int .i64 0, .int .i64 0, .int .i64 0, .int .i64 1, .int .i64 0, .int .i64 1, .int .i64 0, .int .i64 fo, .int .i64 wi, .int .i64 he, .int .i64 ne]] w (RetB (.bool true) w) from V w)
  have hq := within_iff.1 h
  have T := fun w => refTurned_any (look e fo wi he ne) q w (good_of h2) hq.1 hq.2
  rw [hd] at T
  have T' := fun w => Lib.hid (show Calls Try.prog 34 #[.agg #[.int .i64 e.x, .int .i64 e.y, .int .i64 e.z, .int .i64 1, .int .i64 0, .int .i64 0, .int .i64 0, .int .i64 0, .int .i64 1, .int .i64 0, .int .i64 1, .int .i64 0, .int .i64 fo, .int .i64 wi, .int .i64 he, .int .i64 ne], .int .i64 q] w (RetB (.agg #[.int .i64 d.e.x, .int .i64 d.e.y, .int .i64 d.e.z, .int .i64 d.r.x, .int .i64 d.r.y, .int .i64 d.r.z, .int .i64 d.u.x, .int .i64 d.u.y, .int .i64 d.u.z, .int .i64 d.f.x, .int .i64 d.f.y, .int .i64 d.f.z, .int .i64 d.fo, .int .i64 d.wi, .int .i64 d.he, .int .i64 d.ne]) w) from T w)
  clear V T h2 hd hq
  go_enter Try.func14, Try.ntmps14
  go_wp2_with (first
    | (go_at_call 31; refine (refTo_any _ _ _ _).mono ?_; rintro e' w' ⟨rfl, rfl⟩)
    | (go_at_call 11; refine (RetB.grown ((V' _).out)).mono ?_; rintro e' w' ⟨rfl, g, rfl⟩)
    | (go_at_call 34; refine (RetB.grown ((T' _).out)).mono ?_; rintro e' w' ⟨rfl, g, rfl⟩)
    | (refine wp_region_xt (by kernel_rfl) (by kernel_rfl) ?_; (repeat (go_big_quiet_step (first | (go_at_call 31; exact Ret.quiet (refTo_any _ _ _ _)) | (go_at_call 11; exact RetB.quiet ((V' _).out)) | (go_at_call 34; exact RetB.quiet ((T' _).out))))); refine wpQuiet_nil ?_; intro g))
  refine bodyPost_ret (v := .tuple #[.agg #[.int .i64 d.e.x, .int .i64 d.e.y, .int .i64 d.e.z, .int .i64 d.r.x, .int .i64 d.r.y, .int .i64 d.r.z, .int .i64 d.u.x, .int .i64 d.u.y, .int .i64 d.u.z, .int .i64 d.f.x, .int .i64 d.f.y, .int .i64 d.f.z, .int .i64 d.fo, .int .i64 d.wi, .int .i64 d.he, .int .i64 d.ne], .int .i64 0]) (by simp [results, Try.results14, go_sem]) rfl ?_
  exact RetB.of rfl (by repeat' (first | exact Below.refl _ _ | assumption | refine Below.xt ?_ ?_ _ | refine Below.alloc ?_ ?_ _ | refine Below.drew ?_ | refine Below.setCell ?_ ?_ _ | (simp; done) | (simp; omega)))

end Go.Proofs.Ytjeemlnhokihoaa

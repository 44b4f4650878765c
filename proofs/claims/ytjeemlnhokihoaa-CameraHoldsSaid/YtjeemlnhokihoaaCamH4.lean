/- Walks for CameraHolds: the ways out at the start, what is straight ahead, the turns. Conditions stand in each theorem. -/
import Derived.Test.YtjeemlnhokihoaaCamH3
import Derived.Test.YtjeemlnhokihoaaCamK
import Derived.Test.YtjeemlnhokihoaaCamR2
import Derived.Test.YtjeemlnhokihoaaVecO
namespace Go.Proofs.Ytjeemlnhokihoaa
open Go.RowKit
set_option linter.unusedVariables false
set_option linter.unusedSimpArgs false
attribute [local go_sem ↓] ld16

theorem ax_neg {v : V3} (h : ax v = true) : ax (neg v) = true := by
  rw [ax_iff] at h ⊢; simp only [neg]; omega
theorem dt_neg_l (a b : V3) : dt (neg a) b = - dt a b := by unfold dt neg; grind
theorem dt_neg_r (a b : V3) : dt a (neg b) = - dt a b := by unfold dt neg; grind
theorem good_q {c : Cam} (h : Good c) (k : Nat) : Good (c.q k) := by
  have := h.rf
  have := dt_comm c.f c.r
  have := dt_comm c.f c.u
  have := h.ru
  have := h.uf
  have := h.ff
  have := h.uu
  have := h.rr
  have := dt_comm c.u c.r
  unfold Cam.q
  split
  · exact ⟨h.e, ax_neg h.f, h.u, h.r, by simp only [dt_neg_l, dt_neg_r]; omega, by simp only [dt_neg_l, dt_neg_r]; omega, by simp only [dt_neg_l, dt_neg_r]; omega, by simp only [dt_neg_l, dt_neg_r]; omega, by simp only [dt_neg_l, dt_neg_r]; omega, by simp only []; omega, h.fo, h.wi, h.he, h.ne⟩
  · split
    · exact ⟨h.e, ax_neg h.r, h.u, ax_neg h.f, by simp only [dt_neg_l, dt_neg_r]; omega, by simp only [dt_neg_l, dt_neg_r]; omega, by simp only [dt_neg_l, dt_neg_r]; omega, by simp only [dt_neg_l, dt_neg_r]; omega, by simp only [dt_neg_l, dt_neg_r]; omega, by simp only [dt_neg_l, dt_neg_r]; omega, h.fo, h.wi, h.he, h.ne⟩
    · split
      · exact ⟨h.e, h.f, h.u, ax_neg h.r, by simp only []; omega, by simp only [dt_neg_l, dt_neg_r]; omega, by simp only []; omega, by simp only []; omega, by simp only [dt_neg_l, dt_neg_r]; omega, by simp only [dt_neg_l, dt_neg_r]; omega, h.fo, h.wi, h.he, h.ne⟩
      · exact h
theorem good_turn {c : Cam} (h : Good c) (q : Int) : Good (c.turn q) := good_q h _

/-- The camera and the vector lie in the first two blocks. -/
structure HC (w : World) (c : Cam) (d : V3) (W : World) : Prop where
  below : Below w.heap.size w W
  c : blk W w.heap.size = some (.cells #[.int .i64 c.e.x, .int .i64 c.e.y, .int .i64 c.e.z, .int .i64 c.r.x, .int .i64 c.r.y, .int .i64 c.r.z, .int .i64 c.u.x, .int .i64 c.u.y, .int .i64 c.u.z, .int .i64 c.f.x, .int .i64 c.f.y, .int .i64 c.f.z, .int .i64 c.fo, .int .i64 c.wi, .int .i64 c.he, .int .i64 c.ne] 25 (0, 0))
  d : blk W (w.heap.size + 1) = some (.cells #[.int .i64 d.x, .int .i64 d.y, .int .i64 d.z] 23 (0, 0))
theorem blk_old {w : World} {m : Nat} {o : Obj} (h : blk w m = some o) : old m w := by
  rcases Nat.lt_or_ge m w.heap.size with hlt | hge
  · exact hlt
  · unfold blk at h; rw [Array.getElem?_eq_none hge] at h; cases h
theorem blk_cell {w : World} {m j : Nat} {cs : Array Value} {T : TypeId} {v : Value} (h : blk w m = some (.cells cs T (0, 0))) (hj : cs[j]? = some v) : w.cell? ⟨m, j, none⟩ = some v := by
  unfold blk at h
  simpa [World.cell?, h] using hj
theorem blk_free {w : World} {m j : Nat} {cs : Array Value} {T : TypeId} (h : blk w m = some (.cells cs T (0, 0))) : w.frozen? ⟨m, j, none⟩ = false := by
  unfold blk at h
  simp [World.frozen?, h]

set_option maxRecDepth 100000 in
set_option maxHeartbeats 1600000 in
theorem CH_many (c : Cam) (A : Option Addr) (n cap : Nat) (ra hd q : Int) (d : V3) (w : World) (hn : 20 < n) : Calls Try.prog 9 #[.agg #[.int .i64 c.e.x, .int .i64 c.e.y, .int .i64 c.e.z, .int .i64 c.r.x, .int .i64 c.r.y, .int .i64 c.r.z, .int .i64 c.u.x, .int .i64 c.u.y, .int .i64 c.u.z, .int .i64 c.f.x, .int .i64 c.f.y, .int .i64 c.f.z, .int .i64 c.fo, .int .i64 c.wi, .int .i64 c.he, .int .i64 c.ne], .slice A n cap, .int .i64 ra, .agg #[.int .i64 d.x, .int .i64 d.y, .int .i64 d.z], .int .i64 hd, .int .i64 q] w (RetB (.bool true) w) := by
  have d1 : decide ((20 : Int) < (n : Int)) = true := by simp; omega
  clear hn
  go_enter Try.func9, Try.ntmps9
  go_wp2_with (first
    | (go_at_call 12; refine (RetB.grown (known_any _)).mono ?_; rintro e' w' ⟨rfl, g, rfl⟩)
    | (refine wp_region_xt (by kernel_rfl) (by kernel_rfl) ?_; (repeat (go_big_quiet_step (first | (go_at_call 12; exact RetB.quiet (known_any _))))); refine wpQuiet_nil ?_; intro g))
  go_ret
  exact RetB.of rfl (by repeat' (first | exact Below.refl _ _ | assumption | refine Below.xt ?_ ?_ _ | refine Below.alloc ?_ ?_ _ | refine Below.drew ?_ | refine Below.setCell ?_ ?_ _ | (simp; done) | (simp; omega)))
set_option maxRecDepth 100000 in
set_option maxHeartbeats 1600000 in
theorem CH_bad (c : Cam) (A : Option Addr) (n cap : Nat) (ra hd q : Int) (d : V3) (w : World) (hn : n ≤ 20) (hc : cval c = false) : Calls Try.prog 9 #[.agg #[.int .i64 c.e.x, .int .i64 c.e.y, .int .i64 c.e.z, .int .i64 c.r.x, .int .i64 c.r.y, .int .i64 c.r.z, .int .i64 c.u.x, .int .i64 c.u.y, .int .i64 c.u.z, .int .i64 c.f.x, .int .i64 c.f.y, .int .i64 c.f.z, .int .i64 c.fo, .int .i64 c.wi, .int .i64 c.he, .int .i64 c.ne], .slice A n cap, .int .i64 ra, .agg #[.int .i64 d.x, .int .i64 d.y, .int .i64 d.z], .int .i64 hd, .int .i64 q] w (RetB (.bool true) w) := by
  have d1 : decide ((20 : Int) < (n : Int)) = false := by simp; omega
  have C := fun w => Lib.hid (refvalid_any c w)
  rw [hc] at C
  clear hn hc
  go_enter Try.func9, Try.ntmps9
  go_wp2_with (first
    | (go_at_call 11; refine (RetB.grown ((C _).out)).mono ?_; rintro e' w' ⟨rfl, g, rfl⟩)
    | (go_at_call 12; refine (RetB.grown (known_any _)).mono ?_; rintro e' w' ⟨rfl, g, rfl⟩)
    | (refine wp_region_xt (by kernel_rfl) (by kernel_rfl) ?_; (repeat (go_big_quiet_step (first | (go_at_call 11; exact RetB.quiet ((C _).out)) | (go_at_call 12; exact RetB.quiet (known_any _))))); refine wpQuiet_nil ?_; intro g))
  go_ret
  exact RetB.of rfl (by repeat' (first | exact Below.refl _ _ | assumption | refine Below.xt ?_ ?_ _ | refine Below.alloc ?_ ?_ _ | refine Below.drew ?_ | refine Below.setCell ?_ ?_ _ | (simp; done) | (simp; omega)))
set_option maxRecDepth 100000 in
set_option maxHeartbeats 1600000 in
theorem CH_by (c : Cam) (A : Option Addr) (n cap : Nat) (ra hd q : Int) (d : V3) (w : World) (hn : n ≤ 20) (hc : cval c = true) (hd' : pnt d = false) : Calls Try.prog 9 #[.agg #[.int .i64 c.e.x, .int .i64 c.e.y, .int .i64 c.e.z, .int .i64 c.r.x, .int .i64 c.r.y, .int .i64 c.r.z, .int .i64 c.u.x, .int .i64 c.u.y, .int .i64 c.u.z, .int .i64 c.f.x, .int .i64 c.f.y, .int .i64 c.f.z, .int .i64 c.fo, .int .i64 c.wi, .int .i64 c.he, .int .i64 c.ne], .slice A n cap, .int .i64 ra, .agg #[.int .i64 d.x, .int .i64 d.y, .int .i64 d.z], .int .i64 hd, .int .i64 q] w (RetB (.bool true) w) := by
  have d1 : decide ((20 : Int) < (n : Int)) = false := by simp; omega
  have C := fun w => Lib.hid (refvalid_any c w)
  rw [hc] at C
  have P := fun w => Lib.hid (ePoint_any d w)
  rw [hd'] at P
  clear hn hc hd'
  go_enter Try.func9, Try.ntmps9
  go_wp2_with (first
    | (go_at_call 11; refine (RetB.grown ((C _).out)).mono ?_; rintro e' w' ⟨rfl, g, rfl⟩)
    | (go_at_call 24; refine (RetB.grown ((P _).out)).mono ?_; rintro e' w' ⟨rfl, g, rfl⟩)
    | (go_at_call 12; refine (RetB.grown (known_any _)).mono ?_; rintro e' w' ⟨rfl, g, rfl⟩)
    | (refine wp_region_xt (by kernel_rfl) (by kernel_rfl) ?_; (repeat (go_big_quiet_step (first | (go_at_call 11; exact RetB.quiet ((C _).out)) | (go_at_call 24; exact RetB.quiet ((P _).out)) | (go_at_call 12; exact RetB.quiet (known_any _))))); refine wpQuiet_nil ?_; intro g))
  go_ret
  exact RetB.of rfl (by repeat' (first | exact Below.refl _ _ | assumption | refine Below.xt ?_ ?_ _ | refine Below.alloc ?_ ?_ _ | refine Below.drew ?_ | refine Below.setCell ?_ ?_ _ | (simp; done) | (simp; omega)))
end Go.Proofs.Ytjeemlnhokihoaa

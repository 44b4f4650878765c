/- The walk of the theorem of stage 29 (part): chase0. Conditions stand in each theorem. -/
import Derived.Test.YtjnajibflalmbaaEffHW0
import Derived.Test.YtjnajibflalmbaaEffH
namespace Go.Proofs.Ytjnajibflalmbaa
open Go.RowKit
set_option linter.unusedVariables false
attribute [local go_sem ↓] ld16

set_option maxRecDepth 100000 in
set_option maxHeartbeats 3200000 in
theorem chase0_far_y (e : Eff) (index : Int) (p : V3) (time periods : Int) (q : V3) (w : World) (ha : e.a.ok) (hb : e.b.ok) (oi : I64 index) (hv : effValid e = true) (hp : point p = true) (hi : 0 ≤ index) (h1 : e.fr ≤ time) (h2 : time < e.to) (hk : e.kind = 2) (hw0 : e.width = 0) (n0 : 0 ≤ periods) (n1 : periods ≤ (e.to - 1 - time) / e.period) (hq : point q = false) :
    Calls Try.prog 7 #[.agg #[.int .i64 e.kind, .int .i64 e.fr, .int .i64 e.to, .int .i64 e.period, .int .i64 e.width, .int .i64 e.along.x, .int .i64 e.along.y, .int .i64 e.along.z, .int .i64 e.scale, .int .i64 e.seed, .int .u8 e.a.r, .int .u8 e.a.g, .int .u8 e.a.b, .int .u8 e.b.r, .int .u8 e.b.g, .int .u8 e.b.b], .int .i64 index, .agg #[.int .i64 p.x, .int .i64 p.y, .int .i64 p.z], .int .i64 time, .int .i64 periods, .agg #[.int .i64 q.x, .int .i64 q.y, .int .i64 q.z]] w (RetB (.bool true) w) := by
  have hK : colourAt e index p time = e.a := colour_none hv (by omega) hw0 index p time
  obtain ⟨s1, s2, s3, s4, s5⟩ := span_le hv
  obtain ⟨f1, f2⟩ := phase_le (p := p) hv
  have hne : e.kind ≠ 3 := by omega
  have c1 : ∀ w, Calls Try.prog 14 #[.agg #[.int .i64 e.kind, .int .i64 e.fr, .int .i64 e.to, .int .i64 e.period, .int .i64 e.width, .int .i64 e.along.x, .int .i64 e.along.y, .int .i64 e.along.z, .int .i64 e.scale, .int .i64 e.seed, .int .u8 e.a.r, .int .u8 e.a.g, .int .u8 e.a.b, .int .u8 e.b.r, .int .u8 e.b.g, .int .u8 e.b.b], .int .i64 index, .agg #[.int .i64 p.x, .int .i64 p.y, .int .i64 p.z], .int .i64 time] w (RetB (.tuple #[.agg #[.int .u8 e.a.r, .int .u8 e.a.g, .int .u8 e.a.b], .int .i64 0]) w) := fun w => by
    have c := At_fine e index p time w ha hb oi hv hi hp h1 h2
    rw [hK] at c
    exact c
  have C1 := fun w => Lib.hid (c1 w)
  have C4 := fun w => Lib.hid (Phase_fine e p w hv hp)
  have n2 : 0 ≤ periods * e.period := Int.mul_nonneg n0 (by omega)
  have n3 : periods * e.period ≤ e.to - 1 - time := Int.le_trans (Int.mul_le_mul_of_nonneg_right n1 (by omega)) (Int.ediv_mul_le _ (by omega))
  have hL : colourAt e index p (time + periods * e.period) = e.a := (colour_later hne index p time periods).trans hK
  have c2 : ∀ w, Calls Try.prog 14 #[.agg #[.int .i64 e.kind, .int .i64 e.fr, .int .i64 e.to, .int .i64 e.period, .int .i64 e.width, .int .i64 e.along.x, .int .i64 e.along.y, .int .i64 e.along.z, .int .i64 e.scale, .int .i64 e.seed, .int .u8 e.a.r, .int .u8 e.a.g, .int .u8 e.a.b, .int .u8 e.b.r, .int .u8 e.b.g, .int .u8 e.b.b], .int .i64 index, .agg #[.int .i64 p.x, .int .i64 p.y, .int .i64 p.z], .int .i64 (time + periods * e.period)] w (RetB (.tuple #[.agg #[.int .u8 e.a.r, .int .u8 e.a.g, .int .u8 e.a.b], .int .i64 0]) w) := fun w => by
    have c := At_fine e index p (time + periods * e.period) w ha hb oi hv hi hp (by omega) (by omega)
    rw [hL] at c
    exact c
  have C2 := fun w => Lib.hid (c2 w)
  have k3 : (e.kind == 3) = false := by simp [hk]
  have k1 : (e.kind == 1) = false := by simp [hk]
  have b0 : (e.width != 0) = false := by rw [bne_eq_false_iff_eq]; omega
  have b1 : (e.width != e.period) = true := by rw [bne_iff_ne]; omega
  clear hK c1 hk hne ha hb hL c2 hw0
  go_enter Try.func7, Try.ntmps7
  go_wp2_with (first
    | (go_at_call 10; refine (RetB.grown (refValid_any e _)).mono ?_; rintro e' w' ⟨rfl, g, rfl⟩)
    | (go_at_call 18; (with_reducible refine (RetB.grown (refPoint_any p _)).mono ?_); rintro e' w' ⟨rfl, g, rfl⟩)
    | (go_at_call 14; (with_reducible refine (RetB.grown ((C1 _).out)).mono ?_); rintro e' w' ⟨rfl, g, rfl⟩)
    | (go_at_call 14; (with_reducible refine (RetB.grown ((C2 _).out)).mono ?_); rintro e' w' ⟨rfl, g, rfl⟩)
    | (refine wp_region_xt (by kernel_rfl) (by kernel_rfl) ?_; (repeat (go_big_quiet_step (first | (go_at_call 10; exact RetB.quiet (refValid_any e _)) | (go_at_call 18; (with_reducible exact RetB.quiet (refPoint_any p _))) | (go_at_call 14; (with_reducible exact RetB.quiet ((C1 _).out))) | (go_at_call 14; (with_reducible exact RetB.quiet ((C2 _).out)))))); refine wpQuiet_nil ?_; intro g))
  all_goals (refine (RetB.grown (refPoint_any q _)).mono ?_; rintro e' w' ⟨rfl, g, rfl⟩)
  all_goals go_wp2_with fail
  all_goals (refine (RetB.grown ((C4 _).out)).mono ?_; rintro e' w' ⟨rfl, g, rfl⟩)
  all_goals go_wp2_with fail
  all_goals (refine (RetB.grown (known_any _)).mono ?_; rintro e' w' ⟨rfl, g, rfl⟩)
  all_goals go_wp2_with fail
  all_goals go_ret
  all_goals exact RetB.of rfl (by repeat' (first | exact Below.refl _ _ | assumption | refine Below.xt ?_ ?_ _ | refine Below.alloc ?_ ?_ _ | refine Below.drew ?_ | refine Below.setCell ?_ ?_ _ | (simp; done) | (simp; omega)))

set_option maxRecDepth 100000 in
set_option maxHeartbeats 3200000 in
theorem chase0_out_y (e : Eff) (index : Int) (p : V3) (time periods : Int) (q : V3) (w : World) (ha : e.a.ok) (hb : e.b.ok) (oi : I64 index) (hv : effValid e = true) (hp : point p = true) (hi : 0 ≤ index) (h1 : e.fr ≤ time) (h2 : time < e.to) (hk : e.kind = 2) (hw0 : e.width = 0) (n0 : 0 ≤ periods) (n1 : periods ≤ (e.to - 1 - time) / e.period) (hq : point q = true) (hs : point (vplus p q) = false) :
    Calls Try.prog 7 #[.agg #[.int .i64 e.kind, .int .i64 e.fr, .int .i64 e.to, .int .i64 e.period, .int .i64 e.width, .int .i64 e.along.x, .int .i64 e.along.y, .int .i64 e.along.z, .int .i64 e.scale, .int .i64 e.seed, .int .u8 e.a.r, .int .u8 e.a.g, .int .u8 e.a.b, .int .u8 e.b.r, .int .u8 e.b.g, .int .u8 e.b.b], .int .i64 index, .agg #[.int .i64 p.x, .int .i64 p.y, .int .i64 p.z], .int .i64 time, .int .i64 periods, .agg #[.int .i64 q.x, .int .i64 q.y, .int .i64 q.z]] w (RetB (.bool true) w) := by
  have hK : colourAt e index p time = e.a := colour_none hv (by omega) hw0 index p time
  obtain ⟨s1, s2, s3, s4, s5⟩ := span_le hv
  obtain ⟨f1, f2⟩ := phase_le (p := p) hv
  have hne : e.kind ≠ 3 := by omega
  have c1 : ∀ w, Calls Try.prog 14 #[.agg #[.int .i64 e.kind, .int .i64 e.fr, .int .i64 e.to, .int .i64 e.period, .int .i64 e.width, .int .i64 e.along.x, .int .i64 e.along.y, .int .i64 e.along.z, .int .i64 e.scale, .int .i64 e.seed, .int .u8 e.a.r, .int .u8 e.a.g, .int .u8 e.a.b, .int .u8 e.b.r, .int .u8 e.b.g, .int .u8 e.b.b], .int .i64 index, .agg #[.int .i64 p.x, .int .i64 p.y, .int .i64 p.z], .int .i64 time] w (RetB (.tuple #[.agg #[.int .u8 e.a.r, .int .u8 e.a.g, .int .u8 e.a.b], .int .i64 0]) w) := fun w => by
    have c := At_fine e index p time w ha hb oi hv hi hp h1 h2
    rw [hK] at c
    exact c
  have C1 := fun w => Lib.hid (c1 w)
  have C4 := fun w => Lib.hid (Phase_fine e p w hv hp)
  have n2 : 0 ≤ periods * e.period := Int.mul_nonneg n0 (by omega)
  have n3 : periods * e.period ≤ e.to - 1 - time := Int.le_trans (Int.mul_le_mul_of_nonneg_right n1 (by omega)) (Int.ediv_mul_le _ (by omega))
  have hL : colourAt e index p (time + periods * e.period) = e.a := (colour_later hne index p time periods).trans hK
  have c2 : ∀ w, Calls Try.prog 14 #[.agg #[.int .i64 e.kind, .int .i64 e.fr, .int .i64 e.to, .int .i64 e.period, .int .i64 e.width, .int .i64 e.along.x, .int .i64 e.along.y, .int .i64 e.along.z, .int .i64 e.scale, .int .i64 e.seed, .int .u8 e.a.r, .int .u8 e.a.g, .int .u8 e.a.b, .int .u8 e.b.r, .int .u8 e.b.g, .int .u8 e.b.b], .int .i64 index, .agg #[.int .i64 p.x, .int .i64 p.y, .int .i64 p.z], .int .i64 (time + periods * e.period)] w (RetB (.tuple #[.agg #[.int .u8 e.a.r, .int .u8 e.a.g, .int .u8 e.a.b], .int .i64 0]) w) := fun w => by
    have c := At_fine e index p (time + periods * e.period) w ha hb oi hv hi hp (by omega) (by omega)
    rw [hL] at c
    exact c
  have C2 := fun w => Lib.hid (c2 w)
  obtain ⟨⟨x1, x2⟩, ⟨y1, y2⟩, z1, z2⟩ := point_iff.1 hp
  obtain ⟨⟨x3, x4⟩, ⟨y3, y4⟩, z3, z4⟩ := point_iff.1 hq
  have cs : ∀ w, Calls Try.prog 18 #[.agg #[.int .i64 (p.x + q.x), .int .i64 (p.y + q.y), .int .i64 (p.z + q.z)]] w (RetB (.bool false) w) := fun w => by
    rw [← hs]; exact refPoint_any (vplus p q) w
  have CS := fun w => Lib.hid (cs w)
  have k3 : (e.kind == 3) = false := by simp [hk]
  have k1 : (e.kind == 1) = false := by simp [hk]
  have b0 : (e.width != 0) = false := by rw [bne_eq_false_iff_eq]; omega
  have b1 : (e.width != e.period) = true := by rw [bne_iff_ne]; omega
  clear hK c1 hk hne ha hb hL c2 cs hs hw0
  go_enter Try.func7, Try.ntmps7
  go_wp2_with (first
    | (go_at_call 10; refine (RetB.grown (refValid_any e _)).mono ?_; rintro e' w' ⟨rfl, g, rfl⟩)
    | (go_at_call 18; (with_reducible refine (RetB.grown (refPoint_any p _)).mono ?_); rintro e' w' ⟨rfl, g, rfl⟩)
    | (go_at_call 14; (with_reducible refine (RetB.grown ((C1 _).out)).mono ?_); rintro e' w' ⟨rfl, g, rfl⟩)
    | (go_at_call 14; (with_reducible refine (RetB.grown ((C2 _).out)).mono ?_); rintro e' w' ⟨rfl, g, rfl⟩)
    | (refine wp_region_xt (by kernel_rfl) (by kernel_rfl) ?_; (repeat (go_big_quiet_step (first | (go_at_call 10; exact RetB.quiet (refValid_any e _)) | (go_at_call 18; (with_reducible exact RetB.quiet (refPoint_any p _))) | (go_at_call 14; (with_reducible exact RetB.quiet ((C1 _).out))) | (go_at_call 14; (with_reducible exact RetB.quiet ((C2 _).out)))))); refine wpQuiet_nil ?_; intro g))
  all_goals (refine (RetB.grown (refPoint_any q _)).mono ?_; rintro e' w' ⟨rfl, g, rfl⟩)
  all_goals go_wp2_with fail
  all_goals (refine (RetB.grown ((CS _).out)).mono ?_; rintro e' w' ⟨rfl, g, rfl⟩)
  all_goals go_wp2_with fail
  all_goals (refine (RetB.grown ((C4 _).out)).mono ?_; rintro e' w' ⟨rfl, g, rfl⟩)
  all_goals go_wp2_with fail
  all_goals (refine (RetB.grown (known_any _)).mono ?_; rintro e' w' ⟨rfl, g, rfl⟩)
  all_goals go_wp2_with fail
  all_goals go_ret
  all_goals exact RetB.of rfl (by repeat' (first | exact Below.refl _ _ | assumption | refine Below.xt ?_ ?_ _ | refine Below.alloc ?_ ?_ _ | refine Below.drew ?_ | refine Below.setCell ?_ ?_ _ | (simp; done) | (simp; omega)))

set_option maxRecDepth 100000 in
set_option maxHeartbeats 3200000 in
theorem chase0_odd_y (e : Eff) (index : Int) (p : V3) (time periods : Int) (q : V3) (w : World) (ha : e.a.ok) (hb : e.b.ok) (oi : I64 index) (hv : effValid e = true) (hp : point p = true) (hi : 0 ≤ index) (h1 : e.fr ≤ time) (h2 : time < e.to) (hk : e.kind = 2) (hw0 : e.width = 0) (n0 : 0 ≤ periods) (n1 : periods ≤ (e.to - 1 - time) / e.period) (hq : point q = true) (hs : point (vplus p q) = true) (hd : dot3 e.along q ≠ 0) :
    Calls Try.prog 7 #[.agg #[.int .i64 e.kind, .int .i64 e.fr, .int .i64 e.to, .int .i64 e.period, .int .i64 e.width, .int .i64 e.along.x, .int .i64 e.along.y, .int .i64 e.along.z, .int .i64 e.scale, .int .i64 e.seed, .int .u8 e.a.r, .int .u8 e.a.g, .int .u8 e.a.b, .int .u8 e.b.r, .int .u8 e.b.g, .int .u8 e.b.b], .int .i64 index, .agg #[.int .i64 p.x, .int .i64 p.y, .int .i64 p.z], .int .i64 time, .int .i64 periods, .agg #[.int .i64 q.x, .int .i64 q.y, .int .i64 q.z]] w (RetB (.bool true) w) := by
  have hK : colourAt e index p time = e.a := colour_none hv (by omega) hw0 index p time
  obtain ⟨s1, s2, s3, s4, s5⟩ := span_le hv
  obtain ⟨f1, f2⟩ := phase_le (p := p) hv
  have hne : e.kind ≠ 3 := by omega
  have c1 : ∀ w, Calls Try.prog 14 #[.agg #[.int .i64 e.kind, .int .i64 e.fr, .int .i64 e.to, .int .i64 e.period, .int .i64 e.width, .int .i64 e.along.x, .int .i64 e.along.y, .int .i64 e.along.z, .int .i64 e.scale, .int .i64 e.seed, .int .u8 e.a.r, .int .u8 e.a.g, .int .u8 e.a.b, .int .u8 e.b.r, .int .u8 e.b.g, .int .u8 e.b.b], .int .i64 index, .agg #[.int .i64 p.x, .int .i64 p.y, .int .i64 p.z], .int .i64 time] w (RetB (.tuple #[.agg #[.int .u8 e.a.r, .int .u8 e.a.g, .int .u8 e.a.b], .int .i64 0]) w) := fun w => by
    have c := At_fine e index p time w ha hb oi hv hi hp h1 h2
    rw [hK] at c
    exact c
  have C1 := fun w => Lib.hid (c1 w)
  have C4 := fun w => Lib.hid (Phase_fine e p w hv hp)
  have n2 : 0 ≤ periods * e.period := Int.mul_nonneg n0 (by omega)
  have n3 : periods * e.period ≤ e.to - 1 - time := Int.le_trans (Int.mul_le_mul_of_nonneg_right n1 (by omega)) (Int.ediv_mul_le _ (by omega))
  have hL : colourAt e index p (time + periods * e.period) = e.a := (colour_later hne index p time periods).trans hK
  have c2 : ∀ w, Calls Try.prog 14 #[.agg #[.int .i64 e.kind, .int .i64 e.fr, .int .i64 e.to, .int .i64 e.period, .int .i64 e.width, .int .i64 e.along.x, .int .i64 e.along.y, .int .i64 e.along.z, .int .i64 e.scale, .int .i64 e.seed, .int .u8 e.a.r, .int .u8 e.a.g, .int .u8 e.a.b, .int .u8 e.b.r, .int .u8 e.b.g, .int .u8 e.b.b], .int .i64 index, .agg #[.int .i64 p.x, .int .i64 p.y, .int .i64 p.z], .int .i64 (time + periods * e.period)] w (RetB (.tuple #[.agg #[.int .u8 e.a.r, .int .u8 e.a.g, .int .u8 e.a.b], .int .i64 0]) w) := fun w => by
    have c := At_fine e index p (time + periods * e.period) w ha hb oi hv hi hp (by omega) (by omega)
    rw [hL] at c
    exact c
  have C2 := fun w => Lib.hid (c2 w)
  obtain ⟨⟨x1, x2⟩, ⟨y1, y2⟩, z1, z2⟩ := point_iff.1 hp
  obtain ⟨⟨x3, x4⟩, ⟨y3, y4⟩, z3, z4⟩ := point_iff.1 hq
  have cs : ∀ w, Calls Try.prog 18 #[.agg #[.int .i64 (p.x + q.x), .int .i64 (p.y + q.y), .int .i64 (p.z + q.z)]] w (RetB (.bool true) w) := fun w => by
    rw [← hs]; exact refPoint_any (vplus p q) w
  have CS := fun w => Lib.hid (cs w)
  obtain ⟨⟨u1, u2⟩, ⟨u3, u4⟩, u5, u6⟩ := prods_le (moving_of hv hne).1 hq
  have bd : (e.along.x * q.x + e.along.y * q.y + e.along.z * q.z == 0) = false := by simpa [dot3] using hd
  have k3 : (e.kind == 3) = false := by simp [hk]
  have k1 : (e.kind == 1) = false := by simp [hk]
  have b0 : (e.width != 0) = false := by rw [bne_eq_false_iff_eq]; omega
  have b1 : (e.width != e.period) = true := by rw [bne_iff_ne]; omega
  clear hK c1 hk hne ha hb hL c2 cs hs hd hw0
  go_enter Try.func7, Try.ntmps7
  go_wp2_with (first
    | (go_at_call 10; refine (RetB.grown (refValid_any e _)).mono ?_; rintro e' w' ⟨rfl, g, rfl⟩)
    | (go_at_call 18; (with_reducible refine (RetB.grown (refPoint_any p _)).mono ?_); rintro e' w' ⟨rfl, g, rfl⟩)
    | (go_at_call 14; (with_reducible refine (RetB.grown ((C1 _).out)).mono ?_); rintro e' w' ⟨rfl, g, rfl⟩)
    | (go_at_call 14; (with_reducible refine (RetB.grown ((C2 _).out)).mono ?_); rintro e' w' ⟨rfl, g, rfl⟩)
    | (refine wp_region_xt (by kernel_rfl) (by kernel_rfl) ?_; (repeat (go_big_quiet_step (first | (go_at_call 10; exact RetB.quiet (refValid_any e _)) | (go_at_call 18; (with_reducible exact RetB.quiet (refPoint_any p _))) | (go_at_call 14; (with_reducible exact RetB.quiet ((C1 _).out))) | (go_at_call 14; (with_reducible exact RetB.quiet ((C2 _).out)))))); refine wpQuiet_nil ?_; intro g))
  all_goals (refine (RetB.grown (refPoint_any q _)).mono ?_; rintro e' w' ⟨rfl, g, rfl⟩)
  all_goals go_wp2_with fail
  all_goals (refine (RetB.grown ((CS _).out)).mono ?_; rintro e' w' ⟨rfl, g, rfl⟩)
  all_goals go_wp2_with fail
  all_goals (refine (RetB.grown ((C4 _).out)).mono ?_; rintro e' w' ⟨rfl, g, rfl⟩)
  all_goals go_wp2_with fail
  all_goals (refine (RetB.grown (known_any _)).mono ?_; rintro e' w' ⟨rfl, g, rfl⟩)
  all_goals go_wp2_with fail
  all_goals go_ret
  all_goals exact RetB.of rfl (by repeat' (first | exact Below.refl _ _ | assumption | refine Below.xt ?_ ?_ _ | refine Below.alloc ?_ ?_ _ | refine Below.drew ?_ | refine Below.setCell ?_ ?_ _ | (simp; done) | (simp; omega)))

set_option maxRecDepth 100000 in
set_option maxHeartbeats 3200000 in
theorem chase0_same_y (e : Eff) (index : Int) (p : V3) (time periods : Int) (q : V3) (w : World) (ha : e.a.ok) (hb : e.b.ok) (oi : I64 index) (hv : effValid e = true) (hp : point p = true) (hi : 0 ≤ index) (h1 : e.fr ≤ time) (h2 : time < e.to) (hk : e.kind = 2) (hw0 : e.width = 0) (n0 : 0 ≤ periods) (n1 : periods ≤ (e.to - 1 - time) / e.period) (hq : point q = true) (hs : point (vplus p q) = true) (hd : dot3 e.along q = 0) :
    Calls Try.prog 7 #[.agg #[.int .i64 e.kind, .int .i64 e.fr, .int .i64 e.to, .int .i64 e.period, .int .i64 e.width, .int .i64 e.along.x, .int .i64 e.along.y, .int .i64 e.along.z, .int .i64 e.scale, .int .i64 e.seed, .int .u8 e.a.r, .int .u8 e.a.g, .int .u8 e.a.b, .int .u8 e.b.r, .int .u8 e.b.g, .int .u8 e.b.b], .int .i64 index, .agg #[.int .i64 p.x, .int .i64 p.y, .int .i64 p.z], .int .i64 time, .int .i64 periods, .agg #[.int .i64 q.x, .int .i64 q.y, .int .i64 q.z]] w (RetB (.bool true) w) := by
  have hK : colourAt e index p time = e.a := colour_none hv (by omega) hw0 index p time
  obtain ⟨s1, s2, s3, s4, s5⟩ := span_le hv
  obtain ⟨f1, f2⟩ := phase_le (p := p) hv
  have hne : e.kind ≠ 3 := by omega
  have c1 : ∀ w, Calls Try.prog 14 #[.agg #[.int .i64 e.kind, .int .i64 e.fr, .int .i64 e.to, .int .i64 e.period, .int .i64 e.width, .int .i64 e.along.x, .int .i64 e.along.y, .int .i64 e.along.z, .int .i64 e.scale, .int .i64 e.seed, .int .u8 e.a.r, .int .u8 e.a.g, .int .u8 e.a.b, .int .u8 e.b.r, .int .u8 e.b.g, .int .u8 e.b.b], .int .i64 index, .agg #[.int .i64 p.x, .int .i64 p.y, .int .i64 p.z], .int .i64 time] w (RetB (.tuple #[.agg #[.int .u8 e.a.r, .int .u8 e.a.g, .int .u8 e.a.b], .int .i64 0]) w) := fun w => by
    have c := At_fine e index p time w ha hb oi hv hi hp h1 h2
    rw [hK] at c
    exact c
  have C1 := fun w => Lib.hid (c1 w)
  have C4 := fun w => Lib.hid (Phase_fine e p w hv hp)
  have n2 : 0 ≤ periods * e.period := Int.mul_nonneg n0 (by omega)
  have n3 : periods * e.period ≤ e.to - 1 - time := Int.le_trans (Int.mul_le_mul_of_nonneg_right n1 (by omega)) (Int.ediv_mul_le _ (by omega))
  have hL : colourAt e index p (time + periods * e.period) = e.a := (colour_later hne index p time periods).trans hK
  have c2 : ∀ w, Calls Try.prog 14 #[.agg #[.int .i64 e.kind, .int .i64 e.fr, .int .i64 e.to, .int .i64 e.period, .int .i64 e.width, .int .i64 e.along.x, .int .i64 e.along.y, .int .i64 e.along.z, .int .i64 e.scale, .int .i64 e.seed, .int .u8 e.a.r, .int .u8 e.a.g, .int .u8 e.a.b, .int .u8 e.b.r, .int .u8 e.b.g, .int .u8 e.b.b], .int .i64 index, .agg #[.int .i64 p.x, .int .i64 p.y, .int .i64 p.z], .int .i64 (time + periods * e.period)] w (RetB (.tuple #[.agg #[.int .u8 e.a.r, .int .u8 e.a.g, .int .u8 e.a.b], .int .i64 0]) w) := fun w => by
    have c := At_fine e index p (time + periods * e.period) w ha hb oi hv hi hp (by omega) (by omega)
    rw [hL] at c
    exact c
  have C2 := fun w => Lib.hid (c2 w)
  obtain ⟨⟨x1, x2⟩, ⟨y1, y2⟩, z1, z2⟩ := point_iff.1 hp
  obtain ⟨⟨x3, x4⟩, ⟨y3, y4⟩, z3, z4⟩ := point_iff.1 hq
  have cs : ∀ w, Calls Try.prog 18 #[.agg #[.int .i64 (p.x + q.x), .int .i64 (p.y + q.y), .int .i64 (p.z + q.z)]] w (RetB (.bool true) w) := fun w => by
    rw [← hs]; exact refPoint_any (vplus p q) w
  have CS := fun w => Lib.hid (cs w)
  obtain ⟨⟨u1, u2⟩, ⟨u3, u4⟩, u5, u6⟩ := prods_le (moving_of hv hne).1 hq
  have bd : (e.along.x * q.x + e.along.y * q.y + e.along.z * q.z == 0) = true := by simpa [dot3] using hd
  have hM : colourAt e 0 (vplus p q) time = e.a := (colour_plus hne index 0 time hd).trans hK
  have c3 : ∀ w, Calls Try.prog 14 #[.agg #[.int .i64 e.kind, .int .i64 e.fr, .int .i64 e.to, .int .i64 e.period, .int .i64 e.width, .int .i64 e.along.x, .int .i64 e.along.y, .int .i64 e.along.z, .int .i64 e.scale, .int .i64 e.seed, .int .u8 e.a.r, .int .u8 e.a.g, .int .u8 e.a.b, .int .u8 e.b.r, .int .u8 e.b.g, .int .u8 e.b.b], .int .i64 0, .agg #[.int .i64 (p.x + q.x), .int .i64 (p.y + q.y), .int .i64 (p.z + q.z)], .int .i64 time] w (RetB (.tuple #[.agg #[.int .u8 e.a.r, .int .u8 e.a.g, .int .u8 e.a.b], .int .i64 0]) w) := fun w => by
    have c := At_fine e 0 (vplus p q) time w ha hb (by unfold I64; omega) hv (by omega) hs h1 h2
    rw [hM] at c
    exact c
  have C3 := fun w => Lib.hid (c3 w)
  have k3 : (e.kind == 3) = false := by simp [hk]
  have k1 : (e.kind == 1) = false := by simp [hk]
  have b0 : (e.width != 0) = false := by rw [bne_eq_false_iff_eq]; omega
  have b1 : (e.width != e.period) = true := by rw [bne_iff_ne]; omega
  clear hK c1 hk hne ha hb hL c2 cs hs hd hM c3 hw0
  go_enter Try.func7, Try.ntmps7
  go_wp2_with (first
    | (go_at_call 10; refine (RetB.grown (refValid_any e _)).mono ?_; rintro e' w' ⟨rfl, g, rfl⟩)
    | (go_at_call 18; (with_reducible refine (RetB.grown (refPoint_any p _)).mono ?_); rintro e' w' ⟨rfl, g, rfl⟩)
    | (go_at_call 14; (with_reducible refine (RetB.grown ((C1 _).out)).mono ?_); rintro e' w' ⟨rfl, g, rfl⟩)
    | (go_at_call 14; (with_reducible refine (RetB.grown ((C2 _).out)).mono ?_); rintro e' w' ⟨rfl, g, rfl⟩)
    | (refine wp_region_xt (by kernel_rfl) (by kernel_rfl) ?_; (repeat (go_big_quiet_step (first | (go_at_call 10; exact RetB.quiet (refValid_any e _)) | (go_at_call 18; (with_reducible exact RetB.quiet (refPoint_any p _))) | (go_at_call 14; (with_reducible exact RetB.quiet ((C1 _).out))) | (go_at_call 14; (with_reducible exact RetB.quiet ((C2 _).out)))))); refine wpQuiet_nil ?_; intro g))
  all_goals (refine (RetB.grown (refPoint_any q _)).mono ?_; rintro e' w' ⟨rfl, g, rfl⟩)
  all_goals go_wp2_with fail
  all_goals (refine (RetB.grown ((CS _).out)).mono ?_; rintro e' w' ⟨rfl, g, rfl⟩)
  all_goals go_wp2_with fail
  all_goals (refine (RetB.grown ((C3 _).out)).mono ?_; rintro e' w' ⟨rfl, g, rfl⟩)
  all_goals go_wp2_with fail
  all_goals (refine (RetB.grown ((C4 _).out)).mono ?_; rintro e' w' ⟨rfl, g, rfl⟩)
  all_goals go_wp2_with fail
  all_goals (refine (RetB.grown (known_any _)).mono ?_; rintro e' w' ⟨rfl, g, rfl⟩)
  all_goals go_wp2_with fail
  all_goals go_ret
  all_goals exact RetB.of rfl (by repeat' (first | exact Below.refl _ _ | assumption | refine Below.xt ?_ ?_ _ | refine Below.alloc ?_ ?_ _ | refine Below.drew ?_ | refine Below.setCell ?_ ?_ _ | (simp; done) | (simp; omega)))

set_option maxRecDepth 100000 in
set_option maxHeartbeats 3200000 in
theorem chase0_far_m (e : Eff) (index : Int) (p : V3) (time periods : Int) (q : V3) (w : World) (ha : e.a.ok) (hb : e.b.ok) (oi : I64 index) (hv : effValid e = true) (hp : point p = true) (hi : 0 ≤ index) (h1 : e.fr ≤ time) (h2 : time < e.to) (hk : e.kind = 2) (hw0 : e.width = 0) (hn : periods < 0) (hq : point q = false) :
    Calls Try.prog 7 #[.agg #[.int .i64 e.kind, .int .i64 e.fr, .int .i64 e.to, .int .i64 e.period, .int .i64 e.width, .int .i64 e.along.x, .int .i64 e.along.y, .int .i64 e.along.z, .int .i64 e.scale, .int .i64 e.seed, .int .u8 e.a.r, .int .u8 e.a.g, .int .u8 e.a.b, .int .u8 e.b.r, .int .u8 e.b.g, .int .u8 e.b.b], .int .i64 index, .agg #[.int .i64 p.x, .int .i64 p.y, .int .i64 p.z], .int .i64 time, .int .i64 periods, .agg #[.int .i64 q.x, .int .i64 q.y, .int .i64 q.z]] w (RetB (.bool true) w) := by
  have hK : colourAt e index p time = e.a := colour_none hv (by omega) hw0 index p time
  obtain ⟨s1, s2, s3, s4, s5⟩ := span_le hv
  obtain ⟨f1, f2⟩ := phase_le (p := p) hv
  have hne : e.kind ≠ 3 := by omega
  have c1 : ∀ w, Calls Try.prog 14 #[.agg #[.int .i64 e.kind, .int .i64 e.fr, .int .i64 e.to, .int .i64 e.period, .int .i64 e.width, .int .i64 e.along.x, .int .i64 e.along.y, .int .i64 e.along.z, .int .i64 e.scale, .int .i64 e.seed, .int .u8 e.a.r, .int .u8 e.a.g, .int .u8 e.a.b, .int .u8 e.b.r, .int .u8 e.b.g, .int .u8 e.b.b], .int .i64 index, .agg #[.int .i64 p.x, .int .i64 p.y, .int .i64 p.z], .int .i64 time] w (RetB (.tuple #[.agg #[.int .u8 e.a.r, .int .u8 e.a.g, .int .u8 e.a.b], .int .i64 0]) w) := fun w => by
    have c := At_fine e index p time w ha hb oi hv hi hp h1 h2
    rw [hK] at c
    exact c
  have C1 := fun w => Lib.hid (c1 w)
  have C4 := fun w => Lib.hid (Phase_fine e p w hv hp)
  have k3 : (e.kind == 3) = false := by simp [hk]
  have k1 : (e.kind == 1) = false := by simp [hk]
  have b0 : (e.width != 0) = false := by rw [bne_eq_false_iff_eq]; omega
  have b1 : (e.width != e.period) = true := by rw [bne_iff_ne]; omega
  have hd0 : decide (0 ≤ periods) = false := by simp; omega
  clear hK c1 hk hne ha hb hw0
  go_enter Try.func7, Try.ntmps7
  go_wp2_with (first
    | (go_at_call 10; refine (RetB.grown (refValid_any e _)).mono ?_; rintro e' w' ⟨rfl, g, rfl⟩)
    | (go_at_call 18; (with_reducible refine (RetB.grown (refPoint_any p _)).mono ?_); rintro e' w' ⟨rfl, g, rfl⟩)
    | (go_at_call 14; (with_reducible refine (RetB.grown ((C1 _).out)).mono ?_); rintro e' w' ⟨rfl, g, rfl⟩)
    | (refine wp_region_xt (by kernel_rfl) (by kernel_rfl) ?_; (repeat (go_big_quiet_step (first | (go_at_call 10; exact RetB.quiet (refValid_any e _)) | (go_at_call 18; (with_reducible exact RetB.quiet (refPoint_any p _))) | (go_at_call 14; (with_reducible exact RetB.quiet ((C1 _).out)))))); refine wpQuiet_nil ?_; intro g))
  all_goals (refine (RetB.grown (refPoint_any q _)).mono ?_; rintro e' w' ⟨rfl, g, rfl⟩)
  all_goals go_wp2_with fail
  all_goals (refine (RetB.grown ((C4 _).out)).mono ?_; rintro e' w' ⟨rfl, g, rfl⟩)
  all_goals go_wp2_with fail
  all_goals (refine (RetB.grown (known_any _)).mono ?_; rintro e' w' ⟨rfl, g, rfl⟩)
  all_goals go_wp2_with fail
  all_goals go_ret
  all_goals exact RetB.of rfl (by repeat' (first | exact Below.refl _ _ | assumption | refine Below.xt ?_ ?_ _ | refine Below.alloc ?_ ?_ _ | refine Below.drew ?_ | refine Below.setCell ?_ ?_ _ | (simp; done) | (simp; omega)))

set_option maxRecDepth 100000 in
set_option maxHeartbeats 3200000 in
theorem chase0_out_m (e : Eff) (index : Int) (p : V3) (time periods : Int) (q : V3) (w : World) (ha : e.a.ok) (hb : e.b.ok) (oi : I64 index) (hv : effValid e = true) (hp : point p = true) (hi : 0 ≤ index) (h1 : e.fr ≤ time) (h2 : time < e.to) (hk : e.kind = 2) (hw0 : e.width = 0) (hn : periods < 0) (hq : point q = true) (hs : point (vplus p q) = false) :
    Calls Try.prog 7 #[.agg #[.int .i64 e.kind, .int .i64 e.fr, .int .i64 e.to, .int .i64 e.period, .int .i64 e.width, .int .i64 e.along.x, .int .i64 e.along.y, .int .i64 e.along.z, .int .i64 e.scale, .int .i64 e.seed, .int .u8 e.a.r, .int .u8 e.a.g, .int .u8 e.a.b, .int .u8 e.b.r, .int .u8 e.b.g, .int .u8 e.b.b], .int .i64 index, .agg #[.int .i64 p.x, .int .i64 p.y, .int .i64 p.z], .int .i64 time, .int .i64 periods, .agg #[.int .i64 q.x, .int .i64 q.y, .int .i64 q.z]] w (RetB (.bool true) w) := by
  have hK : colourAt e index p time = e.a := colour_none hv (by omega) hw0 index p time
  obtain ⟨s1, s2, s3, s4, s5⟩ := span_le hv
  obtain ⟨f1, f2⟩ := phase_le (p := p) hv
  have hne : e.kind ≠ 3 := by omega
  have c1 : ∀ w, Calls Try.prog 14 #[.agg #[.int .i64 e.kind, .int .i64 e.fr, .int .i64 e.to, .int .i64 e.period, .int .i64 e.width, .int .i64 e.along.x, .int .i64 e.along.y, .int .i64 e.along.z, .int .i64 e.scale, .int .i64 e.seed, .int .u8 e.a.r, .int .u8 e.a.g, .int .u8 e.a.b, .int .u8 e.b.r, .int .u8 e.b.g, .int .u8 e.b.b], .int .i64 index, .agg #[.int .i64 p.x, .int .i64 p.y, .int .i64 p.z], .int .i64 time] w (RetB (.tuple #[.agg #[.int .u8 e.a.r, .int .u8 e.a.g, .int .u8 e.a.b], .int .i64 0]) w) := fun w => by
    have c := At_fine e index p time w ha hb oi hv hi hp h1 h2
    rw [hK] at c
    exact c
  have C1 := fun w => Lib.hid (c1 w)
  have C4 := fun w => Lib.hid (Phase_fine e p w hv hp)
  obtain ⟨⟨x1, x2⟩, ⟨y1, y2⟩, z1, z2⟩ := point_iff.1 hp
  obtain ⟨⟨x3, x4⟩, ⟨y3, y4⟩, z3, z4⟩ := point_iff.1 hq
  have cs : ∀ w, Calls Try.prog 18 #[.agg #[.int .i64 (p.x + q.x), .int .i64 (p.y + q.y), .int .i64 (p.z + q.z)]] w (RetB (.bool false) w) := fun w => by
    rw [← hs]; exact refPoint_any (vplus p q) w
  have CS := fun w => Lib.hid (cs w)
  have k3 : (e.kind == 3) = false := by simp [hk]
  have k1 : (e.kind == 1) = false := by simp [hk]
  have b0 : (e.width != 0) = false := by rw [bne_eq_false_iff_eq]; omega
  have b1 : (e.width != e.period) = true := by rw [bne_iff_ne]; omega
  have hd0 : decide (0 ≤ periods) = false := by simp; omega
  clear hK c1 hk hne ha hb cs hs hw0
  go_enter Try.func7, Try.ntmps7
  go_wp2_with (first
    | (go_at_call 10; refine (RetB.grown (refValid_any e _)).mono ?_; rintro e' w' ⟨rfl, g, rfl⟩)
    | (go_at_call 18; (with_reducible refine (RetB.grown (refPoint_any p _)).mono ?_); rintro e' w' ⟨rfl, g, rfl⟩)
    | (go_at_call 14; (with_reducible refine (RetB.grown ((C1 _).out)).mono ?_); rintro e' w' ⟨rfl, g, rfl⟩)
    | (refine wp_region_xt (by kernel_rfl) (by kernel_rfl) ?_; (repeat (go_big_quiet_step (first | (go_at_call 10; exact RetB.quiet (refValid_any e _)) | (go_at_call 18; (with_reducible exact RetB.quiet (refPoint_any p _))) | (go_at_call 14; (with_reducible exact RetB.quiet ((C1 _).out)))))); refine wpQuiet_nil ?_; intro g))
  all_goals (refine (RetB.grown (refPoint_any q _)).mono ?_; rintro e' w' ⟨rfl, g, rfl⟩)
  all_goals go_wp2_with fail
  all_goals (refine (RetB.grown ((CS _).out)).mono ?_; rintro e' w' ⟨rfl, g, rfl⟩)
  all_goals go_wp2_with fail
  all_goals (refine (RetB.grown ((C4 _).out)).mono ?_; rintro e' w' ⟨rfl, g, rfl⟩)
  all_goals go_wp2_with fail
  all_goals (refine (RetB.grown (known_any _)).mono ?_; rintro e' w' ⟨rfl, g, rfl⟩)
  all_goals go_wp2_with fail
  all_goals go_ret
  all_goals exact RetB.of rfl (by repeat' (first | exact Below.refl _ _ | assumption | refine Below.xt ?_ ?_ _ | refine Below.alloc ?_ ?_ _ | refine Below.drew ?_ | refine Below.setCell ?_ ?_ _ | (simp; done) | (simp; omega)))

set_option maxRecDepth 100000 in
set_option maxHeartbeats 3200000 in
theorem chase0_odd_m (e : Eff) (index : Int) (p : V3) (time periods : Int) (q : V3) (w : World) (ha : e.a.ok) (hb : e.b.ok) (oi : I64 index) (hv : effValid e = true) (hp : point p = true) (hi : 0 ≤ index) (h1 : e.fr ≤ time) (h2 : time < e.to) (hk : e.kind = 2) (hw0 : e.width = 0) (hn : periods < 0) (hq : point q = true) (hs : point (vplus p q) = true) (hd : dot3 e.along q ≠ 0) :
    Calls Try.prog 7 #[.agg #[.int .i64 e.kind, .int .i64 e.fr, .int .i64 e.to, .int .i64 e.period, .int .i64 e.width, .int .i64 e.along.x, .int .i64 e.along.y, .int .i64 e.along.z, .int .i64 e.scale, .int .i64 e.seed, .int .u8 e.a.r, .int .u8 e.a.g, .int .u8 e.a.b, .int .u8 e.b.r, .int .u8 e.b.g, .int .u8 e.b.b], .int .i64 index, .agg #[.int .i64 p.x, .int .i64 p.y, .int .i64 p.z], .int .i64 time, .int .i64 periods, .agg #[.int .i64 q.x, .int .i64 q.y, .int .i64 q.z]] w (RetB (.bool true) w) := by
  have hK : colourAt e index p time = e.a := colour_none hv (by omega) hw0 index p time
  obtain ⟨s1, s2, s3, s4, s5⟩ := span_le hv
  obtain ⟨f1, f2⟩ := phase_le (p := p) hv
  have hne : e.kind ≠ 3 := by omega
  have c1 : ∀ w, Calls Try.prog 14 #[.agg #[.int .i64 e.kind, .int .i64 e.fr, .int .i64 e.to, .int .i64 e.period, .int .i64 e.width, .int .i64 e.along.x, .int .i64 e.along.y, .int .i64 e.along.z, .int .i64 e.scale, .int .i64 e.seed, .int .u8 e.a.r, .int .u8 e.a.g, .int .u8 e.a.b, .int .u8 e.b.r, .int .u8 e.b.g, .int .u8 e.b.b], .int .i64 index, .agg #[.int .i64 p.x, .int .i64 p.y, .int .i64 p.z], .int .i64 time] w (RetB (.tuple #[.agg #[.int .u8 e.a.r, .int .u8 e.a.g, .int .u8 e.a.b], .int .i64 0]) w) := fun w => by
    have c := At_fine e index p time w ha hb oi hv hi hp h1 h2
    rw [hK] at c
    exact c
  have C1 := fun w => Lib.hid (c1 w)
  have C4 := fun w => Lib.hid (Phase_fine e p w hv hp)
  obtain ⟨⟨x1, x2⟩, ⟨y1, y2⟩, z1, z2⟩ := point_iff.1 hp
  obtain ⟨⟨x3, x4⟩, ⟨y3, y4⟩, z3, z4⟩ := point_iff.1 hq
  have cs : ∀ w, Calls Try.prog 18 #[.agg #[.int .i64 (p.x + q.x), .int .i64 (p.y + q.y), .int .i64 (p.z + q.z)]] w (RetB (.bool true) w) := fun w => by
    rw [← hs]; exact refPoint_any (vplus p q) w
  have CS := fun w => Lib.hid (cs w)
  obtain ⟨⟨u1, u2⟩, ⟨u3, u4⟩, u5, u6⟩ := prods_le (moving_of hv hne).1 hq
  have bd : (e.along.x * q.x + e.along.y * q.y + e.along.z * q.z == 0) = false := by simpa [dot3] using hd
  have k3 : (e.kind == 3) = false := by simp [hk]
  have k1 : (e.kind == 1) = false := by simp [hk]
  have b0 : (e.width != 0) = false := by rw [bne_eq_false_iff_eq]; omega
  have b1 : (e.width != e.period) = true := by rw [bne_iff_ne]; omega
  have hd0 : decide (0 ≤ periods) = false := by simp; omega
  clear hK c1 hk hne ha hb cs hs hd hw0
  go_enter Try.func7, Try.ntmps7
  go_wp2_with (first
    | (go_at_call 10; refine (RetB.grown (refValid_any e _)).mono ?_; rintro e' w' ⟨rfl, g, rfl⟩)
    | (go_at_call 18; (with_reducible refine (RetB.grown (refPoint_any p _)).mono ?_); rintro e' w' ⟨rfl, g, rfl⟩)
    | (go_at_call 14; (with_reducible refine (RetB.grown ((C1 _).out)).mono ?_); rintro e' w' ⟨rfl, g, rfl⟩)
    | (refine wp_region_xt (by kernel_rfl) (by kernel_rfl) ?_; (repeat (go_big_quiet_step (first | (go_at_call 10; exact RetB.quiet (refValid_any e _)) | (go_at_call 18; (with_reducible exact RetB.quiet (refPoint_any p _))) | (go_at_call 14; (with_reducible exact RetB.quiet ((C1 _).out)))))); refine wpQuiet_nil ?_; intro g))
  all_goals (refine (RetB.grown (refPoint_any q _)).mono ?_; rintro e' w' ⟨rfl, g, rfl⟩)
  all_goals go_wp2_with fail
  all_goals (refine (RetB.grown ((CS _).out)).mono ?_; rintro e' w' ⟨rfl, g, rfl⟩)
  all_goals go_wp2_with fail
  all_goals (refine (RetB.grown ((C4 _).out)).mono ?_; rintro e' w' ⟨rfl, g, rfl⟩)
  all_goals go_wp2_with fail
  all_goals (refine (RetB.grown (known_any _)).mono ?_; rintro e' w' ⟨rfl, g, rfl⟩)
  all_goals go_wp2_with fail
  all_goals go_ret
  all_goals exact RetB.of rfl (by repeat' (first | exact Below.refl _ _ | assumption | refine Below.xt ?_ ?_ _ | refine Below.alloc ?_ ?_ _ | refine Below.drew ?_ | refine Below.setCell ?_ ?_ _ | (simp; done) | (simp; omega)))

set_option maxRecDepth 100000 in
set_option maxHeartbeats 3200000 in
theorem chase0_same_m (e : Eff) (index : Int) (p : V3) (time periods : Int) (q : V3) (w : World) (ha : e.a.ok) (hb : e.b.ok) (oi : I64 index) (hv : effValid e = true) (hp : point p = true) (hi : 0 ≤ index) (h1 : e.fr ≤ time) (h2 : time < e.to) (hk : e.kind = 2) (hw0 : e.width = 0) (hn : periods < 0) (hq : point q = true) (hs : point (vplus p q) = true) (hd : dot3 e.along q = 0) :
    Calls Try.prog 7 #[.agg #[.int .i64 e.kind, .int .i64 e.fr, .int .i64 e.to, .int .i64 e.period, .int .i64 e.width, .int .i64 e.along.x, .int .i64 e.along.y, .int .i64 e.along.z, .int .i64 e.scale, .int .i64 e.seed, .int .u8 e.a.r, .int .u8 e.a.g, .int .u8 e.a.b, .int .u8 e.b.r, .int .u8 e.b.g, .int .u8 e.b.b], .int .i64 index, .agg #[.int .i64 p.x, .int .i64 p.y, .int .i64 p.z], .int .i64 time, .int .i64 periods, .agg #[.int .i64 q.x, .int .i64 q.y, .int .i64 q.z]] w (RetB (.bool true) w) := by
  have hK : colourAt e index p time = e.a := colour_none hv (by omega) hw0 index p time
  obtain ⟨s1, s2, s3, s4, s5⟩ := span_le hv
  obtain ⟨f1, f2⟩ := phase_le (p := p) hv
  have hne : e.kind ≠ 3 := by omega
  have c1 : ∀ w, Calls Try.prog 14 #[.agg #[.int .i64 e.kind, .int .i64 e.fr, .int .i64 e.to, .int .i64 e.period, .int .i64 e.width, .int .i64 e.along.x, .int .i64 e.along.y, .int .i64 e.along.z, .int .i64 e.scale, .int .i64 e.seed, .int .u8 e.a.r, .int .u8 e.a.g, .int .u8 e.a.b, .int .u8 e.b.r, .int .u8 e.b.g, .int .u8 e.b.b], .int .i64 index, .agg #[.int .i64 p.x, .int .i64 p.y, .int .i64 p.z], .int .i64 time] w (RetB (.tuple #[.agg #[.int .u8 e.a.r, .int .u8 e.a.g, .int .u8 e.a.b], .int .i64 0]) w) := fun w => by
    have c := At_fine e index p time w ha hb oi hv hi hp h1 h2
    rw [hK] at c
    exact c
  have C1 := fun w => Lib.hid (c1 w)
  have C4 := fun w => Lib.hid (Phase_fine e p w hv hp)
  obtain ⟨⟨x1, x2⟩, ⟨y1, y2⟩, z1, z2⟩ := point_iff.1 hp
  obtain ⟨⟨x3, x4⟩, ⟨y3, y4⟩, z3, z4⟩ := point_iff.1 hq
  have cs : ∀ w, Calls Try.prog 18 #[.agg #[.int .i64 (p.x + q.x), .int .i64 (p.y + q.y), .int .i64 (p.z + q.z)]] w (RetB (.bool true) w) := fun w => by
    rw [← hs]; exact refPoint_any (vplus p q) w
  have CS := fun w => Lib.hid (cs w)
  obtain ⟨⟨u1, u2⟩, ⟨u3, u4⟩, u5, u6⟩ := prods_le (moving_of hv hne).1 hq
  have bd : (e.along.x * q.x + e.along.y * q.y + e.along.z * q.z == 0) = true := by simpa [dot3] using hd
  have hM : colourAt e 0 (vplus p q) time = e.a := (colour_plus hne index 0 time hd).trans hK
  have c3 : ∀ w, Calls Try.prog 14 #[.agg #[.int .i64 e.kind, .int .i64 e.fr, .int .i64 e.to, .int .i64 e.period, .int .i64 e.width, .int .i64 e.along.x, .int .i64 e.along.y, .int .i64 e.along.z, .int .i64 e.scale, .int .i64 e.seed, .int .u8 e.a.r, .int .u8 e.a.g, .int .u8 e.a.b, .int .u8 e.b.r, .int .u8 e.b.g, .int .u8 e.b.b], .int .i64 0, .agg #[.int .i64 (p.x + q.x), .int .i64 (p.y + q.y), .int .i64 (p.z + q.z)], .int .i64 time] w (RetB (.tuple #[.agg #[.int .u8 e.a.r, .int .u8 e.a.g, .int .u8 e.a.b], .int .i64 0]) w) := fun w => by
    have c := At_fine e 0 (vplus p q) time w ha hb (by unfold I64; omega) hv (by omega) hs h1 h2
    rw [hM] at c
    exact c
  have C3 := fun w => Lib.hid (c3 w)
  have k3 : (e.kind == 3) = false := by simp [hk]
  have k1 : (e.kind == 1) = false := by simp [hk]
  have b0 : (e.width != 0) = false := by rw [bne_eq_false_iff_eq]; omega
  have b1 : (e.width != e.period) = true := by rw [bne_iff_ne]; omega
  have hd0 : decide (0 ≤ periods) = false := by simp; omega
  clear hK c1 hk hne ha hb cs hs hd hM c3 hw0
  go_enter Try.func7, Try.ntmps7
  go_wp2_with (first
    | (go_at_call 10; refine (RetB.grown (refValid_any e _)).mono ?_; rintro e' w' ⟨rfl, g, rfl⟩)
    | (go_at_call 18; (with_reducible refine (RetB.grown (refPoint_any p _)).mono ?_); rintro e' w' ⟨rfl, g, rfl⟩)
    | (go_at_call 14; (with_reducible refine (RetB.grown ((C1 _).out)).mono ?_); rintro e' w' ⟨rfl, g, rfl⟩)
    | (refine wp_region_xt (by kernel_rfl) (by kernel_rfl) ?_; (repeat (go_big_quiet_step (first | (go_at_call 10; exact RetB.quiet (refValid_any e _)) | (go_at_call 18; (with_reducible exact RetB.quiet (refPoint_any p _))) | (go_at_call 14; (with_reducible exact RetB.quiet ((C1 _).out)))))); refine wpQuiet_nil ?_; intro g))
  all_goals (refine (RetB.grown (refPoint_any q _)).mono ?_; rintro e' w' ⟨rfl, g, rfl⟩)
  all_goals go_wp2_with fail
  all_goals (refine (RetB.grown ((CS _).out)).mono ?_; rintro e' w' ⟨rfl, g, rfl⟩)
  all_goals go_wp2_with fail
  all_goals (refine (RetB.grown ((C3 _).out)).mono ?_; rintro e' w' ⟨rfl, g, rfl⟩)
  all_goals go_wp2_with fail
  all_goals (refine (RetB.grown ((C4 _).out)).mono ?_; rintro e' w' ⟨rfl, g, rfl⟩)
  all_goals go_wp2_with fail
  all_goals (refine (RetB.grown (known_any _)).mono ?_; rintro e' w' ⟨rfl, g, rfl⟩)
  all_goals go_wp2_with fail
  all_goals go_ret
  all_goals exact RetB.of rfl (by repeat' (first | exact Below.refl _ _ | assumption | refine Below.xt ?_ ?_ _ | refine Below.alloc ?_ ?_ _ | refine Below.drew ?_ | refine Below.setCell ?_ ?_ _ | (simp; done) | (simp; omega)))

set_option maxRecDepth 100000 in
set_option maxHeartbeats 3200000 in
theorem chase0_far_b (e : Eff) (index : Int) (p : V3) (time periods : Int) (q : V3) (w : World) (ha : e.a.ok) (hb : e.b.ok) (oi : I64 index) (hv : effValid e = true) (hp : point p = true) (hi : 0 ≤ index) (h1 : e.fr ≤ time) (h2 : time < e.to) (hk : e.kind = 2) (hw0 : e.width = 0) (n0 : 0 ≤ periods) (hn : (e.to - 1 - time) / e.period < periods) (hq : point q = false) :
    Calls Try.prog 7 #[.agg #[.int .i64 e.kind, .int .i64 e.fr, .int .i64 e.to, .int .i64 e.period, .int .i64 e.width, .int .i64 e.along.x, .int .i64 e.along.y, .int .i64 e.along.z, .int .i64 e.scale, .int .i64 e.seed, .int .u8 e.a.r, .int .u8 e.a.g, .int .u8 e.a.b, .int .u8 e.b.r, .int .u8 e.b.g, .int .u8 e.b.b], .int .i64 index, .agg #[.int .i64 p.x, .int .i64 p.y, .int .i64 p.z], .int .i64 time, .int .i64 periods, .agg #[.int .i64 q.x, .int .i64 q.y, .int .i64 q.z]] w (RetB (.bool true) w) := by
  have hK : colourAt e index p time = e.a := colour_none hv (by omega) hw0 index p time
  obtain ⟨s1, s2, s3, s4, s5⟩ := span_le hv
  obtain ⟨f1, f2⟩ := phase_le (p := p) hv
  have hne : e.kind ≠ 3 := by omega
  have c1 : ∀ w, Calls Try.prog 14 #[.agg #[.int .i64 e.kind, .int .i64 e.fr, .int .i64 e.to, .int .i64 e.period, .int .i64 e.width, .int .i64 e.along.x, .int .i64 e.along.y, .int .i64 e.along.z, .int .i64 e.scale, .int .i64 e.seed, .int .u8 e.a.r, .int .u8 e.a.g, .int .u8 e.a.b, .int .u8 e.b.r, .int .u8 e.b.g, .int .u8 e.b.b], .int .i64 index, .agg #[.int .i64 p.x, .int .i64 p.y, .int .i64 p.z], .int .i64 time] w (RetB (.tuple #[.agg #[.int .u8 e.a.r, .int .u8 e.a.g, .int .u8 e.a.b], .int .i64 0]) w) := fun w => by
    have c := At_fine e index p time w ha hb oi hv hi hp h1 h2
    rw [hK] at c
    exact c
  have C1 := fun w => Lib.hid (c1 w)
  have C4 := fun w => Lib.hid (Phase_fine e p w hv hp)
  have k3 : (e.kind == 3) = false := by simp [hk]
  have k1 : (e.kind == 1) = false := by simp [hk]
  have b0 : (e.width != 0) = false := by rw [bne_eq_false_iff_eq]; omega
  have b1 : (e.width != e.period) = true := by rw [bne_iff_ne]; omega
  clear hK c1 hk hne ha hb hw0
  go_enter Try.func7, Try.ntmps7
  go_wp2_with (first
    | (go_at_call 10; refine (RetB.grown (refValid_any e _)).mono ?_; rintro e' w' ⟨rfl, g, rfl⟩)
    | (go_at_call 18; (with_reducible refine (RetB.grown (refPoint_any p _)).mono ?_); rintro e' w' ⟨rfl, g, rfl⟩)
    | (go_at_call 14; (with_reducible refine (RetB.grown ((C1 _).out)).mono ?_); rintro e' w' ⟨rfl, g, rfl⟩)
    | (refine wp_region_xt (by kernel_rfl) (by kernel_rfl) ?_; (repeat (go_big_quiet_step (first | (go_at_call 10; exact RetB.quiet (refValid_any e _)) | (go_at_call 18; (with_reducible exact RetB.quiet (refPoint_any p _))) | (go_at_call 14; (with_reducible exact RetB.quiet ((C1 _).out)))))); refine wpQuiet_nil ?_; intro g))
  all_goals first | (exfalso; omega) | skip
  all_goals (refine (RetB.grown (refPoint_any q _)).mono ?_; rintro e' w' ⟨rfl, g, rfl⟩)
  all_goals go_wp2_with fail
  all_goals (refine (RetB.grown ((C4 _).out)).mono ?_; rintro e' w' ⟨rfl, g, rfl⟩)
  all_goals go_wp2_with fail
  all_goals (refine (RetB.grown (known_any _)).mono ?_; rintro e' w' ⟨rfl, g, rfl⟩)
  all_goals go_wp2_with fail
  all_goals go_ret
  all_goals exact RetB.of rfl (by repeat' (first | exact Below.refl _ _ | assumption | refine Below.xt ?_ ?_ _ | refine Below.alloc ?_ ?_ _ | refine Below.drew ?_ | refine Below.setCell ?_ ?_ _ | (simp; done) | (simp; omega)))

set_option maxRecDepth 100000 in
set_option maxHeartbeats 3200000 in
theorem chase0_out_b (e : Eff) (index : Int) (p : V3) (time periods : Int) (q : V3) (w : World) (ha : e.a.ok) (hb : e.b.ok) (oi : I64 index) (hv : effValid e = true) (hp : point p = true) (hi : 0 ≤ index) (h1 : e.fr ≤ time) (h2 : time < e.to) (hk : e.kind = 2) (hw0 : e.width = 0) (n0 : 0 ≤ periods) (hn : (e.to - 1 - time) / e.period < periods) (hq : point q = true) (hs : point (vplus p q) = false) :
    Calls Try.prog 7 #[.agg #[.int .i64 e.kind, .int .i64 e.fr, .int .i64 e.to, .int .i64 e.period, .int .i64 e.width, .int .i64 e.along.x, .int .i64 e.along.y, .int .i64 e.along.z, .int .i64 e.scale, .int .i64 e.seed, .int .u8 e.a.r, .int .u8 e.a.g, .int .u8 e.a.b, .int .u8 e.b.r, .int .u8 e.b.g, .int .u8 e.b.b], .int .i64 index, .agg #[.int .i64 p.x, .int .i64 p.y, .int .i64 p.z], .int .i64 time, .int .i64 periods, .agg #[.int .i64 q.x, .int .i64 q.y, .int .i64 q.z]] w (RetB (.bool true) w) := by
  have hK : colourAt e index p time = e.a := colour_none hv (by omega) hw0 index p time
  obtain ⟨s1, s2, s3, s4, s5⟩ := span_le hv
  obtain ⟨f1, f2⟩ := phase_le (p := p) hv
  have hne : e.kind ≠ 3 := by omega
  have c1 : ∀ w, Calls Try.prog 14 #[.agg #[.int .i64 e.kind, .int .i64 e.fr, .int .i64 e.to, .int .i64 e.period, .int .i64 e.width, .int .i64 e.along.x, .int .i64 e.along.y, .int .i64 e.along.z, .int .i64 e.scale, .int .i64 e.seed, .int .u8 e.a.r, .int .u8 e.a.g, .int .u8 e.a.b, .int .u8 e.b.r, .int .u8 e.b.g, .int .u8 e.b.b], .int .i64 index, .agg #[.int .i64 p.x, .int .i64 p.y, .int .i64 p.z], .int .i64 time] w (RetB (.tuple #[.agg #[.int .u8 e.a.r, .int .u8 e.a.g, .int .u8 e.a.b], .int .i64 0]) w) := fun w => by
    have c := At_fine e index p time w ha hb oi hv hi hp h1 h2
    rw [hK] at c
    exact c
  have C1 := fun w => Lib.hid (c1 w)
  have C4 := fun w => Lib.hid (Phase_fine e p w hv hp)
  obtain ⟨⟨x1, x2⟩, ⟨y1, y2⟩, z1, z2⟩ := point_iff.1 hp
  obtain ⟨⟨x3, x4⟩, ⟨y3, y4⟩, z3, z4⟩ := point_iff.1 hq
  have cs : ∀ w, Calls Try.prog 18 #[.agg #[.int .i64 (p.x + q.x), .int .i64 (p.y + q.y), .int .i64 (p.z + q.z)]] w (RetB (.bool false) w) := fun w => by
    rw [← hs]; exact refPoint_any (vplus p q) w
  have CS := fun w => Lib.hid (cs w)
  have k3 : (e.kind == 3) = false := by simp [hk]
  have k1 : (e.kind == 1) = false := by simp [hk]
  have b0 : (e.width != 0) = false := by rw [bne_eq_false_iff_eq]; omega
  have b1 : (e.width != e.period) = true := by rw [bne_iff_ne]; omega
  clear hK c1 hk hne ha hb cs hs hw0
  go_enter Try.func7, Try.ntmps7
  go_wp2_with (first
    | (go_at_call 10; refine (RetB.grown (refValid_any e _)).mono ?_; rintro e' w' ⟨rfl, g, rfl⟩)
    | (go_at_call 18; (with_reducible refine (RetB.grown (refPoint_any p _)).mono ?_); rintro e' w' ⟨rfl, g, rfl⟩)
    | (go_at_call 14; (with_reducible refine (RetB.grown ((C1 _).out)).mono ?_); rintro e' w' ⟨rfl, g, rfl⟩)
    | (refine wp_region_xt (by kernel_rfl) (by kernel_rfl) ?_; (repeat (go_big_quiet_step (first | (go_at_call 10; exact RetB.quiet (refValid_any e _)) | (go_at_call 18; (with_reducible exact RetB.quiet (refPoint_any p _))) | (go_at_call 14; (with_reducible exact RetB.quiet ((C1 _).out)))))); refine wpQuiet_nil ?_; intro g))
  all_goals first | (exfalso; omega) | skip
  all_goals (refine (RetB.grown (refPoint_any q _)).mono ?_; rintro e' w' ⟨rfl, g, rfl⟩)
  all_goals go_wp2_with fail
  all_goals (refine (RetB.grown ((CS _).out)).mono ?_; rintro e' w' ⟨rfl, g, rfl⟩)
  all_goals go_wp2_with fail
  all_goals (refine (RetB.grown ((C4 _).out)).mono ?_; rintro e' w' ⟨rfl, g, rfl⟩)
  all_goals go_wp2_with fail
  all_goals (refine (RetB.grown (known_any _)).mono ?_; rintro e' w' ⟨rfl, g, rfl⟩)
  all_goals go_wp2_with fail
  all_goals go_ret
  all_goals exact RetB.of rfl (by repeat' (first | exact Below.refl _ _ | assumption | refine Below.xt ?_ ?_ _ | refine Below.alloc ?_ ?_ _ | refine Below.drew ?_ | refine Below.setCell ?_ ?_ _ | (simp; done) | (simp; omega)))

set_option maxRecDepth 100000 in
set_option maxHeartbeats 3200000 in
theorem chase0_odd_b (e : Eff) (index : Int) (p : V3) (time periods : Int) (q : V3) (w : World) (ha : e.a.ok) (hb : e.b.ok) (oi : I64 index) (hv : effValid e = true) (hp : point p = true) (hi : 0 ≤ index) (h1 : e.fr ≤ time) (h2 : time < e.to) (hk : e.kind = 2) (hw0 : e.width = 0) (n0 : 0 ≤ periods) (hn : (e.to - 1 - time) / e.period < periods) (hq : point q = true) (hs : point (vplus p q) = true) (hd : dot3 e.along q ≠ 0) :
    Calls Try.prog 7 #[.agg #[.int .i64 e.kind, .int .i64 e.fr, .int .i64 e.to, .int .i64 e.period, .int .i64 e.width, .int .i64 e.along.x, .int .i64 e.along.y, .int .i64 e.along.z, .int .i64 e.scale, .int .i64 e.seed, .int .u8 e.a.r, .int .u8 e.a.g, .int .u8 e.a.b, .int .u8 e.b.r, .int .u8 e.b.g, .int .u8 e.b.b], .int .i64 index, .agg #[.int .i64 p.x, .int .i64 p.y, .int .i64 p.z], .int .i64 time, .int .i64 periods, .agg #[.int .i64 q.x, .int .i64 q.y, .int .i64 q.z]] w (RetB (.bool true) w) := by
  have hK : colourAt e index p time = e.a := colour_none hv (by omega) hw0 index p time
  obtain ⟨s1, s2, s3, s4, s5⟩ := span_le hv
  obtain ⟨f1, f2⟩ := phase_le (p := p) hv
  have hne : e.kind ≠ 3 := by omega
  have c1 : ∀ w, Calls Try.prog 14 #[.agg #[.int .i64 e.kind, .int .i64 e.fr, .int .i64 e.to, .int .i64 e.period, .int .i64 e.width, .int .i64 e.along.x, .int .i64 e.along.y, .int .i64 e.along.z, .int .i64 e.scale, .int .i64 e.seed, .int .u8 e.a.r, .int .u8 e.a.g, .int .u8 e.a.b, .int .u8 e.b.r, .int .u8 e.b.g, .int .u8 e.b.b], .int .i64 index, .agg #[.int .i64 p.x, .int .i64 p.y, .int .i64 p.z], .int .i64 time] w (RetB (.tuple #[.agg #[.int .u8 e.a.r, .int .u8 e.a.g, .int .u8 e.a.b], .int .i64 0]) w) := fun w => by
    have c := At_fine e index p time w ha hb oi hv hi hp h1 h2
    rw [hK] at c
    exact c
  have C1 := fun w => Lib.hid (c1 w)
  have C4 := fun w => Lib.hid (Phase_fine e p w hv hp)
  obtain ⟨⟨x1, x2⟩, ⟨y1, y2⟩, z1, z2⟩ := point_iff.1 hp
  obtain ⟨⟨x3, x4⟩, ⟨y3, y4⟩, z3, z4⟩ := point_iff.1 hq
  have cs : ∀ w, Calls Try.prog 18 #[.agg #[.int .i64 (p.x + q.x), .int .i64 (p.y + q.y), .int .i64 (p.z + q.z)]] w (RetB (.bool true) w) := fun w => by
    rw [← hs]; exact refPoint_any (vplus p q) w
  have CS := fun w => Lib.hid (cs w)
  obtain ⟨⟨u1, u2⟩, ⟨u3, u4⟩, u5, u6⟩ := prods_le (moving_of hv hne).1 hq
  have bd : (e.along.x * q.x + e.along.y * q.y + e.along.z * q.z == 0) = false := by simpa [dot3] using hd
  have k3 : (e.kind == 3) = false := by simp [hk]
  have k1 : (e.kind == 1) = false := by simp [hk]
  have b0 : (e.width != 0) = false := by rw [bne_eq_false_iff_eq]; omega
  have b1 : (e.width != e.period) = true := by rw [bne_iff_ne]; omega
  clear hK c1 hk hne ha hb cs hs hd hw0
  go_enter Try.func7, Try.ntmps7
  go_wp2_with (first
    | (go_at_call 10; refine (RetB.grown (refValid_any e _)).mono ?_; rintro e' w' ⟨rfl, g, rfl⟩)
    | (go_at_call 18; (with_reducible refine (RetB.grown (refPoint_any p _)).mono ?_); rintro e' w' ⟨rfl, g, rfl⟩)
    | (go_at_call 14; (with_reducible refine (RetB.grown ((C1 _).out)).mono ?_); rintro e' w' ⟨rfl, g, rfl⟩)
    | (refine wp_region_xt (by kernel_rfl) (by kernel_rfl) ?_; (repeat (go_big_quiet_step (first | (go_at_call 10; exact RetB.quiet (refValid_any e _)) | (go_at_call 18; (with_reducible exact RetB.quiet (refPoint_any p _))) | (go_at_call 14; (with_reducible exact RetB.quiet ((C1 _).out)))))); refine wpQuiet_nil ?_; intro g))
  all_goals first | (exfalso; omega) | skip
  all_goals (refine (RetB.grown (refPoint_any q _)).mono ?_; rintro e' w' ⟨rfl, g, rfl⟩)
  all_goals go_wp2_with fail
  all_goals (refine (RetB.grown ((CS _).out)).mono ?_; rintro e' w' ⟨rfl, g, rfl⟩)
  all_goals go_wp2_with fail
  all_goals (refine (RetB.grown ((C4 _).out)).mono ?_; rintro e' w' ⟨rfl, g, rfl⟩)
  all_goals go_wp2_with fail
  all_goals (refine (RetB.grown (known_any _)).mono ?_; rintro e' w' ⟨rfl, g, rfl⟩)
  all_goals go_wp2_with fail
  all_goals go_ret
  all_goals exact RetB.of rfl (by repeat' (first | exact Below.refl _ _ | assumption | refine Below.xt ?_ ?_ _ | refine Below.alloc ?_ ?_ _ | refine Below.drew ?_ | refine Below.setCell ?_ ?_ _ | (simp; done) | (simp; omega)))

set_option maxRecDepth 100000 in
set_option maxHeartbeats 3200000 in
theorem chase0_same_b (e : Eff) (index : Int) (p : V3) (time periods : Int) (q : V3) (w : World) (ha : e.a.ok) (hb : e.b.ok) (oi : I64 index) (hv : effValid e = true) (hp : point p = true) (hi : 0 ≤ index) (h1 : e.fr ≤ time) (h2 : time < e.to) (hk : e.kind = 2) (hw0 : e.width = 0) (n0 : 0 ≤ periods) (hn : (e.to - 1 - time) / e.period < periods) (hq : point q = true) (hs : point (vplus p q) = true) (hd : dot3 e.along q = 0) :
    Calls Try.prog 7 #[.agg #[.int .i64 e.kind, .int .i64 e.fr, .int .i64 e.to, .int .i64 e.period, .int .i64 e.width, .int .i64 e.along.x, .int .i64 e.along.y, .int .i64 e.along.z, .int .i64 e.scale, .int .i64 e.seed, .int .u8 e.a.r, .int .u8 e.a.g, .int .u8 e.a.b, .int .u8 e.b.r, .int .u8 e.b.g, .int .u8 e.b.b], .int .i64 index, .agg #[.int .i64 p.x, .int .i64 p.y, .int .i64 p.z], .int .i64 time, .int .i64 periods, .agg #[.int .i64 q.x, .int .i64 q.y, .int .i64 q.z]] w (RetB (.bool true) w) := by
  have hK : colourAt e index p time = e.a := colour_none hv (by omega) hw0 index p time
  obtain ⟨s1, s2, s3, s4, s5⟩ := span_le hv
  obtain ⟨f1, f2⟩ := phase_le (p := p) hv
  have hne : e.kind ≠ 3 := by omega
  have c1 : ∀ w, Calls Try.prog 14 #[.agg #[.int .i64 e.kind, .int .i64 e.fr, .int .i64 e.to, .int .i64 e.period, .int .i64 e.width, .int .i64 e.along.x, .int .i64 e.along.y, .int .i64 e.along.z, .int .i64 e.scale, .int .i64 e.seed, .int .u8 e.a.r, .int .u8 e.a.g, .int .u8 e.a.b, .int .u8 e.b.r, .int .u8 e.b.g, .int .u8 e.b.b], .int .i64 index, .agg #[.int .i64 p.x, .int .i64 p.y, .int .i64 p.z], .int .i64 time] w (RetB (.tuple #[.agg #[.int .u8 e.a.r, .int .u8 e.a.g, .int .u8 e.a.b], .int .i64 0]) w) := fun w => by
    have c := At_fine e index p time w ha hb oi hv hi hp h1 h2
    rw [hK] at c
    exact c
  have C1 := fun w => Lib.hid (c1 w)
  have C4 := fun w => Lib.hid (Phase_fine e p w hv hp)
  obtain ⟨⟨x1, x2⟩, ⟨y1, y2⟩, z1, z2⟩ := point_iff.1 hp
  obtain ⟨⟨x3, x4⟩, ⟨y3, y4⟩, z3, z4⟩ := point_iff.1 hq
  have cs : ∀ w, Calls Try.prog 18 #[.agg #[.int .i64 (p.x + q.x), .int .i64 (p.y + q.y), .int .i64 (p.z + q.z)]] w (RetB (.bool true) w) := fun w => by
    rw [← hs]; exact refPoint_any (vplus p q) w
  have CS := fun w => Lib.hid (cs w)
  obtain ⟨⟨u1, u2⟩, ⟨u3, u4⟩, u5, u6⟩ := prods_le (moving_of hv hne).1 hq
  have bd : (e.along.x * q.x + e.along.y * q.y + e.along.z * q.z == 0) = true := by simpa [dot3] using hd
  have hM : colourAt e 0 (vplus p q) time = e.a := (colour_plus hne index 0 time hd).trans hK
  have c3 : ∀ w, Calls Try.prog 14 #[.agg #[.int .i64 e.kind, .int .i64 e.fr, .int .i64 e.to, .int .i64 e.period, .int .i64 e.width, .int .i64 e.along.x, .int .i64 e.along.y, .int .i64 e.along.z, .int .i64 e.scale, .int .i64 e.seed, .int .u8 e.a.r, .int .u8 e.a.g, .int .u8 e.a.b, .int .u8 e.b.r, .int .u8 e.b.g, .int .u8 e.b.b], .int .i64 0, .agg #[.int .i64 (p.x + q.x), .int .i64 (p.y + q.y), .int .i64 (p.z + q.z)], .int .i64 time] w (RetB (.tuple #[.agg #[.int .u8 e.a.r, .int .u8 e.a.g, .int .u8 e.a.b], .int .i64 0]) w) := fun w => by
    have c := At_fine e 0 (vplus p q) time w ha hb (by unfold I64; omega) hv (by omega) hs h1 h2
    rw [hM] at c
    exact c
  have C3 := fun w => Lib.hid (c3 w)
  have k3 : (e.kind == 3) = false := by simp [hk]
  have k1 : (e.kind == 1) = false := by simp [hk]
  have b0 : (e.width != 0) = false := by rw [bne_eq_false_iff_eq]; omega
  have b1 : (e.width != e.period) = true := by rw [bne_iff_ne]; omega
  clear hK c1 hk hne ha hb cs hs hd hM c3 hw0
  go_enter Try.func7, Try.ntmps7
  go_wp2_with (first
    | (go_at_call 10; refine (RetB.grown (refValid_any e _)).mono ?_; rintro e' w' ⟨rfl, g, rfl⟩)
    | (go_at_call 18; (with_reducible refine (RetB.grown (refPoint_any p _)).mono ?_); rintro e' w' ⟨rfl, g, rfl⟩)
    | (go_at_call 14; (with_reducible refine (RetB.grown ((C1 _).out)).mono ?_); rintro e' w' ⟨rfl, g, rfl⟩)
    | (refine wp_region_xt (by kernel_rfl) (by kernel_rfl) ?_; (repeat (go_big_quiet_step (first | (go_at_call 10; exact RetB.quiet (refValid_any e _)) | (go_at_call 18; (with_reducible exact RetB.quiet (refPoint_any p _))) | (go_at_call 14; (with_reducible exact RetB.quiet ((C1 _).out)))))); refine wpQuiet_nil ?_; intro g))
  all_goals first | (exfalso; omega) | skip
  all_goals (refine (RetB.grown (refPoint_any q _)).mono ?_; rintro e' w' ⟨rfl, g, rfl⟩)
  all_goals go_wp2_with fail
  all_goals (refine (RetB.grown ((CS _).out)).mono ?_; rintro e' w' ⟨rfl, g, rfl⟩)
  all_goals go_wp2_with fail
  all_goals (refine (RetB.grown ((C3 _).out)).mono ?_; rintro e' w' ⟨rfl, g, rfl⟩)
  all_goals go_wp2_with fail
  all_goals (refine (RetB.grown ((C4 _).out)).mono ?_; rintro e' w' ⟨rfl, g, rfl⟩)
  all_goals go_wp2_with fail
  all_goals (refine (RetB.grown (known_any _)).mono ?_; rintro e' w' ⟨rfl, g, rfl⟩)
  all_goals go_wp2_with fail
  all_goals go_ret
  all_goals exact RetB.of rfl (by repeat' (first | exact Below.refl _ _ | assumption | refine Below.xt ?_ ?_ _ | refine Below.alloc ?_ ?_ _ | refine Below.drew ?_ | refine Below.setCell ?_ ?_ _ | (simp; done) | (simp; omega)))

end Go.Proofs.Ytjnajibflalmbaa

/- The walk of the theorem of stage 29 (part): sparkles. Conditions stand in each theorem. -/
import Derived.Test.YtjnajibflalmbaaEffHW0
import Derived.Test.YtjnajibflalmbaaEffH
namespace Go.Proofs.Ytjnajibflalmbaa
open Go.RowKit
set_option linter.unusedVariables false
attribute [local go_sem ↓] ld16

set_option maxRecDepth 100000 in
set_option maxHeartbeats 3200000 in
theorem spark_none_q (e : Eff) (index : Int) (p : V3) (time periods : Int) (q : V3) (w : World) (ha : e.a.ok) (hb : e.b.ok) (oi : I64 index) (hv : effValid e = true) (hp : point p = true) (hi : 0 ≤ index) (h1 : e.fr ≤ time) (h2 : time < e.to) (hk : e.kind = 3) (hw0 : e.width = 0) (hq : point q = true) :
    Calls Try.prog 7 #[.agg #[.int .i64 e.kind, .int .i64 e.fr, .int .i64 e.to, .int .i64 e.period, .int .i64 e.width, .int .i64 e.along.x, .int .i64 e.along.y, .int .i64 e.along.z, .int .i64 e.scale, .int .i64 e.seed, .int .u8 e.a.r, .int .u8 e.a.g, .int .u8 e.a.b, .int .u8 e.b.r, .int .u8 e.b.g, .int .u8 e.b.b], .int .i64 index, .agg #[.int .i64 p.x, .int .i64 p.y, .int .i64 p.z], .int .i64 time, .int .i64 periods, .agg #[.int .i64 q.x, .int .i64 q.y, .int .i64 q.z]] w (RetB (.bool true) w) := by
  have hK : colourAt e index p time = e.a := colour_none hv (by omega) hw0 index p time
  obtain ⟨s1, s2, s3, s4, s5⟩ := span_le hv
  obtain ⟨t1, t2, t3⟩ := start_of hv h1
  have d1 : 0 ≤ (time - e.fr) / e.period := Int.ediv_nonneg (by omega) (by omega)
  obtain ⟨_, _, _, d2⟩ := sub_facts (p := p) hv h1 h2
  have d3 : 0 ≤ (time - e.fr) / e.period * e.period := by omega
  have d4 : (time - e.fr) / e.period * e.period ≤ 3600000 := by omega
  have c1 : ∀ w, Calls Try.prog 14 #[.agg #[.int .i64 e.kind, .int .i64 e.fr, .int .i64 e.to, .int .i64 e.period, .int .i64 e.width, .int .i64 e.along.x, .int .i64 e.along.y, .int .i64 e.along.z, .int .i64 e.scale, .int .i64 e.seed, .int .u8 e.a.r, .int .u8 e.a.g, .int .u8 e.a.b, .int .u8 e.b.r, .int .u8 e.b.g, .int .u8 e.b.b], .int .i64 index, .agg #[.int .i64 p.x, .int .i64 p.y, .int .i64 p.z], .int .i64 time] w (RetB (.tuple #[.agg #[.int .u8 e.a.r, .int .u8 e.a.g, .int .u8 e.a.b], .int .i64 0]) w) := fun w => by
    have c := At_fine e index p time w ha hb oi hv hi hp h1 h2
    rw [hK] at c
    exact c
  have hS : colourAt e index q (e.fr + (time - e.fr) / e.period * e.period) = e.a := (colour_spark hk index p q t1).trans hK
  have c2 : ∀ w, Calls Try.prog 14 #[.agg #[.int .i64 e.kind, .int .i64 e.fr, .int .i64 e.to, .int .i64 e.period, .int .i64 e.width, .int .i64 e.along.x, .int .i64 e.along.y, .int .i64 e.along.z, .int .i64 e.scale, .int .i64 e.seed, .int .u8 e.a.r, .int .u8 e.a.g, .int .u8 e.a.b, .int .u8 e.b.r, .int .u8 e.b.g, .int .u8 e.b.b], .int .i64 index, .agg #[.int .i64 q.x, .int .i64 q.y, .int .i64 q.z], .int .i64 (e.fr + (time - e.fr) / e.period * e.period)] w (RetB (.tuple #[.agg #[.int .u8 e.a.r, .int .u8 e.a.g, .int .u8 e.a.b], .int .i64 0]) w) := fun w => by
    have c := At_fine e index q (e.fr + (time - e.fr) / e.period * e.period) w ha hb oi hv hi hq t2 (by omega)
    rw [hS] at c
    exact c
  have C1 := fun w => Lib.hid (c1 w)
  have C2 := fun w => Lib.hid (c2 w)
  have k3 : (e.kind == 3) = true := by simp [hk]
  have b0 : (e.width != 0) = false := by simp [hw0]
  have b1 : (e.width != 1000) = true := by simp [hw0]
  clear hK c1 c2 t1 hk ha hb hw0 hS
  go_enter Try.func7, Try.ntmps7
  go_wp2_with (first
    | (go_at_call 10; refine (RetB.grown (refValid_any e _)).mono ?_; rintro e' w' ⟨rfl, g, rfl⟩)
    | (go_at_call 18; refine (RetB.grown (refPoint_any _ _)).mono ?_; rintro e' w' ⟨rfl, g, rfl⟩)
    | (go_at_call 14; (with_reducible refine (RetB.grown ((C1 _).out)).mono ?_); rintro e' w' ⟨rfl, g, rfl⟩)
    | (go_at_call 14; (with_reducible refine (RetB.grown ((C2 _).out)).mono ?_); rintro e' w' ⟨rfl, g, rfl⟩)
    | (go_at_call 11; refine (RetB.grown (known_any _)).mono ?_; rintro e' w' ⟨rfl, g, rfl⟩)
    | (refine wp_region_xt (by kernel_rfl) (by kernel_rfl) ?_; (repeat (go_big_quiet_step (first | (go_at_call 10; exact RetB.quiet (refValid_any e _)) | (go_at_call 18; exact RetB.quiet (refPoint_any _ _)) | (go_at_call 14; (with_reducible exact RetB.quiet ((C1 _).out))) | (go_at_call 14; (with_reducible exact RetB.quiet ((C2 _).out))) | (go_at_call 11; exact RetB.quiet (known_any _))))); refine wpQuiet_nil ?_; intro g))
  go_ret
  exact RetB.of rfl (by repeat' (first | exact Below.refl _ _ | assumption | refine Below.xt ?_ ?_ _ | refine Below.alloc ?_ ?_ _ | refine Below.drew ?_ | refine Below.setCell ?_ ?_ _ | (simp; done) | (simp; omega)))

set_option maxRecDepth 100000 in
set_option maxHeartbeats 3200000 in
theorem spark_none_p (e : Eff) (index : Int) (p : V3) (time periods : Int) (q : V3) (w : World) (ha : e.a.ok) (hb : e.b.ok) (oi : I64 index) (hv : effValid e = true) (hp : point p = true) (hi : 0 ≤ index) (h1 : e.fr ≤ time) (h2 : time < e.to) (hk : e.kind = 3) (hw0 : e.width = 0) (hq : point q = false) :
    Calls Try.prog 7 #[.agg #[.int .i64 e.kind, .int .i64 e.fr, .int .i64 e.to, .int .i64 e.period, .int .i64 e.width, .int .i64 e.along.x, .int .i64 e.along.y, .int .i64 e.along.z, .int .i64 e.scale, .int .i64 e.seed, .int .u8 e.a.r, .int .u8 e.a.g, .int .u8 e.a.b, .int .u8 e.b.r, .int .u8 e.b.g, .int .u8 e.b.b], .int .i64 index, .agg #[.int .i64 p.x, .int .i64 p.y, .int .i64 p.z], .int .i64 time, .int .i64 periods, .agg #[.int .i64 q.x, .int .i64 q.y, .int .i64 q.z]] w (RetB (.bool true) w) := by
  have hK : colourAt e index p time = e.a := colour_none hv (by omega) hw0 index p time
  obtain ⟨s1, s2, s3, s4, s5⟩ := span_le hv
  obtain ⟨t1, t2, t3⟩ := start_of hv h1
  have d1 : 0 ≤ (time - e.fr) / e.period := Int.ediv_nonneg (by omega) (by omega)
  obtain ⟨_, _, _, d2⟩ := sub_facts (p := p) hv h1 h2
  have d3 : 0 ≤ (time - e.fr) / e.period * e.period := by omega
  have d4 : (time - e.fr) / e.period * e.period ≤ 3600000 := by omega
  have c1 : ∀ w, Calls Try.prog 14 #[.agg #[.int .i64 e.kind, .int .i64 e.fr, .int .i64 e.to, .int .i64 e.period, .int .i64 e.width, .int .i64 e.along.x, .int .i64 e.along.y, .int .i64 e.along.z, .int .i64 e.scale, .int .i64 e.seed, .int .u8 e.a.r, .int .u8 e.a.g, .int .u8 e.a.b, .int .u8 e.b.r, .int .u8 e.b.g, .int .u8 e.b.b], .int .i64 index, .agg #[.int .i64 p.x, .int .i64 p.y, .int .i64 p.z], .int .i64 time] w (RetB (.tuple #[.agg #[.int .u8 e.a.r, .int .u8 e.a.g, .int .u8 e.a.b], .int .i64 0]) w) := fun w => by
    have c := At_fine e index p time w ha hb oi hv hi hp h1 h2
    rw [hK] at c
    exact c
  have c2 : ∀ w, Calls Try.prog 14 #[.agg #[.int .i64 e.kind, .int .i64 e.fr, .int .i64 e.to, .int .i64 e.period, .int .i64 e.width, .int .i64 e.along.x, .int .i64 e.along.y, .int .i64 e.along.z, .int .i64 e.scale, .int .i64 e.seed, .int .u8 e.a.r, .int .u8 e.a.g, .int .u8 e.a.b, .int .u8 e.b.r, .int .u8 e.b.g, .int .u8 e.b.b], .int .i64 index, .agg #[.int .i64 q.x, .int .i64 q.y, .int .i64 q.z], .int .i64 (e.fr + (time - e.fr) / e.period * e.period)] w (RetB (.tuple #[.agg #[.int .u8 black.r, .int .u8 black.g, .int .u8 black.b], .int .i64 2]) w) := fun w => At_arg e index q _ w (.inr (.inr hq))
  have C1 := fun w => Lib.hid (c1 w)
  have C2 := fun w => Lib.hid (c2 w)
  have k3 : (e.kind == 3) = true := by simp [hk]
  have b0 : (e.width != 0) = false := by simp [hw0]
  have b1 : (e.width != 1000) = true := by simp [hw0]
  clear hK c1 c2 t1 hk ha hb hw0
  go_enter Try.func7, Try.ntmps7
  go_wp2_with (first
    | (go_at_call 10; refine (RetB.grown (refValid_any e _)).mono ?_; rintro e' w' ⟨rfl, g, rfl⟩)
    | (go_at_call 18; refine (RetB.grown (refPoint_any _ _)).mono ?_; rintro e' w' ⟨rfl, g, rfl⟩)
    | (go_at_call 14; (with_reducible refine (RetB.grown ((C1 _).out)).mono ?_); rintro e' w' ⟨rfl, g, rfl⟩)
    | (go_at_call 14; (with_reducible refine (RetB.grown ((C2 _).out)).mono ?_); rintro e' w' ⟨rfl, g, rfl⟩)
    | (go_at_call 11; refine (RetB.grown (known_any _)).mono ?_; rintro e' w' ⟨rfl, g, rfl⟩)
    | (refine wp_region_xt (by kernel_rfl) (by kernel_rfl) ?_; (repeat (go_big_quiet_step (first | (go_at_call 10; exact RetB.quiet (refValid_any e _)) | (go_at_call 18; exact RetB.quiet (refPoint_any _ _)) | (go_at_call 14; (with_reducible exact RetB.quiet ((C1 _).out))) | (go_at_call 14; (with_reducible exact RetB.quiet ((C2 _).out))) | (go_at_call 11; exact RetB.quiet (known_any _))))); refine wpQuiet_nil ?_; intro g))
  go_ret
  exact RetB.of rfl (by repeat' (first | exact Below.refl _ _ | assumption | refine Below.xt ?_ ?_ _ | refine Below.alloc ?_ ?_ _ | refine Below.drew ?_ | refine Below.setCell ?_ ?_ _ | (simp; done) | (simp; omega)))

set_option maxRecDepth 100000 in
set_option maxHeartbeats 3200000 in
theorem spark_all_q (e : Eff) (index : Int) (p : V3) (time periods : Int) (q : V3) (w : World) (ha : e.a.ok) (hb : e.b.ok) (oi : I64 index) (hv : effValid e = true) (hp : point p = true) (hi : 0 ≤ index) (h1 : e.fr ≤ time) (h2 : time < e.to) (hk : e.kind = 3) (hw0 : e.width = 1000) (hq : point q = true) :
    Calls Try.prog 7 #[.agg #[.int .i64 e.kind, .int .i64 e.fr, .int .i64 e.to, .int .i64 e.period, .int .i64 e.width, .int .i64 e.along.x, .int .i64 e.along.y, .int .i64 e.along.z, .int .i64 e.scale, .int .i64 e.seed, .int .u8 e.a.r, .int .u8 e.a.g, .int .u8 e.a.b, .int .u8 e.b.r, .int .u8 e.b.g, .int .u8 e.b.b], .int .i64 index, .agg #[.int .i64 p.x, .int .i64 p.y, .int .i64 p.z], .int .i64 time, .int .i64 periods, .agg #[.int .i64 q.x, .int .i64 q.y, .int .i64 q.z]] w (RetB (.bool true) w) := by
  have hK : colourAt e index p time = e.b := colour_thousand hk hw0 index p time
  obtain ⟨s1, s2, s3, s4, s5⟩ := span_le hv
  obtain ⟨t1, t2, t3⟩ := start_of hv h1
  have d1 : 0 ≤ (time - e.fr) / e.period := Int.ediv_nonneg (by omega) (by omega)
  obtain ⟨_, _, _, d2⟩ := sub_facts (p := p) hv h1 h2
  have d3 : 0 ≤ (time - e.fr) / e.period * e.period := by omega
  have d4 : (time - e.fr) / e.period * e.period ≤ 3600000 := by omega
  have c1 : ∀ w, Calls Try.prog 14 #[.agg #[.int .i64 e.kind, .int .i64 e.fr, .int .i64 e.to, .int .i64 e.period, .int .i64 e.width, .int .i64 e.along.x, .int .i64 e.along.y, .int .i64 e.along.z, .int .i64 e.scale, .int .i64 e.seed, .int .u8 e.a.r, .int .u8 e.a.g, .int .u8 e.a.b, .int .u8 e.b.r, .int .u8 e.b.g, .int .u8 e.b.b], .int .i64 index, .agg #[.int .i64 p.x, .int .i64 p.y, .int .i64 p.z], .int .i64 time] w (RetB (.tuple #[.agg #[.int .u8 e.b.r, .int .u8 e.b.g, .int .u8 e.b.b], .int .i64 0]) w) := fun w => by
    have c := At_fine e index p time w ha hb oi hv hi hp h1 h2
    rw [hK] at c
    exact c
  have hS : colourAt e index q (e.fr + (time - e.fr) / e.period * e.period) = e.b := (colour_spark hk index p q t1).trans hK
  have c2 : ∀ w, Calls Try.prog 14 #[.agg #[.int .i64 e.kind, .int .i64 e.fr, .int .i64 e.to, .int .i64 e.period, .int .i64 e.width, .int .i64 e.along.x, .int .i64 e.along.y, .int .i64 e.along.z, .int .i64 e.scale, .int .i64 e.seed, .int .u8 e.a.r, .int .u8 e.a.g, .int .u8 e.a.b, .int .u8 e.b.r, .int .u8 e.b.g, .int .u8 e.b.b], .int .i64 index, .agg #[.int .i64 q.x, .int .i64 q.y, .int .i64 q.z], .int .i64 (e.fr + (time - e.fr) / e.period * e.period)] w (RetB (.tuple #[.agg #[.int .u8 e.b.r, .int .u8 e.b.g, .int .u8 e.b.b], .int .i64 0]) w) := fun w => by
    have c := At_fine e index q (e.fr + (time - e.fr) / e.period * e.period) w ha hb oi hv hi hq t2 (by omega)
    rw [hS] at c
    exact c
  have C1 := fun w => Lib.hid (c1 w)
  have C2 := fun w => Lib.hid (c2 w)
  have k3 : (e.kind == 3) = true := by simp [hk]
  have b0 : (e.width != 0) = true := by simp [hw0]
  have b1 : (e.width != 1000) = false := by simp [hw0]
  clear hK c1 c2 t1 hk ha hb hw0 hS
  go_enter Try.func7, Try.ntmps7
  go_wp2_with (first
    | (go_at_call 10; refine (RetB.grown (refValid_any e _)).mono ?_; rintro e' w' ⟨rfl, g, rfl⟩)
    | (go_at_call 18; refine (RetB.grown (refPoint_any _ _)).mono ?_; rintro e' w' ⟨rfl, g, rfl⟩)
    | (go_at_call 14; (with_reducible refine (RetB.grown ((C1 _).out)).mono ?_); rintro e' w' ⟨rfl, g, rfl⟩)
    | (go_at_call 14; (with_reducible refine (RetB.grown ((C2 _).out)).mono ?_); rintro e' w' ⟨rfl, g, rfl⟩)
    | (go_at_call 11; refine (RetB.grown (known_any _)).mono ?_; rintro e' w' ⟨rfl, g, rfl⟩)
    | (refine wp_region_xt (by kernel_rfl) (by kernel_rfl) ?_; (repeat (go_big_quiet_step (first | (go_at_call 10; exact RetB.quiet (refValid_any e _)) | (go_at_call 18; exact RetB.quiet (refPoint_any _ _)) | (go_at_call 14; (with_reducible exact RetB.quiet ((C1 _).out))) | (go_at_call 14; (with_reducible exact RetB.quiet ((C2 _).out))) | (go_at_call 11; exact RetB.quiet (known_any _))))); refine wpQuiet_nil ?_; intro g))
  go_ret
  exact RetB.of rfl (by repeat' (first | exact Below.refl _ _ | assumption | refine Below.xt ?_ ?_ _ | refine Below.alloc ?_ ?_ _ | refine Below.drew ?_ | refine Below.setCell ?_ ?_ _ | (simp; done) | (simp; omega)))

set_option maxRecDepth 100000 in
set_option maxHeartbeats 3200000 in
theorem spark_all_p (e : Eff) (index : Int) (p : V3) (time periods : Int) (q : V3) (w : World) (ha : e.a.ok) (hb : e.b.ok) (oi : I64 index) (hv : effValid e = true) (hp : point p = true) (hi : 0 ≤ index) (h1 : e.fr ≤ time) (h2 : time < e.to) (hk : e.kind = 3) (hw0 : e.width = 1000) (hq : point q = false) :
    Calls Try.prog 7 #[.agg #[.int .i64 e.kind, .int .i64 e.fr, .int .i64 e.to, .int .i64 e.period, .int .i64 e.width, .int .i64 e.along.x, .int .i64 e.along.y, .int .i64 e.along.z, .int .i64 e.scale, .int .i64 e.seed, .int .u8 e.a.r, .int .u8 e.a.g, .int .u8 e.a.b, .int .u8 e.b.r, .int .u8 e.b.g, .int .u8 e.b.b], .int .i64 index, .agg #[.int .i64 p.x, .int .i64 p.y, .int .i64 p.z], .int .i64 time, .int .i64 periods, .agg #[.int .i64 q.x, .int .i64 q.y, .int .i64 q.z]] w (RetB (.bool true) w) := by
  have hK : colourAt e index p time = e.b := colour_thousand hk hw0 index p time
  obtain ⟨s1, s2, s3, s4, s5⟩ := span_le hv
  obtain ⟨t1, t2, t3⟩ := start_of hv h1
  have d1 : 0 ≤ (time - e.fr) / e.period := Int.ediv_nonneg (by omega) (by omega)
  obtain ⟨_, _, _, d2⟩ := sub_facts (p := p) hv h1 h2
  have d3 : 0 ≤ (time - e.fr) / e.period * e.period := by omega
  have d4 : (time - e.fr) / e.period * e.period ≤ 3600000 := by omega
  have c1 : ∀ w, Calls Try.prog 14 #[.agg #[.int .i64 e.kind, .int .i64 e.fr, .int .i64 e.to, .int .i64 e.period, .int .i64 e.width, .int .i64 e.along.x, .int .i64 e.along.y, .int .i64 e.along.z, .int .i64 e.scale, .int .i64 e.seed, .int .u8 e.a.r, .int .u8 e.a.g, .int .u8 e.a.b, .int .u8 e.b.r, .int .u8 e.b.g, .int .u8 e.b.b], .int .i64 index, .agg #[.int .i64 p.x, .int .i64 p.y, .int .i64 p.z], .int .i64 time] w (RetB (.tuple #[.agg #[.int .u8 e.b.r, .int .u8 e.b.g, .int .u8 e.b.b], .int .i64 0]) w) := fun w => by
    have c := At_fine e index p time w ha hb oi hv hi hp h1 h2
    rw [hK] at c
    exact c
  have c2 : ∀ w, Calls Try.prog 14 #[.agg #[.int .i64 e.kind, .int .i64 e.fr, .int .i64 e.to, .int .i64 e.period, .int .i64 e.width, .int .i64 e.along.x, .int .i64 e.along.y, .int .i64 e.along.z, .int .i64 e.scale, .int .i64 e.seed, .int .u8 e.a.r, .int .u8 e.a.g, .int .u8 e.a.b, .int .u8 e.b.r, .int .u8 e.b.g, .int .u8 e.b.b], .int .i64 index, .agg #[.int .i64 q.x, .int .i64 q.y, .int .i64 q.z], .int .i64 (e.fr + (time - e.fr) / e.period * e.period)] w (RetB (.tuple #[.agg #[.int .u8 black.r, .int .u8 black.g, .int .u8 black.b], .int .i64 2]) w) := fun w => At_arg e index q _ w (.inr (.inr hq))
  have C1 := fun w => Lib.hid (c1 w)
  have C2 := fun w => Lib.hid (c2 w)
  have k3 : (e.kind == 3) = true := by simp [hk]
  have b0 : (e.width != 0) = true := by simp [hw0]
  have b1 : (e.width != 1000) = false := by simp [hw0]
  clear hK c1 c2 t1 hk ha hb hw0
  go_enter Try.func7, Try.ntmps7
  go_wp2_with (first
    | (go_at_call 10; refine (RetB.grown (refValid_any e _)).mono ?_; rintro e' w' ⟨rfl, g, rfl⟩)
    | (go_at_call 18; refine (RetB.grown (refPoint_any _ _)).mono ?_; rintro e' w' ⟨rfl, g, rfl⟩)
    | (go_at_call 14; (with_reducible refine (RetB.grown ((C1 _).out)).mono ?_); rintro e' w' ⟨rfl, g, rfl⟩)
    | (go_at_call 14; (with_reducible refine (RetB.grown ((C2 _).out)).mono ?_); rintro e' w' ⟨rfl, g, rfl⟩)
    | (go_at_call 11; refine (RetB.grown (known_any _)).mono ?_; rintro e' w' ⟨rfl, g, rfl⟩)
    | (refine wp_region_xt (by kernel_rfl) (by kernel_rfl) ?_; (repeat (go_big_quiet_step (first | (go_at_call 10; exact RetB.quiet (refValid_any e _)) | (go_at_call 18; exact RetB.quiet (refPoint_any _ _)) | (go_at_call 14; (with_reducible exact RetB.quiet ((C1 _).out))) | (go_at_call 14; (with_reducible exact RetB.quiet ((C2 _).out))) | (go_at_call 11; exact RetB.quiet (known_any _))))); refine wpQuiet_nil ?_; intro g))
  go_ret
  exact RetB.of rfl (by repeat' (first | exact Below.refl _ _ | assumption | refine Below.xt ?_ ?_ _ | refine Below.alloc ?_ ?_ _ | refine Below.drew ?_ | refine Below.setCell ?_ ?_ _ | (simp; done) | (simp; omega)))

set_option maxRecDepth 100000 in
set_option maxHeartbeats 3200000 in
theorem spark_some_q (e : Eff) (index : Int) (p : V3) (time periods : Int) (q : V3) (w : World) (ha : e.a.ok) (hb : e.b.ok) (oi : I64 index) (hv : effValid e = true) (hp : point p = true) (hi : 0 ≤ index) (h1 : e.fr ≤ time) (h2 : time < e.to) (hk : e.kind = 3) (hw0 : e.width ≠ 0) (hw1 : e.width ≠ 1000) (hq : point q = true) :
    Calls Try.prog 7 #[.agg #[.int .i64 e.kind, .int .i64 e.fr, .int .i64 e.to, .int .i64 e.period, .int .i64 e.width, .int .i64 e.along.x, .int .i64 e.along.y, .int .i64 e.along.z, .int .i64 e.scale, .int .i64 e.seed, .int .u8 e.a.r, .int .u8 e.a.g, .int .u8 e.a.b, .int .u8 e.b.r, .int .u8 e.b.g, .int .u8 e.b.b], .int .i64 index, .agg #[.int .i64 p.x, .int .i64 p.y, .int .i64 p.z], .int .i64 time, .int .i64 periods, .agg #[.int .i64 q.x, .int .i64 q.y, .int .i64 q.z]] w (RetB (.bool true) w) := by
  have hK : colourAt e index p time = colourAt e index p time := rfl
  obtain ⟨s1, s2, s3, s4, s5⟩ := span_le hv
  obtain ⟨t1, t2, t3⟩ := start_of hv h1
  have d1 : 0 ≤ (time - e.fr) / e.period := Int.ediv_nonneg (by omega) (by omega)
  obtain ⟨_, _, _, d2⟩ := sub_facts (p := p) hv h1 h2
  have d3 : 0 ≤ (time - e.fr) / e.period * e.period := by omega
  have d4 : (time - e.fr) / e.period * e.period ≤ 3600000 := by omega
  have c1 : ∀ w, Calls Try.prog 14 #[.agg #[.int .i64 e.kind, .int .i64 e.fr, .int .i64 e.to, .int .i64 e.period, .int .i64 e.width, .int .i64 e.along.x, .int .i64 e.along.y, .int .i64 e.along.z, .int .i64 e.scale, .int .i64 e.seed, .int .u8 e.a.r, .int .u8 e.a.g, .int .u8 e.a.b, .int .u8 e.b.r, .int .u8 e.b.g, .int .u8 e.b.b], .int .i64 index, .agg #[.int .i64 p.x, .int .i64 p.y, .int .i64 p.z], .int .i64 time] w (RetB (.tuple #[.agg #[.int .u8 ((colourAt e index p time)).r, .int .u8 ((colourAt e index p time)).g, .int .u8 ((colourAt e index p time)).b], .int .i64 0]) w) := fun w => by
    have c := At_fine e index p time w ha hb oi hv hi hp h1 h2
    exact c
  have hS : colourAt e index q (e.fr + (time - e.fr) / e.period * e.period) = colourAt e index p time := (colour_spark hk index p q t1).trans hK
  have c2 : ∀ w, Calls Try.prog 14 #[.agg #[.int .i64 e.kind, .int .i64 e.fr, .int .i64 e.to, .int .i64 e.period, .int .i64 e.width, .int .i64 e.along.x, .int .i64 e.along.y, .int .i64 e.along.z, .int .i64 e.scale, .int .i64 e.seed, .int .u8 e.a.r, .int .u8 e.a.g, .int .u8 e.a.b, .int .u8 e.b.r, .int .u8 e.b.g, .int .u8 e.b.b], .int .i64 index, .agg #[.int .i64 q.x, .int .i64 q.y, .int .i64 q.z], .int .i64 (e.fr + (time - e.fr) / e.period * e.period)] w (RetB (.tuple #[.agg #[.int .u8 ((colourAt e index p time)).r, .int .u8 ((colourAt e index p time)).g, .int .u8 ((colourAt e index p time)).b], .int .i64 0]) w) := fun w => by
    have c := At_fine e index q (e.fr + (time - e.fr) / e.period * e.period) w ha hb oi hv hi hq t2 (by omega)
    rw [hS] at c
    exact c
  have C1 := fun w => Lib.hid (c1 w)
  have C2 := fun w => Lib.hid (c2 w)
  have k3 : (e.kind == 3) = true := by simp [hk]
  have b0 : (e.width != 0) = true := by simp [hw0]
  have b1 : (e.width != 1000) = true := by simp [hw1]
  clear hK c1 c2 t1 hk ha hb hw0 hw1 hS
  go_enter Try.func7, Try.ntmps7
  go_wp2_with (first
    | (go_at_call 10; refine (RetB.grown (refValid_any e _)).mono ?_; rintro e' w' ⟨rfl, g, rfl⟩)
    | (go_at_call 18; refine (RetB.grown (refPoint_any _ _)).mono ?_; rintro e' w' ⟨rfl, g, rfl⟩)
    | (go_at_call 14; (with_reducible refine (RetB.grown ((C1 _).out)).mono ?_); rintro e' w' ⟨rfl, g, rfl⟩)
    | (go_at_call 14; (with_reducible refine (RetB.grown ((C2 _).out)).mono ?_); rintro e' w' ⟨rfl, g, rfl⟩)
    | (go_at_call 11; refine (RetB.grown (known_any _)).mono ?_; rintro e' w' ⟨rfl, g, rfl⟩)
    | (refine wp_region_xt (by kernel_rfl) (by kernel_rfl) ?_; (repeat (go_big_quiet_step (first | (go_at_call 10; exact RetB.quiet (refValid_any e _)) | (go_at_call 18; exact RetB.quiet (refPoint_any _ _)) | (go_at_call 14; (with_reducible exact RetB.quiet ((C1 _).out))) | (go_at_call 14; (with_reducible exact RetB.quiet ((C2 _).out))) | (go_at_call 11; exact RetB.quiet (known_any _))))); refine wpQuiet_nil ?_; intro g))
  go_ret
  exact RetB.of rfl (by repeat' (first | exact Below.refl _ _ | assumption | refine Below.xt ?_ ?_ _ | refine Below.alloc ?_ ?_ _ | refine Below.drew ?_ | refine Below.setCell ?_ ?_ _ | (simp; done) | (simp; omega)))

set_option maxRecDepth 100000 in
set_option maxHeartbeats 3200000 in
theorem spark_some_p (e : Eff) (index : Int) (p : V3) (time periods : Int) (q : V3) (w : World) (ha : e.a.ok) (hb : e.b.ok) (oi : I64 index) (hv : effValid e = true) (hp : point p = true) (hi : 0 ≤ index) (h1 : e.fr ≤ time) (h2 : time < e.to) (hk : e.kind = 3) (hw0 : e.width ≠ 0) (hw1 : e.width ≠ 1000) (hq : point q = false) :
    Calls Try.prog 7 #[.agg #[.int .i64 e.kind, .int .i64 e.fr, .int .i64 e.to, .int .i64 e.period, .int .i64 e.width, .int .i64 e.along.x, .int .i64 e.along.y, .int .i64 e.along.z, .int .i64 e.scale, .int .i64 e.seed, .int .u8 e.a.r, .int .u8 e.a.g, .int .u8 e.a.b, .int .u8 e.b.r, .int .u8 e.b.g, .int .u8 e.b.b], .int .i64 index, .agg #[.int .i64 p.x, .int .i64 p.y, .int .i64 p.z], .int .i64 time, .int .i64 periods, .agg #[.int .i64 q.x, .int .i64 q.y, .int .i64 q.z]] w (RetB (.bool true) w) := by
  have hK : colourAt e index p time = colourAt e index p time := rfl
  obtain ⟨s1, s2, s3, s4, s5⟩ := span_le hv
  obtain ⟨t1, t2, t3⟩ := start_of hv h1
  have d1 : 0 ≤ (time - e.fr) / e.period := Int.ediv_nonneg (by omega) (by omega)
  obtain ⟨_, _, _, d2⟩ := sub_facts (p := p) hv h1 h2
  have d3 : 0 ≤ (time - e.fr) / e.period * e.period := by omega
  have d4 : (time - e.fr) / e.period * e.period ≤ 3600000 := by omega
  have c1 : ∀ w, Calls Try.prog 14 #[.agg #[.int .i64 e.kind, .int .i64 e.fr, .int .i64 e.to, .int .i64 e.period, .int .i64 e.width, .int .i64 e.along.x, .int .i64 e.along.y, .int .i64 e.along.z, .int .i64 e.scale, .int .i64 e.seed, .int .u8 e.a.r, .int .u8 e.a.g, .int .u8 e.a.b, .int .u8 e.b.r, .int .u8 e.b.g, .int .u8 e.b.b], .int .i64 index, .agg #[.int .i64 p.x, .int .i64 p.y, .int .i64 p.z], .int .i64 time] w (RetB (.tuple #[.agg #[.int .u8 ((colourAt e index p time)).r, .int .u8 ((colourAt e index p time)).g, .int .u8 ((colourAt e index p time)).b], .int .i64 0]) w) := fun w => by
    have c := At_fine e index p time w ha hb oi hv hi hp h1 h2
    exact c
  have c2 : ∀ w, Calls Try.prog 14 #[.agg #[.int .i64 e.kind, .int .i64 e.fr, .int .i64 e.to, .int .i64 e.period, .int .i64 e.width, .int .i64 e.along.x, .int .i64 e.along.y, .int .i64 e.along.z, .int .i64 e.scale, .int .i64 e.seed, .int .u8 e.a.r, .int .u8 e.a.g, .int .u8 e.a.b, .int .u8 e.b.r, .int .u8 e.b.g, .int .u8 e.b.b], .int .i64 index, .agg #[.int .i64 q.x, .int .i64 q.y, .int .i64 q.z], .int .i64 (e.fr + (time - e.fr) / e.period * e.period)] w (RetB (.tuple #[.agg #[.int .u8 black.r, .int .u8 black.g, .int .u8 black.b], .int .i64 2]) w) := fun w => At_arg e index q _ w (.inr (.inr hq))
  have C1 := fun w => Lib.hid (c1 w)
  have C2 := fun w => Lib.hid (c2 w)
  have k3 : (e.kind == 3) = true := by simp [hk]
  have b0 : (e.width != 0) = true := by simp [hw0]
  have b1 : (e.width != 1000) = true := by simp [hw1]
  clear hK c1 c2 t1 hk ha hb hw0 hw1
  go_enter Try.func7, Try.ntmps7
  go_wp2_with (first
    | (go_at_call 10; refine (RetB.grown (refValid_any e _)).mono ?_; rintro e' w' ⟨rfl, g, rfl⟩)
    | (go_at_call 18; refine (RetB.grown (refPoint_any _ _)).mono ?_; rintro e' w' ⟨rfl, g, rfl⟩)
    | (go_at_call 14; (with_reducible refine (RetB.grown ((C1 _).out)).mono ?_); rintro e' w' ⟨rfl, g, rfl⟩)
    | (go_at_call 14; (with_reducible refine (RetB.grown ((C2 _).out)).mono ?_); rintro e' w' ⟨rfl, g, rfl⟩)
    | (go_at_call 11; refine (RetB.grown (known_any _)).mono ?_; rintro e' w' ⟨rfl, g, rfl⟩)
    | (refine wp_region_xt (by kernel_rfl) (by kernel_rfl) ?_; (repeat (go_big_quiet_step (first | (go_at_call 10; exact RetB.quiet (refValid_any e _)) | (go_at_call 18; exact RetB.quiet (refPoint_any _ _)) | (go_at_call 14; (with_reducible exact RetB.quiet ((C1 _).out))) | (go_at_call 14; (with_reducible exact RetB.quiet ((C2 _).out))) | (go_at_call 11; exact RetB.quiet (known_any _))))); refine wpQuiet_nil ?_; intro g))
  go_ret
  exact RetB.of rfl (by repeat' (first | exact Below.refl _ _ | assumption | refine Below.xt ?_ ?_ _ | refine Below.alloc ?_ ?_ _ | refine Below.drew ?_ | refine Below.setCell ?_ ?_ _ | (simp; done) | (simp; omega)))

end Go.Proofs.Ytjnajibflalmbaa

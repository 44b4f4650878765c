
/- Walks: the colour of an aircraft at a time, by the program. Conditions stand in each theorem. -/
import Derived.Test.YtiikejhkhdmgeaaGreatEffW6
namespace Go.Proofs.YtiikejhkhdmgeaaGreat
open Go.RowKit
set_option linter.unusedVariables false
attribute [local go_sem ↓] ld16

set_option maxHeartbeats 1600000 in
theorem At_wave (e : Eff) (i : Int) (p : V3) (t : Int) (w : World) (ha : e.a.ok) (hb : e.b.ok) (hv : effValid e = true) (hi : 0 ≤ i) (hp : point p = true) (h1 : e.fr ≤ t) (h2 : t < e.to) (hk : e.kind = 1) :
    Calls Tryz.prog 30 #[.agg #[.int .i64 e.kind, .int .i64 e.fr, .int .i64 e.to, .int .i64 e.period, .int .i64 e.width, .int .i64 e.along.x, .int .i64 e.along.y, .int .i64 e.along.z, .int .i64 e.scale, .int .i64 e.seed, .int .u8 e.a.r, .int .u8 e.a.g, .int .u8 e.a.b, .int .u8 e.b.r, .int .u8 e.b.g, .int .u8 e.b.b], .int .i64 i, .agg #[.int .i64 p.x, .int .i64 p.y, .int .i64 p.z], .int .i64 t] w (RetB (.tuple #[.agg #[.int .u8 (colourAt e i p t).r, .int .u8 (colourAt e i p t).g, .int .u8 (colourAt e i p t).b], .int .i64 0]) w) := by
  have hc : colourAt e i p t = mixCol e.a e.b (waveN ((t - e.fr + phase e p) % e.period) e.period) e.period := by simp [colourAt, hk]
  rw [hc]
  clear hc
  obtain ⟨s1, s2, s3, s4, s5⟩ := span_le hv
  obtain ⟨q1, q2⟩ := phase_le (p := p) hv
  have m1 := Int.emod_nonneg (t - e.fr + phase e p) (show e.period ≠ 0 by omega)
  have m2 := Int.emod_lt_of_pos (t - e.fr + phase e p) (show 0 < e.period by omega)
  have hk1 : (e.kind == 1) = true := by simp [hk]
  have C1 := fun w => Lib.hid (phase_any e p w hv hp)
  have C2 := fun w => Lib.hid (Mix_ok e.a e.b (waveN ((t - e.fr + phase e p) % e.period) e.period) e.period w ha hb s4 s5 (waveN_le m1 m2).1 (waveN_le m1 m2).2)
  have hw : waveN ((t - e.fr + phase e p) % e.period) e.period = if 2 * ((t - e.fr + phase e p) % e.period) ≤ 2 * (e.period - (t - e.fr + phase e p) % e.period) then 2 * ((t - e.fr + phase e p) % e.period) else 2 * (e.period - (t - e.fr + phase e p) % e.period) := rfl
  generalize waveN ((t - e.fr + phase e p) % e.period) e.period = n at *
  clear ha hb hk
  by_cases hm : 2 * ((t - e.fr + phase e p) % e.period) ≤ 2 * (e.period - (t - e.fr + phase e p) % e.period)
  · rw [if_pos hm] at hw
    subst hw
    go_enter Tryz.func30, Tryz.ntmps30
    go_wp2_with (first
      | (go_at_call 49; refine (RetB.grown (valid_any e _)).mono ?_; rintro e' w' ⟨rfl, g, rfl⟩)
      | (go_at_call 50; refine (RetB.grown (point_any p _)).mono ?_; rintro e' w' ⟨rfl, g, rfl⟩)
      | (go_at_call 51; refine (RetB.grown ((C1 _).out)).mono ?_; rintro e' w' ⟨rfl, g, rfl⟩)
      | (go_at_call 52; refine (RetB.grown ((C2 _).out)).mono ?_; rintro e' w' ⟨rfl, g, rfl⟩)
      | (refine wp_region_xt (by kernel_rfl) (by kernel_rfl) ?_; (repeat (go_big_quiet_step (first | (go_at_call 49; exact RetB.quiet (valid_any e _)) | (go_at_call 50; exact RetB.quiet (point_any p _)) | (go_at_call 51; exact RetB.quiet ((C1 _).out)) | (go_at_call 52; exact RetB.quiet ((C2 _).out))))); refine wpQuiet_nil ?_; intro g))
    refine bodyPost_ret (v := .tuple #[.agg #[.int .u8 (mixCol e.a e.b (2 * ((t - e.fr + phase e p) % e.period)) e.period).r, .int .u8 (mixCol e.a e.b (2 * ((t - e.fr + phase e p) % e.period)) e.period).g, .int .u8 (mixCol e.a e.b (2 * ((t - e.fr + phase e p) % e.period)) e.period).b], .int .i64 0]) (by simp [results, Tryz.results30, go_sem]) rfl ?_
    exact RetB.of rfl (by repeat' (first | exact Below.refl _ _ | assumption | refine Below.xt ?_ ?_ _ | refine Below.alloc ?_ ?_ _ | refine Below.drew ?_ | refine Below.setCell ?_ ?_ _ | (simp; done) | (simp; omega)))
  · rw [if_neg hm] at hw
    subst hw
    go_enter Tryz.func30, Tryz.ntmps30
    go_wp2_with (first
      | (go_at_call 49; refine (RetB.grown (valid_any e _)).mono ?_; rintro e' w' ⟨rfl, g, rfl⟩)
      | (go_at_call 50; refine (RetB.grown (point_any p _)).mono ?_; rintro e' w' ⟨rfl, g, rfl⟩)
      | (go_at_call 51; refine (RetB.grown ((C1 _).out)).mono ?_; rintro e' w' ⟨rfl, g, rfl⟩)
      | (go_at_call 52; refine (RetB.grown ((C2 _).out)).mono ?_; rintro e' w' ⟨rfl, g, rfl⟩)
      | (refine wp_region_xt (by kernel_rfl) (by kernel_rfl) ?_; (repeat (go_big_quiet_step (first | (go_at_call 49; exact RetB.quiet (valid_any e _)) | (go_at_call 50; exact RetB.quiet (point_any p _)) | (go_at_call 51; exact RetB.quiet ((C1 _).out)) | (go_at_call 52; exact RetB.quiet ((C2 _).out))))); refine wpQuiet_nil ?_; intro g))
    refine bodyPost_ret (v := .tuple #[.agg #[.int .u8 (mixCol e.a e.b (2 * (e.period - (t - e.fr + phase e p) % e.period)) e.period).r, .int .u8 (mixCol e.a e.b (2 * (e.period - (t - e.fr + phase e p) % e.period)) e.period).g, .int .u8 (mixCol e.a e.b (2 * (e.period - (t - e.fr + phase e p) % e.period)) e.period).b], .int .i64 0]) (by simp [results, Tryz.results30, go_sem]) rfl ?_
    exact RetB.of rfl (by repeat' (first | exact Below.refl _ _ | assumption | refine Below.xt ?_ ?_ _ | refine Below.alloc ?_ ?_ _ | refine Below.drew ?_ | refine Below.setCell ?_ ?_ _ | (simp; done) | (simp; omega)))

theorem sub_facts {e : Eff} {p : V3} {t : Int} (hv : effValid e = true) (h1 : e.fr ≤ t) (h2 : t < e.to) :
    0 ≤ (t - e.fr + phase e p) % e.period ∧ (t - e.fr + phase e p) % e.period < e.period ∧ 0 ≤ (t - e.fr) / e.period ∧ (t - e.fr) / e.period ≤ 3600000 := by
  obtain ⟨s1, s2, s3, s4, s5⟩ := span_le hv
  refine ⟨Int.emod_nonneg _ (by omega), Int.emod_lt_of_pos _ (by omega), Int.ediv_nonneg (by omega) (by omega), ?_⟩
  have h : (t - e.fr) < (3600000 + 1) * e.period := by
    have : (3600000 + 1) * 1 ≤ (3600000 + 1) * e.period := Int.mul_le_mul_of_nonneg_left (by omega) (by omega)
    omega
  have := Int.ediv_lt_of_lt_mul (by omega) h
  omega

set_option maxHeartbeats 1600000 in
theorem At_chase (e : Eff) (i : Int) (p : V3) (t : Int) (w : World) (hv : effValid e = true) (hi : 0 ≤ i) (hp : point p = true) (h1 : e.fr ≤ t) (h2 : t < e.to) (hk : e.kind = 2) :
    Calls Tryz.prog 30 #[.agg #[.int .i64 e.kind, .int .i64 e.fr, .int .i64 e.to, .int .i64 e.period, .int .i64 e.width, .int .i64 e.along.x, .int .i64 e.along.y, .int .i64 e.along.z, .int .i64 e.scale, .int .i64 e.seed, .int .u8 e.a.r, .int .u8 e.a.g, .int .u8 e.a.b, .int .u8 e.b.r, .int .u8 e.b.g, .int .u8 e.b.b], .int .i64 i, .agg #[.int .i64 p.x, .int .i64 p.y, .int .i64 p.z], .int .i64 t] w (RetB (.tuple #[.agg #[.int .u8 (colourAt e i p t).r, .int .u8 (colourAt e i p t).g, .int .u8 (colourAt e i p t).b], .int .i64 0]) w) := by
  have hc : colourAt e i p t = if (t - e.fr + phase e p) % e.period < e.width then e.b else e.a := by simp [colourAt, litAt, hk]
  rw [hc]
  clear hc
  obtain ⟨s1, s2, s3, s4, s5⟩ := span_le hv
  obtain ⟨q1, q2⟩ := phase_le (p := p) hv
  obtain ⟨m1, m2, m3, m4⟩ := sub_facts (p := p) hv h1 h2
  have hk1 : (e.kind == 1) = false := by simp [hk]
  have hk3 : (e.kind == 3) = false := by simp [hk]
  have C1 := fun w => Lib.hid (phase_any e p w hv hp)
  clear hk
  by_cases hm : (t - e.fr + phase e p) % e.period < e.width
  · rw [if_pos hm]
    go_enter Tryz.func30, Tryz.ntmps30
    go_wp2_with (first
      | (go_at_call 49; refine (RetB.grown (valid_any e _)).mono ?_; rintro e' w' ⟨rfl, g, rfl⟩)
      | (go_at_call 50; refine (RetB.grown (point_any p _)).mono ?_; rintro e' w' ⟨rfl, g, rfl⟩)
      | (go_at_call 51; refine (RetB.grown ((C1 _).out)).mono ?_; rintro e' w' ⟨rfl, g, rfl⟩)
      | (refine wp_region_xt (by kernel_rfl) (by kernel_rfl) ?_; (repeat (go_big_quiet_step (first | (go_at_call 49; exact RetB.quiet (valid_any e _)) | (go_at_call 50; exact RetB.quiet (point_any p _)) | (go_at_call 51; exact RetB.quiet ((C1 _).out))))); refine wpQuiet_nil ?_; intro g))
    refine bodyPost_ret (v := .tuple #[.agg #[.int .u8 e.b.r, .int .u8 e.b.g, .int .u8 e.b.b], .int .i64 0]) (by simp [results, Tryz.results30, go_sem]) rfl ?_
    exact RetB.of rfl (by repeat' (first | exact Below.refl _ _ | assumption | refine Below.xt ?_ ?_ _ | refine Below.alloc ?_ ?_ _ | refine Below.drew ?_ | refine Below.setCell ?_ ?_ _ | (simp; done) | (simp; omega)))
  · rw [if_neg hm]
    go_enter Tryz.func30, Tryz.ntmps30
    go_wp2_with (first
      | (go_at_call 49; refine (RetB.grown (valid_any e _)).mono ?_; rintro e' w' ⟨rfl, g, rfl⟩)
      | (go_at_call 50; refine (RetB.grown (point_any p _)).mono ?_; rintro e' w' ⟨rfl, g, rfl⟩)
      | (go_at_call 51; refine (RetB.grown ((C1 _).out)).mono ?_; rintro e' w' ⟨rfl, g, rfl⟩)
      | (refine wp_region_xt (by kernel_rfl) (by kernel_rfl) ?_; (repeat (go_big_quiet_step (first | (go_at_call 49; exact RetB.quiet (valid_any e _)) | (go_at_call 50; exact RetB.quiet (point_any p _)) | (go_at_call 51; exact RetB.quiet ((C1 _).out))))); refine wpQuiet_nil ?_; intro g))
    refine bodyPost_ret (v := .tuple #[.agg #[.int .u8 e.a.r, .int .u8 e.a.g, .int .u8 e.a.b], .int .i64 0]) (by simp [results, Tryz.results30, go_sem]) rfl ?_
    exact RetB.of rfl (by repeat' (first | exact Below.refl _ _ | assumption | refine Below.xt ?_ ?_ _ | refine Below.alloc ?_ ?_ _ | refine Below.drew ?_ | refine Below.setCell ?_ ?_ _ | (simp; done) | (simp; omega)))

set_option maxHeartbeats 1600000 in
theorem At_sparkle (e : Eff) (i : Int) (p : V3) (t : Int) (w : World) (hv : effValid e = true) (hi : 0 ≤ i) (hi' : i ≤ 9223372036854775807) (hp : point p = true) (h1 : e.fr ≤ t) (h2 : t < e.to) (hk : e.kind = 3) :
    Calls Tryz.prog 30 #[.agg #[.int .i64 e.kind, .int .i64 e.fr, .int .i64 e.to, .int .i64 e.period, .int .i64 e.width, .int .i64 e.along.x, .int .i64 e.along.y, .int .i64 e.along.z, .int .i64 e.scale, .int .i64 e.seed, .int .u8 e.a.r, .int .u8 e.a.g, .int .u8 e.a.b, .int .u8 e.b.r, .int .u8 e.b.g, .int .u8 e.b.b], .int .i64 i, .agg #[.int .i64 p.x, .int .i64 p.y, .int .i64 p.z], .int .i64 t] w (RetB (.tuple #[.agg #[.int .u8 (colourAt e i p t).r, .int .u8 (colourAt e i p t).g, .int .u8 (colourAt e i p t).b], .int .i64 0]) w) := by
  have hc : colourAt e i p t = if numberOf e.seed i ((t - e.fr) / e.period) % 1000 < e.width then e.b else e.a := by simp [colourAt, litAt, hk]
  rw [hc]
  clear hc
  obtain ⟨s1, s2, s3, s4, s5⟩ := span_le hv
  obtain ⟨q1, q2⟩ := phase_le (p := p) hv
  obtain ⟨m1, m2, m3, m4⟩ := sub_facts (p := p) hv h1 h2
  have hk1 : (e.kind == 1) = false := by simp [hk]
  have hk3 : (e.kind == 3) = true := by simp [hk]
  have C1 := fun w => Lib.hid (phase_any e p w hv hp)
  have C2 := fun w => Lib.hid (Number_ok e.seed i ((t - e.fr) / e.period) w (seed_of hv).1 (seed_of hv).2 hi hi' m3 (by omega))
  have n1 := (number_le e.seed i ((t - e.fr) / e.period)).1
  have n2 := (number_le e.seed i ((t - e.fr) / e.period)).2
  clear hk
  by_cases hm : numberOf e.seed i ((t - e.fr) / e.period) % 1000 < e.width
  · rw [if_pos hm]
    go_enter Tryz.func30, Tryz.ntmps30
    go_wp2_with (first
      | (go_at_call 49; refine (RetB.grown (valid_any e _)).mono ?_; rintro e' w' ⟨rfl, g, rfl⟩)
      | (go_at_call 50; refine (RetB.grown (point_any p _)).mono ?_; rintro e' w' ⟨rfl, g, rfl⟩)
      | (go_at_call 51; refine (RetB.grown ((C1 _).out)).mono ?_; rintro e' w' ⟨rfl, g, rfl⟩)
      | (go_at_call 53; refine (RetB.grown ((C2 _).out)).mono ?_; rintro e' w' ⟨rfl, g, rfl⟩)
      | (refine wp_region_xt (by kernel_rfl) (by kernel_rfl) ?_; (repeat (go_big_quiet_step (first | (go_at_call 49; exact RetB.quiet (valid_any e _)) | (go_at_call 50; exact RetB.quiet (point_any p _)) | (go_at_call 51; exact RetB.quiet ((C1 _).out)) | (go_at_call 53; exact RetB.quiet ((C2 _).out))))); refine wpQuiet_nil ?_; intro g))
    refine bodyPost_ret (v := .tuple #[.agg #[.int .u8 e.b.r, .int .u8 e.b.g, .int .u8 e.b.b], .int .i64 0]) (by simp [results, Tryz.results30, go_sem]) rfl ?_
    exact RetB.of rfl (by repeat' (first | exact Below.refl _ _ | assumption | refine Below.xt ?_ ?_ _ | refine Below.alloc ?_ ?_ _ | refine Below.drew ?_ | refine Below.setCell ?_ ?_ _ | (simp; done) | (simp; omega)))
  · rw [if_neg hm]
    go_enter Tryz.func30, Tryz.ntmps30
    go_wp2_with (first
      | (go_at_call 49; refine (RetB.grown (valid_any e _)).mono ?_; rintro e' w' ⟨rfl, g, rfl⟩)
      | (go_at_call 50; refine (RetB.grown (point_any p _)).mono ?_; rintro e' w' ⟨rfl, g, rfl⟩)
      | (go_at_call 51; refine (RetB.grown ((C1 _).out)).mono ?_; rintro e' w' ⟨rfl, g, rfl⟩)
      | (go_at_call 53; refine (RetB.grown ((C2 _).out)).mono ?_; rintro e' w' ⟨rfl, g, rfl⟩)
      | (refine wp_region_xt (by kernel_rfl) (by kernel_rfl) ?_; (repeat (go_big_quiet_step (first | (go_at_call 49; exact RetB.quiet (valid_any e _)) | (go_at_call 50; exact RetB.quiet (point_any p _)) | (go_at_call 51; exact RetB.quiet ((C1 _).out)) | (go_at_call 53; exact RetB.quiet ((C2 _).out))))); refine wpQuiet_nil ?_; intro g))
    refine bodyPost_ret (v := .tuple #[.agg #[.int .u8 e.a.r, .int .u8 e.a.g, .int .u8 e.a.b], .int .i64 0]) (by simp [results, Tryz.results30, go_sem]) rfl ?_
    exact RetB.of rfl (by repeat' (first | exact Below.refl _ _ | assumption | refine Below.xt ?_ ?_ _ | refine Below.alloc ?_ ?_ _ | refine Below.drew ?_ | refine Below.setCell ?_ ?_ _ | (simp; done) | (simp; omega)))

set_option maxHeartbeats 1600000 in
theorem At_range (e : Eff) (i : Int) (p : V3) (t : Int) (w : World) (hv : effValid e = true) (hi : 0 ≤ i) (hp : point p = true) (h1 : t < e.fr ∨ e.to ≤ t) :
    Calls Tryz.prog 30 #[.agg #[.int .i64 e.kind, .int .i64 e.fr, .int .i64 e.to, .int .i64 e.period, .int .i64 e.width, .int .i64 e.along.x, .int .i64 e.along.y, .int .i64 e.along.z, .int .i64 e.scale, .int .i64 e.seed, .int .u8 e.a.r, .int .u8 e.a.g, .int .u8 e.a.b, .int .u8 e.b.r, .int .u8 e.b.g, .int .u8 e.b.b], .int .i64 i, .agg #[.int .i64 p.x, .int .i64 p.y, .int .i64 p.z], .int .i64 t] w (RetB (.tuple #[.agg #[.int .u8 black.r, .int .u8 black.g, .int .u8 black.b], .int .i64 3]) w) := by
  rcases h1 with h1 | h1
  · go_enter Tryz.func30, Tryz.ntmps30
    go_wp2_with (first
      | (go_at_call 49; refine (RetB.grown (valid_any e _)).mono ?_; rintro e' w' ⟨rfl, g, rfl⟩)
      | (go_at_call 50; refine (RetB.grown (point_any p _)).mono ?_; rintro e' w' ⟨rfl, g, rfl⟩)
      | (refine wp_region_xt (by kernel_rfl) (by kernel_rfl) ?_; (repeat (go_big_quiet_step (first | (go_at_call 49; exact RetB.quiet (valid_any e _)) | (go_at_call 50; exact RetB.quiet (point_any p _))))); refine wpQuiet_nil ?_; intro g))
    refine bodyPost_ret (v := .tuple #[.agg #[.int .u8 black.r, .int .u8 black.g, .int .u8 black.b], .int .i64 3]) (by simp [results, Tryz.results30, go_sem, black]) rfl ?_
    exact RetB.of rfl (by repeat' (first | exact Below.refl _ _ | assumption | refine Below.xt ?_ ?_ _ | refine Below.alloc ?_ ?_ _ | refine Below.drew ?_ | refine Below.setCell ?_ ?_ _ | (simp; done) | (simp; omega)))
  · have h2 : e.fr ≤ t := by have := span_le hv; omega
    go_enter Tryz.func30, Tryz.ntmps30
    go_wp2_with (first
      | (go_at_call 49; refine (RetB.grown (valid_any e _)).mono ?_; rintro e' w' ⟨rfl, g, rfl⟩)
      | (go_at_call 50; refine (RetB.grown (point_any p _)).mono ?_; rintro e' w' ⟨rfl, g, rfl⟩)
      | (refine wp_region_xt (by kernel_rfl) (by kernel_rfl) ?_; (repeat (go_big_quiet_step (first | (go_at_call 49; exact RetB.quiet (valid_any e _)) | (go_at_call 50; exact RetB.quiet (point_any p _))))); refine wpQuiet_nil ?_; intro g))
    refine bodyPost_ret (v := .tuple #[.agg #[.int .u8 black.r, .int .u8 black.g, .int .u8 black.b], .int .i64 3]) (by simp [results, Tryz.results30, go_sem, black]) rfl ?_
    exact RetB.of rfl (by repeat' (first | exact Below.refl _ _ | assumption | refine Below.xt ?_ ?_ _ | refine Below.alloc ?_ ?_ _ | refine Below.drew ?_ | refine Below.setCell ?_ ?_ _ | (simp; done) | (simp; omega)))

set_option maxHeartbeats 1600000 in
theorem At_arg (e : Eff) (i : Int) (p : V3) (t : Int) (w : World) (h : effValid e = false ∨ i < 0 ∨ point p = false) :
    Calls Tryz.prog 30 #[.agg #[.int .i64 e.kind, .int .i64 e.fr, .int .i64 e.to, .int .i64 e.period, .int .i64 e.width, .int .i64 e.along.x, .int .i64 e.along.y, .int .i64 e.along.z, .int .i64 e.scale, .int .i64 e.seed, .int .u8 e.a.r, .int .u8 e.a.g, .int .u8 e.a.b, .int .u8 e.b.r, .int .u8 e.b.g, .int .u8 e.b.b], .int .i64 i, .agg #[.int .i64 p.x, .int .i64 p.y, .int .i64 p.z], .int .i64 t] w (RetB (.tuple #[.agg #[.int .u8 black.r, .int .u8 black.g, .int .u8 black.b], .int .i64 2]) w) := by
  by_cases hv : effValid e = true
  · by_cases hi : 0 ≤ i
    · have hp : point p = false := by
        rcases h with h | h | h
        · rw [hv] at h; cases h
        · omega
        · exact h
      clear h
      go_enter Tryz.func30, Tryz.ntmps30
      go_wp2_with (first
        | (go_at_call 49; refine (RetB.grown (valid_any e _)).mono ?_; rintro e' w' ⟨rfl, g, rfl⟩)
        | (go_at_call 50; refine (RetB.grown (point_any p _)).mono ?_; rintro e' w' ⟨rfl, g, rfl⟩)
        | (refine wp_region_xt (by kernel_rfl) (by kernel_rfl) ?_; (repeat (go_big_quiet_step (first | (go_at_call 49; exact RetB.quiet (valid_any e _)) | (go_at_call 50; exact RetB.quiet (point_any p _))))); refine wpQuiet_nil ?_; intro g))
      refine bodyPost_ret (v := .tuple #[.agg #[.int .u8 black.r, .int .u8 black.g, .int .u8 black.b], .int .i64 2]) (by simp [results, Tryz.results30, go_sem, black]) rfl ?_
      exact RetB.of rfl (by repeat' (first | exact Below.refl _ _ | assumption | refine Below.xt ?_ ?_ _ | refine Below.alloc ?_ ?_ _ | refine Below.drew ?_ | refine Below.setCell ?_ ?_ _ | (simp; done) | (simp; omega)))
    · clear h
      go_enter Tryz.func30, Tryz.ntmps30
      go_wp2_with (first
        | (go_at_call 49; refine (RetB.grown (valid_any e _)).mono ?_; rintro e' w' ⟨rfl, g, rfl⟩)
        | (go_at_call 50; refine (RetB.grown (point_any p _)).mono ?_; rintro e' w' ⟨rfl, g, rfl⟩)
        | (refine wp_region_xt (by kernel_rfl) (by kernel_rfl) ?_; (repeat (go_big_quiet_step (first | (go_at_call 49; exact RetB.quiet (valid_any e _)) | (go_at_call 50; exact RetB.quiet (point_any p _))))); refine wpQuiet_nil ?_; intro g))
      refine bodyPost_ret (v := .tuple #[.agg #[.int .u8 black.r, .int .u8 black.g, .int .u8 black.b], .int .i64 2]) (by simp [results, Tryz.results30, go_sem, black]) rfl ?_
      exact RetB.of rfl (by repeat' (first | exact Below.refl _ _ | assumption | refine Below.xt ?_ ?_ _ | refine Below.alloc ?_ ?_ _ | refine Below.drew ?_ | refine Below.setCell ?_ ?_ _ | (simp; done) | (simp; omega)))
  · have hv' : effValid e = false := by simpa using hv
    clear h hv
    go_enter Tryz.func30, Tryz.ntmps30
    go_wp2_with (first
      | (go_at_call 49; refine (RetB.grown (valid_any e _)).mono ?_; rintro e' w' ⟨rfl, g, rfl⟩)
      | (go_at_call 50; refine (RetB.grown (point_any p _)).mono ?_; rintro e' w' ⟨rfl, g, rfl⟩)
      | (refine wp_region_xt (by kernel_rfl) (by kernel_rfl) ?_; (repeat (go_big_quiet_step (first | (go_at_call 49; exact RetB.quiet (valid_any e _)) | (go_at_call 50; exact RetB.quiet (point_any p _))))); refine wpQuiet_nil ?_; intro g))
    refine bodyPost_ret (v := .tuple #[.agg #[.int .u8 black.r, .int .u8 black.g, .int .u8 black.b], .int .i64 2]) (by simp [results, Tryz.results30, go_sem, black]) rfl ?_
    exact RetB.of rfl (by repeat' (first | exact Below.refl _ _ | assumption | refine Below.xt ?_ ?_ _ | refine Below.alloc ?_ ?_ _ | refine Below.drew ?_ | refine Below.setCell ?_ ?_ _ | (simp; done) | (simp; omega)))

theorem At_any (e : Eff) (i : Int) (p : V3) (t : Int) (w : World) (ha : e.a.ok) (hb : e.b.ok) (hi : I64 i) :
    Calls Tryz.prog 30 #[.agg #[.int .i64 e.kind, .int .i64 e.fr, .int .i64 e.to, .int .i64 e.period, .int .i64 e.width, .int .i64 e.along.x, .int .i64 e.along.y, .int .i64 e.along.z, .int .i64 e.scale, .int .i64 e.seed, .int .u8 e.a.r, .int .u8 e.a.g, .int .u8 e.a.b, .int .u8 e.b.r, .int .u8 e.b.g, .int .u8 e.b.b], .int .i64 i, .agg #[.int .i64 p.x, .int .i64 p.y, .int .i64 p.z], .int .i64 t] w (RetB (.tuple #[.agg #[.int .u8 (atCol e i p t).r, .int .u8 (atCol e i p t).g, .int .u8 (atCol e i p t).b], .int .i64 (atErr e i p t)]) w) := by
  by_cases hA : effValid e = true ∧ 0 ≤ i ∧ point p = true
  · obtain ⟨hv, h0, hp⟩ := hA
    by_cases hR : e.fr ≤ t ∧ t < e.to
    · have e1 : atErr e i p t = 0 := by simp [atErr, hv, h0, hp, hR]
      have e2 : atCol e i p t = colourAt e i p t := by simp [atCol, e1]
      rw [e1, e2]
      rcases kind_of hv with hk | hk | hk
      · exact At_wave e i p t w ha hb hv h0 hp hR.1 hR.2 hk
      · exact At_chase e i p t w hv h0 hp hR.1 hR.2 hk
      · exact At_sparkle e i p t w hv h0 hi.2 hp hR.1 hR.2 hk
    · have e1 : atErr e i p t = 3 := by simp [atErr, hv, h0, hp, hR]
      have e2 : atCol e i p t = black := by simp [atCol, e1]
      rw [e1, e2]
      exact At_range e i p t w hv h0 hp (by omega)
  · have e1 : atErr e i p t = 2 := by
      have : (effValid e && decide (0 ≤ i) && point p) = false := by
        rw [Bool.eq_false_iff]
        intro hh
        simp at hh
        exact hA ⟨hh.1.1, hh.1.2, hh.2⟩
      simp [atErr, this]
    have e2 : atCol e i p t = black := by simp [atCol, e1]
    rw [e1, e2]
    exact At_arg e i p t w (by
      by_cases h1 : effValid e = true
      · by_cases h2 : 0 ≤ i
        · right; right; simpa using fun h3 => hA ⟨h1, h2, h3⟩
        · right; left; omega
      · left; simpa using h1)

end Go.Proofs.YtiikejhkhdmgeaaGreat

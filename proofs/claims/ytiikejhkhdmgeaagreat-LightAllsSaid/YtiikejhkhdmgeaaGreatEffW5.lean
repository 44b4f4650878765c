
/- Walks: phases and mixtures, by the program and by the reference. Conditions stand in each theorem. -/
import Derived.Test.YtiikejhkhdmgeaaGreatEffW4
import Derived.Test.YtiikejhkhdmgeaaGreatEffW3
namespace Go.Proofs.YtiikejhkhdmgeaaGreat
open Go.RowKit
set_option linter.unusedVariables false
attribute [local go_sem ↓] ld16

theorem tdiv_exact {n s : Int} (hs : 1 ≤ s) : (n - n % s).tdiv s = n / s := by
  have h := Int.mul_ediv_add_emod n s
  have : n - n % s = s * (n / s) := by omega
  rw [this, Int.mul_tdiv_cancel_left _ (by omega)]

theorem phase_facts {e : Eff} {p : V3} (hv : effValid e = true) (hp : point p = true) (hk : e.kind ≠ 3) :
    (-104857600 ≤ e.along.x * p.x ∧ e.along.x * p.x ≤ 104857600) ∧ (-104857600 ≤ e.along.y * p.y ∧ e.along.y * p.y ≤ 104857600) ∧ (-104857600 ≤ e.along.z * p.z ∧ e.along.z * p.z ≤ 104857600) ∧
    1 ≤ e.scale ∧ e.scale ≤ 1048576 ∧ 1 ≤ e.period ∧ e.period ≤ 3600000 := by
  have h1 := moving_of hv hk
  have h2 := prods_le h1.1 hp
  have h3 := span_le hv
  exact ⟨h2.1, h2.2.1, h2.2.2, h1.2.1, h1.2.2.1, h3.2.2.2.1, h3.2.2.2.2⟩

set_option maxHeartbeats 400000 in
theorem phase_any (e : Eff) (p : V3) (w : World) (hv : effValid e = true) (hp : point p = true) :
    Calls Tryz.prog 51 #[.agg #[.int .i64 e.kind, .int .i64 e.fr, .int .i64 e.to, .int .i64 e.period, .int .i64 e.width, .int .i64 e.along.x, .int .i64 e.along.y, .int .i64 e.along.z, .int .i64 e.scale, .int .i64 e.seed, .int .u8 e.a.r, .int .u8 e.a.g, .int .u8 e.a.b, .int .u8 e.b.r, .int .u8 e.b.g, .int .u8 e.b.b], .agg #[.int .i64 p.x, .int .i64 p.y, .int .i64 p.z]] w (RetB (.int .i64 (phase e p)) w) := by
  by_cases hk : e.kind = 3
  · have hk' : (e.kind == 3) = true := by simp [hk]
    have e1 : phase e p = 0 := by simp [phase, hk]
    rw [e1]
    clear hv hp e1 hk
    go_enter Tryz.func51, Tryz.ntmps51
    go_wp2
    go_ret
    exact RetB.of rfl (by go_grown)
  · obtain ⟨⟨x1, x2⟩, ⟨y1, y2⟩, ⟨z1, z2⟩, s1, s2, p1, p2⟩ := phase_facts hv hp hk
    have hk' : (e.kind == 3) = false := by simp [hk]
    have m1 := Int.emod_nonneg (e.along.x * p.x + e.along.y * p.y + e.along.z * p.z) (show e.scale ≠ 0 by omega)
    have m2 := Int.emod_lt_of_pos (e.along.x * p.x + e.along.y * p.y + e.along.z * p.z) (show 0 < e.scale by omega)
    have H : (e.along.x * p.x + e.along.y * p.y + e.along.z * p.z - (e.along.x * p.x + e.along.y * p.y + e.along.z * p.z) % e.scale).tdiv e.scale % e.period = phase e p := by
      rw [tdiv_exact s1]; simp [phase, hk, dot3]
    have HH := Lib.hid H
    clear H hv hp hk
    go_enter Tryz.func51, Tryz.ntmps51
    go_wp2_with (first
      | (go_at_call 91; refine (rest_any _ _ _ (by omega) (by omega)).mono ?_; rintro e' w' ⟨rfl, rfl⟩)
      | (refine wp_region_xt (by kernel_rfl) (by kernel_rfl) ?_; (repeat (go_big_quiet_step (first | (go_at_call 91; exact Ret.quiet (rest_any _ _ _ (by omega) (by omega)))))); refine wpQuiet_nil ?_; intro g))
    go_ret
    exact RetB.of (int_eq HH.out) (by repeat' (first | exact Below.refl _ _ | assumption | refine Below.xt ?_ ?_ _ | refine Below.alloc ?_ ?_ _ | refine Below.drew ?_ | refine Below.setCell ?_ ?_ _ | (simp; done) | (simp; omega)))

set_option maxHeartbeats 400000 in
theorem refPhase0_any (e : Eff) (p : V3) (w : World) (hv : effValid e = true) (hp : point p = true) :
    Calls Tryz.prog 64 #[.agg #[.int .i64 e.kind, .int .i64 e.fr, .int .i64 e.to, .int .i64 e.period, .int .i64 e.width, .int .i64 e.along.x, .int .i64 e.along.y, .int .i64 e.along.z, .int .i64 e.scale, .int .i64 e.seed, .int .u8 e.a.r, .int .u8 e.a.g, .int .u8 e.a.b, .int .u8 e.b.r, .int .u8 e.b.g, .int .u8 e.b.b], .agg #[.int .i64 p.x, .int .i64 p.y, .int .i64 p.z]] w (RetB (.int .i64 (phase e p)) w) := by
  by_cases hk : e.kind = 3
  · have hk' : (e.kind == 3) = true := by simp [hk]
    have e1 : phase e p = 0 := by simp [phase, hk]
    rw [e1]
    clear hv hp e1 hk
    go_enter Tryz.func64, Tryz.ntmps64
    go_wp2
    go_ret
    exact RetB.of rfl (by go_grown)
  · obtain ⟨⟨x1, x2⟩, ⟨y1, y2⟩, ⟨z1, z2⟩, s1, s2, p1, p2⟩ := phase_facts hv hp hk
    have hk' : (e.kind == 3) = false := by simp [hk]
    have q1 : -314572800 ≤ (e.along.x * p.x + e.along.y * p.y + e.along.z * p.z) / e.scale := by
      have h : (-314572800) * e.scale ≤ e.along.x * p.x + e.along.y * p.y + e.along.z * p.z := by omega
      exact (Int.le_ediv_iff_mul_le (by omega)).2 h
    have q2 : (e.along.x * p.x + e.along.y * p.y + e.along.z * p.z) / e.scale ≤ 314572800 := by
      have h : (e.along.x * p.x + e.along.y * p.y + e.along.z * p.z) < (314572800 + 1) * e.scale := by omega
      have := Int.ediv_lt_of_lt_mul (by omega) h
      omega
    have H : phase e p = ((e.along.x * p.x + e.along.y * p.y + e.along.z * p.z) / e.scale) % e.period := by simp [phase, hk, dot3]
    generalize hn : (e.along.x * p.x + e.along.y * p.y + e.along.z * p.z) / e.scale = n at *
    have e3 := Int.mul_ediv_add_emod n e.period
    have m1 := Int.emod_nonneg n (show e.period ≠ 0 by omega)
    have m2 := Int.emod_lt_of_pos n (show 0 < e.period by omega)
    have H2 : n - n / e.period * e.period = phase e p := by rw [H, Int.mul_comm]; omega
    have r1 : -314572800 - 3600000 ≤ n / e.period * e.period := by rw [Int.mul_comm]; omega
    have r2 : n / e.period * e.period ≤ 314572800 := by rw [Int.mul_comm]; omega
    have HH := Lib.hid H2
    have HN := Lib.hid hn
    clear H hv hp hk H2 hn e3 m1 m2
    go_enter Tryz.func64, Tryz.ntmps64
    have c1 := fun w' => down_any (e.along.x * p.x + e.along.y * p.y + e.along.z * p.z) e.scale w' (by omega) (by omega) (by omega)
    rw [HN.out] at c1
    have C1 := Lib.hid c1
    clear c1
    go_wp2_with fail
    refine (C1.out _).mono ?_
    rintro e' w' ⟨rfl, rfl⟩
    go_wp2_with (first
      | (go_at_call 93; refine (down_any n e.period _ (by omega) (by omega) (by omega)).mono ?_; rintro e' w' ⟨rfl, rfl⟩)
      | (refine wp_region_xt (by kernel_rfl) (by kernel_rfl) ?_; (repeat (go_big_quiet_step (first | (go_at_call 93; exact Ret.quiet (down_any n e.period _ (by omega) (by omega) (by omega)))))); refine wpQuiet_nil ?_; intro g))
    go_ret
    exact RetB.of (int_eq HH.out) (by repeat' (first | exact Below.refl _ _ | assumption | refine Below.xt ?_ ?_ _ | refine Below.alloc ?_ ?_ _ | refine Below.drew ?_ | refine Below.setCell ?_ ?_ _ | (simp; done) | (simp; omega)))

def phErr (e : Eff) (p : V3) : Int := if effValid e && point p then 0 else 2
def phVal (e : Eff) (p : V3) : Int := if effValid e && point p then phase e p else 0

end Go.Proofs.YtiikejhkhdmgeaaGreat

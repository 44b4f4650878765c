/- The walks of the laws of chapter 29: each returns true for every input. No condition but that the numbers fit their kinds. -/
import Derived.Test.YtjnajibflalmbaaEffW8
import Derived.Test.YtjnajibflalmbaaEffW9
import Derived.Test.YtjnajibflalmbaaEffO
namespace Go.Proofs.Ytjnajibflalmbaa
open Go.RowKit
set_option linter.unusedVariables false
attribute [local go_sem ↓] ld16

def exWave : Eff := ⟨1, 1000, 9000, 1000, 0, ⟨1, 0, 0⟩, 2, 0, ⟨0, 0, 0⟩, ⟨255, 0, 0⟩⟩
def exChase : Eff := ⟨2, 1000, 9000, 1000, 250, ⟨1, 0, 0⟩, 2, 0, ⟨0, 0, 0⟩, ⟨255, 0, 0⟩⟩
theorem col_eq {c : Col} {r g b : Int} (h : c.r = r ∧ c.g = g ∧ c.b = b) : c = ⟨r, g, b⟩ := by
  cases c; simp at h; simp [h]
def exSpark (n : Int) : Eff := ⟨3, 1000, 9000, 1000, n, ⟨0, 0, 0⟩, 0, 0, ⟨0, 0, 0⟩, ⟨255, 0, 0⟩⟩
theorem okB : Col.ok ⟨255, 0, 0⟩ := by simp [Col.ok, U8]
theorem okA : Col.ok ⟨0, 0, 0⟩ := by simp [Col.ok, U8]

theorem exPhase (x y z r : Int) (h : phVal exWave ⟨x, y, z⟩ = r) (h' : phErr exWave ⟨x, y, z⟩ = 0) (w : World) :
    Calls Try.prog 12 #[.agg #[.int .i64 1, .int .i64 1000, .int .i64 9000, .int .i64 1000, .int .i64 0, .int .i64 1, .int .i64 0, .int .i64 0, .int .i64 2, .int .i64 0, .int .u8 0, .int .u8 0, .int .u8 0, .int .u8 255, .int .u8 0, .int .u8 0], .agg #[.int .i64 x, .int .i64 y, .int .i64 z]] w (RetB (.tuple #[.int .i64 r, .int .i64 0]) w) := by
  have c := Phase_any exWave ⟨x, y, z⟩ w
  rw [h, h'] at c
  exact c
theorem exLit (e : Eff) (ha : e.a = ⟨0, 0, 0⟩) (hb : e.b = ⟨255, 0, 0⟩) (m t r : Int) (hr : r = 0 ∨ r = 255) (b : Bool) (hbr : (decide (r = 255) == b) = true) (h0 : (atCol e 5 ⟨m, 0, 0⟩ t).r = r ∧ (atCol e 5 ⟨m, 0, 0⟩ t).g = 0 ∧ (atCol e 5 ⟨m, 0, 0⟩ t).b = 0) (h' : atErr e 5 ⟨m, 0, 0⟩ t = 0) (w : World) :
    Calls Try.prog 26 #[.agg #[.int .i64 e.kind, .int .i64 e.fr, .int .i64 e.to, .int .i64 e.period, .int .i64 e.width, .int .i64 e.along.x, .int .i64 e.along.y, .int .i64 e.along.z, .int .i64 e.scale, .int .i64 e.seed, .int .u8 0, .int .u8 0, .int .u8 0, .int .u8 255, .int .u8 0, .int .u8 0], .int .i64 m, .int .i64 t, .bool b] w (RetB (.bool true) w) := by
  have h := col_eq h0
  have c := lit_any e.kind e.fr e.to e.period e.width e.along.x e.along.y e.along.z e.scale e.seed m t b r hr w (fun w => by
    have c := At_any e 5 ⟨m, 0, 0⟩ t w (by rw [ha]; exact okA) (by rw [hb]; exact okB) (by unfold I64; omega)
    rw [h, h', ha, hb] at c
    exact c)
  rw [hbr] at c
  exact c

theorem exRange (w : World) : Calls Try.prog 14 #[.agg #[.int .i64 1, .int .i64 1000, .int .i64 9000, .int .i64 1000, .int .i64 0, .int .i64 1, .int .i64 0, .int .i64 0, .int .i64 2, .int .i64 0, .int .u8 0, .int .u8 0, .int .u8 0, .int .u8 255, .int .u8 0, .int .u8 0], .int .i64 0, .agg #[.int .i64 0, .int .i64 0, .int .i64 0], .int .i64 9000] w (RetB (.tuple #[.agg #[.int .u8 0, .int .u8 0, .int .u8 0], .int .i64 3]) w) :=
  At_range exWave 0 ⟨0, 0, 0⟩ 9000 w (by decide) (by decide) (by decide) (.inr (by decide))

set_option maxHeartbeats 1600000 in
theorem known_any (w : World) : Calls Try.prog 11 #[] w (RetB (.bool true) w) := by
  go_enter Try.func11, Try.ntmps11
  go_wp2_with fail
  refine (RetB.grown (wave_move 1 0 _ rfl)).mono ?_
  rintro e' w' ⟨rfl, g, rfl⟩
  go_wp2_with fail
  refine (RetB.grown (wave_move 2 250 _ rfl)).mono ?_
  rintro e' w' ⟨rfl, g, rfl⟩
  go_wp2_with fail
  refine (RetB.grown (exPhase 300 5 5 150 (by decide) (by decide) _)).mono ?_
  rintro e' w' ⟨rfl, g, rfl⟩
  go_wp2_with fail
  refine (RetB.grown (exPhase (-300) 0 0 850 (by decide) (by decide) _)).mono ?_
  rintro e' w' ⟨rfl, g, rfl⟩
  go_wp2_with fail
  refine (RetB.grown (exPhase (-1) 0 0 999 (by decide) (by decide) _)).mono ?_
  rintro e' w' ⟨rfl, g, rfl⟩
  go_wp2_with fail
  refine (RetB.grown (exRange _)).mono ?_
  rintro e' w' ⟨rfl, g, rfl⟩
  go_wp2_with fail
  refine (RetB.grown (exLit exWave rfl rfl 0 1000 0 (.inl rfl) false rfl (by decide +kernel) (by decide +kernel) _)).mono ?_
  rintro e' w' ⟨rfl, g, rfl⟩
  go_wp2_with fail
  refine (RetB.grown (exLit exWave rfl rfl 0 1500 255 (.inr rfl) true rfl (by decide +kernel) (by decide +kernel) _)).mono ?_
  rintro e' w' ⟨rfl, g, rfl⟩
  go_wp2_with fail
  refine (RetB.grown (exLit exWave rfl rfl 1000 1000 255 (.inr rfl) true rfl (by decide +kernel) (by decide +kernel) _)).mono ?_
  rintro e' w' ⟨rfl, g, rfl⟩
  go_wp2_with fail
  refine (RetB.grown (exLit exChase rfl rfl 0 1249 255 (.inr rfl) true rfl (by decide +kernel) (by decide +kernel) _)).mono ?_
  rintro e' w' ⟨rfl, g, rfl⟩
  go_wp2_with fail
  refine (RetB.grown (exLit exChase rfl rfl 0 1250 0 (.inl rfl) false rfl (by decide +kernel) (by decide +kernel) _)).mono ?_
  rintro e' w' ⟨rfl, g, rfl⟩
  go_wp2_with fail
  refine (RetB.grown (exLit exChase rfl rfl 1500 1000 0 (.inl rfl) false rfl (by decide +kernel) (by decide +kernel) _)).mono ?_
  rintro e' w' ⟨rfl, g, rfl⟩
  go_wp2_with fail
  refine (RetB.grown (wave_spark 1000 _)).mono ?_
  rintro e' w' ⟨rfl, g, rfl⟩
  go_wp2_with fail
  refine (RetB.grown (exLit (exSpark 1000) rfl rfl 0 1000 255 (.inr rfl) true rfl (by decide +kernel) (by decide +kernel) _)).mono ?_
  rintro e' w' ⟨rfl, g, rfl⟩
  go_wp2_with fail
  refine (RetB.grown (wave_spark 0 _)).mono ?_
  rintro e' w' ⟨rfl, g, rfl⟩
  go_wp2_with fail
  refine (RetB.grown (exLit (exSpark 0) rfl rfl 0 1000 0 (.inl rfl) false rfl (by decide +kernel) (by decide +kernel) _)).mono ?_
  rintro e' w' ⟨rfl, g, rfl⟩
  go_wp2_with fail
  go_ret
  exact RetB.of rfl (by repeat' (first | exact Below.refl _ _ | assumption | refine Below.xt ?_ ?_ _ | refine Below.alloc ?_ ?_ _ | refine Below.drew ?_ | refine Below.setCell ?_ ?_ _ | (simp; done) | (simp; omega)))

set_option maxHeartbeats 800000 in
theorem EffectValids_walk (e : Eff) (o : e.ok) (w : World) : Calls Try.prog 3 #[.agg #[.int .i64 e.kind, .int .i64 e.fr, .int .i64 e.to, .int .i64 e.period, .int .i64 e.width, .int .i64 e.along.x, .int .i64 e.along.y, .int .i64 e.along.z, .int .i64 e.scale, .int .i64 e.seed, .int .u8 e.a.r, .int .u8 e.a.g, .int .u8 e.a.b, .int .u8 e.b.r, .int .u8 e.b.g, .int .u8 e.b.b]] w (RetB (.bool true) w) := by
  go_enter Try.func3, Try.ntmps3
  go_wp2_with (first
    | (go_at_call 9; refine (RetB.grown (valid_any e _)).mono ?_; rintro e' w' ⟨rfl, g, rfl⟩)
    | (go_at_call 10; refine (RetB.grown (refValid_any e _)).mono ?_; rintro e' w' ⟨rfl, g, rfl⟩)
    | (go_at_call 11; refine (RetB.grown (known_any _)).mono ?_; rintro e' w' ⟨rfl, g, rfl⟩)
    | (refine wp_region_xt (by kernel_rfl) (by kernel_rfl) ?_; (repeat (go_big_quiet_step (first | (go_at_call 9; exact RetB.quiet (valid_any e _)) | (go_at_call 10; exact RetB.quiet (refValid_any e _)) | (go_at_call 11; exact RetB.quiet (known_any _))))); refine wpQuiet_nil ?_; intro g))
  go_ret
  exact RetB.of rfl (by repeat' (first | exact Below.refl _ _ | assumption | refine Below.xt ?_ ?_ _ | refine Below.alloc ?_ ?_ _ | refine Below.drew ?_ | refine Below.setCell ?_ ?_ _ | (simp; done) | (simp; omega)))

set_option maxHeartbeats 800000 in
theorem EffectPhases_walk (e : Eff) (p : V3) (o : e.ok) (op : p.ok) (w : World) : Calls Try.prog 4 #[.agg #[.int .i64 e.kind, .int .i64 e.fr, .int .i64 e.to, .int .i64 e.period, .int .i64 e.width, .int .i64 e.along.x, .int .i64 e.along.y, .int .i64 e.along.z, .int .i64 e.scale, .int .i64 e.seed, .int .u8 e.a.r, .int .u8 e.a.g, .int .u8 e.a.b, .int .u8 e.b.r, .int .u8 e.b.g, .int .u8 e.b.b], .agg #[.int .i64 p.x, .int .i64 p.y, .int .i64 p.z]] w (RetB (.bool true) w) := by
  go_enter Try.func4, Try.ntmps4
  go_wp2_with (first
    | (go_at_call 12; refine (RetB.grown (Phase_any e p _)).mono ?_; rintro e' w' ⟨rfl, g, rfl⟩)
    | (go_at_call 13; refine (RetB.grown (refPhase_any e p _)).mono ?_; rintro e' w' ⟨rfl, g, rfl⟩)
    | (go_at_call 11; refine (RetB.grown (known_any _)).mono ?_; rintro e' w' ⟨rfl, g, rfl⟩)
    | (refine wp_region_xt (by kernel_rfl) (by kernel_rfl) ?_; (repeat (go_big_quiet_step (first | (go_at_call 12; exact RetB.quiet (Phase_any e p _)) | (go_at_call 13; exact RetB.quiet (refPhase_any e p _)) | (go_at_call 11; exact RetB.quiet (known_any _))))); refine wpQuiet_nil ?_; intro g))
  go_ret
  exact RetB.of rfl (by repeat' (first | exact Below.refl _ _ | assumption | refine Below.xt ?_ ?_ _ | refine Below.alloc ?_ ?_ _ | refine Below.drew ?_ | refine Below.setCell ?_ ?_ _ | (simp; done) | (simp; omega)))

set_option maxHeartbeats 800000 in
theorem EffectAts_walk (e : Eff) (index : Int) (p : V3) (time : Int) (o : e.ok) (oi : I64 index) (op : p.ok) (ot : I64 time) (w : World) : Calls Try.prog 5 #[.agg #[.int .i64 e.kind, .int .i64 e.fr, .int .i64 e.to, .int .i64 e.period, .int .i64 e.width, .int .i64 e.along.x, .int .i64 e.along.y, .int .i64 e.along.z, .int .i64 e.scale, .int .i64 e.seed, .int .u8 e.a.r, .int .u8 e.a.g, .int .u8 e.a.b, .int .u8 e.b.r, .int .u8 e.b.g, .int .u8 e.b.b], .int .i64 index, .agg #[.int .i64 p.x, .int .i64 p.y, .int .i64 p.z], .int .i64 time] w (RetB (.bool true) w) := by
  have C1 := fun w => Lib.hid (At_any e index p time w o.a o.b oi)
  have C2 := fun w => Lib.hid (refAt_any e index p time w o.a o.b oi)
  go_enter Try.func5, Try.ntmps5
  go_wp2_with (first
    | (go_at_call 14; refine (RetB.grown ((C1 _).out)).mono ?_; rintro e' w' ⟨rfl, g, rfl⟩)
    | (go_at_call 15; refine (RetB.grown ((C2 _).out)).mono ?_; rintro e' w' ⟨rfl, g, rfl⟩)
    | (go_at_call 11; refine (RetB.grown (known_any _)).mono ?_; rintro e' w' ⟨rfl, g, rfl⟩)
    | (refine wp_region_xt (by kernel_rfl) (by kernel_rfl) ?_; (repeat (go_big_quiet_step (first | (go_at_call 14; exact RetB.quiet ((C1 _).out)) | (go_at_call 15; exact RetB.quiet ((C2 _).out)) | (go_at_call 11; exact RetB.quiet (known_any _))))); refine wpQuiet_nil ?_; intro g))
  go_ret
  exact RetB.of rfl (by repeat' (first | exact Below.refl _ _ | assumption | refine Below.xt ?_ ?_ _ | refine Below.alloc ?_ ?_ _ | refine Below.drew ?_ | refine Below.setCell ?_ ?_ _ | (simp; done) | (simp; omega)))

set_option maxHeartbeats 800000 in
theorem EffectNumbers_walk (s i t : Int) (os : I64 s) (oi : I64 i) (ot : I64 t) (w : World) : Calls Try.prog 6 #[.int .i64 s, .int .i64 i, .int .i64 t] w (RetB (.bool true) w) := by
  have C1 := fun w => Lib.hid (Number_any s i t w os oi ot)
  have C2 := fun w => Lib.hid (refNumber_any s i t w os oi ot)
  go_enter Try.func6, Try.ntmps6
  go_wp2_with (first
    | (go_at_call 16; refine (RetB.grown ((C1 _).out)).mono ?_; rintro e' w' ⟨rfl, g, rfl⟩)
    | (go_at_call 17; refine (RetB.grown ((C2 _).out)).mono ?_; rintro e' w' ⟨rfl, g, rfl⟩)
    | (go_at_call 11; refine (RetB.grown (known_any _)).mono ?_; rintro e' w' ⟨rfl, g, rfl⟩)
    | (refine wp_region_xt (by kernel_rfl) (by kernel_rfl) ?_; (repeat (go_big_quiet_step (first | (go_at_call 16; exact RetB.quiet ((C1 _).out)) | (go_at_call 17; exact RetB.quiet ((C2 _).out)) | (go_at_call 11; exact RetB.quiet (known_any _))))); refine wpQuiet_nil ?_; intro g))
  go_ret
  exact RetB.of rfl (by repeat' (first | exact Below.refl _ _ | assumption | refine Below.xt ?_ ?_ _ | refine Below.alloc ?_ ?_ _ | refine Below.drew ?_ | refine Below.setCell ?_ ?_ _ | (simp; done) | (simp; omega)))

end Go.Proofs.Ytjnajibflalmbaa

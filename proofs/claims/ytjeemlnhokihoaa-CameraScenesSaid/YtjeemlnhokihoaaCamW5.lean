/- Walks of cameras, by the program: the spot of a point. Conditions stand in each theorem. -/
import Derived.Test.YtjeemlnhokihoaaCamW2
import Derived.Test.YtjeemlnhokihoaaCamW4
namespace Go.Proofs.Ytjeemlnhokihoaa
open Go.RowKit
set_option linter.unusedVariables false
attribute [local go_sem ↓] ld16

theorem retB {f : FuncId} {args : Array Value} {v : Value} {w : World} (h : Calls Try.prog f args w (Ret v w)) : Calls Try.prog f args w (RetB v w) := h.mono fun _ _ ⟨he, hb⟩ => ⟨he, hb ▸ Below.refl _ _⟩
theorem tupR {x y a b z : Int} (h : a = b) : Value.tuple #[.agg #[.int .i64 0, .int .i64 x, .int .i64 y, .int .i64 a, .int .i64 z], .bool true] = .tuple #[.agg #[.int .i64 0, .int .i64 x, .int .i64 y, .int .i64 b, .int .i64 z], .bool true] := by rw [h]
def dl (c : Cam) (p : V3) : V3 := ⟨p.x - c.e.x, p.y - c.e.y, p.z - c.e.z⟩
def zz (c : Cam) (p : V3) : Int := dt (dl c p) c.f
def xx (c : Cam) (p : V3) : Int := c.wi / 2 + c.fo * dt (dl c p) c.r / zz c p
def yy (c : Cam) (p : V3) : Int := c.he / 2 - c.fo * dt (dl c p) c.u / zz c p
def rr (c : Cam) (p : V3) (ra : Int) : Int := max 1 (isq (c.fo * ra * (c.fo * ra) * dt c.u c.u / zz c p / zz c p).toNat)
/-- The point is seen. -/
def seen (c : Cam) (p : V3) : Bool := decide (c.ne ≤ zz c p) && within (xx c p) 0 (c.wi - 1) && within (yy c p) 0 (c.he - 1)

structure SpotB (c : Cam) (p : V3) : Prop where
  zf : dtW (dl c p) c.f = zz c p
  zr : dtW (dl c p) c.r = dt (dl c p) c.r
  zu : dtW (dl c p) c.u = dt (dl c p) c.u
  f1 : -1000000000 ≤ zz c p
  f2 : zz c p ≤ 1000000000
  r1 : -4398046511104 ≤ c.fo * dt (dl c p) c.r
  r2 : c.fo * dt (dl c p) c.r ≤ 4398046511104
  u1 : -4398046511104 ≤ c.fo * dt (dl c p) c.u
  u2 : c.fo * dt (dl c p) c.u ≤ 4398046511104
theorem spotB {c : Cam} {p : V3} (hc : Good c) (hp : pnt p = true) : SpotB c p := by
  have h1 := pnt_iff.1 hp
  have h2 := pnt_iff.1 hc.e
  have hd : (-2097152 ≤ (dl c p).x ∧ (dl c p).x ≤ 2097152) ∧ (-2097152 ≤ (dl c p).y ∧ (dl c p).y ≤ 2097152) ∧ (-2097152 ≤ (dl c p).z ∧ (dl c p).z ≤ 2097152) := by
    simp only [dl]; omega
  have bd : ∀ v, ax v = true → dtW (dl c p) v = dt (dl c p) v ∧ -1000000000 ≤ dt (dl c p) v ∧ dt (dl c p) v ≤ 1000000000 := fun v hv => by
    have hv' := ax_iff.1 hv
    obtain ⟨g1, g2, g3⟩ := dt_bd (A := 2097152) (B := 100) hd hv'
    refine ⟨dtW_eq (A := 2097152) (B := 100) hd hv' (by decide), ?_, ?_⟩ <;> unfold dt <;> omega
  have mb : ∀ v, ax v = true → -4398046511104 ≤ c.fo * dt (dl c p) v ∧ c.fo * dt (dl c p) v ≤ 4398046511104 := fun v hv => by
    obtain ⟨_, g1, g2⟩ := bd v hv
    have := hc.fo
    have := mul_le_of (a := c.fo) (b := dt (dl c p) v) (A := 4096) (B := 1000000000) (by omega) (by omega)
    omega
  exact ⟨(bd _ hc.f).1, (bd _ hc.r).1, (bd _ hc.u).1, (bd _ hc.f).2.1, (bd _ hc.f).2.2, (mb _ hc.r).1, (mb _ hc.r).2, (mb _ hc.u).1, (mb _ hc.u).2⟩

set_option maxHeartbeats 800000 in
theorem spot_far (c : Cam) (p : V3) (ra : Int) (w : World) (hc : Good c) (hp : pnt p = true) (hz : zz c p < c.ne) : Calls Try.prog 36 #[.agg #[.int .i64 c.e.x, .int .i64 c.e.y, .int .i64 c.e.z, .int .i64 c.r.x, .int .i64 c.r.y, .int .i64 c.r.z, .int .i64 c.u.x, .int .i64 c.u.y, .int .i64 c.u.z, .int .i64 c.f.x, .int .i64 c.f.y, .int .i64 c.f.z, .int .i64 c.fo, .int .i64 c.wi, .int .i64 c.he, .int .i64 c.ne], .agg #[.int .i64 p.x, .int .i64 p.y, .int .i64 p.z], .int .i64 ra] w (RetB (.tuple #[.agg #[.int .i64 0, .int .i64 0, .int .i64 0, .int .i64 0, .int .i64 0], .bool false]) w) := by
  have B := spotB hc hp
  have h1 := pnt_iff.1 hp
  have h2 := pnt_iff.1 hc.e
  obtain ⟨⟨x1, x2⟩, ⟨y1, y2⟩, z1, z2⟩ := h1
  obtain ⟨⟨x3, x4⟩, ⟨y3, y4⟩, z3, z4⟩ := h2
  have D1 := fun w => dot_w (dl c p) c.f w
  rw [B.zf] at D1
  simp only [dl] at D1
  have C1 := fun w => Lib.hid (D1 w)
  clear D1 B hc hp
  generalize zz c p = z at *
  go_enter Try.func36, Try.ntmps36
  go_wp2_with (first
    | (go_at_call 28; (with_reducible refine (RetB.grown ((C1 _).out)).mono ?_); rintro e' w' ⟨rfl, g, rfl⟩)
    | (refine wp_region_xt (by kernel_rfl) (by kernel_rfl) ?_; (repeat (go_big_quiet_step (first | (go_at_call 28; (with_reducible exact RetB.quiet ((C1 _).out)))))); refine wpQuiet_nil ?_; intro g))
  refine bodyPost_ret (v := .tuple #[.agg #[.int .i64 0, .int .i64 0, .int .i64 0, .int .i64 0, .int .i64 0], .bool false]) (by simp [results, Try.results36, go_sem]) rfl ?_
  exact RetB.of rfl (by repeat' (first | exact Below.refl _ _ | assumption | refine Below.xt ?_ ?_ _ | refine Below.alloc ?_ ?_ _ | refine Below.drew ?_ | refine Below.setCell ?_ ?_ _ | (simp; done) | (simp; omega)))

set_option maxHeartbeats 1600000 in
theorem spot_outx (c : Cam) (p : V3) (ra : Int) (w : World) (hc : Good c) (hp : pnt p = true) (hz : c.ne ≤ zz c p) (hx : within (xx c p) 0 (c.wi - 1) = false) : Calls Try.prog 36 #[.agg #[.int .i64 c.e.x, .int .i64 c.e.y, .int .i64 c.e.z, .int .i64 c.r.x, .int .i64 c.r.y, .int .i64 c.r.z, .int .i64 c.u.x, .int .i64 c.u.y, .int .i64 c.u.z, .int .i64 c.f.x, .int .i64 c.f.y, .int .i64 c.f.z, .int .i64 c.fo, .int .i64 c.wi, .int .i64 c.he, .int .i64 c.ne], .agg #[.int .i64 p.x, .int .i64 p.y, .int .i64 p.z], .int .i64 ra] w (RetB (.tuple #[.agg #[.int .i64 0, .int .i64 0, .int .i64 0, .int .i64 0, .int .i64 0], .bool false]) w) := by
  have B := spotB hc hp
  have h1 := pnt_iff.1 hp
  have h2 := pnt_iff.1 hc.e
  obtain ⟨⟨x1, x2⟩, ⟨y1, y2⟩, z1, z2⟩ := h1
  obtain ⟨⟨x3, x4⟩, ⟨y3, y4⟩, z3, z4⟩ := h2
  have D1 := fun w => dot_w (dl c p) c.f w
  rw [B.zf] at D1
  have D2 := fun w => dot_w (dl c p) c.r w
  rw [B.zr] at D2
  have D3 := fun w => dot_w (dl c p) c.u w
  rw [B.zu] at D3
  simp only [dl] at D1 D2 D3
  have C1 := fun w => Lib.hid (D1 w)
  have C2 := fun w => Lib.hid (D2 w)
  have C3 := fun w => Lib.hid (D3 w)
  obtain ⟨_, _, _, b1, b2, b3, b4, b5, b6⟩ := B
  obtain ⟨w1, w2⟩ := hc.wi
  obtain ⟨t1, t2⟩ := hc.he
  obtain ⟨n1, n2⟩ := hc.ne
  clear D1 D2 D3
  unfold xx at hx
  try unfold yy at hy
  simp only [show (⟨p.x - c.e.x, p.y - c.e.y, p.z - c.e.z⟩ : V3) = dl c p from rfl] at C1 C2 C3
  generalize zz c p = z at *
  have z0 : 1 ≤ z := by omega
  obtain ⟨qa, qb⟩ := ediv_bd (a := c.fo * dt (dl c p) c.r) (b := z) (A := 4398046511104) z0 (by decide) b3 b4
  obtain ⟨qc, qd⟩ := ediv_bd (a := c.fo * dt (dl c p) c.u) (b := z) (A := 4398046511104) z0 (by decide) b5 b6
  have F1 := fun w => Lib.hid (retB (floor_any (c.fo * dt (dl c p) c.r) z w z0 (by omega) (by omega) (by omega)))
  have F2 := fun w => Lib.hid (retB (floor_any (c.fo * dt (dl c p) c.u) z w z0 (by omega) (by omega) (by omega)))
  generalize dt (dl c p) c.r = dr at *
  generalize dt (dl c p) c.u = du at *
  have v1 : IntKind.i64.wrap (c.fo * dr) = c.fo * dr := IntWalk.i64_in _ (by omega)
  have v2 : IntKind.i64.wrap (c.fo * du) = c.fo * du := IntWalk.i64_in _ (by omega)
  have v3 : IntKind.i64.wrap (c.wi / 2 + c.fo * dr / z) = c.wi / 2 + c.fo * dr / z := IntWalk.i64_in _ (by omega)
  have v4 : IntKind.i64.wrap (c.he / 2 - c.fo * du / z) = c.he / 2 - c.fo * du / z := IntWalk.i64_in _ (by omega)
  have v5 : c.wi.tdiv 2 = c.wi / 2 := Int.tdiv_eq_ediv_of_nonneg (by omega)
  have v6 : c.he.tdiv 2 = c.he / 2 := Int.tdiv_eq_ediv_of_nonneg (by omega)
  generalize c.fo * dr / z = q1 at *
  generalize c.fo * du / z = q2 at *
  clear hc hp
  go_enter Try.func36, Try.ntmps36
  go_wp2_with (first
    | (go_at_call 28; (with_reducible refine (RetB.grown ((C1 _).out)).mono ?_); rintro e' w' ⟨rfl, g, rfl⟩)
    | (go_at_call 28; (with_reducible refine (RetB.grown ((C2 _).out)).mono ?_); rintro e' w' ⟨rfl, g, rfl⟩)
    | (go_at_call 28; (with_reducible refine (RetB.grown ((C3 _).out)).mono ?_); rintro e' w' ⟨rfl, g, rfl⟩)
    | (go_at_call 46; (with_reducible refine (RetB.grown ((F1 _).out)).mono ?_); rintro e' w' ⟨rfl, g, rfl⟩)
    | (go_at_call 46; (with_reducible refine (RetB.grown ((F2 _).out)).mono ?_); rintro e' w' ⟨rfl, g, rfl⟩)
    | (go_at_call 27; refine (within_any _ _ _ _).mono ?_; rintro e' w' ⟨rfl, rfl⟩)
    | (refine wp_region_xt (by kernel_rfl) (by kernel_rfl) ?_; (repeat (go_big_quiet_step (first | (go_at_call 28; (with_reducible exact RetB.quiet ((C1 _).out))) | (go_at_call 28; (with_reducible exact RetB.quiet ((C2 _).out))) | (go_at_call 28; (with_reducible exact RetB.quiet ((C3 _).out))) | (go_at_call 46; (with_reducible exact RetB.quiet ((F1 _).out))) | (go_at_call 46; (with_reducible exact RetB.quiet ((F2 _).out))) | (go_at_call 27; exact Ret.quiet (within_any _ _ _ _))))); refine wpQuiet_nil ?_; intro g))
  refine bodyPost_ret (v := .tuple #[.agg #[.int .i64 0, .int .i64 0, .int .i64 0, .int .i64 0, .int .i64 0], .bool false]) (by simp [results, Try.results36, go_sem]) rfl ?_
  exact RetB.of rfl (by repeat' (first | exact Below.refl _ _ | assumption | refine Below.xt ?_ ?_ _ | refine Below.alloc ?_ ?_ _ | refine Below.drew ?_ | refine Below.setCell ?_ ?_ _ | (simp; done) | (simp; omega)))

set_option maxHeartbeats 1600000 in
theorem spot_outy (c : Cam) (p : V3) (ra : Int) (w : World) (hc : Good c) (hp : pnt p = true) (hz : c.ne ≤ zz c p) (hx : within (xx c p) 0 (c.wi - 1) = true) (hy : within (yy c p) 0 (c.he - 1) = false) : Calls Try.prog 36 #[.agg #[.int .i64 c.e.x, .int .i64 c.e.y, .int .i64 c.e.z, .int .i64 c.r.x, .int .i64 c.r.y, .int .i64 c.r.z, .int .i64 c.u.x, .int .i64 c.u.y, .int .i64 c.u.z, .int .i64 c.f.x, .int .i64 c.f.y, .int .i64 c.f.z, .int .i64 c.fo, .int .i64 c.wi, .int .i64 c.he, .int .i64 c.ne], .agg #[.int .i64 p.x, .int .i64 p.y, .int .i64 p.z], .int .i64 ra] w (RetB (.tuple #[.agg #[.int .i64 0, .int .i64 0, .int .i64 0, .int .i64 0, .int .i64 0], .bool false]) w) := by
  have B := spotB hc hp
  have h1 := pnt_iff.1 hp
  have h2 := pnt_iff.1 hc.e
  obtain ⟨⟨x1, x2⟩, ⟨y1, y2⟩, z1, z2⟩ := h1
  obtain ⟨⟨x3, x4⟩, ⟨y3, y4⟩, z3, z4⟩ := h2
  have D1 := fun w => dot_w (dl c p) c.f w
  rw [B.zf] at D1
  have D2 := fun w => dot_w (dl c p) c.r w
  rw [B.zr] at D2
  have D3 := fun w => dot_w (dl c p) c.u w
  rw [B.zu] at D3
  simp only [dl] at D1 D2 D3
  have C1 := fun w => Lib.hid (D1 w)
  have C2 := fun w => Lib.hid (D2 w)
  have C3 := fun w => Lib.hid (D3 w)
  obtain ⟨_, _, _, b1, b2, b3, b4, b5, b6⟩ := B
  obtain ⟨w1, w2⟩ := hc.wi
  obtain ⟨t1, t2⟩ := hc.he
  obtain ⟨n1, n2⟩ := hc.ne
  clear D1 D2 D3
  unfold xx at hx
  try unfold yy at hy
  simp only [show (⟨p.x - c.e.x, p.y - c.e.y, p.z - c.e.z⟩ : V3) = dl c p from rfl] at C1 C2 C3
  generalize zz c p = z at *
  have z0 : 1 ≤ z := by omega
  obtain ⟨qa, qb⟩ := ediv_bd (a := c.fo * dt (dl c p) c.r) (b := z) (A := 4398046511104) z0 (by decide) b3 b4
  obtain ⟨qc, qd⟩ := ediv_bd (a := c.fo * dt (dl c p) c.u) (b := z) (A := 4398046511104) z0 (by decide) b5 b6
  have F1 := fun w => Lib.hid (retB (floor_any (c.fo * dt (dl c p) c.r) z w z0 (by omega) (by omega) (by omega)))
  have F2 := fun w => Lib.hid (retB (floor_any (c.fo * dt (dl c p) c.u) z w z0 (by omega) (by omega) (by omega)))
  generalize dt (dl c p) c.r = dr at *
  generalize dt (dl c p) c.u = du at *
  have v1 : IntKind.i64.wrap (c.fo * dr) = c.fo * dr := IntWalk.i64_in _ (by omega)
  have v2 : IntKind.i64.wrap (c.fo * du) = c.fo * du := IntWalk.i64_in _ (by omega)
  have v3 : IntKind.i64.wrap (c.wi / 2 + c.fo * dr / z) = c.wi / 2 + c.fo * dr / z := IntWalk.i64_in _ (by omega)
  have v4 : IntKind.i64.wrap (c.he / 2 - c.fo * du / z) = c.he / 2 - c.fo * du / z := IntWalk.i64_in _ (by omega)
  have v5 : c.wi.tdiv 2 = c.wi / 2 := Int.tdiv_eq_ediv_of_nonneg (by omega)
  have v6 : c.he.tdiv 2 = c.he / 2 := Int.tdiv_eq_ediv_of_nonneg (by omega)
  generalize c.fo * dr / z = q1 at *
  generalize c.fo * du / z = q2 at *
  clear hc hp
  go_enter Try.func36, Try.ntmps36
  go_wp2_with (first
    | (go_at_call 28; (with_reducible refine (RetB.grown ((C1 _).out)).mono ?_); rintro e' w' ⟨rfl, g, rfl⟩)
    | (go_at_call 28; (with_reducible refine (RetB.grown ((C2 _).out)).mono ?_); rintro e' w' ⟨rfl, g, rfl⟩)
    | (go_at_call 28; (with_reducible refine (RetB.grown ((C3 _).out)).mono ?_); rintro e' w' ⟨rfl, g, rfl⟩)
    | (go_at_call 46; (with_reducible refine (RetB.grown ((F1 _).out)).mono ?_); rintro e' w' ⟨rfl, g, rfl⟩)
    | (go_at_call 46; (with_reducible refine (RetB.grown ((F2 _).out)).mono ?_); rintro e' w' ⟨rfl, g, rfl⟩)
    | (go_at_call 27; refine (within_any _ _ _ _).mono ?_; rintro e' w' ⟨rfl, rfl⟩)
    | (refine wp_region_xt (by kernel_rfl) (by kernel_rfl) ?_; (repeat (go_big_quiet_step (first | (go_at_call 28; (with_reducible exact RetB.quiet ((C1 _).out))) | (go_at_call 28; (with_reducible exact RetB.quiet ((C2 _).out))) | (go_at_call 28; (with_reducible exact RetB.quiet ((C3 _).out))) | (go_at_call 46; (with_reducible exact RetB.quiet ((F1 _).out))) | (go_at_call 46; (with_reducible exact RetB.quiet ((F2 _).out))) | (go_at_call 27; exact Ret.quiet (within_any _ _ _ _))))); refine wpQuiet_nil ?_; intro g))
  refine bodyPost_ret (v := .tuple #[.agg #[.int .i64 0, .int .i64 0, .int .i64 0, .int .i64 0, .int .i64 0], .bool false]) (by simp [results, Try.results36, go_sem]) rfl ?_
  exact RetB.of rfl (by repeat' (first | exact Below.refl _ _ | assumption | refine Below.xt ?_ ?_ _ | refine Below.alloc ?_ ?_ _ | refine Below.drew ?_ | refine Below.setCell ?_ ?_ _ | (simp; done) | (simp; omega)))

theorem size_bd {fo ra d : Int} (hf : 1 ≤ fo ∧ fo ≤ 4096) (hr : 0 ≤ ra ∧ ra ≤ 1000) (hd : 1 ≤ d ∧ d ≤ 30000) : (0 ≤ fo * ra ∧ fo * ra ≤ 4096000) ∧ (0 ≤ fo * ra * (fo * ra) ∧ fo * ra * (fo * ra) ≤ 16777216000000) ∧ (0 ≤ fo * ra * (fo * ra) * d ∧ fo * ra * (fo * ra) * d ≤ 503316480000000000) := by
  have h1 : 0 ≤ fo * ra := Int.mul_nonneg (by omega) hr.1
  have h2 : fo * ra ≤ 4096 * 1000 := Int.mul_le_mul hf.2 hr.2 hr.1 (by omega)
  have h3 : 0 ≤ fo * ra * (fo * ra) := Int.mul_nonneg h1 h1
  have h4 : fo * ra * (fo * ra) ≤ 4096000 * 4096000 := Int.mul_le_mul (by omega) (by omega) h1 (by omega)
  have h5 : 0 ≤ fo * ra * (fo * ra) * d := Int.mul_nonneg h3 (by omega)
  have h6 : fo * ra * (fo * ra) * d ≤ 16777216000000 * 30000 := Int.mul_le_mul (by omega) hd.2 (by omega) (by omega)
  omega
theorem div_bd {n z : Int} (h : 0 ≤ n ∧ n ≤ 503316480000000000) (hz : 1 ≤ z) : 0 ≤ n / z ∧ n / z ≤ 503316480000000000 := by
  have h1 := Int.ediv_nonneg h.1 (show 0 ≤ z by omega)
  have h2 := Int.ediv_le_self z h.1
  omega
set_option maxHeartbeats 3200000 in
theorem spot_in (c : Cam) (p : V3) (ra : Int) (w : World) (hc : Good c) (hp : pnt p = true) (hr : 0 ≤ ra ∧ ra ≤ 1000) (hz : c.ne ≤ zz c p) (hx : within (xx c p) 0 (c.wi - 1) = true) (hy : within (yy c p) 0 (c.he - 1) = true) : Calls Try.prog 36 #[.agg #[.int .i64 c.e.x, .int .i64 c.e.y, .int .i64 c.e.z, .int .i64 c.r.x, .int .i64 c.r.y, .int .i64 c.r.z, .int .i64 c.u.x, .int .i64 c.u.y, .int .i64 c.u.z, .int .i64 c.f.x, .int .i64 c.f.y, .int .i64 c.f.z, .int .i64 c.fo, .int .i64 c.wi, .int .i64 c.he, .int .i64 c.ne], .agg #[.int .i64 p.x, .int .i64 p.y, .int .i64 p.z], .int .i64 ra] w (RetB (.tuple #[.agg #[.int .i64 0, .int .i64 ((xx c p)), .int .i64 ((yy c p)), .int .i64 ((rr c p ra)), .int .i64 ((zz c p))], .bool true]) w) := by
  have hdu := dt_ax hc.u hc.u
  have hd1 := hc.uu
  have hd2 := hc.rr
  obtain ⟨⟨s1, s2⟩, ⟨s3, s4⟩, s5, s6⟩ := size_bd (d := dt c.u c.u) hc.fo hr (by omega)
  have C4 := fun w => Lib.hid (dot_ax c.u c.u w hc.u hc.u)
  unfold rr xx yy
  unfold yy at hy
  have B := spotB hc hp
  have h1 := pnt_iff.1 hp
  have h2 := pnt_iff.1 hc.e
  obtain ⟨⟨x1, x2⟩, ⟨y1, y2⟩, z1, z2⟩ := h1
  obtain ⟨⟨x3, x4⟩, ⟨y3, y4⟩, z3, z4⟩ := h2
  have D1 := fun w => dot_w (dl c p) c.f w
  rw [B.zf] at D1
  have D2 := fun w => dot_w (dl c p) c.r w
  rw [B.zr] at D2
  have D3 := fun w => dot_w (dl c p) c.u w
  rw [B.zu] at D3
  simp only [dl] at D1 D2 D3
  have C1 := fun w => Lib.hid (D1 w)
  have C2 := fun w => Lib.hid (D2 w)
  have C3 := fun w => Lib.hid (D3 w)
  obtain ⟨_, _, _, b1, b2, b3, b4, b5, b6⟩ := B
  obtain ⟨w1, w2⟩ := hc.wi
  obtain ⟨t1, t2⟩ := hc.he
  obtain ⟨n1, n2⟩ := hc.ne
  clear D1 D2 D3
  unfold xx at hx
  try unfold yy at hy
  simp only [show (⟨p.x - c.e.x, p.y - c.e.y, p.z - c.e.z⟩ : V3) = dl c p from rfl] at C1 C2 C3
  generalize zz c p = z at *
  have z0 : 1 ≤ z := by omega
  obtain ⟨qa, qb⟩ := ediv_bd (a := c.fo * dt (dl c p) c.r) (b := z) (A := 4398046511104) z0 (by decide) b3 b4
  obtain ⟨qc, qd⟩ := ediv_bd (a := c.fo * dt (dl c p) c.u) (b := z) (A := 4398046511104) z0 (by decide) b5 b6
  have F1 := fun w => Lib.hid (retB (floor_any (c.fo * dt (dl c p) c.r) z w z0 (by omega) (by omega) (by omega)))
  have F2 := fun w => Lib.hid (retB (floor_any (c.fo * dt (dl c p) c.u) z w z0 (by omega) (by omega) (by omega)))
  generalize dt (dl c p) c.r = dr at *
  generalize dt (dl c p) c.u = du at *
  have v1 : IntKind.i64.wrap (c.fo * dr) = c.fo * dr := IntWalk.i64_in _ (by omega)
  have v2 : IntKind.i64.wrap (c.fo * du) = c.fo * du := IntWalk.i64_in _ (by omega)
  have v3 : IntKind.i64.wrap (c.wi / 2 + c.fo * dr / z) = c.wi / 2 + c.fo * dr / z := IntWalk.i64_in _ (by omega)
  have v4 : IntKind.i64.wrap (c.he / 2 - c.fo * du / z) = c.he / 2 - c.fo * du / z := IntWalk.i64_in _ (by omega)
  have v5 : c.wi.tdiv 2 = c.wi / 2 := Int.tdiv_eq_ediv_of_nonneg (by omega)
  have v6 : c.he.tdiv 2 = c.he / 2 := Int.tdiv_eq_ediv_of_nonneg (by omega)
  generalize c.fo * dr / z = q1 at *
  generalize c.fo * du / z = q2 at *
  clear hc hp hdu hd1 hd2
  generalize dt c.u c.u = duu at *
  obtain ⟨k1, k2⟩ := div_bd ⟨s5, s6⟩ z0
  obtain ⟨k3, k4⟩ := div_bd ⟨k1, k2⟩ z0
  obtain ⟨m, hm⟩ := Int.eq_ofNat_of_zero_le k3
  have R1 := fun w => root_any m w (by omega)
  rw [← hm] at R1
  have R2 := fun w => Lib.hid (R1 w)
  have HM := Lib.hid (show (c.fo * ra * (c.fo * ra) * duu / z / z).toNat = m by rw [hm]; rfl)
  clear R1 hm
  rw [HM.out]
  clear HM
  generalize isq m = q at *
  go_enter Try.func36, Try.ntmps36
  go_wp2_with (first
    | (go_at_call 28; (with_reducible refine (RetB.grown ((C1 _).out)).mono ?_); rintro e' w' ⟨rfl, g, rfl⟩)
    | (go_at_call 28; (with_reducible refine (RetB.grown ((C2 _).out)).mono ?_); rintro e' w' ⟨rfl, g, rfl⟩)
    | (go_at_call 28; (with_reducible refine (RetB.grown ((C3 _).out)).mono ?_); rintro e' w' ⟨rfl, g, rfl⟩)
    | (go_at_call 28; (with_reducible refine (RetB.grown ((C4 _).out)).mono ?_); rintro e' w' ⟨rfl, g, rfl⟩)
    | (go_at_call 46; (with_reducible refine (RetB.grown ((F1 _).out)).mono ?_); rintro e' w' ⟨rfl, g, rfl⟩)
    | (go_at_call 46; (with_reducible refine (RetB.grown ((F2 _).out)).mono ?_); rintro e' w' ⟨rfl, g, rfl⟩)
    | (go_at_call 27; refine (within_any _ _ _ _).mono ?_; rintro e' w' ⟨rfl, rfl⟩)
    | (go_at_call 47; refine ((R2 _).out).mono ?_; rintro e' w' ⟨rfl, rfl⟩)
    | (refine wp_region_xt (by kernel_rfl) (by kernel_rfl) ?_; (repeat (go_big_quiet_step (first | (go_at_call 28; (with_reducible exact RetB.quiet ((C1 _).out))) | (go_at_call 28; (with_reducible exact RetB.quiet ((C2 _).out))) | (go_at_call 28; (with_reducible exact RetB.quiet ((C3 _).out))) | (go_at_call 28; (with_reducible exact RetB.quiet ((C4 _).out))) | (go_at_call 46; (with_reducible exact RetB.quiet ((F1 _).out))) | (go_at_call 46; (with_reducible exact RetB.quiet ((F2 _).out))) | (go_at_call 27; exact Ret.quiet (within_any _ _ _ _)) | (go_at_call 47; exact Ret.quiet ((R2 _).out))))); refine wpQuiet_nil ?_; intro g))
  all_goals
    refine bodyPost_ret (by simp [results, Try.results36, go_sem]; rfl) rfl ?_
    exact RetB.of (tupR (by omega)) (by repeat' (first | exact Below.refl _ _ | assumption | refine Below.xt ?_ ?_ _ | refine Below.alloc ?_ ?_ _ | refine Below.drew ?_ | refine Below.setCell ?_ ?_ _ | (simp; done) | (simp; omega)))

end Go.Proofs.Ytjeemlnhokihoaa

/- Walks of cameras, by the reference: quotients, the spot of a point. Conditions stand in each theorem. -/
import Derived.Test.YtjeemlnhokihoaaCamR1
import Derived.Test.YtjeemlnhokihoaaCamW6
import Derived.Deep.RegionHeld3
import Derived.Deep.DeepCutAuto
namespace Go.Proofs.Ytjeemlnhokihoaa
open Go.RowKit
set_option linter.unusedVariables false
set_option linter.unusedSimpArgs false
attribute [local go_sem ↓] ld16

theorem down_eq {a b : Int} (hb : 1 ≤ b) : (if a.tmod b < 0 then a.tdiv b - 1 else a.tdiv b) = a / b := tdiv_floor hb
set_option maxHeartbeats 800000 in
theorem down_any (a b : Int) (w : World) (hb : 1 ≤ b) (hb' : b ≤ 4611686018427387904) (ha : -4611686018427387904 ≤ a) (ha' : a ≤ 4611686018427387904) :
    Calls Try.prog 48 #[.int .i64 a, .int .i64 b] w (Ret (.int .i64 (a / b)) w) := by
  have h1 := down_eq (a := a) hb
  obtain ⟨q1, q2⟩ := ediv_bd (a := a) (A := 4611686018427387904) hb (by decide) ha ha'
  have m1 := (tmod_le (a := a) hb).1
  have m2 := (tmod_le (a := a) hb).2
  by_cases hn : a.tmod b < 0
  · rw [if_pos hn] at h1
    rw [← h1] at q1 q2 ⊢
    obtain ⟨q3, q4⟩ : -4611686018427387904 ≤ a.tdiv b ∧ a.tdiv b ≤ 4611686018427387905 := by omega
    clear h1
    go_enter Try.func48, Try.ntmps48
    go_wp2
    go_ret
    exact Ret.of rfl
  · rw [if_neg hn] at h1
    rw [← h1] at q1 q2 ⊢
    clear h1
    go_enter Try.func48, Try.ntmps48
    go_wp2
    go_ret
    exact Ret.of rfl

set_option maxHeartbeats 1600000 in
theorem refspot_far (c : Cam) (p : V3) (ra : Int) (w : World) (hc : Good c) (hp : pnt p = true) (hz : zz c p < c.ne) : Calls Try.prog 38 #[.agg #[.int .i64 c.e.x, .int .i64 c.e.y, .int .i64 c.e.z, .int .i64 c.r.x, .int .i64 c.r.y, .int .i64 c.r.z, .int .i64 c.u.x, .int .i64 c.u.y, .int .i64 c.u.z, .int .i64 c.f.x, .int .i64 c.f.y, .int .i64 c.f.z, .int .i64 c.fo, .int .i64 c.wi, .int .i64 c.he, .int .i64 c.ne], .agg #[.int .i64 p.x, .int .i64 p.y, .int .i64 p.z], .int .i64 ra] w (RetB (.tuple #[.agg #[.int .i64 0, .int .i64 0, .int .i64 0, .int .i64 0, .int .i64 0], .bool false]) w) := by
  have B := spotB hc hp
  have h1 := pnt_iff.1 hp
  have h2 := pnt_iff.1 hc.e
  obtain ⟨⟨x1, x2⟩, ⟨y1, y2⟩, z1, z2⟩ := h1
  obtain ⟨⟨x3, x4⟩, ⟨y3, y4⟩, z3, z4⟩ := h2
  have D1 := fun w => refDot_w (dl c p) c.f w
  rw [B.zf] at D1
  simp only [dl] at D1
  have C1 := fun w => Lib.hid (D1 w)
  clear D1 B hc hp
  generalize zz c p = z at *
  go_enter Try.func38, Try.ntmps38
  go_wp2_with (first
    | (go_at_call 26; (with_reducible refine (RetB.grown ((C1 _).out)).mono ?_); rintro e' w' ⟨rfl, g, rfl⟩)
    | (refine wp_region_xt (by kernel_rfl) (by kernel_rfl) ?_; (repeat (go_big_quiet_step (first | (go_at_call 26; (with_reducible exact RetB.quiet ((C1 _).out)))))); refine wpQuiet_nil ?_; intro g))
  refine bodyPost_ret (v := .tuple #[.agg #[.int .i64 0, .int .i64 0, .int .i64 0, .int .i64 0, .int .i64 0], .bool false]) (by simp [results, Try.results38, go_sem]) rfl ?_
  exact RetB.of rfl (by repeat' (first | exact Below.refl _ _ | assumption | refine Below.xt ?_ ?_ _ | refine Below.alloc ?_ ?_ _ | refine Below.drew ?_ | refine Below.setCell ?_ ?_ _ | (simp; done) | (simp; omega)))

/-- What the reference's statement leaves: a spot in a block of its own. -/
def SpotAt (W : World) (x y z : Int) (s : Value) (wx : World) : Prop := ∃ m : Nat, s = .pointer (some ⟨m, 0, none⟩) ∧ Below W.heap.size W wx ∧ W.heap.size ≤ m ∧ blk wx m = some (.cells #[.int .i64 0, .int .i64 x, .int .i64 y, .int .i64 0, .int .i64 z] 35 (0, 0))
theorem spot_cells {w : World} {m : Nat} {a b c d e : Value} {T : TypeId} (h : blk w m = some (.cells #[a, b, c, d, e] T (0, 0))) : w.cell? ⟨m, 0, none⟩ = some a ∧ w.cell? ⟨m, 1, none⟩ = some b ∧ w.cell? ⟨m, 2, none⟩ = some c ∧ w.cell? ⟨m, 3, none⟩ = some d ∧ w.cell? ⟨m, 4, none⟩ = some e :=
  ⟨cell_of_row w m 0 _ T (0, 0) h, cell_of_row w m 1 _ T (0, 0) h, cell_of_row w m 2 _ T (0, 0) h, cell_of_row w m 3 _ T (0, 0) h, cell_of_row w m 4 _ T (0, 0) h⟩
theorem spot_old {w : World} {m : Nat} {o : Obj} (h : blk w m = some o) : old m w := by
  rcases Nat.lt_or_ge m w.heap.size with hlt | hge
  · exact hlt
  · unfold blk at h; rw [Array.getElem?_eq_none hge] at h; cases h

theorem spot_free {w : World} {m : Nat} {cs : Array Value} {T : TypeId} (h : blk w m = some (.cells cs T (0, 0))) : w.frozen? ⟨m, 3, none⟩ = false := by
  unfold blk at h
  simp [World.frozen?, h]
theorem root_bd {h mm : Nat} (hm : mm ≤ 503316480000000000) (h2 : h * h ≤ 4 * mm + 1) : h ≤ 1500000000 := by
  rcases Nat.lt_or_ge 1500000000 h with hlt | hge
  · have := Nat.mul_le_mul (show 1500000000 ≤ h by omega) (show 1500000000 ≤ h by omega); omega
  · exact hge
theorem le_sq (h : Nat) : h ≤ h * h := by
  rcases Nat.eq_zero_or_pos h with rfl | h0
  · omega
  · exact Nat.le_mul_of_pos_left h h0
theorem below_end {w W : World} {m k : Nat} {v v0 v1 v2 v3 v4 : Value} {g : Gr} (h : Below w.heap.size w W) (hm : w.heap.size ≤ m) (hk : w.heap.size ≤ k) :
    Below w.heap.size w (xt ((((((W.setCell ⟨m, 3, none⟩ v).setCell ⟨k, 0, none⟩ v0).setCell ⟨k, 1, none⟩ v1).setCell ⟨k, 2, none⟩ v2).setCell ⟨k, 3, none⟩ v3).setCell ⟨k, 4, none⟩ v4) g) := by
  have h1 := (((((h.setCell (p := ⟨m, 3, none⟩) hm v).setCell (p := ⟨k, 0, none⟩) hk v0).setCell (p := ⟨k, 1, none⟩) hk v1).setCell (p := ⟨k, 2, none⟩) hk v2).setCell (p := ⟨k, 3, none⟩) hk v3).setCell (p := ⟨k, 4, none⟩) hk v4
  exact Below.xt h1 h1.size g
def spV (s : Bool) (x y r z : Int) : Value := if s then .tuple #[.agg #[.int .i64 0, .int .i64 x, .int .i64 y, .int .i64 r, .int .i64 z], .bool true] else .tuple #[.agg #[.int .i64 0, .int .i64 0, .int .i64 0, .int .i64 0, .int .i64 0], .bool false]
theorem ref_size {fo ra d : Int} : fo * fo * ra * ra * d = fo * ra * (fo * ra) * d := by grind
theorem size_bd2 {fo ra : Int} (hf : 1 ≤ fo ∧ fo ≤ 4096) (hr : 0 ≤ ra ∧ ra ≤ 1000) : (0 ≤ fo * fo ∧ fo * fo ≤ 16777216) ∧ (0 ≤ fo * fo * ra ∧ fo * fo * ra ≤ 16777216000) ∧ (0 ≤ fo * fo * ra * ra ∧ fo * fo * ra * ra ≤ 16777216000000) := by
  have h1 : 0 ≤ fo * fo := Int.mul_nonneg (by omega) (by omega)
  have h2 : fo * fo ≤ 4096 * 4096 := Int.mul_le_mul hf.2 hf.2 (by omega) (by omega)
  have h3 : 0 ≤ fo * fo * ra := Int.mul_nonneg h1 hr.1
  have h4 : fo * fo * ra ≤ 16777216 * 1000 := Int.mul_le_mul (by omega) hr.2 hr.1 (by omega)
  have h5 : 0 ≤ fo * fo * ra * ra := Int.mul_nonneg h3 hr.1
  have h6 : fo * fo * ra * ra ≤ 16777216000 * 1000 := Int.mul_le_mul (by omega) hr.2 hr.1 (by omega)
  omega

set_option maxRecDepth 100000 in
set_option maxHeartbeats 12800000 in
theorem refspot_any (c : Cam) (p : V3) (ra : Int) (w : World) (hc : Good c) (hp : pnt p = true) (hr : 0 ≤ ra ∧ ra ≤ 1000) (hz : c.ne ≤ zz c p) : Calls Try.prog 38 #[.agg #[.int .i64 c.e.x, .int .i64 c.e.y, .int .i64 c.e.z, .int .i64 c.r.x, .int .i64 c.r.y, .int .i64 c.r.z, .int .i64 c.u.x, .int .i64 c.u.y, .int .i64 c.u.z, .int .i64 c.f.x, .int .i64 c.f.y, .int .i64 c.f.z, .int .i64 c.fo, .int .i64 c.wi, .int .i64 c.he, .int .i64 c.ne], .agg #[.int .i64 p.x, .int .i64 p.y, .int .i64 p.z], .int .i64 ra] w (RetB (spV (seen c p) (xx c p) (yy c p) (rr c p ra) (zz c p)) w) := by
  have hse : seen c p = (within (xx c p) 0 (c.wi - 1) && within (yy c p) 0 (c.he - 1)) := by simp [seen, hz]
  rw [hse]
  clear hse
  have hdu := dt_ax hc.r hc.r
  have hd2 := hc.rr
  have hd1 := hc.uu
  obtain ⟨⟨s1, s2⟩, ⟨s3, s4⟩, s5, s6⟩ := size_bd2 hc.fo hr
  obtain ⟨_, _, s7, s8⟩ := size_bd (d := dt c.r c.r) hc.fo hr (by omega)
  rw [← ref_size] at s7 s8
  have C4 := fun w => Lib.hid (refDot_ax c.r c.r w hc.r hc.r)
  unfold rr xx yy
  rw [← ref_size, hd1]
  have B := spotB hc hp
  have h1 := pnt_iff.1 hp
  have h2 := pnt_iff.1 hc.e
  obtain ⟨⟨x1, x2⟩, ⟨y1, y2⟩, z1, z2⟩ := h1
  obtain ⟨⟨x3, x4⟩, ⟨y3, y4⟩, z3, z4⟩ := h2
  have D1 := fun w => refDot_w (dl c p) c.f w
  rw [B.zf] at D1
  have D2 := fun w => refDot_w (dl c p) c.r w
  rw [B.zr] at D2
  have D3 := fun w => refDot_w (dl c p) c.u w
  rw [B.zu] at D3
  simp only [dl] at D1 D2 D3
  have C1 := fun w => Lib.hid (D1 w)
  have C2 := fun w => Lib.hid (D2 w)
  have C3 := fun w => Lib.hid (D3 w)
  obtain ⟨_, _, _, b1, b2, b3, b4, b5, b6⟩ := B
  obtain ⟨w1, w2⟩ := hc.wi
  obtain ⟨t1, t2⟩ := hc.he
  obtain ⟨n1, n2⟩ := hc.ne
  clear D1 D2 D3
  simp only [show (⟨p.x - c.e.x, p.y - c.e.y, p.z - c.e.z⟩ : V3) = dl c p from rfl] at C1 C2 C3
  generalize zz c p = z at *
  have z0 : 1 ≤ z := by omega
  obtain ⟨qa, qb⟩ := ediv_bd (a := c.fo * dt (dl c p) c.r) (b := z) (A := 4398046511104) z0 (by decide) b3 b4
  obtain ⟨qc, qd⟩ := ediv_bd (a := c.fo * dt (dl c p) c.u) (b := z) (A := 4398046511104) z0 (by decide) b5 b6
  have F1 := fun w => Lib.hid (retB (down_any (c.fo * dt (dl c p) c.r) z w z0 (by omega) (by omega) (by omega)))
  have F2 := fun w => Lib.hid (retB (down_any (c.fo * dt (dl c p) c.u) z w z0 (by omega) (by omega) (by omega)))
  generalize dt (dl c p) c.r = dr at *
  generalize dt (dl c p) c.u = du at *
  have v1 : IntKind.i64.wrap (c.fo * dr) = c.fo * dr := IntWalk.i64_in _ (by omega)
  have v2 : IntKind.i64.wrap (c.fo * du) = c.fo * du := IntWalk.i64_in _ (by omega)
  have v3 : IntKind.i64.wrap (c.wi / 2 + c.fo * dr / z) = c.wi / 2 + c.fo * dr / z := IntWalk.i64_in _ (by omega)
  have v4 : IntKind.i64.wrap (c.he / 2 - c.fo * du / z) = c.he / 2 - c.fo * du / z := IntWalk.i64_in _ (by omega)
  have v7 : IntKind.i64.wrap (c.wi / 2) = c.wi / 2 := IntWalk.i64_in _ (by omega)
  have v8 : IntKind.i64.wrap (c.he / 2) = c.he / 2 := IntWalk.i64_in _ (by omega)
  have v5 : c.wi.tdiv 2 = c.wi / 2 := Int.tdiv_eq_ediv_of_nonneg (by omega)
  have v6 : c.he.tdiv 2 = c.he / 2 := Int.tdiv_eq_ediv_of_nonneg (by omega)
  generalize c.fo * dr / z = q1 at *
  generalize c.fo * du / z = q2 at *
  clear hc hp hdu hd1 hd2
  generalize dt c.r c.r = duu at *
  obtain ⟨V, hV⟩ : ∃ V, spV (within (c.wi / 2 + q1) 0 (c.wi - 1) && within (c.he / 2 - q2) 0 (c.he - 1)) (c.wi / 2 + q1) (c.he / 2 - q2) (max 1 (isq (c.fo * c.fo * ra * ra * duu / z / z).toNat : Int)) z = V := ⟨_, rfl⟩
  rw [hV]
  have HV := Lib.hid hV
  clear hV
  obtain ⟨k1, k2⟩ := div_bd ⟨s7, s8⟩ z0
  obtain ⟨k3, k4⟩ := div_bd ⟨k1, k2⟩ z0
  go_enter Try.func38, Try.ntmps38
  go_wp2_with fail
  refine (RetB.grown (C1 _).out).mono ?_
  rintro e w' ⟨rfl, g, rfl⟩
  go_upto_region 5 with fail
  go_cut [10] (fun s10 wx => SpotAt ((((w.alloc (.cells #[.int .i64 c.e.x, .int .i64 c.e.y, .int .i64 c.e.z, .int .i64 c.r.x, .int .i64 c.r.y, .int .i64 c.r.z, .int .i64 c.u.x, .int .i64 c.u.y, .int .i64 c.u.z, .int .i64 c.f.x, .int .i64 c.f.y, .int .i64 c.f.z, .int .i64 c.fo, .int .i64 c.wi, .int .i64 c.he, .int .i64 c.ne] 25)).alloc (.cells #[.int .i64 p.x, .int .i64 p.y, .int .i64 p.z] 23)).alloc (.cells #[.int .i64 0, .int .i64 0, .int .i64 0, .int .i64 0, .int .i64 0] 35)).alloc (.cells #[.int .i64 (p.x - c.e.x), .int .i64 (p.y - c.e.y), .int .i64 (p.z - c.e.z)] 23)) (c.wi / 2 + q1) (c.he / 2 - q2) z s10 wx)
  case first =>
    go_region_held3 (fun w' => old w.heap.size w' ∧ old (w.heap.size + 1 + 1 + 1) w' ∧ w'.cell? ⟨w.heap.size, 3, none⟩ = some (.int .i64 c.r.x) ∧ w'.cell? ⟨w.heap.size, 4, none⟩ = some (.int .i64 c.r.y) ∧ w'.cell? ⟨w.heap.size, 5, none⟩ = some (.int .i64 c.r.z) ∧ w'.cell? ⟨w.heap.size, 6, none⟩ = some (.int .i64 c.u.x) ∧ w'.cell? ⟨w.heap.size, 7, none⟩ = some (.int .i64 c.u.y) ∧ w'.cell? ⟨w.heap.size, 8, none⟩ = some (.int .i64 c.u.z) ∧ w'.cell? ⟨w.heap.size, 12, none⟩ = some (.int .i64 c.fo) ∧ w'.cell? ⟨w.heap.size, 13, none⟩ = some (.int .i64 c.wi) ∧ w'.cell? ⟨w.heap.size, 14, none⟩ = some (.int .i64 c.he) ∧ w'.cell? ⟨w.heap.size + 1 + 1 + 1, 0, none⟩ = some (.int .i64 (p.x - c.e.x)) ∧ w'.cell? ⟨w.heap.size + 1 + 1 + 1, 1, none⟩ = some (.int .i64 (p.y - c.e.y)) ∧ w'.cell? ⟨w.heap.size + 1 + 1 + 1, 2, none⟩ = some (.int .i64 (p.z - c.e.z))) (go_simp) (first | (go_at_call 26; (with_reducible refine (RetB.grown (C2 _).out).mono ?_); rintro e' w' ⟨rfl, g, rfl⟩) | (go_at_call 26; (with_reducible refine (RetB.grown (C3 _).out).mono ?_); rintro e' w' ⟨rfl, g, rfl⟩) | (go_at_call 48; (with_reducible refine (RetB.grown (F1 _).out).mono ?_); rintro e' w' ⟨rfl, g, rfl⟩) | (go_at_call 48; (with_reducible refine (RetB.grown (F2 _).out).mono ?_); rintro e' w' ⟨rfl, g, rfl⟩))
    all_goals
      go_wp2_with fail
      go_meet
      exact ⟨_, rfl, (by repeat' (first | exact Below.refl _ _ | assumption | refine Below.xt ?_ ?_ _ | refine Below.alloc ?_ ?_ _ | refine Below.drew ?_ | refine Below.setCell ?_ ?_ _ | (simp; done) | (simp; omega))), (by first | (simp [xt]; done) | (simp [xt]; omega)), by go_simp⟩
  case rest =>
    obtain ⟨m, rfl, hb, hm, hblk⟩ := hcut
    obtain ⟨g2, rfl⟩ := xt_of_below hb
    have hm' : w.heap.size + 4 ≤ m := by simpa using hm
    have hm2 : w.heap.size ≤ m := by omega
    have HBB := Lib.hid (show Below w.heap.size w (xt ((((w.alloc (.cells #[.int .i64 c.e.x, .int .i64 c.e.y, .int .i64 c.e.z, .int .i64 c.r.x, .int .i64 c.r.y, .int .i64 c.r.z, .int .i64 c.u.x, .int .i64 c.u.y, .int .i64 c.u.z, .int .i64 c.f.x, .int .i64 c.f.y, .int .i64 c.f.z, .int .i64 c.fo, .int .i64 c.wi, .int .i64 c.he, .int .i64 c.ne] 25)).alloc (.cells #[.int .i64 p.x, .int .i64 p.y, .int .i64 p.z] 23)).alloc (.cells #[.int .i64 0, .int .i64 0, .int .i64 0, .int .i64 0, .int .i64 0] 35)).alloc (.cells #[.int .i64 (p.x - c.e.x), .int .i64 (p.y - c.e.y), .int .i64 (p.z - c.e.z)] 23)) g2) from (by repeat' (first | exact Below.refl _ _ | assumption | refine Below.xt ?_ ?_ _ | refine Below.alloc ?_ ?_ _ | refine Below.drew ?_ | refine Below.setCell ?_ ?_ _ | (simp; done) | (simp; omega))))
    obtain ⟨j0, j1, j2, j3, j4⟩ := spot_cells hblk
    have hom := spot_old hblk
    clear hb hm C1 C2 C3 F1 F2
    by_cases hx : within (c.wi / 2 + q1) 0 (c.wi - 1) = true
    · by_cases hy : within (c.he / 2 - q2) 0 (c.he - 1) = true
      · obtain ⟨mm, hmm⟩ := Int.eq_ofNat_of_zero_le k3
        have E := Lib.hid (show Value.tuple #[.agg #[.int .i64 0, .int .i64 ((c.wi / 2 + q1)), .int .i64 ((c.he / 2 - q2)), .int .i64 ((max 1 (isq mm : Int))), .int .i64 z], .bool true] = V by rw [← HV.out, hx, hy, hmm]; rfl)
        have HI := Lib.hid (fun r h1 h2 => isq_uniq (n := mm) (r := r) h1 h2)
        obtain ⟨hX1, hX2⟩ := within_iff.1 hx
        obtain ⟨hY1, hY2⟩ := within_iff.1 hy
        have u1 : IntKind.i64.wrap (c.fo * c.fo) = c.fo * c.fo := IntWalk.i64_in _ (by omega)
        have u2 : IntKind.i64.wrap (c.fo * c.fo * ra) = c.fo * c.fo * ra := IntWalk.i64_in _ (by omega)
        have u3 : IntKind.i64.wrap (c.fo * c.fo * ra * ra) = c.fo * c.fo * ra * ra := IntWalk.i64_in _ (by omega)
        have u4 : IntKind.i64.wrap (c.fo * c.fo * ra * ra * duu) = c.fo * c.fo * ra * ra * duu := IntWalk.i64_in _ (by omega)
        have hmb : mm ≤ 503316480000000000 := by omega
        have hfz := spot_free hblk
        obtain ⟨N, hN⟩ : ∃ N, c.fo * c.fo * ra * ra * duu = N := ⟨_, rfl⟩
        rw [hN] at u4 s7 s8 hmm k1 k2 k3 k4
        clear hx hy hblk HV
        go_wp2_with (first
          | (go_at_call 26; refine (RetB.grown ((C4 _).out)).mono ?_; rintro e' w' ⟨rfl, g, rfl⟩)
          | (refine wp_region_xt (by kernel_rfl) (by kernel_rfl) ?_; (repeat (go_big_quiet_step (first | (go_at_call 26; exact RetB.quiet ((C4 _).out))))); refine wpQuiet_nil ?_; intro g))
        clear u1 u2 u3 u4 C4 s1 s2 s3 s4 s5 s6 v1 v2 v3 v4 v5 v6 v7 v8
        go_loop [13] (fun u13 => ∃ h : Nat, 1 ≤ h ∧ h * h ≤ 4 * mm + 1 ∧ u13 = .int .i64 h) (fun u13 => 4 * mm + 2 - (intOf u13).toNat)
        case atStart => exact ⟨1, by omega, by omega, rfl⟩
        case round =>
          obtain ⟨h, h1, h2, rfl⟩ := hrel
          have h3 := root_bd hmb h2
          have h4 : ((h : Int) * h) = ((h * h : Nat) : Int) := by simp
          have h6 : 0 ≤ ((h : Int) * h) := by rw [h4]; omega
          have h7 : ((h : Int) * h) ≤ 2013265920000000001 := by rw [h4]; omega
          by_cases hle : h * h ≤ mm
          · have hd : decide ((h : Int) * h ≤ mm) = true := by rw [h4]; simpa using (by omega)
            have h5 : (2 * h) * (2 * h) ≤ 4 * mm + 1 := by have : (2 * h) * (2 * h) = 4 * (h * h) := by grind
                                                           omega
            have H5 := Lib.hid h5
            have H4 := Lib.hid (le_sq (2 * h))
            clear h5 hle h2 h4
            go_wp2_with fail
            go_round
            case rel => exact ⟨2 * h, by omega, H5.out, by go_num⟩
            case measure => have := H4.out; have := H5.out; simp [intOf]; omega
          · have hd : decide ((h : Int) * h ≤ mm) = false := by rw [h4]; simp; omega
            have HH := Lib.hid (show mm < h * h by omega)
            clear hle h2 h4
            go_wp2_with fail
            go_loop [12, 13] (fun u12 u13 => ∃ lo hi : Nat, lo < hi ∧ hi ≤ 1500000000 ∧ u12 = .int .i64 lo ∧ u13 = .int .i64 hi ∧ Hid (lo * lo ≤ mm ∧ mm < hi * hi)) (fun u12 u13 => (intOf u13 - intOf u12).toNat)
            case atStart => exact ⟨0, h, by omega, h3, rfl, rfl, Lib.hid ⟨by omega, HH.out⟩⟩
            case round =>
              obtain ⟨lo, hi, l1, l2, rfl, rfl, HL⟩ := hrel
              by_cases hgo : lo + 1 < hi
              · obtain ⟨md, hmd⟩ : ∃ md, md = (lo + hi) / 2 := ⟨_, rfl⟩
                have m1 : ((lo : Int) + hi) / 2 = md := by omega
                have m2 : lo < md := by omega
                have m3 : md < hi := by omega
                have m4 : ((md : Int) * md) = ((md * md : Nat) : Int) := by simp
                have m5 : md * md ≤ 1500000000 * 1500000000 := Nat.mul_le_mul (by omega) (by omega)
                have m6 : 0 ≤ ((md : Int) * md) := by rw [m4]; omega
                have m7 : ((md : Int) * md) ≤ 2250000000000000000 := by rw [m4]; omega
                have HMM := Lib.hid m4
                clear hmd m4 m5 hd h6 h7
                by_cases hle : md * md ≤ mm
                · have hd : decide ((md : Int) * md ≤ mm) = true := by rw [HMM.out]; simp; omega
                  have HN := Lib.hid hle
                  clear hle
                  go_wp2_with fail
                  go_round
                  case rel => exact ⟨md, hi, m3, l2, congrArg (Value.int .i64) m1, rfl, Lib.hid ⟨HN.out, HL.out.2⟩⟩
                  case measure => simp [intOf]; omega
                · have hd : decide ((md : Int) * md ≤ mm) = false := by rw [HMM.out]; simp; omega
                  have HN := Lib.hid (show mm < md * md by omega)
                  clear hle
                  go_wp2_with fail
                  go_round
                  case rel => exact ⟨lo, md, m2, by omega, rfl, congrArg (Value.int .i64) m1, Lib.hid ⟨HL.out.1, HN.out⟩⟩
                  case measure => simp [intOf]; omega
              · obtain rfl : hi = lo + 1 := by omega
                have HLo := Lib.hid (HI.out lo HL.out.1 HL.out.2)
                clear hd h6 h7
                have E1 := Lib.hid (show ∀ r : Int, max 1 (lo : Int) = r → Value.tuple #[.agg #[.int .i64 0, .int .i64 ((c.wi / 2 + q1)), .int .i64 ((c.he / 2 - q2)), .int .i64 r, .int .i64 z], .bool true] = V from fun r hr => by rw [← hr, HLo.out]; exact E.out)
                clear E HLo HL HI HH
                have hl3 : lo = 0 ∨ lo = 1 ∨ 2 ≤ lo := by omega
                rcases hl3 with rfl | rfl | hl3
                · have E2 := Lib.hid (E1.out 1 (by decide))
                  clear E1
                  go_wp2_with fail
                  refine bodyPost_ret (v := .tuple #[.agg #[.int .i64 0, .int .i64 ((c.wi / 2 + q1)), .int .i64 ((c.he / 2 - q2)), .int .i64 1, .int .i64 z], .bool true]) (by simp [results, Try.results38, go_sem]) rfl ?_
                  exact RetB.of E2.out (below_end HBB.out hm2 (by omega))
                · have E2 := Lib.hid (E1.out 1 (by decide))
                  clear E1
                  go_wp2_with fail
                  refine bodyPost_ret (v := .tuple #[.agg #[.int .i64 0, .int .i64 ((c.wi / 2 + q1)), .int .i64 ((c.he / 2 - q2)), .int .i64 1, .int .i64 z], .bool true]) (by simp [results, Try.results38, go_sem]) rfl ?_
                  exact RetB.of E2.out (below_end HBB.out hm2 (by omega))
                · have E2 := Lib.hid (E1.out lo (by omega))
                  clear E1
                  go_wp2_with fail
                  refine bodyPost_ret (v := .tuple #[.agg #[.int .i64 0, .int .i64 ((c.wi / 2 + q1)), .int .i64 ((c.he / 2 - q2)), .int .i64 ((lo : Int)), .int .i64 z], .bool true]) (by simp [results, Try.results38, go_sem]) rfl ?_
                  exact RetB.of E2.out (below_end HBB.out hm2 (by omega))
      · have hy' : within (c.he / 2 - q2) 0 (c.he - 1) = false := by simpa using hy
        have E := Lib.hid (show Value.tuple #[.agg #[.int .i64 0, .int .i64 0, .int .i64 0, .int .i64 0, .int .i64 0], .bool false] = V by rw [← HV.out, hx, hy']; rfl)
        have hX := within_iff.1 hx
        obtain ⟨hX1, hX2⟩ := hX
        have hY : c.he / 2 - q2 < 0 ∨ c.he ≤ c.he / 2 - q2 := by
          rcases Int.lt_or_le (c.he / 2 - q2) 0 with h | h
          · exact .inl h
          · rcases Int.lt_or_le (c.he / 2 - q2) c.he with h' | h'
            · exact absurd (within_iff.2 ⟨h, by omega⟩) hy
            · exact .inr h'
        clear hx hy hy' hblk
        go_wp2_with fail
        all_goals first | (exfalso; omega) | skip
        all_goals
          refine bodyPost_ret (v := .tuple #[.agg #[.int .i64 0, .int .i64 0, .int .i64 0, .int .i64 0, .int .i64 0], .bool false]) (by simp [results, Try.results38, go_sem]) rfl ?_
          exact RetB.of E.out (by repeat' (first | exact Below.refl _ _ | assumption | refine Below.xt ?_ ?_ _ | refine Below.alloc ?_ ?_ _ | refine Below.drew ?_ | refine Below.setCell ?_ ?_ _ | (simp; done) | (simp; omega)))
    · have hx' : within (c.wi / 2 + q1) 0 (c.wi - 1) = false := by simpa using hx
      have E := Lib.hid (show Value.tuple #[.agg #[.int .i64 0, .int .i64 0, .int .i64 0, .int .i64 0, .int .i64 0], .bool false] = V by rw [← HV.out, hx']; rfl)
      have hX : c.wi / 2 + q1 < 0 ∨ c.wi ≤ c.wi / 2 + q1 := by
        rcases Int.lt_or_le (c.wi / 2 + q1) 0 with h | h
        · exact .inl h
        · rcases Int.lt_or_le (c.wi / 2 + q1) c.wi with h' | h'
          · exact absurd (within_iff.2 ⟨h, by omega⟩) hx
          · exact .inr h'
      clear hx hx' hblk
      go_wp2_with fail
      all_goals first | (exfalso; omega) | skip
      all_goals
        refine bodyPost_ret (v := .tuple #[.agg #[.int .i64 0, .int .i64 0, .int .i64 0, .int .i64 0, .int .i64 0], .bool false]) (by simp [results, Try.results38, go_sem]) rfl ?_
        exact RetB.of E.out (by repeat' (first | exact Below.refl _ _ | assumption | refine Below.xt ?_ ?_ _ | refine Below.alloc ?_ ?_ _ | refine Below.drew ?_ | refine Below.setCell ?_ ?_ _ | (simp; done) | (simp; omega)))

end Go.Proofs.Ytjeemlnhokihoaa

/- Walks of cameras, by the reference: Move. Conditions stand in each theorem. -/
import Derived.Test.YtjeemlnhokihoaaCamR1
import Derived.Test.YtjeemlnhokihoaaCamW7
namespace Go.Proofs.Ytjeemlnhokihoaa
open Go.RowKit
set_option linter.unusedVariables false
set_option linter.unusedSimpArgs false
attribute [local go_sem ↓] ld16

set_option maxHeartbeats 400000 in
theorem refMove_bad (c : Cam) (a b d : Int) (w : World) (h : cval c = false) : Calls Try.prog 23 #[.agg #[.int .i64 c.e.x, .int .i64 c.e.y, .int .i64 c.e.z, .int .i64 c.r.x, .int .i64 c.r.y, .int .i64 c.r.z, .int .i64 c.u.x, .int .i64 c.u.y, .int .i64 c.u.z, .int .i64 c.f.x, .int .i64 c.f.y, .int .i64 c.f.z, .int .i64 c.fo, .int .i64 c.wi, .int .i64 c.he, .int .i64 c.ne], .int .i64 a, .int .i64 b, .int .i64 d] w (RetB (.tuple #[.agg #[.int .i64 0, .int .i64 0, .int .i64 0, .int .i64 0, .int .i64 0, .int .i64 0, .int .i64 0, .int .i64 0, .int .i64 0, .int .i64 0, .int .i64 0, .int .i64 0, .int .i64 0, .int .i64 0, .int .i64 0, .int .i64 0], .int .i64 2]) w) := by
  go_enter Try.func23, Try.ntmps23
  go_wp2_with (first
    | (go_at_call 11; refine (RetB.grown (refvalid_any c _)).mono ?_; rintro e' w' ⟨rfl, g, rfl⟩)
    | (refine wp_region_xt (by kernel_rfl) (by kernel_rfl) ?_; (repeat (go_big_quiet_step (first | (go_at_call 11; exact RetB.quiet (refvalid_any c _))))); refine wpQuiet_nil ?_; intro g))
  refine bodyPost_ret (v := .tuple #[.agg #[.int .i64 0, .int .i64 0, .int .i64 0, .int .i64 0, .int .i64 0, .int .i64 0, .int .i64 0, .int .i64 0, .int .i64 0, .int .i64 0, .int .i64 0, .int .i64 0, .int .i64 0, .int .i64 0, .int .i64 0, .int .i64 0], .int .i64 2]) (by simp [results, Try.results23, go_sem]) rfl ?_
  exact RetB.of rfl (by repeat' (first | exact Below.refl _ _ | assumption | refine Below.xt ?_ ?_ _ | refine Below.alloc ?_ ?_ _ | refine Below.drew ?_ | refine Below.setCell ?_ ?_ _ | (simp; done) | (simp; omega)))
set_option maxHeartbeats 1600000 in
theorem refMove_fa (c : Cam) (a b d : Int) (w : World) (hc : Good c) (h1 : within a (-2097152) 2097152 = false) : Calls Try.prog 23 #[.agg #[.int .i64 c.e.x, .int .i64 c.e.y, .int .i64 c.e.z, .int .i64 c.r.x, .int .i64 c.r.y, .int .i64 c.r.z, .int .i64 c.u.x, .int .i64 c.u.y, .int .i64 c.u.z, .int .i64 c.f.x, .int .i64 c.f.y, .int .i64 c.f.z, .int .i64 c.fo, .int .i64 c.wi, .int .i64 c.he, .int .i64 c.ne], .int .i64 a, .int .i64 b, .int .i64 d] w (RetB (.tuple #[.agg #[.int .i64 0, .int .i64 0, .int .i64 0, .int .i64 0, .int .i64 0, .int .i64 0, .int .i64 0, .int .i64 0, .int .i64 0, .int .i64 0, .int .i64 0, .int .i64 0, .int .i64 0, .int .i64 0, .int .i64 0, .int .i64 0], .int .i64 3]) w) := by
  have V := fun w => refvalid_any c w
  rw [hc.val] at V
  have V' := fun w => Lib.hid (V w)
  obtain ⟨⟨x1, x2⟩, ⟨y1, y2⟩, z1, z2⟩ := pnt_iff.1 hc.e
  skip
  clear V hc
  skip
  go_enter Try.func23, Try.ntmps23
  go_wp2_with (first
    | (go_at_call 11; refine (RetB.grown ((V' _).out)).mono ?_; rintro e' w' ⟨rfl, g, rfl⟩)
    | (go_at_call 31; refine (refTo_any _ _ _ _).mono ?_; rintro e' w' ⟨rfl, rfl⟩)
    | (go_at_call 24; refine (RetB.grown (ePoint_any ⟨_, _, _⟩ _)).mono ?_; rintro e' w' ⟨rfl, g, rfl⟩)
    | (refine wp_region_xt (by kernel_rfl) (by kernel_rfl) ?_; (repeat (go_big_quiet_step (first | (go_at_call 11; exact RetB.quiet ((V' _).out)) | (go_at_call 31; exact Ret.quiet (refTo_any _ _ _ _)) | (go_at_call 24; exact RetB.quiet (ePoint_any ⟨_, _, _⟩ _))))); refine wpQuiet_nil ?_; intro g))
  refine bodyPost_ret (v := .tuple #[.agg #[.int .i64 0, .int .i64 0, .int .i64 0, .int .i64 0, .int .i64 0, .int .i64 0, .int .i64 0, .int .i64 0, .int .i64 0, .int .i64 0, .int .i64 0, .int .i64 0, .int .i64 0, .int .i64 0, .int .i64 0, .int .i64 0], .int .i64 3]) (by simp [results, Try.results23, go_sem, mvE]) rfl ?_
  exact RetB.of rfl (by repeat' (first | exact Below.refl _ _ | assumption | refine Below.xt ?_ ?_ _ | refine Below.alloc ?_ ?_ _ | refine Below.drew ?_ | refine Below.setCell ?_ ?_ _ | (simp; done) | (simp; omega)))
set_option maxHeartbeats 1600000 in
theorem refMove_fb (c : Cam) (a b d : Int) (w : World) (hc : Good c) (h1 : within a (-2097152) 2097152 = true) (h2 : within b (-2097152) 2097152 = false) : Calls Try.prog 23 #[.agg #[.int .i64 c.e.x, .int .i64 c.e.y, .int .i64 c.e.z, .int .i64 c.r.x, .int .i64 c.r.y, .int .i64 c.r.z, .int .i64 c.u.x, .int .i64 c.u.y, .int .i64 c.u.z, .int .i64 c.f.x, .int .i64 c.f.y, .int .i64 c.f.z, .int .i64 c.fo, .int .i64 c.wi, .int .i64 c.he, .int .i64 c.ne], .int .i64 a, .int .i64 b, .int .i64 d] w (RetB (.tuple #[.agg #[.int .i64 0, .int .i64 0, .int .i64 0, .int .i64 0, .int .i64 0, .int .i64 0, .int .i64 0, .int .i64 0, .int .i64 0, .int .i64 0, .int .i64 0, .int .i64 0, .int .i64 0, .int .i64 0, .int .i64 0, .int .i64 0], .int .i64 3]) w) := by
  have V := fun w => refvalid_any c w
  rw [hc.val] at V
  have V' := fun w => Lib.hid (V w)
  obtain ⟨⟨x1, x2⟩, ⟨y1, y2⟩, z1, z2⟩ := pnt_iff.1 hc.e
  skip
  clear V hc
  skip
  go_enter Try.func23, Try.ntmps23
  go_wp2_with (first
    | (go_at_call 11; refine (RetB.grown ((V' _).out)).mono ?_; rintro e' w' ⟨rfl, g, rfl⟩)
    | (go_at_call 31; refine (refTo_any _ _ _ _).mono ?_; rintro e' w' ⟨rfl, rfl⟩)
    | (go_at_call 24; refine (RetB.grown (ePoint_any ⟨_, _, _⟩ _)).mono ?_; rintro e' w' ⟨rfl, g, rfl⟩)
    | (refine wp_region_xt (by kernel_rfl) (by kernel_rfl) ?_; (repeat (go_big_quiet_step (first | (go_at_call 11; exact RetB.quiet ((V' _).out)) | (go_at_call 31; exact Ret.quiet (refTo_any _ _ _ _)) | (go_at_call 24; exact RetB.quiet (ePoint_any ⟨_, _, _⟩ _))))); refine wpQuiet_nil ?_; intro g))
  refine bodyPost_ret (v := .tuple #[.agg #[.int .i64 0, .int .i64 0, .int .i64 0, .int .i64 0, .int .i64 0, .int .i64 0, .int .i64 0, .int .i64 0, .int .i64 0, .int .i64 0, .int .i64 0, .int .i64 0, .int .i64 0, .int .i64 0, .int .i64 0, .int .i64 0], .int .i64 3]) (by simp [results, Try.results23, go_sem, mvE]) rfl ?_
  exact RetB.of rfl (by repeat' (first | exact Below.refl _ _ | assumption | refine Below.xt ?_ ?_ _ | refine Below.alloc ?_ ?_ _ | refine Below.drew ?_ | refine Below.setCell ?_ ?_ _ | (simp; done) | (simp; omega)))
set_option maxHeartbeats 1600000 in
theorem refMove_fd (c : Cam) (a b d : Int) (w : World) (hc : Good c) (h1 : within a (-2097152) 2097152 = true) (h2 : within b (-2097152) 2097152 = true) (h3 : within d (-2097152) 2097152 = false) : Calls Try.prog 23 #[.agg #[.int .i64 c.e.x, .int .i64 c.e.y, .int .i64 c.e.z, .int .i64 c.r.x, .int .i64 c.r.y, .int .i64 c.r.z, .int .i64 c.u.x, .int .i64 c.u.y, .int .i64 c.u.z, .int .i64 c.f.x, .int .i64 c.f.y, .int .i64 c.f.z, .int .i64 c.fo, .int .i64 c.wi, .int .i64 c.he, .int .i64 c.ne], .int .i64 a, .int .i64 b, .int .i64 d] w (RetB (.tuple #[.agg #[.int .i64 0, .int .i64 0, .int .i64 0, .int .i64 0, .int .i64 0, .int .i64 0, .int .i64 0, .int .i64 0, .int .i64 0, .int .i64 0, .int .i64 0, .int .i64 0, .int .i64 0, .int .i64 0, .int .i64 0, .int .i64 0], .int .i64 3]) w) := by
  have V := fun w => refvalid_any c w
  rw [hc.val] at V
  have V' := fun w => Lib.hid (V w)
  obtain ⟨⟨x1, x2⟩, ⟨y1, y2⟩, z1, z2⟩ := pnt_iff.1 hc.e
  skip
  clear V hc
  skip
  go_enter Try.func23, Try.ntmps23
  go_wp2_with (first
    | (go_at_call 11; refine (RetB.grown ((V' _).out)).mono ?_; rintro e' w' ⟨rfl, g, rfl⟩)
    | (go_at_call 31; refine (refTo_any _ _ _ _).mono ?_; rintro e' w' ⟨rfl, rfl⟩)
    | (go_at_call 24; refine (RetB.grown (ePoint_any ⟨_, _, _⟩ _)).mono ?_; rintro e' w' ⟨rfl, g, rfl⟩)
    | (refine wp_region_xt (by kernel_rfl) (by kernel_rfl) ?_; (repeat (go_big_quiet_step (first | (go_at_call 11; exact RetB.quiet ((V' _).out)) | (go_at_call 31; exact Ret.quiet (refTo_any _ _ _ _)) | (go_at_call 24; exact RetB.quiet (ePoint_any ⟨_, _, _⟩ _))))); refine wpQuiet_nil ?_; intro g))
  refine bodyPost_ret (v := .tuple #[.agg #[.int .i64 0, .int .i64 0, .int .i64 0, .int .i64 0, .int .i64 0, .int .i64 0, .int .i64 0, .int .i64 0, .int .i64 0, .int .i64 0, .int .i64 0, .int .i64 0, .int .i64 0, .int .i64 0, .int .i64 0, .int .i64 0], .int .i64 3]) (by simp [results, Try.results23, go_sem, mvE]) rfl ?_
  exact RetB.of rfl (by repeat' (first | exact Below.refl _ _ | assumption | refine Below.xt ?_ ?_ _ | refine Below.alloc ?_ ?_ _ | refine Below.drew ?_ | refine Below.setCell ?_ ?_ _ | (simp; done) | (simp; omega)))
set_option maxHeartbeats 1600000 in
theorem refMove_fp (c : Cam) (a b d : Int) (w : World) (hc : Good c) (h1 : within a (-2097152) 2097152 = true) (h2 : within b (-2097152) 2097152 = true) (h3 : within d (-2097152) 2097152 = true) (hp : pnt (mvE c a b d) = false) : Calls Try.prog 23 #[.agg #[.int .i64 c.e.x, .int .i64 c.e.y, .int .i64 c.e.z, .int .i64 c.r.x, .int .i64 c.r.y, .int .i64 c.r.z, .int .i64 c.u.x, .int .i64 c.u.y, .int .i64 c.u.z, .int .i64 c.f.x, .int .i64 c.f.y, .int .i64 c.f.z, .int .i64 c.fo, .int .i64 c.wi, .int .i64 c.he, .int .i64 c.ne], .int .i64 a, .int .i64 b, .int .i64 d] w (RetB (.tuple #[.agg #[.int .i64 0, .int .i64 0, .int .i64 0, .int .i64 0, .int .i64 0, .int .i64 0, .int .i64 0, .int .i64 0, .int .i64 0, .int .i64 0, .int .i64 0, .int .i64 0, .int .i64 0, .int .i64 0, .int .i64 0, .int .i64 0], .int .i64 3]) w) := by
  have V := fun w => refvalid_any c w
  rw [hc.val] at V
  have V' := fun w => Lib.hid (V w)
  obtain ⟨⟨x1, x2⟩, ⟨y1, y2⟩, z1, z2⟩ := pnt_iff.1 hc.e
  (obtain ⟨⟨ax1, ax2⟩, ⟨ay1, ay2⟩, az1, az2⟩ := mv_bd h1 hc.r; obtain ⟨⟨bx1, bx2⟩, ⟨by1, by2⟩, bz1, bz2⟩ := mv_bd h2 hc.u; obtain ⟨⟨dx1, dx2⟩, ⟨dy1, dy2⟩, dz1, dz2⟩ := mv_bd h3 hc.f)
  clear V hc
  simp only [mvE] at hp
  go_enter Try.func23, Try.ntmps23
  go_wp2_with (first
    | (go_at_call 11; refine (RetB.grown ((V' _).out)).mono ?_; rintro e' w' ⟨rfl, g, rfl⟩)
    | (go_at_call 31; refine (refTo_any _ _ _ _).mono ?_; rintro e' w' ⟨rfl, rfl⟩)
    | (go_at_call 24; refine (RetB.grown (ePoint_any ⟨_, _, _⟩ _)).mono ?_; rintro e' w' ⟨rfl, g, rfl⟩)
    | (refine wp_region_xt (by kernel_rfl) (by kernel_rfl) ?_; (repeat (go_big_quiet_step (first | (go_at_call 11; exact RetB.quiet ((V' _).out)) | (go_at_call 31; exact Ret.quiet (refTo_any _ _ _ _)) | (go_at_call 24; exact RetB.quiet (ePoint_any ⟨_, _, _⟩ _))))); refine wpQuiet_nil ?_; intro g))
  refine bodyPost_ret (v := .tuple #[.agg #[.int .i64 0, .int .i64 0, .int .i64 0, .int .i64 0, .int .i64 0, .int .i64 0, .int .i64 0, .int .i64 0, .int .i64 0, .int .i64 0, .int .i64 0, .int .i64 0, .int .i64 0, .int .i64 0, .int .i64 0, .int .i64 0], .int .i64 3]) (by simp [results, Try.results23, go_sem, mvE]) rfl ?_
  exact RetB.of rfl (by repeat' (first | exact Below.refl _ _ | assumption | refine Below.xt ?_ ?_ _ | refine Below.alloc ?_ ?_ _ | refine Below.drew ?_ | refine Below.setCell ?_ ?_ _ | (simp; done) | (simp; omega)))
set_option maxHeartbeats 1600000 in
theorem refMove_ok (c : Cam) (a b d : Int) (w : World) (hc : Good c) (h1 : within a (-2097152) 2097152 = true) (h2 : within b (-2097152) 2097152 = true) (h3 : within d (-2097152) 2097152 = true) (hp : pnt (mvE c a b d) = true) : Calls Try.prog 23 #[.agg #[.int .i64 c.e.x, .int .i64 c.e.y, .int .i64 c.e.z, .int .i64 c.r.x, .int .i64 c.r.y, .int .i64 c.r.z, .int .i64 c.u.x, .int .i64 c.u.y, .int .i64 c.u.z, .int .i64 c.f.x, .int .i64 c.f.y, .int .i64 c.f.z, .int .i64 c.fo, .int .i64 c.wi, .int .i64 c.he, .int .i64 c.ne], .int .i64 a, .int .i64 b, .int .i64 d] w (RetB (.tuple #[.agg #[.int .i64 ((mvE c a b d).x), .int .i64 ((mvE c a b d).y), .int .i64 ((mvE c a b d).z), .int .i64 c.r.x, .int .i64 c.r.y, .int .i64 c.r.z, .int .i64 c.u.x, .int .i64 c.u.y, .int .i64 c.u.z, .int .i64 c.f.x, .int .i64 c.f.y, .int .i64 c.f.z, .int .i64 c.fo, .int .i64 c.wi, .int .i64 c.he, .int .i64 c.ne], .int .i64 0]) w) := by
  have V := fun w => refvalid_any c w
  rw [hc.val] at V
  have V' := fun w => Lib.hid (V w)
  obtain ⟨⟨x1, x2⟩, ⟨y1, y2⟩, z1, z2⟩ := pnt_iff.1 hc.e
  (obtain ⟨⟨ax1, ax2⟩, ⟨ay1, ay2⟩, az1, az2⟩ := mv_bd h1 hc.r; obtain ⟨⟨bx1, bx2⟩, ⟨by1, by2⟩, bz1, bz2⟩ := mv_bd h2 hc.u; obtain ⟨⟨dx1, dx2⟩, ⟨dy1, dy2⟩, dz1, dz2⟩ := mv_bd h3 hc.f)
  clear V hc
  simp only [mvE] at hp ⊢
  go_enter Try.func23, Try.ntmps23
  go_wp2_with (first
    | (go_at_call 11; refine (RetB.grown ((V' _).out)).mono ?_; rintro e' w' ⟨rfl, g, rfl⟩)
    | (go_at_call 31; refine (refTo_any _ _ _ _).mono ?_; rintro e' w' ⟨rfl, rfl⟩)
    | (go_at_call 24; refine (RetB.grown (ePoint_any ⟨_, _, _⟩ _)).mono ?_; rintro e' w' ⟨rfl, g, rfl⟩)
    | (refine wp_region_xt (by kernel_rfl) (by kernel_rfl) ?_; (repeat (go_big_quiet_step (first | (go_at_call 11; exact RetB.quiet ((V' _).out)) | (go_at_call 31; exact Ret.quiet (refTo_any _ _ _ _)) | (go_at_call 24; exact RetB.quiet (ePoint_any ⟨_, _, _⟩ _))))); refine wpQuiet_nil ?_; intro g))
  refine bodyPost_ret (v := .tuple #[.agg #[.int .i64 ((mvE c a b d).x), .int .i64 ((mvE c a b d).y), .int .i64 ((mvE c a b d).z), .int .i64 c.r.x, .int .i64 c.r.y, .int .i64 c.r.z, .int .i64 c.u.x, .int .i64 c.u.y, .int .i64 c.u.z, .int .i64 c.f.x, .int .i64 c.f.y, .int .i64 c.f.z, .int .i64 c.fo, .int .i64 c.wi, .int .i64 c.he, .int .i64 c.ne], .int .i64 0]) (by simp [results, Try.results23, go_sem, mvE]) rfl ?_
  exact RetB.of rfl (by repeat' (first | exact Below.refl _ _ | assumption | refine Below.xt ?_ ?_ _ | refine Below.alloc ?_ ?_ _ | refine Below.drew ?_ | refine Below.setCell ?_ ?_ _ | (simp; done) | (simp; omega)))
theorem refMove_any (c : Cam) (a b d : Int) (w : World) : Calls Try.prog 23 #[.agg #[.int .i64 c.e.x, .int .i64 c.e.y, .int .i64 c.e.z, .int .i64 c.r.x, .int .i64 c.r.y, .int .i64 c.r.z, .int .i64 c.u.x, .int .i64 c.u.y, .int .i64 c.u.z, .int .i64 c.f.x, .int .i64 c.f.y, .int .i64 c.f.z, .int .i64 c.fo, .int .i64 c.wi, .int .i64 c.he, .int .i64 c.ne], .int .i64 a, .int .i64 b, .int .i64 d] w (RetB (.tuple #[.agg #[.int .i64 ((mvd c a b d).e.x), .int .i64 ((mvd c a b d).e.y), .int .i64 ((mvd c a b d).e.z), .int .i64 ((mvd c a b d).r.x), .int .i64 ((mvd c a b d).r.y), .int .i64 ((mvd c a b d).r.z), .int .i64 ((mvd c a b d).u.x), .int .i64 ((mvd c a b d).u.y), .int .i64 ((mvd c a b d).u.z), .int .i64 ((mvd c a b d).f.x), .int .i64 ((mvd c a b d).f.y), .int .i64 ((mvd c a b d).f.z), .int .i64 ((mvd c a b d).fo), .int .i64 ((mvd c a b d).wi), .int .i64 ((mvd c a b d).he), .int .i64 ((mvd c a b d).ne)], .int .i64 (mvEr c a b d)]) w) := by
  by_cases h : cval c = true
  · have G := good_of h
    by_cases h1 : within a (-2097152) 2097152 = true
    · by_cases h2 : within b (-2097152) 2097152 = true
      · by_cases h3 : within d (-2097152) 2097152 = true
        · by_cases hp : pnt (mvE c a b d) = true
          · have e : mvEr c a b d = 0 := by rw [mvEr, if_pos h, if_pos ⟨h1, h2, h3, hp⟩]
            rw [mvd, e]; exact refMove_ok c a b d w G h1 h2 h3 hp
          · have e : mvEr c a b d = 3 := by rw [mvEr, if_pos h, if_neg (fun x => hp x.2.2.2)]
            rw [mvd, e]; exact refMove_fp c a b d w G h1 h2 h3 (by simpa using hp)
        · have e : mvEr c a b d = 3 := by rw [mvEr, if_pos h, if_neg (fun x => h3 x.2.2.1)]
          rw [mvd, e]; exact refMove_fd c a b d w G h1 h2 (by simpa using h3)
      · have e : mvEr c a b d = 3 := by rw [mvEr, if_pos h, if_neg (fun x => h2 x.2.1)]
        rw [mvd, e]; exact refMove_fb c a b d w G h1 (by simpa using h2)
    · have e : mvEr c a b d = 3 := by rw [mvEr, if_pos h, if_neg (fun x => h1 x.1)]
      rw [mvd, e]; exact refMove_fa c a b d w G (by simpa using h1)
  · have e : mvEr c a b d = 2 := by rw [mvEr, if_neg h]
    rw [mvd, e]; exact refMove_bad c a b d w (by simpa using h)

end Go.Proofs.Ytjeemlnhokihoaa

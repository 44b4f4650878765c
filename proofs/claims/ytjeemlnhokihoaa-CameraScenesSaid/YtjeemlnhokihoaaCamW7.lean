/- Walks of cameras, by the program: Look, Turn, Move. Conditions stand in each theorem. -/
import Derived.Test.YtjeemlnhokihoaaCamW6
namespace Go.Proofs.Ytjeemlnhokihoaa
open Go.RowKit
set_option linter.unusedVariables false
set_option linter.unusedSimpArgs false
attribute [local go_sem ↓] ld16

def Z0 : Cam := ⟨⟨0, 0, 0⟩, ⟨0, 0, 0⟩, ⟨0, 0, 0⟩, ⟨0, 0, 0⟩, 0, 0, 0, 0⟩
set_option maxHeartbeats 400000 in
theorem Turn_bad (c : Cam) (q : Int) (w : World) (h : cval c = false) : Calls Try.prog 20 #[.agg #[.int .i64 c.e.x, .int .i64 c.e.y, .int .i64 c.e.z, .int .i64 c.r.x, .int .i64 c.r.y, .int .i64 c.r.z, .int .i64 c.u.x, .int .i64 c.u.y, .int .i64 c.u.z, .int .i64 c.f.x, .int .i64 c.f.y, .int .i64 c.f.z, .int .i64 c.fo, .int .i64 c.wi, .int .i64 c.he, .int .i64 c.ne], .int .i64 q] w (RetB (.tuple #[.agg #[.int .i64 0, .int .i64 0, .int .i64 0, .int .i64 0, .int .i64 0, .int .i64 0, .int .i64 0, .int .i64 0, .int .i64 0, .int .i64 0, .int .i64 0, .int .i64 0, .int .i64 0, .int .i64 0, .int .i64 0, .int .i64 0], .int .i64 2]) w) := by
  go_enter Try.func20, Try.ntmps20
  go_wp2_with (first
    | (go_at_call 10; refine (RetB.grown (cvalid_any c _)).mono ?_; rintro e' w' ⟨rfl, g, rfl⟩)
    | (refine wp_region_xt (by kernel_rfl) (by kernel_rfl) ?_; (repeat (go_big_quiet_step (first | (go_at_call 10; exact RetB.quiet (cvalid_any c _))))); refine wpQuiet_nil ?_; intro g))
  refine bodyPost_ret (v := .tuple #[.agg #[.int .i64 0, .int .i64 0, .int .i64 0, .int .i64 0, .int .i64 0, .int .i64 0, .int .i64 0, .int .i64 0, .int .i64 0, .int .i64 0, .int .i64 0, .int .i64 0, .int .i64 0, .int .i64 0, .int .i64 0, .int .i64 0], .int .i64 2]) (by simp [results, Try.results20, go_sem]) rfl ?_
  exact RetB.of rfl (by repeat' (first | exact Below.refl _ _ | assumption | refine Below.xt ?_ ?_ _ | refine Below.alloc ?_ ?_ _ | refine Below.drew ?_ | refine Below.setCell ?_ ?_ _ | (simp; done) | (simp; omega)))
set_option maxHeartbeats 400000 in
theorem Turn_ok (c : Cam) (q : Int) (w : World) (h : cval c = true) : Calls Try.prog 20 #[.agg #[.int .i64 c.e.x, .int .i64 c.e.y, .int .i64 c.e.z, .int .i64 c.r.x, .int .i64 c.r.y, .int .i64 c.r.z, .int .i64 c.u.x, .int .i64 c.u.y, .int .i64 c.u.z, .int .i64 c.f.x, .int .i64 c.f.y, .int .i64 c.f.z, .int .i64 c.fo, .int .i64 c.wi, .int .i64 c.he, .int .i64 c.ne], .int .i64 q] w (RetB (.tuple #[.agg #[.int .i64 ((c.turn q).e.x), .int .i64 ((c.turn q).e.y), .int .i64 ((c.turn q).e.z), .int .i64 ((c.turn q).r.x), .int .i64 ((c.turn q).r.y), .int .i64 ((c.turn q).r.z), .int .i64 ((c.turn q).u.x), .int .i64 ((c.turn q).u.y), .int .i64 ((c.turn q).u.z), .int .i64 ((c.turn q).f.x), .int .i64 ((c.turn q).f.y), .int .i64 ((c.turn q).f.z), .int .i64 ((c.turn q).fo), .int .i64 ((c.turn q).wi), .int .i64 ((c.turn q).he), .int .i64 ((c.turn q).ne)], .int .i64 0]) w) := by
  have T := fun w => Lib.hid (turned_any c q w (good_of h))
  generalize c.turn q = d at *
  go_enter Try.func20, Try.ntmps20
  go_wp2_with (first
    | (go_at_call 10; refine (RetB.grown (cvalid_any c _)).mono ?_; rintro e' w' ⟨rfl, g, rfl⟩)
    | (go_at_call 33; refine (RetB.grown ((T _).out)).mono ?_; rintro e' w' ⟨rfl, g, rfl⟩)
    | (refine wp_region_xt (by kernel_rfl) (by kernel_rfl) ?_; (repeat (go_big_quiet_step (first | (go_at_call 10; exact RetB.quiet (cvalid_any c _)) | (go_at_call 33; exact RetB.quiet ((T _).out))))); refine wpQuiet_nil ?_; intro g))
  refine bodyPost_ret (v := .tuple #[.agg #[.int .i64 d.e.x, .int .i64 d.e.y, .int .i64 d.e.z, .int .i64 d.r.x, .int .i64 d.r.y, .int .i64 d.r.z, .int .i64 d.u.x, .int .i64 d.u.y, .int .i64 d.u.z, .int .i64 d.f.x, .int .i64 d.f.y, .int .i64 d.f.z, .int .i64 d.fo, .int .i64 d.wi, .int .i64 d.he, .int .i64 d.ne], .int .i64 0]) (by simp [results, Try.results20, go_sem]) rfl ?_
  exact RetB.of rfl (by repeat' (first | exact Below.refl _ _ | assumption | refine Below.xt ?_ ?_ _ | refine Below.alloc ?_ ?_ _ | refine Below.drew ?_ | refine Below.setCell ?_ ?_ _ | (simp; done) | (simp; omega)))

def look (e : V3) (fo wi he ne : Int) : Cam := ⟨e, ⟨1, 0, 0⟩, ⟨0, 0, 1⟩, ⟨0, 1, 0⟩, fo, wi, he, ne⟩
def lkOk (e : V3) (q fo wi he ne : Int) : Bool := within q 0 3 && cval (look e fo wi he ne)
set_option maxHeartbeats 400000 in
theorem Look_far (e : V3) (q fo wi he ne : Int) (w : World) (h : within q 0 3 = false) : Calls Try.prog 13 #[.agg #[.int .i64 e.x, .int .i64 e.y, .int .i64 e.z], .int .i64 q, .int .i64 fo, .int .i64 wi, .int .i64 he, .int .i64 ne] w (RetB (.tuple #[.agg #[.int .i64 0, .int .i64 0, .int .i64 0, .int .i64 0, .int .i64 0, .int .i64 0, .int .i64 0, .int .i64 0, .int .i64 0, .int .i64 0, .int .i64 0, .int .i64 0, .int .i64 0, .int .i64 0, .int .i64 0, .int .i64 0], .int .i64 2]) w) := by
  go_enter Try.func13, Try.ntmps13
  go_wp2_with (first
    | (go_at_call 27; refine (within_any _ _ _ _).mono ?_; rintro e' w' ⟨rfl, rfl⟩)
    | (refine wp_region_xt (by kernel_rfl) (by kernel_rfl) ?_; (repeat (go_big_quiet_step (first | (go_at_call 27; exact Ret.quiet (within_any _ _ _ _))))); refine wpQuiet_nil ?_; intro g))
  refine bodyPost_ret (v := .tuple #[.agg #[.int .i64 0, .int .i64 0, .int .i64 0, .int .i64 0, .int .i64 0, .int .i64 0, .int .i64 0, .int .i64 0, .int .i64 0, .int .i64 0, .int .i64 0, .int .i64 0, .int .i64 0, .int .i64 0, .int .i64 0, .int .i64 0], .int .i64 2]) (by simp [results, Try.results13, go_sem]) rfl ?_
  exact RetB.of rfl (by repeat' (first | exact Below.refl _ _ | assumption | refine Below.xt ?_ ?_ _ | refine Below.alloc ?_ ?_ _ | refine Below.drew ?_ | refine Below.setCell ?_ ?_ _ | (simp; done) | (simp; omega)))
set_option maxHeartbeats 400000 in
theorem Look_bad (e : V3) (q fo wi he ne : Int) (w : World) (h : within q 0 3 = true) (h2 : cval (look e fo wi he ne) = false) : Calls Try.prog 13 #[.agg #[.int .i64 e.x, .int .i64 e.y, .int .i64 e.z], .int .i64 q, .int .i64 fo, .int .i64 wi, .int .i64 he, .int .i64 ne] w (RetB (.tuple #[.agg #[.int .i64 0, .int .i64 0, .int .i64 0, .int .i64 0, .int .i64 0, .int .i64 0, .int .i64 0, .int .i64 0, .int .i64 0, .int .i64 0, .int .i64 0, .int .i64 0, .int .i64 0, .int .i64 0, .int .i64 0, .int .i64 0], .int .i64 2]) w) := by
  have V := fun w => cvalid_any (look e fo wi he ne) w
  rw [h2] at V
  have V' := fun w => Lib.hid (show Calls Try.prog 10 #[.agg #[.int .i64 e.x, .int .i64 e.y, .int .i64 e.z, .int .i64 1, .int .i64 0, .int .i64 0, .int .i64 0, .int .i64 0, .int .i64 1, .int .i64 0, .int .i64 1, .int .i64 0, .int .i64 fo, .int .i64 wi, .int .i64 he, .int .i64 ne]] w (RetB (.bool false) w) from V w)
  clear V h2
  go_enter Try.func13, Try.ntmps13
  go_wp2_with (first
    | (go_at_call 27; refine (within_any _ _ _ _).mono ?_; rintro e' w' ⟨rfl, rfl⟩)
    | (go_at_call 10; refine (RetB.grown ((V' _).out)).mono ?_; rintro e' w' ⟨rfl, g, rfl⟩)
    | (refine wp_region_xt (by kernel_rfl) (by kernel_rfl) ?_; (repeat (go_big_quiet_step (first | (go_at_call 27; exact Ret.quiet (within_any _ _ _ _)) | (go_at_call 10; exact RetB.quiet ((V' _).out))))); refine wpQuiet_nil ?_; intro g))
  refine bodyPost_ret (v := .tuple #[.agg #[.int .i64 0, .int .i64 0, .int .i64 0, .int .i64 0, .int .i64 0, .int .i64 0, .int .i64 0, .int .i64 0, .int .i64 0, .int .i64 0, .int .i64 0, .int .i64 0, .int .i64 0, .int .i64 0, .int .i64 0, .int .i64 0], .int .i64 2]) (by simp [results, Try.results13, go_sem]) rfl ?_
  exact RetB.of rfl (by repeat' (first | exact Below.refl _ _ | assumption | refine Below.xt ?_ ?_ _ | refine Below.alloc ?_ ?_ _ | refine Below.drew ?_ | refine Below.setCell ?_ ?_ _ | (simp; done) | (simp; omega)))
set_option maxHeartbeats 400000 in
theorem Look_ok (e : V3) (q fo wi he ne : Int) (d : Cam) (w : World) (h : within q 0 3 = true) (h2 : cval (look e fo wi he ne) = true) (hd : (look e fo wi he ne).turn q = d) : Calls Try.prog 13 #[.agg #[.int .i64 e.x, .int .i64 e.y, .int .i64 e.z], .int .i64 q, .int .i64 fo, .int .i64 wi, .int .i64 he, .int .i64 ne] w (RetB (.tuple #[.agg #[.int .i64 d.e.x, .int .i64 d.e.y, .int .i64 d.e.z, .int .i64 d.r.x, .int .i64 d.r.y, .int .i64 d.r.z, .int .i64 d.u.x, .int .i64 d.u.y, .int .i64 d.u.z, .int .i64 d.f.x, .int .i64 d.f.y, .int .i64 d.f.z, .int .i64 d.fo, .int .i64 d.wi, .int .i64 d.he, .int .i64 d.ne], .int .i64 0]) w) := by
  have V := fun w => cvalid_any (look e fo wi he ne) w
  rw [h2] at V
  have V' := fun w => Lib.hid (show Calls Try.prog 10 #[.agg #[.int .i64 e.x, .int .i64 e.y, .int .i64 e.z, .int .i64 1, .int .i64 0, .int .i64 0, .int .i64 0, .int .i64 0, .int .i64 1, .int .i64 0, .int .i64 1, .int .i64 0, .int .i64 fo, .int .i64 wi, .int .i64 he, .int .i64 ne]] w (RetB (.bool true) w) from V w)
  have T := fun w => turned_any (look e fo wi he ne) q w (good_of h2)
  rw [hd] at T
  have T' := fun w => Lib.hid (show Calls Try.prog 33 #[.agg #[.int .i64 e.x, .int .i64 e.y, .int .i64 e.z, .int .i64 1, .int .i64 0, .int .i64 0, .int .i64 0, .int .i64 0, .int .i64 1, .int .i64 0, .int .i64 1, .int .i64 0, .int .i64 fo, .int .i64 wi, .int .i64 he, .int .i64 ne], .int .i64 q] w (RetB (.agg #[.int .i64 d.e.x, .int .i64 d.e.y, .int .i64 d.e.z, .int .i64 d.r.x, .int .i64 d.r.y, .int .i64 d.r.z, .int .i64 d.u.x, .int .i64 d.u.y, .int .i64 d.u.z, .int .i64 d.f.x, .int .i64 d.f.y, .int .i64 d.f.z, .int .i64 d.fo, .int .i64 d.wi, .int .i64 d.he, .int .i64 d.ne]) w) from T w)
  clear V T h2 hd
  go_enter Try.func13, Try.ntmps13
  go_wp2_with (first
    | (go_at_call 27; refine (within_any _ _ _ _).mono ?_; rintro e' w' ⟨rfl, rfl⟩)
    | (go_at_call 10; refine (RetB.grown ((V' _).out)).mono ?_; rintro e' w' ⟨rfl, g, rfl⟩)
    | (go_at_call 33; refine (RetB.grown ((T' _).out)).mono ?_; rintro e' w' ⟨rfl, g, rfl⟩)
    | (refine wp_region_xt (by kernel_rfl) (by kernel_rfl) ?_; (repeat (go_big_quiet_step (first | (go_at_call 27; exact Ret.quiet (within_any _ _ _ _)) | (go_at_call 10; exact RetB.quiet ((V' _).out)) | (go_at_call 33; exact RetB.quiet ((T' _).out))))); refine wpQuiet_nil ?_; intro g))
  refine bodyPost_ret (v := .tuple #[.agg #[.int .i64 d.e.x, .int .i64 d.e.y, .int .i64 d.e.z, .int .i64 d.r.x, .int .i64 d.r.y, .int .i64 d.r.z, .int .i64 d.u.x, .int .i64 d.u.y, .int .i64 d.u.z, .int .i64 d.f.x, .int .i64 d.f.y, .int .i64 d.f.z, .int .i64 d.fo, .int .i64 d.wi, .int .i64 d.he, .int .i64 d.ne], .int .i64 0]) (by simp [results, Try.results13, go_sem]) rfl ?_
  exact RetB.of rfl (by repeat' (first | exact Below.refl _ _ | assumption | refine Below.xt ?_ ?_ _ | refine Below.alloc ?_ ?_ _ | refine Below.drew ?_ | refine Below.setCell ?_ ?_ _ | (simp; done) | (simp; omega)))

/-! ### Move -/
set_option maxHeartbeats 400000 in
theorem Move_bad (c : Cam) (a b d : Int) (w : World) (h : cval c = false) : Calls Try.prog 22 #[.agg #[.int .i64 c.e.x, .int .i64 c.e.y, .int .i64 c.e.z, .int .i64 c.r.x, .int .i64 c.r.y, .int .i64 c.r.z, .int .i64 c.u.x, .int .i64 c.u.y, .int .i64 c.u.z, .int .i64 c.f.x, .int .i64 c.f.y, .int .i64 c.f.z, .int .i64 c.fo, .int .i64 c.wi, .int .i64 c.he, .int .i64 c.ne], .int .i64 a, .int .i64 b, .int .i64 d] w (RetB (.tuple #[.agg #[.int .i64 0, .int .i64 0, .int .i64 0, .int .i64 0, .int .i64 0, .int .i64 0, .int .i64 0, .int .i64 0, .int .i64 0, .int .i64 0, .int .i64 0, .int .i64 0, .int .i64 0, .int .i64 0, .int .i64 0, .int .i64 0], .int .i64 2]) w) := by
  go_enter Try.func22, Try.ntmps22
  go_wp2_with (first
    | (go_at_call 10; refine (RetB.grown (cvalid_any c _)).mono ?_; rintro e' w' ⟨rfl, g, rfl⟩)
    | (refine wp_region_xt (by kernel_rfl) (by kernel_rfl) ?_; (repeat (go_big_quiet_step (first | (go_at_call 10; exact RetB.quiet (cvalid_any c _))))); refine wpQuiet_nil ?_; intro g))
  refine bodyPost_ret (v := .tuple #[.agg #[.int .i64 0, .int .i64 0, .int .i64 0, .int .i64 0, .int .i64 0, .int .i64 0, .int .i64 0, .int .i64 0, .int .i64 0, .int .i64 0, .int .i64 0, .int .i64 0, .int .i64 0, .int .i64 0, .int .i64 0, .int .i64 0], .int .i64 2]) (by simp [results, Try.results22, go_sem]) rfl ?_
  exact RetB.of rfl (by repeat' (first | exact Below.refl _ _ | assumption | refine Below.xt ?_ ?_ _ | refine Below.alloc ?_ ?_ _ | refine Below.drew ?_ | refine Below.setCell ?_ ?_ _ | (simp; done) | (simp; omega)))
def mvE (c : Cam) (a b d : Int) : V3 := ⟨c.e.x + a * c.r.x + b * c.u.x + d * c.f.x, c.e.y + a * c.r.y + b * c.u.y + d * c.f.y, c.e.z + a * c.r.z + b * c.u.z + d * c.f.z⟩
theorem mv_bd {n : Int} {v : V3} (hn : within n (-2097152) 2097152 = true) (hv : ax v = true) : (-209715200 ≤ n * v.x ∧ n * v.x ≤ 209715200) ∧ (-209715200 ≤ n * v.y ∧ n * v.y ≤ 209715200) ∧ (-209715200 ≤ n * v.z ∧ n * v.z ≤ 209715200) := by
  have h1 := within_iff.1 hn
  have h2 := ax_iff.1 hv
  exact ⟨mul_le_of (A := 2097152) (B := 100) h1 h2.1, mul_le_of (A := 2097152) (B := 100) h1 h2.2.1, mul_le_of (A := 2097152) (B := 100) h1 h2.2.2⟩
set_option maxHeartbeats 1600000 in
theorem Move_fa (c : Cam) (a b d : Int) (w : World) (hc : Good c) (h1 : within a (-2097152) 2097152 = false) : Calls Try.prog 22 #[.agg #[.int .i64 c.e.x, .int .i64 c.e.y, .int .i64 c.e.z, .int .i64 c.r.x, .int .i64 c.r.y, .int .i64 c.r.z, .int .i64 c.u.x, .int .i64 c.u.y, .int .i64 c.u.z, .int .i64 c.f.x, .int .i64 c.f.y, .int .i64 c.f.z, .int .i64 c.fo, .int .i64 c.wi, .int .i64 c.he, .int .i64 c.ne], .int .i64 a, .int .i64 b, .int .i64 d] w (RetB (.tuple #[.agg #[.int .i64 0, .int .i64 0, .int .i64 0, .int .i64 0, .int .i64 0, .int .i64 0, .int .i64 0, .int .i64 0, .int .i64 0, .int .i64 0, .int .i64 0, .int .i64 0, .int .i64 0, .int .i64 0, .int .i64 0, .int .i64 0], .int .i64 3]) w) := by
  have V := fun w => cvalid_any c w
  rw [hc.val] at V
  have V' := fun w => Lib.hid (V w)
  obtain ⟨⟨x1, x2⟩, ⟨y1, y2⟩, z1, z2⟩ := pnt_iff.1 hc.e
  skip
  have ix0 : ∀ w, (Instr.index 68 (.agg #[.int .i64 a, .int .i64 b, .int .i64 d]) (.int .i64 0)).run Try.prog w = .ok (.int .i64 a) w := fun _ => by kernel_rfl
  have ix1 : ∀ w, (Instr.index 68 (.agg #[.int .i64 a, .int .i64 b, .int .i64 d]) (.int .i64 1)).run Try.prog w = .ok (.int .i64 b) w := fun _ => by kernel_rfl
  have ix2 : ∀ w, (Instr.index 68 (.agg #[.int .i64 a, .int .i64 b, .int .i64 d]) (.int .i64 2)).run Try.prog w = .ok (.int .i64 d) w := fun _ => by kernel_rfl
  have iy0 : ∀ w, (Instr.index 59 (.agg #[.int .i64 c.r.x, .int .i64 c.r.y, .int .i64 c.r.z, .int .i64 c.u.x, .int .i64 c.u.y, .int .i64 c.u.z, .int .i64 c.f.x, .int .i64 c.f.y, .int .i64 c.f.z]) (.int .i64 0)).run Try.prog w = .ok (.agg #[.int .i64 c.r.x, .int .i64 c.r.y, .int .i64 c.r.z]) w := fun _ => by kernel_rfl
  have iy1 : ∀ w, (Instr.index 59 (.agg #[.int .i64 c.r.x, .int .i64 c.r.y, .int .i64 c.r.z, .int .i64 c.u.x, .int .i64 c.u.y, .int .i64 c.u.z, .int .i64 c.f.x, .int .i64 c.f.y, .int .i64 c.f.z]) (.int .i64 1)).run Try.prog w = .ok (.agg #[.int .i64 c.u.x, .int .i64 c.u.y, .int .i64 c.u.z]) w := fun _ => by kernel_rfl
  have iy2 : ∀ w, (Instr.index 59 (.agg #[.int .i64 c.r.x, .int .i64 c.r.y, .int .i64 c.r.z, .int .i64 c.u.x, .int .i64 c.u.y, .int .i64 c.u.z, .int .i64 c.f.x, .int .i64 c.f.y, .int .i64 c.f.z]) (.int .i64 2)).run Try.prog w = .ok (.agg #[.int .i64 c.f.x, .int .i64 c.f.y, .int .i64 c.f.z]) w := fun _ => by kernel_rfl
  clear V hc
  skip
  go_enter Try.func22, Try.ntmps22
  go_wp2_with (first
    | (go_at_call 10; refine (RetB.grown ((V' _).out)).mono ?_; rintro e' w' ⟨rfl, g, rfl⟩)
    | (refine wp_region_xt (by kernel_rfl) (by kernel_rfl) ?_; (repeat (go_big_quiet_step (first | (go_at_call 10; exact RetB.quiet ((V' _).out))))); refine wpQuiet_nil ?_; intro g))
  refine wp_loop_rounds 4 ?_
  repeat any_goals (rw [rounds_succ]; go_wp2_with (first
    | (go_at_call 27; refine (within_any _ _ _ _).mono ?_; rintro e' w' ⟨rfl, rfl⟩)
    | (go_at_call 29; refine (RetB.grown (point_any ⟨_, _, _⟩ _)).mono ?_; rintro e' w' ⟨rfl, g, rfl⟩)
    | (refine wp_region_xt (by kernel_rfl) (by kernel_rfl) ?_; (repeat (go_big_quiet_step (first | (go_at_call 27; exact Ret.quiet (within_any _ _ _ _)) | (go_at_call 29; exact RetB.quiet (point_any ⟨_, _, _⟩ _))))); refine wpQuiet_nil ?_; intro g)))
  refine bodyPost_ret (v := .tuple #[.agg #[.int .i64 0, .int .i64 0, .int .i64 0, .int .i64 0, .int .i64 0, .int .i64 0, .int .i64 0, .int .i64 0, .int .i64 0, .int .i64 0, .int .i64 0, .int .i64 0, .int .i64 0, .int .i64 0, .int .i64 0, .int .i64 0], .int .i64 3]) (by simp [results, Try.results22, go_sem, mvE]) rfl ?_
  exact RetB.of rfl (by repeat' (first | exact Below.refl _ _ | assumption | refine Below.xt ?_ ?_ _ | refine Below.alloc ?_ ?_ _ | refine Below.drew ?_ | refine Below.setCell ?_ ?_ _ | (simp; done) | (simp; omega)))
set_option maxHeartbeats 1600000 in
theorem Move_fb (c : Cam) (a b d : Int) (w : World) (hc : Good c) (h1 : within a (-2097152) 2097152 = true) (h2 : within b (-2097152) 2097152 = false) : Calls Try.prog 22 #[.agg #[.int .i64 c.e.x, .int .i64 c.e.y, .int .i64 c.e.z, .int .i64 c.r.x, .int .i64 c.r.y, .int .i64 c.r.z, .int .i64 c.u.x, .int .i64 c.u.y, .int .i64 c.u.z, .int .i64 c.f.x, .int .i64 c.f.y, .int .i64 c.f.z, .int .i64 c.fo, .int .i64 c.wi, .int .i64 c.he, .int .i64 c.ne], .int .i64 a, .int .i64 b, .int .i64 d] w (RetB (.tuple #[.agg #[.int .i64 0, .int .i64 0, .int .i64 0, .int .i64 0, .int .i64 0, .int .i64 0, .int .i64 0, .int .i64 0, .int .i64 0, .int .i64 0, .int .i64 0, .int .i64 0, .int .i64 0, .int .i64 0, .int .i64 0, .int .i64 0], .int .i64 3]) w) := by
  have V := fun w => cvalid_any c w
  rw [hc.val] at V
  have V' := fun w => Lib.hid (V w)
  obtain ⟨⟨x1, x2⟩, ⟨y1, y2⟩, z1, z2⟩ := pnt_iff.1 hc.e
  obtain ⟨⟨ax1, ax2⟩, ⟨ay1, ay2⟩, az1, az2⟩ := mv_bd h1 hc.r
  have ix0 : ∀ w, (Instr.index 68 (.agg #[.int .i64 a, .int .i64 b, .int .i64 d]) (.int .i64 0)).run Try.prog w = .ok (.int .i64 a) w := fun _ => by kernel_rfl
  have ix1 : ∀ w, (Instr.index 68 (.agg #[.int .i64 a, .int .i64 b, .int .i64 d]) (.int .i64 1)).run Try.prog w = .ok (.int .i64 b) w := fun _ => by kernel_rfl
  have ix2 : ∀ w, (Instr.index 68 (.agg #[.int .i64 a, .int .i64 b, .int .i64 d]) (.int .i64 2)).run Try.prog w = .ok (.int .i64 d) w := fun _ => by kernel_rfl
  have iy0 : ∀ w, (Instr.index 59 (.agg #[.int .i64 c.r.x, .int .i64 c.r.y, .int .i64 c.r.z, .int .i64 c.u.x, .int .i64 c.u.y, .int .i64 c.u.z, .int .i64 c.f.x, .int .i64 c.f.y, .int .i64 c.f.z]) (.int .i64 0)).run Try.prog w = .ok (.agg #[.int .i64 c.r.x, .int .i64 c.r.y, .int .i64 c.r.z]) w := fun _ => by kernel_rfl
  have iy1 : ∀ w, (Instr.index 59 (.agg #[.int .i64 c.r.x, .int .i64 c.r.y, .int .i64 c.r.z, .int .i64 c.u.x, .int .i64 c.u.y, .int .i64 c.u.z, .int .i64 c.f.x, .int .i64 c.f.y, .int .i64 c.f.z]) (.int .i64 1)).run Try.prog w = .ok (.agg #[.int .i64 c.u.x, .int .i64 c.u.y, .int .i64 c.u.z]) w := fun _ => by kernel_rfl
  have iy2 : ∀ w, (Instr.index 59 (.agg #[.int .i64 c.r.x, .int .i64 c.r.y, .int .i64 c.r.z, .int .i64 c.u.x, .int .i64 c.u.y, .int .i64 c.u.z, .int .i64 c.f.x, .int .i64 c.f.y, .int .i64 c.f.z]) (.int .i64 2)).run Try.prog w = .ok (.agg #[.int .i64 c.f.x, .int .i64 c.f.y, .int .i64 c.f.z]) w := fun _ => by kernel_rfl
  clear V hc
  skip
  go_enter Try.func22, Try.ntmps22
  go_wp2_with (first
    | (go_at_call 10; refine (RetB.grown ((V' _).out)).mono ?_; rintro e' w' ⟨rfl, g, rfl⟩)
    | (refine wp_region_xt (by kernel_rfl) (by kernel_rfl) ?_; (repeat (go_big_quiet_step (first | (go_at_call 10; exact RetB.quiet ((V' _).out))))); refine wpQuiet_nil ?_; intro g))
  refine wp_loop_rounds 4 ?_
  repeat any_goals (rw [rounds_succ]; go_wp2_with (first
    | (go_at_call 27; refine (within_any _ _ _ _).mono ?_; rintro e' w' ⟨rfl, rfl⟩)
    | (go_at_call 29; refine (RetB.grown (point_any ⟨_, _, _⟩ _)).mono ?_; rintro e' w' ⟨rfl, g, rfl⟩)
    | (refine wp_region_xt (by kernel_rfl) (by kernel_rfl) ?_; (repeat (go_big_quiet_step (first | (go_at_call 27; exact Ret.quiet (within_any _ _ _ _)) | (go_at_call 29; exact RetB.quiet (point_any ⟨_, _, _⟩ _))))); refine wpQuiet_nil ?_; intro g)))
  refine bodyPost_ret (v := .tuple #[.agg #[.int .i64 0, .int .i64 0, .int .i64 0, .int .i64 0, .int .i64 0, .int .i64 0, .int .i64 0, .int .i64 0, .int .i64 0, .int .i64 0, .int .i64 0, .int .i64 0, .int .i64 0, .int .i64 0, .int .i64 0, .int .i64 0], .int .i64 3]) (by simp [results, Try.results22, go_sem, mvE]) rfl ?_
  exact RetB.of rfl (by repeat' (first | exact Below.refl _ _ | assumption | refine Below.xt ?_ ?_ _ | refine Below.alloc ?_ ?_ _ | refine Below.drew ?_ | refine Below.setCell ?_ ?_ _ | (simp; done) | (simp; omega)))
set_option maxHeartbeats 1600000 in
theorem Move_fd (c : Cam) (a b d : Int) (w : World) (hc : Good c) (h1 : within a (-2097152) 2097152 = true) (h2 : within b (-2097152) 2097152 = true) (h3 : within d (-2097152) 2097152 = false) : Calls Try.prog 22 #[.agg #[.int .i64 c.e.x, .int .i64 c.e.y, .int .i64 c.e.z, .int .i64 c.r.x, .int .i64 c.r.y, .int .i64 c.r.z, .int .i64 c.u.x, .int .i64 c.u.y, .int .i64 c.u.z, .int .i64 c.f.x, .int .i64 c.f.y, .int .i64 c.f.z, .int .i64 c.fo, .int .i64 c.wi, .int .i64 c.he, .int .i64 c.ne], .int .i64 a, .int .i64 b, .int .i64 d] w (RetB (.tuple #[.agg #[.int .i64 0, .int .i64 0, .int .i64 0, .int .i64 0, .int .i64 0, .int .i64 0, .int .i64 0, .int .i64 0, .int .i64 0, .int .i64 0, .int .i64 0, .int .i64 0, .int .i64 0, .int .i64 0, .int .i64 0, .int .i64 0], .int .i64 3]) w) := by
  have V := fun w => cvalid_any c w
  rw [hc.val] at V
  have V' := fun w => Lib.hid (V w)
  obtain ⟨⟨x1, x2⟩, ⟨y1, y2⟩, z1, z2⟩ := pnt_iff.1 hc.e
  (obtain ⟨⟨ax1, ax2⟩, ⟨ay1, ay2⟩, az1, az2⟩ := mv_bd h1 hc.r; obtain ⟨⟨bx1, bx2⟩, ⟨by1, by2⟩, bz1, bz2⟩ := mv_bd h2 hc.u)
  have ix0 : ∀ w, (Instr.index 68 (.agg #[.int .i64 a, .int .i64 b, .int .i64 d]) (.int .i64 0)).run Try.prog w = .ok (.int .i64 a) w := fun _ => by kernel_rfl
  have ix1 : ∀ w, (Instr.index 68 (.agg #[.int .i64 a, .int .i64 b, .int .i64 d]) (.int .i64 1)).run Try.prog w = .ok (.int .i64 b) w := fun _ => by kernel_rfl
  have ix2 : ∀ w, (Instr.index 68 (.agg #[.int .i64 a, .int .i64 b, .int .i64 d]) (.int .i64 2)).run Try.prog w = .ok (.int .i64 d) w := fun _ => by kernel_rfl
  have iy0 : ∀ w, (Instr.index 59 (.agg #[.int .i64 c.r.x, .int .i64 c.r.y, .int .i64 c.r.z, .int .i64 c.u.x, .int .i64 c.u.y, .int .i64 c.u.z, .int .i64 c.f.x, .int .i64 c.f.y, .int .i64 c.f.z]) (.int .i64 0)).run Try.prog w = .ok (.agg #[.int .i64 c.r.x, .int .i64 c.r.y, .int .i64 c.r.z]) w := fun _ => by kernel_rfl
  have iy1 : ∀ w, (Instr.index 59 (.agg #[.int .i64 c.r.x, .int .i64 c.r.y, .int .i64 c.r.z, .int .i64 c.u.x, .int .i64 c.u.y, .int .i64 c.u.z, .int .i64 c.f.x, .int .i64 c.f.y, .int .i64 c.f.z]) (.int .i64 1)).run Try.prog w = .ok (.agg #[.int .i64 c.u.x, .int .i64 c.u.y, .int .i64 c.u.z]) w := fun _ => by kernel_rfl
  have iy2 : ∀ w, (Instr.index 59 (.agg #[.int .i64 c.r.x, .int .i64 c.r.y, .int .i64 c.r.z, .int .i64 c.u.x, .int .i64 c.u.y, .int .i64 c.u.z, .int .i64 c.f.x, .int .i64 c.f.y, .int .i64 c.f.z]) (.int .i64 2)).run Try.prog w = .ok (.agg #[.int .i64 c.f.x, .int .i64 c.f.y, .int .i64 c.f.z]) w := fun _ => by kernel_rfl
  clear V hc
  skip
  go_enter Try.func22, Try.ntmps22
  go_wp2_with (first
    | (go_at_call 10; refine (RetB.grown ((V' _).out)).mono ?_; rintro e' w' ⟨rfl, g, rfl⟩)
    | (refine wp_region_xt (by kernel_rfl) (by kernel_rfl) ?_; (repeat (go_big_quiet_step (first | (go_at_call 10; exact RetB.quiet ((V' _).out))))); refine wpQuiet_nil ?_; intro g))
  refine wp_loop_rounds 4 ?_
  repeat any_goals (rw [rounds_succ]; go_wp2_with (first
    | (go_at_call 27; refine (within_any _ _ _ _).mono ?_; rintro e' w' ⟨rfl, rfl⟩)
    | (go_at_call 29; refine (RetB.grown (point_any ⟨_, _, _⟩ _)).mono ?_; rintro e' w' ⟨rfl, g, rfl⟩)
    | (refine wp_region_xt (by kernel_rfl) (by kernel_rfl) ?_; (repeat (go_big_quiet_step (first | (go_at_call 27; exact Ret.quiet (within_any _ _ _ _)) | (go_at_call 29; exact RetB.quiet (point_any ⟨_, _, _⟩ _))))); refine wpQuiet_nil ?_; intro g)))
  refine bodyPost_ret (v := .tuple #[.agg #[.int .i64 0, .int .i64 0, .int .i64 0, .int .i64 0, .int .i64 0, .int .i64 0, .int .i64 0, .int .i64 0, .int .i64 0, .int .i64 0, .int .i64 0, .int .i64 0, .int .i64 0, .int .i64 0, .int .i64 0, .int .i64 0], .int .i64 3]) (by simp [results, Try.results22, go_sem, mvE]) rfl ?_
  exact RetB.of rfl (by repeat' (first | exact Below.refl _ _ | assumption | refine Below.xt ?_ ?_ _ | refine Below.alloc ?_ ?_ _ | refine Below.drew ?_ | refine Below.setCell ?_ ?_ _ | (simp; done) | (simp; omega)))
set_option maxHeartbeats 1600000 in
theorem Move_fp (c : Cam) (a b d : Int) (w : World) (hc : Good c) (h1 : within a (-2097152) 2097152 = true) (h2 : within b (-2097152) 2097152 = true) (h3 : within d (-2097152) 2097152 = true) (hp : pnt (mvE c a b d) = false) : Calls Try.prog 22 #[.agg #[.int .i64 c.e.x, .int .i64 c.e.y, .int .i64 c.e.z, .int .i64 c.r.x, .int .i64 c.r.y, .int .i64 c.r.z, .int .i64 c.u.x, .int .i64 c.u.y, .int .i64 c.u.z, .int .i64 c.f.x, .int .i64 c.f.y, .int .i64 c.f.z, .int .i64 c.fo, .int .i64 c.wi, .int .i64 c.he, .int .i64 c.ne], .int .i64 a, .int .i64 b, .int .i64 d] w (RetB (.tuple #[.agg #[.int .i64 0, .int .i64 0, .int .i64 0, .int .i64 0, .int .i64 0, .int .i64 0, .int .i64 0, .int .i64 0, .int .i64 0, .int .i64 0, .int .i64 0, .int .i64 0, .int .i64 0, .int .i64 0, .int .i64 0, .int .i64 0], .int .i64 3]) w) := by
  have V := fun w => cvalid_any c w
  rw [hc.val] at V
  have V' := fun w => Lib.hid (V w)
  obtain ⟨⟨x1, x2⟩, ⟨y1, y2⟩, z1, z2⟩ := pnt_iff.1 hc.e
  (obtain ⟨⟨ax1, ax2⟩, ⟨ay1, ay2⟩, az1, az2⟩ := mv_bd h1 hc.r; obtain ⟨⟨bx1, bx2⟩, ⟨by1, by2⟩, bz1, bz2⟩ := mv_bd h2 hc.u; obtain ⟨⟨dx1, dx2⟩, ⟨dy1, dy2⟩, dz1, dz2⟩ := mv_bd h3 hc.f)
  have ix0 : ∀ w, (Instr.index 68 (.agg #[.int .i64 a, .int .i64 b, .int .i64 d]) (.int .i64 0)).run Try.prog w = .ok (.int .i64 a) w := fun _ => by kernel_rfl
  have ix1 : ∀ w, (Instr.index 68 (.agg #[.int .i64 a, .int .i64 b, .int .i64 d]) (.int .i64 1)).run Try.prog w = .ok (.int .i64 b) w := fun _ => by kernel_rfl
  have ix2 : ∀ w, (Instr.index 68 (.agg #[.int .i64 a, .int .i64 b, .int .i64 d]) (.int .i64 2)).run Try.prog w = .ok (.int .i64 d) w := fun _ => by kernel_rfl
  have iy0 : ∀ w, (Instr.index 59 (.agg #[.int .i64 c.r.x, .int .i64 c.r.y, .int .i64 c.r.z, .int .i64 c.u.x, .int .i64 c.u.y, .int .i64 c.u.z, .int .i64 c.f.x, .int .i64 c.f.y, .int .i64 c.f.z]) (.int .i64 0)).run Try.prog w = .ok (.agg #[.int .i64 c.r.x, .int .i64 c.r.y, .int .i64 c.r.z]) w := fun _ => by kernel_rfl
  have iy1 : ∀ w, (Instr.index 59 (.agg #[.int .i64 c.r.x, .int .i64 c.r.y, .int .i64 c.r.z, .int .i64 c.u.x, .int .i64 c.u.y, .int .i64 c.u.z, .int .i64 c.f.x, .int .i64 c.f.y, .int .i64 c.f.z]) (.int .i64 1)).run Try.prog w = .ok (.agg #[.int .i64 c.u.x, .int .i64 c.u.y, .int .i64 c.u.z]) w := fun _ => by kernel_rfl
  have iy2 : ∀ w, (Instr.index 59 (.agg #[.int .i64 c.r.x, .int .i64 c.r.y, .int .i64 c.r.z, .int .i64 c.u.x, .int .i64 c.u.y, .int .i64 c.u.z, .int .i64 c.f.x, .int .i64 c.f.y, .int .i64 c.f.z]) (.int .i64 2)).run Try.prog w = .ok (.agg #[.int .i64 c.f.x, .int .i64 c.f.y, .int .i64 c.f.z]) w := fun _ => by kernel_rfl
  clear V hc
  simp only [mvE] at hp
  go_enter Try.func22, Try.ntmps22
  go_wp2_with (first
    | (go_at_call 10; refine (RetB.grown ((V' _).out)).mono ?_; rintro e' w' ⟨rfl, g, rfl⟩)
    | (refine wp_region_xt (by kernel_rfl) (by kernel_rfl) ?_; (repeat (go_big_quiet_step (first | (go_at_call 10; exact RetB.quiet ((V' _).out))))); refine wpQuiet_nil ?_; intro g))
  refine wp_loop_rounds 4 ?_
  repeat any_goals (rw [rounds_succ]; go_wp2_with (first
    | (go_at_call 27; refine (within_any _ _ _ _).mono ?_; rintro e' w' ⟨rfl, rfl⟩)
    | (go_at_call 29; refine (RetB.grown (point_any ⟨_, _, _⟩ _)).mono ?_; rintro e' w' ⟨rfl, g, rfl⟩)
    | (refine wp_region_xt (by kernel_rfl) (by kernel_rfl) ?_; (repeat (go_big_quiet_step (first | (go_at_call 27; exact Ret.quiet (within_any _ _ _ _)) | (go_at_call 29; exact RetB.quiet (point_any ⟨_, _, _⟩ _))))); refine wpQuiet_nil ?_; intro g)))
  refine bodyPost_ret (v := .tuple #[.agg #[.int .i64 0, .int .i64 0, .int .i64 0, .int .i64 0, .int .i64 0, .int .i64 0, .int .i64 0, .int .i64 0, .int .i64 0, .int .i64 0, .int .i64 0, .int .i64 0, .int .i64 0, .int .i64 0, .int .i64 0, .int .i64 0], .int .i64 3]) (by simp [results, Try.results22, go_sem, mvE]) rfl ?_
  exact RetB.of rfl (by repeat' (first | exact Below.refl _ _ | assumption | refine Below.xt ?_ ?_ _ | refine Below.alloc ?_ ?_ _ | refine Below.drew ?_ | refine Below.setCell ?_ ?_ _ | (simp; done) | (simp; omega)))
set_option maxHeartbeats 1600000 in
theorem Move_ok (c : Cam) (a b d : Int) (w : World) (hc : Good c) (h1 : within a (-2097152) 2097152 = true) (h2 : within b (-2097152) 2097152 = true) (h3 : within d (-2097152) 2097152 = true) (hp : pnt (mvE c a b d) = true) : Calls Try.prog 22 #[.agg #[.int .i64 c.e.x, .int .i64 c.e.y, .int .i64 c.e.z, .int .i64 c.r.x, .int .i64 c.r.y, .int .i64 c.r.z, .int .i64 c.u.x, .int .i64 c.u.y, .int .i64 c.u.z, .int .i64 c.f.x, .int .i64 c.f.y, .int .i64 c.f.z, .int .i64 c.fo, .int .i64 c.wi, .int .i64 c.he, .int .i64 c.ne], .int .i64 a, .int .i64 b, .int .i64 d] w (RetB (.tuple #[.agg #[.int .i64 ((mvE c a b d).x), .int .i64 ((mvE c a b d).y), .int .i64 ((mvE c a b d).z), .int .i64 c.r.x, .int .i64 c.r.y, .int .i64 c.r.z, .int .i64 c.u.x, .int .i64 c.u.y, .int .i64 c.u.z, .int .i64 c.f.x, .int .i64 c.f.y, .int .i64 c.f.z, .int .i64 c.fo, .int .i64 c.wi, .int .i64 c.he, .int .i64 c.ne], .int .i64 0]) w) := by
  have V := fun w => cvalid_any c w
  rw [hc.val] at V
  have V' := fun w => Lib.hid (V w)
  obtain ⟨⟨x1, x2⟩, ⟨y1, y2⟩, z1, z2⟩ := pnt_iff.1 hc.e
  (obtain ⟨⟨ax1, ax2⟩, ⟨ay1, ay2⟩, az1, az2⟩ := mv_bd h1 hc.r; obtain ⟨⟨bx1, bx2⟩, ⟨by1, by2⟩, bz1, bz2⟩ := mv_bd h2 hc.u; obtain ⟨⟨dx1, dx2⟩, ⟨dy1, dy2⟩, dz1, dz2⟩ := mv_bd h3 hc.f)
  have ix0 : ∀ w, (Instr.index 68 (.agg #[.int .i64 a, .int .i64 b, .int .i64 d]) (.int .i64 0)).run Try.prog w = .ok (.int .i64 a) w := fun _ => by kernel_rfl
  have ix1 : ∀ w, (Instr.index 68 (.agg #[.int .i64 a, .int .i64 b, .int .i64 d]) (.int .i64 1)).run Try.prog w = .ok (.int .i64 b) w := fun _ => by kernel_rfl
  have ix2 : ∀ w, (Instr.index 68 (.agg #[.int .i64 a, .int .i64 b, .int .i64 d]) (.int .i64 2)).run Try.prog w = .ok (.int .i64 d) w := fun _ => by kernel_rfl
  have iy0 : ∀ w, (Instr.index 59 (.agg #[.int .i64 c.r.x, .int .i64 c.r.y, .int .i64 c.r.z, .int .i64 c.u.x, .int .i64 c.u.y, .int .i64 c.u.z, .int .i64 c.f.x, .int .i64 c.f.y, .int .i64 c.f.z]) (.int .i64 0)).run Try.prog w = .ok (.agg #[.int .i64 c.r.x, .int .i64 c.r.y, .int .i64 c.r.z]) w := fun _ => by kernel_rfl
  have iy1 : ∀ w, (Instr.index 59 (.agg #[.int .i64 c.r.x, .int .i64 c.r.y, .int .i64 c.r.z, .int .i64 c.u.x, .int .i64 c.u.y, .int .i64 c.u.z, .int .i64 c.f.x, .int .i64 c.f.y, .int .i64 c.f.z]) (.int .i64 1)).run Try.prog w = .ok (.agg #[.int .i64 c.u.x, .int .i64 c.u.y, .int .i64 c.u.z]) w := fun _ => by kernel_rfl
  have iy2 : ∀ w, (Instr.index 59 (.agg #[.int .i64 c.r.x, .int .i64 c.r.y, .int .i64 c.r.z, .int .i64 c.u.x, .int .i64 c.u.y, .int .i64 c.u.z, .int .i64 c.f.x, .int .i64 c.f.y, .int .i64 c.f.z]) (.int .i64 2)).run Try.prog w = .ok (.agg #[.int .i64 c.f.x, .int .i64 c.f.y, .int .i64 c.f.z]) w := fun _ => by kernel_rfl
  clear V hc
  simp only [mvE] at hp ⊢
  go_enter Try.func22, Try.ntmps22
  go_wp2_with (first
    | (go_at_call 10; refine (RetB.grown ((V' _).out)).mono ?_; rintro e' w' ⟨rfl, g, rfl⟩)
    | (refine wp_region_xt (by kernel_rfl) (by kernel_rfl) ?_; (repeat (go_big_quiet_step (first | (go_at_call 10; exact RetB.quiet ((V' _).out))))); refine wpQuiet_nil ?_; intro g))
  refine wp_loop_rounds 4 ?_
  repeat any_goals (rw [rounds_succ]; go_wp2_with (first
    | (go_at_call 27; refine (within_any _ _ _ _).mono ?_; rintro e' w' ⟨rfl, rfl⟩)
    | (go_at_call 29; refine (RetB.grown (point_any ⟨_, _, _⟩ _)).mono ?_; rintro e' w' ⟨rfl, g, rfl⟩)
    | (refine wp_region_xt (by kernel_rfl) (by kernel_rfl) ?_; (repeat (go_big_quiet_step (first | (go_at_call 27; exact Ret.quiet (within_any _ _ _ _)) | (go_at_call 29; exact RetB.quiet (point_any ⟨_, _, _⟩ _))))); refine wpQuiet_nil ?_; intro g)))
  refine bodyPost_ret (v := .tuple #[.agg #[.int .i64 ((mvE c a b d).x), .int .i64 ((mvE c a b d).y), .int .i64 ((mvE c a b d).z), .int .i64 c.r.x, .int .i64 c.r.y, .int .i64 c.r.z, .int .i64 c.u.x, .int .i64 c.u.y, .int .i64 c.u.z, .int .i64 c.f.x, .int .i64 c.f.y, .int .i64 c.f.z, .int .i64 c.fo, .int .i64 c.wi, .int .i64 c.he, .int .i64 c.ne], .int .i64 0]) (by simp [results, Try.results22, go_sem, mvE]) rfl ?_
  exact RetB.of rfl (by repeat' (first | exact Below.refl _ _ | assumption | refine Below.xt ?_ ?_ _ | refine Below.alloc ?_ ?_ _ | refine Below.drew ?_ | refine Below.setCell ?_ ?_ _ | (simp; done) | (simp; omega)))
def mvEr (c : Cam) (a b d : Int) : Int := if cval c = true then (if within a (-2097152) 2097152 = true ∧ within b (-2097152) 2097152 = true ∧ within d (-2097152) 2097152 = true ∧ pnt (mvE c a b d) = true then 0 else 3) else 2
def mvd (c : Cam) (a b d : Int) : Cam := if mvEr c a b d = 0 then { c with e := mvE c a b d } else Z0
theorem Move_any (c : Cam) (a b d : Int) (w : World) : Calls Try.prog 22 #[.agg #[.int .i64 c.e.x, .int .i64 c.e.y, .int .i64 c.e.z, .int .i64 c.r.x, .int .i64 c.r.y, .int .i64 c.r.z, .int .i64 c.u.x, .int .i64 c.u.y, .int .i64 c.u.z, .int .i64 c.f.x, .int .i64 c.f.y, .int .i64 c.f.z, .int .i64 c.fo, .int .i64 c.wi, .int .i64 c.he, .int .i64 c.ne], .int .i64 a, .int .i64 b, .int .i64 d] w (RetB (.tuple #[.agg #[.int .i64 ((mvd c a b d).e.x), .int .i64 ((mvd c a b d).e.y), .int .i64 ((mvd c a b d).e.z), .int .i64 ((mvd c a b d).r.x), .int .i64 ((mvd c a b d).r.y), .int .i64 ((mvd c a b d).r.z), .int .i64 ((mvd c a b d).u.x), .int .i64 ((mvd c a b d).u.y), .int .i64 ((mvd c a b d).u.z), .int .i64 ((mvd c a b d).f.x), .int .i64 ((mvd c a b d).f.y), .int .i64 ((mvd c a b d).f.z), .int .i64 ((mvd c a b d).fo), .int .i64 ((mvd c a b d).wi), .int .i64 ((mvd c a b d).he), .int .i64 ((mvd c a b d).ne)], .int .i64 (mvEr c a b d)]) w) := by
  by_cases h : cval c = true
  · have G := good_of h
    by_cases h1 : within a (-2097152) 2097152 = true
    · by_cases h2 : within b (-2097152) 2097152 = true
      · by_cases h3 : within d (-2097152) 2097152 = true
        · by_cases hp : pnt (mvE c a b d) = true
          · have e : mvEr c a b d = 0 := by rw [mvEr, if_pos h, if_pos ⟨h1, h2, h3, hp⟩]
            rw [mvd, e]; exact Move_ok c a b d w G h1 h2 h3 hp
          · have e : mvEr c a b d = 3 := by rw [mvEr, if_pos h, if_neg (fun x => hp x.2.2.2)]
            rw [mvd, e]; exact Move_fp c a b d w G h1 h2 h3 (by simpa using hp)
        · have e : mvEr c a b d = 3 := by rw [mvEr, if_pos h, if_neg (fun x => h3 x.2.2.1)]
          rw [mvd, e]; exact Move_fd c a b d w G h1 h2 (by simpa using h3)
      · have e : mvEr c a b d = 3 := by rw [mvEr, if_pos h, if_neg (fun x => h2 x.2.1)]
        rw [mvd, e]; exact Move_fb c a b d w G h1 (by simpa using h2)
    · have e : mvEr c a b d = 3 := by rw [mvEr, if_pos h, if_neg (fun x => h1 x.1)]
      rw [mvd, e]; exact Move_fa c a b d w G (by simpa using h1)
  · have e : mvEr c a b d = 2 := by rw [mvEr, if_neg h]
    rw [mvd, e]; exact Move_bad c a b d w (by simpa using h)

end Go.Proofs.Ytjeemlnhokihoaa

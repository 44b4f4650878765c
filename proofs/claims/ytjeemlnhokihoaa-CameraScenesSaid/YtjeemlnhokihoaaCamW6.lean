/- Walks of cameras, by the program: Project, Look, Turn, Move. Conditions stand in each theorem. -/
import Derived.Test.YtjeemlnhokihoaaCamW5
import Derived.Test.YtjeemlnhokihoaaCamW3
import Derived.Test.YtjeemlnhokihoaaCamC
namespace Go.Proofs.Ytjeemlnhokihoaa
open Go.RowKit
set_option linter.unusedVariables false
attribute [local go_sem ↓] ld16

/-! ### fine -/
set_option maxHeartbeats 400000 in
theorem fine_bad (c : Cam) (ra : Int) (A : Option Addr) (n cap : Nat) (w : World) (h : cval c = false) : Calls Try.prog 35 #[.agg #[.int .i64 c.e.x, .int .i64 c.e.y, .int .i64 c.e.z, .int .i64 c.r.x, .int .i64 c.r.y, .int .i64 c.r.z, .int .i64 c.u.x, .int .i64 c.u.y, .int .i64 c.u.z, .int .i64 c.f.x, .int .i64 c.f.y, .int .i64 c.f.z, .int .i64 c.fo, .int .i64 c.wi, .int .i64 c.he, .int .i64 c.ne], .int .i64 ra, .slice A n cap] w (RetB (.bool false) w) := by
  go_enter Try.func35, Try.ntmps35
  go_wp2_with (first
    | (go_at_call 10; refine (RetB.grown (cvalid_any c _)).mono ?_; rintro e' w' ⟨rfl, g, rfl⟩)
    | (refine wp_region_xt (by kernel_rfl) (by kernel_rfl) ?_; (repeat (go_big_quiet_step (first | (go_at_call 10; exact RetB.quiet (cvalid_any c _))))); refine wpQuiet_nil ?_; intro g))
  go_ret
  exact RetB.of rfl (by repeat' (first | exact Below.refl _ _ | assumption | refine Below.xt ?_ ?_ _ | refine Below.alloc ?_ ?_ _ | refine Below.drew ?_ | refine Below.setCell ?_ ?_ _ | (simp; done) | (simp; omega)))
set_option maxHeartbeats 400000 in
theorem fine_rad (c : Cam) (ra : Int) (A : Option Addr) (n cap : Nat) (w : World) (h : cval c = true) (hr : within ra 0 1000 = false) : Calls Try.prog 35 #[.agg #[.int .i64 c.e.x, .int .i64 c.e.y, .int .i64 c.e.z, .int .i64 c.r.x, .int .i64 c.r.y, .int .i64 c.r.z, .int .i64 c.u.x, .int .i64 c.u.y, .int .i64 c.u.z, .int .i64 c.f.x, .int .i64 c.f.y, .int .i64 c.f.z, .int .i64 c.fo, .int .i64 c.wi, .int .i64 c.he, .int .i64 c.ne], .int .i64 ra, .slice A n cap] w (RetB (.bool false) w) := by
  go_enter Try.func35, Try.ntmps35
  go_wp2_with (first
    | (go_at_call 10; refine (RetB.grown (cvalid_any c _)).mono ?_; rintro e' w' ⟨rfl, g, rfl⟩)
    | (go_at_call 27; refine (within_any _ _ _ _).mono ?_; rintro e' w' ⟨rfl, rfl⟩)
    | (refine wp_region_xt (by kernel_rfl) (by kernel_rfl) ?_; (repeat (go_big_quiet_step (first | (go_at_call 10; exact RetB.quiet (cvalid_any c _)) | (go_at_call 27; exact Ret.quiet (within_any _ _ _ _))))); refine wpQuiet_nil ?_; intro g))
  go_ret
  exact RetB.of rfl (by repeat' (first | exact Below.refl _ _ | assumption | refine Below.xt ?_ ?_ _ | refine Below.alloc ?_ ?_ _ | refine Below.drew ?_ | refine Below.setCell ?_ ?_ _ | (simp; done) | (simp; omega)))
set_option maxHeartbeats 400000 in
theorem fine_many (c : Cam) (ra : Int) (A : Option Addr) (n cap : Nat) (w : World) (h : cval c = true) (hr : within ra 0 1000 = true) (hn : 4096 < n) : Calls Try.prog 35 #[.agg #[.int .i64 c.e.x, .int .i64 c.e.y, .int .i64 c.e.z, .int .i64 c.r.x, .int .i64 c.r.y, .int .i64 c.r.z, .int .i64 c.u.x, .int .i64 c.u.y, .int .i64 c.u.z, .int .i64 c.f.x, .int .i64 c.f.y, .int .i64 c.f.z, .int .i64 c.fo, .int .i64 c.wi, .int .i64 c.he, .int .i64 c.ne], .int .i64 ra, .slice A n cap] w (RetB (.bool false) w) := by
  have e1 : decide ((n : Int) ≤ 4096) = false := by simp; omega
  have e2 : decide (n ≤ 4096) = false := by simp; omega
  go_enter Try.func35, Try.ntmps35
  go_wp2_with (first
    | (go_at_call 10; refine (RetB.grown (cvalid_any c _)).mono ?_; rintro e' w' ⟨rfl, g, rfl⟩)
    | (go_at_call 27; refine (within_any _ _ _ _).mono ?_; rintro e' w' ⟨rfl, rfl⟩)
    | (refine wp_region_xt (by kernel_rfl) (by kernel_rfl) ?_; (repeat (go_big_quiet_step (first | (go_at_call 10; exact RetB.quiet (cvalid_any c _)) | (go_at_call 27; exact Ret.quiet (within_any _ _ _ _))))); refine wpQuiet_nil ?_; intro g))
  go_ret
  exact RetB.of rfl (by repeat' (first | exact Below.refl _ _ | assumption | refine Below.xt ?_ ?_ _ | refine Below.alloc ?_ ?_ _ | refine Below.drew ?_ | refine Below.setCell ?_ ?_ _ | (simp; done) | (simp; omega)))
set_option maxHeartbeats 400000 in
theorem fine_no (c : Cam) (ra : Int) (b o n cap : Nat) (l : List V3) (w : World) (h : cval c = true) (hr : within ra 0 1000 = true) (hm : n ≤ 4096) (hn : n = l.length) (hl : RowV w (some ⟨b, o, none⟩) l) (hp : ∃ i, i < n ∧ pointAt l i = false) : Calls Try.prog 35 #[.agg #[.int .i64 c.e.x, .int .i64 c.e.y, .int .i64 c.e.z, .int .i64 c.r.x, .int .i64 c.r.y, .int .i64 c.r.z, .int .i64 c.u.x, .int .i64 c.u.y, .int .i64 c.u.z, .int .i64 c.f.x, .int .i64 c.f.y, .int .i64 c.f.z, .int .i64 c.fo, .int .i64 c.wi, .int .i64 c.he, .int .i64 c.ne], .int .i64 ra, .slice (some ⟨b, o, none⟩) n cap] w (RetB (.bool false) w) := by
  have e1 : decide ((n : Int) ≤ 4096) = true := by simp; omega
  have e2 : decide (n ≤ 4096) = true := by simp; omega
  have K := fun w hl => Lib.hid (contains_yes b o n cap l w hn (by omega) hl hp)
  have HR := Lib.hid hl
  clear hl hp hn
  go_enter Try.func35, Try.ntmps35
  go_wp2_with (first
    | (go_at_call 10; refine (RetB.grown (cvalid_any c _)).mono ?_; rintro e' w' ⟨rfl, g, rfl⟩)
    | (go_at_call 27; refine (within_any _ _ _ _).mono ?_; rintro e' w' ⟨rfl, rfl⟩)
    | (go_at_call 44; refine (RetB.grown ((K _ (by repeat (first | exact HR.out | refine Row.xt ?_ _ | refine Row.alloc ?_ _ | refine Row.drew ?_))).out)).mono ?_; rintro e' w' ⟨rfl, g, rfl⟩)
    | (refine wp_region_xt (by kernel_rfl) (by kernel_rfl) ?_; (repeat (go_big_quiet_step (first | (go_at_call 10; exact RetB.quiet (cvalid_any c _)) | (go_at_call 27; exact Ret.quiet (within_any _ _ _ _)) | (go_at_call 44; exact RetB.quiet ((K _ (by repeat (first | exact HR.out | refine Row.xt ?_ _ | refine Row.alloc ?_ _ | refine Row.drew ?_))).out))))); refine wpQuiet_nil ?_; intro g))
  go_ret
  exact RetB.of rfl (by repeat' (first | exact Below.refl _ _ | assumption | refine Below.xt ?_ ?_ _ | refine Below.alloc ?_ ?_ _ | refine Below.drew ?_ | refine Below.setCell ?_ ?_ _ | (simp; done) | (simp; omega)))
set_option maxHeartbeats 400000 in
theorem fine_yes (c : Cam) (ra : Int) (A : Option Addr) (n cap : Nat) (l : List V3) (w : World) (h : cval c = true) (hr : within ra 0 1000 = true) (hm : n ≤ 4096) (hn : n = l.length) (hl : RowV w A l) (hp : ∀ i, i < n → pointAt l i = true) : Calls Try.prog 35 #[.agg #[.int .i64 c.e.x, .int .i64 c.e.y, .int .i64 c.e.z, .int .i64 c.r.x, .int .i64 c.r.y, .int .i64 c.r.z, .int .i64 c.u.x, .int .i64 c.u.y, .int .i64 c.u.z, .int .i64 c.f.x, .int .i64 c.f.y, .int .i64 c.f.z, .int .i64 c.fo, .int .i64 c.wi, .int .i64 c.he, .int .i64 c.ne], .int .i64 ra, .slice A n cap] w (RetB (.bool true) w) := by
  have e1 : decide ((n : Int) ≤ 4096) = true := by simp; omega
  have e2 : decide (n ≤ 4096) = true := by simp; omega
  have K := fun w hl => Lib.hid (contains_no A n cap l w hn (by omega) hl hp)
  have HR := Lib.hid hl
  clear hl hp hn
  go_enter Try.func35, Try.ntmps35
  go_wp2_with (first
    | (go_at_call 10; refine (RetB.grown (cvalid_any c _)).mono ?_; rintro e' w' ⟨rfl, g, rfl⟩)
    | (go_at_call 27; refine (within_any _ _ _ _).mono ?_; rintro e' w' ⟨rfl, rfl⟩)
    | (go_at_call 44; refine (RetB.grown ((K _ (by repeat (first | exact HR.out | refine Row.xt ?_ _ | refine Row.alloc ?_ _ | refine Row.drew ?_))).out)).mono ?_; rintro e' w' ⟨rfl, g, rfl⟩)
    | (refine wp_region_xt (by kernel_rfl) (by kernel_rfl) ?_; (repeat (go_big_quiet_step (first | (go_at_call 10; exact RetB.quiet (cvalid_any c _)) | (go_at_call 27; exact Ret.quiet (within_any _ _ _ _)) | (go_at_call 44; exact RetB.quiet ((K _ (by repeat (first | exact HR.out | refine Row.xt ?_ _ | refine Row.alloc ?_ _ | refine Row.drew ?_))).out))))); refine wpQuiet_nil ?_; intro g))
  go_ret
  exact RetB.of rfl (by repeat' (first | exact Below.refl _ _ | assumption | refine Below.xt ?_ ?_ _ | refine Below.alloc ?_ ?_ _ | refine Below.drew ?_ | refine Below.setCell ?_ ?_ _ | (simp; done) | (simp; omega)))

/-! ### Project -/
theorem rowV_1 {w : World} {m : Nat} {T : TypeId} {p : V3} (hm : m = w.heap.size) : RowV (w.alloc (.cells #[.int .i64 p.x, .int .i64 p.y, .int .i64 p.z] T)) (some ⟨m, 0, none⟩) [p] :=
  Row.made hm fun i j hi hj => by
    have hi : i = 0 := by simpa using hi
    have hj : j = 0 ∨ j = 1 ∨ j = 2 := by omega
    subst hi
    rcases hj with rfl | rfl | rfl <;> rfl
/-- Whether a radius and a point are ones. -/
def pjOk (c : Cam) (p : V3) (ra : Int) : Bool := cval c && within ra 0 1000 && pnt p
theorem fine1 (c : Cam) (p : V3) (ra : Int) (m cap : Nat) (w : World) (hl : RowV w (some ⟨m, 0, none⟩) [p]) : Calls Try.prog 35 #[.agg #[.int .i64 c.e.x, .int .i64 c.e.y, .int .i64 c.e.z, .int .i64 c.r.x, .int .i64 c.r.y, .int .i64 c.r.z, .int .i64 c.u.x, .int .i64 c.u.y, .int .i64 c.u.z, .int .i64 c.f.x, .int .i64 c.f.y, .int .i64 c.f.z, .int .i64 c.fo, .int .i64 c.wi, .int .i64 c.he, .int .i64 c.ne], .int .i64 ra, .slice (some ⟨m, 0, none⟩) 1 cap] w (RetB (.bool (pjOk c p ra)) w) := by
  unfold pjOk
  by_cases h : cval c = true
  · by_cases hr : within ra 0 1000 = true
    · by_cases hp : pnt p = true
      · rw [h, hr, hp]
        exact fine_yes c ra _ 1 cap [p] w h hr (by decide) rfl hl (fun i hi => by have : i = 0 := by omega
                                                                                  subst this; exact hp)
      · have hp' : pnt p = false := by simpa using hp
        rw [h, hr, hp']
        exact fine_no c ra m 0 1 cap [p] w h hr (by decide) rfl hl ⟨0, by decide, hp'⟩
    · have hr' : within ra 0 1000 = false := by simpa using hr
      rw [h, hr']
      exact fine_rad c ra _ 1 cap w h hr'
  · have h' : cval c = false := by simpa using h
    rw [h']
    exact fine_bad c ra _ 1 cap w h'
/-- The spot that Project returns, and the error. -/
def pjE (c : Cam) (p : V3) (ra : Int) : Int := if pjOk c p ra then (if seen c p then 0 else 9) else 2
def pjS (c : Cam) (p : V3) (ra n : Int) : Int := if pjE c p ra = 0 then n else 0
theorem spot_no (c : Cam) (p : V3) (ra : Int) (w : World) (hc : Good c) (hp : pnt p = true) (h : seen c p = false) : Calls Try.prog 36 #[.agg #[.int .i64 c.e.x, .int .i64 c.e.y, .int .i64 c.e.z, .int .i64 c.r.x, .int .i64 c.r.y, .int .i64 c.r.z, .int .i64 c.u.x, .int .i64 c.u.y, .int .i64 c.u.z, .int .i64 c.f.x, .int .i64 c.f.y, .int .i64 c.f.z, .int .i64 c.fo, .int .i64 c.wi, .int .i64 c.he, .int .i64 c.ne], .agg #[.int .i64 p.x, .int .i64 p.y, .int .i64 p.z], .int .i64 ra] w (RetB (.tuple #[.agg #[.int .i64 0, .int .i64 0, .int .i64 0, .int .i64 0, .int .i64 0], .bool false]) w) := by
  by_cases hz : c.ne ≤ zz c p
  · by_cases hx : within (xx c p) 0 (c.wi - 1) = true
    · have hy : within (yy c p) 0 (c.he - 1) = false := by simpa [seen, hz, hx] using h
      exact spot_outy c p ra w hc hp hz hx hy
    · exact spot_outx c p ra w hc hp hz (by simpa using hx)
  · exact spot_far c p ra w hc hp (by omega)
theorem spot_yes (c : Cam) (p : V3) (ra : Int) (w : World) (hc : Good c) (hp : pnt p = true) (hr : within ra 0 1000 = true) (h : seen c p = true) : Calls Try.prog 36 #[.agg #[.int .i64 c.e.x, .int .i64 c.e.y, .int .i64 c.e.z, .int .i64 c.r.x, .int .i64 c.r.y, .int .i64 c.r.z, .int .i64 c.u.x, .int .i64 c.u.y, .int .i64 c.u.z, .int .i64 c.f.x, .int .i64 c.f.y, .int .i64 c.f.z, .int .i64 c.fo, .int .i64 c.wi, .int .i64 c.he, .int .i64 c.ne], .agg #[.int .i64 p.x, .int .i64 p.y, .int .i64 p.z], .int .i64 ra] w (RetB (.tuple #[.agg #[.int .i64 0, .int .i64 ((xx c p)), .int .i64 ((yy c p)), .int .i64 ((rr c p ra)), .int .i64 ((zz c p))], .bool true]) w) := by
  simp only [seen, Bool.and_eq_true, decide_eq_true_eq] at h
  exact spot_in c p ra w hc hp (within_iff.1 hr) h.1.1 h.1.2 h.2

set_option maxHeartbeats 800000 in
theorem Project_arg (c : Cam) (p : V3) (ra : Int) (w : World) (h : pjOk c p ra = false) : Calls Try.prog 15 #[.agg #[.int .i64 c.e.x, .int .i64 c.e.y, .int .i64 c.e.z, .int .i64 c.r.x, .int .i64 c.r.y, .int .i64 c.r.z, .int .i64 c.u.x, .int .i64 c.u.y, .int .i64 c.u.z, .int .i64 c.f.x, .int .i64 c.f.y, .int .i64 c.f.z, .int .i64 c.fo, .int .i64 c.wi, .int .i64 c.he, .int .i64 c.ne], .agg #[.int .i64 p.x, .int .i64 p.y, .int .i64 p.z], .int .i64 ra] w (RetB (.tuple #[.agg #[.int .i64 0, .int .i64 0, .int .i64 0, .int .i64 0, .int .i64 0], .int .i64 2]) w) := by
  have K := fun m w hl => Lib.hid (fine1 c p ra m 1 w hl)
  rw [h] at K
  clear h
  go_enter Try.func15, Try.ntmps15
  go_wp2_with (first
    | (go_at_call 35; refine (RetB.grown ((K _ _ (by repeat (first | exact rowV_1 (by simp) | refine Row.drew ?_))).out)).mono ?_; rintro e' w' ⟨rfl, g, rfl⟩)
    | (refine wp_region_xt (by kernel_rfl) (by kernel_rfl) ?_; (repeat (go_big_quiet_step (first | (go_at_call 35; exact RetB.quiet ((K _ _ (by repeat (first | exact rowV_1 (by simp) | refine Row.drew ?_))).out))))); refine wpQuiet_nil ?_; intro g))
  refine bodyPost_ret (v := .tuple #[.agg #[.int .i64 0, .int .i64 0, .int .i64 0, .int .i64 0, .int .i64 0], .int .i64 2]) (by simp [results, Try.results15, go_sem]) rfl ?_
  exact RetB.of rfl (by repeat' (first | exact Below.refl _ _ | assumption | refine Below.xt ?_ ?_ _ | refine Below.alloc ?_ ?_ _ | refine Below.drew ?_ | refine Below.setCell ?_ ?_ _ | (simp; done) | (simp; omega)))
set_option maxHeartbeats 800000 in
theorem Project_none (c : Cam) (p : V3) (ra : Int) (w : World) (h : pjOk c p ra = true) (hs : seen c p = false) : Calls Try.prog 15 #[.agg #[.int .i64 c.e.x, .int .i64 c.e.y, .int .i64 c.e.z, .int .i64 c.r.x, .int .i64 c.r.y, .int .i64 c.r.z, .int .i64 c.u.x, .int .i64 c.u.y, .int .i64 c.u.z, .int .i64 c.f.x, .int .i64 c.f.y, .int .i64 c.f.z, .int .i64 c.fo, .int .i64 c.wi, .int .i64 c.he, .int .i64 c.ne], .agg #[.int .i64 p.x, .int .i64 p.y, .int .i64 p.z], .int .i64 ra] w (RetB (.tuple #[.agg #[.int .i64 0, .int .i64 0, .int .i64 0, .int .i64 0, .int .i64 0], .int .i64 9]) w) := by
  have K := fun m w hl => Lib.hid (fine1 c p ra m 1 w hl)
  rw [h] at K
  have h' := h
  simp only [pjOk, Bool.and_eq_true] at h'
  have S := fun w => Lib.hid (spot_no c p ra w (good_of h'.1.1) h'.2 hs)
  clear h h' hs
  go_enter Try.func15, Try.ntmps15
  go_wp2_with (first
    | (go_at_call 35; refine (RetB.grown ((K _ _ (by repeat (first | exact rowV_1 (by simp) | refine Row.drew ?_))).out)).mono ?_; rintro e' w' ⟨rfl, g, rfl⟩)
    | (go_at_call 36; refine (RetB.grown ((S _).out)).mono ?_; rintro e' w' ⟨rfl, g, rfl⟩)
    | (refine wp_region_xt (by kernel_rfl) (by kernel_rfl) ?_; (repeat (go_big_quiet_step (first | (go_at_call 35; exact RetB.quiet ((K _ _ (by repeat (first | exact rowV_1 (by simp) | refine Row.drew ?_))).out)) | (go_at_call 36; exact RetB.quiet ((S _).out))))); refine wpQuiet_nil ?_; intro g))
  refine bodyPost_ret (v := .tuple #[.agg #[.int .i64 0, .int .i64 0, .int .i64 0, .int .i64 0, .int .i64 0], .int .i64 9]) (by simp [results, Try.results15, go_sem]) rfl ?_
  exact RetB.of rfl (by repeat' (first | exact Below.refl _ _ | assumption | refine Below.xt ?_ ?_ _ | refine Below.alloc ?_ ?_ _ | refine Below.drew ?_ | refine Below.setCell ?_ ?_ _ | (simp; done) | (simp; omega)))
set_option maxHeartbeats 800000 in
theorem Project_ok (c : Cam) (p : V3) (ra : Int) (w : World) (h : pjOk c p ra = true) (hs : seen c p = true) : Calls Try.prog 15 #[.agg #[.int .i64 c.e.x, .int .i64 c.e.y, .int .i64 c.e.z, .int .i64 c.r.x, .int .i64 c.r.y, .int .i64 c.r.z, .int .i64 c.u.x, .int .i64 c.u.y, .int .i64 c.u.z, .int .i64 c.f.x, .int .i64 c.f.y, .int .i64 c.f.z, .int .i64 c.fo, .int .i64 c.wi, .int .i64 c.he, .int .i64 c.ne], .agg #[.int .i64 p.x, .int .i64 p.y, .int .i64 p.z], .int .i64 ra] w (RetB (.tuple #[.agg #[.int .i64 0, .int .i64 ((xx c p)), .int .i64 ((yy c p)), .int .i64 ((rr c p ra)), .int .i64 ((zz c p))], .int .i64 0]) w) := by
  have K := fun m w hl => Lib.hid (fine1 c p ra m 1 w hl)
  rw [h] at K
  have h' := h
  simp only [pjOk, Bool.and_eq_true] at h'
  have S := fun w => Lib.hid (spot_yes c p ra w (good_of h'.1.1) h'.2 h'.1.2 hs)
  clear h h' hs
  generalize xx c p = x at *
  generalize yy c p = y at *
  generalize rr c p ra = r at *
  generalize zz c p = z at *
  go_enter Try.func15, Try.ntmps15
  go_wp2_with (first
    | (go_at_call 35; refine (RetB.grown ((K _ _ (by repeat (first | exact rowV_1 (by simp) | refine Row.drew ?_))).out)).mono ?_; rintro e' w' ⟨rfl, g, rfl⟩)
    | (go_at_call 36; refine (RetB.grown ((S _).out)).mono ?_; rintro e' w' ⟨rfl, g, rfl⟩)
    | (refine wp_region_xt (by kernel_rfl) (by kernel_rfl) ?_; (repeat (go_big_quiet_step (first | (go_at_call 35; exact RetB.quiet ((K _ _ (by repeat (first | exact rowV_1 (by simp) | refine Row.drew ?_))).out)) | (go_at_call 36; exact RetB.quiet ((S _).out))))); refine wpQuiet_nil ?_; intro g))
  refine bodyPost_ret (v := .tuple #[.agg #[.int .i64 0, .int .i64 x, .int .i64 y, .int .i64 r, .int .i64 z], .int .i64 0]) (by simp [results, Try.results15, go_sem]) rfl ?_
  exact RetB.of rfl (by repeat' (first | exact Below.refl _ _ | assumption | refine Below.xt ?_ ?_ _ | refine Below.alloc ?_ ?_ _ | refine Below.drew ?_ | refine Below.setCell ?_ ?_ _ | (simp; done) | (simp; omega)))
theorem Project_any (c : Cam) (p : V3) (ra : Int) (w : World) : Calls Try.prog 15 #[.agg #[.int .i64 c.e.x, .int .i64 c.e.y, .int .i64 c.e.z, .int .i64 c.r.x, .int .i64 c.r.y, .int .i64 c.r.z, .int .i64 c.u.x, .int .i64 c.u.y, .int .i64 c.u.z, .int .i64 c.f.x, .int .i64 c.f.y, .int .i64 c.f.z, .int .i64 c.fo, .int .i64 c.wi, .int .i64 c.he, .int .i64 c.ne], .agg #[.int .i64 p.x, .int .i64 p.y, .int .i64 p.z], .int .i64 ra] w (RetB (.tuple #[.agg #[.int .i64 0, .int .i64 ((pjS c p ra (xx c p))), .int .i64 ((pjS c p ra (yy c p))), .int .i64 ((pjS c p ra (rr c p ra))), .int .i64 ((pjS c p ra (zz c p)))], .int .i64 (pjE c p ra)]) w) := by
  by_cases h : pjOk c p ra = true
  · by_cases hs : seen c p = true
    · have e : pjE c p ra = 0 := by simp [pjE, h, hs]
      simp only [pjS, e, if_true]
      exact Project_ok c p ra w h hs
    · have hs' : seen c p = false := by simpa using hs
      have e : pjE c p ra = 9 := by simp [pjE, h, hs']
      simp only [pjS, e]
      exact Project_none c p ra w h hs'
  · have h' : pjOk c p ra = false := by simpa using h
    have e : pjE c p ra = 2 := by simp [pjE, h']
    simp only [pjS, e]
    exact Project_arg c p ra w h'

end Go.Proofs.Ytjeemlnhokihoaa

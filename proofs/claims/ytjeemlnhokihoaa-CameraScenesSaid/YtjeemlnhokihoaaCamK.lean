/- Walks: the examples of the chapter on cameras. Conditions stand in each theorem. -/
import Derived.Test.YtjeemlnhokihoaaCamV1
import Derived.Test.YtjeemlnhokihoaaCamW7
namespace Go.Proofs.Ytjeemlnhokihoaa
open Go.RowKit
set_option linter.unusedVariables false
attribute [local go_sem ↓] ld16

set_option maxHeartbeats 800000 in
theorem sees_any (c : Cam) (p : V3) (ra x y r z : Int) (w : World) (h : pjOk c p ra = true) (hs : seen c p = true) (hx : xx c p = x) (hy : yy c p = y) (hr : rr c p ra = r) (hz : zz c p = z) : Calls Try.prog 32 #[.agg #[.int .i64 c.e.x, .int .i64 c.e.y, .int .i64 c.e.z, .int .i64 c.r.x, .int .i64 c.r.y, .int .i64 c.r.z, .int .i64 c.u.x, .int .i64 c.u.y, .int .i64 c.u.z, .int .i64 c.f.x, .int .i64 c.f.y, .int .i64 c.f.z, .int .i64 c.fo, .int .i64 c.wi, .int .i64 c.he, .int .i64 c.ne], .agg #[.int .i64 p.x, .int .i64 p.y, .int .i64 p.z], .int .i64 ra, .agg #[.int .i64 0, .int .i64 x, .int .i64 y, .int .i64 r, .int .i64 z]] w (RetB (.bool true) w) := by
  have K := fun w => Project_ok c p ra w h hs
  rw [hx, hy, hr, hz] at K
  have C := fun w => Lib.hid (K w)
  clear K h hs hx hy hr hz
  go_enter Try.func32, Try.ntmps32
  go_wp2_with (first
    | (go_at_call 15; refine (RetB.grown ((C _).out)).mono ?_; rintro e' w' ⟨rfl, g, rfl⟩)
    | (refine wp_region_xt (by kernel_rfl) (by kernel_rfl) ?_; (repeat (go_big_quiet_step (first | (go_at_call 15; exact RetB.quiet ((C _).out))))); refine wpQuiet_nil ?_; intro g))
  go_ret
  exact RetB.of rfl (by repeat' (first | exact Below.refl _ _ | assumption | refine Below.xt ?_ ?_ _ | refine Below.alloc ?_ ?_ _ | refine Below.drew ?_ | refine Below.setCell ?_ ?_ _ | (simp; done) | (simp; omega)))

def c0 : Cam := ⟨⟨0, 0, 0⟩, ⟨1, 0, 0⟩, ⟨0, 0, 1⟩, ⟨0, 1, 0⟩, 100, 200, 100, 10⟩
theorem kval : cval c0 = true := by decide
theorem kLook (w : World) : Calls Try.prog 13 #[.agg #[.int .i64 0, .int .i64 0, .int .i64 0], .int .i64 0, .int .i64 100, .int .i64 200, .int .i64 100, .int .i64 10] w (RetB (.tuple #[.agg #[.int .i64 0, .int .i64 0, .int .i64 0, .int .i64 1, .int .i64 0, .int .i64 0, .int .i64 0, .int .i64 0, .int .i64 1, .int .i64 0, .int .i64 1, .int .i64 0, .int .i64 100, .int .i64 200, .int .i64 100, .int .i64 10], .int .i64 0]) w) := Look_ok ⟨0, 0, 0⟩ 0 100 200 100 10 c0 w (by decide) (by decide) rfl
theorem kSees1 (w : World) : Calls Try.prog 32 #[.agg #[.int .i64 0, .int .i64 0, .int .i64 0, .int .i64 1, .int .i64 0, .int .i64 0, .int .i64 0, .int .i64 0, .int .i64 1, .int .i64 0, .int .i64 1, .int .i64 0, .int .i64 100, .int .i64 200, .int .i64 100, .int .i64 10], .agg #[.int .i64 0, .int .i64 1000, .int .i64 0], .int .i64 50, .agg #[.int .i64 0, .int .i64 100, .int .i64 50, .int .i64 5, .int .i64 1000]] w (RetB (.bool true) w) := sees_any c0 ⟨0, 1000, 0⟩ 50 100 50 5 1000 w (by decide) (by decide) (by decide) (by decide) (by decide) (by decide)
theorem kSees2 (w : World) : Calls Try.prog 32 #[.agg #[.int .i64 0, .int .i64 0, .int .i64 0, .int .i64 1, .int .i64 0, .int .i64 0, .int .i64 0, .int .i64 0, .int .i64 1, .int .i64 0, .int .i64 1, .int .i64 0, .int .i64 100, .int .i64 200, .int .i64 100, .int .i64 10], .agg #[.int .i64 100, .int .i64 1000, .int .i64 50], .int .i64 0, .agg #[.int .i64 0, .int .i64 110, .int .i64 45, .int .i64 1, .int .i64 1000]] w (RetB (.bool true) w) := sees_any c0 ⟨100, 1000, 50⟩ 0 110 45 1 1000 w (by decide) (by decide) (by decide) (by decide) (by decide) (by decide)
theorem kSees3 (w : World) : Calls Try.prog 32 #[.agg #[.int .i64 0, .int .i64 0, .int .i64 0, .int .i64 1, .int .i64 0, .int .i64 0, .int .i64 0, .int .i64 0, .int .i64 1, .int .i64 0, .int .i64 1, .int .i64 0, .int .i64 100, .int .i64 200, .int .i64 100, .int .i64 10], .agg #[.int .i64 (-1), .int .i64 1000, .int .i64 (-1)], .int .i64 0, .agg #[.int .i64 0, .int .i64 99, .int .i64 51, .int .i64 1, .int .i64 1000]] w (RetB (.bool true) w) := sees_any c0 ⟨-1, 1000, -1⟩ 0 99 51 1 1000 w (by decide) (by decide) (by decide) (by decide) (by decide) (by decide)
theorem kPro1 (w : World) : Calls Try.prog 15 #[.agg #[.int .i64 0, .int .i64 0, .int .i64 0, .int .i64 1, .int .i64 0, .int .i64 0, .int .i64 0, .int .i64 0, .int .i64 1, .int .i64 0, .int .i64 1, .int .i64 0, .int .i64 100, .int .i64 200, .int .i64 100, .int .i64 10], .agg #[.int .i64 0, .int .i64 9, .int .i64 0], .int .i64 0] w (RetB (.tuple #[.agg #[.int .i64 0, .int .i64 0, .int .i64 0, .int .i64 0, .int .i64 0], .int .i64 9]) w) := Project_none c0 ⟨0, 9, 0⟩ 0 w (by decide) (by decide)
theorem kPro2 (w : World) : Calls Try.prog 15 #[.agg #[.int .i64 0, .int .i64 0, .int .i64 0, .int .i64 1, .int .i64 0, .int .i64 0, .int .i64 0, .int .i64 0, .int .i64 1, .int .i64 0, .int .i64 1, .int .i64 0, .int .i64 100, .int .i64 200, .int .i64 100, .int .i64 10], .agg #[.int .i64 1000, .int .i64 1000, .int .i64 0], .int .i64 0] w (RetB (.tuple #[.agg #[.int .i64 0, .int .i64 0, .int .i64 0, .int .i64 0, .int .i64 0], .int .i64 9]) w) := Project_none c0 ⟨1000, 1000, 0⟩ 0 w (by decide) (by decide)
theorem kTurn1 (w : World) : Calls Try.prog 20 #[.agg #[.int .i64 0, .int .i64 0, .int .i64 0, .int .i64 1, .int .i64 0, .int .i64 0, .int .i64 0, .int .i64 0, .int .i64 1, .int .i64 0, .int .i64 1, .int .i64 0, .int .i64 100, .int .i64 200, .int .i64 100, .int .i64 10], .int .i64 1] w (RetB (.tuple #[.agg #[.int .i64 0, .int .i64 0, .int .i64 0, .int .i64 0, .int .i64 (-1), .int .i64 0, .int .i64 0, .int .i64 0, .int .i64 1, .int .i64 1, .int .i64 0, .int .i64 0, .int .i64 100, .int .i64 200, .int .i64 100, .int .i64 10], .int .i64 0]) w) := Turn_ok c0 1 w kval
theorem kTurn2 (w : World) : Calls Try.prog 20 #[.agg #[.int .i64 0, .int .i64 0, .int .i64 0, .int .i64 1, .int .i64 0, .int .i64 0, .int .i64 0, .int .i64 0, .int .i64 1, .int .i64 0, .int .i64 1, .int .i64 0, .int .i64 100, .int .i64 200, .int .i64 100, .int .i64 10], .int .i64 (-1)] w (RetB (.tuple #[.agg #[.int .i64 0, .int .i64 0, .int .i64 0, .int .i64 0, .int .i64 1, .int .i64 0, .int .i64 0, .int .i64 0, .int .i64 1, .int .i64 (-1), .int .i64 0, .int .i64 0, .int .i64 100, .int .i64 200, .int .i64 100, .int .i64 10], .int .i64 0]) w) := Turn_ok c0 (-1) w kval
theorem kMove1 (w : World) : Calls Try.prog 22 #[.agg #[.int .i64 0, .int .i64 0, .int .i64 0, .int .i64 1, .int .i64 0, .int .i64 0, .int .i64 0, .int .i64 0, .int .i64 1, .int .i64 0, .int .i64 1, .int .i64 0, .int .i64 100, .int .i64 200, .int .i64 100, .int .i64 10], .int .i64 1, .int .i64 2, .int .i64 3] w (RetB (.tuple #[.agg #[.int .i64 1, .int .i64 3, .int .i64 2, .int .i64 1, .int .i64 0, .int .i64 0, .int .i64 0, .int .i64 0, .int .i64 1, .int .i64 0, .int .i64 1, .int .i64 0, .int .i64 100, .int .i64 200, .int .i64 100, .int .i64 10], .int .i64 0]) w) := Move_ok c0 1 2 3 w (good_of kval) (by decide) (by decide) (by decide) (by decide)
theorem kMove2 (w : World) : Calls Try.prog 22 #[.agg #[.int .i64 0, .int .i64 0, .int .i64 0, .int .i64 1, .int .i64 0, .int .i64 0, .int .i64 0, .int .i64 0, .int .i64 1, .int .i64 0, .int .i64 1, .int .i64 0, .int .i64 100, .int .i64 200, .int .i64 100, .int .i64 10], .int .i64 0, .int .i64 0, .int .i64 1048577] w (RetB (.tuple #[.agg #[.int .i64 0, .int .i64 0, .int .i64 0, .int .i64 0, .int .i64 0, .int .i64 0, .int .i64 0, .int .i64 0, .int .i64 0, .int .i64 0, .int .i64 0, .int .i64 0, .int .i64 0, .int .i64 0, .int .i64 0, .int .i64 0], .int .i64 3]) w) := Move_fp c0 0 0 1048577 w (good_of kval) (by decide) (by decide) (by decide) (by decide)

def l4 : List V3 := [⟨0, 100, 0⟩, ⟨0, 300, 0⟩, ⟨0, 200, 0⟩, ⟨0, 300, 5⟩]
theorem rowV_l4 {w : World} {m : Nat} {T : TypeId} (hm : m = w.heap.size) : RowV (w.alloc (.cells #[.int .i64 0, .int .i64 100, .int .i64 0, .int .i64 0, .int .i64 300, .int .i64 0, .int .i64 0, .int .i64 200, .int .i64 0, .int .i64 0, .int .i64 300, .int .i64 5] T)) (some ⟨m, 0, none⟩) l4 :=
  Row.made hm fun i j hi hj => by
    have hi : i = 0 ∨ i = 1 ∨ i = 2 ∨ i = 3 := by simp [l4] at hi; omega
    have hj : j = 0 ∨ j = 1 ∨ j = 2 := by omega
    rcases hi with rfl | rfl | rfl | rfl <;> rcases hj with rfl | rfl | rfl <;> rfl
/-- The call returns four spots with these indexes. -/
def RetIx (w : World) (e : Ending) (w' : World) : Prop := ∃ b o cp, e = .returned (.tuple #[.slice (some ⟨b, o, none⟩) 4 cp, .int .i64 0]) ∧ Below w.heap.size w w' ∧ old b w' ∧ w'.cell? ⟨b, o, none⟩ = some (.int .i64 1) ∧ w'.cell? ⟨b, o + 5, none⟩ = some (.int .i64 3) ∧ w'.cell? ⟨b, o + 10, none⟩ = some (.int .i64 2) ∧ w'.cell? ⟨b, o + 15, none⟩ = some (.int .i64 0)
theorem kScene (b c : Nat) (w : World) (hr : RowV w (some ⟨b, 0, none⟩) l4) : Calls Try.prog 17 #[.agg #[.int .i64 0, .int .i64 0, .int .i64 0, .int .i64 1, .int .i64 0, .int .i64 0, .int .i64 0, .int .i64 0, .int .i64 1, .int .i64 0, .int .i64 1, .int .i64 0, .int .i64 100, .int .i64 200, .int .i64 100, .int .i64 10], .slice (some ⟨b, 0, none⟩) 4 c, .int .i64 0] w (RetIx w) := by
  have hl : (scn c0 l4 0 4).length = 4 := by decide
  have k := Scene_some c0 l4 (some ⟨b, 0, none⟩) 4 c 0 w kval (by decide) rfl (by decide) hr (fun i hi => by
    have : i = 0 ∨ i = 1 ∨ i = 2 ∨ i = 3 := by omega
    rcases this with rfl | rfl | rfl | rfl <;> decide) (by rw [hl]; decide)
  rw [hl] at k
  refine Calls.mono k fun e w' ⟨A, cp, he, hb, hrow⟩ => ?_
  obtain ⟨b', o, rfl, ho, hc⟩ := hrow.at_ (by decide)
  have i0 : (srt (sfn (scn c0 l4 0 4)) 4 0).ix = 1 := by decide
  have i1 : (srt (sfn (scn c0 l4 0 4)) 4 1).ix = 3 := by decide
  have i2 : (srt (sfn (scn c0 l4 0 4)) 4 2).ix = 2 := by decide
  have i3 : (srt (sfn (scn c0 l4 0 4)) 4 3).ix = 0 := by decide
  have h0 := hc 0 0 (by decide) (by decide)
  have h1 := hc 1 0 (by decide) (by decide)
  have h2 := hc 2 0 (by decide) (by decide)
  have h3 := hc 3 0 (by decide) (by decide)
  simp only [scell, if_true, i0, i1, i2, i3] at h0 h1 h2 h3
  exact ⟨b', o, cp, he, hb, ho, h0, h1, h2, h3⟩

set_option maxRecDepth 100000 in
set_option maxHeartbeats 6400000 in
theorem known_any (w : World) : Calls Try.prog 12 #[] w (RetB (.bool true) w) := by
  go_enter Try.func12, Try.ntmps12
  go_wp2_with (first
    | (go_at_call 13; refine (RetB.grown (kLook _)).mono ?_; rintro e' w' ⟨rfl, g, rfl⟩)
    | (go_at_call 32; (with_reducible refine (RetB.grown (kSees1 _)).mono ?_); rintro e' w' ⟨rfl, g, rfl⟩)
    | (go_at_call 32; (with_reducible refine (RetB.grown (kSees2 _)).mono ?_); rintro e' w' ⟨rfl, g, rfl⟩)
    | (go_at_call 32; (with_reducible refine (RetB.grown (kSees3 _)).mono ?_); rintro e' w' ⟨rfl, g, rfl⟩)
    | (go_at_call 15; (with_reducible refine (RetB.grown (kPro1 _)).mono ?_); rintro e' w' ⟨rfl, g, rfl⟩)
    | (go_at_call 15; (with_reducible refine (RetB.grown (kPro2 _)).mono ?_); rintro e' w' ⟨rfl, g, rfl⟩)
    | (go_at_call 20; (with_reducible refine (RetB.grown (kTurn1 _)).mono ?_); rintro e' w' ⟨rfl, g, rfl⟩)
    | (go_at_call 20; (with_reducible refine (RetB.grown (kTurn2 _)).mono ?_); rintro e' w' ⟨rfl, g, rfl⟩)
    | (go_at_call 22; (with_reducible refine (RetB.grown (kMove1 _)).mono ?_); rintro e' w' ⟨rfl, g, rfl⟩)
    | (go_at_call 22; (with_reducible refine (RetB.grown (kMove2 _)).mono ?_); rintro e' w' ⟨rfl, g, rfl⟩)
    | (refine wp_region_xt (by kernel_rfl) (by kernel_rfl) ?_; (repeat (go_big_quiet_step (first | (go_at_call 13; exact RetB.quiet (kLook _)) | (go_at_call 32; (with_reducible exact RetB.quiet (kSees1 _))) | (go_at_call 32; (with_reducible exact RetB.quiet (kSees2 _))) | (go_at_call 32; (with_reducible exact RetB.quiet (kSees3 _))) | (go_at_call 15; (with_reducible exact RetB.quiet (kPro1 _))) | (go_at_call 15; (with_reducible exact RetB.quiet (kPro2 _))) | (go_at_call 20; (with_reducible exact RetB.quiet (kTurn1 _))) | (go_at_call 20; (with_reducible exact RetB.quiet (kTurn2 _))) | (go_at_call 22; (with_reducible exact RetB.quiet (kMove1 _))) | (go_at_call 22; (with_reducible exact RetB.quiet (kMove2 _)))))); refine wpQuiet_nil ?_; intro g))
  refine (kScene _ _ _ (by repeat (first | exact rowV_l4 (by simp) | refine Row.drew ?_))).mono ?_
  rintro e w' ⟨b, o, cp, rfl, hb, ho, h0, h1, h2, h3⟩
  obtain ⟨g9, rfl⟩ := xt_of_below hb
  clear hb
  go_wp2_with (first
    | (refine wp_region_xt (by kernel_rfl) (by kernel_rfl) ?_; (repeat (go_big_quiet_step (first | fail))); refine wpQuiet_nil ?_; intro g))
  go_ret
  exact RetB.of rfl (by repeat' (first | exact Below.refl _ _ | assumption | refine Below.xt ?_ ?_ _ | refine Below.alloc ?_ ?_ _ | refine Below.drew ?_ | refine Below.setCell ?_ ?_ _ | (simp; done) | (simp; omega)))

end Go.Proofs.Ytjeemlnhokihoaa

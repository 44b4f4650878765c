/- The walk of the theorem of stage 29 (part): what holds whichever way the walk goes. Conditions stand in each theorem. -/
import Derived.Test.YtjnajibflalmbaaEffLV
import Derived.Test.YtjnajibflalmbaaEffH
namespace Go.Proofs.Ytjnajibflalmbaa
open Go.RowKit
set_option linter.unusedVariables false
attribute [local go_sem ↓] ld16

theorem At_fine (e : Eff) (i : Int) (p : V3) (t : Int) (w : World) (ha : e.a.ok) (hb : e.b.ok) (oi : I64 i) (hv : effValid e = true) (hi : 0 ≤ i) (hp : point p = true) (h1 : e.fr ≤ t) (h2 : t < e.to) :
    Calls Try.prog 14 #[.agg #[.int .i64 e.kind, .int .i64 e.fr, .int .i64 e.to, .int .i64 e.period, .int .i64 e.width, .int .i64 e.along.x, .int .i64 e.along.y, .int .i64 e.along.z, .int .i64 e.scale, .int .i64 e.seed, .int .u8 e.a.r, .int .u8 e.a.g, .int .u8 e.a.b, .int .u8 e.b.r, .int .u8 e.b.g, .int .u8 e.b.b], .int .i64 i, .agg #[.int .i64 p.x, .int .i64 p.y, .int .i64 p.z], .int .i64 t] w (RetB (.tuple #[.agg #[.int .u8 ((colourAt e i p t)).r, .int .u8 ((colourAt e i p t)).g, .int .u8 ((colourAt e i p t)).b], .int .i64 0]) w) := by
  have c := At_any e i p t w ha hb oi
  have e1 : atErr e i p t = 0 := by simp [atErr, hv, hi, hp, h1, h2]
  have e2 : atCol e i p t = colourAt e i p t := by simp [atCol, e1]
  rw [e1, e2] at c
  exact c
theorem Phase_fine (e : Eff) (p : V3) (w : World) (hv : effValid e = true) (hp : point p = true) :
    Calls Try.prog 12 #[.agg #[.int .i64 e.kind, .int .i64 e.fr, .int .i64 e.to, .int .i64 e.period, .int .i64 e.width, .int .i64 e.along.x, .int .i64 e.along.y, .int .i64 e.along.z, .int .i64 e.scale, .int .i64 e.seed, .int .u8 e.a.r, .int .u8 e.a.g, .int .u8 e.a.b, .int .u8 e.b.r, .int .u8 e.b.g, .int .u8 e.b.b], .agg #[.int .i64 p.x, .int .i64 p.y, .int .i64 p.z]] w (RetB (.tuple #[.int .i64 (phase e p), .int .i64 0]) w) := by
  have c := Phase_any e p w
  have e1 : phErr e p = 0 := by simp [phErr, hv, hp]
  have e2 : phVal e p = phase e p := by simp [phVal, hv, hp]
  rw [e1, e2] at c
  exact c

set_option maxRecDepth 100000 in
set_option maxHeartbeats 3200000 in
theorem holds_not (e : Eff) (index : Int) (p : V3) (time periods : Int) (q : V3) (w : World) (h : effValid e = false ∨ point p = false ∨ index < 0 ∨ time < e.fr ∨ e.to ≤ time) :
    Calls Try.prog 7 #[.agg #[.int .i64 e.kind, .int .i64 e.fr, .int .i64 e.to, .int .i64 e.period, .int .i64 e.width, .int .i64 e.along.x, .int .i64 e.along.y, .int .i64 e.along.z, .int .i64 e.scale, .int .i64 e.seed, .int .u8 e.a.r, .int .u8 e.a.g, .int .u8 e.a.b, .int .u8 e.b.r, .int .u8 e.b.g, .int .u8 e.b.b], .int .i64 index, .agg #[.int .i64 p.x, .int .i64 p.y, .int .i64 p.z], .int .i64 time, .int .i64 periods, .agg #[.int .i64 q.x, .int .i64 q.y, .int .i64 q.z]] w (RetB (.bool true) w) := by
  by_cases hv : effValid e = true
  · by_cases hp : point p = true
    · have h' : index < 0 ∨ time < e.fr ∨ e.to ≤ time := by rcases h with h | h | h <;> simp_all
      clear h
      go_enter Try.func7, Try.ntmps7
      go_wp2_with (first
        | (go_at_call 10; refine (RetB.grown (refValid_any e _)).mono ?_; rintro e' w' ⟨rfl, g, rfl⟩)
        | (go_at_call 18; refine (RetB.grown (refPoint_any p _)).mono ?_; rintro e' w' ⟨rfl, g, rfl⟩)
        | (go_at_call 11; refine (RetB.grown (known_any _)).mono ?_; rintro e' w' ⟨rfl, g, rfl⟩)
        | (refine wp_region_xt (by kernel_rfl) (by kernel_rfl) ?_; (repeat (go_big_quiet_step (first | (go_at_call 10; exact RetB.quiet (refValid_any e _)) | (go_at_call 18; exact RetB.quiet (refPoint_any p _)) | (go_at_call 11; exact RetB.quiet (known_any _))))); refine wpQuiet_nil ?_; intro g))
      all_goals first | (exfalso; omega) | skip
      all_goals go_ret
      all_goals exact RetB.of rfl (by repeat' (first | exact Below.refl _ _ | assumption | refine Below.xt ?_ ?_ _ | refine Below.alloc ?_ ?_ _ | refine Below.drew ?_ | refine Below.setCell ?_ ?_ _ | (simp; done) | (simp; omega)))
    · have hp' : point p = false := by simpa using hp
      clear h hp
      go_enter Try.func7, Try.ntmps7
      go_wp2_with (first
        | (go_at_call 10; refine (RetB.grown (refValid_any e _)).mono ?_; rintro e' w' ⟨rfl, g, rfl⟩)
        | (go_at_call 18; refine (RetB.grown (refPoint_any p _)).mono ?_; rintro e' w' ⟨rfl, g, rfl⟩)
        | (go_at_call 11; refine (RetB.grown (known_any _)).mono ?_; rintro e' w' ⟨rfl, g, rfl⟩)
        | (refine wp_region_xt (by kernel_rfl) (by kernel_rfl) ?_; (repeat (go_big_quiet_step (first | (go_at_call 10; exact RetB.quiet (refValid_any e _)) | (go_at_call 18; exact RetB.quiet (refPoint_any p _)) | (go_at_call 11; exact RetB.quiet (known_any _))))); refine wpQuiet_nil ?_; intro g))
      go_ret
      exact RetB.of rfl (by repeat' (first | exact Below.refl _ _ | assumption | refine Below.xt ?_ ?_ _ | refine Below.alloc ?_ ?_ _ | refine Below.drew ?_ | refine Below.setCell ?_ ?_ _ | (simp; done) | (simp; omega)))
  · have hv' : effValid e = false := by simpa using hv
    clear h hv
    go_enter Try.func7, Try.ntmps7
    go_wp2_with (first
      | (go_at_call 10; refine (RetB.grown (refValid_any e _)).mono ?_; rintro e' w' ⟨rfl, g, rfl⟩)
      | (go_at_call 18; refine (RetB.grown (refPoint_any p _)).mono ?_; rintro e' w' ⟨rfl, g, rfl⟩)
      | (go_at_call 11; refine (RetB.grown (known_any _)).mono ?_; rintro e' w' ⟨rfl, g, rfl⟩)
      | (refine wp_region_xt (by kernel_rfl) (by kernel_rfl) ?_; (repeat (go_big_quiet_step (first | (go_at_call 10; exact RetB.quiet (refValid_any e _)) | (go_at_call 18; exact RetB.quiet (refPoint_any p _)) | (go_at_call 11; exact RetB.quiet (known_any _))))); refine wpQuiet_nil ?_; intro g))
    go_ret
    exact RetB.of rfl (by repeat' (first | exact Below.refl _ _ | assumption | refine Below.xt ?_ ?_ _ | refine Below.alloc ?_ ?_ _ | refine Below.drew ?_ | refine Below.setCell ?_ ?_ _ | (simp; done) | (simp; omega)))

end Go.Proofs.Ytjnajibflalmbaa


/- The early ways out of LightHolds, and the whole. Conditions stand in each theorem. -/
import Derived.Test.YtiikejhkhdmgeaaLigH2
namespace Go.Proofs.Ytiikejhkhdmgeaa
open Go.RowKit
set_option linter.unusedVariables false
set_option linter.unusedSimpArgs false
attribute [local go_sem ↓] ldr16 ldr18

set_option maxRecDepth 100000 in
set_option maxHeartbeats 3200000 in
theorem LH_nots (A1 A2 A3 : Option Addr) (c1 c2 c3 : Nat) (a : Int) (L : Li) (p : V3) (t : Int) (o : Ov) (w : World) (h : LightsOk w A1 A2 A3 L.nG L.cs.length L.os.length c1 c2 c3 L) (hs : ¬ (L.nG ≤ 70 ∧ L.cs.length ≤ 40 ∧ L.os.length ≤ 70 ∧ ∀ i, i < L.nG → (L.G i).length ≤ 20)) : Calls Try.prog 7 #[.agg #[.slice A1 L.nG c1, .slice A2 L.cs.length c2, .slice A3 L.os.length c3], .int .i64 a, .agg #[.int .i64 p.x, .int .i64 p.y, .int .i64 p.z], .int .i64 t, .agg #[.string o.g, .int .i64 o.p, .int .i64 o.e.kind, .int .i64 o.e.fr, .int .i64 o.e.to, .int .i64 o.e.period, .int .i64 o.e.width, .int .i64 o.e.along.x, .int .i64 o.e.along.y, .int .i64 o.e.along.z, .int .i64 o.e.scale, .int .i64 o.e.seed, .int .u8 o.e.a.r, .int .u8 o.e.a.g, .int .u8 o.e.a.b, .int .u8 o.e.b.r, .int .u8 o.e.b.g, .int .u8 o.e.b.b]] w (RetB (.bool true) w) := by
  have HR := Lib.hid h.r
  have SM := fun w hr => Lib.hid (h.small w hr)
  have HS := Lib.hid hs
  clear h hs
  go_enter Try.func7, Try.ntmps7
  go_wp2_with fail
  refine (SM _ (by repeat (first | (with_reducible exact HR.out) | (with_reducible refine RowL.alloc ?_ _) | (with_reducible refine RowL.drew ?_) | (with_reducible refine RowL.xt ?_ _)))).out.mono ?_
  rintro e' w' ⟨v, rfl, hb, hv⟩
  obtain ⟨g, rfl⟩ := xt_of_below hb
  clear hb SM
  cases v
  · clear hv
    go_wp2_with (first
      | (go_at_call 9; refine (RetB.grown (known_any _)).mono ?_; rintro e' w' ⟨rfl, g, rfl⟩)
      | (refine wp_region_xt (by kernel_rfl) (by kernel_rfl) ?_; (repeat (go_big_quiet_step (first | (go_at_call 9; exact RetB.quiet (known_any _))))); refine wpQuiet_nil ?_; intro g))
    go_ret
    exact RetB.of rfl (by repeat' (first | exact Below.refl _ _ | assumption | refine Below.xt ?_ ?_ _ | refine Below.alloc ?_ ?_ _ | refine Below.drew ?_ | refine Below.setCell ?_ ?_ _ | (simp; done) | (simp; omega)))
  · exact absurd (hv rfl) HS.out

set_option maxRecDepth 100000 in
set_option maxHeartbeats 3200000 in
theorem LH_big (A1 A2 A3 : Option Addr) (c1 c2 c3 : Nat) (a : Int) (L : Li) (p : V3) (t : Int) (o : Ov) (w : World) (h : LightsOk w A1 A2 A3 L.nG L.cs.length L.os.length c1 c2 c3 L) (ho : o.g.size ≤ maxLen) (hg : 100 < o.g.size) : Calls Try.prog 7 #[.agg #[.slice A1 L.nG c1, .slice A2 L.cs.length c2, .slice A3 L.os.length c3], .int .i64 a, .agg #[.int .i64 p.x, .int .i64 p.y, .int .i64 p.z], .int .i64 t, .agg #[.string o.g, .int .i64 o.p, .int .i64 o.e.kind, .int .i64 o.e.fr, .int .i64 o.e.to, .int .i64 o.e.period, .int .i64 o.e.width, .int .i64 o.e.along.x, .int .i64 o.e.along.y, .int .i64 o.e.along.z, .int .i64 o.e.scale, .int .i64 o.e.seed, .int .u8 o.e.a.r, .int .u8 o.e.a.g, .int .u8 o.e.a.b, .int .u8 o.e.b.r, .int .u8 o.e.b.g, .int .u8 o.e.b.b]] w (RetB (.bool true) w) := by
  have HR := Lib.hid h.r
  have SM := fun w hr => Lib.hid (h.small w hr)
  unfold maxLen at ho
  have d1 : decide ((100 : Int) < (o.g.size : Int)) = true := decide_eq_true (by omega)
  clear h
  go_enter Try.func7, Try.ntmps7
  go_wp2_with fail
  refine (SM _ (by repeat (first | (with_reducible exact HR.out) | (with_reducible refine RowL.alloc ?_ _) | (with_reducible refine RowL.drew ?_) | (with_reducible refine RowL.xt ?_ _)))).out.mono ?_
  rintro e' w' ⟨v, rfl, hb, hv⟩
  obtain ⟨g, rfl⟩ := xt_of_below hb
  clear hb SM hv
  cases v
  · skip
    go_wp2_with (first
      | (go_at_call 9; refine (RetB.grown (known_any _)).mono ?_; rintro e' w' ⟨rfl, g, rfl⟩)
      | (refine wp_region_xt (by kernel_rfl) (by kernel_rfl) ?_; (repeat (go_big_quiet_step (first | (go_at_call 9; exact RetB.quiet (known_any _))))); refine wpQuiet_nil ?_; intro g))
    go_ret
    exact RetB.of rfl (by repeat' (first | exact Below.refl _ _ | assumption | refine Below.xt ?_ ?_ _ | refine Below.alloc ?_ ?_ _ | refine Below.drew ?_ | refine Below.setCell ?_ ?_ _ | (simp; done) | (simp; omega)))
  · skip
    go_wp2_with (first
      | (go_at_call 9; refine (RetB.grown (known_any _)).mono ?_; rintro e' w' ⟨rfl, g, rfl⟩)
      | (refine wp_region_xt (by kernel_rfl) (by kernel_rfl) ?_; (repeat (go_big_quiet_step (first | (go_at_call 9; exact RetB.quiet (known_any _))))); refine wpQuiet_nil ?_; intro g))
    go_ret
    exact RetB.of rfl (by repeat' (first | exact Below.refl _ _ | assumption | refine Below.xt ?_ ?_ _ | refine Below.alloc ?_ ?_ _ | refine Below.drew ?_ | refine Below.setCell ?_ ?_ _ | (simp; done) | (simp; omega)))

set_option maxRecDepth 100000 in
set_option maxHeartbeats 3200000 in
theorem LH_fine (A1 A2 A3 : Option Addr) (c1 c2 c3 : Nat) (a : Int) (L : Li) (p : V3) (t : Int) (o : Ov) (w : World) (h : LightsOk w A1 A2 A3 L.nG L.cs.length L.os.length c1 c2 c3 L) (hF : FineL L) (hg : o.g.size ≤ 100) (h0 : ¬ fineE L a t = 0) : Calls Try.prog 7 #[.agg #[.slice A1 L.nG c1, .slice A2 L.cs.length c2, .slice A3 L.os.length c3], .int .i64 a, .agg #[.int .i64 p.x, .int .i64 p.y, .int .i64 p.z], .int .i64 t, .agg #[.string o.g, .int .i64 o.p, .int .i64 o.e.kind, .int .i64 o.e.fr, .int .i64 o.e.to, .int .i64 o.e.period, .int .i64 o.e.width, .int .i64 o.e.along.x, .int .i64 o.e.along.y, .int .i64 o.e.along.z, .int .i64 o.e.scale, .int .i64 o.e.seed, .int .u8 o.e.a.r, .int .u8 o.e.a.g, .int .u8 o.e.a.b, .int .u8 o.e.b.r, .int .u8 o.e.b.g, .int .u8 o.e.b.b]] w (RetB (.bool true) w) := by
  have HR := Lib.hid h.r
  have SM := fun w hr => Lib.hid (h.small w hr)
  have KF := fun w h => Lib.hid (rFine_any A1 A2 A3 c1 c2 c3 L a t w hF h)
  have d1 : decide ((100 : Int) < (o.g.size : Int)) = false := decide_eq_false (by omega)
  generalize fineE L a t = E at *
  have e1 : (E == 0) = false := beq_eq_false_iff_ne.2 h0
  have e2 : (E != 0) = true := by rw [bne, e1]; rfl
  clear h hF
  go_enter Try.func7, Try.ntmps7
  go_wp2_with fail
  refine (SM _ (by repeat (first | (with_reducible exact HR.out) | (with_reducible refine RowL.alloc ?_ _) | (with_reducible refine RowL.drew ?_) | (with_reducible refine RowL.xt ?_ _)))).out.mono ?_
  rintro e' w' ⟨v, rfl, hb, hv⟩
  obtain ⟨g, rfl⟩ := xt_of_below hb
  clear hb SM hv
  cases v
  · skip
    go_wp2_with (first
      | (go_at_call 9; refine (RetB.grown (known_any _)).mono ?_; rintro e' w' ⟨rfl, g, rfl⟩)
      | (refine wp_region_xt (by kernel_rfl) (by kernel_rfl) ?_; (repeat (go_big_quiet_step (first | (go_at_call 9; exact RetB.quiet (known_any _))))); refine wpQuiet_nil ?_; intro g))
    go_ret
    exact RetB.of rfl (by repeat' (first | exact Below.refl _ _ | assumption | refine Below.xt ?_ ?_ _ | refine Below.alloc ?_ ?_ _ | refine Below.drew ?_ | refine Below.setCell ?_ ?_ _ | (simp; done) | (simp; omega)))
  · go_wp2_with fail
    refine (RetB.grown (KF _ (by repeat (first | (with_reducible exact HR.out) | (with_reducible refine RowL.alloc ?_ _) | (with_reducible refine RowL.drew ?_) | (with_reducible refine RowL.xt ?_ _)))).out).mono ?_
    rintro e' w' ⟨rfl, g1, rfl⟩
    clear KF
    go_wp2_with (first
      | (go_at_call 9; refine (RetB.grown (known_any _)).mono ?_; rintro e' w' ⟨rfl, g, rfl⟩)
      | (refine wp_region_xt (by kernel_rfl) (by kernel_rfl) ?_; (repeat (go_big_quiet_step (first | (go_at_call 9; exact RetB.quiet (known_any _))))); refine wpQuiet_nil ?_; intro g))
    go_ret
    exact RetB.of rfl (by repeat' (first | exact Below.refl _ _ | assumption | refine Below.xt ?_ ?_ _ | refine Below.alloc ?_ ?_ _ | refine Below.drew ?_ | refine Below.setCell ?_ ?_ _ | (simp; done) | (simp; omega)))

set_option maxRecDepth 100000 in
set_option maxHeartbeats 3200000 in
theorem LH_point (A1 A2 A3 : Option Addr) (c1 c2 c3 : Nat) (a : Int) (L : Li) (p : V3) (t : Int) (o : Ov) (w : World) (h : LightsOk w A1 A2 A3 L.nG L.cs.length L.os.length c1 c2 c3 L) (hF : FineL L) (hg : o.g.size ≤ 100) (h0 : fineE L a t = 0) (hp : point p = false) : Calls Try.prog 7 #[.agg #[.slice A1 L.nG c1, .slice A2 L.cs.length c2, .slice A3 L.os.length c3], .int .i64 a, .agg #[.int .i64 p.x, .int .i64 p.y, .int .i64 p.z], .int .i64 t, .agg #[.string o.g, .int .i64 o.p, .int .i64 o.e.kind, .int .i64 o.e.fr, .int .i64 o.e.to, .int .i64 o.e.period, .int .i64 o.e.width, .int .i64 o.e.along.x, .int .i64 o.e.along.y, .int .i64 o.e.along.z, .int .i64 o.e.scale, .int .i64 o.e.seed, .int .u8 o.e.a.r, .int .u8 o.e.a.g, .int .u8 o.e.a.b, .int .u8 o.e.b.r, .int .u8 o.e.b.g, .int .u8 o.e.b.b]] w (RetB (.bool true) w) := by
  have HR := Lib.hid h.r
  have SM := fun w hr => Lib.hid (h.small w hr)
  have KF := fun w h => Lib.hid (rFine_any A1 A2 A3 c1 c2 c3 L a t w hF h)
  have KP := fun w => Lib.hid (refPoint_any p w)
  rw [h0] at KF
  rw [hp] at KP
  have d1 : decide ((100 : Int) < (o.g.size : Int)) = false := decide_eq_false (by omega)
  clear h hF h0 hp
  go_enter Try.func7, Try.ntmps7
  go_wp2_with fail
  refine (SM _ (by repeat (first | (with_reducible exact HR.out) | (with_reducible refine RowL.alloc ?_ _) | (with_reducible refine RowL.drew ?_) | (with_reducible refine RowL.xt ?_ _)))).out.mono ?_
  rintro e' w' ⟨v, rfl, hb, hv⟩
  obtain ⟨g, rfl⟩ := xt_of_below hb
  clear hb SM hv
  cases v
  · skip
    go_wp2_with (first
      | (go_at_call 9; refine (RetB.grown (known_any _)).mono ?_; rintro e' w' ⟨rfl, g, rfl⟩)
      | (refine wp_region_xt (by kernel_rfl) (by kernel_rfl) ?_; (repeat (go_big_quiet_step (first | (go_at_call 9; exact RetB.quiet (known_any _))))); refine wpQuiet_nil ?_; intro g))
    go_ret
    exact RetB.of rfl (by repeat' (first | exact Below.refl _ _ | assumption | refine Below.xt ?_ ?_ _ | refine Below.alloc ?_ ?_ _ | refine Below.drew ?_ | refine Below.setCell ?_ ?_ _ | (simp; done) | (simp; omega)))
  · go_wp2_with fail
    refine (RetB.grown (KF _ (by repeat (first | (with_reducible exact HR.out) | (with_reducible refine RowL.alloc ?_ _) | (with_reducible refine RowL.drew ?_) | (with_reducible refine RowL.xt ?_ _)))).out).mono ?_
    rintro e' w' ⟨rfl, g1, rfl⟩
    clear KF
    go_wp2_with fail
    refine (RetB.grown (KP _).out).mono ?_
    rintro e' w' ⟨rfl, g2, rfl⟩
    clear KP
    go_wp2_with (first
      | (go_at_call 9; refine (RetB.grown (known_any _)).mono ?_; rintro e' w' ⟨rfl, g, rfl⟩)
      | (refine wp_region_xt (by kernel_rfl) (by kernel_rfl) ?_; (repeat (go_big_quiet_step (first | (go_at_call 9; exact RetB.quiet (known_any _))))); refine wpQuiet_nil ?_; intro g))
    go_ret
    exact RetB.of rfl (by repeat' (first | exact Below.refl _ _ | assumption | refine Below.xt ?_ ?_ _ | refine Below.alloc ?_ ?_ _ | refine Below.drew ?_ | refine Below.setCell ?_ ?_ _ | (simp; done) | (simp; omega)))

theorem LightHolds_walk (A1 : Option Addr) (n1 c1 : Nat) (A2 : Option Addr) (n2 c2 : Nat) (A3 : Option Addr) (n3 c3 : Nat) (a : Int) (p : V3) (t : Int) (o : Ov) (w : World) (ok : ∃ L, LightsOk w A1 A2 A3 n1 n2 n3 c1 c2 c3 L) (oo : OvOk o) :
    Calls Try.prog 7 #[.agg #[.slice A1 n1 c1, .slice A2 n2 c2, .slice A3 n3 c3], .int .i64 a, .agg #[.int .i64 p.x, .int .i64 p.y, .int .i64 p.z], .int .i64 t, .agg #[.string o.g, .int .i64 o.p, .int .i64 o.e.kind, .int .i64 o.e.fr, .int .i64 o.e.to, .int .i64 o.e.period, .int .i64 o.e.width, .int .i64 o.e.along.x, .int .i64 o.e.along.y, .int .i64 o.e.along.z, .int .i64 o.e.scale, .int .i64 o.e.seed, .int .u8 o.e.a.r, .int .u8 o.e.a.g, .int .u8 o.e.a.b, .int .u8 o.e.b.r, .int .u8 o.e.b.g, .int .u8 o.e.b.b]] w (RetB (.bool true) w) := by
  obtain ⟨L, h⟩ := ok
  obtain rfl := h.e1
  obtain rfl := h.e2
  obtain rfl := h.e3
  by_cases hs : L.nG ≤ 70 ∧ L.cs.length ≤ 40 ∧ L.os.length ≤ 70 ∧ ∀ i, i < L.nG → (L.G i).length ≤ 20
  · have hF := h.fine hs
    rcases Nat.lt_or_ge 100 o.g.size with hg | hg
    · exact LH_big A1 A2 A3 c1 c2 c3 a L p t o w h oo.1 hg
    · by_cases h0 : fineE L a t = 0
      · cases hp : point p
        · exact LH_point A1 A2 A3 c1 c2 c3 a L p t o w h hF hg h0 hp
        · obtain ⟨n, rfl⟩ := Int.eq_ofNat_of_zero_le (fine_zero.1 h0).2.1.1
          exact LH_main A1 A2 A3 c1 c2 c3 n L p t o w h hF oo hg h0 hp
      · exact LH_fine A1 A2 A3 c1 c2 c3 a L p t o w h hF hg h0
  · exact LH_nots A1 A2 A3 c1 c2 c3 a L p t o w h hs

end Go.Proofs.Ytiikejhkhdmgeaa

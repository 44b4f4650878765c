
/- Walks of the statements on lights: the four that hold the program against the reference. Conditions stand in each theorem. -/
import Derived.Test.YtiikejhkhdmgeaaLigK3
import Derived.Test.YtiikejhkhdmgeaaLigR4
import Derived.Test.YtiikejhkhdmgeaaLigR6
import Derived.Test.YtiikejhkhdmgeaaLigO
namespace Go.Proofs.Ytiikejhkhdmgeaa
open Go.RowKit
set_option linter.unusedVariables false
set_option linter.unusedSimpArgs false
attribute [local go_sem ↓] ldr16 ldr18

theorem LightsOk.fine {W : World} {A1 A2 A3 : Option Addr} {n1 n2 n3 c1 c2 c3 : Nat} {L : Li} (h : LightsOk W A1 A2 A3 n1 n2 n3 c1 c2 c3 L) (hs : L.nG ≤ 70 ∧ L.cs.length ≤ 40 ∧ L.os.length ≤ 70 ∧ ∀ i, i < L.nG → (L.G i).length ≤ 20) : FineL L where
  n := by omega
  gs := fun i hi => ⟨by have := hs.2.2.2 i hi; omega, (h.g i (by have := h.e1; omega)).2⟩
  cn := by omega
  cs := h.u
  on := by omega
  os := h.o
theorem LightsOk.small {W : World} {A1 A2 A3 : Option Addr} {n1 n2 n3 c1 c2 c3 : Nat} {L : Li} (h : LightsOk W A1 A2 A3 n1 n2 n3 c1 c2 c3 L) (w : World) (hr : RowL w A1 A2 A3 L) : Calls Try.prog 8 #[.agg #[.slice A1 L.nG c1, .slice A2 L.cs.length c2, .slice A3 L.os.length c3]] w (SmallRet L w) :=
  small_any A1 A2 A3 c1 c2 c3 L w (by have := h.e1; have := h.l1; omega) (by have := h.e2; have := h.l2; omega) (by have := h.e3; have := h.l3; omega) (fun i hi => h.g i (by have := h.e1; omega)) h.u h.o hr

set_option maxRecDepth 100000 in
set_option maxHeartbeats 3200000 in
theorem LightValids_walk (A1 : Option Addr) (n1 c1 : Nat) (A2 : Option Addr) (n2 c2 : Nat) (A3 : Option Addr) (n3 c3 : Nat) (w : World) (ok : ∃ L, LightsOk w A1 A2 A3 n1 n2 n3 c1 c2 c3 L) :
    Calls Try.prog 3 #[.agg #[.slice A1 n1 c1, .slice A2 n2 c2, .slice A3 n3 c3]] w (RetB (.bool true) w) := by
  obtain ⟨L, h⟩ := ok
  have HR := Lib.hid h.r
  have SM := fun w hr => Lib.hid (h.small w hr)
  have HF := Lib.hid (fun hs => h.fine hs)
  obtain rfl := h.e1
  obtain rfl := h.e2
  obtain rfl := h.e3
  clear h
  go_enter Try.func3, Try.ntmps3
  go_wp2_with fail
  refine (SM _ (by repeat (first | (with_reducible exact HR.out) | (with_reducible refine RowL.alloc ?_ _) | (with_reducible refine RowL.drew ?_) | (with_reducible refine RowL.xt ?_ _)))).out.mono ?_
  rintro e' w' ⟨v, rfl, hb, hv⟩
  obtain ⟨g, rfl⟩ := xt_of_below hb
  clear hb SM
  cases v
  · clear hv
    go_wp2_with (first
      | (go_at_call 9; refine (RetB.grown (known_any _)).mono ?_; rintro e' w' ⟨rfl, g, rfl⟩)
      | (refine wp_region_xt (by kernel_rfl) (by kernel_rfl) ?_; (repeat (go_big_quiet_step (first | (go_at_call 9; exact RetB.quiet (known_any _))))); refine wpQuiet_nil ?_; intro g))
    go_ret
    exact RetB.of rfl (by repeat' (first | exact Below.refl _ _ | assumption | refine Below.xt ?_ ?_ _ | refine Below.alloc ?_ ?_ _ | refine Below.drew ?_ | refine Below.setCell ?_ ?_ _ | (simp; done) | (simp; omega)))
  · have hF := HF.out (hv rfl)
    have K1 := fun w h => Lib.hid (lValid_any A1 A2 A3 c1 c2 c3 L w hF h)
    have K2 := fun w h => Lib.hid (rlValid_any A1 A2 A3 c1 c2 c3 L w hF h)
    obtain ⟨b, hb⟩ : ∃ b, liB L = b := ⟨_, rfl⟩
    rw [hb] at K1 K2
    clear hv hF HF hb
    cases b
    all_goals
      go_wp2_with (first
        | (go_at_call 10; (with_reducible refine (RetB.grown ((K1 _ (by repeat (first | (with_reducible exact HR.out) | (with_reducible refine RowL.alloc ?_ _) | (with_reducible refine RowL.drew ?_) | (with_reducible refine RowL.xt ?_ _)))).out)).mono ?_); rintro e' w' ⟨rfl, g, rfl⟩)
        | (go_at_call 11; (with_reducible refine (RetB.grown ((K2 _ (by repeat (first | (with_reducible exact HR.out) | (with_reducible refine RowL.alloc ?_ _) | (with_reducible refine RowL.drew ?_) | (with_reducible refine RowL.xt ?_ _)))).out)).mono ?_); rintro e' w' ⟨rfl, g, rfl⟩)
        | (go_at_call 9; (with_reducible refine (RetB.grown (known_any _)).mono ?_); rintro e' w' ⟨rfl, g, rfl⟩)
        | (refine wp_region_xt (by kernel_rfl) (by kernel_rfl) ?_; (repeat (go_big_quiet_step (first | (go_at_call 10; (with_reducible exact RetB.quiet ((K1 _ (by repeat (first | (with_reducible exact HR.out) | (with_reducible refine RowL.alloc ?_ _) | (with_reducible refine RowL.drew ?_) | (with_reducible refine RowL.xt ?_ _)))).out))) | (go_at_call 11; (with_reducible exact RetB.quiet ((K2 _ (by repeat (first | (with_reducible exact HR.out) | (with_reducible refine RowL.alloc ?_ _) | (with_reducible refine RowL.drew ?_) | (with_reducible refine RowL.xt ?_ _)))).out))) | (go_at_call 9; (with_reducible exact RetB.quiet (known_any _)))))); refine wpQuiet_nil ?_; intro g))
      go_ret
      exact RetB.of rfl (by repeat' (first | exact Below.refl _ _ | assumption | refine Below.xt ?_ ?_ _ | refine Below.alloc ?_ ?_ _ | refine Below.drew ?_ | refine Below.setCell ?_ ?_ _ | (simp; done) | (simp; omega)))

set_option maxRecDepth 100000 in
set_option maxHeartbeats 3200000 in
theorem LightAts_walk (A1 : Option Addr) (n1 c1 : Nat) (A2 : Option Addr) (n2 c2 : Nat) (A3 : Option Addr) (n3 c3 : Nat) (a : Int) (p : V3) (t : Int) (w : World) (ok : ∃ L, LightsOk w A1 A2 A3 n1 n2 n3 c1 c2 c3 L) :
    Calls Try.prog 4 #[.agg #[.slice A1 n1 c1, .slice A2 n2 c2, .slice A3 n3 c3], .int .i64 a, .agg #[.int .i64 p.x, .int .i64 p.y, .int .i64 p.z], .int .i64 t] w (RetB (.bool true) w) := by
  obtain ⟨L, h⟩ := ok
  have HR := Lib.hid h.r
  have SM := fun w hr => Lib.hid (h.small w hr)
  have HF := Lib.hid (fun hs => h.fine hs)
  obtain rfl := h.e1
  obtain rfl := h.e2
  obtain rfl := h.e3
  clear h
  go_enter Try.func4, Try.ntmps4
  go_wp2_with fail
  refine (SM _ (by repeat (first | (with_reducible exact HR.out) | (with_reducible refine RowL.alloc ?_ _) | (with_reducible refine RowL.drew ?_) | (with_reducible refine RowL.xt ?_ _)))).out.mono ?_
  rintro e' w' ⟨v, rfl, hb, hv⟩
  obtain ⟨g, rfl⟩ := xt_of_below hb
  clear hb SM
  cases v
  · clear hv
    go_wp2_with (first
      | (go_at_call 9; refine (RetB.grown (known_any _)).mono ?_; rintro e' w' ⟨rfl, g, rfl⟩)
      | (refine wp_region_xt (by kernel_rfl) (by kernel_rfl) ?_; (repeat (go_big_quiet_step (first | (go_at_call 9; exact RetB.quiet (known_any _))))); refine wpQuiet_nil ?_; intro g))
    go_ret
    exact RetB.of rfl (by repeat' (first | exact Below.refl _ _ | assumption | refine Below.xt ?_ ?_ _ | refine Below.alloc ?_ ?_ _ | refine Below.drew ?_ | refine Below.setCell ?_ ?_ _ | (simp; done) | (simp; omega)))
  · have hF := HF.out (hv rfl)
    have K1 := fun w h => Lib.hid (lAt_any A1 A2 A3 c1 c2 c3 L a p t w hF h)
    have K2 := fun w h => Lib.hid (rlAt_any A1 A2 A3 c1 c2 c3 L a p t w hF h)
    generalize atC L a p t = C at *
    generalize atE L a p t = E at *
    clear hv hF HF
    go_wp2_with fail
    refine (RetB.grown (K1 _ (by repeat (first | (with_reducible exact HR.out) | (with_reducible refine RowL.alloc ?_ _) | (with_reducible refine RowL.drew ?_) | (with_reducible refine RowL.xt ?_ _)))).out).mono ?_
    rintro e' w' ⟨rfl, g1, rfl⟩
    go_wp2_with fail
    refine (RetB.grown (K2 _ (by repeat (first | (with_reducible exact HR.out) | (with_reducible refine RowL.alloc ?_ _) | (with_reducible refine RowL.drew ?_) | (with_reducible refine RowL.xt ?_ _)))).out).mono ?_
    rintro e' w' ⟨rfl, g2, rfl⟩
    go_wp2_with (first
      | (go_at_call 9; refine (RetB.grown (known_any _)).mono ?_; rintro e' w' ⟨rfl, g, rfl⟩)
      | (refine wp_region_xt (by kernel_rfl) (by kernel_rfl) ?_; (repeat (go_big_quiet_step (first | (go_at_call 9; exact RetB.quiet (known_any _))))); refine wpQuiet_nil ?_; intro g))
    go_ret
    exact RetB.of rfl (by repeat' (first | exact Below.refl _ _ | assumption | refine Below.xt ?_ ?_ _ | refine Below.alloc ?_ ?_ _ | refine Below.drew ?_ | refine Below.setCell ?_ ?_ _ | (simp; done) | (simp; omega)))

set_option maxRecDepth 100000 in
set_option maxHeartbeats 3200000 in
theorem LightWhich_walk (A1 : Option Addr) (n1 c1 : Nat) (A2 : Option Addr) (n2 c2 : Nat) (A3 : Option Addr) (n3 c3 : Nat) (a t : Int) (w : World) (ok : ∃ L, LightsOk w A1 A2 A3 n1 n2 n3 c1 c2 c3 L) :
    Calls Try.prog 5 #[.agg #[.slice A1 n1 c1, .slice A2 n2 c2, .slice A3 n3 c3], .int .i64 a, .int .i64 t] w (RetB (.bool true) w) := by
  obtain ⟨L, h⟩ := ok
  have HR := Lib.hid h.r
  have SM := fun w hr => Lib.hid (h.small w hr)
  have HF := Lib.hid (fun hs => h.fine hs)
  obtain rfl := h.e1
  obtain rfl := h.e2
  obtain rfl := h.e3
  clear h
  go_enter Try.func5, Try.ntmps5
  go_wp2_with fail
  refine (SM _ (by repeat (first | (with_reducible exact HR.out) | (with_reducible refine RowL.alloc ?_ _) | (with_reducible refine RowL.drew ?_) | (with_reducible refine RowL.xt ?_ _)))).out.mono ?_
  rintro e' w' ⟨v, rfl, hb, hv⟩
  obtain ⟨g, rfl⟩ := xt_of_below hb
  clear hb SM
  cases v
  · clear hv
    go_wp2_with (first
      | (go_at_call 9; refine (RetB.grown (known_any _)).mono ?_; rintro e' w' ⟨rfl, g, rfl⟩)
      | (refine wp_region_xt (by kernel_rfl) (by kernel_rfl) ?_; (repeat (go_big_quiet_step (first | (go_at_call 9; exact RetB.quiet (known_any _))))); refine wpQuiet_nil ?_; intro g))
    go_ret
    exact RetB.of rfl (by repeat' (first | exact Below.refl _ _ | assumption | refine Below.xt ?_ ?_ _ | refine Below.alloc ?_ ?_ _ | refine Below.drew ?_ | refine Below.setCell ?_ ?_ _ | (simp; done) | (simp; omega)))
  · have hF := HF.out (hv rfl)
    have K1 := fun w h => Lib.hid (lWhich_any A1 A2 A3 c1 c2 c3 L a t w hF h)
    have K2 := fun w h => Lib.hid (rWhich_any A1 A2 A3 c1 c2 c3 L a t w hF h)
    generalize whE L a t = C at *
    generalize fineE L a t = E at *
    clear hv hF HF
    go_wp2_with fail
    refine (RetB.grown (K1 _ (by repeat (first | (with_reducible exact HR.out) | (with_reducible refine RowL.alloc ?_ _) | (with_reducible refine RowL.drew ?_) | (with_reducible refine RowL.xt ?_ _)))).out).mono ?_
    rintro e' w' ⟨rfl, g1, rfl⟩
    go_wp2_with fail
    refine (RetB.grown (K2 _ (by repeat (first | (with_reducible exact HR.out) | (with_reducible refine RowL.alloc ?_ _) | (with_reducible refine RowL.drew ?_) | (with_reducible refine RowL.xt ?_ _)))).out).mono ?_
    rintro e' w' ⟨rfl, g2, rfl⟩
    go_wp2_with (first
      | (go_at_call 9; refine (RetB.grown (known_any _)).mono ?_; rintro e' w' ⟨rfl, g, rfl⟩)
      | (refine wp_region_xt (by kernel_rfl) (by kernel_rfl) ?_; (repeat (go_big_quiet_step (first | (go_at_call 9; exact RetB.quiet (known_any _))))); refine wpQuiet_nil ?_; intro g))
    go_ret
    exact RetB.of rfl (by repeat' (first | exact Below.refl _ _ | assumption | refine Below.xt ?_ ?_ _ | refine Below.alloc ?_ ?_ _ | refine Below.drew ?_ | refine Below.setCell ?_ ?_ _ | (simp; done) | (simp; omega)))

theorem chg_len (g : List ByteArray) (cs : List Cu) (os : List Ov) : (chg g cs os).length ≤ 2 * cs.length + 1 + 2 * os.length := refO_len g cs os os.length
set_option maxRecDepth 100000 in
set_option maxHeartbeats 3200000 in
theorem LightChanges_walk (A1 : Option Addr) (n1 c1 : Nat) (A2 : Option Addr) (n2 c2 : Nat) (A3 : Option Addr) (n3 c3 : Nat) (a : Int) (w : World) (ok : ∃ L, LightsOk w A1 A2 A3 n1 n2 n3 c1 c2 c3 L) :
    Calls Try.prog 6 #[.agg #[.slice A1 n1 c1, .slice A2 n2 c2, .slice A3 n3 c3], .int .i64 a] w (RetB (.bool true) w) := by
  obtain ⟨L, h⟩ := ok
  have HR := Lib.hid h.r
  have SM := fun w hr => Lib.hid (h.small w hr)
  have HF := Lib.hid (fun hs => h.fine hs)
  obtain rfl := h.e1
  obtain rfl := h.e2
  obtain rfl := h.e3
  clear h
  go_enter Try.func6, Try.ntmps6
  go_wp2_with fail
  refine (SM _ (by repeat (first | (with_reducible exact HR.out) | (with_reducible refine RowL.alloc ?_ _) | (with_reducible refine RowL.drew ?_) | (with_reducible refine RowL.xt ?_ _)))).out.mono ?_
  rintro e' w' ⟨v, rfl, hb, hv⟩
  obtain ⟨g, rfl⟩ := xt_of_below hb
  clear hb SM
  cases v
  · clear hv
    go_wp2_with (first
      | (go_at_call 9; refine (RetB.grown (known_any _)).mono ?_; rintro e' w' ⟨rfl, g, rfl⟩)
      | (refine wp_region_xt (by kernel_rfl) (by kernel_rfl) ?_; (repeat (go_big_quiet_step (first | (go_at_call 9; exact RetB.quiet (known_any _))))); refine wpQuiet_nil ?_; intro g))
    go_ret
    exact RetB.of rfl (by repeat' (first | exact Below.refl _ _ | assumption | refine Below.xt ?_ ?_ _ | refine Below.alloc ?_ ?_ _ | refine Below.drew ?_ | refine Below.setCell ?_ ?_ _ | (simp; done) | (simp; omega)))
  · have hv := hv rfl
    have hF := HF.out hv
    have K1 := fun w h => Lib.hid (lChanges_any A1 A2 A3 c1 c2 c3 L a w hF h)
    have K2 := fun w h => Lib.hid (show Calls Try.prog 17 #[.agg #[.slice A1 L.nG c1, .slice A2 L.cs.length c2, .slice A3 L.os.length c3], .int .i64 a] w (RetI2 (if fineE L a 0 = 0 then chg (L.G a.toNat) L.cs L.os else []) (fineE L a 0) w) from rChanges_any A1 A2 A3 c1 c2 c3 L a w hF h)
    have hlen : (if fineE L a 0 = 0 then chg (L.G a.toNat) L.cs L.os else []).length ≤ 4294967296 := by
      have := chg_len (L.G a.toNat) L.cs L.os
      split
      · omega
      · simp
    generalize (if fineE L a 0 = 0 then chg (L.G a.toNat) L.cs L.os else []) = l at *
    generalize fineE L a 0 = E at *
    have SA := fun A B c d w h1 h2 => Lib.hid (show Calls Try.prog 18 #[.slice A l.length c, .slice B l.length d] w (RetB (.bool true) w) from by
      have k := same_any A B c d l l w hlen hlen h1 h2
      rwa [decide_eq_true rfl] at k)
    clear hv hF HF hlen
    go_wp2_with fail
    refine (K1 _ (by repeat (first | (with_reducible exact HR.out) | (with_reducible refine RowL.alloc ?_ _) | (with_reducible refine RowL.drew ?_) | (with_reducible refine RowL.xt ?_ _)))).out.mono ?_
    rintro e' w' ⟨B1, d1, rfl, hb, hr⟩
    obtain ⟨h1, rfl⟩ := xt_of_below hb
    have HB1 := Lib.hid hr
    clear hb hr
    go_wp2_with fail
    refine (K2 _ (by repeat (first | (with_reducible exact HR.out) | (with_reducible refine RowL.alloc ?_ _) | (with_reducible refine RowL.drew ?_) | (with_reducible refine RowL.xt ?_ _)))).out.mono ?_
    rintro e' w' ⟨B2, d2, rfl, hb, hr⟩
    obtain ⟨h2, rfl⟩ := xt_of_below hb
    have HB2 := Lib.hid hr
    clear hb hr
    go_wp2_with fail
    refine (RetB.grown (SA _ _ _ _ _ (HB1.out.xt _) HB2.out).out).mono ?_
    rintro e' w' ⟨rfl, g3, rfl⟩
    go_wp2_with (first
      | (go_at_call 9; refine (RetB.grown (known_any _)).mono ?_; rintro e' w' ⟨rfl, g, rfl⟩)
      | (refine wp_region_xt (by kernel_rfl) (by kernel_rfl) ?_; (repeat (go_big_quiet_step (first | (go_at_call 9; exact RetB.quiet (known_any _))))); refine wpQuiet_nil ?_; intro g))
    go_ret
    exact RetB.of rfl (by repeat' (first | exact Below.refl _ _ | assumption | refine Below.xt ?_ ?_ _ | refine Below.alloc ?_ ?_ _ | refine Below.drew ?_ | refine Below.setCell ?_ ?_ _ | (simp; done) | (simp; omega)))

end Go.Proofs.Ytiikejhkhdmgeaa

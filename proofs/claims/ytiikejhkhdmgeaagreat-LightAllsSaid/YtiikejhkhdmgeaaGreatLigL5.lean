
/- Walks: the colour of an aircraft, and the overlay that decides, by the program. Conditions stand in each theorem. -/
import Derived.Test.YtiikejhkhdmgeaaGreatLigL4
namespace Go.Proofs.YtiikejhkhdmgeaaGreat
open Go.RowKit
set_option linter.unusedVariables false
set_option linter.unusedSimpArgs false
attribute [local go_sem ↓] ldr16 ldr18

theorem color_any (A1 A2 A3 : Option Addr) (c1 c2 c3 a : Nat) (L : Li) (p : V3) (t : Int) (w : World) (hF : FineL L) (hv : liB L = true) (ha : a < L.nG) (hr : RowL w A1 A2 A3 L) (hp : point p = true) (ht0 : 0 ≤ t) (ht1 : t ≤ 3600000) :
    Calls Tryz.prog 19 #[.agg #[.slice A1 L.nG c1, .slice A2 L.cs.length c2, .slice A3 L.os.length c3, .int .i64 (a : Nat)], .agg #[.int .i64 p.x, .int .i64 p.y, .int .i64 p.z], .int .i64 t] w (RetB (.agg #[.int .u8 (colC L a p t).r, .int .u8 (colC L a p t).g, .int .u8 (colC L a p t).b]) w) := by
  rcases Int.lt_or_le (wh L.os (L.G a) t L.os.length) 0 with h | h
  · exact color_cue A1 A2 A3 c1 c2 c3 a L p t w hF hv ha hr ht0 ht1 h
  · exact color_over A1 A2 A3 c1 c2 c3 a (wh L.os (L.G a) t L.os.length).toNat L p t w hF hv ha hr hp (by omega)

set_option maxRecDepth 100000 in
set_option maxHeartbeats 1600000 in
theorem lWhich_any (A1 A2 A3 : Option Addr) (c1 c2 c3 : Nat) (L : Li) (a t : Int) (w : World) (hF : FineL L) (hr : RowL w A1 A2 A3 L) :
    Calls Tryz.prog 13 #[.agg #[.slice A1 L.nG c1, .slice A2 L.cs.length c2, .slice A3 L.os.length c3], .int .i64 a, .int .i64 t] w (RetB (.tuple #[.int .i64 (whE L a t), .int .i64 (fineE L a t)]) w) := by
  have K := fun w h => Lib.hid (pick_any A1 A2 A3 c1 c2 c3 L a t w hF h)
  have HR := Lib.hid hr
  by_cases h0 : fineE L a t = 0
  · obtain ⟨q1, ⟨q2, q3⟩, q4, q5⟩ := fine_zero.1 h0
    obtain ⟨n, rfl⟩ := Int.eq_ofNat_of_zero_le q2
    have K2 := fun w h => Lib.hid (which_any A1 A2 A3 c1 c2 c3 n L t w hF q1 (by omega) h)
    have e : whE L n t = wh L.os (L.G n) t L.os.length := by rw [whE, if_pos h0]; rfl
    rw [h0, e]
    simp only [h0, if_true] at K
    clear hF hr q1 h0 e q4 q5
    go_enter Tryz.func13, Tryz.ntmps13
    go_wp2_with fail
    refine (RetB.grown (K _ (by repeat (first | (with_reducible exact HR.out) | (with_reducible refine RowL.alloc ?_ _) | (with_reducible refine RowL.drew ?_) | (with_reducible refine RowL.xt ?_ _)))).out).mono ?_
    rintro e' w' ⟨rfl, g1, rfl⟩
    go_wp2_with fail
    refine (RetB.grown (K2 _ (by repeat (first | (with_reducible exact HR.out) | (with_reducible refine RowL.alloc ?_ _) | (with_reducible refine RowL.drew ?_) | (with_reducible refine RowL.xt ?_ _)))).out).mono ?_
    rintro e' w' ⟨rfl, g2, rfl⟩
    go_wp2_with fail
    go_ret2
    exact RetB.of rfl (by repeat' (first | exact Below.refl _ _ | assumption | refine Below.xt ?_ ?_ _ | refine Below.alloc ?_ ?_ _ | refine Below.drew ?_ | refine Below.setCell ?_ ?_ _ | (simp; done) | (simp; omega)))
  · have e : whE L a t = 0 := by rw [whE, if_neg h0]
    rw [e]
    simp only [h0, if_false] at K
    have z : (fineE L a t != 0) = true := by simpa using h0
    generalize fineE L a t = d at *
    clear hF hr h0 e
    go_enter Tryz.func13, Tryz.ntmps13
    go_wp2_with fail
    refine (RetB.grown (K _ (by repeat (first | (with_reducible exact HR.out) | (with_reducible refine RowL.alloc ?_ _) | (with_reducible refine RowL.drew ?_) | (with_reducible refine RowL.xt ?_ _)))).out).mono ?_
    rintro e' w' ⟨rfl, g1, rfl⟩
    go_wp2_with fail
    go_ret2
    exact RetB.of rfl (by repeat' (first | exact Below.refl _ _ | assumption | refine Below.xt ?_ ?_ _ | refine Below.alloc ?_ ?_ _ | refine Below.drew ?_ | refine Below.setCell ?_ ?_ _ | (simp; done) | (simp; omega)))

set_option maxRecDepth 100000 in
set_option maxHeartbeats 1600000 in
theorem lAt_any (A1 A2 A3 : Option Addr) (c1 c2 c3 : Nat) (L : Li) (a : Int) (p : V3) (t : Int) (w : World) (hF : FineL L) (hr : RowL w A1 A2 A3 L) :
    Calls Tryz.prog 23 #[.agg #[.slice A1 L.nG c1, .slice A2 L.cs.length c2, .slice A3 L.os.length c3], .int .i64 a, .agg #[.int .i64 p.x, .int .i64 p.y, .int .i64 p.z], .int .i64 t] w (RetB (.tuple #[.agg #[.int .u8 (atC L a p t).r, .int .u8 (atC L a p t).g, .int .u8 (atC L a p t).b], .int .i64 (atE L a p t)]) w) := by
  have K := fun w h => Lib.hid (pick_any A1 A2 A3 c1 c2 c3 L a t w hF h)
  have KP := fun w => Lib.hid (place_any p w)
  have HR := Lib.hid hr
  by_cases hp : point p = true
  · rw [hp] at KP
    by_cases h0 : fineE L a t = 0
    · obtain ⟨q1, ⟨q2, q3⟩, q4, q5⟩ := fine_zero.1 h0
      obtain ⟨n, rfl⟩ := Int.eq_ofNat_of_zero_le q2
      have K2 := fun w h => Lib.hid (color_any A1 A2 A3 c1 c2 c3 n L p t w hF q1 (by omega) h hp q4 q5)
      have e : atE L n p t = 0 := by rw [atE, if_pos hp, h0]
      have e2 : atC L n p t = colC L n p t := by rw [atC, if_pos e]
      rw [e, e2]
      simp only [h0, if_true] at K
      generalize colC L n p t = V at *
      clear hF hr q1 h0 e e2 q4 q5 hp
      go_enter Tryz.func23, Tryz.ntmps23
      go_wp2_with fail
      refine (RetB.grown (K _ (by repeat (first | (with_reducible exact HR.out) | (with_reducible refine RowL.alloc ?_ _) | (with_reducible refine RowL.drew ?_) | (with_reducible refine RowL.xt ?_ _)))).out).mono ?_
      rintro e' w' ⟨rfl, g1, rfl⟩
      go_wp2_with fail
      refine (RetB.grown (KP _).out).mono ?_
      rintro e' w' ⟨rfl, g2, rfl⟩
      go_wp2_with fail
      refine (RetB.grown (K2 _ (by repeat (first | (with_reducible exact HR.out) | (with_reducible refine RowL.alloc ?_ _) | (with_reducible refine RowL.drew ?_) | (with_reducible refine RowL.xt ?_ _)))).out).mono ?_
      rintro e' w' ⟨rfl, g3, rfl⟩
      go_wp2_with fail
      refine bodyPost_ret (v := .tuple #[.agg #[.int .u8 V.r, .int .u8 V.g, .int .u8 V.b], .int .i64 0]) (by simp [results, Tryz.results23, go_sem]) rfl ?_
      exact RetB.of rfl (by repeat' (first | exact Below.refl _ _ | assumption | refine Below.xt ?_ ?_ _ | refine Below.alloc ?_ ?_ _ | refine Below.drew ?_ | refine Below.setCell ?_ ?_ _ | (simp; done) | (simp; omega)))
    · have e : atE L a p t = fineE L a t := by rw [atE, if_pos hp]
      have e2 : atC L a p t = black := by rw [atC, e, if_neg h0]
      rw [e, e2]
      simp only [h0, if_false] at K
      have z : (fineE L a t != 0) = true := by simpa using h0
      generalize fineE L a t = d at *
      clear hF hr h0 e e2 hp
      go_enter Tryz.func23, Tryz.ntmps23
      go_wp2_with fail
      refine (RetB.grown (K _ (by repeat (first | (with_reducible exact HR.out) | (with_reducible refine RowL.alloc ?_ _) | (with_reducible refine RowL.drew ?_) | (with_reducible refine RowL.xt ?_ _)))).out).mono ?_
      rintro e' w' ⟨rfl, g1, rfl⟩
      go_wp2_with fail
      refine (RetB.grown (KP _).out).mono ?_
      rintro e' w' ⟨rfl, g2, rfl⟩
      go_wp2_with fail
      refine bodyPost_ret (v := .tuple #[.agg #[.int .u8 black.r, .int .u8 black.g, .int .u8 black.b], .int .i64 d]) (by simp [results, Tryz.results23, go_sem, black]) rfl ?_
      exact RetB.of rfl (by repeat' (first | exact Below.refl _ _ | assumption | refine Below.xt ?_ ?_ _ | refine Below.alloc ?_ ?_ _ | refine Below.drew ?_ | refine Below.setCell ?_ ?_ _ | (simp; done) | (simp; omega)))
  · have hp' : point p = false := by simpa using hp
    rw [hp'] at KP
    have e : atE L a p t = 2 := by rw [atE, if_neg hp]
    have e2 : atC L a p t = black := by rw [atC, e, if_neg (by decide)]
    rw [e, e2]
    by_cases h0 : fineE L a t = 0
    · simp only [h0, if_true] at K
      clear hF hr e e2 hp hp' h0
      go_enter Tryz.func23, Tryz.ntmps23
      go_wp2_with fail
      refine (RetB.grown (K _ (by repeat (first | (with_reducible exact HR.out) | (with_reducible refine RowL.alloc ?_ _) | (with_reducible refine RowL.drew ?_) | (with_reducible refine RowL.xt ?_ _)))).out).mono ?_
      rintro e' w' ⟨rfl, g1, rfl⟩
      go_wp2_with fail
      refine (RetB.grown (KP _).out).mono ?_
      rintro e' w' ⟨rfl, g2, rfl⟩
      go_wp2_with fail
      refine bodyPost_ret (v := .tuple #[.agg #[.int .u8 black.r, .int .u8 black.g, .int .u8 black.b], .int .i64 2]) (by simp [results, Tryz.results23, go_sem, black]) rfl ?_
      exact RetB.of rfl (by repeat' (first | exact Below.refl _ _ | assumption | refine Below.xt ?_ ?_ _ | refine Below.alloc ?_ ?_ _ | refine Below.drew ?_ | refine Below.setCell ?_ ?_ _ | (simp; done) | (simp; omega)))
    · simp only [h0, if_false] at K
      generalize fineE L a t = d at *
      clear hF hr e e2 hp hp' h0
      go_enter Tryz.func23, Tryz.ntmps23
      go_wp2_with fail
      refine (RetB.grown (K _ (by repeat (first | (with_reducible exact HR.out) | (with_reducible refine RowL.alloc ?_ _) | (with_reducible refine RowL.drew ?_) | (with_reducible refine RowL.xt ?_ _)))).out).mono ?_
      rintro e' w' ⟨rfl, g1, rfl⟩
      go_wp2_with fail
      refine (RetB.grown (KP _).out).mono ?_
      rintro e' w' ⟨rfl, g2, rfl⟩
      go_wp2_with fail
      refine bodyPost_ret (v := .tuple #[.agg #[.int .u8 black.r, .int .u8 black.g, .int .u8 black.b], .int .i64 2]) (by simp [results, Tryz.results23, go_sem, black]) rfl ?_
      exact RetB.of rfl (by repeat' (first | exact Below.refl _ _ | assumption | refine Below.xt ?_ ?_ _ | refine Below.alloc ?_ ?_ _ | refine Below.drew ?_ | refine Below.setCell ?_ ?_ _ | (simp; done) | (simp; omega)))

end Go.Proofs.YtiikejhkhdmgeaaGreat

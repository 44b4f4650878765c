
/- Walks of the statements: the examples of the chapter. Conditions stand in each theorem. -/
import Derived.Test.YtiikejhkhdmgeaaGreatLigK2
import Derived.Test.YtiikejhkhdmgeaaGreatLigL6
namespace Go.Proofs.YtiikejhkhdmgeaaGreat
open Go.RowKit
set_option linter.unusedVariables false
set_option linter.unusedSimpArgs false

theorem g1 : (if fineE Ls 0 0 = 0 then chg (Ls.G (0 : Int).toNat) Ls.cs Ls.os else []) = [0, 1000, 2000, 3000, 4000] := by kernel_rfl
theorem g2 : fineE Ls 0 0 = 0 := by kernel_rfl
theorem g3 : (if fineE Ls 1 0 = 0 then chg (Ls.G (1 : Int).toNat) Ls.cs Ls.os else []) = [0, 2000] := by kernel_rfl
theorem g4 : fineE Ls 1 0 = 0 := by kernel_rfl
theorem chg0 (A1 A2 A3 : Option Addr) (c1 c2 c3 : Nat) (w : World) (hr : RowL w A1 A2 A3 Ls) : Calls Tryz.prog 11 #[.agg #[.slice A1 2 c1, .slice A2 2 c2, .slice A3 1 c3], .int .i64 0] w (RetI2 [0, 1000, 2000, 3000, 4000] 0 w) := by
  have k := lChanges_any A1 A2 A3 c1 c2 c3 Ls 0 w fineLs hr
  rw [g1, g2] at k
  exact k
theorem chg1 (A1 A2 A3 : Option Addr) (c1 c2 c3 : Nat) (w : World) (hr : RowL w A1 A2 A3 Ls) : Calls Tryz.prog 11 #[.agg #[.slice A1 2 c1, .slice A2 2 c2, .slice A3 1 c3], .int .i64 1] w (RetI2 [0, 2000] 0 w) := by
  have k := lChanges_any A1 A2 A3 c1 c2 c3 Ls 1 w fineLs hr
  rw [g3, g4] at k
  exact k
theorem which2 (A1 A2 A3 : Option Addr) (c1 c2 c3 : Nat) (w : World) (hr : RowL w A1 A2 A3 Ls) : Calls Tryz.prog 13 #[.agg #[.slice A1 2 c1, .slice A2 2 c2, .slice A3 1 c3], .int .i64 2, .int .i64 0] w (RetB (.tuple #[.int .i64 0, .int .i64 2]) w) := by
  have k := lWhich_any A1 A2 A3 c1 c2 c3 Ls 2 0 w fineLs hr
  rw [e11.1, e11.2] at k
  exact k
theorem row5 {w : World} {t : TypeId} {m : Nat} (hm : m = w.heap.size) : RowI (w.alloc (.cells #[.int .i64 0, .int .i64 1000, .int .i64 2000, .int .i64 3000, .int .i64 4000] t)) (some ⟨m, 0, none⟩) [0, 1000, 2000, 3000, 4000] :=
  Row.made hm fun i j hi hj => by
    have : i = 0 ∨ i = 1 ∨ i = 2 ∨ i = 3 ∨ i = 4 := by simp at hi; omega
    have hj : j = 0 := by omega
    subst hj
    rcases this with rfl | rfl | rfl | rfl | rfl <;> rfl
theorem row2 {w : World} {t : TypeId} {m : Nat} (hm : m = w.heap.size) : RowI (w.alloc (.cells #[.int .i64 0, .int .i64 2000] t)) (some ⟨m, 0, none⟩) [0, 2000] :=
  Row.made hm fun i j hi hj => by
    have : i = 0 ∨ i = 1 := by simp at hi; omega
    have hj : j = 0 := by omega
    subst hj
    rcases this with rfl | rfl <;> rfl

set_option maxRecDepth 100000 in
set_option maxHeartbeats 3200000 in
theorem known_any (w : World) : Calls Tryz.prog 5 #[] w (RetB (.bool true) w) := by
  have S1 := fun w => Lib.hid (shows_is 0 500 ⟨0, 0, 0⟩ w e1 e2)
  have S2 := fun w => Lib.hid (shows_is 0 1500 ⟨255, 0, 0⟩ w f2 e3)
  have S3 := fun w => Lib.hid (shows_is 0 2500 ⟨0, 255, 0⟩ w f3 e4)
  have S4 := fun w => Lib.hid (shows_is 0 3500 ⟨0, 0, 255⟩ w f4 e5)
  have S5 := fun w => Lib.hid (shows_is 1 1500 ⟨0, 0, 0⟩ w f5 e6)
  have S6 := fun w => Lib.hid (shows_is 1 3500 ⟨0, 255, 0⟩ w f6 e7)
  have D1 := fun w => Lib.hid (decides_is 0 3500 0 w e8)
  have D2 := fun w => Lib.hid (decides_is 1 3500 (-1) w e9)
  have D3 := fun w => Lib.hid (decides_is 0 4000 (-1) w e10)
  go_enter Tryz.func5, Tryz.ntmps5
  go_wp2_with fail
  refine (RetB.grown (S1 _).out).mono ?_
  rintro e' w' ⟨rfl, g1, rfl⟩
  go_wp2_with fail
  refine (RetB.grown (S2 _).out).mono ?_
  rintro e' w' ⟨rfl, g2, rfl⟩
  go_wp2_with fail
  refine (RetB.grown (S3 _).out).mono ?_
  rintro e' w' ⟨rfl, g3, rfl⟩
  go_wp2_with fail
  refine (RetB.grown (S4 _).out).mono ?_
  rintro e' w' ⟨rfl, g4, rfl⟩
  go_wp2_with fail
  refine (RetB.grown (S5 _).out).mono ?_
  rintro e' w' ⟨rfl, g5, rfl⟩
  go_wp2_with fail
  refine (RetB.grown (S6 _).out).mono ?_
  rintro e' w' ⟨rfl, g6, rfl⟩
  go_wp2_with fail
  refine (RetB.grown (D1 _).out).mono ?_
  rintro e' w' ⟨rfl, g7, rfl⟩
  go_wp2_with fail
  refine (RetB.grown (D2 _).out).mono ?_
  rintro e' w' ⟨rfl, g8, rfl⟩
  go_wp2_with fail
  refine (RetB.grown (D3 _).out).mono ?_
  rintro e' w' ⟨rfl, g9, rfl⟩
  clear S1 S2 S3 S4 S5 S6 D1 D2 D3
  go_wp2_with fail
  refine (sample_any _).mono ?_
  rintro e' w' ⟨A1, c1, A2, c2, A3, c3, rfl, hb, hr⟩
  obtain ⟨h1, rfl⟩ := xt_of_below hb
  have HR := Lib.hid hr
  clear hb hr
  go_wp2_with fail
  refine (chg0 _ _ _ _ _ _ _ HR.out).mono ?_
  rintro e' w' ⟨B1, d1, rfl, hb, hr⟩
  obtain ⟨h2, rfl⟩ := xt_of_below hb
  have HB1 := Lib.hid hr
  clear hb hr HR
  go_wp2_with fail
  refine (sample_any _).mono ?_
  rintro e' w' ⟨A1, c1, A2, c2, A3, c3, rfl, hb, hr⟩
  obtain ⟨h3, rfl⟩ := xt_of_below hb
  have HR := Lib.hid hr
  clear hb hr
  go_wp2_with fail
  refine (chg1 _ _ _ _ _ _ _ HR.out).mono ?_
  rintro e' w' ⟨B2, d2, rfl, hb, hr⟩
  obtain ⟨h4, rfl⟩ := xt_of_below hb
  have HB2 := Lib.hid hr
  clear hb hr HR
  go_wp2_with fail
  refine (sample_any _).mono ?_
  rintro e' w' ⟨A1, c1, A2, c2, A3, c3, rfl, hb, hr⟩
  obtain ⟨h5, rfl⟩ := xt_of_below hb
  have HR := Lib.hid hr
  clear hb hr
  go_wp2_with fail
  refine (RetB.grown (which2 _ _ _ _ _ _ _ HR.out)).mono ?_
  rintro e' w' ⟨rfl, h6, rfl⟩
  clear HR
  go_wp2_with fail
  refine (RetB.grown (same_any B1 _ d1 5 [0, 1000, 2000, 3000, 4000] [0, 1000, 2000, 3000, 4000] _ (by simp) (by simp) (by repeat (first | (with_reducible exact HB1.out) | (with_reducible refine RowI.alloc ?_ _) | (with_reducible refine RowI.xt ?_ _))) (row5 (by simp)))).mono ?_
  rintro e' w' ⟨rfl, h7, rfl⟩
  go_wp2_with fail
  refine (RetB.grown (same_any B2 _ d2 2 [0, 2000] [0, 2000] _ (by simp) (by simp) (by repeat (first | (with_reducible exact HB2.out) | (with_reducible refine RowI.alloc ?_ _) | (with_reducible refine RowI.xt ?_ _))) (row2 (by simp)))).mono ?_
  rintro e' w' ⟨rfl, h8, rfl⟩
  go_wp2_with fail
  go_ret
  exact RetB.of rfl (by repeat' (first | exact Below.refl _ _ | assumption | refine Below.xt ?_ ?_ _ | refine Below.alloc ?_ ?_ _ | refine Below.drew ?_ | refine Below.setCell ?_ ?_ _ | (simp; done) | (simp; omega)))

end Go.Proofs.YtiikejhkhdmgeaaGreat

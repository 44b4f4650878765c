/- Walks: how vectors compare, by the program and by the reference. No condition. -/
import Derived.Test.YtjgfobknifobhaaVecR1
import Derived.Deep.DeepCutAuto
import Derived.Deep.RegionWith
namespace Go.Proofs.Ytjgfobknifobhaa
open Go.RowKit
set_option linter.unusedVariables false

def cmpI (a b : Int) : Int := if a < b then -1 else if b < a then 1 else 0
def cmp3 (a b c x y z : Int) : Int := if cmpI a x = 0 then (if cmpI b y = 0 then cmpI c z else cmpI b y) else cmpI a x

set_option maxHeartbeats 400000 in
theorem cmp_any (x y : Int) (w : World) : Calls Try.prog 57 #[.int .i64 x, .int .i64 y] w (Ret (.int .i64 (cmpI x y)) w) := by
  rcases Int.lt_trichotomy x y with h | h | h
  · have e : cmpI x y = -1 := by simp [cmpI, h]
    rw [e]; clear e
    go_enter Try.func57, Try.ntmps57
    go_wp2
    all_goals first | (exfalso; omega) | skip
    all_goals go_ret
    all_goals exact Ret.of rfl
  · subst h
    have e : cmpI x x = 0 := by simp [cmpI]
    rw [e]; clear e
    go_enter Try.func57, Try.ntmps57
    go_wp2
    all_goals first | (exfalso; omega) | skip
    all_goals go_ret
    all_goals exact Ret.of rfl
  · have e : cmpI x y = 1 := by simp only [cmpI, if_neg (Int.not_lt.2 (Int.le_of_lt h)), if_pos h]
    rw [e]; clear e
    go_enter Try.func57, Try.ntmps57
    go_wp2
    all_goals first | (exfalso; omega) | skip
    all_goals go_ret
    all_goals exact Ret.of rfl

set_option maxHeartbeats 800000 in
theorem slicesCompare_any (a b c x y z : Int) (p q n m : Nat) (w : World) (h0 : w.cell? ⟨p, 0, none⟩ = some (.int .i64 a)) (h1 : w.cell? ⟨p, 1, none⟩ = some (.int .i64 b)) (h2 : w.cell? ⟨p, 2, none⟩ = some (.int .i64 c)) (k0 : w.cell? ⟨q, 0, none⟩ = some (.int .i64 x)) (k1 : w.cell? ⟨q, 1, none⟩ = some (.int .i64 y)) (k2 : w.cell? ⟨q, 2, none⟩ = some (.int .i64 z)) :
    Calls Try.prog 56 #[.slice (some ⟨p, 0, none⟩) 3 n, .slice (some ⟨q, 0, none⟩) 3 m] w (Ret (.int .i64 (cmp3 a b c x y z)) w) := by
  by_cases e0 : cmpI a x = 0
  · by_cases e1 : cmpI b y = 0
    · by_cases e2 : cmpI c z = 0
      · have e : cmp3 a b c x y z = 0 := by simp [cmp3, e0, e1, e2]
        rw [e]; clear e
        go_enter Try.func56, Try.ntmps56
        go_wp2_with fail
        refine wp_loop_rounds 4 ?_
        repeat any_goals (rw [rounds_succ]; go_wp2_with (first
          | (go_at_call 57; refine (cmp_any _ _ _).mono ?_; rintro e' w' ⟨rfl, rfl⟩)
          | (refine wp_region_xt (by kernel_rfl) (by kernel_rfl) ?_; (repeat (go_big_quiet_step (first | (go_at_call 57; exact Ret.quiet (cmp_any _ _ _))))); refine wpQuiet_nil ?_; intro g)))
        go_ret
        exact Ret.of rfl
      · have e : cmp3 a b c x y z = cmpI c z := by simp [cmp3, e0, e1]
        rw [e]; clear e
        have e2' : (cmpI c z != 0) = true := by simpa using e2
        go_enter Try.func56, Try.ntmps56
        go_wp2_with fail
        refine wp_loop_rounds 4 ?_
        repeat any_goals (rw [rounds_succ]; go_wp2_with (first
          | (go_at_call 57; refine (cmp_any _ _ _).mono ?_; rintro e' w' ⟨rfl, rfl⟩)
          | (refine wp_region_xt (by kernel_rfl) (by kernel_rfl) ?_; (repeat (go_big_quiet_step (first | (go_at_call 57; exact Ret.quiet (cmp_any _ _ _))))); refine wpQuiet_nil ?_; intro g)))
        go_ret
        exact Ret.of rfl
    · have e : cmp3 a b c x y z = cmpI b y := by simp [cmp3, e0, e1]
      rw [e]; clear e
      have e2' : (cmpI b y != 0) = true := by simpa using e1
      go_enter Try.func56, Try.ntmps56
      go_wp2_with fail
      refine wp_loop_rounds 4 ?_
      repeat any_goals (rw [rounds_succ]; go_wp2_with (first
        | (go_at_call 57; refine (cmp_any _ _ _).mono ?_; rintro e' w' ⟨rfl, rfl⟩)
        | (refine wp_region_xt (by kernel_rfl) (by kernel_rfl) ?_; (repeat (go_big_quiet_step (first | (go_at_call 57; exact Ret.quiet (cmp_any _ _ _))))); refine wpQuiet_nil ?_; intro g)))
      go_ret
      exact Ret.of rfl
  · have e : cmp3 a b c x y z = cmpI a x := by simp [cmp3, e0]
    rw [e]; clear e
    have e2' : (cmpI a x != 0) = true := by simpa using e0
    go_enter Try.func56, Try.ntmps56
    go_wp2_with fail
    refine wp_loop_rounds 4 ?_
    repeat any_goals (rw [rounds_succ]; go_wp2_with (first
      | (go_at_call 57; refine (cmp_any _ _ _).mono ?_; rintro e' w' ⟨rfl, rfl⟩)
      | (refine wp_region_xt (by kernel_rfl) (by kernel_rfl) ?_; (repeat (go_big_quiet_step (first | (go_at_call 57; exact Ret.quiet (cmp_any _ _ _))))); refine wpQuiet_nil ?_; intro g)))
    go_ret
    exact Ret.of rfl

set_option maxHeartbeats 400000 in
theorem parts_any (x y z : Int) (w : World) : Calls Try.prog 55 #[.agg #[.int .i64 x, .int .i64 y, .int .i64 z]] w (RetB (.agg #[.int .i64 x, .int .i64 y, .int .i64 z]) w) := by
  go_enter Try.func55, Try.ntmps55
  go_wp2
  refine bodyPost_ret (v := .agg #[.int .i64 x, .int .i64 y, .int .i64 z]) (by simp [results, Try.results55, go_sem]) rfl ?_
  exact RetB.of rfl (by repeat' (first | exact Below.refl _ _ | assumption | refine Below.xt ?_ ?_ _ | refine Below.alloc ?_ ?_ _ | refine Below.drew ?_ | refine Below.setCell ?_ ?_ _ | (simp; done) | (simp; omega)))

set_option maxHeartbeats 800000 in
theorem refCompare_any (a b c x y z : Int) (w : World) : Calls Try.prog 37 #[.agg #[.int .i64 a, .int .i64 b, .int .i64 c], .agg #[.int .i64 x, .int .i64 y, .int .i64 z]] w (RetB (.int .i64 (cmp3 a b c x y z)) w) := by
  rcases Int.lt_trichotomy a x with h0 | h0 | h0
  case inr.inl =>
    rcases Int.lt_trichotomy b y with h1 | h1 | h1
    case inr.inl =>
      rcases Int.lt_trichotomy c z with h2 | h2 | h2
      case inr.inl =>
        subst h0 h1 h2
        have e : cmp3 a b c a b c = 0 := by simp [cmp3, cmpI]
        rw [e]; clear e
        go_enter Try.func37, Try.ntmps37
        go_wp2_with fail
        refine wp_loop_rounds 4 ?_
        repeat any_goals (rw [rounds_succ]; go_wp2_with (first
          | (go_at_call 49; refine (RetB.grown (refPart_any _ _ _ _ _)).mono ?_; rintro e' w' ⟨rfl, g, rfl⟩)
          | (refine wp_region_xt (by kernel_rfl) (by kernel_rfl) ?_; (repeat (go_big_quiet_step (first | (go_at_call 49; exact RetB.quiet (refPart_any _ _ _ _ _))))); refine wpQuiet_nil ?_; intro g)))
        go_ret
        exact RetB.of rfl (by repeat' (first | exact Below.refl _ _ | assumption | refine Below.xt ?_ ?_ _ | refine Below.alloc ?_ ?_ _ | refine Below.drew ?_ | refine Below.setCell ?_ ?_ _ | (simp; done) | (simp; omega)))
      all_goals
        subst h0 h1
        first
          | (have e : cmp3 a b c a b z = -1 := by simp [cmp3, cmpI, h2]
             rw [e]; clear e)
          | (have e : cmp3 a b c a b z = 1 := by simp only [cmp3, cmpI, Int.lt_irrefl, if_false, if_true, if_neg (Int.not_lt.2 (Int.le_of_lt h2)), if_pos h2]
             rw [e]; clear e)
        go_enter Try.func37, Try.ntmps37
        go_wp2_with fail
        refine wp_loop_rounds 4 ?_
        repeat any_goals (rw [rounds_succ]; go_wp2_with (first
          | (go_at_call 49; refine (RetB.grown (refPart_any _ _ _ _ _)).mono ?_; rintro e' w' ⟨rfl, g, rfl⟩)
          | (refine wp_region_xt (by kernel_rfl) (by kernel_rfl) ?_; (repeat (go_big_quiet_step (first | (go_at_call 49; exact RetB.quiet (refPart_any _ _ _ _ _))))); refine wpQuiet_nil ?_; intro g)))
        go_ret
        exact RetB.of rfl (by repeat' (first | exact Below.refl _ _ | assumption | refine Below.xt ?_ ?_ _ | refine Below.alloc ?_ ?_ _ | refine Below.drew ?_ | refine Below.setCell ?_ ?_ _ | (simp; done) | (simp; omega)))
    all_goals
      subst h0
      first
        | (have e : cmp3 a b c a y z = -1 := by simp [cmp3, cmpI, h1]
           rw [e]; clear e)
        | (have e : cmp3 a b c a y z = 1 := by simp [cmp3, cmpI, if_neg (Int.not_lt.2 (Int.le_of_lt h1)), if_pos h1]
           rw [e]; clear e)
      go_enter Try.func37, Try.ntmps37
      go_wp2_with fail
      refine wp_loop_rounds 4 ?_
      repeat any_goals (rw [rounds_succ]; go_wp2_with (first
        | (go_at_call 49; refine (RetB.grown (refPart_any _ _ _ _ _)).mono ?_; rintro e' w' ⟨rfl, g, rfl⟩)
        | (refine wp_region_xt (by kernel_rfl) (by kernel_rfl) ?_; (repeat (go_big_quiet_step (first | (go_at_call 49; exact RetB.quiet (refPart_any _ _ _ _ _))))); refine wpQuiet_nil ?_; intro g)))
      go_ret
      exact RetB.of rfl (by repeat' (first | exact Below.refl _ _ | assumption | refine Below.xt ?_ ?_ _ | refine Below.alloc ?_ ?_ _ | refine Below.drew ?_ | refine Below.setCell ?_ ?_ _ | (simp; done) | (simp; omega)))
  all_goals
    first
      | (have e : cmp3 a b c x y z = -1 := by simp [cmp3, cmpI, h0]
         rw [e]; clear e)
      | (have e : cmp3 a b c x y z = 1 := by simp [cmp3, cmpI, if_neg (Int.not_lt.2 (Int.le_of_lt h0)), if_pos h0]
         rw [e]; clear e)
    go_enter Try.func37, Try.ntmps37
    go_wp2_with fail
    refine wp_loop_rounds 4 ?_
    repeat any_goals (rw [rounds_succ]; go_wp2_with (first
      | (go_at_call 49; refine (RetB.grown (refPart_any _ _ _ _ _)).mono ?_; rintro e' w' ⟨rfl, g, rfl⟩)
      | (refine wp_region_xt (by kernel_rfl) (by kernel_rfl) ?_; (repeat (go_big_quiet_step (first | (go_at_call 49; exact RetB.quiet (refPart_any _ _ _ _ _))))); refine wpQuiet_nil ?_; intro g)))
    go_ret
    exact RetB.of rfl (by repeat' (first | exact Below.refl _ _ | assumption | refine Below.xt ?_ ?_ _ | refine Below.alloc ?_ ?_ _ | refine Below.drew ?_ | refine Below.setCell ?_ ?_ _ | (simp; done) | (simp; omega)))

end Go.Proofs.Ytjgfobknifobhaa

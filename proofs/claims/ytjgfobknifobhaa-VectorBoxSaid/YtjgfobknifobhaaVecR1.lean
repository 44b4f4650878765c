/- Walks of the reference's functions on vectors. Conditions stand in each theorem. -/
import Derived.Test.YtjgfobknifobhaaVecW1
namespace Go.Proofs.Ytjgfobknifobhaa
open Go.RowKit
set_option linter.unusedVariables false

theorem Ret.asB {P : Program} {f : FuncId} {args : Array Value} {w : World} {v : Value} (h : Calls P f args w (Ret v w)) : Calls P f args w (RetB v w) :=
  h.mono fun _ _ ⟨he, hw⟩ => ⟨he, hw ▸ Below.refl _ _⟩

/-- A part by its number. -/
def part (x y z i : Int) : Int := if i = 0 then x else if i = 1 then y else z
@[go_sem] theorem part_0 (x y z : Int) : part x y z 0 = x := rfl
@[go_sem] theorem part_1 (x y z : Int) : part x y z 1 = y := rfl
@[go_sem] theorem part_2 (x y z : Int) : part x y z 2 = z := rfl

set_option maxHeartbeats 400000 in
theorem refPart_any (x y z i : Int) (w : World) : Calls Try.prog 49 #[.agg #[.int .i64 x, .int .i64 y, .int .i64 z], .int .i64 i] w (RetB (.int .i64 (part x y z i)) w) := by
  go_enter Try.func49, Try.ntmps49
  go_wp2
  all_goals go_ret
  all_goals refine RetB.of (int_eq ?_) (by repeat' (first | exact Below.refl _ _ | assumption | refine Below.xt ?_ ?_ _ | refine Below.alloc ?_ ?_ _ | refine Below.drew ?_ | refine Below.setCell ?_ ?_ _ | (simp; done) | (simp; omega)))
  all_goals
    unfold part
    go_tidy
    grind

set_option maxHeartbeats 800000 in
theorem refWithin_any (x y z m : Int) (w : World) (hm : 0 ≤ m) (hm' : m ≤ 4294967296) : Calls Try.prog 44 #[.agg #[.int .i64 x, .int .i64 y, .int .i64 z], .int .i64 m] w (RetB (.bool (ins m x y z)) w) := by
  go_enter Try.func44, Try.ntmps44
  go_wp2_with fail
  refine wp_loop_rounds 4 ?_
  repeat any_goals (rw [rounds_succ]; go_wp2_with (first
    | (go_at_call 49; refine (RetB.grown (refPart_any _ _ _ _ _)).mono ?_; rintro e' w' ⟨rfl, g, rfl⟩)))
  all_goals (go_ret; refine RetB.of (bool_eq ?_) (by repeat' (first | exact Below.refl _ _ | assumption | refine Below.xt ?_ ?_ _ | refine Below.alloc ?_ ?_ _ | refine Below.drew ?_ | refine Below.setCell ?_ ?_ _ | (simp; done) | (simp; omega))); simp [ins, within]; try omega)

set_option maxHeartbeats 400000 in
theorem refValid_any (x y z : Int) (w : World) : Calls Try.prog 13 #[.agg #[.int .i64 x, .int .i64 y, .int .i64 z]] w (RetB (.bool (vok x y z)) w) := by
  go_enter Try.func13, Try.ntmps13
  go_wp2_with (first
    | (go_at_call 44; refine (RetB.grown (refWithin_any x y z _ _ (by decide) (by decide))).mono ?_; rintro e' w' ⟨rfl, g, rfl⟩)
    | (refine wp_region_xt (by kernel_rfl) (by kernel_rfl) ?_; (repeat (go_big_quiet_step (first | (go_at_call 44; exact RetB.quiet (refWithin_any x y z _ _ (by decide) (by decide)))))); refine wpQuiet_nil ?_; intro g))
  go_ret
  exact RetB.of rfl (by repeat' (first | exact Below.refl _ _ | assumption | refine Below.xt ?_ ?_ _ | refine Below.alloc ?_ ?_ _ | refine Below.drew ?_ | refine Below.setCell ?_ ?_ _ | (simp; done) | (simp; omega)))
set_option maxHeartbeats 400000 in
theorem refPoint_any (x y z : Int) (w : World) : Calls Try.prog 35 #[.agg #[.int .i64 x, .int .i64 y, .int .i64 z]] w (RetB (.bool (ins 1048576 x y z)) w) := by
  go_enter Try.func35, Try.ntmps35
  go_wp2_with (first
    | (go_at_call 44; refine (RetB.grown (refWithin_any x y z _ _ (by decide) (by decide))).mono ?_; rintro e' w' ⟨rfl, g, rfl⟩)
    | (refine wp_region_xt (by kernel_rfl) (by kernel_rfl) ?_; (repeat (go_big_quiet_step (first | (go_at_call 44; exact RetB.quiet (refWithin_any x y z _ _ (by decide) (by decide)))))); refine wpQuiet_nil ?_; intro g))
  go_ret
  exact RetB.of rfl (by repeat' (first | exact Below.refl _ _ | assumption | refine Below.xt ?_ ?_ _ | refine Below.alloc ?_ ?_ _ | refine Below.drew ?_ | refine Below.setCell ?_ ?_ _ | (simp; done) | (simp; omega)))

/-- Numbers far from the ends of 64 bits. -/
def mild (x y z : Int) : Prop := (-1125899906842624 ≤ x ∧ x ≤ 1125899906842624) ∧ (-1125899906842624 ≤ y ∧ y ≤ 1125899906842624) ∧ (-1125899906842624 ≤ z ∧ z ≤ 1125899906842624)

set_option maxHeartbeats 400000 in
theorem refAdd_any (a b c x y z : Int) (w : World) (ha : mild a b c) (hx : mild x y z) : Calls Try.prog 17 #[.agg #[.int .i64 a, .int .i64 b, .int .i64 c], .agg #[.int .i64 x, .int .i64 y, .int .i64 z]] w (RetB (.agg #[.int .i64 (a + x), .int .i64 (b + y), .int .i64 (c + z)]) w) := by
  obtain ⟨⟨a1, a2⟩, ⟨b1, b2⟩, c1, c2⟩ := ha
  obtain ⟨⟨x1, x2⟩, ⟨y1, y2⟩, z1, z2⟩ := hx
  go_enter Try.func17, Try.ntmps17
  go_wp2
  refine bodyPost_ret (v := .agg #[.int .i64 (a + x), .int .i64 (b + y), .int .i64 (c + z)]) (by simp [results, Try.results17, go_sem]) rfl ?_
  exact RetB.of rfl (by repeat' (first | exact Below.refl _ _ | assumption | refine Below.xt ?_ ?_ _ | refine Below.alloc ?_ ?_ _ | refine Below.drew ?_ | refine Below.setCell ?_ ?_ _ | (simp; done) | (simp; omega)))
set_option maxHeartbeats 400000 in
theorem refNeg_any (a b c : Int) (w : World) (ha : mild a b c) : Calls Try.prog 46 #[.agg #[.int .i64 a, .int .i64 b, .int .i64 c]] w (RetB (.agg #[.int .i64 (-a), .int .i64 (-b), .int .i64 (-c)]) w) := by
  obtain ⟨⟨a1, a2⟩, ⟨b1, b2⟩, c1, c2⟩ := ha
  go_enter Try.func46, Try.ntmps46
  go_wp2
  refine bodyPost_ret (v := .agg #[.int .i64 (-a), .int .i64 (-b), .int .i64 (-c)]) (by simp [results, Try.results46, go_sem]) rfl ?_
  exact RetB.of rfl (by repeat' (first | exact Below.refl _ _ | assumption | refine Below.xt ?_ ?_ _ | refine Below.alloc ?_ ?_ _ | refine Below.drew ?_ | refine Below.setCell ?_ ?_ _ | (simp; done) | (simp; omega)))
theorem mild_neg {a b c : Int} (ha : mild a b c) : mild (-a) (-b) (-c) := by
  unfold mild at *; omega
theorem mild_vok {a b c : Int} (h : vok a b c = true) : mild a b c := by
  have h := vok_iff.1 h
  unfold mild at *; omega
theorem refSub_any (a b c x y z : Int) (w : World) (ha : mild a b c) (hx : mild x y z) : Calls Try.prog 18 #[.agg #[.int .i64 a, .int .i64 b, .int .i64 c], .agg #[.int .i64 x, .int .i64 y, .int .i64 z]] w (RetB (.agg #[.int .i64 (a - x), .int .i64 (b - y), .int .i64 (c - z)]) w) := by
  have e : ∀ p q : Int, p + -q = p - q := fun p q => by omega
  have c1 := fun w => refAdd_any a b c (-x) (-y) (-z) w ha (mild_neg hx)
  simp only [e] at c1
  have C1 := fun w => Lib.hid (c1 w)
  clear e c1
  go_enter Try.func18, Try.ntmps18
  go_wp2_with (first
    | (go_at_call 46; refine (RetB.grown (refNeg_any x y z _ hx)).mono ?_; rintro e' w' ⟨rfl, g, rfl⟩)
    | (go_at_call 17; refine (RetB.grown ((C1 _).out)).mono ?_; rintro e' w' ⟨rfl, g, rfl⟩)
    | (refine wp_region_xt (by kernel_rfl) (by kernel_rfl) ?_; (repeat (go_big_quiet_step (first | (go_at_call 46; exact RetB.quiet (refNeg_any x y z _ hx)) | (go_at_call 17; exact RetB.quiet ((C1 _).out))))); refine wpQuiet_nil ?_; intro g)
    | (refine wp_region_xt_tail 4 (by kernel_rfl) (by kernel_rfl) ?_; simp only [List.take_succ_cons, List.take_zero, List.drop_succ_cons, List.drop_zero]; (repeat (go_big_quiet_step (first | (go_at_call 46; exact RetB.quiet (refNeg_any x y z _ hx)) | (go_at_call 17; exact RetB.quiet ((C1 _).out))))); refine wpQuiet_nil ?_; intro g))
  refine bodyPost_ret (v := .agg #[.int .i64 (a - x), .int .i64 (b - y), .int .i64 (c - z)]) (by simp [results, Try.results18, go_sem]) rfl ?_
  exact RetB.of rfl (by repeat' (first | exact Below.refl _ _ | assumption | refine Below.xt ?_ ?_ _ | refine Below.alloc ?_ ?_ _ | refine Below.drew ?_ | refine Below.setCell ?_ ?_ _ | (simp; done) | (simp; omega)))

set_option maxHeartbeats 400000 in
theorem refDot_any (a b c x y z : Int) (w : World) (ha : -33554432 ≤ a ∧ a ≤ 33554432) (hb : -33554432 ≤ b ∧ b ≤ 33554432) (hc : -33554432 ≤ c ∧ c ≤ 33554432) (hx : -33554432 ≤ x ∧ x ≤ 33554432) (hy : -33554432 ≤ y ∧ y ≤ 33554432) (hz : -33554432 ≤ z ∧ z ≤ 33554432) :
    Calls Try.prog 23 #[.agg #[.int .i64 a, .int .i64 b, .int .i64 c], .agg #[.int .i64 x, .int .i64 y, .int .i64 z]] w (RetB (.int .i64 (a * x + b * y + c * z)) w) := by
  obtain ⟨p1, p2⟩ := prod2_le ha hx
  obtain ⟨p3, p4⟩ := prod2_le hb hy
  obtain ⟨p5, p6⟩ := prod2_le hc hz
  clear ha hb hc hx hy hz
  go_enter Try.func23, Try.ntmps23
  go_wp2_with fail
  refine wp_loop_rounds 4 ?_
  repeat any_goals (rw [rounds_succ]; go_wp2_with (first
    | (go_at_call 49; refine (RetB.grown (refPart_any _ _ _ _ _)).mono ?_; rintro e' w' ⟨rfl, g, rfl⟩)
    | (refine wp_region_xt (by kernel_rfl) (by kernel_rfl) ?_; (repeat (go_big_quiet_step (first | (go_at_call 49; exact RetB.quiet (refPart_any _ _ _ _ _))))); refine wpQuiet_nil ?_; intro g)))
  go_ret
  exact RetB.of (int_eq (by omega)) (by repeat' (first | exact Below.refl _ _ | assumption | refine Below.xt ?_ ?_ _ | refine Below.alloc ?_ ?_ _ | refine Below.drew ?_ | refine Below.setCell ?_ ?_ _ | (simp; done) | (simp; omega)))

end Go.Proofs.Ytjgfobknifobhaa

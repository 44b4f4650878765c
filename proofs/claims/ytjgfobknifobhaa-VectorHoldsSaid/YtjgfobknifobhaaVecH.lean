/- The walk of the theorem of stage 6. No condition. -/
import Derived.Test.YtjgfobknifobhaaVecK
import Derived.Test.YtjgfobknifobhaaVecHP
namespace Go.Proofs.Ytjgfobknifobhaa
open Go.RowKit
set_option linter.unusedVariables false

set_option maxHeartbeats 400000 in
theorem lawPart_ok (a x b : Int) (h : (a ≤ x ∧ x ≤ b) ∨ (b ≤ x ∧ x ≤ a)) (w : World) : Calls Try.prog 32 #[.int .i64 a, .int .i64 x, .int .i64 b] w (Ret (.bool true) w) := by
  rcases h with ⟨h1, h2⟩ | ⟨h1, h2⟩
  · go_enter Try.func32, Try.ntmps32
    go_wp2
    go_ret
    exact Ret.of rfl
  · by_cases h3 : a ≤ x
    · by_cases h4 : x ≤ b
      · go_enter Try.func32, Try.ntmps32
        go_wp2
        go_ret
        exact Ret.of rfl
      · go_enter Try.func32, Try.ntmps32
        go_wp2
        go_ret
        exact Ret.of rfl
    · go_enter Try.func32, Try.ntmps32
      go_wp2
      go_ret
      exact Ret.of rfl

/-- The parts are from -16384 to 16384. -/
def near (a : V3) : Prop := (-16384 ≤ a.x ∧ a.x ≤ 16384) ∧ (-16384 ≤ a.y ∧ a.y ≤ 16384) ∧ (-16384 ≤ a.z ∧ a.z ≤ 16384)

set_option maxRecDepth 100000 in
set_option maxHeartbeats 3200000 in
theorem VectorHolds_far (a b c : V3) (num den : Int) (w : World) (h : ¬ (((-16384 ≤ a.x ∧ a.x ≤ 16384) ∧ (-16384 ≤ a.y ∧ a.y ≤ 16384) ∧ (-16384 ≤ a.z ∧ a.z ≤ 16384)) ∧ ((-16384 ≤ b.x ∧ b.x ≤ 16384) ∧ (-16384 ≤ b.y ∧ b.y ≤ 16384) ∧ (-16384 ≤ b.z ∧ b.z ≤ 16384)) ∧ (-16384 ≤ c.x ∧ c.x ≤ 16384) ∧ (-16384 ≤ c.y ∧ c.y ≤ 16384) ∧ (-16384 ≤ c.z ∧ c.z ≤ 16384))) :
    Calls Try.prog 8 #[.agg #[.int .i64 a.x, .int .i64 a.y, .int .i64 a.z], .agg #[.int .i64 b.x, .int .i64 b.y, .int .i64 b.z], .agg #[.int .i64 c.x, .int .i64 c.y, .int .i64 c.z], .int .i64 num, .int .i64 den] w (RetB (.bool true) w) := by
  go_enter Try.func8, Try.ntmps8
  go_wp2_with fail
  refine wp_loop_rounds 4 ?_
  repeat any_goals (rw [rounds_succ]; go_wp2_with (first
    | (go_at_call 14; refine (RetB.grown (known_any _)).mono ?_; rintro e' w' ⟨rfl, g, rfl⟩)
    | (refine wp_region_xt (by kernel_rfl) (by kernel_rfl) ?_; (repeat (go_big_quiet_step (first | (go_at_call 14; exact RetB.quiet (known_any _))))); refine wpQuiet_nil ?_; intro g)))
  all_goals first | (exfalso; omega) | skip
  all_goals go_ret
  all_goals exact RetB.of rfl (by repeat' (first | exact Below.refl _ _ | assumption | refine Below.xt ?_ ?_ _ | refine Below.alloc ?_ ?_ _ | refine Below.drew ?_ | refine Below.setCell ?_ ?_ _ | (simp; done) | (simp; omega)))

theorem vok_near {a : V3} (h : near a) : vok a.x a.y a.z = true := by
  obtain ⟨⟨a1, a2⟩, ⟨a3, a4⟩, a5, a6⟩ := h
  exact vok_iff.2 ⟨⟨by omega, by omega⟩, ⟨by omega, by omega⟩, by omega, by omega⟩

theorem VectorHolds_facts {a b : V3} (ha : near a) (hb : near b) : ∃ P Q R D X Y : Int,
    (∀ w, Calls Try.prog 20 #[.agg #[.int .i64 a.x, .int .i64 a.y, .int .i64 a.z], .agg #[.int .i64 b.x, .int .i64 b.y, .int .i64 b.z]] w (RetB (.tuple #[.agg #[.int .i64 P, .int .i64 Q, .int .i64 R], .int .i64 0]) w)) ∧
    (∀ w, Calls Try.prog 19 #[.agg #[.int .i64 a.x, .int .i64 a.y, .int .i64 a.z], .agg #[.int .i64 b.x, .int .i64 b.y, .int .i64 b.z]] w (RetB (.tuple #[.int .i64 D, .int .i64 0]) w)) ∧
    (∀ w, Calls Try.prog 21 #[.agg #[.int .i64 a.x, .int .i64 a.y, .int .i64 a.z]] w (RetB (.tuple #[.int .i64 X, .int .i64 0]) w)) ∧
    (∀ w, Calls Try.prog 21 #[.agg #[.int .i64 b.x, .int .i64 b.y, .int .i64 b.z]] w (RetB (.tuple #[.int .i64 Y, .int .i64 0]) w)) ∧
    ((-536870912 ≤ P ∧ P ≤ 536870912) ∧ (-536870912 ≤ Q ∧ Q ≤ 536870912) ∧ (-536870912 ≤ R ∧ R ≤ 536870912)) ∧
    ((-805306368 ≤ D ∧ D ≤ 805306368) ∧ (-805306368 ≤ X ∧ X ≤ 805306368) ∧ (-805306368 ≤ Y ∧ Y ≤ 805306368)) ∧
    P * a.x + Q * a.y + R * a.z = 0 ∧ P * b.x + Q * b.y + R * b.z = 0 ∧ P * P + Q * Q + R * R + D * D = X * Y := by
  have va := vok_near ha
  have vb := vok_near hb
  obtain ⟨ha1, ha2, ha3⟩ := ha
  obtain ⟨hb1, hb2, hb3⟩ := hb
  have p1 := small_le ha2 hb3
  have p2 := small_le ha3 hb2
  have p3 := small_le ha3 hb1
  have p4 := small_le ha1 hb3
  have p5 := small_le ha1 hb2
  have p6 := small_le ha2 hb1
  have q1 := small_le ha1 hb1
  have q2 := small_le ha2 hb2
  have q3 := small_le ha3 hb3
  have r1 := small_le ha1 ha1
  have r2 := small_le ha2 ha2
  have r3 := small_le ha3 ha3
  have s1 := small_le hb1 hb1
  have s2 := small_le hb2 hb2
  have s3 := small_le hb3 hb3
  exact ⟨_, _, _, _, _, _, fun w => Cross_ok a.x a.y a.z b.x b.y b.z w va vb, fun w => Dot_ok a.x a.y a.z b.x b.y b.z w va vb, fun w => Length2_ok a.x a.y a.z w va, fun w => Length2_ok b.x b.y b.z w vb,
    ⟨by omega, by omega, by omega⟩, ⟨by omega, by omega, by omega⟩, cross_left .., cross_right .., lagrange ..⟩

set_option maxRecDepth 100000 in
set_option maxHeartbeats 3200000 in
theorem VectorHolds_near_no (a b c : V3) (num den : Int) (w : World) (ha : near a) (hb : near b) (hc : near c) (hr : ¬ (1 ≤ den ∧ den ≤ 4294967296 ∧ 0 ≤ num ∧ num ≤ den)) :
    Calls Try.prog 8 #[.agg #[.int .i64 a.x, .int .i64 a.y, .int .i64 a.z], .agg #[.int .i64 b.x, .int .i64 b.y, .int .i64 b.z], .agg #[.int .i64 c.x, .int .i64 c.y, .int .i64 c.z], .int .i64 num, .int .i64 den] w (RetB (.bool true) w) := by
  have va := vok_near ha
  have vb := vok_near hb
  have vc := vok_near hc
  obtain ⟨P, Q, R, D, X, Y, c1, c2, c3, c4, ⟨bP, bQ, bR⟩, ⟨bD, bX, bY⟩, e1, e2, e3⟩ := VectorHolds_facts ha hb
  have hs := sgn_le (turn2 a.x a.y b.x b.y c.x c.y)
  have c5 := fun w => Turn_ok a.x a.y a.z b.x b.y b.z c.x c.y c.z w va vb vc
  have c6 := fun w => Turn_ok b.x b.y b.z a.x a.y a.z c.x c.y c.z w vb va vc
  simp only [turn_swap a.x a.y b.x b.y c.x c.y, sgn_neg] at c6
  generalize sgn (turn2 a.x a.y b.x b.y c.x c.y) = S at *
  obtain ⟨⟨a1, a2⟩, ⟨a3, a4⟩, a5, a6⟩ := ha
  obtain ⟨⟨b1, b2⟩, ⟨b3, b4⟩, b5, b6⟩ := hb
  obtain ⟨⟨d1, d2⟩, ⟨d3, d4⟩, d5, d6⟩ := hc
  obtain ⟨s1, s2⟩ := hs
  obtain ⟨m1, m2⟩ := side_le bP ⟨a1, a2⟩
  obtain ⟨m3, m4⟩ := side_le bQ ⟨a3, a4⟩
  obtain ⟨m5, m6⟩ := side_le bR ⟨a5, a6⟩
  obtain ⟨n1, n2⟩ := side_le bP ⟨b1, b2⟩
  obtain ⟨n3, n4⟩ := side_le bQ ⟨b3, b4⟩
  obtain ⟨n5, n6⟩ := side_le bR ⟨b5, b6⟩
  have bP' : -805306368 ≤ P ∧ P ≤ 805306368 := by omega
  have bQ' : -805306368 ≤ Q ∧ Q ≤ 805306368 := by omega
  have bR' : -805306368 ≤ R ∧ R ≤ 805306368 := by omega
  obtain ⟨k1, k2⟩ := square_le bP' bP'
  obtain ⟨k3, k4⟩ := square_le bQ' bQ'
  obtain ⟨k5, k6⟩ := square_le bR' bR'
  obtain ⟨k7, k8⟩ := square_le bD bD
  obtain ⟨k9, k0⟩ := square_le bX bY
  have t1 : (P * a.x + Q * a.y + R * a.z != 0) = false := by rw [e1]; rfl
  have t2 : (P * b.x + Q * b.y + R * b.z != 0) = false := by rw [e2]; rfl
  have t3 : (P * P + Q * Q + R * R + D * D != X * Y) = false := by rw [e3]; simp
  have C1 := fun w => Lib.hid (c1 w)
  have C2 := fun w => Lib.hid (c2 w)
  have C3 := fun w => Lib.hid (c3 w)
  have C4 := fun w => Lib.hid (c4 w)
  have C5 := fun w => Lib.hid (c5 w)
  have C6 := fun w => Lib.hid (c6 w)
  clear c1 c2 c3 c4 c5 c6 e1 e2 e3 bP bQ bR bD bX bY bP' bQ' bR'
  go_enter Try.func8, Try.ntmps8
  go_wp2_with fail
  refine wp_loop_rounds 4 ?_
  repeat any_goals (rw [rounds_succ]; go_wp2_with (first
    | (go_at_call 20; refine (RetB.grown ((C1 _).out)).mono ?_; rintro e' w' ⟨rfl, g, rfl⟩)
    | (go_at_call 19; refine (RetB.grown ((C2 _).out)).mono ?_; rintro e' w' ⟨rfl, g, rfl⟩)
    | (go_at_call 21; (with_reducible refine (RetB.grown ((C3 _).out)).mono ?_); rintro e' w' ⟨rfl, g, rfl⟩)
    | (go_at_call 21; (with_reducible refine (RetB.grown ((C4 _).out)).mono ?_); rintro e' w' ⟨rfl, g, rfl⟩)
    | (go_at_call 28; (with_reducible refine (RetB.grown ((C5 _).out)).mono ?_); rintro e' w' ⟨rfl, g, rfl⟩)
    | (go_at_call 28; (with_reducible refine (RetB.grown ((C6 _).out)).mono ?_); rintro e' w' ⟨rfl, g, rfl⟩)
    | (go_at_call 14; refine (RetB.grown (known_any _)).mono ?_; rintro e' w' ⟨rfl, g, rfl⟩)
    | (refine wp_region_xt (by kernel_rfl) (by kernel_rfl) ?_; (repeat (go_big_quiet_step (first | (go_at_call 20; exact RetB.quiet ((C1 _).out)) | (go_at_call 19; exact RetB.quiet ((C2 _).out)) | (go_at_call 21; (with_reducible exact RetB.quiet ((C3 _).out))) | (go_at_call 21; (with_reducible exact RetB.quiet ((C4 _).out))) | (go_at_call 28; (with_reducible exact RetB.quiet ((C5 _).out))) | (go_at_call 28; (with_reducible exact RetB.quiet ((C6 _).out))) | (go_at_call 14; exact RetB.quiet (known_any _))))); refine wpQuiet_nil ?_; intro g)))
  all_goals first | (exfalso; omega) | skip
  all_goals go_ret
  all_goals exact RetB.of rfl (by repeat' (first | exact Below.refl _ _ | assumption | refine Below.xt ?_ ?_ _ | refine Below.alloc ?_ ?_ _ | refine Below.drew ?_ | refine Below.setCell ?_ ?_ _ | (simp; done) | (simp; omega)))
set_option maxRecDepth 100000 in
set_option maxHeartbeats 3200000 in
theorem VectorHolds_near_yes (a b c : V3) (num den : Int) (w : World) (ha : near a) (hb : near b) (hc : near c) (r1 : 1 ≤ den) (r2 : den ≤ 4294967296) (r3 : 0 ≤ num) (r4 : num ≤ den) :
    Calls Try.prog 8 #[.agg #[.int .i64 a.x, .int .i64 a.y, .int .i64 a.z], .agg #[.int .i64 b.x, .int .i64 b.y, .int .i64 b.z], .agg #[.int .i64 c.x, .int .i64 c.y, .int .i64 c.z], .int .i64 num, .int .i64 den] w (RetB (.bool true) w) := by
  have va := vok_near ha
  have vb := vok_near hb
  have vc := vok_near hc
  obtain ⟨P, Q, R, D, X, Y, c1, c2, c3, c4, ⟨bP, bQ, bR⟩, ⟨bD, bX, bY⟩, e1, e2, e3⟩ := VectorHolds_facts ha hb
  have hs := sgn_le (turn2 a.x a.y b.x b.y c.x c.y)
  have c5 := fun w => Turn_ok a.x a.y a.z b.x b.y b.z c.x c.y c.z w va vb vc
  have c6 := fun w => Turn_ok b.x b.y b.z a.x a.y a.z c.x c.y c.z w vb va vc
  simp only [turn_swap a.x a.y b.x b.y c.x c.y, sgn_neg] at c6
  generalize sgn (turn2 a.x a.y b.x b.y c.x c.y) = S at *
  obtain ⟨⟨a1, a2⟩, ⟨a3, a4⟩, a5, a6⟩ := ha
  obtain ⟨⟨b1, b2⟩, ⟨b3, b4⟩, b5, b6⟩ := hb
  obtain ⟨⟨d1, d2⟩, ⟨d3, d4⟩, d5, d6⟩ := hc
  obtain ⟨s1, s2⟩ := hs
  obtain ⟨m1, m2⟩ := side_le bP ⟨a1, a2⟩
  obtain ⟨m3, m4⟩ := side_le bQ ⟨a3, a4⟩
  obtain ⟨m5, m6⟩ := side_le bR ⟨a5, a6⟩
  obtain ⟨n1, n2⟩ := side_le bP ⟨b1, b2⟩
  obtain ⟨n3, n4⟩ := side_le bQ ⟨b3, b4⟩
  obtain ⟨n5, n6⟩ := side_le bR ⟨b5, b6⟩
  have bP' : -805306368 ≤ P ∧ P ≤ 805306368 := by omega
  have bQ' : -805306368 ≤ Q ∧ Q ≤ 805306368 := by omega
  have bR' : -805306368 ≤ R ∧ R ≤ 805306368 := by omega
  obtain ⟨k1, k2⟩ := square_le bP' bP'
  obtain ⟨k3, k4⟩ := square_le bQ' bQ'
  obtain ⟨k5, k6⟩ := square_le bR' bR'
  obtain ⟨k7, k8⟩ := square_le bD bD
  obtain ⟨k9, k0⟩ := square_le bX bY
  have t1 : (P * a.x + Q * a.y + R * a.z != 0) = false := by rw [e1]; rfl
  have t2 : (P * b.x + Q * b.y + R * b.z != 0) = false := by rw [e2]; rfl
  have t3 : (P * P + Q * Q + R * R + D * D != X * Y) = false := by rw [e3]; simp
  have C1 := fun w => Lib.hid (c1 w)
  have C2 := fun w => Lib.hid (c2 w)
  have C3 := fun w => Lib.hid (c3 w)
  have C4 := fun w => Lib.hid (c4 w)
  have C5 := fun w => Lib.hid (c5 w)
  have C6 := fun w => Lib.hid (c6 w)
  have hr : ratio num den = true := ratio_iff.2 ⟨r1, r2, r3, r4⟩
  have hr0 : ratio 0 den = true := ratio_iff.2 ⟨r1, r2, by omega, by omega⟩
  have hr1 : ratio den den = true := ratio_iff.2 ⟨r1, r2, by omega, by omega⟩
  have c7 := fun w => Between_ok a.x a.y a.z b.x b.y b.z num den w va vb hr
  have c8 := fun w => Between_ok a.x a.y a.z b.x b.y b.z 0 den w va vb hr0
  have c9 := fun w => Between_ok a.x a.y a.z b.x b.y b.z den den w va vb hr1
  simp only [mid_zero r1] at c8
  simp only [mid_end r1] at c9
  have i1 := mid_in (a := a.x) (x := b.x) r1 r3 r4
  have i2 := mid_in (a := a.y) (x := b.y) r1 r3 r4
  have i3 := mid_in (a := a.z) (x := b.z) r1 r3 r4
  generalize mid a.x b.x num den = u1 at *
  generalize mid a.y b.y num den = u2 at *
  generalize mid a.z b.z num den = u3 at *
  have C7 := fun w => Lib.hid (c7 w)
  have C8 := fun w => Lib.hid (c8 w)
  have C9 := fun w => Lib.hid (c9 w)
  have I1 := fun w => Lib.hid (lawPart_ok _ _ _ i1 w)
  have I2 := fun w => Lib.hid (lawPart_ok _ _ _ i2 w)
  have I3 := fun w => Lib.hid (lawPart_ok _ _ _ i3 w)
  clear hr hr0 hr1 c7 c8 c9 i1 i2 i3
  clear c1 c2 c3 c4 c5 c6 e1 e2 e3 bP bQ bR bD bX bY bP' bQ' bR'
  go_enter Try.func8, Try.ntmps8
  go_wp2_with fail
  refine wp_loop_rounds 4 ?_
  repeat any_goals (rw [rounds_succ]; go_wp2_with (first
    | (go_at_call 20; refine (RetB.grown ((C1 _).out)).mono ?_; rintro e' w' ⟨rfl, g, rfl⟩)
    | (go_at_call 19; refine (RetB.grown ((C2 _).out)).mono ?_; rintro e' w' ⟨rfl, g, rfl⟩)
    | (go_at_call 21; (with_reducible refine (RetB.grown ((C3 _).out)).mono ?_); rintro e' w' ⟨rfl, g, rfl⟩)
    | (go_at_call 21; (with_reducible refine (RetB.grown ((C4 _).out)).mono ?_); rintro e' w' ⟨rfl, g, rfl⟩)
    | (go_at_call 28; (with_reducible refine (RetB.grown ((C5 _).out)).mono ?_); rintro e' w' ⟨rfl, g, rfl⟩)
    | (go_at_call 28; (with_reducible refine (RetB.grown ((C6 _).out)).mono ?_); rintro e' w' ⟨rfl, g, rfl⟩)
    | (go_at_call 14; refine (RetB.grown (known_any _)).mono ?_; rintro e' w' ⟨rfl, g, rfl⟩)
    | (go_at_call 26; (with_reducible refine (RetB.grown ((C7 _).out)).mono ?_); rintro e' w' ⟨rfl, g, rfl⟩)
    | (go_at_call 26; (with_reducible refine (RetB.grown ((C8 _).out)).mono ?_); rintro e' w' ⟨rfl, g, rfl⟩)
    | (go_at_call 26; (with_reducible refine (RetB.grown ((C9 _).out)).mono ?_); rintro e' w' ⟨rfl, g, rfl⟩)
    | (go_at_call 32; (with_reducible refine (RetB.grown (Ret.asB (I1 _).out)).mono ?_); rintro e' w' ⟨rfl, g, rfl⟩)
    | (go_at_call 32; (with_reducible refine (RetB.grown (Ret.asB (I2 _).out)).mono ?_); rintro e' w' ⟨rfl, g, rfl⟩)
    | (go_at_call 32; (with_reducible refine (RetB.grown (Ret.asB (I3 _).out)).mono ?_); rintro e' w' ⟨rfl, g, rfl⟩)
    | (refine wp_region_xt (by kernel_rfl) (by kernel_rfl) ?_; (repeat (go_big_quiet_step (first | (go_at_call 20; exact RetB.quiet ((C1 _).out)) | (go_at_call 19; exact RetB.quiet ((C2 _).out)) | (go_at_call 21; (with_reducible exact RetB.quiet ((C3 _).out))) | (go_at_call 21; (with_reducible exact RetB.quiet ((C4 _).out))) | (go_at_call 28; (with_reducible exact RetB.quiet ((C5 _).out))) | (go_at_call 28; (with_reducible exact RetB.quiet ((C6 _).out))) | (go_at_call 14; exact RetB.quiet (known_any _)) | (go_at_call 26; (with_reducible exact RetB.quiet ((C7 _).out))) | (go_at_call 26; (with_reducible exact RetB.quiet ((C8 _).out))) | (go_at_call 26; (with_reducible exact RetB.quiet ((C9 _).out))) | (go_at_call 32; (with_reducible exact RetB.quiet (Ret.asB (I1 _).out))) | (go_at_call 32; (with_reducible exact RetB.quiet (Ret.asB (I2 _).out))) | (go_at_call 32; (with_reducible exact RetB.quiet (Ret.asB (I3 _).out)))))); refine wpQuiet_nil ?_; intro g)))
  go_ret
  exact RetB.of rfl (by repeat' (first | exact Below.refl _ _ | assumption | refine Below.xt ?_ ?_ _ | refine Below.alloc ?_ ?_ _ | refine Below.drew ?_ | refine Below.setCell ?_ ?_ _ | (simp; done) | (simp; omega)))

theorem VectorHolds_walk (a b c : V3) (num den : Int) (w : World) : Calls Try.prog 8 #[.agg #[.int .i64 a.x, .int .i64 a.y, .int .i64 a.z], .agg #[.int .i64 b.x, .int .i64 b.y, .int .i64 b.z], .agg #[.int .i64 c.x, .int .i64 c.y, .int .i64 c.z], .int .i64 num, .int .i64 den] w (RetB (.bool true) w) := by
  by_cases h : near a ∧ near b ∧ near c
  · obtain ⟨ha, hb, hc⟩ := h
    by_cases hr : 1 ≤ den ∧ den ≤ 4294967296 ∧ 0 ≤ num ∧ num ≤ den
    · exact VectorHolds_near_yes a b c num den w ha hb hc hr.1 hr.2.1 hr.2.2.1 hr.2.2.2
    · exact VectorHolds_near_no a b c num den w ha hb hc hr
  · exact VectorHolds_far a b c num den w h

end Go.Proofs.Ytjgfobknifobhaa

/- Walks: mixtures of colours, dimmed ones and distances, by the program and by the reference. Conditions stand in each theorem. -/
import Derived.Test.YtkekhnclbkachaaProg
import Derived.Test.YtkekhnclbkachaaEffP
import Derived.Test.YtkekhnclbkachaaMem
import Derived.Test.YtkekhnclbkachaaTail
namespace Go.Proofs.Ytkekhnclbkachaa
open Go.RowKit
set_option linter.unusedVariables false
set_option linter.unusedSimpArgs false

set_option maxHeartbeats 400000 in
theorem mix_any (a b num den : Int) (w : World) (ha : U8 a) (hb : U8 b) (hd : 1 ≤ den) (hd' : den ≤ 3600000) (h0 : 0 ≤ num) (h1 : num ≤ den) :
    Calls Try.prog 33 #[.int .u8 a, .int .u8 b, .int .i64 num, .int .i64 den] w (Ret (.int .u8 (mixPart a b num den)) w) := by
  obtain ⟨p1, p2, p3, p4⟩ := mixPart_prods ha hb hd hd' h0 h1
  obtain ⟨m1, m2⟩ := mixPart_le ha hb hd h0 h1
  obtain ⟨a1, a2⟩ := ha
  obtain ⟨b1, b2⟩ := hb
  unfold mixPart at m1 m2 ⊢
  go_enter Try.func33, Try.ntmps33
  go_wp2
  go_ret
  exact Ret.of (int_eq rfl)

theorem part_facts {a b num den : Int} (ha : U8 a) (hb : U8 b) (hd : 1 ≤ den) (hd' : den ≤ 3600000) (h0 : 0 ≤ num) (h1 : num ≤ den) :
    0 ≤ a * den ∧ a * den ≤ 918000000 ∧ -918000000 ≤ (b - a) * num ∧ (b - a) * num ≤ 918000000 := by
  unfold U8 at *
  have e1 := mul_le_of (a := a) (b := den) (A := 255) (B := 3600000) (by omega) (by omega)
  have e2 := mul_le_of (a := b - a) (b := num) (A := 255) (B := 3600000) (by omega) (by omega)
  have e3 : 0 ≤ a * den := Int.mul_nonneg ha.1 (by omega)
  omega

set_option maxHeartbeats 400000 in
theorem part_any (a b num den : Int) (w : World) (ha : U8 a) (hb : U8 b) (hd : 1 ≤ den) (hd' : den ≤ 3600000) (h0 : 0 ≤ num) (h1 : num ≤ den) :
    Calls Try.prog 34 #[.int .i64 a, .int .i64 b, .int .i64 num, .int .i64 den] w (Ret (.int .u8 (mixPart a b num den)) w) := by
  obtain ⟨p1, p2, p3, p4⟩ := part_facts ha hb hd hd' h0 h1
  obtain ⟨m1, m2⟩ := mixPart_le ha hb hd h0 h1
  obtain ⟨a1, a2⟩ := ha
  obtain ⟨b1, b2⟩ := hb
  have hs := fun n => part_search (a := a) (b := b) (num := num) hd n
  have HS := Lib.hid hs
  clear hs
  generalize mixPart a b num den = M at *
  go_enter Try.func34, Try.ntmps34
  go_wp2

  go_loop [9] (fun n => ∃ k : Int, 0 ≤ k ∧ k ≤ M ∧ n = .int .i64 k) (fun n => (256 - intOf n).toNat)
  case atStart => exact ⟨0, by omega, by omega, rfl⟩
  case round =>
    obtain ⟨k, hk0, hk1, rfl⟩ := hrel
    have q1 : 0 ≤ 2 * k * den := Int.mul_nonneg (by omega) (by omega)
    have q2 := (mul_le_of (a := 2 * k) (b := den) (A := 510) (B := 3600000) (by omega) (by omega)).2
    by_cases hlt : k < M
    · have t1 := ((HS.out k).1 hlt)
      go_wp2
      go_round
      case rel => exact ⟨k + 1, by omega, by omega, rfl⟩
      case measure => simp [intOf]; omega
    · have t1 := ((HS.out k).2 (by omega)).1
      have t2 := ((HS.out k).2 (by omega)).2
      go_wp2
      go_ret
      exact Ret.of (int_eq (by omega))

def mixErr (num den : Int) : Int := if mixOk num den then 0 else 2
def mixVal (a b : Col) (num den : Int) : Col := if mixOk num den then mixCol a b num den else black

theorem mixOk_iff {num den : Int} : mixOk num den = true ↔ 1 ≤ den ∧ den ≤ 3600000 ∧ 0 ≤ num ∧ num ≤ den := by simp [mixOk]

set_option maxHeartbeats 400000 in
theorem Mix_ok (a b : Col) (num den : Int) (w : World) (ha : a.ok) (hb : b.ok) (h1 : 1 ≤ den) (h2 : den ≤ 3600000) (h3 : 0 ≤ num) (h4 : num ≤ den) :
    Calls Try.prog 13 #[.agg #[.int .u8 a.r, .int .u8 a.g, .int .u8 a.b], .agg #[.int .u8 b.r, .int .u8 b.g, .int .u8 b.b], .int .i64 num, .int .i64 den] w (RetB (.tuple #[.agg #[.int .u8 (mixCol a b num den).r, .int .u8 (mixCol a b num den).g, .int .u8 (mixCol a b num den).b], .int .i64 0]) w) := by
  have c1 := fun w => Lib.hid (mix_any a.r b.r num den w ha.1 hb.1 h1 h2 h3 h4)
  have c2 := fun w => Lib.hid (mix_any a.g b.g num den w ha.2.1 hb.2.1 h1 h2 h3 h4)
  have c3 := fun w => Lib.hid (mix_any a.b b.b num den w ha.2.2 hb.2.2 h1 h2 h3 h4)
  clear ha hb
  go_enter Try.func13, Try.ntmps13
  go_wp2_with fail
  refine wp_region_xt_tail 22 (by kernel_rfl) (by kernel_rfl) ?_
  simp only [List.take_succ_cons, List.take_zero, List.drop_succ_cons, List.drop_zero]
  repeat (go_big_quiet_step (first | (go_at_call 33; first | (with_reducible exact Ret.quiet (c1 _).out) | (with_reducible exact Ret.quiet (c2 _).out) | (with_reducible exact Ret.quiet (c3 _).out))))
  refine wpQuiet_nil ?_
  intro g
  go_wp2
  refine bodyPost_ret (v := .tuple #[.agg #[.int .u8 (mixPart a.r b.r num den), .int .u8 (mixPart a.g b.g num den), .int .u8 (mixPart a.b b.b num den)], .int .i64 0]) (by simp [results, Try.results13, go_sem]) rfl ?_
  exact RetB.of rfl (by repeat' (first | exact Below.refl _ _ | assumption | refine Below.xt ?_ ?_ _ | refine Below.alloc ?_ ?_ _ | refine Below.drew ?_ | refine Below.setCell ?_ ?_ _ | (simp; done) | (simp; omega)))

set_option maxHeartbeats 400000 in
theorem Mix_bad (a b : Col) (num den : Int) (w : World) (h : mixOk num den = false) :
    Calls Try.prog 13 #[.agg #[.int .u8 a.r, .int .u8 a.g, .int .u8 a.b], .agg #[.int .u8 b.r, .int .u8 b.g, .int .u8 b.b], .int .i64 num, .int .i64 den] w (RetB (.tuple #[.agg #[.int .u8 0, .int .u8 0, .int .u8 0], .int .i64 2]) w) := by
  have h' : ¬ (1 ≤ den ∧ den ≤ 3600000 ∧ 0 ≤ num ∧ num ≤ den) := by rw [← mixOk_iff, h]; simp
  clear h
  go_enter Try.func13, Try.ntmps13
  go_wp2_with fail
  all_goals go_tidy
  all_goals first | (exfalso; omega) | skip
  all_goals
    refine bodyPost_ret (v := .tuple #[.agg #[.int .u8 0, .int .u8 0, .int .u8 0], .int .i64 2]) (by simp [results, Try.results13, go_sem]) rfl ?_
    exact RetB.of rfl (by repeat' (first | exact Below.refl _ _ | assumption | refine Below.xt ?_ ?_ _ | refine Below.alloc ?_ ?_ _ | refine Below.drew ?_ | refine Below.setCell ?_ ?_ _ | (simp; done) | (simp; omega)))

set_option maxHeartbeats 400000 in
theorem refMix_ok (a b : Col) (num den : Int) (w : World) (ha : a.ok) (hb : b.ok) (h1 : 1 ≤ den) (h2 : den ≤ 3600000) (h3 : 0 ≤ num) (h4 : num ≤ den) :
    Calls Try.prog 14 #[.agg #[.int .u8 a.r, .int .u8 a.g, .int .u8 a.b], .agg #[.int .u8 b.r, .int .u8 b.g, .int .u8 b.b], .int .i64 num, .int .i64 den] w (RetB (.tuple #[.agg #[.int .u8 (mixCol a b num den).r, .int .u8 (mixCol a b num den).g, .int .u8 (mixCol a b num den).b], .int .i64 0]) w) := by
  have c1 := fun w => Lib.hid (part_any a.r b.r num den w ha.1 hb.1 h1 h2 h3 h4)
  have c2 := fun w => Lib.hid (part_any a.g b.g num den w ha.2.1 hb.2.1 h1 h2 h3 h4)
  have c3 := fun w => Lib.hid (part_any a.b b.b num den w ha.2.2 hb.2.2 h1 h2 h3 h4)
  have a1 := ha.1.1
  have a2 := ha.1.2
  have a3 := ha.2.1.1
  have a4 := ha.2.1.2
  have a5 := ha.2.2.1
  have a6 := ha.2.2.2
  have b1 := hb.1.1
  have b2 := hb.1.2
  have b3 := hb.2.1.1
  have b4 := hb.2.1.2
  have b5 := hb.2.2.1
  have b6 := hb.2.2.2
  clear ha hb
  go_enter Try.func14, Try.ntmps14
  go_wp2_with fail

  refine wp_region_xt_tail 28 (by kernel_rfl) (by kernel_rfl) ?_
  simp only [List.take_succ_cons, List.take_zero, List.drop_succ_cons, List.drop_zero]
  repeat (go_big_quiet_step (first | (go_at_call 34; first | (with_reducible exact Ret.quiet (c1 _).out) | (with_reducible exact Ret.quiet (c2 _).out) | (with_reducible exact Ret.quiet (c3 _).out))))
  refine wpQuiet_nil ?_
  intro g
  go_wp2
  refine bodyPost_ret (v := .tuple #[.agg #[.int .u8 (mixPart a.r b.r num den), .int .u8 (mixPart a.g b.g num den), .int .u8 (mixPart a.b b.b num den)], .int .i64 0]) (by simp [results, Try.results14, go_sem]) rfl ?_
  exact RetB.of rfl (by repeat' (first | exact Below.refl _ _ | assumption | refine Below.xt ?_ ?_ _ | refine Below.alloc ?_ ?_ _ | refine Below.drew ?_ | refine Below.setCell ?_ ?_ _ | (simp; done) | (simp; omega)))

set_option maxHeartbeats 400000 in
theorem refMix_bad (a b : Col) (num den : Int) (w : World) (h : mixOk num den = false) :
    Calls Try.prog 14 #[.agg #[.int .u8 a.r, .int .u8 a.g, .int .u8 a.b], .agg #[.int .u8 b.r, .int .u8 b.g, .int .u8 b.b], .int .i64 num, .int .i64 den] w (RetB (.tuple #[.agg #[.int .u8 0, .int .u8 0, .int .u8 0], .int .i64 2]) w) := by
  have h' : ¬ (1 ≤ den ∧ den ≤ 3600000 ∧ 0 ≤ num ∧ num ≤ den) := by rw [← mixOk_iff, h]; simp
  clear h
  go_enter Try.func14, Try.ntmps14
  go_wp2_with fail
  all_goals go_tidy
  all_goals first | (exfalso; omega) | skip
  all_goals
    refine bodyPost_ret (v := .tuple #[.agg #[.int .u8 0, .int .u8 0, .int .u8 0], .int .i64 2]) (by simp [results, Try.results14, go_sem]) rfl ?_
    exact RetB.of rfl (by repeat' (first | exact Below.refl _ _ | assumption | refine Below.xt ?_ ?_ _ | refine Below.alloc ?_ ?_ _ | refine Below.drew ?_ | refine Below.setCell ?_ ?_ _ | (simp; done) | (simp; omega)))
theorem Mix_any (a b : Col) (num den : Int) (w : World) (ha : a.ok) (hb : b.ok) :
    Calls Try.prog 13 #[.agg #[.int .u8 a.r, .int .u8 a.g, .int .u8 a.b], .agg #[.int .u8 b.r, .int .u8 b.g, .int .u8 b.b], .int .i64 num, .int .i64 den] w (RetB (.tuple #[.agg #[.int .u8 (mixVal a b num den).r, .int .u8 (mixVal a b num den).g, .int .u8 (mixVal a b num den).b], .int .i64 (mixErr num den)]) w) := by
  unfold mixVal mixErr
  by_cases h : mixOk num den = true
  · rw [if_pos h, if_pos h]
    obtain ⟨h1, h2, h3, h4⟩ := mixOk_iff.1 h
    exact Mix_ok a b num den w ha hb h1 h2 h3 h4
  · rw [if_neg h, if_neg h]
    exact Mix_bad a b num den w (by simpa using h)
theorem refMix_any (a b : Col) (num den : Int) (w : World) (ha : a.ok) (hb : b.ok) :
    Calls Try.prog 14 #[.agg #[.int .u8 a.r, .int .u8 a.g, .int .u8 a.b], .agg #[.int .u8 b.r, .int .u8 b.g, .int .u8 b.b], .int .i64 num, .int .i64 den] w (RetB (.tuple #[.agg #[.int .u8 (mixVal a b num den).r, .int .u8 (mixVal a b num den).g, .int .u8 (mixVal a b num den).b], .int .i64 (mixErr num den)]) w) := by
  unfold mixVal mixErr
  by_cases h : mixOk num den = true
  · rw [if_pos h, if_pos h]
    obtain ⟨h1, h2, h3, h4⟩ := mixOk_iff.1 h
    exact refMix_ok a b num den w ha hb h1 h2 h3 h4
  · rw [if_neg h, if_neg h]
    exact refMix_bad a b num den w (by simpa using h)
theorem black_ok : black.ok := by unfold Col.ok U8 black; simp
theorem mixVal_ok {a b : Col} (ha : a.ok) (hb : b.ok) (num den : Int) : (mixVal a b num den).ok := by
  unfold mixVal
  split
  · rename_i h
    obtain ⟨h1, h2, h3, h4⟩ := mixOk_iff.1 h
    exact mixCol_ok ha hb h1 h3 h4
  · exact black_ok
set_option maxHeartbeats 400000 in
theorem Dim_any (c : Col) (num den : Int) (w : World) (hc : c.ok) :
    Calls Try.prog 15 #[.agg #[.int .u8 c.r, .int .u8 c.g, .int .u8 c.b], .int .i64 num, .int .i64 den] w (RetB (.tuple #[.agg #[.int .u8 (mixVal black c num den).r, .int .u8 (mixVal black c num den).g, .int .u8 (mixVal black c num den).b], .int .i64 (mixErr num den)]) w) := by
  have C := fun w => Lib.hid (Mix_any black c num den w black_ok hc)
  simp only [show black.r = 0 from rfl, show black.g = 0 from rfl, show black.b = 0 from rfl] at C
  clear hc
  generalize mixVal black c num den = v at *
  generalize mixErr num den = e at *
  go_enter Try.func15, Try.ntmps15
  go_wp2_with (first
    | (go_at_call 13; refine (RetB.grown ((C _).out)).mono ?_; rintro e' w' ⟨rfl, g, rfl⟩)
    | (refine wp_region_xt (by kernel_rfl) (by kernel_rfl) ?_; (repeat (go_big_quiet_step (first | (go_at_call 13; exact RetB.quiet ((C _).out))))); refine wpQuiet_nil ?_; intro g))
  refine bodyPost_ret (v := .tuple #[.agg #[.int .u8 v.r, .int .u8 v.g, .int .u8 v.b], .int .i64 e]) (by simp [results, Try.results15, go_sem]) rfl ?_
  exact RetB.of rfl (by repeat' (first | exact Below.refl _ _ | assumption | refine Below.xt ?_ ?_ _ | refine Below.alloc ?_ ?_ _ | refine Below.drew ?_ | refine Below.setCell ?_ ?_ _ | (simp; done) | (simp; omega)))

/-! ### Distances -/
def sqd (a b : Int) : Int := (a - b) * (a - b)
def cd2 (a b : Col) : Int := sqd a.r b.r + sqd a.g b.g + sqd a.b b.b
theorem sqd_le {a b : Int} (ha : U8 a) (hb : U8 b) : 0 ≤ sqd a b ∧ sqd a b ≤ 65025 := by
  unfold U8 at *
  have h := mul_le_of (a := a - b) (b := a - b) (A := 255) (B := 255) (by omega) (by omega)
  refine ⟨?_, h.2⟩
  unfold sqd
  rcases Int.le_total 0 (a - b) with h | h
  · exact Int.mul_nonneg h h
  · exact Int.mul_nonneg_of_nonpos_of_nonpos h h
theorem cd2_le {a b : Col} (ha : a.ok) (hb : b.ok) : 0 ≤ cd2 a b ∧ cd2 a b ≤ 195075 := by
  have h1 := sqd_le ha.1 hb.1
  have h2 := sqd_le ha.2.1 hb.2.1
  have h3 := sqd_le ha.2.2 hb.2.2
  unfold cd2; omega
set_option maxHeartbeats 400000 in
theorem square_any (a b : Int) (w : World) (ha : U8 a) (hb : U8 b) : Calls Try.prog 38 #[.int .u8 a, .int .u8 b] w (Ret (.int .i64 (sqd a b)) w) := by
  obtain ⟨s1, s2⟩ := sqd_le ha hb
  obtain ⟨a1, a2⟩ := ha
  obtain ⟨b1, b2⟩ := hb
  unfold sqd at *
  go_enter Try.func38, Try.ntmps38
  go_wp2
  go_ret
  exact Ret.of rfl
set_option maxHeartbeats 800000 in
theorem Dist_any (a b : Col) (w : World) (ha : a.ok) (hb : b.ok) : Calls Try.prog 21 #[.agg #[.int .u8 a.r, .int .u8 a.g, .int .u8 a.b], .agg #[.int .u8 b.r, .int .u8 b.g, .int .u8 b.b]] w (RetB (.int .i64 (cd2 a b)) w) := by
  obtain ⟨r1, r2⟩ := sqd_le ha.1 hb.1
  obtain ⟨g1, g2⟩ := sqd_le ha.2.1 hb.2.1
  obtain ⟨b1, b2⟩ := sqd_le ha.2.2 hb.2.2
  have c1 := fun w => Lib.hid (square_any a.r b.r w ha.1 hb.1)
  have c2 := fun w => Lib.hid (square_any a.g b.g w ha.2.1 hb.2.1)
  have c3 := fun w => Lib.hid (square_any a.b b.b w ha.2.2 hb.2.2)
  have e1 : IntKind.i64.wrap (sqd a.r b.r + sqd a.g b.g) = sqd a.r b.r + sqd a.g b.g := IntWalk.i64_in _ (by omega)
  have e2 : IntKind.i64.wrap (sqd a.r b.r + sqd a.g b.g + sqd a.b b.b) = sqd a.r b.r + sqd a.g b.g + sqd a.b b.b := IntWalk.i64_in _ (by omega)
  unfold cd2
  clear ha hb
  generalize sqd a.r b.r = x at *
  generalize sqd a.g b.g = y at *
  generalize sqd a.b b.b = z at *
  go_enter Try.func21, Try.ntmps21
  go_wp2_with fail
  refine wp_region_xt (by kernel_rfl) (by kernel_rfl) ?_
  repeat (go_big_quiet_step (first | (go_at_call 38; first | (with_reducible exact Ret.quiet (c1 _).out) | (with_reducible exact Ret.quiet (c2 _).out) | (with_reducible exact Ret.quiet (c3 _).out))))
  refine wpQuiet_nil ?_
  intro g
  go_wp2
  go_ret
  exact RetB.of rfl (by repeat' (first | exact Below.refl _ _ | assumption | refine Below.xt ?_ ?_ _ | refine Below.alloc ?_ ?_ _ | refine Below.drew ?_ | refine Below.setCell ?_ ?_ _ | (simp; done) | (simp; omega)))
set_option maxHeartbeats 800000 in
theorem refDist_any (a b : Col) (w : World) (ha : a.ok) (hb : b.ok) : Calls Try.prog 22 #[.agg #[.int .u8 a.r, .int .u8 a.g, .int .u8 a.b], .agg #[.int .u8 b.r, .int .u8 b.g, .int .u8 b.b]] w (RetB (.int .i64 (cd2 a b)) w) := by
  obtain ⟨r1, r2⟩ := sqd_le ha.1 hb.1
  obtain ⟨g1, g2⟩ := sqd_le ha.2.1 hb.2.1
  obtain ⟨b1, b2⟩ := sqd_le ha.2.2 hb.2.2
  obtain ⟨⟨h1, h2⟩, ⟨h3, h4⟩, h5, h6⟩ := ha
  obtain ⟨⟨k1, k2⟩, ⟨k3, k4⟩, k5, k6⟩ := hb
  unfold cd2
  unfold sqd at *
  have w1 : IntKind.i64.wrap (a.r) = a.r := IntWalk.i64_in _ (by omega)
  have w2 : IntKind.i64.wrap (a.g) = a.g := IntWalk.i64_in _ (by omega)
  have w3 : IntKind.i64.wrap (a.b) = a.b := IntWalk.i64_in _ (by omega)
  have w4 : IntKind.i64.wrap (b.r) = b.r := IntWalk.i64_in _ (by omega)
  have w5 : IntKind.i64.wrap (b.g) = b.g := IntWalk.i64_in _ (by omega)
  have w6 : IntKind.i64.wrap (b.b) = b.b := IntWalk.i64_in _ (by omega)
  have w7 : IntKind.i64.wrap (a.r - b.r) = a.r - b.r := IntWalk.i64_in _ (by omega)
  have w8 : IntKind.i64.wrap (a.g - b.g) = a.g - b.g := IntWalk.i64_in _ (by omega)
  have w9 : IntKind.i64.wrap (a.b - b.b) = a.b - b.b := IntWalk.i64_in _ (by omega)
  go_enter Try.func22, Try.ntmps22
  go_wp2_with (first
    | (refine wp_region_xt (by kernel_rfl) (by kernel_rfl) ?_; (repeat (go_big_quiet_step (first | fail))); refine wpQuiet_nil ?_; intro g))
  go_ret
  exact RetB.of rfl (by repeat' (first | exact Below.refl _ _ | assumption | refine Below.xt ?_ ?_ _ | refine Below.alloc ?_ ?_ _ | refine Below.drew ?_ | refine Below.setCell ?_ ?_ _ | (simp; done) | (simp; omega)))

end Go.Proofs.Ytkekhnclbkachaa

/- Walk of the law ColorHolds. Conditions stand in each theorem. -/
import Derived.Test.YtkekhnclbkachaaColK
import Derived.Test.YtkekhnclbkachaaColP
import Derived.Test.YtkekhnclbkachaaColH
import Derived.Test.YtkekhnclbkachaaColW7
namespace Go.Proofs.Ytkekhnclbkachaa
open Go.RowKit
set_option linter.unusedVariables false
set_option linter.unusedSimpArgs false

set_option maxHeartbeats 400000 in
theorem between_true (a x b : Int) (w : World) (h : btwn a x b = true) : Calls Try.prog 31 #[.int .u8 a, .int .u8 x, .int .u8 b] w (RetB (.bool true) w) := by
  have h1 : (a ≤ x ∧ x ≤ b) ∨ (¬ (a ≤ x ∧ x ≤ b) ∧ b ≤ x ∧ x ≤ a) := by simp [btwn] at h; omega
  clear h
  by_cases c1 : a ≤ x
  · by_cases c2 : x ≤ b
    · clear h1
      go_enter Try.func31, Try.ntmps31
      go_wp2
      go_ret
      exact RetB.of (by simp [c1, c2]) (by repeat' (first | exact Below.refl _ _ | assumption | refine Below.xt ?_ ?_ _ | refine Below.alloc ?_ ?_ _ | refine Below.drew ?_ | refine Below.setCell ?_ ?_ _ | (simp; done) | (simp; omega)))
    · have c3 : b ≤ x := by omega
      have c4 : x ≤ a := by omega
      clear h1
      go_enter Try.func31, Try.ntmps31
      go_wp2
      go_ret
      exact RetB.of (by simp [c1, c2, c3, c4]) (by repeat' (first | exact Below.refl _ _ | assumption | refine Below.xt ?_ ?_ _ | refine Below.alloc ?_ ?_ _ | refine Below.drew ?_ | refine Below.setCell ?_ ?_ _ | (simp; done) | (simp; omega)))
  · have c3 : b ≤ x := by omega
    have c4 : x ≤ a := by omega
    clear h1
    go_enter Try.func31, Try.ntmps31
    go_wp2
    go_ret
    exact RetB.of (by simp [c1, c3, c4]) (by repeat' (first | exact Below.refl _ _ | assumption | refine Below.xt ?_ ?_ _ | refine Below.alloc ?_ ?_ _ | refine Below.drew ?_ | refine Below.setCell ?_ ?_ _ | (simp; done) | (simp; omega)))

set_option maxRecDepth 100000 in
set_option maxHeartbeats 800000 in
theorem ColorHolds_far1 (a b : Col) (num more den factor : Int) (v : Value) (w : World) (h1 : den < 1) : Calls Try.prog 9 #[.agg #[.int .u8 a.r, .int .u8 a.g, .int .u8 a.b], .agg #[.int .u8 b.r, .int .u8 b.g, .int .u8 b.b], .int .i64 num, .int .i64 more, .int .i64 den, .int .i64 factor, v] w (RetB (.bool true) w) := by
  go_enter Try.func9, Try.ntmps9
  go_wp2_with (first
    | (go_at_call 10; refine (RetB.grown (known_any _)).mono ?_; rintro e' w' ⟨rfl, g, rfl⟩)
    | (refine wp_region_xt (by kernel_rfl) (by kernel_rfl) ?_; (repeat (go_big_quiet_step (first | (go_at_call 10; exact RetB.quiet (known_any _))))); refine wpQuiet_nil ?_; intro g))
  go_ret
  exact RetB.of rfl (by repeat' (first | exact Below.refl _ _ | assumption | refine Below.xt ?_ ?_ _ | refine Below.alloc ?_ ?_ _ | refine Below.drew ?_ | refine Below.setCell ?_ ?_ _ | (simp; done) | (simp; omega)))
set_option maxRecDepth 100000 in
set_option maxHeartbeats 800000 in
theorem ColorHolds_far2 (a b : Col) (num more den factor : Int) (v : Value) (w : World) (h1 : ¬ den < 1) (h2 : den > 1000) : Calls Try.prog 9 #[.agg #[.int .u8 a.r, .int .u8 a.g, .int .u8 a.b], .agg #[.int .u8 b.r, .int .u8 b.g, .int .u8 b.b], .int .i64 num, .int .i64 more, .int .i64 den, .int .i64 factor, v] w (RetB (.bool true) w) := by
  go_enter Try.func9, Try.ntmps9
  go_wp2_with (first
    | (go_at_call 10; refine (RetB.grown (known_any _)).mono ?_; rintro e' w' ⟨rfl, g, rfl⟩)
    | (refine wp_region_xt (by kernel_rfl) (by kernel_rfl) ?_; (repeat (go_big_quiet_step (first | (go_at_call 10; exact RetB.quiet (known_any _))))); refine wpQuiet_nil ?_; intro g))
  go_ret
  exact RetB.of rfl (by repeat' (first | exact Below.refl _ _ | assumption | refine Below.xt ?_ ?_ _ | refine Below.alloc ?_ ?_ _ | refine Below.drew ?_ | refine Below.setCell ?_ ?_ _ | (simp; done) | (simp; omega)))
set_option maxRecDepth 100000 in
set_option maxHeartbeats 800000 in
theorem ColorHolds_far3 (a b : Col) (num more den factor : Int) (v : Value) (w : World) (h1 : ¬ den < 1) (h2 : ¬ den > 1000) (h3 : num < 0) : Calls Try.prog 9 #[.agg #[.int .u8 a.r, .int .u8 a.g, .int .u8 a.b], .agg #[.int .u8 b.r, .int .u8 b.g, .int .u8 b.b], .int .i64 num, .int .i64 more, .int .i64 den, .int .i64 factor, v] w (RetB (.bool true) w) := by
  go_enter Try.func9, Try.ntmps9
  go_wp2_with (first
    | (go_at_call 10; refine (RetB.grown (known_any _)).mono ?_; rintro e' w' ⟨rfl, g, rfl⟩)
    | (refine wp_region_xt (by kernel_rfl) (by kernel_rfl) ?_; (repeat (go_big_quiet_step (first | (go_at_call 10; exact RetB.quiet (known_any _))))); refine wpQuiet_nil ?_; intro g))
  go_ret
  exact RetB.of rfl (by repeat' (first | exact Below.refl _ _ | assumption | refine Below.xt ?_ ?_ _ | refine Below.alloc ?_ ?_ _ | refine Below.drew ?_ | refine Below.setCell ?_ ?_ _ | (simp; done) | (simp; omega)))
set_option maxRecDepth 100000 in
set_option maxHeartbeats 800000 in
theorem ColorHolds_far4 (a b : Col) (num more den factor : Int) (v : Value) (w : World) (h1 : ¬ den < 1) (h2 : ¬ den > 1000) (h3 : ¬ num < 0) (h4 : num > den) : Calls Try.prog 9 #[.agg #[.int .u8 a.r, .int .u8 a.g, .int .u8 a.b], .agg #[.int .u8 b.r, .int .u8 b.g, .int .u8 b.b], .int .i64 num, .int .i64 more, .int .i64 den, .int .i64 factor, v] w (RetB (.bool true) w) := by
  go_enter Try.func9, Try.ntmps9
  go_wp2_with (first
    | (go_at_call 10; refine (RetB.grown (known_any _)).mono ?_; rintro e' w' ⟨rfl, g, rfl⟩)
    | (refine wp_region_xt (by kernel_rfl) (by kernel_rfl) ?_; (repeat (go_big_quiet_step (first | (go_at_call 10; exact RetB.quiet (known_any _))))); refine wpQuiet_nil ?_; intro g))
  go_ret
  exact RetB.of rfl (by repeat' (first | exact Below.refl _ _ | assumption | refine Below.xt ?_ ?_ _ | refine Below.alloc ?_ ?_ _ | refine Below.drew ?_ | refine Below.setCell ?_ ?_ _ | (simp; done) | (simp; omega)))
set_option maxRecDepth 100000 in
set_option maxHeartbeats 800000 in
theorem ColorHolds_far5 (a b : Col) (num more den factor : Int) (v : Value) (w : World) (h1 : ¬ den < 1) (h2 : ¬ den > 1000) (h3 : ¬ num < 0) (h4 : ¬ num > den) (h5 : more < 0) : Calls Try.prog 9 #[.agg #[.int .u8 a.r, .int .u8 a.g, .int .u8 a.b], .agg #[.int .u8 b.r, .int .u8 b.g, .int .u8 b.b], .int .i64 num, .int .i64 more, .int .i64 den, .int .i64 factor, v] w (RetB (.bool true) w) := by
  go_enter Try.func9, Try.ntmps9
  go_wp2_with (first
    | (go_at_call 10; refine (RetB.grown (known_any _)).mono ?_; rintro e' w' ⟨rfl, g, rfl⟩)
    | (refine wp_region_xt (by kernel_rfl) (by kernel_rfl) ?_; (repeat (go_big_quiet_step (first | (go_at_call 10; exact RetB.quiet (known_any _))))); refine wpQuiet_nil ?_; intro g))
  go_ret
  exact RetB.of rfl (by repeat' (first | exact Below.refl _ _ | assumption | refine Below.xt ?_ ?_ _ | refine Below.alloc ?_ ?_ _ | refine Below.drew ?_ | refine Below.setCell ?_ ?_ _ | (simp; done) | (simp; omega)))
set_option maxRecDepth 100000 in
set_option maxHeartbeats 800000 in
theorem ColorHolds_far6 (a b : Col) (num more den factor : Int) (v : Value) (w : World) (h1 : ¬ den < 1) (h2 : ¬ den > 1000) (h3 : ¬ num < 0) (h4 : ¬ num > den) (h5 : ¬ more < 0) (h6 : more > den - num) : Calls Try.prog 9 #[.agg #[.int .u8 a.r, .int .u8 a.g, .int .u8 a.b], .agg #[.int .u8 b.r, .int .u8 b.g, .int .u8 b.b], .int .i64 num, .int .i64 more, .int .i64 den, .int .i64 factor, v] w (RetB (.bool true) w) := by
  go_enter Try.func9, Try.ntmps9
  go_wp2_with (first
    | (go_at_call 10; refine (RetB.grown (known_any _)).mono ?_; rintro e' w' ⟨rfl, g, rfl⟩)
    | (refine wp_region_xt (by kernel_rfl) (by kernel_rfl) ?_; (repeat (go_big_quiet_step (first | (go_at_call 10; exact RetB.quiet (known_any _))))); refine wpQuiet_nil ?_; intro g))
  go_ret
  exact RetB.of rfl (by repeat' (first | exact Below.refl _ _ | assumption | refine Below.xt ?_ ?_ _ | refine Below.alloc ?_ ?_ _ | refine Below.drew ?_ | refine Below.setCell ?_ ?_ _ | (simp; done) | (simp; omega)))
set_option maxRecDepth 100000 in
set_option maxHeartbeats 800000 in
theorem ColorHolds_far7 (a b : Col) (num more den factor : Int) (v : Value) (w : World) (h1 : ¬ den < 1) (h2 : ¬ den > 1000) (h3 : ¬ num < 0) (h4 : ¬ num > den) (h5 : ¬ more < 0) (h6 : ¬ more > den - num) (h7 : factor < 1) : Calls Try.prog 9 #[.agg #[.int .u8 a.r, .int .u8 a.g, .int .u8 a.b], .agg #[.int .u8 b.r, .int .u8 b.g, .int .u8 b.b], .int .i64 num, .int .i64 more, .int .i64 den, .int .i64 factor, v] w (RetB (.bool true) w) := by
  go_enter Try.func9, Try.ntmps9
  go_wp2_with (first
    | (go_at_call 10; refine (RetB.grown (known_any _)).mono ?_; rintro e' w' ⟨rfl, g, rfl⟩)
    | (refine wp_region_xt (by kernel_rfl) (by kernel_rfl) ?_; (repeat (go_big_quiet_step (first | (go_at_call 10; exact RetB.quiet (known_any _))))); refine wpQuiet_nil ?_; intro g))
  go_ret
  exact RetB.of rfl (by repeat' (first | exact Below.refl _ _ | assumption | refine Below.xt ?_ ?_ _ | refine Below.alloc ?_ ?_ _ | refine Below.drew ?_ | refine Below.setCell ?_ ?_ _ | (simp; done) | (simp; omega)))
set_option maxRecDepth 100000 in
set_option maxHeartbeats 800000 in
theorem ColorHolds_far8 (a b : Col) (num more den factor : Int) (v : Value) (w : World) (h1 : ¬ den < 1) (h2 : ¬ den > 1000) (h3 : ¬ num < 0) (h4 : ¬ num > den) (h5 : ¬ more < 0) (h6 : ¬ more > den - num) (h7 : ¬ factor < 1) (h8 : factor > 1000) : Calls Try.prog 9 #[.agg #[.int .u8 a.r, .int .u8 a.g, .int .u8 a.b], .agg #[.int .u8 b.r, .int .u8 b.g, .int .u8 b.b], .int .i64 num, .int .i64 more, .int .i64 den, .int .i64 factor, v] w (RetB (.bool true) w) := by
  go_enter Try.func9, Try.ntmps9
  go_wp2_with (first
    | (go_at_call 10; refine (RetB.grown (known_any _)).mono ?_; rintro e' w' ⟨rfl, g, rfl⟩)
    | (refine wp_region_xt (by kernel_rfl) (by kernel_rfl) ?_; (repeat (go_big_quiet_step (first | (go_at_call 10; exact RetB.quiet (known_any _))))); refine wpQuiet_nil ?_; intro g))
  go_ret
  exact RetB.of rfl (by repeat' (first | exact Below.refl _ _ | assumption | refine Below.xt ?_ ?_ _ | refine Below.alloc ?_ ?_ _ | refine Below.drew ?_ | refine Below.setCell ?_ ?_ _ | (simp; done) | (simp; omega)))
set_option maxRecDepth 100000 in
set_option maxHeartbeats 800000 in
theorem ColorHolds_big (a b : Col) (num more den factor : Int) (A : Option Addr) (n cap : Nat) (l : List Sw) (w : World) (h1 : ¬ den < 1) (h2 : ¬ den > 1000) (h3 : ¬ num < 0) (h4 : ¬ num > den) (h5 : ¬ more < 0) (h6 : ¬ more > den - num) (h7 : ¬ factor < 1) (h8 : ¬ factor > 1000) (hn : n = l.length) (hm : n ≤ 9223372036854775807) (hf : fineW l) (hr : RowW w A l) (hsm : smallB l = false) : Calls Try.prog 9 #[.agg #[.int .u8 a.r, .int .u8 a.g, .int .u8 a.b], .agg #[.int .u8 b.r, .int .u8 b.g, .int .u8 b.b], .int .i64 num, .int .i64 more, .int .i64 den, .int .i64 factor, .slice A n cap] w (RetB (.bool true) w) := by
  have C1 := fun w h => Lib.hid (small_any A n cap l w hn hm hf h)
  rw [hsm] at C1
  have HR := Lib.hid hr
  clear hn hm hf hr hsm
  go_enter Try.func9, Try.ntmps9
  go_wp2_with (first
    | (go_at_call 23; refine (RetB.grown ((C1 _ (by repeat (first | exact HR.out | refine RowW.xt ?_ _ | refine RowW.alloc ?_ _ | refine RowW.drew ?_))).out)).mono ?_; rintro e' w' ⟨rfl, g, rfl⟩)
    | (go_at_call 10; refine (RetB.grown (known_any _)).mono ?_; rintro e' w' ⟨rfl, g, rfl⟩)
    | (refine wp_region_xt (by kernel_rfl) (by kernel_rfl) ?_; (repeat (go_big_quiet_step (first | (go_at_call 23; exact RetB.quiet ((C1 _ (by repeat (first | exact HR.out | refine RowW.xt ?_ _ | refine RowW.alloc ?_ _ | refine RowW.drew ?_))).out)) | (go_at_call 10; exact RetB.quiet (known_any _))))); refine wpQuiet_nil ?_; intro g))
  go_ret
  exact RetB.of rfl (by repeat' (first | exact Below.refl _ _ | assumption | refine Below.xt ?_ ?_ _ | refine Below.alloc ?_ ?_ _ | refine Below.drew ?_ | refine Below.setCell ?_ ?_ _ | (simp; done) | (simp; omega)))

set_option maxRecDepth 100000 in
set_option maxHeartbeats 6400000 in
theorem ColorHolds_ok (a b : Col) (num more den factor : Int) (A : Option Addr) (n cap : Nat) (l : List Sw) (w : World) (ha : a.ok) (hb : b.ok) (h1 : ¬ den < 1) (h2 : ¬ den > 1000) (h3 : ¬ num < 0) (h4 : ¬ num > den) (h5 : ¬ more < 0) (h6 : ¬ more > den - num) (h7 : ¬ factor < 1) (h8 : ¬ factor > 1000) (hn : n = l.length) (hf : fineW l) (hr : RowW w A l) (hsm : smallB l = true) : Calls Try.prog 9 #[.agg #[.int .u8 a.r, .int .u8 a.g, .int .u8 a.b], .agg #[.int .u8 b.r, .int .u8 b.g, .int .u8 b.b], .int .i64 num, .int .i64 more, .int .i64 den, .int .i64 factor, .slice A n cap] w (RetB (.bool true) w) := by
  have h20 : n ≤ 20 := by have := small_len hsm; omega
  have C1 := fun w h => Lib.hid (small_any A n cap l w hn (by omega) hf h)
  rw [hsm] at C1
  have M1 := fun w => Lib.hid (by have c := Mix_ok a b 0 den w ha hb (by omega) (by omega) (by omega) (by omega); rw [mixCol_zero (by omega)] at c; exact c)
  have M2 := fun w => Lib.hid (by have c := Mix_ok a b den den w ha hb (by omega) (by omega) (by omega) (by omega); rw [mixCol_full (by omega)] at c; exact c)
  have M3 := fun w => Lib.hid (Mix_ok a b num den w ha hb (by omega) (by omega) (by omega) (by omega))
  have M4 := fun w => Lib.hid (Mix_ok a b (num + more) den w ha hb (by omega) (by omega) (by omega) (by omega))
  have p1 : 0 ≤ num * factor := Int.mul_nonneg (by omega) (by omega)
  have p2 : num * factor ≤ den * factor := Int.mul_le_mul_of_nonneg_right (by omega) (by omega)
  have p3 : den * factor ≤ 1000 * 1000 := Int.mul_le_mul (by omega) (by omega) (by omega) (by omega)
  have p4 : 1 ≤ den * factor := by have := Int.mul_le_mul (a := 1) (b := 1) (c := den) (d := factor) (by omega) (by omega) (by omega) (by omega); omega
  have M5 := fun w => Lib.hid (by have c := Mix_ok a b (num * factor) (den * factor) w ha hb (by omega) (by omega) (by omega) (by omega); rw [mixCol_factor (by omega)] at c; exact c)
  have mok : (mixCol a b num den).ok := mixCol_ok ha hb (by omega) (by omega) (by omega)
  have nok : (mixCol a b (num + more) den).ok := mixCol_ok ha hb (by omega) (by omega) (by omega)
  obtain ⟨t1, t2⟩ := mixPart_btwn (a := a.r) (b := b.r) (num := num) (more := more) (den := den) (by omega) (by omega) (by omega) (by omega)
  obtain ⟨t3, t4⟩ := mixPart_btwn (a := a.g) (b := b.g) (num := num) (more := more) (den := den) (by omega) (by omega) (by omega) (by omega)
  obtain ⟨t5, t6⟩ := mixPart_btwn (a := a.b) (b := b.b) (num := num) (more := more) (den := den) (by omega) (by omega) (by omega) (by omega)
  have B1 := fun w => Lib.hid (between_true a.r (mixCol a b num den).r (mixCol a b (num + more) den).r w t1)
  have B2 := fun w => Lib.hid (between_true (mixCol a b num den).r (mixCol a b (num + more) den).r b.r w t2)
  have B3 := fun w => Lib.hid (between_true a.g (mixCol a b num den).g (mixCol a b (num + more) den).g w t3)
  have B4 := fun w => Lib.hid (between_true (mixCol a b num den).g (mixCol a b (num + more) den).g b.g w t4)
  have B5 := fun w => Lib.hid (between_true a.b (mixCol a b num den).b (mixCol a b (num + more) den).b w t5)
  have B6 := fun w => Lib.hid (between_true (mixCol a b num den).b (mixCol a b (num + more) den).b b.b w t6)
  clear t1 t2 t3 t4 t5 t6
  generalize mixCol a b num den = m at *
  generalize mixCol a b (num + more) den = q at *
  have T1 := fun w => Lib.hid (Text_any m w mok)
  have T2 := fun w => Lib.hid (Parse_any (textB m) w)
  rw [(parse_text mok).1, (parse_text mok).2] at T2
  generalize textB m = t at *
  have PP := fun w h => Lib.hid (rpal_any A n cap l w hn (by omega) hf h)
  have NN := fun (hp : palB l = true) (k : Nat) (hk : k < n) w h => Lib.hid (by have c := Nearest_any A n cap l (sw l k).c w hn (by omega) hf h (hf k (by omega)).2; rw [(near_own hp (i := k) (by omega)).1] at c; exact c)
  have FF := fun (hp : palB l = true) (k : Nat) (hk : k < n) w h => Lib.hid (by have c := Find_any A n cap l (nearN l (sw l k).c) w hn (by omega) hf h; rw [(near_own hp (i := k) (by omega)).2.1, (near_own hp (i := k) (by omega)).2.2] at c; exact c)
  obtain ⟨p, hp⟩ : ∃ p, palB l = p := ⟨_, rfl⟩
  rw [hp] at PP NN FF
  have HR := Lib.hid hr
  have HN := Lib.hid hn
  clear hn hf hr hsm ha hb mok nok hp
  cases p
  · clear NN FF
    go_enter Try.func9, Try.ntmps9
    go_wp2_with (first
      | (go_at_call 23; refine (RetB.grown ((C1 _ (by repeat (first | exact HR.out | refine RowW.xt ?_ _ | refine RowW.alloc ?_ _ | refine RowW.drew ?_))).out)).mono ?_; rintro e' w' ⟨rfl, g, rfl⟩)
      | (go_at_call 13; (with_reducible refine (RetB.grown ((M1 _).out)).mono ?_); rintro e' w' ⟨rfl, g, rfl⟩)
      | (go_at_call 13; (with_reducible refine (RetB.grown ((M2 _).out)).mono ?_); rintro e' w' ⟨rfl, g, rfl⟩)
      | (go_at_call 13; (with_reducible refine (RetB.grown ((M3 _).out)).mono ?_); rintro e' w' ⟨rfl, g, rfl⟩)
      | (go_at_call 13; (with_reducible refine (RetB.grown ((M4 _).out)).mono ?_); rintro e' w' ⟨rfl, g, rfl⟩)
      | (go_at_call 13; (with_reducible refine (RetB.grown ((M5 _).out)).mono ?_); rintro e' w' ⟨rfl, g, rfl⟩)
      | (go_at_call 31; (with_reducible refine (RetB.grown ((B1 _).out)).mono ?_); rintro e' w' ⟨rfl, g, rfl⟩)
      | (go_at_call 31; (with_reducible refine (RetB.grown ((B2 _).out)).mono ?_); rintro e' w' ⟨rfl, g, rfl⟩)
      | (go_at_call 31; (with_reducible refine (RetB.grown ((B3 _).out)).mono ?_); rintro e' w' ⟨rfl, g, rfl⟩)
      | (go_at_call 31; (with_reducible refine (RetB.grown ((B4 _).out)).mono ?_); rintro e' w' ⟨rfl, g, rfl⟩)
      | (go_at_call 31; (with_reducible refine (RetB.grown ((B5 _).out)).mono ?_); rintro e' w' ⟨rfl, g, rfl⟩)
      | (go_at_call 31; (with_reducible refine (RetB.grown ((B6 _).out)).mono ?_); rintro e' w' ⟨rfl, g, rfl⟩)
      | (go_at_call 19; refine (RetB.grown ((T1 _).out)).mono ?_; rintro e' w' ⟨rfl, g, rfl⟩)
      | (go_at_call 17; refine (RetB.grown ((T2 _).out)).mono ?_; rintro e' w' ⟨rfl, g, rfl⟩)
      | (go_at_call 28; refine (RetB.grown ((PP _ (by repeat (first | exact HR.out | refine RowW.xt ?_ _ | refine RowW.alloc ?_ _ | refine RowW.drew ?_))).out)).mono ?_; rintro e' w' ⟨rfl, g, rfl⟩)
      | (go_at_call 10; refine (RetB.grown (known_any _)).mono ?_; rintro e' w' ⟨rfl, g, rfl⟩)
      | (refine wp_region_xt (by kernel_rfl) (by kernel_rfl) ?_; (repeat (go_big_quiet_step (first | (go_at_call 23; exact RetB.quiet ((C1 _ (by repeat (first | exact HR.out | refine RowW.xt ?_ _ | refine RowW.alloc ?_ _ | refine RowW.drew ?_))).out)) | (go_at_call 13; (with_reducible exact RetB.quiet ((M1 _).out))) | (go_at_call 13; (with_reducible exact RetB.quiet ((M2 _).out))) | (go_at_call 13; (with_reducible exact RetB.quiet ((M3 _).out))) | (go_at_call 13; (with_reducible exact RetB.quiet ((M4 _).out))) | (go_at_call 13; (with_reducible exact RetB.quiet ((M5 _).out))) | (go_at_call 31; (with_reducible exact RetB.quiet ((B1 _).out))) | (go_at_call 31; (with_reducible exact RetB.quiet ((B2 _).out))) | (go_at_call 31; (with_reducible exact RetB.quiet ((B3 _).out))) | (go_at_call 31; (with_reducible exact RetB.quiet ((B4 _).out))) | (go_at_call 31; (with_reducible exact RetB.quiet ((B5 _).out))) | (go_at_call 31; (with_reducible exact RetB.quiet ((B6 _).out))) | (go_at_call 19; exact RetB.quiet ((T1 _).out)) | (go_at_call 17; exact RetB.quiet ((T2 _).out)) | (go_at_call 28; exact RetB.quiet ((PP _ (by repeat (first | exact HR.out | refine RowW.xt ?_ _ | refine RowW.alloc ?_ _ | refine RowW.drew ?_))).out)) | (go_at_call 10; exact RetB.quiet (known_any _))))); refine wpQuiet_nil ?_; intro g))
    go_ret
    exact RetB.of rfl (by repeat' (first | exact Below.refl _ _ | assumption | refine Below.xt ?_ ?_ _ | refine Below.alloc ?_ ?_ _ | refine Below.drew ?_ | refine Below.setCell ?_ ?_ _ | (simp; done) | (simp; omega)))
  · go_enter Try.func9, Try.ntmps9
    go_wp2_with (first
      | (go_at_call 23; refine (RetB.grown ((C1 _ (by repeat (first | exact HR.out | refine RowW.xt ?_ _ | refine RowW.alloc ?_ _ | refine RowW.drew ?_))).out)).mono ?_; rintro e' w' ⟨rfl, g, rfl⟩)
      | (go_at_call 13; (with_reducible refine (RetB.grown ((M1 _).out)).mono ?_); rintro e' w' ⟨rfl, g, rfl⟩)
      | (go_at_call 13; (with_reducible refine (RetB.grown ((M2 _).out)).mono ?_); rintro e' w' ⟨rfl, g, rfl⟩)
      | (go_at_call 13; (with_reducible refine (RetB.grown ((M3 _).out)).mono ?_); rintro e' w' ⟨rfl, g, rfl⟩)
      | (go_at_call 13; (with_reducible refine (RetB.grown ((M4 _).out)).mono ?_); rintro e' w' ⟨rfl, g, rfl⟩)
      | (go_at_call 13; (with_reducible refine (RetB.grown ((M5 _).out)).mono ?_); rintro e' w' ⟨rfl, g, rfl⟩)
      | (go_at_call 31; (with_reducible refine (RetB.grown ((B1 _).out)).mono ?_); rintro e' w' ⟨rfl, g, rfl⟩)
      | (go_at_call 31; (with_reducible refine (RetB.grown ((B2 _).out)).mono ?_); rintro e' w' ⟨rfl, g, rfl⟩)
      | (go_at_call 31; (with_reducible refine (RetB.grown ((B3 _).out)).mono ?_); rintro e' w' ⟨rfl, g, rfl⟩)
      | (go_at_call 31; (with_reducible refine (RetB.grown ((B4 _).out)).mono ?_); rintro e' w' ⟨rfl, g, rfl⟩)
      | (go_at_call 31; (with_reducible refine (RetB.grown ((B5 _).out)).mono ?_); rintro e' w' ⟨rfl, g, rfl⟩)
      | (go_at_call 31; (with_reducible refine (RetB.grown ((B6 _).out)).mono ?_); rintro e' w' ⟨rfl, g, rfl⟩)
      | (go_at_call 19; refine (RetB.grown ((T1 _).out)).mono ?_; rintro e' w' ⟨rfl, g, rfl⟩)
      | (go_at_call 17; refine (RetB.grown ((T2 _).out)).mono ?_; rintro e' w' ⟨rfl, g, rfl⟩)
      | (go_at_call 28; refine (RetB.grown ((PP _ (by repeat (first | exact HR.out | refine RowW.xt ?_ _ | refine RowW.alloc ?_ _ | refine RowW.drew ?_))).out)).mono ?_; rintro e' w' ⟨rfl, g, rfl⟩)
      | (refine wp_region_xt (by kernel_rfl) (by kernel_rfl) ?_; (repeat (go_big_quiet_step (first | (go_at_call 23; exact RetB.quiet ((C1 _ (by repeat (first | exact HR.out | refine RowW.xt ?_ _ | refine RowW.alloc ?_ _ | refine RowW.drew ?_))).out)) | (go_at_call 13; (with_reducible exact RetB.quiet ((M1 _).out))) | (go_at_call 13; (with_reducible exact RetB.quiet ((M2 _).out))) | (go_at_call 13; (with_reducible exact RetB.quiet ((M3 _).out))) | (go_at_call 13; (with_reducible exact RetB.quiet ((M4 _).out))) | (go_at_call 13; (with_reducible exact RetB.quiet ((M5 _).out))) | (go_at_call 31; (with_reducible exact RetB.quiet ((B1 _).out))) | (go_at_call 31; (with_reducible exact RetB.quiet ((B2 _).out))) | (go_at_call 31; (with_reducible exact RetB.quiet ((B3 _).out))) | (go_at_call 31; (with_reducible exact RetB.quiet ((B4 _).out))) | (go_at_call 31; (with_reducible exact RetB.quiet ((B5 _).out))) | (go_at_call 31; (with_reducible exact RetB.quiet ((B6 _).out))) | (go_at_call 19; exact RetB.quiet ((T1 _).out)) | (go_at_call 17; exact RetB.quiet ((T2 _).out)) | (go_at_call 28; exact RetB.quiet ((PP _ (by repeat (first | exact HR.out | refine RowW.xt ?_ _ | refine RowW.alloc ?_ _ | refine RowW.drew ?_))).out))))); refine wpQuiet_nil ?_; intro g))
    have HWl := Lib.hid (Nat.le_refl w.heap.size)
    go_loopw [226] (fun i wr => ∃ k : Nat, k ≤ n ∧ i = .int .i64 k ∧ w.heap.size ≤ wr.heap.size ∧ Hid (Below w.heap.size w wr) ∧ Hid (RowW wr A l)) (fun i _ => n - (intOf i).toNat)
    case atStart => exact ⟨0, by omega, rfl, by (simp; omega), Lib.hid (by repeat' (first | exact Below.refl _ _ | assumption | refine Below.xt ?_ ?_ _ | refine Below.alloc ?_ ?_ _ | refine Below.drew ?_ | refine Below.setCell ?_ ?_ _ | (simp; done) | (simp; omega))), Lib.hid (by repeat (first | exact HR.out | refine RowW.xt ?_ _ | refine RowW.alloc ?_ _ | refine RowW.drew ?_))⟩
    case round =>
      clear C1 M1 M2 M3 M4 M5 B1 B2 B3 B4 B5 B6 T1 T2 PP p1 p2 p3 p4
      obtain ⟨k, hk, rfl, hle, HB, HR1⟩ := hrel
      by_cases hlt : k < n
      · obtain ⟨bb, o, rfl, hbb, hc⟩ := Row.at_ HR1.out (by have := HN.out; omega)
        obtain ⟨x0, x1, x2, x3⟩ := RowW.cells hc (i := k) (by have := HN.out; omega)
        have N1 := fun w h => NN trivial k hlt w h
        have F1 := fun w h => FF trivial k hlt w h
        clear NN FF hc
        generalize nearN l (sw l k).c = nm at *
        generalize sw l k = s at *
        go_wp2_with fail
        refine (RetB.grown (N1 _ (by repeat (first | exact HR1.out | refine RowW.xt ?_ _ | refine RowW.alloc ?_ _ | refine RowW.drew ?_))).out).mono ?_
        rintro e' w' ⟨rfl, g1, rfl⟩
        go_wp2_with fail
        refine (RetB.grown (F1 _ (by repeat (first | exact HR1.out | refine RowW.xt ?_ _ | refine RowW.alloc ?_ _ | refine RowW.drew ?_))).out).mono ?_
        rintro e' w' ⟨rfl, g2, rfl⟩
        go_wp2_with fail
        have hb0 := HB.out
        go_roundw
        case rel => exact ⟨k + 1, by omega, by go_num, by (simp; omega), Lib.hid (by repeat' (first | exact Below.refl _ _ | assumption | refine Below.xt ?_ ?_ _ | refine Below.alloc ?_ ?_ _ | refine Below.drew ?_ | refine Below.setCell ?_ ?_ _ | (simp; done) | (simp; omega))), Lib.hid (by repeat (first | exact HR1.out | refine RowW.xt ?_ _ | refine RowW.alloc ?_ _ | refine RowW.drew ?_))⟩
        case measure => simp [intOf]; omega
      · clear NN FF
        go_wp2_with (first
          | (go_at_call 10; refine (RetB.grown (known_any _)).mono ?_; rintro e' w' ⟨rfl, g, rfl⟩)
          | (refine wp_region_xt (by kernel_rfl) (by kernel_rfl) ?_; (repeat (go_big_quiet_step (first | (go_at_call 10; exact RetB.quiet (known_any _))))); refine wpQuiet_nil ?_; intro g))
        have hb0 := HB.out
        go_ret
        exact RetB.of rfl (by repeat' (first | exact Below.refl _ _ | assumption | refine Below.xt ?_ ?_ _ | refine Below.alloc ?_ ?_ _ | refine Below.drew ?_ | refine Below.setCell ?_ ?_ _ | (simp; done) | (simp; omega)))

theorem ColorHolds_walk (a b : Col) (num more den factor : Int) (A : Option Addr) (n cap : Nat) (w : World) (ha : a.ok) (hb : b.ok) (ol : ∃ l : List Sw, n = l.length ∧ n ≤ maxLen ∧ fineW l ∧ RowW w A l ∧ (n = 0 ∧ A = none ∧ cap = 0 ∨ A ≠ none)) : Calls Try.prog 9 #[.agg #[.int .u8 a.r, .int .u8 a.g, .int .u8 a.b], .agg #[.int .u8 b.r, .int .u8 b.g, .int .u8 b.b], .int .i64 num, .int .i64 more, .int .i64 den, .int .i64 factor, .slice A n cap] w (RetB (.bool true) w) := by
  obtain ⟨l, hn, hm, hf, hr, _⟩ := ol
  unfold maxLen at hm
  by_cases h1 : den < 1
  · exact ColorHolds_far1 a b num more den factor _ w h1
  by_cases h2 : den > 1000
  · exact ColorHolds_far2 a b num more den factor _ w h1 h2
  by_cases h3 : num < 0
  · exact ColorHolds_far3 a b num more den factor _ w h1 h2 h3
  by_cases h4 : num > den
  · exact ColorHolds_far4 a b num more den factor _ w h1 h2 h3 h4
  by_cases h5 : more < 0
  · exact ColorHolds_far5 a b num more den factor _ w h1 h2 h3 h4 h5
  by_cases h6 : more > den - num
  · exact ColorHolds_far6 a b num more den factor _ w h1 h2 h3 h4 h5 h6
  by_cases h7 : factor < 1
  · exact ColorHolds_far7 a b num more den factor _ w h1 h2 h3 h4 h5 h6 h7
  by_cases h8 : factor > 1000
  · exact ColorHolds_far8 a b num more den factor _ w h1 h2 h3 h4 h5 h6 h7 h8
  cases hsm : smallB l
  · exact ColorHolds_big a b num more den factor A n cap l w h1 h2 h3 h4 h5 h6 h7 h8 hn (by omega) hf hr hsm
  · exact ColorHolds_ok a b num more den factor A n cap l w ha hb h1 h2 h3 h4 h5 h6 h7 h8 hn hf hr hsm

end Go.Proofs.Ytkekhnclbkachaa

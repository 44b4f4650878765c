/- Walks of the reference's functions on vectors: rounding, points between, vector products, turns. Conditions stand in each theorem. -/
import Derived.Test.YtjgfobknifobhaaVecR1
import Derived.Test.YtjgfobknifobhaaVecW3
namespace Go.Proofs.Ytjgfobknifobhaa
open Go.RowKit
set_option linter.unusedVariables false

/-- The nearest number to a quotient. -/
def rnd (n d : Int) : Int := (2 * n + d) / (2 * d)
theorem mid_eq (a x num den : Int) : a + rnd ((x - a) * num) den = mid a x num den := by
  unfold rnd mid
  rw [Int.mul_assoc]

/-- Where the search for the nearest number begins and ends. -/
theorem rnd_room {n d : Int} (hd : 1 ≤ d) (hd' : d ≤ 4294967296) (h1 : -288230376151711744 ≤ n) (h2 : n ≤ 288230376151711744) :
    ∃ L H, L ≤ n.tdiv d ∧ n.tdiv d ≤ H ∧ L ≤ rnd n d ∧ rnd n d ≤ H ∧ -288230376151711744 - 8589934592 ≤ L * d ∧ H * d ≤ 288230376151711744 + 8589934592 ∧ -288230376151711744 - 8589934592 ≤ L ∧ H ≤ 288230376151711744 + 8589934592 := by
  have e1 := Int.mul_tdiv_add_tmod n d
  have e2 : -d < n.tmod d ∧ n.tmod d < d := by
    have h7 := Int.tmod_lt_of_pos n (show 0 < d by omega)
    rcases Int.le_total 0 n with h | h
    · have := Int.tmod_nonneg d h; omega
    · have := Int.tmod_nonneg d (show 0 ≤ -n by omega)
      have h8 := Int.tmod_lt_of_pos (-n) (show 0 < d by omega)
      rw [Int.neg_tmod] at *
      omega
  have e3 := Int.mul_ediv_add_emod (2 * n + d) (2 * d)
  have e4 := Int.emod_nonneg (2 * n + d) (show 2 * d ≠ 0 by omega)
  have e5 := Int.emod_lt_of_pos (2 * n + d) (show 0 < 2 * d by omega)
  unfold rnd
  generalize (2 * n + d) / (2 * d) = M at *
  generalize (2 * n + d) % (2 * d) = r at *
  generalize n.tdiv d = q at *
  generalize n.tmod d = t at *
  rw [Int.mul_assoc] at e3
  have c1 : d * q = q * d := Int.mul_comm ..
  have c2 : d * M = M * d := Int.mul_comm ..
  have up : ∀ k : Int, k * d ≤ 288230376151711744 + 8589934592 → k ≤ 288230376151711744 + 8589934592 := by
    intro k hk
    by_cases h : 0 ≤ k
    · have := Int.mul_le_mul_of_nonneg_left hd h; omega
    · omega
  have dn : ∀ k : Int, -288230376151711744 - 8589934592 ≤ k * d → -288230376151711744 - 8589934592 ≤ k := by
    intro k hk
    by_cases h : 0 ≤ k
    · omega
    · have := Int.mul_le_mul_of_nonneg_left hd (show 0 ≤ -k by omega)
      simp only [Int.neg_mul, Int.mul_one] at this
      omega
  rcases Int.le_total q M with h | h
  · exact ⟨q, M, by omega, by omega, by omega, by omega, by omega, by omega, dn _ (by omega), up _ (by omega)⟩
  · exact ⟨M, q, by omega, by omega, by omega, by omega, by omega, by omega, dn _ (by omega), up _ (by omega)⟩

set_option maxHeartbeats 800000 in
theorem refRound_any (n d : Int) (w : World) (hd : 1 ≤ d) (hd' : d ≤ 4294967296) (h1 : -288230376151711744 ≤ n) (h2 : n ≤ 288230376151711744) :
    Calls Try.prog 51 #[.int .i64 n, .int .i64 d] w (Ret (.int .i64 (rnd n d)) w) := by
  obtain ⟨L, H, l1, u1, l2, u2, l3, u3, l4, u4⟩ := rnd_room hd hd' h1 h2
  have hs := fun q => round_search (n := n) hd q
  change ∀ q : Int, (q < rnd n d → _) ∧ (rnd n d < q → _) ∧ (q = rnd n d → _) at hs
  have HS := Lib.hid hs
  clear hs
  generalize rnd n d = M at *
  go_enter Try.func51, Try.ntmps51
  go_wp2
  go_loop [5] (fun q => ∃ k : Int, L ≤ k ∧ k ≤ H ∧ q = .int .i64 k) (fun q => (M - intOf q).toNat)
  case atStart => exact ⟨_, l1, u1, rfl⟩
  case round =>
    obtain ⟨k, k1, k2, rfl⟩ := hrel
    have q1 : L * d ≤ k * d := Int.mul_le_mul_of_nonneg_right k1 (by omega)
    have q2 : k * d ≤ H * d := Int.mul_le_mul_of_nonneg_right k2 (by omega)
    by_cases hlt : k < M
    · have t1 := (HS.out k).1 hlt
      go_wp2
      go_round
      case rel => exact ⟨k + 1, by omega, by omega, rfl⟩
      case measure => simp [intOf]; omega
    · have t1 : 2 * (n - k * d) < d := by
        rcases Int.lt_or_eq_of_le (show M ≤ k by omega) with h | h
        · have := (HS.out k).2.1 h; omega
        · exact ((HS.out k).2.2 h.symm).1
      go_wp2
      go_loop [5] (fun q => ∃ k : Int, M ≤ k ∧ k ≤ H ∧ q = .int .i64 k) (fun q => (intOf q - M).toNat)
      case atStart => exact ⟨k, by omega, by omega, rfl⟩
      case round =>
        clear q1 q2 t1 hlt k1 k2
        obtain ⟨j, k1, k2, rfl⟩ := hrel
        have q1 : L * d ≤ j * d := Int.mul_le_mul_of_nonneg_right (by omega) (by omega)
        have q2 : j * d ≤ H * d := Int.mul_le_mul_of_nonneg_right k2 (by omega)
        by_cases hlt : M < j
        · have t1 := (HS.out j).2.1 hlt
          go_wp2
          go_round
          case rel => exact ⟨j - 1, by omega, by omega, rfl⟩
          case measure => simp [intOf]; omega
        · have t1 := ((HS.out j).2.2 (by omega)).2
          go_wp2
          go_ret
          exact Ret.of (int_eq (by omega))

theorem rnd_le {a x num den : Int} (ha : -16777216 ≤ a ∧ a ≤ 16777216) (hx : -16777216 ≤ x ∧ x ≤ 16777216) (hr : ratio num den = true) :
    (-288230376151711744 ≤ (x - a) * num ∧ (x - a) * num ≤ 288230376151711744) ∧ -33554432 ≤ rnd ((x - a) * num) den ∧ rnd ((x - a) * num) den ≤ 33554432 := by
  obtain ⟨m1, m2, m3, m4⟩ := mid_facts ha hx hr
  unfold rnd
  rw [Int.mul_assoc] at m3 m4
  exact ⟨⟨by omega, by omega⟩, m3, m4⟩

set_option maxHeartbeats 1600000 in
theorem refBetween_any (a b c x y z num den : Int) (w : World) (ha : vok a b c = true) (hx : vok x y z = true) (hr : ratio num den = true) :
    Calls Try.prog 27 #[.agg #[.int .i64 a, .int .i64 b, .int .i64 c], .agg #[.int .i64 x, .int .i64 y, .int .i64 z], .int .i64 num, .int .i64 den] w (RetB (.agg #[.int .i64 (mid a x num den), .int .i64 (mid b y num den), .int .i64 (mid c z num den)]) w) := by
  obtain ⟨r1, r2, r3, r4⟩ := ratio_iff.1 hr
  obtain ⟨ha', hb', hc'⟩ := vok_iff.1 ha
  obtain ⟨hx', hy', hz'⟩ := vok_iff.1 hx
  obtain ⟨⟨b1, b2⟩, m1, m2⟩ := rnd_le ha' hx' hr
  obtain ⟨⟨b3, b4⟩, m3, m4⟩ := rnd_le hb' hy' hr
  obtain ⟨⟨b5, b6⟩, m5, m6⟩ := rnd_le hc' hz' hr
  have CS := fun w => Lib.hid (refSub_any x y z a b c w (mild_vok hx) (mild_vok ha))
  have C0 := fun w => Lib.hid (refRound_any ((x - a) * num) den w r1 r2 b1 b2)
  have C1 := fun w => Lib.hid (refRound_any ((y - b) * num) den w r1 r2 b3 b4)
  have C2 := fun w => Lib.hid (refRound_any ((z - c) * num) den w r1 r2 b5 b6)
  have c3 := fun w => refAdd_any a b c (rnd ((x - a) * num) den) (rnd ((y - b) * num) den) (rnd ((z - c) * num) den) w (mild_vok ha) (by unfold mild; omega)
  simp only [mid_eq] at c3
  have C3 := fun w => Lib.hid (c3 w)
  clear c3 ha hx hr ha' hb' hc' hx' hy' hz' m1 m2 m3 m4 m5 m6
  go_enter Try.func27, Try.ntmps27
  go_wp2_with (first
    | (go_at_call 18; refine (RetB.grown ((CS _).out)).mono ?_; rintro e' w' ⟨rfl, g, rfl⟩)
    | (go_at_call 51; (with_reducible refine (RetB.grown (Ret.asB (C0 _).out)).mono ?_); rintro e' w' ⟨rfl, g, rfl⟩)
    | (go_at_call 51; (with_reducible refine (RetB.grown (Ret.asB (C1 _).out)).mono ?_); rintro e' w' ⟨rfl, g, rfl⟩)
    | (go_at_call 51; (with_reducible refine (RetB.grown (Ret.asB (C2 _).out)).mono ?_); rintro e' w' ⟨rfl, g, rfl⟩)
    | (go_at_call 17; refine (RetB.grown ((C3 _).out)).mono ?_; rintro e' w' ⟨rfl, g, rfl⟩)
    | (refine wp_region_xt (by kernel_rfl) (by kernel_rfl) ?_; (repeat (go_big_quiet_step (first | (go_at_call 18; exact RetB.quiet ((CS _).out)) | (go_at_call 51; (with_reducible exact RetB.quiet (Ret.asB (C0 _).out))) | (go_at_call 51; (with_reducible exact RetB.quiet (Ret.asB (C1 _).out))) | (go_at_call 51; (with_reducible exact RetB.quiet (Ret.asB (C2 _).out))) | (go_at_call 17; exact RetB.quiet ((C3 _).out))))); refine wpQuiet_nil ?_; intro g)
    | (refine wp_region_xt_tail 21 (by kernel_rfl) (by kernel_rfl) ?_; simp only [List.take_succ_cons, List.take_zero, List.drop_succ_cons, List.drop_zero]; (repeat (go_big_quiet_step (first | (go_at_call 18; exact RetB.quiet ((CS _).out)) | (go_at_call 51; (with_reducible exact RetB.quiet (Ret.asB (C0 _).out))) | (go_at_call 51; (with_reducible exact RetB.quiet (Ret.asB (C1 _).out))) | (go_at_call 51; (with_reducible exact RetB.quiet (Ret.asB (C2 _).out))) | (go_at_call 17; exact RetB.quiet ((C3 _).out))))); refine wpQuiet_nil ?_; intro g))
  refine bodyPost_ret (v := .agg #[.int .i64 (mid a x num den), .int .i64 (mid b y num den), .int .i64 (mid c z num den)]) (by simp [results, Try.results27, go_sem]) rfl ?_
  exact RetB.of rfl (by repeat' (first | exact Below.refl _ _ | assumption | refine Below.xt ?_ ?_ _ | refine Below.alloc ?_ ?_ _ | refine Below.drew ?_ | refine Below.setCell ?_ ?_ _ | (simp; done) | (simp; omega)))

set_option maxHeartbeats 1600000 in
theorem refCross_any (a b c x y z : Int) (w : World) (ha : -33554432 ≤ a ∧ a ≤ 33554432) (hb : -33554432 ≤ b ∧ b ≤ 33554432) (hc : -33554432 ≤ c ∧ c ≤ 33554432) (hx : -33554432 ≤ x ∧ x ≤ 33554432) (hy : -33554432 ≤ y ∧ y ≤ 33554432) (hz : -33554432 ≤ z ∧ z ≤ 33554432) :
    Calls Try.prog 24 #[.agg #[.int .i64 a, .int .i64 b, .int .i64 c], .agg #[.int .i64 x, .int .i64 y, .int .i64 z]] w (RetB (.agg #[.int .i64 (b * z - c * y), .int .i64 (c * x - a * z), .int .i64 (a * y - b * x)]) w) := by
  obtain ⟨p1, q1⟩ := prod2_le hb hz
  obtain ⟨p2, q2⟩ := prod2_le hc hy
  obtain ⟨p3, q3⟩ := prod2_le hc hx
  obtain ⟨p4, q4⟩ := prod2_le ha hz
  obtain ⟨p5, q5⟩ := prod2_le ha hy
  obtain ⟨p6, q6⟩ := prod2_le hb hx
  clear ha hb hc hx hy hz
  go_enter Try.func24, Try.ntmps24
  go_wp2_with fail
  refine wp_loop_rounds 4 ?_
  repeat any_goals (rw [rounds_succ]; go_wp2_with (first
    | (go_at_call 49; refine (RetB.grown (refPart_any _ _ _ _ _)).mono ?_; rintro e' w' ⟨rfl, g, rfl⟩)
    | (refine wp_region_xt (by kernel_rfl) (by kernel_rfl) ?_; (repeat (go_big_quiet_step (first | (go_at_call 49; exact RetB.quiet (refPart_any _ _ _ _ _))))); refine wpQuiet_nil ?_; intro g)
    | (refine wp_region_xt_tail 25 (by kernel_rfl) (by kernel_rfl) ?_; simp only [List.take_succ_cons, List.take_zero, List.drop_succ_cons, List.drop_zero]; (repeat (go_big_quiet_step (first | (go_at_call 49; exact RetB.quiet (refPart_any _ _ _ _ _))))); refine wpQuiet_nil ?_; intro g)))
  refine bodyPost_ret (v := .agg #[.int .i64 (b * z - c * y), .int .i64 (c * x - a * z), .int .i64 (a * y - b * x)]) (by simp [results, Try.results24, go_sem]) rfl ?_
  exact RetB.of rfl (by repeat' (first | exact Below.refl _ _ | assumption | refine Below.xt ?_ ?_ _ | refine Below.alloc ?_ ?_ _ | refine Below.drew ?_ | refine Below.setCell ?_ ?_ _ | (simp; done) | (simp; omega)))

set_option maxHeartbeats 800000 in
theorem refDistance2_any (a b c x y z : Int) (w : World) (ha : vok a b c = true) (hx : vok x y z = true) :
    Calls Try.prog 25 #[.agg #[.int .i64 a, .int .i64 b, .int .i64 c], .agg #[.int .i64 x, .int .i64 y, .int .i64 z]] w (RetB (.int .i64 ((a - x) * (a - x) + (b - y) * (b - y) + (c - z) * (c - z))) w) := by
  obtain ⟨⟨a1, a2⟩, ⟨b1, b2⟩, c1, c2⟩ := vok_iff.1 ha
  obtain ⟨⟨x1, x2⟩, ⟨y1, y2⟩, z1, z2⟩ := vok_iff.1 hx
  have CS := fun w => Lib.hid (refSub_any a b c x y z w (mild_vok ha) (mild_vok hx))
  have CD := fun w => Lib.hid (refDot_any (a - x) (b - y) (c - z) (a - x) (b - y) (c - z) w (by omega) (by omega) (by omega) (by omega) (by omega) (by omega))
  go_enter Try.func25, Try.ntmps25
  go_wp2_with (first
    | (go_at_call 18; refine (RetB.grown ((CS _).out)).mono ?_; rintro e' w' ⟨rfl, g, rfl⟩)
    | (go_at_call 23; refine (RetB.grown ((CD _).out)).mono ?_; rintro e' w' ⟨rfl, g, rfl⟩)
    | (refine wp_region_xt (by kernel_rfl) (by kernel_rfl) ?_; (repeat (go_big_quiet_step (first | (go_at_call 18; exact RetB.quiet ((CS _).out)) | (go_at_call 23; exact RetB.quiet ((CD _).out))))); refine wpQuiet_nil ?_; intro g))
  go_ret
  exact RetB.of rfl (by repeat' (first | exact Below.refl _ _ | assumption | refine Below.xt ?_ ?_ _ | refine Below.alloc ?_ ?_ _ | refine Below.drew ?_ | refine Below.setCell ?_ ?_ _ | (simp; done) | (simp; omega)))

set_option maxHeartbeats 800000 in
theorem refTurn_any (a b c x y z p q r : Int) (w : World) (ha : vok a b c = true) (hx : vok x y z = true) (hp : vok p q r = true) :
    Calls Try.prog 29 #[.agg #[.int .i64 a, .int .i64 b, .int .i64 c], .agg #[.int .i64 x, .int .i64 y, .int .i64 z], .agg #[.int .i64 p, .int .i64 q, .int .i64 r]] w (RetB (.int .i64 (sgn (turn2 a b x y p q))) w) := by
  obtain ⟨⟨a1, a2⟩, ⟨b1, b2⟩, c1, c2⟩ := vok_iff.1 ha
  obtain ⟨⟨x1, x2⟩, ⟨y1, y2⟩, z1, z2⟩ := vok_iff.1 hx
  obtain ⟨⟨p1, p2⟩, ⟨q1, q2⟩, r1, r2⟩ := vok_iff.1 hp
  have C0 := fun w => Lib.hid (refSub_any x y z a b c w (mild_vok hx) (mild_vok ha))
  have C1 := fun w => Lib.hid (refSub_any p q r a b c w (mild_vok hp) (mild_vok ha))
  have CC := fun w => Lib.hid (refCross_any (x - a) (y - b) (z - c) (p - a) (q - b) (r - c) w (by omega) (by omega) (by omega) (by omega) (by omega) (by omega))
  have hf : ∀ (p q r : Int) (w : World), (Instr.field 23 (.agg #[.int .i64 p, .int .i64 q, .int .i64 r]) 2).run Try.prog w = .ok (.int .i64 r) w := fun _ _ _ _ => by kernel_rfl
  unfold turn2
  rcases Int.lt_trichotomy ((x - a) * (q - b) - (y - b) * (p - a)) 0 with h | h | h
  · have e : sgn ((x - a) * (q - b) - (y - b) * (p - a)) = -1 := by simp only [sgn, if_pos h]
    rw [e]
    clear e
    go_enter Try.func29, Try.ntmps29
    go_wp2_with (first
      | (go_at_call 18; (with_reducible refine (RetB.grown ((C0 _).out)).mono ?_); rintro e' w' ⟨rfl, g, rfl⟩)
      | (go_at_call 18; (with_reducible refine (RetB.grown ((C1 _).out)).mono ?_); rintro e' w' ⟨rfl, g, rfl⟩)
      | (go_at_call 24; refine (RetB.grown ((CC _).out)).mono ?_; rintro e' w' ⟨rfl, g, rfl⟩)
      | (refine wp_region_xt (by kernel_rfl) (by kernel_rfl) ?_; (repeat (go_big_quiet_step (first | (go_at_call 18; (with_reducible exact RetB.quiet ((C0 _).out))) | (go_at_call 18; (with_reducible exact RetB.quiet ((C1 _).out))) | (go_at_call 24; exact RetB.quiet ((CC _).out))))); refine wpQuiet_nil ?_; intro g))
    go_ret
    exact RetB.of rfl (by repeat' (first | exact Below.refl _ _ | assumption | refine Below.xt ?_ ?_ _ | refine Below.alloc ?_ ?_ _ | refine Below.drew ?_ | refine Below.setCell ?_ ?_ _ | (simp; done) | (simp; omega)))
  · have e : sgn ((x - a) * (q - b) - (y - b) * (p - a)) = 0 := by simp [sgn, h]
    have h1 : ¬ (x - a) * (q - b) - (y - b) * (p - a) < 0 := by omega
    have h2 : ¬ 0 < (x - a) * (q - b) - (y - b) * (p - a) := by omega
    rw [e]
    clear e h
    go_enter Try.func29, Try.ntmps29
    go_wp2_with (first
      | (go_at_call 18; (with_reducible refine (RetB.grown ((C0 _).out)).mono ?_); rintro e' w' ⟨rfl, g, rfl⟩)
      | (go_at_call 18; (with_reducible refine (RetB.grown ((C1 _).out)).mono ?_); rintro e' w' ⟨rfl, g, rfl⟩)
      | (go_at_call 24; refine (RetB.grown ((CC _).out)).mono ?_; rintro e' w' ⟨rfl, g, rfl⟩)
      | (refine wp_region_xt (by kernel_rfl) (by kernel_rfl) ?_; (repeat (go_big_quiet_step (first | (go_at_call 18; (with_reducible exact RetB.quiet ((C0 _).out))) | (go_at_call 18; (with_reducible exact RetB.quiet ((C1 _).out))) | (go_at_call 24; exact RetB.quiet ((CC _).out))))); refine wpQuiet_nil ?_; intro g))
    go_ret
    exact RetB.of rfl (by repeat' (first | exact Below.refl _ _ | assumption | refine Below.xt ?_ ?_ _ | refine Below.alloc ?_ ?_ _ | refine Below.drew ?_ | refine Below.setCell ?_ ?_ _ | (simp; done) | (simp; omega)))
  · have e : sgn ((x - a) * (q - b) - (y - b) * (p - a)) = 1 := by simp only [sgn, if_neg (Int.not_lt.2 (Int.le_of_lt h)), if_pos h]
    rw [e]
    clear e
    go_enter Try.func29, Try.ntmps29
    go_wp2_with (first
      | (go_at_call 18; (with_reducible refine (RetB.grown ((C0 _).out)).mono ?_); rintro e' w' ⟨rfl, g, rfl⟩)
      | (go_at_call 18; (with_reducible refine (RetB.grown ((C1 _).out)).mono ?_); rintro e' w' ⟨rfl, g, rfl⟩)
      | (go_at_call 24; refine (RetB.grown ((CC _).out)).mono ?_; rintro e' w' ⟨rfl, g, rfl⟩)
      | (refine wp_region_xt (by kernel_rfl) (by kernel_rfl) ?_; (repeat (go_big_quiet_step (first | (go_at_call 18; (with_reducible exact RetB.quiet ((C0 _).out))) | (go_at_call 18; (with_reducible exact RetB.quiet ((C1 _).out))) | (go_at_call 24; exact RetB.quiet ((CC _).out))))); refine wpQuiet_nil ?_; intro g))
    go_ret
    exact RetB.of rfl (by repeat' (first | exact Below.refl _ _ | assumption | refine Below.xt ?_ ?_ _ | refine Below.alloc ?_ ?_ _ | refine Below.drew ?_ | refine Below.setCell ?_ ?_ _ | (simp; done) | (simp; omega)))

/-! ### The product with a number, and results that are not valid -/
set_option maxHeartbeats 800000 in
theorem refScale_near_x (a b c n : Int) (w : World) (h : vok a b c = true) (hz : ¬ a = 0) (hn : within n (-16777216) 16777216 = true) :
    Calls Try.prog 15 #[.agg #[.int .i64 a, .int .i64 b, .int .i64 c], .int .i64 n] w (RetB (.tuple #[.agg #[.int .i64 (outP (a * n) (b * n) (c * n) (a * n)), .int .i64 (outP (a * n) (b * n) (c * n) (b * n)), .int .i64 (outP (a * n) (b * n) (c * n) (c * n))], .int .i64 (outE (a * n) (b * n) (c * n))]) w) := by
  obtain ⟨n1, n2⟩ := within_iff.1 hn
  obtain ⟨ha, hb, hc⟩ := vok_iff.1 h
  obtain ⟨p0, q0⟩ := prod_le ha ⟨n1, n2⟩
  obtain ⟨p1, q1⟩ := prod_le hb ⟨n1, n2⟩
  obtain ⟨p2, q2⟩ := prod_le hc ⟨n1, n2⟩
  clear ha hb hc h hn
  have c1 := fun w => refValid_any (a * n) (b * n) (c * n) w
  by_cases ho : vok (a * n) (b * n) (c * n) = true
  · simp only [outP, outE, ho, if_true] at c1 ⊢
    try simp only [Int.zero_mul] at *
    have C1 := fun w => Lib.hid (c1 w)
    clear c1 ho
    go_enter Try.func15, Try.ntmps15
    go_wp2_with (first
      | (go_at_call 13; refine (RetB.grown ((C1 _).out)).mono ?_; rintro e' w' ⟨rfl, g, rfl⟩)
      | (refine wp_region_xt (by kernel_rfl) (by kernel_rfl) ?_; (repeat (go_big_quiet_step (first | (go_at_call 13; exact RetB.quiet ((C1 _).out))))); refine wpQuiet_nil ?_; intro g))
    refine bodyPost_ret (by simp [results, Try.results15, go_sem]; rfl) rfl ?_
    exact RetB.of rfl (by repeat' (first | exact Below.refl _ _ | assumption | refine Below.xt ?_ ?_ _ | refine Below.alloc ?_ ?_ _ | refine Below.drew ?_ | refine Below.setCell ?_ ?_ _ | (simp; done) | (simp; omega)))
  · simp only [outP, outE, Bool.eq_false_iff.2 ho] at c1 ⊢
    try simp only [Int.zero_mul] at *
    have C1 := fun w => Lib.hid (c1 w)
    clear c1 ho
    go_enter Try.func15, Try.ntmps15
    go_wp2_with (first
      | (go_at_call 13; refine (RetB.grown ((C1 _).out)).mono ?_; rintro e' w' ⟨rfl, g, rfl⟩)
      | (refine wp_region_xt (by kernel_rfl) (by kernel_rfl) ?_; (repeat (go_big_quiet_step (first | (go_at_call 13; exact RetB.quiet ((C1 _).out))))); refine wpQuiet_nil ?_; intro g))
    refine bodyPost_ret (by simp [results, Try.results15, go_sem]; rfl) rfl ?_
    exact RetB.of rfl (by repeat' (first | exact Below.refl _ _ | assumption | refine Below.xt ?_ ?_ _ | refine Below.alloc ?_ ?_ _ | refine Below.drew ?_ | refine Below.setCell ?_ ?_ _ | (simp; done) | (simp; omega)))
set_option maxHeartbeats 800000 in
theorem refScale_near_y (a b c n : Int) (w : World) (h : vok 0 b c = true) (hz : ¬ b = 0) (hn : within n (-16777216) 16777216 = true) :
    Calls Try.prog 15 #[.agg #[.int .i64 0, .int .i64 b, .int .i64 c], .int .i64 n] w (RetB (.tuple #[.agg #[.int .i64 (outP (0 * n) (b * n) (c * n) (0 * n)), .int .i64 (outP (0 * n) (b * n) (c * n) (b * n)), .int .i64 (outP (0 * n) (b * n) (c * n) (c * n))], .int .i64 (outE (0 * n) (b * n) (c * n))]) w) := by
  obtain ⟨n1, n2⟩ := within_iff.1 hn
  obtain ⟨ha, hb, hc⟩ := vok_iff.1 h
  obtain ⟨p0, q0⟩ := prod_le ha ⟨n1, n2⟩
  obtain ⟨p1, q1⟩ := prod_le hb ⟨n1, n2⟩
  obtain ⟨p2, q2⟩ := prod_le hc ⟨n1, n2⟩
  clear ha hb hc h hn
  have c1 := fun w => refValid_any (0 * n) (b * n) (c * n) w
  by_cases ho : vok (0 * n) (b * n) (c * n) = true
  · simp only [outP, outE, ho, if_true] at c1 ⊢
    try simp only [Int.zero_mul] at *
    have C1 := fun w => Lib.hid (c1 w)
    clear c1 ho
    go_enter Try.func15, Try.ntmps15
    go_wp2_with (first
      | (go_at_call 13; refine (RetB.grown ((C1 _).out)).mono ?_; rintro e' w' ⟨rfl, g, rfl⟩)
      | (refine wp_region_xt (by kernel_rfl) (by kernel_rfl) ?_; (repeat (go_big_quiet_step (first | (go_at_call 13; exact RetB.quiet ((C1 _).out))))); refine wpQuiet_nil ?_; intro g))
    refine bodyPost_ret (by simp [results, Try.results15, go_sem]; rfl) rfl ?_
    exact RetB.of rfl (by repeat' (first | exact Below.refl _ _ | assumption | refine Below.xt ?_ ?_ _ | refine Below.alloc ?_ ?_ _ | refine Below.drew ?_ | refine Below.setCell ?_ ?_ _ | (simp; done) | (simp; omega)))
  · simp only [outP, outE, Bool.eq_false_iff.2 ho] at c1 ⊢
    try simp only [Int.zero_mul] at *
    have C1 := fun w => Lib.hid (c1 w)
    clear c1 ho
    go_enter Try.func15, Try.ntmps15
    go_wp2_with (first
      | (go_at_call 13; refine (RetB.grown ((C1 _).out)).mono ?_; rintro e' w' ⟨rfl, g, rfl⟩)
      | (refine wp_region_xt (by kernel_rfl) (by kernel_rfl) ?_; (repeat (go_big_quiet_step (first | (go_at_call 13; exact RetB.quiet ((C1 _).out))))); refine wpQuiet_nil ?_; intro g))
    refine bodyPost_ret (by simp [results, Try.results15, go_sem]; rfl) rfl ?_
    exact RetB.of rfl (by repeat' (first | exact Below.refl _ _ | assumption | refine Below.xt ?_ ?_ _ | refine Below.alloc ?_ ?_ _ | refine Below.drew ?_ | refine Below.setCell ?_ ?_ _ | (simp; done) | (simp; omega)))
set_option maxHeartbeats 800000 in
theorem refScale_near_z (a b c n : Int) (w : World) (h : vok 0 0 c = true) (hz : ¬ c = 0) (hn : within n (-16777216) 16777216 = true) :
    Calls Try.prog 15 #[.agg #[.int .i64 0, .int .i64 0, .int .i64 c], .int .i64 n] w (RetB (.tuple #[.agg #[.int .i64 (outP (0 * n) (0 * n) (c * n) (0 * n)), .int .i64 (outP (0 * n) (0 * n) (c * n) (0 * n)), .int .i64 (outP (0 * n) (0 * n) (c * n) (c * n))], .int .i64 (outE (0 * n) (0 * n) (c * n))]) w) := by
  obtain ⟨n1, n2⟩ := within_iff.1 hn
  obtain ⟨ha, hb, hc⟩ := vok_iff.1 h
  obtain ⟨p0, q0⟩ := prod_le ha ⟨n1, n2⟩
  obtain ⟨p1, q1⟩ := prod_le hb ⟨n1, n2⟩
  obtain ⟨p2, q2⟩ := prod_le hc ⟨n1, n2⟩
  clear ha hb hc h hn
  have c1 := fun w => refValid_any (0 * n) (0 * n) (c * n) w
  by_cases ho : vok (0 * n) (0 * n) (c * n) = true
  · simp only [outP, outE, ho, if_true] at c1 ⊢
    try simp only [Int.zero_mul] at *
    have C1 := fun w => Lib.hid (c1 w)
    clear c1 ho
    go_enter Try.func15, Try.ntmps15
    go_wp2_with (first
      | (go_at_call 13; refine (RetB.grown ((C1 _).out)).mono ?_; rintro e' w' ⟨rfl, g, rfl⟩)
      | (refine wp_region_xt (by kernel_rfl) (by kernel_rfl) ?_; (repeat (go_big_quiet_step (first | (go_at_call 13; exact RetB.quiet ((C1 _).out))))); refine wpQuiet_nil ?_; intro g))
    refine bodyPost_ret (by simp [results, Try.results15, go_sem]; rfl) rfl ?_
    exact RetB.of rfl (by repeat' (first | exact Below.refl _ _ | assumption | refine Below.xt ?_ ?_ _ | refine Below.alloc ?_ ?_ _ | refine Below.drew ?_ | refine Below.setCell ?_ ?_ _ | (simp; done) | (simp; omega)))
  · simp only [outP, outE, Bool.eq_false_iff.2 ho] at c1 ⊢
    try simp only [Int.zero_mul] at *
    have C1 := fun w => Lib.hid (c1 w)
    clear c1 ho
    go_enter Try.func15, Try.ntmps15
    go_wp2_with (first
      | (go_at_call 13; refine (RetB.grown ((C1 _).out)).mono ?_; rintro e' w' ⟨rfl, g, rfl⟩)
      | (refine wp_region_xt (by kernel_rfl) (by kernel_rfl) ?_; (repeat (go_big_quiet_step (first | (go_at_call 13; exact RetB.quiet ((C1 _).out))))); refine wpQuiet_nil ?_; intro g))
    refine bodyPost_ret (by simp [results, Try.results15, go_sem]; rfl) rfl ?_
    exact RetB.of rfl (by repeat' (first | exact Below.refl _ _ | assumption | refine Below.xt ?_ ?_ _ | refine Below.alloc ?_ ?_ _ | refine Below.drew ?_ | refine Below.setCell ?_ ?_ _ | (simp; done) | (simp; omega)))
set_option maxHeartbeats 400000 in
theorem refScale_zero (n : Int) (w : World) : Calls Try.prog 15 #[.agg #[.int .i64 0, .int .i64 0, .int .i64 0], .int .i64 n] w (RetB (.tuple #[.agg #[.int .i64 0, .int .i64 0, .int .i64 0], .int .i64 0]) w) := by
  go_enter Try.func15, Try.ntmps15
  go_wp2
  refine bodyPost_ret (v := .tuple #[.agg #[.int .i64 0, .int .i64 0, .int .i64 0], .int .i64 0]) (by simp [results, Try.results15, go_sem]) rfl ?_
  exact RetB.of rfl (by repeat' (first | exact Below.refl _ _ | assumption | refine Below.xt ?_ ?_ _ | refine Below.alloc ?_ ?_ _ | refine Below.drew ?_ | refine Below.setCell ?_ ?_ _ | (simp; done) | (simp; omega)))
set_option maxHeartbeats 400000 in
theorem refScale_far (a b c n : Int) (w : World) (hz : ¬ (a = 0 ∧ b = 0 ∧ c = 0)) (hn : within n (-16777216) 16777216 = false) :
    Calls Try.prog 15 #[.agg #[.int .i64 a, .int .i64 b, .int .i64 c], .int .i64 n] w (RetB (.tuple #[.agg #[.int .i64 0, .int .i64 0, .int .i64 0], .int .i64 3]) w) := by
  have hn' : ¬ (-16777216 ≤ n ∧ n ≤ 16777216) := by rw [← within_iff, hn]; simp
  clear hn
  go_enter Try.func15, Try.ntmps15
  go_wp2_with fail
  all_goals go_tidy
  all_goals first | (exfalso; omega) | skip
  all_goals
    refine bodyPost_ret (v := .tuple #[.agg #[.int .i64 0, .int .i64 0, .int .i64 0], .int .i64 3]) (by simp [results, Try.results15, go_sem]) rfl ?_
    exact RetB.of rfl (by repeat' (first | exact Below.refl _ _ | assumption | refine Below.xt ?_ ?_ _ | refine Below.alloc ?_ ?_ _ | refine Below.drew ?_ | refine Below.setCell ?_ ?_ _ | (simp; done) | (simp; omega)))
theorem refScale_ok (a b c n : Int) (w : World) (h : vok a b c = true) :
    Calls Try.prog 15 #[.agg #[.int .i64 a, .int .i64 b, .int .i64 c], .int .i64 n] w (RetB (.tuple #[.agg #[.int .i64 (scP a b c n (a * n)), .int .i64 (scP a b c n (b * n)), .int .i64 (scP a b c n (c * n))], .int .i64 (scE a b c n)]) w) := by
  by_cases hz : a = 0 ∧ b = 0 ∧ c = 0
  · simp only [scP, scE, if_pos hz]
    obtain ⟨rfl, rfl, rfl⟩ := hz
    exact refScale_zero n w
  · simp only [scP, scE, if_neg hz]
    by_cases hn : within n (-16777216) 16777216 = true
    · simp only [if_pos hn]
      by_cases ha : a = 0
      · subst ha
        by_cases hb : b = 0
        · subst hb
          exact refScale_near_z 0 0 c n w h (by omega) hn
        · exact refScale_near_y 0 b c n w h hb hn
      · exact refScale_near_x a b c n w h ha hn
    · simp only [if_neg hn]
      exact refScale_far a b c n w hz (by simpa using hn)

set_option maxHeartbeats 400000 in
theorem out_any (x y z : Int) (w : World) : Calls Try.prog 16 #[.agg #[.int .i64 x, .int .i64 y, .int .i64 z]] w (RetB (.tuple #[.agg #[.int .i64 (outP x y z x), .int .i64 (outP x y z y), .int .i64 (outP x y z z)], .int .i64 (outE x y z)]) w) := by
  by_cases h : vok x y z = true
  · simp only [outP, outE, h, if_true]
    go_enter Try.func16, Try.ntmps16
    go_wp2_with (first
      | (go_at_call 13; refine (RetB.grown (refValid_any x y z _)).mono ?_; rintro e' w' ⟨rfl, g, rfl⟩)
      | (refine wp_region_xt (by kernel_rfl) (by kernel_rfl) ?_; (repeat (go_big_quiet_step (first | (go_at_call 13; exact RetB.quiet (refValid_any x y z _))))); refine wpQuiet_nil ?_; intro g))
    refine bodyPost_ret (v := .tuple #[.agg #[.int .i64 x, .int .i64 y, .int .i64 z], .int .i64 0]) (by simp [results, Try.results16, go_sem]) rfl ?_
    exact RetB.of rfl (by repeat' (first | exact Below.refl _ _ | assumption | refine Below.xt ?_ ?_ _ | refine Below.alloc ?_ ?_ _ | refine Below.drew ?_ | refine Below.setCell ?_ ?_ _ | (simp; done) | (simp; omega)))
  · have h' : vok x y z = false := by simpa using h
    simp only [outP, outE, h']
    clear h
    go_enter Try.func16, Try.ntmps16
    go_wp2_with (first
      | (go_at_call 13; refine (RetB.grown (refValid_any x y z _)).mono ?_; rintro e' w' ⟨rfl, g, rfl⟩)
      | (refine wp_region_xt (by kernel_rfl) (by kernel_rfl) ?_; (repeat (go_big_quiet_step (first | (go_at_call 13; exact RetB.quiet (refValid_any x y z _))))); refine wpQuiet_nil ?_; intro g))
    refine bodyPost_ret (v := .tuple #[.agg #[.int .i64 0, .int .i64 0, .int .i64 0], .int .i64 3]) (by simp [results, Try.results16, go_sem]) rfl ?_
    exact RetB.of rfl (by repeat' (first | exact Below.refl _ _ | assumption | refine Below.xt ?_ ?_ _ | refine Below.alloc ?_ ?_ _ | refine Below.drew ?_ | refine Below.setCell ?_ ?_ _ | (simp; done) | (simp; omega)))

end Go.Proofs.Ytjgfobknifobhaa

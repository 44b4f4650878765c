/- Walks of cameras, by the program: roots, turns. Conditions stand in each theorem. -/
import Derived.Test.YtjeemlnhokihoaaCamW1
namespace Go.Proofs.Ytjeemlnhokihoaa
open Go.RowKit
set_option linter.unusedVariables false
attribute [local go_sem ↓] ld16

theorem ofInt_i64 (a : Nat) (ha : a < 9223372036854775808) : (BitVec.ofInt 64 (a : Int)).toNat = a := by
  rw [BitVec.ofInt_natCast, BitVec.toNat_ofNat]; exact Nat.mod_eq_of_lt (by omega)
theorem and3 (q : Int) : bits .and .i64 q 3 = q % 4 := by
  show IntKind.i64.wrap ((BitVec.ofInt 64 q &&& BitVec.ofInt 64 3).toNat : Int) = _
  have h3 : (BitVec.ofInt 64 3).toNat = 3 := by decide
  rw [BitVec.toNat_and, h3]
  have h4 : (BitVec.ofInt 64 q).toNat &&& 3 = (BitVec.ofInt 64 q).toNat % 4 := Nat.and_two_pow_sub_one_eq_mod _ 2
  have h5 : ((BitVec.ofInt 64 q).toNat : Int) = q % 18446744073709551616 := by
    rw [BitVec.toNat_ofInt]
    have := Int.emod_nonneg q (show (18446744073709551616 : Int) ≠ 0 by decide)
    simp; omega
  rw [h4, IntKind.wrap_i64]
  omega

set_option maxHeartbeats 800000 in
theorem turned_0 (c : Cam) (q : Int) (w : World) (hc : Good c) (h : q % 4 = 0) : Calls Try.prog 33 #[.agg #[.int .i64 c.e.x, .int .i64 c.e.y, .int .i64 c.e.z, .int .i64 c.r.x, .int .i64 c.r.y, .int .i64 c.r.z, .int .i64 c.u.x, .int .i64 c.u.y, .int .i64 c.u.z, .int .i64 c.f.x, .int .i64 c.f.y, .int .i64 c.f.z, .int .i64 c.fo, .int .i64 c.wi, .int .i64 c.he, .int .i64 c.ne], .int .i64 q] w (RetB (.agg #[.int .i64 c.e.x, .int .i64 c.e.y, .int .i64 c.e.z, .int .i64 c.r.x, .int .i64 c.r.y, .int .i64 c.r.z, .int .i64 c.u.x, .int .i64 c.u.y, .int .i64 c.u.z, .int .i64 c.f.x, .int .i64 c.f.y, .int .i64 c.f.z, .int .i64 c.fo, .int .i64 c.wi, .int .i64 c.he, .int .i64 c.ne]) w) := by
  have ha := and3 q
  rw [h] at ha
  clear h hc
  go_enter Try.func33, Try.ntmps33
  go_wp2_with fail
  refine bodyPost_ret (v := .agg #[.int .i64 c.e.x, .int .i64 c.e.y, .int .i64 c.e.z, .int .i64 c.r.x, .int .i64 c.r.y, .int .i64 c.r.z, .int .i64 c.u.x, .int .i64 c.u.y, .int .i64 c.u.z, .int .i64 c.f.x, .int .i64 c.f.y, .int .i64 c.f.z, .int .i64 c.fo, .int .i64 c.wi, .int .i64 c.he, .int .i64 c.ne]) (by simp [results, Try.results33, go_sem]) rfl ?_
  exact RetB.of rfl (by repeat' (first | exact Below.refl _ _ | assumption | refine Below.xt ?_ ?_ _ | refine Below.alloc ?_ ?_ _ | refine Below.drew ?_ | refine Below.setCell ?_ ?_ _ | (simp; done) | (simp; omega)))
set_option maxHeartbeats 1600000 in
theorem turned_1 (c : Cam) (q : Int) (w : World) (hc : Good c) (h : q % 4 = 1) : Calls Try.prog 33 #[.agg #[.int .i64 c.e.x, .int .i64 c.e.y, .int .i64 c.e.z, .int .i64 c.r.x, .int .i64 c.r.y, .int .i64 c.r.z, .int .i64 c.u.x, .int .i64 c.u.y, .int .i64 c.u.z, .int .i64 c.f.x, .int .i64 c.f.y, .int .i64 c.f.z, .int .i64 c.fo, .int .i64 c.wi, .int .i64 c.he, .int .i64 c.ne], .int .i64 q] w (RetB (.agg #[.int .i64 ((c.q 1).e.x), .int .i64 ((c.q 1).e.y), .int .i64 ((c.q 1).e.z), .int .i64 ((c.q 1).r.x), .int .i64 ((c.q 1).r.y), .int .i64 ((c.q 1).r.z), .int .i64 ((c.q 1).u.x), .int .i64 ((c.q 1).u.y), .int .i64 ((c.q 1).u.z), .int .i64 ((c.q 1).f.x), .int .i64 ((c.q 1).f.y), .int .i64 ((c.q 1).f.z), .int .i64 ((c.q 1).fo), .int .i64 ((c.q 1).wi), .int .i64 ((c.q 1).he), .int .i64 ((c.q 1).ne)]) w) := by
  have ha := and3 q
  rw [h] at ha
  have M1 := fun w => Lib.hid (minus_any c.r w hc.r)
  have M2 := fun w => Lib.hid (minus_any c.f w hc.f)
  clear h hc
  go_enter Try.func33, Try.ntmps33
  go_wp2_with fail
  refine wp_region_xt_tail 6 (by kernel_rfl) (by kernel_rfl) ?_
  simp only [List.take_succ_cons, List.take_zero, List.drop_succ_cons, List.drop_zero]
  repeat (go_big_quiet_step (first | (go_at_call 43; (with_reducible exact RetB.quiet (M1 _).out)) | (go_at_call 43; (with_reducible exact RetB.quiet (M2 _).out))))
  refine wpQuiet_nil ?_
  intro g
  go_wp2_with fail
  refine bodyPost_ret (v := .agg #[.int .i64 ((c.q 1).e.x), .int .i64 ((c.q 1).e.y), .int .i64 ((c.q 1).e.z), .int .i64 ((c.q 1).r.x), .int .i64 ((c.q 1).r.y), .int .i64 ((c.q 1).r.z), .int .i64 ((c.q 1).u.x), .int .i64 ((c.q 1).u.y), .int .i64 ((c.q 1).u.z), .int .i64 ((c.q 1).f.x), .int .i64 ((c.q 1).f.y), .int .i64 ((c.q 1).f.z), .int .i64 ((c.q 1).fo), .int .i64 ((c.q 1).wi), .int .i64 ((c.q 1).he), .int .i64 ((c.q 1).ne)]) (by simp [results, Try.results33, go_sem, Cam.q]) rfl ?_
  exact RetB.of rfl (by repeat' (first | exact Below.refl _ _ | assumption | refine Below.xt ?_ ?_ _ | refine Below.alloc ?_ ?_ _ | refine Below.drew ?_ | refine Below.setCell ?_ ?_ _ | (simp; done) | (simp; omega)))
set_option maxHeartbeats 1600000 in
theorem turned_2 (c : Cam) (q : Int) (w : World) (hc : Good c) (h : q % 4 = 2) : Calls Try.prog 33 #[.agg #[.int .i64 c.e.x, .int .i64 c.e.y, .int .i64 c.e.z, .int .i64 c.r.x, .int .i64 c.r.y, .int .i64 c.r.z, .int .i64 c.u.x, .int .i64 c.u.y, .int .i64 c.u.z, .int .i64 c.f.x, .int .i64 c.f.y, .int .i64 c.f.z, .int .i64 c.fo, .int .i64 c.wi, .int .i64 c.he, .int .i64 c.ne], .int .i64 q] w (RetB (.agg #[.int .i64 ((c.q 2).e.x), .int .i64 ((c.q 2).e.y), .int .i64 ((c.q 2).e.z), .int .i64 ((c.q 2).r.x), .int .i64 ((c.q 2).r.y), .int .i64 ((c.q 2).r.z), .int .i64 ((c.q 2).u.x), .int .i64 ((c.q 2).u.y), .int .i64 ((c.q 2).u.z), .int .i64 ((c.q 2).f.x), .int .i64 ((c.q 2).f.y), .int .i64 ((c.q 2).f.z), .int .i64 ((c.q 2).fo), .int .i64 ((c.q 2).wi), .int .i64 ((c.q 2).he), .int .i64 ((c.q 2).ne)]) w) := by
  have ha := and3 q
  rw [h] at ha
  have M1 := fun w => Lib.hid (minus_any c.r w hc.r)
  have M2 := fun w => Lib.hid (minus_any c.f w hc.f)
  clear h hc
  go_enter Try.func33, Try.ntmps33
  go_wp2_with fail
  refine wp_region_xt_tail 7 (by kernel_rfl) (by kernel_rfl) ?_
  simp only [List.take_succ_cons, List.take_zero, List.drop_succ_cons, List.drop_zero]
  repeat (go_big_quiet_step (first | (go_at_call 43; (with_reducible exact RetB.quiet (M1 _).out)) | (go_at_call 43; (with_reducible exact RetB.quiet (M2 _).out))))
  refine wpQuiet_nil ?_
  intro g
  go_wp2_with fail
  refine bodyPost_ret (v := .agg #[.int .i64 ((c.q 2).e.x), .int .i64 ((c.q 2).e.y), .int .i64 ((c.q 2).e.z), .int .i64 ((c.q 2).r.x), .int .i64 ((c.q 2).r.y), .int .i64 ((c.q 2).r.z), .int .i64 ((c.q 2).u.x), .int .i64 ((c.q 2).u.y), .int .i64 ((c.q 2).u.z), .int .i64 ((c.q 2).f.x), .int .i64 ((c.q 2).f.y), .int .i64 ((c.q 2).f.z), .int .i64 ((c.q 2).fo), .int .i64 ((c.q 2).wi), .int .i64 ((c.q 2).he), .int .i64 ((c.q 2).ne)]) (by simp [results, Try.results33, go_sem, Cam.q]) rfl ?_
  exact RetB.of rfl (by repeat' (first | exact Below.refl _ _ | assumption | refine Below.xt ?_ ?_ _ | refine Below.alloc ?_ ?_ _ | refine Below.drew ?_ | refine Below.setCell ?_ ?_ _ | (simp; done) | (simp; omega)))
set_option maxHeartbeats 1600000 in
theorem turned_3 (c : Cam) (q : Int) (w : World) (hc : Good c) (h : q % 4 = 3) : Calls Try.prog 33 #[.agg #[.int .i64 c.e.x, .int .i64 c.e.y, .int .i64 c.e.z, .int .i64 c.r.x, .int .i64 c.r.y, .int .i64 c.r.z, .int .i64 c.u.x, .int .i64 c.u.y, .int .i64 c.u.z, .int .i64 c.f.x, .int .i64 c.f.y, .int .i64 c.f.z, .int .i64 c.fo, .int .i64 c.wi, .int .i64 c.he, .int .i64 c.ne], .int .i64 q] w (RetB (.agg #[.int .i64 ((c.q 3).e.x), .int .i64 ((c.q 3).e.y), .int .i64 ((c.q 3).e.z), .int .i64 ((c.q 3).r.x), .int .i64 ((c.q 3).r.y), .int .i64 ((c.q 3).r.z), .int .i64 ((c.q 3).u.x), .int .i64 ((c.q 3).u.y), .int .i64 ((c.q 3).u.z), .int .i64 ((c.q 3).f.x), .int .i64 ((c.q 3).f.y), .int .i64 ((c.q 3).f.z), .int .i64 ((c.q 3).fo), .int .i64 ((c.q 3).wi), .int .i64 ((c.q 3).he), .int .i64 ((c.q 3).ne)]) w) := by
  have ha := and3 q
  rw [h] at ha
  have M1 := fun w => Lib.hid (minus_any c.r w hc.r)
  have M2 := fun w => Lib.hid (minus_any c.f w hc.f)
  clear h hc
  go_enter Try.func33, Try.ntmps33
  go_wp2_with fail
  refine wp_region_xt_tail 6 (by kernel_rfl) (by kernel_rfl) ?_
  simp only [List.take_succ_cons, List.take_zero, List.drop_succ_cons, List.drop_zero]
  repeat (go_big_quiet_step (first | (go_at_call 43; (with_reducible exact RetB.quiet (M1 _).out)) | (go_at_call 43; (with_reducible exact RetB.quiet (M2 _).out))))
  refine wpQuiet_nil ?_
  intro g
  go_wp2_with fail
  refine bodyPost_ret (v := .agg #[.int .i64 ((c.q 3).e.x), .int .i64 ((c.q 3).e.y), .int .i64 ((c.q 3).e.z), .int .i64 ((c.q 3).r.x), .int .i64 ((c.q 3).r.y), .int .i64 ((c.q 3).r.z), .int .i64 ((c.q 3).u.x), .int .i64 ((c.q 3).u.y), .int .i64 ((c.q 3).u.z), .int .i64 ((c.q 3).f.x), .int .i64 ((c.q 3).f.y), .int .i64 ((c.q 3).f.z), .int .i64 ((c.q 3).fo), .int .i64 ((c.q 3).wi), .int .i64 ((c.q 3).he), .int .i64 ((c.q 3).ne)]) (by simp [results, Try.results33, go_sem, Cam.q]) rfl ?_
  exact RetB.of rfl (by repeat' (first | exact Below.refl _ _ | assumption | refine Below.xt ?_ ?_ _ | refine Below.alloc ?_ ?_ _ | refine Below.drew ?_ | refine Below.setCell ?_ ?_ _ | (simp; done) | (simp; omega)))

theorem q0_eq (c : Cam) : c.q 0 = c := rfl
/-- Quarters, reckoned from 0 to 3. -/
def Cam.turn (c : Cam) (q : Int) : Cam := c.q (q % 4).toNat
theorem turned_any (c : Cam) (q : Int) (w : World) (hc : Good c) : Calls Try.prog 33 #[.agg #[.int .i64 c.e.x, .int .i64 c.e.y, .int .i64 c.e.z, .int .i64 c.r.x, .int .i64 c.r.y, .int .i64 c.r.z, .int .i64 c.u.x, .int .i64 c.u.y, .int .i64 c.u.z, .int .i64 c.f.x, .int .i64 c.f.y, .int .i64 c.f.z, .int .i64 c.fo, .int .i64 c.wi, .int .i64 c.he, .int .i64 c.ne], .int .i64 q] w (RetB (.agg #[.int .i64 ((c.turn q).e.x), .int .i64 ((c.turn q).e.y), .int .i64 ((c.turn q).e.z), .int .i64 ((c.turn q).r.x), .int .i64 ((c.turn q).r.y), .int .i64 ((c.turn q).r.z), .int .i64 ((c.turn q).u.x), .int .i64 ((c.turn q).u.y), .int .i64 ((c.turn q).u.z), .int .i64 ((c.turn q).f.x), .int .i64 ((c.turn q).f.y), .int .i64 ((c.turn q).f.z), .int .i64 ((c.turn q).fo), .int .i64 ((c.turn q).wi), .int .i64 ((c.turn q).he), .int .i64 ((c.turn q).ne)]) w) := by
  have h : q % 4 = 0 ∨ q % 4 = 1 ∨ q % 4 = 2 ∨ q % 4 = 3 := by omega
  unfold Cam.turn
  rcases h with h | h | h | h
  · rw [h]; exact turned_0 c q w hc h
  · rw [h]; exact turned_1 c q w hc h
  · rw [h]; exact turned_2 c q w hc h
  · rw [h]; exact turned_3 c q w hc h

/-! ### Roots -/
theorem pow_step (j : Nat) : (2 : Int) ^ (j + 1) = 2 * 2 ^ j := by rw [Int.pow_succ, Int.mul_comm]
theorem shr1 (n : Nat) : ((2 * (n : Int)) : Int) / 2 = n := by omega

end Go.Proofs.Ytjeemlnhokihoaa

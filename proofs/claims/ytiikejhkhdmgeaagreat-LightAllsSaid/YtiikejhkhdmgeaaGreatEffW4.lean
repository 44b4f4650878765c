
/- Walks: phases, numbers and mixtures, by the program and by the reference. Conditions stand in each theorem. -/
import Derived.Test.YtiikejhkhdmgeaaGreatEffW2
import Derived.Test.YtiikejhkhdmgeaaGreatMem
namespace Go.Proofs.YtiikejhkhdmgeaaGreat
open Go.RowKit
set_option linter.unusedVariables false

theorem number_chain0 (s i t : Int) :
    ((((6364136223846793005 * ((((6364136223846793005 * (((6364136223846793005 * (s + 1)) % 18446744073709551616 + i) % 18446744073709551616)) % 18446744073709551616) + t) % 18446744073709551616)) % 18446744073709551616) + 1442695040888963407) % 18446744073709551616)
    = (6364136223846793005 * (6364136223846793005 * (6364136223846793005 * (s + 1) + i) + t) + 1442695040888963407) % 18446744073709551616 := by
  omega

theorem number_chain {s i t : Int} (hs : 0 ≤ s) (hi : 0 ≤ i) (ht : 0 ≤ t) :
    wrap64 (IntKind.u64.wrap ((IntKind.u64.wrap (IntKind.u64.wrap (6364136223846793005 * IntKind.u64.wrap (IntKind.u64.wrap (6364136223846793005 * IntKind.u64.wrap (IntKind.u64.wrap (6364136223846793005 * (s + 1)) + i)) + t)) + 1442695040888963407)).tdiv 8589934592)) = numberOf s i t := by
  simp only [IntKind.wrap_u64, number_chain0]
  unfold numberOf
  have h0 := Int.emod_nonneg (6364136223846793005 * (6364136223846793005 * (6364136223846793005 * (s + 1) + i) + t) + 1442695040888963407) (show (18446744073709551616 : Int) ≠ 0 by omega)
  rw [Int.tdiv_eq_ediv_of_nonneg h0]
  unfold wrap64
  omega

set_option maxHeartbeats 400000 in
theorem number_any (s i t : Int) (w : World) (hs : 0 ≤ s) (hs' : s ≤ 2147483647) (hi : 0 ≤ i) (hi' : i ≤ 9223372036854775807) (ht : 0 ≤ t) (ht' : t ≤ 9223372036854775807) :
    Calls Tryz.prog 66 #[.int .i64 s, .int .i64 i, .int .i64 t] w (Ret (.int .i64 (numberOf s i t)) w) := by
  go_enter Tryz.func66, Tryz.ntmps66
  go_wp2
  go_ret
  exact Ret.of (int_eq (number_chain hs hi ht))

theorem number_chain2 {s i t : Int} (hs : 0 ≤ s) (hi : 0 ≤ i) (ht : 0 ≤ t) :
    wrap64 (IntKind.u64.wrap (IntKind.u64.wrap (6364136223846793005 * IntKind.u64.wrap (IntKind.u64.wrap (6364136223846793005 * IntKind.u64.wrap (IntKind.u64.wrap (6364136223846793005 * (s + 1)) + i)) + t)) + 1442695040888963407) / 8589934592) = numberOf s i t := by
  simp only [IntKind.wrap_u64, number_chain0]
  unfold numberOf wrap64
  omega

set_option maxHeartbeats 400000 in
theorem Number_ok (s i t : Int) (w : World) (hs : 0 ≤ s) (hs' : s ≤ 2147483647) (hi : 0 ≤ i) (hi' : i ≤ 9223372036854775807) (ht : 0 ≤ t) (ht' : t ≤ 9223372036854775807) :
    Calls Tryz.prog 53 #[.int .i64 s, .int .i64 i, .int .i64 t] w (RetB (.tuple #[.int .i64 (numberOf s i t), .int .i64 0]) w) := by
  have hw : within s 0 2147483647 = true := by simp [within]; omega
  have i0 : ∀ w, (Instr.index 129 (.agg #[.int .u64 i, .int .u64 t, .int .u64 1442695040888963407]) (.int .i64 0)).run Tryz.prog w = .ok (.int .u64 i) w := fun _ => by kernel_rfl
  have i1 : ∀ w, (Instr.index 129 (.agg #[.int .u64 i, .int .u64 t, .int .u64 1442695040888963407]) (.int .i64 1)).run Tryz.prog w = .ok (.int .u64 t) w := fun _ => by kernel_rfl
  have i2 : ∀ w, (Instr.index 129 (.agg #[.int .u64 i, .int .u64 t, .int .u64 1442695040888963407]) (.int .i64 2)).run Tryz.prog w = .ok (.int .u64 1442695040888963407) w := fun _ => by kernel_rfl
  by_cases hm : t < i
  all_goals
    go_enter Tryz.func53, Tryz.ntmps53
    go_wp2_with (go_at_call 88; refine (within_any _ _ _ _).mono ?_; rintro e' w' ⟨rfl, rfl⟩)
    go_rounds 4
    go_ret2
    refine RetB.of (tup_int ?_) (by go_grown)
    exact number_chain2 hs hi ht

def numErr (s i t : Int) : Int := if within s 0 2147483647 && decide (0 ≤ i) && decide (0 ≤ t) then 0 else 2
def numVal (s i t : Int) : Int := if within s 0 2147483647 && decide (0 ≤ i) && decide (0 ≤ t) then numberOf s i t else 0

set_option maxHeartbeats 400000 in
theorem Number_any (s i t : Int) (w : World) (hs : I64 s) (hi : I64 i) (ht : I64 t) :
    Calls Tryz.prog 53 #[.int .i64 s, .int .i64 i, .int .i64 t] w (RetB (.tuple #[.int .i64 (numVal s i t), .int .i64 (numErr s i t)]) w) := by
  by_cases h1 : within s 0 2147483647 = true
  · by_cases h2 : 0 ≤ i
    · by_cases h3 : 0 ≤ t
      · have hr := within_iff.1 h1
        have e1 : numVal s i t = numberOf s i t := by simp [numVal, h1, h2, h3]
        have e2 : numErr s i t = 0 := by simp [numErr, h1, h2, h3]
        rw [e1, e2]
        exact Number_ok s i t w hr.1 hr.2 h2 hi.2 h3 ht.2
      · have e1 : numVal s i t = 0 := by simp [numVal, h3]
        have e2 : numErr s i t = 2 := by simp [numErr, h3]
        rw [e1, e2]
        clear e1 e2
        obtain ⟨i1, i2⟩ := hi
        obtain ⟨t1, t2⟩ := ht
        have hm : t < i := by omega
        go_enter Tryz.func53, Tryz.ntmps53
        go_wp2_with (go_at_call 88; refine (within_any _ _ _ _).mono ?_; rintro e' w' ⟨rfl, rfl⟩)
        go_ret2
        exact RetB.of rfl (by go_grown)
    · have e1 : numVal s i t = 0 := by simp [numVal, h2]
      have e2 : numErr s i t = 2 := by simp [numErr, h2]
      rw [e1, e2]
      clear e1 e2
      obtain ⟨i1, i2⟩ := hi
      obtain ⟨t1, t2⟩ := ht
      by_cases hm : t < i
      all_goals
        go_enter Tryz.func53, Tryz.ntmps53
        go_wp2_with (go_at_call 88; refine (within_any _ _ _ _).mono ?_; rintro e' w' ⟨rfl, rfl⟩)
        go_ret2
        exact RetB.of rfl (by go_grown)
  · have e1 : numVal s i t = 0 := by simp [numVal, h1]
    have e2 : numErr s i t = 2 := by simp [numErr, h1]
    rw [e1, e2]
    clear e1 e2
    have h1' : within s 0 2147483647 = false := by simpa using h1
    clear h1
    go_enter Tryz.func53, Tryz.ntmps53
    go_wp2_with (go_at_call 88; refine (within_any _ _ _ _).mono ?_; rintro e' w' ⟨rfl, rfl⟩)
    go_ret2
    exact RetB.of rfl (by go_grown)

end Go.Proofs.YtiikejhkhdmgeaaGreat

/- Walks: hexadecimal digits, by the program and by the reference. Conditions stand in each theorem. -/
import Derived.Test.YtkekhnclbkachaaColW3
namespace Go.Proofs.Ytkekhnclbkachaa
open Go.RowKit
set_option linter.unusedVariables false
set_option linter.unusedSimpArgs false

/-- The value of a hexadecimal digit, or -1. -/
def dig (x : Int) : Int := if 48 ≤ x ∧ x ≤ 57 then x - 48 else if 97 ≤ x ∧ x ≤ 102 then x - 87 else -1
theorem dig_le (x : Int) : -1 ≤ dig x ∧ dig x ≤ 15 := by unfold dig; split <;> (try split) <;> omega
theorem dig_hexd : ∀ {n : Nat}, n < 16 → dig (hexd n) = n
  | 0, _ => by decide
  | 1, _ => by decide
  | 2, _ => by decide
  | 3, _ => by decide
  | 4, _ => by decide
  | 5, _ => by decide
  | 6, _ => by decide
  | 7, _ => by decide
  | 8, _ => by decide
  | 9, _ => by decide
  | 10, _ => by decide
  | 11, _ => by decide
  | 12, _ => by decide
  | 13, _ => by decide
  | 14, _ => by decide
  | 15, _ => by decide
  | n + 16, h => absurd h (by omega)
theorem hexd_dig {x : Int} (h : 0 ≤ dig x) : hexd (dig x).toNat = x := by
  have hx : (48 ≤ x ∧ x ≤ 57) ∨ (97 ≤ x ∧ x ≤ 102) := by
    unfold dig at h
    split at h
    · omega
    · split at h <;> omega
  have : x = 48 ∨ x = 49 ∨ x = 50 ∨ x = 51 ∨ x = 52 ∨ x = 53 ∨ x = 54 ∨ x = 55 ∨ x = 56 ∨ x = 57 ∨ x = 97 ∨ x = 98 ∨ x = 99 ∨ x = 100 ∨ x = 101 ∨ x = 102 := by omega
  rcases this with rfl | rfl | rfl | rfl | rfl | rfl | rfl | rfl | rfl | rfl | rfl | rfl | rfl | rfl | rfl | rfl <;> decide
theorem dig_none {x : Int} (h : ∀ j, j < 16 → hexd j ≠ x) : dig x = -1 := by
  have h1 := dig_le x
  rcases Int.lt_or_le (dig x) 0 with h2 | h2
  · omega
  · exact absurd (hexd_dig h2) (h _ (by omega))
theorem hexi_0 (w : World) : (Instr.index 9 (.string ⟨#[48, 49, 50, 51, 52, 53, 54, 55, 56, 57, 97, 98, 99, 100, 101, 102]⟩) (.int .i64 ((0 : Nat) : Int))).run Try.prog w = .ok (.int .u8 (hexd 0)) w := by kernel_rfl
theorem hexi_1 (w : World) : (Instr.index 9 (.string ⟨#[48, 49, 50, 51, 52, 53, 54, 55, 56, 57, 97, 98, 99, 100, 101, 102]⟩) (.int .i64 ((1 : Nat) : Int))).run Try.prog w = .ok (.int .u8 (hexd 1)) w := by kernel_rfl
theorem hexi_2 (w : World) : (Instr.index 9 (.string ⟨#[48, 49, 50, 51, 52, 53, 54, 55, 56, 57, 97, 98, 99, 100, 101, 102]⟩) (.int .i64 ((2 : Nat) : Int))).run Try.prog w = .ok (.int .u8 (hexd 2)) w := by kernel_rfl
theorem hexi_3 (w : World) : (Instr.index 9 (.string ⟨#[48, 49, 50, 51, 52, 53, 54, 55, 56, 57, 97, 98, 99, 100, 101, 102]⟩) (.int .i64 ((3 : Nat) : Int))).run Try.prog w = .ok (.int .u8 (hexd 3)) w := by kernel_rfl
theorem hexi_4 (w : World) : (Instr.index 9 (.string ⟨#[48, 49, 50, 51, 52, 53, 54, 55, 56, 57, 97, 98, 99, 100, 101, 102]⟩) (.int .i64 ((4 : Nat) : Int))).run Try.prog w = .ok (.int .u8 (hexd 4)) w := by kernel_rfl
theorem hexi_5 (w : World) : (Instr.index 9 (.string ⟨#[48, 49, 50, 51, 52, 53, 54, 55, 56, 57, 97, 98, 99, 100, 101, 102]⟩) (.int .i64 ((5 : Nat) : Int))).run Try.prog w = .ok (.int .u8 (hexd 5)) w := by kernel_rfl
theorem hexi_6 (w : World) : (Instr.index 9 (.string ⟨#[48, 49, 50, 51, 52, 53, 54, 55, 56, 57, 97, 98, 99, 100, 101, 102]⟩) (.int .i64 ((6 : Nat) : Int))).run Try.prog w = .ok (.int .u8 (hexd 6)) w := by kernel_rfl
theorem hexi_7 (w : World) : (Instr.index 9 (.string ⟨#[48, 49, 50, 51, 52, 53, 54, 55, 56, 57, 97, 98, 99, 100, 101, 102]⟩) (.int .i64 ((7 : Nat) : Int))).run Try.prog w = .ok (.int .u8 (hexd 7)) w := by kernel_rfl
theorem hexi_8 (w : World) : (Instr.index 9 (.string ⟨#[48, 49, 50, 51, 52, 53, 54, 55, 56, 57, 97, 98, 99, 100, 101, 102]⟩) (.int .i64 ((8 : Nat) : Int))).run Try.prog w = .ok (.int .u8 (hexd 8)) w := by kernel_rfl
theorem hexi_9 (w : World) : (Instr.index 9 (.string ⟨#[48, 49, 50, 51, 52, 53, 54, 55, 56, 57, 97, 98, 99, 100, 101, 102]⟩) (.int .i64 ((9 : Nat) : Int))).run Try.prog w = .ok (.int .u8 (hexd 9)) w := by kernel_rfl
theorem hexi_10 (w : World) : (Instr.index 9 (.string ⟨#[48, 49, 50, 51, 52, 53, 54, 55, 56, 57, 97, 98, 99, 100, 101, 102]⟩) (.int .i64 ((10 : Nat) : Int))).run Try.prog w = .ok (.int .u8 (hexd 10)) w := by kernel_rfl
theorem hexi_11 (w : World) : (Instr.index 9 (.string ⟨#[48, 49, 50, 51, 52, 53, 54, 55, 56, 57, 97, 98, 99, 100, 101, 102]⟩) (.int .i64 ((11 : Nat) : Int))).run Try.prog w = .ok (.int .u8 (hexd 11)) w := by kernel_rfl
theorem hexi_12 (w : World) : (Instr.index 9 (.string ⟨#[48, 49, 50, 51, 52, 53, 54, 55, 56, 57, 97, 98, 99, 100, 101, 102]⟩) (.int .i64 ((12 : Nat) : Int))).run Try.prog w = .ok (.int .u8 (hexd 12)) w := by kernel_rfl
theorem hexi_13 (w : World) : (Instr.index 9 (.string ⟨#[48, 49, 50, 51, 52, 53, 54, 55, 56, 57, 97, 98, 99, 100, 101, 102]⟩) (.int .i64 ((13 : Nat) : Int))).run Try.prog w = .ok (.int .u8 (hexd 13)) w := by kernel_rfl
theorem hexi_14 (w : World) : (Instr.index 9 (.string ⟨#[48, 49, 50, 51, 52, 53, 54, 55, 56, 57, 97, 98, 99, 100, 101, 102]⟩) (.int .i64 ((14 : Nat) : Int))).run Try.prog w = .ok (.int .u8 (hexd 14)) w := by kernel_rfl
theorem hexi_15 (w : World) : (Instr.index 9 (.string ⟨#[48, 49, 50, 51, 52, 53, 54, 55, 56, 57, 97, 98, 99, 100, 101, 102]⟩) (.int .i64 ((15 : Nat) : Int))).run Try.prog w = .ok (.int .u8 (hexd 15)) w := by kernel_rfl
theorem hex_index64 : ∀ {n : Nat}, n < 16 → ∀ (w : World), (Instr.index 9 (.string ⟨#[48, 49, 50, 51, 52, 53, 54, 55, 56, 57, 97, 98, 99, 100, 101, 102]⟩) (.int .i64 (n : Int))).run Try.prog w = .ok (.int .u8 (hexd n)) w
  | 0, _, w => hexi_0 w
  | 1, _, w => hexi_1 w
  | 2, _, w => hexi_2 w
  | 3, _, w => hexi_3 w
  | 4, _, w => hexi_4 w
  | 5, _, w => hexi_5 w
  | 6, _, w => hexi_6 w
  | 7, _, w => hexi_7 w
  | 8, _, w => hexi_8 w
  | 9, _, w => hexi_9 w
  | 10, _, w => hexi_10 w
  | 11, _, w => hexi_11 w
  | 12, _, w => hexi_12 w
  | 13, _, w => hexi_13 w
  | 14, _, w => hexi_14 w
  | 15, _, w => hexi_15 w
  | n + 16, h, _ => absurd h (by omega)

set_option maxHeartbeats 800000 in
theorem digit_any (x : Int) (w : World) : Calls Try.prog 37 #[.int .u8 x] w (Ret (.int .i64 (dig x)) w) := by
  obtain ⟨D, hD⟩ : ∃ D, dig x = D := ⟨_, rfl⟩
  rw [hD]
  have HD := Lib.hid hD
  clear hD
  go_enter Try.func37, Try.ntmps37
  go_wp2
  go_loop [3] (fun i => ∃ k : Nat, k ≤ 16 ∧ Hid (∀ j, j < k → hexd j ≠ x) ∧ i = .int .i64 k) (fun i => 16 - (intOf i).toNat)
  case atStart => exact ⟨0, by omega, Lib.hid fun j hj => absurd hj (by omega), rfl⟩
  case round =>
    obtain ⟨k, hk, HK, rfl⟩ := hrel
    by_cases hlt : k < 16
    · have hi := fun w => hex_index64 hlt w
      have HH := Lib.hid (dig_hexd hlt)
      have HS := Lib.hid (fun (h : hexd k ≠ x) => show ∀ j, j < k + 1 → hexd j ≠ x from fun j hj => if e : j = k then e ▸ h else HK.out j (by omega))
      generalize hexd k = y at *
      by_cases hv : y = x
      · have e1 : (y == x) = true := by simpa using hv
        have E := Lib.hid (show (k : Int) = D by rw [← HD.out, ← hv, HH.out])
        clear hv
        go_wp2
        go_ret
        exact Ret.of (int_eq E.out)
      · have e1 : (y == x) = false := by simpa using hv
        have HV := Lib.hid (HS.out hv)
        clear hv
        go_wp2
        go_round
        case rel => exact ⟨k + 1, by omega, HV, by go_num⟩
        case measure => simp [intOf]; omega
    · obtain rfl : k = 16 := by omega
      have E := Lib.hid (show -1 = D by rw [← HD.out, dig_none HK.out])
      go_wp2
      go_ret
      exact Ret.of (int_eq E.out)

set_option maxHeartbeats 800000 in
theorem index_hex (b c : Nat) (x : Int) (w : World) (hc : ∀ j, j < 16 → w.cell? ⟨b, j, none⟩ = some (.int .u8 (hexd j))) : Calls Try.prog 36 #[.slice (some ⟨b, 0, none⟩) 16 c, .int .u8 x] w (Ret (.int .i64 (dig x)) w) := by
  obtain ⟨D, hD⟩ : ∃ D, dig x = D := ⟨_, rfl⟩
  rw [hD]
  have HD := Lib.hid hD
  have HC := Lib.hid hc
  clear hD hc
  go_enter Try.func36, Try.ntmps36
  go_wp2
  go_loop [8] (fun i => ∃ k : Nat, k ≤ 16 ∧ Hid (∀ j, j < k → hexd j ≠ x) ∧ i = .int .i64 k) (fun i => 16 - (intOf i).toNat)
  case atStart => exact ⟨0, by omega, Lib.hid fun j hj => absurd hj (by omega), rfl⟩
  case round =>
    obtain ⟨k, hk, HK, rfl⟩ := hrel
    by_cases hlt : k < 16
    · have hi := HC.out k hlt
      have HH := Lib.hid (dig_hexd hlt)
      have HS := Lib.hid (fun (h : hexd k ≠ x) => show ∀ j, j < k + 1 → hexd j ≠ x from fun j hj => if e : j = k then e ▸ h else HK.out j (by omega))
      generalize hexd k = y at *
      by_cases hv : y = x
      · have e1 : (x == y) = true := by simpa using hv.symm
        have E := Lib.hid (show (k : Int) = D by rw [← HD.out, ← hv, HH.out])
        clear hv
        go_wp2
        go_ret
        exact Ret.of (int_eq E.out)
      · have e1 : (x == y) = false := by simp; exact fun h => hv h.symm
        have HV := Lib.hid (HS.out hv)
        clear hv
        go_wp2
        go_round
        case rel => exact ⟨k + 1, by omega, HV, by go_num⟩
        case measure => simp [intOf]; omega
    · obtain rfl : k = 16 := by omega
      have E := Lib.hid (show -1 = D by rw [← HD.out, dig_none HK.out])
      go_wp2
      go_ret
      exact Ret.of (int_eq E.out)

end Go.Proofs.Ytkekhnclbkachaa

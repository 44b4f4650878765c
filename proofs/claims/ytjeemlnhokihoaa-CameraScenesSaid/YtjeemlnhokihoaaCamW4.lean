/- Walks of cameras, by the program: roots. Conditions stand in each theorem. -/
import Derived.Test.YtjeemlnhokihoaaCamW1
namespace Go.Proofs.Ytjeemlnhokihoaa
open Go.RowKit
set_option linter.unusedVariables false

/-- A power of 2, or 0. -/
def bitv (b : Nat) : Prop := b = 0 ∨ ∃ j : Nat, b = 2 ^ j
theorem bitv_half {b : Nat} (h : bitv b) (h0 : 0 < b) : bitv (b / 2) ∧ (b = 1 ∨ 2 * (b / 2) = b) := by
  rcases h with rfl | ⟨j, rfl⟩
  · omega
  · cases j with
    | zero => exact ⟨.inl rfl, .inl rfl⟩
    | succ j =>
      rw [Nat.pow_succ]
      exact ⟨.inr ⟨j, by omega⟩, .inr (by omega)⟩

set_option maxHeartbeats 800000 in
theorem root_any (n : Nat) (w : World) (hn : n < 4611686018427387904) : Calls Try.prog 47 #[.int .i64 (n : Int)] w (Ret (.int .i64 (isq n : Int)) w) := by
  have HI := Lib.hid (fun r h1 h2 => isq_uniq (n := n) (r := r) h1 h2)
  go_enter Try.func47, Try.ntmps47
  go_wp2_with fail
  go_loop [3, 4] (fun r b => ∃ (x y : Nat), r = .int .i64 x ∧ b = .int .i64 y ∧ Hid (bitv y) ∧ x + 2 * y ≤ 2147483648 ∧ Hid (x * x ≤ n ∧ (y = 0 → n < (x + 1) * (x + 1)) ∧ (0 < y → n < (x + 2 * y) * (x + 2 * y)))) (fun _ b => (intOf b).toNat)
  case atStart => exact ⟨0, 1073741824, rfl, rfl, Lib.hid (.inr ⟨30, by decide⟩), by decide, Lib.hid ⟨by omega, fun h => absurd h (by decide), fun _ => by omega⟩⟩
  case round =>
    obtain ⟨x, y, rfl, rfl, HB, hxy, HX⟩ := hrel
    by_cases hy : 0 < y
    · have hs : (x + y) * (x + y) ≤ 4611686018427387904 := Nat.mul_le_mul (show x + y ≤ 2147483648 by omega) (show x + y ≤ 2147483648 by omega)
      have ec : ((x : Int) + y) * (x + y) = (((x + y) * (x + y) : Nat) : Int) := by rw [Int.natCast_mul, Int.natCast_add]
      have hs' : ((x : Int) + y) * (x + y) ≤ 4611686018427387904 := by rw [ec]; omega
      have hs0 : 0 ≤ ((x : Int) + y) * (x + y) := by rw [ec]; omega
      have HH := Lib.hid (bitv_half HB.out hy)
      by_cases ht : (x + y) * (x + y) ≤ n
      · have ht' : ((x : Int) + y) * (x + y) ≤ n := by rw [ec]; omega
        have HT := Lib.hid ht
        clear ht hs ec
        go_wp2
        go_round
        case rel =>
          obtain ⟨h1, h2⟩ := HH.out
          obtain ⟨x1, x2, x3⟩ := HX.out
          refine ⟨x + y, y / 2, by go_num, by go_num, h1, by omega, HT.out, fun h => ?_, fun h => ?_⟩
          · have e : y = 1 := by omega
            subst e
            have := x3 (by omega)
            exact this
          · have e : 2 * (y / 2) = y := by omega
            rw [e]
            have := x3 (by omega)
            rwa [show x + y + y = x + 2 * y by omega]
        case measure => simp [intOf]; omega
      · have ht' : (n : Int) < ((x : Int) + y) * (x + y) := by rw [ec]; omega
        have HT := Lib.hid ht
        clear ht hs ec
        go_wp2
        go_round
        case rel =>
          obtain ⟨h1, h2⟩ := HH.out
          obtain ⟨x1, x2, x3⟩ := HX.out
          have h3 := HT.out
          refine ⟨x, y / 2, rfl, by go_num, h1, by omega, x1, fun h => ?_, fun h => ?_⟩
          · have e : y = 1 := by omega
            subst e
            omega
          · have e : 2 * (y / 2) = y := by omega
            rw [e]
            omega
        case measure => simp [intOf]; omega
    · have e : y = 0 := by omega
      subst e
      go_wp2
      go_ret
      obtain ⟨x1, x2, _⟩ := HX.out
      exact Ret.of (int_eq (by have h := HI.out x x1 (x2 (by first | rfl | trivial)); omega))

end Go.Proofs.Ytjeemlnhokihoaa

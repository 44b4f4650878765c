/- The plain law of the theorem of stage 6: products of vectors, points between, turns. No condition but those in each theorem. -/
import Derived.Test.YtjgfobknifobhaaVecP
namespace Go.Proofs.Ytjgfobknifobhaa

theorem cross_left (a b c x y z : Int) : (b * z - c * y) * a + (c * x - a * z) * b + (a * y - b * x) * c = 0 := by grind
theorem cross_right (a b c x y z : Int) : (b * z - c * y) * x + (c * x - a * z) * y + (a * y - b * x) * z = 0 := by grind
theorem lagrange (a b c x y z : Int) : (b * z - c * y) * (b * z - c * y) + (c * x - a * z) * (c * x - a * z) + (a * y - b * x) * (a * y - b * x) + (a * x + b * y + c * z) * (a * x + b * y + c * z) = (a * a + b * b + c * c) * (x * x + y * y + z * z) := by grind
theorem turn_swap (a b x y p q : Int) : turn2 x y a b p q = -turn2 a b x y p q := by unfold turn2; grind
theorem sgn_neg (n : Int) : sgn (-n) = -sgn n := by
  unfold sgn
  repeat' split
  all_goals omega
theorem sgn_le (n : Int) : -1 ≤ sgn n ∧ sgn n ≤ 1 := by
  unfold sgn
  repeat' split
  all_goals omega

theorem mid_zero {a x den : Int} (hd : 1 ≤ den) : mid a x 0 den = a := by
  unfold mid
  rw [Int.mul_zero, Int.zero_add, Int.ediv_eq_zero_of_lt (by omega) (by omega)]
  omega
theorem mid_end {a x den : Int} (hd : 1 ≤ den) : mid a x den den = x := by
  unfold mid
  rw [show 2 * (x - a) * den + den = den + (x - a) * (2 * den) by rw [Int.mul_comm 2 (x - a), Int.mul_assoc]; omega]
  rw [Int.add_mul_ediv_right _ _ (by omega), Int.ediv_eq_zero_of_lt (by omega) (by omega)]
  omega
theorem mid_in {a x num den : Int} (hd : 1 ≤ den) (h0 : 0 ≤ num) (h1 : num ≤ den) : (a ≤ mid a x num den ∧ mid a x num den ≤ x) ∨ (x ≤ mid a x num den ∧ mid a x num den ≤ a) := by
  unfold mid
  have e : 2 * (x - a) * num = 2 * ((x - a) * num) := Int.mul_assoc ..
  rw [e]
  rcases Int.le_total a x with h | h
  · left
    have b1 : 0 ≤ (x - a) * num := Int.mul_nonneg (by omega) h0
    have b2 : (x - a) * num ≤ (x - a) * den := Int.mul_le_mul_of_nonneg_left h1 (by omega)
    have q1 : 0 ≤ (2 * ((x - a) * num) + den) / (2 * den) := Int.ediv_nonneg (by omega) (by omega)
    have q2 : (2 * ((x - a) * num) + den) / (2 * den) < (x - a) + 1 := Int.ediv_lt_of_lt_mul (by omega) (by
      have e3 : (x - a) * (2 * den) = 2 * ((x - a) * den) := Int.mul_left_comm ..
      rw [Int.add_mul, e3]
      omega)
    omega
  · right
    have b1 : 0 ≤ (a - x) * num := Int.mul_nonneg (by omega) h0
    have b2 : (a - x) * num ≤ (a - x) * den := Int.mul_le_mul_of_nonneg_left h1 (by omega)
    have e1 : (x - a) * num = -((a - x) * num) := by rw [← Int.neg_mul]; congr 1; omega
    have e2 : (x - a) * (2 * den) = -(2 * ((a - x) * den)) := by rw [Int.mul_left_comm, ← Int.mul_neg, ← Int.neg_mul]; congr 2; omega
    have q1 : x - a ≤ (2 * ((x - a) * num) + den) / (2 * den) := (Int.le_ediv_iff_mul_le (by omega)).2 (by rw [e1, e2]; omega)
    have q2 : (2 * ((x - a) * num) + den) / (2 * den) < 1 := Int.ediv_lt_of_lt_mul (by omega) (by rw [e1]; omega)
    omega

/-- The magnitudes of what the theorem reckons with. -/
theorem small_le {a b : Int} (ha : -16384 ≤ a ∧ a ≤ 16384) (hb : -16384 ≤ b ∧ b ≤ 16384) : -268435456 ≤ a * b ∧ a * b ≤ 268435456 := mul_le_of ha hb
theorem side_le {p a : Int} (hp : -536870912 ≤ p ∧ p ≤ 536870912) (ha : -16384 ≤ a ∧ a ≤ 16384) : -8796093022208 ≤ p * a ∧ p * a ≤ 8796093022208 := mul_le_of hp ha
theorem square_le {p q : Int} (hp : -805306368 ≤ p ∧ p ≤ 805306368) (hq : -805306368 ≤ q ∧ q ≤ 805306368) : -648518346341351424 ≤ p * q ∧ p * q ≤ 648518346341351424 := mul_le_of hp hq

end Go.Proofs.Ytjgfobknifobhaa

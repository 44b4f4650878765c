/- The plain law of vectors: what the document says of sums, products, points between and turns, with no program in sight. No condition. -/
import Derived.Test.YtjeemlnhokihoaaBase
namespace Go.Proofs.Ytjeemlnhokihoaa

structure V3 where
  x : Int
  y : Int
  z : Int

def within (a b c : Int) : Bool := decide (b ≤ a ∧ a ≤ c)
theorem within_iff {a b c : Int} : within a b c = true ↔ b ≤ a ∧ a ≤ c := by simp [within]

/-- The three numbers have at most the magnitude m. -/
def ins (m x y z : Int) : Bool := within x (-m) m && within y (-m) m && within z (-m) m
theorem ins_iff {m x y z : Int} : ins m x y z = true ↔ (-m ≤ x ∧ x ≤ m) ∧ (-m ≤ y ∧ y ≤ m) ∧ (-m ≤ z ∧ z ≤ m) := by
  simp [ins, within, and_assoc]
def vok (x y z : Int) : Bool := ins 16777216 x y z
theorem vok_iff {x y z : Int} : vok x y z = true ↔ (-16777216 ≤ x ∧ x ≤ 16777216) ∧ (-16777216 ≤ y ∧ y ≤ 16777216) ∧ (-16777216 ≤ z ∧ z ≤ 16777216) := by
  unfold vok; rw [ins_iff]
/-- A result that is not valid is an error: what stands in its place, and the error. -/
def outE (x y z : Int) : Int := if vok x y z then 0 else 3
def outP (x y z n : Int) : Int := if vok x y z then n else 0

def mid (a b num den : Int) : Int := a + (2 * (b - a) * num + den) / (2 * den)
def sgn (n : Int) : Int := if n < 0 then -1 else if 0 < n then 1 else 0
def ratio (num den : Int) : Bool := decide (1 ≤ den ∧ den ≤ 4294967296 ∧ 0 ≤ num ∧ num ≤ den)
theorem ratio_iff {num den : Int} : ratio num den = true ↔ 1 ≤ den ∧ den ≤ 4294967296 ∧ 0 ≤ num ∧ num ≤ den := by simp [ratio]
def turn2 (ax ay bx b2 cx cy : Int) : Int := (bx - ax) * (cy - ay) - (b2 - ay) * (cx - ax)

theorem mul_le_of {a b A B : Int} (ha : -A ≤ a ∧ a ≤ A) (hb : -B ≤ b ∧ b ≤ B) : -(A * B) ≤ a * b ∧ a * b ≤ A * B := by
  have hA : 0 ≤ A := by omega
  have hB : 0 ≤ B := by omega
  have h1 : a.natAbs ≤ A.toNat := by omega
  have h2 : b.natAbs ≤ B.toNat := by omega
  have h3 := Nat.mul_le_mul h1 h2
  have h4 : (a * b).natAbs = a.natAbs * b.natAbs := Int.natAbs_mul a b
  have h5 : ((A.toNat * B.toNat : Nat) : Int) = A * B := by
    rw [Int.natCast_mul, Int.toNat_of_nonneg hA, Int.toNat_of_nonneg hB]
  omega

/-- A product of two parts, of two differences. -/
theorem prod_le {a b : Int} (ha : -16777216 ≤ a ∧ a ≤ 16777216) (hb : -16777216 ≤ b ∧ b ≤ 16777216) : -281474976710656 ≤ a * b ∧ a * b ≤ 281474976710656 := mul_le_of ha hb
theorem prod2_le {a b : Int} (ha : -33554432 ≤ a ∧ a ≤ 33554432) (hb : -33554432 ≤ b ∧ b ≤ 33554432) : -1125899906842624 ≤ a * b ∧ a * b ≤ 1125899906842624 := mul_le_of ha hb

theorem tdiv_floor {a b : Int} (hb : 1 ≤ b) : (if a.tmod b < 0 then a.tdiv b - 1 else a.tdiv b) = a / b := by
  have h1 := Int.mul_tdiv_add_tmod a b
  have h2 := Int.mul_ediv_add_emod a b
  have h3 := Int.emod_nonneg a (show b ≠ 0 by omega)
  have h4 := Int.emod_lt_of_pos a (show 0 < b by omega)
  have h5 := Int.tmod_lt_of_pos a (show 0 < b by omega)
  have h6 : -b < a.tmod b := by
    rcases Int.le_total 0 a with h | h
    · have := Int.tmod_nonneg b h; omega
    · have := Int.tmod_nonneg b (show 0 ≤ -a by omega)
      have h7 := Int.tmod_lt_of_pos (-a) (show 0 < b by omega)
      rw [Int.neg_tmod] at *
      omega
  have key : ∀ q r q' r' : Int, b * q + r = a → b * q' + r' = a → 0 ≤ r → r < b → 0 ≤ r' → r' < b → q = q' := by
    intro q r q' r' e1 e2 a1 a2 a3 a4
    rcases Int.lt_trichotomy q q' with h | h | h
    · have : b * (q + 1) ≤ b * q' := Int.mul_le_mul_of_nonneg_left (by omega) (by omega)
      rw [Int.mul_add] at this; omega
    · exact h
    · have : b * (q' + 1) ≤ b * q := Int.mul_le_mul_of_nonneg_left (by omega) (by omega)
      rw [Int.mul_add] at this; omega
  split
  · exact key _ (a.tmod b + b) _ _ (by rw [Int.mul_sub]; omega) h2 (by omega) (by omega) h3 h4
  · exact key _ _ _ _ h1 h2 (by omega) (by omega) h3 h4

/-- What lies within half a step is the nearest number, and the only one. -/
theorem round_search {n d : Int} (hd : 1 ≤ d) (q : Int) :
    (q < (2 * n + d) / (2 * d) → d ≤ 2 * (n - q * d)) ∧ ((2 * n + d) / (2 * d) < q → 2 * (n - q * d) < -d) ∧
    (q = (2 * n + d) / (2 * d) → 2 * (n - q * d) < d ∧ -d ≤ 2 * (n - q * d)) := by
  have hm := Int.mul_ediv_add_emod (2 * n + d) (2 * d)
  have h0 := Int.emod_nonneg (2 * n + d) (show 2 * d ≠ 0 by omega)
  have h1 := Int.emod_lt_of_pos (2 * n + d) (show 0 < 2 * d by omega)
  generalize (2 * n + d) / (2 * d) = m at *
  generalize (2 * n + d) % (2 * d) = r at *
  have e2 : 2 * (n - q * d) = 2 * n - 2 * d * q := by rw [Int.mul_sub, Int.mul_comm q d, Int.mul_assoc]
  rw [e2]
  refine ⟨fun hq => ?_, fun hq => ?_, ?_⟩
  · have : 2 * d * (q + 1) ≤ 2 * d * m := Int.mul_le_mul_of_nonneg_left (by omega) (by omega)
    rw [Int.mul_add] at this
    omega
  · have : 2 * d * (m + 1) ≤ 2 * d * q := Int.mul_le_mul_of_nonneg_left (by omega) (by omega)
    rw [Int.mul_add] at this
    omega
  · rintro rfl
    omega

end Go.Proofs.Ytjeemlnhokihoaa

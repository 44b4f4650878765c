/- The plain law of ColorHolds. Conditions stand in each theorem. -/
import Derived.Test.YtkekhnclbkachaaColN
import Derived.Test.YtkekhnclbkachaaColW6
namespace Go.Proofs.Ytkekhnclbkachaa
open Go.RowKit
set_option linter.unusedVariables false

theorem mixPart_zero {a b den : Int} (hd : 1 ≤ den) : mixPart a b 0 den = a := by
  unfold mixPart
  have h1 : 2 * (a * (den - 0) + b * 0) + den = den + a * (2 * den) := by grind
  rw [h1, Int.add_mul_ediv_right _ _ (by omega), Int.ediv_eq_zero_of_lt (by omega) (by omega), Int.zero_add]
theorem mixPart_full {a b den : Int} (hd : 1 ≤ den) : mixPart a b den den = b := by
  unfold mixPart
  have h1 : 2 * (a * (den - den) + b * den) + den = den + b * (2 * den) := by grind
  rw [h1, Int.add_mul_ediv_right _ _ (by omega), Int.ediv_eq_zero_of_lt (by omega) (by omega), Int.zero_add]
theorem mixPart_factor {a b num den f : Int} (hf : 1 ≤ f) : mixPart a b (num * f) (den * f) = mixPart a b num den := by
  unfold mixPart
  have h1 : 2 * (a * (den * f - num * f) + b * (num * f)) + den * f = f * (2 * (a * (den - num) + b * num) + den) := by grind
  have h2 : 2 * (den * f) = f * (2 * den) := by grind
  rw [h1, h2, Int.mul_ediv_mul_of_pos _ _ (by omega)]
theorem mixPart_up {a b n m den : Int} (hd : 1 ≤ den) (hab : a ≤ b) (h : n ≤ m) : mixPart a b n den ≤ mixPart a b m den := by
  unfold mixPart
  refine Int.ediv_le_ediv (by omega) ?_
  have h1 : 0 ≤ (b - a) * (m - n) := Int.mul_nonneg (by omega) (by omega)
  have h2 : a * (den - m) + b * m - (a * (den - n) + b * n) = (b - a) * (m - n) := by grind
  omega
theorem mixPart_down {a b n m den : Int} (hd : 1 ≤ den) (hab : b ≤ a) (h : n ≤ m) : mixPart a b m den ≤ mixPart a b n den := by
  unfold mixPart
  refine Int.ediv_le_ediv (by omega) ?_
  have h1 : 0 ≤ (a - b) * (m - n) := Int.mul_nonneg (by omega) (by omega)
  have h2 : a * (den - n) + b * n - (a * (den - m) + b * m) = (a - b) * (m - n) := by grind
  omega
def btwn (a x b : Int) : Bool := (decide (a ≤ x) && decide (x ≤ b)) || (decide (b ≤ x) && decide (x ≤ a))
theorem mixPart_btwn {a b num more den : Int} (hd : 1 ≤ den) (h0 : 0 ≤ num) (h1 : 0 ≤ more) (h2 : num + more ≤ den) :
    btwn a (mixPart a b num den) (mixPart a b (num + more) den) = true ∧ btwn (mixPart a b num den) (mixPart a b (num + more) den) b = true := by
  rcases Int.le_total a b with h | h
  · have e1 := mixPart_up (n := 0) (m := num) hd h h0
    have e2 := mixPart_up (n := num) (m := num + more) hd h (by omega)
    have e3 := mixPart_up (n := num + more) (m := den) hd h h2
    rw [mixPart_zero hd] at e1
    rw [mixPart_full hd] at e3
    exact ⟨by simp [btwn]; omega, by simp [btwn]; omega⟩
  · have e1 := mixPart_down (n := 0) (m := num) hd h h0
    have e2 := mixPart_down (n := num) (m := num + more) hd h (by omega)
    have e3 := mixPart_down (n := num + more) (m := den) hd h h2
    rw [mixPart_zero hd] at e1
    rw [mixPart_full hd] at e3
    exact ⟨by simp [btwn]; omega, by simp [btwn]; omega⟩
theorem mixCol_zero {a b : Col} {den : Int} (hd : 1 ≤ den) : mixCol a b 0 den = a := by
  unfold mixCol; rw [mixPart_zero hd, mixPart_zero hd, mixPart_zero hd]
theorem mixCol_full {a b : Col} {den : Int} (hd : 1 ≤ den) : mixCol a b den den = b := by
  unfold mixCol; rw [mixPart_full hd, mixPart_full hd, mixPart_full hd]
theorem mixCol_factor {a b : Col} {num den f : Int} (hf : 1 ≤ f) : mixCol a b (num * f) (den * f) = mixCol a b num den := by
  unfold mixCol; rw [mixPart_factor hf, mixPart_factor hf, mixPart_factor hf]

theorem parse_text {c : Col} (hc : c.ok) : parseC (textB c) = c ∧ parseE (textB c) = 0 := by
  obtain ⟨⟨r0, r1⟩, ⟨g0, g1⟩, b0, b1⟩ := hc
  have b1' : bt (textB c) 1 = hexd (c.r.toNat / 16) := rfl
  have b2' : bt (textB c) 2 = hexd (c.r.toNat % 16) := rfl
  have b3' : bt (textB c) 3 = hexd (c.g.toNat / 16) := rfl
  have b4' : bt (textB c) 4 = hexd (c.g.toNat % 16) := rfl
  have b5' : bt (textB c) 5 = hexd (c.b.toNat / 16) := rfl
  have b6' : bt (textB c) 6 = hexd (c.b.toNat % 16) := rfl
  have d1 := dig_hexd (n := c.r.toNat / 16) (by omega)
  have d2 := dig_hexd (n := c.r.toNat % 16) (by omega)
  have d3 := dig_hexd (n := c.g.toNat / 16) (by omega)
  have d4 := dig_hexd (n := c.g.toNat % 16) (by omega)
  have d5 := dig_hexd (n := c.b.toNat / 16) (by omega)
  have d6 := dig_hexd (n := c.b.toNat % 16) (by omega)
  have ho : parseOk (textB c) = true := by
    unfold parseOk
    rw [hexAll_iff.2 ⟨by rw [b1', d1]; omega, by rw [b2', d2]; omega, by rw [b3', d3]; omega, by rw [b4', d4]; omega, by rw [b5', d5]; omega, by rw [b6', d6]; omega⟩]
    rfl
  refine ⟨?_, by rw [parseE, if_pos ho]⟩
  rw [parseC, if_pos ho, parseRaw, b1', b2', b3', b4', b5', b6', d1, d2, d3, d4, d5, d6]
  cases c
  simp only [Col.mk.injEq] at *
  omega

theorem mi_min (l : List Sw) (c : Col) : ∀ {k i : Nat}, i < k → cd2 (sw l (mi l c k)).c c ≤ cd2 (sw l i).c c
  | 0, i, h => absurd h (by omega)
  | k + 1, i, h => by
    rw [mi]
    by_cases e : i = k
    · subst e; split <;> omega
    · have := mi_min l c (k := k) (i := i) (by omega)
      split <;> omega
theorem sq_pos (x : Int) : 0 ≤ x * x := by
  rcases Int.le_total 0 x with h | h
  · exact Int.mul_nonneg h h
  · have := Int.mul_nonneg (show 0 ≤ -x by omega) (show 0 ≤ -x by omega)
    rwa [Int.neg_mul_neg] at this
theorem cd2_zero {a b : Col} (h : cd2 a b ≤ 0) : a = b := by
  unfold cd2 sqd at h
  have h1 := sq_pos (a.r - b.r)
  have h2 := sq_pos (a.g - b.g)
  have h3 := sq_pos (a.b - b.b)
  have e1 : (a.r - b.r) * (a.r - b.r) = 0 := by omega
  have e2 : (a.g - b.g) * (a.g - b.g) = 0 := by omega
  have e3 : (a.b - b.b) * (a.b - b.b) = 0 := by omega
  have f1 : a.r - b.r = 0 := by rcases Int.mul_eq_zero.1 e1 with h | h <;> exact h
  have f2 : a.g - b.g = 0 := by rcases Int.mul_eq_zero.1 e2 with h | h <;> exact h
  have f3 : a.b - b.b = 0 := by rcases Int.mul_eq_zero.1 e3 with h | h <;> exact h
  cases a; cases b
  simp only [Col.mk.injEq] at *
  omega
theorem cd2_self (a : Col) : cd2 a a = 0 := by unfold cd2 sqd; simp
theorem near_own {l : List Sw} {i : Nat} (hp : palB l = true) (hi : i < l.length) : nearE l (sw l i).c = 0 ∧ findE l (nearN l (sw l i).c) = 0 ∧ findC l (nearN l (sw l i).c) = (sw l i).c := by
  have hE : nearE l (sw l i).c = 0 := by rw [nearE, if_pos hp, if_neg (by omega)]
  have hN : nearN l (sw l i).c = (sw l (mi l (sw l i).c l.length)).n := by rw [nearN, if_pos hE]
  have hlt := mi_lt l (sw l i).c l.length (by omega)
  have hfix : fix l (nearN l (sw l i).c) l.length = mi l (sw l i).c l.length := fix_uniq (palB_to hp) hlt hN.symm
  have hF : findE l (nearN l (sw l i).c) = 0 := by rw [findE, if_pos hp, hfix, if_pos hlt]
  refine ⟨hE, hF, ?_⟩
  rw [findC, if_pos hF, hfix]
  have := mi_min l (sw l i).c hi
  rw [cd2_self] at this
  exact cd2_zero this

end Go.Proofs.Ytkekhnclbkachaa

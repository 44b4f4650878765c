/- The plain law of cameras: which are valid, quotients and roots, turns, with no program in sight. Conditions stand in each theorem. -/
import Derived.Test.YtjeemlnhokihoaaVecP
import Derived.IntWalk
namespace Go.Proofs.Ytjeemlnhokihoaa
open Go.RowKit
set_option linter.unusedVariables false

structure Cam where
  e : V3
  r : V3
  u : V3
  f : V3
  fo : Int
  wi : Int
  he : Int
  ne : Int

def pnt (v : V3) : Bool := ins 1048576 v.x v.y v.z
theorem pnt_iff {v : V3} : pnt v = true ↔ (-1048576 ≤ v.x ∧ v.x ≤ 1048576) ∧ (-1048576 ≤ v.y ∧ v.y ≤ 1048576) ∧ (-1048576 ≤ v.z ∧ v.z ≤ 1048576) := by unfold pnt; rw [ins_iff]
/-- A vector that may be a direction. -/
def ax (v : V3) : Bool := within v.x (-100) 100 && within v.y (-100) 100 && within v.z (-100) 100
theorem ax_iff {v : V3} : ax v = true ↔ (-100 ≤ v.x ∧ v.x ≤ 100) ∧ (-100 ≤ v.y ∧ v.y ≤ 100) ∧ (-100 ≤ v.z ∧ v.z ≤ 100) := by simp [ax, within, and_assoc]
def dt (a b : V3) : Int := a.x * b.x + a.y * b.y + a.z * b.z
/-- As it is reckoned in 64 bits. -/
def dtW (a b : V3) : Int := wrap64 (wrap64 (wrap64 (a.x * b.x) + wrap64 (a.y * b.y)) + wrap64 (a.z * b.z))
theorem dt_bd {a b : V3} {A B : Int} (ha : (-A ≤ a.x ∧ a.x ≤ A) ∧ (-A ≤ a.y ∧ a.y ≤ A) ∧ (-A ≤ a.z ∧ a.z ≤ A)) (hb : (-B ≤ b.x ∧ b.x ≤ B) ∧ (-B ≤ b.y ∧ b.y ≤ B) ∧ (-B ≤ b.z ∧ b.z ≤ B)) :
    (-(A * B) ≤ a.x * b.x ∧ a.x * b.x ≤ A * B) ∧ (-(A * B) ≤ a.y * b.y ∧ a.y * b.y ≤ A * B) ∧ (-(A * B) ≤ a.z * b.z ∧ a.z * b.z ≤ A * B) :=
  ⟨mul_le_of ha.1 hb.1, mul_le_of ha.2.1 hb.2.1, mul_le_of ha.2.2 hb.2.2⟩
theorem dtW_eq {a b : V3} {A B : Int} (ha : (-A ≤ a.x ∧ a.x ≤ A) ∧ (-A ≤ a.y ∧ a.y ≤ A) ∧ (-A ≤ a.z ∧ a.z ≤ A)) (hb : (-B ≤ b.x ∧ b.x ≤ B) ∧ (-B ≤ b.y ∧ b.y ≤ B) ∧ (-B ≤ b.z ∧ b.z ≤ B)) (h : A * B ≤ 1000000000000000000) : dtW a b = dt a b := by
  obtain ⟨h1, h2, h3⟩ := dt_bd ha hb
  unfold dtW dt
  rw [IntWalk.wrap64_in (a.x * b.x) (by omega), IntWalk.wrap64_in (a.y * b.y) (by omega), IntWalk.wrap64_in (a.z * b.z) (by omega), IntWalk.wrap64_in (a.x * b.x + a.y * b.y) (by omega), IntWalk.wrap64_in _ (by omega)]
theorem dtW_ax {a b : V3} (ha : ax a = true) (hb : ax b = true) : dtW a b = dt a b := dtW_eq (A := 100) (B := 100) (ax_iff.1 ha) (ax_iff.1 hb) (by decide)
theorem dt_ax {a b : V3} (ha : ax a = true) (hb : ax b = true) : -30000 ≤ dt a b ∧ dt a b ≤ 30000 := by
  obtain ⟨h1, h2, h3⟩ := dt_bd (ax_iff.1 ha) (ax_iff.1 hb)
  unfold dt; omega
theorem dt_comm (a b : V3) : dt a b = dt b a := by unfold dt; grind
theorem sq_nonneg (a : Int) : 0 ≤ a * a := by
  rcases Int.le_total 0 a with h | h
  · exact Int.mul_nonneg h h
  · exact Int.mul_nonneg_of_nonpos_of_nonpos h h
theorem dt_self (a : V3) : 0 ≤ dt a a := by
  unfold dt
  have := sq_nonneg a.x
  have := sq_nonneg a.y
  have := sq_nonneg a.z
  omega

/-- Each direction, looked at alone, as the program does. -/
def okv (v n r : V3) : Bool := ax v && (dtW v n == 0) && (dtW v v == dtW r r)
def fin (c : Cam) : Bool := decide (0 < dtW c.u c.u) && pnt c.e && within c.fo 1 4096 && within c.wi 1 4096 && within c.he 1 4096 && within c.ne 1 1073741824
def cvalW (c : Cam) : Bool := okv c.r c.u c.r && okv c.u c.f c.r && okv c.f c.r c.r && fin c
/-- The camera is valid. -/
def cval (c : Cam) : Bool := pnt c.e && ax c.r && ax c.u && ax c.f && (dt c.r c.r != 0) && (dt c.u c.u == dt c.r c.r) && (dt c.f c.f == dt c.r c.r) && (dt c.r c.u == 0) && (dt c.r c.f == 0) && (dt c.u c.f == 0) && within c.fo 1 4096 && within c.wi 1 4096 && within c.he 1 4096 && within c.ne 1 1073741824

theorem cvalW_eq (c : Cam) : cvalW c = cval c := by
  by_cases hr : ax c.r = true
  · by_cases hu : ax c.u = true
    · by_cases hf : ax c.f = true
      · have s := dt_self c.u
        have e : dt c.f c.r = dt c.r c.f := dt_comm _ _
        unfold cvalW cval okv fin
        rw [dtW_ax hr hu, dtW_ax hu hf, dtW_ax hf hr, dtW_ax hr hr, dtW_ax hu hu, dtW_ax hf hf, e, hr, hu, hf]
        by_cases h1 : dt c.u c.u = dt c.r c.r
        · by_cases h2 : dt c.f c.f = dt c.r c.r
          · have b1 : (dt c.u c.u == dt c.r c.r) = true := by simpa using h1
            have b2 : (dt c.f c.f == dt c.r c.r) = true := by simpa using h2
            have b3 : decide (0 < dt c.u c.u) = (dt c.r c.r != 0) := by
              rw [Bool.eq_iff_iff]; simp; omega
            rw [b1, b2, b3, beq_self_eq_true]
            generalize (dt c.r c.r != 0) = x0
            generalize (dt c.r c.u == 0) = x1
            generalize (dt c.u c.f == 0) = x2
            generalize (dt c.r c.f == 0) = x3
            generalize pnt c.e = x4
            cases x0 <;> cases x1 <;> cases x2 <;> cases x3 <;> cases x4 <;> simp
          · have b2 : (dt c.f c.f == dt c.r c.r) = false := by simpa using h2
            rw [b2]; simp
        · have b1 : (dt c.u c.u == dt c.r c.r) = false := by simpa using h1
          rw [b1]; simp
      · simp [cvalW, cval, okv, hf]
    · simp [cvalW, cval, okv, hu]
  · simp [cvalW, cval, okv, hr]

/-- What a valid camera is. -/
structure Good (c : Cam) : Prop where
  e : pnt c.e = true
  r : ax c.r = true
  u : ax c.u = true
  f : ax c.f = true
  uu : dt c.u c.u = dt c.r c.r
  ff : dt c.f c.f = dt c.r c.r
  rr : 1 ≤ dt c.r c.r
  ru : dt c.r c.u = 0
  rf : dt c.r c.f = 0
  uf : dt c.u c.f = 0
  fo : 1 ≤ c.fo ∧ c.fo ≤ 4096
  wi : 1 ≤ c.wi ∧ c.wi ≤ 4096
  he : 1 ≤ c.he ∧ c.he ≤ 4096
  ne : 1 ≤ c.ne ∧ c.ne ≤ 1073741824
theorem good_of {c : Cam} (h : cval c = true) : Good c := by
  simp only [cval, Bool.and_eq_true, bne_iff_ne, ne_eq, beq_iff_eq, within_iff] at h
  obtain ⟨⟨⟨⟨⟨⟨⟨⟨⟨⟨⟨⟨⟨h1, h2⟩, h3⟩, h4⟩, h5⟩, h6⟩, h7⟩, h8⟩, h9⟩, h10⟩, h11⟩, h12⟩, h13⟩, h14⟩ := h
  have := dt_self c.r
  exact ⟨h1, h2, h3, h4, h6, h7, by omega, h8, h9, h10, h11, h12, h13, h14⟩
theorem Good.val {c : Cam} (h : Good c) : cval c = true := by
  simp only [cval, Bool.and_eq_true, bne_iff_ne, ne_eq, beq_iff_eq, within_iff]
  exact ⟨⟨⟨⟨⟨⟨⟨⟨⟨⟨⟨⟨⟨h.e, h.r⟩, h.u⟩, h.f⟩, by have := h.rr; omega⟩, h.uu⟩, h.ff⟩, h.ru⟩, h.rf⟩, h.uf⟩, h.fo⟩, h.wi⟩, h.he⟩, h.ne⟩

/-! ### Roots -/
def isq : Nat → Nat
  | 0 => 0
  | n + 1 => if (isq n + 1) * (isq n + 1) ≤ n + 1 then isq n + 1 else isq n
theorem isq_spec : ∀ n, isq n * isq n ≤ n ∧ n < (isq n + 1) * (isq n + 1)
  | 0 => by simp [isq]
  | n + 1 => by
    obtain ⟨h1, h2⟩ := isq_spec n
    rw [isq]
    split
    · rename_i h
      refine ⟨h, ?_⟩
      have e : (isq n + 1 + 1) * (isq n + 1 + 1) = (isq n + 1) * (isq n + 1) + 2 * (isq n + 1) + 1 := by grind
      omega
    · omega
theorem sq_lt {a b : Nat} (h : a < b) : a * a < b * b := Nat.mul_lt_mul_of_lt_of_lt h h
theorem isq_uniq {n r : Nat} (h1 : r * r ≤ n) (h2 : n < (r + 1) * (r + 1)) : r = isq n := by
  obtain ⟨h3, h4⟩ := isq_spec n
  rcases Nat.lt_trichotomy r (isq n) with h | h | h
  · have := Nat.mul_le_mul (show r + 1 ≤ isq n by omega) (show r + 1 ≤ isq n by omega); omega
  · exact h
  · have := Nat.mul_le_mul (show isq n + 1 ≤ r by omega) (show isq n + 1 ≤ r by omega); omega

/-! ### Quotients -/
theorem tmod_le {a b : Int} (hb : 1 ≤ b) : -b < a.tmod b ∧ a.tmod b < b := by
  have h7 := Int.tmod_lt_of_pos a (show 0 < b by omega)
  rcases Int.le_total 0 a with h | h
  · have := Int.tmod_nonneg b h; omega
  · have := Int.tmod_nonneg b (show 0 ≤ -a by omega)
    have h8 := Int.tmod_lt_of_pos (-a) (show 0 < b by omega)
    rw [Int.neg_tmod] at *
    omega
theorem tmod_rest {a b : Int} (hb : 1 ≤ b) : (a.tmod b + b) % b = a % b := by
  have h := Int.mul_tdiv_add_tmod a b
  have e : a.tmod b + b = a + b * (1 - a.tdiv b) := by rw [Int.mul_sub]; omega
  rw [e, Int.add_mul_emod_self_left]
theorem floor_eq {a b : Int} (hb : 1 ≤ b) : (a - a % b).tdiv b = a / b := by
  have h := Int.mul_ediv_add_emod a b
  have e : a - a % b = b * (a / b) := by omega
  rw [e, Int.mul_tdiv_cancel_left _ (by omega)]
theorem ediv_bd {a b A : Int} (hb : 1 ≤ b) (hA : 0 ≤ A) (h1 : -A ≤ a) (h2 : a ≤ A) : -A ≤ a / b ∧ a / b ≤ A := by
  constructor
  · refine (Int.le_ediv_iff_mul_le (by omega)).2 ?_
    have := Int.mul_le_mul_of_nonneg_left hb hA
    rw [Int.mul_one] at this
    rw [Int.neg_mul]; omega
  · rcases Int.le_total 0 a with h | h
    · have := Int.ediv_le_self b h; omega
    · have : a / b ≤ 0 := by
        have h3 : a / b < 1 := Int.ediv_lt_of_lt_mul (by omega) (by omega)
        omega
      omega

/-! ### Turns -/
def neg (v : V3) : V3 := ⟨-v.x, -v.y, -v.z⟩
def Cam.q (c : Cam) (k : Nat) : Cam := if k = 1 then { c with r := neg c.f, f := c.r } else if k = 2 then { c with r := neg c.r, f := neg c.f } else if k = 3 then { c with r := c.f, f := neg c.r } else c

end Go.Proofs.Ytjeemlnhokihoaa

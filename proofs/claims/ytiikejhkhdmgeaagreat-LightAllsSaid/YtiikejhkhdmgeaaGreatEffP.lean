
/- The plain law of colours and effects: what the document says of mixtures, phases and numbers, with no program in sight. No condition. -/
import Derived.Test.YtiikejhkhdmgeaaGreatBase
namespace Go.Proofs.YtiikejhkhdmgeaaGreat

structure V3 where
  x : Int
  y : Int
  z : Int
structure Col where
  r : Int
  g : Int
  b : Int
structure Eff where
  kind : Int
  fr : Int
  to : Int
  period : Int
  width : Int
  along : V3
  scale : Int
  seed : Int
  a : Col
  b : Col

def U8 (n : Int) : Prop := 0 ≤ n ∧ n ≤ 255
def Col.ok (c : Col) : Prop := U8 c.r ∧ U8 c.g ∧ U8 c.b

def within (a b c : Int) : Bool := decide (b ≤ a ∧ a ≤ c)
theorem within_iff {a b c : Int} : within a b c = true ↔ b ≤ a ∧ a ≤ c := by simp [within]

def point (v : V3) : Bool := within v.x (-1048576) 1048576 && within v.y (-1048576) 1048576 && within v.z (-1048576) 1048576
def vzero (v : V3) : Bool := decide (v.x = 0 ∧ v.y = 0 ∧ v.z = 0)
def direction (v : V3) : Bool := !vzero v && within v.x (-100) 100 && within v.y (-100) 100 && within v.z (-100) 100
def spanOk (e : Eff) : Bool := decide (0 ≤ e.fr ∧ e.fr < e.to ∧ e.to ≤ 3600000) && within e.period 1 3600000
def moving (e : Eff) : Bool := direction e.along && within e.scale 1 1048576 && decide (e.seed = 0)
def kindOk (e : Eff) : Bool :=
  if e.kind = 1 then moving e && decide (e.width = 0)
  else if e.kind = 2 then moving e && within e.width 0 e.period
  else if e.kind = 3 then vzero e.along && decide (e.scale = 0) && within e.width 0 1000 && within e.seed 0 2147483647
  else false
def effValid (e : Eff) : Bool := spanOk e && kindOk e

def dot3 (a b : V3) : Int := a.x * b.x + a.y * b.y + a.z * b.z
def phase (e : Eff) (p : V3) : Int := if e.kind = 3 then 0 else (dot3 e.along p / e.scale) % e.period

def numberOf (seed index slot : Int) : Int :=
  ((6364136223846793005 * (6364136223846793005 * (6364136223846793005 * (seed + 1) + index) + slot) + 1442695040888963407) % 18446744073709551616) / 8589934592

def mixPart (a b num den : Int) : Int := (2 * (a * (den - num) + b * num) + den) / (2 * den)
def mixCol (a b : Col) (num den : Int) : Col := ⟨mixPart a.r b.r num den, mixPart a.g b.g num den, mixPart a.b b.b num den⟩
def black : Col := ⟨0, 0, 0⟩
def mixOk (num den : Int) : Bool := decide (1 ≤ den ∧ den ≤ 3600000 ∧ 0 ≤ num ∧ num ≤ den)

def litAt (e : Eff) (index : Int) (q since : Int) : Bool :=
  if e.kind = 3 then decide (numberOf e.seed index (since / e.period) % 1000 < e.width) else decide (q < e.width)
def waveN (q period : Int) : Int := if 2 * q ≤ 2 * (period - q) then 2 * q else 2 * (period - q)
def colourAt (e : Eff) (index : Int) (p : V3) (time : Int) : Col :=
  let q := (time - e.fr + phase e p) % e.period
  if e.kind = 1 then mixCol e.a e.b (waveN q e.period) e.period
  else if litAt e index q (time - e.fr) then e.b else e.a
def atErr (e : Eff) (index : Int) (p : V3) (time : Int) : Int :=
  if effValid e && decide (0 ≤ index) && point p then (if e.fr ≤ time ∧ time < e.to then 0 else 3) else 2
def atCol (e : Eff) (index : Int) (p : V3) (time : Int) : Col := if atErr e index p time = 0 then colourAt e index p time else black

/-! ### Bounds -/
theorem mul_le_of {a b A B : Int} (ha : -A ≤ a ∧ a ≤ A) (hb : -B ≤ b ∧ b ≤ B) : -(A * B) ≤ a * b ∧ a * b ≤ A * B := by
  have hA : 0 ≤ A := by omega
  have hB : 0 ≤ B := by omega
  have h1 : a.natAbs ≤ A.toNat := by omega
  have h2 : b.natAbs ≤ B.toNat := by omega
  have h3 := Nat.mul_le_mul h1 h2
  have h4 : (a * b).natAbs = a.natAbs * b.natAbs := Int.natAbs_mul a b
  have h5 : ((A.toNat * B.toNat : Nat) : Int) = A * B := by
    rw [Int.natCast_mul, Int.toNat_of_nonneg hA, Int.toNat_of_nonneg hB]
  omega

theorem point_iff {v : V3} : point v = true ↔ (-1048576 ≤ v.x ∧ v.x ≤ 1048576) ∧ (-1048576 ≤ v.y ∧ v.y ≤ 1048576) ∧ (-1048576 ≤ v.z ∧ v.z ≤ 1048576) := by
  simp [point, within, and_assoc]
theorem direction_le {v : V3} (h : direction v = true) : (-100 ≤ v.x ∧ v.x ≤ 100) ∧ (-100 ≤ v.y ∧ v.y ≤ 100) ∧ (-100 ≤ v.z ∧ v.z ≤ 100) := by
  simp [direction, within] at h
  omega

theorem span_le {e : Eff} (h : effValid e = true) : 0 ≤ e.fr ∧ e.fr < e.to ∧ e.to ≤ 3600000 ∧ 1 ≤ e.period ∧ e.period ≤ 3600000 := by
  simp [effValid, spanOk, within] at h
  omega
theorem kind_of {e : Eff} (h : effValid e = true) : e.kind = 1 ∨ e.kind = 2 ∨ e.kind = 3 := by
  simp only [effValid, kindOk, Bool.and_eq_true] at h
  by_cases h1 : e.kind = 1
  · exact .inl h1
  · by_cases h2 : e.kind = 2
    · exact .inr (.inl h2)
    · by_cases h3 : e.kind = 3
      · exact .inr (.inr h3)
      · rw [if_neg h1, if_neg h2, if_neg h3] at h; cases h.2
theorem moving_of {e : Eff} (h : effValid e = true) (hk : e.kind ≠ 3) : direction e.along = true ∧ 1 ≤ e.scale ∧ e.scale ≤ 1048576 ∧ e.seed = 0 := by
  have h2 := h
  simp only [effValid, kindOk, Bool.and_eq_true] at h2
  rcases kind_of h with hk1 | hk1 | hk1
  · simp [hk1, moving, within] at h2; exact ⟨h2.2.1.1.1, by omega, by omega, h2.2.1.2⟩
  · simp [hk1, moving, within] at h2; exact ⟨h2.2.1.1.1, by omega, by omega, h2.2.1.2⟩
  · exact absurd hk1 hk
theorem width_of {e : Eff} (h : effValid e = true) : 0 ≤ e.width ∧ e.width ≤ 3600000 := by
  have h1 := span_le h
  have h2 := h
  simp only [effValid, kindOk, Bool.and_eq_true] at h2
  rcases kind_of h with hk1 | hk1 | hk1
  · simp [hk1, moving, within] at h2; omega
  · simp [hk1, moving, within] at h2; omega
  · simp [hk1, within] at h2; omega
theorem seed_of {e : Eff} (h : effValid e = true) : 0 ≤ e.seed ∧ e.seed ≤ 2147483647 := by
  have h2 := h
  simp only [effValid, kindOk, Bool.and_eq_true] at h2
  rcases kind_of h with hk1 | hk1 | hk1
  · simp [hk1, moving, within] at h2; omega
  · simp [hk1, moving, within] at h2; omega
  · simp [hk1, within] at h2; omega

theorem prods_le {a p : V3} (ha : direction a = true) (hp : point p = true) :
    (-104857600 ≤ a.x * p.x ∧ a.x * p.x ≤ 104857600) ∧ (-104857600 ≤ a.y * p.y ∧ a.y * p.y ≤ 104857600) ∧ (-104857600 ≤ a.z * p.z ∧ a.z * p.z ≤ 104857600) := by
  have h1 := direction_le ha
  have h2 := point_iff.1 hp
  exact ⟨mul_le_of h1.1 h2.1, mul_le_of h1.2.1 h2.2.1, mul_le_of h1.2.2 h2.2.2⟩

theorem phase_le {e : Eff} {p : V3} (h : effValid e = true) : 0 ≤ phase e p ∧ phase e p < e.period := by
  have h1 := span_le h
  unfold phase
  split
  · omega
  · exact ⟨Int.emod_nonneg _ (by omega), Int.emod_lt_of_pos _ (by omega)⟩

theorem number_le (seed index slot : Int) : 0 ≤ numberOf seed index slot ∧ numberOf seed index slot ≤ 2147483647 := by
  unfold numberOf
  omega

/-- A mixture lies between both parts. -/
theorem mixPart_le {a b num den : Int} (ha : U8 a) (hb : U8 b) (hd : 1 ≤ den) (h0 : 0 ≤ num) (h1 : num ≤ den) : U8 (mixPart a b num den) := by
  unfold U8 at *
  have e1 : 0 ≤ a * (den - num) := Int.mul_nonneg ha.1 (by omega)
  have e2 : 0 ≤ b * num := Int.mul_nonneg hb.1 h0
  have e3 : a * (den - num) ≤ 255 * (den - num) := Int.mul_le_mul_of_nonneg_right ha.2 (by omega)
  have e4 : b * num ≤ 255 * num := Int.mul_le_mul_of_nonneg_right hb.2 h0
  unfold mixPart
  constructor
  · exact Int.ediv_nonneg (by omega) (by omega)
  · have : (2 * (a * (den - num) + b * num) + den) / (2 * den) < 256 := Int.ediv_lt_of_lt_mul (by omega) (by omega)
    omega
theorem mixCol_ok {a b : Col} {num den : Int} (ha : a.ok) (hb : b.ok) (hd : 1 ≤ den) (h0 : 0 ≤ num) (h1 : num ≤ den) : (mixCol a b num den).ok :=
  ⟨mixPart_le ha.1 hb.1 hd h0 h1, mixPart_le ha.2.1 hb.2.1 hd h0 h1, mixPart_le ha.2.2 hb.2.2 hd h0 h1⟩

theorem mixPart_prods {a b num den : Int} (ha : U8 a) (hb : U8 b) (hd : 1 ≤ den) (hd' : den ≤ 3600000) (h0 : 0 ≤ num) (h1 : num ≤ den) :
    0 ≤ a * (den - num) ∧ a * (den - num) ≤ 918000000 ∧ 0 ≤ b * num ∧ b * num ≤ 918000000 := by
  unfold U8 at *
  have e1 : 0 ≤ a * (den - num) := Int.mul_nonneg ha.1 (by omega)
  have e2 : 0 ≤ b * num := Int.mul_nonneg hb.1 h0
  have e3 : a * (den - num) ≤ 255 * (den - num) := Int.mul_le_mul_of_nonneg_right ha.2 (by omega)
  have e4 : b * num ≤ 255 * num := Int.mul_le_mul_of_nonneg_right hb.2 h0
  omega

theorem waveN_le {q period : Int} (h0 : 0 ≤ q) (h1 : q < period) : 0 ≤ waveN q period ∧ waveN q period ≤ period := by
  unfold waveN; split <;> omega

/-- What the reference's search finds. -/
theorem part_search {a b num den : Int} (hd : 1 ≤ den) (n : Int) :
    (n < mixPart a b num den → den ≤ 2 * (a * den + (b - a) * num) - 2 * n * den) ∧
    (n = mixPart a b num den → -den ≤ 2 * (a * den + (b - a) * num) - 2 * n * den ∧ 2 * (a * den + (b - a) * num) - 2 * n * den < den) := by
  have e : a * den + (b - a) * num = a * (den - num) + b * num := by
    rw [Int.sub_mul, Int.mul_sub]; omega
  rw [e]
  unfold mixPart
  generalize a * (den - num) + b * num = t
  have hm := Int.mul_ediv_add_emod (2 * t + den) (2 * den)
  have h0 := Int.emod_nonneg (2 * t + den) (show 2 * den ≠ 0 by omega)
  have h1 := Int.emod_lt_of_pos (2 * t + den) (show 0 < 2 * den by omega)
  generalize (2 * t + den) / (2 * den) = m at *
  generalize (2 * t + den) % (2 * den) = r at *
  have e2 : 2 * n * den = 2 * den * n := by rw [Int.mul_assoc, Int.mul_assoc, Int.mul_comm n den]
  rw [e2]
  constructor
  · intro hn
    have : 2 * den * (n + 1) ≤ 2 * den * m := Int.mul_le_mul_of_nonneg_left (by omega) (by omega)
    rw [Int.mul_add] at this
    omega
  · rintro rfl
    omega

/-! ### The two ways to write one quotient -/
theorem tdiv_floor {a b : Int} (hb : 1 ≤ b) : (if a.tmod b < 0 then a.tdiv b - 1 else a.tdiv b) = a / b := by
  have h1 := Int.mul_tdiv_add_tmod a b
  have h2 := Int.mul_ediv_add_emod a b
  have h3 := Int.emod_nonneg a (show b ≠ 0 by omega)
  have h4 := Int.emod_lt_of_pos a (show 0 < b by omega)
  have h5 := Int.tmod_lt_of_pos a (show 0 < b by omega)
  have h6 : -b < a.tmod b := by
    rcases Int.le_total 0 a with h | h
    · have := Int.tmod_nonneg b h; omega
    · have := Int.tmod_nonneg b (show 0 ≤ -a by omega)
      have h7 := Int.tmod_lt_of_pos (-a) (show 0 < b by omega)
      rw [Int.neg_tmod] at *
      omega
  have key : ∀ q r q' r' : Int, b * q + r = a → b * q' + r' = a → 0 ≤ r → r < b → 0 ≤ r' → r' < b → q = q' := by
    intro q r q' r' e1 e2 a1 a2 a3 a4
    rcases Int.lt_trichotomy q q' with h | h | h
    · have : b * (q + 1) ≤ b * q' := Int.mul_le_mul_of_nonneg_left (by omega) (by omega)
      rw [Int.mul_add] at this; omega
    · exact h
    · have : b * (q' + 1) ≤ b * q := Int.mul_le_mul_of_nonneg_left (by omega) (by omega)
      rw [Int.mul_add] at this; omega
  split
  · exact key _ (a.tmod b + b) _ _ (by rw [Int.mul_sub]; omega) h2 (by omega) (by omega) h3 h4
  · exact key _ _ _ _ h1 h2 (by omega) (by omega) h3 h4

theorem tmod_rest {a b : Int} (hb : 1 ≤ b) : (a.tmod b + b).tmod b = a % b := by
  have h4 := Int.emod_lt_of_pos a (show 0 < b by omega)
  have h3 := Int.emod_nonneg a (show b ≠ 0 by omega)
  have h1 := Int.mul_tdiv_add_tmod a b
  have h5 : -b < a.tmod b := by
    rcases Int.le_total 0 a with h | h
    · have := Int.tmod_nonneg b h; omega
    · have := Int.tmod_nonneg b (show 0 ≤ -a by omega)
      have h7 := Int.tmod_lt_of_pos (-a) (show 0 < b by omega)
      rw [Int.neg_tmod] at *
      omega
  rw [Int.tmod_eq_emod_of_nonneg (by omega), Int.add_emod_right]
  conv => rhs; rw [← h1]
  rw [Int.add_comm, Int.add_mul_emod_self_left]

end Go.Proofs.YtiikejhkhdmgeaaGreat

/- The plain law of grids: spots, neighbours, nearest spots and assignments, with no program in sight. Conditions stand in each theorem. -/
import Derived.Test.YtoaakjkflcjkhaaVecP
namespace Go.Proofs.Ytoaakjkflcjkhaa

structure Gd where
  ox : Int
  oy : Int
  oz : Int
  rows : Int
  cols : Int
  sp : Int

def Gd.pt (g : Gd) (row col : Int) : V3 := ⟨g.ox + col * g.sp, g.oy + row * g.sp, g.oz⟩
def Gd.spot (g : Gd) (i : Int) : V3 := g.pt (i / g.cols) (i % g.cols)
def Gd.n (g : Gd) : Nat := (g.rows * g.cols).toNat
def Gd.dims (g : Gd) : Prop := 1 ≤ g.rows ∧ g.rows ≤ 256 ∧ 1 ≤ g.cols ∧ g.cols ≤ 256 ∧ g.rows * g.cols ≤ 256 ∧ 1 ≤ g.sp ∧ g.sp ≤ 1048576
instance (g : Gd) : Decidable g.dims := by unfold Gd.dims; infer_instance
def pnt (v : V3) : Bool := ins 1048576 v.x v.y v.z
def gval (g : Gd) : Bool := ins 1048576 g.ox g.oy g.oz && decide g.dims && pnt (g.pt (g.rows - 1) (g.cols - 1))

theorem pnt_iff {v : V3} : pnt v = true ↔ (-1048576 ≤ v.x ∧ v.x ≤ 1048576) ∧ (-1048576 ≤ v.y ∧ v.y ≤ 1048576) ∧ (-1048576 ≤ v.z ∧ v.z ≤ 1048576) := by unfold pnt; rw [ins_iff]
theorem gval_iff {g : Gd} : gval g = true ↔ ins 1048576 g.ox g.oy g.oz = true ∧ g.dims ∧ pnt (g.pt (g.rows - 1) (g.cols - 1)) = true := by
  simp [gval, and_assoc]

section
variable {g : Gd}

theorem g_n (h : g.dims) : (g.n : Int) = g.rows * g.cols ∧ 1 ≤ g.n ∧ g.n ≤ 256 := by
  obtain ⟨r1, r2, c1, c2, rc, s1, s2⟩ := h
  have h1 : 1 * 1 ≤ g.rows * g.cols := Int.mul_le_mul r1 c1 (by omega) (by omega)
  unfold Gd.n
  omega

/-- The row and the column of an index. -/
theorem g_rc (h : g.dims) {i : Int} (h0 : 0 ≤ i) (hn : i < g.rows * g.cols) : 0 ≤ i / g.cols ∧ i / g.cols ≤ g.rows - 1 ∧ 0 ≤ i % g.cols ∧ i % g.cols ≤ g.cols - 1 := by
  obtain ⟨r1, r2, c1, c2, rc, s1, s2⟩ := h
  have h1 := Int.emod_nonneg i (show g.cols ≠ 0 by omega)
  have h2 := Int.emod_lt_of_pos i (show 0 < g.cols by omega)
  have h3 := Int.ediv_nonneg h0 (show 0 ≤ g.cols by omega)
  have h4 : i / g.cols < g.rows := Int.ediv_lt_of_lt_mul (by omega) hn
  omega

theorem mul_mono_r {a b s : Int} (h : a ≤ b) (hs : 0 ≤ s) : a * s ≤ b * s := Int.mul_le_mul_of_nonneg_right h hs

/-- Each spot is a point. -/
theorem g_pt (h : gval g = true) {r c : Int} (r0 : 0 ≤ r) (r1 : r ≤ g.rows - 1) (c0 : 0 ≤ c) (c1 : c ≤ g.cols - 1) : pnt (g.pt r c) = true := by
  obtain ⟨ho, hd, hl⟩ := gval_iff.1 h
  obtain ⟨d1, d2, d3, d4, d5, s1, s2⟩ := hd
  rw [ins_iff] at ho
  rw [pnt_iff] at hl ⊢
  simp only [Gd.pt] at hl ⊢
  have a1 := mul_mono_r (s := g.sp) r1 (by omega)
  have a2 := mul_mono_r (s := g.sp) c1 (by omega)
  have a3 := Int.mul_nonneg r0 (show 0 ≤ g.sp by omega)
  have a4 := Int.mul_nonneg c0 (show 0 ≤ g.sp by omega)
  omega
theorem g_spot (h : gval g = true) {i : Int} (h0 : 0 ≤ i) (hn : i < g.rows * g.cols) : pnt (g.spot i) = true := by
  obtain ⟨a, b, c, d⟩ := g_rc (gval_iff.1 h).2.1 h0 hn
  exact g_pt h a b c d

/-- Bounds of what is added to the origin. -/
theorem g_add (h : g.dims) {r c : Int} (r0 : -1 ≤ r) (r1 : r ≤ 256) (c0 : -1 ≤ c) (c1 : c ≤ 256) : (-1048576 ≤ r * g.sp ∧ r * g.sp ≤ 268435456) ∧ (-1048576 ≤ c * g.sp ∧ c * g.sp ≤ 268435456) := by
  obtain ⟨_, _, _, _, _, s1, s2⟩ := h
  have a1 := mul_mono_r (s := g.sp) r1 (by omega)
  have a2 := mul_mono_r (s := g.sp) c1 (by omega)
  have a3 := mul_mono_r (s := g.sp) r0 (by omega)
  have a4 := mul_mono_r (s := g.sp) c0 (by omega)
  omega
end

/-! ### Distances -/
def d2 (a b : V3) : Int := (a.x - b.x) * (a.x - b.x) + (a.y - b.y) * (a.y - b.y) + (a.z - b.z) * (a.z - b.z)
theorem sq_nonneg (a : Int) : 0 ≤ a * a := by
  rcases Int.le_total 0 a with h | h
  · exact Int.mul_nonneg h h
  · exact Int.mul_nonneg_of_nonpos_of_nonpos h h
theorem d2_nonneg (a b : V3) : 0 ≤ d2 a b := by
  unfold d2
  have := sq_nonneg (a.x - b.x)
  have := sq_nonneg (a.y - b.y)
  have := sq_nonneg (a.z - b.z)
  omega
theorem d2_self (a : V3) : d2 a a = 0 := by simp [d2]
theorem d2_spot (g : Gd) (i k : Int) : d2 (g.spot k) (g.spot i) = g.sp * g.sp * ((k / g.cols - i / g.cols) * (k / g.cols - i / g.cols) + (k % g.cols - i % g.cols) * (k % g.cols - i % g.cols)) := by
  unfold d2 Gd.spot Gd.pt
  grind

theorem sq_ge_one {a : Int} (h : a ≠ 0) : 1 ≤ a * a := by
  rcases Int.lt_or_lt_of_ne h with h | h
  · have := Int.mul_le_mul (show 1 ≤ -a by omega) (show 1 ≤ -a by omega) (by omega) (by omega); rw [Int.neg_mul_neg] at this; omega
  · have := Int.mul_le_mul (show 1 ≤ a by omega) (show 1 ≤ a by omega) (by omega) (by omega); omega
theorem sq_ge_four {a : Int} (h : 2 ≤ a ∨ a ≤ -2) : 4 ≤ a * a := by
  rcases h with h | h
  · have := Int.mul_le_mul (show 2 ≤ a by omega) (show 2 ≤ a by omega) (by omega) (by omega); omega
  · have := Int.mul_le_mul (show 2 ≤ -a by omega) (show 2 ≤ -a by omega) (by omega) (by omega); rw [Int.neg_mul_neg] at this; omega
theorem sq_one {r c : Int} : r * r + c * c = 1 ↔ (r = 0 ∧ (c = 1 ∨ c = -1)) ∨ (c = 0 ∧ (r = 1 ∨ r = -1)) := by
  constructor
  · intro h
    have n1 := sq_nonneg r
    have n2 := sq_nonneg c
    have hr : r = 0 ∨ r = 1 ∨ r = -1 := by
      by_cases h2 : 2 ≤ r ∨ r ≤ -2
      · have := sq_ge_four h2; omega
      · omega
    have hc : c = 0 ∨ c = 1 ∨ c = -1 := by
      by_cases h2 : 2 ≤ c ∨ c ≤ -2
      · have := sq_ge_four h2; omega
      · omega
    rcases hr with rfl | rfl | rfl <;> rcases hc with rfl | rfl | rfl <;> simp_all
  · rintro (⟨rfl, rfl | rfl⟩ | ⟨rfl, rfl | rfl⟩) <;> rfl

/-- Neighbours are those at the distance of the spacing. -/
theorem near_iff {g : Gd} (hs : 1 ≤ g.sp) (i k : Int) : d2 (g.spot k) (g.spot i) = g.sp * g.sp ↔
    (k / g.cols = i / g.cols ∧ (k % g.cols = i % g.cols + 1 ∨ k % g.cols = i % g.cols - 1)) ∨ (k % g.cols = i % g.cols ∧ (k / g.cols = i / g.cols + 1 ∨ k / g.cols = i / g.cols - 1)) := by
  rw [d2_spot]
  have hp : 0 < g.sp * g.sp := Int.mul_pos (by omega) (by omega)
  have e : g.sp * g.sp * ((k / g.cols - i / g.cols) * (k / g.cols - i / g.cols) + (k % g.cols - i % g.cols) * (k % g.cols - i % g.cols)) = g.sp * g.sp ↔ (k / g.cols - i / g.cols) * (k / g.cols - i / g.cols) + (k % g.cols - i % g.cols) * (k % g.cols - i % g.cols) = 1 := by
    constructor
    · intro h
      exact Int.eq_of_mul_eq_mul_left (show g.sp * g.sp ≠ 0 by omega) (by rw [h, Int.mul_one])
    · intro h; rw [h, Int.mul_one]
  rw [e, sq_one]
  omega

/-- Two spots are at least the spacing apart. -/
theorem apart {g : Gd} (hs : 1 ≤ g.sp) {i k : Int} (hne : i ≠ k) : g.sp * g.sp ≤ d2 (g.spot k) (g.spot i) := by
  rw [d2_spot]
  have hp : 0 < g.sp * g.sp := Int.mul_pos (by omega) (by omega)
  have h1 : 1 ≤ (k / g.cols - i / g.cols) * (k / g.cols - i / g.cols) + (k % g.cols - i % g.cols) * (k % g.cols - i % g.cols) := by
    have n1 := sq_nonneg (k / g.cols - i / g.cols)
    have n2 := sq_nonneg (k % g.cols - i % g.cols)
    by_cases hq : k / g.cols - i / g.cols = 0
    · have hm : k % g.cols - i % g.cols ≠ 0 := by
        intro hm
        apply hne
        have e1 := Int.mul_ediv_add_emod k g.cols
        have e2 := Int.mul_ediv_add_emod i g.cols
        rw [show k / g.cols = i / g.cols by omega] at e1
        omega
      have := sq_ge_one hm
      omega
    · have := sq_ge_one hq
      omega
  have := Int.mul_le_mul_of_nonneg_left h1 (show 0 ≤ g.sp * g.sp by omega)
  rw [Int.mul_one] at this
  exact this

/-! ### Lists of numbers in order -/
def rng (p : Nat → Bool) : Nat → List Int
  | 0 => []
  | k + 1 => rng p k ++ if p k then [(k : Int)] else []
theorem mem_rng {p : Nat → Bool} {j : Int} : ∀ {n : Nat}, j ∈ rng p n ↔ ∃ k : Nat, k < n ∧ p k = true ∧ j = k
  | 0 => by simp [rng]
  | n + 1 => by
    rw [rng, List.mem_append, mem_rng]
    constructor
    · rintro (⟨k, h1, h2, h3⟩ | h)
      · exact ⟨k, by omega, h2, h3⟩
      · by_cases hp : p n = true
        · simp [hp] at h; exact ⟨n, by omega, hp, h⟩
        · simp [hp] at h
    · rintro ⟨k, h1, h2, h3⟩
      by_cases hk : k = n
      · subst hk; right; simp [h2, h3]
      · left; exact ⟨k, by omega, h2, h3⟩
theorem rng_sorted (p : Nat → Bool) : ∀ n, (rng p n).Pairwise (· < ·)
  | 0 => List.Pairwise.nil
  | n + 1 => by
    rw [rng, List.pairwise_append]
    refine ⟨rng_sorted p n, by split <;> simp, fun a ha b hb => ?_⟩
    obtain ⟨k, h1, _, h3⟩ := mem_rng.1 ha
    split at hb <;> simp at hb
    omega
theorem rng_length (p : Nat → Bool) : ∀ n, (rng p n).length ≤ n
  | 0 => Nat.le_refl 0
  | n + 1 => by
    have := rng_length p n
    rw [rng, List.length_append]
    split <;> simp <;> omega

/-- Two lists in order with the same numbers are the same. -/
theorem sorted_eq : ∀ {a b : List Int}, a.Pairwise (· < ·) → b.Pairwise (· < ·) → (∀ x, x ∈ a ↔ x ∈ b) → a = b
  | [], [], _, _, _ => rfl
  | [], y :: b, _, _, h => absurd ((h y).2 (List.mem_cons_self ..)) (by simp)
  | x :: a, [], _, _, h => absurd ((h x).1 (List.mem_cons_self ..)) (by simp)
  | x :: a, y :: b, ha, hb, h => by
    obtain ⟨ha1, ha2⟩ := List.pairwise_cons.1 ha
    obtain ⟨hb1, hb2⟩ := List.pairwise_cons.1 hb
    have e : x = y := by
      rcases List.mem_cons.1 ((h x).1 (List.mem_cons_self ..)) with h1 | h1
      · exact h1
      · rcases List.mem_cons.1 ((h y).2 (List.mem_cons_self ..)) with h2 | h2
        · exact h2.symm
        · have := ha1 _ h2
          have := hb1 _ h1
          omega
    subst e
    congr 1
    refine sorted_eq ha2 hb2 fun z => ⟨fun hz => ?_, fun hz => ?_⟩
    · rcases List.mem_cons.1 ((h z).1 (List.mem_cons_of_mem _ hz)) with h1 | h1
      · have := ha1 _ hz; omega
      · exact h1
    · rcases List.mem_cons.1 ((h z).2 (List.mem_cons_of_mem _ hz)) with h1 | h1
      · have := hb1 _ hz; omega
      · exact h1

/-! ### Neighbours -/
def one (b : Prop) [Decidable b] (n : Int) : List Int := if b then [n] else []
def neigh (g : Gd) (i : Int) : List Int :=
  one (0 < i / g.cols) (i - g.cols) ++ one (0 < i % g.cols) (i - 1) ++ one (i % g.cols + 1 < g.cols) (i + 1) ++ one (i / g.cols + 1 < g.rows) (i + g.cols)
theorem mem_one {b : Prop} [Decidable b] {n x : Int} : x ∈ one b n ↔ b ∧ x = n := by
  unfold one; split <;> simp_all

theorem neigh_eq {g : Gd} (h : g.dims) {i : Int} (h0 : 0 ≤ i) (hn : i < g.rows * g.cols) :
    neigh g i = rng (fun k => decide (d2 (g.spot k) (g.spot i) = g.sp * g.sp)) g.n := by
  obtain ⟨en, _, _⟩ := g_n h
  obtain ⟨q0, q1, r0, r1⟩ := g_rc h h0 hn
  obtain ⟨d1, d2', d3, d4, d5, s1, s2⟩ := h
  have e1 := Int.mul_ediv_add_emod i g.cols
  refine sorted_eq ?_ (rng_sorted _ _) fun x => ?_
  · unfold neigh one
    split <;> split <;> split <;> split <;> simp <;> omega
  · rw [mem_rng]
    have key : (∃ k : Nat, k < g.n ∧ decide (d2 (g.spot k) (g.spot i) = g.sp * g.sp) = true ∧ x = k) ↔ (0 ≤ x ∧ x < g.rows * g.cols ∧ d2 (g.spot x) (g.spot i) = g.sp * g.sp) := by
      constructor
      · rintro ⟨k, h1, h2, rfl⟩
        exact ⟨by omega, by omega, by simpa using h2⟩
      · rintro ⟨h1, h2, h3⟩
        obtain ⟨k, rfl⟩ := Int.eq_ofNat_of_zero_le h1
        exact ⟨k, by omega, by simpa using h3, rfl⟩
    rw [key, near_iff s1]
    unfold neigh
    simp only [List.mem_append, mem_one]
    have dm : ∀ q r : Int, x = g.cols * q + r → 0 ≤ r → r < g.cols → x / g.cols = q ∧ x % g.cols = r := fun q r e a b =>
      (Int.ediv_emod_unique (by omega)).2 ⟨by omega, a, b⟩
    have ex := Int.mul_ediv_add_emod x g.cols
    constructor
    · rintro (((⟨h1, rfl⟩ | ⟨h1, rfl⟩) | ⟨h1, rfl⟩) | ⟨h1, rfl⟩)
      · obtain ⟨a, b⟩ := dm (i / g.cols - 1) (i % g.cols) (by rw [Int.mul_sub, Int.mul_one]; omega) r0 (by omega)
        have : 0 ≤ g.cols * (i / g.cols - 1) := Int.mul_nonneg (by omega) (by omega)
        rw [Int.mul_sub, Int.mul_one] at this
        refine ⟨by omega, by omega, .inr ⟨b, .inr a⟩⟩
      · obtain ⟨a, b⟩ := dm (i / g.cols) (i % g.cols - 1) (by omega) (by omega) (by omega)
        have : 0 ≤ g.cols * (i / g.cols) := Int.mul_nonneg (by omega) (by omega)
        refine ⟨by omega, by omega, .inl ⟨a, .inr b⟩⟩
      · obtain ⟨a, b⟩ := dm (i / g.cols) (i % g.cols + 1) (by omega) (by omega) (by omega)
        have : g.cols * (i / g.cols + 1) ≤ g.cols * g.rows := Int.mul_le_mul_of_nonneg_left (by omega) (by omega)
        rw [Int.mul_add, Int.mul_one, Int.mul_comm g.cols g.rows] at this
        refine ⟨by omega, by omega, .inl ⟨a, .inl b⟩⟩
      · obtain ⟨a, b⟩ := dm (i / g.cols + 1) (i % g.cols) (by rw [Int.mul_add, Int.mul_one]; omega) r0 (by omega)
        have : g.cols * (i / g.cols + 1 + 1) ≤ g.cols * g.rows := Int.mul_le_mul_of_nonneg_left (by omega) (by omega)
        rw [Int.mul_add, Int.mul_add, Int.mul_one, Int.mul_comm g.cols g.rows] at this
        refine ⟨by omega, by omega, .inr ⟨b, .inl a⟩⟩
    · rintro ⟨h1, h2, h3⟩
      have hx := g_rc (g := g) ⟨d1, d2', d3, d4, d5, s1, s2⟩ h1 h2
      rcases h3 with ⟨hq, hr | hr⟩ | ⟨hr, hq | hq⟩
      · rw [hq] at ex; left; right; omega
      · rw [hq] at ex; left; left; right; omega
      · rw [hq, Int.mul_add, Int.mul_one] at ex; right; omega
      · rw [hq, Int.mul_sub, Int.mul_one] at ex; left; left; left; omega

/-! ### The nearest one that is free -/
def nb (f : Int → Int) (S : Int → Bool) : Nat → Int
  | 0 => -1
  | k + 1 => if S k = false ∧ (nb f S k < 0 ∨ f k < f (nb f S k)) then (k : Int) else nb f S k
def least (f : Int → Int) (S : Int → Bool) (k : Nat) : Int := if nb f S k < 0 then 0 else f (nb f S k)
theorem nb_bd (f : Int → Int) (S : Int → Bool) : ∀ k, -1 ≤ nb f S k ∧ nb f S k < k
  | 0 => by simp [nb]
  | k + 1 => by
    have := nb_bd f S k
    rw [nb]
    split <;> omega
theorem nb_free (f : Int → Int) (S : Int → Bool) : ∀ k, 0 ≤ nb f S k → S (nb f S k) = false
  | 0, h => by simp [nb] at h
  | k + 1, h => by
    rw [nb] at h ⊢
    split
    · rename_i h1; exact h1.1
    · rename_i h1; rw [if_neg h1] at h; exact nb_free f S k h
theorem nb_some (f : Int → Int) (S : Int → Bool) : ∀ k (j : Nat), j < k → S j = false → 0 ≤ nb f S k ∧ f (nb f S k) ≤ f j
  | 0, j, h, _ => by omega
  | k + 1, j, h, hj => by
    rw [nb]
    have hb := nb_bd f S k
    by_cases hk : j = k
    · subst hk
      split
      · exact ⟨by omega, by omega⟩
      · rename_i h1
        have : ¬ (nb f S j < 0 ∨ f j < f (nb f S j)) := fun h2 => h1 ⟨hj, h2⟩
        omega
    · have ih := nb_some f S k j (by omega) hj
      split
      · rename_i h1
        have := h1.2
        omega
      · exact ih
/-- Whoever is nearer than all others is the one. -/
theorem nb_best (f : Int → Int) (S : Int → Bool) {k j : Nat} (hj : j < k) (hf : S j = false) (hb : ∀ i : Nat, i < k → i ≠ j → S i = false → f j < f i) : nb f S k = j := by
  obtain ⟨h1, h2⟩ := nb_some f S k j hj hf
  have h3 := nb_bd f S k
  have h4 := nb_free f S k h1
  obtain ⟨m, hm⟩ := Int.eq_ofNat_of_zero_le h1
  rw [hm] at h2 h4 h3 ⊢
  by_cases e : m = j
  · rw [e]
  · have := hb m (by omega) e h4
    omega
theorem nb_congr {f f' : Int → Int} {S S' : Int → Bool} : ∀ {k : Nat}, (∀ i : Nat, i < k → f i = f' i) → (∀ i : Nat, i < k → S i = S' i) → nb f S k = nb f' S' k
  | 0, _, _ => rfl
  | k + 1, hf, hS => by
    have ih := nb_congr (k := k) (fun i hi => hf i (by omega)) (fun i hi => hS i (by omega))
    have hb := nb_bd f S k
    rw [nb, nb, ← ih, ← hS k (by omega), ← hf k (by omega)]
    rcases Int.lt_or_le (nb f S k) 0 with h | h
    · simp [h]
    · obtain ⟨m, hm⟩ := Int.eq_ofNat_of_zero_le h
      rw [hm] at hb ⊢
      rw [← hf m (by omega)]

/-! ### One after the other -/
/-- Which are taken behind k points; F k: the distances of point k. -/
def tk (F : Nat → Int → Int) (n : Nat) : Nat → Int → Bool
  | 0, _ => false
  | k + 1, j => if j = nb (F k) (tk F n k) n then true else tk F n k j
def asg (F : Nat → Int → Int) (n k : Nat) : Int := nb (F k) (tk F n k) n
def cnt (S : Int → Bool) : Nat → Nat
  | 0 => 0
  | k + 1 => cnt S k + if S k then 1 else 0
theorem cnt_more (S : Int → Bool) (i : Int) : ∀ n, cnt (fun j => if j = i then true else S j) n ≤ cnt S n + if 0 ≤ i ∧ i < n then 1 else 0
  | 0 => by simp [cnt]
  | n + 1 => by
    have ih := cnt_more S i n
    simp only [cnt]
    by_cases h : (n : Int) = i
    · simp only [h, if_true]
      rw [if_neg (by omega)] at ih
      rw [if_pos (show 0 ≤ i ∧ i < ((n + 1 : Nat) : Int) by omega)]
      omega
    · simp only [h, if_false]
      have e : (if 0 ≤ i ∧ i < (n : Int) then 1 else 0) = if 0 ≤ i ∧ i < ((n + 1 : Nat) : Int) then 1 else 0 := by
        by_cases h2 : 0 ≤ i ∧ i < (n : Int)
        · rw [if_pos h2, if_pos (by omega)]
        · rw [if_neg h2, if_neg (by omega)]
      omega
theorem cnt_full (S : Int → Bool) : ∀ n, (∀ j : Nat, j < n → S j = true) → cnt S n = n
  | 0, _ => rfl
  | n + 1, h => by
    rw [cnt, cnt_full S n (fun j hj => h j (by omega)), h n (by omega)]; rfl
theorem cnt_none : ∀ n, cnt (fun _ => false) n = 0
  | 0 => rfl
  | n + 1 => by rw [cnt, cnt_none n]; rfl
theorem tk_cnt (F : Nat → Int → Int) (n : Nat) : ∀ k, cnt (tk F n k) n ≤ k
  | 0 => by show cnt (fun _ => false) n ≤ 0; rw [cnt_none]; omega
  | k + 1 => by
    have h1 := tk_cnt F n k
    have h2 := cnt_more (tk F n k) (nb (F k) (tk F n k) n) n
    have e : tk F n (k + 1) = fun j => if j = nb (F k) (tk F n k) n then true else tk F n k j := rfl
    rw [e]
    split at h2 <;> omega
theorem asg_bd {F : Nat → Int → Int} {n k : Nat} (hk : k < n) : 0 ≤ asg F n k ∧ asg F n k < n := by
  have hex : ∃ j : Nat, j < n ∧ tk F n k j = false := by
    by_cases h : ∀ j : Nat, j < n → tk F n k j = true
    · have h1 := cnt_full _ n h
      have h2 := tk_cnt F n k
      omega
    · simp only [Classical.not_forall] at h
      obtain ⟨j, hj, hf⟩ := h
      exact ⟨j, hj, by simpa using hf⟩
  obtain ⟨j, hj, hf⟩ := hex
  have h1 := nb_some (F k) (tk F n k) n j hj hf
  have h2 := nb_bd (F k) (tk F n k) n
  exact ⟨h1.1, h2.2⟩

/-- Spots that are asked for one after the other, each once, are given. -/
theorem asg_self {F : Nat → Int → Int} {n m : Nat} {s : Nat → Nat} (hs : ∀ k, k < m → s k < n) (hinj : ∀ i k, i < m → k < m → s i = s k → i = k) (hF : ∀ k i : Nat, k < m → i < n → i ≠ s k → F k (s k) < F k i) :
    ∀ k, k ≤ m → (∀ j : Int, tk F n k j = true ↔ ∃ i, i < k ∧ j = s i) ∧ (∀ i, i < k → asg F n i = s i)
  | 0, _ => ⟨fun j => by simp [tk], fun i hi => absurd hi (by omega)⟩
  | k + 1, hk => by
    obtain ⟨h1, h2⟩ := asg_self hs hinj hF k (by omega)
    have hfree : tk F n k (s k : Int) = false := by
      cases h : tk F n k (s k : Int)
      · rfl
      · obtain ⟨i, hi, e⟩ := (h1 _).1 h
        have := hinj k i (by omega) (by omega) (by omega)
        omega
    have e : nb (F k) (tk F n k) n = s k := nb_best _ _ (hs k (by omega)) hfree fun i hi hne _ => hF k i (by omega) hi hne
    refine ⟨fun j => ?_, fun i hi => ?_⟩
    · show (if j = nb (F k) (tk F n k) n then true else tk F n k j) = true ↔ _
      rw [e]
      by_cases hj : j = s k
      · rw [if_pos hj]
        exact ⟨fun _ => ⟨k, by omega, hj⟩, fun _ => rfl⟩
      · rw [if_neg hj, h1]
        constructor
        · rintro ⟨i, hi, h⟩; exact ⟨i, by omega, h⟩
        · rintro ⟨i, hi, h⟩
          by_cases hik : i = k
          · subst hik; exact absurd h hj
          · exact ⟨i, by omega, h⟩
    · by_cases hik : i = k
      · subst hik; exact e
      · exact h2 i (by omega)

end Go.Proofs.Ytoaakjkflcjkhaa

/- The plain law of a stable merge sort of spots, with no program in sight. Conditions stand in each theorem. -/
import Derived.Test.YtjeemlnhokihoaaCamS
namespace Go.Proofs.Ytjeemlnhokihoaa
open Go.RowKit
set_option linter.unusedVariables false
set_option linter.unusedSimpArgs false

/-- Comes first: deeper, or as deep and with the lower index. -/
def lts (x y : Sp) : Prop := y.d < x.d ∨ (x.d = y.d ∧ x.ix < y.ix)
theorem lts_trans {x y z : Sp} (h : lts x y) (k : lts y z) : lts x z := by unfold lts at *; omega
theorem lts_irr {x : Sp} : ¬ lts x x := by unfold lts; omega
theorem lts_as {x y : Sp} (h : lts x y) (k : lts y x) : False := lts_irr (lts_trans h k)
def SrtD (f : Nat → Sp) (a b : Nat) : Prop := ∀ i j, a ≤ i → i < j → j < b → lts (f i) (f j)
/-- The same members in the range, the same elsewhere. -/
structure Same (f f' : Nat → Sp) (a b : Nat) : Prop where
  out : ∀ k, k < a ∨ b ≤ k → f' k = f k
  fro : ∀ k, a ≤ k → k < b → ∃ j, a ≤ j ∧ j < b ∧ f' k = f j
  to : ∀ k, a ≤ k → k < b → ∃ j, a ≤ j ∧ j < b ∧ f k = f' j
def Crs (f : Nat → Sp) (a m b : Nat) : Prop := ∀ i j, a ≤ i → i < m → m ≤ j → j < b → (f i).ix < (f j).ix
/-- The ranges from s to m and from m to e change places. -/
def rot (f : Nat → Sp) (s m e : Nat) : Nat → Sp := fun k => if k < s then f k else if k < s + (e - m) then f (m + (k - s)) else if k < e then f (s + (k - (s + (e - m)))) else f k
/-- n elements from a on and as many from b on are exchanged. -/
def swR (f : Nat → Sp) (a b n : Nat) : Nat → Sp := fun k => if a ≤ k ∧ k < a + n then f (b + (k - a)) else if b ≤ k ∧ k < b + n then f (a + (k - b)) else f k
def ex (f : Nat → Sp) (p q : Nat) : Nat → Sp := fun k => if k = p then f q else if k = q then f p else f k
structure Mrg (f : Nat → Sp) (a b : Nat) (f' : Nat → Sp) : Prop where
  same : Same f f' a b
  srt : SrtD f' a b

theorem Same.refl (f : Nat → Sp) (a b : Nat) : Same f f a b := ⟨fun _ _ => rfl, fun k h1 h2 => ⟨k, h1, h2, rfl⟩, fun k h1 h2 => ⟨k, h1, h2, rfl⟩⟩
theorem Same.trans {f g h : Nat → Sp} {a b : Nat} (H : Same f g a b) (K : Same g h a b) : Same f h a b :=
  ⟨fun k hk => (K.out k hk).trans (H.out k hk),
   fun k h1 h2 => by obtain ⟨j, h3, h4, e⟩ := K.fro k h1 h2; obtain ⟨i, h5, h6, e'⟩ := H.fro j h3 h4; exact ⟨i, h5, h6, e.trans e'⟩,
   fun k h1 h2 => by obtain ⟨j, h3, h4, e⟩ := H.to k h1 h2; obtain ⟨i, h5, h6, e'⟩ := K.to j h3 h4; exact ⟨i, h5, h6, e.trans e'⟩⟩
theorem Same.wide {f g : Nat → Sp} {a b a' b' : Nat} (H : Same f g a b) (h1 : a' ≤ a) (h2 : b ≤ b') : Same f g a' b' := by
  refine ⟨fun k hk => H.out k (by omega), fun k h3 h4 => ?_, fun k h3 h4 => ?_⟩
  · by_cases hk : a ≤ k ∧ k < b
    · obtain ⟨j, h5, h6, e⟩ := H.fro k hk.1 hk.2; exact ⟨j, by omega, by omega, e⟩
    · exact ⟨k, h3, h4, H.out k (by omega)⟩
  · by_cases hk : a ≤ k ∧ k < b
    · obtain ⟨j, h5, h6, e⟩ := H.to k hk.1 hk.2; exact ⟨j, by omega, by omega, e⟩
    · exact ⟨k, h3, h4, (H.out k (by omega)).symm⟩
theorem Same.all {f g : Nat → Sp} {a b : Nat} {P : Sp → Prop} (H : Same f g a b) (h : ∀ i, P (f i)) : ∀ i, P (g i) := fun i => by
  by_cases hi : a ≤ i ∧ i < b
  · obtain ⟨j, _, _, e⟩ := H.fro i hi.1 hi.2; rw [e]; exact h j
  · rw [H.out i (by omega)]; exact h i
theorem same_rot (f : Nat → Sp) {s m e : Nat} (h1 : s ≤ m) (h2 : m ≤ e) : Same f (rot f s m e) s e := by
  refine ⟨fun k hk => ?_, fun k h3 h4 => ?_, fun k h3 h4 => ?_⟩
  · unfold rot
    rcases hk with hk | hk
    · rw [if_pos hk]
    · rw [if_neg (by omega), if_neg (by omega), if_neg (by omega)]
  · unfold rot
    rw [if_neg (by omega)]
    by_cases hk : k < s + (e - m)
    · rw [if_pos hk]; exact ⟨_, by omega, by omega, rfl⟩
    · rw [if_neg hk, if_pos h4]; exact ⟨_, by omega, by omega, rfl⟩
  · by_cases hk : k < m
    · refine ⟨k + (e - m), by omega, by omega, ?_⟩
      unfold rot
      rw [if_neg (by omega), if_neg (by omega), if_pos (by omega)]
      congr 1; omega
    · refine ⟨s + (k - m), by omega, by omega, ?_⟩
      unfold rot
      rw [if_neg (by omega), if_pos (by omega)]
      congr 1; omega

theorem rot_lo {f : Nat → Sp} {s m e k : Nat} (h : k < s) : rot f s m e k = f k := by unfold rot; rw [if_pos h]
theorem rot_1 {f : Nat → Sp} {s m e k : Nat} (h1 : s ≤ k) (h2 : k < s + (e - m)) : rot f s m e k = f (m + (k - s)) := by unfold rot; rw [if_neg (by omega), if_pos h2]
theorem rot_2 {f : Nat → Sp} {s m e k : Nat} (h1 : s + (e - m) ≤ k) (h2 : k < e) : rot f s m e k = f (s + (k - (s + (e - m)))) := by unfold rot; rw [if_neg (by omega), if_neg (by omega), if_pos h2]
theorem rot_hi {f : Nat → Sp} {s m e k : Nat} (h0 : s ≤ e) (h1 : s + (e - m) ≤ e) (h : e ≤ k) : rot f s m e k = f k := by unfold rot; rw [if_neg (by omega), if_neg (by omega), if_neg (by omega)]
theorem rot_id {f : Nat → Sp} {s m e : Nat} (h1 : s ≤ m) (h2 : m ≤ e) (h : s = m ∨ m = e) : rot f s m e = f := by
  funext k; unfold rot
  split
  · rfl
  · split
    · congr 1; omega
    · split
      · congr 1; omega
      · rfl

/-! ### Rotating by exchanges -/
theorem rot_gt {f : Nat → Sp} {m i j : Nat} (h1 : j < i) (h2 : i ≤ m) : rot (swR f (m - i) m j) (m - (i - j)) m (m + j) = rot f (m - i) m (m + j) := by
  funext k
  unfold rot swR
  repeat' split
  all_goals first | (exfalso; omega) | rfl | (congr 1; omega)
theorem rot_lt {f : Nat → Sp} {m i j : Nat} (h1 : i < j) (h2 : i ≤ m) : rot (swR f (m - i) (m + j - i) i) (m - i) m (m + (j - i)) = rot f (m - i) m (m + j) := by
  funext k
  unfold rot swR
  repeat' split
  all_goals first | (exfalso; omega) | rfl | (congr 1; omega)
theorem rot_eq {f : Nat → Sp} {m i : Nat} (h2 : i ≤ m) : swR f (m - i) m i = rot f (m - i) m (m + i) := by
  funext k
  unfold rot swR
  repeat' split
  all_goals first | (exfalso; omega) | rfl | (congr 1; omega)
theorem swR_zero (f : Nat → Sp) (a b : Nat) : swR f a b 0 = f := by
  funext k
  unfold swR
  repeat' split
  all_goals first | (exfalso; omega) | rfl
theorem swR_succ {f : Nat → Sp} {a b n : Nat} (h : a + (n + 1) ≤ b) : ex (swR f a b n) (a + n) (b + n) = swR f a b (n + 1) := by
  funext k
  unfold ex swR
  repeat' split
  all_goals first | (exfalso; omega) | rfl | (congr 1; omega)
/-- The first one is carried up by one. -/
theorem rot_up {f : Nat → Sp} {a k : Nat} (h : a ≤ k) : ex (rot f a (a + 1) (k + 1)) k (k + 1) = rot f a (a + 1) (k + 2) := by
  funext q
  unfold ex rot
  repeat' split
  all_goals first | (exfalso; omega) | rfl | (congr 1; omega)
/-- The last one is carried down by one. -/
theorem rot_dn {f : Nat → Sp} {m k : Nat} (h : k + 1 ≤ m) : ex (rot f (k + 1) m (m + 1)) (k + 1) k = rot f k m (m + 1) := by
  funext q
  unfold ex rot
  repeat' split
  all_goals first | (exfalso; omega) | rfl | (congr 1; omega)

/-! ### Merging -/
theorem SrtD.sub {f : Nat → Sp} {a b a' b' : Nat} (h : SrtD f a b) (h1 : a ≤ a') (h2 : b' ≤ b) : SrtD f a' b' := fun i j hi hij hj => h i j (by omega) hij (by omega)
theorem SrtD.one {f : Nat → Sp} {a b : Nat} (h : b ≤ a + 1) : SrtD f a b := fun i j hi hij hj => by omega
theorem Crs.sub {f : Nat → Sp} {a m b a' b' : Nat} (h : Crs f a m b) (h1 : a ≤ a') (h2 : b' ≤ b) : Crs f a' m b' := fun i j h3 h4 h5 h6 => h i j (by omega) h4 h5 (by omega)
theorem Mrg.wide {f g h : Nat → Sp} {a b : Nat} (H : Same f g a b) (K : Mrg g a b h) : Mrg f a b h := ⟨H.trans K.same, K.srt⟩

theorem lt_of_cross {f : Nat → Sp} {a m b i j : Nat} (hc : Crs f a m b) (h1 : a ≤ i) (h2 : i < m) (h3 : m ≤ j) (h4 : j < b) : (¬ (f i).d < (f j).d → lts (f i) (f j)) ∧ ((f i).d < (f j).d → lts (f j) (f i)) := by
  have := hc i j h1 h2 h3 h4
  unfold lts
  constructor <;> intro h <;> omega

/-- One on the left: it goes behind those that are deeper. -/
theorem mrg_left {f : Nat → Sp} {a b i : Nat} (hs : SrtD f (a + 1) b) (hc : Crs f a (a + 1) b) (h1 : a + 1 ≤ i) (h2 : i ≤ b) (lo : ∀ h, a + 1 ≤ h → h < i → (f a).d < (f h).d) (hi : ∀ h, i ≤ h → h < b → ¬ (f a).d < (f h).d) : Mrg f a b (rot f a (a + 1) i) := by
  refine ⟨(same_rot f (by omega) h1).wide (Nat.le_refl _) h2, fun p q hp hpq hq => ?_⟩
  have L : ∀ h, a + 1 ≤ h → h < i → lts (f h) (f a) := fun h h3 h4 => (lt_of_cross hc (Nat.le_refl _) (by omega) h3 (by omega)).2 (lo h h3 h4)
  have R : ∀ h, i ≤ h → h < b → lts (f a) (f h) := fun h h3 h4 => (lt_of_cross hc (Nat.le_refl _) (by omega) (by omega) h4).1 (hi h h3 h4)
  by_cases q1 : q + 1 < i
  · rw [rot_1 hp (by omega), rot_1 (by omega) (by omega)]
    exact hs _ _ (by omega) (by omega) (by omega)
  · by_cases q2 : q < i
    · rw [rot_1 hp (by omega), rot_2 (k := q) (by omega) q2]
      rw [show a + (q - (a + (i - (a + 1)))) = a by omega]
      exact L _ (by omega) (by omega)
    · rw [rot_hi (k := q) (by omega) (by omega) (by omega)]
      by_cases p1 : p + 1 < i
      · rw [rot_1 hp (by omega)]
        exact hs _ _ (by omega) (by omega) hq
      · by_cases p2 : p < i
        · rw [rot_2 (by omega) p2]
          rw [show a + (p - (a + (i - (a + 1)))) = a by omega]
          exact R _ (by omega) hq
        · rw [rot_hi (by omega) (by omega) (by omega)]
          exact hs _ _ (by omega) hpq hq

/-- One on the right: it goes ahead of those that are less deep. -/
theorem mrg_right {f : Nat → Sp} {a m i : Nat} (hs : SrtD f a m) (hc : Crs f a m (m + 1)) (h1 : a ≤ i) (h2 : i ≤ m) (lo : ∀ h, a ≤ h → h < i → ¬ (f h).d < (f m).d) (hi : ∀ h, i ≤ h → h < m → (f h).d < (f m).d) : Mrg f a (m + 1) (rot f i m (m + 1)) := by
  refine ⟨(same_rot f h2 (by omega)).wide h1 (Nat.le_refl _), fun p q hp hpq hq => ?_⟩
  have L : ∀ h, a ≤ h → h < i → lts (f h) (f m) := fun h h3 h4 => (lt_of_cross hc h3 (by omega) (Nat.le_refl _) (by omega)).1 (lo h h3 h4)
  have R : ∀ h, i ≤ h → h < m → lts (f m) (f h) := fun h h3 h4 => (lt_of_cross hc (by omega) h4 (Nat.le_refl _) (by omega)).2 (hi h h3 h4)
  by_cases q1 : q < i
  · rw [rot_lo (by omega), rot_lo q1]
    exact hs _ _ hp hpq (by omega)
  · by_cases q2 : q = i
    · rw [rot_lo (by omega), rot_1 (k := q) (by omega) (by omega)]
      rw [show m + (q - i) = m by omega]
      exact L _ hp (by omega)
    · rw [rot_2 (k := q) (by omega) (by omega)]
      by_cases p1 : p < i
      · rw [rot_lo p1]
        exact hs _ _ hp (by omega) (by omega)
      · by_cases p2 : p = i
        · rw [rot_1 (by omega) (by omega)]
          rw [show m + (p - i) = m by omega]
          exact R _ (by omega) (by omega)
        · rw [rot_2 (by omega) (by omega)]
          exact hs _ _ (by omega) (by omega) (by omega)

/-- What the search in a merge has found, and what the rotation has made of it. -/
structure Cutd (f : Nat → Sp) (a m b s : Nat) (g : Nat → Sp) : Prop where
  same : Same f g a b
  sm : s ≤ m
  s1 : SrtD g a s
  s2 : SrtD g s ((a + b) / 2)
  c1 : Crs g a s ((a + b) / 2)
  s3 : SrtD g ((a + b) / 2) ((a + b) / 2 + m - s)
  s4 : SrtD g ((a + b) / 2 + m - s) b
  c2 : Crs g ((a + b) / 2) ((a + b) / 2 + m - s) b
  lo : ∀ i j, a ≤ i → i < (a + b) / 2 → (a + b) / 2 ≤ j → j < b → lts (g i) (g j)

theorem cutd_of {f : Nat → Sp} {a m b s : Nat} (ha : SrtD f a m) (hb : SrtD f m b) (hc : Crs f a m b) (h1 : a ≤ s) (h2 : s ≤ m) (h3 : s ≤ (a + b) / 2) (h4 : m ≤ b) (h5 : (a + b) / 2 + m - s ≤ b) (h6 : a ≤ m)
    (lo : ∀ i j, a ≤ i → i < s → (a + b) / 2 + m - s ≤ j → j < b → lts (f i) (f j)) (hi : ∀ i j, s ≤ i → i < m → m ≤ j → j < (a + b) / 2 + m - s → lts (f j) (f i)) :
    Cutd f a m b s (rot f s m ((a + b) / 2 + m - s)) := by
  obtain ⟨mid, hmid⟩ : ∃ x, (a + b) / 2 = x := ⟨_, rfl⟩
  have hm1 : a ≤ mid := by omega
  have hm2 : mid ≤ b := by omega
  rw [hmid] at h3 h5 lo hi ⊢
  obtain ⟨e, he⟩ : ∃ x, mid + m - s = x := ⟨_, rfl⟩
  rw [he] at h5 lo hi ⊢
  have he2 : e + s = mid + m := by omega
  have hme : m ≤ e := by omega
  have hse : s + (e - m) = mid := by omega
  have g1 : ∀ k, k < s → rot f s m e k = f k := fun k hk => rot_lo hk
  have g2 : ∀ k, s ≤ k → k < mid → rot f s m e k = f (m + (k - s)) := fun k h h' => rot_1 h (by omega)
  have g3 : ∀ k, mid ≤ k → k < e → rot f s m e k = f (s + (k - mid)) := fun k h h' => by rw [rot_2 (by omega) h', hse]
  have g4 : ∀ k, e ≤ k → rot f s m e k = f k := fun k hk => rot_hi (by omega) (by omega) hk
  constructor
  · exact (same_rot f h2 hme).wide h1 h5
  · exact h2
  · intro i j hi hij hj
    rw [g1 i (by omega), g1 j hj]; exact ha i j hi hij (by omega)
  · rw [hmid]
    intro i j hi hij hj
    rw [g2 i hi (by omega), g2 j (by omega) hj]; exact hb _ _ (by omega) (by omega) (by omega)
  · rw [hmid]
    intro i j h7 h8 h9 h10
    rw [g1 i h8, g2 j h9 h10]; exact hc _ _ h7 (by omega) (by omega) (by omega)
  · rw [hmid, he]
    intro i j h7 h8 h9
    rw [g3 i h7 (by omega), g3 j (by omega) h9]; exact ha _ _ (by omega) (by omega) (by omega)
  · rw [hmid, he]
    intro i j h7 h8 h9
    rw [g4 i h7, g4 j (by omega)]; exact hb _ _ (by omega) h8 h9
  · rw [hmid, he]
    intro i j h7 h8 h9 h10
    rw [g3 i h7 h8, g4 j h9]; exact hc _ _ (by omega) (by omega) (by omega) h10
  · rw [hmid]
    intro i j h7 h8 h9 h10
    by_cases i1 : i < s
    · rw [g1 i i1]
      by_cases j1 : j < e
      · rw [g3 j h9 j1]; exact ha _ _ h7 (by omega) (by omega)
      · rw [g4 j (by omega)]; exact lo _ _ h7 i1 (by omega) h10
    · rw [g2 i (by omega) h8]
      by_cases j1 : j < e
      · rw [g3 j h9 j1]; exact hi _ _ (by omega) (by omega) (by omega) (by omega)
      · rw [g4 j (by omega)]; exact hb _ _ (by omega) (by omega) h10

theorem Cutd.mrg {f g h k : Nat → Sp} {a m b s : Nat} (hab : a ≤ b) (H : Cutd f a m b s g) (h1 : Mrg g a ((a + b) / 2) h) (h2 : Mrg h ((a + b) / 2) b k) : Mrg f a b k := by
  have hlo := H.lo
  obtain ⟨mid, hmid⟩ : ∃ x, (a + b) / 2 = x := ⟨_, rfl⟩
  rw [hmid] at h1 h2 hlo
  refine ⟨H.same.trans ((h1.same.wide (Nat.le_refl _) (by omega)).trans (h2.same.wide (by omega) (Nat.le_refl _))), fun p q hp hpq hq => ?_⟩
  by_cases q1 : q < mid
  · rw [h2.same.out p (by omega), h2.same.out q (by omega)]
    exact h1.srt p q hp hpq q1
  · by_cases p1 : p < mid
    · rw [h2.same.out p (by omega)]
      obtain ⟨p', h3, h4, e1⟩ := h1.same.fro p hp p1
      obtain ⟨q', h5, h6, e2⟩ := h2.same.fro q (by omega) hq
      rw [e1, e2, h1.same.out q' (by omega)]
      exact hlo _ _ h3 h4 h5 h6
    · exact h2.srt p q (by omega) hpq hq
theorem mrg_triv {f : Nat → Sp} {a s b : Nat} (h1 : SrtD f a s) (h2 : SrtD f s b) (h : s ≤ a ∨ b ≤ s) : Mrg f a b f := by
  refine ⟨Same.refl _ _ _, ?_⟩
  rcases h with h | h
  · exact h2.sub h (Nat.le_refl _)
  · exact h1.sub (Nat.le_refl _) h
/-- What lies behind is as it was: the second half may be sorted behind the first. -/
theorem Cutd.again {f g h : Nat → Sp} {a m b s : Nat} (H : Cutd f a m b s g) (h1 : Mrg g a ((a + b) / 2) h) : SrtD h ((a + b) / 2) ((a + b) / 2 + m - s) ∧ SrtD h ((a + b) / 2 + m - s) b ∧ Crs h ((a + b) / 2) ((a + b) / 2 + m - s) b := by
  have o : ∀ k, (a + b) / 2 ≤ k → h k = g k := fun k hk => h1.same.out k (.inr hk)
  have hsm := H.sm
  refine ⟨fun i j h3 h4 h5 => ?_, fun i j h3 h4 h5 => ?_, fun i j h3 h4 h5 h6 => ?_⟩
  · rw [o i h3, o j (by omega)]; exact H.s3 i j h3 h4 h5
  · rw [o i (by omega), o j (by omega)]; exact H.s4 i j h3 h4 h5
  · rw [o i h3, o j (by omega)]; exact H.c2 i j h3 h4 h5 h6

/-! ### Sorting by insertion, and by merging blocks -/
/-- The indices rise. -/
def Ris (f : Nat → Sp) (a b : Nat) : Prop := ∀ i j, a ≤ i → i < j → j < b → (f i).ix < (f j).ix
theorem Ris.crs {f g : Nat → Sp} {a m b : Nat} (h : Ris f a b) (k : Same f g a m) : Crs g a m b := fun i j h1 h2 h3 h4 => by
  obtain ⟨i', h5, h6, e⟩ := k.fro i h1 h2
  rw [e, k.out j (.inr h3)]
  exact h i' j h5 (by omega) h4
/-- One more is carried down to its place. -/
theorem mrg_ins {f g : Nat → Sp} {a b m j : Nat} (h : Ris f a b) (H : Mrg f a m g) (h0 : a ≤ j) (h1 : j ≤ m) (h2 : m < b) (hi : ∀ i, j ≤ i → i < m → (g i).d < (g m).d) (lo : j = a ∨ ¬ (g (j - 1)).d < (g m).d) : Mrg f a (m + 1) (rot g j m (m + 1)) := by
  refine Mrg.wide (H.same.wide (Nat.le_refl _) (Nat.le_succ _)) (mrg_right H.srt ((h.crs H.same).sub (Nat.le_refl _) h2) h0 h1 (fun i h3 h4 => ?_) hi)
  rcases lo with rfl | lo
  · omega
  · by_cases e : i = j - 1
    · rw [e]; exact lo
    · have := H.srt i (j - 1) h3 (by omega) (by omega)
      unfold lts at this; omega

/-- The row is sorted in blocks of bs, and the indices of each block are less than those behind it. -/
structure Bks (f : Nat → Sp) (n bs : Nat) : Prop where
  srt : ∀ k b, b ≤ (k + 1) * bs → b ≤ n → SrtD f (k * bs) b
  cut : ∀ k, Crs f 0 (k * bs) n
/-- .. and the first blocks are merged by twos. -/
structure Bk2 (f : Nat → Sp) (n bs k : Nat) : Prop where
  lo : ∀ i b, i < k → b ≤ (i + 1) * (2 * bs) → b ≤ n → SrtD f (i * (2 * bs)) b
  hi : ∀ i b, 2 * k ≤ i → b ≤ (i + 1) * bs → b ≤ n → SrtD f (i * bs) b
  cut : ∀ i, Crs f 0 (i * (2 * bs)) n
  cuth : ∀ i, 2 * k ≤ i → Crs f 0 (i * bs) n
theorem Bks.start {f : Nat → Sp} {n bs : Nat} (h : Bks f n bs) : Bk2 f n bs 0 :=
  ⟨fun i b h1 => absurd h1 (by omega), fun i b _ => h.srt i b, fun i => by rw [show i * (2 * bs) = (i * 2) * bs by rw [Nat.mul_assoc]]; exact h.cut _, fun i _ => h.cut i⟩
theorem Crs.same {f g : Nat → Sp} {m n a b : Nat} (h : Crs f 0 m n) (k : Same f g a b) (hb : b ≤ n) (h1 : m ≤ a ∨ b ≤ m) : Crs g 0 m n := fun i j h2 h3 h4 h5 => by
  have ei : ∃ i', i' < m ∧ g i = f i' := by
    by_cases hi : a ≤ i ∧ i < b
    · obtain ⟨i', h6, h7, e⟩ := k.fro i hi.1 hi.2; exact ⟨i', by omega, e⟩
    · exact ⟨i, h3, k.out i (by omega)⟩
  have ej : ∃ j', m ≤ j' ∧ j' < n ∧ g j = f j' := by
    by_cases hj : a ≤ j ∧ j < b
    · obtain ⟨j', h6, h7, e⟩ := k.fro j hj.1 hj.2; exact ⟨j', by omega, by omega, e⟩
    · exact ⟨j, h4, h5, k.out j (by omega)⟩
  obtain ⟨i', h6, e1⟩ := ei
  obtain ⟨j', h7, h8, e2⟩ := ej
  rw [e1, e2]; exact h i' j' (Nat.zero_le _) h6 h7 h8
theorem SrtD.same {f g : Nat → Sp} {p q a b : Nat} (h : SrtD f p q) (k : Same f g a b) (h1 : q ≤ a ∨ b ≤ p) : SrtD g p q := fun i j h2 h3 h4 => by
  rw [k.out i (by omega), k.out j (by omega)]; exact h i j h2 h3 h4
/-- Two blocks more are merged. -/
theorem Bk2.next {f g : Nat → Sp} {n bs k e : Nat} (H : Bk2 f n bs k) (hbs : 1 ≤ bs) (he : e ≤ n) (he2 : e ≤ (k + 1) * (2 * bs)) (he3 : k * (2 * bs) ≤ e) (hen : e = n ∨ e = (k + 1) * (2 * bs)) (M : Mrg f (k * (2 * bs)) e g) : Bk2 g n bs (k + 1) := by
  have dbl : ∀ i, i * (2 * bs) = (2 * i) * bs := fun i => by rw [show 2 * i = i * 2 by omega, Nat.mul_assoc]
  have mono : ∀ i j, i ≤ j → i * bs ≤ j * bs := fun i j h => Nat.mul_le_mul_right _ h
  have mono2 : ∀ i j, i ≤ j → i * (2 * bs) ≤ j * (2 * bs) := fun i j h => Nat.mul_le_mul_right _ h
  constructor
  · intro i b hi hb hbn
    by_cases e' : i = k
    · subst e'; exact M.srt.sub (Nat.le_refl _) (by omega)
    · have := mono2 (i + 1) k (by omega)
      exact (H.lo i b (by omega) hb hbn).same M.same (.inl (by omega))
  · intro i b hi hb hbn
    have h1 := mono (2 * (k + 1)) i hi
    rw [← dbl] at h1
    exact (H.hi i b (by omega) hb hbn).same M.same (.inr (by omega))
  · intro i
    by_cases hi : i ≤ k
    · have := mono2 i k hi
      exact (H.cut i).same M.same he (.inl this)
    · have := mono2 (k + 1) i (by omega)
      exact (H.cut i).same M.same he (.inr (by omega))
  · intro i hi
    have h1 := mono (2 * (k + 1)) i hi
    rw [← dbl] at h1
    exact (H.cuth i (by omega)).same M.same he (.inr (by omega))
/-- Nothing is left to merge. -/
theorem Bk2.done {f : Nat → Sp} {n bs k : Nat} (H : Bk2 f n bs k) (h : n ≤ k * (2 * bs) + bs) : Bks f n (2 * bs) := by
  have dbl : ∀ i, i * (2 * bs) = (2 * i) * bs := fun i => by rw [show 2 * i = i * 2 by omega, Nat.mul_assoc]
  have suc : ∀ i, (2 * i + 1) * bs = (2 * i) * bs + bs := fun i => Nat.succ_mul _ _
  refine ⟨fun i b hb hbn => ?_, H.cut⟩
  by_cases hi : i < k
  · exact H.lo i b hi hb hbn
  · have h1 : k * (2 * bs) ≤ i * (2 * bs) := Nat.mul_le_mul_right _ (by omega)
    have h2 := H.hi (2 * i) b (by omega) (by rw [suc, ← dbl]; omega) hbn
    rwa [← dbl] at h2
/-- The blocks that are merged next. -/
theorem Bk2.pre {f : Nat → Sp} {n bs k e : Nat} (H : Bk2 f n bs k) (he : e ≤ n) (he2 : e ≤ (k + 1) * (2 * bs)) : SrtD f (k * (2 * bs)) (min (k * (2 * bs) + bs) n) ∧ SrtD f (k * (2 * bs) + bs) e ∧ Crs f (k * (2 * bs)) (k * (2 * bs) + bs) e := by
  have dbl : ∀ i, i * (2 * bs) = (2 * i) * bs := fun i => by rw [show 2 * i = i * 2 by omega, Nat.mul_assoc]
  have suc : ∀ i, (2 * i + 1) * bs = (2 * i) * bs + bs := fun i => Nat.succ_mul _ _
  have suc2 : (2 * k + 1 + 1) * bs = (2 * k) * bs + bs + bs := by rw [Nat.succ_mul, suc]
  have suc3 : (k + 1) * (2 * bs) = k * (2 * bs) + 2 * bs := Nat.succ_mul _ _
  have d := dbl k
  refine ⟨?_, ?_, ?_⟩
  · have := H.hi (2 * k) (min (k * (2 * bs) + bs) n) (Nat.le_refl _) (by rw [suc]; omega) (by omega)
    rwa [← dbl] at this
  · have := H.hi (2 * k + 1) e (by omega) (by rw [suc2]; omega) he
    rwa [suc, ← dbl] at this
  · have := H.cuth (2 * k + 1) (by omega)
    rw [suc, ← dbl] at this
    exact this.sub (Nat.zero_le _) he

/-! ### Sorted rows with the same members are equal -/
theorem sorted_uniq : ∀ {l m : List Sp}, l.Pairwise lts → m.Pairwise lts → (∀ x, x ∈ l ↔ x ∈ m) → l = m
  | [], [], _, _, _ => rfl
  | [], y :: m, _, _, h => absurd ((h y).2 (by simp)) (by simp)
  | x :: l, [], _, _, h => absurd ((h x).1 (by simp)) (by simp)
  | x :: l, y :: m, hl, hm, h => by
    rw [List.pairwise_cons] at hl hm
    have e : x = y := by
      have h1 := (h x).1 (by simp)
      have h2 := (h y).2 (by simp)
      rcases List.mem_cons.1 h1 with e | h1
      · exact e
      · rcases List.mem_cons.1 h2 with e | h2
        · exact e.symm
        · exact (lts_as (hl.1 y h2) (hm.1 x h1)).elim
    subst e
    rw [sorted_uniq hl.2 hm.2 fun z => by
      constructor
      · intro hz
        rcases List.mem_cons.1 ((h z).1 (List.mem_cons_of_mem _ hz)) with e | h1
        · subst e; exact absurd (hl.1 z hz) lts_irr
        · exact h1
      · intro hz
        rcases List.mem_cons.1 ((h z).2 (List.mem_cons_of_mem _ hz)) with e | h1
        · subst e; exact absurd (hm.1 z hz) lts_irr
        · exact h1]

end Go.Proofs.Ytjeemlnhokihoaa

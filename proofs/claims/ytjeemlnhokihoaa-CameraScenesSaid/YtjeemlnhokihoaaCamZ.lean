/- The plain law of CameraHolds. Conditions stand in each theorem. -/
import Derived.Test.YtjeemlnhokihoaaCamV1
namespace Go.Proofs.Ytjeemlnhokihoaa
open Go.RowKit
set_option linter.unusedVariables false

/-! ### What is straight ahead -/
theorem dt_scale (a : Int) (u v : V3) : dt ⟨a * u.x, a * u.y, a * u.z⟩ v = a * dt u v := by unfold dt; grind
def ahd (c : Cam) (a : Int) : V3 := ⟨c.e.x + a * c.f.x, c.e.y + a * c.f.y, c.e.z + a * c.f.z⟩
theorem dl_ahd (c : Cam) (a : Int) : dl c (ahd c a) = ⟨a * c.f.x, a * c.f.y, a * c.f.z⟩ := by
  simp only [dl, ahd, V3.mk.injEq]; omega
theorem zz_ahd (c : Cam) (a : Int) : zz c (ahd c a) = a * dt c.f c.f := by unfold zz; rw [dl_ahd, dt_scale]
theorem xx_ahd {c : Cam} (h : Good c) (a : Int) : xx c (ahd c a) = c.wi / 2 := by
  unfold xx; rw [dl_ahd, dt_scale, dt_comm c.f c.r, h.rf, Int.mul_zero, Int.mul_zero, Int.zero_ediv, Int.add_zero]
theorem yy_ahd {c : Cam} (h : Good c) (a : Int) : yy c (ahd c a) = c.he / 2 := by
  unfold yy; rw [dl_ahd, dt_scale, dt_comm c.f c.u, h.uf, Int.mul_zero, Int.mul_zero, Int.zero_ediv, Int.sub_zero]
theorem rr_0 (c : Cam) (p : V3) : rr c p 0 = 1 := by
  unfold rr
  simp [isq]
  rfl
theorem seen_ahd {c : Cam} (h : Good c) {a : Int} (hz : c.ne ≤ a * dt c.f c.f) : seen c (ahd c a) = true := by
  unfold seen
  rw [zz_ahd, xx_ahd h, yy_ahd h]
  have := h.wi
  have := h.he
  simp only [Bool.and_eq_true, decide_eq_true_eq, within_iff]
  omega

/-! ### Turns -/
theorem neg_neg' (v : V3) : neg (neg v) = v := by simp [neg]
theorem turn_4 (c : Cam) (q : Int) : c.turn (q + 4) = c.turn q := by
  unfold Cam.turn; rw [show (q + 4) % 4 = q % 4 by omega]
theorem turn_back (c : Cam) (q : Int) : (c.turn q).turn (-q) = c := by
  have h : q % 4 = 0 ∨ q % 4 = 1 ∨ q % 4 = 2 ∨ q % 4 = 3 := by omega
  unfold Cam.turn
  rcases h with h | h | h | h
  · rw [h, show (-q) % 4 = 0 by omega]; rfl
  · rw [h, show (-q) % 4 = 3 by omega]; simp [Cam.q, neg_neg']
  · rw [h, show (-q) % 4 = 2 by omega]; simp [Cam.q, neg_neg']
  · rw [h, show (-q) % 4 = 1 by omega]; simp [Cam.q, neg_neg']

/-! ### Moved -/
def mvd' (p d : V3) : V3 := ⟨p.x + d.x, p.y + d.y, p.z + d.z⟩
def Cam.mv (c : Cam) (d : V3) : Cam := { c with e := mvd' c.e d }
theorem dl_mv (c : Cam) (p d : V3) : dl (c.mv d) (mvd' p d) = dl c p := by
  simp only [dl, mvd', Cam.mv, V3.mk.injEq]; omega
theorem zz_mv (c : Cam) (p d : V3) : zz (c.mv d) (mvd' p d) = zz c p := by unfold zz; rw [dl_mv]; rfl
theorem seen_mv (c : Cam) (p d : V3) : seen (c.mv d) (mvd' p d) = seen c p := by unfold seen xx yy; rw [dl_mv, zz_mv]; rfl
theorem spt_mv (c : Cam) (p d : V3) (ra i : Int) : spt (c.mv d) (mvd' p d) ra i = spt c p ra i := by unfold spt xx yy rr; rw [dl_mv, zz_mv]; rfl
theorem scn_mv (c : Cam) (d : V3) (l m : List V3) (ra : Int) : ∀ n, (∀ i, i < n → at_ m i = mvd' (at_ l i) d) → scn (c.mv d) m ra n = scn c l ra n
  | 0, _ => rfl
  | n + 1, h => by
    rw [scn, scn, scn_mv c d l m ra n (fun i hi => h i (by omega)), h n (by omega), seen_mv, spt_mv]
theorem mv_val {c : Cam} {d : V3} (h : Good c) (hp : pnt (c.mv d).e = true) : cval (c.mv d) = true :=
  (show Good (c.mv d) from ⟨hp, h.r, h.u, h.f, h.uu, h.ff, h.rr, h.ru, h.rf, h.uf, h.fo, h.wi, h.he, h.ne⟩).val

/-! ### Sorted -/
theorem dwn_spec : ∀ (j : Nat) (f : Nat → Sp), (∀ i, i + 1 < j → (f (i + 1)).d ≤ (f i).d) →
    (∀ i, i + 1 < j + 1 → (dwn f j (i + 1)).d ≤ (dwn f j i).d) ∧ (∀ i, i ≤ j → ∃ k, k ≤ j ∧ dwn f j i = f k) ∧ ∀ i, j < i → dwn f j i = f i
  | 0, f, _ => ⟨fun i h => by omega, fun i hi => ⟨i, hi, rfl⟩, fun i _ => rfl⟩
  | j + 1, f, hs => by
    rw [dwn]
    by_cases h : (f j).d < (f (j + 1)).d
    · rw [if_pos h]
      have e1 : swp f (j + 1) (j + 1) = f j := by simp [swp]
      have e2 : swp f (j + 1) j = f (j + 1) := by simp [swp]
      have e3 : ∀ i, i < j → swp f (j + 1) i = f i := fun i hi => by unfold swp; rw [if_neg (by omega), if_neg (by omega)]
      have e4 : ∀ i, j + 1 < i → swp f (j + 1) i = f i := fun i hi => by unfold swp; rw [if_neg (by omega), if_neg (by omega)]
      obtain ⟨h1, h2, h3⟩ := dwn_spec j (swp f (j + 1)) fun i hi => by rw [e3 i (by omega), e3 (i + 1) hi]; exact hs i (by omega)
      have hge : ∀ i, i ≤ j → (f j).d ≤ (f i).d := by
        have : ∀ k i, i + k = j → (f j).d ≤ (f i).d := by
          intro k
          induction k with
          | zero => intro i hi; obtain rfl : i = j := by omega
                    exact Int.le_refl _
          | succ k ih => intro i hi; have := ih (i + 1) (by omega); have := hs i (by omega); omega
        exact fun i hi => this (j - i) i (by omega)
      have hge2 : ∀ k, k ≤ j → (f j).d ≤ (swp f (j + 1) k).d := fun k hk => by
        by_cases e : k = j
        · subst e; rw [e2]; omega
        · rw [e3 k (by omega)]; exact hge k hk
      refine ⟨fun i hi => ?_, fun i hi => ?_, fun i hi => ?_⟩
      · by_cases e : i = j
        · subst e
          rw [h3 (i + 1) (by omega), e1]
          obtain ⟨k, hk, ek⟩ := h2 i (by omega)
          rw [ek]; exact hge2 k hk
        · exact h1 i (by omega)
      · by_cases e : i = j + 1
        · subst e; exact ⟨j, by omega, by rw [h3 _ (by omega), e1]⟩
        · obtain ⟨k, hk, ek⟩ := h2 i (by omega)
          by_cases e5 : k = j
          · subst e5; exact ⟨k + 1, by omega, by rw [ek, e2]⟩
          · exact ⟨k, by omega, by rw [ek, e3 k (by omega)]⟩
      · rw [h3 i (by omega), e4 i hi]
    · rw [if_neg h]
      refine ⟨fun i hi => ?_, fun i hi => ⟨i, hi, rfl⟩, fun i _ => rfl⟩
      by_cases e : i = j
      · subst e; omega
      · exact hs i (by omega)
theorem srt_spec : ∀ (n : Nat) (f : Nat → Sp), (∀ i, i + 1 < n → (srt f n (i + 1)).d ≤ (srt f n i).d) ∧ (∀ i, i < n → ∃ k, k < n ∧ srt f n i = f k) ∧ ∀ i, n ≤ i → srt f n i = f i
  | 0, f => ⟨fun i h => by omega, fun i h => by omega, fun i _ => rfl⟩
  | 1, f => ⟨fun i h => by omega, fun i h => ⟨i, h, rfl⟩, fun i _ => rfl⟩
  | n + 2, f => by
    obtain ⟨h1, h2, h3⟩ := srt_spec (n + 1) f
    obtain ⟨g1, g2, g3⟩ := dwn_spec (n + 1) (srt f (n + 1)) h1
    rw [srt]
    refine ⟨fun i hi => g1 i (by omega), fun i hi => ?_, fun i hi => ?_⟩
    · obtain ⟨k, hk, ek⟩ := g2 i (by omega)
      by_cases e : k < n + 1
      · obtain ⟨m, hm, em⟩ := h2 k e
        exact ⟨m, by omega, by rw [ek, em]⟩
      · exact ⟨k, by omega, by rw [ek, h3 k (by omega)]⟩
    · rw [g3 i (by omega), h3 i (by omega)]
theorem scn_mem {c : Cam} {l : List V3} {ra : Int} : ∀ n, ∀ s ∈ scn c l ra n, ∃ i, i < n ∧ seen c (at_ l i) = true ∧ s = spt c (at_ l i) ra (i : Nat)
  | 0, s, h => by simp [scn] at h
  | n + 1, s, h => by
    rw [scn] at h
    rcases List.mem_append.1 h with h | h
    · obtain ⟨i, hi, h1, h2⟩ := scn_mem n s h
      exact ⟨i, by omega, h1, h2⟩
    · by_cases hs : seen c (at_ l n) = true
      · rw [if_pos hs] at h
        simp only [List.mem_cons, List.not_mem_nil, or_false] at h
        exact ⟨n, by omega, hs, h⟩
      · rw [if_neg hs] at h; simp at h
theorem isq_mono {m n : Nat} (h : m ≤ n) : isq m ≤ isq n := by
  obtain ⟨h1, _⟩ := isq_spec m
  obtain ⟨_, h4⟩ := isq_spec n
  rcases Nat.lt_or_ge (isq n) (isq m) with h5 | h5
  · have := Nat.mul_le_mul (show isq n + 1 ≤ isq m by omega) (show isq n + 1 ≤ isq m by omega); omega
  · exact h5
theorem ediv_anti {a y z : Int} (ha : 0 ≤ a) (hy : 1 ≤ y) (h : y ≤ z) : a / z ≤ a / y := by
  refine (Int.le_ediv_iff_mul_le (by omega)).2 ?_
  have h1 := Int.ediv_mul_le a (show z ≠ 0 by omega)
  have h2 : 0 ≤ a / z := Int.ediv_nonneg ha (by omega)
  have := Int.mul_le_mul_of_nonneg_left h h2
  omega
theorem rr_anti {c : Cam} {p q : V3} {ra : Int} (hc : Good c) (hp : 1 ≤ zz c p) (h : zz c p ≤ zz c q) : rr c q ra ≤ rr c p ra := by
  have h0 : 0 ≤ c.fo * ra * (c.fo * ra) * dt c.u c.u := Int.mul_nonneg (sq_nonneg _) (dt_self _)
  have h1 := ediv_anti h0 hp h
  have h2 : 0 ≤ c.fo * ra * (c.fo * ra) * dt c.u c.u / zz c p := Int.ediv_nonneg h0 (by omega)
  have h3 : 0 ≤ c.fo * ra * (c.fo * ra) * dt c.u c.u / zz c q := Int.ediv_nonneg h0 (by omega)
  have h4 := Int.ediv_le_ediv (show 0 < zz c q by omega) h1
  have h5 := ediv_anti h2 hp h
  have h6 := isq_mono (m := (c.fo * ra * (c.fo * ra) * dt c.u c.u / zz c q / zz c q).toNat) (n := (c.fo * ra * (c.fo * ra) * dt c.u c.u / zz c p / zz c p).toNat) (by omega)
  unfold rr
  omega

end Go.Proofs.Ytjeemlnhokihoaa

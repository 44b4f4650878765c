
/- Walks: valid graphs, a search by halving. Conditions stand in each theorem. -/
import Derived.Test.YtjiknjcmfiapjaaMatB2
import Derived.IntWalk
namespace Go.Proofs.Ytjiknjcmfiapjaa
open Go.RowKit
set_option linter.unusedVariables false
set_option linter.unusedSimpArgs false

theorem vld_false {G : Nat → List Int} {nL : Nat} {R : Int} (h : 200 < nL ∨ R < 0 ∨ 200 < R) : vld G nL R = false := by
  rw [← Bool.not_eq_true, vld_iff]
  intro e
  have := e.hL; have := e.h0; have := e.hR; omega
set_option maxHeartbeats 1600000 in
theorem Valid_any (A : Option Addr) (nL cap : Nat) (R : Int) (G : Nat → List Int) (w : World) (hm : nL ≤ 1000) (hl : ∀ i, i < nL → (G i).length ≤ 1000) (hG : GRow w A nL G) : Calls Try.prog 45 #[.agg #[.slice A nL cap, .int .i64 R]] w (RetB (.bool (vld G nL R)) w) := by
  have HG := Lib.hid (hG.alloc (.cells #[.slice A nL cap, .int .i64 R] 54))
  have HL := Lib.hid hl
  clear hG hl
  go_enter Try.func45, Try.ntmps45
  go_wp2_with fail
  go_loop [8] (fun i => ∃ k : Nat, k ≤ nL ∧ i = .int .i64 k ∧ Hid (∀ j, j < k → inc (G j) R = true)) (fun i => nL - (intOf i).toNat)
  case atStart => exact ⟨0, by omega, rfl, Lib.hid (fun j h => absurd h (by omega))⟩
  case round =>
    obtain ⟨k, hk, rfl, HK⟩ := hrel
    by_cases hlt : k < nL
    · obtain ⟨gb, go, rfl, hgo, hgc⟩ := HG.out.top (by omega)
      obtain ⟨Ai, ci, hgi, hrow⟩ := hgc k hlt
      have C := inc_any Ai ci (G k) R _ (HL.out k hlt) hrow
      cases h0 : inc (G k) R with
      | false =>
        have HE := Lib.hid (vld_no G hlt h0)
        rw [h0] at C
        have HC := Lib.hid C
        clear h0 C HK hgc HG hrow
        go_wp2_with (go_at_call 55; refine HC.out.mono ?_; rintro e' w' ⟨rfl, rfl⟩)
        go_ret
        exact ⟨by rw [HE.out]; rfl, (by repeat' (first | exact Below.refl _ _ | assumption | refine Below.xt ?_ ?_ _ | refine Below.alloc ?_ ?_ _ | refine Below.drew ?_ | refine Below.setCell ?_ ?_ _ | (simp; done) | (simp; omega)))⟩
      | true =>
        have HE := Lib.hid (all_next (p := fun j => inc (G j) R) HK.out h0)
        rw [h0] at C
        have HC := Lib.hid C
        clear h0 C HK hgc HG hrow
        go_wp2_with (go_at_call 55; refine HC.out.mono ?_; rintro e' w' ⟨rfl, rfl⟩)
        go_round
        case rel => exact ⟨k + 1, by omega, by go_num, HE⟩
        case measure => simp [intOf]; omega
    · obtain rfl : k = nL := by omega
      clear HG
      by_cases v1 : k ≤ 200
      · by_cases v2 : 0 ≤ R
        · by_cases v3 : R ≤ 200
          · have HE := Lib.hid ((vld_iff G).2 ⟨HK.out, v1, v2, v3⟩)
            clear HK HL
            go_wp2_with fail
            go_ret
            exact ⟨by rw [HE.out]; rfl, (by repeat' (first | exact Below.refl _ _ | assumption | refine Below.xt ?_ ?_ _ | refine Below.alloc ?_ ?_ _ | refine Below.drew ?_ | refine Below.setCell ?_ ?_ _ | (simp; done) | (simp; omega)))⟩
          · have HE := Lib.hid (vld_false (G := G) (nL := k) (R := R) (by omega))
            have d3 : decide (R ≤ 200) = false := by simpa using v3
            clear HK HL
            go_wp2_with fail
            go_ret
            exact ⟨by rw [HE.out]; rfl, (by repeat' (first | exact Below.refl _ _ | assumption | refine Below.xt ?_ ?_ _ | refine Below.alloc ?_ ?_ _ | refine Below.drew ?_ | refine Below.setCell ?_ ?_ _ | (simp; done) | (simp; omega)))⟩
        · have HE := Lib.hid (vld_false (G := G) (nL := k) (R := R) (by omega))
          have d2 : decide (0 ≤ R) = false := by simpa using v2
          clear HK HL
          go_wp2_with fail
          go_ret
          exact ⟨by rw [HE.out]; rfl, (by repeat' (first | exact Below.refl _ _ | assumption | refine Below.xt ?_ ?_ _ | refine Below.alloc ?_ ?_ _ | refine Below.drew ?_ | refine Below.setCell ?_ ?_ _ | (simp; done) | (simp; omega)))⟩
      · have HE := Lib.hid (vld_false (G := G) (nL := k) (R := R) (by omega))
        have d1 : decide (k ≤ 200) = false := by simpa using v1
        clear HK HL
        go_wp2_with fail
        go_ret
        exact ⟨by rw [HE.out]; rfl, (by repeat' (first | exact Below.refl _ _ | assumption | refine Below.xt ?_ ?_ _ | refine Below.alloc ?_ ?_ _ | refine Below.drew ?_ | refine Below.setCell ?_ ?_ _ | (simp; done) | (simp; omega)))⟩

/-! ### A search by halving -/
theorem lbs_no {l : List Int} {n b : Int} {p : Nat} (h : inc l b = true) (h1 : ∀ j, j < p → j < l.length → l.getD j 0 < n) (h2 : ∀ j, p ≤ j → j < l.length → n ≤ l.getD j 0) (hne : p = l.length ∨ l.getD p 0 ≠ n) : hs l n = false :=
  has_no fun j hj e => by
    rcases Nat.lt_or_ge j p with h3 | h3
    · have := h1 j h3 hj; omega
    · have hp : p < l.length := by omega
      have h4 := h2 p (Nat.le_refl _) hp
      rcases Nat.eq_or_lt_of_le h3 with h5 | h5
      · subst h5; rcases hne with h6 | h6
        · omega
        · exact h6 e
      · have := inc_lt h j p h5 hj
        rcases hne with h6 | h6
        · omega
        · omega
/-- The call returns some place and whether the number is there. -/
def BS (l : List Int) (n : Int) (w : World) (e : Ending) (w' : World) : Prop := ∃ p : Nat, p ≤ l.length ∧ e = .returned (.tuple #[.int .i64 (p : Int), .bool (hs l n)]) ∧ w = w'
theorem isNaN_any (x : Int) (w : World) : Calls Try.prog 58 #[.int .i64 x] w (Ret (.bool false) w) := by
  go_enter Try.func58, Try.ntmps58
  go_wp2
  go_ret
  exact ⟨by simp, rfl⟩
theorem isNaN2_any (x : Int) (w : World) : Calls Try.prog 49 #[.int .i64 x] w (Ret (.bool false) w) := by
  go_enter Try.func49, Try.ntmps49
  go_wp2
  go_ret
  exact ⟨by simp, rfl⟩
theorem Less_any (x y : Int) (w : World) : Calls Try.prog 48 #[.int .i64 x, .int .i64 y] w (Ret (.bool (decide (x < y))) w) := by
  go_enter Try.func48, Try.ntmps48
  go_wp2_with (go_at_call 58; refine (isNaN_any _ _).mono ?_; rintro e' w' ⟨rfl, rfl⟩)
  go_ret
  exact ⟨rfl, rfl⟩
set_option maxHeartbeats 1600000 in
theorem bin_any (A : Option Addr) (m cap : Nat) (l : List Int) (b n : Int) (w : World) (hm : m = l.length) (hl : l.length ≤ 1000) (hi : inc l b = true) (h : RowI w A l) : Calls Try.prog 36 #[.slice A m cap, .int .i64 n] w (BS l n w) := by
  subst hm
  have HI := Lib.hid h
  have HB := Lib.hid hi
  clear h hi
  go_enter Try.func36, Try.ntmps36
  go_wp2_with fail
  go_loop [7, 8] (fun i j => ∃ p q : Nat, p ≤ q ∧ q ≤ l.length ∧ i = .int .i64 p ∧ j = .int .i64 q ∧ Hid (∀ j, j < p → j < l.length → l.getD j 0 < n) ∧ Hid (∀ j, q ≤ j → j < l.length → n ≤ l.getD j 0)) (fun i j => (intOf j).toNat - (intOf i).toNat)
  case atStart => exact ⟨0, l.length, by omega, by omega, rfl, rfl, Lib.hid (fun j h => absurd h (by omega)), Lib.hid (fun j h h2 => by omega)⟩
  case round =>
    obtain ⟨p, q, hpq, hq, rfl, rfl, H1, H2⟩ := hrel
    by_cases hlt : p < q
    · obtain ⟨b0, o, rfl, hb0, hc⟩ := RowI.at_ HI.out (by omega)
      have c1 := hc ((p + q) / 2) (by omega)
      obtain ⟨y, hy⟩ : ∃ y, l.getD ((p + q) / 2) 0 = y := ⟨_, rfl⟩
      rw [hy] at c1
      have HY := Lib.hid hy
      clear hy hc
      by_cases hyn : y < n
      · have HE := Lib.hid (show ∀ j, j < (p + q) / 2 + 1 → j < l.length → l.getD j 0 < n from fun j hj hjl => by
          by_cases e : j = (p + q) / 2
          · rw [e, HY.out]; exact hyn
          · have := inc_lt HB.out ((p + q) / 2) j (by omega) (by omega)
            rw [HY.out] at this; omega)
        clear HY H1
        go_wp2_with (go_at_call 48; refine (Less_any _ _ _).mono ?_; rintro e' w' ⟨rfl, rfl⟩)
        go_round
        case rel => exact ⟨(p + q) / 2 + 1, q, by omega, hq, by rw [show ((p : Int) + (q : Int)) / 2 + 1 = (((p + q) / 2 + 1 : Nat) : Int) by omega], rfl, HE, H2⟩
        case measure => simp [intOf]; omega
      · have HE := Lib.hid (show ∀ j, (p + q) / 2 ≤ j → j < l.length → n ≤ l.getD j 0 from fun j hj hjl => by
          by_cases e : j = (p + q) / 2
          · rw [e, HY.out]; omega
          · have := inc_lt HB.out j ((p + q) / 2) (by omega) hjl
            rw [HY.out] at this; omega)
        clear HY H2
        go_wp2_with (go_at_call 48; refine (Less_any _ _ _).mono ?_; rintro e' w' ⟨rfl, rfl⟩)
        go_round
        case rel => exact ⟨p, (p + q) / 2, by omega, by omega, rfl, by rw [show ((p : Int) + (q : Int)) / 2 = (((p + q) / 2 : Nat) : Int) by omega], H1, HE⟩
        case measure => simp [intOf]; omega
    · obtain rfl : p = q := by omega
      by_cases hpl : p < l.length
      · obtain ⟨b0, o, rfl, hb0, hc⟩ := RowI.at_ HI.out (by omega)
        have c1 := hc p hpl
        obtain ⟨y, hy⟩ : ∃ y, l.getD p 0 = y := ⟨_, rfl⟩
        rw [hy] at c1
        by_cases hyn : y = n
        · have HE := Lib.hid (has_yes (n := n) hpl (by rw [hy]; exact hyn))
          have d1 : (y == n) = true := by simpa using hyn
          clear hy hc hyn
          go_wp2_with fail
          go_ret2
          exact ⟨p, hq, by rw [HE.out]; rfl, rfl⟩
        · have HE := Lib.hid (lbs_no (n := n) HB.out H1.out H2.out (.inr (by rw [hy]; exact hyn)))
          have d1 : (y == n) = false := by simpa using hyn
          clear hy hc hyn
          go_wp2_with (go_at_call 49; refine (isNaN2_any _ _).mono ?_; rintro e' w' ⟨rfl, rfl⟩)
          go_ret2
          exact ⟨p, hq, by rw [HE.out]; rfl, rfl⟩
      · have HE := Lib.hid (lbs_no (n := n) HB.out H1.out H2.out (.inl (by omega)))
        go_wp2_with fail
        go_ret2
        exact ⟨p, hq, by rw [HE.out]; rfl, rfl⟩
end Go.Proofs.Ytjiknjcmfiapjaa

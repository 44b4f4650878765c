/- Walks of the library's stable sort of spots: a merge where the right side is a single spot. Conditions stand in each theorem. -/
import Derived.Test.YtjeemlnhokihoaaCamT4
namespace Go.Proofs.Ytjeemlnhokihoaa
open Go.RowKit
set_option linter.unusedVariables false
set_option linter.unusedSimpArgs false

set_option maxRecDepth 100000 in
set_option maxHeartbeats 6400000 in
theorem symR_any (g n cap base : Nat) (f : Nat → Sp) (a m b : Nat) (w : World) (hown : w.ownsRow base 35 5 (.slice (some ⟨g, 0, none⟩) n cap) n (rowS f n)) (hok : ∀ i, (f i).ok) (hm : b = m + 1) (h1 : a + 2 ≤ m) (h3 : b ≤ n) (hn : n ≤ 4294967296) (hs : SrtD f a m) (hc : Crs f a m b) :
    Calls Try.prog 52 #[.slice (some ⟨g, 0, none⟩) n cap, .int .i64 (a : Int), .int .i64 (m : Int), .int .i64 (b : Int), .func (.func 40) #[] #[]] w (Merges g n cap base f a b w) := by
  have HO := Lib.hid hown
  have HF := Lib.hid hok
  have HM := Lib.hid hm
  have HS := Lib.hid hs
  have HC := Lib.hid hc
  obtain ⟨am, ham⟩ : ∃ x, m - a = x := ⟨_, rfl⟩
  have w0 : IntKind.i64.wrap ((m : Int) - (a : Int)) = (am : Int) := by rw [show (am : Int) = (m : Int) - (a : Int) by omega]; exact IntWalk.i64_in _ (by omega)
  have d0 : ((am : Int) == 1) = false := by simp; omega
  have d0' : (am == 1) = false := by simp; omega
  have w1 : IntKind.i64.wrap ((b : Int) - (m : Int)) = 1 := by rw [show (b : Int) - (m : Int) = 1 by omega]; rfl
  clear hown hok hs hc ham
  have an : m < n := by omega
  have h0 : a ≤ m := by omega
  clear hm
  go_enter Try.func52, Try.ntmps52
  go_wp2_with fail
  clear w1 w0 d0 d0'
  obtain ⟨sA, hsA⟩ : ∃ s, f m = s := ⟨_, rfl⟩
  have HSA := Lib.hid hsA
  clear hsA
  go_loopw [14, 15] (fun i j wr => ∃ p q : Nat, Hid (a ≤ p ∧ p ≤ q ∧ q ≤ m) ∧ i = .int .i64 p ∧ j = .int .i64 q ∧ Hid ((p = a ∨ sA.d ≤ (f (p - 1)).d) ∧ (q = m ∨ (f q).d < sA.d)) ∧ Hid (w.grownBy wr (some g)) ∧ Hid (wr.ownsRow base 35 5 (.slice (some ⟨g, 0, none⟩) n cap) n (rowS f n))) (fun i j _ => (intOf j).toNat - (intOf i).toNat)
  case atStart => exact ⟨a, m, Lib.hid ⟨Nat.le_refl _, h0, Nat.le_refl _⟩, rfl, rfl, Lib.hid ⟨.inl rfl, .inl rfl⟩, Lib.hid (World.grownBy.refl _ _), HO⟩
  case round =>
    clear HO
    obtain ⟨p, q, HB, rfl, rfl, HQ, HG, HR⟩ := hrel
    obtain ⟨b1, b2, b3⟩ := HB.out
    by_cases hlt : p < q
    · skip
      --A{
      obtain ⟨h, hh⟩ : ∃ h, (p + q) / 2 = h := ⟨_, rfl⟩
      have hmid : ((p : Int) + (q : Int)) / 2 = (h : Int) := by omega
      have hl1 : p ≤ h := by omega
      have hl2 : h < q := by omega
      have hl3 : h < n := by omega
      obtain ⟨x0, x1, x2, x3, x4⟩ := own_cells HR.out an
      obtain ⟨y0, y1, y2, y3, y4⟩ := own_cells HR.out hl3
      have hog := own_old HR.out
      have CM := fun w => Lib.hid (cmp_any (f m) (f h) w (HF.out _) (HF.out _))
      obtain ⟨p1, p2⟩ := HF.out h
      obtain ⟨p3, p4⟩ := HF.out m
      rw [HSA.out] at x0 x1 x2 x3 x4 p3 p4 CM
      obtain ⟨sB, hsB⟩ : ∃ s, f h = s := ⟨_, rfl⟩
      rw [hsB] at y0 y1 y2 y3 y4 p1 p2 CM
      have HSB := Lib.hid hsB
      clear hsB
      have hh1 : (0 : Int) ≤ (h : Int) := by omega
      have hh2 : (h : Int) < (n : Int) := by omega
      have HL := Lib.hid hl1
      have HL2 := Lib.hid hl2
      clear hh
      by_cases hlt2 : sB.d < sA.d
      · have e1 : decide (sB.d - sA.d < 0) = true := by simp; omega
        (go_wp2_with fail; refine wp_region_xt (by kernel_rfl) (by kernel_rfl) ?_; (repeat (go_big_quiet_step (first | (go_at_call 40; exact RetB.quiet (CM _).out)))); refine wpQuiet_nil ?_; intro g1; go_wp2_with fail)
        go_roundw
        case rel => exact ⟨p, h, Lib.hid ⟨b1, HL.out, by have := HL2.out; omega⟩, rfl, by go_num, Lib.hid ⟨HQ.out.1, .inr (by rw [HSB.out]; omega)⟩, Lib.hid (grown_below HG.out (by repeat' (first | exact Below.refl _ _ | assumption | refine Below.xt ?_ ?_ _ | refine Below.alloc ?_ ?_ _ | refine Below.drew ?_ | refine Below.setCell ?_ ?_ _ | (simp; done) | (simp; omega)))), Lib.hid (own_xt HR.out _)⟩
        case measure => have := HL.out; have := HL2.out; simp [intOf]; omega
      · have e1 : decide (sB.d - sA.d < 0) = false := by simp; omega
        (go_wp2_with fail; refine wp_region_xt (by kernel_rfl) (by kernel_rfl) ?_; (repeat (go_big_quiet_step (first | (go_at_call 40; exact RetB.quiet (CM _).out)))); refine wpQuiet_nil ?_; intro g1; go_wp2_with fail)
        go_roundw
        case rel => exact ⟨h + 1, q, Lib.hid ⟨by have := HL.out; omega, by have := HL2.out; omega, b3⟩, by go_num, rfl, Lib.hid ⟨.inr (by rw [Nat.add_sub_cancel, HSB.out]; omega), HQ.out.2⟩, Lib.hid (grown_below HG.out (by repeat' (first | exact Below.refl _ _ | assumption | refine Below.xt ?_ ?_ _ | refine Below.alloc ?_ ?_ _ | refine Below.drew ?_ | refine Below.setCell ?_ ?_ _ | (simp; done) | (simp; omega)))), Lib.hid (own_xt HR.out _)⟩
        case measure => have := HL.out; have := HL2.out; simp [intOf]; omega
      --A}
    · skip
      --B{
      obtain rfl : p = q := by omega
      have HE := Lib.hid (show Mrg f a b (rot f p m (m + 1)) from by
        have hm := HM.out
        have h1 := HQ.out.1
        have h2 := HQ.out.2
        have hs := HS.out
        have hc := HC.out
        rw [hm] at hc ⊢
        rw [← HSA.out] at h1 h2
        exact mrg_right' hs hc b1 b3 h1 h2)
      have HP := Lib.hid b3
      clear HSA HQ HM HS HC HF hlt h1
      obtain ⟨W1, hW1⟩ : ∃ W1 : World, W1 = wr := ⟨_, rfl⟩
      subst hW1
      go_wp2_with fail
      go_loopw [17] (fun i wr => ∃ k : Nat, Hid (p ≤ k ∧ k ≤ m) ∧ i = .int .i64 k ∧ Hid (w.grownBy wr (some g)) ∧ Hid (wr.ownsRow base 35 5 (.slice (some ⟨g, 0, none⟩) n cap) n (rowS (rot f k m (m + 1)) n))) (fun i _ => (intOf i).toNat)
      case atStart => exact ⟨m, Lib.hid ⟨HP.out, Nat.le_refl _⟩, rfl, HG, by rw [rot_id (by omega) (by omega) (.inl rfl)]; exact HR⟩
      case round =>
        clear HG HR
        obtain ⟨k, HK, rfl, HG, HR⟩ := hrel
        obtain ⟨k1, k2⟩ := HK.out
        by_cases hlt : p < k
        · skip
          --C{
          have d1 : decide ((p : Int) < (k : Int)) = true := by simp; omega
          have d1' : decide (p < k) = true := by simp; omega
          obtain ⟨q, hq⟩ : ∃ q, k - 1 = q := ⟨_, rfl⟩
          have hq1 : q + 1 = k := by omega
          have HT := Lib.hid (rot_dn (f := f) (m := m) (k := q) (by omega))
          have w3 : IntKind.i64.wrap ((k : Int) - 1) = (q : Int) := by rw [show (q : Int) = (k : Int) - 1 by omega]; exact IntWalk.i64_in _ (by omega)
          obtain ⟨h, hh⟩ : ∃ h, rot f k m (m + 1) = h := ⟨_, rfl⟩
          rw [hh] at HR
          rw [hq1, hh] at HT
          have p1 : (0 : Int) ≤ (k : Int) := by omega
          have p2 : (k : Int) < (n : Int) := by omega
          have q1 : (0 : Int) ≤ (q : Int) := by omega
          have q2 : (q : Int) < (n : Int) := by omega
          have hpn : k < n := by omega
          have hqn : q < n := by omega
          obtain ⟨a0, a1, a2, a3, a4⟩ := own_cells HR.out hpn
          obtain ⟨b0, b1, b2, b3, b4⟩ := own_cells HR.out hqn
          have hog := own_old HR.out
          have HW := Lib.hid (flat_ex (f := h) hpn hqn (by omega))
          generalize h k = tA at *
          generalize h q = tB at *
          have z0 := HR.out.frozenAt (k * 5)
          have y0 := HR.out.frozenAt (q * 5)
          have z1 := HR.out.frozenAt (k * 5 + 1)
          have y1 := HR.out.frozenAt (q * 5 + 1)
          have z2 := HR.out.frozenAt (k * 5 + 2)
          have y2 := HR.out.frozenAt (q * 5 + 2)
          have z3 := HR.out.frozenAt (k * 5 + 3)
          have y3 := HR.out.frozenAt (q * 5 + 3)
          have z4 := HR.out.frozenAt (k * 5 + 4)
          have y4 := HR.out.frozenAt (q * 5 + 4)
          have hpq : k ≠ q := by omega
          have n00 : ¬ k * 5 = q * 5 := by omega
          have m00 : ¬ q * 5 = k * 5 := by omega
          have n01 : ¬ k * 5 = q * 5 + 1 := by omega
          have m01 : ¬ q * 5 + 1 = k * 5 := by omega
          have n02 : ¬ k * 5 = q * 5 + 2 := by omega
          have m02 : ¬ q * 5 + 2 = k * 5 := by omega
          have n03 : ¬ k * 5 = q * 5 + 3 := by omega
          have m03 : ¬ q * 5 + 3 = k * 5 := by omega
          have n04 : ¬ k * 5 = q * 5 + 4 := by omega
          have m04 : ¬ q * 5 + 4 = k * 5 := by omega
          have n10 : ¬ k * 5 + 1 = q * 5 := by omega
          have m10 : ¬ q * 5 = k * 5 + 1 := by omega
          have n11 : ¬ k * 5 + 1 = q * 5 + 1 := by omega
          have m11 : ¬ q * 5 + 1 = k * 5 + 1 := by omega
          have n12 : ¬ k * 5 + 1 = q * 5 + 2 := by omega
          have m12 : ¬ q * 5 + 2 = k * 5 + 1 := by omega
          have n13 : ¬ k * 5 + 1 = q * 5 + 3 := by omega
          have m13 : ¬ q * 5 + 3 = k * 5 + 1 := by omega
          have n14 : ¬ k * 5 + 1 = q * 5 + 4 := by omega
          have m14 : ¬ q * 5 + 4 = k * 5 + 1 := by omega
          have n20 : ¬ k * 5 + 2 = q * 5 := by omega
          have m20 : ¬ q * 5 = k * 5 + 2 := by omega
          have n21 : ¬ k * 5 + 2 = q * 5 + 1 := by omega
          have m21 : ¬ q * 5 + 1 = k * 5 + 2 := by omega
          have n22 : ¬ k * 5 + 2 = q * 5 + 2 := by omega
          have m22 : ¬ q * 5 + 2 = k * 5 + 2 := by omega
          have n23 : ¬ k * 5 + 2 = q * 5 + 3 := by omega
          have m23 : ¬ q * 5 + 3 = k * 5 + 2 := by omega
          have n24 : ¬ k * 5 + 2 = q * 5 + 4 := by omega
          have m24 : ¬ q * 5 + 4 = k * 5 + 2 := by omega
          have n30 : ¬ k * 5 + 3 = q * 5 := by omega
          have m30 : ¬ q * 5 = k * 5 + 3 := by omega
          have n31 : ¬ k * 5 + 3 = q * 5 + 1 := by omega
          have m31 : ¬ q * 5 + 1 = k * 5 + 3 := by omega
          have n32 : ¬ k * 5 + 3 = q * 5 + 2 := by omega
          have m32 : ¬ q * 5 + 2 = k * 5 + 3 := by omega
          have n33 : ¬ k * 5 + 3 = q * 5 + 3 := by omega
          have m33 : ¬ q * 5 + 3 = k * 5 + 3 := by omega
          have n34 : ¬ k * 5 + 3 = q * 5 + 4 := by omega
          have m34 : ¬ q * 5 + 4 = k * 5 + 3 := by omega
          have n40 : ¬ k * 5 + 4 = q * 5 := by omega
          have m40 : ¬ q * 5 = k * 5 + 4 := by omega
          have n41 : ¬ k * 5 + 4 = q * 5 + 1 := by omega
          have m41 : ¬ q * 5 + 1 = k * 5 + 4 := by omega
          have n42 : ¬ k * 5 + 4 = q * 5 + 2 := by omega
          have m42 : ¬ q * 5 + 2 = k * 5 + 4 := by omega
          have n43 : ¬ k * 5 + 4 = q * 5 + 3 := by omega
          have m43 : ¬ q * 5 + 3 = k * 5 + 4 := by omega
          have n44 : ¬ k * 5 + 4 = q * 5 + 4 := by omega
          have m44 : ¬ q * 5 + 4 = k * 5 + 4 := by omega
          have HQ := Lib.hid (show p ≤ q ∧ q ≤ m by omega)
          have HMs := Lib.hid (show q < k by omega)
          clear hh hq hq1 k1 k2
          go_wp2_with fail
          go_region
          go_wp2_with fail
          obtain ⟨q1', q2'⟩ := storedPQ HR.out (.int .i64 tB.ix) (.int .i64 tB.x) (.int .i64 tB.y) (.int .i64 tB.r) (.int .i64 tB.d) (.int .i64 tA.ix) (.int .i64 tA.x) (.int .i64 tA.y) (.int .i64 tA.r) (.int .i64 tA.d) k q
          rw [HW.out, HT.out] at q1'
          exact ⟨⟨q, HQ, rfl, Lib.hid (grown_two HG.out q2'), Lib.hid q1'⟩, by have := HMs.out; simp [intOf]; omega⟩
          --C}
        · have d1 : decide ((p : Int) < (k : Int)) = false := by simp; omega
          have d1' : decide (p < k) = false := by simp; omega
          obtain rfl : k = p := by omega
          go_wp2_with fail
          go_end0
          exact ⟨_, HE.out, rfl, HG.out, HR.out⟩
      --B}

end Go.Proofs.Ytjeemlnhokihoaa

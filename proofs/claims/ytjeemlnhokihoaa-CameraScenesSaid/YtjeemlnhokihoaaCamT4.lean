/- Walks of the library's stable sort of spots: a merge where one side is a single spot. Conditions stand in each theorem. -/
import Derived.Test.YtjeemlnhokihoaaCamT3
namespace Go.Proofs.Ytjeemlnhokihoaa
open Go.RowKit
set_option linter.unusedVariables false
set_option linter.unusedSimpArgs false

/-- The call merges the two sorted ranges in their place. -/
def Merges (g n cap base : Nat) (f : Nat → Sp) (a b : Nat) (w : World) (e : Ending) (w' : World) : Prop := ∃ f', Mrg f a b f' ∧ Leaves g n cap base f' w e w'

/-- As mrg_left, from what a search by halving knows. -/
theorem mrg_left' {f : Nat → Sp} {a b i : Nat} (hs : SrtD f (a + 1) b) (hc : Crs f a (a + 1) b) (h1 : a + 1 ≤ i) (h2 : i ≤ b) (lo : i = a + 1 ∨ (f a).d < (f (i - 1)).d) (hi : i = b ∨ (f i).d ≤ (f a).d) : Mrg f a b (rot f a (a + 1) i) := by
  refine mrg_left hs hc h1 h2 (fun h h3 h4 => ?_) (fun h h3 h4 => ?_)
  · rcases lo with e | lo
    · omega
    · by_cases e : h = i - 1
      · rw [e]; exact lo
      · have := hs h (i - 1) h3 (by omega) (by omega); unfold lts at this; omega
  · rcases hi with e | hi
    · omega
    · by_cases e : h = i
      · rw [e]; omega
      · have := hs i h (by omega) (by omega) h4; unfold lts at this; omega
theorem mrg_right' {f : Nat → Sp} {a m i : Nat} (hs : SrtD f a m) (hc : Crs f a m (m + 1)) (h1 : a ≤ i) (h2 : i ≤ m) (lo : i = a ∨ (f m).d ≤ (f (i - 1)).d) (hi : i = m ∨ (f i).d < (f m).d) : Mrg f a (m + 1) (rot f i m (m + 1)) := by
  refine mrg_right hs hc h1 h2 (fun h h3 h4 => ?_) (fun h h3 h4 => ?_)
  · rcases lo with e | lo
    · omega
    · by_cases e : h = i - 1
      · rw [e]; omega
      · have := hs h (i - 1) h3 (by omega) (by omega); unfold lts at this; omega
  · rcases hi with e | hi
    · omega
    · by_cases e : h = i
      · rw [e]; exact hi
      · have := hs i h (by omega) (by omega) h4; unfold lts at this; omega

set_option maxRecDepth 100000 in
set_option maxHeartbeats 6400000 in
theorem symL_any (g n cap base : Nat) (f : Nat → Sp) (a m b : Nat) (w : World) (hown : w.ownsRow base 35 5 (.slice (some ⟨g, 0, none⟩) n cap) n (rowS f n)) (hok : ∀ i, (f i).ok) (hm : m = a + 1) (h2 : m ≤ b) (h3 : b ≤ n) (hn : n ≤ 4294967296) (hs : SrtD f m b) (hc : Crs f a m b) :
    Calls Try.prog 52 #[.slice (some ⟨g, 0, none⟩) n cap, .int .i64 (a : Int), .int .i64 (m : Int), .int .i64 (b : Int), .func (.func 40) #[] #[]] w (Merges g n cap base f a b w) := by
  have HO := Lib.hid hown
  have HF := Lib.hid hok
  have HM := Lib.hid hm
  have HS := Lib.hid hs
  have HC := Lib.hid hc
  have w1 : IntKind.i64.wrap ((m : Int) - (a : Int)) = 1 := by rw [show (m : Int) - (a : Int) = 1 by omega]; rfl
  clear hown hok hm hs hc
  have an : a < n := by have := HM.out; omega
  go_enter Try.func52, Try.ntmps52
  go_wp2_with fail
  clear w1
  obtain ⟨sA, hsA⟩ : ∃ s, f a = s := ⟨_, rfl⟩
  have HSA := Lib.hid hsA
  clear hsA
  go_loopw [10, 11] (fun i j wr => ∃ p q : Nat, Hid (m ≤ p ∧ p ≤ q ∧ q ≤ b) ∧ i = .int .i64 p ∧ j = .int .i64 q ∧ Hid ((p = m ∨ sA.d < (f (p - 1)).d) ∧ (q = b ∨ (f q).d ≤ sA.d)) ∧ Hid (w.grownBy wr (some g)) ∧ Hid (wr.ownsRow base 35 5 (.slice (some ⟨g, 0, none⟩) n cap) n (rowS f n))) (fun i j _ => (intOf j).toNat - (intOf i).toNat)
  case atStart => exact ⟨m, b, Lib.hid ⟨Nat.le_refl _, h2, Nat.le_refl _⟩, rfl, rfl, Lib.hid ⟨.inl rfl, .inl rfl⟩, Lib.hid (World.grownBy.refl _ _), HO⟩
  case round =>
    clear HO
    obtain ⟨p, q, HB, rfl, rfl, HQ, HG, HR⟩ := hrel
    obtain ⟨b1, b2, b3⟩ := HB.out
    by_cases hlt : p < q
    · skip
      --A{
      obtain ⟨h, hh⟩ : ∃ h, (p + q) / 2 = h := ⟨_, rfl⟩
      have hmid : ((p : Int) + (q : Int)) / 2 = (h : Int) := by omega
      have hl1 : p ≤ h := by omega
      have hl2 : h < q := by omega
      have hl3 : h < n := by omega
      obtain ⟨x0, x1, x2, x3, x4⟩ := own_cells HR.out an
      obtain ⟨y0, y1, y2, y3, y4⟩ := own_cells HR.out hl3
      have hog := own_old HR.out
      have CM := fun w => Lib.hid (cmp_any (f h) (f a) w (HF.out _) (HF.out _))
      obtain ⟨p1, p2⟩ := HF.out h
      obtain ⟨p3, p4⟩ := HF.out a
      rw [HSA.out] at x0 x1 x2 x3 x4 p3 p4 CM
      obtain ⟨sB, hsB⟩ : ∃ s, f h = s := ⟨_, rfl⟩
      rw [hsB] at y0 y1 y2 y3 y4 p1 p2 CM
      have HSB := Lib.hid hsB
      clear hsB
      have hh1 : (0 : Int) ≤ (h : Int) := by omega
      have hh2 : (h : Int) < (n : Int) := by omega
      have HL := Lib.hid hl1
      have HL2 := Lib.hid hl2
      clear hh
      by_cases hlt2 : sA.d < sB.d
      · have e1 : decide (sA.d - sB.d < 0) = true := by simp; omega
        (go_wp2_with fail; refine wp_region_xt (by kernel_rfl) (by kernel_rfl) ?_; (repeat (go_big_quiet_step (first | (go_at_call 40; exact RetB.quiet (CM _).out)))); refine wpQuiet_nil ?_; intro g1; go_wp2_with fail)
        go_roundw
        case rel => exact ⟨h + 1, q, Lib.hid ⟨by have := HL.out; omega, by have := HL2.out; omega, b3⟩, by go_num, rfl, Lib.hid ⟨.inr (by rw [Nat.add_sub_cancel, HSB.out]; exact hlt2), HQ.out.2⟩, Lib.hid (grown_below HG.out (by repeat' (first | exact Below.refl _ _ | assumption | refine Below.xt ?_ ?_ _ | refine Below.alloc ?_ ?_ _ | refine Below.drew ?_ | refine Below.setCell ?_ ?_ _ | (simp; done) | (simp; omega)))), Lib.hid (own_xt HR.out _)⟩
        case measure => have := HL.out; have := HL2.out; simp [intOf]; omega
      · have e1 : decide (sA.d - sB.d < 0) = false := by simp; omega
        (go_wp2_with fail; refine wp_region_xt (by kernel_rfl) (by kernel_rfl) ?_; (repeat (go_big_quiet_step (first | (go_at_call 40; exact RetB.quiet (CM _).out)))); refine wpQuiet_nil ?_; intro g1; go_wp2_with fail)
        go_roundw
        case rel => exact ⟨p, h, Lib.hid ⟨b1, HL.out, by have := HL2.out; omega⟩, rfl, by go_num, Lib.hid ⟨HQ.out.1, .inr (by rw [HSB.out]; omega)⟩, Lib.hid (grown_below HG.out (by repeat' (first | exact Below.refl _ _ | assumption | refine Below.xt ?_ ?_ _ | refine Below.alloc ?_ ?_ _ | refine Below.drew ?_ | refine Below.setCell ?_ ?_ _ | (simp; done) | (simp; omega)))), Lib.hid (own_xt HR.out _)⟩
        case measure => have := HL.out; have := HL2.out; simp [intOf]; omega
      --A}
    · skip
      --B{
      obtain rfl : p = q := by omega
      have HE := Lib.hid (show Mrg f a b (rot f a (a + 1) p) from by
        have hm := HM.out
        have h1 := HQ.out.1
        have h2 := HQ.out.2
        have hs := HS.out
        have hc := HC.out
        rw [hm] at h1 hs hc
        rw [← HSA.out] at h1 h2
        exact mrg_left' hs hc (by omega) b3 h1 h2)
      have HP := Lib.hid (show a + 1 ≤ p by have := HM.out; omega)
      obtain ⟨pm, hpm⟩ : ∃ x, p - 1 = x := ⟨_, rfl⟩
      have w2 : IntKind.i64.wrap ((p : Int) - 1) = (pm : Int) := by rw [show (pm : Int) = (p : Int) - 1 by have := HP.out; omega]; exact IntWalk.i64_in _ (by omega)
      have HPM := Lib.hid (show pm + 1 = p by have := HP.out; omega)
      clear hpm HSA HQ HM HS HC HF hlt
      obtain ⟨W1, hW1⟩ : ∃ W1 : World, W1 = wr := ⟨_, rfl⟩
      subst hW1
      go_wp2_with fail
      go_loopw [13] (fun i wr => ∃ k : Nat, Hid (a ≤ k ∧ k + 1 ≤ p) ∧ i = .int .i64 k ∧ Hid (w.grownBy wr (some g)) ∧ Hid (wr.ownsRow base 35 5 (.slice (some ⟨g, 0, none⟩) n cap) n (rowS (rot f a (a + 1) (k + 1)) n))) (fun i _ => p - (intOf i).toNat)
      case atStart => exact ⟨a, Lib.hid ⟨Nat.le_refl _, HP.out⟩, rfl, HG, by rw [rot_id (by omega) (by omega) (.inr rfl)]; exact HR⟩
      case round =>
        clear HG HR
        obtain ⟨k, HK, rfl, HG, HR⟩ := hrel
        obtain ⟨k1, k2⟩ := HK.out
        have hpm := HPM.out
        by_cases hlt : k < pm
        · skip
          --C{
          have d1 : decide ((k : Int) < (pm : Int)) = true := by simp; omega
          have d1' : decide (k < pm) = true := by simp; omega
          have HT := Lib.hid (rot_up (f := f) k1)
          obtain ⟨q, hq⟩ : ∃ q, k + 1 = q := ⟨_, rfl⟩
          have w3 : IntKind.i64.wrap ((k : Int) + 1) = (q : Int) := by rw [show (q : Int) = (k : Int) + 1 by omega]; exact IntWalk.i64_in _ (by omega)
          rw [hq] at HR
          obtain ⟨h, hh⟩ : ∃ h, rot f a (a + 1) q = h := ⟨_, rfl⟩
          rw [hh] at HR
          rw [hq, hh, show k + 2 = q + 1 by omega] at HT
          have p1 : (0 : Int) ≤ (k : Int) := by omega
          have p2 : (k : Int) < (n : Int) := by omega
          have q1 : (0 : Int) ≤ (q : Int) := by omega
          have q2 : (q : Int) < (n : Int) := by omega
          have hpn : k < n := by omega
          have hqn : q < n := by omega
          obtain ⟨a0, a1, a2, a3, a4⟩ := own_cells HR.out hpn
          obtain ⟨b0, b1, b2, b3, b4⟩ := own_cells HR.out hqn
          have hog := own_old HR.out
          have HW := Lib.hid (flat_ex (f := h) hpn hqn (by omega))
          generalize h k = tA at *
          generalize h q = tB at *
          have z0 := HR.out.frozenAt (k * 5)
          have y0 := HR.out.frozenAt (q * 5)
          have z1 := HR.out.frozenAt (k * 5 + 1)
          have y1 := HR.out.frozenAt (q * 5 + 1)
          have z2 := HR.out.frozenAt (k * 5 + 2)
          have y2 := HR.out.frozenAt (q * 5 + 2)
          have z3 := HR.out.frozenAt (k * 5 + 3)
          have y3 := HR.out.frozenAt (q * 5 + 3)
          have z4 := HR.out.frozenAt (k * 5 + 4)
          have y4 := HR.out.frozenAt (q * 5 + 4)
          have hpq : k ≠ q := by omega
          have n00 : ¬ k * 5 = q * 5 := by omega
          have m00 : ¬ q * 5 = k * 5 := by omega
          have n01 : ¬ k * 5 = q * 5 + 1 := by omega
          have m01 : ¬ q * 5 + 1 = k * 5 := by omega
          have n02 : ¬ k * 5 = q * 5 + 2 := by omega
          have m02 : ¬ q * 5 + 2 = k * 5 := by omega
          have n03 : ¬ k * 5 = q * 5 + 3 := by omega
          have m03 : ¬ q * 5 + 3 = k * 5 := by omega
          have n04 : ¬ k * 5 = q * 5 + 4 := by omega
          have m04 : ¬ q * 5 + 4 = k * 5 := by omega
          have n10 : ¬ k * 5 + 1 = q * 5 := by omega
          have m10 : ¬ q * 5 = k * 5 + 1 := by omega
          have n11 : ¬ k * 5 + 1 = q * 5 + 1 := by omega
          have m11 : ¬ q * 5 + 1 = k * 5 + 1 := by omega
          have n12 : ¬ k * 5 + 1 = q * 5 + 2 := by omega
          have m12 : ¬ q * 5 + 2 = k * 5 + 1 := by omega
          have n13 : ¬ k * 5 + 1 = q * 5 + 3 := by omega
          have m13 : ¬ q * 5 + 3 = k * 5 + 1 := by omega
          have n14 : ¬ k * 5 + 1 = q * 5 + 4 := by omega
          have m14 : ¬ q * 5 + 4 = k * 5 + 1 := by omega
          have n20 : ¬ k * 5 + 2 = q * 5 := by omega
          have m20 : ¬ q * 5 = k * 5 + 2 := by omega
          have n21 : ¬ k * 5 + 2 = q * 5 + 1 := by omega
          have m21 : ¬ q * 5 + 1 = k * 5 + 2 := by omega
          have n22 : ¬ k * 5 + 2 = q * 5 + 2 := by omega
          have m22 : ¬ q * 5 + 2 = k * 5 + 2 := by omega
          have n23 : ¬ k * 5 + 2 = q * 5 + 3 := by omega
          have m23 : ¬ q * 5 + 3 = k * 5 + 2 := by omega
          have n24 : ¬ k * 5 + 2 = q * 5 + 4 := by omega
          have m24 : ¬ q * 5 + 4 = k * 5 + 2 := by omega
          have n30 : ¬ k * 5 + 3 = q * 5 := by omega
          have m30 : ¬ q * 5 = k * 5 + 3 := by omega
          have n31 : ¬ k * 5 + 3 = q * 5 + 1 := by omega
          have m31 : ¬ q * 5 + 1 = k * 5 + 3 := by omega
          have n32 : ¬ k * 5 + 3 = q * 5 + 2 := by omega
          have m32 : ¬ q * 5 + 2 = k * 5 + 3 := by omega
          have n33 : ¬ k * 5 + 3 = q * 5 + 3 := by omega
          have m33 : ¬ q * 5 + 3 = k * 5 + 3 := by omega
          have n34 : ¬ k * 5 + 3 = q * 5 + 4 := by omega
          have m34 : ¬ q * 5 + 4 = k * 5 + 3 := by omega
          have n40 : ¬ k * 5 + 4 = q * 5 := by omega
          have m40 : ¬ q * 5 = k * 5 + 4 := by omega
          have n41 : ¬ k * 5 + 4 = q * 5 + 1 := by omega
          have m41 : ¬ q * 5 + 1 = k * 5 + 4 := by omega
          have n42 : ¬ k * 5 + 4 = q * 5 + 2 := by omega
          have m42 : ¬ q * 5 + 2 = k * 5 + 4 := by omega
          have n43 : ¬ k * 5 + 4 = q * 5 + 3 := by omega
          have m43 : ¬ q * 5 + 3 = k * 5 + 4 := by omega
          have n44 : ¬ k * 5 + 4 = q * 5 + 4 := by omega
          have m44 : ¬ q * 5 + 4 = k * 5 + 4 := by omega
          have HQ := Lib.hid (show a ≤ q ∧ q + 1 ≤ p by omega)
          have HMs := Lib.hid (show k < q ∧ q < p by omega)
          clear hh hq k1 k2 hpm
          go_wp2_with fail
          go_region
          go_wp2_with fail
          obtain ⟨q1', q2'⟩ := storedPQ HR.out (.int .i64 tB.ix) (.int .i64 tB.x) (.int .i64 tB.y) (.int .i64 tB.r) (.int .i64 tB.d) (.int .i64 tA.ix) (.int .i64 tA.x) (.int .i64 tA.y) (.int .i64 tA.r) (.int .i64 tA.d) k q
          rw [HW.out, HT.out] at q1'
          exact ⟨⟨q, HQ, rfl, Lib.hid (grown_two HG.out q2'), Lib.hid q1'⟩, by have := HMs.out; simp [intOf]; omega⟩
          --C}
        · have d1 : decide ((k : Int) < (pm : Int)) = false := by simp; omega
          have d1' : decide (k < pm) = false := by simp; omega
          obtain rfl : k = pm := by omega
          rw [hpm] at HR
          go_wp2_with fail
          go_end0
          exact ⟨_, HE.out, rfl, HG.out, HR.out⟩
      --B}

end Go.Proofs.Ytjeemlnhokihoaa

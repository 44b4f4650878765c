/- Walks of the library's stable sort of spots: insertion in a range. Conditions stand in each theorem. -/
import Derived.Test.YtjeemlnhokihoaaCamT6
namespace Go.Proofs.Ytjeemlnhokihoaa
open Go.RowKit
set_option linter.unusedVariables false
set_option linter.unusedSimpArgs false

theorem storedPX {w : World} {g n cap base : Nat} {T : TypeId} {xs : List Value} {g' : Gr} (h : w.ownsRow base T 5 (.slice (some ⟨g, 0, none⟩) n cap) n xs) (b0 b1 b2 b3 b4 a0 a1 a2 a3 a4 : Value) (p q : Nat) :
    (xt ((((((((((w.setCell ⟨g, p * 5, none⟩ b0).setCell ⟨g, p * 5 + 1, none⟩ b1).setCell ⟨g, p * 5 + 2, none⟩ b2).setCell ⟨g, p * 5 + 3, none⟩ b3).setCell ⟨g, p * 5 + 4, none⟩ b4).setCell ⟨g, q * 5, none⟩ a0).setCell ⟨g, q * 5 + 1, none⟩ a1).setCell ⟨g, q * 5 + 2, none⟩ a2).setCell ⟨g, q * 5 + 3, none⟩ a3).setCell ⟨g, q * 5 + 4, none⟩ a4) g').ownsRow base T 5 (.slice (some ⟨g, 0, none⟩) n cap) n
      ((((((((((xs.set (p * 5) b0).set (p * 5 + 1) b1).set (p * 5 + 2) b2).set (p * 5 + 3) b3).set (p * 5 + 4) b4).set (q * 5) a0).set (q * 5 + 1) a1).set (q * 5 + 2) a2).set (q * 5 + 3) a3).set (q * 5 + 4) a4) ∧
    w.grownBy (xt ((((((((((w.setCell ⟨g, p * 5, none⟩ b0).setCell ⟨g, p * 5 + 1, none⟩ b1).setCell ⟨g, p * 5 + 2, none⟩ b2).setCell ⟨g, p * 5 + 3, none⟩ b3).setCell ⟨g, p * 5 + 4, none⟩ b4).setCell ⟨g, q * 5, none⟩ a0).setCell ⟨g, q * 5 + 1, none⟩ a1).setCell ⟨g, q * 5 + 2, none⟩ a2).setCell ⟨g, q * 5 + 3, none⟩ a3).setCell ⟨g, q * 5 + 4, none⟩ a4) g') (some g) := by
  have h0 := h.stored (p * 5) b0
  have h1 := h0.1.stored (p * 5 + 1) b1
  have h2 := h1.1.stored (p * 5 + 2) b2
  have h3 := h2.1.stored (p * 5 + 3) b3
  have h4 := h3.1.stored (p * 5 + 4) b4
  have h5 := h4.1.stored (q * 5) a0
  have h6 := h5.1.stored (q * 5 + 1) a1
  have h7 := h6.1.stored (q * 5 + 2) a2
  have h8 := h7.1.stored (q * 5 + 3) a3
  have h9 := h8.1.stored (q * 5 + 4) a4
  refine ⟨own_xt h9.1 _, grown_below (grown_two (grown_two (grown_two (grown_two (grown_two (grown_two (grown_two (grown_two (grown_two h0.2 h1.2) h2.2) h3.2) h4.2) h5.2) h6.2) h7.2) h8.2) h9.2) ?_⟩
  exact Below.xt (Below.refl _ _) (Nat.le_refl _) _

set_option maxRecDepth 100000 in
set_option maxHeartbeats 6400000 in
theorem insR_any (g n cap base : Nat) (f : Nat → Sp) (a b : Nat) (w : World) (hown : w.ownsRow base 35 5 (.slice (some ⟨g, 0, none⟩) n cap) n (rowS f n)) (hok : ∀ i, (f i).ok) (h1 : a ≤ b) (h3 : b ≤ n) (hn : n ≤ 4294967296) (hr : Ris f a b) :
    Calls Try.prog 51 #[.slice (some ⟨g, 0, none⟩) n cap, .int .i64 (a : Int), .int .i64 (b : Int), .func (.func 40) #[] #[]] w (Merges g n cap base f a b w) := by
  have HO := Lib.hid hown
  have HF := Lib.hid hok
  have HRI := Lib.hid hr
  have han : a ≤ n := by omega
  clear hown hok hr
  go_enter Try.func51, Try.ntmps51
  go_wp2_with fail
  go_loopw [8] (fun i wr => ∃ (k : Nat) (f1 : Nat → Sp), Hid (a + 1 ≤ k ∧ (k ≤ b ∨ k = a + 1)) ∧ i = .int .i64 k ∧ Hid (Mrg f a (min k b) f1) ∧ Hid (w.grownBy wr (some g)) ∧ Hid (wr.ownsRow base 35 5 (.slice (some ⟨g, 0, none⟩) n cap) n (rowS f1 n))) (fun i _ => b - (intOf i).toNat)
  case atStart => exact ⟨a + 1, f, Lib.hid ⟨Nat.le_refl _, .inr rfl⟩, by go_num, Lib.hid ⟨Same.refl _ _ _, SrtD.one (by omega)⟩, Lib.hid (World.grownBy.refl _ _), HO⟩
  case round =>
    clear HO
    obtain ⟨k, f1, HK, rfl, HM, HG, HR⟩ := hrel
    obtain ⟨k1, k2⟩ := HK.out
    by_cases hlt : k < b
    · have HF1 := Lib.hid (HM.out.same.all HF.out)
      have HM1 := Lib.hid (show Mrg f a k f1 by have := HM.out; rwa [show min k b = k by omega] at this)
      have hkn : k < n := by omega
      obtain ⟨sA, hsA⟩ : ∃ s, f1 k = s := ⟨_, rfl⟩
      have HSA := Lib.hid hsA
      have HAok := HF1.out k
      rw [hsA] at HAok
      have HAo := Lib.hid HAok
      clear hsA HAok HM
      obtain ⟨wo, rfl⟩ : ∃ wo : World, wo = wr := ⟨_, rfl⟩
      go_wp2_with fail
      go_loopw [9] (fun i wr => ∃ j : Nat, Hid (a ≤ j ∧ j ≤ k) ∧ i = .int .i64 j ∧ Hid (∀ i, j ≤ i → i < k → (f1 i).d < sA.d) ∧ Hid (w.grownBy wr (some g)) ∧ Hid (wr.ownsRow base 35 5 (.slice (some ⟨g, 0, none⟩) n cap) n (rowS (rot f1 j k (k + 1)) n))) (fun i _ => (intOf i).toNat)
      case atStart => exact ⟨k, Lib.hid ⟨by omega, Nat.le_refl _⟩, rfl, Lib.hid (fun i h1 h2 => absurd h2 (by omega)), HG, by rw [rot_id (by omega) (by omega) (.inl rfl)]; exact HR⟩
      case round =>
        clear HG HR
        obtain ⟨j, HJ, rfl, HD, HG, HR⟩ := hrel
        obtain ⟨j1, j2⟩ := HJ.out
        by_cases hj0 : a < j
        · have d20 : decide ((a : Int) < (j : Int)) = true := by simp; omega
          have d20' : decide (a < j) = true := by simp; omega
          obtain ⟨q, hq⟩ : ∃ q, j - 1 = q := ⟨_, rfl⟩
          have hq1 : q + 1 = j := by omega
          have w3 : IntKind.i64.wrap ((j : Int) - 1) = (q : Int) := by rw [show (q : Int) = (j : Int) - 1 by omega]; exact IntWalk.i64_in _ (by omega)
          have HT := Lib.hid (show ex (rot f1 j k (k + 1)) j q = rot f1 q k (k + 1) by rw [← hq1]; exact rot_dn (by omega))
          have eA : rot f1 j k (k + 1) j = sA := by rw [rot_1 (Nat.le_refl _) (by omega), show k + (j - j) = k by omega]; exact HSA.out
          have eB : rot f1 j k (k + 1) q = f1 q := rot_lo (by omega)
          obtain ⟨sB, hsB⟩ : ∃ s, f1 q = s := ⟨_, rfl⟩
          rw [hsB] at eB
          have HSB := Lib.hid hsB
          have HBo := HF1.out q
          rw [hsB] at HBo
          obtain ⟨p3, p4⟩ := HBo
          obtain ⟨p5, p6⟩ := HAo.out
          have CM := fun w => Lib.hid (cmp_any sA sB w HAo.out (by have := HF1.out q; rwa [hsB] at this))
          obtain ⟨h, hh⟩ : ∃ h, rot f1 j k (k + 1) = h := ⟨_, rfl⟩
          rw [hh] at HR HT eA eB
          have p1 : (0 : Int) ≤ (j : Int) := by omega
          have p2 : (j : Int) < (n : Int) := by omega
          have q1 : (0 : Int) ≤ (q : Int) := by omega
          have q2 : (q : Int) < (n : Int) := by omega
          have hpn : j < n := by omega
          have hqn : q < n := by omega
          obtain ⟨a0, a1, a2, a3, a4⟩ := own_cells HR.out hpn
          obtain ⟨b0, b1, b2, b3, b4⟩ := own_cells HR.out hqn
          have hog := own_old HR.out
          have HW := Lib.hid (flat_ex (f := h) hpn hqn (by omega))
          generalize h j = tA at *
          generalize h q = tB at *
          have z0 := HR.out.frozenAt (j * 5)
          have y0 := HR.out.frozenAt (q * 5)
          have z1 := HR.out.frozenAt (j * 5 + 1)
          have y1 := HR.out.frozenAt (q * 5 + 1)
          have z2 := HR.out.frozenAt (j * 5 + 2)
          have y2 := HR.out.frozenAt (q * 5 + 2)
          have z3 := HR.out.frozenAt (j * 5 + 3)
          have y3 := HR.out.frozenAt (q * 5 + 3)
          have z4 := HR.out.frozenAt (j * 5 + 4)
          have y4 := HR.out.frozenAt (q * 5 + 4)
          have hpq : j ≠ q := by omega
          have n00 : ¬ j * 5 = q * 5 := by omega
          have m00 : ¬ q * 5 = j * 5 := by omega
          have n01 : ¬ j * 5 = q * 5 + 1 := by omega
          have m01 : ¬ q * 5 + 1 = j * 5 := by omega
          have n02 : ¬ j * 5 = q * 5 + 2 := by omega
          have m02 : ¬ q * 5 + 2 = j * 5 := by omega
          have n03 : ¬ j * 5 = q * 5 + 3 := by omega
          have m03 : ¬ q * 5 + 3 = j * 5 := by omega
          have n04 : ¬ j * 5 = q * 5 + 4 := by omega
          have m04 : ¬ q * 5 + 4 = j * 5 := by omega
          have n10 : ¬ j * 5 + 1 = q * 5 := by omega
          have m10 : ¬ q * 5 = j * 5 + 1 := by omega
          have n11 : ¬ j * 5 + 1 = q * 5 + 1 := by omega
          have m11 : ¬ q * 5 + 1 = j * 5 + 1 := by omega
          have n12 : ¬ j * 5 + 1 = q * 5 + 2 := by omega
          have m12 : ¬ q * 5 + 2 = j * 5 + 1 := by omega
          have n13 : ¬ j * 5 + 1 = q * 5 + 3 := by omega
          have m13 : ¬ q * 5 + 3 = j * 5 + 1 := by omega
          have n14 : ¬ j * 5 + 1 = q * 5 + 4 := by omega
          have m14 : ¬ q * 5 + 4 = j * 5 + 1 := by omega
          have n20 : ¬ j * 5 + 2 = q * 5 := by omega
          have m20 : ¬ q * 5 = j * 5 + 2 := by omega
          have n21 : ¬ j * 5 + 2 = q * 5 + 1 := by omega
          have m21 : ¬ q * 5 + 1 = j * 5 + 2 := by omega
          have n22 : ¬ j * 5 + 2 = q * 5 + 2 := by omega
          have m22 : ¬ q * 5 + 2 = j * 5 + 2 := by omega
          have n23 : ¬ j * 5 + 2 = q * 5 + 3 := by omega
          have m23 : ¬ q * 5 + 3 = j * 5 + 2 := by omega
          have n24 : ¬ j * 5 + 2 = q * 5 + 4 := by omega
          have m24 : ¬ q * 5 + 4 = j * 5 + 2 := by omega
          have n30 : ¬ j * 5 + 3 = q * 5 := by omega
          have m30 : ¬ q * 5 = j * 5 + 3 := by omega
          have n31 : ¬ j * 5 + 3 = q * 5 + 1 := by omega
          have m31 : ¬ q * 5 + 1 = j * 5 + 3 := by omega
          have n32 : ¬ j * 5 + 3 = q * 5 + 2 := by omega
          have m32 : ¬ q * 5 + 2 = j * 5 + 3 := by omega
          have n33 : ¬ j * 5 + 3 = q * 5 + 3 := by omega
          have m33 : ¬ q * 5 + 3 = j * 5 + 3 := by omega
          have n34 : ¬ j * 5 + 3 = q * 5 + 4 := by omega
          have m34 : ¬ q * 5 + 4 = j * 5 + 3 := by omega
          have n40 : ¬ j * 5 + 4 = q * 5 := by omega
          have m40 : ¬ q * 5 = j * 5 + 4 := by omega
          have n41 : ¬ j * 5 + 4 = q * 5 + 1 := by omega
          have m41 : ¬ q * 5 + 1 = j * 5 + 4 := by omega
          have n42 : ¬ j * 5 + 4 = q * 5 + 2 := by omega
          have m42 : ¬ q * 5 + 2 = j * 5 + 4 := by omega
          have n43 : ¬ j * 5 + 4 = q * 5 + 3 := by omega
          have m43 : ¬ q * 5 + 3 = j * 5 + 4 := by omega
          have n44 : ¬ j * 5 + 4 = q * 5 + 4 := by omega
          have m44 : ¬ q * 5 + 4 = j * 5 + 4 := by omega
          subst eA eB
          have HQ := Lib.hid (show a ≤ q ∧ q ≤ k ∧ q < j by omega)
          have HJ0 := Lib.hid hj0
          have HQ1 := Lib.hid hq1
          have HHH := Lib.hid hh
          clear hsB hh hq hq1 hj0
          by_cases hlt2 : tB.d < tA.d
          · skip
            --A{
            have e1 : decide (tB.d - tA.d < 0) = true := by simp; omega
            (go_wp2_with fail; refine wp_region_xt (by kernel_rfl) (by kernel_rfl) ?_; (repeat (go_big_quiet_step (first | (go_at_call 40; exact RetB.quiet (CM _).out)))); refine wpQuiet_nil ?_; intro g1; go_wp2_with fail)
            go_region
            go_wp2_with fail
            obtain ⟨q1', q2'⟩ := storedPX (g' := ⟨g1.blocks, g1.drawn + 1⟩) HR.out (.int .i64 tB.ix) (.int .i64 tB.x) (.int .i64 tB.y) (.int .i64 tB.r) (.int .i64 tB.d) (.int .i64 tA.ix) (.int .i64 tA.x) (.int .i64 tA.y) (.int .i64 tA.r) (.int .i64 tA.d) j q
            rw [HW.out, HT.out] at q1'
            refine ⟨⟨q, Lib.hid ⟨HQ.out.1, HQ.out.2.1⟩, rfl, Lib.hid (fun i h1 h2 => ?_), Lib.hid (grown_two HG.out q2'), Lib.hid q1'⟩, by have := HQ.out; simp [intOf]; omega⟩
            by_cases e : i = q
            · rw [e, HSB.out]; exact hlt2
            · exact HD.out i (by have := HQ1.out; omega) h2
            --A}
          · skip
            --B{
            have e1 : decide (tB.d - tA.d < 0) = false := by simp; omega
            have HE := Lib.hid (show Mrg f a (min (k + 1) b) h from by
              rw [show min (k + 1) b = k + 1 by omega, ← HHH.out]
              exact mrg_ins HRI.out HM1.out j1 j2 hlt (fun i h1 h2 => by rw [HSA.out]; exact HD.out i h1 h2) (.inr (by rw [show j - 1 = q by have := HQ1.out; omega, HSB.out, HSA.out]; exact hlt2)))
            have HK2 := Lib.hid (show a + 1 ≤ k + 1 ∧ (k + 1 ≤ b ∨ k + 1 = a + 1) by omega)
            (go_wp2_with fail; refine wp_region_xt (by kernel_rfl) (by kernel_rfl) ?_; (repeat (go_big_quiet_step (first | (go_at_call 40; exact RetB.quiet (CM _).out)))); refine wpQuiet_nil ?_; intro g1; go_wp2_with fail)
            go_roundw
            case rel => exact ⟨k + 1, h, HK2, by go_num, HE, Lib.hid (grown_below HG.out (by repeat' (first | exact Below.refl _ _ | assumption | refine Below.xt ?_ ?_ _ | refine Below.alloc ?_ ?_ _ | refine Below.drew ?_ | refine Below.setCell ?_ ?_ _ | (simp; done) | (simp; omega)))), Lib.hid (own_xt HR.out _)⟩
            case measure => simp [intOf]; omega
            --B}
        · skip
          --C{
          obtain rfl : j = a := by omega
          have HE := Lib.hid (show Mrg f j (min (k + 1) b) (rot f1 j k (k + 1)) from by
            rw [show min (k + 1) b = k + 1 by omega]
            exact mrg_ins HRI.out HM1.out j1 j2 hlt (fun i h1 h2 => by rw [HSA.out]; exact HD.out i h1 h2) (.inl rfl))
          have HK2 := Lib.hid (show j + 1 ≤ k + 1 ∧ (k + 1 ≤ b ∨ k + 1 = j + 1) by omega)
          have d20 : decide ((j : Int) < (j : Int)) = false := by simp
          have d20' : decide (j < j) = false := by simp
          go_wp2_with fail
          refine wp_region_xt (by kernel_rfl) (by kernel_rfl) ?_
          repeat (go_big_quiet_step (fail))
          refine wpQuiet_nil ?_
          intro g1
          go_wp2_with fail
          go_roundw
          case rel => exact ⟨k + 1, _, HK2, by go_num, HE, Lib.hid (grown_below HG.out (by repeat' (first | exact Below.refl _ _ | assumption | refine Below.xt ?_ ?_ _ | refine Below.alloc ?_ ?_ _ | refine Below.drew ?_ | refine Below.setCell ?_ ?_ _ | (simp; done) | (simp; omega)))), Lib.hid (own_xt HR.out _)⟩
          case measure => simp [intOf]; omega
          --C}
    · skip
      --D{
      have HE := Lib.hid (show Mrg f a b f1 by have := HM.out; rwa [show min k b = b by omega] at this)
      have d1 : decide ((k : Int) < (b : Int)) = false := by simp; omega
      have d1' : decide (k < b) = false := by simp; omega
      go_wp2_with fail
      go_end0
      exact ⟨_, HE.out, rfl, HG.out, HR.out⟩
      --D}

end Go.Proofs.Ytjeemlnhokihoaa

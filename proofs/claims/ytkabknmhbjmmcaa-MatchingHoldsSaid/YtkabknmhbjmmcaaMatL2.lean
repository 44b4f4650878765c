/- Walk of the law MatchingChecks. Conditions stand in each theorem. -/
import Derived.Test.YtkabknmhbjmmcaaMatL1
namespace Go.Proofs.Ytkabknmhbjmmcaa
open Go.RowKit
set_option linter.unusedVariables false
set_option linter.unusedSimpArgs false

set_option maxRecDepth 100000 in
set_option maxHeartbeats 3200000 in
theorem MatchingChecks_walk (A : Option Addr) (nL cap : Nat) (R : Int) (M : Option Addr) (k0 c0 : Nat) (L0 : Option Addr) (kl cl0 : Nat) (R0 : Option Addr) (kr cr0 : Nat) (W : World) (og : GraphOk W A nL cap R) (om : IntsOk W M k0 c0) (ocl : IntsOk W L0 kl cl0) (ocr : IntsOk W R0 kr cr0) :
    Calls Try.prog 4 #[.agg #[.slice A nL cap, .int .i64 R], .slice M k0 c0, .agg #[.slice L0 kl cl0, .slice R0 kr cr0]] W (RetB (.bool true) W) := by
  obtain ⟨G, g1, g2, g3, g4, g5⟩ := og
  obtain ⟨m, rfl, m2, m3, m4, m5⟩ := om
  obtain ⟨cl, rfl, l2, l3, l4, l5⟩ := ocl
  obtain ⟨cr, rfl, r2, r3, r4, r5⟩ := ocr
  have CS := fun w h => small_any A nL cap 20 R G w g1 (fun i hi => (g2 i hi).1) h
  have HG := Lib.hid g3
  have HM := Lib.hid m5
  have HL := Lib.hid l5
  have HR := Lib.hid r5
  unfold maxLen at m2 l2 r2
  clear g3 m4 m5 l4 l5 r4 r5
  rcases Bool.eq_false_or_eq_true (smB G nL 20) with s1 | s1
  · obtain ⟨b1, b2⟩ := smB_len s1 (by omega)
    rw [s1] at CS
    have HS := fun w h => Lib.hid (CS w h)
    by_cases hml : m.length ≤ 25 ∧ cl.length ≤ 25 ∧ cr.length ≤ 25
    · obtain ⟨hm1, hm2, hm3⟩ := hml
      have C1 := fun w h => refValid_any A nL cap R G w b1 b2 h
      have C2 := fun w h h1 h2 h3 => Check_any A M L0 R0 nL cap m.length c0 cl.length cl0 cr.length cr0 R G m cl cr w b1 b2 h rfl (by omega) h1 rfl (by omega) h2 rfl (by omega) h3
      have C3 := fun w h h1 h2 h3 => refProves_any A M L0 R0 nL cap m.length c0 cl.length cl0 cr.length cr0 R G m cl cr w b1 b2 h rfl (by omega) m3 h1 rfl (by omega) h2 rfl (by omega) h3
      have d0 : decide ((25 : Int) < (m.length : Int)) = false := by simp; omega
      have d1 : decide ((25 : Int) < (cl.length : Int)) = false := by simp; omega
      have d2 : decide ((25 : Int) < (cr.length : Int)) = false := by simp; omega
      have hc : chV G nL R m cl cr = if vld G nL R then (if prvB G nL R m cl cr then 0 else 10) else 2 := by unfold chV prE; rfl
      clear g2 b1 b2 s1 CS
      rcases Bool.eq_false_or_eq_true (vld G nL R) with hv | hv
      · rcases Bool.eq_false_or_eq_true (prvB G nL R m cl cr) with hp | hp
        · rw [hc, hv, hp] at C2
          rw [hv] at C1
          rw [hp] at C3
          have H1 := fun w h => Lib.hid (C1 w h)
          have H2 := fun w h h1 h2 h3 => Lib.hid (show Calls Try.prog 15 _ w (RetB (.int .i64 0) w) from C2 w h h1 h2 h3)
          have H3 := fun w h h1 h2 h3 => Lib.hid (C3 w h h1 h2 h3)
          clear C1 C2 C3 hv hp hc
          (go_enter Try.func4, Try.ntmps4; go_wp2_with (first | (go_at_call 9; refine (RetB.grown (HS _ (by repeat (first | exact HG.out | refine GRow.xt ?_ _ | refine GRow.alloc ?_ _ | refine GRow.drew ?_))).out).mono ?_; rintro e' w' ⟨rfl, g, rfl⟩) | (go_at_call 11; refine (RetB.grown (H1 _ (by repeat (first | exact HG.out | refine GRow.xt ?_ _ | refine GRow.alloc ?_ _ | refine GRow.drew ?_))).out).mono ?_; rintro e' w' ⟨rfl, g, rfl⟩) | (go_at_call 15; refine (RetB.grown (H2 _ (by repeat (first | exact HG.out | refine GRow.xt ?_ _ | refine GRow.alloc ?_ _ | refine GRow.drew ?_)) (by repeat (first | exact HM.out | refine RowI.xt ?_ _ | refine RowI.alloc ?_ _ | refine RowI.drew ?_)) (by repeat (first | exact HL.out | refine RowI.xt ?_ _ | refine RowI.alloc ?_ _ | refine RowI.drew ?_)) (by repeat (first | exact HR.out | refine RowI.xt ?_ _ | refine RowI.alloc ?_ _ | refine RowI.drew ?_))).out).mono ?_; rintro e' w' ⟨rfl, g, rfl⟩) | (go_at_call 16; refine (RetB.grown (H3 _ (by repeat (first | exact HG.out | refine GRow.xt ?_ _ | refine GRow.alloc ?_ _ | refine GRow.drew ?_)) (by repeat (first | exact HM.out | refine RowI.xt ?_ _ | refine RowI.alloc ?_ _ | refine RowI.drew ?_)) (by repeat (first | exact HL.out | refine RowI.xt ?_ _ | refine RowI.alloc ?_ _ | refine RowI.drew ?_)) (by repeat (first | exact HR.out | refine RowI.xt ?_ _ | refine RowI.alloc ?_ _ | refine RowI.drew ?_))).out).mono ?_; rintro e' w' ⟨rfl, g, rfl⟩) | (go_at_call 10; refine (RetB.grown (known_any _)).mono ?_; rintro e' w' ⟨rfl, g, rfl⟩)); go_ret; exact RetB.of rfl (by repeat' (first | exact Below.refl _ _ | assumption | refine Below.xt ?_ ?_ _ | refine Below.alloc ?_ ?_ _ | refine Below.drew ?_ | refine Below.setCell ?_ ?_ _ | (simp; done) | (simp; omega))))
        · rw [hc, hv, hp] at C2
          rw [hv] at C1
          rw [hp] at C3
          have H1 := fun w h => Lib.hid (C1 w h)
          have H2 := fun w h h1 h2 h3 => Lib.hid (show Calls Try.prog 15 _ w (RetB (.int .i64 10) w) from C2 w h h1 h2 h3)
          have H3 := fun w h h1 h2 h3 => Lib.hid (C3 w h h1 h2 h3)
          clear C1 C2 C3 hv hp hc
          (go_enter Try.func4, Try.ntmps4; go_wp2_with (first | (go_at_call 9; refine (RetB.grown (HS _ (by repeat (first | exact HG.out | refine GRow.xt ?_ _ | refine GRow.alloc ?_ _ | refine GRow.drew ?_))).out).mono ?_; rintro e' w' ⟨rfl, g, rfl⟩) | (go_at_call 11; refine (RetB.grown (H1 _ (by repeat (first | exact HG.out | refine GRow.xt ?_ _ | refine GRow.alloc ?_ _ | refine GRow.drew ?_))).out).mono ?_; rintro e' w' ⟨rfl, g, rfl⟩) | (go_at_call 15; refine (RetB.grown (H2 _ (by repeat (first | exact HG.out | refine GRow.xt ?_ _ | refine GRow.alloc ?_ _ | refine GRow.drew ?_)) (by repeat (first | exact HM.out | refine RowI.xt ?_ _ | refine RowI.alloc ?_ _ | refine RowI.drew ?_)) (by repeat (first | exact HL.out | refine RowI.xt ?_ _ | refine RowI.alloc ?_ _ | refine RowI.drew ?_)) (by repeat (first | exact HR.out | refine RowI.xt ?_ _ | refine RowI.alloc ?_ _ | refine RowI.drew ?_))).out).mono ?_; rintro e' w' ⟨rfl, g, rfl⟩) | (go_at_call 16; refine (RetB.grown (H3 _ (by repeat (first | exact HG.out | refine GRow.xt ?_ _ | refine GRow.alloc ?_ _ | refine GRow.drew ?_)) (by repeat (first | exact HM.out | refine RowI.xt ?_ _ | refine RowI.alloc ?_ _ | refine RowI.drew ?_)) (by repeat (first | exact HL.out | refine RowI.xt ?_ _ | refine RowI.alloc ?_ _ | refine RowI.drew ?_)) (by repeat (first | exact HR.out | refine RowI.xt ?_ _ | refine RowI.alloc ?_ _ | refine RowI.drew ?_))).out).mono ?_; rintro e' w' ⟨rfl, g, rfl⟩) | (go_at_call 10; refine (RetB.grown (known_any _)).mono ?_; rintro e' w' ⟨rfl, g, rfl⟩)); go_ret; exact RetB.of rfl (by repeat' (first | exact Below.refl _ _ | assumption | refine Below.xt ?_ ?_ _ | refine Below.alloc ?_ ?_ _ | refine Below.drew ?_ | refine Below.setCell ?_ ?_ _ | (simp; done) | (simp; omega))))
      · rw [hc, hv] at C2
        rw [hv] at C1
        have H1 := fun w h => Lib.hid (C1 w h)
        have H2 := fun w h h1 h2 h3 => Lib.hid (show Calls Try.prog 15 _ w (RetB (.int .i64 2) w) from C2 w h h1 h2 h3)
        have H3 := fun w h h1 h2 h3 => Lib.hid (C3 w h h1 h2 h3)
        clear C1 C2 C3 hv hc
        (go_enter Try.func4, Try.ntmps4; go_wp2_with (first | (go_at_call 9; refine (RetB.grown (HS _ (by repeat (first | exact HG.out | refine GRow.xt ?_ _ | refine GRow.alloc ?_ _ | refine GRow.drew ?_))).out).mono ?_; rintro e' w' ⟨rfl, g, rfl⟩) | (go_at_call 11; refine (RetB.grown (H1 _ (by repeat (first | exact HG.out | refine GRow.xt ?_ _ | refine GRow.alloc ?_ _ | refine GRow.drew ?_))).out).mono ?_; rintro e' w' ⟨rfl, g, rfl⟩) | (go_at_call 15; refine (RetB.grown (H2 _ (by repeat (first | exact HG.out | refine GRow.xt ?_ _ | refine GRow.alloc ?_ _ | refine GRow.drew ?_)) (by repeat (first | exact HM.out | refine RowI.xt ?_ _ | refine RowI.alloc ?_ _ | refine RowI.drew ?_)) (by repeat (first | exact HL.out | refine RowI.xt ?_ _ | refine RowI.alloc ?_ _ | refine RowI.drew ?_)) (by repeat (first | exact HR.out | refine RowI.xt ?_ _ | refine RowI.alloc ?_ _ | refine RowI.drew ?_))).out).mono ?_; rintro e' w' ⟨rfl, g, rfl⟩) | (go_at_call 16; refine (RetB.grown (H3 _ (by repeat (first | exact HG.out | refine GRow.xt ?_ _ | refine GRow.alloc ?_ _ | refine GRow.drew ?_)) (by repeat (first | exact HM.out | refine RowI.xt ?_ _ | refine RowI.alloc ?_ _ | refine RowI.drew ?_)) (by repeat (first | exact HL.out | refine RowI.xt ?_ _ | refine RowI.alloc ?_ _ | refine RowI.drew ?_)) (by repeat (first | exact HR.out | refine RowI.xt ?_ _ | refine RowI.alloc ?_ _ | refine RowI.drew ?_))).out).mono ?_; rintro e' w' ⟨rfl, g, rfl⟩) | (go_at_call 10; refine (RetB.grown (known_any _)).mono ?_; rintro e' w' ⟨rfl, g, rfl⟩)); go_ret; exact RetB.of rfl (by repeat' (first | exact Below.refl _ _ | assumption | refine Below.xt ?_ ?_ _ | refine Below.alloc ?_ ?_ _ | refine Below.drew ?_ | refine Below.setCell ?_ ?_ _ | (simp; done) | (simp; omega))))
    · have hml' : 25 < m.length ∨ (m.length ≤ 25 ∧ (25 < cl.length ∨ (cl.length ≤ 25 ∧ 25 < cr.length))) := by omega
      clear CS g2 b1 b2 s1 hml
      rcases hml' with h | ⟨h0, h | ⟨h1, h⟩⟩
      · have d0 : decide ((25 : Int) < (m.length : Int)) = true := by simp; omega
        (go_enter Try.func4, Try.ntmps4; go_wp2_with (first | (go_at_call 9; refine (RetB.grown (HS _ (by repeat (first | exact HG.out | refine GRow.xt ?_ _ | refine GRow.alloc ?_ _ | refine GRow.drew ?_))).out).mono ?_; rintro e' w' ⟨rfl, g, rfl⟩) | (go_at_call 10; refine (RetB.grown (known_any _)).mono ?_; rintro e' w' ⟨rfl, g, rfl⟩)); go_ret; exact RetB.of rfl (by repeat' (first | exact Below.refl _ _ | assumption | refine Below.xt ?_ ?_ _ | refine Below.alloc ?_ ?_ _ | refine Below.drew ?_ | refine Below.setCell ?_ ?_ _ | (simp; done) | (simp; omega))))
      · have d0 : decide ((25 : Int) < (m.length : Int)) = false := by simp; omega
        have d1 : decide ((25 : Int) < (cl.length : Int)) = true := by simp; omega
        (go_enter Try.func4, Try.ntmps4; go_wp2_with (first | (go_at_call 9; refine (RetB.grown (HS _ (by repeat (first | exact HG.out | refine GRow.xt ?_ _ | refine GRow.alloc ?_ _ | refine GRow.drew ?_))).out).mono ?_; rintro e' w' ⟨rfl, g, rfl⟩) | (go_at_call 10; refine (RetB.grown (known_any _)).mono ?_; rintro e' w' ⟨rfl, g, rfl⟩)); go_ret; exact RetB.of rfl (by repeat' (first | exact Below.refl _ _ | assumption | refine Below.xt ?_ ?_ _ | refine Below.alloc ?_ ?_ _ | refine Below.drew ?_ | refine Below.setCell ?_ ?_ _ | (simp; done) | (simp; omega))))
      · have d0 : decide ((25 : Int) < (m.length : Int)) = false := by simp; omega
        have d1 : decide ((25 : Int) < (cl.length : Int)) = false := by simp; omega
        have d2 : decide ((25 : Int) < (cr.length : Int)) = true := by simp; omega
        (go_enter Try.func4, Try.ntmps4; go_wp2_with (first | (go_at_call 9; refine (RetB.grown (HS _ (by repeat (first | exact HG.out | refine GRow.xt ?_ _ | refine GRow.alloc ?_ _ | refine GRow.drew ?_))).out).mono ?_; rintro e' w' ⟨rfl, g, rfl⟩) | (go_at_call 10; refine (RetB.grown (known_any _)).mono ?_; rintro e' w' ⟨rfl, g, rfl⟩)); go_ret; exact RetB.of rfl (by repeat' (first | exact Below.refl _ _ | assumption | refine Below.xt ?_ ?_ _ | refine Below.alloc ?_ ?_ _ | refine Below.drew ?_ | refine Below.setCell ?_ ?_ _ | (simp; done) | (simp; omega))))
  · rw [s1] at CS
    have HS := fun w h => Lib.hid (CS w h)
    clear CS g2 s1
    (go_enter Try.func4, Try.ntmps4; go_wp2_with (first | (go_at_call 9; refine (RetB.grown (HS _ (by repeat (first | exact HG.out | refine GRow.xt ?_ _ | refine GRow.alloc ?_ _ | refine GRow.drew ?_))).out).mono ?_; rintro e' w' ⟨rfl, g, rfl⟩) | (go_at_call 10; refine (RetB.grown (known_any _)).mono ?_; rintro e' w' ⟨rfl, g, rfl⟩)); go_ret; exact RetB.of rfl (by repeat' (first | exact Below.refl _ _ | assumption | refine Below.xt ?_ ?_ _ | refine Below.alloc ?_ ?_ _ | refine Below.drew ?_ | refine Below.setCell ?_ ?_ _ | (simp; done) | (simp; omega))))
end Go.Proofs.Ytkabknmhbjmmcaa

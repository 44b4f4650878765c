
/- The law on which proofs prove that an assignment is best: its walk. Conditions stand in each theorem. -/
import Derived.Test.YtjiknjcmfiapjaaBotKn
import Derived.Test.YtjiknjcmfiapjaaBotO
namespace Go.Proofs.Ytjiknjcmfiapjaa
open Go.RowKit
set_option linter.unusedVariables false
set_option linter.unusedSimpArgs false

theorem smB_iff' {G : Nat → List Int} {n m : Nat} : smB G n m = true ↔ (∀ j, j < n → (G j).length ≤ m) ∧ n ≤ m := smB_iff
set_option maxRecDepth 100000 in
set_option maxHeartbeats 6400000 in
theorem BottleneckChecks_walk (cA : Option Addr) (cN cC : Nat) (aA : Option Addr) (aN aC : Nat) (ag as_ : Int) (pA : Option Addr) (pN pC : Nat) (pA' : Option Addr) (pN' pC' : Nat) (pA2 : Option Addr) (pN2 pC2 : Nat) (pA3 : Option Addr) (pN3 pC3 : Nat) (W : World)
    (oc : CostsOk W cA cN cC) (oa : IntsOk W aA aN aC) (o0 : IntsOk W pA pN pC) (o1 : IntsOk W pA' pN' pC') (o2 : IntsOk W pA2 pN2 pC2) (o3 : IntsOk W pA3 pN3 pC3) :
    Calls Try.prog 3 #[.slice cA cN cC, .agg #[.slice aA aN aC, .int .i64 ag, .int .i64 as_], .agg #[.slice pA pN pC, .slice pA' pN' pC', .slice pA2 pN2 pC2, .slice pA3 pN3 pC3]] W (RetB (.bool true) W) := by
  obtain ⟨G, hcm, hcl, hcg, _⟩ := oc
  obtain ⟨of, ea, ma, ca, _, ra, za⟩ := oa
  obtain ⟨cl, e0, m0, _, _, r0, _⟩ := o0
  obtain ⟨cr, e1, m1, _, _, r1, _⟩ := o1
  obtain ⟨u, e2, m2, _, iu, r2, _⟩ := o2
  obtain ⟨v, e3, m3, _, iv, r3, _⟩ := o3
  have HG := Lib.hid hcg
  obtain ⟨sb, hsb⟩ : ∃ b, smB G cN 10 = b := ⟨_, rfl⟩
  have C0 := Lib.hid (show Calls Try.prog 8 #[.slice cA cN cC, .int .i64 10] ((W.alloc (.cells #[.slice aA aN aC, .int .i64 ag, .int .i64 as_] 25)).alloc (.cells #[.slice pA pN pC, .slice pA' pN' pC', .slice pA2 pN2 pC2, .slice pA3 pN3 pC3] 29)) (Ret (.bool sb) ((W.alloc (.cells #[.slice aA aN aC, .int .i64 ag, .int .i64 as_] 25)).alloc (.cells #[.slice pA pN pC, .slice pA' pN' pC', .slice pA2 pN2 pC2, .slice pA3 pN3 pC3] 29))) by rw [← hsb]; exact bsmall_any cA cN cC 10 G _ hcm (fun i hi => (hcl i hi).1) ((hcg.alloc _).alloc _))
  have HE := Lib.hid (show aN = of.length ∧ pN = cl.length ∧ pN' = cr.length ∧ pN2 = u.length ∧ pN3 = v.length from ⟨ea, e0, e1, e2, e3⟩)
  have HRr := Lib.hid (show RowI W aA of ∧ RowI W pA cl ∧ RowI W pA' cr ∧ RowI W pA2 u ∧ RowI W pA3 v from ⟨ra, r0, r1, r2, r3⟩)
  have HU := Lib.hid iu
  have HV := Lib.hid iv
  have HZ := Lib.hid za
  have HSB := Lib.hid hsb
  unfold maxLen at ma m0 m1 m2 m3
  have hmx : cN ≤ 9223372036854775807 := by unfold maxLen at hcm; omega
  clear hcg hcl ea e0 e1 e2 e3 ra r0 r1 r2 r3 iu iv za hsb hcm
  cases sb with
  | false =>
    go_enter Try.func3, Try.ntmps3
    go_wp2_with (first | (go_at_call 8; refine C0.out.mono ?_; rintro e' w' ⟨rfl, rfl⟩) | (go_at_call 9; refine (RetB.grown (known_any _)).mono ?_; rintro e' w' ⟨rfl, gk, rfl⟩))
    go_ret; exact ⟨rfl, (by repeat' (first | exact Below.refl _ _ | assumption | refine Below.xt ?_ ?_ _ | refine Below.alloc ?_ ?_ _ | refine Below.drew ?_ | refine Below.setCell ?_ ?_ _ | (simp; done) | (simp; omega)))⟩
  | true =>
    by_cases ha : aN ≤ 12
    · have d0 : decide (12 < aN) = false := by simpa using ha
      by_cases h2 : pN2 ≤ 12
      · have d2 : decide (12 < pN2) = false := by simpa using h2
        by_cases h3 : pN3 ≤ 12
        · have d3 : decide (12 < pN3) = false := by simpa using h3
          by_cases h0 : pN ≤ 12
          · have d4 : decide (12 < pN) = false := by simpa using h0
            by_cases h1 : pN' ≤ 12
            · have d5 : decide (12 < pN') = false := by simpa using h1
              have hsm := smB_iff'.1 HSB.out
              have hcN := hsm.2
              have HSM := Lib.hid hsm.1
              have HAP := Lib.hid (show AP ((W.alloc (.cells #[.slice aA aN aC, .int .i64 ag, .int .i64 as_] 25)).alloc (.cells #[.slice pA pN pC, .slice pA' pN' pC', .slice pA2 pN2 pC2, .slice pA3 pN3 pC3] 29)) aA pA pA' pA2 pA3 aN aC pN pN' pN2 pN3 of cl cr u v from (show AP W aA pA pA' pA2 pA3 aN aC pN pN' pN2 pN3 of cl cr u v from ⟨HE.out.1, HE.out.2.1, HE.out.2.2.1, HE.out.2.2.2.1, HE.out.2.2.2.2, by have := HE.out; omega, by have := HE.out; omega, by have := HE.out; omega, by have := HE.out; omega, by have := HE.out; omega, ca, HRr.out.1, HRr.out.2.1, HRr.out.2.2.1, HRr.out.2.2.2.1, HRr.out.2.2.2.2⟩).below (by repeat' (first | exact Below.refl _ _ | assumption | refine Below.xt ?_ ?_ _ | refine Below.alloc ?_ ?_ _ | refine Below.drew ?_ | refine Below.setCell ?_ ?_ _ | (simp; done) | (simp; omega))))
              have HG2 := Lib.hid (show GRow ((W.alloc (.cells #[.slice aA aN aC, .int .i64 ag, .int .i64 as_] 25)).alloc (.cells #[.slice pA pN pC, .slice pA' pN' pC', .slice pA2 pN2 pC2, .slice pA3 pN3 pC3] 29)) cA cN G from (HG.out.alloc _).alloc _)
              cases hv : cvd G cN with
              | false =>
                have C1 := Lib.hid (Check_no cA aA pA pA' pA2 pA3 cN cC aN aC pN pC pN' pC' pN2 pC2 pN3 pC3 G ag as_ ((W.alloc (.cells #[.slice aA aN aC, .int .i64 ag, .int .i64 as_] 25)).alloc (.cells #[.slice pA pN pC, .slice pA' pN' pC', .slice pA2 pN2 pC2, .slice pA3 pN3 pC3] 29)) (by omega) (fun i hi => by have := HSM.out i hi; omega) HG2.out hv)
                have C2 := Lib.hid (show ∀ g, Calls Try.prog 11 #[.slice cA cN cC] (xt ((W.alloc (.cells #[.slice aA aN aC, .int .i64 ag, .int .i64 as_] 25)).alloc (.cells #[.slice pA pN pC, .slice pA' pN' pC', .slice pA2 pN2 pC2, .slice pA3 pN3 pC3] 29)) g) (Ret (.bool false) (xt ((W.alloc (.cells #[.slice aA aN aC, .int .i64 ag, .int .i64 as_] 25)).alloc (.cells #[.slice pA pN pC, .slice pA' pN' pC', .slice pA2 pN2 pC2, .slice pA3 pN3 pC3] 29)) g)) from fun g => by rw [← hv]; exact rValid_any cA cN cC G _ (by omega) (fun i hi => by have := HSM.out i hi; omega) (HG2.out.xt g))
                clear hv hsm
                go_enter Try.func3, Try.ntmps3
                go_wp2_with (first | (go_at_call 8; refine C0.out.mono ?_; rintro e' w' ⟨rfl, rfl⟩) | (go_at_call 9; refine (RetB.grown (known_any _)).mono ?_; rintro e' w' ⟨rfl, gk, rfl⟩) | (go_at_call 10; refine (RetB.grown C1.out).mono ?_; rintro e' w' ⟨rfl, g1, rfl⟩) | (go_at_call 11; refine (C2.out _).mono ?_; rintro e' w' ⟨rfl, rfl⟩))
                go_ret; exact ⟨rfl, (by repeat' (first | exact Below.refl _ _ | assumption | refine Below.xt ?_ ?_ _ | refine Below.alloc ?_ ?_ _ | refine Below.drew ?_ | refine Below.setCell ?_ ?_ _ | (simp; done) | (simp; omega)))⟩
              | true =>
                have hC := cvd_iff.1 hv
                obtain ⟨pb, hpb⟩ : ∃ b, prvA G cN of ag as_ cl cr u v = b := ⟨_, rfl⟩
                have C1 := Lib.hid (show Calls Try.prog 10 #[.slice cA cN cC, .agg #[.slice aA aN aC, .int .i64 ag, .int .i64 as_], .agg #[.slice pA pN pC, .slice pA' pN' pC', .slice pA2 pN2 pC2, .slice pA3 pN3 pC3]] ((W.alloc (.cells #[.slice aA aN aC, .int .i64 ag, .int .i64 as_] 25)).alloc (.cells #[.slice pA pN pC, .slice pA' pN' pC', .slice pA2 pN2 pC2, .slice pA3 pN3 pC3] 29)) (RetB (.int .i64 (ckE pb)) ((W.alloc (.cells #[.slice aA aN aC, .int .i64 ag, .int .i64 as_] 25)).alloc (.cells #[.slice pA pN pC, .slice pA' pN' pC', .slice pA2 pN2 pC2, .slice pA3 pN3 pC3] 29))) by rw [← hpb]; exact Check_any cA aA pA pA' pA2 pA3 cN cC aN aC pN pC pN' pC' pN2 pC2 pN3 pC3 G of cl cr u v ag as_ ((W.alloc (.cells #[.slice aA aN aC, .int .i64 ag, .int .i64 as_] 25)).alloc (.cells #[.slice pA pN pC, .slice pA' pN' pC', .slice pA2 pN2 pC2, .slice pA3 pN3 pC3] 29)) HG2.out hv HAP.out HZ.out HU.out HV.out)
                have C2 := Lib.hid (show ∀ g, Calls Try.prog 11 #[.slice cA cN cC] (xt ((W.alloc (.cells #[.slice aA aN aC, .int .i64 ag, .int .i64 as_] 25)).alloc (.cells #[.slice pA pN pC, .slice pA' pN' pC', .slice pA2 pN2 pC2, .slice pA3 pN3 pC3] 29)) g) (Ret (.bool true) (xt ((W.alloc (.cells #[.slice aA aN aC, .int .i64 ag, .int .i64 as_] 25)).alloc (.cells #[.slice pA pN pC, .slice pA' pN' pC', .slice pA2 pN2 pC2, .slice pA3 pN3 pC3] 29)) g)) from fun g => by rw [← hv]; exact rValid_any cA cN cC G _ (by omega) (fun i hi => by have := HSM.out i hi; omega) (HG2.out.xt g))
                have C3 := Lib.hid (show ∀ g, Calls Try.prog 12 #[.slice cA cN cC, .agg #[.slice aA aN aC, .int .i64 ag, .int .i64 as_], .agg #[.slice pA pN pC, .slice pA' pN' pC', .slice pA2 pN2 pC2, .slice pA3 pN3 pC3]] (xt ((W.alloc (.cells #[.slice aA aN aC, .int .i64 ag, .int .i64 as_] 25)).alloc (.cells #[.slice pA pN pC, .slice pA' pN' pC', .slice pA2 pN2 pC2, .slice pA3 pN3 pC3] 29)) g) (RetB (.bool pb) (xt ((W.alloc (.cells #[.slice aA aN aC, .int .i64 ag, .int .i64 as_] 25)).alloc (.cells #[.slice pA pN pC, .slice pA' pN' pC', .slice pA2 pN2 pC2, .slice pA3 pN3 pC3] 29)) g)) from fun g => by rw [← hpb]; exact rProves_any cA aA pA pA' pA2 pA3 cN cC aN aC pN pC pN' pC' pN2 pC2 pN3 pC3 G of cl cr u v ag as_ _ (HG2.out.xt g) hC (HAP.out.below (below_xt _ g)))
                clear hv hsm hC hpb
                cases pb with
                | false =>
                  have C1' := Lib.hid (show Calls Try.prog 10 #[.slice cA cN cC, .agg #[.slice aA aN aC, .int .i64 ag, .int .i64 as_], .agg #[.slice pA pN pC, .slice pA' pN' pC', .slice pA2 pN2 pC2, .slice pA3 pN3 pC3]] ((W.alloc (.cells #[.slice aA aN aC, .int .i64 ag, .int .i64 as_] 25)).alloc (.cells #[.slice pA pN pC, .slice pA' pN' pC', .slice pA2 pN2 pC2, .slice pA3 pN3 pC3] 29)) (RetB (.int .i64 10) ((W.alloc (.cells #[.slice aA aN aC, .int .i64 ag, .int .i64 as_] 25)).alloc (.cells #[.slice pA pN pC, .slice pA' pN' pC', .slice pA2 pN2 pC2, .slice pA3 pN3 pC3] 29))) from C1.out)
                  clear C1
                  go_enter Try.func3, Try.ntmps3
                  go_wp2_with (first | (go_at_call 8; refine C0.out.mono ?_; rintro e' w' ⟨rfl, rfl⟩) | (go_at_call 9; refine (RetB.grown (known_any _)).mono ?_; rintro e' w' ⟨rfl, gk, rfl⟩) | (go_at_call 10; refine (RetB.grown C1'.out).mono ?_; rintro e' w' ⟨rfl, g1, rfl⟩) | (go_at_call 11; refine (C2.out _).mono ?_; rintro e' w' ⟨rfl, rfl⟩) | (go_at_call 12; refine (RetB.grown (C3.out _)).mono ?_; rintro e' w' ⟨rfl, g2, rfl⟩))
                  go_ret; exact ⟨rfl, (by repeat' (first | exact Below.refl _ _ | assumption | refine Below.xt ?_ ?_ _ | refine Below.alloc ?_ ?_ _ | refine Below.drew ?_ | refine Below.setCell ?_ ?_ _ | (simp; done) | (simp; omega)))⟩
                | true =>
                  have C1' := Lib.hid (show Calls Try.prog 10 #[.slice cA cN cC, .agg #[.slice aA aN aC, .int .i64 ag, .int .i64 as_], .agg #[.slice pA pN pC, .slice pA' pN' pC', .slice pA2 pN2 pC2, .slice pA3 pN3 pC3]] ((W.alloc (.cells #[.slice aA aN aC, .int .i64 ag, .int .i64 as_] 25)).alloc (.cells #[.slice pA pN pC, .slice pA' pN' pC', .slice pA2 pN2 pC2, .slice pA3 pN3 pC3] 29)) (RetB (.int .i64 0) ((W.alloc (.cells #[.slice aA aN aC, .int .i64 ag, .int .i64 as_] 25)).alloc (.cells #[.slice pA pN pC, .slice pA' pN' pC', .slice pA2 pN2 pC2, .slice pA3 pN3 pC3] 29))) from C1.out)
                  clear C1
                  go_enter Try.func3, Try.ntmps3
                  go_wp2_with (first | (go_at_call 8; refine C0.out.mono ?_; rintro e' w' ⟨rfl, rfl⟩) | (go_at_call 9; refine (RetB.grown (known_any _)).mono ?_; rintro e' w' ⟨rfl, gk, rfl⟩) | (go_at_call 10; refine (RetB.grown C1'.out).mono ?_; rintro e' w' ⟨rfl, g1, rfl⟩) | (go_at_call 11; refine (C2.out _).mono ?_; rintro e' w' ⟨rfl, rfl⟩) | (go_at_call 12; refine (RetB.grown (C3.out _)).mono ?_; rintro e' w' ⟨rfl, g2, rfl⟩))
                  go_ret; exact ⟨rfl, (by repeat' (first | exact Below.refl _ _ | assumption | refine Below.xt ?_ ?_ _ | refine Below.alloc ?_ ?_ _ | refine Below.drew ?_ | refine Below.setCell ?_ ?_ _ | (simp; done) | (simp; omega)))⟩
            · have d5 : decide (12 < pN') = true := by simpa using h1
              go_enter Try.func3, Try.ntmps3
              go_wp2_with (first | (go_at_call 8; refine C0.out.mono ?_; rintro e' w' ⟨rfl, rfl⟩) | (go_at_call 9; refine (RetB.grown (known_any _)).mono ?_; rintro e' w' ⟨rfl, gk, rfl⟩))
              go_ret; exact ⟨rfl, (by repeat' (first | exact Below.refl _ _ | assumption | refine Below.xt ?_ ?_ _ | refine Below.alloc ?_ ?_ _ | refine Below.drew ?_ | refine Below.setCell ?_ ?_ _ | (simp; done) | (simp; omega)))⟩
          · have d4 : decide (12 < pN) = true := by simpa using h0
            go_enter Try.func3, Try.ntmps3
            go_wp2_with (first | (go_at_call 8; refine C0.out.mono ?_; rintro e' w' ⟨rfl, rfl⟩) | (go_at_call 9; refine (RetB.grown (known_any _)).mono ?_; rintro e' w' ⟨rfl, gk, rfl⟩))
            go_ret; exact ⟨rfl, (by repeat' (first | exact Below.refl _ _ | assumption | refine Below.xt ?_ ?_ _ | refine Below.alloc ?_ ?_ _ | refine Below.drew ?_ | refine Below.setCell ?_ ?_ _ | (simp; done) | (simp; omega)))⟩
        · have d3 : decide (12 < pN3) = true := by simpa using h3
          go_enter Try.func3, Try.ntmps3
          go_wp2_with (first | (go_at_call 8; refine C0.out.mono ?_; rintro e' w' ⟨rfl, rfl⟩) | (go_at_call 9; refine (RetB.grown (known_any _)).mono ?_; rintro e' w' ⟨rfl, gk, rfl⟩))
          go_ret; exact ⟨rfl, (by repeat' (first | exact Below.refl _ _ | assumption | refine Below.xt ?_ ?_ _ | refine Below.alloc ?_ ?_ _ | refine Below.drew ?_ | refine Below.setCell ?_ ?_ _ | (simp; done) | (simp; omega)))⟩
      · have d2 : decide (12 < pN2) = true := by simpa using h2
        go_enter Try.func3, Try.ntmps3
        go_wp2_with (first | (go_at_call 8; refine C0.out.mono ?_; rintro e' w' ⟨rfl, rfl⟩) | (go_at_call 9; refine (RetB.grown (known_any _)).mono ?_; rintro e' w' ⟨rfl, gk, rfl⟩))
        go_ret; exact ⟨rfl, (by repeat' (first | exact Below.refl _ _ | assumption | refine Below.xt ?_ ?_ _ | refine Below.alloc ?_ ?_ _ | refine Below.drew ?_ | refine Below.setCell ?_ ?_ _ | (simp; done) | (simp; omega)))⟩
    · have d0 : decide (12 < aN) = true := by simpa using ha
      go_enter Try.func3, Try.ntmps3
      go_wp2_with (first | (go_at_call 8; refine C0.out.mono ?_; rintro e' w' ⟨rfl, rfl⟩) | (go_at_call 9; refine (RetB.grown (known_any _)).mono ?_; rintro e' w' ⟨rfl, gk, rfl⟩))
      go_ret; exact ⟨rfl, (by repeat' (first | exact Below.refl _ _ | assumption | refine Below.xt ?_ ?_ _ | refine Below.alloc ?_ ?_ _ | refine Below.drew ?_ | refine Below.setCell ?_ ?_ _ | (simp; done) | (simp; omega)))⟩
end Go.Proofs.Ytjiknjcmfiapjaa


/- The theorem of the chapter on bottlenecks: its walk. Conditions stand in each theorem. -/
import Derived.Test.YtjiknjcmfiapjaaBotKn
import Derived.Test.YtjiknjcmfiapjaaBotO
import Derived.Test.YtjiknjcmfiapjaaBotX
import Derived.Test.YtjiknjcmfiapjaaMatC1
import Derived.BigRegion
namespace Go.Proofs.Ytjiknjcmfiapjaa
open Go.RowKit
set_option linter.unusedVariables false
set_option linter.unusedSimpArgs false

/-- The call returns this, in a world that has grown on that one. -/
def RX (v : Value) (w : World) (e : Ending) (w' : World) : Prop := e = .returned v ∧ ∃ g, w' = xt w g
theorem rx_of {f : Nat} {args : Array Value} {v : Value} {w : World} {g : Gr} (h : Calls Try.prog f args (xt w g) (RetB v (xt w g))) : Calls Try.prog f args (xt w g) (RX v w) :=
  (RetB.grown h).mono fun e w' ⟨he, g1, hw⟩ => ⟨he, _, hw.trans (xt_xt _ _ _)⟩
/-- The call of Best returns the best pair and what lies anywhere. -/
def BX (g s : Int) (w : World) (e : Ending) (w' : World) : Prop := ∃ A m c A1 m1 c1 A2 m2 c2 A3 m3 c3 A4 m4 c4, e = .returned (.tuple #[.agg #[.slice A m c, .int .i64 g, .int .i64 s], .agg #[.slice A1 m1 c1, .slice A2 m2 c2, .slice A3 m3 c3, .slice A4 m4 c4], .int .i64 0]) ∧ ∃ g, w' = xt w g
theorem bx_of {A : Option Addr} {n cap : Nat} {G : Nat → List Int} {g s : Int} {w : World} (hG : GRow w A n G) (hC : Cst G n) (ho : Opt G n g s) : Calls Try.prog 13 #[.slice A n cap] w (BX g s w) :=
  (Best_any A n cap G w hG (cvd_iff.2 hC)).mono fun e w' ⟨A1, c1, Al, cl0, Ar, cr0, AU, cu, AV, cv, l, T, s', cl, cr, u, v, he, hc1, hb2, hr1, hrl, hrr, hru, hrv, hp, hT⟩ => by
    obtain ⟨e1, e2⟩ := ho.uniq (prvA_opt (by have := hC.le; omega) hp)
    obtain ⟨g2, hg2⟩ := xt_of_below hb2
    subst e1 e2
    exact ⟨_, _, _, _, _, _, _, _, _, _, _, _, _, _, _, he, g2, hg2⟩
theorem prv_I64 {G : Nat → List Int} {n : Nat} {of cl cr u v : List Int} {g s : Int} (h : prvA G n of g s cl cr u v = true) : (∀ x ∈ u, I64 x) ∧ ∀ x ∈ v, I64 x := by
  simp only [prvA, pr1, pr4, Bool.and_eq_true, decide_eq_true_eq, List.all_eq_true, List.mem_range] at h
  obtain ⟨⟨⟨⟨⟨_, h1⟩, h2⟩, _⟩, _⟩, ⟨h3, _⟩, _⟩ := h
  constructor
  · intro x hx
    obtain ⟨i, hi, rfl⟩ := mem_getD hx
    have := ptB_iff.1 (h3 i (by omega))
    unfold I64; omega
  · intro x hx
    obtain ⟨i, hi, rfl⟩ := mem_getD hx
    have := ptB_iff.1 (h3 i (by omega))
    unfold I64; omega

/-- A region may be walked as if no way out but the end were open: then its end looks at no slot at a panic. -/
theorem region_blind {P : Program} {c : Code} {a : Act} {w : World} {Q : Exit → Act → World → Prop} (h : c.wp P (Exit.then (fun a w => Q .normal a w) (fun _ _ _ => False)) a w) : c.wp P Q a w :=
  wp_mono h fun e a w he => by
    cases e with
    | normal => exact he
    | _ => exact (show False from he).elim

theorem then_normal {K : Act → World → Prop} {Q : Exit → Act → World → Prop} {a : Act} {w : World} (h : K a w) : Exit.then K Q .normal a w := h
theorem grow_d {W : World} {q : Gr} {A : Option Addr} {n : Nat} {G : Nat → List Int} (h : GRow (xt W q) A n G) {d : Nat} : GRow (xt W ⟨q.blocks, d⟩) A n G := by
  have := h.xt ⟨[], d⟩
  rw [xt_xt] at this
  simpa using this

set_option maxRecDepth 100000 in
set_option maxHeartbeats 25600000 in
theorem BottleneckHolds_walk (cA : Option Addr) (cN cC : Nat) (aA : Option Addr) (aN aC : Nat) (ag as_ : Int) (pA : Option Addr) (pN pC : Nat) (pA' : Option Addr) (pN' pC' : Nat) (pA2 : Option Addr) (pN2 pC2 : Nat) (pA3 : Option Addr) (pN3 pC3 : Nat) (lA : Option Addr) (lN lC : Nat) (i k more : Int) (W : World)
    (oc : CostsOk W cA cN cC) (oa : IntsOk W aA aN aC) (o0 : IntsOk W pA pN pC) (o1 : IntsOk W pA' pN' pC') (o2 : IntsOk W pA2 pN2 pC2) (o3 : IntsOk W pA3 pN3 pC3) (ol : IntsOk W lA lN lC) (oi : I64 i) (ok : I64 k) (om : I64 more) :
    Calls Try.prog 4 #[.slice cA cN cC, .agg #[.slice aA aN aC, .int .i64 ag, .int .i64 as_], .agg #[.slice pA pN pC, .slice pA' pN' pC', .slice pA2 pN2 pC2, .slice pA3 pN3 pC3], .slice lA lN lC, .int .i64 i, .int .i64 k, .int .i64 more] W (RetB (.bool true) W) := by
  obtain ⟨i0, hi0, hz0, hz1, hz2⟩ := info_parts infoInt
  obtain ⟨i1, hi1, hy0, hy1, hy2⟩ := info_parts infoRow
  obtain ⟨G, hcm, hcl, hcg, hcc⟩ := oc
  obtain ⟨of, ea, ma, ca, _, ra, za⟩ := oa
  obtain ⟨cl, e0, m0, _, _, r0, _⟩ := o0
  obtain ⟨cr, e1, m1, _, _, r1, _⟩ := o1
  obtain ⟨u, e2, m2, _, iu, r2, _⟩ := o2
  obtain ⟨v, e3, m3, _, iv, r3, _⟩ := o3
  obtain ⟨lc, e4, m4, c4, _, r4, _⟩ := ol
  have HG := Lib.hid hcg
  obtain ⟨sb, hsb⟩ : ∃ b, smB G cN 8 = b := ⟨_, rfl⟩
  have C0 := Lib.hid (show Calls Try.prog 8 #[.slice cA cN cC, .int .i64 8] ((W.alloc (.cells #[.slice aA aN aC, .int .i64 ag, .int .i64 as_] 25)).alloc (.cells #[.slice pA pN pC, .slice pA' pN' pC', .slice pA2 pN2 pC2, .slice pA3 pN3 pC3] 29)) (Ret (.bool sb) ((W.alloc (.cells #[.slice aA aN aC, .int .i64 ag, .int .i64 as_] 25)).alloc (.cells #[.slice pA pN pC, .slice pA' pN' pC', .slice pA2 pN2 pC2, .slice pA3 pN3 pC3] 29))) by rw [← hsb]; exact bsmall_any cA cN cC 8 G _ hcm (fun i hi => (hcl i hi).1) ((hcg.alloc _).alloc _))
  have HE := Lib.hid (show aN = of.length ∧ pN = cl.length ∧ pN' = cr.length ∧ pN2 = u.length ∧ pN3 = v.length ∧ lN = lc.length from ⟨ea, e0, e1, e2, e3, e4⟩)
  have HRr := Lib.hid (show RowI W aA of ∧ RowI W pA cl ∧ RowI W pA' cr ∧ RowI W pA2 u ∧ RowI W pA3 v ∧ RowI W lA lc from ⟨ra, r0, r1, r2, r3, r4⟩)
  have HU := Lib.hid iu
  have HV := Lib.hid iv
  have HZ := Lib.hid za
  have HSB := Lib.hid hsb
  unfold I64 at oi ok om
  unfold maxLen at ma m0 m1 m2 m3 m4
  have hmx : cN ≤ 9223372036854775807 := by unfold maxLen at hcm; omega
  clear hcg hcl ea e0 e1 e2 e3 e4 ra r0 r1 r2 r3 r4 iu iv za hsb hcm
  cases sb with
  | false =>
    go_enter Try.func4, Try.ntmps4
    go_wp2_with (first | (go_at_call 8; refine C0.out.mono ?_; rintro e' w' ⟨rfl, rfl⟩) | (go_at_call 9; refine (RetB.grown (known_any _)).mono ?_; rintro e' w' ⟨rfl, gk, rfl⟩))
    go_ret; exact ⟨rfl, (by repeat' (first | exact Below.refl _ _ | assumption | refine Below.xt ?_ ?_ _ | refine Below.alloc ?_ ?_ _ | refine Below.drew ?_ | refine Below.setCell ?_ ?_ _ | (simp; done) | (simp; omega)))⟩
  | true =>
    have hsm := smB_iff.1 HSB.out
    have hcN := hsm.2
    have HSM := Lib.hid hsm.1
    have HG2 := Lib.hid (show GRow ((W.alloc (.cells #[.slice aA aN aC, .int .i64 ag, .int .i64 as_] 25)).alloc (.cells #[.slice pA pN pC, .slice pA' pN' pC', .slice pA2 pN2 pC2, .slice pA3 pN3 pC3] 29)) cA cN G from (HG.out.alloc _).alloc _)
    obtain ⟨vb, hvb⟩ : ∃ b, cvd G cN = b := ⟨_, rfl⟩
    have C1 := Lib.hid (show Calls Try.prog 11 #[.slice cA cN cC] ((W.alloc (.cells #[.slice aA aN aC, .int .i64 ag, .int .i64 as_] 25)).alloc (.cells #[.slice pA pN pC, .slice pA' pN' pC', .slice pA2 pN2 pC2, .slice pA3 pN3 pC3] 29)) (Ret (.bool vb) ((W.alloc (.cells #[.slice aA aN aC, .int .i64 ag, .int .i64 as_] 25)).alloc (.cells #[.slice pA pN pC, .slice pA' pN' pC', .slice pA2 pN2 pC2, .slice pA3 pN3 pC3] 29))) from by rw [← hvb]; exact rValid_any cA cN cC G _ (by omega) (fun i hi => by have := HSM.out i hi; omega) HG2.out)
    have HVB := Lib.hid hvb
    clear hvb hsm
    cases vb with
    | false =>
      go_enter Try.func4, Try.ntmps4
      go_wp2_with (first | (go_at_call 8; refine C0.out.mono ?_; rintro e' w' ⟨rfl, rfl⟩) | (go_at_call 11; refine C1.out.mono ?_; rintro e' w' ⟨rfl, rfl⟩) | (go_at_call 9; refine (RetB.grown (known_any _)).mono ?_; rintro e' w' ⟨rfl, gk, rfl⟩))
      go_ret; exact ⟨rfl, (by repeat' (first | exact Below.refl _ _ | assumption | refine Below.xt ?_ ?_ _ | refine Below.alloc ?_ ?_ _ | refine Below.drew ?_ | refine Below.setCell ?_ ?_ _ | (simp; done) | (simp; omega)))⟩
    | true =>
      by_cases h0 : aN ≤ 12
      · have d0 : decide (12 < aN) = false := by simpa using h0
        by_cases h1 : pN2 ≤ 12
        · have d1 : decide (12 < pN2) = false := by simpa using h1
          by_cases h2 : pN3 ≤ 12
          · have d2 : decide (12 < pN3) = false := by simpa using h2
            by_cases h3 : pN ≤ 12
            · have d3 : decide (12 < pN) = false := by simpa using h3
              by_cases h4 : pN' ≤ 12
              · have d4 : decide (12 < pN') = false := by simpa using h4
                by_cases h5 : lN ≤ 12
                · have d5 : decide (12 < lN) = false := by simpa using h5
                  have HC := Lib.hid (cvd_iff.1 HVB.out)
                  have hn1 := HC.out.pos
                  clear HSB
                  have C2 := Lib.hid (Best_any cA cN cC G ((W.alloc (.cells #[.slice aA aN aC, .int .i64 ag, .int .i64 as_] 25)).alloc (.cells #[.slice pA pN pC, .slice pA' pN' pC', .slice pA2 pN2 pC2, .slice pA3 pN3 pC3] 29)) HG2.out HVB.out)
                  have HB0 := Lib.hid (show Below W.heap.size W ((W.alloc (.cells #[.slice aA aN aC, .int .i64 ag, .int .i64 as_] 25)).alloc (.cells #[.slice pA pN pC, .slice pA' pN' pC', .slice pA2 pN2 pC2, .slice pA3 pN3 pC3] 29)) from (by repeat' (first | exact Below.refl _ _ | assumption | refine Below.xt ?_ ?_ _ | refine Below.alloc ?_ ?_ _ | refine Below.drew ?_ | refine Below.setCell ?_ ?_ _ | (simp; done) | (simp; omega))))
                  have HAP := Lib.hid (show AP W aA pA pA' pA2 pA3 aN aC pN pN' pN2 pN3 of cl cr u v from ⟨HE.out.1, HE.out.2.1, HE.out.2.2.1, HE.out.2.2.2.1, HE.out.2.2.2.2.1, by have := HE.out; omega, by have := HE.out; omega, by have := HE.out; omega, by have := HE.out; omega, by have := HE.out; omega, ca, HRr.out.1, HRr.out.2.1, HRr.out.2.2.1, HRr.out.2.2.2.1, HRr.out.2.2.2.2.1⟩)
                  have HLC := Lib.hid (show lN = lc.length ∧ RowI W lA lc from ⟨HE.out.2.2.2.2.2, HRr.out.2.2.2.2.2⟩)
                  have HBa := Lib.hid (show Blk ((W.alloc (.cells #[.slice aA aN aC, .int .i64 ag, .int .i64 as_] 25)).alloc (.cells #[.slice pA pN pC, .slice pA' pN' pC', .slice pA2 pN2 pC2, .slice pA3 pN3 pC3] 29)) W.heap.size #[.slice aA aN aC, .int .i64 ag, .int .i64 as_] 25 from (Blk.new _ _ _ (by simp)).alloc _)
                  have HBp := Lib.hid (show Blk ((W.alloc (.cells #[.slice aA aN aC, .int .i64 ag, .int .i64 as_] 25)).alloc (.cells #[.slice pA pN pC, .slice pA' pN' pC', .slice pA2 pN2 pC2, .slice pA3 pN3 pC3] 29)) (W.heap.size + 1) #[.slice pA pN pC, .slice pA' pN' pC', .slice pA2 pN2 pC2, .slice pA3 pN3 pC3] 29 from Blk.new _ _ _ (by simp))
                  clear HE HRr ca
                  go_enter Try.func4, Try.ntmps4
                  go_upto_region 5 with (first | (go_at_call 8; refine C0.out.mono ?_; rintro e' w' ⟨rfl, rfl⟩) | (go_at_call 11; refine C1.out.mono ?_; rintro e' w' ⟨rfl, rfl⟩) | (go_at_call 13; refine C2.out.mono ?_; rintro e' w' ⟨A1, c1, Al, cl0, Ar, cr0, AU, cu, AV, cv, l, T, s, cl', cr', u', v', rfl, hc1, hb2, hr1, hrl, hrr, hru, hrv, hp, hT⟩; obtain ⟨g2, rfl⟩ := xt_of_below hb2; have HRs := Lib.hid (show RowI (xt ((W.alloc (.cells #[.slice aA aN aC, .int .i64 ag, .int .i64 as_] 25)).alloc (.cells #[.slice pA pN pC, .slice pA' pN' pC', .slice pA2 pN2 pC2, .slice pA3 pN3 pC3] 29)) g2) A1 l ∧ RowI (xt ((W.alloc (.cells #[.slice aA aN aC, .int .i64 ag, .int .i64 as_] 25)).alloc (.cells #[.slice pA pN pC, .slice pA' pN' pC', .slice pA2 pN2 pC2, .slice pA3 pN3 pC3] 29)) g2) Al cl' ∧ RowI (xt ((W.alloc (.cells #[.slice aA aN aC, .int .i64 ag, .int .i64 as_] 25)).alloc (.cells #[.slice pA pN pC, .slice pA' pN' pC', .slice pA2 pN2 pC2, .slice pA3 pN3 pC3] 29)) g2) Ar cr' ∧ RowI (xt ((W.alloc (.cells #[.slice aA aN aC, .int .i64 ag, .int .i64 as_] 25)).alloc (.cells #[.slice pA pN pC, .slice pA' pN' pC', .slice pA2 pN2 pC2, .slice pA3 pN3 pC3] 29)) g2) AU u' ∧ RowI (xt ((W.alloc (.cells #[.slice aA aN aC, .int .i64 ag, .int .i64 as_] 25)).alloc (.cells #[.slice pA pN pC, .slice pA' pN' pC', .slice pA2 pN2 pC2, .slice pA3 pN3 pC3] 29)) g2) AV v' from ⟨hr1, hrl, hrr, hru, hrv⟩); have HP := Lib.hid hp; have HC1 := Lib.hid hc1; clear hT hr1 hrl hrr hru hrv hp hc1 hb2))
                  obtain ⟨Wq, hWq⟩ : ∃ Wq, ((W.alloc (.cells #[.slice aA aN aC, .int .i64 ag, .int .i64 as_] 25)).alloc (.cells #[.slice pA pN pC, .slice pA' pN' pC', .slice pA2 pN2 pC2, .slice pA3 pN3 pC3] 29)) = Wq := ⟨_, rfl⟩
                  have hwq0 : W.heap.size + 2 = Wq.heap.size := by rw [← hWq]; simp
                  simp only [hWq] at HRs HG2 HB0 HBa HBp ⊢
                  have hp := HP.out
                  simp only [prvA, pr1, pr2, pr3, Bool.and_eq_true, decide_eq_true_eq] at hp
                  obtain ⟨⟨⟨⟨⟨hcb, hpu⟩, hpv⟩, _⟩, ⟨_, hpc⟩⟩, _⟩ := hp
                  have hpl := (colsB_iff.1 hcb).2
                  have HLN := Lib.hid (show l.length = cN ∧ u'.length = cN ∧ v'.length = cN ∧ cl'.length + cr'.length < cN from ⟨hpl, hpu, hpv, hpc⟩)
                  have HCB := Lib.hid hcb
                  have hcap := HC1.out
                  rw [hpl] at hcap ⊢
                  rw [hpu, hpv]
                  obtain ⟨kl, hkl⟩ : ∃ k, cl'.length = k := ⟨_, rfl⟩
                  obtain ⟨kr, hkr⟩ : ∃ k, cr'.length = k := ⟨_, rfl⟩
                  rw [hkl, hkr]
                  have HKL := Lib.hid (show cl'.length = kl ∧ cr'.length = kr from ⟨hkl, hkr⟩)
                  have HCAP := Lib.hid hcap
                  have HO := Lib.hid (prvA_opt (by omega) HP.out)
                  clear hcb hpu hpv hpl hpc hkl hkr hcap C2 C0 C1 HC1
                  obtain ⟨W9, hW9, HB9, HGo, HA9, HP9, HAs, HPr, HAPx, HAP9, HLr⟩ : ∃ W9, ((xt Wq g2).alloc (.cells #[.slice A1 cN c1, .int .i64 T, .int .i64 s] 25)).alloc (.cells #[.slice Al kl cl0, .slice Ar kr cr0, .slice AU cN cu, .slice AV cN cv] 29) = W9 ∧ Hid (Below W.heap.size W W9) ∧ Hid (GRow W9 cA cN G) ∧ Hid (Blk W9 W.heap.size #[.slice aA aN aC, .int .i64 ag, .int .i64 as_] 25) ∧ Hid (Blk W9 (W.heap.size + 1) #[.slice pA pN pC, .slice pA' pN' pC', .slice pA2 pN2 pC2, .slice pA3 pN3 pC3] 29) ∧ Hid (Blk W9 (W.heap.size + 1 + 1 + g2.blocks.length) #[.slice A1 cN c1, .int .i64 T, .int .i64 s] 25) ∧ Hid (Blk W9 (W.heap.size + 1 + 1 + g2.blocks.length + 1) #[.slice Al kl cl0, .slice Ar kr cr0, .slice AU cN cu, .slice AV cN cv] 29) ∧ Hid (AP W9 A1 Al Ar AU AV cN c1 kl kr cN cN l cl' cr' u' v') ∧ Hid (AP W9 aA pA pA' pA2 pA3 aN aC pN pN' pN2 pN3 of cl cr u v) ∧ Hid (RowI W9 lA lc) :=
                    have hb : Below W.heap.size W (((xt Wq g2).alloc (.cells #[.slice A1 cN c1, .int .i64 T, .int .i64 s] 25)).alloc (.cells #[.slice Al kl cl0, .slice Ar kr cr0, .slice AU cN cu, .slice AV cN cv] 29)) := by
                      have hb0 := HB0.out
                      have hs := hb0.size
                      exact ((Below.xt hb0 hs g2).alloc (by simp; omega) _).alloc (by simp; omega) _
                    ⟨_, rfl, Lib.hid hb, Lib.hid (((HG2.out.xt _).alloc _).alloc _), Lib.hid (((HBa.out.xt _).alloc _).alloc _), Lib.hid (((HBp.out.xt _).alloc _).alloc _), Lib.hid ((Blk.new _ _ _ (by simp; omega)).alloc _), Lib.hid (Blk.new _ _ _ (by simp; omega)),
                      Lib.hid ⟨HLN.out.1.symm, HKL.out.1.symm, HKL.out.2.symm, HLN.out.2.1.symm, HLN.out.2.2.1.symm, by have := HLN.out; omega, by have := HLN.out; have := HKL.out; omega, by have := HLN.out; have := HKL.out; omega, by have := HLN.out; omega, by have := HLN.out; omega, HCAP.out, (HRs.out.1.alloc _).alloc _, (HRs.out.2.1.alloc _).alloc _, (HRs.out.2.2.1.alloc _).alloc _, (HRs.out.2.2.2.1.alloc _).alloc _, (HRs.out.2.2.2.2.alloc _).alloc _⟩,
                      Lib.hid (HAP.out.below hb), Lib.hid (HLC.out.2.below hb)⟩
                  rw [hW9]
                  obtain ⟨b8, hb8⟩ : ∃ b, W.heap.size + 1 + 1 + g2.blocks.length = b := ⟨_, rfl⟩
                  simp only [hb8] at HAs HPr ⊢
                  clear hW9 hb8 hWq hwq0 HB0 HBa HBp HG2 HG HRs HAP
                  have C3 := Lib.hid (show Calls Try.prog 10 #[.slice cA cN cC, .agg #[.slice A1 cN c1, .int .i64 T, .int .i64 s], .agg #[.slice Al kl cl0, .slice Ar kr cr0, .slice AU cN cu, .slice AV cN cv]] W9 (RetB (.int .i64 0) W9) from by
                    have := Check_any cA A1 Al Ar AU AV cN cC cN c1 kl cl0 kr cr0 cN cu cN cv G l cl' cr' u' v' T s W9 HGo.out HVB.out HAPx.out (fun h => by
                      obtain ⟨b, o, e, _⟩ := HAPx.out.ro.at_ (by rw [HLN.out.1]; omega)
                      rw [h] at e; cases e) (prv_I64 HP.out).1 (prv_I64 HP.out).2
                    rwa [HP.out] at this)
                  have C4 := Lib.hid (show ∀ g, Calls Try.prog 14 #[.slice A1 cN c1, .int .i64 (cN : Int)] (xt W9 g) (RX (.bool true) W9) from fun g => by
                    have := Columns_any A1 cN c1 l cN (xt W9 g) HLN.out.1.symm (by have := HLN.out; omega) (by omega) HCAP.out (HAPx.out.ro.xt g)
                    rw [HCB.out] at this
                    exact rx_of this)
                  obtain ⟨pb, hpb⟩ : ∃ b, prvA G cN of ag as_ cl cr u v = b := ⟨_, rfl⟩
                  have C5 := Lib.hid (show ∀ g, Calls Try.prog 10 #[.slice cA cN cC, .agg #[.slice aA aN aC, .int .i64 ag, .int .i64 as_], .agg #[.slice pA pN pC, .slice pA' pN' pC', .slice pA2 pN2 pC2, .slice pA3 pN3 pC3]] (xt W9 g) (RX (.int .i64 (ckE pb)) W9) from fun g => by
                    have := Check_any cA aA pA pA' pA2 pA3 cN cC aN aC pN pC pN' pC' pN2 pC2 pN3 pC3 G of cl cr u v ag as_ (xt W9 g) (HGo.out.xt g) HVB.out (HAP9.out.below (below_xt _ g)) HZ.out HU.out HV.out
                    rw [hpb] at this
                    exact rx_of this)
                  have HPB := Lib.hid (show pb = true → ag = T ∧ as_ = s from fun h => (prvA_opt (by omega) (hpb.trans h)).uniq HO.out)
                  obtain ⟨cb, hcb⟩ : ∃ b, colsB lc cN = b := ⟨_, rfl⟩
                  have C6 := Lib.hid (show ∀ g, Calls Try.prog 14 #[.slice lA lN lC, .int .i64 (cN : Int)] (xt W9 g) (RX (.bool cb) W9) from fun g => by
                    have := Columns_any lA lN lC lc cN (xt W9 g) HLC.out.1 (by have := HLC.out.1; omega) (by omega) c4 (HLr.out.xt g)
                    rw [hcb] at this
                    exact rx_of this)
                  have HCBl := Lib.hid hcb
                  clear hpb hcb HP HCB HZ HU HV HKL HCAP
                  obtain ⟨a0, a1, a2, _, _, _, aO⟩ := HAs.out.f3
                  obtain ⟨x0, x1, x2, _, _, _, xO⟩ := HA9.out.f3
                  have p0 : W9.cell? ⟨b8 + 1, 0, none⟩ = some (.slice Al kl cl0) := HPr.out.cell rfl
                  have p1 : W9.cell? ⟨b8 + 1, 1, none⟩ = some (.slice Ar kr cr0) := HPr.out.cell rfl
                  have p2 : W9.cell? ⟨b8 + 1, 2, none⟩ = some (.slice AU cN cu) := HPr.out.cell rfl
                  have p3 : W9.cell? ⟨b8 + 1, 3, none⟩ = some (.slice AV cN cv) := HPr.out.cell rfl
                  have pO : old (b8 + 1) W9 := HPr.out.lt
                  have q0 : W9.cell? ⟨W.heap.size + 1, 0, none⟩ = some (.slice pA pN pC) := HP9.out.cell rfl
                  have q1 : W9.cell? ⟨W.heap.size + 1, 1, none⟩ = some (.slice pA' pN' pC') := HP9.out.cell rfl
                  have q2 : W9.cell? ⟨W.heap.size + 1, 2, none⟩ = some (.slice pA2 pN2 pC2) := HP9.out.cell rfl
                  have q3 : W9.cell? ⟨W.heap.size + 1, 3, none⟩ = some (.slice pA3 pN3 pC3) := HP9.out.cell rfl
                  have qO : old (W.heap.size + 1) W9 := HP9.out.lt
                  have HX9 := Lib.hid (show ∀ g, Below W.heap.size W (xt W9 g) from fun g => Below.xt HB9.out HB9.out.size g)
                  have HMB := Lib.hid (show 0 ≤ T ∧ T ≤ 17592186044416 ∧ 0 ≤ s ∧ s ≤ 64 * 17592186044416 from by
                    obtain ⟨L, y1, y2, y3⟩ := HO.out.is
                    have hL := (colsB_iff.1 y1).1
                    have t1 := mstC_bd HC.out cN (Nat.le_refl _) hL
                    have t2 := sumC_bd HC.out cN (Nat.le_refl _) hL
                    have := HC.out.le
                    rw [y2] at t1; rw [y3] at t2
                    refine ⟨t1.1, t1.2, t2.1, ?_⟩
                    have : (cN : Int) * 17592186044416 ≤ 64 * 17592186044416 := by omega
                    omega)
                  go_upto_region 7 with (first | (go_at_call 10; refine (RetB.grown C3.out).mono ?_; rintro e' w' ⟨rfl, g3, rfl⟩) | (go_at_call 14; refine (C4.out _).mono ?_; rintro e' w' ⟨rfl, g4, rfl⟩))
                  clear C3 C4
                  go_cut [19] (fun sx wx => sx = .bool pb ∧ ∃ g, wx = xt W9 g)
                  case first =>
                    clear C6
                    as_aux_lemma =>
                      --A{
                      cases pb with
                      | false =>
                        have C5' := Lib.hid (show ∀ g, Calls Try.prog 10 #[.slice cA cN cC, .agg #[.slice aA aN aC, .int .i64 ag, .int .i64 as_], .agg #[.slice pA pN pC, .slice pA' pN' pC', .slice pA2 pN2 pC2, .slice pA3 pN3 pC3]] (xt W9 g) (RX (.int .i64 10) W9) from C5.out)
                        clear C5
                        go_wp2_with (go_at_call 10; refine (C5'.out _).mono ?_; rintro e' w' ⟨rfl, g5, rfl⟩)
                        go_meet
                        (refine ⟨rfl, ?_⟩; first | (with_reducible exact ⟨_, rfl⟩) | (with_reducible exact ⟨_, xt_xt _ _ _⟩))
                      | true =>
                        have C5' := Lib.hid (show ∀ g, Calls Try.prog 10 #[.slice cA cN cC, .agg #[.slice aA aN aC, .int .i64 ag, .int .i64 as_], .agg #[.slice pA pN pC, .slice pA' pN' pC', .slice pA2 pN2 pC2, .slice pA3 pN3 pC3]] (xt W9 g) (RX (.int .i64 0) W9) from C5.out)
                        clear C5
                        go_wp2_with (go_at_call 10; refine (C5'.out _).mono ?_; rintro e' w' ⟨rfl, g5, rfl⟩)
                        go_meet
                        (refine ⟨rfl, ?_⟩; first | (with_reducible exact ⟨_, rfl⟩) | (with_reducible exact ⟨_, xt_xt _ _ _⟩))
                      --A}
                  case rest =>
                    clear C5
                    obtain ⟨rfl, g6, rfl⟩ := hcut
                    go_upto_region 8 with fail
                    go_cut [124] (fun sx wx => sx = .bool false ∧ ∃ g, wx = xt W9 g)
                    case first =>
                      clear C6
                      as_aux_lemma =>
                        --B{
                        cases pb with
                        | false =>
                          go_wp2_with fail
                          go_meet
                          (refine ⟨rfl, ?_⟩; first | (with_reducible exact ⟨_, rfl⟩) | (with_reducible exact ⟨_, xt_xt _ _ _⟩))
                        | true =>
                          obtain ⟨rfl, rfl⟩ := HPB.out rfl
                          go_wp2_with fail
                          go_meet
                          (refine ⟨rfl, ?_⟩; first | (with_reducible exact ⟨_, rfl⟩) | (with_reducible exact ⟨_, xt_xt _ _ _⟩))
                        --B}
                    case rest =>
                      obtain ⟨rfl, g7, rfl⟩ := hcut
                      clear HPB x0 x1 x2 xO q0 q1 q2 q3 qO
                      go_upto_if 127 with (go_at_call 14; refine (C6.out _).mono ?_; rintro e' w' ⟨rfl, g8, rfl⟩)
                      go_cut [] (fun wx => ∃ g, wx = xt W9 g)
                      case first =>
                        as_aux_lemma =>
                          --C{
                          cases cb with
                          | false =>
                            go_wp2_with fail
                            go_meet
                            (first | (with_reducible exact ⟨_, rfl⟩) | (with_reducible exact ⟨_, xt_xt _ _ _⟩))
                          | true =>
                            have C7 := Lib.hid (show ∀ g, Calls Try.prog 15 #[.slice cA cN cC, .slice lA lN lC] (xt W9 g) (RX (.tuple #[.int .i64 (mstC G lc cN), .int .i64 (sumC G lc cN)]) W9) from fun g =>
                              rx_of (rCosts_any cA lA cN cC lN lC G lc (xt W9 g) (HGo.out.xt g) HC.out (HLC.out.1.trans (colsB_iff.1 HCBl.out).2) HCBl.out (HLr.out.xt g)))
                            have hlo := HO.out.lo lc HCBl.out
                            generalize mstC G lc cN = ml at C7 hlo
                            generalize sumC G lc cN = sl at C7 hlo
                            have dn1 : decide (ml < T) = false := by simp only [decide_eq_false_iff_not]; omega
                            by_cases hml : ml = T
                            · subst hml
                              have dn2 : decide (sl < s) = false := by simp only [decide_eq_false_iff_not]; omega
                              go_wp2_with (go_at_call 15; refine (C7.out _).mono ?_; rintro e' w' ⟨rfl, g9, rfl⟩)
                              go_meet
                              (first | (with_reducible exact ⟨_, rfl⟩) | (with_reducible exact ⟨_, xt_xt _ _ _⟩))
                            · have dn3 : ((ml : Int) == T) = false := by simpa using hml
                              go_wp2_with (go_at_call 15; refine (C7.out _).mono ?_; rintro e' w' ⟨rfl, g9, rfl⟩)
                              go_meet
                              (first | (with_reducible exact ⟨_, rfl⟩) | (with_reducible exact ⟨_, xt_xt _ _ _⟩))
                          --C}
                      case rest =>
                        obtain ⟨g10, rfl⟩ := hcut
                        clear C6 HCBl HLC HLr
                        obtain ⟨xb, hxb⟩ : ∃ b, decide (0 ≤ i ∧ i < (cN : Int) ∧ 0 ≤ k ∧ k < (cN : Int)) = b := ⟨_, rfl⟩
                        go_upto_region 14 with fail
                        go_cut [165] (fun sx wx => sx = .bool xb ∧ ∃ g, wx = xt W9 g)
                        case first =>
                          as_aux_lemma =>
                            --D{
                            by_cases y0 : 0 ≤ i
                            · have f0 : decide (0 ≤ i) = true := by simpa using y0
                              by_cases y1 : i < (cN : Int)
                              · have f1 : decide (i < (cN : Int)) = true := by simpa using y1
                                by_cases y2 : 0 ≤ k
                                · have f2 : decide (0 ≤ k) = true := by simpa using y2
                                  by_cases y3 : k < (cN : Int)
                                  · have f3 : decide (k < (cN : Int)) = true := by simpa using y3
                                    obtain rfl : xb = true := by rw [← hxb]; simp [y0, y1, y2, y3]
                                    go_wp2_with fail
                                    go_meet
                                    (refine ⟨rfl, ?_⟩; first | (with_reducible exact ⟨_, rfl⟩) | (with_reducible exact ⟨_, xt_xt _ _ _⟩))
                                  · have f3 : decide (k < (cN : Int)) = false := by simpa using y3
                                    obtain rfl : xb = false := by rw [← hxb]; simp [y3]
                                    go_wp2_with fail
                                    go_meet
                                    (refine ⟨rfl, ?_⟩; first | (with_reducible exact ⟨_, rfl⟩) | (with_reducible exact ⟨_, xt_xt _ _ _⟩))
                                · have f2 : decide (0 ≤ k) = false := by simpa using y2
                                  obtain rfl : xb = false := by rw [← hxb]; simp [y2]
                                  go_wp2_with fail
                                  go_meet
                                  (refine ⟨rfl, ?_⟩; first | (with_reducible exact ⟨_, rfl⟩) | (with_reducible exact ⟨_, xt_xt _ _ _⟩))
                              · have f1 : decide (i < (cN : Int)) = false := by simpa using y1
                                obtain rfl : xb = false := by rw [← hxb]; simp [y1]
                                go_wp2_with fail
                                go_meet
                                (refine ⟨rfl, ?_⟩; first | (with_reducible exact ⟨_, rfl⟩) | (with_reducible exact ⟨_, xt_xt _ _ _⟩))
                            · have f0 : decide (0 ≤ i) = false := by simpa using y0
                              obtain rfl : xb = false := by rw [← hxb]; simp [y0]
                              go_wp2_with fail
                              go_meet
                              (refine ⟨rfl, ?_⟩; first | (with_reducible exact ⟨_, rfl⟩) | (with_reducible exact ⟨_, xt_xt _ _ _⟩))
                            --D}
                        case rest =>
                          obtain ⟨rfl, g11, rfl⟩ := hcut
                          go_upto_if 165 with fail
                          go_cut [] (fun wx => ∃ g, wx = xt W9 g)
                          case first =>
                            as_aux_lemma =>
                              --E{
                              cases xb with
                              | false =>
                                go_wp2_with fail
                                go_meet
                                (first | (with_reducible exact ⟨_, rfl⟩) | (with_reducible exact ⟨_, xt_xt _ _ _⟩))
                              | true =>
                                obtain ⟨y1, y2, y3, y4⟩ := of_decide_eq_true hxb
                                obtain ⟨i, rfl⟩ : ∃ m : Nat, i = (m : Int) := ⟨i.toNat, by omega⟩
                                obtain ⟨k, rfl⟩ : ∃ m : Nat, k = (m : Int) := ⟨k.toNat, by omega⟩
                                have hi : i < cN := by omega
                                have hk : k < cN := by omega
                                obtain ⟨Wb, hWb, HBb⟩ : ∃ Wb, Wb = xt W9 g11 ∧ Hid (Below W9.heap.size W9 Wb) := ⟨_, rfl, Lib.hid (below_xt _ _)⟩
                                obtain ⟨gb, go, rfl, hgo, hgc⟩ := (HGo.out.below HBb.out).top (by omega)
                                rw [← hWb]
                                clear hWb
                                have HGC := Lib.hid hgc
                                clear hgc
                                go_wp2_with (at_builtin; go_must (refine wpList_append_own _ rfl (.const (.slice none 0 0)) (.tmp 166) 22 rfl Wb.heap.size 23 i1 _ 1 24 Try.underlying22 hi1 hy0 hy1 hy2 rfl (by omega) (.slice none 0 0) 0 [] rfl own_nil ⟨gb, go, none⟩ cN cC (rwV Wb gb go cN) rfl rwV_len (rwV_news HGC.out) (rwV_one HGC.out) ?_ ?_ ?_ ?_))
                                · simp only [maxLen]; omega
                                · omega
                                · exact Nat.le_refl _
                                intro v3 w3 hown3 hgrow3 _
                                try simp only [Nat.zero_add, List.nil_append] at hown3
                                try simp only [Nat.zero_add]
                                have hb3 := below_none hgrow3
                                obtain ⟨g3, q3, rfl⟩ : ∃ g c, v3 = .slice (some ⟨g, 0, none⟩) cN c := by
                                  rcases hown3.2 with ⟨_, h0⟩ | ⟨g, cap, cur, hv, _⟩
                                  · omega
                                  · exact ⟨g, cap, hv⟩
                                by_cases hik : i = k
                                · subst hik
                                  obtain ⟨Ai, ci, hei, hri⟩ := HGC.out i hi
                                  have hvi := rwV_get hi hei
                                  have HSw := rwV_swap (G := G) hb3 hown3 hi hi (fun r hr => by obtain ⟨A, c, e, hrow⟩ := HGC.out r hr; exact ⟨A, c, rwV_get hr e, hrow⟩) hvi hvi
                                  have oi3 := own_at hown3 hvi
                                  have fi3 := hown3.frozenAt i
                                  have og3 : old g3 w3 := (hown3.lt g3 rfl).2
                                  obtain ⟨g13, hg13⟩ := xt_of_below (HBb.out.trans (HSw.2.mono HBb.out.size))
                                  have HGs := Lib.hid (show ∀ d, GRow (xt W9 ⟨g13.blocks, d⟩) (some ⟨g3, 0, none⟩) cN (swG G i i) from fun d => grow_d (by rw [← hg13]; exact HSw.1))
                                  have C8 := Lib.hid (show ∀ d, Calls Try.prog 13 #[.slice (some ⟨g3, 0, none⟩) cN q3] (xt W9 ⟨g13.blocks, d⟩) (BX T s (xt W9 ⟨g13.blocks, d⟩)) from fun d => bx_of (HGs.out d) (HC.out.xch hi hi) (HO.out.xch hi hi))
                                  have HW := Lib.hid hg13
                                  have HXT := Lib.hid (show ∀ d g, Below W9.heap.size W9 (xt (xt W9 ⟨g13.blocks, d⟩) g) from fun d g => Below.xt (below_xt W9 _) (below_xt W9 ⟨g13.blocks, d⟩).size g)
                                  clear hgrow3 hown3 hb3 hei hri hvi HSw hg13 HGC
                                  go_upto_region 16 with fail
                                  refine region_blind ?_
                                  go_region
                                  rw [HW.out, xt_drew]
                                  obtain ⟨W13, hW13, HB13, C13⟩ : ∃ W13, xt W9 ⟨g13.blocks, g13.drawn + 1⟩ = W13 ∧ Hid (Below W9.heap.size W9 W13) ∧ Hid (Calls Try.prog 13 #[.slice (some ⟨g3, 0, none⟩) cN q3] W13 (BX T s W13)) := ⟨_, rfl, Lib.hid (below_xt _ _), Lib.hid (C8.out _)⟩
                                  rw [hW13]
                                  obtain ⟨b0, b1, b2, _, _, _, bO⟩ := (HAs.out.below HB13.out HAs.out.lt).f3
                                  clear hW13 C8 HXT HW HGs a0 a1 a2 aO oi3 fi3 og3
                                  refine then_normal ?_
                                  go_wp2_with (go_at_call 13; refine C13.out.mono ?_; rintro e' w' ⟨A, m, c, A1', m1', c1', A2', m2', c2', A3', m3', c3', A4', m4', c4', rfl, g9, rfl⟩)
                                  go_meet
                                  have hb9 := Below.xt HB13.out HB13.out.size g9
                                  have hs9 := hb9.size
                                  exact xt_of_below ((hb9.alloc hs9 _).alloc (by simp at hs9 ⊢; omega) _)
                                · skip
                                  obtain ⟨Ai, ci, hei, hri⟩ := HGC.out i hi
                                  obtain ⟨Ak, ck, hek, hrk⟩ := HGC.out k hk
                                  have hvi := rwV_get hi hei
                                  have hvk := rwV_get hk hek
                                  have HSw := rwV_swap (G := G) hb3 hown3 hi hk (fun r hr => by obtain ⟨A, c, e, hrow⟩ := HGC.out r hr; exact ⟨A, c, rwV_get hr e, hrow⟩) hvi hvk
                                  have oi3 := own_at hown3 hvi
                                  have ok3 := own_at hown3 hvk
                                  have fi3 := hown3.frozenAt i
                                  have fk3 := hown3.frozenAt k
                                  have og3 : old g3 w3 := (hown3.lt g3 rfl).2
                                  obtain ⟨g13, hg13⟩ := xt_of_below (HBb.out.trans (HSw.2.mono HBb.out.size))
                                  have HGs := Lib.hid (show ∀ d, GRow (xt W9 ⟨g13.blocks, d⟩) (some ⟨g3, 0, none⟩) cN (swG G i k) from fun d => grow_d (by rw [← hg13]; exact HSw.1))
                                  have C8 := Lib.hid (show ∀ d, Calls Try.prog 13 #[.slice (some ⟨g3, 0, none⟩) cN q3] (xt W9 ⟨g13.blocks, d⟩) (BX T s (xt W9 ⟨g13.blocks, d⟩)) from fun d => bx_of (HGs.out d) (HC.out.xch hi hk) (HO.out.xch hi hk))
                                  have HW := Lib.hid hg13
                                  have HXT := Lib.hid (show ∀ d g, Below W9.heap.size W9 (xt (xt W9 ⟨g13.blocks, d⟩) g) from fun d g => Below.xt (below_xt W9 _) (below_xt W9 ⟨g13.blocks, d⟩).size g)
                                  clear hgrow3 hown3 hb3 hei hri hek hrk hvi hvk HSw hg13 HGC
                                  have nik : ¬ i = k := hik
                                  have nki : ¬ k = i := fun e => hik e.symm
                                  go_upto_region 16 with fail
                                  refine region_blind ?_
                                  go_region
                                  rw [HW.out, xt_drew]
                                  obtain ⟨W13, hW13, HB13, C13⟩ : ∃ W13, xt W9 ⟨g13.blocks, g13.drawn + 1⟩ = W13 ∧ Hid (Below W9.heap.size W9 W13) ∧ Hid (Calls Try.prog 13 #[.slice (some ⟨g3, 0, none⟩) cN q3] W13 (BX T s W13)) := ⟨_, rfl, Lib.hid (below_xt _ _), Lib.hid (C8.out _)⟩
                                  rw [hW13]
                                  obtain ⟨b0, b1, b2, _, _, _, bO⟩ := (HAs.out.below HB13.out HAs.out.lt).f3
                                  clear hW13 C8 HXT HW HGs a0 a1 a2 aO oi3 fi3 og3
                                  refine then_normal ?_
                                  go_wp2_with (go_at_call 13; refine C13.out.mono ?_; rintro e' w' ⟨A, m, c, A1', m1', c1', A2', m2', c2', A3', m3', c3', A4', m4', c4', rfl, g9, rfl⟩)
                                  go_meet
                                  have hb9 := Below.xt HB13.out HB13.out.size g9
                                  have hs9 := hb9.size
                                  exact xt_of_below ((hb9.alloc hs9 _).alloc (by simp at hs9 ⊢; omega) _)
                              --E}
                          case rest =>
                            obtain ⟨g14, rfl⟩ := hcut
                            clear hxb
                            by_cases n1 : more < 0
                            · have dn1 : decide (more < 0) = true := by simpa using n1
                              go_wp2_with (go_at_call 9; refine (RetB.grown (known_any _)).mono ?_; rintro e' w' ⟨rfl, gk, rfl⟩)
                              go_ret
                              exact ⟨rfl, by (repeat rw [xt_xt]); exact HX9.out _⟩
                            · have dn1 : decide (more < 0) = false := by simpa using n1
                              by_cases n2 : 1000000 < more
                              · have dn2 : decide (1000000 < more) = true := by simpa using n2
                                go_wp2_with (go_at_call 9; refine (RetB.grown (known_any _)).mono ?_; rintro e' w' ⟨rfl, gk, rfl⟩)
                                go_ret
                                exact ⟨rfl, by (repeat rw [xt_xt]); exact HX9.out _⟩
                              · have dn2 : decide (1000000 < more) = false := by simpa using n2
                                as_aux_lemma =>
                                  --G{
                                  obtain ⟨Wz, hWz, HBz, HGz, HAz⟩ : ∃ Wz, xt W9 g14 = Wz ∧ Hid (Below W.heap.size W Wz) ∧ Hid (GRow Wz cA cN G) ∧ Hid (Blk Wz b8 #[.slice A1 cN c1, .int .i64 T, .int .i64 s] 25) := ⟨_, rfl, Lib.hid (HX9.out _), Lib.hid (HGo.out.xt _), Lib.hid (HAs.out.xt _)⟩
                                  rw [hWz]
                                  clear h0 h1 h2 h3 h4 h5 d0 d1 d2 d3 d4 d5 hcc
                                  clear hWz HX9 HGo HAs HPr a0 a1 a2 aO p0 p1 p2 p3 pO oi ok
                                  go_wp2_with fail
                                  go_loopg [26, 213] (cN) (fun gk v i wr => ∃ k : Nat, k + gk = cN ∧ i = .int .i64 k ∧ Hid (Below Wz.heap.size Wz wr) ∧ Hid (GOwn wr Wz.heap.size v k (hiG G more)) ∧ Hid (∀ r, r < k → ∀ c, c < (G r).length → (G r).getD c 0 ≤ 17592186044416 - more))
                                  case atStart => exact ⟨0, by omega, rfl, Lib.hid (Below.refl _ _), Lib.hid GOwn.nil, Lib.hid (fun r hr => absurd hr (by omega))⟩
                                  case round =>
                                    obtain ⟨k, hk, rfl, HB, HOw, HL⟩ := hrel
                                    by_cases hlt : k < cN
                                    · obtain ⟨gf, rfl⟩ : ∃ gf, gk = gf + 1 := ⟨gk - 1, by omega⟩
                                      obtain ⟨ga, go, rfl, hga, hgc⟩ := (HGz.out.below HB.out).top (by omega)
                                      obtain ⟨Ai, ci, hgi, hri⟩ := hgc k hlt
                                      have hgl := HC.out.len k hlt
                                      rw [hgl] at hgi
                                      have HRi := Lib.hid hri
                                      have HGl := Lib.hid hgl
                                      obtain ⟨Wo, rfl⟩ : ∃ Wo : World, Wo = wr := ⟨_, rfl⟩
                                      clear hgc hri hgl
                                      go_wp2_with fail
                                      go_loopg [29, 219] (cN) (fun gk l j wr => ∃ m : Nat, m + gk = cN ∧ j = .int .i64 m ∧ Hid (Below Wo.heap.size Wo wr) ∧ Hid (wr.ownsRow Wo.heap.size 3 1 l m ((hiL (G k) more m).map (Value.int .i64))) ∧ Hid (∀ c, c < m → (G k).getD c 0 ≤ 17592186044416 - more))
                                      case atStart => exact ⟨0, by omega, rfl, Lib.hid (Below.refl _ _), Lib.hid (by rw [hiL_zero]; exact own_nil), Lib.hid (fun c hc => absurd hc (by omega))⟩
                                      case round =>
                                        clear hga hgi
                                        obtain ⟨m, hm, rfl, HBx, HLx, HM⟩ := hrel
                                        by_cases hlt2 : m < cN
                                        · obtain ⟨rb, ro, rfl, hrb, hrc⟩ := (HRi.out.below HBx.out).at_ (by rw [HGl.out]; omega)
                                          have hx := hrc m (by rw [HGl.out]; exact hlt2)
                                          have hbd := HC.out.rng k hlt m hlt2
                                          have HS := Lib.hid (hiL_snoc (m := more) (show m < (G k).length by rw [HGl.out]; exact hlt2))
                                          obtain ⟨x, hxx⟩ : ∃ x, (G k).getD m 0 = x := ⟨_, rfl⟩
                                          rw [hxx] at hx hbd
                                          have HXX := Lib.hid hxx
                                          obtain ⟨hbd1, hbd2⟩ := hbd
                                          clear hrc hxx
                                          have HBa := Lib.hid (show Below W.heap.size W wr from Below.next' HBz.out (Below.next' HB.out HBx.out HB.out.size) HBz.out.size)
                                          by_cases hc : 17592186044416 - more < x
                                          · have dc : decide (17592186044416 - more < x) = true := by simpa using hc
                                            have HXr := Lib.hid (show ∀ g, Below W.heap.size W (xt wr g) from fun g => Below.xt HBa.out HBa.out.size g)
                                            as_aux_lemma =>
                                              --H{
                                              go_wp2_with (go_at_call 9; refine (RetB.grown (known_any _)).mono ?_; rintro e' w' ⟨rfl, gk, rfl⟩)
                                              go_ret
                                              exact ⟨rfl, HXr.out _⟩
                                              --H}
                                          · have dc : decide (17592186044416 - more < x) = false := by simpa using hc
                                            as_aux_lemma =>
                                              --I{
                                              clear HBa
                                              go_wp2_with (at_builtin; go_must (refine wpList_append_own _ rfl (.tmp 228) (.tmp 232) 23 rfl Wo.heap.size 3 i0 _ 1 8 Try.underlying23 hi0 hz0 hz1 hz2 rfl (by omega) u29 m ((hiL (G k) more m).map (Value.int .i64)) rfl (HLx.out.alloc _) _ 1 _ [.int .i64 (x + more)] rfl rfl ?_ ?_ ?_ ?_ ?_ ?_))
                                              · rfl
                                              · simp only [maxLen]; omega
                                              · omega
                                              · have := HBx.out.size; omega
                                              intro v1 w1 hown1 hgr1 _
                                              have hsx := HBx.out.size
                                              have HB1' := Lib.hid (below_grown (n := m) (v := u29) (xs := (hiL (G k) more m).map (Value.int .i64)) (e := 3) (s := 1) (HBx.out.alloc hsx (.cells #[.int .i64 (x + more)] 3)) (by simp; omega) (HLx.out.alloc _) hgr1)
                                              have HL1 := Lib.hid (show w1.ownsRow Wo.heap.size 3 1 v1 (m + 1) ((hiL (G k) more (m + 1)).map (Value.int .i64)) by rw [HS.out, HXX.out, ints_snoc]; exact hown1)
                                              have HM1 := Lib.hid (show ∀ c, c < m + 1 → (G k).getD c 0 ≤ 17592186044416 - more from fun c hcm => by
                                                by_cases e : c = m
                                                · subst e; rw [HXX.out]; omega
                                                · exact HM.out c (by omega))
                                              clear hown1 hgr1 HLx HBx HS HM HXX
                                              go_wp2_with fail
                                              go_roundg (gk - 1)
                                              case measure => omega
                                              case rel => exact ⟨m + 1, by omega, by go_num, HB1', HL1, HM1⟩
                                              --I}
                                        · obtain rfl : cN = m := by omega
                                          as_aux_lemma =>
                                            --J{
                                            obtain ⟨xs, hx, hi2⟩ := HOw.out
                                            have HX := Lib.hid (own_later hx HBx.out)
                                            have HI := Lib.hid (show ∀ i, i < k → ∃ u, xs[i]? = some u ∧ wr.ownsRow Wz.heap.size 3 1 u (hiG G more i).length ((hiG G more i).map (Value.int .i64)) from fun i hlt => by obtain ⟨u, e, ho⟩ := hi2 i hlt; exact ⟨u, e, own_later ho HBx.out⟩)
                                            obtain ⟨Aq, cq, rfl⟩ := own_frm HLx.out
                                            have HLo := Lib.hid (show wr.ownsRow Wz.heap.size 3 1 (.slice Aq cN cq) (hiG G more k).length ((hiG G more k).map (Value.int .i64)) from by
                                              have h := own_low (base := Wz.heap.size) HLx.out HB.out.size
                                              have e1 : hiL (G k) more cN = hiG G more k := by rw [← HGl.out, hiL_all]; rfl
                                              have e2 : (hiG G more k).length = cN := by simp [hiG, HGl.out]
                                              rw [e1] at h
                                              rw [e2]; exact h)
                                            have HBx2 := Lib.hid (Below.next' HB.out HBx.out HB.out.size)
                                            have HL1 := Lib.hid (show ∀ r, r < k + 1 → ∀ c, c < (G r).length → (G r).getD c 0 ≤ 17592186044416 - more from fun r hr c hc => by
                                              by_cases e : r = k
                                              · subst e; exact HM.out c (by rw [HGl.out] at hc; exact hc)
                                              · exact HL.out r (by omega) c hc)
                                            clear hx hi2 HOw HLx HB HBx HM HL
                                            go_wp2_with (at_builtin; go_must (refine wpList_append_own _ rfl (.tmp 235) (.tmp 237) 22 rfl Wz.heap.size 23 i1 _ 1 24 Try.underlying22 hi1 hy0 hy1 hy2 rfl (by omega) u26 k xs rfl (HX.out.alloc _) _ 1 _ [.slice Aq cN cq] rfl rfl ?_ ?_ ?_ ?_ ?_ ?_))
                                            · exact cells_new _ _ _ _ (by simp)
                                            · intro u hu; simp only [List.mem_cons, List.not_mem_nil, or_false] at hu; subst hu; rfl
                                            · simp only [maxLen]; omega
                                            · omega
                                            · have := HBx2.out.size; simp; omega
                                            intro v3 w3 hown3 hgrow3 _
                                            have hsx := HBx2.out.size
                                            have HGO := Lib.hid (gown_push (w := wr.alloc (.cells #[.slice Aq cN cq] 23)) (n := k) (G := hiG G more) (HX.out.alloc _) (fun i hlt => by obtain ⟨u, e, ho⟩ := HI.out i hlt; exact ⟨u, e, ho.alloc _⟩) (HLo.out.alloc _) hown3 hgrow3)
                                            have HB3 := Lib.hid (below_grown (e := 23) (s := 1) (n := k) (v := u26) (xs := xs) (HBx2.out.alloc hsx (.cells #[.slice Aq cN cq] 23)) (by simp; omega) (HX.out.alloc _) hgrow3)
                                            clear hown3 hgrow3 HX HI HLo HBx2
                                            go_wp2_with fail
                                            go_roundg gf
                                            case measure => omega
                                            case rel => exact ⟨k + 1, by omega, by go_num, HB3, HGO, HL1⟩
                                            --J}
                                    · obtain rfl : cN = k := by omega
                                      as_aux_lemma =>
                                        --K{
                                        obtain ⟨A5, c5, rfl, hgr⟩ := HOw.out.row
                                        have C9 := Lib.hid (bx_of (cap := c5) hgr (HC.out.hi (by omega) HL.out) (HO.out.hi HC.out (by omega)))
                                        have HBa := Lib.hid (show Below W.heap.size W wr from Below.next' HBz.out HB.out HBz.out.size)
                                        have HXr := Lib.hid (show ∀ g, Below W.heap.size W (xt wr g) from fun g => Below.xt HBa.out HBa.out.size g)
                                        have HA := HAz.out.below HB.out HAz.out.lt
                                        obtain ⟨a0, a1, a2, _, _, _, aO⟩ := HA.f3
                                        obtain ⟨t1, t2, t3, t4⟩ := HMB.out
                                        obtain ⟨p, hp⟩ : ∃ p, (cN : Int) * more = p := ⟨_, rfl⟩
                                        have hp1 : 0 ≤ p := by rw [← hp]; exact Int.mul_nonneg (by omega) (by omega)
                                        have hp2 : p ≤ 8 * 1000000 := by rw [← hp]; exact Int.mul_le_mul (by omega) (by omega) (by omega) (by omega)
                                        rw [hp] at C9
                                        clear HOw HL HB HA hgr HGz HAz HBz
                                        go_wp2_with (first | (go_at_call 9; refine (RetB.grown (known_any _)).mono ?_; rintro e' w' ⟨rfl, gk, rfl⟩) | (go_at_call 13; refine C9.out.mono ?_; rintro e' w' ⟨A, m, c, A1', m1', c1', A2', m2', c2', A3', m3', c3', A4', m4', c4', rfl, g9, rfl⟩))
                                        go_ret
                                        exact ⟨rfl, by
                                          have hb := HXr.out g9
                                          have hs := hb.size
                                          have hs0 := HBa.out.size
                                          exact Below.xt ((hb.alloc (by omega) _).alloc (by simp; omega) _) (by simp; omega) _⟩
                                        --K}
                                  --G}
                · skip
                  as_aux_lemma =>
                    --Z{
                    have d5 : decide (12 < lN) = true := by simpa using h5
                    go_enter Try.func4, Try.ntmps4
                    go_wp2_with (first | (go_at_call 8; refine C0.out.mono ?_; rintro e' w' ⟨rfl, rfl⟩) | (go_at_call 11; refine C1.out.mono ?_; rintro e' w' ⟨rfl, rfl⟩) | (go_at_call 9; refine (RetB.grown (known_any _)).mono ?_; rintro e' w' ⟨rfl, gk, rfl⟩))
                    go_ret; exact ⟨rfl, (by repeat' (first | exact Below.refl _ _ | assumption | refine Below.xt ?_ ?_ _ | refine Below.alloc ?_ ?_ _ | refine Below.drew ?_ | refine Below.setCell ?_ ?_ _ | (simp; done) | (simp; omega)))⟩
                    --Z}
              · skip
                as_aux_lemma =>
                  --Z{
                  have d4 : decide (12 < pN') = true := by simpa using h4
                  go_enter Try.func4, Try.ntmps4
                  go_wp2_with (first | (go_at_call 8; refine C0.out.mono ?_; rintro e' w' ⟨rfl, rfl⟩) | (go_at_call 11; refine C1.out.mono ?_; rintro e' w' ⟨rfl, rfl⟩) | (go_at_call 9; refine (RetB.grown (known_any _)).mono ?_; rintro e' w' ⟨rfl, gk, rfl⟩))
                  go_ret; exact ⟨rfl, (by repeat' (first | exact Below.refl _ _ | assumption | refine Below.xt ?_ ?_ _ | refine Below.alloc ?_ ?_ _ | refine Below.drew ?_ | refine Below.setCell ?_ ?_ _ | (simp; done) | (simp; omega)))⟩
                  --Z}
            · skip
              as_aux_lemma =>
                --Z{
                have d3 : decide (12 < pN) = true := by simpa using h3
                go_enter Try.func4, Try.ntmps4
                go_wp2_with (first | (go_at_call 8; refine C0.out.mono ?_; rintro e' w' ⟨rfl, rfl⟩) | (go_at_call 11; refine C1.out.mono ?_; rintro e' w' ⟨rfl, rfl⟩) | (go_at_call 9; refine (RetB.grown (known_any _)).mono ?_; rintro e' w' ⟨rfl, gk, rfl⟩))
                go_ret; exact ⟨rfl, (by repeat' (first | exact Below.refl _ _ | assumption | refine Below.xt ?_ ?_ _ | refine Below.alloc ?_ ?_ _ | refine Below.drew ?_ | refine Below.setCell ?_ ?_ _ | (simp; done) | (simp; omega)))⟩
                --Z}
          · skip
            as_aux_lemma =>
              --Z{
              have d2 : decide (12 < pN3) = true := by simpa using h2
              go_enter Try.func4, Try.ntmps4
              go_wp2_with (first | (go_at_call 8; refine C0.out.mono ?_; rintro e' w' ⟨rfl, rfl⟩) | (go_at_call 11; refine C1.out.mono ?_; rintro e' w' ⟨rfl, rfl⟩) | (go_at_call 9; refine (RetB.grown (known_any _)).mono ?_; rintro e' w' ⟨rfl, gk, rfl⟩))
              go_ret; exact ⟨rfl, (by repeat' (first | exact Below.refl _ _ | assumption | refine Below.xt ?_ ?_ _ | refine Below.alloc ?_ ?_ _ | refine Below.drew ?_ | refine Below.setCell ?_ ?_ _ | (simp; done) | (simp; omega)))⟩
              --Z}
        · skip
          as_aux_lemma =>
            --Z{
            have d1 : decide (12 < pN2) = true := by simpa using h1
            go_enter Try.func4, Try.ntmps4
            go_wp2_with (first | (go_at_call 8; refine C0.out.mono ?_; rintro e' w' ⟨rfl, rfl⟩) | (go_at_call 11; refine C1.out.mono ?_; rintro e' w' ⟨rfl, rfl⟩) | (go_at_call 9; refine (RetB.grown (known_any _)).mono ?_; rintro e' w' ⟨rfl, gk, rfl⟩))
            go_ret; exact ⟨rfl, (by repeat' (first | exact Below.refl _ _ | assumption | refine Below.xt ?_ ?_ _ | refine Below.alloc ?_ ?_ _ | refine Below.drew ?_ | refine Below.setCell ?_ ?_ _ | (simp; done) | (simp; omega)))⟩
            --Z}
      · skip
        as_aux_lemma =>
          --Z{
          have d0 : decide (12 < aN) = true := by simpa using h0
          go_enter Try.func4, Try.ntmps4
          go_wp2_with (first | (go_at_call 8; refine C0.out.mono ?_; rintro e' w' ⟨rfl, rfl⟩) | (go_at_call 11; refine C1.out.mono ?_; rintro e' w' ⟨rfl, rfl⟩) | (go_at_call 9; refine (RetB.grown (known_any _)).mono ?_; rintro e' w' ⟨rfl, gk, rfl⟩))
          go_ret; exact ⟨rfl, (by repeat' (first | exact Below.refl _ _ | assumption | refine Below.xt ?_ ?_ _ | refine Below.alloc ?_ ?_ _ | refine Below.drew ?_ | refine Below.setCell ?_ ?_ _ | (simp; done) | (simp; omega)))⟩
          --Z}
end Go.Proofs.Ytjiknjcmfiapjaa

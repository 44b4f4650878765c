/- Walk of the law MatchingHolds. Conditions stand in each theorem. -/
import Derived.Test.YtkabknmhbjmmcaaMatC3
import Derived.Test.YtkabknmhbjmmcaaMatL2
import Derived.Deep.DeepCutAuto
namespace Go.Proofs.Ytkabknmhbjmmcaa
open Go.RowKit
set_option linter.unusedVariables false
set_option linter.unusedSimpArgs false

def edg (G : Nat → List Int) (a b i k : Nat) : Bool := hs (G i) (k : Int) || (decide (i = a) && decide (k = b))
def CutR (W9 : World) (s : Value) (wx : World) : Prop := s = .bool false ∧ ∃ g, wx = Go.Proofs.Ytkabknmhbjmmcaa.xt W9 g
set_option maxRecDepth 100000 in
set_option maxHeartbeats 12800000 in
theorem MatchingHolds_walk (A : Option Addr) (nL cap : Nat) (R : Int) (M : Option Addr) (k0 c0 : Nat) (L0 : Option Addr) (kl cl0 : Nat) (R0 : Option Addr) (kr cr0 : Nat) (left right : Int) (W : World) (og : GraphOk W A nL cap R) (om : IntsOk W M k0 c0) (ocl : IntsOk W L0 kl cl0) (ocr : IntsOk W R0 kr cr0) (ole : I64 left) (ori : I64 right) :
    Calls Try.prog 8 #[.agg #[.slice A nL cap, .int .i64 R], .slice M k0 c0, .agg #[.slice L0 kl cl0, .slice R0 kr cr0], .int .i64 left, .int .i64 right] W (RetB (.bool true) W) := by
  obtain ⟨G, g1, g2, g3, g4, g5⟩ := og
  obtain ⟨m, rfl, m2, m3, m4, m5⟩ := om
  obtain ⟨cl, rfl, l2, l3, l4, l5⟩ := ocl
  obtain ⟨cr, rfl, r2, r3, r4, r5⟩ := ocr
  obtain ⟨i0, hi0, hz0, hz1, hz2⟩ := info_parts infoInt
  obtain ⟨i1, hi1, hy0, hy1, hy2⟩ := info_parts infoRow
  have CS := fun w h => small_any A nL cap 12 R G w g1 (fun i hi => (g2 i hi).1) h
  have HG := Lib.hid g3
  have HM := Lib.hid m5
  have HL := Lib.hid l5
  have HR := Lib.hid r5
  unfold maxLen at m2 l2 r2
  clear g3 m4 m5 l4 l5 r4 r5
  rcases Bool.eq_false_or_eq_true (smB G nL 12) with s1 | s1
  · obtain ⟨b1, b2⟩ := smB_len s1 (by omega)
    have hn12 := (smB_iff.1 s1).2
    rw [s1] at CS
    have HS := fun w h => Lib.hid (CS w h)
    have C1 := fun w h => refValid_any A nL cap R G w b1 b2 h
    have HLn := Lib.hid b2
    clear CS g2 s1
    rcases Bool.eq_false_or_eq_true (vld G nL R) with hv | hv
    · have V := (vld_iff G).1 hv
      have hv0 := V.h0
      have hv1 := V.hR
      obtain ⟨r, rfl⟩ : ∃ r : Nat, R = (r : Int) := ⟨R.toNat, by omega⟩
      have hcg : ∀ i, i < nL → (G i).length ≤ 200 := fun i hi => by have := inc_len (V.inc i hi) V.h0; omega
      rw [hv] at C1
      have HV := fun w h => Lib.hid (C1 w h)
      clear C1
      by_cases hb : r ≤ 15 ∧ m.length ≤ 20 ∧ cl.length ≤ 20 ∧ cr.length ≤ 20
      · obtain ⟨hb1, hb2, hb3, hb4⟩ := hb
        have d1 : decide ((15 : Int) < (r : Int)) = false := by simp; omega
        have d2 : decide ((20 : Int) < (m.length : Int)) = false := by simp; omega
        have d3 : decide ((20 : Int) < (cl.length : Int)) = false := by simp; omega
        have d4 : decide ((20 : Int) < (cr.length : Int)) = false := by simp; omega
        have hgl : (grt G nL).length ≤ 1000 := by rw [grt_len]; omega
        have hL1 : (cvL G nL).length ≤ 1000 := by have := inc_len (cvL_inc G nL) (by omega); omega
        have hR1 : (cvR G nL r).length ≤ 1000 := by have := inc_len (cvR_inc G nL r) (by omega); omega
        have K1 := fun w h => Lib.hid (Greatest_ok A nL cap r G w h hv)
        have K2 := fun w h => Lib.hid (Cover_ok A nL cap r G w h hv)
        have K3 := fun w h => Size_ok A nL cap r G w h hv
        have K4 := fun w h => Lib.hid (Turn_any A nL cap r G w (by omega) (by omega) HLn.out h)
        have K5 := fun A c w h => Size_ok A r c nL (trn G nL) w h (trn_vld G hv)
        rw [trn_size G hv] at K5
        have K6 := fun M cM A1 c1 A3 c3 w hg hm ha hb => Check_ok A M A1 A3 nL cap (grt G nL).length cM (cvL G nL).length c1 (cvR G nL r).length c3 r G (grt G nL) (cvL G nL) (cvR G nL r) w hg rfl hgl hm rfl hL1 ha rfl hR1 hb hv
        rw [prE_yes (prv_ok G hv)] at K6
        have K7 := fun M cM w hm => Count_any M cM (grt G nL) w hgl hm
        rw [grt_cnt] at K7
        have X1 := fun w hg hm => refMatching_any A M nL cap m.length c0 r G m w b1 HLn.out hg rfl (by omega) m3 hm
        have X2 := fun w hm => Count_any M c0 m w (by omega) hm
        have X3 := fun w hg ha hb => refCovers_any A L0 R0 nL cap cl.length cl0 cr.length cr0 r G cl cr w b1 HLn.out hg rfl (by omega) ha rfl (by omega) hb
        have X4 : matB G nL m = true → cnt m ≤ sizeV G nL := fun h => matB_le G hv h
        have X5 : covB G nL r cl cr = true → sizeV G nL ≤ cl.length + cr.length := fun h => covB_ge G hv h
        have X6 : cnt m ≤ m.length := cntp_le _ _
        have X8 : sizeV G nL ≤ nL := cntp_le _ _
        have X7 := fun a b => Lib.hid (mor_size (left := a) (right := b) G hv)
        have X9 := fun a b => Lib.hid (mor_vld (left := a) (right := b) G hv)
        clear hv V hgl hL1 hR1
        generalize grt G nL = gl at *
        generalize cvL G nL = gcl at *
        generalize cvR G nL r = gcr at *
        generalize sizeV G nL = z at *
        generalize matB G nL m = mb at *
        generalize covB G nL r cl cr = cb at *
        generalize cnt m = cm at *
        have H3 := fun w h => Lib.hid (K3 w h)
        have H5 := fun A c w h => Lib.hid (K5 A c w h)
        have H6 := fun M cM A1 c1 A3 c3 w hg hm ha hb => Lib.hid (K6 M cM A1 c1 A3 c3 w hg hm ha hb)
        have H7 := fun M cM w hm => Lib.hid (K7 M cM w hm)
        have Y1 := fun w hg hm => Lib.hid (X1 w hg hm)
        have Y2 := fun w hm => Lib.hid (X2 w hm)
        have Y3 := fun w hg ha hb => Lib.hid (X3 w hg ha hb)
        have Y4 := Lib.hid X4
        have Y5 := Lib.hid X5
        clear K3 K5 K6 K7 X1 X2 X3 X4 X5
        go_enter Try.func8, Try.ntmps8
        go_wp2_with (first | (go_at_call 9; refine (RetB.grown (HS _ (by repeat (first | (with_reducible exact HG.out) | (with_reducible refine GRow.xt ?_ _) | (with_reducible refine GRow.alloc ?_ _) | (with_reducible refine GRow.drew ?_)))).out).mono ?_; rintro e' w' ⟨rfl, ga, rfl⟩) | (go_at_call 11; refine (RetB.grown (HV _ (by repeat (first | (with_reducible exact HG.out) | (with_reducible refine GRow.xt ?_ _) | (with_reducible refine GRow.alloc ?_ _) | (with_reducible refine GRow.drew ?_)))).out).mono ?_; rintro e' w' ⟨rfl, gb, rfl⟩))
        refine (K1 _ (by repeat (first | (with_reducible exact HG.out) | (with_reducible refine GRow.xt ?_ _) | (with_reducible refine GRow.alloc ?_ _) | (with_reducible refine GRow.drew ?_)))).out.mono ?_
        rintro e' w' ⟨A1, c1, rfl, hc1, hbel, hr⟩
        obtain ⟨gc, rfl⟩ := xt_of_below hbel
        have HX1 := Lib.hid hr
        clear hbel hr K1
        go_wp2_with fail
        refine (K2 _ (by repeat (first | (with_reducible exact HG.out) | (with_reducible refine GRow.xt ?_ _) | (with_reducible refine GRow.alloc ?_ _) | (with_reducible refine GRow.drew ?_)))).out.mono ?_
        rintro e' w' ⟨A2, c2, A3, c3, rfl, hc2, hc3, hbel, hr1, hr3⟩
        obtain ⟨gd, rfl⟩ := xt_of_below hbel
        have HA1 := Lib.hid hr1
        have HB1 := Lib.hid hr3
        clear hbel hr1 hr3 K2
        go_wp2_with (go_at_call 18; refine (RetB.grown (H3 _ (by repeat (first | (with_reducible exact HG.out) | (with_reducible refine GRow.xt ?_ _) | (with_reducible refine GRow.alloc ?_ _) | (with_reducible refine GRow.drew ?_)))).out).mono ?_; rintro e' w' ⟨rfl, ge, rfl⟩)
        refine (K4 _ (by repeat (first | (with_reducible exact HG.out) | (with_reducible refine GRow.xt ?_ _) | (with_reducible refine GRow.alloc ?_ _) | (with_reducible refine GRow.drew ?_)))).out.mono ?_
        rintro e' w' ⟨AT, cT, rfl, hbel, hgt⟩
        obtain ⟨gf, rfl⟩ := xt_of_below hbel
        have HT := Lib.hid hgt
        clear hbel hgt K4 H3
        go_wp2_with fail
        refine (RetB.grown (H5 _ _ _ HT.out).out).mono ?_
        rintro e' w' ⟨rfl, gg, rfl⟩
        clear H5 HT
        go_upto_region 9 with (first
          | (go_at_call 15; refine (RetB.grown (H6 _ _ _ _ _ _ _ (by repeat (first | (with_reducible exact HG.out) | (with_reducible refine GRow.xt ?_ _) | (with_reducible refine GRow.alloc ?_ _) | (with_reducible refine GRow.drew ?_))) (by repeat (first | (with_reducible exact HX1.out) | (with_reducible refine RowI.xt ?_ _) | (with_reducible refine RowI.alloc ?_ _) | (with_reducible refine RowI.drew ?_))) (by repeat (first | (with_reducible exact HA1.out) | (with_reducible refine RowI.xt ?_ _) | (with_reducible refine RowI.alloc ?_ _) | (with_reducible refine RowI.drew ?_))) (by repeat (first | (with_reducible exact HB1.out) | (with_reducible refine RowI.xt ?_ _) | (with_reducible refine RowI.alloc ?_ _) | (with_reducible refine RowI.drew ?_)))).out).mono ?_; rintro e' w' ⟨rfl, gh, rfl⟩)
          | (go_at_call 20; refine (H7 _ _ _ (by repeat (first | (with_reducible exact HX1.out) | (with_reducible refine RowI.xt ?_ _) | (with_reducible refine RowI.alloc ?_ _) | (with_reducible refine RowI.drew ?_)))).out.mono ?_; rintro e' w' ⟨rfl, rfl⟩))
        clear H6 H7 HX1 HA1 HB1
        obtain ⟨W9, hW9, HB9, HG9, HM9, HL9, HR9, f0, f1, f2, f3, o0, o1⟩ : ∃ W9, (xt (xt (xt (xt ((xt (xt (xt (xt ((W.alloc (.cells #[.slice A nL cap, .int .i64 (r : Int)] 24)).alloc (.cells #[.slice L0 cl.length cl0, .slice R0 cr.length cr0] 32)) ga) gb) gc) gd).alloc (.cells #[.slice A2 gcl.length c2, .slice A3 gcr.length c3] 32)) ge) gf) gg) gh) = W9 ∧ Hid (Below W.heap.size W W9) ∧ Hid (GRow W9 A nL G) ∧ Hid (RowI W9 M m) ∧ Hid (RowI W9 L0 cl) ∧ Hid (RowI W9 R0 cr) ∧ W9.cell? ⟨W.heap.size, 0, none⟩ = some (.slice A nL cap) ∧ W9.cell? ⟨W.heap.size, 1, none⟩ = some (.int .i64 (r : Int)) ∧ W9.cell? ⟨W.heap.size + 1, 0, none⟩ = some (.slice L0 cl.length cl0) ∧ W9.cell? ⟨W.heap.size + 1, 1, none⟩ = some (.slice R0 cr.length cr0) ∧ old W.heap.size W9 ∧ old (W.heap.size + 1) W9 :=
          ⟨_, rfl, Lib.hid (by repeat' (first | exact Below.refl _ _ | assumption | refine Below.xt ?_ ?_ _ | refine Below.alloc ?_ ?_ _ | refine Below.drew ?_ | refine Below.setCell ?_ ?_ _ | (simp; done) | (simp; omega))), Lib.hid (by repeat (first | (with_reducible exact HG.out) | (with_reducible refine GRow.xt ?_ _) | (with_reducible refine GRow.alloc ?_ _) | (with_reducible refine GRow.drew ?_))), Lib.hid (by repeat (first | (with_reducible exact HM.out) | (with_reducible refine RowI.xt ?_ _) | (with_reducible refine RowI.alloc ?_ _) | (with_reducible refine RowI.drew ?_))), Lib.hid (by repeat (first | (with_reducible exact HL.out) | (with_reducible refine RowI.xt ?_ _) | (with_reducible refine RowI.alloc ?_ _) | (with_reducible refine RowI.drew ?_))), Lib.hid (by repeat (first | (with_reducible exact HR.out) | (with_reducible refine RowI.xt ?_ _) | (with_reducible refine RowI.alloc ?_ _) | (with_reducible refine RowI.drew ?_))), by go_simp, by go_simp, by go_simp, by go_simp, by unfold old; simp; omega, by unfold old; simp; omega⟩
        rw [hW9]
        clear hW9 HG HM HL HR
        go_cut [133] from 109 to 132 (fun s wx => CutR W9 s wx)
        case first =>
          rcases Bool.eq_false_or_eq_true mb with e1 | e1 <;> rcases Bool.eq_false_or_eq_true cb with e2 | e2
          all_goals
            have t1 : mb = true → decide (z < cm) = false := fun h => by have := Y4.out h; simp; omega
            have t2 : cb = true → decide ((cl.length : Int) + (cr.length : Int) < (z : Int)) = false := fun h => by have := Y5.out h; simp; omega
            subst e1 e2
            have t3 := Lib.hid t1
            have t4 := Lib.hid t2
            clear t1 t2
            first | have t5 := t3.out rfl | skip
            first | have t6 := t4.out rfl | skip
            go_wp2_with (first
              | (go_at_call 14; refine (RetB.grown (Y1 _ HG9.out HM9.out).out).mono ?_; rintro e' w' ⟨rfl, gh, rfl⟩)
              | (go_at_call 20; refine (Y2 _ (HM9.out.xt _)).out.mono ?_; rintro e' w' ⟨rfl, rfl⟩)
              | (go_at_call 22; refine (RetB.grown (Y3 _ (HG9.out.xt _) (HL9.out.xt _) (HR9.out.xt _)).out).mono ?_; rintro e' w' ⟨rfl, gi, rfl⟩))
            go_meet
            exact ⟨rfl, xt_of_below (show Below W9.heap.size W9 _ from (by repeat' (first | exact Below.refl _ _ | assumption | refine Below.xt ?_ ?_ _ | refine Below.alloc ?_ ?_ _ | refine Below.drew ?_ | refine Below.setCell ?_ ?_ _ | (simp; done) | (simp; omega))))⟩
        case rest =>
          obtain ⟨rfl, g9, rfl⟩ := hcut
          clear Y1 Y2 Y3 Y4 Y5
          obtain ⟨Wm, hWm, HBm, HGm, f0, f1, o0⟩ : ∃ Wm, xt W9 g9 = Wm ∧ Hid (Below W.heap.size W Wm) ∧ Hid (GRow Wm A nL G) ∧ Wm.cell? ⟨W.heap.size, 0, none⟩ = some (.slice A nL cap) ∧ Wm.cell? ⟨W.heap.size, 1, none⟩ = some (.int .i64 (r : Int)) ∧ old W.heap.size Wm :=
            ⟨_, rfl, Lib.hid (Below.xt HB9.out HB9.out.size _), Lib.hid (HG9.out.xt _), by go_simp, by go_simp, by rw [old_xt]; exact .inl o0⟩
          rw [hWm]
          clear hWm HB9 HG9 HM9 HL9 HR9 f2 f3 o1
          have hbm := HBm.out
          have hsm := HBm.out.size
          have KNW := fun w => known_any w
          by_cases p1 : left < 0
          · have q1 : decide (left < 0) = true := by simpa using p1
            go_wp2_with (go_at_call 10; refine (RetB.grown (KNW _)).mono ?_; rintro e' w' ⟨rfl, g, rfl⟩)
            go_ret
            exact RetB.of rfl (by repeat' (first | exact Below.refl _ _ | assumption | refine Below.xt ?_ ?_ _ | refine Below.alloc ?_ ?_ _ | refine Below.drew ?_ | refine Below.setCell ?_ ?_ _ | (simp; done) | (simp; omega)))
          · have q1 : decide (left < 0) = false := by simpa using p1
            obtain ⟨a, rfl⟩ : ∃ a : Nat, left = (a : Int) := ⟨left.toNat, by omega⟩
            by_cases p2 : nL ≤ a
            · have q2 : decide (nL ≤ a) = true := by simpa using p2
              go_wp2_with (go_at_call 10; refine (RetB.grown (KNW _)).mono ?_; rintro e' w' ⟨rfl, g, rfl⟩)
              go_ret
              exact RetB.of rfl (by repeat' (first | exact Below.refl _ _ | assumption | refine Below.xt ?_ ?_ _ | refine Below.alloc ?_ ?_ _ | refine Below.drew ?_ | refine Below.setCell ?_ ?_ _ | (simp; done) | (simp; omega)))
            · have q2 : decide (nL ≤ a) = false := by simpa using p2
              by_cases p3 : right < 0
              · have q3 : decide (right < 0) = true := by simpa using p3
                go_wp2_with (go_at_call 10; refine (RetB.grown (KNW _)).mono ?_; rintro e' w' ⟨rfl, g, rfl⟩)
                go_ret
                exact RetB.of rfl (by repeat' (first | exact Below.refl _ _ | assumption | refine Below.xt ?_ ?_ _ | refine Below.alloc ?_ ?_ _ | refine Below.drew ?_ | refine Below.setCell ?_ ?_ _ | (simp; done) | (simp; omega)))
              · have q3 : decide (right < 0) = false := by simpa using p3
                obtain ⟨b, rfl⟩ : ∃ b : Nat, right = (b : Int) := ⟨right.toNat, by omega⟩
                by_cases p4 : r ≤ b
                · have q4 : decide (r ≤ b) = true := by simpa using p4
                  go_wp2_with (go_at_call 10; refine (RetB.grown (KNW _)).mono ?_; rintro e' w' ⟨rfl, g, rfl⟩)
                  go_ret
                  exact RetB.of rfl (by repeat' (first | exact Below.refl _ _ | assumption | refine Below.xt ?_ ?_ _ | refine Below.alloc ?_ ?_ _ | refine Below.drew ?_ | refine Below.setCell ?_ ?_ _ | (simp; done) | (simp; omega)))
                · have q4 : decide (r ≤ b) = false := by simpa using p4
                  obtain ⟨gb, go, rfl, hgo, hgc⟩ := HGm.out.top (by omega)
                  obtain ⟨Ai, ci, hgi, hrow⟩ := hgc a (by omega)
                  have CH := Has_any Ai (G a).length ci (G a) (b : Int) Wm rfl (HLn.out a (by omega)) hrow
                  clear hgc hrow
                  rcases Bool.eq_false_or_eq_true (hs (G a) (b : Int)) with p5 | p5
                  · rw [p5] at CH
                    have HCH := Lib.hid CH
                    clear CH p5
                    go_wp2_with (first | (go_at_call 24; refine HCH.out.mono ?_; rintro e' w' ⟨rfl, rfl⟩) | (go_at_call 10; refine (RetB.grown (KNW _)).mono ?_; rintro e' w' ⟨rfl, g, rfl⟩))
                    go_ret
                    exact RetB.of rfl (by repeat' (first | exact Below.refl _ _ | assumption | refine Below.xt ?_ ?_ _ | refine Below.alloc ?_ ?_ _ | refine Below.drew ?_ | refine Below.setCell ?_ ?_ _ | (simp; done) | (simp; omega)))
                  · rw [p5] at CH
                    have HCH := Lib.hid CH
                    clear CH p5
                    go_wp2_with (go_at_call 24; refine HCH.out.mono ?_; rintro e' w' ⟨rfl, rfl⟩)
                    have HC := Lib.hid (show Blk (Wm.alloc (.cells #[.slice none 0 0, .int .i64 (r : Int)] 24)) Wm.heap.size #[.slice none 0 0, .int .i64 (r : Int)] 24 from Blk.new _ _ _ rfl)
                    have HB2 := Lib.hid (show Below Wm.heap.size Wm (Wm.alloc (.cells #[.slice none 0 0, .int .i64 (r : Int)] 24)) from (by repeat' (first | exact Below.refl _ _ | assumption | refine Below.xt ?_ ?_ _ | refine Below.alloc ?_ ?_ _ | refine Below.drew ?_ | refine Below.setCell ?_ ?_ _ | (simp; done) | (simp; omega))))
                    clear HCH
                    go_loopg [169] (nL) (fun gk i wr => ∃ (k : Nat) (vL : Value), k + gk = nL ∧ i = .int .i64 k ∧ Hid (Below Wm.heap.size Wm wr) ∧ Hid (Blk wr Wm.heap.size #[vL, .int .i64 (r : Int)] 24) ∧ Hid (GOwn wr (Wm.heap.size + 1) vL k (fun i => nums (edg G a b i) r)))
                    case atStart => exact ⟨0, _, by omega, rfl, HB2, HC, Lib.hid GOwn.nil⟩
                    case round =>
                      clear HC HB2
                      obtain ⟨k, vL, hk, rfl, HB2, HC, HO⟩ := hrel
                      obtain ⟨Wo, hWo⟩ : ∃ Wo, Wo = wr := ⟨_, rfl⟩
                      subst hWo
                      have e1 : Wo.cell? ⟨W.heap.size, 1, none⟩ = some (.int .i64 (r : Int)) := (HB2.out.cell (p := ⟨W.heap.size, 1, none⟩) o0).trans f1
                      have q0 : old W.heap.size Wo := Nat.lt_of_lt_of_le o0 HB2.out.size
                      have HGo := Lib.hid (HGm.out.below HB2.out)
                      by_cases hlt : k < nL
                      · obtain ⟨gf, rfl⟩ : ∃ gf, gk = gf + 1 := ⟨gk - 1, by omega⟩
                        obtain ⟨gb', go', e3, hgo', hgc⟩ := HGo.out.top (by omega)
                        injection e3 with e3
                        injection e3 with e3a e3b _
                        subst e3a e3b
                        obtain ⟨Bi, di, hbi, hbrow⟩ := hgc k hlt
                        have HRb := Lib.hid hbrow
                        have hlk := HLn.out k hlt
                        clear hgc hbrow
                        go_wp2_with fail
                        go_loopg [22, 23] (r) (fun gk l j wr => ∃ (m : Nat), m + gk = r ∧ j = .int .i64 m ∧ Hid (Below Wo.heap.size Wo wr) ∧ Hid (wr.ownsRow Wo.heap.size 3 1 l (nums (edg G a b k) m).length ((nums (edg G a b k) m).map (Value.int .i64))))
                        case atStart => exact ⟨0, by omega, rfl, Lib.hid (Below.refl _ _), Lib.hid own_nil⟩
                        case round =>
                          obtain ⟨m', hm, rfl, HBx, HL⟩ := hrel
                          have x0 : wr.cell? ⟨W.heap.size, 1, none⟩ = some (.int .i64 (r : Int)) := (HBx.out.cell (p := ⟨W.heap.size, 1, none⟩) q0).trans e1
                          have x9 : old W.heap.size wr := Nat.lt_of_lt_of_le q0 HBx.out.size
                          by_cases hlt2 : m' < r
                          · have hle := nums_len (edg G a b k) m'
                            have CH := Has_any Bi (G k).length di (G k) (m' : Int) wr rfl hlk (HRb.out.below HBx.out)
                            have hedg : edg G a b k m' = (hs (G k) (m' : Int) || (decide (k = a) && decide (m' = b))) := rfl
                            rcases Bool.eq_false_or_eq_true (edg G a b k m') with hp | hp
                            · have hw : (hs (G k) (m' : Int) = true) ∨ (hs (G k) (m' : Int) = false ∧ k = a ∧ m' = b) := by
                                rw [hp] at hedg
                                rcases Bool.eq_false_or_eq_true (hs (G k) (m' : Int)) with h | h
                                · exact .inl h
                                · rw [h, Bool.false_or] at hedg
                                  have := hedg.symm
                                  simp only [Bool.and_eq_true, decide_eq_true_eq] at this
                                  exact .inr ⟨h, this⟩
                              have HSN := Lib.hid (nums_yes hp)
                              clear hp hedg
                              rcases hw with h | ⟨h, w1, w2⟩
                              · rw [h] at CH
                                have HCH := Lib.hid CH
                                clear h CH
                                generalize nums (edg G a b k) m' = L at *
                                (go_wp2_with (first | (go_at_call 24; refine HCH.out.mono ?_; rintro e' w' ⟨rfl, rfl⟩) | (at_builtin; go_must (refine wpList_append_own _ rfl _ _ 25 rfl Wo.heap.size 3 i0 _ 1 8 Try.underlying25 hi0 hz0 hz1 hz2 rfl (by omega) u22 L.length (L.map (Value.int .i64)) rfl (HL.out.alloc _) _ 1 _ [.int .i64 (m' : Int)] rfl rfl ?_ ?_ ?_ ?_ ?_ ?_))); (next => exact cells_new _ _ _ _ (by simp)); (next => (intro u hu; simp only [List.mem_cons, List.not_mem_nil, or_false] at hu; subst hu; rfl)); (next => (simp only [maxLen]; omega)); (next => omega); (next => (have := HBx.out.size; simp; omega)); intro v1 w1 hown1 hgr1 _; have hsx := HBx.out.size; have HB1' := Lib.hid (below_grown (n := L.length) (v := u22) (xs := L.map (Value.int .i64)) (e := 3) (s := 1) (HBx.out.alloc hsx _) (by simp; omega) (HL.out.alloc _) hgr1); have HL1 := Lib.hid (show w1.ownsRow Wo.heap.size 3 1 v1 (nums (edg G a b k) (m' + 1)).length ((nums (edg G a b k) (m' + 1)).map (Value.int .i64)) by rw [HSN.out, ints_snoc, List.length_append]; exact hown1); clear hown1 hgr1 HL HBx HSN; go_wp2_with fail; go_roundg (gk - 1); (case measure => omega); (case rel => exact ⟨m' + 1, by omega, by go_num, HB1', HL1⟩))
                              · rw [h] at CH
                                have HCH := Lib.hid CH
                                have w3 : ((k : Int) == (a : Int)) = true := by rw [w1, beq_iff_eq]
                                have w4 : ((m' : Int) == (b : Int)) = true := by rw [w2, beq_iff_eq]
                                have W12 := Lib.hid (And.intro w1 w2)
                                clear h CH w1 w2
                                generalize nums (edg G a b k) m' = L at *
                                (go_wp2_with (first | (go_at_call 24; refine HCH.out.mono ?_; rintro e' w' ⟨rfl, rfl⟩) | (at_builtin; go_must (refine wpList_append_own _ rfl _ _ 25 rfl Wo.heap.size 3 i0 _ 1 8 Try.underlying25 hi0 hz0 hz1 hz2 rfl (by omega) u22 L.length (L.map (Value.int .i64)) rfl (HL.out.alloc _) _ 1 _ [.int .i64 (m' : Int)] rfl rfl ?_ ?_ ?_ ?_ ?_ ?_))); (next => exact cells_new _ _ _ _ (by simp)); (next => (intro u hu; simp only [List.mem_cons, List.not_mem_nil, or_false] at hu; subst hu; rfl)); (next => (simp only [maxLen]; omega)); (next => omega); (next => (have := HBx.out.size; simp; omega)); intro v1 w1 hown1 hgr1 _; have hsx := HBx.out.size; have HB1' := Lib.hid (below_grown (n := L.length) (v := u22) (xs := L.map (Value.int .i64)) (e := 3) (s := 1) (HBx.out.alloc hsx _) (by simp; omega) (HL.out.alloc _) hgr1); have HL1 := Lib.hid (show w1.ownsRow Wo.heap.size 3 1 v1 (nums (edg G a b k) (m' + 1)).length ((nums (edg G a b k) (m' + 1)).map (Value.int .i64)) by rw [HSN.out, ints_snoc, List.length_append]; exact hown1); clear hown1 hgr1 HL HBx HSN; go_wp2_with fail; go_roundg (gk - 1); (case measure => omega); (case rel => exact ⟨m' + 1, by omega, by go_num, HB1', HL1⟩))
                            · have hw : hs (G k) (m' : Int) = false ∧ (¬ k = a ∨ (k = a ∧ ¬ m' = b)) := by
                                rw [hp] at hedg
                                have := hedg.symm
                                simp only [Bool.or_eq_false_iff, Bool.and_eq_false_iff, decide_eq_false_iff_not] at this
                                exact ⟨this.1, by omega⟩
                              have HL1 := HL
                              rw [← nums_no hp] at HL1
                              rw [hw.1] at CH
                              have HCH := Lib.hid CH
                              obtain ⟨_, hw⟩ := hw
                              clear HL hp CH hedg
                              rcases hw with w1 | ⟨w1, w2⟩
                              · have w3 : ((k : Int) == (a : Int)) = false := by rw [beq_eq_false_iff_ne]; omega
                                go_wp2_with (go_at_call 24; refine HCH.out.mono ?_; rintro e' w' ⟨rfl, rfl⟩)
                                go_roundg (gk - 1)
                                case measure => omega
                                case rel => exact ⟨m' + 1, by omega, by go_num, HBx, HL1⟩
                              · have w3 : ((k : Int) == (a : Int)) = true := by rw [w1, beq_iff_eq]
                                have w4 : ((m' : Int) == (b : Int)) = false := by rw [beq_eq_false_iff_ne]; omega
                                have W1 := Lib.hid w1
                                clear w1
                                go_wp2_with (go_at_call 24; refine HCH.out.mono ?_; rintro e' w' ⟨rfl, rfl⟩)
                                go_roundg (gk - 1)
                                case measure => omega
                                case rel => exact ⟨m' + 1, by omega, by go_num, HBx, HL1⟩
                          · obtain rfl : m' = r := by omega
                            obtain ⟨xs, hx, hi⟩ := HO.out.below HBx.out
                            have HX := Lib.hid hx
                            have HI := Lib.hid hi
                            obtain ⟨Al, cl', rfl, hcl, hrl⟩ := own_row HL.out
                            have hCx := HC.out.below HBx.out HC.out.lt
                            have x1 : wr.cell? ⟨Wm.heap.size, 0, none⟩ = some vL := hCx.cell rfl
                            have x4 : old Wm.heap.size wr := hCx.lt
                            have HCx := Lib.hid hCx
                            have HLo := Lib.hid (own_low (base := Wm.heap.size + 1) HL.out (by have := HC.out.lt; omega))
                            have HBx2 := Lib.hid (Below.next' HB2.out HBx.out HB2.out.size)
                            clear hx hi hcl hrl hCx HO HL HBx HB2 HC e1
                            go_wp2_with (at_builtin; go_must (refine wpList_append_own _ rfl _ _ 22 rfl (Wm.heap.size + 1) 25 i1 _ 1 24 Try.underlying22 hi1 hy0 hy1 hy2 rfl (by omega) vL k xs rfl (HX.out.alloc _) _ 1 _ [.slice Al (nums (edg G a b k) m').length cl'] rfl rfl ?_ ?_ ?_ ?_ ?_ ?_))
                            · rfl
                            · simp only [maxLen]; omega
                            · omega
                            · have := HCx.out.lt; omega
                            intro v3 w3 hown3 hgrow3 _
                            have hB3 := (HCx.out.alloc (.cells #[.slice Al (nums (edg G a b k) m').length cl'] 25)).kept hgrow3 (fun e => by have := (HX.out.lt _ e.symm).1; omega)
                            obtain ⟨g3, cap3, rfl⟩ := own_form hown3
                            have t1 : w3.cell? ⟨Wm.heap.size, 0, none⟩ = some vL := hB3.cell rfl
                            have t2 : old Wm.heap.size w3 := hB3.lt
                            have t3 : w3.frozen? ⟨Wm.heap.size, 0, none⟩ = false := hB3.frozen
                            have HGO := Lib.hid ((gown_push (w := wr.alloc (.cells #[.slice Al (nums (edg G a b k) m').length cl'] 25)) (n := k) (G := fun i => nums (edg G a b i) m') (HX.out.alloc _) (fun i hlt => by obtain ⟨u, e, ho⟩ := HI.out i hlt; exact ⟨u, e, ho.alloc _⟩) (HLo.out.alloc _) hown3 hgrow3).set Wm.heap.size 0 (.slice (some ⟨g3, 0, none⟩) (k + 1) cap3) (by omega))
                            have HC3 := Lib.hid (show Blk (w3.setCell ⟨Wm.heap.size, 0, none⟩ (.slice (some ⟨g3, 0, none⟩) (k + 1) cap3)) Wm.heap.size #[.slice (some ⟨g3, 0, none⟩) (k + 1) cap3, .int .i64 (m' : Int)] 24 from hB3.set (k := 0) (.slice (some ⟨g3, 0, none⟩) (k + 1) cap3))
                            have HB3 := Lib.hid (show Below Wm.heap.size Wm (w3.setCell ⟨Wm.heap.size, 0, none⟩ (.slice (some ⟨g3, 0, none⟩) (k + 1) cap3)) from Below.setCell (below_grown (e := 25) (s := 1) (n := k) (v := vL) (xs := xs) (HBx2.out.alloc HBx2.out.size _) (by have := HBx2.out.size; simp; omega) (own_low (base' := Wm.heap.size + 1) (HX.out.alloc _) (by omega)) hgrow3) (Nat.le_refl _) _)
                            clear hown3 hgrow3 hB3 HX HI HLo HBx2 HCx
                            go_wp2_with fail
                            go_roundg gf
                            case measure => omega
                            case rel => exact ⟨k + 1, _, by omega, by go_num, HB3, HC3, HGO⟩
                      · obtain rfl : k = nL := by omega
                        obtain ⟨A4, c4, rfl, hrow⟩ := HO.out.row
                        have x1 : Wo.cell? ⟨Wm.heap.size, 0, none⟩ = some (.slice A4 k c4) := HC.out.cell rfl
                        have x2 : Wo.cell? ⟨Wm.heap.size, 1, none⟩ = some (.int .i64 (r : Int)) := HC.out.cell rfl
                        have x4 : old Wm.heap.size Wo := HC.out.lt
                        have hz := (X7 a b).out
                        have CZ := fun w h => Size_ok A4 k c4 r (mor G r a b) w h (X9 a b).out
                        have HGz := Lib.hid (show GRow Wo A4 k (mor G r a b) from hrow)
                        have hbo := Below.next' hbm HB2.out hsm
                        have hso := HB2.out.size
                        have hso2 : W.heap.size ≤ Wo.heap.size := by omega
                        obtain ⟨z2, hz2'⟩ : ∃ z2, sizeV (mor G r a b) k = z2 := ⟨_, rfl⟩
                        rw [hz2'] at hz CZ
                        have HCZ := fun w h => Lib.hid (CZ w h)
                        clear hrow HO HB2 HC X7 X9 CZ hz2'
                        rcases hz with rfl | rfl
                        · go_wp2_with (first | (go_at_call 18; refine (RetB.grown (HCZ _ HGz.out).out).mono ?_; rintro e' w' ⟨rfl, g, rfl⟩) | (go_at_call 10; refine (RetB.grown (KNW _)).mono ?_; rintro e' w' ⟨rfl, g, rfl⟩))
                          go_ret
                          exact RetB.of rfl (by repeat' (first | exact Below.refl _ _ | assumption | refine Below.xt ?_ ?_ _ | refine Below.alloc ?_ ?_ _ | refine Below.drew ?_ | refine Below.setCell ?_ ?_ _ | (simp; done) | (simp; omega)))
                        · have u1 : (((z + 1 : Nat) : Int) == (z : Int)) = false := by rw [beq_eq_false_iff_ne]; omega
                          have u2 : ((z : Int) + 1 == (z : Int)) = false := by rw [beq_eq_false_iff_ne]; omega
                          go_wp2_with (first | (go_at_call 18; refine (RetB.grown (HCZ _ HGz.out).out).mono ?_; rintro e' w' ⟨rfl, g, rfl⟩) | (go_at_call 10; refine (RetB.grown (KNW _)).mono ?_; rintro e' w' ⟨rfl, g, rfl⟩))
                          go_ret
                          exact RetB.of rfl (by repeat' (first | exact Below.refl _ _ | assumption | refine Below.xt ?_ ?_ _ | refine Below.alloc ?_ ?_ _ | refine Below.drew ?_ | refine Below.setCell ?_ ?_ _ | (simp; done) | (simp; omega)))
      · have hb' : 15 < r ∨ (r ≤ 15 ∧ (20 < m.length ∨ (m.length ≤ 20 ∧ (20 < cl.length ∨ (cl.length ≤ 20 ∧ 20 < cr.length))))) := by omega
        clear hb hv V
        rcases hb' with h | ⟨h0, h | ⟨h1, h | ⟨h2, h⟩⟩⟩
        · have d1 : decide ((15 : Int) < (r : Int)) = true := by simp; omega
          (go_enter Try.func8, Try.ntmps8; go_wp2_with (first | (go_at_call 9; refine (RetB.grown (HS _ (by repeat (first | (with_reducible exact HG.out) | (with_reducible refine GRow.xt ?_ _) | (with_reducible refine GRow.alloc ?_ _) | (with_reducible refine GRow.drew ?_)))).out).mono ?_; rintro e' w' ⟨rfl, g, rfl⟩) | (go_at_call 11; refine (RetB.grown (HV _ (by repeat (first | (with_reducible exact HG.out) | (with_reducible refine GRow.xt ?_ _) | (with_reducible refine GRow.alloc ?_ _) | (with_reducible refine GRow.drew ?_)))).out).mono ?_; rintro e' w' ⟨rfl, g, rfl⟩) | (go_at_call 10; refine (RetB.grown (known_any _)).mono ?_; rintro e' w' ⟨rfl, g, rfl⟩)); go_ret; exact RetB.of rfl (by repeat' (first | exact Below.refl _ _ | assumption | refine Below.xt ?_ ?_ _ | refine Below.alloc ?_ ?_ _ | refine Below.drew ?_ | refine Below.setCell ?_ ?_ _ | (simp; done) | (simp; omega))))
        · have d1 : decide ((15 : Int) < (r : Int)) = false := by simp; omega
          have d2 : decide ((20 : Int) < (m.length : Int)) = true := by simp; omega
          (go_enter Try.func8, Try.ntmps8; go_wp2_with (first | (go_at_call 9; refine (RetB.grown (HS _ (by repeat (first | (with_reducible exact HG.out) | (with_reducible refine GRow.xt ?_ _) | (with_reducible refine GRow.alloc ?_ _) | (with_reducible refine GRow.drew ?_)))).out).mono ?_; rintro e' w' ⟨rfl, g, rfl⟩) | (go_at_call 11; refine (RetB.grown (HV _ (by repeat (first | (with_reducible exact HG.out) | (with_reducible refine GRow.xt ?_ _) | (with_reducible refine GRow.alloc ?_ _) | (with_reducible refine GRow.drew ?_)))).out).mono ?_; rintro e' w' ⟨rfl, g, rfl⟩) | (go_at_call 10; refine (RetB.grown (known_any _)).mono ?_; rintro e' w' ⟨rfl, g, rfl⟩)); go_ret; exact RetB.of rfl (by repeat' (first | exact Below.refl _ _ | assumption | refine Below.xt ?_ ?_ _ | refine Below.alloc ?_ ?_ _ | refine Below.drew ?_ | refine Below.setCell ?_ ?_ _ | (simp; done) | (simp; omega))))
        · have d1 : decide ((15 : Int) < (r : Int)) = false := by simp; omega
          have d2 : decide ((20 : Int) < (m.length : Int)) = false := by simp; omega
          have d3 : decide ((20 : Int) < (cl.length : Int)) = true := by simp; omega
          (go_enter Try.func8, Try.ntmps8; go_wp2_with (first | (go_at_call 9; refine (RetB.grown (HS _ (by repeat (first | (with_reducible exact HG.out) | (with_reducible refine GRow.xt ?_ _) | (with_reducible refine GRow.alloc ?_ _) | (with_reducible refine GRow.drew ?_)))).out).mono ?_; rintro e' w' ⟨rfl, g, rfl⟩) | (go_at_call 11; refine (RetB.grown (HV _ (by repeat (first | (with_reducible exact HG.out) | (with_reducible refine GRow.xt ?_ _) | (with_reducible refine GRow.alloc ?_ _) | (with_reducible refine GRow.drew ?_)))).out).mono ?_; rintro e' w' ⟨rfl, g, rfl⟩) | (go_at_call 10; refine (RetB.grown (known_any _)).mono ?_; rintro e' w' ⟨rfl, g, rfl⟩)); go_ret; exact RetB.of rfl (by repeat' (first | exact Below.refl _ _ | assumption | refine Below.xt ?_ ?_ _ | refine Below.alloc ?_ ?_ _ | refine Below.drew ?_ | refine Below.setCell ?_ ?_ _ | (simp; done) | (simp; omega))))
        · have d1 : decide ((15 : Int) < (r : Int)) = false := by simp; omega
          have d2 : decide ((20 : Int) < (m.length : Int)) = false := by simp; omega
          have d3 : decide ((20 : Int) < (cl.length : Int)) = false := by simp; omega
          have d4 : decide ((20 : Int) < (cr.length : Int)) = true := by simp; omega
          (go_enter Try.func8, Try.ntmps8; go_wp2_with (first | (go_at_call 9; refine (RetB.grown (HS _ (by repeat (first | (with_reducible exact HG.out) | (with_reducible refine GRow.xt ?_ _) | (with_reducible refine GRow.alloc ?_ _) | (with_reducible refine GRow.drew ?_)))).out).mono ?_; rintro e' w' ⟨rfl, g, rfl⟩) | (go_at_call 11; refine (RetB.grown (HV _ (by repeat (first | (with_reducible exact HG.out) | (with_reducible refine GRow.xt ?_ _) | (with_reducible refine GRow.alloc ?_ _) | (with_reducible refine GRow.drew ?_)))).out).mono ?_; rintro e' w' ⟨rfl, g, rfl⟩) | (go_at_call 10; refine (RetB.grown (known_any _)).mono ?_; rintro e' w' ⟨rfl, g, rfl⟩)); go_ret; exact RetB.of rfl (by repeat' (first | exact Below.refl _ _ | assumption | refine Below.xt ?_ ?_ _ | refine Below.alloc ?_ ?_ _ | refine Below.drew ?_ | refine Below.setCell ?_ ?_ _ | (simp; done) | (simp; omega))))
    · rw [hv] at C1
      have HV := fun w h => Lib.hid (C1 w h)
      clear C1 hv
      (go_enter Try.func8, Try.ntmps8; go_wp2_with (first | (go_at_call 9; refine (RetB.grown (HS _ (by repeat (first | (with_reducible exact HG.out) | (with_reducible refine GRow.xt ?_ _) | (with_reducible refine GRow.alloc ?_ _) | (with_reducible refine GRow.drew ?_)))).out).mono ?_; rintro e' w' ⟨rfl, g, rfl⟩) | (go_at_call 11; refine (RetB.grown (HV _ (by repeat (first | (with_reducible exact HG.out) | (with_reducible refine GRow.xt ?_ _) | (with_reducible refine GRow.alloc ?_ _) | (with_reducible refine GRow.drew ?_)))).out).mono ?_; rintro e' w' ⟨rfl, g, rfl⟩) | (go_at_call 10; refine (RetB.grown (known_any _)).mono ?_; rintro e' w' ⟨rfl, g, rfl⟩)); go_ret; exact RetB.of rfl (by repeat' (first | exact Below.refl _ _ | assumption | refine Below.xt ?_ ?_ _ | refine Below.alloc ?_ ?_ _ | refine Below.drew ?_ | refine Below.setCell ?_ ?_ _ | (simp; done) | (simp; omega))))
  · rw [s1] at CS
    have HS := fun w h => Lib.hid (CS w h)
    have HV := fun (w : World) (h : GRow w A nL G) => h
    clear CS g2 s1
    (go_enter Try.func8, Try.ntmps8; go_wp2_with (first | (go_at_call 9; refine (RetB.grown (HS _ (by repeat (first | (with_reducible exact HG.out) | (with_reducible refine GRow.xt ?_ _) | (with_reducible refine GRow.alloc ?_ _) | (with_reducible refine GRow.drew ?_)))).out).mono ?_; rintro e' w' ⟨rfl, g, rfl⟩) | (go_at_call 10; refine (RetB.grown (known_any _)).mono ?_; rintro e' w' ⟨rfl, g, rfl⟩)); go_ret; exact RetB.of rfl (by repeat' (first | exact Below.refl _ _ | assumption | refine Below.xt ?_ ?_ _ | refine Below.alloc ?_ ?_ _ | refine Below.drew ?_ | refine Below.setCell ?_ ?_ _ | (simp; done) | (simp; omega))))
end Go.Proofs.Ytkabknmhbjmmcaa


/- The law on valid costs and the assignment of some columns: its walk. Conditions stand in each theorem. -/
import Derived.Test.YtjiknjcmfiapjaaBotKn
import Derived.Test.YtjiknjcmfiapjaaBotO
import Derived.Test.YtjiknjcmfiapjaaBotSq
namespace Go.Proofs.Ytjiknjcmfiapjaa
open Go.RowKit
set_option linter.unusedVariables false
set_option linter.unusedSimpArgs false

theorem sq_cvd {n : Nat} {a b c d : Int} (hd : 1 ≤ d ∧ d ≤ 2000) : cvd (sqG n a b c d) n = (decide (1 ≤ n) && decide (n ≤ 64)) :=
  cvd_end fun i hi => ⟨by simp [sqG], by
    rw [allC_iff]
    intro j hj
    have hj' : j < n := by simpa [sqG] using hj
    have e : (sqG n a b c d i).getD j 0 = sqE a b c d i j := by simp [sqG, List.getD, hj']
    rw [e, inC_iff]
    unfold sqE
    have h1 := Int.emod_nonneg (a * (i : Int) * (i : Int) + b * (j : Int) + c * (i : Int) * (j : Int)) (show d ≠ 0 by omega)
    have h2 := Int.emod_lt_of_pos (a * (i : Int) * (i : Int) + b * (j : Int) + c * (i : Int) * (j : Int)) (show 0 < d by omega)
    omega⟩
theorem sqValid (n : Nat) (v : Value) (w : World) (hn : n ≤ 100) (h : GD w 0 v n (sqG n 0 1 0 7)) : ∃ A c, v = .slice A n c ∧ Calls Try.prog 17 #[.slice A n c] w (Ret (.bool (decide (1 ≤ n) && decide (n ≤ 64))) w) := by
  obtain ⟨A, c, rfl, hr⟩ := h.own.row
  refine ⟨A, c, rfl, ?_⟩
  rw [← sq_cvd (a := 0) (b := 1) (c := 0) (d := 7) (by omega)]
  exact bValid_any A n c _ w (by omega) (fun i hi => by simp [sqG]; omega) hr
theorem GD.low {w : World} {base n : Nat} {v : Value} {G : Nat → List Int} (h : GD w base v n G) : GD w 0 v n G := by
  obtain ⟨xs, hx, bs, h1, h2, h3⟩ := h
  exact ⟨xs, own_low hx (Nat.zero_le _), bs, fun i hi => by obtain ⟨c, e, ho⟩ := h1 i hi; exact ⟨c, e, own_low ho (Nat.zero_le _)⟩, h2, h3⟩
/-- The call returns costs of which it is known whether they are valid. -/
def SqV (n : Nat) (w : World) (e : Ending) (w' : World) : Prop := ∃ A c, e = .returned (.slice A n c) ∧ Below w.heap.size w w' ∧ Calls Try.prog 17 #[.slice A n c] w' (Ret (.bool (decide (n ≤ 64))) w')
theorem sq_any (n : Nat) (w : World) (hn : n ≤ 100) (h1 : 1 ≤ n) : Calls Try.prog 19 #[.int .i64 (n : Int), .int .i64 0, .int .i64 1, .int .i64 0, .int .i64 7] w (SqV n w) :=
  (square_any n 0 1 0 7 w hn (by omega) (by omega) (by omega) (by omega)).mono fun e w' ⟨v, he, hb, hg⟩ => by
    obtain ⟨A, c, rfl, hc⟩ := sqValid n v w' hn hg.low
    rw [show decide (1 ≤ n) = true by simpa using h1, Bool.true_and] at hc
    exact ⟨A, c, he, hb, hc⟩

set_option maxRecDepth 100000 in
set_option maxHeartbeats 12800000 in
theorem BottleneckOf_walk (cA : Option Addr) (cN cC : Nat) (lA : Option Addr) (lN lC : Nat) (many : Int) (W : World) (oc : CostsOk W cA cN cC) (ol : IntsOk W lA lN lC) (om : I64 many) :
    Calls Try.prog 5 #[.slice cA cN cC, .slice lA lN lC, .int .i64 many] W (RetB (.bool true) W) := by
  obtain ⟨G, hcm, hcl, hcg, _⟩ := oc
  obtain ⟨l, el, ml, ccl, _, rl, zl⟩ := ol
  have HG := Lib.hid hcg
  have HL := Lib.hid rl
  have HL0 := Lib.hid rl
  obtain ⟨sb, hsb⟩ : ∃ b, smB G cN 10 = b := ⟨_, rfl⟩
  have C0 := Lib.hid (show Calls Try.prog 8 #[.slice cA cN cC, .int .i64 10] W (Ret (.bool sb) W) by rw [← hsb]; exact bsmall_any cA cN cC 10 G _ hcm (fun i hi => (hcl i hi).1) hcg)
  have HSB := Lib.hid hsb
  have HEL := Lib.hid el
  have HZL := Lib.hid zl
  have hmx : cN ≤ 9223372036854775807 := by unfold maxLen at hcm; omega
  unfold maxLen at ml
  clear hcg hcl hsb hcm el rl zl om
  cases sb with
  | false =>
    go_enter Try.func5, Try.ntmps5
    go_wp2_with (first | (go_at_call 8; refine C0.out.mono ?_; rintro e' w' ⟨rfl, rfl⟩) | (go_at_call 9; refine (RetB.grown (known_any _)).mono ?_; rintro e' w' ⟨rfl, gk1, rfl⟩))
    go_ret
    exact ⟨rfl, (by repeat' (first | exact Below.refl _ _ | assumption | refine Below.xt ?_ ?_ _ | refine Below.alloc ?_ ?_ _ | refine Below.drew ?_ | refine Below.setCell ?_ ?_ _ | (simp; done) | (simp; omega)))⟩
  | true =>
    by_cases hl12 : lN ≤ 12
    · have d0 : decide (12 < lN) = false := by simpa using hl12
      have hsm := smB_iff.1 HSB.out
      have hcN := hsm.2
      have HSM := Lib.hid hsm.1
      have C1 := Lib.hid (Of_any cA lA cN cC lN lC G l W (by omega) (fun i hi => by have := hsm.1 i hi; omega) HG.out HEL.out (by have := HEL.out; omega) HZL.out HL.out)
      clear hsm
      go_enter Try.func5, Try.ntmps5
      go_upto_region 4 with (first | (go_at_call 8; refine C0.out.mono ?_; rintro e' w' ⟨rfl, rfl⟩) | (go_at_call 9; refine (RetB.grown (known_any _)).mono ?_; rintro e' w' ⟨rfl, gk1, rfl⟩) | (go_at_call 16; refine C1.out.mono ?_; rintro e' w1 ⟨v1, rfl, hb1, ho1⟩; obtain ⟨A1, c1, rfl⟩ := own_frm ho1; obtain ⟨g1, rfl⟩ := xt_of_below hb1; have HO1 := Lib.hid ho1; clear hb1 ho1))
      obtain ⟨W2, hW2, HB2, HG2, HL2, HAs, HO2, hsz⟩ : ∃ W2, (xt W g1).alloc (.cells #[.slice A1 (ofL G cN l).length c1, .int .i64 (ofG G cN l), .int .i64 (ofS G cN l)] 25) = W2 ∧ Hid (Below W.heap.size W W2) ∧ Hid (GRow W2 cA cN G) ∧ Hid (RowI W2 lA l) ∧ Hid (Blk W2 (W.heap.size + g1.blocks.length) #[.slice A1 (ofL G cN l).length c1, .int .i64 (ofG G cN l), .int .i64 (ofS G cN l)] 25) ∧ Hid (W2.ownsRow W.heap.size 3 1 (.slice A1 (ofL G cN l).length c1) (ofL G cN l).length ((ofL G cN l).map (Value.int .i64)) ∧ ∀ t, (Value.slice A1 (ofL G cN l).length c1).ownBlock = some t → t < W.heap.size + g1.blocks.length) ∧ True :=
        ⟨_, rfl, Lib.hid (by repeat' (first | exact Below.refl _ _ | assumption | refine Below.xt ?_ ?_ _ | refine Below.alloc ?_ ?_ _ | refine Below.drew ?_ | refine Below.setCell ?_ ?_ _ | (simp; done) | (simp; omega))), Lib.hid ((HG.out.xt _).alloc _), Lib.hid ((HL.out.xt _).alloc _), Lib.hid (Blk.new _ _ _ (by simp)), Lib.hid ⟨HO1.out.alloc _, fun t e => by have := (HO1.out.lt t e).2; simpa using this⟩, trivial⟩
      rw [hW2]
      obtain ⟨b7, hb7⟩ : ∃ b, W.heap.size + g1.blocks.length = b := ⟨_, rfl⟩
      have hb7W : W.heap.size ≤ b7 := by omega
      simp only [hb7] at HAs HO2 ⊢
      clear hW2 hb7 HO1 C1 HG hsz
      cases hv : cvd G cN with
      | false =>
        have e1 : ofL G cN l = [] := by unfold ofL; rw [hv]; rfl
        have e2 : ofG G cN l = 0 := by unfold ofG; rw [hv]; rfl
        have e3 : ofS G cN l = 0 := by unfold ofS; rw [hv]; rfl
        have e4 : ofE G cN l = 2 := by unfold ofE; rw [hv]; rfl
        simp only [e1, e2, e3, List.length_nil] at HAs
        simp only [e1, e2, e3, e4, List.length_nil]
        have C2 := Lib.hid (show Calls Try.prog 11 #[.slice cA cN cC] W2 (Ret (.bool false) W2) by rw [← hv]; exact rValid_any cA cN cC G _ (by omega) (fun i hi => by have := HSM.out i hi; omega) HG2.out)
        have C3 := Lib.hid (show Calls Try.prog 17 #[.slice cA cN cC] W2 (Ret (.bool false) W2) by rw [← hv]; exact bValid_any cA cN cC G _ (by omega) (fun i hi => by have := HSM.out i hi; omega) HG2.out)
        obtain ⟨a0, a1, a2, _, _, _, aO⟩ := HAs.out.f3
        clear hv e1 e2 e3 e4 HO2
        go_upto_region 23 with (first | (go_at_call 11; refine C2.out.mono ?_; rintro e' w' ⟨rfl, rfl⟩) | (go_at_call 17; refine C3.out.mono ?_; rintro e' w' ⟨rfl, rfl⟩))
        clear C2 C3 a0 a1 a2 aO
        by_cases m1 : many < 60
        · have dm1 : decide (many < 60) = true := by simpa using m1
          have HXt := Lib.hid (show ∀ g, Below W.heap.size W (xt W2 g) from fun g => Below.xt HB2.out HB2.out.size g)
          go_wp2_with (go_at_call 9; refine (RetB.grown (known_any _)).mono ?_; rintro e' w' ⟨rfl, gk1, rfl⟩)
          go_ret
          exact ⟨rfl, by (repeat rw [xt_xt]); exact HXt.out _⟩
        · have dm1 : decide (many < 60) = false := by simpa using m1
          by_cases m2 : 70 < many
          · have dm2 : decide (70 < many) = true := by simpa using m2
            have HXt := Lib.hid (show ∀ g, Below W.heap.size W (xt W2 g) from fun g => Below.xt HB2.out HB2.out.size g)
            go_wp2_with (go_at_call 9; refine (RetB.grown (known_any _)).mono ?_; rintro e' w' ⟨rfl, gk1, rfl⟩)
            go_ret
            exact ⟨rfl, by (repeat rw [xt_xt]); exact HXt.out _⟩
          · have dm2 : decide (70 < many) = false := by simpa using m2
            obtain ⟨nn, rfl⟩ : ∃ nn : Nat, many = (nn : Int) := ⟨many.toNat, by omega⟩
            have CS := Lib.hid (sq_any nn W2 (by omega) (by omega))
            by_cases m3 : nn ≤ 64
            · have dm3 : decide (nn ≤ 64) = true := by simpa using m3
              go_wp2_with (first | (go_at_call 19; refine CS.out.mono ?_; rintro e' w5 ⟨A5, c5, rfl, hb5, hv5⟩; rw [dm3] at hv5; have HV5 := Lib.hid hv5; have HB5 := Lib.hid (show ∀ g, Below W.heap.size W (xt w5 g) from fun g => Below.xt (HB2.out.trans (hb5.mono HB2.out.size)) (Nat.le_trans HB2.out.size hb5.size) g); clear hv5 hb5) | (go_at_call 17; refine HV5.out.mono ?_; rintro e' w' ⟨rfl, rfl⟩) | (go_at_call 9; refine (RetB.grown (known_any _)).mono ?_; rintro e' w' ⟨rfl, gk1, rfl⟩))
              go_ret
              exact ⟨rfl, by (repeat rw [xt_xt]); exact HB5.out _⟩
            · have dm3 : decide (nn ≤ 64) = false := by simpa using m3
              go_wp2_with (first | (go_at_call 19; refine CS.out.mono ?_; rintro e' w5 ⟨A5, c5, rfl, hb5, hv5⟩; rw [dm3] at hv5; have HV5 := Lib.hid hv5; have HB5 := Lib.hid (show ∀ g, Below W.heap.size W (xt w5 g) from fun g => Below.xt (HB2.out.trans (hb5.mono HB2.out.size)) (Nat.le_trans HB2.out.size hb5.size) g); clear hv5 hb5) | (go_at_call 17; refine HV5.out.mono ?_; rintro e' w' ⟨rfl, rfl⟩) | (go_at_call 9; refine (RetB.grown (known_any _)).mono ?_; rintro e' w' ⟨rfl, gk1, rfl⟩))
              go_ret
              exact ⟨by show Ending.returned (Value.bool (!decide ((nn : Int) ≤ 64))) = .returned (.bool true); simp; omega, by (repeat rw [xt_xt]); exact HB5.out _⟩
      | true =>
        have hC := cvd_iff.1 hv
        have HC := Lib.hid hC
        have C2 := Lib.hid (show Calls Try.prog 11 #[.slice cA cN cC] W2 (Ret (.bool true) W2) by rw [← hv]; exact rValid_any cA cN cC G _ (by omega) (fun i hi => by have := HSM.out i hi; omega) HG2.out)
        have C3 := Lib.hid (show Calls Try.prog 17 #[.slice cA cN cC] W2 (Ret (.bool true) W2) by rw [← hv]; exact bValid_any cA cN cC G _ (by omega) (fun i hi => by have := HSM.out i hi; omega) HG2.out)
        cases hb : colsB l cN with
        | false =>
          have e1 : ofL G cN l = [] := by unfold ofL; rw [hv, hb]; rfl
          have e2 : ofG G cN l = 0 := by unfold ofG; rw [hv, hb]; rfl
          have e3 : ofS G cN l = 0 := by unfold ofS; rw [hv, hb]; rfl
          have e4 : ofE G cN l = 10 := by unfold ofE; rw [hv, hb]; rfl
          simp only [e1, e2, e3, List.length_nil] at HAs
          simp only [e1, e2, e3, e4, List.length_nil]
          have C4 := Lib.hid (show Calls Try.prog 14 #[.slice lA lN lC, .int .i64 (cN : Int)] W2 (RetB (.bool false) W2) by rw [← hb]; exact Columns_any lA lN lC l cN W2 HEL.out (by have := HEL.out; omega) (by omega) ccl HL2.out)
          obtain ⟨a0, a1, a2, _, _, _, aO⟩ := HAs.out.f3
          clear hv hb e1 e2 e3 e4 HO2 hC
          go_upto_region 23 with (first | (go_at_call 11; refine C2.out.mono ?_; rintro e' w' ⟨rfl, rfl⟩) | (go_at_call 17; refine C3.out.mono ?_; rintro e' w' ⟨rfl, rfl⟩) | (go_at_call 14; refine (RetB.grown C4.out).mono ?_; rintro e' w' ⟨rfl, g4, rfl⟩))
          obtain ⟨W3, hW3, HB3⟩ : ∃ W3, xt W2 g4 = W3 ∧ Hid (Below W.heap.size W W3) := ⟨_, rfl, Lib.hid (Below.xt HB2.out HB2.out.size g4)⟩
          rw [hW3]
          clear hW3 C2 C3 C4 a0 a1 a2 aO HAs
          by_cases m1 : many < 60
          · have dm1 : decide (many < 60) = true := by simpa using m1
            have HXt := Lib.hid (show ∀ g, Below W.heap.size W (xt W3 g) from fun g => Below.xt HB3.out HB3.out.size g)
            go_wp2_with (go_at_call 9; refine (RetB.grown (known_any _)).mono ?_; rintro e' w' ⟨rfl, gk1, rfl⟩)
            go_ret
            exact ⟨rfl, by (repeat rw [xt_xt]); exact HXt.out _⟩
          · have dm1 : decide (many < 60) = false := by simpa using m1
            by_cases m2 : 70 < many
            · have dm2 : decide (70 < many) = true := by simpa using m2
              have HXt := Lib.hid (show ∀ g, Below W.heap.size W (xt W3 g) from fun g => Below.xt HB3.out HB3.out.size g)
              go_wp2_with (go_at_call 9; refine (RetB.grown (known_any _)).mono ?_; rintro e' w' ⟨rfl, gk1, rfl⟩)
              go_ret
              exact ⟨rfl, by (repeat rw [xt_xt]); exact HXt.out _⟩
            · have dm2 : decide (70 < many) = false := by simpa using m2
              obtain ⟨nn, rfl⟩ : ∃ nn : Nat, many = (nn : Int) := ⟨many.toNat, by omega⟩
              have CS := Lib.hid (sq_any nn W3 (by omega) (by omega))
              by_cases m3 : nn ≤ 64
              · have dm3 : decide (nn ≤ 64) = true := by simpa using m3
                go_wp2_with (first | (go_at_call 19; refine CS.out.mono ?_; rintro e' w5 ⟨A5, c5, rfl, hb5, hv5⟩; rw [dm3] at hv5; have HV5 := Lib.hid hv5; have HB5 := Lib.hid (show ∀ g, Below W.heap.size W (xt w5 g) from fun g => Below.xt (HB3.out.trans (hb5.mono HB3.out.size)) (Nat.le_trans HB3.out.size hb5.size) g); clear hv5 hb5) | (go_at_call 17; refine HV5.out.mono ?_; rintro e' w' ⟨rfl, rfl⟩) | (go_at_call 9; refine (RetB.grown (known_any _)).mono ?_; rintro e' w' ⟨rfl, gk1, rfl⟩))
                go_ret
                exact ⟨rfl, by (repeat rw [xt_xt]); exact HB5.out _⟩
              · have dm3 : decide (nn ≤ 64) = false := by simpa using m3
                go_wp2_with (first | (go_at_call 19; refine CS.out.mono ?_; rintro e' w5 ⟨A5, c5, rfl, hb5, hv5⟩; rw [dm3] at hv5; have HV5 := Lib.hid hv5; have HB5 := Lib.hid (show ∀ g, Below W.heap.size W (xt w5 g) from fun g => Below.xt (HB3.out.trans (hb5.mono HB3.out.size)) (Nat.le_trans HB3.out.size hb5.size) g); clear hv5 hb5) | (go_at_call 17; refine HV5.out.mono ?_; rintro e' w' ⟨rfl, rfl⟩) | (go_at_call 9; refine (RetB.grown (known_any _)).mono ?_; rintro e' w' ⟨rfl, gk1, rfl⟩))
                go_ret
                exact ⟨by show Ending.returned (Value.bool (!decide ((nn : Int) ≤ 64))) = .returned (.bool true); simp; omega, by (repeat rw [xt_xt]); exact HB5.out _⟩
        | true =>
          have e1 : ofL G cN l = l := by unfold ofL; rw [hv, hb]; rfl
          have e2 : ofG G cN l = mstC G l cN := by unfold ofG; rw [hv, hb]; rfl
          have e3 : ofS G cN l = sumC G l cN := by unfold ofS; rw [hv, hb]; rfl
          have e4 : ofE G cN l = 0 := by unfold ofE; rw [hv, hb]; rfl
          rw [e1] at HO2
          simp only [e1, e2, e3] at HAs
          simp only [e1, e2, e3, e4]
          have hln := (colsB_iff.1 hb).2
          have hlN : lN = cN := HEL.out.trans hln
          subst hlN
          have C4 := Lib.hid (show ∀ w', RowI w' lA l → Calls Try.prog 14 #[.slice lA lN lC, .int .i64 (lN : Int)] w' (RetB (.bool true) w') from fun w' h => by rw [← hb]; exact Columns_any lA lN lC l lN w' HEL.out (by have := HEL.out; omega) (by omega) ccl h)
          obtain ⟨M, hM⟩ : ∃ M, mstC G l lN = M := ⟨_, rfl⟩
          obtain ⟨S, hS⟩ : ∃ S, sumC G l lN = S := ⟨_, rfl⟩
          have C5 := Lib.hid (show ∀ g, Calls Try.prog 15 #[.slice cA lN cC, .slice lA lN lC] (xt W2 g) (RetB (.tuple #[.int .i64 M, .int .i64 S]) (xt W2 g)) from fun g => by rw [← hM, ← hS]; exact rCosts_any cA lA lN cC lN lC G l _ (HG2.out.xt g) HC.out rfl hb (HL2.out.xt g))
          have hrow1 := RowI.of_own HO2.out.1 rfl
          obtain ⟨A1', c1', e5, hr1⟩ := hrow1
          injection e5 with e5 _ e6
          subst e5 e6
          have HR1 := Lib.hid hr1
          rw [hM, hS] at HAs
          rw [hM, hS]
          have HLn := Lib.hid hln
          rw [hln] at HAs HO2 ⊢
          have C6 := Lib.hid (show ∀ g g', Calls Try.prog 18 #[.agg #[.slice A1 lN c1, .int .i64 M, .int .i64 S], .slice lA lN lC, .int .i64 M, .int .i64 S] (xt (xt W2 g) g') (RetB (.bool true) (xt (xt W2 g) g')) from fun g g' => by
            have := equal_any A1 lA lN lN c1 lC l l M S M S (xt (xt W2 g) g') HLn.out.symm HLn.out.symm (by have := HLn.out; omega) (by have := HLn.out; omega) ((HR1.out.xt g).xt g') ((HL2.out.xt g).xt g')
            rwa [eqA_yes ⟨rfl, rfl, rfl⟩] at this)
          have hn1 := hC.pos
          have HBc := Lib.hid (show ∀ j, j < lN → 0 ≤ l.getD j 0 ∧ l.getD j 0 < (lN : Int) from fun j hj => by have := colAt_iff.1 ((colsB_iff.1 hb).1 j hj); exact ⟨this.1, this.2.1⟩)
          obtain ⟨a0, a1, a2, _, _, _, aO⟩ := HAs.out.f3
          clear hv hb e1 e2 e3 e4 hC hM hS hln hr1
          go_upto_region 16 with (first | (go_at_call 11; refine C2.out.mono ?_; rintro e' w' ⟨rfl, rfl⟩) | (go_at_call 17; refine C3.out.mono ?_; rintro e' w' ⟨rfl, rfl⟩) | (go_at_call 14; refine (RetB.grown (C4.out _ HL2.out)).mono ?_; rintro e' w' ⟨rfl, g4, rfl⟩) | (go_at_call 15; refine (RetB.grown (C5.out _)).mono ?_; rintro e' w' ⟨rfl, g5, rfl⟩) | (go_at_call 18; refine (RetB.grown (C6.out _ _)).mono ?_; rintro e' w' ⟨rfl, g6, rfl⟩))
          obtain ⟨gq, rfl⟩ : ∃ g, A1 = some ⟨g, 0, none⟩ := by
            rcases HO2.out.1.2 with ⟨_, h0⟩ | ⟨g, cap, cur, hv, _⟩
            · omega
            · injection hv with hv _ _; exact ⟨g, hv⟩
          have hgq := HO2.out.2 gq rfl
          have hgq2 := (HO2.out.1.lt gq rfl).1
          obtain ⟨W3, hW3, HB3, HAs3, HO3⟩ : ∃ W3, xt (xt (xt W2 g4) g5) g6 = W3 ∧ Hid (Below W.heap.size W W3) ∧ Hid (Blk W3 b7 #[.slice (some ⟨gq, 0, none⟩) lN c1, .int .i64 M, .int .i64 S] 25) ∧ Hid (W3.ownsRow W.heap.size 3 1 (.slice (some ⟨gq, 0, none⟩) lN c1) lN (l.map (Value.int .i64))) :=
            ⟨_, rfl, Lib.hid (by rw [xt_xt, xt_xt]; exact Below.xt HB2.out HB2.out.size _), Lib.hid (((HAs.out.xt _).xt _).xt _), Lib.hid (own_xt (own_xt (own_xt HO2.out.1 _) _) _)⟩
          rw [hW3]
          clear hW3 C2 C3 C5 C6 a0 a1 a2 aO HAs HO2 HR1
          have b0 : W3.cell? ⟨b7, 0, none⟩ = some (.slice (some ⟨gq, 0, none⟩) lN c1) := HAs3.out.cell rfl
          have bO : old b7 W3 := HAs3.out.lt
          go_wp2_with fail
          clear b0 bO
          go_loopg [96] (lN) (fun gk i wr => ∃ (k : Nat) (xs : List Value), k + gk = lN ∧ i = .int .i64 k ∧ Hid (Below W.heap.size W wr) ∧ Hid (Blk wr b7 #[.slice (some ⟨gq, 0, none⟩) lN c1, .int .i64 M, .int .i64 S] 25) ∧ Hid (wr.ownsRow W.heap.size 3 1 (.slice (some ⟨gq, 0, none⟩) lN c1) lN xs) ∧ Hid (∀ j, k ≤ j → j < lN → xs[j]? = some (.int .i64 (l.getD j 0))))
          case atStart => exact ⟨0, _, by omega, rfl, HB3, HAs3, HO3, Lib.hid (fun j _ hj => by
            have : j < l.length := by rw [HLn.out]; exact hj
            simp [List.getD, this])⟩
          case round =>
            clear HB3 HAs3 HO3
            obtain ⟨k, xs, hk, rfl, HB3, HAs3, HO3, HXs⟩ := hrel
            by_cases hlt : k < lN
            · have b0 : wr.cell? ⟨b7, 0, none⟩ = some (.slice (some ⟨gq, 0, none⟩) lN c1) := HAs3.out.cell rfl
              have bO : old b7 wr := HAs3.out.lt
              have x1 := own_at HO3.out (HXs.out k (Nat.le_refl k) hlt)
              have x2 : old gq wr := (HO3.out.lt gq rfl).2
              have x3 : wr.frozen? ⟨gq, k, none⟩ = false := by
                rcases HO3.out.2 with ⟨h', _⟩ | ⟨g', cap', cur, h', hb, hg, _⟩
                · simp at h'
                · injection h' with h' _ _
                  injection h' with h'
                  injection h' with h'
                  rw [h']
                  simp [World.frozen?, hg]
              obtain ⟨y1, y2⟩ := HBc.out k hlt
              obtain ⟨y, hy⟩ : ∃ y, l.getD k 0 = y := ⟨_, rfl⟩
              rw [hy] at x1 y1 y2
              have HO4 := Lib.hid (HO3.out.stored k (.int .i64 (y + 1))).1
              have HX4 := Lib.hid (show ∀ j, k + 1 ≤ j → j < lN → (xs.set k (.int .i64 (y + 1)))[j]? = some (.int .i64 (l.getD j 0)) from fun j h1 h2 => by
                rw [List.getElem?_set_ne (by omega)]; exact HXs.out j (by omega) h2)
              have HB4 := Lib.hid (show Below W.heap.size W (wr.setCell ⟨gq, k, none⟩ (.int .i64 (y + 1))) from HB3.out.setCell hgq2 _)
              have HA4 := Lib.hid (HAs3.out.other (a := ⟨gq, k, none⟩) (.int .i64 (y + 1)) (show gq ≠ b7 by omega))
              clear HB3 HAs3 HO3 HXs hy
              go_wp2_with fail
              go_roundg (gk - 1)
              case measure => omega
              case rel => exact ⟨k + 1, _, by omega, by go_num, HB4, HA4, HO4, HX4⟩
            · obtain rfl : lN = k := by omega
              have HL3 := Lib.hid (HL0.out.below HB3.out)
              go_upto_region 23 with (go_at_call 14; refine (RetB.grown (C4.out _ HL3.out)).mono ?_; rintro e' w' ⟨rfl, g8, rfl⟩)
              obtain ⟨W4, hW4, HB4⟩ : ∃ W4, xt wr g8 = W4 ∧ Hid (Below W.heap.size W W4) := ⟨_, rfl, Lib.hid (Below.xt HB3.out HB3.out.size g8)⟩
              rw [hW4]
              clear hW4 C4 HAs3 HO3 HXs
              by_cases m1 : many < 60
              · have dm1 : decide (many < 60) = true := by simpa using m1
                have HXt := Lib.hid (show ∀ g, Below W.heap.size W (xt W4 g) from fun g => Below.xt HB4.out HB4.out.size g)
                go_wp2_with (go_at_call 9; refine (RetB.grown (known_any _)).mono ?_; rintro e' w' ⟨rfl, gk1, rfl⟩)
                go_ret
                exact ⟨rfl, by (repeat rw [xt_xt]); exact HXt.out _⟩
              · have dm1 : decide (many < 60) = false := by simpa using m1
                by_cases m2 : 70 < many
                · have dm2 : decide (70 < many) = true := by simpa using m2
                  have HXt := Lib.hid (show ∀ g, Below W.heap.size W (xt W4 g) from fun g => Below.xt HB4.out HB4.out.size g)
                  go_wp2_with (go_at_call 9; refine (RetB.grown (known_any _)).mono ?_; rintro e' w' ⟨rfl, gk1, rfl⟩)
                  go_ret
                  exact ⟨rfl, by (repeat rw [xt_xt]); exact HXt.out _⟩
                · have dm2 : decide (70 < many) = false := by simpa using m2
                  obtain ⟨nn, rfl⟩ : ∃ nn : Nat, many = (nn : Int) := ⟨many.toNat, by omega⟩
                  have CS := Lib.hid (sq_any nn W4 (by omega) (by omega))
                  by_cases m3 : nn ≤ 64
                  · have dm3 : decide (nn ≤ 64) = true := by simpa using m3
                    go_wp2_with (first | (go_at_call 19; refine CS.out.mono ?_; rintro e' w5 ⟨A5, c5, rfl, hb5, hv5⟩; rw [dm3] at hv5; have HV5 := Lib.hid hv5; have HB5 := Lib.hid (show ∀ g, Below W.heap.size W (xt w5 g) from fun g => Below.xt (HB4.out.trans (hb5.mono HB4.out.size)) (Nat.le_trans HB4.out.size hb5.size) g); clear hv5 hb5) | (go_at_call 17; refine HV5.out.mono ?_; rintro e' w' ⟨rfl, rfl⟩) | (go_at_call 9; refine (RetB.grown (known_any _)).mono ?_; rintro e' w' ⟨rfl, gk1, rfl⟩))
                    go_ret
                    exact ⟨rfl, by (repeat rw [xt_xt]); exact HB5.out _⟩
                  · have dm3 : decide (nn ≤ 64) = false := by simpa using m3
                    go_wp2_with (first | (go_at_call 19; refine CS.out.mono ?_; rintro e' w5 ⟨A5, c5, rfl, hb5, hv5⟩; rw [dm3] at hv5; have HV5 := Lib.hid hv5; have HB5 := Lib.hid (show ∀ g, Below W.heap.size W (xt w5 g) from fun g => Below.xt (HB4.out.trans (hb5.mono HB4.out.size)) (Nat.le_trans HB4.out.size hb5.size) g); clear hv5 hb5) | (go_at_call 17; refine HV5.out.mono ?_; rintro e' w' ⟨rfl, rfl⟩) | (go_at_call 9; refine (RetB.grown (known_any _)).mono ?_; rintro e' w' ⟨rfl, gk1, rfl⟩))
                    go_ret
                    exact ⟨by show Ending.returned (Value.bool (!decide ((nn : Int) ≤ 64))) = .returned (.bool true); simp; omega, by (repeat rw [xt_xt]); exact HB5.out _⟩
    · have d0 : decide (12 < lN) = true := by simpa using hl12
      go_enter Try.func5, Try.ntmps5
      go_wp2_with (first | (go_at_call 8; refine C0.out.mono ?_; rintro e' w' ⟨rfl, rfl⟩) | (go_at_call 9; refine (RetB.grown (known_any _)).mono ?_; rintro e' w' ⟨rfl, gk1, rfl⟩))
      go_ret
      exact ⟨rfl, (by repeat' (first | exact Below.refl _ _ | assumption | refine Below.xt ?_ ?_ _ | refine Below.alloc ?_ ?_ _ | refine Below.drew ?_ | refine Below.setCell ?_ ?_ _ | (simp; done) | (simp; omega)))⟩
end Go.Proofs.Ytjiknjcmfiapjaa

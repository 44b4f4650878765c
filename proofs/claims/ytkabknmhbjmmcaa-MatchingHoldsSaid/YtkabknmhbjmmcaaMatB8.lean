/- Walks: a matching and a cover that prove each other, by the program. Conditions stand in each theorem. -/
import Derived.Test.YtkabknmhbjmmcaaMatB5
import Derived.Deep.LoopGhost
namespace Go.Proofs.Ytkabknmhbjmmcaa
open Go.RowKit
set_option linter.unusedVariables false
set_option linter.unusedSimpArgs false

def prE (G : Nat → List Int) (nL : Nat) (R : Int) (m cl cr : List Int) : Int := if prvB G nL R m cl cr then 0 else 10
def chV (G : Nat → List Int) (nL : Nat) (R : Int) (m cl cr : List Int) : Int := if vld G nL R then prE G nL R m cl cr else 2
theorem prE_no {G : Nat → List Int} {nL : Nat} {R : Int} {m cl cr : List Int} (h : prvB G nL R m cl cr = false) : prE G nL R m cl cr = 10 := by unfold prE; rw [h]; rfl
theorem prE_yes {G : Nat → List Int} {nL : Nat} {R : Int} {m cl cr : List Int} (h : prvB G nL R m cl cr = true) : prE G nL R m cl cr = 0 := by unfold prE; rw [h]; rfl
theorem szv_cnt {G : Nat → List Int} {nL R : Nat} {m : List Int} (hv : vld G nL R = true) (hm : matB G nL m = true) : szv m = cnt m := by
  obtain ⟨hl, h1⟩ := matB_mat G hm
  unfold szv cnt
  refine cntp_congr m.length fun k hk => ?_
  rw [Bool.eq_iff_iff, decide_eq_true_eq, decide_eq_true_eq]
  by_cases e : m.getD k 0 = -1
  · rw [e]; omega
  · have := vld_mem G hv k (by omega) _ (h1.edge k (by omega) e); omega
theorem prvB_1 {G : Nat → List Int} {nL : Nat} {R : Int} {m cl cr : List Int} (h : matB G nL m = false) : prvB G nL R m cl cr = false := by rw [prvB_eq, h]; rfl
theorem prvB_2 {G : Nat → List Int} {nL : Nat} {R : Int} {m cl cr : List Int} (h : covB G nL R cl cr = false) : prvB G nL R m cl cr = false := by rw [prvB_eq, h]; simp
theorem prvB_3 {G : Nat → List Int} {nL : Nat} {R : Int} {m cl cr : List Int} (h : ¬ cnt m = cl.length + cr.length) : prvB G nL R m cl cr = false := by rw [prvB_eq]; simp [h]

set_option maxRecDepth 100000 in
set_option maxHeartbeats 3200000 in
theorem Check_no (A M L0 R0 : Option Addr) (nL cap k0 c0 kl cl0 kr cr0 : Nat) (R : Int) (G : Nat → List Int) (cl cr : List Int) (w : World) (hm : nL ≤ 1000) (hl : ∀ i, i < nL → (G i).length ≤ 1000) (hG : GRow w A nL G) (h1 : kl = cl.length) (h2 : kr = cr.length) (hv : vld G nL R = false) :
    Calls Try.prog 15 #[.agg #[.slice A nL cap, .int .i64 R], .slice M k0 c0, .agg #[.slice L0 kl cl0, .slice R0 kr cr0]] w (RetB (.int .i64 2) w) := by
  subst h1 h2
  have HG := Lib.hid ((hG.alloc (.cells #[.slice A nL cap, .int .i64 R] 24)).alloc (.cells #[.slice L0 cl.length cl0, .slice R0 cr.length cr0] 32))
  have C1 := Valid_any A nL cap R G _ hm hl HG.out
  rw [hv] at C1
  have HC1 := Lib.hid C1
  clear hG hl C1 hv
  go_enter Try.func15, Try.ntmps15
  go_wp2_with (go_at_call 12; (with_reducible refine (RetB.grown HC1.out).mono ?_); rintro e' w' ⟨rfl, g, rfl⟩)
  go_ret
  exact RetB.of rfl (by repeat' (first | exact Below.refl _ _ | assumption | refine Below.xt ?_ ?_ _ | refine Below.alloc ?_ ?_ _ | refine Below.drew ?_ | refine Below.setCell ?_ ?_ _ | (simp; done) | (simp; omega)))

set_option maxRecDepth 100000 in
set_option maxHeartbeats 6400000 in
theorem Check_ok (A M L0 R0 : Option Addr) (nL cap k0 c0 kl cl0 kr cr0 R : Nat) (G : Nat → List Int) (m cl cr : List Int) (w : World) (hG : GRow w A nL G)
    (h0 : k0 = m.length) (hml : m.length ≤ 1000) (hM : RowI w M m)
    (h1 : kl = cl.length) (hl1 : cl.length ≤ 1000) (hL : RowI w L0 cl) (h2 : kr = cr.length) (hr1 : cr.length ≤ 1000) (hR : RowI w R0 cr) (hv : vld G nL R = true) :
    Calls Try.prog 15 #[.agg #[.slice A nL cap, .int .i64 (R : Int)], .slice M k0 c0, .agg #[.slice L0 kl cl0, .slice R0 kr cr0]] w (RetB (.int .i64 (prE G nL R m cl cr)) w) := by
  subst h0 h1 h2
  have V := (vld_iff G).1 hv
  have hm : nL ≤ 1000 := by have := V.hL; omega
  have hl : ∀ i, i < nL → (G i).length ≤ 1000 := fun i hi => by
    have := inc_len (V.inc i hi) V.h0
    have := V.hR
    omega
  have HG := Lib.hid ((hG.alloc (.cells #[.slice A nL cap, .int .i64 (R : Int)] 24)).alloc (.cells #[.slice L0 cl.length cl0, .slice R0 cr.length cr0] 32))
  have HL := Lib.hid ((hL.alloc (.cells #[.slice A nL cap, .int .i64 (R : Int)] 24)).alloc (.cells #[.slice L0 cl.length cl0, .slice R0 cr.length cr0] 32))
  have HR := Lib.hid ((hR.alloc (.cells #[.slice A nL cap, .int .i64 (R : Int)] 24)).alloc (.cells #[.slice L0 cl.length cl0, .slice R0 cr.length cr0] 32))
  have HM := Lib.hid ((hM.alloc (.cells #[.slice A nL cap, .int .i64 (R : Int)] 24)).alloc (.cells #[.slice L0 cl.length cl0, .slice R0 cr.length cr0] 32))
  have C0 := Valid_any A nL cap R G _ hm hl HG.out
  rw [hv] at C0
  have HC0 := Lib.hid C0
  have C1 := fun g g' => ValidMatch_any A M nL cap m.length c0 R G m _ hm hl ((HG.out.xt g).xt g') rfl hml ((HM.out.xt g).xt g')
  have C2 := fun g g' => retB (inc_any L0 cl0 cl nL _ hl1 ((HL.out.xt g).xt g'))
  have C3 := fun g g' => retB (inc_any R0 cr0 cr R _ hr1 ((HR.out.xt g).xt g'))
  have C4 := fun g g' => retB (size_any M c0 m _ hml ((HM.out.xt g).xt g'))
  have hcm : szv m ≤ m.length := cntp_le _ _
  have hvm : vmB G nL R m = matB G nL m := by unfold vmB; rw [hv]; rfl
  have HLn := Lib.hid hl
  have HV := Lib.hid hv
  clear hG hL hR hM hl C0 hv V
  rw [hvm] at C1
  rcases Bool.eq_false_or_eq_true (matB G nL m) with x1 | x1
  · rw [x1] at C1
    have hsz : szv m = cnt m := szv_cnt HV.out x1
    rcases Bool.eq_false_or_eq_true (inc cl nL) with x2 | x2
    · rw [x2] at C2
      rcases Bool.eq_false_or_eq_true (inc cr R) with x3 | x3
      · rw [x3] at C3
        by_cases x4 : szv m = cl.length + cr.length
        · have HC1 := fun g g' => Lib.hid (C1 g g')
          have HC2 := fun g g' => Lib.hid (C2 g g')
          have HC3 := fun g g' => Lib.hid (C3 g g')
          have HC4 := fun g g' => Lib.hid (C4 g g')
          have hpe : Hid (prvB G nL R m cl cr = covB G nL R cl cr) := Lib.hid (by rw [prvB_eq, x1, decide_eq_true (hsz ▸ x4), Bool.true_and, Bool.and_true])
          have d4 : ((szv m : Int) == (cl.length : Int) + (cr.length : Int)) = true := by rw [beq_iff_eq]; omega
          have d5 : ((szv m : Int) != (cl.length : Int) + (cr.length : Int)) = false := by rw [bne_eq_false_iff_eq]; omega
          have X2 := Lib.hid x2
          have X3 := Lib.hid x3
          clear C1 C2 C3 C4 x1 x2 x3 x4 hvm hsz
          generalize szv m = cm at *
          go_enter Try.func15, Try.ntmps15
          go_wp2_with (first
            | (go_at_call 12; (with_reducible refine (RetB.grown HC0.out).mono ?_); rintro e' w' ⟨rfl, ga, rfl⟩)
            | (go_at_call 13; (with_reducible refine (RetB.grown ((HC1 _ _).out)).mono ?_); rintro e' w' ⟨rfl, g, rfl⟩)
            | (go_at_call 26; (with_reducible refine (RetB.grown ((HC2 _ _).out)).mono ?_); rintro e' w' ⟨rfl, g, rfl⟩)
            | (go_at_call 26; (with_reducible refine (RetB.grown ((HC3 _ _).out)).mono ?_); rintro e' w' ⟨rfl, g, rfl⟩)
            | (go_at_call 28; (with_reducible refine (RetB.grown ((HC4 _ _).out)).mono ?_); rintro e' w' ⟨rfl, g, rfl⟩)
            | (refine wp_region_xt (by kernel_rfl) (by kernel_rfl) ?_; (repeat (go_big_quiet_step (first | (go_at_call 13; (with_reducible exact RetB.quiet ((HC1 _ _).out))) | (go_at_call 26; (with_reducible exact RetB.quiet ((HC2 _ _).out))) | (go_at_call 26; (with_reducible exact RetB.quiet ((HC3 _ _).out))) | (go_at_call 28; (with_reducible exact RetB.quiet ((HC4 _ _).out)))))); refine wpQuiet_nil ?_; intro g))
          obtain ⟨W1, hW1, HB1, HG1, HL1, HR1, f0, f1, f2, o1, o2⟩ : ∃ W1, xt (xt ((w.alloc (.cells #[.slice A nL cap, .int .i64 (R : Int)] 24)).alloc (.cells #[.slice L0 cl.length cl0, .slice R0 cr.length cr0] 32)) ga) g = W1 ∧ Hid (Below w.heap.size w W1) ∧ Hid (GRow W1 A nL G) ∧ Hid (RowI W1 L0 cl) ∧ Hid (RowI W1 R0 cr) ∧ W1.cell? ⟨w.heap.size, 0, none⟩ = some (.slice A nL cap) ∧ W1.cell? ⟨w.heap.size + 1, 0, none⟩ = some (.slice L0 cl.length cl0) ∧ W1.cell? ⟨w.heap.size + 1, 1, none⟩ = some (.slice R0 cr.length cr0) ∧ old w.heap.size W1 ∧ old (w.heap.size + 1) W1 :=
            ⟨_, rfl, Lib.hid (by repeat' (first | exact Below.refl _ _ | assumption | refine Below.xt ?_ ?_ _ | refine Below.alloc ?_ ?_ _ | refine Below.drew ?_ | refine Below.setCell ?_ ?_ _ | (simp; done) | (simp; omega))), Lib.hid ((HG.out.xt _).xt _), Lib.hid ((HL.out.xt _).xt _), Lib.hid ((HR.out.xt _).xt _), by go_simp, by go_simp, by go_simp, by unfold old; simp; omega, by unfold old; simp; omega⟩
          rw [hW1]
          clear hW1 HC0 HC1 HC2 HC3 HC4 HG HL HR
          go_loopg [54] (nL) (fun gk i wr => ∃ (k : Nat), k + gk = nL ∧ i = .int .i64 k ∧ W1 = wr ∧ Hid (∀ j, j < k → ∀ n ∈ G j, hs cl (j : Int) = true ∨ hs cr n = true))
          case atStart => exact ⟨0, by omega, rfl, rfl, Lib.hid (fun j h => absurd h (by omega))⟩
          case round =>
            obtain ⟨k, hk, rfl, rfl, HK⟩ := hrel
            by_cases hlt : k < nL
            · obtain ⟨gb, go, rfl, hgo, hgc⟩ := HG1.out.top (by omega)
              obtain ⟨Ai, ci, hgi, hrow⟩ := hgc k hlt
              have hlk := HLn.out k hlt
              have HW := Lib.hid hrow
              have CB := bin_any L0 cl.length cl0 cl nL k W1 rfl hl1 X2.out HL1.out
              clear hgc hrow
              rcases Bool.eq_false_or_eq_true (hs cl (k : Int)) with h1 | h1
              · have HE := Lib.hid (show ∀ j, j < k + 1 → ∀ n ∈ G j, hs cl (j : Int) = true ∨ hs cr n = true from fun j hj n hn => by
                  by_cases e : j = k
                  · subst e; exact .inl h1
                  · exact HK.out j (by omega) n hn)
                have HCB := Lib.hid CB
                unfold BS at HCB
                rw [h1] at HCB
                clear CB h1 HK
                go_wp2_with (go_at_call 27; refine HCB.out.mono ?_; rintro e' w' ⟨p, hp, rfl, rfl⟩)
                go_roundg (gk - 1)
                case measure => omega
                case rel => exact ⟨k + 1, by omega, by go_num, rfl, HE⟩
              · have HCB := Lib.hid CB
                unfold BS at HCB
                rw [h1] at HCB
                have H1 := Lib.hid h1
                clear CB h1
                go_wp2_with (go_at_call 27; refine HCB.out.mono ?_; rintro e' w' ⟨p, hp, rfl, rfl⟩)
                go_loop [69] (fun i => ∃ (k2 : Nat), k2 ≤ (G k).length ∧ i = .int .i64 k2 ∧ Hid (∀ j, j < k2 → hs cr ((G k).getD j 0) = true)) (fun i => (G k).length - (intOf i).toNat)
                case atStart => exact ⟨0, by omega, rfl, Lib.hid (fun j h => absurd h (by omega))⟩
                case round =>
                  obtain ⟨k2, hk2, rfl, HK2⟩ := hrel
                  by_cases hlt2 : k2 < (G k).length
                  · obtain ⟨q, o, rfl, hq, hc⟩ := RowI.at_ HW.out (by omega)
                    have c1 := hc k2 hlt2
                    have HMx := Lib.hid (getD_in hlt2)
                    obtain ⟨x, hx⟩ : ∃ x, (G k).getD k2 0 = x := ⟨_, rfl⟩
                    rw [hx] at c1 HMx
                    have HX := Lib.hid hx
                    have CB := bin_any R0 cr.length cr0 cr R x W1 rfl hr1 X3.out HR1.out
                    clear hc hx
                    rcases Bool.eq_false_or_eq_true (hs cr x) with h2 | h2
                    · have HE := Lib.hid (show ∀ j, j < k2 + 1 → hs cr ((G k).getD j 0) = true from fun j hj => by
                        by_cases e : j = k2
                        · subst e; rw [HX.out]; exact h2
                        · exact HK2.out j (by omega))
                      have HCB := Lib.hid CB
                      unfold BS at HCB
                      rw [h2] at HCB
                      clear CB h2 HK2
                      go_wp2_with (go_at_call 27; refine HCB.out.mono ?_; rintro e' w' ⟨p, hp, rfl, rfl⟩)
                      go_round
                      case rel => exact ⟨k2 + 1, by omega, by go_num, HE⟩
                      case measure => simp [intOf]; omega
                    · have HE := Lib.hid (prE_no (hpe.out.trans (covB_no (R := (R : Int)) G hlt HMx.out H1.out h2)))
                      have HCB := Lib.hid CB
                      unfold BS at HCB
                      rw [h2] at HCB
                      clear CB h2 HK2
                      go_wp2_with (go_at_call 27; refine HCB.out.mono ?_; rintro e' w' ⟨p, hp, rfl, rfl⟩)
                      go_ret
                      exact RetB.of (by rw [HE.out]; rfl) HB1.out
                  · obtain rfl : k2 = (G k).length := by omega
                    have HE := Lib.hid (show ∀ j, j < k + 1 → ∀ n ∈ G j, hs cl (j : Int) = true ∨ hs cr n = true from fun j hj n hn => by
                      by_cases e : j = k
                      · subst e
                        obtain ⟨i, hi, rfl⟩ := mem_getD hn
                        exact .inr (HK2.out i hi)
                      · exact HK.out j (by omega) n hn)
                    clear HK HK2
                    go_wp2_with fail
                    go_roundg (gk - 1)
                    case measure => omega
                    case rel => exact ⟨k + 1, by omega, by go_num, rfl, HE⟩
            · obtain rfl : k = nL := by omega
              have HE := Lib.hid (prE_yes (hpe.out.trans (cov_covB (R := (R : Int)) G X2.out X3.out (show Cov G k cl cr from fun i hi n hn => (HK.out i hi n hn).imp (fun h => List.contains_iff_mem.1 h) (fun h => List.contains_iff_mem.1 h)))))
              clear HK
              go_wp2_with fail
              go_ret
              exact RetB.of (by rw [HE.out]; rfl) HB1.out
        · have HE := Lib.hid (prE_no (G := G) (nL := nL) (R := (R : Int)) (m := m) (cl := cl) (cr := cr) (prvB_3 (by rw [← hsz]; exact x4)))
          have HC1 := fun g g' => Lib.hid (C1 g g')
          have HC2 := fun g g' => Lib.hid (C2 g g')
          have HC3 := fun g g' => Lib.hid (C3 g g')
          have HC4 := fun g g' => Lib.hid (C4 g g')
          have d4 : ((szv m : Int) == (cl.length : Int) + (cr.length : Int)) = false := by rw [beq_eq_false_iff_ne]; omega
          have d5 : ((szv m : Int) != (cl.length : Int) + (cr.length : Int)) = true := by rw [bne_iff_ne]; omega
          clear C1 C2 C3 C4 x1 x2 x3 x4 hvm hsz
          generalize szv m = cm at *
          go_enter Try.func15, Try.ntmps15
          go_wp2_with (first
            | (go_at_call 12; (with_reducible refine (RetB.grown HC0.out).mono ?_); rintro e' w' ⟨rfl, ga, rfl⟩)
            | (go_at_call 13; (with_reducible refine (RetB.grown ((HC1 _ _).out)).mono ?_); rintro e' w' ⟨rfl, g, rfl⟩)
            | (go_at_call 26; (with_reducible refine (RetB.grown ((HC2 _ _).out)).mono ?_); rintro e' w' ⟨rfl, g, rfl⟩)
            | (go_at_call 26; (with_reducible refine (RetB.grown ((HC3 _ _).out)).mono ?_); rintro e' w' ⟨rfl, g, rfl⟩)
            | (go_at_call 28; (with_reducible refine (RetB.grown ((HC4 _ _).out)).mono ?_); rintro e' w' ⟨rfl, g, rfl⟩)
            | (refine wp_region_xt (by kernel_rfl) (by kernel_rfl) ?_; (repeat (go_big_quiet_step (first | (go_at_call 13; (with_reducible exact RetB.quiet ((HC1 _ _).out))) | (go_at_call 26; (with_reducible exact RetB.quiet ((HC2 _ _).out))) | (go_at_call 26; (with_reducible exact RetB.quiet ((HC3 _ _).out))) | (go_at_call 28; (with_reducible exact RetB.quiet ((HC4 _ _).out)))))); refine wpQuiet_nil ?_; intro g))
          go_ret
          exact RetB.of (by rw [HE.out]; rfl) (by repeat' (first | exact Below.refl _ _ | assumption | refine Below.xt ?_ ?_ _ | refine Below.alloc ?_ ?_ _ | refine Below.drew ?_ | refine Below.setCell ?_ ?_ _ | (simp; done) | (simp; omega)))
      · have HE := Lib.hid (prE_no (G := G) (nL := nL) (R := (R : Int)) (m := m) (cl := cl) (cr := cr) (prvB_2 (covB_incR x3)))
        rw [x3] at C3
        have HC1 := fun g g' => Lib.hid (C1 g g')
        have HC2 := fun g g' => Lib.hid (C2 g g')
        have HC3 := fun g g' => Lib.hid (C3 g g')
        clear C1 C2 C3 C4 x1 x2 x3 hvm hsz hcm
        go_enter Try.func15, Try.ntmps15
        go_wp2_with (first
          | (go_at_call 12; (with_reducible refine (RetB.grown HC0.out).mono ?_); rintro e' w' ⟨rfl, ga, rfl⟩)
          | (go_at_call 13; (with_reducible refine (RetB.grown ((HC1 _ _).out)).mono ?_); rintro e' w' ⟨rfl, g, rfl⟩)
          | (go_at_call 26; (with_reducible refine (RetB.grown ((HC2 _ _).out)).mono ?_); rintro e' w' ⟨rfl, g, rfl⟩)
          | (go_at_call 26; (with_reducible refine (RetB.grown ((HC3 _ _).out)).mono ?_); rintro e' w' ⟨rfl, g, rfl⟩)
          | (refine wp_region_xt (by kernel_rfl) (by kernel_rfl) ?_; (repeat (go_big_quiet_step (first | (go_at_call 13; (with_reducible exact RetB.quiet ((HC1 _ _).out))) | (go_at_call 26; (with_reducible exact RetB.quiet ((HC2 _ _).out))) | (go_at_call 26; (with_reducible exact RetB.quiet ((HC3 _ _).out)))))); refine wpQuiet_nil ?_; intro g))
        go_ret
        exact RetB.of (by rw [HE.out]; rfl) (by repeat' (first | exact Below.refl _ _ | assumption | refine Below.xt ?_ ?_ _ | refine Below.alloc ?_ ?_ _ | refine Below.drew ?_ | refine Below.setCell ?_ ?_ _ | (simp; done) | (simp; omega)))
    · have HE := Lib.hid (prE_no (G := G) (nL := nL) (R := (R : Int)) (m := m) (cl := cl) (cr := cr) (prvB_2 (covB_incL x2)))
      rw [x2] at C2
      have HC1 := fun g g' => Lib.hid (C1 g g')
      have HC2 := fun g g' => Lib.hid (C2 g g')
      clear C1 C2 C3 C4 x1 x2 hvm hsz hcm
      go_enter Try.func15, Try.ntmps15
      go_wp2_with (first
        | (go_at_call 12; (with_reducible refine (RetB.grown HC0.out).mono ?_); rintro e' w' ⟨rfl, ga, rfl⟩)
        | (go_at_call 13; (with_reducible refine (RetB.grown ((HC1 _ _).out)).mono ?_); rintro e' w' ⟨rfl, g, rfl⟩)
        | (go_at_call 26; (with_reducible refine (RetB.grown ((HC2 _ _).out)).mono ?_); rintro e' w' ⟨rfl, g, rfl⟩)
        | (refine wp_region_xt (by kernel_rfl) (by kernel_rfl) ?_; (repeat (go_big_quiet_step (first | (go_at_call 13; (with_reducible exact RetB.quiet ((HC1 _ _).out))) | (go_at_call 26; (with_reducible exact RetB.quiet ((HC2 _ _).out)))))); refine wpQuiet_nil ?_; intro g))
      go_ret
      exact RetB.of (by rw [HE.out]; rfl) (by repeat' (first | exact Below.refl _ _ | assumption | refine Below.xt ?_ ?_ _ | refine Below.alloc ?_ ?_ _ | refine Below.drew ?_ | refine Below.setCell ?_ ?_ _ | (simp; done) | (simp; omega)))
  · have HE := Lib.hid (prE_no (G := G) (nL := nL) (R := (R : Int)) (m := m) (cl := cl) (cr := cr) (prvB_1 x1))
    rw [x1] at C1
    have HC1 := fun g g' => Lib.hid (C1 g g')
    clear C1 C2 C3 C4 x1 hvm hcm
    go_enter Try.func15, Try.ntmps15
    go_wp2_with (first
      | (go_at_call 12; (with_reducible refine (RetB.grown HC0.out).mono ?_); rintro e' w' ⟨rfl, ga, rfl⟩)
      | (go_at_call 13; (with_reducible refine (RetB.grown ((HC1 _ _).out)).mono ?_); rintro e' w' ⟨rfl, g, rfl⟩)
      | (refine wp_region_xt (by kernel_rfl) (by kernel_rfl) ?_; (repeat (go_big_quiet_step (first | (go_at_call 13; (with_reducible exact RetB.quiet ((HC1 _ _).out)))))); refine wpQuiet_nil ?_; intro g))
    go_ret
    exact RetB.of (by rw [HE.out]; rfl) (by repeat' (first | exact Below.refl _ _ | assumption | refine Below.xt ?_ ?_ _ | refine Below.alloc ?_ ?_ _ | refine Below.drew ?_ | refine Below.setCell ?_ ?_ _ | (simp; done) | (simp; omega)))
theorem Check_any (A M L0 R0 : Option Addr) (nL cap k0 c0 kl cl0 kr cr0 : Nat) (R : Int) (G : Nat → List Int) (m cl cr : List Int) (w : World) (hm : nL ≤ 1000) (hl : ∀ i, i < nL → (G i).length ≤ 1000) (hG : GRow w A nL G)
    (h0 : k0 = m.length) (hml : m.length ≤ 1000) (hM : RowI w M m)
    (h1 : kl = cl.length) (hl1 : cl.length ≤ 1000) (hL : RowI w L0 cl) (h2 : kr = cr.length) (hr1 : cr.length ≤ 1000) (hR : RowI w R0 cr) :
    Calls Try.prog 15 #[.agg #[.slice A nL cap, .int .i64 R], .slice M k0 c0, .agg #[.slice L0 kl cl0, .slice R0 kr cr0]] w (RetB (.int .i64 (chV G nL R m cl cr)) w) := by
  unfold chV
  rcases Bool.eq_false_or_eq_true (vld G nL R) with hv | hv
  · have V := (vld_iff G).1 hv
    have := V.h0
    obtain ⟨r, rfl⟩ : ∃ r : Nat, R = (r : Int) := ⟨R.toNat, by omega⟩
    rw [if_pos hv]
    exact Check_ok A M L0 R0 nL cap k0 c0 kl cl0 kr cr0 r G m cl cr w hG h0 hml hM h1 hl1 hL h2 hr1 hR hv
  · rw [if_neg (by rw [hv]; decide)]
    exact Check_no A M L0 R0 nL cap k0 c0 kl cl0 kr cr0 R G cl cr w hm hl hG h1 h2 hv
end Go.Proofs.Ytkabknmhbjmmcaa


/- Walks: matchings, covers and proofs, by the reference. Conditions stand in each theorem. -/
import Derived.Test.YtjiknjcmfiapjaaMatB4
namespace Go.Proofs.Ytjiknjcmfiapjaa
open Go.RowKit
set_option linter.unusedVariables false
set_option linter.unusedSimpArgs false

theorem retB {f : FuncId} {args : Array Value} {v : Value} {w : World} (h : Calls Try.prog f args w (Ret v w)) : Calls Try.prog f args w (RetB v w) := h.mono fun _ _ ⟨he, hb⟩ => ⟨he, hb ▸ Below.refl _ _⟩
theorem covB_incL {G : Nat → List Int} {nL : Nat} {R : Int} {cl cr : List Int} (h : inc cl nL = false) : covB G nL R cl cr = false := by unfold covB; rw [h]; rfl
theorem covB_incR {G : Nat → List Int} {nL : Nat} {R : Int} {cl cr : List Int} (h : inc cr R = false) : covB G nL R cl cr = false := by unfold covB; rw [h]; simp
set_option maxRecDepth 100000 in
set_option maxHeartbeats 3200000 in
theorem refCovers_any (A L0 R0 : Option Addr) (nL cap kl cl0 kr cr0 : Nat) (R : Int) (G : Nat → List Int) (cl cr : List Int) (w : World) (hm : nL ≤ 1000) (hl : ∀ i, i < nL → (G i).length ≤ 1000) (hG : GRow w A nL G)
    (h1 : kl = cl.length) (hl1 : cl.length ≤ 1000) (hL : RowI w L0 cl) (h2 : kr = cr.length) (hr1 : cr.length ≤ 1000) (hR : RowI w R0 cr) :
    Calls Try.prog 25 #[.agg #[.slice A nL cap, .int .i64 R], .agg #[.slice L0 kl cl0, .slice R0 kr cr0]] w (RetB (.bool (covB G nL R cl cr)) w) := by
  subst h1 h2
  have HG := Lib.hid ((hG.alloc (.cells #[.slice A nL cap, .int .i64 R] 54)).alloc (.cells #[.slice L0 cl.length cl0, .slice R0 cr.length cr0] 27))
  have HL := Lib.hid ((hL.alloc (.cells #[.slice A nL cap, .int .i64 R] 54)).alloc (.cells #[.slice L0 cl.length cl0, .slice R0 cr.length cr0] 27))
  have HR := Lib.hid ((hR.alloc (.cells #[.slice A nL cap, .int .i64 R] 54)).alloc (.cells #[.slice L0 cl.length cl0, .slice R0 cr.length cr0] 27))
  have HLn := Lib.hid hl
  clear hG hL hR hl
  have C1 := fun w h => rinc_any L0 cl0 cl nL w hl1 h
  have C2 := fun w h => rinc_any R0 cr0 cr R w hr1 h
  cases hi1 : inc cl nL with
  | false =>
    have HE := Lib.hid (covB_incL (G := G) (R := R) (cr := cr) hi1)
    rw [hi1] at C1
    have HC1 := fun w h => Lib.hid (C1 w h)
    clear C1 C2 hi1
    go_enter Try.func25, Try.ntmps25
    go_wp2_with (first
      | (go_at_call 37; (with_reducible refine (RetB.grown ((HC1 _ HL.out).out)).mono ?_); rintro e' w' ⟨rfl, g, rfl⟩)
      | (refine wp_region_xt (by kernel_rfl) (by kernel_rfl) ?_; (repeat (go_big_quiet_step (first | (go_at_call 37; (with_reducible exact RetB.quiet ((HC1 _ HL.out).out)))))); refine wpQuiet_nil ?_; intro g))
    go_ret
    exact RetB.of (by rw [HE.out]; rfl) (by repeat' (first | exact Below.refl _ _ | assumption | refine Below.xt ?_ ?_ _ | refine Below.alloc ?_ ?_ _ | refine Below.drew ?_ | refine Below.setCell ?_ ?_ _ | (simp; done) | (simp; omega)))
  | true =>
    rw [hi1] at C1
    cases hi2 : inc cr R with
    | false =>
      have HE := Lib.hid (covB_incR (G := G) (nL := nL) (cl := cl) hi2)
      rw [hi2] at C2
      have HC1 := fun w h => Lib.hid (C1 w h)
      have HC2 := fun w h => Lib.hid (C2 w h)
      clear C1 C2 hi1 hi2
      go_enter Try.func25, Try.ntmps25
      go_wp2_with (first
        | (go_at_call 37; (with_reducible refine (RetB.grown ((HC1 _ HL.out).out)).mono ?_); rintro e' w' ⟨rfl, g, rfl⟩)
        | (go_at_call 37; (with_reducible refine (RetB.grown ((HC2 _ (RowI.xt HR.out _)).out)).mono ?_); rintro e' w' ⟨rfl, g, rfl⟩)
        | (refine wp_region_xt (by kernel_rfl) (by kernel_rfl) ?_; (repeat (go_big_quiet_step (first | (go_at_call 37; (with_reducible exact RetB.quiet ((HC1 _ HL.out).out))) | (go_at_call 37; (with_reducible exact RetB.quiet ((HC2 _ (RowI.xt HR.out _)).out)))))); refine wpQuiet_nil ?_; intro g))
      go_ret
      exact RetB.of (by rw [HE.out]; rfl) (by repeat' (first | exact Below.refl _ _ | assumption | refine Below.xt ?_ ?_ _ | refine Below.alloc ?_ ?_ _ | refine Below.drew ?_ | refine Below.setCell ?_ ?_ _ | (simp; done) | (simp; omega)))
    | true =>
      rw [hi2] at C2
      have HC1 := fun w h => Lib.hid (C1 w h)
      have HC2 := fun w h => Lib.hid (C2 w h)
      have HI1 := Lib.hid hi1
      have HI2 := Lib.hid hi2
      clear C1 C2 hi1 hi2
      go_enter Try.func25, Try.ntmps25
      go_wp2_with (first
        | (go_at_call 37; (with_reducible refine (RetB.grown (HC1 _ HL.out).out).mono ?_); rintro e' w' ⟨rfl, ga, rfl⟩)
        | (go_at_call 37; (with_reducible refine (RetB.grown (HC2 _ (RowI.xt HR.out _)).out).mono ?_); rintro e' w' ⟨rfl, gb, rfl⟩)
        | (refine wp_region_xt (by kernel_rfl) (by kernel_rfl) ?_; (repeat (go_big_quiet_step (first | fail))); refine wpQuiet_nil ?_; intro g))
      obtain ⟨W1, hW1, HB1, HG1, HL1, HR1, f0, f1, f2, o1, o2⟩ : ∃ W1, xt (xt ((w.alloc (.cells #[.slice A nL cap, .int .i64 R] 54)).alloc (.cells #[.slice L0 cl.length cl0, .slice R0 cr.length cr0] 27)) ga) gb = W1 ∧ Hid (Below w.heap.size w W1) ∧ Hid (GRow W1 A nL G) ∧ Hid (RowI W1 L0 cl) ∧ Hid (RowI W1 R0 cr) ∧ W1.cell? ⟨w.heap.size, 0, none⟩ = some (.slice A nL cap) ∧ W1.cell? ⟨w.heap.size + 1, 0, none⟩ = some (.slice L0 cl.length cl0) ∧ W1.cell? ⟨w.heap.size + 1, 1, none⟩ = some (.slice R0 cr.length cr0) ∧ old w.heap.size W1 ∧ old (w.heap.size + 1) W1 :=
        ⟨_, rfl, Lib.hid (by repeat' (first | exact Below.refl _ _ | assumption | refine Below.xt ?_ ?_ _ | refine Below.alloc ?_ ?_ _ | refine Below.drew ?_ | refine Below.setCell ?_ ?_ _ | (simp; done) | (simp; omega))), Lib.hid ((HG.out.xt _).xt _), Lib.hid ((HL.out.xt _).xt _), Lib.hid ((HR.out.xt _).xt _), by go_simp, by go_simp, by go_simp, by unfold old; simp; omega, by unfold old; simp; omega⟩
      rw [hW1]
      clear hW1 HC1 HC2 HG HL HR
      go_loopw [5] (fun i wr => ∃ (k : Nat) (g : Gr), k ≤ nL ∧ i = .int .i64 k ∧ wr = xt W1 g ∧ Hid (∀ j, j < k → ∀ n ∈ G j, hs cl (j : Int) = true ∨ hs cr n = true)) (fun i _ => nL - (intOf i).toNat)
      case atStart => exact ⟨0, _, by omega, rfl, (xt_self _).symm, Lib.hid (fun j h => absurd h (by omega))⟩
      case round =>
        obtain ⟨k, g, hk, rfl, rfl, HK⟩ := hrel
        by_cases hlt : k < nL
        · obtain ⟨gb, go, rfl, hgo, hgc⟩ := HG1.out.top (by omega)
          obtain ⟨Ai, ci, hgi, hrow⟩ := hgc k hlt
          have hlk := HLn.out k hlt
          have HW := Lib.hid hrow
          clear hgc hrow
          go_wp2_with fail
          go_loopw [6] (fun i wr => ∃ (k2 : Nat) (g : Gr), k2 ≤ (G k).length ∧ i = .int .i64 k2 ∧ wr = xt W1 g ∧ Hid (∀ j, j < k2 → hs cl (k : Int) = true ∨ hs cr ((G k).getD j 0) = true)) (fun i _ => (G k).length - (intOf i).toNat)
          case atStart => exact ⟨0, _, by omega, rfl, rfl, Lib.hid (fun j h => absurd h (by omega))⟩
          case round =>
            obtain ⟨k2, g2, hk2, rfl, rfl, HK2⟩ := hrel
            by_cases hlt2 : k2 < (G k).length
            · obtain ⟨q, o, rfl, hq, hc⟩ := RowI.at_ HW.out (by omega)
              have c1 := hc k2 hlt2
              have HM := Lib.hid (getD_in hlt2)
              obtain ⟨x, hx⟩ : ∃ x, (G k).getD k2 0 = x := ⟨_, rfl⟩
              rw [hx] at c1 HM
              have HX := Lib.hid hx
              clear hc hx
              have C1 := fun g' => retB (Has_any L0 cl.length cl0 cl (k : Int) _ rfl hl1 (RowI.xt (RowI.xt HL1.out g2) g'))
              have C2 := fun g' => retB (Has_any R0 cr.length cr0 cr x _ rfl hr1 (RowI.xt (RowI.xt HR1.out g2) g'))
              rcases Bool.eq_false_or_eq_true (hs cl (k : Int)) with h1 | h1
              · have HE := Lib.hid (show ∀ j, j < k2 + 1 → hs cl (k : Int) = true ∨ hs cr ((G k).getD j 0) = true from fun j hj => .inl h1)
                rw [h1] at C1
                have HC1 := fun g' => Lib.hid (C1 g')
                clear C1 C2 HK2 h1
                go_wp2_with (first
                  | (go_at_call 31; (with_reducible refine (RetB.grown ((HC1 _).out)).mono ?_); rintro e' w' ⟨rfl, g, rfl⟩)
                  | (refine wp_region_xt (by kernel_rfl) (by kernel_rfl) ?_; (repeat (go_big_quiet_step (first | (go_at_call 31; (with_reducible exact RetB.quiet ((HC1 _).out)))))); refine wpQuiet_nil ?_; intro g))
                go_roundw
                case rel => exact ⟨k2 + 1, _, by omega, by go_num, xt_xt _ _ _, HE⟩
                case measure => simp [intOf]; omega
              · rw [h1] at C1
                rcases Bool.eq_false_or_eq_true (hs cr x) with h2 | h2
                · have HE := Lib.hid (show ∀ j, j < k2 + 1 → hs cl (k : Int) = true ∨ hs cr ((G k).getD j 0) = true from fun j hj => by
                    by_cases e : j = k2
                    · subst e; right; rw [HX.out]; exact h2
                    · exact HK2.out j (by omega))
                  rw [h2] at C2
                  have HC1 := fun g' => Lib.hid (C1 g')
                  have HC2 := fun g' => Lib.hid (C2 g')
                  clear C1 C2 HK2 h1 h2
                  go_wp2_with (first
                    | (go_at_call 31; (with_reducible refine (RetB.grown ((HC1 _).out)).mono ?_); rintro e' w' ⟨rfl, g, rfl⟩)
                    | (go_at_call 31; (with_reducible refine (RetB.grown ((HC2 _).out)).mono ?_); rintro e' w' ⟨rfl, g, rfl⟩)
                    | (refine wp_region_xt (by kernel_rfl) (by kernel_rfl) ?_; (repeat (go_big_quiet_step (first | (go_at_call 31; (with_reducible exact RetB.quiet ((HC1 _).out))) | (go_at_call 31; (with_reducible exact RetB.quiet ((HC2 _).out)))))); refine wpQuiet_nil ?_; intro g))
                  go_roundw
                  case rel => exact ⟨k2 + 1, _, by omega, by go_num, xt_xt _ _ _, HE⟩
                  case measure => simp [intOf]; omega
                · have HE := Lib.hid (covB_no (R := R) G hlt HM.out h1 h2)
                  rw [h2] at C2
                  have HC1 := fun g' => Lib.hid (C1 g')
                  have HC2 := fun g' => Lib.hid (C2 g')
                  clear C1 C2 HK2 h1 h2
                  go_wp2_with (first
                    | (go_at_call 31; (with_reducible refine (RetB.grown ((HC1 _).out)).mono ?_); rintro e' w' ⟨rfl, g, rfl⟩)
                    | (go_at_call 31; (with_reducible refine (RetB.grown ((HC2 _).out)).mono ?_); rintro e' w' ⟨rfl, g, rfl⟩)
                    | (refine wp_region_xt (by kernel_rfl) (by kernel_rfl) ?_; (repeat (go_big_quiet_step (first | (go_at_call 31; (with_reducible exact RetB.quiet ((HC1 _).out))) | (go_at_call 31; (with_reducible exact RetB.quiet ((HC2 _).out)))))); refine wpQuiet_nil ?_; intro g))
                  go_ret
                  exact RetB.of (by rw [HE.out]; rfl) (Below.xt (Below.xt HB1.out HB1.out.size _) (by have := HB1.out.size; simp; omega) _)
            · obtain rfl : k2 = (G k).length := by omega
              have HE := Lib.hid (show ∀ j, j < k + 1 → ∀ n ∈ G j, hs cl (j : Int) = true ∨ hs cr n = true from fun j hj n hn => by
                by_cases e : j = k
                · subst e
                  obtain ⟨i, hi, rfl⟩ := mem_getD hn
                  exact HK2.out i hi
                · exact HK.out j (by omega) n hn)
              clear HK HK2
              go_wp2_with fail
              go_roundw
              case rel => exact ⟨k + 1, _, by omega, by go_num, rfl, HE⟩
              case measure => simp [intOf]; omega
        · obtain rfl : k = nL := by omega
          have HE := Lib.hid (cov_covB (R := R) G HI1.out HI2.out (show Cov G k cl cr from fun i hi n hn => (HK.out i hi n hn).imp (fun h => List.contains_iff_mem.1 h) (fun h => List.contains_iff_mem.1 h)))
          clear HK
          go_wp2_with fail
          go_ret
          exact RetB.of (by rw [HE.out]; rfl) (Below.xt HB1.out HB1.out.size _)

theorem prvB_eq {G : Nat → List Int} {nL : Nat} {R : Int} {m cl cr : List Int} : prvB G nL R m cl cr = (matB G nL m && covB G nL R cl cr && decide (cnt m = cl.length + cr.length)) := rfl
end Go.Proofs.Ytjiknjcmfiapjaa

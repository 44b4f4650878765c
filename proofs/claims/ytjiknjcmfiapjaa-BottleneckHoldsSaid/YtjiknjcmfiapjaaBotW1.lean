
/- Walks: valid costs, by the program and by the reference. Conditions stand in each theorem. -/
import Derived.Test.YtjiknjcmfiapjaaBotP
import Derived.Test.YtjiknjcmfiapjaaMatB7
namespace Go.Proofs.Ytjiknjcmfiapjaa
open Go.RowKit
set_option linter.unusedVariables false
set_option linter.unusedSimpArgs false

theorem notC_cl (x : Int) (w : World) : Calls Try.prog 33 #[.int .i64 x] w (Ret (.bool (!inC x)) w) := by
  by_cases h0 : x < 0
  · have d0 : decide (x < 0) = true := by simpa using h0
    have e : inC x = false := by rw [← Bool.not_eq_true, inC_iff]; omega
    rw [e]
    go_enter Try.func33, Try.ntmps33
    go_wp2_with fail
    go_ret
    exact ⟨rfl, rfl⟩
  · have d0 : decide (x < 0) = false := by simpa using h0
    by_cases h1 : 17592186044416 < x
    · have d1 : decide (17592186044416 < x) = true := by simpa using h1
      have e : inC x = false := by rw [← Bool.not_eq_true, inC_iff]; omega
      rw [e]
      go_enter Try.func33, Try.ntmps33
      go_wp2_with fail
      go_ret
      exact ⟨rfl, rfl⟩
    · have d1 : decide (17592186044416 < x) = false := by simpa using h1
      have e : inC x = true := by rw [inC_iff]; omega
      rw [e]
      go_enter Try.func33, Try.ntmps33
      go_wp2_with fail
      go_ret
      exact ⟨rfl, rfl⟩

def IdxC (p : Int → Prop) (w : World) (e : Ending) (w' : World) : Prop := ∃ k : Int, p k ∧ e = .returned (.int .i64 k) ∧ w = w'
set_option maxHeartbeats 800000 in
theorem indexC_any (A : Option Addr) (m cap : Nat) (l : List Int) (w : World) (hm : m = l.length) (hl : l.length ≤ 1000) (h : RowI w A l) :
    Calls Try.prog 47 #[.slice A m cap, .func (.func 33) #[] #[]] w (IdxC (fun k => decide (0 ≤ k) = !allC l) w) := by
  subst hm
  have HI := Lib.hid h
  clear h
  go_enter Try.func47, Try.ntmps47
  go_wp2_with fail
  go_loop [8] (fun i => ∃ k : Nat, k ≤ l.length ∧ i = .int .i64 k ∧ Hid (∀ j, j < k → inC (l.getD j 0) = true)) (fun i => l.length - (intOf i).toNat)
  case atStart => exact ⟨0, by omega, rfl, Lib.hid (fun j h => absurd h (by omega))⟩
  case round =>
    obtain ⟨k, hk, rfl, HK⟩ := hrel
    by_cases hlt : k < l.length
    · obtain ⟨q, o, rfl, hq, hc⟩ := RowI.at_ HI.out (by omega)
      have c1 := hc k hlt
      obtain ⟨x, hx⟩ : ∃ x, l.getD k 0 = x := ⟨_, rfl⟩
      rw [hx] at c1
      have C := notC_cl x
      cases h0 : inC x with
      | false =>
        have HE := Lib.hid (allC_no hlt (by rw [hx]; exact h0))
        rw [h0] at C
        clear hx HK hc HI h0
        go_wp2_with (first
          | (go_at_call 33; refine (C _).mono ?_; rintro e' w' ⟨rfl, rfl⟩)
          | (refine wp_region_xt (by kernel_rfl) (by kernel_rfl) ?_; (repeat (go_big_quiet_step (first | (go_at_call 33; exact Ret.quiet (C _))))); refine wpQuiet_nil ?_; intro g))
        go_ret
        exact ⟨k, by rw [HE.out]; simp, rfl, rfl⟩
      | true =>
        have HE := Lib.hid (all_next (p := fun j => inC (l.getD j 0)) HK.out (by rw [hx]; exact h0))
        rw [h0] at C
        clear hx HK hc HI h0
        go_wp2_with (first
          | (go_at_call 33; refine (C _).mono ?_; rintro e' w' ⟨rfl, rfl⟩)
          | (refine wp_region_xt (by kernel_rfl) (by kernel_rfl) ?_; (repeat (go_big_quiet_step (first | (go_at_call 33; exact Ret.quiet (C _))))); refine wpQuiet_nil ?_; intro g))
        go_round
        case rel => exact ⟨k + 1, by omega, by go_num, HE⟩
        case measure => simp [intOf]; omega
    · have HE := Lib.hid (allC_iff.2 fun i hi => HK.out i (by omega))
      clear HI
      go_wp2_with (first
        | (refine wp_region_xt (by kernel_rfl) (by kernel_rfl) ?_; (repeat (go_big_quiet_step (first | fail))); refine wpQuiet_nil ?_; intro g))
      go_ret
      exact ⟨-1, by rw [HE.out]; rfl, rfl, rfl⟩
theorem containsC_any (A : Option Addr) (m cap : Nat) (l : List Int) (w : World) (hm : m = l.length) (hl : l.length ≤ 1000) (h : RowI w A l) :
    Calls Try.prog 32 #[.slice A m cap, .func (.func 33) #[] #[]] w (Ret (.bool (!allC l)) w) := by
  have C1 := Lib.hid (indexC_any A m cap l w hm hl h)
  clear h hm hl
  go_enter Try.func32, Try.ntmps32
  go_wp2_with fail
  refine C1.out.mono ?_
  rintro e w' ⟨k, hk, rfl, rfl⟩
  go_wp2_with fail
  go_ret
  exact ⟨by rw [← hk]; rfl, rfl⟩

set_option maxHeartbeats 1600000 in
theorem bValid_any (A : Option Addr) (n cap : Nat) (G : Nat → List Int) (w : World) (hm : n ≤ 1000) (hl : ∀ i, i < n → (G i).length ≤ 1000) (hG : GRow w A n G) : Calls Try.prog 17 #[.slice A n cap] w (Ret (.bool (cvd G n)) w) := by
  have HG := Lib.hid hG
  have HL := Lib.hid hl
  clear hG hl
  go_enter Try.func17, Try.ntmps17
  go_wp2_with fail
  go_loop [7] (fun i => ∃ k : Nat, k ≤ n ∧ i = .int .i64 k ∧ Hid (∀ j, j < k → (G j).length = n ∧ allC (G j) = true)) (fun i => n - (intOf i).toNat)
  case atStart => exact ⟨0, by omega, rfl, Lib.hid (fun j h => absurd h (by omega))⟩
  case round =>
    obtain ⟨k, hk, rfl, HK⟩ := hrel
    by_cases hlt : k < n
    · obtain ⟨gb, go, rfl, hgo, hgc⟩ := HG.out.top (by omega)
      obtain ⟨Ai, ci, hgi, hrow⟩ := hgc k hlt
      have hlk := HL.out k hlt
      by_cases hn : (G k).length = n
      · have C := containsC_any Ai (G k).length ci (G k) w rfl hlk hrow
        rw [hn] at C hgi
        cases h0 : allC (G k) with
        | false =>
          have HE := Lib.hid (cvd_row hlt h0)
          rw [h0] at C
          have HC := Lib.hid C
          clear h0 C HK hgc HG hrow hn hlk
          go_wp2_with (first
            | (go_at_call 32; refine (HC.out).mono ?_; rintro e' w' ⟨rfl, rfl⟩)
            | (refine wp_region_xt (by kernel_rfl) (by kernel_rfl) ?_; (repeat (go_big_quiet_step (first | (go_at_call 32; exact Ret.quiet (HC.out))))); refine wpQuiet_nil ?_; intro g))
          go_ret
          exact ⟨by rw [HE.out]; rfl, rfl⟩
        | true =>
          have HE := Lib.hid (show ∀ j, j < k + 1 → (G j).length = n ∧ allC (G j) = true from fun j hj => by
            by_cases e : j = k
            · subst e; exact ⟨hn, h0⟩
            · exact HK.out j (by omega))
          rw [h0] at C
          have HC := Lib.hid C
          clear h0 C HK hgc HG hrow hn hlk
          go_wp2_with (first
            | (go_at_call 32; refine (HC.out).mono ?_; rintro e' w' ⟨rfl, rfl⟩)
            | (refine wp_region_xt (by kernel_rfl) (by kernel_rfl) ?_; (repeat (go_big_quiet_step (first | (go_at_call 32; exact Ret.quiet (HC.out))))); refine wpQuiet_nil ?_; intro g))
          go_round
          case rel => exact ⟨k + 1, by omega, by go_num, HE⟩
          case measure => simp [intOf]; omega
      · have HE := Lib.hid (cvd_len hlt hn)
        obtain ⟨x, hx⟩ : ∃ x, (G k).length = x := ⟨_, rfl⟩
        rw [hx] at hgi hlk hn
        have d1 : ((x : Int) == (n : Int)) = false := by simpa using by omega
        clear hx HK hgc HG hrow
        go_wp2_with (first
          | (refine wp_region_xt (by kernel_rfl) (by kernel_rfl) ?_; (repeat (go_big_quiet_step (first | fail))); refine wpQuiet_nil ?_; intro g))
        go_ret
        exact ⟨by rw [HE.out]; rfl, rfl⟩
    · obtain rfl : k = n := by omega
      have HE := Lib.hid (cvd_end HK.out)
      clear HK HG HL
      by_cases h1 : 1 ≤ k
      · have d1 : decide (1 ≤ k) = true := by simpa using h1
        go_wp2_with (first
          | (refine wp_region_xt (by kernel_rfl) (by kernel_rfl) ?_; (repeat (go_big_quiet_step (first | fail))); refine wpQuiet_nil ?_; intro g))
        go_ret
        exact ⟨by rw [HE.out]; simp [d1]; omega, rfl⟩
      · have d1 : decide (1 ≤ k) = false := by simpa using h1
        go_wp2_with (first
          | (refine wp_region_xt (by kernel_rfl) (by kernel_rfl) ?_; (repeat (go_big_quiet_step (first | fail))); refine wpQuiet_nil ?_; intro g))
        go_ret
        exact ⟨by rw [HE.out]; simp [d1], rfl⟩

set_option maxHeartbeats 1600000 in
theorem rValid_any (A : Option Addr) (n cap : Nat) (G : Nat → List Int) (w : World) (hm : n ≤ 1000) (hl : ∀ i, i < n → (G i).length ≤ 1000) (hG : GRow w A n G) : Calls Try.prog 11 #[.slice A n cap] w (Ret (.bool (cvd G n)) w) := by
  have HG := Lib.hid hG
  have HL := Lib.hid hl
  clear hG hl
  go_enter Try.func11, Try.ntmps11
  go_wp2_with fail
  go_loop [4] (fun i => ∃ k : Nat, k ≤ n ∧ i = .int .i64 k ∧ Hid (∀ j, j < k → (G j).length = n ∧ allC (G j) = true)) (fun i => n - (intOf i).toNat)
  case atStart => exact ⟨0, by omega, rfl, Lib.hid (fun j h => absurd h (by omega))⟩
  case round =>
    obtain ⟨k, hk, rfl, HK⟩ := hrel
    by_cases hlt : k < n
    · obtain ⟨gb, go, rfl, hgo, hgc⟩ := HG.out.top (by omega)
      obtain ⟨Ai, ci, hgi, hrow⟩ := hgc k hlt
      have hlk := HL.out k hlt
      by_cases hn : (G k).length = n
      · rw [hn] at hgi
        have HR := Lib.hid hrow
        have HN := Lib.hid hn
        clear hgc HG hrow hn hlk
        go_wp2_with fail
        go_loop [5] (fun i => ∃ m : Nat, m ≤ n ∧ i = .int .i64 m ∧ Hid (∀ j, j < m → inC ((G k).getD j 0) = true)) (fun i => n - (intOf i).toNat)
        case atStart => exact ⟨0, by omega, rfl, Lib.hid (fun j h => absurd h (by omega))⟩
        case round =>
          obtain ⟨m, hm', rfl, HM⟩ := hrel
          by_cases hlt2 : m < n
          · obtain ⟨q, o, rfl, hq, hc⟩ := RowI.at_ HR.out (by rw [HN.out]; omega)
            have c1 := hc m (by rw [HN.out]; exact hlt2)
            obtain ⟨x, hx⟩ : ∃ x, (G k).getD m 0 = x := ⟨_, rfl⟩
            rw [hx] at c1
            by_cases h0 : x < 0
            · have HE := Lib.hid (cvd_row hlt (allC_no (by rw [HN.out]; exact hlt2) (by rw [hx, ← Bool.not_eq_true, inC_iff]; omega)))
              have d0 : decide (x < 0) = true := by simpa using h0
              clear hx HK HM hc HR HN
              go_wp2_with (first
                | (refine wp_region_xt (by kernel_rfl) (by kernel_rfl) ?_; (repeat (go_big_quiet_step (first | fail))); refine wpQuiet_nil ?_; intro g))
              go_ret
              exact ⟨by rw [HE.out]; rfl, rfl⟩
            · have d0 : decide (x < 0) = false := by simpa using h0
              by_cases h1 : 17592186044416 < x
              · have HE := Lib.hid (cvd_row hlt (allC_no (by rw [HN.out]; exact hlt2) (by rw [hx, ← Bool.not_eq_true, inC_iff]; omega)))
                have d1 : decide (17592186044416 < x) = true := by simpa using h1
                clear hx HK HM hc HR HN
                go_wp2_with (first
                  | (refine wp_region_xt (by kernel_rfl) (by kernel_rfl) ?_; (repeat (go_big_quiet_step (first | fail))); refine wpQuiet_nil ?_; intro g))
                go_ret
                exact ⟨by rw [HE.out]; rfl, rfl⟩
              · have d1 : decide (17592186044416 < x) = false := by simpa using h1
                have HE := Lib.hid (all_next (p := fun j => inC ((G k).getD j 0)) HM.out (by rw [hx]; exact inC_iff.2 (by omega)))
                clear hx HK HM hc HR HN
                go_wp2_with (first
                  | (refine wp_region_xt (by kernel_rfl) (by kernel_rfl) ?_; (repeat (go_big_quiet_step (first | fail))); refine wpQuiet_nil ?_; intro g))
                go_round
                case rel => exact ⟨m + 1, by omega, by go_num, HE⟩
                case measure => simp [intOf]; omega
          · obtain rfl : m = n := by omega
            have HE := Lib.hid (show ∀ j, j < k + 1 → (G j).length = m ∧ allC (G j) = true from fun j hj => by
              by_cases e : j = k
              · subst e; exact ⟨HN.out, allC_iff.2 fun i hi => HM.out i (by rw [← HN.out]; exact hi)⟩
              · exact HK.out j (by omega))
            clear HK HM HR HN
            go_wp2_with (first
              | (refine wp_region_xt (by kernel_rfl) (by kernel_rfl) ?_; (repeat (go_big_quiet_step (first | fail))); refine wpQuiet_nil ?_; intro g))
            go_round
            case rel => exact ⟨k + 1, by omega, by go_num, HE⟩
            case measure => simp [intOf]; omega
      · have HE := Lib.hid (cvd_len hlt hn)
        obtain ⟨x, hx⟩ : ∃ x, (G k).length = x := ⟨_, rfl⟩
        rw [hx] at hgi hlk hn
        have d1 : ((x : Int) == (n : Int)) = false := by simpa using by omega
        clear hx HK hgc HG hrow
        go_wp2_with (first
          | (refine wp_region_xt (by kernel_rfl) (by kernel_rfl) ?_; (repeat (go_big_quiet_step (first | fail))); refine wpQuiet_nil ?_; intro g))
        go_ret
        exact ⟨by rw [HE.out]; rfl, rfl⟩
    · obtain rfl : k = n := by omega
      have HE := Lib.hid (cvd_end HK.out)
      clear HK HG HL
      by_cases h1 : 1 ≤ k
      · have d1 : decide (1 ≤ k) = true := by simpa using h1
        go_wp2_with (first
          | (refine wp_region_xt (by kernel_rfl) (by kernel_rfl) ?_; (repeat (go_big_quiet_step (first | fail))); refine wpQuiet_nil ?_; intro g))
        go_ret
        exact ⟨by rw [HE.out]; simp [d1]; omega, rfl⟩
      · have d1 : decide (1 ≤ k) = false := by simpa using h1
        go_wp2_with (first
          | (refine wp_region_xt (by kernel_rfl) (by kernel_rfl) ?_; (repeat (go_big_quiet_step (first | fail))); refine wpQuiet_nil ?_; intro g))
        go_ret
        exact ⟨by rw [HE.out]; simp [d1], rfl⟩

/-! ### The reference's columns and costs -/
set_option maxHeartbeats 1600000 in
theorem Columns_any (A : Option Addr) (m cap : Nat) (l : List Int) (n : Nat) (w : World) (hm : m = l.length) (hl : l.length ≤ 1000) (hn : n ≤ 1000) (hcap : m ≤ cap) (h : RowI w A l) : Calls Try.prog 14 #[.slice A m cap, .int .i64 (n : Int)] w (RetB (.bool (colsB l n)) w) := by
  subst hm
  have HI := Lib.hid h
  clear h
  go_enter Try.func14, Try.ntmps14
  go_wp2_with fail
  go_loopw [5] (fun i wr => ∃ (k : Nat) (g : Gr), k ≤ l.length ∧ i = .int .i64 k ∧ wr = xt w g ∧ Hid (∀ j, j < k → colAt l n j = true)) (fun i _ => l.length - (intOf i).toNat)
  case atStart => exact ⟨0, _, by omega, rfl, (xt_self _).symm, Lib.hid (fun j h => absurd h (by omega))⟩
  case round =>
    obtain ⟨k, g, hk, rfl, rfl, HK⟩ := hrel
    by_cases hlt : k < l.length
    · obtain ⟨q, o, rfl, hq, hc⟩ := RowI.at_ HI.out (by omega)
      have c1 := hc k hlt
      have hkc : k ≤ cap := by omega
      obtain ⟨x, hx⟩ : ∃ x, l.getD k 0 = x := ⟨_, rfl⟩
      rw [hx] at c1
      by_cases h0 : x < 0
      · have HE := Lib.hid (colsB_no (n := n) hlt (by rw [← Bool.not_eq_true, colAt_iff, hx]; omega))
        have d1 : decide (x < 0) = true := by simpa using h0
        clear hx HK hc HI h0
        go_wp2_with (first
          | (refine wp_region_xt (by kernel_rfl) (by kernel_rfl) ?_; (repeat (go_big_quiet_step (first | fail))); refine wpQuiet_nil ?_; intro g))
        go_ret
        exact ⟨by rw [HE.out]; rfl, (by repeat' (first | exact Below.refl _ _ | assumption | refine Below.xt ?_ ?_ _ | refine Below.alloc ?_ ?_ _ | refine Below.drew ?_ | refine Below.setCell ?_ ?_ _ | (simp; done) | (simp; omega)))⟩
      · have d1 : decide (x < 0) = false := by simpa using h0
        by_cases h1 : (n : Int) ≤ x
        · have HE := Lib.hid (colsB_no (n := n) hlt (by rw [← Bool.not_eq_true, colAt_iff, hx]; omega))
          have d2 : decide ((n : Int) ≤ x) = true := by simpa using h1
          clear hx HK hc HI h0
          go_wp2_with (first
            | (refine wp_region_xt (by kernel_rfl) (by kernel_rfl) ?_; (repeat (go_big_quiet_step (first | fail))); refine wpQuiet_nil ?_; intro g))
          go_ret
          exact ⟨by rw [HE.out]; rfl, (by repeat' (first | exact Below.refl _ _ | assumption | refine Below.xt ?_ ?_ _ | refine Below.alloc ?_ ?_ _ | refine Below.drew ?_ | refine Below.setCell ?_ ?_ _ | (simp; done) | (simp; omega)))⟩
        · have d2 : decide ((n : Int) ≤ x) = false := by simpa using h1
          have CH := fun w' h => retB (Has_any (some ⟨q, o, none⟩) k cap (l.take k) x w' (by rw [List.length_take]; omega) (by rw [List.length_take]; omega) h)
          have HR := fun g' => RowI.xt (RowI.xt (HI.out.take k) g) g'
          have CH2 := fun g' => CH _ (HR g')
          cases h2 : hs (l.take k) x with
          | true =>
            have HE := Lib.hid (colsB_no (n := n) hlt (by rw [← Bool.not_eq_true, colAt_iff, hx, h2]; simp))
            rw [h2] at CH2
            have HC := fun g' => Lib.hid (CH2 g')
            clear hx HK hc HI h0 CH CH2 HR h2
            go_wp2_with (first
              | (go_at_call 31; (with_reducible refine (RetB.grown ((HC _).out)).mono ?_); rintro e' w' ⟨rfl, g, rfl⟩)
              | (refine wp_region_xt (by kernel_rfl) (by kernel_rfl) ?_; (repeat (go_big_quiet_step (first | (go_at_call 31; (with_reducible exact RetB.quiet ((HC _).out)))))); refine wpQuiet_nil ?_; intro g))
            go_ret
            exact ⟨by rw [HE.out]; rfl, (by repeat' (first | exact Below.refl _ _ | assumption | refine Below.xt ?_ ?_ _ | refine Below.alloc ?_ ?_ _ | refine Below.drew ?_ | refine Below.setCell ?_ ?_ _ | (simp; done) | (simp; omega)))⟩
          | false =>
            have HE := Lib.hid (all_next (p := fun j => colAt l n j) HK.out (by rw [colAt_iff, hx]; exact ⟨by omega, by omega, h2⟩))
            rw [h2] at CH2
            have HC := fun g' => Lib.hid (CH2 g')
            clear hx HK hc HI h0 CH CH2 HR h2
            go_wp2_with (first
              | (go_at_call 31; (with_reducible refine (RetB.grown ((HC _).out)).mono ?_); rintro e' w' ⟨rfl, g, rfl⟩)
              | (refine wp_region_xt (by kernel_rfl) (by kernel_rfl) ?_; (repeat (go_big_quiet_step (first | (go_at_call 31; (with_reducible exact RetB.quiet ((HC _).out)))))); refine wpQuiet_nil ?_; intro g))
            go_roundw
            case rel => exact ⟨k + 1, _, by omega, by go_num, xt_xt _ _ _, HE⟩
            case measure => simp [intOf]; omega
    · have HE := Lib.hid (colsB_end (n := n) fun i hi => HK.out i (by omega))
      clear HI
      go_wp2_with (first
        | (refine wp_region_xt (by kernel_rfl) (by kernel_rfl) ?_; (repeat (go_big_quiet_step (first | fail))); refine wpQuiet_nil ?_; intro g))
      go_ret
      refine RetB.of ?_ (by repeat' (first | exact Below.refl _ _ | assumption | refine Below.xt ?_ ?_ _ | refine Below.alloc ?_ ?_ _ | refine Below.drew ?_ | refine Below.setCell ?_ ?_ _ | (simp; done) | (simp; omega)))
      rw [HE.out]
      exact bool_eq (by rw [Bool.eq_iff_iff]; simp; omega)
end Go.Proofs.Ytjiknjcmfiapjaa

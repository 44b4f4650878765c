
/- Walks: increasing lists, lists that have a number. Conditions stand in each theorem. -/
import Derived.Test.YtjiknjcmfiapjaaMatG
import Derived.Test.YtjiknjcmfiapjaaMatV
import Derived.Test.YtjiknjcmfiapjaaTail
namespace Go.Proofs.Ytjiknjcmfiapjaa
open Go.RowKit
set_option linter.unusedVariables false
set_option linter.unusedSimpArgs false

theorem okAt_of {l : List Int} {b : Int} {k : Nat} (h0 : 0 ≤ l.getD k 0) (h1 : l.getD k 0 < b) (h2 : k = 0 ∨ l.getD (k - 1) 0 < l.getD k 0) : okAt l b k = true := by
  simp only [okAt, Bool.and_eq_true, Bool.or_eq_true, decide_eq_true_eq]; exact ⟨⟨h0, h1⟩, h2⟩
theorem okAt_no {l : List Int} {b : Int} {k : Nat} (h : l.getD k 0 < 0 ∨ b ≤ l.getD k 0 ∨ (0 < k ∧ l.getD k 0 ≤ l.getD (k - 1) 0)) : okAt l b k = false := by
  rw [← Bool.not_eq_true]
  intro e
  simp only [okAt, Bool.and_eq_true, Bool.or_eq_true, decide_eq_true_eq] at e
  omega
theorem all_next {p : Nat → Bool} {k : Nat} (h : ∀ j, j < k → p j = true) (h1 : p k = true) : ∀ j, j < k + 1 → p j = true := fun j hj => by
  by_cases e : j = k
  · subst e; exact h1
  · exact h j (by omega)

set_option maxHeartbeats 1600000 in
theorem inc_any (A : Option Addr) (cap : Nat) (l : List Int) (b : Int) (w : World) (hl : l.length ≤ 1000) (h : RowI w A l) : Calls Try.prog 55 #[.slice A l.length cap, .int .i64 b] w (Ret (.bool (inc l b)) w) := by
  have HI := Lib.hid h
  clear h
  go_enter Try.func55, Try.ntmps55
  go_wp2_with fail
  go_loop [9] (fun i  => ∃ (k : Nat) ,k ≤ l.length ∧ i = .int .i64 k ∧ True ∧ Hid (∀ j, j < k → okAt l b j = true)) (fun i  => l.length - (intOf i).toNat)
  case atStart => exact ⟨0, by omega, rfl, trivial, Lib.hid (fun j h => absurd h (by omega))⟩
  case round =>
    obtain ⟨k, hk, rfl, ⟨⟩, HK⟩ := hrel
    by_cases hlt : k < l.length
    · obtain ⟨q, o, rfl, hq, hc⟩ := RowI.at_ HI.out (by omega)
      have c1 := hc k hlt
      obtain ⟨x, hx⟩ : ∃ x, l.getD k 0 = x := ⟨_, rfl⟩
      rw [hx] at c1
      by_cases h0 : x < 0
      · have HE := Lib.hid (inc_no (b := b) hlt (okAt_no (.inl (by omega))))
        have d1 : decide (x < 0) = true := by simpa using h0
        clear hx HK hc HI
        go_wp2_with (first
          | (refine wp_region_xt (by kernel_rfl) (by kernel_rfl) ?_; (repeat (go_big_quiet_step (first | fail))); refine wpQuiet_nil ?_; intro g))
        go_ret
        exact ⟨by rw [HE.out]; rfl, rfl⟩
      · have d1 : decide (x < 0) = false := by simpa using h0
        by_cases h1 : b ≤ x
        · have HE := Lib.hid (inc_no (b := b) hlt (okAt_no (.inr (.inl (by omega)))))
          have d2 : decide (b ≤ x) = true := by simpa using h1
          clear hx HK hc HI
          go_wp2_with (first
            | (refine wp_region_xt (by kernel_rfl) (by kernel_rfl) ?_; (repeat (go_big_quiet_step (first | fail))); refine wpQuiet_nil ?_; intro g))
          go_ret
          exact ⟨by rw [HE.out]; rfl, rfl⟩
        · have d2 : decide (b ≤ x) = false := by simpa using h1
          by_cases h2 : 0 < k
          · have d3 : decide (0 < k) = true := by simpa using h2
            have c2 := hc (k - 1) (by omega)
            obtain ⟨y, hy⟩ : ∃ y, l.getD (k - 1) 0 = y := ⟨_, rfl⟩
            rw [hy] at c2
            obtain ⟨m, hm⟩ : ∃ m, k = m + 1 := ⟨k - 1, by omega⟩
            have c3 : w.cell? ⟨q, o + m, none⟩ = some (.int .i64 y) := by rw [← c2, hm]; rfl
            by_cases h3 : x ≤ y
            · have HE := Lib.hid (inc_no (b := b) hlt (okAt_no (.inr (.inr ⟨h2, by omega⟩))))
              have d4 : decide (x ≤ y) = true := by simpa using h3
              clear hx hy HK hc HI c2
              subst hm
              go_wp2_with (first
                | (refine wp_region_xt (by kernel_rfl) (by kernel_rfl) ?_; (repeat (go_big_quiet_step (first | fail))); refine wpQuiet_nil ?_; intro g))
              go_ret
              exact ⟨by rw [HE.out]; rfl, rfl⟩
            · have HE := Lib.hid (all_next HK.out (okAt_of (b := b) (by omega) (by omega) (.inr (by omega))))
              have d4 : decide (x ≤ y) = false := by simpa using h3
              clear hx hy HK hc HI c2
              subst hm
              go_wp2_with (first
                | (refine wp_region_xt (by kernel_rfl) (by kernel_rfl) ?_; (repeat (go_big_quiet_step (first | fail))); refine wpQuiet_nil ?_; intro g))
              go_round
              case rel => exact ⟨m + 1 + 1, by omega, by go_num, trivial, HE⟩
              case measure => simp [intOf]; omega
          · have d3 : decide (0 < k) = false := by simpa using h2
            have HE := Lib.hid (all_next HK.out (okAt_of (b := b) (by omega) (by omega) (.inl (by omega))))
            clear hx HK hc HI
            go_wp2_with (first
              | (refine wp_region_xt (by kernel_rfl) (by kernel_rfl) ?_; (repeat (go_big_quiet_step (first | fail))); refine wpQuiet_nil ?_; intro g))
            go_round
            case rel => exact ⟨k + 1, by omega, by go_num, trivial, HE⟩
            case measure => simp [intOf]; omega
    · have HE := Lib.hid (inc_of (l := l) (b := b) fun i hi => HK.out i (by omega))
      clear HI
      go_wp2_with (first
        | (refine wp_region_xt (by kernel_rfl) (by kernel_rfl) ?_; (repeat (go_big_quiet_step (first | fail))); refine wpQuiet_nil ?_; intro g))
      go_ret
      exact ⟨by rw [HE.out]; rfl, rfl⟩
set_option maxHeartbeats 1600000 in
theorem rinc_any (A : Option Addr) (cap : Nat) (l : List Int) (b : Int) (w : World) (hl : l.length ≤ 1000) (h : RowI w A l) : Calls Try.prog 37 #[.slice A l.length cap, .int .i64 b] w (RetB (.bool (inc l b)) w) := by
  have HI := Lib.hid h
  clear h
  go_enter Try.func37, Try.ntmps37
  go_wp2_with fail
  go_loopw [5] (fun i wr => ∃ (k : Nat) (g : Gr),k ≤ l.length ∧ i = .int .i64 k ∧ wr = xt w g ∧ Hid (∀ j, j < k → okAt l b j = true)) (fun i _ => l.length - (intOf i).toNat)
  case atStart => exact ⟨0, _,by omega, rfl, (xt_self w).symm, Lib.hid (fun j h => absurd h (by omega))⟩
  case round =>
    obtain ⟨k, g,hk, rfl, rfl, HK⟩ := hrel
    by_cases hlt : k < l.length
    · obtain ⟨q, o, rfl, hq, hc⟩ := RowI.at_ HI.out (by omega)
      have c1 := hc k hlt
      obtain ⟨x, hx⟩ : ∃ x, l.getD k 0 = x := ⟨_, rfl⟩
      rw [hx] at c1
      by_cases h0 : x < 0
      · have HE := Lib.hid (inc_no (b := b) hlt (okAt_no (.inl (by omega))))
        have d1 : decide (x < 0) = true := by simpa using h0
        clear hx HK hc HI
        go_wp2_with (first
          | (refine wp_region_xt (by kernel_rfl) (by kernel_rfl) ?_; (repeat (go_big_quiet_step (first | fail))); refine wpQuiet_nil ?_; intro g))
        go_ret
        exact ⟨by rw [HE.out]; rfl, (by repeat' (first | exact Below.refl _ _ | assumption | refine Below.xt ?_ ?_ _ | refine Below.alloc ?_ ?_ _ | refine Below.drew ?_ | refine Below.setCell ?_ ?_ _ | (simp; done) | (simp; omega)))⟩
      · have d1 : decide (x < 0) = false := by simpa using h0
        by_cases h1 : b ≤ x
        · have HE := Lib.hid (inc_no (b := b) hlt (okAt_no (.inr (.inl (by omega)))))
          have d2 : decide (b ≤ x) = true := by simpa using h1
          clear hx HK hc HI
          go_wp2_with (first
            | (refine wp_region_xt (by kernel_rfl) (by kernel_rfl) ?_; (repeat (go_big_quiet_step (first | fail))); refine wpQuiet_nil ?_; intro g))
          go_ret
          exact ⟨by rw [HE.out]; rfl, (by repeat' (first | exact Below.refl _ _ | assumption | refine Below.xt ?_ ?_ _ | refine Below.alloc ?_ ?_ _ | refine Below.drew ?_ | refine Below.setCell ?_ ?_ _ | (simp; done) | (simp; omega)))⟩
        · have d2 : decide (b ≤ x) = false := by simpa using h1
          by_cases h2 : 0 < k
          · have d3 : decide (0 < k) = true := by simpa using h2
            have c2 := hc (k - 1) (by omega)
            obtain ⟨y, hy⟩ : ∃ y, l.getD (k - 1) 0 = y := ⟨_, rfl⟩
            rw [hy] at c2
            obtain ⟨m, hm⟩ : ∃ m, k = m + 1 := ⟨k - 1, by omega⟩
            have c3 : w.cell? ⟨q, o + m, none⟩ = some (.int .i64 y) := by rw [← c2, hm]; rfl
            by_cases h3 : x ≤ y
            · have HE := Lib.hid (inc_no (b := b) hlt (okAt_no (.inr (.inr ⟨h2, by omega⟩))))
              have d4 : decide (x ≤ y) = true := by simpa using h3
              clear hx hy HK hc HI c2
              subst hm
              go_wp2_with (first
                | (refine wp_region_xt (by kernel_rfl) (by kernel_rfl) ?_; (repeat (go_big_quiet_step (first | fail))); refine wpQuiet_nil ?_; intro g))
              go_ret
              exact ⟨by rw [HE.out]; rfl, (by repeat' (first | exact Below.refl _ _ | assumption | refine Below.xt ?_ ?_ _ | refine Below.alloc ?_ ?_ _ | refine Below.drew ?_ | refine Below.setCell ?_ ?_ _ | (simp; done) | (simp; omega)))⟩
            · have HE := Lib.hid (all_next HK.out (okAt_of (b := b) (by omega) (by omega) (.inr (by omega))))
              have d4 : decide (x ≤ y) = false := by simpa using h3
              clear hx hy HK hc HI c2
              subst hm
              go_wp2_with (first
                | (refine wp_region_xt (by kernel_rfl) (by kernel_rfl) ?_; (repeat (go_big_quiet_step (first | fail))); refine wpQuiet_nil ?_; intro g))
              go_round
              case rel => exact ⟨m + 1 + 1, _,by omega, by go_num, xt_xt _ _ _, HE⟩
              case measure => simp [intOf]; omega
          · have d3 : decide (0 < k) = false := by simpa using h2
            have HE := Lib.hid (all_next HK.out (okAt_of (b := b) (by omega) (by omega) (.inl (by omega))))
            clear hx HK hc HI
            go_wp2_with (first
              | (refine wp_region_xt (by kernel_rfl) (by kernel_rfl) ?_; (repeat (go_big_quiet_step (first | fail))); refine wpQuiet_nil ?_; intro g))
            go_round
            case rel => exact ⟨k + 1, _,by omega, by go_num, xt_xt _ _ _, HE⟩
            case measure => simp [intOf]; omega
    · have HE := Lib.hid (inc_of (l := l) (b := b) fun i hi => HK.out i (by omega))
      clear HI
      go_wp2_with (first
        | (refine wp_region_xt (by kernel_rfl) (by kernel_rfl) ?_; (repeat (go_big_quiet_step (first | fail))); refine wpQuiet_nil ?_; intro g))
      go_ret
      exact ⟨by rw [HE.out]; rfl, (by repeat' (first | exact Below.refl _ _ | assumption | refine Below.xt ?_ ?_ _ | refine Below.alloc ?_ ?_ _ | refine Below.drew ?_ | refine Below.setCell ?_ ?_ _ | (simp; done) | (simp; omega)))⟩

end Go.Proofs.Ytjiknjcmfiapjaa

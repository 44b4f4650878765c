/- Walks of the laws ColorPalettes and ColorNearest. Conditions stand in each theorem. -/
import Derived.Test.YtkekhnclbkachaaColK
import Derived.Test.YtkekhnclbkachaaColP
namespace Go.Proofs.Ytkekhnclbkachaa
open Go.RowKit
set_option linter.unusedVariables false
set_option linter.unusedSimpArgs false

set_option maxHeartbeats 1600000 in
theorem ColorPalettes_walk (A : Option Addr) (n cap : Nat) (name : ByteArray) (long : Int) (w : World) (ol : ∃ l : List Sw, n = l.length ∧ n ≤ maxLen ∧ fineW l ∧ RowW w A l ∧ (n = 0 ∧ A = none ∧ cap = 0 ∨ A ≠ none)) (oname : name.size ≤ maxLen) (olong : I64 long) : Calls Try.prog 7 #[.slice A n cap, .string name, .int .i64 long] w (RetB (.bool true) w) := by
  obtain ⟨l, hn, hm, hf, hr, hA⟩ := ol
  have hs := oname
  unfold maxLen at hs hm
  have C1 := Lib.hid (small_any A n cap l w hn (by omega) hf hr)
  by_cases h20 : smallB l = true
  · have hk := small_len h20
    have C2 := fun g => Lib.hid (palette_any A n cap l long (xt w g) olong hn (by omega) hf (hr.xt g) hA)
    rw [h20] at C1
    clear hn hf hr hA hm olong h20 hk oname
    by_cases h60 : name.size ≤ 60
    · go_enter Try.func7, Try.ntmps7
      go_wp2_with fail
      refine (RetB.grown C1.out).mono ?_
      rintro e' w' ⟨rfl, g, rfl⟩
      go_wp2_with fail
      refine (C2 _).out.mono ?_
      rintro e' w' ⟨B, k, m, c1, rfl, hk, hk2, hb, hrow, hfm⟩
      obtain ⟨g2, rfl⟩ := xt_of_below hb
      have HM := Lib.hid hrow
      have D1 := fun w h => Lib.hid (Find_any B k c1 m name w hk (by omega) hfm h)
      have D2 := fun w h => Lib.hid (refFind_any B k c1 m name w hk (by omega) hfm h)
      have D3 := fun w h => Lib.hid (vpal_any B k c1 m w hk (by omega) hfm h)
      have D4 := fun w h => Lib.hid (rpal_any B k c1 m w hk (by omega) hfm h)
      generalize findC m name = x at *
      generalize findE m name = e at *
      generalize palB m = p at *
      clear hk hb hrow hfm C1 C2
      go_wp2_with fail
      refine (RetB.grown (D1 _ (by repeat (first | exact HM.out | refine RowW.xt ?_ _ | refine RowW.alloc ?_ _ | refine RowW.drew ?_))).out).mono ?_
      rintro e' w' ⟨rfl, g3, rfl⟩
      go_wp2_with fail
      refine (RetB.grown (D2 _ (by repeat (first | exact HM.out | refine RowW.xt ?_ _ | refine RowW.alloc ?_ _ | refine RowW.drew ?_))).out).mono ?_
      rintro e' w' ⟨rfl, g4, rfl⟩
      go_wp2_with (first
        | (go_at_call 27; refine (RetB.grown ((D3 _ (by repeat (first | exact HM.out | refine RowW.xt ?_ _ | refine RowW.alloc ?_ _ | refine RowW.drew ?_))).out)).mono ?_; rintro e' w' ⟨rfl, g, rfl⟩)
        | (go_at_call 28; refine (RetB.grown ((D4 _ (by repeat (first | exact HM.out | refine RowW.xt ?_ _ | refine RowW.alloc ?_ _ | refine RowW.drew ?_))).out)).mono ?_; rintro e' w' ⟨rfl, g, rfl⟩)
        | (go_at_call 10; refine (RetB.grown (known_any _)).mono ?_; rintro e' w' ⟨rfl, g, rfl⟩)
        | (refine wp_region_xt (by kernel_rfl) (by kernel_rfl) ?_; (repeat (go_big_quiet_step (first | (go_at_call 27; exact RetB.quiet ((D3 _ (by repeat (first | exact HM.out | refine RowW.xt ?_ _ | refine RowW.alloc ?_ _ | refine RowW.drew ?_))).out)) | (go_at_call 28; exact RetB.quiet ((D4 _ (by repeat (first | exact HM.out | refine RowW.xt ?_ _ | refine RowW.alloc ?_ _ | refine RowW.drew ?_))).out)) | (go_at_call 10; exact RetB.quiet (known_any _))))); refine wpQuiet_nil ?_; intro g))
      go_ret
      exact RetB.of (by simp) (by repeat' (first | exact Below.refl _ _ | assumption | refine Below.xt ?_ ?_ _ | refine Below.alloc ?_ ?_ _ | refine Below.drew ?_ | refine Below.setCell ?_ ?_ _ | (simp; done) | (simp; omega)))
    · go_enter Try.func7, Try.ntmps7
      go_wp2_with (first
        | (go_at_call 23; refine (RetB.grown (C1.out)).mono ?_; rintro e' w' ⟨rfl, g, rfl⟩)
        | (go_at_call 10; refine (RetB.grown (known_any _)).mono ?_; rintro e' w' ⟨rfl, g, rfl⟩)
        | (refine wp_region_xt (by kernel_rfl) (by kernel_rfl) ?_; (repeat (go_big_quiet_step (first | (go_at_call 23; exact RetB.quiet (C1.out)) | (go_at_call 10; exact RetB.quiet (known_any _))))); refine wpQuiet_nil ?_; intro g))
      go_ret
      exact RetB.of rfl (by repeat' (first | exact Below.refl _ _ | assumption | refine Below.xt ?_ ?_ _ | refine Below.alloc ?_ ?_ _ | refine Below.drew ?_ | refine Below.setCell ?_ ?_ _ | (simp; done) | (simp; omega)))
  · have h20' : smallB l = false := by simpa using h20
    rw [h20'] at C1
    clear hn hf hr hA hm olong h20 h20' oname
    go_enter Try.func7, Try.ntmps7
    go_wp2_with (first
      | (go_at_call 23; refine (RetB.grown (C1.out)).mono ?_; rintro e' w' ⟨rfl, g, rfl⟩)
      | (go_at_call 10; refine (RetB.grown (known_any _)).mono ?_; rintro e' w' ⟨rfl, g, rfl⟩)
      | (refine wp_region_xt (by kernel_rfl) (by kernel_rfl) ?_; (repeat (go_big_quiet_step (first | (go_at_call 23; exact RetB.quiet (C1.out)) | (go_at_call 10; exact RetB.quiet (known_any _))))); refine wpQuiet_nil ?_; intro g))
    go_ret
    exact RetB.of rfl (by repeat' (first | exact Below.refl _ _ | assumption | refine Below.xt ?_ ?_ _ | refine Below.alloc ?_ ?_ _ | refine Below.drew ?_ | refine Below.setCell ?_ ?_ _ | (simp; done) | (simp; omega)))

set_option maxHeartbeats 1600000 in
theorem ColorNearest_walk (A : Option Addr) (n cap : Nat) (a : Col) (long : Int) (w : World) (ol : ∃ l : List Sw, n = l.length ∧ n ≤ maxLen ∧ fineW l ∧ RowW w A l ∧ (n = 0 ∧ A = none ∧ cap = 0 ∨ A ≠ none)) (oa : a.ok) (olong : I64 long) : Calls Try.prog 8 #[.slice A n cap, .agg #[.int .u8 a.r, .int .u8 a.g, .int .u8 a.b], .int .i64 long] w (RetB (.bool true) w) := by
  obtain ⟨l, hn, hm, hf, hr, hA⟩ := ol
  unfold maxLen at hm
  have C1 := fun o => Lib.hid (small_any A n cap l (w.alloc o) hn (by omega) hf (hr.alloc o))
  by_cases h20 : smallB l = true
  · have hk := small_len h20
    have C2 := fun o g => Lib.hid (palette_any A n cap l long (xt (w.alloc o) g) olong hn (by omega) hf ((hr.alloc o).xt g) hA)
    rw [h20] at C1
    clear hn hf hr hA hm olong h20 hk
    go_enter Try.func8, Try.ntmps8
    go_wp2_with fail
    refine (RetB.grown (C1 _).out).mono ?_
    rintro e' w' ⟨rfl, g, rfl⟩
    go_wp2_with fail
    refine (C2 _ _).out.mono ?_
    rintro e' w' ⟨B, k, m, c1, rfl, hk, hk2, hb, hrow, hfm⟩
    obtain ⟨g2, rfl⟩ := xt_of_below hb
    have HM := Lib.hid hrow
    have D1 := fun w h => Lib.hid (Nearest_any B k c1 m a w hk (by omega) hfm h oa)
    have D2 := fun w h => Lib.hid (refNearest_any B k c1 m a w hk (by omega) hfm h oa)
    generalize nearN m a = x at *
    generalize nearE m a = e at *
    have hx : (x.toList == x.toList) = true := by simp
    clear hk hb hrow hfm C1 C2 oa
    go_wp2_with fail
    refine (RetB.grown (D1 _ (by repeat (first | exact HM.out | refine RowW.xt ?_ _ | refine RowW.alloc ?_ _ | refine RowW.drew ?_))).out).mono ?_
    rintro e' w' ⟨rfl, g3, rfl⟩
    go_wp2_with fail
    refine (RetB.grown (D2 _ (by repeat (first | exact HM.out | refine RowW.xt ?_ _ | refine RowW.alloc ?_ _ | refine RowW.drew ?_))).out).mono ?_
    rintro e' w' ⟨rfl, g4, rfl⟩
    go_wp2_with (first
      | (go_at_call 10; refine (RetB.grown (known_any _)).mono ?_; rintro e' w' ⟨rfl, g, rfl⟩)
      | (refine wp_region_xt (by kernel_rfl) (by kernel_rfl) ?_; (repeat (go_big_quiet_step (first | (go_at_call 10; exact RetB.quiet (known_any _))))); refine wpQuiet_nil ?_; intro g))
    go_ret
    exact RetB.of rfl (by repeat' (first | exact Below.refl _ _ | assumption | refine Below.xt ?_ ?_ _ | refine Below.alloc ?_ ?_ _ | refine Below.drew ?_ | refine Below.setCell ?_ ?_ _ | (simp; done) | (simp; omega)))
  · have h20' : smallB l = false := by simpa using h20
    rw [h20'] at C1
    clear hn hf hr hA hm olong h20 h20'
    go_enter Try.func8, Try.ntmps8
    go_wp2_with (first
      | (go_at_call 23; refine (RetB.grown ((C1 _).out)).mono ?_; rintro e' w' ⟨rfl, g, rfl⟩)
      | (go_at_call 10; refine (RetB.grown (known_any _)).mono ?_; rintro e' w' ⟨rfl, g, rfl⟩)
      | (refine wp_region_xt (by kernel_rfl) (by kernel_rfl) ?_; (repeat (go_big_quiet_step (first | (go_at_call 23; exact RetB.quiet ((C1 _).out)) | (go_at_call 10; exact RetB.quiet (known_any _))))); refine wpQuiet_nil ?_; intro g))
    go_ret
    exact RetB.of rfl (by repeat' (first | exact Below.refl _ _ | assumption | refine Below.xt ?_ ?_ _ | refine Below.alloc ?_ ?_ _ | refine Below.drew ?_ | refine Below.setCell ?_ ?_ _ | (simp; done) | (simp; omega)))

end Go.Proofs.Ytkekhnclbkachaa

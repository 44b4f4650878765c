/- The walks of the laws of chapter 6: each returns true for every input. No condition but that the numbers fit their kinds. -/
import Derived.Test.YtjgfobknifobhaaVecK
import Derived.Test.YtjgfobknifobhaaVecR2
namespace Go.Proofs.Ytjgfobknifobhaa
open Go.RowKit
set_option linter.unusedVariables false

set_option maxRecDepth 100000 in
set_option maxHeartbeats 1600000 in
theorem VectorSums_walk (a b : V3) (n : Int) (w : World) : Calls Try.prog 3 #[.agg #[.int .i64 a.x, .int .i64 a.y, .int .i64 a.z], .agg #[.int .i64 b.x, .int .i64 b.y, .int .i64 b.z], .int .i64 n] w (RetB (.bool true) w) := by
  by_cases ha : vok a.x a.y a.z = true
  · have C3 := fun w => Lib.hid (Scale_ok a.x a.y a.z n w ha)
    have D3 := fun w => Lib.hid (refScale_ok a.x a.y a.z n w ha)
    by_cases hb : vok b.x b.y b.z = true
    · have C1 := fun w => Lib.hid (Add_ok a.x a.y a.z b.x b.y b.z w ha hb)
      have C2 := fun w => Lib.hid (Sub_ok a.x a.y a.z b.x b.y b.z w ha hb)
      have D1 := fun w => Lib.hid (refAdd_any a.x a.y a.z b.x b.y b.z w (mild_vok ha) (mild_vok hb))
      have D2 := fun w => Lib.hid (refSub_any a.x a.y a.z b.x b.y b.z w (mild_vok ha) (mild_vok hb))
      go_enter Try.func3, Try.ntmps3
      go_wp2_with (first
        | (go_at_call 10; refine (RetB.grown ((C1 _).out)).mono ?_; rintro e' w' ⟨rfl, g, rfl⟩)
        | (go_at_call 11; refine (RetB.grown ((C2 _).out)).mono ?_; rintro e' w' ⟨rfl, g, rfl⟩)
        | (go_at_call 12; refine (RetB.grown ((C3 _).out)).mono ?_; rintro e' w' ⟨rfl, g, rfl⟩)
        | (go_at_call 13; refine (RetB.grown (refValid_any _ _ _ _)).mono ?_; rintro e' w' ⟨rfl, g, rfl⟩)
        | (go_at_call 15; refine (RetB.grown ((D3 _).out)).mono ?_; rintro e' w' ⟨rfl, g, rfl⟩)
        | (go_at_call 17; refine (RetB.grown ((D1 _).out)).mono ?_; rintro e' w' ⟨rfl, g, rfl⟩)
        | (go_at_call 18; refine (RetB.grown ((D2 _).out)).mono ?_; rintro e' w' ⟨rfl, g, rfl⟩)
        | (go_at_call 16; refine (RetB.grown (out_any _ _ _ _)).mono ?_; rintro e' w' ⟨rfl, g, rfl⟩)
        | (go_at_call 14; refine (RetB.grown (known_any _)).mono ?_; rintro e' w' ⟨rfl, g, rfl⟩)
        | (refine wp_region_xt (by kernel_rfl) (by kernel_rfl) ?_; (repeat (go_big_quiet_step (first | (go_at_call 10; exact RetB.quiet ((C1 _).out)) | (go_at_call 11; exact RetB.quiet ((C2 _).out)) | (go_at_call 12; exact RetB.quiet ((C3 _).out)) | (go_at_call 13; exact RetB.quiet (refValid_any _ _ _ _)) | (go_at_call 15; exact RetB.quiet ((D3 _).out)) | (go_at_call 17; exact RetB.quiet ((D1 _).out)) | (go_at_call 18; exact RetB.quiet ((D2 _).out)) | (go_at_call 16; exact RetB.quiet (out_any _ _ _ _)) | (go_at_call 14; exact RetB.quiet (known_any _))))); refine wpQuiet_nil ?_; intro g))
      go_ret
      exact RetB.of rfl (by repeat' (first | exact Below.refl _ _ | assumption | refine Below.xt ?_ ?_ _ | refine Below.alloc ?_ ?_ _ | refine Below.drew ?_ | refine Below.setCell ?_ ?_ _ | (simp; done) | (simp; omega)))
    · have hb' : vok b.x b.y b.z = false := by simpa using hb
      clear hb
      have C1 := fun w => Lib.hid (Add_bad a.x a.y a.z b.x b.y b.z w (.inr hb'))
      have C2 := fun w => Lib.hid (Sub_bad a.x a.y a.z b.x b.y b.z w (.inr hb'))
      go_enter Try.func3, Try.ntmps3
      go_wp2_with (first
        | (go_at_call 10; refine (RetB.grown ((C1 _).out)).mono ?_; rintro e' w' ⟨rfl, g, rfl⟩)
        | (go_at_call 11; refine (RetB.grown ((C2 _).out)).mono ?_; rintro e' w' ⟨rfl, g, rfl⟩)
        | (go_at_call 12; refine (RetB.grown ((C3 _).out)).mono ?_; rintro e' w' ⟨rfl, g, rfl⟩)
        | (go_at_call 13; refine (RetB.grown (refValid_any _ _ _ _)).mono ?_; rintro e' w' ⟨rfl, g, rfl⟩)
        | (go_at_call 15; refine (RetB.grown ((D3 _).out)).mono ?_; rintro e' w' ⟨rfl, g, rfl⟩)
        | (go_at_call 14; refine (RetB.grown (known_any _)).mono ?_; rintro e' w' ⟨rfl, g, rfl⟩)
        | (refine wp_region_xt (by kernel_rfl) (by kernel_rfl) ?_; (repeat (go_big_quiet_step (first | (go_at_call 10; exact RetB.quiet ((C1 _).out)) | (go_at_call 11; exact RetB.quiet ((C2 _).out)) | (go_at_call 12; exact RetB.quiet ((C3 _).out)) | (go_at_call 13; exact RetB.quiet (refValid_any _ _ _ _)) | (go_at_call 15; exact RetB.quiet ((D3 _).out)) | (go_at_call 14; exact RetB.quiet (known_any _))))); refine wpQuiet_nil ?_; intro g))
      go_ret
      exact RetB.of rfl (by repeat' (first | exact Below.refl _ _ | assumption | refine Below.xt ?_ ?_ _ | refine Below.alloc ?_ ?_ _ | refine Below.drew ?_ | refine Below.setCell ?_ ?_ _ | (simp; done) | (simp; omega)))
  · have ha' : vok a.x a.y a.z = false := by simpa using ha
    clear ha
    have C1 := fun w => Lib.hid (Add_bad a.x a.y a.z b.x b.y b.z w (.inl ha'))
    have C2 := fun w => Lib.hid (Sub_bad a.x a.y a.z b.x b.y b.z w (.inl ha'))
    have C3 := fun w => Lib.hid (Scale_bad a.x a.y a.z n w ha')
    go_enter Try.func3, Try.ntmps3
    go_wp2_with (first
      | (go_at_call 10; refine (RetB.grown ((C1 _).out)).mono ?_; rintro e' w' ⟨rfl, g, rfl⟩)
      | (go_at_call 11; refine (RetB.grown ((C2 _).out)).mono ?_; rintro e' w' ⟨rfl, g, rfl⟩)
      | (go_at_call 12; refine (RetB.grown ((C3 _).out)).mono ?_; rintro e' w' ⟨rfl, g, rfl⟩)
      | (go_at_call 13; refine (RetB.grown (refValid_any _ _ _ _)).mono ?_; rintro e' w' ⟨rfl, g, rfl⟩)
      | (go_at_call 14; refine (RetB.grown (known_any _)).mono ?_; rintro e' w' ⟨rfl, g, rfl⟩)
      | (refine wp_region_xt (by kernel_rfl) (by kernel_rfl) ?_; (repeat (go_big_quiet_step (first | (go_at_call 10; exact RetB.quiet ((C1 _).out)) | (go_at_call 11; exact RetB.quiet ((C2 _).out)) | (go_at_call 12; exact RetB.quiet ((C3 _).out)) | (go_at_call 13; exact RetB.quiet (refValid_any _ _ _ _)) | (go_at_call 14; exact RetB.quiet (known_any _))))); refine wpQuiet_nil ?_; intro g))
    go_ret
    exact RetB.of rfl (by repeat' (first | exact Below.refl _ _ | assumption | refine Below.xt ?_ ?_ _ | refine Below.alloc ?_ ?_ _ | refine Below.drew ?_ | refine Below.setCell ?_ ?_ _ | (simp; done) | (simp; omega)))

set_option maxRecDepth 100000 in
set_option maxHeartbeats 1600000 in
theorem VectorProducts_walk (a b : V3) (w : World) : Calls Try.prog 4 #[.agg #[.int .i64 a.x, .int .i64 a.y, .int .i64 a.z], .agg #[.int .i64 b.x, .int .i64 b.y, .int .i64 b.z]] w (RetB (.bool true) w) := by
  by_cases ha : vok a.x a.y a.z = true
  · obtain ⟨⟨a1, a2⟩, ⟨a3, a4⟩, a5, a6⟩ := vok_iff.1 ha
    have C3 := fun w => Lib.hid (Length2_ok a.x a.y a.z w ha)
    have D3 := fun w => Lib.hid (refDot_any a.x a.y a.z a.x a.y a.z w (by omega) (by omega) (by omega) (by omega) (by omega) (by omega))
    by_cases hb : vok b.x b.y b.z = true
    · obtain ⟨⟨b1, b2⟩, ⟨b3, b4⟩, b5, b6⟩ := vok_iff.1 hb
      have C1 := fun w => Lib.hid (Dot_ok a.x a.y a.z b.x b.y b.z w ha hb)
      have C2 := fun w => Lib.hid (Cross_ok a.x a.y a.z b.x b.y b.z w ha hb)
      have C4 := fun w => Lib.hid (Distance2_ok a.x a.y a.z b.x b.y b.z w ha hb)
      have D1 := fun w => Lib.hid (refDot_any a.x a.y a.z b.x b.y b.z w (by omega) (by omega) (by omega) (by omega) (by omega) (by omega))
      have D2 := fun w => Lib.hid (refCross_any a.x a.y a.z b.x b.y b.z w (by omega) (by omega) (by omega) (by omega) (by omega) (by omega))
      have D4 := fun w => Lib.hid (refDistance2_any a.x a.y a.z b.x b.y b.z w ha hb)
      clear a1 a2 a3 a4 a5 a6 b1 b2 b3 b4 b5 b6
      go_enter Try.func4, Try.ntmps4
      go_wp2_with (first
        | (go_at_call 19; refine (RetB.grown ((C1 _).out)).mono ?_; rintro e' w' ⟨rfl, g, rfl⟩)
        | (go_at_call 20; refine (RetB.grown ((C2 _).out)).mono ?_; rintro e' w' ⟨rfl, g, rfl⟩)
        | (go_at_call 21; refine (RetB.grown ((C3 _).out)).mono ?_; rintro e' w' ⟨rfl, g, rfl⟩)
        | (go_at_call 22; refine (RetB.grown ((C4 _).out)).mono ?_; rintro e' w' ⟨rfl, g, rfl⟩)
        | (go_at_call 13; refine (RetB.grown (refValid_any _ _ _ _)).mono ?_; rintro e' w' ⟨rfl, g, rfl⟩)
        | (go_at_call 23; (with_reducible refine (RetB.grown ((D1 _).out)).mono ?_); rintro e' w' ⟨rfl, g, rfl⟩)
        | (go_at_call 23; (with_reducible refine (RetB.grown ((D3 _).out)).mono ?_); rintro e' w' ⟨rfl, g, rfl⟩)
        | (go_at_call 24; refine (RetB.grown ((D2 _).out)).mono ?_; rintro e' w' ⟨rfl, g, rfl⟩)
        | (go_at_call 25; refine (RetB.grown ((D4 _).out)).mono ?_; rintro e' w' ⟨rfl, g, rfl⟩)
        | (go_at_call 14; refine (RetB.grown (known_any _)).mono ?_; rintro e' w' ⟨rfl, g, rfl⟩)
        | (refine wp_region_xt (by kernel_rfl) (by kernel_rfl) ?_; (repeat (go_big_quiet_step (first | (go_at_call 19; exact RetB.quiet ((C1 _).out)) | (go_at_call 20; exact RetB.quiet ((C2 _).out)) | (go_at_call 21; exact RetB.quiet ((C3 _).out)) | (go_at_call 22; exact RetB.quiet ((C4 _).out)) | (go_at_call 13; exact RetB.quiet (refValid_any _ _ _ _)) | (go_at_call 23; (with_reducible exact RetB.quiet ((D1 _).out))) | (go_at_call 23; (with_reducible exact RetB.quiet ((D3 _).out))) | (go_at_call 24; exact RetB.quiet ((D2 _).out)) | (go_at_call 25; exact RetB.quiet ((D4 _).out)) | (go_at_call 14; exact RetB.quiet (known_any _))))); refine wpQuiet_nil ?_; intro g))
      go_ret
      exact RetB.of rfl (by repeat' (first | exact Below.refl _ _ | assumption | refine Below.xt ?_ ?_ _ | refine Below.alloc ?_ ?_ _ | refine Below.drew ?_ | refine Below.setCell ?_ ?_ _ | (simp; done) | (simp; omega)))
    · have hb' : vok b.x b.y b.z = false := by simpa using hb
      clear hb a1 a2 a3 a4 a5 a6
      have C1 := fun w => Lib.hid (Dot_bad a.x a.y a.z b.x b.y b.z w (.inr hb'))
      have C2 := fun w => Lib.hid (Cross_bad a.x a.y a.z b.x b.y b.z w (.inr hb'))
      have C4 := fun w => Lib.hid (Distance2_bad a.x a.y a.z b.x b.y b.z w (.inr hb'))
      go_enter Try.func4, Try.ntmps4
      go_wp2_with (first
        | (go_at_call 19; refine (RetB.grown ((C1 _).out)).mono ?_; rintro e' w' ⟨rfl, g, rfl⟩)
        | (go_at_call 20; refine (RetB.grown ((C2 _).out)).mono ?_; rintro e' w' ⟨rfl, g, rfl⟩)
        | (go_at_call 21; refine (RetB.grown ((C3 _).out)).mono ?_; rintro e' w' ⟨rfl, g, rfl⟩)
        | (go_at_call 22; refine (RetB.grown ((C4 _).out)).mono ?_; rintro e' w' ⟨rfl, g, rfl⟩)
        | (go_at_call 13; refine (RetB.grown (refValid_any _ _ _ _)).mono ?_; rintro e' w' ⟨rfl, g, rfl⟩)
        | (go_at_call 23; refine (RetB.grown ((D3 _).out)).mono ?_; rintro e' w' ⟨rfl, g, rfl⟩)
        | (go_at_call 14; refine (RetB.grown (known_any _)).mono ?_; rintro e' w' ⟨rfl, g, rfl⟩)
        | (refine wp_region_xt (by kernel_rfl) (by kernel_rfl) ?_; (repeat (go_big_quiet_step (first | (go_at_call 19; exact RetB.quiet ((C1 _).out)) | (go_at_call 20; exact RetB.quiet ((C2 _).out)) | (go_at_call 21; exact RetB.quiet ((C3 _).out)) | (go_at_call 22; exact RetB.quiet ((C4 _).out)) | (go_at_call 13; exact RetB.quiet (refValid_any _ _ _ _)) | (go_at_call 23; exact RetB.quiet ((D3 _).out)) | (go_at_call 14; exact RetB.quiet (known_any _))))); refine wpQuiet_nil ?_; intro g))
      go_ret
      exact RetB.of rfl (by repeat' (first | exact Below.refl _ _ | assumption | refine Below.xt ?_ ?_ _ | refine Below.alloc ?_ ?_ _ | refine Below.drew ?_ | refine Below.setCell ?_ ?_ _ | (simp; done) | (simp; omega)))
  · have ha' : vok a.x a.y a.z = false := by simpa using ha
    clear ha
    have C1 := fun w => Lib.hid (Dot_bad a.x a.y a.z b.x b.y b.z w (.inl ha'))
    have C2 := fun w => Lib.hid (Cross_bad a.x a.y a.z b.x b.y b.z w (.inl ha'))
    have C3 := fun w => Lib.hid (Length2_bad a.x a.y a.z w ha')
    have C4 := fun w => Lib.hid (Distance2_bad a.x a.y a.z b.x b.y b.z w (.inl ha'))
    go_enter Try.func4, Try.ntmps4
    go_wp2_with (first
      | (go_at_call 19; refine (RetB.grown ((C1 _).out)).mono ?_; rintro e' w' ⟨rfl, g, rfl⟩)
      | (go_at_call 20; refine (RetB.grown ((C2 _).out)).mono ?_; rintro e' w' ⟨rfl, g, rfl⟩)
      | (go_at_call 21; refine (RetB.grown ((C3 _).out)).mono ?_; rintro e' w' ⟨rfl, g, rfl⟩)
      | (go_at_call 22; refine (RetB.grown ((C4 _).out)).mono ?_; rintro e' w' ⟨rfl, g, rfl⟩)
      | (go_at_call 13; refine (RetB.grown (refValid_any _ _ _ _)).mono ?_; rintro e' w' ⟨rfl, g, rfl⟩)
      | (go_at_call 14; refine (RetB.grown (known_any _)).mono ?_; rintro e' w' ⟨rfl, g, rfl⟩)
      | (refine wp_region_xt (by kernel_rfl) (by kernel_rfl) ?_; (repeat (go_big_quiet_step (first | (go_at_call 19; exact RetB.quiet ((C1 _).out)) | (go_at_call 20; exact RetB.quiet ((C2 _).out)) | (go_at_call 21; exact RetB.quiet ((C3 _).out)) | (go_at_call 22; exact RetB.quiet ((C4 _).out)) | (go_at_call 13; exact RetB.quiet (refValid_any _ _ _ _)) | (go_at_call 14; exact RetB.quiet (known_any _))))); refine wpQuiet_nil ?_; intro g))
    go_ret
    exact RetB.of rfl (by repeat' (first | exact Below.refl _ _ | assumption | refine Below.xt ?_ ?_ _ | refine Below.alloc ?_ ?_ _ | refine Below.drew ?_ | refine Below.setCell ?_ ?_ _ | (simp; done) | (simp; omega)))

set_option maxRecDepth 100000 in
set_option maxHeartbeats 1600000 in
theorem VectorBetween_walk (a b : V3) (num den : Int) (w : World) : Calls Try.prog 5 #[.agg #[.int .i64 a.x, .int .i64 a.y, .int .i64 a.z], .agg #[.int .i64 b.x, .int .i64 b.y, .int .i64 b.z], .int .i64 num, .int .i64 den] w (RetB (.bool true) w) := by
  by_cases hg : vok a.x a.y a.z = true ∧ vok b.x b.y b.z = true ∧ ratio num den = true
  · obtain ⟨ha, hb, hr⟩ := hg
    have C1 := fun w => Lib.hid (Between_ok a.x a.y a.z b.x b.y b.z num den w ha hb hr)
    have D1 := fun w => Lib.hid (refBetween_any a.x a.y a.z b.x b.y b.z num den w ha hb hr)
    obtain ⟨r1, r2, r3, r4⟩ := ratio_iff.1 hr
    clear hr
    go_enter Try.func5, Try.ntmps5
    go_wp2_with (first
      | (go_at_call 26; refine (RetB.grown ((C1 _).out)).mono ?_; rintro e' w' ⟨rfl, g, rfl⟩)
      | (go_at_call 13; refine (RetB.grown (refValid_any _ _ _ _)).mono ?_; rintro e' w' ⟨rfl, g, rfl⟩)
      | (go_at_call 27; refine (RetB.grown ((D1 _).out)).mono ?_; rintro e' w' ⟨rfl, g, rfl⟩)
      | (go_at_call 14; refine (RetB.grown (known_any _)).mono ?_; rintro e' w' ⟨rfl, g, rfl⟩)
      | (refine wp_region_xt (by kernel_rfl) (by kernel_rfl) ?_; (repeat (go_big_quiet_step (first | (go_at_call 26; exact RetB.quiet ((C1 _).out)) | (go_at_call 13; exact RetB.quiet (refValid_any _ _ _ _)) | (go_at_call 27; exact RetB.quiet ((D1 _).out)) | (go_at_call 14; exact RetB.quiet (known_any _))))); refine wpQuiet_nil ?_; intro g))
    go_ret
    exact RetB.of rfl (by repeat' (first | exact Below.refl _ _ | assumption | refine Below.xt ?_ ?_ _ | refine Below.alloc ?_ ?_ _ | refine Below.drew ?_ | refine Below.setCell ?_ ?_ _ | (simp; done) | (simp; omega)))
  · have hbad : vok a.x a.y a.z = false ∨ vok b.x b.y b.z = false ∨ ratio num den = false := by
      by_cases ha : vok a.x a.y a.z = true
      · by_cases hb : vok b.x b.y b.z = true
        · exact .inr (.inr (by simpa using fun hr => hg ⟨ha, hb, hr⟩))
        · exact .inr (.inl (by simpa using hb))
      · exact .inl (by simpa using ha)
    have C1 := fun w => Lib.hid (Between_bad a.x a.y a.z b.x b.y b.z num den w hbad)
    clear hg
    by_cases ha : vok a.x a.y a.z = true
    · by_cases hb : vok b.x b.y b.z = true
      · have hr : ¬ (1 ≤ den ∧ den ≤ 4294967296 ∧ 0 ≤ num ∧ num ≤ den) := by
          rw [← ratio_iff]; rcases hbad with h | h | h <;> simp_all
        clear hbad
        go_enter Try.func5, Try.ntmps5
        go_wp2_with (first
          | (go_at_call 26; refine (RetB.grown ((C1 _).out)).mono ?_; rintro e' w' ⟨rfl, g, rfl⟩)
          | (go_at_call 13; refine (RetB.grown (refValid_any _ _ _ _)).mono ?_; rintro e' w' ⟨rfl, g, rfl⟩)
          | (go_at_call 14; refine (RetB.grown (known_any _)).mono ?_; rintro e' w' ⟨rfl, g, rfl⟩)
          | (refine wp_region_xt (by kernel_rfl) (by kernel_rfl) ?_; (repeat (go_big_quiet_step (first | (go_at_call 26; exact RetB.quiet ((C1 _).out)) | (go_at_call 13; exact RetB.quiet (refValid_any _ _ _ _)) | (go_at_call 14; exact RetB.quiet (known_any _))))); refine wpQuiet_nil ?_; intro g))
        all_goals first | (exfalso; omega) | skip
        all_goals go_ret
        all_goals exact RetB.of rfl (by repeat' (first | exact Below.refl _ _ | assumption | refine Below.xt ?_ ?_ _ | refine Below.alloc ?_ ?_ _ | refine Below.drew ?_ | refine Below.setCell ?_ ?_ _ | (simp; done) | (simp; omega)))
      · have hb' : vok b.x b.y b.z = false := by simpa using hb
        clear hbad hb
        go_enter Try.func5, Try.ntmps5
        go_wp2_with (first
          | (go_at_call 26; refine (RetB.grown ((C1 _).out)).mono ?_; rintro e' w' ⟨rfl, g, rfl⟩)
          | (go_at_call 13; refine (RetB.grown (refValid_any _ _ _ _)).mono ?_; rintro e' w' ⟨rfl, g, rfl⟩)
          | (go_at_call 14; refine (RetB.grown (known_any _)).mono ?_; rintro e' w' ⟨rfl, g, rfl⟩)
          | (refine wp_region_xt (by kernel_rfl) (by kernel_rfl) ?_; (repeat (go_big_quiet_step (first | (go_at_call 26; exact RetB.quiet ((C1 _).out)) | (go_at_call 13; exact RetB.quiet (refValid_any _ _ _ _)) | (go_at_call 14; exact RetB.quiet (known_any _))))); refine wpQuiet_nil ?_; intro g))
        go_ret
        exact RetB.of rfl (by repeat' (first | exact Below.refl _ _ | assumption | refine Below.xt ?_ ?_ _ | refine Below.alloc ?_ ?_ _ | refine Below.drew ?_ | refine Below.setCell ?_ ?_ _ | (simp; done) | (simp; omega)))
    · have ha' : vok a.x a.y a.z = false := by simpa using ha
      clear hbad ha
      go_enter Try.func5, Try.ntmps5
      go_wp2_with (first
        | (go_at_call 26; refine (RetB.grown ((C1 _).out)).mono ?_; rintro e' w' ⟨rfl, g, rfl⟩)
        | (go_at_call 13; refine (RetB.grown (refValid_any _ _ _ _)).mono ?_; rintro e' w' ⟨rfl, g, rfl⟩)
        | (go_at_call 14; refine (RetB.grown (known_any _)).mono ?_; rintro e' w' ⟨rfl, g, rfl⟩)
        | (refine wp_region_xt (by kernel_rfl) (by kernel_rfl) ?_; (repeat (go_big_quiet_step (first | (go_at_call 26; exact RetB.quiet ((C1 _).out)) | (go_at_call 13; exact RetB.quiet (refValid_any _ _ _ _)) | (go_at_call 14; exact RetB.quiet (known_any _))))); refine wpQuiet_nil ?_; intro g))
      go_ret
      exact RetB.of rfl (by repeat' (first | exact Below.refl _ _ | assumption | refine Below.xt ?_ ?_ _ | refine Below.alloc ?_ ?_ _ | refine Below.drew ?_ | refine Below.setCell ?_ ?_ _ | (simp; done) | (simp; omega)))

set_option maxRecDepth 100000 in
set_option maxHeartbeats 1600000 in
theorem VectorTurn_walk (a b c : V3) (w : World) : Calls Try.prog 6 #[.agg #[.int .i64 a.x, .int .i64 a.y, .int .i64 a.z], .agg #[.int .i64 b.x, .int .i64 b.y, .int .i64 b.z], .agg #[.int .i64 c.x, .int .i64 c.y, .int .i64 c.z]] w (RetB (.bool true) w) := by
  by_cases ha : vok a.x a.y a.z = true
  · by_cases hb : vok b.x b.y b.z = true
    · by_cases hc : vok c.x c.y c.z = true
      · have C1 := fun w => Lib.hid (Turn_ok a.x a.y a.z b.x b.y b.z c.x c.y c.z w ha hb hc)
        have D1 := fun w => Lib.hid (refTurn_any a.x a.y a.z b.x b.y b.z c.x c.y c.z w ha hb hc)
        go_enter Try.func6, Try.ntmps6
        go_wp2_with (first
          | (go_at_call 28; refine (RetB.grown ((C1 _).out)).mono ?_; rintro e' w' ⟨rfl, g, rfl⟩)
          | (go_at_call 13; refine (RetB.grown (refValid_any _ _ _ _)).mono ?_; rintro e' w' ⟨rfl, g, rfl⟩)
          | (go_at_call 29; refine (RetB.grown ((D1 _).out)).mono ?_; rintro e' w' ⟨rfl, g, rfl⟩)
          | (go_at_call 14; refine (RetB.grown (known_any _)).mono ?_; rintro e' w' ⟨rfl, g, rfl⟩)
          | (refine wp_region_xt (by kernel_rfl) (by kernel_rfl) ?_; (repeat (go_big_quiet_step (first | (go_at_call 28; exact RetB.quiet ((C1 _).out)) | (go_at_call 13; exact RetB.quiet (refValid_any _ _ _ _)) | (go_at_call 29; exact RetB.quiet ((D1 _).out)) | (go_at_call 14; exact RetB.quiet (known_any _))))); refine wpQuiet_nil ?_; intro g))
        go_ret
        exact RetB.of rfl (by repeat' (first | exact Below.refl _ _ | assumption | refine Below.xt ?_ ?_ _ | refine Below.alloc ?_ ?_ _ | refine Below.drew ?_ | refine Below.setCell ?_ ?_ _ | (simp; done) | (simp; omega)))
      · have hc' : vok c.x c.y c.z = false := by simpa using hc
        have C1 := fun w => Lib.hid (Turn_bad a.x a.y a.z b.x b.y b.z c.x c.y c.z w (.inr (.inr hc')))
        clear hc
        go_enter Try.func6, Try.ntmps6
        go_wp2_with (first
          | (go_at_call 28; refine (RetB.grown ((C1 _).out)).mono ?_; rintro e' w' ⟨rfl, g, rfl⟩)
          | (go_at_call 13; refine (RetB.grown (refValid_any _ _ _ _)).mono ?_; rintro e' w' ⟨rfl, g, rfl⟩)
          | (go_at_call 14; refine (RetB.grown (known_any _)).mono ?_; rintro e' w' ⟨rfl, g, rfl⟩)
          | (refine wp_region_xt (by kernel_rfl) (by kernel_rfl) ?_; (repeat (go_big_quiet_step (first | (go_at_call 28; exact RetB.quiet ((C1 _).out)) | (go_at_call 13; exact RetB.quiet (refValid_any _ _ _ _)) | (go_at_call 14; exact RetB.quiet (known_any _))))); refine wpQuiet_nil ?_; intro g))
        go_ret
        exact RetB.of rfl (by repeat' (first | exact Below.refl _ _ | assumption | refine Below.xt ?_ ?_ _ | refine Below.alloc ?_ ?_ _ | refine Below.drew ?_ | refine Below.setCell ?_ ?_ _ | (simp; done) | (simp; omega)))
    · have hb' : vok b.x b.y b.z = false := by simpa using hb
      have C1 := fun w => Lib.hid (Turn_bad a.x a.y a.z b.x b.y b.z c.x c.y c.z w (.inr (.inl hb')))
      clear hb
      go_enter Try.func6, Try.ntmps6
      go_wp2_with (first
        | (go_at_call 28; refine (RetB.grown ((C1 _).out)).mono ?_; rintro e' w' ⟨rfl, g, rfl⟩)
        | (go_at_call 13; refine (RetB.grown (refValid_any _ _ _ _)).mono ?_; rintro e' w' ⟨rfl, g, rfl⟩)
        | (go_at_call 14; refine (RetB.grown (known_any _)).mono ?_; rintro e' w' ⟨rfl, g, rfl⟩)
        | (refine wp_region_xt (by kernel_rfl) (by kernel_rfl) ?_; (repeat (go_big_quiet_step (first | (go_at_call 28; exact RetB.quiet ((C1 _).out)) | (go_at_call 13; exact RetB.quiet (refValid_any _ _ _ _)) | (go_at_call 14; exact RetB.quiet (known_any _))))); refine wpQuiet_nil ?_; intro g))
      go_ret
      exact RetB.of rfl (by repeat' (first | exact Below.refl _ _ | assumption | refine Below.xt ?_ ?_ _ | refine Below.alloc ?_ ?_ _ | refine Below.drew ?_ | refine Below.setCell ?_ ?_ _ | (simp; done) | (simp; omega)))
  · have ha' : vok a.x a.y a.z = false := by simpa using ha
    have C1 := fun w => Lib.hid (Turn_bad a.x a.y a.z b.x b.y b.z c.x c.y c.z w (.inl ha'))
    clear ha
    go_enter Try.func6, Try.ntmps6
    go_wp2_with (first
      | (go_at_call 28; refine (RetB.grown ((C1 _).out)).mono ?_; rintro e' w' ⟨rfl, g, rfl⟩)
      | (go_at_call 13; refine (RetB.grown (refValid_any _ _ _ _)).mono ?_; rintro e' w' ⟨rfl, g, rfl⟩)
      | (go_at_call 14; refine (RetB.grown (known_any _)).mono ?_; rintro e' w' ⟨rfl, g, rfl⟩)
      | (refine wp_region_xt (by kernel_rfl) (by kernel_rfl) ?_; (repeat (go_big_quiet_step (first | (go_at_call 28; exact RetB.quiet ((C1 _).out)) | (go_at_call 13; exact RetB.quiet (refValid_any _ _ _ _)) | (go_at_call 14; exact RetB.quiet (known_any _))))); refine wpQuiet_nil ?_; intro g))
    go_ret
    exact RetB.of rfl (by repeat' (first | exact Below.refl _ _ | assumption | refine Below.xt ?_ ?_ _ | refine Below.alloc ?_ ?_ _ | refine Below.drew ?_ | refine Below.setCell ?_ ?_ _ | (simp; done) | (simp; omega)))

end Go.Proofs.Ytjgfobknifobhaa

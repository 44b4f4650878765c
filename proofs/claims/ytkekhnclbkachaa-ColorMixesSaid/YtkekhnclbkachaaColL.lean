/- Walks of the laws ColorNames, ColorMixes and ColorTexts. Conditions stand in each theorem. -/
import Derived.Test.YtkekhnclbkachaaColK
namespace Go.Proofs.Ytkekhnclbkachaa
open Go.RowKit
set_option linter.unusedVariables false
set_option linter.unusedSimpArgs false

set_option maxHeartbeats 800000 in
theorem ColorNames_walk (s : ByteArray) (os : s.size ≤ maxLen) (w : World) : Calls Try.prog 3 #[.string s] w (RetB (.bool true) w) := by
  have hm := os
  unfold maxLen at hm
  have C1 := fun w => Lib.hid (vname_any s w os)
  have C2 := fun w => Lib.hid (rname_any s w os)
  clear os
  by_cases h : s.size ≤ 200
  · go_enter Try.func3, Try.ntmps3
    go_wp2_with (first
      | (go_at_call 11; refine ((C1 _).out).mono ?_; rintro e' w' ⟨rfl, rfl⟩)
      | (go_at_call 12; refine ((C2 _).out).mono ?_; rintro e' w' ⟨rfl, rfl⟩)
      | (go_at_call 10; refine (RetB.grown (known_any _)).mono ?_; rintro e' w' ⟨rfl, g, rfl⟩)
      | (refine wp_region_xt (by kernel_rfl) (by kernel_rfl) ?_; (repeat (go_big_quiet_step (first | (go_at_call 11; exact Ret.quiet ((C1 _).out)) | (go_at_call 12; exact Ret.quiet ((C2 _).out)) | (go_at_call 10; exact RetB.quiet (known_any _))))); refine wpQuiet_nil ?_; intro g))
    go_ret
    exact RetB.of (by simp) (by repeat' (first | exact Below.refl _ _ | assumption | refine Below.xt ?_ ?_ _ | refine Below.alloc ?_ ?_ _ | refine Below.drew ?_ | refine Below.setCell ?_ ?_ _ | (simp; done) | (simp; omega)))
  · go_enter Try.func3, Try.ntmps3
    go_wp2_with (first
      | (go_at_call 11; refine ((C1 _).out).mono ?_; rintro e' w' ⟨rfl, rfl⟩)
      | (go_at_call 12; refine ((C2 _).out).mono ?_; rintro e' w' ⟨rfl, rfl⟩)
      | (go_at_call 10; refine (RetB.grown (known_any _)).mono ?_; rintro e' w' ⟨rfl, g, rfl⟩)
      | (refine wp_region_xt (by kernel_rfl) (by kernel_rfl) ?_; (repeat (go_big_quiet_step (first | (go_at_call 11; exact Ret.quiet ((C1 _).out)) | (go_at_call 12; exact Ret.quiet ((C2 _).out)) | (go_at_call 10; exact RetB.quiet (known_any _))))); refine wpQuiet_nil ?_; intro g))
    go_ret
    exact RetB.of rfl (by repeat' (first | exact Below.refl _ _ | assumption | refine Below.xt ?_ ?_ _ | refine Below.alloc ?_ ?_ _ | refine Below.drew ?_ | refine Below.setCell ?_ ?_ _ | (simp; done) | (simp; omega)))

set_option maxHeartbeats 1600000 in
theorem ColorMixes_walk (a b : Col) (num den : Int) (oa : a.ok) (ob : b.ok) (on : I64 num) (od : I64 den) (w : World) : Calls Try.prog 4 #[.agg #[.int .u8 a.r, .int .u8 a.g, .int .u8 a.b], .agg #[.int .u8 b.r, .int .u8 b.g, .int .u8 b.b], .int .i64 num, .int .i64 den] w (RetB (.bool true) w) := by
  have C1 := fun w => Lib.hid (Mix_any a b num den w oa ob)
  have C2 := fun w => Lib.hid (refMix_any a b num den w oa ob)
  have C3 := fun w => Lib.hid (Dim_any a num den w oa)
  have C4 := fun w => Lib.hid (refMix_any black a num den w black_ok oa)
  clear oa ob
  generalize mixVal a b num den = x at *
  generalize mixVal black a num den = y at *
  generalize mixErr num den = e at *
  go_enter Try.func4, Try.ntmps4
  go_wp2_with fail
  refine (RetB.grown (C1 _).out).mono ?_
  rintro e' w' ⟨rfl, g1, rfl⟩
  go_wp2_with fail
  refine (RetB.grown (C2 _).out).mono ?_
  rintro e' w' ⟨rfl, g2, rfl⟩
  go_wp2_with fail
  refine (RetB.grown (C3 _).out).mono ?_
  rintro e' w' ⟨rfl, g3, rfl⟩
  go_wp2_with fail
  refine (RetB.grown (C4 _).out).mono ?_
  rintro e' w' ⟨rfl, g4, rfl⟩
  go_wp2_with (first
    | (go_at_call 10; refine (RetB.grown (known_any _)).mono ?_; rintro e' w' ⟨rfl, g, rfl⟩)
    | (refine wp_region_xt (by kernel_rfl) (by kernel_rfl) ?_; (repeat (go_big_quiet_step (first | (go_at_call 10; exact RetB.quiet (known_any _))))); refine wpQuiet_nil ?_; intro g))
  go_ret
  exact RetB.of rfl (by repeat' (first | exact Below.refl _ _ | assumption | refine Below.xt ?_ ?_ _ | refine Below.alloc ?_ ?_ _ | refine Below.drew ?_ | refine Below.setCell ?_ ?_ _ | (simp; done) | (simp; omega)))

set_option maxHeartbeats 1600000 in
theorem ColorTexts_walk (a b : Col) (s : ByteArray) (oa : a.ok) (ob : b.ok) (os : s.size ≤ maxLen) (w : World) : Calls Try.prog 6 #[.agg #[.int .u8 a.r, .int .u8 a.g, .int .u8 a.b], .agg #[.int .u8 b.r, .int .u8 b.g, .int .u8 b.b], .string s] w (RetB (.bool true) w) := by
  have hm := os
  unfold maxLen at hm
  have C1 := fun w => Lib.hid (Parse_any s w)
  have C2 := fun w => Lib.hid (refParse_any s w)
  have C3 := fun w => Lib.hid (Text_any a w oa)
  have C4 := fun w => Lib.hid (refText_any a w oa)
  have C5 := fun w => Lib.hid (Dist_any a b w oa ob)
  have C6 := fun w => Lib.hid (refDist_any a b w oa ob)
  clear oa ob os
  generalize parseC s = x at *
  generalize parseE s = e at *
  generalize textB a = t at *
  generalize cd2 a b = d at *
  have ht : (t.toList == t.toList) = true := by simp
  by_cases h : s.size ≤ 100
  · go_enter Try.func6, Try.ntmps6
    go_wp2_with (first
      | (go_at_call 17; refine (RetB.grown ((C1 _).out)).mono ?_; rintro e' w' ⟨rfl, g, rfl⟩)
      | (go_at_call 18; refine (RetB.grown ((C2 _).out)).mono ?_; rintro e' w' ⟨rfl, g, rfl⟩)
      | (go_at_call 19; refine (RetB.grown ((C3 _).out)).mono ?_; rintro e' w' ⟨rfl, g, rfl⟩)
      | (go_at_call 20; refine (RetB.grown ((C4 _).out)).mono ?_; rintro e' w' ⟨rfl, g, rfl⟩)
      | (go_at_call 21; refine (RetB.grown ((C5 _).out)).mono ?_; rintro e' w' ⟨rfl, g, rfl⟩)
      | (go_at_call 22; refine (RetB.grown ((C6 _).out)).mono ?_; rintro e' w' ⟨rfl, g, rfl⟩)
      | (go_at_call 10; refine (RetB.grown (known_any _)).mono ?_; rintro e' w' ⟨rfl, g, rfl⟩)
      | (refine wp_region_xt (by kernel_rfl) (by kernel_rfl) ?_; (repeat (go_big_quiet_step (first | (go_at_call 17; exact RetB.quiet ((C1 _).out)) | (go_at_call 18; exact RetB.quiet ((C2 _).out)) | (go_at_call 19; exact RetB.quiet ((C3 _).out)) | (go_at_call 20; exact RetB.quiet ((C4 _).out)) | (go_at_call 21; exact RetB.quiet ((C5 _).out)) | (go_at_call 22; exact RetB.quiet ((C6 _).out)) | (go_at_call 10; exact RetB.quiet (known_any _))))); refine wpQuiet_nil ?_; intro g))
    go_ret
    exact RetB.of rfl (by repeat' (first | exact Below.refl _ _ | assumption | refine Below.xt ?_ ?_ _ | refine Below.alloc ?_ ?_ _ | refine Below.drew ?_ | refine Below.setCell ?_ ?_ _ | (simp; done) | (simp; omega)))
  · go_enter Try.func6, Try.ntmps6
    go_wp2_with (first
      | (go_at_call 10; refine (RetB.grown (known_any _)).mono ?_; rintro e' w' ⟨rfl, g, rfl⟩)
      | (refine wp_region_xt (by kernel_rfl) (by kernel_rfl) ?_; (repeat (go_big_quiet_step (first | (go_at_call 10; exact RetB.quiet (known_any _))))); refine wpQuiet_nil ?_; intro g))
    go_ret
    exact RetB.of rfl (by repeat' (first | exact Below.refl _ _ | assumption | refine Below.xt ?_ ?_ _ | refine Below.alloc ?_ ?_ _ | refine Below.drew ?_ | refine Below.setCell ?_ ?_ _ | (simp; done) | (simp; omega)))

end Go.Proofs.Ytkekhnclbkachaa

/- Walk of the law MatchingCovers. Conditions stand in each theorem. -/
import Derived.Test.YtkabknmhbjmmcaaMatL1
import Derived.Test.YtkabknmhbjmmcaaMatC1
namespace Go.Proofs.Ytkabknmhbjmmcaa
open Go.RowKit
set_option linter.unusedVariables false
set_option linter.unusedSimpArgs false

set_option maxRecDepth 100000 in
set_option maxHeartbeats 3200000 in
theorem MatchingCovers_walk (A : Option Addr) (nL cap : Nat) (R : Int) (W : World) (og : GraphOk W A nL cap R) :
    Calls Try.prog 6 #[.agg #[.slice A nL cap, .int .i64 R]] W (RetB (.bool true) W) := by
  obtain ⟨G, g1, g2, g3, g4, g5⟩ := og
  have CS := fun w h => small_any A nL cap 7 R G w g1 (fun i hi => (g2 i hi).1) h
  have HG := Lib.hid g3
  clear g3
  rcases Bool.eq_false_or_eq_true (smB G nL 7) with s1 | s1
  · obtain ⟨b1, b2⟩ := smB_len s1 (by omega)
    have hn7 : nL ≤ 7 := (smB_iff.1 s1).2
    rw [s1] at CS
    have HS := fun w h => Lib.hid (CS w h)
    have C1 := fun w h => refValid_any A nL cap R G w b1 b2 h
    rcases Bool.eq_false_or_eq_true (vld G nL R) with hv | hv
    · have V := (vld_iff G).1 hv
      have := V.h0
      obtain ⟨r, rfl⟩ : ∃ r : Nat, R = (r : Int) := ⟨R.toNat, by omega⟩
      have C2 := fun w h => Lib.hid (Cover_ok A nL cap r G w h hv)
      have hL1 : (cvL G nL).length ≤ 1000 := by have := inc_len (cvL_inc G nL) (by omega); omega
      have hR1 : (cvR G nL r).length ≤ 1000 := by have := inc_len (cvR_inc G nL r) (by omega); have := V.hR; omega
      have C3 := fun w h A1 c1 h1 A2 c2 h2 => refCovers_any A A1 A2 nL cap (cvL G nL).length c1 (cvR G nL r).length c2 r G (cvL G nL) (cvR G nL r) w b1 b2 h rfl hL1 h1 rfl hR1 h2
      have C4 := fun w h => refSize_any G A nL cap r w (by omega) b2 h
      rw [cv_ok G hv] at C3
      rw [bst_size G hv, ← cv_len G hv] at C4
      rw [hv] at C1
      have H1 := fun w h => Lib.hid (C1 w h)
      have H3 := fun w h A1 c1 h1 A2 c2 h2 => Lib.hid (C3 w h A1 c1 h1 A2 c2 h2)
      have H4 := fun w h => Lib.hid (C4 w h)
      clear C1 C3 C4 CS g2 b1 b2 s1 hv V
      generalize cvL G nL = cl at *
      generalize cvR G nL r = cr at *
      go_enter Try.func6, Try.ntmps6
      go_wp2_with (go_at_call 9; refine (RetB.grown (HS _ (by repeat (first | exact HG.out | refine GRow.xt ?_ _ | refine GRow.alloc ?_ _ | refine GRow.drew ?_))).out).mono ?_; rintro e' w' ⟨rfl, g, rfl⟩)
      refine (C2 _ (by repeat (first | exact HG.out | refine GRow.xt ?_ _ | refine GRow.alloc ?_ _ | refine GRow.drew ?_))).out.mono ?_
      rintro e' w' ⟨A1, c1, A2, c2, rfl, hc1, hc2, hbel, hr1, hr2⟩
      obtain ⟨gx, rfl⟩ := xt_of_below hbel
      have HL := Lib.hid hr1
      have HR := Lib.hid hr2
      clear hbel hr1 hr2
      go_wp2_with (first
        | (go_at_call 11; refine (RetB.grown (H1 _ (by repeat (first | exact HG.out | refine GRow.xt ?_ _ | refine GRow.alloc ?_ _ | refine GRow.drew ?_))).out).mono ?_; rintro e' w' ⟨rfl, g, rfl⟩)
        | (go_at_call 22; (with_reducible refine (RetB.grown ((H3 _ (by repeat (first | exact HG.out | refine GRow.xt ?_ _ | refine GRow.alloc ?_ _ | refine GRow.drew ?_)) _ _ (by repeat (first | exact HL.out | refine RowI.xt ?_ _ | refine RowI.alloc ?_ _ | refine RowI.drew ?_)) _ _ (by repeat (first | exact HR.out | refine RowI.xt ?_ _ | refine RowI.alloc ?_ _ | refine RowI.drew ?_))).out)).mono ?_); rintro e' w' ⟨rfl, g, rfl⟩)
        | (go_at_call 19; (with_reducible refine (RetB.grown ((H4 _ (by repeat (first | exact HG.out | refine GRow.xt ?_ _ | refine GRow.alloc ?_ _ | refine GRow.drew ?_))).out)).mono ?_); rintro e' w' ⟨rfl, g, rfl⟩)
        | (go_at_call 10; (with_reducible refine (RetB.grown (known_any _)).mono ?_); rintro e' w' ⟨rfl, g, rfl⟩)
        | (refine wp_region_xt (by kernel_rfl) (by kernel_rfl) ?_; (repeat (go_big_quiet_step (first | (go_at_call 22; (with_reducible exact RetB.quiet ((H3 _ (by repeat (first | exact HG.out | refine GRow.xt ?_ _ | refine GRow.alloc ?_ _ | refine GRow.drew ?_)) _ _ (by repeat (first | exact HL.out | refine RowI.xt ?_ _ | refine RowI.alloc ?_ _ | refine RowI.drew ?_)) _ _ (by repeat (first | exact HR.out | refine RowI.xt ?_ _ | refine RowI.alloc ?_ _ | refine RowI.drew ?_))).out))) | (go_at_call 19; (with_reducible exact RetB.quiet ((H4 _ (by repeat (first | exact HG.out | refine GRow.xt ?_ _ | refine GRow.alloc ?_ _ | refine GRow.drew ?_))).out))) | (go_at_call 10; (with_reducible exact RetB.quiet (known_any _)))))); refine wpQuiet_nil ?_; intro g))
      go_ret
      exact RetB.of rfl (by repeat' (first | exact Below.refl _ _ | assumption | refine Below.xt ?_ ?_ _ | refine Below.alloc ?_ ?_ _ | refine Below.drew ?_ | refine Below.setCell ?_ ?_ _ | (simp; done) | (simp; omega)))
    · have C2 := fun w h => Lib.hid (Cover_no A nL cap R G w b1 b2 h hv)
      rw [hv] at C1
      have H1 := fun w h => Lib.hid (C1 w h)
      clear C1 CS g2 b1 b2 s1 hv
      go_enter Try.func6, Try.ntmps6
      go_wp2_with (first
        | (go_at_call 9; refine (RetB.grown (HS _ (by repeat (first | exact HG.out | refine GRow.xt ?_ _ | refine GRow.alloc ?_ _ | refine GRow.drew ?_))).out).mono ?_; rintro e' w' ⟨rfl, g, rfl⟩)
        | (go_at_call 21; refine (RetB.grown (C2 _ (by repeat (first | exact HG.out | refine GRow.xt ?_ _ | refine GRow.alloc ?_ _ | refine GRow.drew ?_))).out).mono ?_; rintro e' w' ⟨rfl, g, rfl⟩)
        | (go_at_call 11; refine (RetB.grown (H1 _ (by repeat (first | exact HG.out | refine GRow.xt ?_ _ | refine GRow.alloc ?_ _ | refine GRow.drew ?_))).out).mono ?_; rintro e' w' ⟨rfl, g, rfl⟩)
        | (go_at_call 10; refine (RetB.grown (known_any _)).mono ?_; rintro e' w' ⟨rfl, g, rfl⟩))
      go_ret
      exact RetB.of rfl (by repeat' (first | exact Below.refl _ _ | assumption | refine Below.xt ?_ ?_ _ | refine Below.alloc ?_ ?_ _ | refine Below.drew ?_ | refine Below.setCell ?_ ?_ _ | (simp; done) | (simp; omega)))
  · rw [s1] at CS
    have HS := fun w h => Lib.hid (CS w h)
    clear CS g2 s1
    go_enter Try.func6, Try.ntmps6
    go_wp2_with (first | (go_at_call 9; refine (RetB.grown (HS _ (by repeat (first | exact HG.out | refine GRow.xt ?_ _ | refine GRow.alloc ?_ _ | refine GRow.drew ?_))).out).mono ?_; rintro e' w' ⟨rfl, g, rfl⟩) | (go_at_call 10; refine (RetB.grown (known_any _)).mono ?_; rintro e' w' ⟨rfl, g, rfl⟩))
    go_ret
    exact RetB.of rfl (by repeat' (first | exact Below.refl _ _ | assumption | refine Below.xt ?_ ?_ _ | refine Below.alloc ?_ ?_ _ | refine Below.drew ?_ | refine Below.setCell ?_ ?_ _ | (simp; done) | (simp; omega)))
end Go.Proofs.Ytkabknmhbjmmcaa

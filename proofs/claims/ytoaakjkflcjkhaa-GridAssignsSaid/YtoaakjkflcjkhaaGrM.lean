/- Walk of the law GridAssigns. No condition but that the numbers fit their kinds. -/
import Derived.Test.YtoaakjkflcjkhaaGrL
namespace Go.Proofs.Ytoaakjkflcjkhaa
open Go.RowKit
set_option linter.unusedVariables false

set_option maxRecDepth 100000 in
set_option maxHeartbeats 3200000 in
theorem GridAssigns_main (q : Gd) (ad : Addr) (n cap : Nat) (l : List V3) (w : World) (L : List Int) (d : Int) (hL : L.length ≤ 4294967296) (hn : n = l.length) (hm : n ≤ 300) (hr : RowV w (some ad) l) (c1 : ∀ A c w, RowV w A l → Calls Try.prog 23 #[.agg #[.int .i64 q.ox, .int .i64 q.oy, .int .i64 q.oz, .int .i64 q.rows, .int .i64 q.cols, .int .i64 q.sp], .slice A n c] w (RetInts L d w)) (c2 : ∀ A c w, RowV w A l → Calls Try.prog 24 #[.agg #[.int .i64 q.ox, .int .i64 q.oy, .int .i64 q.oz, .int .i64 q.rows, .int .i64 q.cols, .int .i64 q.sp], .slice A n c] w (RetInts L d w)) :
    Calls Try.prog 6 #[.agg #[.int .i64 q.ox, .int .i64 q.oy, .int .i64 q.oz, .int .i64 q.rows, .int .i64 q.cols, .int .i64 q.sp], .slice (some ad) n cap] w (RetB (.bool true) w) := by
  have HN := Lib.hid hn
  have HR := Lib.hid hr
  have H1 := fun A c w h => Lib.hid (c1 A c w h)
  have H2 := fun A c w h => Lib.hid (c2 A c w h)
  obtain ⟨i0, hi0, hz0, hz1, hz2⟩ := info_parts infoVec
  clear hn hr c1 c2
  go_enter Try.func6, Try.ntmps6
  go_wp2_with (at_builtin; refine wpList_append_own _ rfl _ _ 29 rfl ((w.alloc (.cells #[.int .i64 q.ox, .int .i64 q.oy, .int .i64 q.oz, .int .i64 q.rows, .int .i64 q.cols, .int .i64 q.sp] 25))).heap.size 23 i0 _ 3 24 Try.underlying29 hi0 hz0 hz1 hz2 rfl (by omega) (.slice none 0 0) 0 [] rfl own_nil ad n cap (flat n 3 fun i => vcell (at_ l i)) rfl (flat_length _ _ _) ?_ one_cells ?_ ?_ ?_ ?_)
  · exact row_news (Row.alloc (by rw [HN.out]; exact HR.out) _) (by omega)
  · simp only [maxLen]; omega
  · omega
  · simp
  intro v1 w1 hown1 hgr1 _
  have hb1 : Below ((w.alloc (.cells #[.int .i64 q.ox, .int .i64 q.oy, .int .i64 q.oz, .int .i64 q.rows, .int .i64 q.cols, .int .i64 q.sp] 25))).heap.size ((w.alloc (.cells #[.int .i64 q.ox, .int .i64 q.oy, .int .i64 q.oz, .int .i64 q.rows, .int .i64 q.cols, .int .i64 q.sp] 25))) w1 := (Below.refl _ _).grown hgr1 (Nat.le_refl _) (by simp [Value.ownBlock])
  obtain ⟨g9, rfl⟩ := xt_of_below hb1
  obtain ⟨A', c', rfl, hrow⟩ := Row.of_own (n := n) (f := fun i => vcell (at_ l i)) (by simpa using hown1) rfl
  have HO := Lib.hid (show RowV (xt ((w.alloc (.cells #[.int .i64 q.ox, .int .i64 q.oy, .int .i64 q.oz, .int .i64 q.rows, .int .i64 q.cols, .int .i64 q.sp] 25))) g9) A' l by unfold RowV; rw [← HN.out]; exact hrow)
  clear hown1 hgr1 hb1 hrow
  go_wp2_with fail
  refine (H1 A' c' _ HO.out).out.mono ?_
  rintro e' w' ⟨A1, q1, rfl, hb2, hrow1⟩
  obtain ⟨g2, rfl⟩ := xt_of_below hb2
  have HA := Lib.hid hrow1
  clear hb2 hrow1
  go_wp2_with fail
  refine (H2 _ _ _ (by repeat (first | (with_reducible exact HR.out) | (with_reducible refine RowV.xt ?_ _) | (with_reducible refine RowV.alloc ?_ _) | (with_reducible refine RowV.drew ?_)))).out.mono ?_
  rintro e' w' ⟨A2, q2, rfl, hb3, hrow2⟩
  obtain ⟨g3, rfl⟩ := xt_of_below hb3
  have HB := Lib.hid hrow2
  clear hb3 hrow2
  have K := fun w ha hb => Lib.hid (same_ints A1 A2 _ _ q1 q2 L w rfl rfl hL ha hb)
  have KV := fun w ha hb => Lib.hid (same_vecs A' (some ad) n n c' cap l w HN.out HN.out (by omega) ha hb)
  go_wp2_with (first
    | (go_at_call 20; refine (RetB.grown ((K _ (by repeat (first | (with_reducible exact HA.out) | (with_reducible refine RowI.xt ?_ _) | (with_reducible refine RowI.alloc ?_ _) | (with_reducible refine RowI.drew ?_))) (by repeat (first | (with_reducible exact HB.out) | (with_reducible refine RowI.xt ?_ _) | (with_reducible refine RowI.alloc ?_ _) | (with_reducible refine RowI.drew ?_)))).out)).mono ?_; rintro e' w' ⟨rfl, g, rfl⟩)
    | (go_at_call 16; refine (RetB.grown ((KV _ (by repeat (first | (with_reducible exact HO.out) | (with_reducible refine RowV.xt ?_ _) | (with_reducible refine RowV.alloc ?_ _) | (with_reducible refine RowV.drew ?_))) (by repeat (first | (with_reducible exact HR.out) | (with_reducible refine RowV.xt ?_ _) | (with_reducible refine RowV.alloc ?_ _) | (with_reducible refine RowV.drew ?_)))).out)).mono ?_; rintro e' w' ⟨rfl, g, rfl⟩)
    | (go_at_call 15; refine (RetB.grown (known_any _)).mono ?_; rintro e' w' ⟨rfl, g, rfl⟩)
    | (refine wp_region_xt (by kernel_rfl) (by kernel_rfl) ?_; (repeat (go_big_quiet_step (first | (go_at_call 20; exact RetB.quiet ((K _ (by repeat (first | (with_reducible exact HA.out) | (with_reducible refine RowI.xt ?_ _) | (with_reducible refine RowI.alloc ?_ _) | (with_reducible refine RowI.drew ?_))) (by repeat (first | (with_reducible exact HB.out) | (with_reducible refine RowI.xt ?_ _) | (with_reducible refine RowI.alloc ?_ _) | (with_reducible refine RowI.drew ?_)))).out)) | (go_at_call 16; exact RetB.quiet ((KV _ (by repeat (first | (with_reducible exact HO.out) | (with_reducible refine RowV.xt ?_ _) | (with_reducible refine RowV.alloc ?_ _) | (with_reducible refine RowV.drew ?_))) (by repeat (first | (with_reducible exact HR.out) | (with_reducible refine RowV.xt ?_ _) | (with_reducible refine RowV.alloc ?_ _) | (with_reducible refine RowV.drew ?_)))).out)) | (go_at_call 15; exact RetB.quiet (known_any _))))); refine wpQuiet_nil ?_; intro g))
  go_ret
  exact RetB.of rfl (by repeat' (first | exact Below.refl _ _ | assumption | refine Below.xt ?_ ?_ _ | refine Below.alloc ?_ ?_ _ | refine Below.drew ?_ | refine Below.setCell ?_ ?_ _ | (simp; done) | (simp; omega)))

set_option maxRecDepth 100000 in
set_option maxHeartbeats 3200000 in
theorem GridAssigns_nil (q : Gd) (w : World) (d : Int) (c1 : ∀ A c w, RowV w A [] → Calls Try.prog 23 #[.agg #[.int .i64 q.ox, .int .i64 q.oy, .int .i64 q.oz, .int .i64 q.rows, .int .i64 q.cols, .int .i64 q.sp], .slice A 0 c] w (RetInts [] d w)) (c2 : ∀ A c w, RowV w A [] → Calls Try.prog 24 #[.agg #[.int .i64 q.ox, .int .i64 q.oy, .int .i64 q.oz, .int .i64 q.rows, .int .i64 q.cols, .int .i64 q.sp], .slice A 0 c] w (RetInts [] d w)) :
    Calls Try.prog 6 #[.agg #[.int .i64 q.ox, .int .i64 q.oy, .int .i64 q.oz, .int .i64 q.rows, .int .i64 q.cols, .int .i64 q.sp], .slice none 0 0] w (RetB (.bool true) w) := by
  have H1 := fun w => Lib.hid (c1 none 0 w Row.none_)
  have H2 := fun w => Lib.hid (c2 none 0 w Row.none_)
  obtain ⟨i0, hi0, hz0, hz1, hz2⟩ := info_parts infoVec
  clear c1 c2
  go_enter Try.func6, Try.ntmps6
  go_wp2_with (at_builtin; refine wpList_append_own_none rfl _ _ 29 rfl ((w.alloc (.cells #[.int .i64 q.ox, .int .i64 q.oy, .int .i64 q.oz, .int .i64 q.rows, .int .i64 q.cols, .int .i64 q.sp] 25))).heap.size 23 i0 3 Try.underlying29 hi0 (.slice none 0 0) 0 [] rfl own_nil rfl ?_)
  go_wp2_with fail
  refine (H1 _).out.mono ?_
  rintro e' w' ⟨A1, q1, rfl, hb2, hrow1⟩
  obtain ⟨g2, rfl⟩ := xt_of_below hb2
  have HA := Lib.hid hrow1
  clear hb2 hrow1
  go_wp2_with fail
  refine (H2 _).out.mono ?_
  rintro e' w' ⟨A2, q2, rfl, hb3, hrow2⟩
  obtain ⟨g3, rfl⟩ := xt_of_below hb3
  have HB := Lib.hid hrow2
  clear hb3 hrow2
  have K := fun w ha hb => Lib.hid (same_ints A1 A2 0 0 q1 q2 [] w rfl rfl (by omega) ha hb)
  have KV := fun w => Lib.hid (same_vecs none none 0 0 0 0 [] w rfl rfl (by omega) Row.none_ Row.none_)
  go_wp2_with (first
    | (go_at_call 20; refine (RetB.grown ((K _ (by repeat (first | (with_reducible exact HA.out) | (with_reducible refine RowI.xt ?_ _) | (with_reducible refine RowI.alloc ?_ _) | (with_reducible refine RowI.drew ?_))) (by repeat (first | (with_reducible exact HB.out) | (with_reducible refine RowI.xt ?_ _) | (with_reducible refine RowI.alloc ?_ _) | (with_reducible refine RowI.drew ?_)))).out)).mono ?_; rintro e' w' ⟨rfl, g, rfl⟩)
    | (go_at_call 16; refine (RetB.grown ((KV _).out)).mono ?_; rintro e' w' ⟨rfl, g, rfl⟩)
    | (go_at_call 15; refine (RetB.grown (known_any _)).mono ?_; rintro e' w' ⟨rfl, g, rfl⟩)
    | (refine wp_region_xt (by kernel_rfl) (by kernel_rfl) ?_; (repeat (go_big_quiet_step (first | (go_at_call 20; exact RetB.quiet ((K _ (by repeat (first | (with_reducible exact HA.out) | (with_reducible refine RowI.xt ?_ _) | (with_reducible refine RowI.alloc ?_ _) | (with_reducible refine RowI.drew ?_))) (by repeat (first | (with_reducible exact HB.out) | (with_reducible refine RowI.xt ?_ _) | (with_reducible refine RowI.alloc ?_ _) | (with_reducible refine RowI.drew ?_)))).out)) | (go_at_call 16; exact RetB.quiet ((KV _).out)) | (go_at_call 15; exact RetB.quiet (known_any _))))); refine wpQuiet_nil ?_; intro g))
  go_ret
  exact RetB.of rfl (by repeat' (first | exact Below.refl _ _ | assumption | refine Below.xt ?_ ?_ _ | refine Below.alloc ?_ ?_ _ | refine Below.drew ?_ | refine Below.setCell ?_ ?_ _ | (simp; done) | (simp; omega)))

set_option maxHeartbeats 800000 in
theorem GridAssigns_far (q : Gd) (A : Option Addr) (n c : Nat) (w : World) (h : 300 < n) (hm : n ≤ maxLen) : Calls Try.prog 6 #[.agg #[.int .i64 q.ox, .int .i64 q.oy, .int .i64 q.oz, .int .i64 q.rows, .int .i64 q.cols, .int .i64 q.sp], .slice A n c] w (RetB (.bool true) w) := by
  unfold maxLen at hm
  go_enter Try.func6, Try.ntmps6
  go_wp2_with (first
    | (go_at_call 15; refine (RetB.grown (known_any _)).mono ?_; rintro e' w' ⟨rfl, g, rfl⟩)
    | (refine wp_region_xt (by kernel_rfl) (by kernel_rfl) ?_; (repeat (go_big_quiet_step (first | (go_at_call 15; exact RetB.quiet (known_any _))))); refine wpQuiet_nil ?_; intro g))
  go_ret
  exact RetB.of rfl (by repeat' (first | exact Below.refl _ _ | assumption | refine Below.xt ?_ ?_ _ | refine Below.alloc ?_ ?_ _ | refine Below.drew ?_ | refine Below.setCell ?_ ?_ _ | (simp; done) | (simp; omega)))

theorem GridAssigns_walk (q : Gd) (A : Option Addr) (n c : Nat) (w : World) (hs : (A = none ∧ n = 0 ∧ c = 0) ∨ ∃ ad l, A = some ad ∧ n = l.length ∧ n ≤ maxLen ∧ RowV w (some ad) l) : Calls Try.prog 6 #[.agg #[.int .i64 q.ox, .int .i64 q.oy, .int .i64 q.oz, .int .i64 q.rows, .int .i64 q.cols, .int .i64 q.sp], .slice A n c] w (RetB (.bool true) w) := by
  by_cases hv : gval q = true
  · have hN := g_n (gval_iff.1 hv).2.1
    rcases hs with ⟨rfl, rfl, rfl⟩ | ⟨ad, l, rfl, hn, hm, hr⟩
    · exact GridAssigns_nil q w 0 (fun A c w h => Assign_ok q A 0 c [] w hv rfl h (fun i hi => absurd hi (by omega)) (by omega)) (fun A c w h => refAssign_ok q A 0 c [] w hv rfl h (fun i hi => absurd hi (by omega)) (by omega))
    · by_cases h3 : 300 < n
      · exact GridAssigns_far q (some ad) n c w h3 hm
      · by_cases hp : ∃ i, i < n ∧ pointAt l i = false
        · have h0 : 0 < l.length := by obtain ⟨i, hi, _⟩ := hp; omega
          exact GridAssigns_main q ad n c l w [] 2 (by simp) hn (by omega) hr (fun A c w h => by
            obtain ⟨b, o, rfl, _, _⟩ := Row.at_ h h0
            exact RetInts.of_err (Assign_far q b o n c l w hv hn (by omega) h hp)) (fun A c w h => by
            obtain ⟨b, o, rfl, _, _⟩ := Row.at_ h h0
            exact RetInts.of_err (refAssign_far q b o n c l w hv hn (by omega) h hp))
        · have hp' : ∀ i, i < n → pointAt l i = true := fun i hi => by
            cases hh : pointAt l i
            · exact absurd ⟨i, hi, hh⟩ hp
            · rfl
          by_cases hf : q.n < n
          · exact GridAssigns_main q ad n c l w [] 7 (by simp) hn (by omega) hr (fun A c w h => RetInts.of_err (Assign_full q A n c l w hv hn (by omega) h hp' hf)) (fun A c w h => by
              obtain ⟨b, o, rfl, _, _⟩ := Row.at_ h (by omega)
              exact RetInts.of_err (refAssign_full q b o n c l w hv hn (by omega) h hp' hf))
          · exact GridAssigns_main q ad n c l w _ 0 (by rw [asgs_len]; omega) hn (by omega) hr (fun A c w h => Assign_ok q A n c l w hv hn h hp' (by omega)) (fun A c w h => refAssign_ok q A n c l w hv hn h hp' (by omega))
  · have hv' : gval q = false := by simpa using hv
    rcases hs with ⟨rfl, rfl, rfl⟩ | ⟨ad, l, rfl, hn, hm, hr⟩
    · exact GridAssigns_nil q w 2 (fun A c w h => RetInts.of_err (Assign_bad q A 0 c w hv')) (fun A c w h => RetInts.of_err (refAssign_bad q A 0 c w hv'))
    · by_cases h3 : 300 < n
      · exact GridAssigns_far q (some ad) n c w h3 hm
      · exact GridAssigns_main q ad n c l w [] 2 (by simp) hn (by omega) hr (fun A c w h => RetInts.of_err (Assign_bad q A n c w hv')) (fun A c w h => RetInts.of_err (refAssign_bad q A n c w hv'))

end Go.Proofs.Ytoaakjkflcjkhaa

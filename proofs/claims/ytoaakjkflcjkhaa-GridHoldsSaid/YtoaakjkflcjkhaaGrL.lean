/- Walks of the laws GridSpots, GridNeighbours, GridNear. No condition. -/
import Derived.Test.YtoaakjkflcjkhaaGrK
import Derived.Test.YtoaakjkflcjkhaaGrR4
import Derived.Test.YtoaakjkflcjkhaaGrR5
namespace Go.Proofs.Ytoaakjkflcjkhaa
open Go.RowKit
set_option linter.unusedVariables false

theorem ixE_cases (q : Gd) (i : Int) : ixE q i = 0 ∨ ixE q i = 2 ∨ ixE q i = 3 := by
  unfold ixE; split <;> (try split) <;> simp
theorem Spot_any (q : Gd) (i : Int) (w : World) : Calls Try.prog 8 #[.agg #[.int .i64 q.ox, .int .i64 q.oy, .int .i64 q.oz, .int .i64 q.rows, .int .i64 q.cols, .int .i64 q.sp], .int .i64 i] w (RetB (.tuple #[.agg #[.int .i64 (spX q i).x, .int .i64 (spX q i).y, .int .i64 (spX q i).z], .int .i64 (ixE q i)]) w) := by
  by_cases h : gval q = true
  · by_cases h0 : 0 ≤ i ∧ i < q.rows * q.cols
    · have e : ixE q i = 0 := by rw [ixE, if_pos h, if_pos h0]
      rw [spX, e, if_pos rfl]
      exact Spot_ok q i w h h0.1 h0.2
    · have e : ixE q i = 3 := by rw [ixE, if_pos h, if_neg h0]
      rw [spX, e]
      exact Spot_bad q i w 3 (.inr rfl) e
  · have e : ixE q i = 2 := by rw [ixE, if_neg h]
    rw [spX, e]
    exact Spot_bad q i w 2 (.inl rfl) e

set_option maxRecDepth 100000 in
set_option maxHeartbeats 3200000 in
theorem GridSpots_bad (q : Gd) (i row col : Int) (w : World) (h : gval q = false) : Calls Try.prog 3 #[.agg #[.int .i64 q.ox, .int .i64 q.oy, .int .i64 q.oz, .int .i64 q.rows, .int .i64 q.cols, .int .i64 q.sp], .int .i64 i, .int .i64 row, .int .i64 col] w (RetB (.bool true) w) := by
  have e1 : ixE q i = 2 := by rw [ixE, if_neg (by simp [h])]
  have e2 : rcE q row col = 2 := by rw [rcE, if_neg (by simp [h])]
  have S1 := fun w => Spot_any q i w
  have S2 := fun w => refSpot_any q i w
  have I1 := fun w => Index_any q row col w
  have I2 := fun w => refIndex_any q row col w
  rw [spX, e1] at S1 S2
  rw [rcI, e2] at I1 I2
  have V1 := fun w => gvalid_any q w
  have V2 := fun w => refvalid_any q w
  rw [h] at V1 V2
  have C1 := fun w => Lib.hid (S1 w)
  have C2 := fun w => Lib.hid (S2 w)
  have C3 := fun w => Lib.hid (I1 w)
  have C4 := fun w => Lib.hid (I2 w)
  have C5 := fun w => Lib.hid (V1 w)
  have C6 := fun w => Lib.hid (V2 w)
  have C7 := fun w => Lib.hid (Spots_bad q w h)
  clear S1 S2 I1 I2 V1 V2 e1 e2 h
  go_enter Try.func3, Try.ntmps3
  go_wp2_with (first
    | (go_at_call 8; refine (RetB.grown ((C1 _).out)).mono ?_; rintro e' w' ⟨rfl, g, rfl⟩)
    | (go_at_call 11; refine (RetB.grown ((C2 _).out)).mono ?_; rintro e' w' ⟨rfl, g, rfl⟩)
    | (go_at_call 10; refine (RetB.grown ((C3 _).out)).mono ?_; rintro e' w' ⟨rfl, g, rfl⟩)
    | (go_at_call 12; refine (RetB.grown ((C4 _).out)).mono ?_; rintro e' w' ⟨rfl, g, rfl⟩)
    | (go_at_call 13; refine (RetB.grown ((C5 _).out)).mono ?_; rintro e' w' ⟨rfl, g, rfl⟩)
    | (go_at_call 14; refine (RetB.grown ((C6 _).out)).mono ?_; rintro e' w' ⟨rfl, g, rfl⟩)
    | (go_at_call 9; refine (RetB.grown ((C7 _).out)).mono ?_; rintro e' w' ⟨rfl, g, rfl⟩)
    | (go_at_call 15; refine (RetB.grown (known_any _)).mono ?_; rintro e' w' ⟨rfl, g, rfl⟩)
    | (refine wp_region_xt (by kernel_rfl) (by kernel_rfl) ?_; (repeat (go_big_quiet_step (first | (go_at_call 8; exact RetB.quiet ((C1 _).out)) | (go_at_call 11; exact RetB.quiet ((C2 _).out)) | (go_at_call 10; exact RetB.quiet ((C3 _).out)) | (go_at_call 12; exact RetB.quiet ((C4 _).out)) | (go_at_call 13; exact RetB.quiet ((C5 _).out)) | (go_at_call 14; exact RetB.quiet ((C6 _).out)) | (go_at_call 9; exact RetB.quiet ((C7 _).out)) | (go_at_call 15; exact RetB.quiet (known_any _))))); refine wpQuiet_nil ?_; intro g))
  go_ret
  exact RetB.of rfl (by repeat' (first | exact Below.refl _ _ | assumption | refine Below.xt ?_ ?_ _ | refine Below.alloc ?_ ?_ _ | refine Below.drew ?_ | refine Below.setCell ?_ ?_ _ | (simp; done) | (simp; omega)))

set_option maxRecDepth 100000 in
set_option maxHeartbeats 3200000 in
theorem GridSpots_ok (q : Gd) (i row col : Int) (w : World) (h : gval q = true) : Calls Try.prog 3 #[.agg #[.int .i64 q.ox, .int .i64 q.oy, .int .i64 q.oz, .int .i64 q.rows, .int .i64 q.cols, .int .i64 q.sp], .int .i64 i, .int .i64 row, .int .i64 col] w (RetB (.bool true) w) := by
  have V1 := fun w => gvalid_any q w
  have V2 := fun w => refvalid_any q w
  rw [h] at V1 V2
  have C1 := fun w => Lib.hid (Spot_any q i w)
  have C2 := fun w => Lib.hid (refSpot_any q i w)
  have C3 := fun w => Lib.hid (Index_any q row col w)
  have C4 := fun w => Lib.hid (refIndex_any q row col w)
  have C5 := fun w => Lib.hid (V1 w)
  have C6 := fun w => Lib.hid (V2 w)
  have C7 := fun w => Lib.hid (Spots_ok q w h)
  have C8 := fun w => Lib.hid (refSpots_ok q w h)
  have hm : (spots q).length ≤ 4294967296 := by rw [spots_len]; have := g_n (gval_iff.1 h).2.1; omega
  clear V1 V2 h
  generalize spots q = l at *
  generalize ixE q i = d at *
  generalize spX q i = v at *
  generalize rcE q row col = f at *
  generalize rcI q row col = n at *
  go_enter Try.func3, Try.ntmps3
  go_wp2_with (first
    | (go_at_call 8; refine (RetB.grown ((C1 _).out)).mono ?_; rintro e' w' ⟨rfl, g, rfl⟩)
    | (refine wp_region_xt (by kernel_rfl) (by kernel_rfl) ?_; (repeat (go_big_quiet_step (first | (go_at_call 8; exact RetB.quiet ((C1 _).out))))); refine wpQuiet_nil ?_; intro g))
  refine (C7 _).out.mono ?_
  rintro e w' ⟨A, c, rfl, hb, hr⟩
  obtain ⟨ga, rfl⟩ := xt_of_below hb
  have HA := Lib.hid hr
  clear hb hr
  go_wp2_with (first
    | (go_at_call 11; refine (RetB.grown ((C2 _).out)).mono ?_; rintro e' w' ⟨rfl, g, rfl⟩)
    | (go_at_call 10; refine (RetB.grown ((C3 _).out)).mono ?_; rintro e' w' ⟨rfl, g, rfl⟩)
    | (go_at_call 12; refine (RetB.grown ((C4 _).out)).mono ?_; rintro e' w' ⟨rfl, g, rfl⟩)
    | (go_at_call 13; refine (RetB.grown ((C5 _).out)).mono ?_; rintro e' w' ⟨rfl, g, rfl⟩)
    | (go_at_call 14; refine (RetB.grown ((C6 _).out)).mono ?_; rintro e' w' ⟨rfl, g, rfl⟩)
    | (refine wp_region_xt (by kernel_rfl) (by kernel_rfl) ?_; (repeat (go_big_quiet_step (first | (go_at_call 11; exact RetB.quiet ((C2 _).out)) | (go_at_call 10; exact RetB.quiet ((C3 _).out)) | (go_at_call 12; exact RetB.quiet ((C4 _).out)) | (go_at_call 13; exact RetB.quiet ((C5 _).out)) | (go_at_call 14; exact RetB.quiet ((C6 _).out))))); refine wpQuiet_nil ?_; intro g))
  refine (C8 _).out.mono ?_
  rintro e w' ⟨A2, c2, rfl, hb, hr⟩
  obtain ⟨gb, rfl⟩ := xt_of_below hb
  have HB := Lib.hid hr
  clear hb hr
  have K := fun w ha hb => Lib.hid (same_vecs A A2 _ _ c c2 l w rfl rfl hm ha hb)
  go_wp2_with (first
    | (go_at_call 16; refine (RetB.grown ((K _ (by repeat (first | (with_reducible exact HA.out) | (with_reducible refine RowV.xt ?_ _) | (with_reducible refine RowV.alloc ?_ _) | (with_reducible refine RowV.drew ?_))) (by repeat (first | (with_reducible exact HB.out) | (with_reducible refine RowV.xt ?_ _) | (with_reducible refine RowV.alloc ?_ _) | (with_reducible refine RowV.drew ?_)))).out)).mono ?_; rintro e' w' ⟨rfl, g, rfl⟩)
    | (go_at_call 15; refine (RetB.grown (known_any _)).mono ?_; rintro e' w' ⟨rfl, g, rfl⟩)
    | (refine wp_region_xt (by kernel_rfl) (by kernel_rfl) ?_; (repeat (go_big_quiet_step (first | (go_at_call 16; exact RetB.quiet ((K _ (by repeat (first | (with_reducible exact HA.out) | (with_reducible refine RowV.xt ?_ _) | (with_reducible refine RowV.alloc ?_ _) | (with_reducible refine RowV.drew ?_))) (by repeat (first | (with_reducible exact HB.out) | (with_reducible refine RowV.xt ?_ _) | (with_reducible refine RowV.alloc ?_ _) | (with_reducible refine RowV.drew ?_)))).out)) | (go_at_call 15; exact RetB.quiet (known_any _))))); refine wpQuiet_nil ?_; intro g))
  go_ret
  exact RetB.of rfl (by repeat' (first | exact Below.refl _ _ | assumption | refine Below.xt ?_ ?_ _ | refine Below.alloc ?_ ?_ _ | refine Below.drew ?_ | refine Below.setCell ?_ ?_ _ | (simp; done) | (simp; omega)))
theorem GridSpots_walk (q : Gd) (i row col : Int) (w : World) : Calls Try.prog 3 #[.agg #[.int .i64 q.ox, .int .i64 q.oy, .int .i64 q.oz, .int .i64 q.rows, .int .i64 q.cols, .int .i64 q.sp], .int .i64 i, .int .i64 row, .int .i64 col] w (RetB (.bool true) w) := by
  by_cases h : gval q = true
  · exact GridSpots_ok q i row col w h
  · exact GridSpots_bad q i row col w (by simpa using h)

/-! ### Neighbours -/
theorem RetInts.of_err {f : FuncId} {args : Array Value} {d : Int} {w : World} (h : Calls Try.prog f args w (RetB (.tuple #[.slice none 0 0, .int .i64 d]) w)) : Calls Try.prog f args w (RetInts [] d w) :=
  h.mono fun _ _ ⟨he, hb⟩ => ⟨none, 0, he, hb, Row.none_⟩
set_option maxRecDepth 100000 in
set_option maxHeartbeats 1600000 in
theorem GridNeighbours_main (q : Gd) (i : Int) (w : World) (L : List Int) (d : Int) (hm : L.length ≤ 4294967296) (c1 : ∀ w, Calls Try.prog 18 #[.agg #[.int .i64 q.ox, .int .i64 q.oy, .int .i64 q.oz, .int .i64 q.rows, .int .i64 q.cols, .int .i64 q.sp], .int .i64 i] w (RetInts L d w)) (c2 : ∀ w, Calls Try.prog 19 #[.agg #[.int .i64 q.ox, .int .i64 q.oy, .int .i64 q.oz, .int .i64 q.rows, .int .i64 q.cols, .int .i64 q.sp], .int .i64 i] w (RetInts L d w)) :
    Calls Try.prog 4 #[.agg #[.int .i64 q.ox, .int .i64 q.oy, .int .i64 q.oz, .int .i64 q.rows, .int .i64 q.cols, .int .i64 q.sp], .int .i64 i] w (RetB (.bool true) w) := by
  have C1 := fun w => Lib.hid (c1 w)
  have C2 := fun w => Lib.hid (c2 w)
  clear c1 c2
  go_enter Try.func4, Try.ntmps4
  go_wp2_with fail
  refine (C1 _).out.mono ?_
  rintro e w' ⟨A, c, rfl, hb, hr⟩
  obtain ⟨ga, rfl⟩ := xt_of_below hb
  have HA := Lib.hid hr
  clear hb hr
  go_wp2_with fail
  refine (C2 _).out.mono ?_
  rintro e w' ⟨A2, c2, rfl, hb, hr⟩
  obtain ⟨gb, rfl⟩ := xt_of_below hb
  have HB := Lib.hid hr
  clear hb hr
  have K := fun w ha hb => Lib.hid (same_ints A A2 _ _ c c2 L w rfl rfl hm ha hb)
  go_wp2_with (first
    | (go_at_call 20; refine (RetB.grown ((K _ (by repeat (first | (with_reducible exact HA.out) | (with_reducible refine RowI.xt ?_ _) | (with_reducible refine RowI.alloc ?_ _) | (with_reducible refine RowI.drew ?_))) (by repeat (first | (with_reducible exact HB.out) | (with_reducible refine RowI.xt ?_ _) | (with_reducible refine RowI.alloc ?_ _) | (with_reducible refine RowI.drew ?_)))).out)).mono ?_; rintro e' w' ⟨rfl, g, rfl⟩)
    | (go_at_call 15; refine (RetB.grown (known_any _)).mono ?_; rintro e' w' ⟨rfl, g, rfl⟩)
    | (refine wp_region_xt (by kernel_rfl) (by kernel_rfl) ?_; (repeat (go_big_quiet_step (first | (go_at_call 20; exact RetB.quiet ((K _ (by repeat (first | (with_reducible exact HA.out) | (with_reducible refine RowI.xt ?_ _) | (with_reducible refine RowI.alloc ?_ _) | (with_reducible refine RowI.drew ?_))) (by repeat (first | (with_reducible exact HB.out) | (with_reducible refine RowI.xt ?_ _) | (with_reducible refine RowI.alloc ?_ _) | (with_reducible refine RowI.drew ?_)))).out)) | (go_at_call 15; exact RetB.quiet (known_any _))))); refine wpQuiet_nil ?_; intro g))
  go_ret
  exact RetB.of rfl (by repeat' (first | exact Below.refl _ _ | assumption | refine Below.xt ?_ ?_ _ | refine Below.alloc ?_ ?_ _ | refine Below.drew ?_ | refine Below.setCell ?_ ?_ _ | (simp; done) | (simp; omega)))
theorem neigh_len (q : Gd) (i : Int) : (neigh q i).length ≤ 4 := by
  unfold neigh one; simp only [List.length_append]; repeat' split
  all_goals simp
theorem GridNeighbours_walk (q : Gd) (i : Int) (w : World) : Calls Try.prog 4 #[.agg #[.int .i64 q.ox, .int .i64 q.oy, .int .i64 q.oz, .int .i64 q.rows, .int .i64 q.cols, .int .i64 q.sp], .int .i64 i] w (RetB (.bool true) w) := by
  rcases ixE_cases q i with h | h | h
  · have hv : gval q = true := by
      cases hv : gval q
      · rw [ixE, hv] at h; simp at h
      · rfl
    have h0 : 0 ≤ i ∧ i < q.rows * q.cols := by
      by_cases h0 : 0 ≤ i ∧ i < q.rows * q.cols
      · exact h0
      · rw [ixE, if_pos hv, if_neg h0] at h; omega
    have hn := g_n (gval_iff.1 hv).2.1
    refine GridNeighbours_main q i w (neigh q i) 0 (by have := neigh_len q i; omega) (fun w => Neigh_ok q i w hv h0.1 h0.2) fun w => ?_
    obtain ⟨k, rfl⟩ := Int.eq_ofNat_of_zero_le h0.1
    exact refNeigh_ok q k w hv (by omega)
  · exact GridNeighbours_main q i w [] 2 (by simp) (fun w => RetInts.of_err (Neigh_bad q i w 2 (.inl rfl) h)) (fun w => RetInts.of_err (refNeigh_bad q i w 2 (.inl rfl) h))
  · exact GridNeighbours_main q i w [] 3 (by simp) (fun w => RetInts.of_err (Neigh_bad q i w 3 (.inr rfl) h)) (fun w => RetInts.of_err (refNeigh_bad q i w 3 (.inr rfl) h))

/-! ### Near -/
set_option maxRecDepth 100000 in
set_option maxHeartbeats 1600000 in
theorem GridNear_main (q : Gd) (v : V3) (w : World) (n d : Int) (c1 : ∀ w, Calls Try.prog 21 #[.agg #[.int .i64 q.ox, .int .i64 q.oy, .int .i64 q.oz, .int .i64 q.rows, .int .i64 q.cols, .int .i64 q.sp], .agg #[.int .i64 v.x, .int .i64 v.y, .int .i64 v.z]] w (RetB (.tuple #[.int .i64 n, .int .i64 d]) w)) (c2 : ∀ w, Calls Try.prog 22 #[.agg #[.int .i64 q.ox, .int .i64 q.oy, .int .i64 q.oz, .int .i64 q.rows, .int .i64 q.cols, .int .i64 q.sp], .agg #[.int .i64 v.x, .int .i64 v.y, .int .i64 v.z]] w (RetB (.tuple #[.int .i64 n, .int .i64 d]) w)) :
    Calls Try.prog 5 #[.agg #[.int .i64 q.ox, .int .i64 q.oy, .int .i64 q.oz, .int .i64 q.rows, .int .i64 q.cols, .int .i64 q.sp], .agg #[.int .i64 v.x, .int .i64 v.y, .int .i64 v.z]] w (RetB (.bool true) w) := by
  have C1 := fun w => Lib.hid (c1 w)
  have C2 := fun w => Lib.hid (c2 w)
  clear c1 c2
  go_enter Try.func5, Try.ntmps5
  go_wp2_with (first
    | (go_at_call 21; refine (RetB.grown ((C1 _).out)).mono ?_; rintro e' w' ⟨rfl, g, rfl⟩)
    | (go_at_call 22; refine (RetB.grown ((C2 _).out)).mono ?_; rintro e' w' ⟨rfl, g, rfl⟩)
    | (go_at_call 15; refine (RetB.grown (known_any _)).mono ?_; rintro e' w' ⟨rfl, g, rfl⟩)
    | (refine wp_region_xt (by kernel_rfl) (by kernel_rfl) ?_; (repeat (go_big_quiet_step (first | (go_at_call 21; exact RetB.quiet ((C1 _).out)) | (go_at_call 22; exact RetB.quiet ((C2 _).out)) | (go_at_call 15; exact RetB.quiet (known_any _))))); refine wpQuiet_nil ?_; intro g))
  go_ret
  exact RetB.of rfl (by repeat' (first | exact Below.refl _ _ | assumption | refine Below.xt ?_ ?_ _ | refine Below.alloc ?_ ?_ _ | refine Below.drew ?_ | refine Below.setCell ?_ ?_ _ | (simp; done) | (simp; omega)))
theorem GridNear_walk (q : Gd) (v : V3) (w : World) : Calls Try.prog 5 #[.agg #[.int .i64 q.ox, .int .i64 q.oy, .int .i64 q.oz, .int .i64 q.rows, .int .i64 q.cols, .int .i64 q.sp], .agg #[.int .i64 v.x, .int .i64 v.y, .int .i64 v.z]] w (RetB (.bool true) w) := by
  by_cases h : gval q = true
  · by_cases hv : pnt v = true
    · exact GridNear_main q v w _ 0 (fun w => Near_ok q v w h hv) (fun w => refNear_ok q v w h hv)
    · exact GridNear_main q v w 0 2 (fun w => Near_far q v w h (by simpa using hv)) (fun w => refNear_far q v w h (by simpa using hv))
  · exact GridNear_main q v w 0 2 (fun w => Near_bad q v w (by simpa using h)) (fun w => refNear_bad q v w (by simpa using h))

end Go.Proofs.Ytoaakjkflcjkhaa

/- Walks of grids, by the reference: neighbours, the nearest spot, the spots of points. Conditions stand in each theorem. -/
import Derived.Test.YtoaakjkflcjkhaaGrR3
import Derived.Deep.RegionHeld3
namespace Go.Proofs.Ytoaakjkflcjkhaa
open Go.RowKit
set_option linter.unusedVariables false
attribute [local go_sem ↓] ld6

/-! ### Neighbours -/
set_option maxHeartbeats 400000 in
theorem refNeigh_bad (q : Gd) (i : Int) (w : World) (d : Int) (hd : d = 2 ∨ d = 3) (h : ixE q i = d) : Calls Try.prog 19 #[.agg #[.int .i64 q.ox, .int .i64 q.oy, .int .i64 q.oz, .int .i64 q.rows, .int .i64 q.cols, .int .i64 q.sp], .int .i64 i] w (RetB (.tuple #[.slice none 0 0, .int .i64 d]) w) := by
  have c := fun w => refSpot_any q i w
  rw [spX, h] at c
  have e : (if d = 0 then q.spot i else (⟨0, 0, 0⟩ : V3)) = ⟨0, 0, 0⟩ := by rw [if_neg (by omega)]
  rw [e] at c
  have C := fun w => Lib.hid (c w)
  clear c h e
  rcases hd with rfl | rfl
  all_goals
    go_enter Try.func19, Try.ntmps19
    go_wp2_with (first
      | (go_at_call 11; refine (RetB.grown ((C _).out)).mono ?_; rintro e' w' ⟨rfl, g, rfl⟩)
      | (refine wp_region_xt (by kernel_rfl) (by kernel_rfl) ?_; (repeat (go_big_quiet_step (first | (go_at_call 11; exact RetB.quiet ((C _).out))))); refine wpQuiet_nil ?_; intro g))
    go_ret2
    exact RetB.of rfl (by repeat' (first | exact Below.refl _ _ | assumption | refine Below.xt ?_ ?_ _ | refine Below.alloc ?_ ?_ _ | refine Below.drew ?_ | refine Below.setCell ?_ ?_ _ | (simp; done) | (simp; omega)))

def nearB (l : List V3) (v : V3) (s : Int) (k : Nat) : Bool := decide (d2 (at_ l k) v = s * s)
set_option maxRecDepth 100000 in
set_option maxHeartbeats 3200000 in
theorem refNeigh_ok (q : Gd) (i : Nat) (w : World) (h : gval q = true) (hi : i < q.n) : Calls Try.prog 19 #[.agg #[.int .i64 q.ox, .int .i64 q.oy, .int .i64 q.oz, .int .i64 q.rows, .int .i64 q.cols, .int .i64 q.sp], .int .i64 (i : Int)] w (RetInts (neigh q i) 0 w) := by
  have hd := (gval_iff.1 h).2.1
  have hn := g_n hd
  have e : neigh q i = rng (nearB (spots q) (q.spot i) q.sp) (spots q).length := by
    rw [neigh_eq hd (by omega) (by omega), spots_len]
    have key : ∀ m, m ≤ q.n → rng (fun k : Nat => decide (d2 (q.spot k) (q.spot i) = q.sp * q.sp)) m = rng (nearB (spots q) (q.spot i) q.sp) m := by
      intro m
      induction m with
      | zero => intro _; rfl
      | succ m ih => intro hm; rw [rng, rng, ih (by omega), nearB, spots_at (by omega)]
    exact key _ (Nat.le_refl _)
  rw [e]
  clear e
  have hm : (spots q).length ≤ 256 := by rw [spots_len]; omega
  have h0 : 0 < (spots q).length := by rw [spots_len]; omega
  have HPS := Lib.hid (show ∀ i, i < (spots q).length → pnt (at_ (spots q) i) = true from fun i hi => spots_pnt h (by rwa [spots_len] at hi))
  have HV := Lib.hid (show pnt (q.spot i) = true by have := spots_pnt h hi; rwa [spots_at hi] at this)
  have C1 := fun w => Lib.hid (refSpot_ok q i w h hi)
  have C2 := fun w => Lib.hid (refSpots_ok q w h)
  obtain ⟨_, _, _, _, _, s1, s2⟩ := hd
  have s3 : 0 ≤ q.sp * q.sp ∧ q.sp * q.sp ≤ 1099511627776 := by
    have := Int.mul_le_mul s2 s2 (by omega) (by omega)
    exact ⟨Int.mul_nonneg (by omega) (by omega), by omega⟩
  obtain ⟨s3, s4⟩ := s3
  have hw1 : IntKind.i64.wrap (q.sp * q.sp) = q.sp * q.sp := IntWalk.i64_in _ (by omega)
  obtain ⟨i0, hi0, hz0, hz1, hz2⟩ := info_parts infoInt
  clear h hn hi
  generalize q.spot i = v at *
  go_enter Try.func19, Try.ntmps19
  go_wp2_with fail
  refine (RetB.grown (C1 _).out).mono ?_
  rintro e w' ⟨rfl, ga, rfl⟩
  go_wp2_with fail
  refine (C2 _).out.mono ?_
  rintro e W1 ⟨A', c', rfl, hb1, hrow⟩
  obtain ⟨g1, rfl⟩ := xt_of_below hb1
  clear hb1 C1 C2
  generalize spots q = l at *
  obtain ⟨b, o, rfl, hb, hc⟩ := hrow.at_ h0
  have HC := Lib.hid hc
  clear hc hrow
  go_wp2_with fail
  go_loopw [9, 10] (fun s j wr => ∃ (k : Nat) (g' : Gr), k ≤ l.length ∧ j = .int .i64 k ∧ wr = xt (xt ((xt (w.alloc (.cells #[.int .i64 q.ox, .int .i64 q.oy, .int .i64 q.oz, .int .i64 q.rows, .int .i64 q.cols, .int .i64 q.sp] 25)) ga).alloc (.cells #[.int .i64 v.x, .int .i64 v.y, .int .i64 v.z] 23)) g1) g' ∧ Hid ((xt (xt ((xt (w.alloc (.cells #[.int .i64 q.ox, .int .i64 q.oy, .int .i64 q.oz, .int .i64 q.rows, .int .i64 q.cols, .int .i64 q.sp] 25)) ga).alloc (.cells #[.int .i64 v.x, .int .i64 v.y, .int .i64 v.z] 23)) g1) g').ownsRow ((xt ((xt (w.alloc (.cells #[.int .i64 q.ox, .int .i64 q.oy, .int .i64 q.oz, .int .i64 q.rows, .int .i64 q.cols, .int .i64 q.sp] 25)) ga).alloc (.cells #[.int .i64 v.x, .int .i64 v.y, .int .i64 v.z] 23)) g1)).heap.size 3 1 s (rng (nearB l v q.sp) k).length ((rng (nearB l v q.sp) k).map (Value.int .i64)))) (fun _ j _ => l.length - (intOf j).toNat)
  case atStart => exact ⟨0, ⟨[], _⟩, by omega, rfl, (xt_self _).symm, own_nil⟩
  case round =>
    obtain ⟨k, g', hk, rfl, rfl, HO⟩ := hrel
    by_cases hlt : k < l.length
    · obtain ⟨hx, hy, hz⟩ := RowV.cells HC.out hlt
      have CD := fun w => Lib.hid (refDist_any (at_ l k) v w (HPS.out k hlt) HV.out)
      have hrl := rng_length (nearB l v q.sp) k
      have HE := Lib.hid (show rng (nearB l v q.sp) (k + 1) = rng (nearB l v q.sp) k ++ if nearB l v q.sp k then [(k : Int)] else [] from rfl)
      have HB := Lib.hid (show nearB l v q.sp k = decide (d2 (at_ l k) v = q.sp * q.sp) from rfl)
      generalize d2 (at_ l k) v = D at *
      generalize hpk : at_ l k = p at hx hy hz CD
      clear hpk
      by_cases hD : D = q.sp * q.sp
      · have e1 : (D == q.sp * q.sp) = true := by simpa using hD
        have HF := Lib.hid (show rng (nearB l v q.sp) (k + 1) = rng (nearB l v q.sp) k ++ [(k : Int)] by rw [HE.out, HB.out, decide_eq_true hD]; rfl)
        clear HE HB hD
        go_wp2_with (first
          | (go_at_call 25; refine (RetB.grown ((CD _).out)).mono ?_; rintro e' w' ⟨rfl, g, rfl⟩)
          | (at_builtin; go_must (refine wpList_append_own _ rfl _ _ 43 rfl ((xt ((xt (w.alloc (.cells #[.int .i64 q.ox, .int .i64 q.oy, .int .i64 q.oz, .int .i64 q.rows, .int .i64 q.cols, .int .i64 q.sp] 25)) ga).alloc (.cells #[.int .i64 v.x, .int .i64 v.y, .int .i64 v.z] 23)) g1)).heap.size 3 i0 _ 1 8 Try.underlying43 hi0 hz0 hz1 hz2 rfl (by omega) u9 (rng (nearB l v q.sp) k).length ((rng (nearB l v q.sp) k).map (Value.int .i64)) rfl (by repeat (first | (with_reducible exact HO.out) | (with_reducible exact own_drawn HO.out _) | (with_reducible refine World.ownsRow.alloc ?_ _) | (with_reducible refine own_xt ?_ _))) _ 1 _ [.int .i64 (k : Int)] rfl rfl ?_ ?_ ?_ ?_ ?_ ?_))
          | (refine wp_region_xt (by kernel_rfl) (by kernel_rfl) ?_; (repeat (go_big_quiet_step (first | (go_at_call 25; exact RetB.quiet ((CD _).out))))); refine wpQuiet_nil ?_; intro g))
        · exact cells_new _ _ _ _ (by simp)
        · intro u hu; simp only [List.mem_cons, List.not_mem_nil, or_false] at hu; rcases hu with rfl; rfl
        · simp only [maxLen]; omega
        · omega
        · simp; omega
        intro v1 w1 hown1 hgr1 _
        have hb1 : Below ((xt ((xt (w.alloc (.cells #[.int .i64 q.ox, .int .i64 q.oy, .int .i64 q.oz, .int .i64 q.rows, .int .i64 q.cols, .int .i64 q.sp] 25)) ga).alloc (.cells #[.int .i64 v.x, .int .i64 v.y, .int .i64 v.z] 23)) g1)).heap.size ((xt ((xt (w.alloc (.cells #[.int .i64 q.ox, .int .i64 q.oy, .int .i64 q.oz, .int .i64 q.rows, .int .i64 q.cols, .int .i64 q.sp] 25)) ga).alloc (.cells #[.int .i64 v.x, .int .i64 v.y, .int .i64 v.z] 23)) g1)) w1 := below_grown (n := (rng (nearB l v q.sp) k).length) (v := u9) (xs := (rng (nearB l v q.sp) k).map (Value.int .i64)) (e := 3) (s := 1) (by repeat' (first | exact Below.refl _ _ | assumption | refine Below.xt ?_ ?_ _ | refine Below.alloc ?_ ?_ _ | refine Below.drew ?_ | refine Below.setCell ?_ ?_ _ | (simp; done) | (simp; omega))) (by simp; omega) (by repeat (first | (with_reducible exact HO.out) | (with_reducible exact own_drawn HO.out _) | (with_reducible refine World.ownsRow.alloc ?_ _) | (with_reducible refine own_xt ?_ _))) hgr1
        obtain ⟨g9, rfl⟩ := xt_of_below hb1
        have HO1 := Lib.hid (show (xt (xt ((xt (w.alloc (.cells #[.int .i64 q.ox, .int .i64 q.oy, .int .i64 q.oz, .int .i64 q.rows, .int .i64 q.cols, .int .i64 q.sp] 25)) ga).alloc (.cells #[.int .i64 v.x, .int .i64 v.y, .int .i64 v.z] 23)) g1) g9).ownsRow ((xt ((xt (w.alloc (.cells #[.int .i64 q.ox, .int .i64 q.oy, .int .i64 q.oz, .int .i64 q.rows, .int .i64 q.cols, .int .i64 q.sp] 25)) ga).alloc (.cells #[.int .i64 v.x, .int .i64 v.y, .int .i64 v.z] 23)) g1)).heap.size 3 1 v1 (rng (nearB l v q.sp) (k + 1)).length ((rng (nearB l v q.sp) (k + 1)).map (Value.int .i64)) by rw [HF.out, List.map_append, List.length_append, show ((xt ((xt (w.alloc (.cells #[.int .i64 q.ox, .int .i64 q.oy, .int .i64 q.oz, .int .i64 q.rows, .int .i64 q.cols, .int .i64 q.sp] 25)) ga).alloc (.cells #[.int .i64 v.x, .int .i64 v.y, .int .i64 v.z] 23)) g1)).heap.size = w.heap.size + 1 + ga.blocks.length + 1 + g1.blocks.length by simp [xt]]; exact hown1)
        clear hown1 hgr1 hb1 HO
        go_wp2_with fail
        go_roundw
        case rel => exact ⟨k + 1, g9, by omega, by go_num, rfl, HO1⟩
        case measure => simp [intOf]; omega
      · have e1 : (D == q.sp * q.sp) = false := by simpa using hD
        have HF := Lib.hid (show rng (nearB l v q.sp) (k + 1) = rng (nearB l v q.sp) k by rw [HE.out, HB.out, decide_eq_false hD]; simp)
        clear HE HB hD
        go_wp2_with (first
          | (go_at_call 25; refine (RetB.grown ((CD _).out)).mono ?_; rintro e' w' ⟨rfl, g, rfl⟩)
          | (refine wp_region_xt (by kernel_rfl) (by kernel_rfl) ?_; (repeat (go_big_quiet_step (first | (go_at_call 25; exact RetB.quiet ((CD _).out))))); refine wpQuiet_nil ?_; intro g))
        go_roundw
        case rel =>
          refine ⟨k + 1, ?_⟩
          rw [HF.out]
          refine ⟨_, by omega, by go_num, (Classical.choose_spec (xt_of_below (by repeat' (first | exact Below.refl _ _ | assumption | refine Below.xt ?_ ?_ _ | refine Below.alloc ?_ ?_ _ | refine Below.drew ?_ | refine Below.setCell ?_ ?_ _ | (simp; done) | (simp; omega))))), ?_⟩
          rw [← Classical.choose_spec (xt_of_below (by repeat' (first | exact Below.refl _ _ | assumption | refine Below.xt ?_ ?_ _ | refine Below.alloc ?_ ?_ _ | refine Below.drew ?_ | refine Below.setCell ?_ ?_ _ | (simp; done) | (simp; omega))))]
          refine Lib.hid ?_
          exact (by repeat (first | (with_reducible exact HO.out) | (with_reducible exact own_drawn HO.out _) | (with_reducible refine World.ownsRow.alloc ?_ _) | (with_reducible refine own_xt ?_ _)))
        case measure => simp [intOf]; omega
    · have e1 : k = l.length := by omega
      subst e1
      go_wp2_with fail
      obtain ⟨A2, c2, rfl, hrow⟩ := RowI.of_own HO.out rfl
      go_ret2
      exact ⟨_, _, rfl, (by repeat' (first | exact Below.refl _ _ | assumption | refine Below.xt ?_ ?_ _ | refine Below.alloc ?_ ?_ _ | refine Below.drew ?_ | refine Below.setCell ?_ ?_ _ | (simp; done) | (simp; omega))), hrow⟩

end Go.Proofs.Ytoaakjkflcjkhaa

/- Walks of grids, by the reference: all spots, one of them. Conditions stand in each theorem. -/
import Derived.Test.YtoaakjkflcjkhaaGrR1
namespace Go.Proofs.Ytoaakjkflcjkhaa
open Go.RowKit
set_option linter.unusedVariables false

/-- The call returns these vectors. -/
def RetVs (l : List V3) (w : World) (e : Ending) (w' : World) : Prop := ∃ A c, e = .returned (.slice A l.length c) ∧ Below w.heap.size w w' ∧ RowV w' A l

theorem spot_rc {q : Gd} {r c C : Nat} (h1 : (C : Int) = q.cols) (hc : c < C) : q.spot ((r * C + c : Nat) : Int) = q.pt r c := by
  have h : ((r * C + c : Nat) : Int) / q.cols = r ∧ ((r * C + c : Nat) : Int) % q.cols = c := by
    refine (Int.ediv_emod_unique (by omega)).2 ⟨?_, by omega, by omega⟩
    rw [← h1, Int.natCast_add, Int.natCast_mul, Int.mul_comm]
    omega
  unfold Gd.spot
  rw [h.1, h.2]

set_option maxRecDepth 100000 in
set_option maxHeartbeats 3200000 in
theorem refSpots_ok (q : Gd) (w : World) (h : gval q = true) : Calls Try.prog 17 #[.agg #[.int .i64 q.ox, .int .i64 q.oy, .int .i64 q.oz, .int .i64 q.rows, .int .i64 q.cols, .int .i64 q.sp]] w (RetVs (spots q) w) := by
  obtain ⟨ho, hd, _⟩ := gval_iff.1 h
  obtain ⟨en, n1, n2⟩ := g_n hd
  have L := fun (r c : Nat) (h1 : (r : Int) < q.rows) (h2 : (c : Int) < q.cols) => Lib.hid (show Fits q r c from fits_of ho hd (by omega) (by have := hd.2.1; omega) (by omega) (by have := hd.2.2.2.1; omega))
  obtain ⟨d1, d2, d3, d4, d5, s1, s2⟩ := hd
  obtain ⟨R, hR⟩ := Int.eq_ofNat_of_zero_le (show 0 ≤ q.rows by omega)
  obtain ⟨C, hC⟩ := Int.eq_ofNat_of_zero_le (show 0 ≤ q.cols by omega)
  have hnR : q.n = R * C := by
    have : ((R * C : Nat) : Int) = q.rows * q.cols := by rw [Int.natCast_mul, hR, hC]
    omega
  have HS := fun (r c : Nat) (hc : c < C) => Lib.hid (spot_rc (q := q) (r := r) hC.symm hc)
  have HN := Lib.hid hnR
  have r1 : (R : Int) ≤ q.rows := by omega
  have r2 : q.rows ≤ R := by omega
  have c1 : (C : Int) ≤ q.cols := by omega
  have c2 : q.cols ≤ C := by omega
  have hmul := fun (r : Nat) (hr : r < R) => Nat.mul_le_mul_right C (show r + 1 ≤ R by omega)
  have hmax : R * C ≤ 256 := by omega
  have HM := Lib.hid hmul
  have HX := Lib.hid hmax
  clear hR hC hnR en n1 n2 ho h hmul hmax
  obtain ⟨i0, hi0, hz0, hz1, hz2⟩ := info_parts infoVec
  go_enter Try.func17, Try.ntmps17
  go_wp2_with fail
  go_loopw [3, 4] (fun s i wr => ∃ (r : Nat) (g : Gr), r ≤ R ∧ i = .int .i64 r ∧ wr = xt (w.alloc (.cells #[.int .i64 q.ox, .int .i64 q.oy, .int .i64 q.oz, .int .i64 q.rows, .int .i64 q.cols, .int .i64 q.sp] 25)) g ∧ Hid ((xt (w.alloc (.cells #[.int .i64 q.ox, .int .i64 q.oy, .int .i64 q.oz, .int .i64 q.rows, .int .i64 q.cols, .int .i64 q.sp] 25)) g).ownsRow (w.alloc (.cells #[.int .i64 q.ox, .int .i64 q.oy, .int .i64 q.oz, .int .i64 q.rows, .int .i64 q.cols, .int .i64 q.sp] 25)).heap.size 23 3 s (r * C) (flat (r * C) 3 fun i => vcell (q.spot i)))) (fun _ i _ => R - (intOf i).toNat)
  case atStart => exact ⟨0, ⟨[], _⟩, by omega, rfl, (xt_self _).symm, by rw [Nat.zero_mul]; exact own_nil⟩
  case round =>
    obtain ⟨r, g, hr, rfl, rfl, HO⟩ := hrel
    by_cases hlt : r < R
    · have hm := HM.out r hlt
      have hx := HX.out
      rw [Nat.add_mul, Nat.one_mul] at hm
      have L := fun (c : Nat) h2 => L r c (by omega) h2
      have hq := fun (c : Nat) hc => HS r c hc
      have d9 : decide ((r : Int) < q.rows) = true := by simp; omega
      go_wp2_with fail
      go_loopw [3, 5] (fun s j wr => ∃ (c : Nat) (g : Gr), c ≤ C ∧ j = .int .i64 c ∧ wr = xt (w.alloc (.cells #[.int .i64 q.ox, .int .i64 q.oy, .int .i64 q.oz, .int .i64 q.rows, .int .i64 q.cols, .int .i64 q.sp] 25)) g ∧ Hid ((xt (w.alloc (.cells #[.int .i64 q.ox, .int .i64 q.oy, .int .i64 q.oz, .int .i64 q.rows, .int .i64 q.cols, .int .i64 q.sp] 25)) g).ownsRow (w.alloc (.cells #[.int .i64 q.ox, .int .i64 q.oy, .int .i64 q.oz, .int .i64 q.rows, .int .i64 q.cols, .int .i64 q.sp] 25)).heap.size 23 3 s (r * C + c) (flat (r * C + c) 3 fun i => vcell (q.spot i)))) (fun _ j _ => C - (intOf j).toNat)
      case atStart => exact ⟨0, _, by omega, rfl, rfl, by rw [Nat.add_zero]; exact HO⟩
      case round =>
        clear HO
        obtain ⟨c, g, hc, rfl, rfl, HO⟩ := hrel
        by_cases hlc : c < C
        · have HF := L c (by omega)
          have HQ := hq c hlc
          clear L hq HS HM HX
          go_wp2_with (first
            | (go_at_call 34; refine (RetB.grown (refspot_any q _ _ _ HF.out)).mono ?_; rintro e' w' ⟨rfl, g, rfl⟩)
            | (at_builtin; go_must (refine wpList_append_own _ rfl _ _ 29 rfl (w.alloc (.cells #[.int .i64 q.ox, .int .i64 q.oy, .int .i64 q.oz, .int .i64 q.rows, .int .i64 q.cols, .int .i64 q.sp] 25)).heap.size 23 i0 _ 3 24 Try.underlying29 hi0 hz0 hz1 hz2 rfl (by omega) u3 (r * C + c) (flat (r * C + c) 3 fun i => vcell (q.spot i)) rfl (by repeat (first | (with_reducible exact HO.out) | (with_reducible exact own_drawn HO.out _) | (with_reducible refine World.ownsRow.alloc ?_ _) | (with_reducible refine own_xt ?_ _))) _ 1 _ [.int .i64 ((q.pt r c).x), .int .i64 ((q.pt r c).y), .int .i64 ((q.pt r c).z)] rfl rfl ?_ ?_ ?_ ?_ ?_ ?_))
            | (refine wp_region_xt (by kernel_rfl) (by kernel_rfl) ?_; (repeat (go_big_quiet_step (first | (go_at_call 34; exact RetB.quiet (refspot_any q _ _ _ HF.out))))); refine wpQuiet_nil ?_; intro g))
          · exact news3 _ _ _ _ (by simp)
          · exact one3 _
          · simp only [maxLen]; omega
          · omega
          · simp; omega
          intro v1 w1 hown1 hgr1 _
          have hb1 : Below (w.alloc (.cells #[.int .i64 q.ox, .int .i64 q.oy, .int .i64 q.oz, .int .i64 q.rows, .int .i64 q.cols, .int .i64 q.sp] 25)).heap.size (w.alloc (.cells #[.int .i64 q.ox, .int .i64 q.oy, .int .i64 q.oz, .int .i64 q.rows, .int .i64 q.cols, .int .i64 q.sp] 25)) w1 := below_grown (n := r * C + c) (v := u3) (xs := flat (r * C + c) 3 fun i => vcell (q.spot i)) (e := 23) (s := 3) (by repeat' (first | exact Below.refl _ _ | assumption | refine Below.xt ?_ ?_ _ | refine Below.alloc ?_ ?_ _ | refine Below.drew ?_ | refine Below.setCell ?_ ?_ _ | (simp; done) | (simp; omega))) (by simp; omega) (by repeat (first | (with_reducible exact HO.out) | (with_reducible exact own_drawn HO.out _) | (with_reducible refine World.ownsRow.alloc ?_ _) | (with_reducible refine own_xt ?_ _))) hgr1
          obtain ⟨g9, rfl⟩ := xt_of_below hb1
          have HO1 := Lib.hid (show (xt (w.alloc (.cells #[.int .i64 q.ox, .int .i64 q.oy, .int .i64 q.oz, .int .i64 q.rows, .int .i64 q.cols, .int .i64 q.sp] 25)) g9).ownsRow (w.alloc (.cells #[.int .i64 q.ox, .int .i64 q.oy, .int .i64 q.oz, .int .i64 q.rows, .int .i64 q.cols, .int .i64 q.sp] 25)).heap.size 23 3 v1 (r * C + (c + 1)) (flat (r * C + (c + 1)) 3 fun i => vcell (q.spot i)) by rw [← Nat.add_assoc, flat_succ (by omega), HQ.out]; simp only [World.size_alloc]; exact hown1)
          clear hown1 hgr1 hb1 HO
          go_wp2_with fail
          go_roundw
          case rel => exact ⟨c + 1, g9, by omega, by go_num, rfl, HO1⟩
          case measure => simp [intOf]; omega
        · have e1 : c = C := by omega
          subst e1
          go_wp2_with fail
          go_roundw
          case rel => exact ⟨r + 1, g, by omega, by go_num, rfl, by rw [Nat.add_mul, Nat.one_mul]; exact HO⟩
          case measure => simp [intOf]; omega
    · have e1 : r = R := by omega
      subst e1
      go_wp2_with fail
      obtain ⟨A', c', rfl, hrow⟩ := Row.of_own HO.out rfl
      go_ret
      have e := HN.out
      rw [← e] at hrow ⊢
      exact ⟨_, _, by rw [spots_len]; rfl, (by repeat' (first | exact Below.refl _ _ | assumption | refine Below.xt ?_ ?_ _ | refine Below.alloc ?_ ?_ _ | refine Below.drew ?_ | refine Below.setCell ?_ ?_ _ | (simp; done) | (simp; omega))), by unfold RowV; rw [spots_len]; exact hrow.congr fun i j hi hj => by rw [spots_at hi]⟩

end Go.Proofs.Ytoaakjkflcjkhaa

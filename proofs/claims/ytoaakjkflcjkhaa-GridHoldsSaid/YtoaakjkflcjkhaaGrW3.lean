/- Walks of grids, by the program: all spots. Conditions stand in each theorem. -/
import Derived.Test.YtoaakjkflcjkhaaGrW2
namespace Go.Proofs.Ytoaakjkflcjkhaa
open Go.RowKit
set_option linter.unusedVariables false

def spots (q : Gd) : List V3 := (List.range q.n).map fun i : Nat => q.spot (i : Int)
theorem spots_len (q : Gd) : (spots q).length = q.n := by simp [spots]
theorem spots_at {q : Gd} {i : Nat} (h : i < q.n) : at_ (spots q) i = q.spot i := by simp [at_, spots, List.getD, h]

set_option maxHeartbeats 400000 in
theorem Spots_bad (q : Gd) (w : World) (h : gval q = false) : Calls Try.prog 9 #[.agg #[.int .i64 q.ox, .int .i64 q.oy, .int .i64 q.oz, .int .i64 q.rows, .int .i64 q.cols, .int .i64 q.sp]] w (RetB (.tuple #[.slice none 0 0, .int .i64 2]) w) := by
  go_enter Try.func9, Try.ntmps9
  go_wp2_with (first
    | (go_at_call 13; refine (RetB.grown (gvalid_any q _)).mono ?_; rintro e' w' ⟨rfl, g, rfl⟩)
    | (refine wp_region_xt (by kernel_rfl) (by kernel_rfl) ?_; (repeat (go_big_quiet_step (first | (go_at_call 13; exact RetB.quiet (gvalid_any q _))))); refine wpQuiet_nil ?_; intro g))
  go_ret2
  exact RetB.of rfl (by repeat' (first | exact Below.refl _ _ | assumption | refine Below.xt ?_ ?_ _ | refine Below.alloc ?_ ?_ _ | refine Below.drew ?_ | refine Below.setCell ?_ ?_ _ | (simp; done) | (simp; omega)))

theorem news3 (w : World) (v : V3) (t : TypeId) (m : Nat) (hm : m = w.heap.size) : ∀ j u, [Value.int .i64 v.x, .int .i64 v.y, .int .i64 v.z][j]? = some u → (w.alloc (.cells #[.int .i64 v.x, .int .i64 v.y, .int .i64 v.z] t)).cell? ((⟨m, 0, none⟩ : Addr).add j) = some u := cells_new w _ t m hm
theorem one3 (v : V3) : ∀ u ∈ [Value.int .i64 v.x, .int .i64 v.y, .int .i64 v.z], u.oneCell' = true := by
  intro u hu; simp only [List.mem_cons, List.not_mem_nil, or_false] at hu; rcases hu with rfl | rfl | rfl <;> rfl

set_option maxRecDepth 100000 in
set_option maxHeartbeats 1600000 in
theorem Spots_ok (q : Gd) (w : World) (h : gval q = true) : Calls Try.prog 9 #[.agg #[.int .i64 q.ox, .int .i64 q.oy, .int .i64 q.oz, .int .i64 q.rows, .int .i64 q.cols, .int .i64 q.sp]] w (RetVecs (spots q) 0 w) := by
  obtain ⟨ho, hd, _⟩ := gval_iff.1 h
  obtain ⟨en, n1, n2⟩ := g_n hd
  have e1 : (q.n : Int) ≤ q.rows * q.cols := by omega
  have e2 : q.rows * q.cols ≤ (q.n : Int) := by omega
  have L := fun (k : Nat) (hk : k < q.n) => Lib.hid (show Fits q ((k : Int) / q.cols) ((k : Int) % q.cols) by
    obtain ⟨q0, q1, r0, r1⟩ := g_rc hd (i := k) (by omega) (by omega)
    exact fits_of ho hd (by omega) (by have := hd.2.1; omega) (by omega) (by have := hd.2.2.2.1; omega))
  have HD := Lib.hid hd
  clear hd en ho
  obtain ⟨i0, hi0, hz0, hz1, hz2⟩ := info_parts infoVec
  generalize hn : q.n = n at *
  have HN := Lib.hid hn
  clear hn
  go_enter Try.func9, Try.ntmps9
  go_wp2_with (first
    | (go_at_call 13; refine (RetB.grown (gvalid_any q _)).mono ?_; rintro e' w' ⟨rfl, g, rfl⟩)
    | (refine wp_region_xt (by kernel_rfl) (by kernel_rfl) ?_; (repeat (go_big_quiet_step (first | (go_at_call 13; exact RetB.quiet (gvalid_any q _))))); refine wpQuiet_nil ?_; intro g))
  go_loopw [4, 14] (fun s i wr => ∃ (k : Nat) (g : Gr), k ≤ n ∧ i = .int .i64 k ∧ wr = xt (w.alloc (.cells #[.int .i64 q.ox, .int .i64 q.oy, .int .i64 q.oz, .int .i64 q.rows, .int .i64 q.cols, .int .i64 q.sp] 25)) g ∧ Hid ((xt (w.alloc (.cells #[.int .i64 q.ox, .int .i64 q.oy, .int .i64 q.oz, .int .i64 q.rows, .int .i64 q.cols, .int .i64 q.sp] 25)) g).ownsRow (w.alloc (.cells #[.int .i64 q.ox, .int .i64 q.oy, .int .i64 q.oz, .int .i64 q.rows, .int .i64 q.cols, .int .i64 q.sp] 25)).heap.size 23 3 s k (flat k 3 fun i => vcell (q.spot i)))) (fun _ i _ => n - (intOf i).toNat)
  case atStart => exact ⟨0, _, by omega, rfl, rfl, own_nil⟩
  case round =>
    obtain ⟨k, g, hk, rfl, rfl, HO⟩ := hrel
    by_cases hlt : k < n
    · have HF := L k hlt
      clear L
      go_wp2_with (first
        | (go_at_call 30; refine (RetB.grown (at_any q k _ HD.out (by omega) (by omega))).mono ?_; rintro e' w' ⟨rfl, g, rfl⟩)
        | (go_at_call 31; refine (RetB.grown (vec_any q _ _ _ HF.out)).mono ?_; rintro e' w' ⟨rfl, g, rfl⟩)
        | (at_builtin; go_must (refine wpList_append_own _ rfl _ _ 29 rfl (w.alloc (.cells #[.int .i64 q.ox, .int .i64 q.oy, .int .i64 q.oz, .int .i64 q.rows, .int .i64 q.cols, .int .i64 q.sp] 25)).heap.size 23 i0 _ 3 24 Try.underlying29 hi0 hz0 hz1 hz2 rfl (by omega) u4 k (flat k 3 fun i => vcell (q.spot i)) rfl (by repeat (first | (with_reducible exact HO.out) | (with_reducible exact own_drawn HO.out _) | (with_reducible refine World.ownsRow.alloc ?_ _) | (with_reducible refine own_xt ?_ _))) _ 1 _ [.int .i64 ((q.spot k).x), .int .i64 ((q.spot k).y), .int .i64 ((q.spot k).z)] rfl rfl ?_ ?_ ?_ ?_ ?_ ?_))
        | (refine wp_region_xt (by kernel_rfl) (by kernel_rfl) ?_; (repeat (go_big_quiet_step (first | (go_at_call 30; exact RetB.quiet (at_any q k _ HD.out (by omega) (by omega))) | (go_at_call 31; exact RetB.quiet (vec_any q _ _ _ HF.out))))); refine wpQuiet_nil ?_; intro g))
      · exact news3 _ _ _ _ (by simp)
      · exact one3 _
      · simp only [maxLen]; omega
      · omega
      · simp; omega
      intro v1 w1 hown1 hgr1 _
      have hb1 : Below (w.alloc (.cells #[.int .i64 q.ox, .int .i64 q.oy, .int .i64 q.oz, .int .i64 q.rows, .int .i64 q.cols, .int .i64 q.sp] 25)).heap.size (w.alloc (.cells #[.int .i64 q.ox, .int .i64 q.oy, .int .i64 q.oz, .int .i64 q.rows, .int .i64 q.cols, .int .i64 q.sp] 25)) w1 := below_grown (n := k) (v := u4) (xs := flat k 3 fun i => vcell (q.spot i)) (e := 23) (s := 3) (by repeat' (first | exact Below.refl _ _ | assumption | refine Below.xt ?_ ?_ _ | refine Below.alloc ?_ ?_ _ | refine Below.drew ?_ | refine Below.setCell ?_ ?_ _ | (simp; done) | (simp; omega))) (by simp; omega) (by repeat (first | (with_reducible exact HO.out) | (with_reducible exact own_drawn HO.out _) | (with_reducible refine World.ownsRow.alloc ?_ _) | (with_reducible refine own_xt ?_ _))) hgr1
      obtain ⟨g9, rfl⟩ := xt_of_below hb1
      have HO1 := Lib.hid (show (xt (w.alloc (.cells #[.int .i64 q.ox, .int .i64 q.oy, .int .i64 q.oz, .int .i64 q.rows, .int .i64 q.cols, .int .i64 q.sp] 25)) g9).ownsRow (w.alloc (.cells #[.int .i64 q.ox, .int .i64 q.oy, .int .i64 q.oz, .int .i64 q.rows, .int .i64 q.cols, .int .i64 q.sp] 25)).heap.size 23 3 v1 (k + 1) (flat (k + 1) 3 fun i => vcell (q.spot i)) by rw [flat_succ (by omega)]; simp only [World.size_alloc]; exact hown1)
      clear hown1 hgr1 hb1 HO
      go_wp2_with fail
      go_roundw
      case rel => exact ⟨k + 1, g9, by omega, by go_num, rfl, HO1⟩
      case measure => simp [intOf]; omega
    · have e1 : k = n := by omega
      subst e1
      go_wp2_with fail
      obtain ⟨A', c', rfl, hrow⟩ := Row.of_own HO.out rfl
      go_ret2
      have e := HN.out
      subst e
      exact ⟨_, _, by rw [spots_len]; rfl, (by repeat' (first | exact Below.refl _ _ | assumption | refine Below.xt ?_ ?_ _ | refine Below.alloc ?_ ?_ _ | refine Below.drew ?_ | refine Below.setCell ?_ ?_ _ | (simp; done) | (simp; omega))), by unfold RowV; rw [spots_len]; exact hrow.congr fun i j hi hj => by rw [spots_at hi]⟩

end Go.Proofs.Ytoaakjkflcjkhaa

/- Walks of grids, by the program: the nearest spot of a point, the neighbours of a spot. Conditions stand in each theorem. -/
import Derived.Test.YtoaakjkflcjkhaaGrW4
import Derived.Deep.RegionHeld3
namespace Go.Proofs.Ytoaakjkflcjkhaa
open Go.RowKit
set_option linter.unusedVariables false

theorem spots_pnt {q : Gd} (h : gval q = true) {i : Nat} (hi : i < q.n) : pnt (at_ (spots q) i) = true := by
  rw [spots_at hi]
  have := g_n (gval_iff.1 h).2.1
  exact g_spot h (by omega) (by omega)

set_option maxHeartbeats 400000 in
theorem Near_bad (q : Gd) (v : V3) (w : World) (h : gval q = false) : Calls Try.prog 21 #[.agg #[.int .i64 q.ox, .int .i64 q.oy, .int .i64 q.oz, .int .i64 q.rows, .int .i64 q.cols, .int .i64 q.sp], .agg #[.int .i64 v.x, .int .i64 v.y, .int .i64 v.z]] w (RetB (.tuple #[.int .i64 0, .int .i64 2]) w) := by
  go_enter Try.func21, Try.ntmps21
  go_wp2_with (first
    | (go_at_call 9; refine (RetB.grown (Spots_bad q _ h)).mono ?_; rintro e' w' ⟨rfl, g, rfl⟩)
    | (refine wp_region_xt (by kernel_rfl) (by kernel_rfl) ?_; (repeat (go_big_quiet_step (first | (go_at_call 9; exact RetB.quiet (Spots_bad q _ h))))); refine wpQuiet_nil ?_; intro g))
  go_ret2
  exact RetB.of rfl (by repeat' (first | exact Below.refl _ _ | assumption | refine Below.xt ?_ ?_ _ | refine Below.alloc ?_ ?_ _ | refine Below.drew ?_ | refine Below.setCell ?_ ?_ _ | (simp; done) | (simp; omega)))
set_option maxHeartbeats 400000 in
theorem Near_far (q : Gd) (v : V3) (w : World) (h : gval q = true) (hv : pnt v = false) : Calls Try.prog 21 #[.agg #[.int .i64 q.ox, .int .i64 q.oy, .int .i64 q.oz, .int .i64 q.rows, .int .i64 q.cols, .int .i64 q.sp], .agg #[.int .i64 v.x, .int .i64 v.y, .int .i64 v.z]] w (RetB (.tuple #[.int .i64 0, .int .i64 2]) w) := by
  have hv' : ins 1048576 v.x v.y v.z = false := hv
  clear hv
  have HH := Lib.hid h
  clear h
  go_enter Try.func21, Try.ntmps21
  go_wp2_with fail
  refine (Spots_ok q _ HH.out).mono ?_
  rintro e w' ⟨A, c, rfl, hb, hrow⟩
  obtain ⟨g, rfl⟩ := xt_of_below hb
  clear hb hrow
  go_wp2_with (first
    | (go_at_call 33; refine (RetB.grown (point_any _ _ _ _)).mono ?_; rintro e' w' ⟨rfl, g, rfl⟩)
    | (refine wp_region_xt (by kernel_rfl) (by kernel_rfl) ?_; (repeat (go_big_quiet_step (first | (go_at_call 33; exact RetB.quiet (point_any _ _ _ _))))); refine wpQuiet_nil ?_; intro g))
  go_ret2
  exact RetB.of rfl (by repeat' (first | exact Below.refl _ _ | assumption | refine Below.xt ?_ ?_ _ | refine Below.alloc ?_ ?_ _ | refine Below.drew ?_ | refine Below.setCell ?_ ?_ _ | (simp; done) | (simp; omega)))
set_option maxHeartbeats 400000 in
theorem Near_ok (q : Gd) (v : V3) (w : World) (h : gval q = true) (hv : pnt v = true) : Calls Try.prog 21 #[.agg #[.int .i64 q.ox, .int .i64 q.oy, .int .i64 q.oz, .int .i64 q.rows, .int .i64 q.cols, .int .i64 q.sp], .agg #[.int .i64 v.x, .int .i64 v.y, .int .i64 v.z]] w (RetB (.tuple #[.int .i64 (nb (dist (spots q) v) (fun _ => false) (spots q).length), .int .i64 0]) w) := by
  have hv' : ins 1048576 v.x v.y v.z = true := hv
  have HV := Lib.hid hv
  have HH := Lib.hid h
  have hm : (spots q).length ≤ 4294967296 := by rw [spots_len]; have := g_n (gval_iff.1 h).2.1; omega
  have HP := Lib.hid (show ∀ i, i < (spots q).length → pnt (at_ (spots q) i) = true from fun i hi => spots_pnt h (by rwa [spots_len] at hi))
  clear h hv
  go_enter Try.func21, Try.ntmps21
  go_wp2_with fail
  refine (Spots_ok q _ HH.out).mono ?_
  rintro e w' ⟨A, c, rfl, hb, hrow⟩
  obtain ⟨g, rfl⟩ := xt_of_below hb
  have HR := Lib.hid hrow
  clear hb hrow
  go_wp2_with (first
    | (go_at_call 33; refine (RetB.grown (point_any _ _ _ _)).mono ?_; rintro e' w' ⟨rfl, g, rfl⟩)
    | (go_at_call 38; refine (RetB.grown (nearest_any (spots q) A _ c _ _ v _ rfl hm (by repeat (first | exact HR.out | refine Row.xt ?_ _ | refine Row.alloc ?_ _ | refine Row.drew ?_)) HP.out HV.out (looks_nil _))).mono ?_; rintro e' w' ⟨rfl, g, rfl⟩)
    | (refine wp_region_xt (by kernel_rfl) (by kernel_rfl) ?_; (repeat (go_big_quiet_step (first | (go_at_call 33; exact RetB.quiet (point_any _ _ _ _)) | (go_at_call 38; exact RetB.quiet (nearest_any (spots q) A _ c _ _ v _ rfl hm (by repeat (first | exact HR.out | refine Row.xt ?_ _ | refine Row.alloc ?_ _ | refine Row.drew ?_)) HP.out HV.out (looks_nil _)))))); refine wpQuiet_nil ?_; intro g))
  go_ret2
  exact RetB.of rfl (by repeat' (first | exact Below.refl _ _ | assumption | refine Below.xt ?_ ?_ _ | refine Below.alloc ?_ ?_ _ | refine Below.drew ?_ | refine Below.setCell ?_ ?_ _ | (simp; done) | (simp; omega)))

/-! ### Neighbours -/
set_option maxHeartbeats 400000 in
theorem Neigh_bad (q : Gd) (i : Int) (w : World) (d : Int) (hd : d = 2 ∨ d = 3) (h : ixE q i = d) : Calls Try.prog 18 #[.agg #[.int .i64 q.ox, .int .i64 q.oy, .int .i64 q.oz, .int .i64 q.rows, .int .i64 q.cols, .int .i64 q.sp], .int .i64 i] w (RetB (.tuple #[.slice none 0 0, .int .i64 d]) w) := by
  have c := fun w => check_any q i w
  rw [h] at c
  have C := fun w => Lib.hid (c w)
  clear c h
  rcases hd with rfl | rfl
  all_goals
    go_enter Try.func18, Try.ntmps18
    go_wp2_with (first
      | (go_at_call 29; refine (RetB.grown ((C _).out)).mono ?_; rintro e' w' ⟨rfl, g, rfl⟩)
      | (refine wp_region_xt (by kernel_rfl) (by kernel_rfl) ?_; (repeat (go_big_quiet_step (first | (go_at_call 29; exact RetB.quiet ((C _).out))))); refine wpQuiet_nil ?_; intro g))
    go_ret2
    exact RetB.of rfl (by repeat' (first | exact Below.refl _ _ | assumption | refine Below.xt ?_ ?_ _ | refine Below.alloc ?_ ?_ _ | refine Below.drew ?_ | refine Below.setCell ?_ ?_ _ | (simp; done) | (simp; omega)))

def wayR (k : Nat) : Int := if k = 0 then -1 else if k = 3 then 1 else 0
def wayC (k : Nat) : Int := if k = 1 then -1 else if k = 2 then 1 else 0
def inside (q : Gd) (r c : Int) : Prop := 0 ≤ r ∧ r < q.rows ∧ 0 ≤ c ∧ c < q.cols
instance (q : Gd) (r c : Int) : Decidable (inside q r c) := by unfold inside; infer_instance
def item (q : Gd) (i : Int) (k : Nat) : List Int := one (inside q (i / q.cols + wayR k) (i % q.cols + wayC k)) ((i / q.cols + wayR k) * q.cols + (i % q.cols + wayC k))
def nbs (q : Gd) (i : Int) : Nat → List Int
  | 0 => []
  | k + 1 => nbs q i k ++ item q i k
theorem nbs_len (q : Gd) (i : Int) : ∀ k, (nbs q i k).length ≤ k
  | 0 => Nat.le_refl 0
  | k + 1 => by
    have := nbs_len q i k
    have h : (item q i k).length ≤ 1 := by unfold item one; split <;> simp
    simp only [nbs, List.length_append]; omega
theorem one_congr {a b : Prop} [Decidable a] [Decidable b] {m n : Int} (h : a ↔ b) (e : m = n) : one a m = one b n := by
  subst e
  by_cases ha : a
  · have hb := h.1 ha; simp [one, ha, hb]
  · have hb : ¬ b := fun x => ha (h.2 x); simp [one, ha, hb]
theorem nbs_eq {q : Gd} (hd : q.dims) {i : Int} (h0 : 0 ≤ i) (hn : i < q.rows * q.cols) : nbs q i 4 = neigh q i := by
  obtain ⟨q0, q1, r0, r1⟩ := g_rc hd h0 hn
  have e := Int.mul_ediv_add_emod i q.cols
  rw [Int.mul_comm] at e
  show (((([] : List Int) ++ item q i 0) ++ item q i 1) ++ item q i 2) ++ item q i 3 = _
  rw [List.nil_append]
  unfold neigh
  have e0 : item q i 0 = one (0 < i / q.cols) (i - q.cols) := one_congr (by simp only [inside, wayR, wayC]; simp; omega) (by simp only [wayR, wayC]; simp; rw [Int.add_mul]; omega)
  have e1 : item q i 1 = one (0 < i % q.cols) (i - 1) := one_congr (by simp only [inside, wayR, wayC]; simp; omega) (by simp only [wayR, wayC]; simp; omega)
  have e2 : item q i 2 = one (i % q.cols + 1 < q.cols) (i + 1) := one_congr (by simp only [inside, wayR, wayC]; simp; omega) (by simp only [wayR, wayC]; simp; omega)
  have e3 : item q i 3 = one (i / q.cols + 1 < q.rows) (i + q.cols) := one_congr (by simp only [inside, wayR, wayC]; simp; omega) (by simp only [wayR, wayC]; simp; rw [Int.add_mul]; omega)
  rw [e0, e1, e2, e3]

attribute [local go_sem ↓] ld6 ld8
set_option maxRecDepth 100000 in
set_option maxHeartbeats 3200000 in
theorem Neigh_ok (q : Gd) (i : Int) (w : World) (h : gval q = true) (h0 : 0 ≤ i) (hn : i < q.rows * q.cols) : Calls Try.prog 18 #[.agg #[.int .i64 q.ox, .int .i64 q.oy, .int .i64 q.oz, .int .i64 q.rows, .int .i64 q.cols, .int .i64 q.sp], .int .i64 i] w (RetInts (neigh q i) 0 w) := by
  obtain ⟨ho, hd, _⟩ := gval_iff.1 h
  rw [← nbs_eq hd h0 hn]
  obtain ⟨q0, q1, r0, r1⟩ := g_rc hd h0 hn
  have en := g_n hd
  have i1 : i ≤ 1073741824 := by omega
  have C1 := fun w => Lib.hid (check_ok q i w h h0 hn)
  have C2 := fun w => Lib.hid (at_any q i w hd h0 i1)
  obtain ⟨d1, d2, d3, d4, d5, s1, s2⟩ := hd
  clear h ho hn en i1 h0
  have HL := Lib.hid (nbs_len q i)
  have HN := fun k => Lib.hid (show nbs q i (k + 1) = nbs q i k ++ item q i k from rfl)
  have HI := fun k => Lib.hid (show item q i k = one (inside q (i / q.cols + wayR k) (i % q.cols + wayC k)) ((i / q.cols + wayR k) * q.cols + (i % q.cols + wayC k)) from rfl)
  obtain ⟨r, hr⟩ : ∃ r, i / q.cols = r := ⟨_, rfl⟩
  obtain ⟨c, hc⟩ : ∃ c, i % q.cols = c := ⟨_, rfl⟩
  rw [hr] at q0 q1 C2 HI
  rw [hc] at r0 r1 C2 HI
  clear hr hc
  obtain ⟨i0, hi0, hz0, hz1, hz2⟩ := info_parts infoInt
  have ix0 : ∀ w, (Instr.index 71 (.agg #[.int .i64 (-1), .int .i64 0, .int .i64 0, .int .i64 (-1), .int .i64 0, .int .i64 1, .int .i64 1, .int .i64 0]) (.int .i64 0)).run Try.prog w = .ok (.agg #[.int .i64 (-1), .int .i64 0]) w := fun _ => by kernel_rfl
  have ix1 : ∀ w, (Instr.index 71 (.agg #[.int .i64 (-1), .int .i64 0, .int .i64 0, .int .i64 (-1), .int .i64 0, .int .i64 1, .int .i64 1, .int .i64 0]) (.int .i64 1)).run Try.prog w = .ok (.agg #[.int .i64 0, .int .i64 (-1)]) w := fun _ => by kernel_rfl
  have ix2 : ∀ w, (Instr.index 71 (.agg #[.int .i64 (-1), .int .i64 0, .int .i64 0, .int .i64 (-1), .int .i64 0, .int .i64 1, .int .i64 1, .int .i64 0]) (.int .i64 2)).run Try.prog w = .ok (.agg #[.int .i64 0, .int .i64 1]) w := fun _ => by kernel_rfl
  have ix3 : ∀ w, (Instr.index 71 (.agg #[.int .i64 (-1), .int .i64 0, .int .i64 0, .int .i64 (-1), .int .i64 0, .int .i64 1, .int .i64 1, .int .i64 0]) (.int .i64 3)).run Try.prog w = .ok (.agg #[.int .i64 1, .int .i64 0]) w := fun _ => by kernel_rfl
  go_enter Try.func18, Try.ntmps18
  go_wp2_with (first
    | (go_at_call 29; refine (RetB.grown ((C1 _).out)).mono ?_; rintro e' w' ⟨rfl, g, rfl⟩)
    | (refine wp_region_xt (by kernel_rfl) (by kernel_rfl) ?_; (repeat (go_big_quiet_step (first | (go_at_call 29; exact RetB.quiet ((C1 _).out))))); refine wpQuiet_nil ?_; intro g))
  go_loopw [7, 23] (fun s i' wr => ∃ (k : Nat) (g : Gr), k ≤ 4 ∧ i' = .int .i64 k ∧ wr = xt (w.alloc (.cells #[.int .i64 q.ox, .int .i64 q.oy, .int .i64 q.oz, .int .i64 q.rows, .int .i64 q.cols, .int .i64 q.sp] 25)) g ∧ Hid ((xt (w.alloc (.cells #[.int .i64 q.ox, .int .i64 q.oy, .int .i64 q.oz, .int .i64 q.rows, .int .i64 q.cols, .int .i64 q.sp] 25)) g).ownsRow (w.alloc (.cells #[.int .i64 q.ox, .int .i64 q.oy, .int .i64 q.oz, .int .i64 q.rows, .int .i64 q.cols, .int .i64 q.sp] 25)).heap.size 3 1 s (nbs q i k).length ((nbs q i k).map (Value.int .i64)))) (fun _ i' _ => 4 - (intOf i').toNat)
  case atStart => exact ⟨0, _, by omega, rfl, rfl, own_nil⟩
  case round =>
    obtain ⟨k, g, hk, rfl, rfl, HO⟩ := hrel
    by_cases hlt : k < 4
    · rcases (show k = 0 ∨ k = 1 ∨ k = 2 ∨ k = 3 by omega) with rfl | rfl | rfl | rfl
      · have HNk := HN 0
        have HIk := HI 0
        have HLk := Lib.hid (HL.out 0)
        clear HN HI HL C1
        have e1 : wayR 0 = -1 := by simp [wayR]
        have e2 : wayC 0 = 0 := by simp [wayC]
        rw [e1, e2] at HIk
        clear e1 e2
        have C3 := fun w => moved_any q r c (-1) (0) w (by omega) (by omega) (by omega) (by omega) (by omega) (by omega) (by omega) (by omega)
        obtain ⟨r', hr'⟩ : ∃ r', r + (-1) = r' := ⟨_, rfl⟩
        obtain ⟨c', hc'⟩ : ∃ c', c + (0) = c' := ⟨_, rfl⟩
        rw [hr', hc'] at C3 HIk
        have a1 : -1 ≤ r' ∧ r' ≤ 256 := by omega
        have a2 : -1 ≤ c' ∧ c' ≤ 256 := by omega
        obtain ⟨a1, a1'⟩ := a1
        obtain ⟨a2, a2'⟩ := a2
        clear hr' hc'
        by_cases hin : inside q r' c'
        · have ei : nbs q i (0 + 1) = nbs q i 0 ++ [r' * q.cols + c'] := by rw [HNk.out, HIk.out, one, if_pos hin]
          have hin' := hin
          unfold inside at hin'
          rw [decide_eq_true hin'] at C3
          have hb : 0 ≤ r' * q.cols ∧ r' * q.cols ≤ 65536 := by
            have h1 := Int.mul_nonneg hin.1 (show 0 ≤ q.cols by omega)
            have h2 := Int.mul_le_mul (show r' ≤ 256 by omega) d4 (by omega) (by omega)
            omega
          obtain ⟨b1, b2⟩ := hb
          have C3' := fun w => Lib.hid (C3 w)
          have C4 := fun w => Lib.hid (index_any q r' c' w (by omega) (by omega) (by omega) (by omega))
          have HE := Lib.hid ei
          clear C3 hin hin' ei HNk HIk
          go_wp2_with fail
          go_region_held3 (fun w' => blk w' w.heap.size = some (.cells #[.int .i64 q.ox, .int .i64 q.oy, .int .i64 q.oz, .int .i64 q.rows, .int .i64 q.cols, .int .i64 q.sp] 25 (0, 0)) ∧ old w.heap.size w' ∧ old (w.heap.size + 1 + g.blocks.length) w' ∧ w'.cell? ⟨w.heap.size + 1 + g.blocks.length, 0, none⟩ = some (.int .i64 (-1)) ∧ w'.cell? ⟨w.heap.size + 1 + g.blocks.length, 1, none⟩ = some (.int .i64 (0))) (go_simp) (first | (go_at_call 30; refine (RetB.grown (C2 _).out).mono ?_; rintro e' w' ⟨rfl, g, rfl⟩) | (go_at_call 37; refine (RetB.grown (C3' _).out).mono ?_; rintro e' w' ⟨rfl, g, rfl⟩))
          all_goals go_wp2_with (first | (go_at_call 32; refine (RetB.grown (C4 _).out).mono ?_; rintro e' w' ⟨rfl, g, rfl⟩) | (at_builtin; go_must (refine wpList_append_own _ rfl _ _ 43 rfl (w.alloc (.cells #[.int .i64 q.ox, .int .i64 q.oy, .int .i64 q.oz, .int .i64 q.rows, .int .i64 q.cols, .int .i64 q.sp] 25)).heap.size 3 i0 _ 1 8 Try.underlying43 hi0 hz0 hz1 hz2 rfl (by omega) u7 (nbs q i 0).length ((nbs q i 0).map (Value.int .i64)) rfl (by repeat (first | (with_reducible exact HO.out) | (with_reducible exact own_drawn HO.out _) | (with_reducible refine World.ownsRow.alloc ?_ _) | (with_reducible refine own_xt ?_ _))) _ 1 _ [.int .i64 (r' * q.cols + c')] rfl rfl ?_ ?_ ?_ ?_ ?_ ?_)))
          all_goals first
            | exact cells_new _ _ _ _ (by simp)
            | (intro u hu; simp only [List.mem_cons, List.not_mem_nil, or_false] at hu; rcases hu with rfl; rfl)
            | (have := HLk.out; simp only [maxLen]; omega)
            | (have := HLk.out; omega)
            | (simp; omega)
            | skip
          all_goals
            intro v1 w1 hown1 hgr1 _
            have hb1 : Below (w.alloc (.cells #[.int .i64 q.ox, .int .i64 q.oy, .int .i64 q.oz, .int .i64 q.rows, .int .i64 q.cols, .int .i64 q.sp] 25)).heap.size (w.alloc (.cells #[.int .i64 q.ox, .int .i64 q.oy, .int .i64 q.oz, .int .i64 q.rows, .int .i64 q.cols, .int .i64 q.sp] 25)) w1 := below_grown (n := (nbs q i 0).length) (v := u7) (xs := (nbs q i 0).map (Value.int .i64)) (e := 3) (s := 1) (by repeat' (first | exact Below.refl _ _ | assumption | refine Below.xt ?_ ?_ _ | refine Below.alloc ?_ ?_ _ | refine Below.drew ?_ | refine Below.setCell ?_ ?_ _ | (simp; done) | (simp; omega))) (by simp; omega) (by repeat (first | (with_reducible exact HO.out) | (with_reducible exact own_drawn HO.out _) | (with_reducible refine World.ownsRow.alloc ?_ _) | (with_reducible refine own_xt ?_ _))) hgr1
            obtain ⟨g9, rfl⟩ := xt_of_below hb1
            have HO1 := Lib.hid (show (xt (w.alloc (.cells #[.int .i64 q.ox, .int .i64 q.oy, .int .i64 q.oz, .int .i64 q.rows, .int .i64 q.cols, .int .i64 q.sp] 25)) g9).ownsRow (w.alloc (.cells #[.int .i64 q.ox, .int .i64 q.oy, .int .i64 q.oz, .int .i64 q.rows, .int .i64 q.cols, .int .i64 q.sp] 25)).heap.size 3 1 v1 (nbs q i (0 + 1)).length ((nbs q i (0 + 1)).map (Value.int .i64)) by rw [HE.out, List.map_append, List.length_append]; simp only [World.size_alloc]; exact hown1)
            clear hown1 hgr1 hb1 HO
            go_wp2_with fail
            go_roundw
            case rel => exact ⟨0 + 1, g9, by omega, by go_num, rfl, HO1⟩
            case measure => simp [intOf]
        · have ei : nbs q i (0 + 1) = nbs q i 0 := by rw [HNk.out, HIk.out, one, if_neg hin, List.append_nil]
          have hin' := hin
          unfold inside at hin'
          rw [decide_eq_false hin'] at C3
          have C3' := fun w => Lib.hid (C3 w)
          have HE := Lib.hid ei
          clear C3 hin hin' ei HNk HIk
          go_wp2_with fail
          go_region_held3 (fun w' => blk w' w.heap.size = some (.cells #[.int .i64 q.ox, .int .i64 q.oy, .int .i64 q.oz, .int .i64 q.rows, .int .i64 q.cols, .int .i64 q.sp] 25 (0, 0)) ∧ old w.heap.size w' ∧ old (w.heap.size + 1 + g.blocks.length) w' ∧ w'.cell? ⟨w.heap.size + 1 + g.blocks.length, 0, none⟩ = some (.int .i64 (-1)) ∧ w'.cell? ⟨w.heap.size + 1 + g.blocks.length, 1, none⟩ = some (.int .i64 (0))) (go_simp) (first | (go_at_call 30; refine (RetB.grown (C2 _).out).mono ?_; rintro e' w' ⟨rfl, g, rfl⟩) | (go_at_call 37; refine (RetB.grown (C3' _).out).mono ?_; rintro e' w' ⟨rfl, g, rfl⟩))
          all_goals
            go_wp2_with fail
            go_roundw
            case rel =>
              refine ⟨0 + 1, ?_⟩
              rw [HE.out]
              refine ⟨_, by omega, by go_num, (Classical.choose_spec (xt_of_below (by repeat' (first | exact Below.refl _ _ | assumption | refine Below.xt ?_ ?_ _ | refine Below.alloc ?_ ?_ _ | refine Below.drew ?_ | refine Below.setCell ?_ ?_ _ | (simp; done) | (simp; omega))))), ?_⟩
              rw [← Classical.choose_spec (xt_of_below (by repeat' (first | exact Below.refl _ _ | assumption | refine Below.xt ?_ ?_ _ | refine Below.alloc ?_ ?_ _ | refine Below.drew ?_ | refine Below.setCell ?_ ?_ _ | (simp; done) | (simp; omega))))]
              refine Lib.hid ?_
              exact (by repeat (first | (with_reducible exact HO.out) | (with_reducible exact own_drawn HO.out _) | (with_reducible refine World.ownsRow.alloc ?_ _) | (with_reducible refine own_xt ?_ _)))
            case measure => simp [intOf]
      · have HNk := HN 1
        have HIk := HI 1
        have HLk := Lib.hid (HL.out 1)
        clear HN HI HL C1
        have e1 : wayR 1 = 0 := by simp [wayR]
        have e2 : wayC 1 = -1 := by simp [wayC]
        rw [e1, e2] at HIk
        clear e1 e2
        have C3 := fun w => moved_any q r c (0) (-1) w (by omega) (by omega) (by omega) (by omega) (by omega) (by omega) (by omega) (by omega)
        obtain ⟨r', hr'⟩ : ∃ r', r + (0) = r' := ⟨_, rfl⟩
        obtain ⟨c', hc'⟩ : ∃ c', c + (-1) = c' := ⟨_, rfl⟩
        rw [hr', hc'] at C3 HIk
        have a1 : -1 ≤ r' ∧ r' ≤ 256 := by omega
        have a2 : -1 ≤ c' ∧ c' ≤ 256 := by omega
        obtain ⟨a1, a1'⟩ := a1
        obtain ⟨a2, a2'⟩ := a2
        clear hr' hc'
        by_cases hin : inside q r' c'
        · have ei : nbs q i (1 + 1) = nbs q i 1 ++ [r' * q.cols + c'] := by rw [HNk.out, HIk.out, one, if_pos hin]
          have hin' := hin
          unfold inside at hin'
          rw [decide_eq_true hin'] at C3
          have hb : 0 ≤ r' * q.cols ∧ r' * q.cols ≤ 65536 := by
            have h1 := Int.mul_nonneg hin.1 (show 0 ≤ q.cols by omega)
            have h2 := Int.mul_le_mul (show r' ≤ 256 by omega) d4 (by omega) (by omega)
            omega
          obtain ⟨b1, b2⟩ := hb
          have C3' := fun w => Lib.hid (C3 w)
          have C4 := fun w => Lib.hid (index_any q r' c' w (by omega) (by omega) (by omega) (by omega))
          have HE := Lib.hid ei
          clear C3 hin hin' ei HNk HIk
          go_wp2_with fail
          go_region_held3 (fun w' => blk w' w.heap.size = some (.cells #[.int .i64 q.ox, .int .i64 q.oy, .int .i64 q.oz, .int .i64 q.rows, .int .i64 q.cols, .int .i64 q.sp] 25 (0, 0)) ∧ old w.heap.size w' ∧ old (w.heap.size + 1 + g.blocks.length) w' ∧ w'.cell? ⟨w.heap.size + 1 + g.blocks.length, 0, none⟩ = some (.int .i64 (0)) ∧ w'.cell? ⟨w.heap.size + 1 + g.blocks.length, 1, none⟩ = some (.int .i64 (-1))) (go_simp) (first | (go_at_call 30; refine (RetB.grown (C2 _).out).mono ?_; rintro e' w' ⟨rfl, g, rfl⟩) | (go_at_call 37; refine (RetB.grown (C3' _).out).mono ?_; rintro e' w' ⟨rfl, g, rfl⟩))
          all_goals go_wp2_with (first | (go_at_call 32; refine (RetB.grown (C4 _).out).mono ?_; rintro e' w' ⟨rfl, g, rfl⟩) | (at_builtin; go_must (refine wpList_append_own _ rfl _ _ 43 rfl (w.alloc (.cells #[.int .i64 q.ox, .int .i64 q.oy, .int .i64 q.oz, .int .i64 q.rows, .int .i64 q.cols, .int .i64 q.sp] 25)).heap.size 3 i0 _ 1 8 Try.underlying43 hi0 hz0 hz1 hz2 rfl (by omega) u7 (nbs q i 1).length ((nbs q i 1).map (Value.int .i64)) rfl (by repeat (first | (with_reducible exact HO.out) | (with_reducible exact own_drawn HO.out _) | (with_reducible refine World.ownsRow.alloc ?_ _) | (with_reducible refine own_xt ?_ _))) _ 1 _ [.int .i64 (r' * q.cols + c')] rfl rfl ?_ ?_ ?_ ?_ ?_ ?_)))
          all_goals first
            | exact cells_new _ _ _ _ (by simp)
            | (intro u hu; simp only [List.mem_cons, List.not_mem_nil, or_false] at hu; rcases hu with rfl; rfl)
            | (have := HLk.out; simp only [maxLen]; omega)
            | (have := HLk.out; omega)
            | (simp; omega)
            | skip
          all_goals
            intro v1 w1 hown1 hgr1 _
            have hb1 : Below (w.alloc (.cells #[.int .i64 q.ox, .int .i64 q.oy, .int .i64 q.oz, .int .i64 q.rows, .int .i64 q.cols, .int .i64 q.sp] 25)).heap.size (w.alloc (.cells #[.int .i64 q.ox, .int .i64 q.oy, .int .i64 q.oz, .int .i64 q.rows, .int .i64 q.cols, .int .i64 q.sp] 25)) w1 := below_grown (n := (nbs q i 1).length) (v := u7) (xs := (nbs q i 1).map (Value.int .i64)) (e := 3) (s := 1) (by repeat' (first | exact Below.refl _ _ | assumption | refine Below.xt ?_ ?_ _ | refine Below.alloc ?_ ?_ _ | refine Below.drew ?_ | refine Below.setCell ?_ ?_ _ | (simp; done) | (simp; omega))) (by simp; omega) (by repeat (first | (with_reducible exact HO.out) | (with_reducible exact own_drawn HO.out _) | (with_reducible refine World.ownsRow.alloc ?_ _) | (with_reducible refine own_xt ?_ _))) hgr1
            obtain ⟨g9, rfl⟩ := xt_of_below hb1
            have HO1 := Lib.hid (show (xt (w.alloc (.cells #[.int .i64 q.ox, .int .i64 q.oy, .int .i64 q.oz, .int .i64 q.rows, .int .i64 q.cols, .int .i64 q.sp] 25)) g9).ownsRow (w.alloc (.cells #[.int .i64 q.ox, .int .i64 q.oy, .int .i64 q.oz, .int .i64 q.rows, .int .i64 q.cols, .int .i64 q.sp] 25)).heap.size 3 1 v1 (nbs q i (1 + 1)).length ((nbs q i (1 + 1)).map (Value.int .i64)) by rw [HE.out, List.map_append, List.length_append]; simp only [World.size_alloc]; exact hown1)
            clear hown1 hgr1 hb1 HO
            go_wp2_with fail
            go_roundw
            case rel => exact ⟨1 + 1, g9, by omega, by go_num, rfl, HO1⟩
            case measure => simp [intOf]
        · have ei : nbs q i (1 + 1) = nbs q i 1 := by rw [HNk.out, HIk.out, one, if_neg hin, List.append_nil]
          have hin' := hin
          unfold inside at hin'
          rw [decide_eq_false hin'] at C3
          have C3' := fun w => Lib.hid (C3 w)
          have HE := Lib.hid ei
          clear C3 hin hin' ei HNk HIk
          go_wp2_with fail
          go_region_held3 (fun w' => blk w' w.heap.size = some (.cells #[.int .i64 q.ox, .int .i64 q.oy, .int .i64 q.oz, .int .i64 q.rows, .int .i64 q.cols, .int .i64 q.sp] 25 (0, 0)) ∧ old w.heap.size w' ∧ old (w.heap.size + 1 + g.blocks.length) w' ∧ w'.cell? ⟨w.heap.size + 1 + g.blocks.length, 0, none⟩ = some (.int .i64 (0)) ∧ w'.cell? ⟨w.heap.size + 1 + g.blocks.length, 1, none⟩ = some (.int .i64 (-1))) (go_simp) (first | (go_at_call 30; refine (RetB.grown (C2 _).out).mono ?_; rintro e' w' ⟨rfl, g, rfl⟩) | (go_at_call 37; refine (RetB.grown (C3' _).out).mono ?_; rintro e' w' ⟨rfl, g, rfl⟩))
          all_goals
            go_wp2_with fail
            go_roundw
            case rel =>
              refine ⟨1 + 1, ?_⟩
              rw [HE.out]
              refine ⟨_, by omega, by go_num, (Classical.choose_spec (xt_of_below (by repeat' (first | exact Below.refl _ _ | assumption | refine Below.xt ?_ ?_ _ | refine Below.alloc ?_ ?_ _ | refine Below.drew ?_ | refine Below.setCell ?_ ?_ _ | (simp; done) | (simp; omega))))), ?_⟩
              rw [← Classical.choose_spec (xt_of_below (by repeat' (first | exact Below.refl _ _ | assumption | refine Below.xt ?_ ?_ _ | refine Below.alloc ?_ ?_ _ | refine Below.drew ?_ | refine Below.setCell ?_ ?_ _ | (simp; done) | (simp; omega))))]
              refine Lib.hid ?_
              exact (by repeat (first | (with_reducible exact HO.out) | (with_reducible exact own_drawn HO.out _) | (with_reducible refine World.ownsRow.alloc ?_ _) | (with_reducible refine own_xt ?_ _)))
            case measure => simp [intOf]
      · have HNk := HN 2
        have HIk := HI 2
        have HLk := Lib.hid (HL.out 2)
        clear HN HI HL C1
        have e1 : wayR 2 = 0 := by simp [wayR]
        have e2 : wayC 2 = 1 := by simp [wayC]
        rw [e1, e2] at HIk
        clear e1 e2
        have C3 := fun w => moved_any q r c (0) (1) w (by omega) (by omega) (by omega) (by omega) (by omega) (by omega) (by omega) (by omega)
        obtain ⟨r', hr'⟩ : ∃ r', r + (0) = r' := ⟨_, rfl⟩
        obtain ⟨c', hc'⟩ : ∃ c', c + (1) = c' := ⟨_, rfl⟩
        rw [hr', hc'] at C3 HIk
        have a1 : -1 ≤ r' ∧ r' ≤ 256 := by omega
        have a2 : -1 ≤ c' ∧ c' ≤ 256 := by omega
        obtain ⟨a1, a1'⟩ := a1
        obtain ⟨a2, a2'⟩ := a2
        clear hr' hc'
        by_cases hin : inside q r' c'
        · have ei : nbs q i (2 + 1) = nbs q i 2 ++ [r' * q.cols + c'] := by rw [HNk.out, HIk.out, one, if_pos hin]
          have hin' := hin
          unfold inside at hin'
          rw [decide_eq_true hin'] at C3
          have hb : 0 ≤ r' * q.cols ∧ r' * q.cols ≤ 65536 := by
            have h1 := Int.mul_nonneg hin.1 (show 0 ≤ q.cols by omega)
            have h2 := Int.mul_le_mul (show r' ≤ 256 by omega) d4 (by omega) (by omega)
            omega
          obtain ⟨b1, b2⟩ := hb
          have C3' := fun w => Lib.hid (C3 w)
          have C4 := fun w => Lib.hid (index_any q r' c' w (by omega) (by omega) (by omega) (by omega))
          have HE := Lib.hid ei
          clear C3 hin hin' ei HNk HIk
          go_wp2_with fail
          go_region_held3 (fun w' => blk w' w.heap.size = some (.cells #[.int .i64 q.ox, .int .i64 q.oy, .int .i64 q.oz, .int .i64 q.rows, .int .i64 q.cols, .int .i64 q.sp] 25 (0, 0)) ∧ old w.heap.size w' ∧ old (w.heap.size + 1 + g.blocks.length) w' ∧ w'.cell? ⟨w.heap.size + 1 + g.blocks.length, 0, none⟩ = some (.int .i64 (0)) ∧ w'.cell? ⟨w.heap.size + 1 + g.blocks.length, 1, none⟩ = some (.int .i64 (1))) (go_simp) (first | (go_at_call 30; refine (RetB.grown (C2 _).out).mono ?_; rintro e' w' ⟨rfl, g, rfl⟩) | (go_at_call 37; refine (RetB.grown (C3' _).out).mono ?_; rintro e' w' ⟨rfl, g, rfl⟩))
          all_goals go_wp2_with (first | (go_at_call 32; refine (RetB.grown (C4 _).out).mono ?_; rintro e' w' ⟨rfl, g, rfl⟩) | (at_builtin; go_must (refine wpList_append_own _ rfl _ _ 43 rfl (w.alloc (.cells #[.int .i64 q.ox, .int .i64 q.oy, .int .i64 q.oz, .int .i64 q.rows, .int .i64 q.cols, .int .i64 q.sp] 25)).heap.size 3 i0 _ 1 8 Try.underlying43 hi0 hz0 hz1 hz2 rfl (by omega) u7 (nbs q i 2).length ((nbs q i 2).map (Value.int .i64)) rfl (by repeat (first | (with_reducible exact HO.out) | (with_reducible exact own_drawn HO.out _) | (with_reducible refine World.ownsRow.alloc ?_ _) | (with_reducible refine own_xt ?_ _))) _ 1 _ [.int .i64 (r' * q.cols + c')] rfl rfl ?_ ?_ ?_ ?_ ?_ ?_)))
          all_goals first
            | exact cells_new _ _ _ _ (by simp)
            | (intro u hu; simp only [List.mem_cons, List.not_mem_nil, or_false] at hu; rcases hu with rfl; rfl)
            | (have := HLk.out; simp only [maxLen]; omega)
            | (have := HLk.out; omega)
            | (simp; omega)
            | skip
          all_goals
            intro v1 w1 hown1 hgr1 _
            have hb1 : Below (w.alloc (.cells #[.int .i64 q.ox, .int .i64 q.oy, .int .i64 q.oz, .int .i64 q.rows, .int .i64 q.cols, .int .i64 q.sp] 25)).heap.size (w.alloc (.cells #[.int .i64 q.ox, .int .i64 q.oy, .int .i64 q.oz, .int .i64 q.rows, .int .i64 q.cols, .int .i64 q.sp] 25)) w1 := below_grown (n := (nbs q i 2).length) (v := u7) (xs := (nbs q i 2).map (Value.int .i64)) (e := 3) (s := 1) (by repeat' (first | exact Below.refl _ _ | assumption | refine Below.xt ?_ ?_ _ | refine Below.alloc ?_ ?_ _ | refine Below.drew ?_ | refine Below.setCell ?_ ?_ _ | (simp; done) | (simp; omega))) (by simp; omega) (by repeat (first | (with_reducible exact HO.out) | (with_reducible exact own_drawn HO.out _) | (with_reducible refine World.ownsRow.alloc ?_ _) | (with_reducible refine own_xt ?_ _))) hgr1
            obtain ⟨g9, rfl⟩ := xt_of_below hb1
            have HO1 := Lib.hid (show (xt (w.alloc (.cells #[.int .i64 q.ox, .int .i64 q.oy, .int .i64 q.oz, .int .i64 q.rows, .int .i64 q.cols, .int .i64 q.sp] 25)) g9).ownsRow (w.alloc (.cells #[.int .i64 q.ox, .int .i64 q.oy, .int .i64 q.oz, .int .i64 q.rows, .int .i64 q.cols, .int .i64 q.sp] 25)).heap.size 3 1 v1 (nbs q i (2 + 1)).length ((nbs q i (2 + 1)).map (Value.int .i64)) by rw [HE.out, List.map_append, List.length_append]; simp only [World.size_alloc]; exact hown1)
            clear hown1 hgr1 hb1 HO
            go_wp2_with fail
            go_roundw
            case rel => exact ⟨2 + 1, g9, by omega, by go_num, rfl, HO1⟩
            case measure => simp [intOf]
        · have ei : nbs q i (2 + 1) = nbs q i 2 := by rw [HNk.out, HIk.out, one, if_neg hin, List.append_nil]
          have hin' := hin
          unfold inside at hin'
          rw [decide_eq_false hin'] at C3
          have C3' := fun w => Lib.hid (C3 w)
          have HE := Lib.hid ei
          clear C3 hin hin' ei HNk HIk
          go_wp2_with fail
          go_region_held3 (fun w' => blk w' w.heap.size = some (.cells #[.int .i64 q.ox, .int .i64 q.oy, .int .i64 q.oz, .int .i64 q.rows, .int .i64 q.cols, .int .i64 q.sp] 25 (0, 0)) ∧ old w.heap.size w' ∧ old (w.heap.size + 1 + g.blocks.length) w' ∧ w'.cell? ⟨w.heap.size + 1 + g.blocks.length, 0, none⟩ = some (.int .i64 (0)) ∧ w'.cell? ⟨w.heap.size + 1 + g.blocks.length, 1, none⟩ = some (.int .i64 (1))) (go_simp) (first | (go_at_call 30; refine (RetB.grown (C2 _).out).mono ?_; rintro e' w' ⟨rfl, g, rfl⟩) | (go_at_call 37; refine (RetB.grown (C3' _).out).mono ?_; rintro e' w' ⟨rfl, g, rfl⟩))
          all_goals
            go_wp2_with fail
            go_roundw
            case rel =>
              refine ⟨2 + 1, ?_⟩
              rw [HE.out]
              refine ⟨_, by omega, by go_num, (Classical.choose_spec (xt_of_below (by repeat' (first | exact Below.refl _ _ | assumption | refine Below.xt ?_ ?_ _ | refine Below.alloc ?_ ?_ _ | refine Below.drew ?_ | refine Below.setCell ?_ ?_ _ | (simp; done) | (simp; omega))))), ?_⟩
              rw [← Classical.choose_spec (xt_of_below (by repeat' (first | exact Below.refl _ _ | assumption | refine Below.xt ?_ ?_ _ | refine Below.alloc ?_ ?_ _ | refine Below.drew ?_ | refine Below.setCell ?_ ?_ _ | (simp; done) | (simp; omega))))]
              refine Lib.hid ?_
              exact (by repeat (first | (with_reducible exact HO.out) | (with_reducible exact own_drawn HO.out _) | (with_reducible refine World.ownsRow.alloc ?_ _) | (with_reducible refine own_xt ?_ _)))
            case measure => simp [intOf]
      · have HNk := HN 3
        have HIk := HI 3
        have HLk := Lib.hid (HL.out 3)
        clear HN HI HL C1
        have e1 : wayR 3 = 1 := by simp [wayR]
        have e2 : wayC 3 = 0 := by simp [wayC]
        rw [e1, e2] at HIk
        clear e1 e2
        have C3 := fun w => moved_any q r c (1) (0) w (by omega) (by omega) (by omega) (by omega) (by omega) (by omega) (by omega) (by omega)
        obtain ⟨r', hr'⟩ : ∃ r', r + (1) = r' := ⟨_, rfl⟩
        obtain ⟨c', hc'⟩ : ∃ c', c + (0) = c' := ⟨_, rfl⟩
        rw [hr', hc'] at C3 HIk
        have a1 : -1 ≤ r' ∧ r' ≤ 256 := by omega
        have a2 : -1 ≤ c' ∧ c' ≤ 256 := by omega
        obtain ⟨a1, a1'⟩ := a1
        obtain ⟨a2, a2'⟩ := a2
        clear hr' hc'
        by_cases hin : inside q r' c'
        · have ei : nbs q i (3 + 1) = nbs q i 3 ++ [r' * q.cols + c'] := by rw [HNk.out, HIk.out, one, if_pos hin]
          have hin' := hin
          unfold inside at hin'
          rw [decide_eq_true hin'] at C3
          have hb : 0 ≤ r' * q.cols ∧ r' * q.cols ≤ 65536 := by
            have h1 := Int.mul_nonneg hin.1 (show 0 ≤ q.cols by omega)
            have h2 := Int.mul_le_mul (show r' ≤ 256 by omega) d4 (by omega) (by omega)
            omega
          obtain ⟨b1, b2⟩ := hb
          have C3' := fun w => Lib.hid (C3 w)
          have C4 := fun w => Lib.hid (index_any q r' c' w (by omega) (by omega) (by omega) (by omega))
          have HE := Lib.hid ei
          clear C3 hin hin' ei HNk HIk
          go_wp2_with fail
          go_region_held3 (fun w' => blk w' w.heap.size = some (.cells #[.int .i64 q.ox, .int .i64 q.oy, .int .i64 q.oz, .int .i64 q.rows, .int .i64 q.cols, .int .i64 q.sp] 25 (0, 0)) ∧ old w.heap.size w' ∧ old (w.heap.size + 1 + g.blocks.length) w' ∧ w'.cell? ⟨w.heap.size + 1 + g.blocks.length, 0, none⟩ = some (.int .i64 (1)) ∧ w'.cell? ⟨w.heap.size + 1 + g.blocks.length, 1, none⟩ = some (.int .i64 (0))) (go_simp) (first | (go_at_call 30; refine (RetB.grown (C2 _).out).mono ?_; rintro e' w' ⟨rfl, g, rfl⟩) | (go_at_call 37; refine (RetB.grown (C3' _).out).mono ?_; rintro e' w' ⟨rfl, g, rfl⟩))
          all_goals go_wp2_with (first | (go_at_call 32; refine (RetB.grown (C4 _).out).mono ?_; rintro e' w' ⟨rfl, g, rfl⟩) | (at_builtin; go_must (refine wpList_append_own _ rfl _ _ 43 rfl (w.alloc (.cells #[.int .i64 q.ox, .int .i64 q.oy, .int .i64 q.oz, .int .i64 q.rows, .int .i64 q.cols, .int .i64 q.sp] 25)).heap.size 3 i0 _ 1 8 Try.underlying43 hi0 hz0 hz1 hz2 rfl (by omega) u7 (nbs q i 3).length ((nbs q i 3).map (Value.int .i64)) rfl (by repeat (first | (with_reducible exact HO.out) | (with_reducible exact own_drawn HO.out _) | (with_reducible refine World.ownsRow.alloc ?_ _) | (with_reducible refine own_xt ?_ _))) _ 1 _ [.int .i64 (r' * q.cols + c')] rfl rfl ?_ ?_ ?_ ?_ ?_ ?_)))
          all_goals first
            | exact cells_new _ _ _ _ (by simp)
            | (intro u hu; simp only [List.mem_cons, List.not_mem_nil, or_false] at hu; rcases hu with rfl; rfl)
            | (have := HLk.out; simp only [maxLen]; omega)
            | (have := HLk.out; omega)
            | (simp; omega)
            | skip
          all_goals
            intro v1 w1 hown1 hgr1 _
            have hb1 : Below (w.alloc (.cells #[.int .i64 q.ox, .int .i64 q.oy, .int .i64 q.oz, .int .i64 q.rows, .int .i64 q.cols, .int .i64 q.sp] 25)).heap.size (w.alloc (.cells #[.int .i64 q.ox, .int .i64 q.oy, .int .i64 q.oz, .int .i64 q.rows, .int .i64 q.cols, .int .i64 q.sp] 25)) w1 := below_grown (n := (nbs q i 3).length) (v := u7) (xs := (nbs q i 3).map (Value.int .i64)) (e := 3) (s := 1) (by repeat' (first | exact Below.refl _ _ | assumption | refine Below.xt ?_ ?_ _ | refine Below.alloc ?_ ?_ _ | refine Below.drew ?_ | refine Below.setCell ?_ ?_ _ | (simp; done) | (simp; omega))) (by simp; omega) (by repeat (first | (with_reducible exact HO.out) | (with_reducible exact own_drawn HO.out _) | (with_reducible refine World.ownsRow.alloc ?_ _) | (with_reducible refine own_xt ?_ _))) hgr1
            obtain ⟨g9, rfl⟩ := xt_of_below hb1
            have HO1 := Lib.hid (show (xt (w.alloc (.cells #[.int .i64 q.ox, .int .i64 q.oy, .int .i64 q.oz, .int .i64 q.rows, .int .i64 q.cols, .int .i64 q.sp] 25)) g9).ownsRow (w.alloc (.cells #[.int .i64 q.ox, .int .i64 q.oy, .int .i64 q.oz, .int .i64 q.rows, .int .i64 q.cols, .int .i64 q.sp] 25)).heap.size 3 1 v1 (nbs q i (3 + 1)).length ((nbs q i (3 + 1)).map (Value.int .i64)) by rw [HE.out, List.map_append, List.length_append]; simp only [World.size_alloc]; exact hown1)
            clear hown1 hgr1 hb1 HO
            go_wp2_with fail
            go_roundw
            case rel => exact ⟨3 + 1, g9, by omega, by go_num, rfl, HO1⟩
            case measure => simp [intOf]
        · have ei : nbs q i (3 + 1) = nbs q i 3 := by rw [HNk.out, HIk.out, one, if_neg hin, List.append_nil]
          have hin' := hin
          unfold inside at hin'
          rw [decide_eq_false hin'] at C3
          have C3' := fun w => Lib.hid (C3 w)
          have HE := Lib.hid ei
          clear C3 hin hin' ei HNk HIk
          go_wp2_with fail
          go_region_held3 (fun w' => blk w' w.heap.size = some (.cells #[.int .i64 q.ox, .int .i64 q.oy, .int .i64 q.oz, .int .i64 q.rows, .int .i64 q.cols, .int .i64 q.sp] 25 (0, 0)) ∧ old w.heap.size w' ∧ old (w.heap.size + 1 + g.blocks.length) w' ∧ w'.cell? ⟨w.heap.size + 1 + g.blocks.length, 0, none⟩ = some (.int .i64 (1)) ∧ w'.cell? ⟨w.heap.size + 1 + g.blocks.length, 1, none⟩ = some (.int .i64 (0))) (go_simp) (first | (go_at_call 30; refine (RetB.grown (C2 _).out).mono ?_; rintro e' w' ⟨rfl, g, rfl⟩) | (go_at_call 37; refine (RetB.grown (C3' _).out).mono ?_; rintro e' w' ⟨rfl, g, rfl⟩))
          all_goals
            go_wp2_with fail
            go_roundw
            case rel =>
              refine ⟨3 + 1, ?_⟩
              rw [HE.out]
              refine ⟨_, by omega, by go_num, (Classical.choose_spec (xt_of_below (by repeat' (first | exact Below.refl _ _ | assumption | refine Below.xt ?_ ?_ _ | refine Below.alloc ?_ ?_ _ | refine Below.drew ?_ | refine Below.setCell ?_ ?_ _ | (simp; done) | (simp; omega))))), ?_⟩
              rw [← Classical.choose_spec (xt_of_below (by repeat' (first | exact Below.refl _ _ | assumption | refine Below.xt ?_ ?_ _ | refine Below.alloc ?_ ?_ _ | refine Below.drew ?_ | refine Below.setCell ?_ ?_ _ | (simp; done) | (simp; omega))))]
              refine Lib.hid ?_
              exact (by repeat (first | (with_reducible exact HO.out) | (with_reducible exact own_drawn HO.out _) | (with_reducible refine World.ownsRow.alloc ?_ _) | (with_reducible refine own_xt ?_ _)))
            case measure => simp [intOf]
    · have e1 : k = 4 := by omega
      subst e1
      go_wp2_with fail
      obtain ⟨A', c', rfl, hrow⟩ := RowI.of_own HO.out rfl
      go_ret2
      exact ⟨_, _, rfl, (by repeat' (first | exact Below.refl _ _ | assumption | refine Below.xt ?_ ?_ _ | refine Below.alloc ?_ ?_ _ | refine Below.drew ?_ | refine Below.setCell ?_ ?_ _ | (simp; done) | (simp; omega))), hrow⟩

end Go.Proofs.Ytoaakjkflcjkhaa

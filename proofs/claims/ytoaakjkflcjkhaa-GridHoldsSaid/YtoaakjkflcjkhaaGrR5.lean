/- Walks of grids, by the reference: the nearest spot of a point, the spots of points. Conditions stand in each theorem. -/
import Derived.Test.YtoaakjkflcjkhaaGrR3
import Derived.Deep.RegionHeld3
namespace Go.Proofs.Ytoaakjkflcjkhaa
open Go.RowKit
set_option linter.unusedVariables false

def arrB (n : Nat) (S : Int → Bool) : Array Value := ((List.range n).map fun i : Nat => Value.bool (S (i : Int))).toArray
theorem arrB_size (n : Nat) (S : Int → Bool) : (arrB n S).size = n := by simp [arrB]
theorem arrB_get {n i : Nat} {S : Int → Bool} (h : i < n) : (arrB n S)[i]? = some (.bool (S (i : Int))) := by simp [arrB, h]
theorem arrB_made (n : Nat) : madeCells #[.bool false] n = arrB n (fun _ => false) := by
  apply Array.ext_getElem?
  intro m
  by_cases hm : m < n
  · rw [arrB_get hm]
    simp [madeCells, hm, Nat.mod_one]
  · rw [Array.getElem?_eq_none (by rw [size_madeCells]; omega), Array.getElem?_eq_none (by rw [arrB_size]; omega)]
theorem arrB_set {n j : Nat} {S : Int → Bool} (hj : j < n) : (arrB n S).setIfInBounds j (.bool true) = arrB n (fun i => if i = (j : Int) then true else S i) := by
  apply Array.ext_getElem?
  intro m
  by_cases hm : m < n
  · rw [arrB_get hm, Array.getElem?_setIfInBounds, arrB_get hm, arrB_size]
    by_cases e : j = m
    · subst e; simp [hj]
    · have e' : ¬ ((m : Int) = (j : Int)) := by omega
      simp [e, e']
  · rw [Array.getElem?_eq_none (by simp [arrB_size]; omega), Array.getElem?_eq_none (by rw [arrB_size]; omega)]
theorem infoBool : (Try.prog.info? 4).map (fun i => (i.zero, i.size, i.bytes)) = some (some (.bool false), 1, 1) := by kernel_rfl
theorem mk_bools (n : Nat) (hn : n ≤ 4294967296) (W : World) : (Instr.makeSlice 76 (.int .i64 (n : Int)) (.int .i64 (n : Int))).run Try.prog W = .ok (.slice (some ⟨W.heap.size, 0, none⟩) n n) (W.alloc (.cells (arrB n (fun _ => false)) 4)) := by
  obtain ⟨i, hi, hz, hs, hb⟩ := info_parts infoBool
  have h := run_make (P := Try.prog) W 76 4 i _ Try.underlying76 hi hz .i64 .i64 n n (by omega) (by omega) (by rw [hb]; omega) (by omega)
  rw [hs] at h
  simp only [Int.toNat_natCast, Nat.mul_one] at h
  rw [← arrB_made n]
  exact h
theorem rowB_made {w : World} {n m : Nat} {S : Int → Bool} (hm : m = w.heap.size) : RowB (w.alloc (.cells (arrB n S) 4)) (some ⟨m, 0, none⟩) n S :=
  Row.made hm fun i j hi hj => by
    have e : j = 0 := by omega
    subst e
    rw [Nat.mul_one, Nat.add_zero, arrB_get hi]
theorem own_swap {W : World} {a a' : Array Value} {T : TypeId} {g : Gr} {e : TypeId} {s n : Nat} {v : Value} {xs : List Value} (h : (xt (W.alloc (.cells a T)) g).ownsRow (W.heap.size + 1) e s v n xs) : (xt (W.alloc (.cells a' T)) g).ownsRow (W.heap.size + 1) e s v n xs := by
  refine ⟨h.1, ?_⟩
  rcases h.2 with h' | ⟨gb, cap, cur, hv, hb, hg, hrest⟩
  · exact .inl h'
  · refine .inr ⟨gb, cap, cur, hv, hb, ?_, hrest⟩
    rw [← hg]
    simp only [xt, World.alloc, Array.getElem?_append, Array.size_push, Array.getElem?_push]
    rw [if_neg (show ¬ gb = W.heap.size by omega), if_neg (show ¬ gb = W.heap.size by omega)]

/-! ### Near -/
set_option maxHeartbeats 400000 in
theorem refNear_bad (q : Gd) (v : V3) (w : World) (h : gval q = false) : Calls Try.prog 22 #[.agg #[.int .i64 q.ox, .int .i64 q.oy, .int .i64 q.oz, .int .i64 q.rows, .int .i64 q.cols, .int .i64 q.sp], .agg #[.int .i64 v.x, .int .i64 v.y, .int .i64 v.z]] w (RetB (.tuple #[.int .i64 0, .int .i64 2]) w) := by
  go_enter Try.func22, Try.ntmps22
  go_wp2_with (first
    | (go_at_call 14; refine (RetB.grown (refvalid_any q _)).mono ?_; rintro e' w' ⟨rfl, g, rfl⟩)
    | (go_at_call 27; refine (RetB.grown (refPoint_any _ _ _ _)).mono ?_; rintro e' w' ⟨rfl, g, rfl⟩)
    | (refine wp_region_xt (by kernel_rfl) (by kernel_rfl) ?_; (repeat (go_big_quiet_step (first | (go_at_call 14; exact RetB.quiet (refvalid_any q _)) | (go_at_call 27; exact RetB.quiet (refPoint_any _ _ _ _))))); refine wpQuiet_nil ?_; intro g))
  go_ret2
  exact RetB.of rfl (by repeat' (first | exact Below.refl _ _ | assumption | refine Below.xt ?_ ?_ _ | refine Below.alloc ?_ ?_ _ | refine Below.drew ?_ | refine Below.setCell ?_ ?_ _ | (simp; done) | (simp; omega)))
set_option maxHeartbeats 400000 in
theorem refNear_far (q : Gd) (v : V3) (w : World) (h : gval q = true) (hv : pnt v = false) : Calls Try.prog 22 #[.agg #[.int .i64 q.ox, .int .i64 q.oy, .int .i64 q.oz, .int .i64 q.rows, .int .i64 q.cols, .int .i64 q.sp], .agg #[.int .i64 v.x, .int .i64 v.y, .int .i64 v.z]] w (RetB (.tuple #[.int .i64 0, .int .i64 2]) w) := by
  have hv' : ins 1048576 v.x v.y v.z = false := hv
  clear hv
  go_enter Try.func22, Try.ntmps22
  go_wp2_with (first
    | (go_at_call 14; refine (RetB.grown (refvalid_any q _)).mono ?_; rintro e' w' ⟨rfl, g, rfl⟩)
    | (go_at_call 27; refine (RetB.grown (refPoint_any _ _ _ _)).mono ?_; rintro e' w' ⟨rfl, g, rfl⟩)
    | (refine wp_region_xt (by kernel_rfl) (by kernel_rfl) ?_; (repeat (go_big_quiet_step (first | (go_at_call 14; exact RetB.quiet (refvalid_any q _)) | (go_at_call 27; exact RetB.quiet (refPoint_any _ _ _ _))))); refine wpQuiet_nil ?_; intro g))
  go_ret2
  exact RetB.of rfl (by repeat' (first | exact Below.refl _ _ | assumption | refine Below.xt ?_ ?_ _ | refine Below.alloc ?_ ?_ _ | refine Below.drew ?_ | refine Below.setCell ?_ ?_ _ | (simp; done) | (simp; omega)))
set_option maxHeartbeats 1600000 in
theorem refNear_ok (q : Gd) (v : V3) (w : World) (h : gval q = true) (hv : pnt v = true) : Calls Try.prog 22 #[.agg #[.int .i64 q.ox, .int .i64 q.oy, .int .i64 q.oz, .int .i64 q.rows, .int .i64 q.cols, .int .i64 q.sp], .agg #[.int .i64 v.x, .int .i64 v.y, .int .i64 v.z]] w (RetB (.tuple #[.int .i64 (nb (dist (spots q) v) (fun _ => false) (spots q).length), .int .i64 0]) w) := by
  have hv' : ins 1048576 v.x v.y v.z = true := hv
  have HV := Lib.hid hv
  have HH := Lib.hid h
  have hm : (spots q).length ≤ 4294967296 := by rw [spots_len]; have := g_n (gval_iff.1 h).2.1; omega
  have HP := Lib.hid (show ∀ i, i < (spots q).length → pnt (at_ (spots q) i) = true from fun i hi => spots_pnt h (by rwa [spots_len] at hi))
  have C := fun w => Lib.hid (refvalid_any q w)
  rw [h] at C
  clear h hv
  go_enter Try.func22, Try.ntmps22
  go_wp2_with (first
    | (go_at_call 14; refine (RetB.grown ((C _).out)).mono ?_; rintro e' w' ⟨rfl, g, rfl⟩)
    | (go_at_call 27; refine (RetB.grown (refPoint_any _ _ _ _)).mono ?_; rintro e' w' ⟨rfl, g, rfl⟩)
    | (refine wp_region_xt (by kernel_rfl) (by kernel_rfl) ?_; (repeat (go_big_quiet_step (first | (go_at_call 14; exact RetB.quiet ((C _).out)) | (go_at_call 27; exact RetB.quiet (refPoint_any _ _ _ _))))); refine wpQuiet_nil ?_; intro g))
  refine (refSpots_ok q _ HH.out).mono ?_
  rintro e w' ⟨A, c, rfl, hb, hrow⟩
  have HR := Lib.hid hrow
  have hbw : Below w.heap.size w w' := Below.next (by repeat' (first | exact Below.refl _ _ | assumption | refine Below.xt ?_ ?_ _ | refine Below.alloc ?_ ?_ _ | refine Below.drew ?_ | refine Below.setCell ?_ ?_ _ | (simp; done) | (simp; omega))) hb (by simp; omega)
  have c0 : w'.cell? ⟨w.heap.size + 1, 0, none⟩ = some (.int .i64 v.x) := (hb.cell (p := ⟨w.heap.size + 1, 0, none⟩) (by simp; omega)).trans (by go_simp)
  have c1 : w'.cell? ⟨w.heap.size + 1, 1, none⟩ = some (.int .i64 v.y) := (hb.cell (p := ⟨w.heap.size + 1, 1, none⟩) (by simp; omega)).trans (by go_simp)
  have c2 : w'.cell? ⟨w.heap.size + 1, 2, none⟩ = some (.int .i64 v.z) := (hb.cell (p := ⟨w.heap.size + 1, 2, none⟩) (by simp; omega)).trans (by go_simp)
  have ho : old (w.heap.size + 1) w' := by have := hb.size; simp at this; unfold old; omega
  have hmk := fun W => mk_bools (spots q).length hm W
  clear hb hrow
  go_wp2_with fail
  go_region_held3 (fun w' => old (w.heap.size + 1) w' ∧ w'.cell? ⟨w.heap.size + 1, 0, none⟩ = some (.int .i64 v.x) ∧ w'.cell? ⟨w.heap.size + 1, 1, none⟩ = some (.int .i64 v.y) ∧ w'.cell? ⟨w.heap.size + 1, 2, none⟩ = some (.int .i64 v.z)) (go_simp) (first | (go_at_call 39; refine (RetB.grown (refnear_any (spots q) A _ _ c _ (fun _ => false) v _ rfl hm (by repeat (first | exact HR.out | refine Row.xt ?_ _ | refine Row.alloc ?_ _ | refine Row.drew ?_)) (by repeat (first | exact rowB_made (by simp) | refine Row.drew ?_ | refine Row.xt ?_ _)) HP.out HV.out)).mono ?_; rintro e' w' ⟨rfl, g, rfl⟩))
  all_goals
    go_wp2_with fail
    go_ret2
    exact RetB.of rfl (Below.next hbw (show Below w'.heap.size w' _ from (by repeat' (first | exact Below.refl _ _ | assumption | refine Below.xt ?_ ?_ _ | refine Below.alloc ?_ ?_ _ | refine Below.drew ?_ | refine Below.setCell ?_ ?_ _ | (simp; done) | (simp; omega)))) hbw.size)

/-! ### Assign -/
set_option maxHeartbeats 400000 in
theorem refAssign_bad (q : Gd) (A : Option Addr) (n cap : Nat) (w : World) (h : gval q = false) : Calls Try.prog 24 #[.agg #[.int .i64 q.ox, .int .i64 q.oy, .int .i64 q.oz, .int .i64 q.rows, .int .i64 q.cols, .int .i64 q.sp], .slice A n cap] w (RetB (.tuple #[.slice none 0 0, .int .i64 2]) w) := by
  go_enter Try.func24, Try.ntmps24
  go_wp2_with (first
    | (go_at_call 14; refine (RetB.grown (refvalid_any q _)).mono ?_; rintro e' w' ⟨rfl, g, rfl⟩)
    | (refine wp_region_xt (by kernel_rfl) (by kernel_rfl) ?_; (repeat (go_big_quiet_step (first | (go_at_call 14; exact RetB.quiet (refvalid_any q _))))); refine wpQuiet_nil ?_; intro g))
  go_ret2
  exact RetB.of rfl (by repeat' (first | exact Below.refl _ _ | assumption | refine Below.xt ?_ ?_ _ | refine Below.alloc ?_ ?_ _ | refine Below.drew ?_ | refine Below.setCell ?_ ?_ _ | (simp; done) | (simp; omega)))

theorem refPnt_any (v : V3) (w : World) : Calls Try.prog 27 #[.agg #[.int .i64 v.x, .int .i64 v.y, .int .i64 v.z]] w (RetB (.bool (pnt v)) w) := refPoint_any v.x v.y v.z w

set_option maxRecDepth 100000 in
set_option maxHeartbeats 1600000 in
theorem refAssign_far (q : Gd) (b o n cap : Nat) (l : List V3) (w : World) (h : gval q = true) (hn : n = l.length) (hm : n ≤ 4294967296) (hr : RowV w (some ⟨b, o, none⟩) l) (hp : ∃ i, i < n ∧ pointAt l i = false) :
    Calls Try.prog 24 #[.agg #[.int .i64 q.ox, .int .i64 q.oy, .int .i64 q.oz, .int .i64 q.rows, .int .i64 q.cols, .int .i64 q.sp], .slice (some ⟨b, o, none⟩) n cap] w (RetB (.tuple #[.slice none 0 0, .int .i64 2]) w) := by
  have h0 : 0 < n := by obtain ⟨i, hi, _⟩ := hp; omega
  obtain ⟨b', o', ea, hb, hc⟩ := hr.at_ (by omega)
  injection ea with ea
  injection ea with e1 e2
  subst e1 e2
  have HN := Lib.hid hn
  have HC := Lib.hid hc
  have HP := Lib.hid hp
  have C := fun w => Lib.hid (refvalid_any q w)
  rw [h] at C
  clear hn hr hp hc h
  go_enter Try.func24, Try.ntmps24
  go_wp2_with fail
  refine (RetB.grown (C _).out).mono ?_
  rintro e' w' ⟨rfl, g1, rfl⟩
  go_wp2_with fail
  go_loopw [6] (fun i wr => ∃ (k : Nat) (g : Gr), k ≤ n ∧ Hid (∀ j, j < k → pointAt l j = true) ∧ i = .int .i64 k ∧ wr = xt (w.alloc (.cells #[.int .i64 q.ox, .int .i64 q.oy, .int .i64 q.oz, .int .i64 q.rows, .int .i64 q.cols, .int .i64 q.sp] 25)) g) (fun i _ => n - (intOf i).toNat)
  case atStart => exact ⟨0, _, by omega, fun j hj => absurd hj (by omega), rfl, rfl⟩
  case round =>
    obtain ⟨k, g, hk, HK, rfl, rfl⟩ := hrel
    by_cases hlt : k < n
    · obtain ⟨hx, hy, hz⟩ := RowV.cells HC.out (HN.out ▸ hlt)
      have hs := fun (j : Nat) (hj : j < k + 1) (h : pointAt l k = true) => show pointAt l j = true from if e : j = k then e ▸ h else HK.out j (by omega)
      have HS := Lib.hid hs
      clear hs
      have hpa : pointAt l k = pnt (at_ l k) := rfl
      rw [hpa] at HS
      clear hpa
      generalize at_ l k = v at *
      by_cases hok : pnt v = true
      · have HO := Lib.hid hok
        go_wp2_with (first
          | (go_at_call 27; refine (RetB.grown (refPnt_any v _)).mono ?_; rintro e' w' ⟨rfl, g, rfl⟩)
          | (refine wp_region_xt (by kernel_rfl) (by kernel_rfl) ?_; (repeat (go_big_quiet_step (first | (go_at_call 27; exact RetB.quiet (refPnt_any v _))))); refine wpQuiet_nil ?_; intro g))
        go_roundw
        case rel => exact ⟨k + 1, _, by omega, fun j hj => HS.out j hj HO.out, by go_num, (Classical.choose_spec (xt_of_below (by repeat' (first | exact Below.refl _ _ | assumption | refine Below.xt ?_ ?_ _ | refine Below.alloc ?_ ?_ _ | refine Below.drew ?_ | refine Below.setCell ?_ ?_ _ | (simp; done) | (simp; omega)))))⟩
        case measure => simp [intOf]; omega
      · have hok' : pnt v = false := by simpa using hok
        clear hok
        go_wp2_with (first
          | (go_at_call 27; refine (RetB.grown (refPnt_any v _)).mono ?_; rintro e' w' ⟨rfl, g, rfl⟩)
          | (refine wp_region_xt (by kernel_rfl) (by kernel_rfl) ?_; (repeat (go_big_quiet_step (first | (go_at_call 27; exact RetB.quiet (refPnt_any v _))))); refine wpQuiet_nil ?_; intro g))
        go_ret2
        exact RetB.of rfl (by repeat' (first | exact Below.refl _ _ | assumption | refine Below.xt ?_ ?_ _ | refine Below.alloc ?_ ?_ _ | refine Below.drew ?_ | refine Below.setCell ?_ ?_ _ | (simp; done) | (simp; omega)))
    · exfalso
      obtain ⟨j, hj, hf⟩ := HP.out
      have := HK.out j (by omega)
      rw [hf] at this
      cases this

set_option maxRecDepth 100000 in
set_option maxHeartbeats 3200000 in
theorem refAssign_full (q : Gd) (b o n cap : Nat) (l : List V3) (w : World) (h : gval q = true) (hn : n = l.length) (hm : n ≤ 4294967296) (hr : RowV w (some ⟨b, o, none⟩) l) (hp : ∀ i, i < n → pointAt l i = true) (hl : q.n < n) :
    Calls Try.prog 24 #[.agg #[.int .i64 q.ox, .int .i64 q.oy, .int .i64 q.oz, .int .i64 q.rows, .int .i64 q.cols, .int .i64 q.sp], .slice (some ⟨b, o, none⟩) n cap] w (RetB (.tuple #[.slice none 0 0, .int .i64 7]) w) := by
  obtain ⟨b', o', ea, hb, hc⟩ := hr.at_ (by omega)
  injection ea with ea
  injection ea with e1 e2
  subst e1 e2
  have HN := Lib.hid hn
  have HC := Lib.hid hc
  have HP := Lib.hid hp
  have C := fun w => Lib.hid (refvalid_any q w)
  rw [h] at C
  have CS := fun w => Lib.hid (refSpots_ok q w h)
  have hl' : (spots q).length < n := by rw [spots_len]; exact hl
  have d1 : decide ((spots q).length < n) = true := by simpa using hl'
  have d2' : decide (((spots q).length : Int) < (n : Int)) = true := by simp; omega
  clear hn hr hp hc h hl
  go_enter Try.func24, Try.ntmps24
  go_wp2_with fail
  refine (RetB.grown (C _).out).mono ?_
  rintro e' w' ⟨rfl, g1, rfl⟩
  go_wp2_with fail
  go_loopw [6] (fun i wr => ∃ (k : Nat) (g : Gr), k ≤ n ∧ i = .int .i64 k ∧ wr = xt (w.alloc (.cells #[.int .i64 q.ox, .int .i64 q.oy, .int .i64 q.oz, .int .i64 q.rows, .int .i64 q.cols, .int .i64 q.sp] 25)) g) (fun i _ => n - (intOf i).toNat)
  case atStart => exact ⟨0, _, by omega, rfl, rfl⟩
  case round =>
    obtain ⟨k, g, hk, rfl, rfl⟩ := hrel
    by_cases hlt : k < n
    · obtain ⟨hx, hy, hz⟩ := RowV.cells HC.out (HN.out ▸ hlt)
      have hv := HP.out k hlt
      unfold pointAt at hv
      generalize at_ l k = v at *
      go_wp2_with (first
        | (go_at_call 27; refine (RetB.grown (refPnt_any v _)).mono ?_; rintro e' w' ⟨rfl, g, rfl⟩)
        | (refine wp_region_xt (by kernel_rfl) (by kernel_rfl) ?_; (repeat (go_big_quiet_step (first | (go_at_call 27; exact RetB.quiet (refPnt_any v _))))); refine wpQuiet_nil ?_; intro g))
      go_roundw
      case rel => exact ⟨k + 1, _, by omega, by go_num, (Classical.choose_spec (xt_of_below (by repeat' (first | exact Below.refl _ _ | assumption | refine Below.xt ?_ ?_ _ | refine Below.alloc ?_ ?_ _ | refine Below.drew ?_ | refine Below.setCell ?_ ?_ _ | (simp; done) | (simp; omega)))))⟩
      case measure => simp [intOf]; omega
    · go_wp2_with fail
      refine (CS _).out.mono ?_
      rintro e w' ⟨A', c', rfl, hb1, hrow⟩
      obtain ⟨g2, rfl⟩ := xt_of_below hb1
      clear hrow hb1
      go_wp2_with fail
      go_ret2
      exact RetB.of rfl (by repeat' (first | exact Below.refl _ _ | assumption | refine Below.xt ?_ ?_ _ | refine Below.alloc ?_ ?_ _ | refine Below.drew ?_ | refine Below.setCell ?_ ?_ _ | (simp; done) | (simp; omega)))

set_option maxRecDepth 100000 in
set_option maxHeartbeats 6400000 in
theorem refAssign_ok (q : Gd) (A : Option Addr) (n cap : Nat) (pts : List V3) (w : World) (h : gval q = true) (hn : n = pts.length) (hr : RowV w A pts) (hp : ∀ i, i < n → pointAt pts i = true) (hl : n ≤ q.n) :
    Calls Try.prog 24 #[.agg #[.int .i64 q.ox, .int .i64 q.oy, .int .i64 q.oz, .int .i64 q.rows, .int .i64 q.cols, .int .i64 q.sp], .slice A n cap] w (RetInts (asgs (spots q) pts n) 0 w) := by
  have hN := g_n (gval_iff.1 h).2.1
  have HR := Lib.hid hr
  have HPS := Lib.hid (show ∀ i, i < (spots q).length → pnt (at_ (spots q) i) = true from fun i hi => spots_pnt h (by rwa [spots_len] at hi))
  have hl' : n ≤ (spots q).length := by rw [spots_len]; exact hl
  have hL : (spots q).length ≤ 256 := by rw [spots_len]; omega
  have hL0 : 0 < (spots q).length := by rw [spots_len]; omega
  have HN := Lib.hid hn
  have HP := Lib.hid hp
  have C := fun w => Lib.hid (refvalid_any q w)
  rw [h] at C
  have CS := fun w => Lib.hid (refSpots_ok q w h)
  generalize spots q = l at *
  have d28 : decide (l.length < n) = false := by simp; omega
  have d28' : decide ((l.length : Int) < (n : Int)) = false := by simp; omega
  have hmk := fun W => mk_bools l.length (by omega) W
  clear h hr hn hp hl hN
  obtain ⟨i0, hi0, hz0, hz1, hz2⟩ := info_parts infoInt
  go_enter Try.func24, Try.ntmps24
  go_wp2_with fail
  refine (RetB.grown (C _).out).mono ?_
  rintro e' w' ⟨rfl, g1, rfl⟩
  go_wp2_with fail
  rcases Nat.eq_zero_or_pos n with h0 | h0
  · subst h0
    refine wp_loop_rounds 1 ?_
    rw [rounds_succ]
    go_wp2_with fail
    refine (CS _).out.mono ?_
    rintro e w' ⟨A', c', rfl, hb1, hrow⟩
    obtain ⟨g2, rfl⟩ := xt_of_below hb1
    clear hrow hb1
    go_wp2_with fail
    go_rounds 1
    go_ret2
    exact ⟨none, 0, rfl, (by repeat' (first | exact Below.refl _ _ | assumption | refine Below.xt ?_ ?_ _ | refine Below.alloc ?_ ?_ _ | refine Below.drew ?_ | refine Below.setCell ?_ ?_ _ | (simp; done) | (simp; omega))), Row.none_⟩
  obtain ⟨b, o, rfl, hb, hc⟩ := HR.out.at_ (HN.out ▸ h0)
  have HC := Lib.hid hc
  clear hc
  go_loopw [6] (fun i wr => ∃ (k : Nat) (g : Gr), k ≤ n ∧ i = .int .i64 k ∧ wr = xt (w.alloc (.cells #[.int .i64 q.ox, .int .i64 q.oy, .int .i64 q.oz, .int .i64 q.rows, .int .i64 q.cols, .int .i64 q.sp] 25)) g) (fun i _ => n - (intOf i).toNat)
  case atStart => exact ⟨0, _, by omega, rfl, rfl⟩
  case round =>
    obtain ⟨k, g, hk, rfl, rfl⟩ := hrel
    by_cases hlt : k < n
    · obtain ⟨hx, hy, hz⟩ := RowV.cells HC.out (HN.out ▸ hlt)
      have hv := HP.out k hlt
      unfold pointAt at hv
      generalize at_ pts k = v at *
      go_wp2_with (first
        | (go_at_call 27; refine (RetB.grown (refPnt_any v _)).mono ?_; rintro e' w' ⟨rfl, g, rfl⟩)
        | (refine wp_region_xt (by kernel_rfl) (by kernel_rfl) ?_; (repeat (go_big_quiet_step (first | (go_at_call 27; exact RetB.quiet (refPnt_any v _))))); refine wpQuiet_nil ?_; intro g))
      go_roundw
      case rel => exact ⟨k + 1, _, by omega, by go_num, (Classical.choose_spec (xt_of_below (by repeat' (first | exact Below.refl _ _ | assumption | refine Below.xt ?_ ?_ _ | refine Below.alloc ?_ ?_ _ | refine Below.drew ?_ | refine Below.setCell ?_ ?_ _ | (simp; done) | (simp; omega)))))⟩
      case measure => simp [intOf]; omega
    · go_wp2_with fail
      refine (CS _).out.mono ?_
      rintro e W1 ⟨A', c', rfl, hb1, hrow⟩
      have hBW : Below w.heap.size w W1 := Below.next (by repeat' (first | exact Below.refl _ _ | assumption | refine Below.xt ?_ ?_ _ | refine Below.alloc ?_ ?_ _ | refine Below.drew ?_ | refine Below.setCell ?_ ?_ _ | (simp; done) | (simp; omega))) hb1 (by simp; omega)
      have HS1 := Lib.hid hrow
      clear hrow hb1 C CS HR hlt hk
      have hb1 : old b W1 := Nat.lt_of_lt_of_le hb hBW.size
      go_wp2_with fail
      have HC1 := Lib.hid (show ∀ i j, i < pts.length → j < 3 → W1.cell? ⟨b, o + i * 3 + j, none⟩ = some (vcell (at_ pts i) j) from fun i j hi hj => (hBW.cell (p := ⟨b, o + i * 3 + j, none⟩) hb).trans (HC.out i j hi hj))
      clear hb HC
      go_loopw [9, 10] (fun s i wr => ∃ (k : Nat) (g : Gr), k ≤ n ∧ i = .int .i64 k ∧ wr = xt (W1.alloc (.cells (arrB l.length (tk (far l pts) l.length k)) 4)) g ∧ Hid ((xt (W1.alloc (.cells (arrB l.length (tk (far l pts) l.length k)) 4)) g).ownsRow (W1.heap.size + 1) 3 1 s k ((asgs l pts k).map (Value.int .i64)))) (fun _ i _ => n - (intOf i).toNat)
      case atStart => exact ⟨0, ⟨[], _⟩, by omega, rfl, (xt_self _).symm, own_nil⟩
      case round =>
        obtain ⟨k, g, hk, rfl, rfl, HO⟩ := hrel
        by_cases hlt : k < n
        · obtain ⟨hx, hy, hz⟩ := RowV.cells HC1.out (HN.out ▸ hlt)
          obtain ⟨j1, j2⟩ := asg_bd (F := far l pts) (n := l.length) (k := k) (by omega)
          have HE := Lib.hid (asgs_succ l pts k)
          have CN := fun w hr hs => Lib.hid (show Calls Try.prog 39 #[.slice A' l.length c', .slice (some ⟨W1.heap.size, 0, none⟩) l.length l.length, .agg #[.int .i64 (at_ pts k).x, .int .i64 (at_ pts k).y, .int .i64 (at_ pts k).z]] w (RetB (.int .i64 (asg (far l pts) l.length k)) w) from refnear_any l A' _ l.length c' _ (tk (far l pts) l.length k) (at_ pts k) w rfl (by omega) hr hs HPS.out (HP.out k hlt))
          obtain ⟨j, hj⟩ := Int.eq_ofNat_of_zero_le j1
          have hjl : j < l.length := by omega
          have HA := Lib.hid (show (arrB l.length (tk (far l pts) l.length k)).setIfInBounds j (.bool true) = arrB l.length (tk (far l pts) l.length (k + 1)) by rw [arrB_set hjl, ← hj]; rfl)
          have q0 := arrB_get (n := l.length) (i := j) (S := tk (far l pts) l.length k) hjl
          rw [hj] at HE CN
          clear hj j1 j2
          generalize at_ pts k = p at *
          obtain ⟨S, hS⟩ : ∃ S, tk (far l pts) l.length k = S := ⟨_, rfl⟩
          rw [hS] at HA q0 CN HO ⊢
          clear hS
          go_wp2_with fail
          refine (RetB.grown (CN _ (Row.xt (Row.alloc HS1.out _) _) (Row.xt (rowB_made rfl) _)).out).mono ?_
          rintro e' w' ⟨rfl, g2, rfl⟩
          clear CN
          go_wp2_with (at_builtin; go_must (refine wpList_append_own _ rfl _ _ 43 rfl (W1.heap.size + 1) 3 i0 _ 1 8 Try.underlying43 hi0 hz0 hz1 hz2 rfl (by omega) u9 k ((asgs l pts k).map (Value.int .i64)) rfl (by repeat (first | (with_reducible exact own_swap HO.out) | (with_reducible exact own_swap (own_drawn HO.out _)) | (with_reducible refine World.ownsRow.alloc ?_ _) | (with_reducible refine own_xt ?_ _))) _ 1 _ [.int .i64 (j : Int)] rfl rfl ?_ ?_ ?_ ?_ ?_ ?_))
          · exact cells_new _ _ _ _ (by simp)
          · intro u hu; simp only [List.mem_cons, List.not_mem_nil, or_false] at hu; rcases hu with rfl; rfl
          · simp only [maxLen]; omega
          · omega
          · simp; omega
          intro v1 w1 hown1 hgr1 _
          have hb1 : Below (W1.heap.size + 1) (W1.alloc (.cells ((arrB l.length S).setIfInBounds j (.bool true)) 4)) w1 := below_grown (n := k) (v := u9) (xs := (asgs l pts k).map (Value.int .i64)) (e := 3) (s := 1) (by repeat' (first | exact Below.refl _ _ | assumption | refine Below.xt ?_ ?_ _ | refine Below.alloc ?_ ?_ _ | refine Below.drew ?_ | refine Below.setCell ?_ ?_ _ | (simp; done) | (simp; omega))) (by simp; omega) (by repeat (first | (with_reducible exact own_swap HO.out) | (with_reducible exact own_swap (own_drawn HO.out _)) | (with_reducible refine World.ownsRow.alloc ?_ _) | (with_reducible refine own_xt ?_ _))) hgr1
          obtain ⟨g9, rfl⟩ := xt_of_below (show Below (W1.alloc (.cells ((arrB l.length S).setIfInBounds j (.bool true)) 4)).heap.size _ w1 by rw [World.size_alloc]; exact hb1)
          have HO1 := Lib.hid (show (xt (W1.alloc (.cells (arrB l.length (tk (far l pts) l.length (k + 1))) 4)) g9).ownsRow (W1.heap.size + 1) 3 1 v1 (k + 1) ((asgs l pts (k + 1)).map (Value.int .i64)) by rw [HE.out, List.map_append, ← HA.out]; exact hown1)
          clear hown1 hgr1 hb1 HO
          go_wp2_with fail
          go_roundw
          case rel =>
            refine ⟨k + 1, g9, by omega, by go_num, ?_, HO1⟩
            rw [HA.out]
          case measure => simp [intOf]; omega
        · have e1 : k = n := by omega
          subst e1
          go_wp2_with fail
          obtain ⟨A2, c2, rfl, hrow⟩ := RowI.of_own (l := asgs l pts k) HO.out (asgs_len _ _ _).symm
          go_ret2
          exact ⟨_, _, rfl, Below.next hBW (show Below W1.heap.size W1 _ from (by repeat' (first | exact Below.refl _ _ | assumption | refine Below.xt ?_ ?_ _ | refine Below.alloc ?_ ?_ _ | refine Below.drew ?_ | refine Below.setCell ?_ ?_ _ | (simp; done) | (simp; omega)))) hBW.size, hrow⟩

end Go.Proofs.Ytoaakjkflcjkhaa

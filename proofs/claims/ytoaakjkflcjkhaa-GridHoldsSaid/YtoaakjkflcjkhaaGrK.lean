/- Walks: equal lists; the examples of the chapter on grids. Conditions stand in each theorem. -/
import Derived.Test.YtoaakjkflcjkhaaGrW6
namespace Go.Proofs.Ytoaakjkflcjkhaa
open Go.RowKit
set_option linter.unusedVariables false

theorem rowI_made {w : World} {L : List Int} {m : Nat} {T : TypeId} (hm : m = w.heap.size) : RowI (w.alloc (.cells (L.map (Value.int .i64)).toArray T)) (some ⟨m, 0, none⟩) L :=
  Row.made hm fun i j hi hj => by
    have e : j = 0 := by omega
    subst e
    rw [Nat.mul_one, Nat.add_zero]
    simp [icell, hi, List.getD]

theorem rowI_13 {w : World} {m : Nat} {T : TypeId} (hm : m = w.heap.size) : RowI (w.alloc (.cells #[.int .i64 1, .int .i64 3] T)) (some ⟨m, 0, none⟩) [1, 3] := rowI_made (L := [1, 3]) hm
theorem rowI_135 {w : World} {m : Nat} {T : TypeId} (hm : m = w.heap.size) : RowI (w.alloc (.cells #[.int .i64 1, .int .i64 3, .int .i64 5] T)) (some ⟨m, 0, none⟩) [1, 3, 5] := rowI_made (L := [1, 3, 5]) hm
theorem rowI_013 {w : World} {m : Nat} {T : TypeId} (hm : m = w.heap.size) : RowI (w.alloc (.cells #[.int .i64 0, .int .i64 1, .int .i64 3] T)) (some ⟨m, 0, none⟩) [0, 1, 3] := rowI_made (L := [0, 1, 3]) hm

set_option maxHeartbeats 800000 in
theorem same_ints (A B : Option Addr) (n m c d : Nat) (L : List Int) (w : World) (hn : n = L.length) (hm' : m = L.length) (hm : n ≤ 4294967296) (ha : RowI w A L) (hb : RowI w B L) :
    Calls Try.prog 20 #[.slice A n c, .slice B m d] w (RetB (.bool true) w) := by
  subst hm'
  subst hn
  rcases Nat.eq_zero_or_pos L.length with h0 | h0
  · rw [h0]
    clear ha hb
    go_enter Try.func20, Try.ntmps20
    go_wp2_with fail
    go_rounds 1
    go_ret
    exact RetB.of rfl (by repeat' (first | exact Below.refl _ _ | assumption | refine Below.xt ?_ ?_ _ | refine Below.alloc ?_ ?_ _ | refine Below.drew ?_ | refine Below.setCell ?_ ?_ _ | (simp; done) | (simp; omega)))
  · obtain ⟨a, o, rfl, ho, hc⟩ := ha.at_ h0
    obtain ⟨b, q, rfl, hq, hd⟩ := hb.at_ h0
    have HC := Lib.hid hc
    have HD := Lib.hid hd
    clear hc hd ha hb
    obtain ⟨n, hn⟩ : ∃ n, n = L.length := ⟨_, rfl⟩
    rw [← hn] at h0 hm HC HD ⊢
    clear hn
    go_enter Try.func20, Try.ntmps20
    go_wp2_with fail
    go_loopw [5] (fun i wr => ∃ (k : Nat) (g : Gr), k ≤ n ∧ i = .int .i64 k ∧ wr = xt w g) (fun i _ => n - (intOf i).toNat)
    case atStart => exact ⟨0, ⟨[], _⟩, by omega, rfl, (xt_self _).symm⟩
    case round =>
      obtain ⟨k, g, hk, rfl, rfl⟩ := hrel
      by_cases hlt : k < n
      · have hx := HC.out k hlt
        have gx := HD.out k hlt
        generalize L.getD k 0 = v at *
        go_wp2_with (first
          | (refine wp_region_xt (by kernel_rfl) (by kernel_rfl) ?_; (repeat (go_big_quiet_step (first | fail))); refine wpQuiet_nil ?_; intro g))
        go_roundw
        case rel => exact ⟨k + 1, _, by omega, by go_num, (Classical.choose_spec (xt_of_below (by repeat' (first | exact Below.refl _ _ | assumption | refine Below.xt ?_ ?_ _ | refine Below.alloc ?_ ?_ _ | refine Below.drew ?_ | refine Below.setCell ?_ ?_ _ | (simp; done) | (simp; omega)))))⟩
        case measure => simp [intOf]; omega
      · go_wp2_with fail
        go_ret
        exact RetB.of rfl (by repeat' (first | exact Below.refl _ _ | assumption | refine Below.xt ?_ ?_ _ | refine Below.alloc ?_ ?_ _ | refine Below.drew ?_ | refine Below.setCell ?_ ?_ _ | (simp; done) | (simp; omega)))

set_option maxHeartbeats 800000 in
theorem same_vecs (A B : Option Addr) (n m c d : Nat) (L : List V3) (w : World) (hn : n = L.length) (hm' : m = L.length) (hm : n ≤ 4294967296) (ha : RowV w A L) (hb : RowV w B L) :
    Calls Try.prog 16 #[.slice A n c, .slice B m d] w (RetB (.bool true) w) := by
  subst hm'
  subst hn
  rcases Nat.eq_zero_or_pos L.length with h0 | h0
  · rw [h0]
    clear ha hb
    go_enter Try.func16, Try.ntmps16
    go_wp2_with fail
    go_rounds 1
    go_ret
    exact RetB.of rfl (by repeat' (first | exact Below.refl _ _ | assumption | refine Below.xt ?_ ?_ _ | refine Below.alloc ?_ ?_ _ | refine Below.drew ?_ | refine Below.setCell ?_ ?_ _ | (simp; done) | (simp; omega)))
  · obtain ⟨a, o, rfl, ho, hc⟩ := ha.at_ h0
    obtain ⟨b, q, rfl, hq, hd⟩ := hb.at_ h0
    have HC := Lib.hid fun k hk => RowV.cells hc (i := k) hk
    have HD := Lib.hid fun k hk => RowV.cells hd (i := k) hk
    clear hc hd ha hb
    obtain ⟨n, hn⟩ : ∃ n, n = L.length := ⟨_, rfl⟩
    rw [← hn] at h0 hm HC HD ⊢
    clear hn
    go_enter Try.func16, Try.ntmps16
    go_wp2_with fail
    go_loopw [5] (fun i wr => ∃ (k : Nat) (g : Gr), k ≤ n ∧ i = .int .i64 k ∧ wr = xt w g) (fun i _ => n - (intOf i).toNat)
    case atStart => exact ⟨0, ⟨[], _⟩, by omega, rfl, (xt_self _).symm⟩
    case round =>
      obtain ⟨k, g, hk, rfl, rfl⟩ := hrel
      by_cases hlt : k < n
      · obtain ⟨hx, hy, hz⟩ := HC.out k hlt
        obtain ⟨gx, gy, gz⟩ := HD.out k hlt
        generalize at_ L k = v at *
        go_wp2_with (first
          | (refine wp_region_xt (by kernel_rfl) (by kernel_rfl) ?_; (repeat (go_big_quiet_step (first | fail))); refine wpQuiet_nil ?_; intro g))
        go_roundw
        case rel => exact ⟨k + 1, _, by omega, by go_num, (Classical.choose_spec (xt_of_below (by repeat' (first | exact Below.refl _ _ | assumption | refine Below.xt ?_ ?_ _ | refine Below.alloc ?_ ?_ _ | refine Below.drew ?_ | refine Below.setCell ?_ ?_ _ | (simp; done) | (simp; omega)))))⟩
        case measure => simp [intOf]; omega
      · go_wp2_with fail
        go_ret
        exact RetB.of rfl (by repeat' (first | exact Below.refl _ _ | assumption | refine Below.xt ?_ ?_ _ | refine Below.alloc ?_ ?_ _ | refine Below.drew ?_ | refine Below.setCell ?_ ?_ _ | (simp; done) | (simp; omega)))

set_option maxHeartbeats 400000 in
theorem list_ok (A B : Option Addr) (n m c d : Nat) (L : List Int) (w : World) (hn : n = L.length) (hm' : m = L.length) (hm : n ≤ 4294967296) (ha : RowI w A L) (hb : RowI w B L) :
    Calls Try.prog 28 #[.slice A n c, .int .i64 0, .slice B m d] w (RetB (.bool true) w) := by
  have C := Lib.hid (same_ints A B n m c d L w hn hm' hm ha hb)
  clear ha hb hn hm'
  go_enter Try.func28, Try.ntmps28
  go_wp2_with (first
    | (go_at_call 20; refine (RetB.grown (C.out)).mono ?_; rintro e' w' ⟨rfl, g, rfl⟩)
    | (refine wp_region_xt (by kernel_rfl) (by kernel_rfl) ?_; (repeat (go_big_quiet_step (first | (go_at_call 20; exact RetB.quiet (C.out))))); refine wpQuiet_nil ?_; intro g))
  go_ret
  exact RetB.of rfl (by repeat' (first | exact Below.refl _ _ | assumption | refine Below.xt ?_ ?_ _ | refine Below.alloc ?_ ?_ _ | refine Below.drew ?_ | refine Below.setCell ?_ ?_ _ | (simp; done) | (simp; omega)))
set_option maxHeartbeats 400000 in
theorem vecL_any (x y z : Int) (w : World) : Calls Try.prog 36 #[.int .i64 x, .int .i64 y, .int .i64 z] w (RetB (.agg #[.int .i64 x, .int .i64 y, .int .i64 z]) w) := by
  go_enter Try.func36, Try.ntmps36
  go_wp2
  refine bodyPost_ret (v := .agg #[.int .i64 x, .int .i64 y, .int .i64 z]) (by simp [results, Try.results36, go_sem]) rfl ?_
  exact RetB.of rfl (by repeat' (first | exact Below.refl _ _ | assumption | refine Below.xt ?_ ?_ _ | refine Below.alloc ?_ ?_ _ | refine Below.drew ?_ | refine Below.setCell ?_ ?_ _ | (simp; done) | (simp; omega)))
set_option maxHeartbeats 400000 in
theorem given_any (w : World) : Calls Try.prog 35 #[] w (RetB (.agg #[.int .i64 100, .int .i64 200, .int .i64 0, .int .i64 2, .int .i64 3, .int .i64 50]) w) := by
  go_enter Try.func35, Try.ntmps35
  go_wp2_with (first
    | (go_at_call 36; refine (RetB.grown (vecL_any _ _ _ _)).mono ?_; rintro e' w' ⟨rfl, g, rfl⟩)
    | (refine wp_region_xt (by kernel_rfl) (by kernel_rfl) ?_; (repeat (go_big_quiet_step (first | (go_at_call 36; exact RetB.quiet (vecL_any _ _ _ _))))); refine wpQuiet_nil ?_; intro g))
  refine bodyPost_ret (v := .agg #[.int .i64 100, .int .i64 200, .int .i64 0, .int .i64 2, .int .i64 3, .int .i64 50]) (by simp [results, Try.results35, go_sem]) rfl ?_
  exact RetB.of rfl (by repeat' (first | exact Below.refl _ _ | assumption | refine Below.xt ?_ ?_ _ | refine Below.alloc ?_ ?_ _ | refine Below.drew ?_ | refine Below.setCell ?_ ?_ _ | (simp; done) | (simp; omega)))

def q0 : Gd := ⟨100, 200, 0, 2, 3, 50⟩
theorem kv : gval q0 = true := by decide
theorem kSpot4 (w : World) : Calls Try.prog 8 #[.agg #[.int .i64 100, .int .i64 200, .int .i64 0, .int .i64 2, .int .i64 3, .int .i64 50], .int .i64 4] w (RetB (.tuple #[.agg #[.int .i64 150, .int .i64 250, .int .i64 0], .int .i64 0]) w) := Spot_ok q0 4 w kv (by decide) (by decide)
theorem kSpot6 (w : World) : Calls Try.prog 8 #[.agg #[.int .i64 100, .int .i64 200, .int .i64 0, .int .i64 2, .int .i64 3, .int .i64 50], .int .i64 6] w (RetB (.tuple #[.agg #[.int .i64 0, .int .i64 0, .int .i64 0], .int .i64 3]) w) := Spot_bad q0 6 w 3 (.inr rfl) (by decide)
theorem kIndex11 (w : World) : Calls Try.prog 10 #[.agg #[.int .i64 100, .int .i64 200, .int .i64 0, .int .i64 2, .int .i64 3, .int .i64 50], .int .i64 1, .int .i64 1] w (RetB (.tuple #[.int .i64 4, .int .i64 0]) w) := by
  have c := Index_any q0 1 1 w
  rw [show rcI q0 1 1 = 4 by decide, show rcE q0 1 1 = 0 by decide] at c
  exact c
theorem kIndex20 (w : World) : Calls Try.prog 10 #[.agg #[.int .i64 100, .int .i64 200, .int .i64 0, .int .i64 2, .int .i64 3, .int .i64 50], .int .i64 2, .int .i64 0] w (RetB (.tuple #[.int .i64 0, .int .i64 3]) w) := by
  have c := Index_any q0 2 0 w
  rw [show rcI q0 2 0 = 0 by decide, show rcE q0 2 0 = 3 by decide] at c
  exact c
theorem kNeigh0 (w : World) : Calls Try.prog 18 #[.agg #[.int .i64 100, .int .i64 200, .int .i64 0, .int .i64 2, .int .i64 3, .int .i64 50], .int .i64 0] w (RetInts [1, 3] 0 w) := by
  have c := Neigh_ok q0 0 w kv (by decide) (by decide)
  rw [show neigh q0 0 = [1, 3] by decide] at c
  exact c
theorem kNeigh4 (w : World) : Calls Try.prog 18 #[.agg #[.int .i64 100, .int .i64 200, .int .i64 0, .int .i64 2, .int .i64 3, .int .i64 50], .int .i64 4] w (RetInts [1, 3, 5] 0 w) := by
  have c := Neigh_ok q0 4 w kv (by decide) (by decide)
  rw [show neigh q0 4 = [1, 3, 5] by decide] at c
  exact c
theorem kNear1 (w : World) : Calls Try.prog 21 #[.agg #[.int .i64 100, .int .i64 200, .int .i64 0, .int .i64 2, .int .i64 3, .int .i64 50], .agg #[.int .i64 125, .int .i64 200, .int .i64 90]] w (RetB (.tuple #[.int .i64 0, .int .i64 0]) w) := by
  have c := Near_ok q0 ⟨125, 200, 90⟩ w kv (by decide)
  rw [show nb (dist (spots q0) ⟨125, 200, 90⟩) (fun _ => false) (spots q0).length = 0 by decide] at c
  exact c
theorem kNear2 (w : World) : Calls Try.prog 21 #[.agg #[.int .i64 100, .int .i64 200, .int .i64 0, .int .i64 2, .int .i64 3, .int .i64 50], .agg #[.int .i64 126, .int .i64 226, .int .i64 0]] w (RetB (.tuple #[.int .i64 4, .int .i64 0]) w) := by
  have c := Near_ok q0 ⟨126, 226, 0⟩ w kv (by decide)
  rw [show nb (dist (spots q0) ⟨126, 226, 0⟩) (fun _ => false) (spots q0).length = 4 by decide] at c
  exact c
def o3 : List V3 := [⟨100, 200, 0⟩, ⟨100, 200, 0⟩, ⟨100, 200, 0⟩]
def o7 : List V3 := [⟨100, 200, 0⟩, ⟨100, 200, 0⟩, ⟨100, 200, 0⟩, ⟨100, 200, 0⟩, ⟨100, 200, 0⟩, ⟨100, 200, 0⟩, ⟨100, 200, 0⟩]
theorem rowV_o3 {w : World} {m : Nat} {T : TypeId} (hm : m = w.heap.size) : RowV (w.alloc (.cells #[.int .i64 100, .int .i64 200, .int .i64 0, .int .i64 100, .int .i64 200, .int .i64 0, .int .i64 100, .int .i64 200, .int .i64 0] T)) (some ⟨m, 0, none⟩) o3 :=
  Row.made hm fun i j hi hj => by
    have hi : i = 0 ∨ i = 1 ∨ i = 2 := by simp [o3] at hi; omega
    have hj : j = 0 ∨ j = 1 ∨ j = 2 := by omega
    rcases hi with rfl | rfl | rfl <;> rcases hj with rfl | rfl | rfl <;> rfl
theorem rowV_o7 {w : World} {m : Nat} {T : TypeId} (hm : m = w.heap.size) : RowV (w.alloc (.cells #[.int .i64 100, .int .i64 200, .int .i64 0, .int .i64 100, .int .i64 200, .int .i64 0, .int .i64 100, .int .i64 200, .int .i64 0, .int .i64 100, .int .i64 200, .int .i64 0, .int .i64 100, .int .i64 200, .int .i64 0, .int .i64 100, .int .i64 200, .int .i64 0, .int .i64 100, .int .i64 200, .int .i64 0] T)) (some ⟨m, 0, none⟩) o7 :=
  Row.made hm fun i j hi hj => by
    have hi : i = 0 ∨ i = 1 ∨ i = 2 ∨ i = 3 ∨ i = 4 ∨ i = 5 ∨ i = 6 := by simp [o7] at hi; omega
    have hj : j = 0 ∨ j = 1 ∨ j = 2 := by omega
    rcases hi with rfl | rfl | rfl | rfl | rfl | rfl | rfl <;> rcases hj with rfl | rfl | rfl <;> rfl
theorem pnt_o (l : List V3) (hl : ∀ v ∈ l, v = ⟨100, 200, 0⟩) : ∀ i, i < l.length → pointAt l i = true := by
  intro i hi
  have h : at_ l i = l[i] := by simp [at_, List.getD, hi]
  unfold pointAt
  rw [h, hl _ (List.getElem_mem hi)]
  decide
theorem kAssign3 (b c : Nat) (w : World) (hr : RowV w (some ⟨b, 0, none⟩) o3) : Calls Try.prog 23 #[.agg #[.int .i64 100, .int .i64 200, .int .i64 0, .int .i64 2, .int .i64 3, .int .i64 50], .slice (some ⟨b, 0, none⟩) 3 c] w (RetInts [0, 1, 3] 0 w) := by
  have k := Assign_ok q0 (some ⟨b, 0, none⟩) 3 c o3 w kv rfl hr (pnt_o o3 (by simp [o3])) (by decide)
  rw [show asgs (spots q0) o3 3 = [0, 1, 3] by decide] at k
  exact k
theorem kAssign7 (b c : Nat) (w : World) (hr : RowV w (some ⟨b, 0, none⟩) o7) : Calls Try.prog 23 #[.agg #[.int .i64 100, .int .i64 200, .int .i64 0, .int .i64 2, .int .i64 3, .int .i64 50], .slice (some ⟨b, 0, none⟩) 7 c] w (RetB (.tuple #[.slice none 0 0, .int .i64 7]) w) :=
  Assign_full q0 (some ⟨b, 0, none⟩) 7 c o7 w kv rfl (by decide) hr (pnt_o o7 (by simp [o7])) (by decide)

set_option maxRecDepth 100000 in
set_option maxHeartbeats 6400000 in
theorem known_any (w : World) : Calls Try.prog 15 #[] w (RetB (.bool true) w) := by
  go_enter Try.func15, Try.ntmps15
  go_wp2_with (first
    | (go_at_call 35; refine (RetB.grown (given_any _)).mono ?_; rintro e' w' ⟨rfl, g, rfl⟩)
    | (go_at_call 36; refine (RetB.grown (vecL_any _ _ _ _)).mono ?_; rintro e' w' ⟨rfl, g, rfl⟩)
    | (go_at_call 8; (with_reducible refine (RetB.grown (kSpot4 _)).mono ?_); rintro e' w' ⟨rfl, g, rfl⟩)
    | (go_at_call 8; (with_reducible refine (RetB.grown (kSpot6 _)).mono ?_); rintro e' w' ⟨rfl, g, rfl⟩)
    | (go_at_call 10; (with_reducible refine (RetB.grown (kIndex11 _)).mono ?_); rintro e' w' ⟨rfl, g, rfl⟩)
    | (go_at_call 10; (with_reducible refine (RetB.grown (kIndex20 _)).mono ?_); rintro e' w' ⟨rfl, g, rfl⟩)
    | (refine wp_region_xt (by kernel_rfl) (by kernel_rfl) ?_; (repeat (go_big_quiet_step (first | (go_at_call 35; exact RetB.quiet (given_any _)) | (go_at_call 36; exact RetB.quiet (vecL_any _ _ _ _)) | (go_at_call 8; (with_reducible exact RetB.quiet (kSpot4 _))) | (go_at_call 8; (with_reducible exact RetB.quiet (kSpot6 _))) | (go_at_call 10; (with_reducible exact RetB.quiet (kIndex11 _))) | (go_at_call 10; (with_reducible exact RetB.quiet (kIndex20 _)))))); refine wpQuiet_nil ?_; intro g))
  refine (kNeigh0 _).mono ?_
  rintro e w' ⟨A1, c1, rfl, hb1, hr1⟩
  obtain ⟨g1, rfl⟩ := xt_of_below hb1
  have HA := Lib.hid hr1
  have KA := fun B d w ha hb => Lib.hid (list_ok A1 B 2 2 c1 d [1, 3] w rfl rfl (by decide) ha hb)
  clear hb1 hr1
  go_wp2_with fail
  refine (kNeigh4 _).mono ?_
  rintro e w' ⟨A2, c2, rfl, hb2, hr2⟩
  obtain ⟨g2, rfl⟩ := xt_of_below hb2
  have HB := Lib.hid hr2
  have KB := fun B d w ha hb => Lib.hid (list_ok A2 B 3 3 c2 d [1, 3, 5] w rfl rfl (by decide) ha hb)
  clear hb2 hr2
  go_wp2_with (first
    | (go_at_call 36; refine (RetB.grown (vecL_any _ _ _ _)).mono ?_; rintro e' w' ⟨rfl, g, rfl⟩)
    | (go_at_call 21; (with_reducible refine (RetB.grown (kNear1 _)).mono ?_); rintro e' w' ⟨rfl, g, rfl⟩)
    | (go_at_call 21; (with_reducible refine (RetB.grown (kNear2 _)).mono ?_); rintro e' w' ⟨rfl, g, rfl⟩)
    | (go_at_call 28; (with_reducible refine (RetB.grown ((KA _ _ _ (by repeat (first | (with_reducible exact HA.out) | (with_reducible refine RowI.xt ?_ _) | (with_reducible refine RowI.alloc ?_ _) | (with_reducible refine RowI.drew ?_))) (by repeat (first | (with_reducible refine rowI_13 ?_; simp; done) | (with_reducible refine RowI.xt ?_ _) | (with_reducible refine RowI.drew ?_)))).out)).mono ?_); rintro e' w' ⟨rfl, g, rfl⟩)
    | (go_at_call 28; (with_reducible refine (RetB.grown ((KB _ _ _ (by repeat (first | (with_reducible exact HB.out) | (with_reducible refine RowI.xt ?_ _) | (with_reducible refine RowI.alloc ?_ _) | (with_reducible refine RowI.drew ?_))) (by repeat (first | (with_reducible refine rowI_135 ?_; simp; done) | (with_reducible refine RowI.xt ?_ _) | (with_reducible refine RowI.drew ?_)))).out)).mono ?_); rintro e' w' ⟨rfl, g, rfl⟩)
    | (refine wp_region_xt (by kernel_rfl) (by kernel_rfl) ?_; (repeat (go_big_quiet_step (first | (go_at_call 36; exact RetB.quiet (vecL_any _ _ _ _)) | (go_at_call 21; (with_reducible exact RetB.quiet (kNear1 _))) | (go_at_call 21; (with_reducible exact RetB.quiet (kNear2 _))) | (go_at_call 28; (with_reducible exact RetB.quiet ((KA _ _ _ (by repeat (first | (with_reducible exact HA.out) | (with_reducible refine RowI.xt ?_ _) | (with_reducible refine RowI.alloc ?_ _) | (with_reducible refine RowI.drew ?_))) (by repeat (first | (with_reducible refine rowI_13 ?_; simp; done) | (with_reducible refine RowI.xt ?_ _) | (with_reducible refine RowI.drew ?_)))).out))) | (go_at_call 28; (with_reducible exact RetB.quiet ((KB _ _ _ (by repeat (first | (with_reducible exact HB.out) | (with_reducible refine RowI.xt ?_ _) | (with_reducible refine RowI.alloc ?_ _) | (with_reducible refine RowI.drew ?_))) (by repeat (first | (with_reducible refine rowI_135 ?_; simp; done) | (with_reducible refine RowI.xt ?_ _) | (with_reducible refine RowI.drew ?_)))).out)))))); refine wpQuiet_nil ?_; intro g))
  refine (kAssign3 _ _ _ (by repeat (first | exact rowV_o3 (by simp) | refine Row.drew ?_))).mono ?_
  rintro e w' ⟨A3, c3, rfl, hb3, hr3⟩
  obtain ⟨g3, rfl⟩ := xt_of_below hb3
  have HC := Lib.hid hr3
  have KC := fun B d w ha hb => Lib.hid (list_ok A3 B 3 3 c3 d [0, 1, 3] w rfl rfl (by decide) ha hb)
  clear hb3 hr3
  go_wp2_with (first
    | (go_at_call 23; refine (RetB.grown (kAssign7 _ _ _ (by repeat (first | exact rowV_o7 (by simp) | refine Row.drew ?_)))).mono ?_; rintro e' w' ⟨rfl, g, rfl⟩)
    | (go_at_call 28; (with_reducible refine (RetB.grown ((KC _ _ _ (by repeat (first | (with_reducible exact HC.out) | (with_reducible refine RowI.xt ?_ _) | (with_reducible refine RowI.alloc ?_ _) | (with_reducible refine RowI.drew ?_))) (by repeat (first | (with_reducible refine rowI_013 ?_; simp; done) | (with_reducible refine RowI.xt ?_ _) | (with_reducible refine RowI.drew ?_)))).out)).mono ?_); rintro e' w' ⟨rfl, g, rfl⟩)
    | (refine wp_region_xt (by kernel_rfl) (by kernel_rfl) ?_; (repeat (go_big_quiet_step (first | (go_at_call 23; exact RetB.quiet (kAssign7 _ _ _ (by repeat (first | exact rowV_o7 (by simp) | refine Row.drew ?_)))) | (go_at_call 28; (with_reducible exact RetB.quiet ((KC _ _ _ (by repeat (first | (with_reducible exact HC.out) | (with_reducible refine RowI.xt ?_ _) | (with_reducible refine RowI.alloc ?_ _) | (with_reducible refine RowI.drew ?_))) (by repeat (first | (with_reducible refine rowI_013 ?_; simp; done) | (with_reducible refine RowI.xt ?_ _) | (with_reducible refine RowI.drew ?_)))).out)))))); refine wpQuiet_nil ?_; intro g))
  go_ret
  exact RetB.of rfl (by repeat' (first | exact Below.refl _ _ | assumption | refine Below.xt ?_ ?_ _ | refine Below.alloc ?_ ?_ _ | refine Below.drew ?_ | refine Below.setCell ?_ ?_ _ | (simp; done) | (simp; omega)))

end Go.Proofs.Ytoaakjkflcjkhaa

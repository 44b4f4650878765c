/- Walks of grids, by the reference: one spot, the nearest one that is free, neighbours. Conditions stand in each theorem. -/
import Derived.Test.YtoaakjkflcjkhaaGrR2
import Derived.Test.YtoaakjkflcjkhaaGrW6
namespace Go.Proofs.Ytoaakjkflcjkhaa
open Go.RowKit
set_option linter.unusedVariables false

/-! ### Spot -/
set_option maxHeartbeats 400000 in
theorem refSpot_arg (q : Gd) (i : Int) (w : World) (h : gval q = false) : Calls Try.prog 11 #[.agg #[.int .i64 q.ox, .int .i64 q.oy, .int .i64 q.oz, .int .i64 q.rows, .int .i64 q.cols, .int .i64 q.sp], .int .i64 i] w (RetB (.tuple #[.agg #[.int .i64 0, .int .i64 0, .int .i64 0], .int .i64 2]) w) := by
  go_enter Try.func11, Try.ntmps11
  go_wp2_with (first
    | (go_at_call 14; refine (RetB.grown (refvalid_any q _)).mono ?_; rintro e' w' ⟨rfl, g, rfl⟩)
    | (go_at_call 17; refine (refSpots_ok q _ h).mono ?_; rintro e w' ⟨A, c, rfl, hb, hrow⟩; obtain ⟨g, rfl⟩ := xt_of_below hb; clear hb hrow)
    | (refine wp_region_xt (by kernel_rfl) (by kernel_rfl) ?_; (repeat (go_big_quiet_step (first | (go_at_call 14; exact RetB.quiet (refvalid_any q _))))); refine wpQuiet_nil ?_; intro g))
  refine bodyPost_ret (v := .tuple #[.agg #[.int .i64 0, .int .i64 0, .int .i64 0], .int .i64 2]) (by simp [results, Try.results11, go_sem]) rfl ?_
  exact RetB.of rfl (by repeat' (first | exact Below.refl _ _ | assumption | refine Below.xt ?_ ?_ _ | refine Below.alloc ?_ ?_ _ | refine Below.drew ?_ | refine Below.setCell ?_ ?_ _ | (simp; done) | (simp; omega)))
set_option maxHeartbeats 400000 in
theorem refSpot_low (q : Gd) (i : Int) (w : World) (h : gval q = true) (g1 : decide (i < 0) = true) : Calls Try.prog 11 #[.agg #[.int .i64 q.ox, .int .i64 q.oy, .int .i64 q.oz, .int .i64 q.rows, .int .i64 q.cols, .int .i64 q.sp], .int .i64 i] w (RetB (.tuple #[.agg #[.int .i64 0, .int .i64 0, .int .i64 0], .int .i64 3]) w) := by
  go_enter Try.func11, Try.ntmps11
  go_wp2_with (first
    | (go_at_call 14; refine (RetB.grown (refvalid_any q _)).mono ?_; rintro e' w' ⟨rfl, g, rfl⟩)
    | (go_at_call 17; refine (refSpots_ok q _ h).mono ?_; rintro e w' ⟨A, c, rfl, hb, hrow⟩; obtain ⟨g, rfl⟩ := xt_of_below hb; clear hb hrow)
    | (refine wp_region_xt (by kernel_rfl) (by kernel_rfl) ?_; (repeat (go_big_quiet_step (first | (go_at_call 14; exact RetB.quiet (refvalid_any q _))))); refine wpQuiet_nil ?_; intro g))
  refine bodyPost_ret (v := .tuple #[.agg #[.int .i64 0, .int .i64 0, .int .i64 0], .int .i64 3]) (by simp [results, Try.results11, go_sem]) rfl ?_
  exact RetB.of rfl (by repeat' (first | exact Below.refl _ _ | assumption | refine Below.xt ?_ ?_ _ | refine Below.alloc ?_ ?_ _ | refine Below.drew ?_ | refine Below.setCell ?_ ?_ _ | (simp; done) | (simp; omega)))
set_option maxHeartbeats 400000 in
theorem refSpot_high (q : Gd) (i : Int) (w : World) (h : gval q = true) (g1 : decide (i < 0) = false) (g2 : decide ((q.n : Int) ≤ i) = true) : Calls Try.prog 11 #[.agg #[.int .i64 q.ox, .int .i64 q.oy, .int .i64 q.oz, .int .i64 q.rows, .int .i64 q.cols, .int .i64 q.sp], .int .i64 i] w (RetB (.tuple #[.agg #[.int .i64 0, .int .i64 0, .int .i64 0], .int .i64 3]) w) := by
  rw [← spots_len] at g2
  have HH := Lib.hid h
  clear h
  have C := fun w => Lib.hid (refvalid_any q w)
  rw [HH.out] at C
  go_enter Try.func11, Try.ntmps11
  go_wp2_with (first
    | (go_at_call 14; refine (RetB.grown ((C _).out)).mono ?_; rintro e' w' ⟨rfl, g, rfl⟩)
    | (go_at_call 17; refine (refSpots_ok q _ HH.out).mono ?_; rintro e w' ⟨A, c, rfl, hb, hrow⟩; obtain ⟨g, rfl⟩ := xt_of_below hb; clear hb hrow)
    | (refine wp_region_xt (by kernel_rfl) (by kernel_rfl) ?_; (repeat (go_big_quiet_step (first | (go_at_call 14; exact RetB.quiet ((C _).out))))); refine wpQuiet_nil ?_; intro g))
  refine bodyPost_ret (v := .tuple #[.agg #[.int .i64 0, .int .i64 0, .int .i64 0], .int .i64 3]) (by simp [results, Try.results11, go_sem]) rfl ?_
  exact RetB.of rfl (by repeat' (first | exact Below.refl _ _ | assumption | refine Below.xt ?_ ?_ _ | refine Below.alloc ?_ ?_ _ | refine Below.drew ?_ | refine Below.setCell ?_ ?_ _ | (simp; done) | (simp; omega)))
set_option maxHeartbeats 800000 in
theorem refSpot_ok (q : Gd) (k : Nat) (w : World) (h : gval q = true) (hk : k < q.n) : Calls Try.prog 11 #[.agg #[.int .i64 q.ox, .int .i64 q.oy, .int .i64 q.oz, .int .i64 q.rows, .int .i64 q.cols, .int .i64 q.sp], .int .i64 (k : Int)] w (RetB (.tuple #[.agg #[.int .i64 (q.spot k).x, .int .i64 (q.spot k).y, .int .i64 (q.spot k).z], .int .i64 0]) w) := by
  have hn := g_n (gval_iff.1 h).2.1
  have hl : k < (spots q).length := by rw [spots_len]; exact hk
  have hs := spots_at hk
  have hm : (spots q).length ≤ 256 := by rw [spots_len]; omega
  have g1 : decide ((k : Int) < 0) = false := by simp
  have g2 : decide (((spots q).length : Int) ≤ k) = false := by simp; omega
  have g3 : decide ((spots q).length ≤ k) = false := by simp; omega
  rw [← hs]
  have HH := Lib.hid h
  have C := fun w => Lib.hid (refvalid_any q w)
  rw [HH.out] at C
  clear h hn hs hk
  go_enter Try.func11, Try.ntmps11
  go_wp2_with fail
  refine (RetB.grown (C _).out).mono ?_
  rintro e w' ⟨rfl, g, rfl⟩
  go_wp2_with fail
  refine (refSpots_ok q _ HH.out).mono ?_
  rintro e w' ⟨A, c, rfl, hb, hrow⟩
  obtain ⟨g, rfl⟩ := xt_of_below hb
  generalize spots q = l at *
  obtain ⟨b, o, rfl, hbo, hc⟩ := hrow.at_ (by omega)
  obtain ⟨hx, hy, hz⟩ := RowV.cells hc hl
  clear hb hrow hc
  generalize at_ l k = v at *
  go_wp2_with fail
  refine bodyPost_ret (v := .tuple #[.agg #[.int .i64 v.x, .int .i64 v.y, .int .i64 v.z], .int .i64 0]) (by simp [results, Try.results11, go_sem]) rfl ?_
  exact RetB.of rfl (by repeat' (first | exact Below.refl _ _ | assumption | refine Below.xt ?_ ?_ _ | refine Below.alloc ?_ ?_ _ | refine Below.drew ?_ | refine Below.setCell ?_ ?_ _ | (simp; done) | (simp; omega)))
def spX (q : Gd) (i : Int) : V3 := if ixE q i = 0 then q.spot i else ⟨0, 0, 0⟩
theorem refSpot_any (q : Gd) (i : Int) (w : World) : Calls Try.prog 11 #[.agg #[.int .i64 q.ox, .int .i64 q.oy, .int .i64 q.oz, .int .i64 q.rows, .int .i64 q.cols, .int .i64 q.sp], .int .i64 i] w (RetB (.tuple #[.agg #[.int .i64 (spX q i).x, .int .i64 (spX q i).y, .int .i64 (spX q i).z], .int .i64 (ixE q i)]) w) := by
  by_cases h : gval q = true
  · obtain ⟨en, _, _⟩ := g_n (gval_iff.1 h).2.1
    by_cases h0 : 0 ≤ i
    · by_cases hn : i < q.rows * q.cols
      · have e : ixE q i = 0 := by rw [ixE, if_pos h, if_pos ⟨h0, hn⟩]
        rw [spX, e, if_pos rfl]
        obtain ⟨k, rfl⟩ := Int.eq_ofNat_of_zero_le h0
        exact refSpot_ok q k w h (by omega)
      · have e : ixE q i = 3 := by rw [ixE, if_pos h, if_neg (fun h => hn h.2)]
        rw [spX, e]
        exact refSpot_high q i w h (by simp; omega) (by simp; omega)
    · have e : ixE q i = 3 := by rw [ixE, if_pos h, if_neg (fun h => h0 h.1)]
      rw [spX, e]
      exact refSpot_low q i w h (by simp; omega)
  · have e : ixE q i = 2 := by rw [ixE, if_neg h]
    rw [spX, e]
    exact refSpot_arg q i w (by simpa using h)

/-! ### The nearest one that is free -/
def RowB (w : World) (A : Option Addr) (n : Nat) (S : Int → Bool) : Prop := Row w A n 1 fun i _ => .bool (S (i : Int))

set_option maxRecDepth 100000 in
set_option maxHeartbeats 3200000 in
theorem refnear_any (l : List V3) (A B : Option Addr) (n cap cap' : Nat) (S : Int → Bool) (v : V3) (w : World) (hn : n = l.length) (hm : n ≤ 4294967296) (hl : RowV w A l) (ht : RowB w B n S) (hp : ∀ i, i < n → pnt (at_ l i) = true) (hv : pnt v = true) :
    Calls Try.prog 39 #[.slice A n cap, .slice B n cap', .agg #[.int .i64 v.x, .int .i64 v.y, .int .i64 v.z]] w (RetB (.int .i64 (nb (dist l v) S n)) w) := by
  have HN := Lib.hid hn
  have HP := Lib.hid hp
  have HV := Lib.hid hv
  clear hn hp hv
  rcases Nat.eq_zero_or_pos n with h0 | h0
  · subst h0
    clear hl ht
    go_enter Try.func39, Try.ntmps39
    go_wp2_with fail
    go_rounds 1
    go_ret
    exact RetB.of rfl (by repeat' (first | exact Below.refl _ _ | assumption | refine Below.xt ?_ ?_ _ | refine Below.alloc ?_ ?_ _ | refine Below.drew ?_ | refine Below.setCell ?_ ?_ _ | (simp; done) | (simp; omega)))
  · obtain ⟨b, o, rfl, hb, hc⟩ := hl.at_ (HN.out ▸ h0)
    obtain ⟨b2, o2, rfl, hb2, hc2⟩ := Row.at_ ht h0
    have HC := Lib.hid hc
    have HB := Lib.hid (show ∀ i, i < n → w.cell? ⟨b2, o2 + i, none⟩ = some (.bool (S (i : Int))) from fun i hi => by simpa using hc2 i 0 hi (by omega))
    clear hc hl hc2 ht
    go_enter Try.func39, Try.ntmps39
    go_wp2_with fail
    go_loopw [7, 8] (fun bs i wr => ∃ (k : Nat) (g : Gr), k ≤ n ∧ bs = .int .i64 (nb (dist l v) S k) ∧ i = .int .i64 k ∧ wr = xt (w.alloc (.cells #[.int .i64 v.x, .int .i64 v.y, .int .i64 v.z] 23)) g) (fun _ i _ => n - (intOf i).toNat)
    case atStart => exact ⟨0, ⟨[], _⟩, by omega, rfl, rfl, (xt_self _).symm⟩
    case round =>
      obtain ⟨k, g, hk, rfl, rfl, rfl⟩ := hrel
      by_cases hlt : k < n
      · obtain ⟨hx, hy, hz⟩ := RowV.cells HC.out (HN.out ▸ hlt)
        have hs0 := HB.out k hlt
        have HK := Lib.hid (HP.out k hlt)
        have hd : dist l v k = d2 (at_ l k) v := by simp [dist]
        have hs : nb (dist l v) S (k + 1) = if S k = false ∧ (nb (dist l v) S k < 0 ∨ dist l v k < dist l v (nb (dist l v) S k)) then (k : Int) else nb (dist l v) S k := rfl
        have hb2' := (nb_bd (dist l v) S k).1
        have hb3 := (nb_bd (dist l v) S k).2
        have HD := Lib.hid hd
        have HS := Lib.hid hs
        clear hs hd
        obtain ⟨b0, hb0⟩ : ∃ b0, nb (dist l v) S k = b0 := ⟨_, rfl⟩
        rw [hb0] at HS hb2' hb3 ⊢
        clear hb0
        have C := fun w => Lib.hid (refDist_any (at_ l k) v w HK.out HV.out)
        obtain ⟨D, hD⟩ : ∃ D, d2 (at_ l k) v = D := ⟨_, rfl⟩
        rw [hD] at HD C
        rw [HD.out] at HS
        clear hD HD
        obtain ⟨s, hS⟩ : ∃ s, S k = s := ⟨_, rfl⟩
        rw [hS] at HS hs0
        clear hS
        generalize hpk : at_ l k = p at hx hy hz HK C
        clear hpk
        by_cases c1 : s = true
        · subst c1
          have h' : ¬ (true = false ∧ (b0 < 0 ∨ D < dist l v b0)) := fun h => by cases h.1
          have E1 : Hid (nb (dist l v) S (k + 1) = b0) := by have h := HS.out; rw [if_neg h'] at h; exact h
          clear HS h'
          go_wp2_with (first
            | (go_at_call 25; (with_reducible refine (RetB.grown ((C _).out)).mono ?_); rintro e' w' ⟨rfl, g, rfl⟩)
            | (refine wp_region_xt (by kernel_rfl) (by kernel_rfl) ?_; (repeat (go_big_quiet_step (first | (go_at_call 25; (with_reducible exact RetB.quiet ((C _).out)))))); refine wpQuiet_nil ?_; intro g))
          go_roundw
          case rel => exact ⟨k + 1, _, by omega, by rw [E1.out], by go_num, (Classical.choose_spec (xt_of_below (by repeat' (first | exact Below.refl _ _ | assumption | refine Below.xt ?_ ?_ _ | refine Below.alloc ?_ ?_ _ | refine Below.drew ?_ | refine Below.setCell ?_ ?_ _ | (simp; done) | (simp; omega)))))⟩
          case measure => simp [intOf]; omega
        have c1' : s = false := by simpa using c1
        subst c1'
        clear c1
        by_cases c1 : b0 < 0
        · have E1 : Hid (nb (dist l v) S (k + 1) = k) := by have h := HS.out; rw [if_pos ⟨rfl, .inl c1⟩] at h; exact h
          have g1 : decide (b0 < 0) = true := by simpa using c1
          clear HS
          go_wp2_with (first
            | (go_at_call 25; (with_reducible refine (RetB.grown ((C _).out)).mono ?_); rintro e' w' ⟨rfl, g, rfl⟩)
            | (refine wp_region_xt (by kernel_rfl) (by kernel_rfl) ?_; (repeat (go_big_quiet_step (first | (go_at_call 25; (with_reducible exact RetB.quiet ((C _).out)))))); refine wpQuiet_nil ?_; intro g))
          go_roundw
          case rel => exact ⟨k + 1, _, by omega, by rw [E1.out], by go_num, (Classical.choose_spec (xt_of_below (by repeat' (first | exact Below.refl _ _ | assumption | refine Below.xt ?_ ?_ _ | refine Below.alloc ?_ ?_ _ | refine Below.drew ?_ | refine Below.setCell ?_ ?_ _ | (simp; done) | (simp; omega)))))⟩
          case measure => simp [intOf]; omega
        obtain ⟨j, rfl⟩ := Int.eq_ofNat_of_zero_le (show 0 ≤ b0 by omega)
        have hjn : j < n := by omega
        obtain ⟨gx, gy, gz⟩ := RowV.cells HC.out (HN.out ▸ hjn)
        have C0 := fun w => Lib.hid (refDist_any (at_ l j) v w (HP.out j hjn) HV.out)
        have hd0 : dist l v j = d2 (at_ l j) v := by simp [dist]
        obtain ⟨D0, hD0⟩ : ∃ D0, d2 (at_ l j) v = D0 := ⟨_, rfl⟩
        rw [hD0] at hd0 C0
        rw [hd0] at HS
        clear hd0 hD0
        generalize hpj : at_ l j = p0 at gx gy gz C0
        clear hpj
        have g1 : decide ((j : Int) < 0) = false := by simp
        by_cases c2 : D < D0
        · have E1 : Hid (nb (dist l v) S (k + 1) = k) := by have h := HS.out; rw [if_pos ⟨rfl, .inr c2⟩] at h; exact h
          have g2 : decide (D < D0) = true := by simpa using c2
          clear HS
          go_wp2_with (first
            | (go_at_call 25; (with_reducible refine (RetB.grown ((C _).out)).mono ?_); rintro e' w' ⟨rfl, g, rfl⟩)
            | (go_at_call 25; (with_reducible refine (RetB.grown ((C0 _).out)).mono ?_); rintro e' w' ⟨rfl, g, rfl⟩)
            | (refine wp_region_xt (by kernel_rfl) (by kernel_rfl) ?_; (repeat (go_big_quiet_step (first | (go_at_call 25; (with_reducible exact RetB.quiet ((C _).out))) | (go_at_call 25; (with_reducible exact RetB.quiet ((C0 _).out)))))); refine wpQuiet_nil ?_; intro g))
          go_roundw
          case rel => exact ⟨k + 1, _, by omega, by rw [E1.out], by go_num, (Classical.choose_spec (xt_of_below (by repeat' (first | exact Below.refl _ _ | assumption | refine Below.xt ?_ ?_ _ | refine Below.alloc ?_ ?_ _ | refine Below.drew ?_ | refine Below.setCell ?_ ?_ _ | (simp; done) | (simp; omega)))))⟩
          case measure => simp [intOf]; omega
        · have E1 : Hid (nb (dist l v) S (k + 1) = j) := by have h := HS.out; rw [if_neg (fun h => by rcases h.2 with h | h <;> omega)] at h; exact h
          have g2 : decide (D < D0) = false := by simpa using c2
          clear HS
          go_wp2_with (first
            | (go_at_call 25; (with_reducible refine (RetB.grown ((C _).out)).mono ?_); rintro e' w' ⟨rfl, g, rfl⟩)
            | (go_at_call 25; (with_reducible refine (RetB.grown ((C0 _).out)).mono ?_); rintro e' w' ⟨rfl, g, rfl⟩)
            | (refine wp_region_xt (by kernel_rfl) (by kernel_rfl) ?_; (repeat (go_big_quiet_step (first | (go_at_call 25; (with_reducible exact RetB.quiet ((C _).out))) | (go_at_call 25; (with_reducible exact RetB.quiet ((C0 _).out)))))); refine wpQuiet_nil ?_; intro g))
          go_roundw
          case rel => exact ⟨k + 1, _, by omega, by rw [E1.out], by go_num, (Classical.choose_spec (xt_of_below (by repeat' (first | exact Below.refl _ _ | assumption | refine Below.xt ?_ ?_ _ | refine Below.alloc ?_ ?_ _ | refine Below.drew ?_ | refine Below.setCell ?_ ?_ _ | (simp; done) | (simp; omega)))))⟩
          case measure => simp [intOf]; omega
      · have e1 : k = n := by omega
        subst e1
        go_wp2_with fail
        go_ret
        exact RetB.of rfl (by repeat' (first | exact Below.refl _ _ | assumption | refine Below.xt ?_ ?_ _ | refine Below.alloc ?_ ?_ _ | refine Below.drew ?_ | refine Below.setCell ?_ ?_ _ | (simp; done) | (simp; omega)))

end Go.Proofs.Ytoaakjkflcjkhaa

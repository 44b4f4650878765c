
/- The law on large costs by a rule: its walk. Conditions stand in each theorem. -/
import Derived.Test.YtjiknjcmfiapjaaBotKn
import Derived.Test.YtjiknjcmfiapjaaBotO
import Derived.Test.YtjiknjcmfiapjaaBotSq
namespace Go.Proofs.Ytjiknjcmfiapjaa
open Go.RowKit
set_option linter.unusedVariables false
set_option linter.unusedSimpArgs false

/-- The costs of which those ahead of row i, column k have been multiplied. -/
def scl (n : Nat) (a b c d f : Int) (i k : Nat) (r : Nat) : List Int := (List.range n).map fun j => if r < i ∨ (r = i ∧ j < k) then sqE a b c d r j * f else sqE a b c d r j
section
variable {n : Nat} {a b c d f : Int} {i k : Nat}
theorem scl_zero : scl n a b c d f 0 0 = sqG n a b c d := by
  funext r
  unfold scl sqG
  apply List.map_congr_left
  intro j _
  rw [if_neg (by omega)]
theorem scl_row : scl n a b c d f i n = scl n a b c d f (i + 1) 0 := by
  funext r
  unfold scl
  apply List.map_congr_left
  intro j hj
  have hj := List.mem_range.1 hj
  by_cases h : r < i ∨ r = i
  · rw [if_pos (by omega), if_pos (by omega)]
  · rw [if_neg (by omega), if_neg (by omega)]
theorem scl_len (r : Nat) : (scl n a b c d f i k r).length = n := by simp [scl]
theorem scl_get {r j : Nat} (hj : j < n) : (scl n a b c d f i k r).getD j 0 = if r < i ∨ (r = i ∧ j < k) then sqE a b c d r j * f else sqE a b c d r j := by simp [scl, List.getD, hj]
theorem scl_ne {r : Nat} (h : r ≠ i) : scl n a b c d f i (k + 1) r = scl n a b c d f i k r := by
  unfold scl
  apply List.map_congr_left
  intro j _
  by_cases h2 : r < i
  · rw [if_pos (by omega), if_pos (by omega)]
  · rw [if_neg (by omega), if_neg (by omega)]
theorem scl_set (hk : k < n) : scl n a b c d f i (k + 1) i = (scl n a b c d f i k i).set k (sqE a b c d i k * f) := by
  apply List.ext_getElem (by simp [scl])
  intro j h1 h2
  have hj : j < n := by simpa [scl] using h1
  rw [List.getElem_set]
  simp only [scl, List.getElem_map, List.getElem_range]
  by_cases e : k = j
  · subst e; simp
  · by_cases h3 : j < k
    · simp [e, h3, show j < k + 1 by omega]
    · simp [e, h3, show ¬ j < k + 1 by omega]
theorem sqE_bd {r j : Nat} (hd : 1 ≤ d ∧ d ≤ 2000) : 0 ≤ sqE a b c d r j ∧ sqE a b c d r j ≤ 2000 := by
  unfold sqE
  have h1 := Int.emod_nonneg (a * (r : Int) * (r : Int) + b * (j : Int) + c * (r : Int) * (j : Int)) (show d ≠ 0 by omega)
  have h2 := Int.emod_lt_of_pos (a * (r : Int) * (r : Int) + b * (j : Int) + c * (r : Int) * (j : Int)) (show 0 < d by omega)
  omega
theorem scl_cvd (h1 : 1 ≤ n) (h2 : n ≤ 64) (hd : 1 ≤ d ∧ d ≤ 2000) (hf : 1 ≤ f ∧ f ≤ 1000000000) : cvd (scl n a b c d f n 0) n = true := by
  rw [cvd_end fun i hi => ⟨scl_len i, by
    rw [allC_iff]
    intro j hj
    have hj' : j < n := by rw [scl_len] at hj; exact hj
    rw [scl_get hj', if_pos (by omega), inC_iff]
    have hb := sqE_bd (a := a) (b := b) (c := c) (d := d) (r := i) (j := j) hd
    have := mul_bd (x := sqE a b c d i j) (y := f) hb.1 hb.2 (by omega) hf.2
    omega⟩]
  simp [h1, h2]
end
theorem prv_I64 {G : Nat → List Int} {n : Nat} {of cl cr u v : List Int} {g s : Int} (h : prvA G n of g s cl cr u v = true) : (∀ x ∈ u, I64 x) ∧ ∀ x ∈ v, I64 x := by
  simp only [prvA, pr1, pr4, Bool.and_eq_true, decide_eq_true_eq, List.all_eq_true, List.mem_range] at h
  obtain ⟨⟨⟨⟨⟨_, h1⟩, h2⟩, _⟩, _⟩, ⟨h3, _⟩, _⟩ := h
  constructor
  · intro x hx
    obtain ⟨i, hi, rfl⟩ := mem_getD hx
    have := ptB_iff.1 (h3 i (by omega))
    unfold I64; omega
  · intro x hx
    obtain ⟨i, hi, rfl⟩ := mem_getD hx
    have := ptB_iff.1 (h3 i (by omega))
    unfold I64; omega

set_option maxRecDepth 100000 in
set_option maxHeartbeats 12800000 in
theorem BottleneckLarge_walk (n a b c d f : Int) (W : World) (on : I64 n) (oa : I64 a) (ob : I64 b) (oc : I64 c) (od : I64 d) (of_ : I64 f) :
    Calls Try.prog 7 #[.int .i64 n, .int .i64 a, .int .i64 b, .int .i64 c, .int .i64 d, .int .i64 f] W (RetB (.bool true) W) := by
  clear on oa ob oc od of_
  by_cases h0 : n < 1
  · have d0 : decide (n < 1) = true := by simpa using h0
    go_enter Try.func7, Try.ntmps7
    go_wp2_with (go_at_call 9; refine (RetB.grown (known_any _)).mono ?_; rintro e' w' ⟨rfl, gk1, rfl⟩)
    go_ret
    exact ⟨rfl, (by repeat' (first | exact Below.refl _ _ | assumption | refine Below.xt ?_ ?_ _ | refine Below.alloc ?_ ?_ _ | refine Below.drew ?_ | refine Below.setCell ?_ ?_ _ | (simp; done) | (simp; omega)))⟩
  · have d0 : decide (n < 1) = false := by simpa using h0
    by_cases h1 : 64 < n
    · have d1 : decide (64 < n) = true := by simpa using h1
      go_enter Try.func7, Try.ntmps7
      go_wp2_with (go_at_call 9; refine (RetB.grown (known_any _)).mono ?_; rintro e' w' ⟨rfl, gk1, rfl⟩)
      go_ret
      exact ⟨rfl, (by repeat' (first | exact Below.refl _ _ | assumption | refine Below.xt ?_ ?_ _ | refine Below.alloc ?_ ?_ _ | refine Below.drew ?_ | refine Below.setCell ?_ ?_ _ | (simp; done) | (simp; omega)))⟩
    · have d1 : decide (64 < n) = false := by simpa using h1
      by_cases h2 : a < 0
      · have d2 : decide (a < 0) = true := by simpa using h2
        go_enter Try.func7, Try.ntmps7
        go_wp2_with (go_at_call 9; refine (RetB.grown (known_any _)).mono ?_; rintro e' w' ⟨rfl, gk1, rfl⟩)
        go_ret
        exact ⟨rfl, (by repeat' (first | exact Below.refl _ _ | assumption | refine Below.xt ?_ ?_ _ | refine Below.alloc ?_ ?_ _ | refine Below.drew ?_ | refine Below.setCell ?_ ?_ _ | (simp; done) | (simp; omega)))⟩
      · have d2 : decide (a < 0) = false := by simpa using h2
        by_cases h3 : 1000 < a
        · have d3 : decide (1000 < a) = true := by simpa using h3
          go_enter Try.func7, Try.ntmps7
          go_wp2_with (go_at_call 9; refine (RetB.grown (known_any _)).mono ?_; rintro e' w' ⟨rfl, gk1, rfl⟩)
          go_ret
          exact ⟨rfl, (by repeat' (first | exact Below.refl _ _ | assumption | refine Below.xt ?_ ?_ _ | refine Below.alloc ?_ ?_ _ | refine Below.drew ?_ | refine Below.setCell ?_ ?_ _ | (simp; done) | (simp; omega)))⟩
        · have d3 : decide (1000 < a) = false := by simpa using h3
          by_cases h4 : b < 0
          · have d4 : decide (b < 0) = true := by simpa using h4
            go_enter Try.func7, Try.ntmps7
            go_wp2_with (go_at_call 9; refine (RetB.grown (known_any _)).mono ?_; rintro e' w' ⟨rfl, gk1, rfl⟩)
            go_ret
            exact ⟨rfl, (by repeat' (first | exact Below.refl _ _ | assumption | refine Below.xt ?_ ?_ _ | refine Below.alloc ?_ ?_ _ | refine Below.drew ?_ | refine Below.setCell ?_ ?_ _ | (simp; done) | (simp; omega)))⟩
          · have d4 : decide (b < 0) = false := by simpa using h4
            by_cases h5 : 1000 < b
            · have d5 : decide (1000 < b) = true := by simpa using h5
              go_enter Try.func7, Try.ntmps7
              go_wp2_with (go_at_call 9; refine (RetB.grown (known_any _)).mono ?_; rintro e' w' ⟨rfl, gk1, rfl⟩)
              go_ret
              exact ⟨rfl, (by repeat' (first | exact Below.refl _ _ | assumption | refine Below.xt ?_ ?_ _ | refine Below.alloc ?_ ?_ _ | refine Below.drew ?_ | refine Below.setCell ?_ ?_ _ | (simp; done) | (simp; omega)))⟩
            · have d5 : decide (1000 < b) = false := by simpa using h5
              by_cases h6 : c < 0
              · have d6 : decide (c < 0) = true := by simpa using h6
                go_enter Try.func7, Try.ntmps7
                go_wp2_with (go_at_call 9; refine (RetB.grown (known_any _)).mono ?_; rintro e' w' ⟨rfl, gk1, rfl⟩)
                go_ret
                exact ⟨rfl, (by repeat' (first | exact Below.refl _ _ | assumption | refine Below.xt ?_ ?_ _ | refine Below.alloc ?_ ?_ _ | refine Below.drew ?_ | refine Below.setCell ?_ ?_ _ | (simp; done) | (simp; omega)))⟩
              · have d6 : decide (c < 0) = false := by simpa using h6
                by_cases h7 : 1000 < c
                · have d7 : decide (1000 < c) = true := by simpa using h7
                  go_enter Try.func7, Try.ntmps7
                  go_wp2_with (go_at_call 9; refine (RetB.grown (known_any _)).mono ?_; rintro e' w' ⟨rfl, gk1, rfl⟩)
                  go_ret
                  exact ⟨rfl, (by repeat' (first | exact Below.refl _ _ | assumption | refine Below.xt ?_ ?_ _ | refine Below.alloc ?_ ?_ _ | refine Below.drew ?_ | refine Below.setCell ?_ ?_ _ | (simp; done) | (simp; omega)))⟩
                · have d7 : decide (1000 < c) = false := by simpa using h7
                  by_cases h8 : d < 1
                  · have d8 : decide (d < 1) = true := by simpa using h8
                    go_enter Try.func7, Try.ntmps7
                    go_wp2_with (go_at_call 9; refine (RetB.grown (known_any _)).mono ?_; rintro e' w' ⟨rfl, gk1, rfl⟩)
                    go_ret
                    exact ⟨rfl, (by repeat' (first | exact Below.refl _ _ | assumption | refine Below.xt ?_ ?_ _ | refine Below.alloc ?_ ?_ _ | refine Below.drew ?_ | refine Below.setCell ?_ ?_ _ | (simp; done) | (simp; omega)))⟩
                  · have d8 : decide (d < 1) = false := by simpa using h8
                    by_cases h9 : 2000 < d
                    · have d9 : decide (2000 < d) = true := by simpa using h9
                      go_enter Try.func7, Try.ntmps7
                      go_wp2_with (go_at_call 9; refine (RetB.grown (known_any _)).mono ?_; rintro e' w' ⟨rfl, gk1, rfl⟩)
                      go_ret
                      exact ⟨rfl, (by repeat' (first | exact Below.refl _ _ | assumption | refine Below.xt ?_ ?_ _ | refine Below.alloc ?_ ?_ _ | refine Below.drew ?_ | refine Below.setCell ?_ ?_ _ | (simp; done) | (simp; omega)))⟩
                    · have d9 : decide (2000 < d) = false := by simpa using h9
                      by_cases h10 : f < 1
                      · have d10 : decide (f < 1) = true := by simpa using h10
                        go_enter Try.func7, Try.ntmps7
                        go_wp2_with (go_at_call 9; refine (RetB.grown (known_any _)).mono ?_; rintro e' w' ⟨rfl, gk1, rfl⟩)
                        go_ret
                        exact ⟨rfl, (by repeat' (first | exact Below.refl _ _ | assumption | refine Below.xt ?_ ?_ _ | refine Below.alloc ?_ ?_ _ | refine Below.drew ?_ | refine Below.setCell ?_ ?_ _ | (simp; done) | (simp; omega)))⟩
                      · have d10 : decide (f < 1) = false := by simpa using h10
                        by_cases h11 : 1000000000 < f
                        · have d11 : decide (1000000000 < f) = true := by simpa using h11
                          go_enter Try.func7, Try.ntmps7
                          go_wp2_with (go_at_call 9; refine (RetB.grown (known_any _)).mono ?_; rintro e' w' ⟨rfl, gk1, rfl⟩)
                          go_ret
                          exact ⟨rfl, (by repeat' (first | exact Below.refl _ _ | assumption | refine Below.xt ?_ ?_ _ | refine Below.alloc ?_ ?_ _ | refine Below.drew ?_ | refine Below.setCell ?_ ?_ _ | (simp; done) | (simp; omega)))⟩
                        · have d11 : decide (1000000000 < f) = false := by simpa using h11
                          obtain ⟨m, rfl⟩ : ∃ m : Nat, n = (m : Int) := ⟨n.toNat, by omega⟩
                          have hm1 : 1 ≤ m := by omega
                          have hm2 : m ≤ 64 := by omega
                          have CQ := Lib.hid (square_any m a b c d W (by omega) (by omega) (by omega) (by omega) (by omega))
                          go_enter Try.func7, Try.ntmps7
                          go_upto_region 4 with (go_at_call 19; refine CQ.out.mono ?_; rintro e' w1 ⟨v, rfl, hb1, hg1⟩; have HB1 := Lib.hid hb1; have HG1 := Lib.hid hg1; clear hb1 hg1)
                          obtain ⟨gA, qA, rfl⟩ : ∃ A q, v = .slice (some ⟨A, 0, none⟩) m q := by
                            obtain ⟨xs, hx, _⟩ := HG1.out
                            rcases hx.2 with ⟨_, h0⟩ | ⟨g, cap, cur, hv, _⟩
                            · omega
                            · exact ⟨g, cap, hv⟩
                          have HG2 := Lib.hid (show GD w1 W.heap.size (.slice (some ⟨gA, 0, none⟩) m qA) m (scl m a b c d f 0 0) by rw [scl_zero]; exact HG1.out)
                          have hd12 : 1 ≤ d ∧ d ≤ 2000 := by omega
                          have hf12 : 1 ≤ f ∧ f ≤ 1000000000 := by omega
                          obtain ⟨hf1, hf2⟩ := hf12
                          have HD := Lib.hid hd12
                          clear HG1 CQ hd12
                          go_wp2_with fail
                          go_loopg [76] (m) (fun gk i wr => ∃ k : Nat, k + gk = m ∧ i = .int .i64 k ∧ Hid (Below W.heap.size W wr) ∧ Hid (GD wr W.heap.size (.slice (some ⟨gA, 0, none⟩) m qA) m (scl m a b c d f k 0)))
                          case atStart => exact ⟨0, by omega, rfl, HB1, HG2⟩
                          case round =>
                            clear HB1 HG2
                            obtain ⟨i, hi, rfl, HB, HG⟩ := hrel
                            by_cases hlt : i < m
                            · obtain ⟨gf, rfl⟩ : ∃ gf, gk = gf + 1 := ⟨gk - 1, by omega⟩
                              obtain ⟨b0, c0, A0, q0, e0, oA0, hc0, ob0, _⟩ := HG.out.store (G' := scl m a b c d f i 1) (k := 0) (y := sqE a b c d i 0 * f) hlt (fun j _ hj => scl_ne hj) (scl_set (by omega))
                              injection e0 with e0 _ e0q
                              injection e0 with e0
                              injection e0 with e0
                              subst e0 e0q
                              rw [scl_len] at hc0
                              obtain ⟨Wo, rfl⟩ : ∃ Wo : World, Wo = wr := ⟨_, rfl⟩
                              go_wp2_with fail
                              clear hc0 ob0 oA0
                              go_loopg [84] (m) (fun gk j wr => ∃ k : Nat, k + gk = m ∧ j = .int .i64 k ∧ Hid (Below W.heap.size W wr) ∧ Hid (GD wr W.heap.size (.slice (some ⟨gA, 0, none⟩) m qA) m (scl m a b c d f i k)))
                              case atStart => exact ⟨0, by omega, rfl, HB, HG⟩
                              case round =>
                                clear HB HG
                                obtain ⟨k, hk, rfl, HB, HG⟩ := hrel
                                by_cases hlt2 : k < m
                                · obtain ⟨b1, c1, A1, q1, e1, oA1, hc1, ob1, hx1, hfz1, hbl1, hg1⟩ := HG.out.store (G' := scl m a b c d f i (k + 1)) (k := k) (y := sqE a b c d i k * f) hlt (fun j _ hj => scl_ne hj) (scl_set hlt2)
                                  injection e1 with e1 _ e1q
                                  injection e1 with e1
                                  injection e1 with e1
                                  subst e1 e1q
                                  rw [scl_len] at hc1
                                  have hx2 := hx1 (by rw [scl_len]; exact hlt2)
                                  rw [scl_get hlt2, if_neg (by omega)] at hx2
                                  have hbd := sqE_bd (a := a) (b := b) (c := c) (d := d) (r := i) (j := k) HD.out
                                  have hb2 := mul_bd (x := sqE a b c d i k) (y := f) hbd.1 hbd.2 (by omega) hf2
                                  have HB2 := Lib.hid (hbl1 W HB.out)
                                  have HG2 := Lib.hid hg1
                                  clear hx1 hbl1 hg1 HB HG
                                  obtain ⟨p, hp⟩ : ∃ p, sqE a b c d i k * f = p := ⟨_, rfl⟩
                                  rw [hp] at hb2 HB2 HG2
                                  generalize sqE a b c d i k = x at hx2 hbd hp
                                  obtain ⟨hb21, hb22⟩ := hb2
                                  have hb23 : p ≤ 2000000000000 := by omega
                                  obtain ⟨hbd1, hbd2⟩ := hbd
                                  go_wp2_with fail
                                  go_roundg (gk - 1)
                                  case measure => omega
                                  case rel => exact ⟨k + 1, by omega, by go_num, HB2, HG2⟩
                                · obtain rfl : m = k := by omega
                                  have HG2 := Lib.hid (show GD wr W.heap.size (.slice (some ⟨gA, 0, none⟩) m qA) m (scl m a b c d f (i + 1) 0) by rw [← scl_row]; exact HG.out)
                                  clear HG
                                  go_wp2_with fail
                                  go_roundg gf
                                  case measure => omega
                                  case rel => exact ⟨i + 1, by omega, by go_num, HB, HG2⟩
                            · obtain rfl : m = i := by omega
                              have HCV := Lib.hid (scl_cvd (n := m) (a := a) (b := b) (c := c) (d := d) (f := f) hm1 hm2 HD.out ⟨hf1, hf2⟩)
                              obtain ⟨A5, c5, e5, hrow⟩ := HG.out.own.row
                              injection e5 with e5 _ e5c
                              subst e5 e5c
                              have HGr := Lib.hid hrow
                              clear hrow HG
                              generalize scl m a b c d f m 0 = G at *
                              have C1 := Lib.hid (Best_any (some ⟨gA, 0, none⟩) m qA G wr HGr.out HCV.out)
                              have HC := Lib.hid (cvd_iff.1 HCV.out)
                              go_upto_region 14 with (go_at_call 13; refine C1.out.mono ?_; rintro e' w' ⟨A1, c1, Al, cl0, Ar, cr0, AU, cu, AV, cv, l, T, s, cl, cr, u, v, rfl, hc1, hb2, hr1, hrl, hrr, hru, hrv, hp, hT⟩; obtain ⟨g2, rfl⟩ := xt_of_below hb2; have HT := Lib.hid hT; have HRs := Lib.hid (show RowI (xt wr g2) A1 l ∧ RowI (xt wr g2) Al cl ∧ RowI (xt wr g2) Ar cr ∧ RowI (xt wr g2) AU u ∧ RowI (xt wr g2) AV v from ⟨hr1, hrl, hrr, hru, hrv⟩); have HP := Lib.hid hp; have HC1 := Lib.hid hc1; clear hT hr1 hrl hrr hru hrv hp hc1 hb2)
                              have hp := HP.out
                              simp only [prvA, pr1, pr2, pr3, Bool.and_eq_true, decide_eq_true_eq] at hp
                              obtain ⟨⟨⟨⟨⟨hcb, hpu⟩, hpv⟩, _⟩, ⟨_, hpc⟩⟩, _⟩ := hp
                              have hpl := (colsB_iff.1 hcb).2
                              have HLN := Lib.hid (show l.length = m ∧ u.length = m ∧ v.length = m ∧ cl.length + cr.length < m from ⟨hpl, hpu, hpv, hpc⟩)
                              have hcap := HC1.out
                              rw [hpl] at hcap ⊢
                              rw [hpu, hpv]
                              obtain ⟨kl, hkl⟩ : ∃ k, cl.length = k := ⟨_, rfl⟩
                              obtain ⟨kr, hkr⟩ : ∃ k, cr.length = k := ⟨_, rfl⟩
                              rw [hkl, hkr]
                              have HKL := Lib.hid (show cl.length = kl ∧ cr.length = kr from ⟨hkl, hkr⟩)
                              have HCAP := Lib.hid hcap
                              clear hcb hpu hpv hpl hpc hkl hkr hcap
                              have hbs := HB.out.size
                              have hb := HB.out
                              obtain ⟨W9, hW9, HB9, HGo2, HAs, HPr, HAP⟩ : ∃ W9, ((xt wr g2).alloc (.cells #[.slice A1 m c1, .int .i64 T, .int .i64 s] 25)).alloc (.cells #[.slice Al kl cl0, .slice Ar kr cr0, .slice AU m cu, .slice AV m cv] 29) = W9 ∧ Hid (Below W.heap.size W W9) ∧ Hid (GRow W9 (some ⟨gA, 0, none⟩) m G) ∧ Hid (Blk W9 (wr.heap.size + g2.blocks.length) #[.slice A1 m c1, .int .i64 T, .int .i64 s] 25) ∧ Hid (Blk W9 (wr.heap.size + g2.blocks.length + 1) #[.slice Al kl cl0, .slice Ar kr cr0, .slice AU m cu, .slice AV m cv] 29) ∧ Hid (AP W9 A1 Al Ar AU AV m c1 kl kr m m l cl cr u v) :=
                                ⟨_, rfl, Lib.hid (by repeat' (first | exact Below.refl _ _ | assumption | refine Below.xt ?_ ?_ _ | refine Below.alloc ?_ ?_ _ | refine Below.drew ?_ | refine Below.setCell ?_ ?_ _ | (simp; done) | (simp; omega))), Lib.hid (((HGr.out.xt _).alloc _).alloc _), Lib.hid ((Blk.new _ _ _ (by simp)).alloc _), Lib.hid (Blk.new _ _ _ (by simp)),
                                  Lib.hid ⟨HLN.out.1.symm, HKL.out.1.symm, HKL.out.2.symm, HLN.out.2.1.symm, HLN.out.2.2.1.symm, by have := HLN.out; omega, by have := HLN.out; omega, by have := HLN.out; omega, by have := HLN.out; omega, by have := HLN.out; omega, HCAP.out, (HRs.out.1.alloc _).alloc _, (HRs.out.2.1.alloc _).alloc _, (HRs.out.2.2.1.alloc _).alloc _, (HRs.out.2.2.2.1.alloc _).alloc _, (HRs.out.2.2.2.2.alloc _).alloc _⟩⟩
                              rw [hW9]
                              obtain ⟨b8, hb8⟩ : ∃ b, wr.heap.size + g2.blocks.length = b := ⟨_, rfl⟩
                              simp only [hb8] at HAs HPr ⊢
                              clear hW9 hb8 C1 HGr hb HRs hbs
                              have C2 := Lib.hid (show Calls Try.prog 20 #[.slice (some ⟨gA, 0, none⟩) m qA] W9 (RetB (.tuple #[.int .i64 T, .int .i64 0]) W9) from (Threshold_any _ m qA G W9 HGo2.out HCV.out).mono fun e w' ⟨T', he, hT', hb⟩ => ⟨by rw [he, HT.out.uniq hT'], hb⟩)
                              have C5 := Lib.hid (show ∀ g, Calls Try.prog 12 #[.slice (some ⟨gA, 0, none⟩) m qA, .agg #[.slice A1 m c1, .int .i64 T, .int .i64 s], .agg #[.slice Al kl cl0, .slice Ar kr cr0, .slice AU m cu, .slice AV m cv]] (xt W9 g) (RetB (.bool true) (xt W9 g)) from fun g => by rw [← HP.out]; exact rProves_any _ A1 Al Ar AU AV m qA m c1 kl cl0 kr cr0 m cu m cv G l cl cr u v T s _ (HGo2.out.xt g) HC.out (HAP.out.below (below_xt _ g)))
                              have C6 := Lib.hid (show ∀ g g', Calls Try.prog 10 #[.slice (some ⟨gA, 0, none⟩) m qA, .agg #[.slice A1 m c1, .int .i64 T, .int .i64 s], .agg #[.slice Al kl cl0, .slice Ar kr cr0, .slice AU m cu, .slice AV m cv]] (xt (xt W9 g) g') (RetB (.int .i64 0) (xt (xt W9 g) g')) from fun g g' => by
                                have := Check_any (some ⟨gA, 0, none⟩) A1 Al Ar AU AV m qA m c1 kl cl0 kr cr0 m cu m cv G l cl cr u v T s (xt (xt W9 g) g') ((HGo2.out.xt g).xt g') HCV.out ((HAP.out.below (below_xt _ g)).below (below_xt _ g')) (fun h => by
                                  obtain ⟨b, o, e, _⟩ := HAP.out.ro.at_ (by rw [HLN.out.1]; omega)
                                  rw [h] at e; cases e) (prv_I64 HP.out).1 (prv_I64 HP.out).2
                                rwa [HP.out] at this)
                              obtain ⟨a0, a1, a2, _, _, _, aO⟩ := HAs.out.f3
                              have p0 : W9.cell? ⟨b8 + 1, 0, none⟩ = some (.slice Al kl cl0) := HPr.out.cell rfl
                              have p1 : W9.cell? ⟨b8 + 1, 1, none⟩ = some (.slice Ar kr cr0) := HPr.out.cell rfl
                              have p2 : W9.cell? ⟨b8 + 1, 2, none⟩ = some (.slice AU m cu) := HPr.out.cell rfl
                              have p3 : W9.cell? ⟨b8 + 1, 3, none⟩ = some (.slice AV m cv) := HPr.out.cell rfl
                              have pO : old (b8 + 1) W9 := HPr.out.lt
                              have HX9 := Lib.hid (show ∀ g, Below W.heap.size W (xt W9 g) from fun g => Below.xt HB9.out HB9.out.size g)
                              go_wp2_with (first | (go_at_call 9; refine (RetB.grown (known_any _)).mono ?_; rintro e' w' ⟨rfl, gk1, rfl⟩) | (go_at_call 20; refine (RetB.grown C2.out).mono ?_; rintro e' w' ⟨rfl, g7, rfl⟩) | (go_at_call 12; refine (RetB.grown (C5.out _)).mono ?_; rintro e' w' ⟨rfl, g8, rfl⟩) | (go_at_call 10; refine (RetB.grown (C6.out _ _)).mono ?_; rintro e' w' ⟨rfl, g9, rfl⟩))
                              go_ret
                              exact ⟨rfl, by (repeat rw [xt_xt]); exact HX9.out _⟩
end Go.Proofs.Ytjiknjcmfiapjaa


/- Walk: the assignment of some columns, or an error, by the program; lists in order; small costs; equal assignments. Conditions stand in each theorem. -/
import Derived.Test.YtjiknjcmfiapjaaBotW2
namespace Go.Proofs.Ytjiknjcmfiapjaa
open Go.RowKit
set_option linter.unusedVariables false
set_option linter.unusedSimpArgs false

/-! ### The assignment, or the errors -/
/-- The call returns an assignment and an error's number. -/
def RetAE (l : List Int) (g s d : Int) (w : World) (e : Ending) (w' : World) : Prop :=
  ∃ v, e = .returned (.tuple #[.agg #[v, .int .i64 g, .int .i64 s], .int .i64 d]) ∧ Below w.heap.size w w' ∧ w'.ownsRow w.heap.size 3 1 v l.length (l.map (Value.int .i64))
def ofL (G : Nat → List Int) (n : Nat) (l : List Int) : List Int := if cvd G n && colsB l n then l else []
def ofG (G : Nat → List Int) (n : Nat) (l : List Int) : Int := if cvd G n && colsB l n then mstC G l n else 0
def ofS (G : Nat → List Int) (n : Nat) (l : List Int) : Int := if cvd G n && colsB l n then sumC G l n else 0
def ofE (G : Nat → List Int) (n : Nat) (l : List Int) : Int := if cvd G n then (if colsB l n then 0 else 10) else 2
theorem Of_start {w w1 : World} (hb : Below (w.alloc (.cells #[.slice none 0 0, .int .i64 0, .int .i64 0] 25)).heap.size (w.alloc (.cells #[.slice none 0 0, .int .i64 0, .int .i64 0] 25)) w1) :
    w1.cell? ⟨w.heap.size, 0, none⟩ = some (.slice none 0 0) ∧ w1.cell? ⟨w.heap.size, 1, none⟩ = some (.int .i64 0) ∧ w1.cell? ⟨w.heap.size, 2, none⟩ = some (.int .i64 0) ∧ w1.frozen? ⟨w.heap.size, 0, none⟩ = false ∧ w1.frozen? ⟨w.heap.size, 1, none⟩ = false ∧ w1.frozen? ⟨w.heap.size, 2, none⟩ = false ∧ old w.heap.size w1 ∧
    Hid (Below w.heap.size w w1 ∧ Blk w1 w.heap.size #[.slice none 0 0, .int .i64 0, .int .i64 0] 25) := by
  have e : (w.alloc (.cells #[.slice none 0 0, .int .i64 0, .int .i64 0] 25)).heap.size = w.heap.size + 1 := by simp
  have b1 : Blk w1 w.heap.size #[.slice none 0 0, .int .i64 0, .int .i64 0] 25 := Blk.below (Blk.new w _ _ rfl) hb (by rw [e]; omega)
  obtain ⟨h0, h1, h2, h3, h4, h5, h6⟩ := b1.f3
  exact ⟨h0, h1, h2, h3, h4, h5, h6, Lib.hid ⟨Below.next (by repeat' (first | exact Below.refl _ _ | assumption | refine Below.xt ?_ ?_ _ | refine Below.alloc ?_ ?_ _ | refine Below.drew ?_ | refine Below.setCell ?_ ?_ _ | (simp; done) | (simp; omega))) hb (by rw [e]; omega), b1⟩⟩
set_option maxRecDepth 100000 in
set_option maxHeartbeats 1600000 in
theorem Of_any (A L : Option Addr) (n cap m c : Nat) (G : Nat → List Int) (l : List Int) (w : World) (hn : n ≤ 1000) (hln : ∀ i, i < n → (G i).length ≤ 1000) (hG : GRow w A n G) (hm : m = l.length) (hl : l.length ≤ 1000) (hA : L = none → l.length = 0 ∧ c = 0) (hr : RowI w L l) :
    Calls Try.prog 16 #[.slice A n cap, .slice L m c] w (RetAE (ofL G n l) (ofG G n l) (ofS G n l) (ofE G n l) w) := by
  subst hm
  have HG := Lib.hid hG
  have HR := Lib.hid hr
  have CV := fun w h => bValid_any A n cap G w hn hln h
  cases hv : cvd G n with
  | false =>
    rw [hv] at CV
    have HE1 := Lib.hid (show ofL G n l = [] by unfold ofL; rw [hv]; rfl)
    have HE2 := Lib.hid (show ofG G n l = 0 by unfold ofG; rw [hv]; rfl)
    have HE3 := Lib.hid (show ofS G n l = 0 by unfold ofS; rw [hv]; rfl)
    have HE4 := Lib.hid (show ofE G n l = 2 by unfold ofE; rw [hv]; rfl)
    have HCV := fun w h => Lib.hid (CV w h)
    clear CV hv hG hr
    go_enter Try.func16, Try.ntmps16
    go_wp2_with (first
      | (go_at_call 17; refine ((HCV _ (HG.out.alloc _)).out).mono ?_; rintro e' w' ⟨rfl, rfl⟩)
      | (refine wp_region_xt (by kernel_rfl) (by kernel_rfl) ?_; (repeat (go_big_quiet_step (first | (go_at_call 17; exact Ret.quiet ((HCV _ (HG.out.alloc _)).out))))); refine wpQuiet_nil ?_; intro g))
    refine bodyPost_ret (v := .tuple #[.agg #[.slice none 0 0, .int .i64 0, .int .i64 0], .int .i64 2]) (by simp [results, Try.results16, go_sem]) rfl ?_
    exact ⟨_, by rw [HE2.out, HE3.out, HE4.out], (by repeat' (first | exact Below.refl _ _ | assumption | refine Below.xt ?_ ?_ _ | refine Below.alloc ?_ ?_ _ | refine Below.drew ?_ | refine Below.setCell ?_ ?_ _ | (simp; done) | (simp; omega))), by rw [HE1.out]; exact own_nil⟩
  | true =>
    rw [hv] at CV
    have HCV := fun w h => Lib.hid (CV w h)
    have CO := fun w h h2 => Lib.hid (of_any A L n cap l.length c G l w h (cvd_iff.1 hv) rfl hl hA h2)
    clear CV hG hr
    cases hb : colsB l n with
    | false =>
      have HE1 := Lib.hid (show ofL G n l = [] by unfold ofL; rw [hv, hb]; rfl)
      have HE2 := Lib.hid (show ofG G n l = 0 by unfold ofG; rw [hv, hb]; rfl)
      have HE3 := Lib.hid (show ofS G n l = 0 by unfold ofS; rw [hv, hb]; rfl)
      have HE4 := Lib.hid (show ofE G n l = 10 by unfold ofE; rw [hv, hb]; rfl)
      rw [hb] at CO
      clear hv hb
      go_enter Try.func16, Try.ntmps16
      go_wp2_with (first | (go_at_call 17; refine (HCV _ (HG.out.alloc _)).out.mono ?_; rintro e' w' ⟨rfl, rfl⟩) | (go_at_call 22; refine (CO _ (HG.out.alloc _) (HR.out.alloc _)).out.mono ?_; rintro e' w1 ⟨v, x, y, rfl, hb1, ho1, _⟩; obtain ⟨A1, c1, rfl⟩ := own_frm ho1; obtain ⟨r0, r1, r2, r3, r4, r5, r6, HB1⟩ := Of_start hb1))
      obtain ⟨s0, s1, s2, _⟩ := (show Blk _ w.heap.size #[.slice none 0 0, .int .i64 0, .int .i64 0] _ from ((((HB1.out.2).set (k := 0) (.slice none 0 0)).set (k := 1) (.int .i64 0)).set (k := 2) (.int .i64 0)).alloc (.cells #[.slice A1 l.length c1, .int .i64 x, .int .i64 y] 25)).f3
      refine bodyPost_ret (v := .tuple #[.agg #[.slice none 0 0, .int .i64 0, .int .i64 0], .int .i64 10]) (by simp [results, Try.results16, go_sem, s0, s1, s2]) rfl ?_
      have hb := HB1.out.1
      refine ⟨_, by rw [HE2.out, HE3.out, HE4.out], ?_, by rw [HE1.out]; exact own_nil⟩
      have h0 := hb.size; exact Below.alloc (Below.setCell (Below.setCell (Below.setCell hb (Nat.le_refl _) _) (Nat.le_refl _) _) (Nat.le_refl _) _) (by simp; exact h0) _
    | true =>
      have HE1 := Lib.hid (show ofL G n l = l by unfold ofL; rw [hv, hb]; rfl)
      have HE2 := Lib.hid (show ofG G n l = mstC G l n by unfold ofG; rw [hv, hb]; rfl)
      have HE3 := Lib.hid (show ofS G n l = sumC G l n by unfold ofS; rw [hv, hb]; rfl)
      have HE4 := Lib.hid (show ofE G n l = 0 by unfold ofE; rw [hv, hb]; rfl)
      rw [hb] at CO
      clear hv hb
      go_enter Try.func16, Try.ntmps16
      go_wp2_with (first | (go_at_call 17; refine (HCV _ (HG.out.alloc _)).out.mono ?_; rintro e' w' ⟨rfl, rfl⟩) | (go_at_call 22; refine (CO _ (HG.out.alloc _) (HR.out.alloc _)).out.mono ?_; rintro e' w1 ⟨v, x, y, rfl, hb1, ho1, hxy⟩; obtain ⟨A1, c1, rfl⟩ := own_frm ho1; obtain ⟨rfl, rfl⟩ := hxy rfl; obtain ⟨r0, r1, r2, r3, r4, r5, r6, HB1⟩ := Of_start hb1))
      obtain ⟨s0, s1, s2, _⟩ := (show Blk _ w.heap.size #[.slice A1 l.length c1, .int .i64 (mstC G l n), .int .i64 (sumC G l n)] _ from ((((HB1.out.2).set (k := 0) (.slice A1 l.length c1)).set (k := 1) (.int .i64 (mstC G l n))).set (k := 2) (.int .i64 (sumC G l n))).alloc (.cells #[.slice A1 l.length c1, .int .i64 (mstC G l n), .int .i64 (sumC G l n)] 25)).f3
      refine bodyPost_ret (v := .tuple #[.agg #[.slice A1 l.length c1, .int .i64 (mstC G l n), .int .i64 (sumC G l n)], .int .i64 0]) (by simp [results, Try.results16, go_sem, s0, s1, s2]) rfl ?_
      have hb := HB1.out.1
      have HO := own_low (base := w.heap.size + 1) ho1 (by simp)
      refine ⟨_, by rw [HE2.out, HE3.out, HE4.out], ?_, ?_⟩
      · have h0 := hb.size; exact Below.alloc (Below.setCell (Below.setCell (Below.setCell hb (Nat.le_refl _) _) (Nat.le_refl _) _) (Nat.le_refl _) _) (by simp; exact h0) _
      · rw [HE1.out]; exact own_low ((own_set (own_set (own_set HO w.heap.size 0 _ (by omega)) w.heap.size 1 _ (by omega)) w.heap.size 2 _ (by omega)).alloc _) (by omega)

set_option maxHeartbeats 1600000 in
theorem brising_any (A : Option Addr) (m cap : Nat) (l : List Int) (b : Int) (w : World) (hm : m = l.length) (hl : l.length ≤ 1000) (h : RowI w A l) : Calls Try.prog 23 #[.slice A m cap, .int .i64 b] w (Ret (.bool (inc l b)) w) := by
  subst hm
  have HI := Lib.hid h
  clear h
  go_enter Try.func23, Try.ntmps23
  go_wp2_with fail
  go_loop [9] (fun i => ∃ (k : Nat), k ≤ l.length ∧ i = .int .i64 k ∧ Hid (∀ j, j < k → okAt l b j = true)) (fun i => l.length - (intOf i).toNat)
  case atStart => exact ⟨0, by omega, rfl, Lib.hid (fun j h => absurd h (by omega))⟩
  case round =>
    obtain ⟨k, hk, rfl, HK⟩ := hrel
    by_cases hlt : k < l.length
    · obtain ⟨q, o, rfl, hq, hc⟩ := RowI.at_ HI.out (by omega)
      have c1 := hc k hlt
      obtain ⟨x, hx⟩ : ∃ x, l.getD k 0 = x := ⟨_, rfl⟩
      rw [hx] at c1
      by_cases h0 : x < 0
      · have HE := Lib.hid (inc_no (b := b) hlt (okAt_no (.inl (by omega))))
        have d1 : decide (x < 0) = true := by simpa using h0
        clear hx HK hc HI
        go_wp2_with (first
          | (refine wp_region_xt (by kernel_rfl) (by kernel_rfl) ?_; (repeat (go_big_quiet_step (first | fail))); refine wpQuiet_nil ?_; intro g))
        go_ret
        exact ⟨by rw [HE.out]; rfl, rfl⟩
      · have d1 : decide (x < 0) = false := by simpa using h0
        by_cases h1 : b ≤ x
        · have HE := Lib.hid (inc_no (b := b) hlt (okAt_no (.inr (.inl (by omega)))))
          have d2 : decide (b ≤ x) = true := by simpa using h1
          clear hx HK hc HI
          go_wp2_with (first
            | (refine wp_region_xt (by kernel_rfl) (by kernel_rfl) ?_; (repeat (go_big_quiet_step (first | fail))); refine wpQuiet_nil ?_; intro g))
          go_ret
          exact ⟨by rw [HE.out]; rfl, rfl⟩
        · have d2 : decide (b ≤ x) = false := by simpa using h1
          by_cases h2 : 0 < k
          · have d3 : decide (0 < k) = true := by simpa using h2
            have c2 := hc (k - 1) (by omega)
            obtain ⟨y, hy⟩ : ∃ y, l.getD (k - 1) 0 = y := ⟨_, rfl⟩
            rw [hy] at c2
            obtain ⟨m, hm⟩ : ∃ m, k = m + 1 := ⟨k - 1, by omega⟩
            have c3 : w.cell? ⟨q, o + m, none⟩ = some (.int .i64 y) := by rw [← c2, hm]; rfl
            by_cases h3 : x ≤ y
            · have HE := Lib.hid (inc_no (b := b) hlt (okAt_no (.inr (.inr ⟨h2, by omega⟩))))
              have d4 : decide (x ≤ y) = true := by simpa using h3
              clear hx hy HK hc HI c2
              subst hm
              go_wp2_with (first
                | (refine wp_region_xt (by kernel_rfl) (by kernel_rfl) ?_; (repeat (go_big_quiet_step (first | fail))); refine wpQuiet_nil ?_; intro g))
              go_ret
              exact ⟨by rw [HE.out]; rfl, rfl⟩
            · have HE := Lib.hid (all_next HK.out (okAt_of (b := b) (by omega) (by omega) (.inr (by omega))))
              have d4 : decide (x ≤ y) = false := by simpa using h3
              clear hx hy HK hc HI c2
              subst hm
              go_wp2_with (first
                | (refine wp_region_xt (by kernel_rfl) (by kernel_rfl) ?_; (repeat (go_big_quiet_step (first | fail))); refine wpQuiet_nil ?_; intro g))
              go_round
              case rel => exact ⟨m + 1 + 1, by omega, by go_num, HE⟩
              case measure => simp [intOf]; omega
          · have d3 : decide (0 < k) = false := by simpa using h2
            have HE := Lib.hid (all_next HK.out (okAt_of (b := b) (by omega) (by omega) (.inl (by omega))))
            clear hx HK hc HI
            go_wp2_with (first
              | (refine wp_region_xt (by kernel_rfl) (by kernel_rfl) ?_; (repeat (go_big_quiet_step (first | fail))); refine wpQuiet_nil ?_; intro g))
            go_round
            case rel => exact ⟨k + 1, by omega, by go_num, HE⟩
            case measure => simp [intOf]; omega
    · have HE := Lib.hid (inc_of (l := l) (b := b) fun i hi => HK.out i (by omega))
      clear HI
      go_wp2_with (first
        | (refine wp_region_xt (by kernel_rfl) (by kernel_rfl) ?_; (repeat (go_big_quiet_step (first | fail))); refine wpQuiet_nil ?_; intro g))
      go_ret
      exact ⟨by rw [HE.out]; rfl, rfl⟩
theorem in_any (A : Option Addr) (m cap : Nat) (l : List Int) (b n : Int) (w : World) (hm : m = l.length) (hl : l.length ≤ 1000) (hi : inc l b = true) (h : RowI w A l) : Calls Try.prog 24 #[.slice A m cap, .int .i64 n] w (Ret (.bool (hs l n)) w) := by
  have C1 := Lib.hid (bin_any A m cap l b n w hm hl hi h)
  clear hi h hm hl
  go_enter Try.func24, Try.ntmps24
  go_wp2_with fail
  refine C1.out.mono ?_
  rintro e w' ⟨p, hp, rfl, rfl⟩
  go_wp2_with fail
  go_ret
  exact ⟨rfl, rfl⟩

set_option maxHeartbeats 800000 in
theorem bsmall_any (A : Option Addr) (nL cap most : Nat) (G : Nat → List Int) (w : World) (hm : nL ≤ maxLen) (hl : ∀ i, i < nL → (G i).length ≤ maxLen) (hG : GRow w A nL G) : Calls Try.prog 8 #[.slice A nL cap, .int .i64 (most : Int)] w (Ret (.bool (smB G nL most)) w) := by
  unfold maxLen at hm hl
  have HG := Lib.hid hG
  have HL := Lib.hid hl
  clear hG hl
  go_enter Try.func8, Try.ntmps8
  go_wp2_with fail
  go_loop [9] (fun i => ∃ k : Nat, k ≤ nL ∧ i = .int .i64 k ∧ Hid (∀ j, j < k → (G j).length ≤ most)) (fun i => nL - (intOf i).toNat)
  case atStart => exact ⟨0, by omega, rfl, Lib.hid (fun j h => absurd h (by omega))⟩
  case round =>
    obtain ⟨k, hk, rfl, HK⟩ := hrel
    by_cases hlt : k < nL
    · obtain ⟨gb, go, rfl, hgo, hgc⟩ := HG.out.top (by omega)
      obtain ⟨Ai, ci, hgi, hrow⟩ := hgc k hlt
      have hlk := HL.out k hlt
      obtain ⟨x, hx⟩ : ∃ x, (G k).length = x := ⟨_, rfl⟩
      rw [hx] at hgi hlk
      by_cases h0 : most < x
      · have HE := Lib.hid (smB_no (most := most) hlt (by rw [hx]; exact h0))
        have d1 : decide (most < x) = true := by simpa using h0
        clear hx HK hgc HG hrow
        go_wp2_with (first
          | (refine wp_region_xt (by kernel_rfl) (by kernel_rfl) ?_; (repeat (go_big_quiet_step (first | fail))); refine wpQuiet_nil ?_; intro g))
        go_ret
        exact ⟨by rw [HE.out]; rfl, rfl⟩
      · have d1 : decide (most < x) = false := by simpa using h0
        have HE := Lib.hid (show ∀ j, j < k + 1 → (G j).length ≤ most from fun j hj => by
          by_cases e : j = k
          · subst e; rw [hx]; omega
          · exact HK.out j (by omega))
        clear hx HK hgc HG hrow
        go_wp2_with (first
          | (refine wp_region_xt (by kernel_rfl) (by kernel_rfl) ?_; (repeat (go_big_quiet_step (first | fail))); refine wpQuiet_nil ?_; intro g))
        go_round
        case rel => exact ⟨k + 1, by omega, by go_num, HE⟩
        case measure => simp [intOf]; omega
    · obtain rfl : k = nL := by omega
      have HE := Lib.hid (show smB G k most = decide (k ≤ most) by
        rw [Bool.eq_iff_iff, smB_iff, decide_eq_true_eq]
        exact ⟨fun h => h.2, fun h => ⟨HK.out, h⟩⟩)
      clear HK HG HL
      go_wp2_with (first
        | (refine wp_region_xt (by kernel_rfl) (by kernel_rfl) ?_; (repeat (go_big_quiet_step (first | fail))); refine wpQuiet_nil ?_; intro g))
      go_ret
      refine ⟨?_, rfl⟩
      rw [HE.out]
      simp

/-- The assignment has these columns and costs. -/
def eqA (l1 : List Int) (g1 s1 : Int) (l2 : List Int) (g2 s2 : Int) : Bool := decide (l1 = l2) && decide (g1 = g2) && decide (s1 = s2)
theorem eqA_no {l1 l2 : List Int} {g1 s1 g2 s2 : Int} (h : ¬ (l1 = l2 ∧ g1 = g2 ∧ s1 = s2)) : eqA l1 g1 s1 l2 g2 s2 = false := by
  rw [← Bool.not_eq_true]
  intro e
  simp only [eqA, Bool.and_eq_true, decide_eq_true_eq] at e
  exact h ⟨e.1.1, e.1.2, e.2⟩
theorem eqA_yes {l1 l2 : List Int} {g1 s1 g2 s2 : Int} (h : l1 = l2 ∧ g1 = g2 ∧ s1 = s2) : eqA l1 g1 s1 l2 g2 s2 = true := by
  simp only [eqA, Bool.and_eq_true, decide_eq_true_eq]
  exact ⟨⟨h.1, h.2.1⟩, h.2.2⟩
theorem list_same {l1 l2 : List Int} (hl : l1.length = l2.length) (h : ∀ j, j < l2.length → l1.getD j 0 = l2.getD j 0) : l1 = l2 := by
  apply List.ext_getElem hl
  intro i h1 h2
  have := h i h2
  simpa [List.getD, h1, h2] using this
set_option maxRecDepth 100000 in
set_option maxHeartbeats 1600000 in
theorem equal_any (A1 A2 : Option Addr) (m1 m2 c1 c2 : Nat) (l1 l2 : List Int) (g1 s1 g2 s2 : Int) (w : World) (hm1 : m1 = l1.length) (hm2 : m2 = l2.length) (hl1 : l1.length ≤ 1000) (hl2 : l2.length ≤ 1000) (hr1 : RowI w A1 l1) (hr2 : RowI w A2 l2) :
    Calls Try.prog 18 #[.agg #[.slice A1 m1 c1, .int .i64 g1, .int .i64 s1], .slice A2 m2 c2, .int .i64 g2, .int .i64 s2] w (RetB (.bool (eqA l1 g1 s1 l2 g2 s2)) w) := by
  subst hm1 hm2
  by_cases hl : l1.length = l2.length
  · by_cases hg : g1 = g2
    · by_cases hs : s1 = s2
      · subst hg hs
        have HL := Lib.hid hl
        generalize hq : l1.length = q at *
        have hq2 := HL.out
        generalize hq' : l2.length = q' at *
        subst hq2
        have HQ := Lib.hid hq
        have HQ2 := Lib.hid hq'
        clear hq hq' HL
        go_enter Try.func18, Try.ntmps18
        go_wp2_with fail
        obtain ⟨W1, hW1, HB1, f0, f1, f2, o0⟩ : ∃ W1, w.alloc (.cells #[.slice A1 q c1, .int .i64 g1, .int .i64 s1] 25) = W1 ∧ Hid (Below w.heap.size w W1) ∧ W1.cell? ⟨w.heap.size, 0, none⟩ = some (.slice A1 q c1) ∧ W1.cell? ⟨w.heap.size, 1, none⟩ = some (.int .i64 g1) ∧ W1.cell? ⟨w.heap.size, 2, none⟩ = some (.int .i64 s1) ∧ old w.heap.size W1 := ⟨_, rfl, Lib.hid (by repeat' (first | exact Below.refl _ _ | assumption | refine Below.xt ?_ ?_ _ | refine Below.alloc ?_ ?_ _ | refine Below.drew ?_ | refine Below.setCell ?_ ?_ _ | (simp; done) | (simp; omega))), by go_simp, by go_simp, by go_simp, by unfold old; simp⟩
        rw [hW1]
        clear hW1
        have HR3 := Lib.hid (hr1.below HB1.out)
        have HR4 := Lib.hid (hr2.below HB1.out)
        clear hr1 hr2
        go_loopw [30] (fun i wr => ∃ (k : Nat) (g : Gr), k ≤ q ∧ i = .int .i64 k ∧ wr = xt W1 g ∧ Hid (∀ j, j < k → l1.getD j 0 = l2.getD j 0)) (fun i _ => q - (intOf i).toNat)
        case atStart => exact ⟨0, _, by omega, rfl, (xt_self _).symm, Lib.hid (fun j h => absurd h (by omega))⟩
        case round =>
          obtain ⟨k, g, hk, rfl, rfl, HK⟩ := hrel
          by_cases hlt : k < q
          · obtain ⟨b1, o1, rfl, hb1, hc1⟩ := HR3.out.at_ (by rw [HQ.out]; omega)
            obtain ⟨b2, o2, rfl, hb2, hc2⟩ := HR4.out.at_ (by rw [HQ2.out]; omega)
            have e1 := hc1 k (by rw [HQ.out]; omega)
            have e2 := hc2 k (by rw [HQ2.out]; omega)
            by_cases h0 : l1.getD k 0 = l2.getD k 0
            · have HE := Lib.hid (show ∀ j, j < k + 1 → l1.getD j 0 = l2.getD j 0 from fun j hj => by
                by_cases e : j = k
                · subst e; exact h0
                · exact HK.out j (by omega))
              rw [h0] at e1
              generalize l2.getD k 0 = x at e1 e2
              clear h0 HK hc1 hc2 HR3 HR4
              go_wp2_with (first
                | (refine wp_region_xt (by kernel_rfl) (by kernel_rfl) ?_; (repeat (go_big_quiet_step (first | fail))); refine wpQuiet_nil ?_; intro g))
              go_roundw
              case rel => exact ⟨k + 1, _, by omega, by go_num, xt_xt _ _ _, HE⟩
              case measure => simp [intOf]; omega
            · have HE := Lib.hid (eqA_no (l1 := l1) (l2 := l2) (g1 := g1) (s1 := s1) (g2 := g1) (s2 := s1) (fun e => h0 (by rw [e.1])))
              have d1 : (l1.getD k 0 == l2.getD k 0) = false := by simpa using h0
              generalize l2.getD k 0 = x at e1 e2 d1
              generalize l1.getD k 0 = y at e1 e2 d1
              have hb := HB1.out
              have hbs := hb.size
              clear h0 HK hc1 hc2 HR3 HR4
              go_wp2_with (first
                | (refine wp_region_xt (by kernel_rfl) (by kernel_rfl) ?_; (repeat (go_big_quiet_step (first | fail))); refine wpQuiet_nil ?_; intro g))
              go_ret
              exact ⟨by rw [HE.out]; rfl, by (try rw [xt_xt]); exact Below.xt hb hbs _⟩
          · have HE := Lib.hid (eqA_yes (g1 := g1) (s1 := s1) (g2 := g1) (s2 := s1) ⟨list_same (by rw [HQ.out, HQ2.out]) (fun j hj => HK.out j (by rw [HQ2.out] at hj; omega)), rfl, rfl⟩)
            have hb := HB1.out
            have hbs := hb.size
            go_wp2_with (first
              | (refine wp_region_xt (by kernel_rfl) (by kernel_rfl) ?_; (repeat (go_big_quiet_step (first | fail))); refine wpQuiet_nil ?_; intro g))
            go_ret
            exact ⟨by rw [HE.out]; rfl, by (try rw [xt_xt]); exact Below.xt hb hbs _⟩
      · have HE := Lib.hid (eqA_no (l1 := l1) (l2 := l2) (g1 := g1) (s1 := s1) (g2 := g2) (s2 := s2) (fun e => hs e.2.2))
        have d1 : (s1 == s2) = false := by simpa using hs
        subst hg
        generalize l1.length = q1 at *
        generalize l2.length = q2 at *
        subst hl
        go_enter Try.func18, Try.ntmps18
        go_wp2_with fail
        go_ret
        exact ⟨by rw [HE.out]; rfl, (by repeat' (first | exact Below.refl _ _ | assumption | refine Below.xt ?_ ?_ _ | refine Below.alloc ?_ ?_ _ | refine Below.drew ?_ | refine Below.setCell ?_ ?_ _ | (simp; done) | (simp; omega)))⟩
    · have HE := Lib.hid (eqA_no (l1 := l1) (l2 := l2) (g1 := g1) (s1 := s1) (g2 := g2) (s2 := s2) (fun e => hg e.2.1))
      have d1 : (g1 == g2) = false := by simpa using hg
      generalize l1.length = q1 at *
      generalize l2.length = q2 at *
      subst hl
      go_enter Try.func18, Try.ntmps18
      go_wp2_with fail
      go_ret
      exact ⟨by rw [HE.out]; rfl, (by repeat' (first | exact Below.refl _ _ | assumption | refine Below.xt ?_ ?_ _ | refine Below.alloc ?_ ?_ _ | refine Below.drew ?_ | refine Below.setCell ?_ ?_ _ | (simp; done) | (simp; omega)))⟩
  · have HE := Lib.hid (eqA_no (l1 := l1) (l2 := l2) (g1 := g1) (s1 := s1) (g2 := g2) (s2 := s2) (fun e => hl (by rw [e.1])))
    have d1 : ((l1.length : Int) == (l2.length : Int)) = false := by simpa using by omega
    generalize l1.length = q1 at *
    generalize l2.length = q2 at *
    go_enter Try.func18, Try.ntmps18
    go_wp2_with fail
    go_ret
    exact ⟨by rw [HE.out]; rfl, (by repeat' (first | exact Below.refl _ _ | assumption | refine Below.xt ?_ ?_ _ | refine Below.alloc ?_ ?_ _ | refine Below.drew ?_ | refine Below.setCell ?_ ?_ _ | (simp; done) | (simp; omega)))⟩
end Go.Proofs.Ytjiknjcmfiapjaa

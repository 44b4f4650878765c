
/- Walks: the question whether some costs suffice, and the search by halving. Conditions stand in each theorem. -/
import Derived.Test.YtjiknjcmfiapjaaBotG
import Derived.Test.YtjiknjcmfiapjaaMatB6
namespace Go.Proofs.Ytjiknjcmfiapjaa
open Go.RowKit
set_option linter.unusedVariables false
set_option linter.unusedSimpArgs false

/-- Pairs with costs of at most x match all rows. -/
def enB (G : Nat → List Int) (n : Nat) (x : Int) : Bool := decide (n ≤ sizeV (gph G n fun c => decide (c ≤ x)) n)
theorem szN_gph (G : Nat → List Int) {n : Nat} (p : Int → Bool) (h : n ≤ 200) : szN (gph G n p) n n = sizeV (gph G n p) n := by
  unfold szN; rw [if_pos (gph_vld G p h)]
theorem erV_gph (G : Nat → List Int) {n : Nat} (p : Int → Bool) (h : n ≤ 200) : erV (gph G n p) n n = 0 := by
  unfold erV; rw [if_pos (gph_vld G p h)]
theorem gph_len (G : Nat → List Int) (n : Nat) (p : Int → Bool) (i : Nat) : (gph G n p i).length ≤ n := nums_len _ n
def ans (b : Bool) : Int := if b then 1 else -1

set_option maxHeartbeats 1600000 in
theorem most_any (x : Int) (A : Option Addr) (n cA b : Nat) (G : Nat → List Int) (w : World) (hG : GRow w A n G) (hC : Cst G n) (hb : old b w) (hc : w.cell? ⟨b, 0, none⟩ = some (.slice A n cA)) (hx : I64 x) :
    Calls Try.prog 41 #[.int .i64 x, .bool true, .pointer (some ⟨b, 0, none⟩)] w (RetB (.int .i64 (ans (enB G n x))) w) := by
  have hn1 := hC.pos
  have hn2 := hC.le
  have HG := Lib.hid hG
  have C1 := fun w' (h : GRow w' A n G) b' (h1 : old b' w') (h2 : w'.cell? ⟨b', 0, none⟩ = some (.int .i64 x)) => Lib.hid (graphle A n cA b' x G w' hn1 hn2 hC.len h h1 h2)
  have C2 : ∀ A' c' w', GRow w' A' n (gph G n fun c => decide (c ≤ x)) → Hid (Calls Try.prog 42 #[.agg #[.slice A' n c', .int .i64 (n : Int)]] w' (RetB (.tuple #[.int .i64 ((sizeV (gph G n fun c => decide (c ≤ x)) n : Nat) : Int), .int .i64 0]) w')) := fun A' c' w' h => by
    have := Size_any A' n c' n (gph G n fun c => decide (c ≤ x)) w' (by omega) (fun i hi => Nat.le_trans (gph_len _ _ _ _) (by omega)) h
    rw [szN_gph G _ (by omega), erV_gph G _ (by omega)] at this
    exact Lib.hid this
  clear hG hC
  unfold enB
  generalize hs : sizeV (gph G n fun c => decide (c ≤ x)) n = s at *
  clear hs
  by_cases h : n ≤ s
  · have d1 : decide (s < n) = false := by simpa using h
    have HE := Lib.hid (show ans (decide (n ≤ s)) = 1 by simp [ans, h])
    clear h
    go_enter Try.func41, Try.ntmps41
    go_wp2_with (first | (go_at_call 29; refine (C1 _ ?_ _ ?_ ?_).out.mono ?_; (next => exact HG.out.alloc _); (next => unfold old; simp); (next => go_simp); rintro e' w1 ⟨A1, c1, rfl, hb1, hr1⟩; obtain ⟨g1, rfl⟩ := xt_of_below hb1) | (go_at_call 42; refine (RetB.grown (C2 _ _ _ hr1).out).mono ?_; rintro e' w2 ⟨rfl, g, rfl⟩))
    go_ret
    exact ⟨by rw [HE.out]; rfl, (by repeat' (first | exact Below.refl _ _ | assumption | refine Below.xt ?_ ?_ _ | refine Below.alloc ?_ ?_ _ | refine Below.drew ?_ | refine Below.setCell ?_ ?_ _ | (simp; done) | (simp; omega)))⟩
  · have d1 : decide (s < n) = true := by simpa using h
    have HE := Lib.hid (show ans (decide (n ≤ s)) = -1 by simp [ans, h])
    clear h
    go_enter Try.func41, Try.ntmps41
    go_wp2_with (first | (go_at_call 29; refine (C1 _ ?_ _ ?_ ?_).out.mono ?_; (next => exact HG.out.alloc _); (next => unfold old; simp); (next => go_simp); rintro e' w1 ⟨A1, c1, rfl, hb1, hr1⟩; obtain ⟨g1, rfl⟩ := xt_of_below hb1) | (go_at_call 42; refine (RetB.grown (C2 _ _ _ hr1).out).mono ?_; rintro e' w2 ⟨rfl, g, rfl⟩))
    go_ret
    exact ⟨by rw [HE.out]; rfl, (by repeat' (first | exact Below.refl _ _ | assumption | refine Below.xt ?_ ?_ _ | refine Below.alloc ?_ ?_ _ | refine Below.drew ?_ | refine Below.setCell ?_ ?_ _ | (simp; done) | (simp; omega)))⟩

/-- The call returns the first place at which the question is answered with yes. -/
def BSF (l : List Int) (q : Int → Bool) (w : World) (e : Ending) (w' : World) : Prop := ∃ p : Nat, p ≤ l.length ∧ e = .returned (.tuple #[.int .i64 (p : Int), .bool false]) ∧ (∀ j, j < p → q (l.getD j 0) = false) ∧ (∀ j, p ≤ j → j < l.length → q (l.getD j 0) = true) ∧ Below w.heap.size w w'
set_option maxHeartbeats 3200000 in
theorem bsf_any (A : Option Addr) (cap b : Nat) (l : List Int) (q : Int → Bool) (w : World) (hl : l.length ≤ 1000000) (h : RowI w A l) (hm : ∀ i j, i < j → j < l.length → q (l.getD i 0) = true → q (l.getD j 0) = true)
    (hq : ∀ (x : Int) (g : Gr), x ∈ l → Calls Try.prog 41 #[.int .i64 x, .bool true, .pointer (some ⟨b, 0, none⟩)] (xt w g) (RetB (.int .i64 (ans (q x))) (xt w g))) :
    Calls Try.prog 40 #[.slice A l.length cap, .bool true, .func (.func 41) #[] #[.pointer (some ⟨b, 0, none⟩)]] w (BSF l q w) := by
  have HI := Lib.hid h
  have HM := Lib.hid hm
  have HQ := Lib.hid hq
  obtain ⟨m, hmm⟩ : ∃ m, l.length = m := ⟨_, rfl⟩
  have HL := Lib.hid hmm
  rw [hmm] at hl ⊢
  clear h hm hq hmm
  go_enter Try.func40, Try.ntmps40
  go_wp2_with fail
  go_loopw [9, 10] (fun i j wr => ∃ (p r : Nat) (g : Gr), p ≤ r ∧ r ≤ m ∧ i = .int .i64 p ∧ j = .int .i64 r ∧ wr = xt w g ∧ Hid (∀ j, j < p → q (l.getD j 0) = false) ∧ Hid (∀ j, r ≤ j → j < m → q (l.getD j 0) = true)) (fun i j _ => (intOf j).toNat - (intOf i).toNat)
  case atStart => exact ⟨0, m, _, by omega, by omega, rfl, rfl, (xt_self _).symm, Lib.hid (fun j h => absurd h (by omega)), Lib.hid (fun j h h2 => by omega)⟩
  case round =>
    obtain ⟨p, r, g, hpr, hr, rfl, rfl, rfl, H1, H2⟩ := hrel
    by_cases hlt : p < r
    · obtain ⟨b0, o, rfl, hb0, hc⟩ := RowI.at_ HI.out (by rw [HL.out]; omega)
      have c1 := hc ((p + r) / 2) (by rw [HL.out]; omega)
      obtain ⟨y, hy⟩ : ∃ y, l.getD ((p + r) / 2) 0 = y := ⟨_, rfl⟩
      have C1 := HQ.out y g (by rw [← hy]; exact getD_in (by rw [HL.out]; omega))
      rw [hy] at c1
      have HY := Lib.hid hy
      clear hy hc
      cases hyq : q y with
      | false =>
        rw [hyq] at C1
        have HC := Lib.hid (show Calls Try.prog 41 #[.int .i64 y, .bool true, .pointer (some ⟨b, 0, none⟩)] (xt w g) (RetB (.int .i64 (-1)) (xt w g)) from C1)
        have HE := Lib.hid (show ∀ j, j < (p + r) / 2 + 1 → q (l.getD j 0) = false from fun j hj => by
          by_cases e : j = (p + r) / 2
          · rw [e, HY.out]; exact hyq
          · rw [← Bool.not_eq_true]
            intro h
            have := HM.out j ((p + r) / 2) (by omega) (by rw [HL.out]; omega) h
            rw [HY.out, hyq] at this; cases this)
        clear HY H1 C1 hyq
        go_wp2_with (go_at_call 41; refine (RetB.grown HC.out).mono ?_; rintro e' w' ⟨rfl, g2, rfl⟩)
        go_roundw
        case rel => exact ⟨(p + r) / 2 + 1, r, _, by omega, hr, by rw [show ((p : Int) + (r : Int)) / 2 + 1 = (((p + r) / 2 + 1 : Nat) : Int) by omega], rfl, xt_xt _ _ _, HE, H2⟩
        case measure => simp [intOf]; omega
      | true =>
        rw [hyq] at C1
        have HC := Lib.hid (show Calls Try.prog 41 #[.int .i64 y, .bool true, .pointer (some ⟨b, 0, none⟩)] (xt w g) (RetB (.int .i64 1) (xt w g)) from C1)
        have HE := Lib.hid (show ∀ j, (p + r) / 2 ≤ j → j < m → q (l.getD j 0) = true from fun j hj hjl => by
          by_cases e : j = (p + r) / 2
          · rw [e, HY.out]; exact hyq
          · exact HM.out ((p + r) / 2) j (by omega) (by rw [HL.out]; omega) (by rw [HY.out]; exact hyq))
        clear HY H2 C1 hyq
        go_wp2_with (go_at_call 41; refine (RetB.grown HC.out).mono ?_; rintro e' w' ⟨rfl, g2, rfl⟩)
        go_roundw
        case rel => exact ⟨p, (p + r) / 2, _, by omega, by omega, rfl, by rw [show ((p : Int) + (r : Int)) / 2 = (((p + r) / 2 : Nat) : Int) by omega], xt_xt _ _ _, H1, HE⟩
        case measure => simp [intOf]; omega
    · obtain rfl : p = r := by omega
      by_cases hpl : p < m
      · obtain ⟨b0, o, rfl, hb0, hc⟩ := RowI.at_ HI.out (by rw [HL.out]; omega)
        have c1 := hc p (by rw [HL.out]; omega)
        obtain ⟨y, hy⟩ : ∃ y, l.getD p 0 = y := ⟨_, rfl⟩
        have C1 := HQ.out y g (by rw [← hy]; exact getD_in (by rw [HL.out]; omega))
        rw [← hy, H2.out p (Nat.le_refl p) hpl, hy] at C1
        rw [hy] at c1
        have HC := Lib.hid (show Calls Try.prog 41 #[.int .i64 y, .bool true, .pointer (some ⟨b, 0, none⟩)] (xt w g) (RetB (.int .i64 1) (xt w g)) from C1)
        clear hy hc C1
        go_wp2_with (go_at_call 41; refine (RetB.grown HC.out).mono ?_; rintro e' w' ⟨rfl, g2, rfl⟩)
        go_ret2
        exact ⟨p, by rw [HL.out]; exact hr, rfl, H1.out, fun j h1 h2 => H2.out j h1 (by rw [HL.out] at h2; exact h2), (by repeat' (first | exact Below.refl _ _ | assumption | refine Below.xt ?_ ?_ _ | refine Below.alloc ?_ ?_ _ | refine Below.drew ?_ | refine Below.setCell ?_ ?_ _ | (simp; done) | (simp; omega)))⟩
      · go_wp2_with fail
        go_ret2
        exact ⟨p, by rw [HL.out]; exact hr, rfl, H1.out, fun j h1 h2 => H2.out j h1 (by rw [HL.out] at h2; exact h2), (by repeat' (first | exact Below.refl _ _ | assumption | refine Below.xt ?_ ?_ _ | refine Below.alloc ?_ ?_ _ | refine Below.drew ?_ | refine Below.setCell ?_ ?_ _ | (simp; done) | (simp; omega)))⟩
end Go.Proofs.Ytjiknjcmfiapjaa

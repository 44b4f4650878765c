
/- Walks: which overlay decides, by the program. Conditions stand in each theorem. -/
import Derived.Test.YtiikejhkhdmgeaaGreatLigL2
namespace Go.Proofs.YtiikejhkhdmgeaaGreat
open Go.RowKit
set_option linter.unusedVariables false
set_option linter.unusedSimpArgs false
attribute [local go_sem ↓] ldr16 ldr18

set_option maxRecDepth 100000 in
set_option maxHeartbeats 1600000 in
theorem pick_any (A1 A2 A3 : Option Addr) (c1 c2 c3 : Nat) (L : Li) (a t : Int) (w : World) (hF : FineL L) (hr : RowL w A1 A2 A3 L) :
    Calls Tryz.prog 15 #[.agg #[.slice A1 L.nG c1, .slice A2 L.cs.length c2, .slice A3 L.os.length c3], .int .i64 a, .int .i64 t] w (RetB (if fineE L a t = 0 then .tuple #[.agg #[.slice A1 L.nG c1, .slice A2 L.cs.length c2, .slice A3 L.os.length c3, .int .i64 a], .int .i64 0] else .tuple #[.agg #[.slice none 0 0, .slice none 0 0, .slice none 0 0, .int .i64 0], .int .i64 (fineE L a t)]) w) := by
  have K := fun w h => Lib.hid (lValid_any A1 A2 A3 c1 c2 c3 L w hF h)
  have HR := Lib.hid hr
  obtain ⟨V, hV⟩ : ∃ V : Value, (if fineE L a t = 0 then Value.tuple #[.agg #[.slice A1 L.nG c1, .slice A2 L.cs.length c2, .slice A3 L.os.length c3, .int .i64 a], .int .i64 0] else .tuple #[.agg #[.slice none 0 0, .slice none 0 0, .slice none 0 0, .int .i64 0], .int .i64 (fineE L a t)]) = V := ⟨_, rfl⟩
  rw [hV]
  have f1 := hF.n
  obtain ⟨v, hv⟩ : ∃ v, liB L = v := ⟨_, rfl⟩
  rw [hv] at K
  clear hF hr
  cases v
  · have E := Lib.hid (show Value.tuple #[.agg #[.slice none 0 0, .slice none 0 0, .slice none 0 0, .int .i64 0], .int .i64 2] = V by
      rw [← hV]
      have e : fineE L a t = 2 := by rw [fineE, if_neg]; rintro ⟨h, _⟩; rw [hv] at h; cases h
      rw [e]; rfl)
    clear hV hv
    go_enter Tryz.func15, Tryz.ntmps15
    go_wp2_with fail
    refine (RetB.grown (K _ (by repeat (first | (with_reducible exact HR.out) | (with_reducible refine RowL.alloc ?_ _)))).out).mono ?_
    rintro e' w' ⟨rfl, g1, rfl⟩
    go_wp2_with fail
    rw [← E.out]
    refine bodyPost_ret (v := .tuple #[.agg #[.slice none 0 0, .slice none 0 0, .slice none 0 0, .int .i64 0], .int .i64 2]) (by simp [results, Tryz.results15, go_sem]) rfl ?_
    exact RetB.of rfl (by repeat' (first | exact Below.refl _ _ | assumption | refine Below.xt ?_ ?_ _ | refine Below.alloc ?_ ?_ _ | refine Below.drew ?_ | refine Below.setCell ?_ ?_ _ | (simp; done) | (simp; omega)))
  · by_cases ha : 0 ≤ a ∧ a < L.nG
    · by_cases ht : 0 ≤ t ∧ t ≤ 3600000
      · have E := Lib.hid (show Value.tuple #[.agg #[.slice A1 L.nG c1, .slice A2 L.cs.length c2, .slice A3 L.os.length c3, .int .i64 a], .int .i64 0] = V by
          rw [← hV]
          have e : fineE L a t = 0 := by rw [fineE, if_pos ⟨hv, ha⟩, if_pos ht]
          rw [e]; rfl)
        obtain ⟨a0, a1⟩ := ha
        obtain ⟨t0, t1⟩ := ht
        clear hV hv
        go_enter Tryz.func15, Tryz.ntmps15
        go_wp2_with fail
        refine (RetB.grown (K _ (by repeat (first | (with_reducible exact HR.out) | (with_reducible refine RowL.alloc ?_ _)))).out).mono ?_
        rintro e' w' ⟨rfl, g1, rfl⟩
        go_wp2_with fail
        rw [← E.out]
        refine bodyPost_ret (v := .tuple #[.agg #[.slice A1 L.nG c1, .slice A2 L.cs.length c2, .slice A3 L.os.length c3, .int .i64 a], .int .i64 0]) (by simp [results, Tryz.results15, go_sem]) rfl ?_
        exact RetB.of rfl (by repeat' (first | exact Below.refl _ _ | assumption | refine Below.xt ?_ ?_ _ | refine Below.alloc ?_ ?_ _ | refine Below.drew ?_ | refine Below.setCell ?_ ?_ _ | (simp; done) | (simp; omega)))
      · have E := Lib.hid (show Value.tuple #[.agg #[.slice none 0 0, .slice none 0 0, .slice none 0 0, .int .i64 0], .int .i64 3] = V by
          rw [← hV]
          have e : fineE L a t = 3 := by rw [fineE, if_pos ⟨hv, ha⟩, if_neg ht]
          rw [e]; rfl)
        obtain ⟨a0, a1⟩ := ha
        clear hV hv
        have tt : t < 0 ∨ (0 ≤ t ∧ 3600000 < t) := by omega
        clear ht
        rcases tt with t0 | ⟨t0, t1⟩
        all_goals
          go_enter Tryz.func15, Tryz.ntmps15
          go_wp2_with fail
          refine (RetB.grown (K _ (by repeat (first | (with_reducible exact HR.out) | (with_reducible refine RowL.alloc ?_ _)))).out).mono ?_
          rintro e' w' ⟨rfl, g1, rfl⟩
          go_wp2_with fail
          rw [← E.out]
          refine bodyPost_ret (v := .tuple #[.agg #[.slice none 0 0, .slice none 0 0, .slice none 0 0, .int .i64 0], .int .i64 3]) (by simp [results, Tryz.results15, go_sem]) rfl ?_
          exact RetB.of rfl (by repeat' (first | exact Below.refl _ _ | assumption | refine Below.xt ?_ ?_ _ | refine Below.alloc ?_ ?_ _ | refine Below.drew ?_ | refine Below.setCell ?_ ?_ _ | (simp; done) | (simp; omega)))
    · have E := Lib.hid (show Value.tuple #[.agg #[.slice none 0 0, .slice none 0 0, .slice none 0 0, .int .i64 0], .int .i64 2] = V by
        rw [← hV]
        have e : fineE L a t = 2 := by rw [fineE, if_neg]; rintro ⟨_, h⟩; exact ha h
        rw [e]; rfl)
      clear hV hv
      have aa : a < 0 ∨ (0 ≤ a ∧ (L.nG : Int) ≤ a) := by omega
      clear ha
      rcases aa with a0 | ⟨a0, a1⟩
      all_goals
        go_enter Tryz.func15, Tryz.ntmps15
        go_wp2_with fail
        refine (RetB.grown (K _ (by repeat (first | (with_reducible exact HR.out) | (with_reducible refine RowL.alloc ?_ _)))).out).mono ?_
        rintro e' w' ⟨rfl, g1, rfl⟩
        go_wp2_with fail
        rw [← E.out]
        refine bodyPost_ret (v := .tuple #[.agg #[.slice none 0 0, .slice none 0 0, .slice none 0 0, .int .i64 0], .int .i64 2]) (by simp [results, Tryz.results15, go_sem]) rfl ?_
        exact RetB.of rfl (by repeat' (first | exact Below.refl _ _ | assumption | refine Below.xt ?_ ?_ _ | refine Below.alloc ?_ ?_ _ | refine Below.drew ?_ | refine Below.setCell ?_ ?_ _ | (simp; done) | (simp; omega)))

/-! ### The loop over the overlays -/
theorem wh_step {os : List Ov} {g : List ByteArray} {t : Int} {k : Nat} (hp : 0 ≤ (ov os k).p) :
    (onB (ov os k).e t = true → whP os g t k ≤ (ov os k).p → memB g (ov os k).g = true → wh os g t (k + 1) = k ∧ whP os g t (k + 1) = (ov os k).p) ∧
    (¬ (onB (ov os k).e t = true ∧ whP os g t k ≤ (ov os k).p ∧ memB g (ov os k).g = true) → wh os g t (k + 1) = wh os g t k ∧ whP os g t (k + 1) = whP os g t k) := by
  have hb := wh_bd os g t k
  have key : (hitB os g t k = true ∧ (wh os g t k < 0 ∨ (ov os (wh os g t k).toNat).p ≤ (ov os k).p)) ↔ (onB (ov os k).e t = true ∧ whP os g t k ≤ (ov os k).p ∧ memB g (ov os k).g = true) := by
    rw [hitB, Bool.and_eq_true, whP]
    constructor
    · rintro ⟨⟨h1, h2⟩, h3⟩
      refine ⟨h1, ?_, h2⟩
      split
      · exact hp
      · rename_i h; rcases h3 with h3 | h3
        · exact absurd h3 h
        · exact h3
    · rintro ⟨h1, h2, h3⟩
      refine ⟨⟨h1, h3⟩, ?_⟩
      by_cases h : wh os g t k < 0
      · exact .inl h
      · rw [if_neg h] at h2; exact .inr h2
  refine ⟨fun h1 h2 h3 => ?_, fun h => ?_⟩
  · have e : wh os g t (k + 1) = k := by rw [wh, if_pos (key.2 ⟨h1, h2, h3⟩)]
    refine ⟨e, ?_⟩
    rw [whP, e, if_neg (by omega)]
    rfl
  · have e : wh os g t (k + 1) = wh os g t k := by rw [wh, if_neg (fun hh => h (key.1 hh))]
    exact ⟨e, by rw [whP, e, whP]⟩

set_option maxRecDepth 100000 in
set_option maxHeartbeats 3200000 in
theorem which_any (A1 A2 A3 : Option Addr) (c1 c2 c3 a : Nat) (L : Li) (t : Int) (w : World) (hF : FineL L) (hv : liB L = true) (ha : a < L.nG) (hr : RowL w A1 A2 A3 L) :
    Calls Tryz.prog 27 #[.agg #[.slice A1 L.nG c1, .slice A2 L.cs.length c2, .slice A3 L.os.length c3, .int .i64 (a : Nat)], .int .i64 t] w (RetB (.int .i64 (wh L.os (L.G a) t L.os.length)) w) := by
  obtain ⟨q1, q2, q3, q4, q5⟩ := liB_iff.1 hv
  rcases Nat.eq_zero_or_pos L.os.length with h0 | h0
  · have E := Lib.hid (show -1 = wh L.os (L.G a) t L.os.length by rw [h0]; rfl)
    have z0 : (L.os.length : Int) = 0 := by omega
    clear hr hF hv q1 q2 q3 q4 q5
    generalize wh L.os (L.G a) t L.os.length = R at *
    generalize L.os.length = n at *
    subst h0
    clear z0
    go_enter Tryz.func27, Tryz.ntmps27
    go_wp2_with fail
    go_rounds 1
    go_ret
    exact RetB.of (int_eq E.out) (by repeat' (first | exact Below.refl _ _ | assumption | refine Below.xt ?_ ?_ _ | refine Below.alloc ?_ ?_ _ | refine Below.drew ?_ | refine Below.setCell ?_ ?_ _ | (simp; done) | (simp; omega)))
  · have C := fun (x : ByteArray) w h => Lib.hid (belongs_any A1 A2 A3 c1 c2 c3 a L x w ha hF.n (hF.gs a ha).1 h)
    have HG := Lib.hid hr.g
    obtain ⟨b, o, rfl, hb, hc⟩ := RowO.row hr.o h0
    have HC := Lib.hid hc
    have HP := Lib.hid (show ∀ k, k < L.os.length → 0 ≤ (ov L.os k).p from fun k hk => by
      have := q5 k hk
      simp only [ovB, Bool.and_eq_true, within_iff] at this
      exact this.1.2.1)
    clear hr hc hF hv q1 q2 q4 q5
    go_enter Tryz.func27, Tryz.ntmps27
    go_wp2_with fail
    go_loopw [5, 6, 13] (fun u5 u6 i wr => ∃ (k : Nat) (g : Gr), k ≤ L.os.length ∧ u5 = .int .i64 (wh L.os (L.G a) t k) ∧ u6 = .int .i64 (whP L.os (L.G a) t k) ∧ i = .int .i64 k ∧ wr = xt (w.alloc (.cells #[.slice A1 L.nG c1, .slice A2 L.cs.length c2, .slice (some ⟨b, o, none⟩) L.os.length c3, .int .i64 (a : Nat)] 60)) g) (fun _ _ i _ => L.os.length - (intOf i).toNat)
    case atStart => exact ⟨0, ⟨[], _⟩, by omega, rfl, rfl, rfl, (xt_self _).symm⟩
    case round =>
      obtain ⟨k, g, hk, rfl, rfl, rfl, rfl⟩ := hrel
      by_cases hlt : k < L.os.length
      · have x0 := HC.out k hlt
        have HS := Lib.hid (wh_step (os := L.os) (g := L.G a) (t := t) (k := k) (HP.out k hlt))
        have C1 := C (ov L.os k).g
        have HO := Lib.hid (show onB (ov L.os k).e t = (decide ((ov L.os k).e.fr ≤ t) && decide (t < (ov L.os k).e.to)) from rfl)
        obtain ⟨W, hW⟩ : ∃ W, wh L.os (L.G a) t k = W := ⟨_, rfl⟩
        obtain ⟨P, hP⟩ : ∃ P, whP L.os (L.G a) t k = P := ⟨_, rfl⟩
        rw [hW, hP] at HS ⊢
        clear hW hP
        generalize ov L.os k = v at *
        obtain ⟨m, hm⟩ : ∃ m, memB (L.G a) v.g = m := ⟨_, rfl⟩
        rw [hm] at C1 HS
        clear hm C
        by_cases h1 : v.e.fr ≤ t
        · by_cases h2 : t < v.e.to
          · have O1 := Lib.hid (show onB v.e t = true by rw [HO.out, decide_eq_true h1, decide_eq_true h2]; rfl)
            by_cases h3 : P ≤ v.p
            · cases m
              · obtain ⟨e1, e2⟩ := HS.out.2 (fun h => by cases h.2.2)
                have E1 := Lib.hid e1
                have E2 := Lib.hid e2
                clear e1 e2 HS O1 HO
                go_wp2_with (first
                  | (go_at_call 24; refine (RetB.grown ((C1 _ (by repeat (first | (with_reducible exact HG.out) | (with_reducible refine RowG.alloc ?_ _) | (with_reducible refine RowG.xt ?_ _)))).out)).mono ?_; rintro e' w' ⟨rfl, g, rfl⟩)
                  | (refine wp_region_xt (by kernel_rfl) (by kernel_rfl) ?_; (repeat (go_big_quiet_step (first | (go_at_call 24; exact RetB.quiet ((C1 _ (by repeat (first | (with_reducible exact HG.out) | (with_reducible refine RowG.alloc ?_ _) | (with_reducible refine RowG.xt ?_ _)))).out))))); refine wpQuiet_nil ?_; intro g))
                go_roundw
                case rel => exact ⟨k + 1, _, by omega, by rw [E1.out], by rw [E2.out], by go_num, (Classical.choose_spec (xt_of_below (by repeat' (first | exact Below.refl _ _ | assumption | refine Below.xt ?_ ?_ _ | refine Below.alloc ?_ ?_ _ | refine Below.drew ?_ | refine Below.setCell ?_ ?_ _ | (simp; done) | (simp; omega)))))⟩
                case measure => simp [intOf]; omega
              · obtain ⟨e1, e2⟩ := HS.out.1 O1.out h3 rfl
                have E1 := Lib.hid e1
                have E2 := Lib.hid e2
                clear e1 e2 HS O1 HO
                go_wp2_with (first
                  | (go_at_call 24; refine (RetB.grown ((C1 _ (by repeat (first | (with_reducible exact HG.out) | (with_reducible refine RowG.alloc ?_ _) | (with_reducible refine RowG.xt ?_ _)))).out)).mono ?_; rintro e' w' ⟨rfl, g, rfl⟩)
                  | (refine wp_region_xt (by kernel_rfl) (by kernel_rfl) ?_; (repeat (go_big_quiet_step (first | (go_at_call 24; exact RetB.quiet ((C1 _ (by repeat (first | (with_reducible exact HG.out) | (with_reducible refine RowG.alloc ?_ _) | (with_reducible refine RowG.xt ?_ _)))).out))))); refine wpQuiet_nil ?_; intro g))
                go_roundw
                case rel => exact ⟨k + 1, _, by omega, by rw [E1.out], by rw [E2.out], by go_num, (Classical.choose_spec (xt_of_below (by repeat' (first | exact Below.refl _ _ | assumption | refine Below.xt ?_ ?_ _ | refine Below.alloc ?_ ?_ _ | refine Below.drew ?_ | refine Below.setCell ?_ ?_ _ | (simp; done) | (simp; omega)))))⟩
                case measure => simp [intOf]; omega
            · obtain ⟨e1, e2⟩ := HS.out.2 (fun h => h3 h.2.1)
              have E1 := Lib.hid e1
              have E2 := Lib.hid e2
              have d3 : decide (P ≤ v.p) = false := by simpa using h3
              clear e1 e2 HS O1 HO
              go_wp2_with (first
                | (refine wp_region_xt (by kernel_rfl) (by kernel_rfl) ?_; (repeat (go_big_quiet_step (first | fail))); refine wpQuiet_nil ?_; intro g))
              go_roundw
              case rel => exact ⟨k + 1, _, by omega, by rw [E1.out], by rw [E2.out], by go_num, (Classical.choose_spec (xt_of_below (by repeat' (first | exact Below.refl _ _ | assumption | refine Below.xt ?_ ?_ _ | refine Below.alloc ?_ ?_ _ | refine Below.drew ?_ | refine Below.setCell ?_ ?_ _ | (simp; done) | (simp; omega)))))⟩
              case measure => simp [intOf]; omega
          · have O1 := Lib.hid (show onB v.e t = false by rw [HO.out, decide_eq_false h2]; simp)
            obtain ⟨e1, e2⟩ := HS.out.2 (fun h => by rw [O1.out] at h; cases h.1)
            have E1 := Lib.hid e1
            have E2 := Lib.hid e2
            have d3 : decide (t < v.e.to) = false := by simpa using h2
            clear e1 e2 HS O1 HO
            go_wp2_with (first
              | (refine wp_region_xt (by kernel_rfl) (by kernel_rfl) ?_; (repeat (go_big_quiet_step (first | fail))); refine wpQuiet_nil ?_; intro g))
            go_roundw
            case rel => exact ⟨k + 1, _, by omega, by rw [E1.out], by rw [E2.out], by go_num, (Classical.choose_spec (xt_of_below (by repeat' (first | exact Below.refl _ _ | assumption | refine Below.xt ?_ ?_ _ | refine Below.alloc ?_ ?_ _ | refine Below.drew ?_ | refine Below.setCell ?_ ?_ _ | (simp; done) | (simp; omega)))))⟩
            case measure => simp [intOf]; omega
        · have O1 := Lib.hid (show onB v.e t = false by rw [HO.out, decide_eq_false h1]; simp)
          obtain ⟨e1, e2⟩ := HS.out.2 (fun h => by rw [O1.out] at h; cases h.1)
          have E1 := Lib.hid e1
          have E2 := Lib.hid e2
          have d3 : decide (v.e.fr ≤ t) = false := by simpa using h1
          clear e1 e2 HS O1 HO
          go_wp2_with (first
            | (refine wp_region_xt (by kernel_rfl) (by kernel_rfl) ?_; (repeat (go_big_quiet_step (first | fail))); refine wpQuiet_nil ?_; intro g))
          go_roundw
          case rel => exact ⟨k + 1, _, by omega, by rw [E1.out], by rw [E2.out], by go_num, (Classical.choose_spec (xt_of_below (by repeat' (first | exact Below.refl _ _ | assumption | refine Below.xt ?_ ?_ _ | refine Below.alloc ?_ ?_ _ | refine Below.drew ?_ | refine Below.setCell ?_ ?_ _ | (simp; done) | (simp; omega)))))⟩
          case measure => simp [intOf]; omega
      · obtain rfl : k = L.os.length := by omega
        go_wp2_with fail
        go_ret
        exact RetB.of rfl (by repeat' (first | exact Below.refl _ _ | assumption | refine Below.xt ?_ ?_ _ | refine Below.alloc ?_ ?_ _ | refine Below.drew ?_ | refine Below.setCell ?_ ?_ _ | (simp; done) | (simp; omega)))

end Go.Proofs.YtiikejhkhdmgeaaGreat

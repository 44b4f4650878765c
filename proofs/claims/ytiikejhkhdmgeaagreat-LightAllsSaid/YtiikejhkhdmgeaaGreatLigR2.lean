
/- Walks: the overlay that decides, by the reference. Conditions stand in each theorem. -/
import Derived.Test.YtiikejhkhdmgeaaGreatLigR1
import Derived.Test.YtiikejhkhdmgeaaGreatLigL3
namespace Go.Proofs.YtiikejhkhdmgeaaGreat
open Go.RowKit
set_option linter.unusedVariables false
set_option linter.unusedSimpArgs false
attribute [local go_sem ↓] ldr16 ldr18

set_option maxRecDepth 100000 in
set_option maxHeartbeats 1600000 in
theorem rFine_any (A1 A2 A3 : Option Addr) (c1 c2 c3 : Nat) (L : Li) (a t : Int) (w : World) (hF : FineL L) (hr : RowL w A1 A2 A3 L) :
    Calls Tryz.prog 62 #[.agg #[.slice A1 L.nG c1, .slice A2 L.cs.length c2, .slice A3 L.os.length c3], .int .i64 a, .int .i64 t] w (RetB (.int .i64 (fineE L a t)) w) := by
  have K := fun w h => Lib.hid (rlValid_any A1 A2 A3 c1 c2 c3 L w hF h)
  have HR := Lib.hid hr
  obtain ⟨V, hV⟩ : ∃ V, fineE L a t = V := ⟨_, rfl⟩
  rw [hV]
  have f1 := hF.n
  obtain ⟨v, hv⟩ : ∃ v, liB L = v := ⟨_, rfl⟩
  rw [hv] at K
  clear hF hr
  cases v
  · have E := Lib.hid (show 2 = V by
      rw [← hV]
      rw [fineE, if_neg]; rintro ⟨h, _⟩; rw [hv] at h; cases h)
    clear hV hv
    go_enter Tryz.func62, Tryz.ntmps62
    go_wp2_with fail
    refine (RetB.grown (K _ (by repeat (first | (with_reducible exact HR.out) | (with_reducible refine RowL.alloc ?_ _) | (with_reducible refine RowL.drew ?_) | (with_reducible refine RowL.xt ?_ _)))).out).mono ?_
    rintro e' w' ⟨rfl, g1, rfl⟩
    go_wp2_with fail
    go_ret
    exact RetB.of (int_eq E.out) (by repeat' (first | exact Below.refl _ _ | assumption | refine Below.xt ?_ ?_ _ | refine Below.alloc ?_ ?_ _ | refine Below.drew ?_ | refine Below.setCell ?_ ?_ _ | (simp; done) | (simp; omega)))
  · by_cases ha : 0 ≤ a ∧ a < L.nG
    · by_cases ht : 0 ≤ t ∧ t ≤ 3600000
      · have E := Lib.hid (show 0 = V by rw [← hV, fineE, if_pos ⟨hv, ha⟩, if_pos ht])
        obtain ⟨a0, a1⟩ := ha
        obtain ⟨t0, t1⟩ := ht
        clear hV hv
        go_enter Tryz.func62, Tryz.ntmps62
        go_wp2_with fail
        refine (RetB.grown (K _ (by repeat (first | (with_reducible exact HR.out) | (with_reducible refine RowL.alloc ?_ _) | (with_reducible refine RowL.drew ?_) | (with_reducible refine RowL.xt ?_ _)))).out).mono ?_
        rintro e' w' ⟨rfl, g1, rfl⟩
        go_wp2_with fail
        go_ret
        exact RetB.of (int_eq E.out) (by repeat' (first | exact Below.refl _ _ | assumption | refine Below.xt ?_ ?_ _ | refine Below.alloc ?_ ?_ _ | refine Below.drew ?_ | refine Below.setCell ?_ ?_ _ | (simp; done) | (simp; omega)))
      · have E := Lib.hid (show 3 = V by rw [← hV, fineE, if_pos ⟨hv, ha⟩, if_neg ht])
        obtain ⟨a0, a1⟩ := ha
        clear hV hv
        have tt : t < 0 ∨ (0 ≤ t ∧ 3600000 < t) := by omega
        clear ht
        rcases tt with t0 | ⟨t0, t1⟩
        all_goals
          go_enter Tryz.func62, Tryz.ntmps62
          go_wp2_with fail
          refine (RetB.grown (K _ (by repeat (first | (with_reducible exact HR.out) | (with_reducible refine RowL.alloc ?_ _) | (with_reducible refine RowL.drew ?_) | (with_reducible refine RowL.xt ?_ _)))).out).mono ?_
          rintro e' w' ⟨rfl, g1, rfl⟩
          go_wp2_with fail
          go_ret
          exact RetB.of (int_eq E.out) (by repeat' (first | exact Below.refl _ _ | assumption | refine Below.xt ?_ ?_ _ | refine Below.alloc ?_ ?_ _ | refine Below.drew ?_ | refine Below.setCell ?_ ?_ _ | (simp; done) | (simp; omega)))
    · have E := Lib.hid (show 2 = V by rw [← hV, fineE, if_neg]; rintro ⟨_, h⟩; exact ha h)
      clear hV hv
      have aa : a < 0 ∨ (0 ≤ a ∧ (L.nG : Int) ≤ a) := by omega
      clear ha
      rcases aa with a0 | ⟨a0, a1⟩
      all_goals
        go_enter Tryz.func62, Tryz.ntmps62
        go_wp2_with fail
        refine (RetB.grown (K _ (by repeat (first | (with_reducible exact HR.out) | (with_reducible refine RowL.alloc ?_ _) | (with_reducible refine RowL.drew ?_) | (with_reducible refine RowL.xt ?_ _)))).out).mono ?_
        rintro e' w' ⟨rfl, g1, rfl⟩
        go_wp2_with fail
        go_ret
        exact RetB.of (int_eq E.out) (by repeat' (first | exact Below.refl _ _ | assumption | refine Below.xt ?_ ?_ _ | refine Below.alloc ?_ ?_ _ | refine Below.drew ?_ | refine Below.setCell ?_ ?_ _ | (simp; done) | (simp; omega)))

theorem wh_step' {os : List Ov} {g : List ByteArray} {t : Int} {k : Nat} :
    (memB g (ov os k).g = true → onB (ov os k).e t = true → (wh os g t k < 0 ∨ (ov os (wh os g t k).toNat).p ≤ (ov os k).p) → wh os g t (k + 1) = k) ∧
    (¬ (memB g (ov os k).g = true ∧ onB (ov os k).e t = true ∧ (wh os g t k < 0 ∨ (ov os (wh os g t k).toNat).p ≤ (ov os k).p)) → wh os g t (k + 1) = wh os g t k) := by
  refine ⟨fun h1 h2 h3 => ?_, fun h => ?_⟩
  · rw [wh, if_pos ⟨by rw [hitB, h1, h2]; rfl, h3⟩]
  · rw [wh, if_neg]
    rintro ⟨h1, h2⟩
    rw [hitB, Bool.and_eq_true] at h1
    exact h ⟨h1.2, h1.1, h2⟩

set_option maxRecDepth 100000 in
set_option maxHeartbeats 6400000 in
theorem rWhich_ok (A1 A2 A3 : Option Addr) (c1 c2 c3 a : Nat) (L : Li) (t : Int) (w : World) (hF : FineL L) (h0 : fineE L (a : Nat) t = 0) (hr : RowL w A1 A2 A3 L) :
    Calls Tryz.prog 37 #[.agg #[.slice A1 L.nG c1, .slice A2 L.cs.length c2, .slice A3 L.os.length c3], .int .i64 (a : Nat), .int .i64 t] w (RetB (.tuple #[.int .i64 (wh L.os (L.G a) t L.os.length), .int .i64 0]) w) := by
  have K := fun w h => Lib.hid (rFine_any A1 A2 A3 c1 c2 c3 L (a : Nat) t w hF h)
  rw [h0] at K
  obtain ⟨hv, ⟨_, ha⟩, ht⟩ := fine_zero.1 h0
  have ha : a < L.nG := by omega
  obtain ⟨q1, q2, q3, q4, q5⟩ := liB_iff.1 hv
  have HR := Lib.hid hr
  rcases Nat.eq_zero_or_pos L.os.length with hz | hz
  · have E := Lib.hid (show -1 = wh L.os (L.G a) t L.os.length by rw [hz]; rfl)
    have HZ := Lib.hid hz
    clear hF h0 hv q1 q2 q3 q4 q5 ht hr hz
    go_enter Tryz.func37, Tryz.ntmps37
    go_wp2_with fail
    refine (RetB.grown (K _ (by repeat (first | (with_reducible exact HR.out) | (with_reducible refine RowL.alloc ?_ _) | (with_reducible refine RowL.drew ?_) | (with_reducible refine RowL.xt ?_ _)))).out).mono ?_
    rintro e' w' ⟨rfl, g1, rfl⟩
    rw [← E.out]
    have hz := HZ.out
    clear K HR E HZ
    generalize L.os.length = n at *
    subst hz
    go_wp2_with fail
    go_rounds 1
    go_ret2
    exact RetB.of rfl (by repeat' (first | exact Below.refl _ _ | assumption | refine Below.xt ?_ ?_ _ | refine Below.alloc ?_ ?_ _ | refine Below.drew ?_ | refine Below.setCell ?_ ?_ _ | (simp; done) | (simp; omega)))
  · have C := fun (x : ByteArray) w h => Lib.hid (rmember_any A1 A2 A3 c1 c2 c3 a L x w ha hF.n (hF.gs a ha).1 h)
    have HG := Lib.hid hr.g
    obtain ⟨b, o, rfl, hb, hc⟩ := RowO.row hr.o hz
    have HC := Lib.hid hc
    obtain ⟨_, _, e3, _, hc'⟩ := Row.at_ hr.o hz
    injection e3 with e3
    injection e3 with e3 e4
    subst e3 e4
    have HC' := Lib.hid (show ∀ i, i < L.os.length → w.cell? ⟨b, o + i * 18 + 1, none⟩ = some (.int .i64 (ov L.os i).p) from fun i hi => (RowO.cells hc' hi).2.1)
    clear hr hc hc' hF h0 hv q1 q2 q4 q5 ht
    go_enter Tryz.func37, Tryz.ntmps37
    go_wp2_with fail
    refine (RetB.grown (K _ (by repeat (first | (with_reducible exact HR.out) | (with_reducible refine RowL.alloc ?_ _) | (with_reducible refine RowL.drew ?_) | (with_reducible refine RowL.xt ?_ _)))).out).mono ?_
    rintro e' w' ⟨rfl, g1, rfl⟩
    clear K HR
    go_wp2_with fail
    go_loopw [9, 10] (fun u9 i wr => ∃ (k : Nat) (g : Gr), k ≤ L.os.length ∧ u9 = .int .i64 (wh L.os (L.G a) t k) ∧ i = .int .i64 k ∧ wr = xt (w.alloc (.cells #[.slice A1 L.nG c1, .slice A2 L.cs.length c2, .slice (some ⟨b, o, none⟩) L.os.length c3] 26)) g) (fun _ i _ => L.os.length - (intOf i).toNat)
    case atStart => exact ⟨0, g1, by omega, rfl, rfl, rfl⟩
    case round =>
      clear g1
      obtain ⟨k, g, hk, rfl, rfl, rfl⟩ := hrel
      by_cases hlt : k < L.os.length
      · have x0 := HC.out k hlt
        have HS := Lib.hid (wh_step' (os := L.os) (g := L.G a) (t := t) (k := k))
        have C1 := C (ov L.os k).g
        have HO := Lib.hid (show onB (ov L.os k).e t = (decide ((ov L.os k).e.fr ≤ t) && decide (t < (ov L.os k).e.to)) from rfl)
        have hbd := wh_bd L.os (L.G a) t k
        obtain ⟨W, hW⟩ : ∃ W, wh L.os (L.G a) t k = W := ⟨_, rfl⟩
        rw [hW] at HS hbd ⊢
        clear hW
        obtain ⟨m, hm⟩ : ∃ m, memB (L.G a) (ov L.os k).g = m := ⟨_, rfl⟩
        rw [hm] at C1 HS
        clear hm C
        cases m
        · have E := Lib.hid (HS.out.2 (fun h => by cases h.1))
          clear HS HO
          generalize ov L.os k = v at *
          go_wp2_with (first
            | (go_at_call 63; refine (RetB.grown ((C1 _ (by repeat (first | (with_reducible exact HG.out) | (with_reducible refine RowG.alloc ?_ _) | (with_reducible refine RowG.xt ?_ _)))).out)).mono ?_; rintro e' w' ⟨rfl, g, rfl⟩)
            | (refine wp_region_xt (by kernel_rfl) (by kernel_rfl) ?_; (repeat (go_big_quiet_step (first | (go_at_call 63; exact RetB.quiet ((C1 _ (by repeat (first | (with_reducible exact HG.out) | (with_reducible refine RowG.alloc ?_ _) | (with_reducible refine RowG.xt ?_ _)))).out))))); refine wpQuiet_nil ?_; intro g))
          go_roundw
          case rel => exact ⟨k + 1, _, by omega, by rw [E.out], by go_num, (Classical.choose_spec (xt_of_below (by repeat' (first | exact Below.refl _ _ | assumption | refine Below.xt ?_ ?_ _ | refine Below.alloc ?_ ?_ _ | refine Below.drew ?_ | refine Below.setCell ?_ ?_ _ | (simp; done) | (simp; omega)))))⟩
          case measure => simp [intOf]; omega
        · by_cases h1 : (ov L.os k).e.fr ≤ t
          · by_cases h2 : t < (ov L.os k).e.to
            · have O1 := Lib.hid (show onB (ov L.os k).e t = true by rw [HO.out, decide_eq_true h1, decide_eq_true h2]; rfl)
              by_cases h3 : W < 0
              · have E := Lib.hid (HS.out.1 rfl O1.out (.inl h3))
                have d3 : decide (W < 0) = true := by simpa using h3
                clear HS HO O1
                generalize ov L.os k = v at *
                go_wp2_with (first
                  | (go_at_call 63; refine (RetB.grown ((C1 _ (by repeat (first | (with_reducible exact HG.out) | (with_reducible refine RowG.alloc ?_ _) | (with_reducible refine RowG.xt ?_ _)))).out)).mono ?_; rintro e' w' ⟨rfl, g, rfl⟩)
                  | (refine wp_region_xt (by kernel_rfl) (by kernel_rfl) ?_; (repeat (go_big_quiet_step (first | (go_at_call 63; exact RetB.quiet ((C1 _ (by repeat (first | (with_reducible exact HG.out) | (with_reducible refine RowG.alloc ?_ _) | (with_reducible refine RowG.xt ?_ _)))).out))))); refine wpQuiet_nil ?_; intro g))
                go_roundw
                case rel => exact ⟨k + 1, _, by omega, by rw [E.out], by go_num, (Classical.choose_spec (xt_of_below (by repeat' (first | exact Below.refl _ _ | assumption | refine Below.xt ?_ ?_ _ | refine Below.alloc ?_ ?_ _ | refine Below.drew ?_ | refine Below.setCell ?_ ?_ _ | (simp; done) | (simp; omega)))))⟩
                case measure => simp [intOf]; omega
              · obtain ⟨j, rfl⟩ := Int.eq_ofNat_of_zero_le (show 0 ≤ W by omega)
                have y1 := HC'.out j (by omega)
                have ej : ((j : Nat) : Int).toNat = j := by omega
                rw [ej] at HS
                have d3 : decide ((j : Int) < 0) = false := by simp
                have j0 : (0 : Int) ≤ (j : Int) := by omega
                have j1 : (j : Int) < (L.os.length : Int) := by omega
                have j2 : j < L.os.length := by omega
                clear ej
                by_cases h4 : (ov L.os j).p ≤ (ov L.os k).p
                · have E := Lib.hid (HS.out.1 rfl O1.out (.inr h4))
                  have d4 : decide ((ov L.os j).p ≤ (ov L.os k).p) = true := by simpa using h4
                  clear HS HO O1
                  generalize ov L.os k = v at *
                  go_wp2_with (first
                    | (go_at_call 63; refine (RetB.grown ((C1 _ (by repeat (first | (with_reducible exact HG.out) | (with_reducible refine RowG.alloc ?_ _) | (with_reducible refine RowG.xt ?_ _)))).out)).mono ?_; rintro e' w' ⟨rfl, g, rfl⟩)
                    | (refine wp_region_xt (by kernel_rfl) (by kernel_rfl) ?_; (repeat (go_big_quiet_step (first | (go_at_call 63; exact RetB.quiet ((C1 _ (by repeat (first | (with_reducible exact HG.out) | (with_reducible refine RowG.alloc ?_ _) | (with_reducible refine RowG.xt ?_ _)))).out))))); refine wpQuiet_nil ?_; intro g))
                  go_roundw
                  case rel => exact ⟨k + 1, _, by omega, by rw [E.out], by go_num, (Classical.choose_spec (xt_of_below (by repeat' (first | exact Below.refl _ _ | assumption | refine Below.xt ?_ ?_ _ | refine Below.alloc ?_ ?_ _ | refine Below.drew ?_ | refine Below.setCell ?_ ?_ _ | (simp; done) | (simp; omega)))))⟩
                  case measure => simp [intOf]; omega
                · have E := Lib.hid (HS.out.2 (fun h => by rcases h.2.2 with h | h <;> contradiction))
                  have d4 : decide ((ov L.os j).p ≤ (ov L.os k).p) = false := by simpa using h4
                  clear HS HO O1
                  generalize ov L.os k = v at *
                  go_wp2_with (first
                    | (go_at_call 63; refine (RetB.grown ((C1 _ (by repeat (first | (with_reducible exact HG.out) | (with_reducible refine RowG.alloc ?_ _) | (with_reducible refine RowG.xt ?_ _)))).out)).mono ?_; rintro e' w' ⟨rfl, g, rfl⟩)
                    | (refine wp_region_xt (by kernel_rfl) (by kernel_rfl) ?_; (repeat (go_big_quiet_step (first | (go_at_call 63; exact RetB.quiet ((C1 _ (by repeat (first | (with_reducible exact HG.out) | (with_reducible refine RowG.alloc ?_ _) | (with_reducible refine RowG.xt ?_ _)))).out))))); refine wpQuiet_nil ?_; intro g))
                  go_roundw
                  case rel => exact ⟨k + 1, _, by omega, by rw [E.out], by go_num, (Classical.choose_spec (xt_of_below (by repeat' (first | exact Below.refl _ _ | assumption | refine Below.xt ?_ ?_ _ | refine Below.alloc ?_ ?_ _ | refine Below.drew ?_ | refine Below.setCell ?_ ?_ _ | (simp; done) | (simp; omega)))))⟩
                  case measure => simp [intOf]; omega
            · have O1 := Lib.hid (show onB (ov L.os k).e t = false by rw [HO.out, decide_eq_false h2]; simp)
              have E := Lib.hid (HS.out.2 (fun h => by rw [O1.out] at h; cases h.2.1))
              have d3 : decide (t < (ov L.os k).e.to) = false := by simpa using h2
              clear HS HO O1
              generalize ov L.os k = v at *
              go_wp2_with (first
                | (go_at_call 63; refine (RetB.grown ((C1 _ (by repeat (first | (with_reducible exact HG.out) | (with_reducible refine RowG.alloc ?_ _) | (with_reducible refine RowG.xt ?_ _)))).out)).mono ?_; rintro e' w' ⟨rfl, g, rfl⟩)
                | (refine wp_region_xt (by kernel_rfl) (by kernel_rfl) ?_; (repeat (go_big_quiet_step (first | (go_at_call 63; exact RetB.quiet ((C1 _ (by repeat (first | (with_reducible exact HG.out) | (with_reducible refine RowG.alloc ?_ _) | (with_reducible refine RowG.xt ?_ _)))).out))))); refine wpQuiet_nil ?_; intro g))
              go_roundw
              case rel => exact ⟨k + 1, _, by omega, by rw [E.out], by go_num, (Classical.choose_spec (xt_of_below (by repeat' (first | exact Below.refl _ _ | assumption | refine Below.xt ?_ ?_ _ | refine Below.alloc ?_ ?_ _ | refine Below.drew ?_ | refine Below.setCell ?_ ?_ _ | (simp; done) | (simp; omega)))))⟩
              case measure => simp [intOf]; omega
          · have O1 := Lib.hid (show onB (ov L.os k).e t = false by rw [HO.out, decide_eq_false h1]; simp)
            have E := Lib.hid (HS.out.2 (fun h => by rw [O1.out] at h; cases h.2.1))
            have d3 : decide ((ov L.os k).e.fr ≤ t) = false := by simpa using h1
            clear HS HO O1
            generalize ov L.os k = v at *
            go_wp2_with (first
              | (go_at_call 63; refine (RetB.grown ((C1 _ (by repeat (first | (with_reducible exact HG.out) | (with_reducible refine RowG.alloc ?_ _) | (with_reducible refine RowG.xt ?_ _)))).out)).mono ?_; rintro e' w' ⟨rfl, g, rfl⟩)
              | (refine wp_region_xt (by kernel_rfl) (by kernel_rfl) ?_; (repeat (go_big_quiet_step (first | (go_at_call 63; exact RetB.quiet ((C1 _ (by repeat (first | (with_reducible exact HG.out) | (with_reducible refine RowG.alloc ?_ _) | (with_reducible refine RowG.xt ?_ _)))).out))))); refine wpQuiet_nil ?_; intro g))
            go_roundw
            case rel => exact ⟨k + 1, _, by omega, by rw [E.out], by go_num, (Classical.choose_spec (xt_of_below (by repeat' (first | exact Below.refl _ _ | assumption | refine Below.xt ?_ ?_ _ | refine Below.alloc ?_ ?_ _ | refine Below.drew ?_ | refine Below.setCell ?_ ?_ _ | (simp; done) | (simp; omega)))))⟩
            case measure => simp [intOf]; omega
      · obtain rfl : k = L.os.length := by omega
        go_wp2_with fail
        go_ret2
        exact RetB.of rfl (by repeat' (first | exact Below.refl _ _ | assumption | refine Below.xt ?_ ?_ _ | refine Below.alloc ?_ ?_ _ | refine Below.drew ?_ | refine Below.setCell ?_ ?_ _ | (simp; done) | (simp; omega)))

set_option maxRecDepth 100000 in
set_option maxHeartbeats 1600000 in
theorem rWhich_any (A1 A2 A3 : Option Addr) (c1 c2 c3 : Nat) (L : Li) (a t : Int) (w : World) (hF : FineL L) (hr : RowL w A1 A2 A3 L) :
    Calls Tryz.prog 37 #[.agg #[.slice A1 L.nG c1, .slice A2 L.cs.length c2, .slice A3 L.os.length c3], .int .i64 a, .int .i64 t] w (RetB (.tuple #[.int .i64 (whE L a t), .int .i64 (fineE L a t)]) w) := by
  by_cases h0 : fineE L a t = 0
  · obtain ⟨q1, ⟨q2, q3⟩, q4, q5⟩ := fine_zero.1 h0
    obtain ⟨n, rfl⟩ := Int.eq_ofNat_of_zero_le q2
    have e : whE L n t = wh L.os (L.G n) t L.os.length := by rw [whE, if_pos h0]; rfl
    rw [h0, e]
    exact rWhich_ok A1 A2 A3 c1 c2 c3 n L t w hF h0 hr
  · have K := fun w h => Lib.hid (rFine_any A1 A2 A3 c1 c2 c3 L a t w hF h)
    have HR := Lib.hid hr
    have e : whE L a t = 0 := by rw [whE, if_neg h0]
    rw [e]
    have z : (fineE L a t != 0) = true := by simpa using h0
    generalize fineE L a t = d at *
    clear hF hr h0 e
    go_enter Tryz.func37, Tryz.ntmps37
    go_wp2_with fail
    refine (RetB.grown (K _ (by repeat (first | (with_reducible exact HR.out) | (with_reducible refine RowL.alloc ?_ _) | (with_reducible refine RowL.drew ?_) | (with_reducible refine RowL.xt ?_ _)))).out).mono ?_
    rintro e' w' ⟨rfl, g1, rfl⟩
    go_wp2_with fail
    go_ret2
    exact RetB.of rfl (by repeat' (first | exact Below.refl _ _ | assumption | refine Below.xt ?_ ?_ _ | refine Below.alloc ?_ ?_ _ | refine Below.drew ?_ | refine Below.setCell ?_ ?_ _ | (simp; done) | (simp; omega)))

end Go.Proofs.YtiikejhkhdmgeaaGreat

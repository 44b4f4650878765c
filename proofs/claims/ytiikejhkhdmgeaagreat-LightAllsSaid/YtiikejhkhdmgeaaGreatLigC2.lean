
/- Walks: which lists are cue lists, by the program: the order of two cues, the loop over the list, the test of each. Conditions stand in each theorem. -/
import Derived.Test.YtiikejhkhdmgeaaGreatLigC1
import Derived.IntWalk
namespace Go.Proofs.YtiikejhkhdmgeaaGreat
open Go.RowKit
set_option linter.unusedVariables false
set_option linter.unusedSimpArgs false

set_option maxHeartbeats 1600000 in
theorem compare_any (a b : Cu) (w : World) : Calls Tryz.prog 82 #[.agg #[.int .i64 a.t, .int .i64 a.f, .string a.g, .int .u8 a.c.r, .int .u8 a.c.g, .int .u8 a.c.b], .agg #[.int .i64 b.t, .int .i64 b.f, .string b.g, .int .u8 b.c.r, .int .u8 b.c.g, .int .u8 b.c.b]] w (RetB (.int .i64 (ucmp a b)) w) := by
  have E := Lib.hid (show or2 (icmp a.t b.t) (scmp a.g b.g) = ucmp a b from rfl)
  have C1 := fun w => Lib.hid (icmp_any a.t b.t w)
  have C2 := fun w => Lib.hid (sCompare_any a.g b.g w)
  generalize ucmp a b = R at *
  generalize icmp a.t b.t = x at *
  generalize scmp a.g b.g = y at *
  obtain ⟨t1, f1, g1, c1⟩ := a
  obtain ⟨t2, f2, g2, c2⟩ := b
  go_enter Tryz.func82, Tryz.ntmps82
  go_wp2_with (first
    | (go_at_call 102; refine ((C1 _).out).mono ?_; rintro e' w' ⟨rfl, rfl⟩)
    | (go_at_call 103; refine ((C2 _).out).mono ?_; rintro e' w' ⟨rfl, rfl⟩)
    | (go_at_call 101; refine (RetB.grown (Or_any x y _ _ _ (by go_simp) (by go_simp) (by go_simp))).mono ?_; rintro e' w' ⟨rfl, g, rfl⟩)
    | (refine wp_region_xt (by kernel_rfl) (by kernel_rfl) ?_; (repeat (go_big_quiet_step (first | (go_at_call 102; exact Ret.quiet ((C1 _).out)) | (go_at_call 103; exact Ret.quiet ((C2 _).out)) | (go_at_call 101; exact RetB.quiet (Or_any x y _ _ _ (by go_simp) (by go_simp) (by go_simp)))))); refine wpQuiet_nil ?_; intro g)
    | (refine wp_region_xt_tail 10 (by kernel_rfl) (by kernel_rfl) ?_; simp only [List.take_succ_cons, List.take_zero, List.drop_succ_cons, List.drop_zero]; (repeat (go_big_quiet_step (first | (go_at_call 102; exact Ret.quiet ((C1 _).out)) | (go_at_call 103; exact Ret.quiet ((C2 _).out)) | (go_at_call 101; exact RetB.quiet (Or_any x y _ _ _ (by go_simp) (by go_simp) (by go_simp)))))); refine wpQuiet_nil ?_; intro g))
  go_ret
  exact RetB.of (int_eq E.out) (by repeat' (first | exact Below.refl _ _ | assumption | refine Below.xt ?_ ?_ _ | refine Below.alloc ?_ ?_ _ | refine Below.drew ?_ | refine Below.setCell ?_ ?_ _ | (simp; done) | (simp; omega)))

def risB (l : List Cu) : Bool := decide (∀ i, i < l.length - 1 → cuLt (cu l i) (cu l (i + 1)) = true)
def fineB (l : List Cu) : Bool := decide (∀ i, i < l.length → cuOk (cu l i) = true)
theorem cusB_eq (l : List Cu) : cusB l = (decide (l.length ≤ 1000) && risB l && fineB l) := by
  rw [Bool.eq_iff_iff, cusB_iff]
  simp only [Bool.and_eq_true, decide_eq_true_eq, risB, fineB]
  exact ⟨fun ⟨a, b, c⟩ => ⟨⟨c, fun i hi => b i (by omega)⟩, a⟩, fun ⟨⟨c, b⟩, a⟩ => ⟨a, fun i hi => b i (by omega), c⟩⟩

set_option maxHeartbeats 1600000 in
theorem rising_some (b o j cap : Nat) (l : List Cu) (w : World) (hn : j + 1 = l.length) (hm : j + 1 ≤ 4294967296) (hr : RowU w (some ⟨b, o, none⟩) l) :
    Calls Tryz.prog 81 #[.slice (some ⟨b, o, none⟩) (j + 1 : Nat) cap, .func (.func 82) #[] #[]] w (RetB (.bool (risB l)) w) := by
  obtain ⟨b', o', e, hb, hc⟩ := Row.at_ hr (by omega)
  injection e with e
  injection e with e1 e2
  subst e1 e2
  have HN := Lib.hid hn
  have HC := Lib.hid fun k hk => RowU.cells hc (i := k) hk
  obtain ⟨R, hR⟩ : ∃ R, risB l = R := ⟨_, rfl⟩
  rw [hR]
  have HB := Lib.hid (show ∀ k, k < j → cuLt (cu l k) (cu l (k + 1)) = false → R = false from fun k hk h => by
    rw [← hR, risB, decide_eq_false]
    intro H
    rw [H k (by omega)] at h; cases h)
  have HG := Lib.hid (show (∀ k, k < j → cuLt (cu l k) (cu l (k + 1)) = true) → R = true from fun h => by
    rw [← hR, risB, decide_eq_true]
    intro k hk
    exact h k (by omega))
  clear hn hr hc hR
  have w1 : IntKind.i64.wrap (j : Int) = (j : Int) := IntWalk.i64_in _ (by omega)
  go_enter Tryz.func81, Tryz.ntmps81
  go_wp2_with fail
  clear w1
  go_loopw [10] (fun i wr => ∃ (k : Nat) (g : Gr), k ≤ j ∧ Hid (∀ q, q < k → cuLt (cu l q) (cu l (q + 1)) = true) ∧ i = .int .i64 k ∧ wr = xt w g) (fun i _ => j - (intOf i).toNat)
  case atStart => exact ⟨0, ⟨[], _⟩, by omega, Lib.hid fun q hq => absurd hq (by omega), rfl, (xt_self _).symm⟩
  case round =>
    obtain ⟨k, g, hk, HP, rfl, rfl⟩ := hrel
    by_cases hlt : k < j
    · obtain ⟨x0, x1, x2, x3, x4, x5⟩ := HC.out k (by have := HN.out; omega)
      obtain ⟨y0, y1, y2, y3, y4, y5⟩ := HC.out (k + 1) (by have := HN.out; omega)
      have HB' := Lib.hid (HB.out k hlt)
      have HL := Lib.hid (ucmp_lt (a := cu l k) (b := cu l (k + 1)))
      have HS := Lib.hid (show cuLt (cu l k) (cu l (k + 1)) = true → ∀ q, q < k + 1 → cuLt (cu l q) (cu l (q + 1)) = true from fun h q hq => if e : q = k then e ▸ h else HP.out q (by omega))
      have C := fun w => Lib.hid (compare_any (cu l k) (cu l (k + 1)) w)
      have w1 : IntKind.i64.wrap ((k : Int) + 1) = (k : Int) + 1 := IntWalk.i64_in _ (by omega)
      have w2 : (0 : Int) ≤ (k : Int) + 1 := by omega
      have w3 : ((k : Int) + 1).toNat = k + 1 := by omega
      generalize ucmp (cu l k) (cu l (k + 1)) = r at *
      generalize cuLt (cu l k) (cu l (k + 1)) = t at *
      generalize cu l k = p at *
      generalize cu l (k + 1) = s at *
      by_cases h0 : 0 ≤ r
      · have E := Lib.hid (HB'.out (by
          cases t
          · rfl
          · have := HL.out.2 rfl; omega))
        clear HB' HL HS HB HG
        go_wp2_with (first
          | (go_at_call 82; refine (RetB.grown ((C _).out)).mono ?_; rintro e' w' ⟨rfl, g, rfl⟩)
          | (refine wp_region_xt (by kernel_rfl) (by kernel_rfl) ?_; (repeat (go_big_quiet_step (first | (go_at_call 82; exact RetB.quiet ((C _).out))))); refine wpQuiet_nil ?_; intro g))
        go_ret
        exact RetB.of (congrArg Value.bool E.out.symm) (by repeat' (first | exact Below.refl _ _ | assumption | refine Below.xt ?_ ?_ _ | refine Below.alloc ?_ ?_ _ | refine Below.drew ?_ | refine Below.setCell ?_ ?_ _ | (simp; done) | (simp; omega)))
      · have E := Lib.hid (HS.out (HL.out.1 (by omega)))
        clear HB' HL HS
        go_wp2_with (first
          | (go_at_call 82; refine (RetB.grown ((C _).out)).mono ?_; rintro e' w' ⟨rfl, g, rfl⟩)
          | (refine wp_region_xt (by kernel_rfl) (by kernel_rfl) ?_; (repeat (go_big_quiet_step (first | (go_at_call 82; exact RetB.quiet ((C _).out))))); refine wpQuiet_nil ?_; intro g))
        clear w1 w2 w3
        go_roundw
        case rel => exact ⟨k + 1, _, by omega, E, by go_num, (Classical.choose_spec (xt_of_below (by repeat' (first | exact Below.refl _ _ | assumption | refine Below.xt ?_ ?_ _ | refine Below.alloc ?_ ?_ _ | refine Below.drew ?_ | refine Below.setCell ?_ ?_ _ | (simp; done) | (simp; omega)))))⟩
        case measure => simp [intOf]; omega
    · obtain rfl : k = j := by omega
      have E := Lib.hid (HG.out HP.out)
      go_wp2_with fail
      go_ret
      exact RetB.of (congrArg Value.bool E.out.symm) (by repeat' (first | exact Below.refl _ _ | assumption | refine Below.xt ?_ ?_ _ | refine Below.alloc ?_ ?_ _ | refine Below.drew ?_ | refine Below.setCell ?_ ?_ _ | (simp; done) | (simp; omega)))

set_option maxHeartbeats 800000 in
theorem rising_any (A : Option Addr) (n cap : Nat) (l : List Cu) (w : World) (hn : n = l.length) (hm : n ≤ 4294967296) (hr : RowU w A l) :
    Calls Tryz.prog 81 #[.slice A n cap, .func (.func 82) #[] #[]] w (RetB (.bool (risB l)) w) := by
  rcases Nat.eq_zero_or_pos n with h0 | h0
  · subst h0
    have E := Lib.hid (show true = risB l by
      rw [risB, decide_eq_true]
      intro i hi; omega)
    clear hr hn
    go_enter Tryz.func81, Tryz.ntmps81
    go_wp2_with fail
    go_rounds 1
    go_ret
    exact RetB.of (congrArg Value.bool E.out) (by repeat' (first | exact Below.refl _ _ | assumption | refine Below.xt ?_ ?_ _ | refine Below.alloc ?_ ?_ _ | refine Below.drew ?_ | refine Below.setCell ?_ ?_ _ | (simp; done) | (simp; omega)))
  · obtain ⟨b, o, rfl, _, _⟩ := Row.at_ hr (by omega)
    obtain ⟨j, rfl⟩ : ∃ j, n = j + 1 := ⟨n - 1, by omega⟩
    exact rising_some b o j cap l w hn hm hr

/-! ### Each cue -/
/-- The first that is not fine, or -1. -/
def IdxIs (bad : Prop) (w : World) (e : Ending) (w' : World) : Prop := ∃ k : Int, (bad → 0 ≤ k) ∧ (¬ bad → k = -1) ∧ e = .returned (.int .i64 k) ∧ Below w.heap.size w w'
set_option maxHeartbeats 800000 in
theorem uindex_some (b o n cap : Nat) (l : List Cu) (w : World) (hn : n = l.length) (hm : n ≤ 4294967296) (hf : fineU l) (hr : RowU w (some ⟨b, o, none⟩) l) (h0 : 0 < n) :
    Calls Tryz.prog 104 #[.slice (some ⟨b, o, none⟩) n cap, .func (.func 84) #[] #[]] w (IdxIs (fineB l = false) w) := by
  obtain ⟨b', o', e, hb, hc⟩ := Row.at_ hr (by omega)
  injection e with e
  injection e with e1 e2
  subst e1 e2
  have HN := Lib.hid hn
  have HC := Lib.hid fun k hk => RowU.cells hc (i := k) hk
  have HF := Lib.hid hf
  obtain ⟨P, hP⟩ : ∃ P : Prop, (fineB l = false) = P := ⟨_, rfl⟩
  rw [hP]
  have HB := Lib.hid (show ∀ k, k < n → cuOk (cu l k) = false → P from fun k hk h => by
    rw [← hP, fineB, decide_eq_false_iff_not]
    intro H
    rw [H k (by omega)] at h; cases h)
  have HG := Lib.hid (show (∀ k, k < n → cuOk (cu l k) = true) → ¬ P from fun h => by
    rw [← hP, fineB, decide_eq_false_iff_not]
    intro H
    exact H fun k hk => h k (by omega))
  clear hn hr hc hP hf
  go_enter Tryz.func104, Tryz.ntmps104
  go_wp2_with fail
  go_loopw [8] (fun i wr => ∃ (k : Nat) (g : Gr), k ≤ n ∧ Hid (∀ q, q < k → cuOk (cu l q) = true) ∧ i = .int .i64 k ∧ wr = xt w g) (fun i _ => n - (intOf i).toNat)
  case atStart => exact ⟨0, ⟨[], _⟩, by omega, Lib.hid fun q hq => absurd hq (by omega), rfl, (xt_self _).symm⟩
  case round =>
    obtain ⟨k, g, hk, HP, rfl, rfl⟩ := hrel
    by_cases hlt : k < n
    · obtain ⟨x0, x1, x2, x3, x4, x5⟩ := HC.out k (HN.out ▸ hlt)
      have HB' := Lib.hid (HB.out k hlt)
      have HS := Lib.hid (show cuOk (cu l k) = true → ∀ q, q < k + 1 → cuOk (cu l q) = true from fun h q hq => if e : q = k then e ▸ h else HP.out q (by omega))
      have C := fun w => Lib.hid (notFine_any (cu l k) w (HF.out k (HN.out ▸ hlt)).1)
      generalize cuOk (cu l k) = t at *
      generalize cu l k = p at *
      cases t
      · have E := Lib.hid (HB'.out rfl)
        clear HB' HS HB HG
        go_wp2_with (first
          | (go_at_call 84; refine (RetB.grown ((C _).out)).mono ?_; rintro e' w' ⟨rfl, g, rfl⟩)
          | (refine wp_region_xt (by kernel_rfl) (by kernel_rfl) ?_; (repeat (go_big_quiet_step (first | (go_at_call 84; exact RetB.quiet ((C _).out))))); refine wpQuiet_nil ?_; intro g))
        go_ret
        exact ⟨k, fun _ => by omega, fun h => absurd E.out h, rfl, (by repeat' (first | exact Below.refl _ _ | assumption | refine Below.xt ?_ ?_ _ | refine Below.alloc ?_ ?_ _ | refine Below.drew ?_ | refine Below.setCell ?_ ?_ _ | (simp; done) | (simp; omega)))⟩
      · have E := Lib.hid (HS.out rfl)
        clear HB' HS
        go_wp2_with (first
          | (go_at_call 84; refine (RetB.grown ((C _).out)).mono ?_; rintro e' w' ⟨rfl, g, rfl⟩)
          | (refine wp_region_xt (by kernel_rfl) (by kernel_rfl) ?_; (repeat (go_big_quiet_step (first | (go_at_call 84; exact RetB.quiet ((C _).out))))); refine wpQuiet_nil ?_; intro g))
        go_roundw
        case rel => exact ⟨k + 1, _, by omega, E, by go_num, (Classical.choose_spec (xt_of_below (by repeat' (first | exact Below.refl _ _ | assumption | refine Below.xt ?_ ?_ _ | refine Below.alloc ?_ ?_ _ | refine Below.drew ?_ | refine Below.setCell ?_ ?_ _ | (simp; done) | (simp; omega)))))⟩
        case measure => simp [intOf]; omega
    · obtain rfl : k = n := by omega
      have E := Lib.hid (HG.out HP.out)
      go_wp2_with fail
      go_ret
      exact ⟨-1, fun h => absurd h E.out, fun _ => rfl, rfl, (by repeat' (first | exact Below.refl _ _ | assumption | refine Below.xt ?_ ?_ _ | refine Below.alloc ?_ ?_ _ | refine Below.drew ?_ | refine Below.setCell ?_ ?_ _ | (simp; done) | (simp; omega)))⟩
set_option maxHeartbeats 800000 in
theorem uindex_any (A : Option Addr) (n cap : Nat) (l : List Cu) (w : World) (hn : n = l.length) (hm : n ≤ 4294967296) (hf : fineU l) (hr : RowU w A l) :
    Calls Tryz.prog 104 #[.slice A n cap, .func (.func 84) #[] #[]] w (IdxIs (fineB l = false) w) := by
  rcases Nat.eq_zero_or_pos n with h0 | h0
  · subst h0
    have E := Lib.hid (show ¬ fineB l = false by
      rw [fineB, decide_eq_true]
      · simp
      · intro i hi; omega)
    clear hr hn hf
    go_enter Tryz.func104, Tryz.ntmps104
    go_wp2_with fail
    go_rounds 1
    go_ret
    exact ⟨-1, fun h => absurd h E.out, fun _ => rfl, rfl, (by repeat' (first | exact Below.refl _ _ | assumption | refine Below.xt ?_ ?_ _ | refine Below.alloc ?_ ?_ _ | refine Below.drew ?_ | refine Below.setCell ?_ ?_ _ | (simp; done) | (simp; omega)))⟩
  · obtain ⟨b, o, rfl, _, _⟩ := Row.at_ hr (by omega)
    exact uindex_some b o n cap l w hn hm hf hr h0
set_option maxHeartbeats 800000 in
theorem ucont_any (A : Option Addr) (n cap : Nat) (l : List Cu) (w : World) (hn : n = l.length) (hm : n ≤ 4294967296) (hf : fineU l) (hr : RowU w A l) :
    Calls Tryz.prog 83 #[.slice A n cap, .func (.func 84) #[] #[]] w (RetB (.bool (!fineB l)) w) := by
  have C := fun w h => Lib.hid (uindex_any A n cap l w hn hm hf h)
  have HR := Lib.hid hr
  generalize fineB l = t at *
  clear hn hf hr
  cases t
  · go_enter Tryz.func83, Tryz.ntmps83
    go_wp2_with fail
    refine (C _ HR.out).out.mono ?_
    rintro e' w' ⟨k, h1, _, rfl, hb⟩
    have h1 := h1 (by simp)
    obtain ⟨g, rfl⟩ := xt_of_below hb
    clear hb
    go_wp2_with fail
    go_ret
    exact RetB.of rfl (by repeat' (first | exact Below.refl _ _ | assumption | refine Below.xt ?_ ?_ _ | refine Below.alloc ?_ ?_ _ | refine Below.drew ?_ | refine Below.setCell ?_ ?_ _ | (simp; done) | (simp; omega)))
  · go_enter Tryz.func83, Tryz.ntmps83
    go_wp2_with fail
    refine (C _ HR.out).out.mono ?_
    rintro e' w' ⟨k, _, h1, rfl, hb⟩
    obtain rfl := h1 (by simp)
    obtain ⟨g, rfl⟩ := xt_of_below hb
    clear hb
    go_wp2_with fail
    go_ret
    exact RetB.of rfl (by repeat' (first | exact Below.refl _ _ | assumption | refine Below.xt ?_ ?_ _ | refine Below.alloc ?_ ?_ _ | refine Below.drew ?_ | refine Below.setCell ?_ ?_ _ | (simp; done) | (simp; omega)))

set_option maxHeartbeats 1600000 in
theorem cueValid_any (A : Option Addr) (n cap : Nat) (l : List Cu) (w : World) (hn : n = l.length) (hm : n ≤ 4294967296) (hf : fineU l) (hr : RowU w A l) :
    Calls Tryz.prog 44 #[.slice A n cap] w (RetB (.bool (cusB l)) w) := by
  have C1 := fun w h => Lib.hid (rising_any A n cap l w hn hm h)
  have C2 := fun w h => Lib.hid (ucont_any A n cap l w hn hm hf h)
  have HR := Lib.hid hr
  have E := Lib.hid (show (decide (n ≤ 1000) && risB l && fineB l) = cusB l by rw [cusB_eq, hn])
  generalize cusB l = R at *
  generalize fineB l = f at *
  generalize risB l = r at *
  clear hn hf hr
  by_cases h1 : n ≤ 1000
  · have E2 := Lib.hid (show (r && f) = R by rw [← E.out, decide_eq_true h1, Bool.true_and])
    clear E
    cases r
    · go_enter Tryz.func44, Tryz.ntmps44
      go_wp2_with fail
      refine (RetB.grown (C1 _ HR.out).out).mono ?_
      rintro e' w' ⟨rfl, g1, rfl⟩
      go_wp2_with fail
      go_ret
      exact RetB.of (congrArg Value.bool (by rw [← E2.out]; rfl)) (by repeat' (first | exact Below.refl _ _ | assumption | refine Below.xt ?_ ?_ _ | refine Below.alloc ?_ ?_ _ | refine Below.drew ?_ | refine Below.setCell ?_ ?_ _ | (simp; done) | (simp; omega)))
    · cases f
      all_goals
        go_enter Tryz.func44, Tryz.ntmps44
        go_wp2_with fail
        refine (RetB.grown (C1 _ HR.out).out).mono ?_
        rintro e' w' ⟨rfl, g1, rfl⟩
        go_wp2_with fail
        refine (RetB.grown (C2 _ (HR.out.xt g1)).out).mono ?_
        rintro e' w' ⟨rfl, g2, rfl⟩
        go_wp2_with fail
        go_ret
        exact RetB.of (congrArg Value.bool (by rw [← E2.out]; rfl)) (by repeat' (first | exact Below.refl _ _ | assumption | refine Below.xt ?_ ?_ _ | refine Below.alloc ?_ ?_ _ | refine Below.drew ?_ | refine Below.setCell ?_ ?_ _ | (simp; done) | (simp; omega)))
  · have E2 := Lib.hid (show false = R by rw [← E.out, decide_eq_false h1]; rfl)
    have d : decide (n ≤ 1000) = false := by simpa using h1
    have d' : decide ((n : Int) ≤ 1000) = false := by simp; omega
    clear E
    go_enter Tryz.func44, Tryz.ntmps44
    go_wp2_with fail
    go_ret
    exact RetB.of (congrArg Value.bool (by rw [← E2.out])) (by repeat' (first | exact Below.refl _ _ | assumption | refine Below.xt ?_ ?_ _ | refine Below.alloc ?_ ?_ _ | refine Below.drew ?_ | refine Below.setCell ?_ ?_ _ | (simp; done) | (simp; omega)))

end Go.Proofs.YtiikejhkhdmgeaaGreat

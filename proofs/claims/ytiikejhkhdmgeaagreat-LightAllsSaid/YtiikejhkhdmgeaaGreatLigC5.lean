
/- Walks: cue lists and the colour of a group at a time, by the reference. Conditions stand in each theorem. -/
import Derived.Test.YtiikejhkhdmgeaaGreatLigC4
import Derived.Deep.RegionHeld3
namespace Go.Proofs.YtiikejhkhdmgeaaGreat
open Go.RowKit
set_option linter.unusedVariables false
set_option linter.unusedSimpArgs false
attribute [local go_sem ↓] ld6

set_option maxHeartbeats 400000 in
theorem rtime_any (n : Int) (w : World) : Calls Tryz.prog 67 #[.int .i64 n] w (Ret (.bool (isT n)) w) := by
  obtain ⟨R, hR⟩ : ∃ R, isT n = R := ⟨_, rfl⟩
  rw [hR]
  have hR := Lib.hid hR
  by_cases h0 : 0 ≤ n
  · by_cases h1 : n ≤ 3600000
    · have E := Lib.hid (show true = R by rw [← hR.out]; exact (within_iff.2 ⟨h0, h1⟩).symm)
      clear hR
      go_enter Tryz.func67, Tryz.ntmps67
      go_wp2
      go_ret
      exact Ret.of (congrArg Value.bool E.out)
    · have E := Lib.hid (show false = R by rw [← hR.out]; unfold isT within; simp; omega)
      clear hR
      go_enter Tryz.func67, Tryz.ntmps67
      go_wp2
      go_ret
      exact Ret.of (congrArg Value.bool E.out)
  · have E := Lib.hid (show false = R by rw [← hR.out]; unfold isT within; simp; omega)
    have d : decide (0 ≤ n) = false := by simpa using h0
    clear hR
    go_enter Tryz.func67, Tryz.ntmps67
    go_wp2
    go_ret
    exact Ret.of (congrArg Value.bool E.out)

set_option maxHeartbeats 800000 in
theorem rCue_any (c : Cu) (w : World) (hs : c.g.size ≤ maxLen) : Calls Tryz.prog 60 #[.agg #[.int .i64 c.t, .int .i64 c.f, .string c.g, .int .u8 c.c.r, .int .u8 c.c.g, .int .u8 c.c.b]] w (RetB (.bool (cuOk c)) w) := by
  have C0 := fun n w => Lib.hid (rtime_any n w)
  have C1 := fun w => Lib.hid (rname_any c.g w hs)
  clear hs
  obtain ⟨R, hR⟩ : ∃ R, cuOk c = R := ⟨_, rfl⟩
  rw [hR]
  have HR := Lib.hid (show ((isT c.t && isT c.f) && nameB c.g) = R from hR)
  clear hR
  obtain ⟨a, ha⟩ : ∃ a, isT c.t = a := ⟨_, rfl⟩
  obtain ⟨b, hb⟩ : ∃ b, isT c.f = b := ⟨_, rfl⟩
  obtain ⟨d, hd⟩ : ∃ d, nameB c.g = d := ⟨_, rfl⟩
  have CT := fun w => (C0 c.t w)
  have CF := fun w => (C0 c.f w)
  rw [ha] at CT
  rw [hb] at CF
  rw [hd] at C1
  rw [ha, hb, hd] at HR
  clear ha hb hd C0
  cases a
  · go_enter Tryz.func60, Tryz.ntmps60
    go_wp2_with (first
      | (go_at_call 67; refine ((CT _).out).mono ?_; rintro e' w' ⟨rfl, rfl⟩)
      | (refine wp_region_xt (by kernel_rfl) (by kernel_rfl) ?_; (repeat (go_big_quiet_step (first | (go_at_call 67; exact Ret.quiet ((CT _).out))))); refine wpQuiet_nil ?_; intro g))
    go_ret
    exact RetB.of (congrArg Value.bool (by rw [← HR.out]; rfl)) (by repeat' (first | exact Below.refl _ _ | assumption | refine Below.xt ?_ ?_ _ | refine Below.alloc ?_ ?_ _ | refine Below.drew ?_ | refine Below.setCell ?_ ?_ _ | (simp; done) | (simp; omega)))
  · cases b
    · go_enter Tryz.func60, Tryz.ntmps60
      go_wp2_with fail
      refine ((CT _).out).mono ?_
      rintro e' w' ⟨rfl, rfl⟩
      go_wp2_with fail
      refine ((CF _).out).mono ?_
      rintro e' w' ⟨rfl, rfl⟩
      go_wp2_with fail
      go_ret
      exact RetB.of (congrArg Value.bool (by rw [← HR.out]; rfl)) (by repeat' (first | exact Below.refl _ _ | assumption | refine Below.xt ?_ ?_ _ | refine Below.alloc ?_ ?_ _ | refine Below.drew ?_ | refine Below.setCell ?_ ?_ _ | (simp; done) | (simp; omega)))
    · go_enter Tryz.func60, Tryz.ntmps60
      go_wp2_with fail
      refine ((CT _).out).mono ?_
      rintro e' w' ⟨rfl, rfl⟩
      go_wp2_with fail
      refine ((CF _).out).mono ?_
      rintro e' w' ⟨rfl, rfl⟩
      go_wp2_with (first
        | (go_at_call 34; refine ((C1 _).out).mono ?_; rintro e' w' ⟨rfl, rfl⟩)
        | (refine wp_region_xt (by kernel_rfl) (by kernel_rfl) ?_; (repeat (go_big_quiet_step (first | (go_at_call 34; exact Ret.quiet ((C1 _).out))))); refine wpQuiet_nil ?_; intro g))
      go_ret
      exact RetB.of (congrArg Value.bool (by rw [← HR.out]; cases d <;> rfl)) (by repeat' (first | exact Below.refl _ _ | assumption | refine Below.xt ?_ ?_ _ | refine Below.alloc ?_ ?_ _ | refine Below.drew ?_ | refine Below.setCell ?_ ?_ _ | (simp; done) | (simp; omega)))

set_option maxHeartbeats 800000 in
theorem rbefore_any (a b : Cu) (w : World) : Calls Tryz.prog 61 #[.agg #[.int .i64 a.t, .int .i64 a.f, .string a.g, .int .u8 a.c.r, .int .u8 a.c.g, .int .u8 a.c.b], .agg #[.int .i64 b.t, .int .i64 b.f, .string b.g, .int .u8 b.c.r, .int .u8 b.c.g, .int .u8 b.c.b]] w (RetB (.bool (cuLt a b)) w) := by
  obtain ⟨R, hR⟩ : ∃ R, cuLt a b = R := ⟨_, rfl⟩
  rw [hR]
  have HR := Lib.hid (show (decide (a.t < b.t) || (decide (a.t = b.t) && Op.bytesLess a.g.toList b.g.toList)) = R from hR)
  clear hR
  by_cases h1 : a.t < b.t
  · have E := Lib.hid (show true = R by rw [← HR.out, decide_eq_true h1]; rfl)
    clear HR
    go_enter Tryz.func61, Tryz.ntmps61
    go_wp2_with fail
    go_ret
    exact RetB.of (congrArg Value.bool E.out) (by repeat' (first | exact Below.refl _ _ | assumption | refine Below.xt ?_ ?_ _ | refine Below.alloc ?_ ?_ _ | refine Below.drew ?_ | refine Below.setCell ?_ ?_ _ | (simp; done) | (simp; omega)))
  · have d1 : decide (a.t < b.t) = false := by simpa using h1
    by_cases h2 : a.t = b.t
    · have d2 : (a.t == b.t) = true := by simpa using h2
      obtain ⟨q, hq⟩ : ∃ q, Op.bytesLess a.g.toList b.g.toList = q := ⟨_, rfl⟩
      have E := Lib.hid (show q = R by rw [← HR.out, d1, decide_eq_true h2, hq]; rfl)
      clear HR h2
      go_enter Tryz.func61, Tryz.ntmps61
      go_wp2_with fail
      go_ret
      exact RetB.of (congrArg Value.bool E.out) (by repeat' (first | exact Below.refl _ _ | assumption | refine Below.xt ?_ ?_ _ | refine Below.alloc ?_ ?_ _ | refine Below.drew ?_ | refine Below.setCell ?_ ?_ _ | (simp; done) | (simp; omega)))
    · have d2 : (a.t == b.t) = false := by simpa using h2
      have E := Lib.hid (show false = R by rw [← HR.out, d1, decide_eq_false h2]; rfl)
      clear HR h2
      go_enter Tryz.func61, Tryz.ntmps61
      go_wp2_with fail
      go_ret
      exact RetB.of (congrArg Value.bool E.out) (by repeat' (first | exact Below.refl _ _ | assumption | refine Below.xt ?_ ?_ _ | refine Below.alloc ?_ ?_ _ | refine Below.drew ?_ | refine Below.setCell ?_ ?_ _ | (simp; done) | (simp; omega)))

set_option maxRecDepth 100000 in
set_option maxHeartbeats 1600000 in
theorem rValid_some (b o n cap : Nat) (l : List Cu) (w : World) (hn : n = l.length) (hm : n ≤ 4294967296) (hf : fineU l) (hr : RowU w (some ⟨b, o, none⟩) l) (h0 : 0 < n) : Calls Tryz.prog 33 #[.slice (some ⟨b, o, none⟩) n cap] w (RetB (.bool (cusB l)) w) := by
  obtain ⟨b', o', e, hb, hc⟩ := Row.at_ hr (by omega)
  injection e with e
  injection e with e1 e2
  subst e1 e2
  have HN := Lib.hid hn
  have HC := Lib.hid fun k hk => RowU.cells hc (i := k) hk
  have HF := Lib.hid hf
  obtain ⟨R, hR⟩ : ∃ R, cusB l = R := ⟨_, rfl⟩
  rw [hR]
  have HB := Lib.hid (show ∀ k, k < n → cuOk (cu l k) = false → R = false from fun k hk h => by
    rw [← hR, Bool.eq_false_iff]
    intro H
    have := (cusB_iff.1 H).1 k (by omega)
    rw [this] at h; cases h)
  have HB2 := Lib.hid (show ∀ k, k + 1 < n → cuLt (cu l k) (cu l (k + 1)) = false → R = false from fun k hk h => by
    rw [← hR, Bool.eq_false_iff]
    intro H
    have := (cusB_iff.1 H).2.1 k (by omega)
    rw [this] at h; cases h)
  have HG := Lib.hid (show (∀ k, k < n → cuOk (cu l k) = true ∧ (0 < k → cuLt (cu l (k - 1)) (cu l k) = true)) → R = decide (n ≤ 1000) from fun h => by
    rw [← hR, cusB, hn]
    congr 1
    apply propext
    exact ⟨fun h => h.2.2, fun h2 => ⟨fun i hi => (h i (by omega)).1, fun i hi => (h (i + 1) (by omega)).2 (by omega), h2⟩⟩)
  clear hn hr hc hf hR
  go_enter Tryz.func33, Tryz.ntmps33
  go_wp2_with fail
  go_loopw [3] (fun i wr => ∃ (k : Nat) (g : Gr), k ≤ n ∧ Hid (∀ q, q < k → cuOk (cu l q) = true ∧ (0 < q → cuLt (cu l (q - 1)) (cu l q) = true)) ∧ i = .int .i64 k ∧ wr = xt w g) (fun i _ => n - (intOf i).toNat)
  case atStart => exact ⟨0, ⟨[], _⟩, by omega, Lib.hid fun q hq => absurd hq (by omega), rfl, (xt_self _).symm⟩
  case round =>
    obtain ⟨k, g, hk, HP, rfl, rfl⟩ := hrel
    by_cases hlt : k < n
    · obtain ⟨x0, x1, x2, x3, x4, x5⟩ := HC.out k (HN.out ▸ hlt)
      have hsz := (HF.out k (HN.out ▸ hlt)).1
      have HK := Lib.hid (HB.out k hlt)
      have HS := Lib.hid (show cuOk (cu l k) = true → (0 < k → cuLt (cu l (k - 1)) (cu l k) = true) → ∀ q, q < k + 1 → cuOk (cu l q) = true ∧ (0 < q → cuLt (cu l (q - 1)) (cu l q) = true) from fun h h' q hq => if e : q = k then by subst e; exact ⟨h, h'⟩ else HP.out q (by omega))
      rcases Nat.eq_zero_or_pos k with k0 | k0
      · have q1 : decide ((0 : Int) < (k : Int)) = false := by simp; omega
        have q2 : decide (0 < k) = false := by simp; omega
        have HS' := Lib.hid (fun h => HS.out h (fun h => absurd h (by omega)))
        clear k0 HS
        generalize cu l k = s at *
        have C := fun w => Lib.hid (rCue_any s w hsz)
        obtain ⟨v, hv⟩ : ∃ v, cuOk s = v := ⟨_, rfl⟩
        rw [hv] at C HK HS'
        clear hv
        cases v
        · have e := Lib.hid (HK.out rfl)
          clear HS' HK
          go_wp2_with (first
            | (go_at_call 60; refine (RetB.grown ((C _).out)).mono ?_; rintro e' w' ⟨rfl, g, rfl⟩)
            | (refine wp_region_xt (by kernel_rfl) (by kernel_rfl) ?_; (repeat (go_big_quiet_step (first | (go_at_call 60; exact RetB.quiet ((C _).out))))); refine wpQuiet_nil ?_; intro g))
          go_ret
          exact RetB.of (congrArg Value.bool e.out.symm) (by repeat' (first | exact Below.refl _ _ | assumption | refine Below.xt ?_ ?_ _ | refine Below.alloc ?_ ?_ _ | refine Below.drew ?_ | refine Below.setCell ?_ ?_ _ | (simp; done) | (simp; omega)))
        · have e := Lib.hid (HS'.out rfl)
          clear HS' HK
          go_wp2_with (first
            | (go_at_call 60; refine (RetB.grown ((C _).out)).mono ?_; rintro e' w' ⟨rfl, g, rfl⟩)
            | (refine wp_region_xt (by kernel_rfl) (by kernel_rfl) ?_; (repeat (go_big_quiet_step (first | (go_at_call 60; exact RetB.quiet ((C _).out))))); refine wpQuiet_nil ?_; intro g))
          go_roundw
          case rel => exact ⟨k + 1, _, by omega, e, by go_num, (Classical.choose_spec (xt_of_below (by repeat' (first | exact Below.refl _ _ | assumption | refine Below.xt ?_ ?_ _ | refine Below.alloc ?_ ?_ _ | refine Below.drew ?_ | refine Below.setCell ?_ ?_ _ | (simp; done) | (simp; omega)))))⟩
          case measure => simp [intOf]; omega
      · obtain ⟨j, rfl⟩ : ∃ j, k = j + 1 := ⟨k - 1, by omega⟩
        obtain ⟨y0, y1, y2, y3, y4, y5⟩ := HC.out j (by have := HN.out; omega)
        have HK2 := Lib.hid (HB2.out j hlt)
        simp only [Nat.add_sub_cancel] at HS
        generalize cu l j = p at *
        generalize cu l (j + 1) = s at *
        have C := fun w => Lib.hid (rCue_any s w hsz)
        have C2 := fun w => Lib.hid (rbefore_any p s w)
        obtain ⟨v, hv⟩ : ∃ v, cuOk s = v := ⟨_, rfl⟩
        rw [hv] at C HK HS
        clear hv
        cases v
        · have e := Lib.hid (HK.out rfl)
          clear HS HK HK2
          go_wp2_with (first
            | (go_at_call 60; refine (RetB.grown ((C _).out)).mono ?_; rintro e' w' ⟨rfl, g, rfl⟩)
            | (refine wp_region_xt (by kernel_rfl) (by kernel_rfl) ?_; (repeat (go_big_quiet_step (first | (go_at_call 60; exact RetB.quiet ((C _).out))))); refine wpQuiet_nil ?_; intro g))
          go_ret
          exact RetB.of (congrArg Value.bool e.out.symm) (by repeat' (first | exact Below.refl _ _ | assumption | refine Below.xt ?_ ?_ _ | refine Below.alloc ?_ ?_ _ | refine Below.drew ?_ | refine Below.setCell ?_ ?_ _ | (simp; done) | (simp; omega)))
        · obtain ⟨v, hv⟩ : ∃ v, cuLt p s = v := ⟨_, rfl⟩
          rw [hv] at C2 HK2 HS
          clear hv
          cases v
          · have e := Lib.hid (HK2.out rfl)
            clear HS HK HK2
            go_wp2_with (first
              | (go_at_call 60; refine (RetB.grown ((C _).out)).mono ?_; rintro e' w' ⟨rfl, g, rfl⟩)
              | (go_at_call 61; refine (RetB.grown ((C2 _).out)).mono ?_; rintro e' w' ⟨rfl, g, rfl⟩)
              | (refine wp_region_xt (by kernel_rfl) (by kernel_rfl) ?_; (repeat (go_big_quiet_step (first | (go_at_call 60; exact RetB.quiet ((C _).out)) | (go_at_call 61; exact RetB.quiet ((C2 _).out))))); refine wpQuiet_nil ?_; intro g))
            go_ret
            exact RetB.of (congrArg Value.bool e.out.symm) (by repeat' (first | exact Below.refl _ _ | assumption | refine Below.xt ?_ ?_ _ | refine Below.alloc ?_ ?_ _ | refine Below.drew ?_ | refine Below.setCell ?_ ?_ _ | (simp; done) | (simp; omega)))
          · have e := Lib.hid (HS.out rfl (fun _ => rfl))
            clear HS HK HK2
            go_wp2_with (first
              | (go_at_call 60; refine (RetB.grown ((C _).out)).mono ?_; rintro e' w' ⟨rfl, g, rfl⟩)
              | (go_at_call 61; refine (RetB.grown ((C2 _).out)).mono ?_; rintro e' w' ⟨rfl, g, rfl⟩)
              | (refine wp_region_xt (by kernel_rfl) (by kernel_rfl) ?_; (repeat (go_big_quiet_step (first | (go_at_call 60; exact RetB.quiet ((C _).out)) | (go_at_call 61; exact RetB.quiet ((C2 _).out))))); refine wpQuiet_nil ?_; intro g))
            go_roundw
            case rel => exact ⟨j + 1 + 1, _, by omega, e, by go_num, (Classical.choose_spec (xt_of_below (by repeat' (first | exact Below.refl _ _ | assumption | refine Below.xt ?_ ?_ _ | refine Below.alloc ?_ ?_ _ | refine Below.drew ?_ | refine Below.setCell ?_ ?_ _ | (simp; done) | (simp; omega)))))⟩
            case measure => simp [intOf]; omega
    · obtain rfl : k = n := by omega
      have E := Lib.hid (HG.out HP.out)
      go_wp2_with fail
      go_ret
      exact RetB.of (congrArg Value.bool (by rw [E.out]; first | done | rfl | (simp; done) | (simp; omega))) (by repeat' (first | exact Below.refl _ _ | assumption | refine Below.xt ?_ ?_ _ | refine Below.alloc ?_ ?_ _ | refine Below.drew ?_ | refine Below.setCell ?_ ?_ _ | (simp; done) | (simp; omega)))
set_option maxHeartbeats 400000 in
theorem rcueValid_any (A : Option Addr) (n cap : Nat) (l : List Cu) (w : World) (hn : n = l.length) (hm : n ≤ 4294967296) (hf : fineU l) (hr : RowU w A l) : Calls Tryz.prog 33 #[.slice A n cap] w (RetB (.bool (cusB l)) w) := by
  rcases Nat.eq_zero_or_pos n with h0 | h0
  · subst h0
    have e : l = [] := List.eq_nil_of_length_eq_zero hn.symm
    subst e
    have E := Lib.hid (show true = cusB [] by
      symm; rw [cusB_iff]; exact ⟨fun i hi => absurd hi (by simp), fun i hi => absurd hi (by simp), by simp⟩)
    clear hr hf hn
    go_enter Tryz.func33, Tryz.ntmps33
    go_wp2_with fail
    go_rounds 1
    go_ret
    exact RetB.of (congrArg Value.bool E.out) (by repeat' (first | exact Below.refl _ _ | assumption | refine Below.xt ?_ ?_ _ | refine Below.alloc ?_ ?_ _ | refine Below.drew ?_ | refine Below.setCell ?_ ?_ _ | (simp; done) | (simp; omega)))
  · obtain ⟨b, o, rfl, _, _⟩ := Row.at_ hr (by omega)
    exact rValid_some b o n cap l w hn hm hf hr h0

set_option maxRecDepth 100000 in
set_option maxHeartbeats 3200000 in
theorem rvalue_any (F : List Cu) (hF : okU F) (hL : F.length ≤ 1000) : ∀ (n : Nat) (A : Option Addr) (cap : Nat) (t : Int) (w : World), n ≤ F.length → n ≤ cap → cap ≤ maxLen → RowU w A F → 0 ≤ t → t ≤ 3600000 →
    Calls Tryz.prog 68 #[.slice A n cap, .int .i64 t] w (RetB (.agg #[.int .u8 (val F n t).r, .int .u8 (val F n t).g, .int .u8 (val F n t).b]) w)
  | 0, A, cap, t, w, hn, hcap, hcm, hr, h0, h1 => by
    clear hr hF
    go_enter Tryz.func68, Tryz.ntmps68
    go_wp2_with fail
    refine bodyPost_ret (v := .agg #[.int .u8 black.r, .int .u8 black.g, .int .u8 black.b]) (by simp [results, Tryz.results68, go_sem, black]) rfl ?_
    exact RetB.of rfl (by repeat' (first | exact Below.refl _ _ | assumption | refine Below.xt ?_ ?_ _ | refine Below.alloc ?_ ?_ _ | refine Below.drew ?_ | refine Below.setCell ?_ ?_ _ | (simp; done) | (simp; omega)))
  | n + 1, A, cap, t, w, hn, hcap, hcm, hr, h0, h1 => by
    unfold maxLen at hcm
    have hcm' : cap ≤ maxLen := by unfold maxLen; exact hcm
    have HCM := Lib.hid hcm'
    clear hcm'
    have IH := Lib.hid (rvalue_any F hF hL n)
    obtain ⟨b, o, rfl, hbo, hc⟩ := Row.at_ hr (by omega)
    obtain ⟨x0, x1, x2, x3, x4, x5⟩ := RowU.cells hc (show n < F.length by omega)
    have HR := Lib.hid hr
    obtain ⟨⟨f0, f1⟩, ⟨f2, f3⟩, f4⟩ := hF n (by omega)
    have HV := Lib.hid (show val F (n + 1) t = if t < (cu F n).t then val F n t else if (cu F n).t + (cu F n).f ≤ t then (cu F n).c else mixCol (val F n (cu F n).t) (cu F n).c (t - (cu F n).t) (cu F n).f from rfl)
    have HO := Lib.hid (show (val F n (cu F n).t).ok from val_ok fun i hi => (hF i (by omega)).2.2)
    have HO2 := Lib.hid f4
    clear hc hr hF f4
    generalize val F (n + 1) t = V at *
    have d0 : (((n : Int) + 1) == 0) = false := by simp; omega
    have d1 : ((n + 1 : Nat) == 0) = false := by simp
    have w1 : IntKind.i64.wrap (n : Int) = (n : Int) := IntWalk.i64_in _ (by omega)
    have w5 : IntKind.i64.wrap (t - (cu F n).t) = t - (cu F n).t := IntWalk.i64_in _ (by omega)
    have i0 : (0 : Int) ≤ (n : Int) := by omega
    have i1 : (n : Int) ≤ (cap : Int) := by omega
    have i2 : n ≤ cap := by omega
    by_cases hT : t < (cu F n).t
    · have E := Lib.hid (show val F n t = V by rw [HV.out, if_pos hT])
      clear HV HO HO2
      go_enter Tryz.func68, Tryz.ntmps68
      go_wp2_with fail
      refine (RetB.grown (IH.out _ _ _ _ (by omega) (by omega) HCM.out (by repeat (first | (with_reducible exact HR.out) | (with_reducible refine RowU.alloc ?_ _))) h0 h1)).mono ?_
      rintro e' w' ⟨rfl, g, rfl⟩
      rw [E.out]
      go_wp2_with fail
      refine bodyPost_ret (v := .agg #[.int .u8 V.r, .int .u8 V.g, .int .u8 V.b]) (by simp [results, Tryz.results68, go_sem]) rfl ?_
      exact RetB.of rfl (by repeat' (first | exact Below.refl _ _ | assumption | refine Below.xt ?_ ?_ _ | refine Below.alloc ?_ ?_ _ | refine Below.drew ?_ | refine Below.setCell ?_ ?_ _ | (simp; done) | (simp; omega)))
    · by_cases hG : (cu F n).t + (cu F n).f ≤ t
      · have E := Lib.hid (show (cu F n).c = V by rw [HV.out, if_neg hT, if_pos hG])
        clear HV HO HO2
        go_enter Tryz.func68, Tryz.ntmps68
        go_wp2_with fail
        rw [← E.out]
        refine bodyPost_ret (v := .agg #[.int .u8 (cu F n).c.r, .int .u8 (cu F n).c.g, .int .u8 (cu F n).c.b]) (by simp [results, Tryz.results68, go_sem]) rfl ?_
        exact RetB.of rfl (by repeat' (first | exact Below.refl _ _ | assumption | refine Below.xt ?_ ?_ _ | refine Below.alloc ?_ ?_ _ | refine Below.drew ?_ | refine Below.setCell ?_ ?_ _ | (simp; done) | (simp; omega)))
      · have E := Lib.hid (show mixCol (val F n (cu F n).t) (cu F n).c (t - (cu F n).t) (cu F n).f = V by rw [HV.out, if_neg hT, if_neg hG])
        have C := fun w => Lib.hid (refMix_ok (val F n (cu F n).t) (cu F n).c (t - (cu F n).t) (cu F n).f w HO.out HO2.out (by omega) (by omega) (by omega) (by omega))
        rw [E.out] at C
        have I := fun w h => Lib.hid (IH.out (some ⟨b, o, none⟩) cap (cu F n).t w (by omega) (by omega) HCM.out h f0 f1)
        generalize val F n (cu F n).t = M at *
        clear HV HO HO2 IH E
        go_enter Tryz.func68, Tryz.ntmps68
        go_wp2_with fail
        go_region_held3 (fun w' => old (w.heap.size + 1) w' ∧ w'.cell? ⟨w.heap.size + 1, 0, none⟩ = some (.int .i64 (cu F n).t) ∧ w'.cell? ⟨w.heap.size + 1, 1, none⟩ = some (.int .i64 (cu F n).f) ∧ w'.cell? ⟨w.heap.size + 1, 3, none⟩ = some (.int .u8 (cu F n).c.r) ∧ w'.cell? ⟨w.heap.size + 1, 4, none⟩ = some (.int .u8 (cu F n).c.g) ∧ w'.cell? ⟨w.heap.size + 1, 5, none⟩ = some (.int .u8 (cu F n).c.b)) (go_simp)
          (first | (go_at_call 68; (with_reducible refine (RetB.grown (I _ (by repeat (first | (with_reducible exact HR.out) | (with_reducible refine RowU.alloc ?_ _) | (with_reducible refine RowU.drew ?_) | (with_reducible refine RowU.xt ?_ _)))).out).mono ?_); rintro e' w' ⟨rfl, g, rfl⟩) | (go_at_call 65; (with_reducible refine (RetB.grown (C _).out).mono ?_); rintro e' w' ⟨rfl, g, rfl⟩))
        all_goals go_wp2_with fail
        all_goals refine bodyPost_ret (v := .agg #[.int .u8 V.r, .int .u8 V.g, .int .u8 V.b]) (by simp [results, Tryz.results68, go_sem]) rfl ?_
        all_goals exact RetB.of rfl (by repeat' (first | exact Below.refl _ _ | assumption | refine Below.xt ?_ ?_ _ | refine Below.alloc ?_ ?_ _ | refine Below.drew ?_ | refine Below.setCell ?_ ?_ _ | (simp; done) | (simp; omega)))

set_option maxRecDepth 100000 in
set_option maxHeartbeats 3200000 in
theorem rcueValue_ok (A : Option Addr) (n cap : Nat) (l : List Cu) (x : ByteArray) (t : Int) (w : World) (hn : n = l.length) (hm : n ≤ 1000) (hf : fineU l) (hr : RowU w A l) (hx : x.size ≤ maxLen) (hv : cusB l = true) (hN : nameB x = true) (ht0 : 0 ≤ t) (ht1 : t ≤ 3600000) :
    Calls Tryz.prog 40 #[.slice A n cap, .string x, .int .i64 t] w (RetB (.tuple #[.agg #[.int .u8 (valG l x t).r, .int .u8 (valG l x t).g, .int .u8 (valG l x t).b], .int .i64 0]) w) := by
  have K1 := fun w h => Lib.hid (rcueValid_any A n cap l w hn (by omega) hf h)
  rw [hv] at K1
  have K2 := fun w => Lib.hid (rname_any x w hx)
  rw [hN] at K2
  have K3 := fun w => Lib.hid (rtime_any t w)
  rw [show isT t = true from within_iff.2 ⟨ht0, ht1⟩] at K3
  have K4 := fun w h => Lib.hid (rof_any A n cap l x w hn hm h)
  have HR := Lib.hid hr
  have K5 := fun A c w h1 h2 h3 => Lib.hid (rvalue_any (ofG l x) (fun i hi => by
    obtain ⟨j, hj, e, _⟩ := ofG_mem hi
    have h1 := (cusB_iff.1 hv).1 j hj
    simp only [cuOk, isT, Bool.and_eq_true, within_iff] at h1
    rw [← e]
    exact ⟨h1.1.1, h1.1.2, (hf j hj).2.1⟩) (by have := ofG_len l x; omega) (ofG l x).length A c t w (Nat.le_refl _) h1 h2 h3 ht0 ht1)
  rw [show val (ofG l x) (ofG l x).length t = valG l x t from rfl] at K5
  generalize ofG l x = F at *
  generalize valG l x t = V at *
  clear hn hm hf hr hx hv hN
  go_enter Tryz.func40, Tryz.ntmps40
  go_wp2_with (first
    | (go_at_call 33; refine (RetB.grown ((K1 _ (by repeat (first | (with_reducible exact HR.out) | (with_reducible refine RowU.alloc ?_ _)))).out)).mono ?_; rintro e' w' ⟨rfl, g, rfl⟩)
    | (go_at_call 34; refine ((K2 _).out).mono ?_; rintro e' w' ⟨rfl, rfl⟩)
    | (go_at_call 67; refine ((K3 _).out).mono ?_; rintro e' w' ⟨rfl, rfl⟩)
    | (refine wp_region_xt (by kernel_rfl) (by kernel_rfl) ?_; (repeat (go_big_quiet_step (first | (go_at_call 33; exact RetB.quiet ((K1 _ (by repeat (first | (with_reducible exact HR.out) | (with_reducible refine RowU.alloc ?_ _)))).out)) | (go_at_call 34; exact Ret.quiet ((K2 _).out)) | (go_at_call 67; exact Ret.quiet ((K3 _).out))))); refine wpQuiet_nil ?_; intro g))
  refine (K4 _ (by repeat (first | (with_reducible exact HR.out) | (with_reducible refine RowU.alloc ?_ _) | (with_reducible refine RowU.xt ?_ _)))).out.mono ?_
  rintro e' w' ⟨A1, c1, rfl, hb, hrow, hc1, hc2⟩
  obtain ⟨g, rfl⟩ := xt_of_below hb
  have HRow := Lib.hid hrow
  clear hb K1 K2 K3 K4 hrow
  go_wp2_with fail
  refine (RetB.grown (K5 _ _ _ hc1 hc2 HRow.out).out).mono ?_
  rintro e' w' ⟨rfl, g2, rfl⟩
  go_wp2_with fail
  refine bodyPost_ret (v := .tuple #[.agg #[.int .u8 V.r, .int .u8 V.g, .int .u8 V.b], .int .i64 0]) (by simp [results, Tryz.results40, go_sem]) rfl ?_
  exact RetB.of rfl (by repeat' (first | exact Below.refl _ _ | assumption | refine Below.xt ?_ ?_ _ | refine Below.alloc ?_ ?_ _ | refine Below.drew ?_ | refine Below.setCell ?_ ?_ _ | (simp; done) | (simp; omega)))

end Go.Proofs.YtiikejhkhdmgeaaGreat

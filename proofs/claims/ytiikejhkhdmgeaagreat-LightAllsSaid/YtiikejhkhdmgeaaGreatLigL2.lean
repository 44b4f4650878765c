
/- Walks: which lights are valid, by the program. Conditions stand in each theorem. -/
import Derived.Test.YtiikejhkhdmgeaaGreatLigL1
import Derived.Test.YtiikejhkhdmgeaaGreatLigC2
import Derived.Test.YtiikejhkhdmgeaaGreatMemR
namespace Go.Proofs.YtiikejhkhdmgeaaGreat
open Go.RowKit
set_option linter.unusedVariables false
set_option linter.unusedSimpArgs false
attribute [local go_sem ↓] ldr16 ldr18

theorem RowO.row {w : World} {A : Option Addr} {l : List Ov} (h : RowO w A l) (h0 : 0 < l.length) : ∃ b o, A = some ⟨b, o, none⟩ ∧ old b w ∧ ∀ i, i < l.length → row? w b (o + i * 18) 18 = some [.string ((ov l i)).g, .int .i64 ((ov l i)).p, .int .i64 ((ov l i)).e.kind, .int .i64 ((ov l i)).e.fr, .int .i64 ((ov l i)).e.to, .int .i64 ((ov l i)).e.period, .int .i64 ((ov l i)).e.width, .int .i64 (((ov l i)).e.along).x, .int .i64 (((ov l i)).e.along).y, .int .i64 (((ov l i)).e.along).z, .int .i64 ((ov l i)).e.scale, .int .i64 ((ov l i)).e.seed, .int .u8 ((ov l i)).e.a.r, .int .u8 ((ov l i)).e.a.g, .int .u8 ((ov l i)).e.a.b, .int .u8 ((ov l i)).e.b.r, .int .u8 ((ov l i)).e.b.g, .int .u8 ((ov l i)).e.b.b] := by
  obtain ⟨b, o, e, hb, hc⟩ := Row.at_ h h0
  refine ⟨b, o, e, hb, fun i hi => row_of rfl fun j v hv => ?_⟩
  have hj : j < 18 := (List.getElem?_eq_some_iff.1 hv).1
  rw [hc i j hi hj, ocell, List.getD_eq_getElem?_getD, hv]
  rfl

set_option maxRecDepth 100000 in
set_option maxHeartbeats 800000 in
theorem wrongO_any (o : Ov) (w : World) (hs : o.g.size ≤ maxLen) : Calls Tryz.prog 48 #[.agg #[.string o.g, .int .i64 o.p, .int .i64 o.e.kind, .int .i64 o.e.fr, .int .i64 o.e.to, .int .i64 o.e.period, .int .i64 o.e.width, .int .i64 o.e.along.x, .int .i64 o.e.along.y, .int .i64 o.e.along.z, .int .i64 o.e.scale, .int .i64 o.e.seed, .int .u8 o.e.a.r, .int .u8 o.e.a.g, .int .u8 o.e.a.b, .int .u8 o.e.b.r, .int .u8 o.e.b.g, .int .u8 o.e.b.b]] w (RetB (.bool (!ovB o)) w) := by
  have C1 := fun w => Lib.hid (vname_any o.g w hs)
  have C2 := fun w => Lib.hid (valid_any o.e w)
  obtain ⟨R, hR⟩ : ∃ R, (!ovB o) = R := ⟨_, rfl⟩
  rw [hR]
  have HR := Lib.hid (show (!(nameB o.g && within o.p 0 100 && effValid o.e)) = R from hR)
  clear hR hs
  obtain ⟨a, ha⟩ : ∃ a, nameB o.g = a := ⟨_, rfl⟩
  obtain ⟨b, hb⟩ : ∃ b, effValid o.e = b := ⟨_, rfl⟩
  rw [ha] at C1
  rw [hb] at C2
  rw [ha, hb] at HR
  clear ha hb
  cases a
  · have E := Lib.hid (show true = R by rw [← HR.out]; rfl)
    clear HR C2
    go_enter Tryz.func48, Tryz.ntmps48
    go_wp2_with (first
      | (go_at_call 55; refine ((C1 _).out).mono ?_; rintro e' w' ⟨rfl, rfl⟩)
      | (refine wp_region_xt (by kernel_rfl) (by kernel_rfl) ?_; (repeat (go_big_quiet_step (first | (go_at_call 55; exact Ret.quiet ((C1 _).out))))); refine wpQuiet_nil ?_; intro g))
    go_ret
    exact RetB.of (congrArg Value.bool E.out) (by repeat' (first | exact Below.refl _ _ | assumption | refine Below.xt ?_ ?_ _ | refine Below.alloc ?_ ?_ _ | refine Below.drew ?_ | refine Below.setCell ?_ ?_ _ | (simp; done) | (simp; omega)))
  · by_cases h0 : 0 ≤ o.p
    · by_cases h1 : o.p ≤ 100
      · have E := Lib.hid (show (!b) = R by rw [← HR.out, within_iff.2 ⟨h0, h1⟩]; rfl)
        clear HR
        go_enter Tryz.func48, Tryz.ntmps48
        go_wp2_with (first
          | (go_at_call 55; refine ((C1 _).out).mono ?_; rintro e' w' ⟨rfl, rfl⟩)
          | (go_at_call 49; refine (RetB.grown ((C2 _).out)).mono ?_; rintro e' w' ⟨rfl, g, rfl⟩)
          | (refine wp_region_xt (by kernel_rfl) (by kernel_rfl) ?_; (repeat (go_big_quiet_step (first | (go_at_call 55; exact Ret.quiet ((C1 _).out)) | (go_at_call 49; exact RetB.quiet ((C2 _).out))))); refine wpQuiet_nil ?_; intro g))
        go_ret
        exact RetB.of (congrArg Value.bool (by rw [← E.out]; first | done | (rw [decide_eq_false (by omega), decide_eq_false (by omega)]; rfl))) (by repeat' (first | exact Below.refl _ _ | assumption | refine Below.xt ?_ ?_ _ | refine Below.alloc ?_ ?_ _ | refine Below.drew ?_ | refine Below.setCell ?_ ?_ _ | (simp; done) | (simp; omega)))
      · have E := Lib.hid (show true = R by
          rw [← HR.out]
          have : within o.p 0 100 = false := by rw [Bool.eq_false_iff]; intro h; exact h1 (within_iff.1 h).2
          rw [this]; simp)
        clear HR C2
        go_enter Tryz.func48, Tryz.ntmps48
        go_wp2_with (first
          | (go_at_call 55; refine ((C1 _).out).mono ?_; rintro e' w' ⟨rfl, rfl⟩)
          | (refine wp_region_xt (by kernel_rfl) (by kernel_rfl) ?_; (repeat (go_big_quiet_step (first | (go_at_call 55; exact Ret.quiet ((C1 _).out))))); refine wpQuiet_nil ?_; intro g))
        go_ret
        exact RetB.of (congrArg Value.bool E.out) (by repeat' (first | exact Below.refl _ _ | assumption | refine Below.xt ?_ ?_ _ | refine Below.alloc ?_ ?_ _ | refine Below.drew ?_ | refine Below.setCell ?_ ?_ _ | (simp; done) | (simp; omega)))
    · have E := Lib.hid (show true = R by
        rw [← HR.out]
        have : within o.p 0 100 = false := by rw [Bool.eq_false_iff]; intro h; exact h0 (within_iff.1 h).1
        rw [this]; simp)
      clear HR C2
      go_enter Tryz.func48, Tryz.ntmps48
      go_wp2_with (first
        | (go_at_call 55; refine ((C1 _).out).mono ?_; rintro e' w' ⟨rfl, rfl⟩)
        | (refine wp_region_xt (by kernel_rfl) (by kernel_rfl) ?_; (repeat (go_big_quiet_step (first | (go_at_call 55; exact Ret.quiet ((C1 _).out))))); refine wpQuiet_nil ?_; intro g))
      go_ret
      exact RetB.of (congrArg Value.bool E.out) (by repeat' (first | exact Below.refl _ _ | assumption | refine Below.xt ?_ ?_ _ | refine Below.alloc ?_ ?_ _ | refine Below.drew ?_ | refine Below.setCell ?_ ?_ _ | (simp; done) | (simp; omega)))

/-! ### All lists of groups, all overlays -/
def allG (n : Nat) (G : Nat → List ByteArray) : Bool := decide (∀ i, i < n → grpB (G i) = true)
def allO (l : List Ov) : Bool := decide (∀ i, i < l.length → ovB (ov l i) = true)
theorem liB_eq (L : Li) : liB L = (decide (1 ≤ L.nG) && decide (L.nG ≤ 64) && decide (L.os.length ≤ 64) && cusB L.cs && allG L.nG L.G && allO L.os) := by
  rw [Bool.eq_iff_iff, liB_iff]
  simp only [Bool.and_eq_true, decide_eq_true_eq, allG, allO]
  exact ⟨fun ⟨⟨a, b⟩, c, d, e, f⟩ => ⟨⟨⟨⟨⟨a, b⟩, d⟩, c⟩, e⟩, f⟩, fun ⟨⟨⟨⟨⟨a, b⟩, d⟩, c⟩, e⟩, f⟩ => ⟨⟨a, b⟩, c, d, e, f⟩⟩
def GoodTo (p : Nat → Bool) (n : Nat) : Bool := decide (∀ i, i < n → p i = true)
theorem goodTo_bad' {p : Nat → Bool} {n k : Nat} (hk : k < n) (h : p k = false) : GoodTo p n = false := by
  rw [GoodTo, decide_eq_false_iff_not]; intro H; rw [H k hk] at h; cases h
theorem goodTo_all {p : Nat → Bool} {n : Nat} (h : ∀ k, k < n → p k = true) : GoodTo p n = true := by
  rw [GoodTo, decide_eq_true_iff]; exact h

set_option maxRecDepth 100000 in
set_option maxHeartbeats 1600000 in
theorem gindex_some (b o n cap : Nat) (G : Nat → List ByteArray) (w : World) (hm : n ≤ 4294967296) (hf : ∀ i, i < n → (G i).length ≤ 4294967296 ∧ fineN (G i)) (hr : RowG w (some ⟨b, o, none⟩) n G) (h0 : 0 < n) :
    Calls Tryz.prog 86 #[.slice (some ⟨b, o, none⟩) n cap, .func (.func 46) #[] #[]] w (IdxIs (GoodTo (fun i => grpB (G i)) n = false) w) := by
  obtain ⟨b', o', e, hb, hc⟩ := hr.top h0
  injection e with e
  injection e with e1 e2
  subst e1 e2
  have HC := Lib.hid hc
  have HF := Lib.hid hf
  obtain ⟨P, hP⟩ : ∃ P : Prop, (GoodTo (fun i => grpB (G i)) n = false) = P := ⟨_, rfl⟩
  rw [hP]
  have HB := Lib.hid (show ∀ k, k < n → grpB (G k) = false → P from fun k hk h => by rw [← hP]; exact goodTo_bad' hk h)
  have HG := Lib.hid (show (∀ k, k < n → grpB (G k) = true) → ¬ P from fun h => by rw [← hP, goodTo_all h]; simp)
  clear hr hc hP hf
  go_enter Tryz.func86, Tryz.ntmps86
  go_wp2_with fail
  go_loopw [8] (fun i wr => ∃ (k : Nat) (g : Gr), k ≤ n ∧ Hid (∀ q, q < k → grpB (G q) = true) ∧ i = .int .i64 k ∧ wr = xt w g) (fun i _ => n - (intOf i).toNat)
  case atStart => exact ⟨0, ⟨[], _⟩, by omega, Lib.hid fun q hq => absurd hq (by omega), rfl, (xt_self _).symm⟩
  case round =>
    obtain ⟨k, g, hk, HP, rfl, rfl⟩ := hrel
    by_cases hlt : k < n
    · obtain ⟨Ai, ci, x0, hrow⟩ := HC.out k hlt
      have HB' := Lib.hid (HB.out k hlt)
      have HS := Lib.hid (show grpB (G k) = true → ∀ q, q < k + 1 → grpB (G q) = true from fun h q hq => if e : q = k then e ▸ h else HP.out q (by omega))
      have C := fun w h => Lib.hid (wrongG_any Ai (G k).length ci (G k) w rfl (HF.out k hlt).1 (HF.out k hlt).2 h)
      have HR := Lib.hid hrow
      clear hrow
      generalize grpB (G k) = t at *
      cases t
      · have E := Lib.hid (HB'.out rfl)
        clear HB' HS HB HG
        go_wp2_with (first
          | (go_at_call 46; refine (RetB.grown ((C _ (by repeat (first | (with_reducible exact HR.out) | (with_reducible refine RowN.xt ?_ _)))).out)).mono ?_; rintro e' w' ⟨rfl, g, rfl⟩)
          | (refine wp_region_xt (by kernel_rfl) (by kernel_rfl) ?_; (repeat (go_big_quiet_step (first | (go_at_call 46; exact RetB.quiet ((C _ (by repeat (first | (with_reducible exact HR.out) | (with_reducible refine RowN.xt ?_ _)))).out))))); refine wpQuiet_nil ?_; intro g))
        go_ret
        exact ⟨k, fun _ => by omega, fun h => absurd E.out h, rfl, (by repeat' (first | exact Below.refl _ _ | assumption | refine Below.xt ?_ ?_ _ | refine Below.alloc ?_ ?_ _ | refine Below.drew ?_ | refine Below.setCell ?_ ?_ _ | (simp; done) | (simp; omega)))⟩
      · have E := Lib.hid (HS.out rfl)
        clear HB' HS
        go_wp2_with (first
          | (go_at_call 46; refine (RetB.grown ((C _ (by repeat (first | (with_reducible exact HR.out) | (with_reducible refine RowN.xt ?_ _)))).out)).mono ?_; rintro e' w' ⟨rfl, g, rfl⟩)
          | (refine wp_region_xt (by kernel_rfl) (by kernel_rfl) ?_; (repeat (go_big_quiet_step (first | (go_at_call 46; exact RetB.quiet ((C _ (by repeat (first | (with_reducible exact HR.out) | (with_reducible refine RowN.xt ?_ _)))).out))))); refine wpQuiet_nil ?_; intro g))
        go_roundw
        case rel => exact ⟨k + 1, _, by omega, E, by go_num, (Classical.choose_spec (xt_of_below (by repeat' (first | exact Below.refl _ _ | assumption | refine Below.xt ?_ ?_ _ | refine Below.alloc ?_ ?_ _ | refine Below.drew ?_ | refine Below.setCell ?_ ?_ _ | (simp; done) | (simp; omega)))))⟩
        case measure => simp [intOf]; omega
    · obtain rfl : k = n := by omega
      have E := Lib.hid (HG.out HP.out)
      go_wp2_with fail
      go_ret
      exact ⟨-1, fun h => absurd h E.out, fun _ => rfl, rfl, (by repeat' (first | exact Below.refl _ _ | assumption | refine Below.xt ?_ ?_ _ | refine Below.alloc ?_ ?_ _ | refine Below.drew ?_ | refine Below.setCell ?_ ?_ _ | (simp; done) | (simp; omega)))⟩
set_option maxRecDepth 100000 in
set_option maxHeartbeats 1600000 in
theorem oindex_some (b o n cap : Nat) (l : List Ov) (w : World) (hn : n = l.length) (hm : n ≤ 4294967296) (hf : fineO l) (hr : RowO w (some ⟨b, o, none⟩) l) (h0 : 0 < n) :
    Calls Tryz.prog 87 #[.slice (some ⟨b, o, none⟩) n cap, .func (.func 48) #[] #[]] w (IdxIs (GoodTo (fun i => ovB (ov l i)) n = false) w) := by
  obtain ⟨b', o', e, hb, hc⟩ := RowO.row hr (by omega)
  injection e with e
  injection e with e1 e2
  subst e1 e2
  have HN := Lib.hid hn
  have HC := Lib.hid hc
  have HF := Lib.hid hf
  obtain ⟨P, hP⟩ : ∃ P : Prop, (GoodTo (fun i => ovB (ov l i)) n = false) = P := ⟨_, rfl⟩
  rw [hP]
  have HB := Lib.hid (show ∀ k, k < n → ovB (ov l k) = false → P from fun k hk h => by rw [← hP]; exact goodTo_bad' hk h)
  have HG := Lib.hid (show (∀ k, k < n → ovB (ov l k) = true) → ¬ P from fun h => by rw [← hP, goodTo_all h]; simp)
  clear hr hc hP hf hn
  go_enter Tryz.func87, Tryz.ntmps87
  go_wp2_with fail
  go_loopw [8] (fun i wr => ∃ (k : Nat) (g : Gr), k ≤ n ∧ Hid (∀ q, q < k → ovB (ov l q) = true) ∧ i = .int .i64 k ∧ wr = xt w g) (fun i _ => n - (intOf i).toNat)
  case atStart => exact ⟨0, ⟨[], _⟩, by omega, Lib.hid fun q hq => absurd hq (by omega), rfl, (xt_self _).symm⟩
  case round =>
    obtain ⟨k, g, hk, HP, rfl, rfl⟩ := hrel
    by_cases hlt : k < n
    · have x0 := HC.out k (HN.out ▸ hlt)
      have HB' := Lib.hid (HB.out k hlt)
      have HS := Lib.hid (show ovB (ov l k) = true → ∀ q, q < k + 1 → ovB (ov l q) = true from fun h q hq => if e : q = k then e ▸ h else HP.out q (by omega))
      have C := fun w => Lib.hid (wrongO_any (ov l k) w (HF.out k (HN.out ▸ hlt)).1)
      generalize ovB (ov l k) = t at *
      generalize ov l k = p at *
      cases t
      · have E := Lib.hid (HB'.out rfl)
        clear HB' HS HB HG
        go_wp2_with (first
          | (go_at_call 48; refine (RetB.grown ((C _).out)).mono ?_; rintro e' w' ⟨rfl, g, rfl⟩)
          | (refine wp_region_xt (by kernel_rfl) (by kernel_rfl) ?_; (repeat (go_big_quiet_step (first | (go_at_call 48; exact RetB.quiet ((C _).out))))); refine wpQuiet_nil ?_; intro g))
        go_ret
        exact ⟨k, fun _ => by omega, fun h => absurd E.out h, rfl, (by repeat' (first | exact Below.refl _ _ | assumption | refine Below.xt ?_ ?_ _ | refine Below.alloc ?_ ?_ _ | refine Below.drew ?_ | refine Below.setCell ?_ ?_ _ | (simp; done) | (simp; omega)))⟩
      · have E := Lib.hid (HS.out rfl)
        clear HB' HS
        go_wp2_with (first
          | (go_at_call 48; refine (RetB.grown ((C _).out)).mono ?_; rintro e' w' ⟨rfl, g, rfl⟩)
          | (refine wp_region_xt (by kernel_rfl) (by kernel_rfl) ?_; (repeat (go_big_quiet_step (first | (go_at_call 48; exact RetB.quiet ((C _).out))))); refine wpQuiet_nil ?_; intro g))
        go_roundw
        case rel => exact ⟨k + 1, _, by omega, E, by go_num, (Classical.choose_spec (xt_of_below (by repeat' (first | exact Below.refl _ _ | assumption | refine Below.xt ?_ ?_ _ | refine Below.alloc ?_ ?_ _ | refine Below.drew ?_ | refine Below.setCell ?_ ?_ _ | (simp; done) | (simp; omega)))))⟩
        case measure => simp [intOf]; omega
    · obtain rfl : k = n := by omega
      have E := Lib.hid (HG.out HP.out)
      go_wp2_with fail
      go_ret
      exact ⟨-1, fun h => absurd h E.out, fun _ => rfl, rfl, (by repeat' (first | exact Below.refl _ _ | assumption | refine Below.xt ?_ ?_ _ | refine Below.alloc ?_ ?_ _ | refine Below.drew ?_ | refine Below.setCell ?_ ?_ _ | (simp; done) | (simp; omega)))⟩
set_option maxHeartbeats 800000 in
theorem oindex_any (A : Option Addr) (n cap : Nat) (l : List Ov) (w : World) (hn : n = l.length) (hm : n ≤ 4294967296) (hf : fineO l) (hr : RowO w A l) :
    Calls Tryz.prog 87 #[.slice A n cap, .func (.func 48) #[] #[]] w (IdxIs (GoodTo (fun i => ovB (ov l i)) n = false) w) := by
  rcases Nat.eq_zero_or_pos n with h0 | h0
  · subst h0
    have E := Lib.hid (show ¬ GoodTo (fun i => ovB (ov l i)) 0 = false by
      rw [goodTo_all fun k hk => absurd hk (by omega)]; simp)
    clear hr hn hf
    go_enter Tryz.func87, Tryz.ntmps87
    go_wp2_with fail
    go_rounds 1
    go_ret
    exact ⟨-1, fun h => absurd h E.out, fun _ => rfl, rfl, (by repeat' (first | exact Below.refl _ _ | assumption | refine Below.xt ?_ ?_ _ | refine Below.alloc ?_ ?_ _ | refine Below.drew ?_ | refine Below.setCell ?_ ?_ _ | (simp; done) | (simp; omega)))⟩
  · obtain ⟨b, o, rfl, _, _⟩ := Row.at_ hr (by omega)
    exact oindex_some b o n cap l w hn hm hf hr h0
theorem gindex_any (A : Option Addr) (n cap : Nat) (G : Nat → List ByteArray) (w : World) (hm : n ≤ 4294967296) (hf : ∀ i, i < n → (G i).length ≤ 4294967296 ∧ fineN (G i)) (hr : RowG w A n G) (h0 : 0 < n) :
    Calls Tryz.prog 86 #[.slice A n cap, .func (.func 46) #[] #[]] w (IdxIs (GoodTo (fun i => grpB (G i)) n = false) w) := by
  obtain ⟨b, o, rfl, _, _⟩ := hr.top h0
  exact gindex_some b o n cap G w hm hf hr h0
set_option maxRecDepth 100000 in
set_option maxHeartbeats 800000 in
theorem gcont_any (A : Option Addr) (n cap : Nat) (G : Nat → List ByteArray) (w : World) (hm : n ≤ 4294967296) (hf : ∀ i, i < n → (G i).length ≤ 4294967296 ∧ fineN (G i)) (hr : RowG w A n G) (h0 : 0 < n) :
    Calls Tryz.prog 45 #[.slice A n cap, .func (.func 46) #[] #[]] w (RetB (.bool (!(GoodTo (fun i => grpB (G i)) n))) w) := by
  have C := fun w h => Lib.hid (gindex_any A n cap G w hm hf h h0)
  have HR := Lib.hid hr
  generalize (GoodTo (fun i => grpB (G i)) n) = t at *
  clear hf hr
  try clear hn
  cases t
  · go_enter Tryz.func45, Tryz.ntmps45
    go_wp2_with fail
    refine (C _ HR.out).out.mono ?_
    rintro e' w' ⟨k, h1, _, rfl, hb⟩
    have h1 := h1 (by simp)
    obtain ⟨g, rfl⟩ := xt_of_below hb
    clear hb
    go_wp2_with fail
    go_ret
    exact RetB.of rfl (by repeat' (first | exact Below.refl _ _ | assumption | refine Below.xt ?_ ?_ _ | refine Below.alloc ?_ ?_ _ | refine Below.drew ?_ | refine Below.setCell ?_ ?_ _ | (simp; done) | (simp; omega)))
  · go_enter Tryz.func45, Tryz.ntmps45
    go_wp2_with fail
    refine (C _ HR.out).out.mono ?_
    rintro e' w' ⟨k, _, h1, rfl, hb⟩
    obtain rfl := h1 (by simp)
    obtain ⟨g, rfl⟩ := xt_of_below hb
    clear hb
    go_wp2_with fail
    go_ret
    exact RetB.of rfl (by repeat' (first | exact Below.refl _ _ | assumption | refine Below.xt ?_ ?_ _ | refine Below.alloc ?_ ?_ _ | refine Below.drew ?_ | refine Below.setCell ?_ ?_ _ | (simp; done) | (simp; omega)))
set_option maxRecDepth 100000 in
set_option maxHeartbeats 800000 in
theorem ocont_any (A : Option Addr) (n cap : Nat) (l : List Ov) (w : World) (hn : n = l.length) (hm : n ≤ 4294967296) (hf : fineO l) (hr : RowO w A l) :
    Calls Tryz.prog 47 #[.slice A n cap, .func (.func 48) #[] #[]] w (RetB (.bool (!(GoodTo (fun i => ovB (ov l i)) n))) w) := by
  have C := fun w h => Lib.hid (oindex_any A n cap l w hn hm hf h)
  have HR := Lib.hid hr
  generalize (GoodTo (fun i => ovB (ov l i)) n) = t at *
  clear hf hr
  try clear hn
  cases t
  · go_enter Tryz.func47, Tryz.ntmps47
    go_wp2_with fail
    refine (C _ HR.out).out.mono ?_
    rintro e' w' ⟨k, h1, _, rfl, hb⟩
    have h1 := h1 (by simp)
    obtain ⟨g, rfl⟩ := xt_of_below hb
    clear hb
    go_wp2_with fail
    go_ret
    exact RetB.of rfl (by repeat' (first | exact Below.refl _ _ | assumption | refine Below.xt ?_ ?_ _ | refine Below.alloc ?_ ?_ _ | refine Below.drew ?_ | refine Below.setCell ?_ ?_ _ | (simp; done) | (simp; omega)))
  · go_enter Tryz.func47, Tryz.ntmps47
    go_wp2_with fail
    refine (C _ HR.out).out.mono ?_
    rintro e' w' ⟨k, _, h1, rfl, hb⟩
    obtain rfl := h1 (by simp)
    obtain ⟨g, rfl⟩ := xt_of_below hb
    clear hb
    go_wp2_with fail
    go_ret
    exact RetB.of rfl (by repeat' (first | exact Below.refl _ _ | assumption | refine Below.xt ?_ ?_ _ | refine Below.alloc ?_ ?_ _ | refine Below.drew ?_ | refine Below.setCell ?_ ?_ _ | (simp; done) | (simp; omega)))

theorem liB_parts (L : Li) (h1 : decide (1 ≤ L.nG) = true) (h2 : decide (L.nG ≤ 64) = true) (h3 : decide (L.os.length ≤ 64) = true) : liB L = (cusB L.cs && GoodTo (fun i => grpB (L.G i)) L.nG && GoodTo (fun i => ovB (ov L.os i)) L.os.length) := by
  rw [liB_eq, h1, h2, h3]; rfl
theorem liB_bad {L : Li} (h : ¬ (1 ≤ L.nG ∧ L.nG ≤ 64 ∧ L.os.length ≤ 64)) : liB L = false := by
  rw [Bool.eq_false_iff]; intro H
  have := liB_iff.1 H
  exact h ⟨this.1.1, this.1.2, this.2.2.1⟩

set_option maxRecDepth 100000 in
set_option maxHeartbeats 1600000 in
theorem lValid_any (A1 A2 A3 : Option Addr) (c1 c2 c3 : Nat) (L : Li) (w : World) (hF : FineL L) (hr : RowL w A1 A2 A3 L) :
    Calls Tryz.prog 28 #[.agg #[.slice A1 L.nG c1, .slice A2 L.cs.length c2, .slice A3 L.os.length c3]] w (RetB (.bool (liB L)) w) := by
  have f1 := hF.n
  have f2 := hF.cn
  have f3 := hF.on
  have HR := Lib.hid hr
  by_cases hc : 1 ≤ L.nG ∧ L.nG ≤ 64 ∧ L.os.length ≤ 64
  · obtain ⟨q1, q2, q3⟩ := hc
    have K1 := fun w h => Lib.hid (cueValid_any A2 L.cs.length c2 L.cs w rfl hF.cn hF.cs h)
    have K2 := fun w h => Lib.hid (gcont_any A1 L.nG c1 L.G w hF.n hF.gs h (by omega))
    have K3 := fun w h => Lib.hid (ocont_any A3 L.os.length c3 L.os w rfl hF.on hF.os h)
    obtain ⟨R, hR⟩ : ∃ R, liB L = R := ⟨_, rfl⟩
    rw [hR]
    have HE := Lib.hid ((liB_parts L (decide_eq_true q1) (decide_eq_true q2) (decide_eq_true q3)).symm.trans hR)
    obtain ⟨a, ha⟩ : ∃ a, cusB L.cs = a := ⟨_, rfl⟩
    obtain ⟨b, hb⟩ : ∃ b, GoodTo (fun i => grpB (L.G i)) L.nG = b := ⟨_, rfl⟩
    obtain ⟨c, hc⟩ : ∃ c, GoodTo (fun i => ovB (ov L.os i)) L.os.length = c := ⟨_, rfl⟩
    rw [ha] at K1 HE
    rw [hb] at K2 HE
    rw [hc] at K3 HE
    have z0 : ((L.nG : Int) == 0) = false := by simp; omega
    clear hR ha hb hc hF hr
    cases a
    · go_enter Tryz.func28, Tryz.ntmps28
      go_wp2_with fail
      refine (RetB.grown (K1 _ (HR.out.u.alloc _)).out).mono ?_
      rintro e' w' ⟨rfl, g1, rfl⟩
      go_wp2_with fail
      go_ret
      exact RetB.of (congrArg Value.bool (by rw [← HE.out]; rfl)) (by repeat' (first | exact Below.refl _ _ | assumption | refine Below.xt ?_ ?_ _ | refine Below.alloc ?_ ?_ _ | refine Below.drew ?_ | refine Below.setCell ?_ ?_ _ | (simp; done) | (simp; omega)))
    · cases b
      · go_enter Tryz.func28, Tryz.ntmps28
        go_wp2_with fail
        refine (RetB.grown (K1 _ (HR.out.u.alloc _)).out).mono ?_
        rintro e' w' ⟨rfl, g1, rfl⟩
        go_wp2_with fail
        refine (RetB.grown (K2 _ ((HR.out.g.alloc _).xt g1)).out).mono ?_
        rintro e' w' ⟨rfl, g2, rfl⟩
        go_wp2_with fail
        go_ret
        exact RetB.of (congrArg Value.bool (by rw [← HE.out]; rfl)) (by repeat' (first | exact Below.refl _ _ | assumption | refine Below.xt ?_ ?_ _ | refine Below.alloc ?_ ?_ _ | refine Below.drew ?_ | refine Below.setCell ?_ ?_ _ | (simp; done) | (simp; omega)))
      · go_enter Tryz.func28, Tryz.ntmps28
        go_wp2_with fail
        refine (RetB.grown (K1 _ (HR.out.u.alloc _)).out).mono ?_
        rintro e' w' ⟨rfl, g1, rfl⟩
        go_wp2_with fail
        refine (RetB.grown (K2 _ ((HR.out.g.alloc _).xt g1)).out).mono ?_
        rintro e' w' ⟨rfl, g2, rfl⟩
        go_wp2_with fail
        refine (RetB.grown (K3 _ (((HR.out.o.alloc _).xt g1).xt g2)).out).mono ?_
        rintro e' w' ⟨rfl, g3, rfl⟩
        go_wp2_with fail
        go_ret
        exact RetB.of (congrArg Value.bool (by rw [← HE.out]; cases c <;> rfl)) (by repeat' (first | exact Below.refl _ _ | assumption | refine Below.xt ?_ ?_ _ | refine Below.alloc ?_ ?_ _ | refine Below.drew ?_ | refine Below.setCell ?_ ?_ _ | (simp; done) | (simp; omega)))
  · rw [liB_bad hc]
    clear hF hr
    by_cases q1 : 1 ≤ L.nG
    · have z0 : ((L.nG : Int) == 0) = false := by simp; omega
      by_cases q2 : L.nG ≤ 64
      · have q3 : 64 < L.os.length := by omega
        clear hc
        go_enter Tryz.func28, Tryz.ntmps28
        go_wp2_with fail
        go_ret
        exact RetB.of rfl (by repeat' (first | exact Below.refl _ _ | assumption | refine Below.xt ?_ ?_ _ | refine Below.alloc ?_ ?_ _ | refine Below.drew ?_ | refine Below.setCell ?_ ?_ _ | (simp; done) | (simp; omega)))
      · clear hc
        go_enter Tryz.func28, Tryz.ntmps28
        go_wp2_with fail
        go_ret
        exact RetB.of rfl (by repeat' (first | exact Below.refl _ _ | assumption | refine Below.xt ?_ ?_ _ | refine Below.alloc ?_ ?_ _ | refine Below.drew ?_ | refine Below.setCell ?_ ?_ _ | (simp; done) | (simp; omega)))
    · have z0 : ((L.nG : Int) == 0) = true := by simp; omega
      clear hc
      go_enter Tryz.func28, Tryz.ntmps28
      go_wp2_with fail
      go_ret
      exact RetB.of rfl (by repeat' (first | exact Below.refl _ _ | assumption | refine Below.xt ?_ ?_ _ | refine Below.alloc ?_ ?_ _ | refine Below.drew ?_ | refine Below.setCell ?_ ?_ _ | (simp; done) | (simp; omega)))

end Go.Proofs.YtiikejhkhdmgeaaGreat

/- Walks of cameras, by the reference: which arguments are fine, and Project. Conditions stand in each theorem. -/
import Derived.Test.YtjeemlnhokihoaaCamR4
namespace Go.Proofs.Ytjeemlnhokihoaa
open Go.RowKit
set_option linter.unusedVariables false
attribute [local go_sem ↓] ld16

/-! ### fine -/
set_option maxHeartbeats 800000 in
theorem rfine_bad (c : Cam) (ra : Int) (A : Option Addr) (n cap : Nat) (w : World) (h : cval c = false) : Calls Try.prog 37 #[.agg #[.int .i64 c.e.x, .int .i64 c.e.y, .int .i64 c.e.z, .int .i64 c.r.x, .int .i64 c.r.y, .int .i64 c.r.z, .int .i64 c.u.x, .int .i64 c.u.y, .int .i64 c.u.z, .int .i64 c.f.x, .int .i64 c.f.y, .int .i64 c.f.z, .int .i64 c.fo, .int .i64 c.wi, .int .i64 c.he, .int .i64 c.ne], .slice A n cap, .int .i64 ra] w (RetB (.bool false) w) := by
  have C := fun w => Lib.hid (refvalid_any c w)
  rw [h] at C
  clear h
  go_enter Try.func37, Try.ntmps37
  go_wp2_with (first
    | (go_at_call 11; refine (RetB.grown ((C _).out)).mono ?_; rintro e' w' ⟨rfl, g, rfl⟩)
    | (refine wp_region_xt (by kernel_rfl) (by kernel_rfl) ?_; (repeat (go_big_quiet_step (first | (go_at_call 11; exact RetB.quiet ((C _).out))))); refine wpQuiet_nil ?_; intro g))
  go_ret
  exact RetB.of rfl (by repeat' (first | exact Below.refl _ _ | assumption | refine Below.xt ?_ ?_ _ | refine Below.alloc ?_ ?_ _ | refine Below.drew ?_ | refine Below.setCell ?_ ?_ _ | (simp; done) | (simp; omega)))
set_option maxHeartbeats 800000 in
theorem rfine_many (c : Cam) (ra : Int) (A : Option Addr) (n cap : Nat) (w : World) (h : cval c = true) (hn : 4096 < n) : Calls Try.prog 37 #[.agg #[.int .i64 c.e.x, .int .i64 c.e.y, .int .i64 c.e.z, .int .i64 c.r.x, .int .i64 c.r.y, .int .i64 c.r.z, .int .i64 c.u.x, .int .i64 c.u.y, .int .i64 c.u.z, .int .i64 c.f.x, .int .i64 c.f.y, .int .i64 c.f.z, .int .i64 c.fo, .int .i64 c.wi, .int .i64 c.he, .int .i64 c.ne], .slice A n cap, .int .i64 ra] w (RetB (.bool false) w) := by
  have C := fun w => Lib.hid (refvalid_any c w)
  rw [h] at C
  clear h
  go_enter Try.func37, Try.ntmps37
  go_wp2_with (first
    | (go_at_call 11; refine (RetB.grown ((C _).out)).mono ?_; rintro e' w' ⟨rfl, g, rfl⟩)
    | (refine wp_region_xt (by kernel_rfl) (by kernel_rfl) ?_; (repeat (go_big_quiet_step (first | (go_at_call 11; exact RetB.quiet ((C _).out))))); refine wpQuiet_nil ?_; intro g))
  go_ret
  exact RetB.of rfl (by repeat' (first | exact Below.refl _ _ | assumption | refine Below.xt ?_ ?_ _ | refine Below.alloc ?_ ?_ _ | refine Below.drew ?_ | refine Below.setCell ?_ ?_ _ | (simp; done) | (simp; omega)))
set_option maxHeartbeats 800000 in
theorem rfine_rad (c : Cam) (ra : Int) (A : Option Addr) (n cap : Nat) (w : World) (h : cval c = true) (hm : n ≤ 4096) (hr : within ra 0 1000 = false) : Calls Try.prog 37 #[.agg #[.int .i64 c.e.x, .int .i64 c.e.y, .int .i64 c.e.z, .int .i64 c.r.x, .int .i64 c.r.y, .int .i64 c.r.z, .int .i64 c.u.x, .int .i64 c.u.y, .int .i64 c.u.z, .int .i64 c.f.x, .int .i64 c.f.y, .int .i64 c.f.z, .int .i64 c.fo, .int .i64 c.wi, .int .i64 c.he, .int .i64 c.ne], .slice A n cap, .int .i64 ra] w (RetB (.bool false) w) := by
  have C := fun w => Lib.hid (refvalid_any c w)
  rw [h] at C
  clear h
  go_enter Try.func37, Try.ntmps37
  go_wp2_with (first
    | (go_at_call 11; refine (RetB.grown ((C _).out)).mono ?_; rintro e' w' ⟨rfl, g, rfl⟩)
    | (go_at_call 31; refine (refTo_any _ _ _ _).mono ?_; rintro e' w' ⟨rfl, rfl⟩)
    | (refine wp_region_xt (by kernel_rfl) (by kernel_rfl) ?_; (repeat (go_big_quiet_step (first | (go_at_call 11; exact RetB.quiet ((C _).out)) | (go_at_call 31; exact Ret.quiet (refTo_any _ _ _ _))))); refine wpQuiet_nil ?_; intro g))
  go_ret
  exact RetB.of rfl (by repeat' (first | exact Below.refl _ _ | assumption | refine Below.xt ?_ ?_ _ | refine Below.alloc ?_ ?_ _ | refine Below.drew ?_ | refine Below.setCell ?_ ?_ _ | (simp; done) | (simp; omega)))
set_option maxHeartbeats 1600000 in
theorem rfine_no (c : Cam) (ra : Int) (b o n cap : Nat) (l : List V3) (w : World) (h : cval c = true) (hr : within ra 0 1000 = true) (hm : n ≤ 4096) (hn : n = l.length) (hl : RowV w (some ⟨b, o, none⟩) l) (hp : ∃ i, i < n ∧ pointAt l i = false) : Calls Try.prog 37 #[.agg #[.int .i64 c.e.x, .int .i64 c.e.y, .int .i64 c.e.z, .int .i64 c.r.x, .int .i64 c.r.y, .int .i64 c.r.z, .int .i64 c.u.x, .int .i64 c.u.y, .int .i64 c.u.z, .int .i64 c.f.x, .int .i64 c.f.y, .int .i64 c.f.z, .int .i64 c.fo, .int .i64 c.wi, .int .i64 c.he, .int .i64 c.ne], .slice (some ⟨b, o, none⟩) n cap, .int .i64 ra] w (RetB (.bool false) w) := by
  have h0 : 0 < n := by obtain ⟨i, hi, _⟩ := hp; omega
  obtain ⟨b', o', e, hb, hc⟩ := hl.at_ (by omega)
  injection e with e
  injection e with e1 e2
  subst e1 e2
  have HN := Lib.hid hn
  have HC := Lib.hid hc
  have HP := Lib.hid hp
  have C := fun w => Lib.hid (refvalid_any c w)
  rw [h] at C
  clear h hn hl hp hc
  go_enter Try.func37, Try.ntmps37
  go_wp2_with (first
    | (go_at_call 11; refine (RetB.grown ((C _).out)).mono ?_; rintro e' w' ⟨rfl, g, rfl⟩)
    | (go_at_call 31; refine (refTo_any _ _ _ _).mono ?_; rintro e' w' ⟨rfl, rfl⟩)
    | (refine wp_region_xt (by kernel_rfl) (by kernel_rfl) ?_; (repeat (go_big_quiet_step (first | (go_at_call 11; exact RetB.quiet ((C _).out)) | (go_at_call 31; exact Ret.quiet (refTo_any _ _ _ _))))); refine wpQuiet_nil ?_; intro g))
  go_loopw [7] (fun i wr => ∃ (k : Nat) (g : Gr), k ≤ n ∧ Hid (∀ j, j < k → pointAt l j = true) ∧ i = .int .i64 k ∧ wr = xt (w.alloc (.cells #[.int .i64 c.e.x, .int .i64 c.e.y, .int .i64 c.e.z, .int .i64 c.r.x, .int .i64 c.r.y, .int .i64 c.r.z, .int .i64 c.u.x, .int .i64 c.u.y, .int .i64 c.u.z, .int .i64 c.f.x, .int .i64 c.f.y, .int .i64 c.f.z, .int .i64 c.fo, .int .i64 c.wi, .int .i64 c.he, .int .i64 c.ne] 25)) g) (fun i _ => n - (intOf i).toNat)
  case atStart => exact ⟨0, _, by omega, fun j hj => absurd hj (by omega), rfl, Classical.choose_spec (xt_of_below (by repeat' (first | exact Below.refl _ _ | assumption | refine Below.xt ?_ ?_ _ | refine Below.alloc ?_ ?_ _ | refine Below.drew ?_ | refine Below.setCell ?_ ?_ _ | (simp; done) | (simp; omega))))⟩
  case round =>
    obtain ⟨k, g, hk, HK, rfl, rfl⟩ := hrel
    by_cases hlt : k < n
    · obtain ⟨hx, hy, hz⟩ := RowV.cells HC.out (HN.out ▸ hlt)
      have hs := fun (j : Nat) (hj : j < k + 1) (h : pointAt l k = true) => show pointAt l j = true from if e : j = k then e ▸ h else HK.out j (by omega)
      have HS := Lib.hid hs
      clear hs
      have hpa : pointAt l k = pnt (at_ l k) := rfl
      rw [hpa] at HS
      clear hpa
      generalize at_ l k = v at *
      by_cases hok : pnt v = true
      · have HO := Lib.hid hok
        go_wp2_with (first
          | (go_at_call 24; refine (RetB.grown (ePoint_any v _)).mono ?_; rintro e' w' ⟨rfl, g, rfl⟩)
          | (refine wp_region_xt (by kernel_rfl) (by kernel_rfl) ?_; (repeat (go_big_quiet_step (first | (go_at_call 24; exact RetB.quiet (ePoint_any v _))))); refine wpQuiet_nil ?_; intro g))
        go_roundw
        case rel => exact ⟨k + 1, _, by omega, fun j hj => HS.out j hj HO.out, by go_num, (Classical.choose_spec (xt_of_below (by repeat' (first | exact Below.refl _ _ | assumption | refine Below.xt ?_ ?_ _ | refine Below.alloc ?_ ?_ _ | refine Below.drew ?_ | refine Below.setCell ?_ ?_ _ | (simp; done) | (simp; omega)))))⟩
        case measure => simp [intOf]; omega
      · have hok' : pnt v = false := by simpa using hok
        clear hok
        go_wp2_with (first
          | (go_at_call 24; refine (RetB.grown (ePoint_any v _)).mono ?_; rintro e' w' ⟨rfl, g, rfl⟩)
          | (refine wp_region_xt (by kernel_rfl) (by kernel_rfl) ?_; (repeat (go_big_quiet_step (first | (go_at_call 24; exact RetB.quiet (ePoint_any v _))))); refine wpQuiet_nil ?_; intro g))
        go_ret
        exact RetB.of rfl (by repeat' (first | exact Below.refl _ _ | assumption | refine Below.xt ?_ ?_ _ | refine Below.alloc ?_ ?_ _ | refine Below.drew ?_ | refine Below.setCell ?_ ?_ _ | (simp; done) | (simp; omega)))
    · exfalso
      obtain ⟨j, hj, hf⟩ := HP.out
      have := HK.out j (by omega)
      rw [hf] at this
      cases this
set_option maxHeartbeats 1600000 in
theorem rfine_yes (c : Cam) (ra : Int) (A : Option Addr) (n cap : Nat) (l : List V3) (w : World) (h : cval c = true) (hr : within ra 0 1000 = true) (hm : n ≤ 4096) (hn : n = l.length) (hl : RowV w A l) (hp : ∀ i, i < n → pointAt l i = true) : Calls Try.prog 37 #[.agg #[.int .i64 c.e.x, .int .i64 c.e.y, .int .i64 c.e.z, .int .i64 c.r.x, .int .i64 c.r.y, .int .i64 c.r.z, .int .i64 c.u.x, .int .i64 c.u.y, .int .i64 c.u.z, .int .i64 c.f.x, .int .i64 c.f.y, .int .i64 c.f.z, .int .i64 c.fo, .int .i64 c.wi, .int .i64 c.he, .int .i64 c.ne], .slice A n cap, .int .i64 ra] w (RetB (.bool true) w) := by
  have C := fun w => Lib.hid (refvalid_any c w)
  rw [h] at C
  rcases Nat.eq_zero_or_pos n with h0 | h0
  · subst h0
    clear h hl hn hp
    go_enter Try.func37, Try.ntmps37
    go_wp2_with (first
      | (go_at_call 11; refine (RetB.grown ((C _).out)).mono ?_; rintro e' w' ⟨rfl, g, rfl⟩)
      | (go_at_call 31; refine (refTo_any _ _ _ _).mono ?_; rintro e' w' ⟨rfl, rfl⟩)
      | (refine wp_region_xt (by kernel_rfl) (by kernel_rfl) ?_; (repeat (go_big_quiet_step (first | (go_at_call 11; exact RetB.quiet ((C _).out)) | (go_at_call 31; exact Ret.quiet (refTo_any _ _ _ _))))); refine wpQuiet_nil ?_; intro g))
    go_rounds 1
    go_ret
    exact RetB.of rfl (by repeat' (first | exact Below.refl _ _ | assumption | refine Below.xt ?_ ?_ _ | refine Below.alloc ?_ ?_ _ | refine Below.drew ?_ | refine Below.setCell ?_ ?_ _ | (simp; done) | (simp; omega)))
  obtain ⟨b, o, rfl, hb, hc⟩ := hl.at_ (by omega)
  have HN := Lib.hid hn
  have HC := Lib.hid hc
  have HP := Lib.hid hp
  clear h hn hl hp hc
  go_enter Try.func37, Try.ntmps37
  go_wp2_with (first
    | (go_at_call 11; refine (RetB.grown ((C _).out)).mono ?_; rintro e' w' ⟨rfl, g, rfl⟩)
    | (go_at_call 31; refine (refTo_any _ _ _ _).mono ?_; rintro e' w' ⟨rfl, rfl⟩)
    | (refine wp_region_xt (by kernel_rfl) (by kernel_rfl) ?_; (repeat (go_big_quiet_step (first | (go_at_call 11; exact RetB.quiet ((C _).out)) | (go_at_call 31; exact Ret.quiet (refTo_any _ _ _ _))))); refine wpQuiet_nil ?_; intro g))
  go_loopw [7] (fun i wr => ∃ (k : Nat) (g : Gr), k ≤ n ∧ i = .int .i64 k ∧ wr = xt (w.alloc (.cells #[.int .i64 c.e.x, .int .i64 c.e.y, .int .i64 c.e.z, .int .i64 c.r.x, .int .i64 c.r.y, .int .i64 c.r.z, .int .i64 c.u.x, .int .i64 c.u.y, .int .i64 c.u.z, .int .i64 c.f.x, .int .i64 c.f.y, .int .i64 c.f.z, .int .i64 c.fo, .int .i64 c.wi, .int .i64 c.he, .int .i64 c.ne] 25)) g) (fun i _ => n - (intOf i).toNat)
  case atStart => exact ⟨0, _, by omega, rfl, Classical.choose_spec (xt_of_below (by repeat' (first | exact Below.refl _ _ | assumption | refine Below.xt ?_ ?_ _ | refine Below.alloc ?_ ?_ _ | refine Below.drew ?_ | refine Below.setCell ?_ ?_ _ | (simp; done) | (simp; omega))))⟩
  case round =>
    obtain ⟨k, g, hk, rfl, rfl⟩ := hrel
    by_cases hlt : k < n
    · obtain ⟨hx, hy, hz⟩ := RowV.cells HC.out (HN.out ▸ hlt)
      have hok : pnt (at_ l k) = true := HP.out k hlt
      generalize at_ l k = v at *
      go_wp2_with (first
        | (go_at_call 24; refine (RetB.grown (ePoint_any v _)).mono ?_; rintro e' w' ⟨rfl, g, rfl⟩)
        | (refine wp_region_xt (by kernel_rfl) (by kernel_rfl) ?_; (repeat (go_big_quiet_step (first | (go_at_call 24; exact RetB.quiet (ePoint_any v _))))); refine wpQuiet_nil ?_; intro g))
      go_roundw
      case rel => exact ⟨k + 1, _, by omega, by go_num, (Classical.choose_spec (xt_of_below (by repeat' (first | exact Below.refl _ _ | assumption | refine Below.xt ?_ ?_ _ | refine Below.alloc ?_ ?_ _ | refine Below.drew ?_ | refine Below.setCell ?_ ?_ _ | (simp; done) | (simp; omega)))))⟩
      case measure => simp [intOf]; omega
    · go_wp2_with fail
      go_ret
      exact RetB.of rfl (by repeat' (first | exact Below.refl _ _ | assumption | refine Below.xt ?_ ?_ _ | refine Below.alloc ?_ ?_ _ | refine Below.drew ?_ | refine Below.setCell ?_ ?_ _ | (simp; done) | (simp; omega)))

theorem rfine1 (c : Cam) (p : V3) (ra : Int) (m cap : Nat) (w : World) (hl : RowV w (some ⟨m, 0, none⟩) [p]) : Calls Try.prog 37 #[.agg #[.int .i64 c.e.x, .int .i64 c.e.y, .int .i64 c.e.z, .int .i64 c.r.x, .int .i64 c.r.y, .int .i64 c.r.z, .int .i64 c.u.x, .int .i64 c.u.y, .int .i64 c.u.z, .int .i64 c.f.x, .int .i64 c.f.y, .int .i64 c.f.z, .int .i64 c.fo, .int .i64 c.wi, .int .i64 c.he, .int .i64 c.ne], .slice (some ⟨m, 0, none⟩) 1 cap, .int .i64 ra] w (RetB (.bool (pjOk c p ra)) w) := by
  unfold pjOk
  by_cases h : cval c = true
  · by_cases hr : within ra 0 1000 = true
    · by_cases hp : pnt p = true
      · rw [h, hr, hp]
        exact rfine_yes c ra _ 1 cap [p] w h hr (by decide) rfl hl (fun i hi => by have : i = 0 := by omega
                                                                                   subst this; exact hp)
      · have hp' : pnt p = false := by simpa using hp
        rw [h, hr, hp']
        exact rfine_no c ra m 0 1 cap [p] w h hr (by decide) rfl hl ⟨0, by decide, hp'⟩
    · have hr' : within ra 0 1000 = false := by simpa using hr
      rw [h, hr']
      exact rfine_rad c ra _ 1 cap w h (by decide) hr'
  · have h' : cval c = false := by simpa using h
    rw [h']
    exact rfine_bad c ra _ 1 cap w h'

/-! ### Project -/
theorem rspot_no (c : Cam) (p : V3) (ra : Int) (w : World) (hc : Good c) (hp : pnt p = true) (hr : within ra 0 1000 = true) (h : seen c p = false) : Calls Try.prog 38 #[.agg #[.int .i64 c.e.x, .int .i64 c.e.y, .int .i64 c.e.z, .int .i64 c.r.x, .int .i64 c.r.y, .int .i64 c.r.z, .int .i64 c.u.x, .int .i64 c.u.y, .int .i64 c.u.z, .int .i64 c.f.x, .int .i64 c.f.y, .int .i64 c.f.z, .int .i64 c.fo, .int .i64 c.wi, .int .i64 c.he, .int .i64 c.ne], .agg #[.int .i64 p.x, .int .i64 p.y, .int .i64 p.z], .int .i64 ra] w (RetB (.tuple #[.agg #[.int .i64 0, .int .i64 0, .int .i64 0, .int .i64 0, .int .i64 0], .bool false]) w) := by
  by_cases hz : c.ne ≤ zz c p
  · have k := refspot_any c p ra w hc hp (within_iff.1 hr) hz
    rw [h] at k
    exact k
  · exact refspot_far c p ra w hc hp (by omega)
theorem rspot_yes (c : Cam) (p : V3) (ra : Int) (w : World) (hc : Good c) (hp : pnt p = true) (hr : within ra 0 1000 = true) (h : seen c p = true) : Calls Try.prog 38 #[.agg #[.int .i64 c.e.x, .int .i64 c.e.y, .int .i64 c.e.z, .int .i64 c.r.x, .int .i64 c.r.y, .int .i64 c.r.z, .int .i64 c.u.x, .int .i64 c.u.y, .int .i64 c.u.z, .int .i64 c.f.x, .int .i64 c.f.y, .int .i64 c.f.z, .int .i64 c.fo, .int .i64 c.wi, .int .i64 c.he, .int .i64 c.ne], .agg #[.int .i64 p.x, .int .i64 p.y, .int .i64 p.z], .int .i64 ra] w (RetB (.tuple #[.agg #[.int .i64 0, .int .i64 ((xx c p)), .int .i64 ((yy c p)), .int .i64 ((rr c p ra)), .int .i64 ((zz c p))], .bool true]) w) := by
  have hz : c.ne ≤ zz c p := by simp only [seen, Bool.and_eq_true, decide_eq_true_eq] at h; exact h.1.1
  have k := refspot_any c p ra w hc hp (within_iff.1 hr) hz
  rw [h] at k
  exact k

set_option maxHeartbeats 800000 in
theorem rProject_arg (c : Cam) (p : V3) (ra : Int) (w : World) (h : pjOk c p ra = false) : Calls Try.prog 16 #[.agg #[.int .i64 c.e.x, .int .i64 c.e.y, .int .i64 c.e.z, .int .i64 c.r.x, .int .i64 c.r.y, .int .i64 c.r.z, .int .i64 c.u.x, .int .i64 c.u.y, .int .i64 c.u.z, .int .i64 c.f.x, .int .i64 c.f.y, .int .i64 c.f.z, .int .i64 c.fo, .int .i64 c.wi, .int .i64 c.he, .int .i64 c.ne], .agg #[.int .i64 p.x, .int .i64 p.y, .int .i64 p.z], .int .i64 ra] w (RetB (.tuple #[.agg #[.int .i64 0, .int .i64 0, .int .i64 0, .int .i64 0, .int .i64 0], .int .i64 2]) w) := by
  have K := fun m w hl => Lib.hid (rfine1 c p ra m 1 w hl)
  rw [h] at K
  clear h
  go_enter Try.func16, Try.ntmps16
  go_wp2_with (first
    | (go_at_call 37; refine (RetB.grown ((K _ _ (by repeat (first | exact rowV_1 (by simp) | refine Row.drew ?_))).out)).mono ?_; rintro e' w' ⟨rfl, g, rfl⟩)
    | (refine wp_region_xt (by kernel_rfl) (by kernel_rfl) ?_; (repeat (go_big_quiet_step (first | (go_at_call 37; exact RetB.quiet ((K _ _ (by repeat (first | exact rowV_1 (by simp) | refine Row.drew ?_))).out))))); refine wpQuiet_nil ?_; intro g))
  refine bodyPost_ret (v := .tuple #[.agg #[.int .i64 0, .int .i64 0, .int .i64 0, .int .i64 0, .int .i64 0], .int .i64 2]) (by simp [results, Try.results16, go_sem]) rfl ?_
  exact RetB.of rfl (by repeat' (first | exact Below.refl _ _ | assumption | refine Below.xt ?_ ?_ _ | refine Below.alloc ?_ ?_ _ | refine Below.drew ?_ | refine Below.setCell ?_ ?_ _ | (simp; done) | (simp; omega)))
set_option maxHeartbeats 800000 in
theorem rProject_none (c : Cam) (p : V3) (ra : Int) (w : World) (h : pjOk c p ra = true) (hs : seen c p = false) : Calls Try.prog 16 #[.agg #[.int .i64 c.e.x, .int .i64 c.e.y, .int .i64 c.e.z, .int .i64 c.r.x, .int .i64 c.r.y, .int .i64 c.r.z, .int .i64 c.u.x, .int .i64 c.u.y, .int .i64 c.u.z, .int .i64 c.f.x, .int .i64 c.f.y, .int .i64 c.f.z, .int .i64 c.fo, .int .i64 c.wi, .int .i64 c.he, .int .i64 c.ne], .agg #[.int .i64 p.x, .int .i64 p.y, .int .i64 p.z], .int .i64 ra] w (RetB (.tuple #[.agg #[.int .i64 0, .int .i64 0, .int .i64 0, .int .i64 0, .int .i64 0], .int .i64 9]) w) := by
  have K := fun m w hl => Lib.hid (rfine1 c p ra m 1 w hl)
  rw [h] at K
  have h' := h
  simp only [pjOk, Bool.and_eq_true] at h'
  have S := fun w => Lib.hid (rspot_no c p ra w (good_of h'.1.1) h'.2 h'.1.2 hs)
  clear h h' hs
  go_enter Try.func16, Try.ntmps16
  go_wp2_with (first
    | (go_at_call 37; refine (RetB.grown ((K _ _ (by repeat (first | exact rowV_1 (by simp) | refine Row.drew ?_))).out)).mono ?_; rintro e' w' ⟨rfl, g, rfl⟩)
    | (go_at_call 38; refine (RetB.grown ((S _).out)).mono ?_; rintro e' w' ⟨rfl, g, rfl⟩)
    | (refine wp_region_xt (by kernel_rfl) (by kernel_rfl) ?_; (repeat (go_big_quiet_step (first | (go_at_call 37; exact RetB.quiet ((K _ _ (by repeat (first | exact rowV_1 (by simp) | refine Row.drew ?_))).out)) | (go_at_call 38; exact RetB.quiet ((S _).out))))); refine wpQuiet_nil ?_; intro g))
  refine bodyPost_ret (v := .tuple #[.agg #[.int .i64 0, .int .i64 0, .int .i64 0, .int .i64 0, .int .i64 0], .int .i64 9]) (by simp [results, Try.results16, go_sem]) rfl ?_
  exact RetB.of rfl (by repeat' (first | exact Below.refl _ _ | assumption | refine Below.xt ?_ ?_ _ | refine Below.alloc ?_ ?_ _ | refine Below.drew ?_ | refine Below.setCell ?_ ?_ _ | (simp; done) | (simp; omega)))
set_option maxHeartbeats 800000 in
theorem rProject_ok (c : Cam) (p : V3) (ra : Int) (w : World) (h : pjOk c p ra = true) (hs : seen c p = true) : Calls Try.prog 16 #[.agg #[.int .i64 c.e.x, .int .i64 c.e.y, .int .i64 c.e.z, .int .i64 c.r.x, .int .i64 c.r.y, .int .i64 c.r.z, .int .i64 c.u.x, .int .i64 c.u.y, .int .i64 c.u.z, .int .i64 c.f.x, .int .i64 c.f.y, .int .i64 c.f.z, .int .i64 c.fo, .int .i64 c.wi, .int .i64 c.he, .int .i64 c.ne], .agg #[.int .i64 p.x, .int .i64 p.y, .int .i64 p.z], .int .i64 ra] w (RetB (.tuple #[.agg #[.int .i64 0, .int .i64 ((xx c p)), .int .i64 ((yy c p)), .int .i64 ((rr c p ra)), .int .i64 ((zz c p))], .int .i64 0]) w) := by
  have K := fun m w hl => Lib.hid (rfine1 c p ra m 1 w hl)
  rw [h] at K
  have h' := h
  simp only [pjOk, Bool.and_eq_true] at h'
  have S := fun w => Lib.hid (rspot_yes c p ra w (good_of h'.1.1) h'.2 h'.1.2 hs)
  clear h h' hs
  generalize xx c p = x at *
  generalize yy c p = y at *
  generalize rr c p ra = r at *
  generalize zz c p = z at *
  go_enter Try.func16, Try.ntmps16
  go_wp2_with (first
    | (go_at_call 37; refine (RetB.grown ((K _ _ (by repeat (first | exact rowV_1 (by simp) | refine Row.drew ?_))).out)).mono ?_; rintro e' w' ⟨rfl, g, rfl⟩)
    | (go_at_call 38; refine (RetB.grown ((S _).out)).mono ?_; rintro e' w' ⟨rfl, g, rfl⟩)
    | (refine wp_region_xt (by kernel_rfl) (by kernel_rfl) ?_; (repeat (go_big_quiet_step (first | (go_at_call 37; exact RetB.quiet ((K _ _ (by repeat (first | exact rowV_1 (by simp) | refine Row.drew ?_))).out)) | (go_at_call 38; exact RetB.quiet ((S _).out))))); refine wpQuiet_nil ?_; intro g))
  refine bodyPost_ret (v := .tuple #[.agg #[.int .i64 0, .int .i64 x, .int .i64 y, .int .i64 r, .int .i64 z], .int .i64 0]) (by simp [results, Try.results16, go_sem]) rfl ?_
  exact RetB.of rfl (by repeat' (first | exact Below.refl _ _ | assumption | refine Below.xt ?_ ?_ _ | refine Below.alloc ?_ ?_ _ | refine Below.drew ?_ | refine Below.setCell ?_ ?_ _ | (simp; done) | (simp; omega)))
theorem rProject_any (c : Cam) (p : V3) (ra : Int) (w : World) : Calls Try.prog 16 #[.agg #[.int .i64 c.e.x, .int .i64 c.e.y, .int .i64 c.e.z, .int .i64 c.r.x, .int .i64 c.r.y, .int .i64 c.r.z, .int .i64 c.u.x, .int .i64 c.u.y, .int .i64 c.u.z, .int .i64 c.f.x, .int .i64 c.f.y, .int .i64 c.f.z, .int .i64 c.fo, .int .i64 c.wi, .int .i64 c.he, .int .i64 c.ne], .agg #[.int .i64 p.x, .int .i64 p.y, .int .i64 p.z], .int .i64 ra] w (RetB (.tuple #[.agg #[.int .i64 0, .int .i64 ((pjS c p ra (xx c p))), .int .i64 ((pjS c p ra (yy c p))), .int .i64 ((pjS c p ra (rr c p ra))), .int .i64 ((pjS c p ra (zz c p)))], .int .i64 (pjE c p ra)]) w) := by
  by_cases h : pjOk c p ra = true
  · by_cases hs : seen c p = true
    · have e : pjE c p ra = 0 := by simp [pjE, h, hs]
      simp only [pjS, e, if_true]
      exact rProject_ok c p ra w h hs
    · have hs' : seen c p = false := by simpa using hs
      have e : pjE c p ra = 9 := by simp [pjE, h, hs']
      simp only [pjS, e]
      exact rProject_none c p ra w h hs'
  · have h' : pjOk c p ra = false := by simpa using h
    have e : pjE c p ra = 2 := by simp [pjE, h']
    simp only [pjS, e]
    exact rProject_arg c p ra w h'

end Go.Proofs.Ytjeemlnhokihoaa

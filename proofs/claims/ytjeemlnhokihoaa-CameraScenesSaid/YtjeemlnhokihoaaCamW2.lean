/- Walks: which cameras are valid, by the program. Conditions stand in each theorem. -/
import Derived.Test.YtjeemlnhokihoaaCamW1
namespace Go.Proofs.Ytjeemlnhokihoaa
open Go.RowKit
set_option linter.unusedVariables false
set_option linter.unusedSimpArgs false
attribute [local go_sem ↓] ld16

def nxt (c : Cam) (k : Nat) : V3 := if k = 0 then c.u else if k = 1 then c.f else c.r
def vk (c : Cam) (k : Nat) : V3 := if k = 0 then c.r else if k = 1 then c.u else c.f
def okk (c : Cam) (k : Nat) : Bool := okv (vk c k) (nxt c k) c.r
theorem okk_all {c : Cam} (h : ∀ k, k < 3 → okk c k = true) : cvalW c = fin c := by
  have h0 : okv c.r c.u c.r = true := h 0 (by decide)
  have h1 : okv c.u c.f c.r = true := h 1 (by decide)
  have h2 : okv c.f c.r c.r = true := h 2 (by decide)
  simp [cvalW, h0, h1, h2]
theorem okk_no {c : Cam} {k : Nat} (hk : k < 3) (h : okk c k = false) : cvalW c = false := by
  have : k = 0 ∨ k = 1 ∨ k = 2 := by omega
  rcases this with rfl | rfl | rfl
  · have h : okv c.r c.u c.r = false := h; simp [cvalW, h]
  · have h : okv c.u c.f c.r = false := h; simp [cvalW, h]
  · have h : okv c.f c.r c.r = false := h; simp [cvalW, h]
theorem fin_no {c : Cam} (h : ∀ k, k < 3 → okk c k = true) {b : Bool} (hf : fin c = b) : cvalW c = b := (okk_all h).trans hf

set_option maxRecDepth 100000 in
set_option maxHeartbeats 12800000 in
theorem valid_any (c : Cam) (w : World) : Calls Try.prog 10 #[.agg #[.int .i64 c.e.x, .int .i64 c.e.y, .int .i64 c.e.z, .int .i64 c.r.x, .int .i64 c.r.y, .int .i64 c.r.z, .int .i64 c.u.x, .int .i64 c.u.y, .int .i64 c.u.z, .int .i64 c.f.x, .int .i64 c.f.y, .int .i64 c.f.z, .int .i64 c.fo, .int .i64 c.wi, .int .i64 c.he, .int .i64 c.ne]] w (RetB (.bool (cvalW c)) w) := by
  obtain ⟨B, hB⟩ : ∃ B, cvalW c = B := ⟨_, rfl⟩
  rw [hB]
  have HB := Lib.hid hB
  clear hB
  have ix0 : ∀ w, (Instr.index 59 (.agg #[.int .i64 c.r.x, .int .i64 c.r.y, .int .i64 c.r.z, .int .i64 c.u.x, .int .i64 c.u.y, .int .i64 c.u.z, .int .i64 c.f.x, .int .i64 c.f.y, .int .i64 c.f.z]) (.int .i64 0)).run Try.prog w = .ok (.agg #[.int .i64 c.r.x, .int .i64 c.r.y, .int .i64 c.r.z]) w := fun _ => by kernel_rfl
  have ix1 : ∀ w, (Instr.index 59 (.agg #[.int .i64 c.r.x, .int .i64 c.r.y, .int .i64 c.r.z, .int .i64 c.u.x, .int .i64 c.u.y, .int .i64 c.u.z, .int .i64 c.f.x, .int .i64 c.f.y, .int .i64 c.f.z]) (.int .i64 1)).run Try.prog w = .ok (.agg #[.int .i64 c.u.x, .int .i64 c.u.y, .int .i64 c.u.z]) w := fun _ => by kernel_rfl
  have ix2 : ∀ w, (Instr.index 59 (.agg #[.int .i64 c.r.x, .int .i64 c.r.y, .int .i64 c.r.z, .int .i64 c.u.x, .int .i64 c.u.y, .int .i64 c.u.z, .int .i64 c.f.x, .int .i64 c.f.y, .int .i64 c.f.z]) (.int .i64 2)).run Try.prog w = .ok (.agg #[.int .i64 c.f.x, .int .i64 c.f.y, .int .i64 c.f.z]) w := fun _ => by kernel_rfl
  go_enter Try.func10, Try.ntmps10
  go_wp2_with fail
  go_loopw [14] (fun i wr => ∃ (k : Nat) (g : Gr), k ≤ 3 ∧ i = .int .i64 k ∧ wr = xt ((w.alloc (.cells #[.int .i64 c.e.x, .int .i64 c.e.y, .int .i64 c.e.z, .int .i64 c.r.x, .int .i64 c.r.y, .int .i64 c.r.z, .int .i64 c.u.x, .int .i64 c.u.y, .int .i64 c.u.z, .int .i64 c.f.x, .int .i64 c.f.y, .int .i64 c.f.z, .int .i64 c.fo, .int .i64 c.wi, .int .i64 c.he, .int .i64 c.ne] 25)).alloc (.cells #[.int .i64 c.r.x, .int .i64 c.r.y, .int .i64 c.r.z, .int .i64 c.u.x, .int .i64 c.u.y, .int .i64 c.u.z, .int .i64 c.f.x, .int .i64 c.f.y, .int .i64 c.f.z] 59)) g ∧ Hid (∀ j, j < k → okk c j = true)) (fun i _ => 3 - (intOf i).toNat)
  case atStart => exact ⟨0, ⟨[], _⟩, by omega, rfl, (xt_self _).symm, Lib.hid fun j hj => absurd hj (by omega)⟩
  case round =>
    obtain ⟨k, g, hk, rfl, rfl, HK⟩ := hrel
    by_cases hlt : k < 3
    · have HS := fun (h : okk c k = true) => Lib.hid (show ∀ j, j < k + 1 → okk c j = true from fun j hj => if e : j = k then e ▸ h else HK.out j (by omega))
      have HF := fun (h : okk c k = false) => Lib.hid (okk_no hlt h)
      rcases (show k = 0 ∨ k = 1 ∨ k = 2 by omega) with rfl | rfl | rfl
      · have he : okk c 0 = (within c.r.x (-100) 100 && within c.r.y (-100) 100 && within c.r.z (-100) 100 && (dtW c.r c.u == 0) && (dtW c.r c.r == dtW c.r c.r)) := rfl
        rw [he] at HS HF
        clear he HK
        by_cases h1 : within c.r.x (-100) 100 = true
        · by_cases h2 : within c.r.y (-100) 100 = true
          · by_cases h3 : within c.r.z (-100) 100 = true
            · by_cases h4 : dtW c.r c.u = 0
              · by_cases h5 : dtW c.r c.r = dtW c.r c.r
                · have HS' := HS (by simp [h1, h2, h3, h4, h5])
                  have e4 : (dtW c.r c.u != 0) = false := by simpa using h4
                  have e5 : (dtW c.r c.r != dtW c.r c.r) = false := by simp [h5]
                  clear HS HF h4 h5
                  go_wp2_with (first
                    | (go_at_call 27; refine (within_any _ _ _ _).mono ?_; rintro e' w' ⟨rfl, rfl⟩)
                    | (go_at_call 28; (with_reducible refine (RetB.grown (dot_w c.r c.u _)).mono ?_); rintro e' w' ⟨rfl, g, rfl⟩)
                    | (go_at_call 28; (with_reducible refine (RetB.grown (dot_w c.r c.r _)).mono ?_); rintro e' w' ⟨rfl, g, rfl⟩)
                    | (go_at_call 28; (with_reducible refine (RetB.grown (dot_w c.r c.r _)).mono ?_); rintro e' w' ⟨rfl, g, rfl⟩)
                    | (refine wp_region_xt (by kernel_rfl) (by kernel_rfl) ?_; (repeat (go_big_quiet_step (first | (go_at_call 27; exact Ret.quiet (within_any _ _ _ _)) | (go_at_call 28; (with_reducible exact RetB.quiet (dot_w c.r c.u _))) | (go_at_call 28; (with_reducible exact RetB.quiet (dot_w c.r c.r _))) | (go_at_call 28; (with_reducible exact RetB.quiet (dot_w c.r c.r _)))))); refine wpQuiet_nil ?_; intro g))
                  go_roundw
                  case rel => exact ⟨0 + 1, _, by omega, by go_num, (Classical.choose_spec (xt_of_below (by repeat' (first | exact Below.refl _ _ | assumption | refine Below.xt ?_ ?_ _ | refine Below.alloc ?_ ?_ _ | refine Below.drew ?_ | refine Below.setCell ?_ ?_ _ | (simp; done) | (simp; omega))))), HS'⟩
                  case measure => simp [intOf]
                · try exact absurd rfl h5
                  all_goals
                    have HB' : Hid (B = false) := HB.out.symm.trans (HF (by simp [h5])).out
                    have e4 : (dtW c.r c.u != 0) = false := by simpa using h4
                    have e5 : (dtW c.r c.r != dtW c.r c.r) = true := by simpa using h5
                    clear HS HF h4 h5
                    go_wp2_with (first
                      | (go_at_call 27; refine (within_any _ _ _ _).mono ?_; rintro e' w' ⟨rfl, rfl⟩)
                      | (go_at_call 28; (with_reducible refine (RetB.grown (dot_w c.r c.u _)).mono ?_); rintro e' w' ⟨rfl, g, rfl⟩)
                      | (go_at_call 28; (with_reducible refine (RetB.grown (dot_w c.r c.r _)).mono ?_); rintro e' w' ⟨rfl, g, rfl⟩)
                      | (go_at_call 28; (with_reducible refine (RetB.grown (dot_w c.r c.r _)).mono ?_); rintro e' w' ⟨rfl, g, rfl⟩)
                      | (refine wp_region_xt (by kernel_rfl) (by kernel_rfl) ?_; (repeat (go_big_quiet_step (first | (go_at_call 27; exact Ret.quiet (within_any _ _ _ _)) | (go_at_call 28; (with_reducible exact RetB.quiet (dot_w c.r c.u _))) | (go_at_call 28; (with_reducible exact RetB.quiet (dot_w c.r c.r _))) | (go_at_call 28; (with_reducible exact RetB.quiet (dot_w c.r c.r _)))))); refine wpQuiet_nil ?_; intro g))
                    go_ret
                    exact RetB.of (bool_eq HB'.out.symm) (by repeat' (first | exact Below.refl _ _ | assumption | refine Below.xt ?_ ?_ _ | refine Below.alloc ?_ ?_ _ | refine Below.drew ?_ | refine Below.setCell ?_ ?_ _ | (simp; done) | (simp; omega)))
              · have HB' : Hid (B = false) := HB.out.symm.trans (HF (by simp [h4])).out
                have e4 : (dtW c.r c.u != 0) = true := by simpa using h4
                clear HS HF h4
                go_wp2_with (first
                  | (go_at_call 27; refine (within_any _ _ _ _).mono ?_; rintro e' w' ⟨rfl, rfl⟩)
                  | (go_at_call 28; (with_reducible refine (RetB.grown (dot_w c.r c.u _)).mono ?_); rintro e' w' ⟨rfl, g, rfl⟩)
                  | (go_at_call 28; (with_reducible refine (RetB.grown (dot_w c.r c.r _)).mono ?_); rintro e' w' ⟨rfl, g, rfl⟩)
                  | (go_at_call 28; (with_reducible refine (RetB.grown (dot_w c.r c.r _)).mono ?_); rintro e' w' ⟨rfl, g, rfl⟩)
                  | (refine wp_region_xt (by kernel_rfl) (by kernel_rfl) ?_; (repeat (go_big_quiet_step (first | (go_at_call 27; exact Ret.quiet (within_any _ _ _ _)) | (go_at_call 28; (with_reducible exact RetB.quiet (dot_w c.r c.u _))) | (go_at_call 28; (with_reducible exact RetB.quiet (dot_w c.r c.r _))) | (go_at_call 28; (with_reducible exact RetB.quiet (dot_w c.r c.r _)))))); refine wpQuiet_nil ?_; intro g))
                go_ret
                exact RetB.of (bool_eq HB'.out.symm) (by repeat' (first | exact Below.refl _ _ | assumption | refine Below.xt ?_ ?_ _ | refine Below.alloc ?_ ?_ _ | refine Below.drew ?_ | refine Below.setCell ?_ ?_ _ | (simp; done) | (simp; omega)))
            · have h3' : within c.r.z (-100) 100 = false := by simpa using h3
              have HB' : Hid (B = false) := HB.out.symm.trans (HF (by simp [h3'])).out
              clear HS HF h3
              go_wp2_with (first
                | (go_at_call 27; refine (within_any _ _ _ _).mono ?_; rintro e' w' ⟨rfl, rfl⟩)
                | (refine wp_region_xt (by kernel_rfl) (by kernel_rfl) ?_; (repeat (go_big_quiet_step (first | (go_at_call 27; exact Ret.quiet (within_any _ _ _ _))))); refine wpQuiet_nil ?_; intro g))
              go_ret
              exact RetB.of (bool_eq HB'.out.symm) (by repeat' (first | exact Below.refl _ _ | assumption | refine Below.xt ?_ ?_ _ | refine Below.alloc ?_ ?_ _ | refine Below.drew ?_ | refine Below.setCell ?_ ?_ _ | (simp; done) | (simp; omega)))
          · have h2' : within c.r.y (-100) 100 = false := by simpa using h2
            have HB' : Hid (B = false) := HB.out.symm.trans (HF (by simp [h2'])).out
            clear HS HF h2
            go_wp2_with (first
              | (go_at_call 27; refine (within_any _ _ _ _).mono ?_; rintro e' w' ⟨rfl, rfl⟩)
              | (refine wp_region_xt (by kernel_rfl) (by kernel_rfl) ?_; (repeat (go_big_quiet_step (first | (go_at_call 27; exact Ret.quiet (within_any _ _ _ _))))); refine wpQuiet_nil ?_; intro g))
            go_ret
            exact RetB.of (bool_eq HB'.out.symm) (by repeat' (first | exact Below.refl _ _ | assumption | refine Below.xt ?_ ?_ _ | refine Below.alloc ?_ ?_ _ | refine Below.drew ?_ | refine Below.setCell ?_ ?_ _ | (simp; done) | (simp; omega)))
        · have h1' : within c.r.x (-100) 100 = false := by simpa using h1
          have HB' : Hid (B = false) := HB.out.symm.trans (HF (by simp [h1'])).out
          clear HS HF h1
          go_wp2_with (first
            | (go_at_call 27; refine (within_any _ _ _ _).mono ?_; rintro e' w' ⟨rfl, rfl⟩)
            | (refine wp_region_xt (by kernel_rfl) (by kernel_rfl) ?_; (repeat (go_big_quiet_step (first | (go_at_call 27; exact Ret.quiet (within_any _ _ _ _))))); refine wpQuiet_nil ?_; intro g))
          go_ret
          exact RetB.of (bool_eq HB'.out.symm) (by repeat' (first | exact Below.refl _ _ | assumption | refine Below.xt ?_ ?_ _ | refine Below.alloc ?_ ?_ _ | refine Below.drew ?_ | refine Below.setCell ?_ ?_ _ | (simp; done) | (simp; omega)))
      · have he : okk c 1 = (within c.u.x (-100) 100 && within c.u.y (-100) 100 && within c.u.z (-100) 100 && (dtW c.u c.f == 0) && (dtW c.u c.u == dtW c.r c.r)) := rfl
        rw [he] at HS HF
        clear he HK
        by_cases h1 : within c.u.x (-100) 100 = true
        · by_cases h2 : within c.u.y (-100) 100 = true
          · by_cases h3 : within c.u.z (-100) 100 = true
            · by_cases h4 : dtW c.u c.f = 0
              · by_cases h5 : dtW c.u c.u = dtW c.r c.r
                · have HS' := HS (by simp [h1, h2, h3, h4, h5])
                  have e4 : (dtW c.u c.f != 0) = false := by simpa using h4
                  have e5 : (dtW c.u c.u != dtW c.r c.r) = false := by simp [h5]
                  clear HS HF h4 h5
                  go_wp2_with (first
                    | (go_at_call 27; refine (within_any _ _ _ _).mono ?_; rintro e' w' ⟨rfl, rfl⟩)
                    | (go_at_call 28; (with_reducible refine (RetB.grown (dot_w c.u c.f _)).mono ?_); rintro e' w' ⟨rfl, g, rfl⟩)
                    | (go_at_call 28; (with_reducible refine (RetB.grown (dot_w c.u c.u _)).mono ?_); rintro e' w' ⟨rfl, g, rfl⟩)
                    | (go_at_call 28; (with_reducible refine (RetB.grown (dot_w c.r c.r _)).mono ?_); rintro e' w' ⟨rfl, g, rfl⟩)
                    | (refine wp_region_xt (by kernel_rfl) (by kernel_rfl) ?_; (repeat (go_big_quiet_step (first | (go_at_call 27; exact Ret.quiet (within_any _ _ _ _)) | (go_at_call 28; (with_reducible exact RetB.quiet (dot_w c.u c.f _))) | (go_at_call 28; (with_reducible exact RetB.quiet (dot_w c.u c.u _))) | (go_at_call 28; (with_reducible exact RetB.quiet (dot_w c.r c.r _)))))); refine wpQuiet_nil ?_; intro g))
                  go_roundw
                  case rel => exact ⟨1 + 1, _, by omega, by go_num, (Classical.choose_spec (xt_of_below (by repeat' (first | exact Below.refl _ _ | assumption | refine Below.xt ?_ ?_ _ | refine Below.alloc ?_ ?_ _ | refine Below.drew ?_ | refine Below.setCell ?_ ?_ _ | (simp; done) | (simp; omega))))), HS'⟩
                  case measure => simp [intOf]
                · try exact absurd rfl h5
                  all_goals
                    have HB' : Hid (B = false) := HB.out.symm.trans (HF (by simp [h5])).out
                    have e4 : (dtW c.u c.f != 0) = false := by simpa using h4
                    have e5 : (dtW c.u c.u != dtW c.r c.r) = true := by simpa using h5
                    clear HS HF h4 h5
                    go_wp2_with (first
                      | (go_at_call 27; refine (within_any _ _ _ _).mono ?_; rintro e' w' ⟨rfl, rfl⟩)
                      | (go_at_call 28; (with_reducible refine (RetB.grown (dot_w c.u c.f _)).mono ?_); rintro e' w' ⟨rfl, g, rfl⟩)
                      | (go_at_call 28; (with_reducible refine (RetB.grown (dot_w c.u c.u _)).mono ?_); rintro e' w' ⟨rfl, g, rfl⟩)
                      | (go_at_call 28; (with_reducible refine (RetB.grown (dot_w c.r c.r _)).mono ?_); rintro e' w' ⟨rfl, g, rfl⟩)
                      | (refine wp_region_xt (by kernel_rfl) (by kernel_rfl) ?_; (repeat (go_big_quiet_step (first | (go_at_call 27; exact Ret.quiet (within_any _ _ _ _)) | (go_at_call 28; (with_reducible exact RetB.quiet (dot_w c.u c.f _))) | (go_at_call 28; (with_reducible exact RetB.quiet (dot_w c.u c.u _))) | (go_at_call 28; (with_reducible exact RetB.quiet (dot_w c.r c.r _)))))); refine wpQuiet_nil ?_; intro g))
                    go_ret
                    exact RetB.of (bool_eq HB'.out.symm) (by repeat' (first | exact Below.refl _ _ | assumption | refine Below.xt ?_ ?_ _ | refine Below.alloc ?_ ?_ _ | refine Below.drew ?_ | refine Below.setCell ?_ ?_ _ | (simp; done) | (simp; omega)))
              · have HB' : Hid (B = false) := HB.out.symm.trans (HF (by simp [h4])).out
                have e4 : (dtW c.u c.f != 0) = true := by simpa using h4
                clear HS HF h4
                go_wp2_with (first
                  | (go_at_call 27; refine (within_any _ _ _ _).mono ?_; rintro e' w' ⟨rfl, rfl⟩)
                  | (go_at_call 28; (with_reducible refine (RetB.grown (dot_w c.u c.f _)).mono ?_); rintro e' w' ⟨rfl, g, rfl⟩)
                  | (go_at_call 28; (with_reducible refine (RetB.grown (dot_w c.u c.u _)).mono ?_); rintro e' w' ⟨rfl, g, rfl⟩)
                  | (go_at_call 28; (with_reducible refine (RetB.grown (dot_w c.r c.r _)).mono ?_); rintro e' w' ⟨rfl, g, rfl⟩)
                  | (refine wp_region_xt (by kernel_rfl) (by kernel_rfl) ?_; (repeat (go_big_quiet_step (first | (go_at_call 27; exact Ret.quiet (within_any _ _ _ _)) | (go_at_call 28; (with_reducible exact RetB.quiet (dot_w c.u c.f _))) | (go_at_call 28; (with_reducible exact RetB.quiet (dot_w c.u c.u _))) | (go_at_call 28; (with_reducible exact RetB.quiet (dot_w c.r c.r _)))))); refine wpQuiet_nil ?_; intro g))
                go_ret
                exact RetB.of (bool_eq HB'.out.symm) (by repeat' (first | exact Below.refl _ _ | assumption | refine Below.xt ?_ ?_ _ | refine Below.alloc ?_ ?_ _ | refine Below.drew ?_ | refine Below.setCell ?_ ?_ _ | (simp; done) | (simp; omega)))
            · have h3' : within c.u.z (-100) 100 = false := by simpa using h3
              have HB' : Hid (B = false) := HB.out.symm.trans (HF (by simp [h3'])).out
              clear HS HF h3
              go_wp2_with (first
                | (go_at_call 27; refine (within_any _ _ _ _).mono ?_; rintro e' w' ⟨rfl, rfl⟩)
                | (refine wp_region_xt (by kernel_rfl) (by kernel_rfl) ?_; (repeat (go_big_quiet_step (first | (go_at_call 27; exact Ret.quiet (within_any _ _ _ _))))); refine wpQuiet_nil ?_; intro g))
              go_ret
              exact RetB.of (bool_eq HB'.out.symm) (by repeat' (first | exact Below.refl _ _ | assumption | refine Below.xt ?_ ?_ _ | refine Below.alloc ?_ ?_ _ | refine Below.drew ?_ | refine Below.setCell ?_ ?_ _ | (simp; done) | (simp; omega)))
          · have h2' : within c.u.y (-100) 100 = false := by simpa using h2
            have HB' : Hid (B = false) := HB.out.symm.trans (HF (by simp [h2'])).out
            clear HS HF h2
            go_wp2_with (first
              | (go_at_call 27; refine (within_any _ _ _ _).mono ?_; rintro e' w' ⟨rfl, rfl⟩)
              | (refine wp_region_xt (by kernel_rfl) (by kernel_rfl) ?_; (repeat (go_big_quiet_step (first | (go_at_call 27; exact Ret.quiet (within_any _ _ _ _))))); refine wpQuiet_nil ?_; intro g))
            go_ret
            exact RetB.of (bool_eq HB'.out.symm) (by repeat' (first | exact Below.refl _ _ | assumption | refine Below.xt ?_ ?_ _ | refine Below.alloc ?_ ?_ _ | refine Below.drew ?_ | refine Below.setCell ?_ ?_ _ | (simp; done) | (simp; omega)))
        · have h1' : within c.u.x (-100) 100 = false := by simpa using h1
          have HB' : Hid (B = false) := HB.out.symm.trans (HF (by simp [h1'])).out
          clear HS HF h1
          go_wp2_with (first
            | (go_at_call 27; refine (within_any _ _ _ _).mono ?_; rintro e' w' ⟨rfl, rfl⟩)
            | (refine wp_region_xt (by kernel_rfl) (by kernel_rfl) ?_; (repeat (go_big_quiet_step (first | (go_at_call 27; exact Ret.quiet (within_any _ _ _ _))))); refine wpQuiet_nil ?_; intro g))
          go_ret
          exact RetB.of (bool_eq HB'.out.symm) (by repeat' (first | exact Below.refl _ _ | assumption | refine Below.xt ?_ ?_ _ | refine Below.alloc ?_ ?_ _ | refine Below.drew ?_ | refine Below.setCell ?_ ?_ _ | (simp; done) | (simp; omega)))
      · have he : okk c 2 = (within c.f.x (-100) 100 && within c.f.y (-100) 100 && within c.f.z (-100) 100 && (dtW c.f c.r == 0) && (dtW c.f c.f == dtW c.r c.r)) := rfl
        rw [he] at HS HF
        clear he HK
        by_cases h1 : within c.f.x (-100) 100 = true
        · by_cases h2 : within c.f.y (-100) 100 = true
          · by_cases h3 : within c.f.z (-100) 100 = true
            · by_cases h4 : dtW c.f c.r = 0
              · by_cases h5 : dtW c.f c.f = dtW c.r c.r
                · have HS' := HS (by simp [h1, h2, h3, h4, h5])
                  have e4 : (dtW c.f c.r != 0) = false := by simpa using h4
                  have e5 : (dtW c.f c.f != dtW c.r c.r) = false := by simp [h5]
                  clear HS HF h4 h5
                  go_wp2_with (first
                    | (go_at_call 27; refine (within_any _ _ _ _).mono ?_; rintro e' w' ⟨rfl, rfl⟩)
                    | (go_at_call 28; (with_reducible refine (RetB.grown (dot_w c.f c.r _)).mono ?_); rintro e' w' ⟨rfl, g, rfl⟩)
                    | (go_at_call 28; (with_reducible refine (RetB.grown (dot_w c.f c.f _)).mono ?_); rintro e' w' ⟨rfl, g, rfl⟩)
                    | (go_at_call 28; (with_reducible refine (RetB.grown (dot_w c.r c.r _)).mono ?_); rintro e' w' ⟨rfl, g, rfl⟩)
                    | (refine wp_region_xt (by kernel_rfl) (by kernel_rfl) ?_; (repeat (go_big_quiet_step (first | (go_at_call 27; exact Ret.quiet (within_any _ _ _ _)) | (go_at_call 28; (with_reducible exact RetB.quiet (dot_w c.f c.r _))) | (go_at_call 28; (with_reducible exact RetB.quiet (dot_w c.f c.f _))) | (go_at_call 28; (with_reducible exact RetB.quiet (dot_w c.r c.r _)))))); refine wpQuiet_nil ?_; intro g))
                  go_roundw
                  case rel => exact ⟨2 + 1, _, by omega, by go_num, (Classical.choose_spec (xt_of_below (by repeat' (first | exact Below.refl _ _ | assumption | refine Below.xt ?_ ?_ _ | refine Below.alloc ?_ ?_ _ | refine Below.drew ?_ | refine Below.setCell ?_ ?_ _ | (simp; done) | (simp; omega))))), HS'⟩
                  case measure => simp [intOf]
                · try exact absurd rfl h5
                  all_goals
                    have HB' : Hid (B = false) := HB.out.symm.trans (HF (by simp [h5])).out
                    have e4 : (dtW c.f c.r != 0) = false := by simpa using h4
                    have e5 : (dtW c.f c.f != dtW c.r c.r) = true := by simpa using h5
                    clear HS HF h4 h5
                    go_wp2_with (first
                      | (go_at_call 27; refine (within_any _ _ _ _).mono ?_; rintro e' w' ⟨rfl, rfl⟩)
                      | (go_at_call 28; (with_reducible refine (RetB.grown (dot_w c.f c.r _)).mono ?_); rintro e' w' ⟨rfl, g, rfl⟩)
                      | (go_at_call 28; (with_reducible refine (RetB.grown (dot_w c.f c.f _)).mono ?_); rintro e' w' ⟨rfl, g, rfl⟩)
                      | (go_at_call 28; (with_reducible refine (RetB.grown (dot_w c.r c.r _)).mono ?_); rintro e' w' ⟨rfl, g, rfl⟩)
                      | (refine wp_region_xt (by kernel_rfl) (by kernel_rfl) ?_; (repeat (go_big_quiet_step (first | (go_at_call 27; exact Ret.quiet (within_any _ _ _ _)) | (go_at_call 28; (with_reducible exact RetB.quiet (dot_w c.f c.r _))) | (go_at_call 28; (with_reducible exact RetB.quiet (dot_w c.f c.f _))) | (go_at_call 28; (with_reducible exact RetB.quiet (dot_w c.r c.r _)))))); refine wpQuiet_nil ?_; intro g))
                    go_ret
                    exact RetB.of (bool_eq HB'.out.symm) (by repeat' (first | exact Below.refl _ _ | assumption | refine Below.xt ?_ ?_ _ | refine Below.alloc ?_ ?_ _ | refine Below.drew ?_ | refine Below.setCell ?_ ?_ _ | (simp; done) | (simp; omega)))
              · have HB' : Hid (B = false) := HB.out.symm.trans (HF (by simp [h4])).out
                have e4 : (dtW c.f c.r != 0) = true := by simpa using h4
                clear HS HF h4
                go_wp2_with (first
                  | (go_at_call 27; refine (within_any _ _ _ _).mono ?_; rintro e' w' ⟨rfl, rfl⟩)
                  | (go_at_call 28; (with_reducible refine (RetB.grown (dot_w c.f c.r _)).mono ?_); rintro e' w' ⟨rfl, g, rfl⟩)
                  | (go_at_call 28; (with_reducible refine (RetB.grown (dot_w c.f c.f _)).mono ?_); rintro e' w' ⟨rfl, g, rfl⟩)
                  | (go_at_call 28; (with_reducible refine (RetB.grown (dot_w c.r c.r _)).mono ?_); rintro e' w' ⟨rfl, g, rfl⟩)
                  | (refine wp_region_xt (by kernel_rfl) (by kernel_rfl) ?_; (repeat (go_big_quiet_step (first | (go_at_call 27; exact Ret.quiet (within_any _ _ _ _)) | (go_at_call 28; (with_reducible exact RetB.quiet (dot_w c.f c.r _))) | (go_at_call 28; (with_reducible exact RetB.quiet (dot_w c.f c.f _))) | (go_at_call 28; (with_reducible exact RetB.quiet (dot_w c.r c.r _)))))); refine wpQuiet_nil ?_; intro g))
                go_ret
                exact RetB.of (bool_eq HB'.out.symm) (by repeat' (first | exact Below.refl _ _ | assumption | refine Below.xt ?_ ?_ _ | refine Below.alloc ?_ ?_ _ | refine Below.drew ?_ | refine Below.setCell ?_ ?_ _ | (simp; done) | (simp; omega)))
            · have h3' : within c.f.z (-100) 100 = false := by simpa using h3
              have HB' : Hid (B = false) := HB.out.symm.trans (HF (by simp [h3'])).out
              clear HS HF h3
              go_wp2_with (first
                | (go_at_call 27; refine (within_any _ _ _ _).mono ?_; rintro e' w' ⟨rfl, rfl⟩)
                | (refine wp_region_xt (by kernel_rfl) (by kernel_rfl) ?_; (repeat (go_big_quiet_step (first | (go_at_call 27; exact Ret.quiet (within_any _ _ _ _))))); refine wpQuiet_nil ?_; intro g))
              go_ret
              exact RetB.of (bool_eq HB'.out.symm) (by repeat' (first | exact Below.refl _ _ | assumption | refine Below.xt ?_ ?_ _ | refine Below.alloc ?_ ?_ _ | refine Below.drew ?_ | refine Below.setCell ?_ ?_ _ | (simp; done) | (simp; omega)))
          · have h2' : within c.f.y (-100) 100 = false := by simpa using h2
            have HB' : Hid (B = false) := HB.out.symm.trans (HF (by simp [h2'])).out
            clear HS HF h2
            go_wp2_with (first
              | (go_at_call 27; refine (within_any _ _ _ _).mono ?_; rintro e' w' ⟨rfl, rfl⟩)
              | (refine wp_region_xt (by kernel_rfl) (by kernel_rfl) ?_; (repeat (go_big_quiet_step (first | (go_at_call 27; exact Ret.quiet (within_any _ _ _ _))))); refine wpQuiet_nil ?_; intro g))
            go_ret
            exact RetB.of (bool_eq HB'.out.symm) (by repeat' (first | exact Below.refl _ _ | assumption | refine Below.xt ?_ ?_ _ | refine Below.alloc ?_ ?_ _ | refine Below.drew ?_ | refine Below.setCell ?_ ?_ _ | (simp; done) | (simp; omega)))
        · have h1' : within c.f.x (-100) 100 = false := by simpa using h1
          have HB' : Hid (B = false) := HB.out.symm.trans (HF (by simp [h1'])).out
          clear HS HF h1
          go_wp2_with (first
            | (go_at_call 27; refine (within_any _ _ _ _).mono ?_; rintro e' w' ⟨rfl, rfl⟩)
            | (refine wp_region_xt (by kernel_rfl) (by kernel_rfl) ?_; (repeat (go_big_quiet_step (first | (go_at_call 27; exact Ret.quiet (within_any _ _ _ _))))); refine wpQuiet_nil ?_; intro g))
          go_ret
          exact RetB.of (bool_eq HB'.out.symm) (by repeat' (first | exact Below.refl _ _ | assumption | refine Below.xt ?_ ?_ _ | refine Below.alloc ?_ ?_ _ | refine Below.drew ?_ | refine Below.setCell ?_ ?_ _ | (simp; done) | (simp; omega)))
    · have e1 : k = 3 := by omega
      subst e1
      have HF := Lib.hid (HB.out.symm.trans (okk_all HK.out))
      have hf : fin c = (decide (0 < dtW c.u c.u) && pnt c.e && within c.fo 1 4096 && within c.wi 1 4096 && within c.he 1 4096 && within c.ne 1 1073741824) := rfl
      rw [hf] at HF
      clear hf HK HB
      by_cases h1 : 0 < dtW c.u c.u
      · have e1 : decide (0 < dtW c.u c.u) = true := by simpa using h1
        by_cases h2 : pnt c.e = true
        · by_cases h3 : within c.fo 1 4096 = true
          · by_cases h4 : within c.wi 1 4096 = true
            · by_cases h5 : within c.he 1 4096 = true
              · have HB' : Hid (B = within c.ne 1 1073741824) := by have := HF.out; rw [e1, h2, h3, h4, h5] at this; exact this
                clear HF h1
                go_wp2_with (first
                  | (go_at_call 27; refine (within_any _ _ _ _).mono ?_; rintro e' w' ⟨rfl, rfl⟩)
                  | (go_at_call 28; refine (RetB.grown (dot_w _ _ _)).mono ?_; rintro e' w' ⟨rfl, g, rfl⟩)
                  | (go_at_call 29; refine (RetB.grown (point_any _ _)).mono ?_; rintro e' w' ⟨rfl, g, rfl⟩)
                  | (refine wp_region_xt (by kernel_rfl) (by kernel_rfl) ?_; (repeat (go_big_quiet_step (first | (go_at_call 27; exact Ret.quiet (within_any _ _ _ _)) | (go_at_call 28; exact RetB.quiet (dot_w _ _ _)) | (go_at_call 29; exact RetB.quiet (point_any _ _))))); refine wpQuiet_nil ?_; intro g))
                go_ret
                exact RetB.of (bool_eq HB'.out.symm) (by repeat' (first | exact Below.refl _ _ | assumption | refine Below.xt ?_ ?_ _ | refine Below.alloc ?_ ?_ _ | refine Below.drew ?_ | refine Below.setCell ?_ ?_ _ | (simp; done) | (simp; omega)))
              · have h5' : within c.he 1 4096 = false := by simpa using h5
                have HB' : Hid (B = false) := by have := HF.out; rw [e1, h2, h3, h4, h5'] at this; exact this
                clear HF h1 h5
                go_wp2_with (first
                  | (go_at_call 27; refine (within_any _ _ _ _).mono ?_; rintro e' w' ⟨rfl, rfl⟩)
                  | (go_at_call 28; refine (RetB.grown (dot_w _ _ _)).mono ?_; rintro e' w' ⟨rfl, g, rfl⟩)
                  | (go_at_call 29; refine (RetB.grown (point_any _ _)).mono ?_; rintro e' w' ⟨rfl, g, rfl⟩)
                  | (refine wp_region_xt (by kernel_rfl) (by kernel_rfl) ?_; (repeat (go_big_quiet_step (first | (go_at_call 27; exact Ret.quiet (within_any _ _ _ _)) | (go_at_call 28; exact RetB.quiet (dot_w _ _ _)) | (go_at_call 29; exact RetB.quiet (point_any _ _))))); refine wpQuiet_nil ?_; intro g))
                go_ret
                exact RetB.of (bool_eq HB'.out.symm) (by repeat' (first | exact Below.refl _ _ | assumption | refine Below.xt ?_ ?_ _ | refine Below.alloc ?_ ?_ _ | refine Below.drew ?_ | refine Below.setCell ?_ ?_ _ | (simp; done) | (simp; omega)))
            · have h4' : within c.wi 1 4096 = false := by simpa using h4
              have HB' : Hid (B = false) := by have := HF.out; rw [e1, h2, h3, h4'] at this; exact this
              clear HF h1 h4
              go_wp2_with (first
                | (go_at_call 27; refine (within_any _ _ _ _).mono ?_; rintro e' w' ⟨rfl, rfl⟩)
                | (go_at_call 28; refine (RetB.grown (dot_w _ _ _)).mono ?_; rintro e' w' ⟨rfl, g, rfl⟩)
                | (go_at_call 29; refine (RetB.grown (point_any _ _)).mono ?_; rintro e' w' ⟨rfl, g, rfl⟩)
                | (refine wp_region_xt (by kernel_rfl) (by kernel_rfl) ?_; (repeat (go_big_quiet_step (first | (go_at_call 27; exact Ret.quiet (within_any _ _ _ _)) | (go_at_call 28; exact RetB.quiet (dot_w _ _ _)) | (go_at_call 29; exact RetB.quiet (point_any _ _))))); refine wpQuiet_nil ?_; intro g))
              go_ret
              exact RetB.of (bool_eq HB'.out.symm) (by repeat' (first | exact Below.refl _ _ | assumption | refine Below.xt ?_ ?_ _ | refine Below.alloc ?_ ?_ _ | refine Below.drew ?_ | refine Below.setCell ?_ ?_ _ | (simp; done) | (simp; omega)))
          · have h3' : within c.fo 1 4096 = false := by simpa using h3
            have HB' : Hid (B = false) := by have := HF.out; rw [e1, h2, h3'] at this; exact this
            clear HF h1 h3
            go_wp2_with (first
              | (go_at_call 27; refine (within_any _ _ _ _).mono ?_; rintro e' w' ⟨rfl, rfl⟩)
              | (go_at_call 28; refine (RetB.grown (dot_w _ _ _)).mono ?_; rintro e' w' ⟨rfl, g, rfl⟩)
              | (go_at_call 29; refine (RetB.grown (point_any _ _)).mono ?_; rintro e' w' ⟨rfl, g, rfl⟩)
              | (refine wp_region_xt (by kernel_rfl) (by kernel_rfl) ?_; (repeat (go_big_quiet_step (first | (go_at_call 27; exact Ret.quiet (within_any _ _ _ _)) | (go_at_call 28; exact RetB.quiet (dot_w _ _ _)) | (go_at_call 29; exact RetB.quiet (point_any _ _))))); refine wpQuiet_nil ?_; intro g))
            go_ret
            exact RetB.of (bool_eq HB'.out.symm) (by repeat' (first | exact Below.refl _ _ | assumption | refine Below.xt ?_ ?_ _ | refine Below.alloc ?_ ?_ _ | refine Below.drew ?_ | refine Below.setCell ?_ ?_ _ | (simp; done) | (simp; omega)))
        · have h2' : pnt c.e = false := by simpa using h2
          have HB' : Hid (B = false) := by have := HF.out; rw [e1, h2'] at this; exact this
          clear HF h1 h2
          go_wp2_with (first
            | (go_at_call 27; refine (within_any _ _ _ _).mono ?_; rintro e' w' ⟨rfl, rfl⟩)
            | (go_at_call 28; refine (RetB.grown (dot_w _ _ _)).mono ?_; rintro e' w' ⟨rfl, g, rfl⟩)
            | (go_at_call 29; refine (RetB.grown (point_any _ _)).mono ?_; rintro e' w' ⟨rfl, g, rfl⟩)
            | (refine wp_region_xt (by kernel_rfl) (by kernel_rfl) ?_; (repeat (go_big_quiet_step (first | (go_at_call 27; exact Ret.quiet (within_any _ _ _ _)) | (go_at_call 28; exact RetB.quiet (dot_w _ _ _)) | (go_at_call 29; exact RetB.quiet (point_any _ _))))); refine wpQuiet_nil ?_; intro g))
          go_ret
          exact RetB.of (bool_eq HB'.out.symm) (by repeat' (first | exact Below.refl _ _ | assumption | refine Below.xt ?_ ?_ _ | refine Below.alloc ?_ ?_ _ | refine Below.drew ?_ | refine Below.setCell ?_ ?_ _ | (simp; done) | (simp; omega)))
      · have e1 : decide (0 < dtW c.u c.u) = false := by simpa using h1
        have HB' : Hid (B = false) := by have := HF.out; rw [e1] at this; exact this
        clear HF h1
        go_wp2_with (first
          | (go_at_call 27; refine (within_any _ _ _ _).mono ?_; rintro e' w' ⟨rfl, rfl⟩)
          | (go_at_call 28; refine (RetB.grown (dot_w _ _ _)).mono ?_; rintro e' w' ⟨rfl, g, rfl⟩)
          | (go_at_call 29; refine (RetB.grown (point_any _ _)).mono ?_; rintro e' w' ⟨rfl, g, rfl⟩)
          | (refine wp_region_xt (by kernel_rfl) (by kernel_rfl) ?_; (repeat (go_big_quiet_step (first | (go_at_call 27; exact Ret.quiet (within_any _ _ _ _)) | (go_at_call 28; exact RetB.quiet (dot_w _ _ _)) | (go_at_call 29; exact RetB.quiet (point_any _ _))))); refine wpQuiet_nil ?_; intro g))
        go_ret
        exact RetB.of (bool_eq HB'.out.symm) (by repeat' (first | exact Below.refl _ _ | assumption | refine Below.xt ?_ ?_ _ | refine Below.alloc ?_ ?_ _ | refine Below.drew ?_ | refine Below.setCell ?_ ?_ _ | (simp; done) | (simp; omega)))

theorem cvalid_any (c : Cam) (w : World) : Calls Try.prog 10 #[.agg #[.int .i64 c.e.x, .int .i64 c.e.y, .int .i64 c.e.z, .int .i64 c.r.x, .int .i64 c.r.y, .int .i64 c.r.z, .int .i64 c.u.x, .int .i64 c.u.y, .int .i64 c.u.z, .int .i64 c.f.x, .int .i64 c.f.y, .int .i64 c.f.z, .int .i64 c.fo, .int .i64 c.wi, .int .i64 c.he, .int .i64 c.ne]] w (RetB (.bool (cval c)) w) := by
  rw [← cvalW_eq]; exact valid_any c w

end Go.Proofs.Ytjeemlnhokihoaa

/- The walk of the law CameraHolds. Conditions stand in each theorem. -/
import Derived.Test.YtjeemlnhokihoaaCamH4
import Derived.Deep.DeepCutAuto
import Derived.Deep.RegionHeld3
import Derived.Deep.AppendLies
namespace Go.Proofs.Ytjeemlnhokihoaa
open Go.RowKit
set_option linter.unusedVariables false
set_option linter.unusedSimpArgs false
attribute [local go_sem ↓] ld16

def gdh (hd : Int) : Bool := decide (0 ≤ hd) && decide (hd ≤ 20000)
def gdq (q : Int) : Bool := decide (-1000 ≤ q) && decide (q ≤ 1000)
theorem HC.of {w W W' : World} {c : Cam} {d : V3} (h : HC w c d W) (hb : Below W.heap.size W W') : HC w c d W' := by
  have e : ∀ k, k < W.heap.size → blk W' k = blk W k := fun k hk => hb.block k hk
  exact ⟨h.below.trans (hb.mono h.below.size), (e _ (blk_old h.c)).trans h.c, (e _ (blk_old h.d)).trans h.d⟩

theorem blk_set {W : World} {B k : Nat} {cs : Array Value} {t : TypeId} (h : blk W B = some (.cells cs t (0, 0))) (v : Value) : blk (W.setCell ⟨B, k, none⟩ v) B = some (.cells (cs.setIfInBounds k v) t (0, 0)) := by
  unfold blk at *
  simp only [World.setCell, Array.getElem?_modify, h]
  rfl
theorem cell_other {W : World} {a : Addr} {v : Value} {b j : Nat} (hne : b ≠ a.block) : (W.setCell a v).cell? ⟨b, j, none⟩ = W.cell? ⟨b, j, none⟩ := World.cell?_of_block (heap_setCell_other W a b v hne)
theorem own_drew {w : World} {base : Nat} {e : TypeId} {s n : Nat} {v : Value} {xs : List Value} (h : w.ownsRow base e s v n xs) : w.drew.ownsRow base e s v n xs := h
theorem own_xtd {w : World} {g : Gr} {base : Nat} {e : TypeId} {s n : Nat} {v : Value} {xs : List Value} (h : (Go.Proofs.Ytjeemlnhokihoaa.xt w g).ownsRow base e s v n xs) : (Go.Proofs.Ytjeemlnhokihoaa.xt w.drew g).ownsRow base e s v n xs := h
theorem spots_spec {c : Cam} {l : List V3} {ra : Int} {n : Nat} (G : Good c) :
    (∀ i, i + 1 < (scn c l ra n).length → (srt (sfn (scn c l ra n)) (scn c l ra n).length (i + 1)).d ≤ (srt (sfn (scn c l ra n)) (scn c l ra n).length i).d ∧ (srt (sfn (scn c l ra n)) (scn c l ra n).length i).r ≤ (srt (sfn (scn c l ra n)) (scn c l ra n).length (i + 1)).r) ∧
    ∀ i, i < (scn c l ra n).length → ∃ j : Nat, j < n ∧ seen c (at_ l j) = true ∧ srt (sfn (scn c l ra n)) (scn c l ra n).length i = spt c (at_ l j) ra (j : Int) := by
  obtain ⟨h1, h2, _⟩ := srt_spec (scn c l ra n).length (sfn (scn c l ra n))
  have hB : ∀ i, i < (scn c l ra n).length → ∃ j : Nat, j < n ∧ seen c (at_ l j) = true ∧ srt (sfn (scn c l ra n)) (scn c l ra n).length i = spt c (at_ l j) ra (j : Int) := fun i hi => by
    obtain ⟨k, hk, ek⟩ := h2 i hi
    have hmem : sfn (scn c l ra n) k ∈ scn c l ra n := by
      unfold sfn
      have e : (scn c l ra n).getD k default = (scn c l ra n)[k] := by simp [List.getD, hk]
      rw [e]; exact List.getElem_mem hk
    obtain ⟨j, hj, hs, e⟩ := scn_mem n _ hmem
    exact ⟨j, hj, hs, by rw [ek, e]⟩
  refine ⟨fun i hi => ⟨h1 i hi, ?_⟩, hB⟩
  have hd := h1 i hi
  obtain ⟨j, _, hs, e⟩ := hB i (by omega)
  obtain ⟨j', _, hs', e'⟩ := hB (i + 1) hi
  rw [e, e'] at hd ⊢
  have hn := G.ne
  simp only [seen, Bool.and_eq_true, decide_eq_true_eq] at hs'
  exact rr_anti (ra := ra) G (by omega) hd
theorem Row.keep {w W : World} {A : Option Addr} {n s : Nat} {f : Nat → Nat → Value} (h : Row w A n s f) (hs : w.heap.size ≤ W.heap.size) (hk : ∀ ad, A = some ad → old ad.block w → ∀ j, W.cell? ⟨ad.block, j, none⟩ = w.cell? ⟨ad.block, j, none⟩) : Row W A n s f :=
  ⟨fun hn => by
    obtain ⟨b, o, rfl, hb, hc⟩ := h.at_ hn
    exact ⟨b, o, rfl, Nat.lt_of_lt_of_le hb hs, fun i j hi hj => (hk _ rfl hb _).trans (hc i j hi hj)⟩⟩
theorem Row.below' {w W : World} {A : Option Addr} {n s : Nat} {f : Nat → Nat → Value} (h : Row w A n s f) (hb : Below w.heap.size w W) : Row W A n s f :=
  h.keep hb.size fun ad _ hlt j => hb.cell (p := ⟨ad.block, j, none⟩) hlt

set_option maxRecDepth 100000 in
set_option maxHeartbeats 6400000 in
theorem CH_main (c : Cam) (l : List V3) (A : Option Addr) (n cap : Nat) (ra hd q : Int) (d : V3) (w : World) (hn : n ≤ 20) (hc : cval c = true) (hd' : pnt d = true) (hnl : n = l.length) (hl : RowV w A l) (ohd : I64 hd) (oq : I64 q) :
    Calls Try.prog 9 #[.agg #[.int .i64 c.e.x, .int .i64 c.e.y, .int .i64 c.e.z, .int .i64 c.r.x, .int .i64 c.r.y, .int .i64 c.r.z, .int .i64 c.u.x, .int .i64 c.u.y, .int .i64 c.u.z, .int .i64 c.f.x, .int .i64 c.f.y, .int .i64 c.f.z, .int .i64 c.fo, .int .i64 c.wi, .int .i64 c.he, .int .i64 c.ne], .slice A n cap, .int .i64 ra, .agg #[.int .i64 d.x, .int .i64 d.y, .int .i64 d.z], .int .i64 hd, .int .i64 q] w (RetB (.bool true) w) := by
  have d1 : decide ((20 : Int) < (n : Int)) = false := by simp; omega
  have C := fun w => Lib.hid (refvalid_any c w)
  rw [hc] at C
  have P := fun w => Lib.hid (ePoint_any d w)
  rw [hd'] at P
  have HG := Lib.hid (good_of hc)
  have HL := Lib.hid hl
  have HN := Lib.hid hnl
  have HD := Lib.hid hd'
  have HOQ := Lib.hid oq
  have HCV := Lib.hid hc
  clear hl hnl hc hd' oq ohd
  go_enter Try.func9, Try.ntmps9
  go_upto_region 3 with (first | (go_at_call 11; refine (RetB.grown (C _).out).mono ?_; rintro e' w' ⟨rfl, g, rfl⟩) | (go_at_call 24; refine (RetB.grown (P _).out).mono ?_; rintro e' w' ⟨rfl, g, rfl⟩))
  revert g
  intro gb
  obtain ⟨Wx, hWx, HX⟩ : ∃ Wx, xt (xt ((w.alloc (.cells #[.int .i64 c.e.x, .int .i64 c.e.y, .int .i64 c.e.z, .int .i64 c.r.x, .int .i64 c.r.y, .int .i64 c.r.z, .int .i64 c.u.x, .int .i64 c.u.y, .int .i64 c.u.z, .int .i64 c.f.x, .int .i64 c.f.y, .int .i64 c.f.z, .int .i64 c.fo, .int .i64 c.wi, .int .i64 c.he, .int .i64 c.ne] 25)).alloc (.cells #[.int .i64 d.x, .int .i64 d.y, .int .i64 d.z] 23)) g) gb = Wx ∧ Hid (HC w c d Wx) := ⟨_, rfl, Lib.hid ⟨(by repeat' (first | exact Below.refl _ _ | assumption | refine Below.xt ?_ ?_ _ | refine Below.alloc ?_ ?_ _ | refine Below.drew ?_ | refine Below.setCell ?_ ?_ _ | (simp; done) | (simp; omega))), by go_simp, by go_simp⟩⟩
  rw [hWx]
  clear hWx C P
  go_cut [50] from 45 to 49 (fun s wx => s = .bool (gdh hd) ∧ Wx = wx)
  case first =>
    rcases Bool.eq_false_or_eq_true (gdh hd) with hg | hg
    · have HE := Lib.hid hg
      simp only [gdh, Bool.and_eq_true, decide_eq_true_eq] at hg
      have e1 : decide ((0 : Int) ≤ hd) = true := by simpa using hg.1
      have e2 : decide (hd ≤ 20000) = true := by simpa using hg.2
      clear hg
      go_wp2_with fail
      go_meet
      exact ⟨by rw [HE.out], rfl⟩
    · have HE := Lib.hid hg
      have hg' : decide ((0 : Int) ≤ hd) = false ∨ (decide ((0 : Int) ≤ hd) = true ∧ decide (hd ≤ 20000) = false) := by
        simp only [gdh, Bool.and_eq_false_iff, decide_eq_false_iff_not] at hg
        simp only [decide_eq_false_iff_not, decide_eq_true_eq]
        omega
      clear hg
      rcases hg' with e1 | ⟨e1, e2⟩
      · go_wp2_with fail
        go_meet
        exact ⟨by rw [HE.out], rfl⟩
      · go_wp2_with fail
        go_meet
        exact ⟨by rw [HE.out], rfl⟩
  case rest =>
  obtain ⟨rfl, rfl⟩ := hcut
  go_upto_if 50 with fail
  go_cut [13, 14, 15, 16, 50] from 51 to 119 (fun s13 s14 s15 s16 s50 wx => HC w c d wx)
  case first =>
    as_aux_lemma =>
      rcases Bool.eq_false_or_eq_true (gdh hd) with hg | hg
      · rw [hg]
        simp only [gdh, Bool.and_eq_true, decide_eq_true_eq] at hg
        have G := HG.out
        have hfx := mv_bd (n := hd) (v := c.f) (within_iff.2 ⟨by omega, by omega⟩) G.f
        have hpe := pnt_iff.1 G.e
        have hdd := dt_ax G.f G.f
        have hd0 := dt_self c.f
        have hz1 : 0 ≤ hd * dt c.f c.f := Int.mul_nonneg hg.1 hd0
        have hz2 : hd * dt c.f c.f ≤ 20000 * 30000 := Int.mul_le_mul hg.2 hdd.2 hd0 (by omega)
        have C1 := fun w => Lib.hid (show Calls Try.prog 25 #[.agg #[.int .i64 c.e.x, .int .i64 c.e.y, .int .i64 c.e.z], .agg #[.int .i64 (hd * c.f.x), .int .i64 (hd * c.f.y), .int .i64 (hd * c.f.z)]] w (RetB (.agg #[.int .i64 ((ahd c hd)).x, .int .i64 ((ahd c hd)).y, .int .i64 ((ahd c hd)).z]) w) from moved_any c.e ⟨hd * c.f.x, hd * c.f.y, hd * c.f.z⟩ (by unfold Bd; omega) (by unfold Bd; simp only []; omega) w)
        have C2 := fun w => Lib.hid (refDot_ax c.f c.f w G.f G.f)
        have C3 := fun w => Lib.hid (ePoint_any (ahd c hd) w)
        have C4 := fun w (hp : pnt (ahd c hd) = true) (hz : c.ne ≤ hd * dt c.f c.f) => Project_ok c (ahd c hd) 0 w (by simp [pjOk, HCV.out, hp, within_iff]) (seen_ahd G hz)
        rw [xx_ahd G, yy_ahd G, rr_0, zz_ahd] at C4
        have w1 : IntKind.i64.wrap (hd * c.f.x) = hd * c.f.x := IntWalk.i64_in _ (by omega)
        have w2 : IntKind.i64.wrap (hd * c.f.y) = hd * c.f.y := IntWalk.i64_in _ (by omega)
        have w3 : IntKind.i64.wrap (hd * c.f.z) = hd * c.f.z := IntWalk.i64_in _ (by omega)
        have w4 : IntKind.i64.wrap (hd * dt c.f c.f) = hd * dt c.f c.f := IntWalk.i64_in _ (by omega)
        have gw := G.wi
        have gh := G.he
        have v7 : IntKind.i64.wrap (c.wi / 2) = c.wi / 2 := IntWalk.i64_in _ (by omega)
        have v8 : IntKind.i64.wrap (c.he / 2) = c.he / 2 := IntWalk.i64_in _ (by omega)
        have v5 : c.wi.tdiv 2 = c.wi / 2 := Int.tdiv_eq_ediv_of_nonneg (by omega)
        have v6 : c.he.tdiv 2 = c.he / 2 := Int.tdiv_eq_ediv_of_nonneg (by omega)
        clear hfx hpe hdd hd0 hz1 hz2 gw gh hg G
        have hcb := HX.out.c
        have hob := blk_old hcb
        have x0 := blk_cell hcb (j := 0) rfl
        have x1 := blk_cell hcb (j := 1) rfl
        have x2 := blk_cell hcb (j := 2) rfl
        have x9 := blk_cell hcb (j := 9) rfl
        have x10 := blk_cell hcb (j := 10) rfl
        have x11 := blk_cell hcb (j := 11) rfl
        have x13 := blk_cell hcb (j := 13) rfl
        have x14 := blk_cell hcb (j := 14) rfl
        have x15 := blk_cell hcb (j := 15) rfl
        generalize ahd c hd = p at *
        generalize dt c.f c.f = D at *
        rcases Bool.eq_false_or_eq_true (pnt p) with hp | hp
        · rw [hp] at C3
          by_cases hz : c.ne ≤ hd * D
          · have C5 := fun w => Lib.hid (C4 w hp hz)
            have e1 : decide (c.ne ≤ hd * D) = true := by simpa using hz
            clear C4 hz hp
            go_wp2_with (first
              | (go_at_call 25; refine (RetB.grown ((C1 _).out)).mono ?_; rintro e' w' ⟨rfl, g, rfl⟩)
              | (go_at_call 26; refine (RetB.grown ((C2 _).out)).mono ?_; rintro e' w' ⟨rfl, g, rfl⟩)
              | (go_at_call 24; refine (RetB.grown ((C3 _).out)).mono ?_; rintro e' w' ⟨rfl, g, rfl⟩)
              | (go_at_call 15; refine (RetB.grown ((C5 _).out)).mono ?_; rintro e' w' ⟨rfl, g, rfl⟩)
              | (refine wp_region_xt (by kernel_rfl) (by kernel_rfl) ?_; (repeat (go_big_quiet_step (first | (go_at_call 25; exact RetB.quiet ((C1 _).out)) | (go_at_call 26; exact RetB.quiet ((C2 _).out)) | (go_at_call 24; exact RetB.quiet ((C3 _).out)) | (go_at_call 15; exact RetB.quiet ((C5 _).out))))); refine wpQuiet_nil ?_; intro g))
            go_meet
            exact HX.out.of (by repeat' (first | exact Below.refl _ _ | assumption | refine Below.xt ?_ ?_ _ | refine Below.alloc ?_ ?_ _ | refine Below.drew ?_ | refine Below.setCell ?_ ?_ _ | (simp; done) | (simp; omega)))
          · have e1 : decide (c.ne ≤ hd * D) = false := by simpa using hz
            clear C4 hz hp
            go_wp2_with (first
              | (go_at_call 25; refine (RetB.grown ((C1 _).out)).mono ?_; rintro e' w' ⟨rfl, g, rfl⟩)
              | (go_at_call 26; refine (RetB.grown ((C2 _).out)).mono ?_; rintro e' w' ⟨rfl, g, rfl⟩)
              | (go_at_call 24; refine (RetB.grown ((C3 _).out)).mono ?_; rintro e' w' ⟨rfl, g, rfl⟩)
              | (refine wp_region_xt (by kernel_rfl) (by kernel_rfl) ?_; (repeat (go_big_quiet_step (first | (go_at_call 25; exact RetB.quiet ((C1 _).out)) | (go_at_call 26; exact RetB.quiet ((C2 _).out)) | (go_at_call 24; exact RetB.quiet ((C3 _).out))))); refine wpQuiet_nil ?_; intro g))
            go_meet
            exact HX.out.of (by repeat' (first | exact Below.refl _ _ | assumption | refine Below.xt ?_ ?_ _ | refine Below.alloc ?_ ?_ _ | refine Below.drew ?_ | refine Below.setCell ?_ ?_ _ | (simp; done) | (simp; omega)))
        · rw [hp] at C3
          clear C4 hp
          go_wp2_with (first
            | (go_at_call 25; refine (RetB.grown ((C1 _).out)).mono ?_; rintro e' w' ⟨rfl, g, rfl⟩)
            | (go_at_call 26; refine (RetB.grown ((C2 _).out)).mono ?_; rintro e' w' ⟨rfl, g, rfl⟩)
            | (go_at_call 24; refine (RetB.grown ((C3 _).out)).mono ?_; rintro e' w' ⟨rfl, g, rfl⟩)
            | (refine wp_region_xt (by kernel_rfl) (by kernel_rfl) ?_; (repeat (go_big_quiet_step (first | (go_at_call 25; exact RetB.quiet ((C1 _).out)) | (go_at_call 26; exact RetB.quiet ((C2 _).out)) | (go_at_call 24; exact RetB.quiet ((C3 _).out))))); refine wpQuiet_nil ?_; intro g))
          go_meet
          exact HX.out.of (by repeat' (first | exact Below.refl _ _ | assumption | refine Below.xt ?_ ?_ _ | refine Below.alloc ?_ ?_ _ | refine Below.drew ?_ | refine Below.setCell ?_ ?_ _ | (simp; done) | (simp; omega)))
      · rw [hg]
        go_wp2_with fail
        go_meet
        exact HX.out
  case rest =>
  have HX1 := Lib.hid hcut
  clear hcut HX
  go_upto_region 10 with fail
  go_cut [125] from 120 to 124 (fun s wx => s = .bool (gdq q) ∧ wc = wx)
  case first =>
    rcases Bool.eq_false_or_eq_true (gdq q) with hg | hg
    · have HE := Lib.hid hg
      simp only [gdq, Bool.and_eq_true, decide_eq_true_eq] at hg
      have e1 : decide ((-1000 : Int) ≤ q) = true := by simpa using hg.1
      have e2 : decide (q ≤ 1000) = true := by simpa using hg.2
      clear hg
      go_wp2_with fail
      go_meet
      exact ⟨by rw [HE.out], rfl⟩
    · have HE := Lib.hid hg
      have hg' : decide ((-1000 : Int) ≤ q) = false ∨ (decide ((-1000 : Int) ≤ q) = true ∧ decide (q ≤ 1000) = false) := by
        simp only [gdq, Bool.and_eq_false_iff, decide_eq_false_iff_not] at hg
        simp only [decide_eq_false_iff_not, decide_eq_true_eq]
        omega
      clear hg
      rcases hg' with e1 | ⟨e1, e2⟩
      · go_wp2_with fail
        go_meet
        exact ⟨by rw [HE.out], rfl⟩
      · go_wp2_with fail
        go_meet
        exact ⟨by rw [HE.out], rfl⟩
  case rest =>
  obtain ⟨rfl, hwx⟩ := hcut
  subst hwx
  go_upto_if 125 with fail
  go_cut [17, 18, 19, 20, 21, 22, 125] from 126 to 165 (fun s17 s18 s19 s20 s21 s22 s125 wx => HC w c d wx)
  case first =>
    as_aux_lemma =>
      rcases Bool.eq_false_or_eq_true (gdq q) with hg | hg
      · rw [hg]
        simp only [gdq, Bool.and_eq_true, decide_eq_true_eq] at hg
        have G := HG.out
        have C1 := fun w => Lib.hid (Turn_ok c q w HCV.out)
        have C2 := fun w => Lib.hid (Turn_ok (c.turn q) (-q) w (good_turn G q).val)
        have C3 := fun w => Lib.hid (Turn_ok c (q + 4) w HCV.out)
        rw [turn_back] at C2
        rw [turn_4] at C3
        have w1 : IntKind.i64.wrap (-q) = -q := IntWalk.i64_in _ (by omega)
        have w2 : IntKind.i64.wrap (q + 4) = q + 4 := IntWalk.i64_in _ (by omega)
        clear hg G
        have hcb := HX1.out.c
        have hob := blk_old hcb
        generalize c.turn q = t at *
        go_wp2_with (first
          | (go_at_call 20; (with_reducible refine (RetB.grown ((C1 _).out)).mono ?_); rintro e' w' ⟨rfl, g, rfl⟩)
          | (go_at_call 20; (with_reducible refine (RetB.grown ((C2 _).out)).mono ?_); rintro e' w' ⟨rfl, g, rfl⟩)
          | (go_at_call 20; (with_reducible refine (RetB.grown ((C3 _).out)).mono ?_); rintro e' w' ⟨rfl, g, rfl⟩)
          | (refine wp_region_xt (by kernel_rfl) (by kernel_rfl) ?_; (repeat (go_big_quiet_step (first | (go_at_call 20; (with_reducible exact RetB.quiet ((C1 _).out))) | (go_at_call 20; (with_reducible exact RetB.quiet ((C2 _).out))) | (go_at_call 20; (with_reducible exact RetB.quiet ((C3 _).out)))))); refine wpQuiet_nil ?_; intro g))
        go_meet
        exact HX1.out.of (by repeat' (first | exact Below.refl _ _ | assumption | refine Below.xt ?_ ?_ _ | refine Below.alloc ?_ ?_ _ | refine Below.drew ?_ | refine Below.setCell ?_ ?_ _ | (simp; done) | (simp; omega)))
      · rw [hg]
        go_wp2_with fail
        go_meet
        exact HX1.out
  case rest =>
  have HX2 := Lib.hid hcut
  clear hcut HX1
  go_upto_region 16 with fail
  have hlc : RowV wc A l := HL.out.below' HX2.out.below
  have hcb := HX2.out.c
  have hob := blk_old hcb
  by_cases hok : within ra 0 1000 = true ∧ ∀ i, i < n → pointAt l i = true
  · obtain ⟨hr, hpt⟩ := hok
    have CS := Scene_20 c l A n cap ra wc HCV.out hr HN.out hn hlc hpt
    have hsp := spots_spec (ra := ra) (l := l) (n := n) HG.out
    have hle := scn_len c l ra n
    obtain ⟨L, hL⟩ : ∃ L, scn c l ra n = L := ⟨_, rfl⟩
    rw [hL] at CS hsp hle
    obtain ⟨f, hf⟩ : ∃ f, srt (sfn L) L.length = f := ⟨_, rfl⟩
    rw [hf] at CS hsp
    have HF := Lib.hid hf
    have HSL := Lib.hid hL
    obtain ⟨m, hm⟩ : ∃ m, L.length = m := ⟨_, rfl⟩
    rw [hm] at CS hsp hle
    have HM := Lib.hid hm
    have CS := Lib.hid CS
    have HSP := Lib.hid hsp
    have HR := Lib.hid hr
    have HPT := Lib.hid hpt
    clear hL hf hm hsp hr hpt
    go_wp2_with fail
    refine CS.out.mono ?_
    rintro e Wb ⟨A', cp, rfl, hb, hfr, hrow⟩
    have HXb := Lib.hid (HX2.out.of hb)
    have HLb := Lib.hid (show RowV Wb A l from hlc.below' hb)
    have HRb := Lib.hid hrow
    have HFr := Lib.hid (show ∀ ad, A' = some ad → w.heap.size + 2 ≤ ad.block from fun ad h => by have h1 := hfr ad h; have h2 : w.heap.size + 1 < wc.heap.size := blk_old HX2.out.d; omega)
    clear hb hfr hrow CS HX2 hlc hcb hob
    have hcb := HXb.out.c
    have hob := blk_old hcb
    go_wp2_with fail
    go_loopw [25] (fun i wr => ∃ (k : Nat) (g : Gr), k ≤ m ∧ i = .int .i64 k ∧ wr = xt Wb g) (fun i _ => m - (intOf i).toNat)
    case atStart => exact ⟨0, ⟨[], _⟩, by omega, rfl, (xt_self _).symm⟩
    case round =>
      obtain ⟨k, g, hk, rfl, rfl⟩ := hrel
      by_cases hlt : k < m
      · obtain ⟨j, hj, hsn, hfe⟩ := HSP.out.2 k hlt
        obtain ⟨b', o', rfl, hb', hcl'⟩ := HRb.out.at_ (by omega)
        obtain ⟨b, o, rfl, hb, hcl⟩ := HLb.out.at_ (by have := HN.out; omega)
        obtain ⟨y0, y1, y2, y3, y4⟩ := spot_row hcl' hlt
        obtain ⟨x0, x1, x2⟩ := RowV.cells hcl (HN.out ▸ hj)
        have CP := fun w => Lib.hid (Project_ok c (at_ l j) ra w (by simp [pjOk, HCV.out, HR.out, show pnt (at_ l j) = true from HPT.out j hj]) hsn)
        have hprev : ∀ k', k = k' + 1 → (f k).d ≤ (f k').d ∧ (f k').r ≤ (f k).r := fun k' e => by subst e; exact HSP.out.1 k' hlt
        have hprow : ∀ k', k = k' + 1 → _ := fun k' e => spot_row hcl' (show k' < m by omega)
        rw [hfe] at y0 y1 y2 y3 y4 hprev
        simp only [spt] at y0 y1 y2 y3 y4 hprev
        generalize xx c (at_ l j) = x at *
        generalize yy c (at_ l j) = y at *
        generalize rr c (at_ l j) ra = r at *
        generalize zz c (at_ l j) = z at *
        generalize at_ l j = p at *
        have e0 : decide ((j : Int) < 0) = false := decide_eq_false (by omega)
        have e1 : decide ((n : Int) ≤ (j : Int)) = false := decide_eq_false (by omega)
        have e1' : decide (n ≤ j) = false := decide_eq_false (by omega)
        have HE := Lib.hid hfe
        clear hcl hcl' hsn hfe
        rcases Nat.eq_zero_or_pos k with hk0 | hk0
        · have d0 : decide ((0 : Int) < (k : Int)) = false := decide_eq_false (by omega)
          have d0' : decide (0 < k) = false := decide_eq_false (by omega)
          clear hprev hprow hk0
          as_aux_lemma =>
            go_upto_region 24 with (refine wp_region_xt (by kernel_rfl) (by kernel_rfl) ?_; (repeat (go_big_quiet_step (fail))); refine wpQuiet_nil ?_; intro g)
            go_region_held3 (fun w' => blk w' w.heap.size = some (.cells #[.int .i64 c.e.x, .int .i64 c.e.y, .int .i64 c.e.z, .int .i64 c.r.x, .int .i64 c.r.y, .int .i64 c.r.z, .int .i64 c.u.x, .int .i64 c.u.y, .int .i64 c.u.z, .int .i64 c.f.x, .int .i64 c.f.y, .int .i64 c.f.z, .int .i64 c.fo, .int .i64 c.wi, .int .i64 c.he, .int .i64 c.ne] 25 (0, 0)) ∧ old w.heap.size w' ∧ old b w' ∧ old b' w' ∧ w'.cell? ⟨b', o' + k * 5, none⟩ = some (.int .i64 (j : Int)) ∧ w'.cell? ⟨b, o + j * 3, none⟩ = some (.int .i64 p.x) ∧ w'.cell? ⟨b, o + j * 3 + 1, none⟩ = some (.int .i64 p.y) ∧ w'.cell? ⟨b, o + j * 3 + 2, none⟩ = some (.int .i64 p.z)) (go_simp) (first | (go_at_call 15; refine (RetB.grown (CP _).out).mono ?_; rintro e' w' ⟨rfl, g, rfl⟩))
            all_goals
              go_wp2_with (first
                | (refine wp_region_xt (by kernel_rfl) (by kernel_rfl) ?_; (repeat (go_big_quiet_step (first | fail))); refine wpQuiet_nil ?_; intro g))
              go_roundw
              case rel => exact ⟨k + 1, _, by omega, by go_num, (Classical.choose_spec (xt_of_below (by repeat' (first | exact Below.refl _ _ | assumption | refine Below.xt ?_ ?_ _ | refine Below.alloc ?_ ?_ _ | refine Below.drew ?_ | refine Below.setCell ?_ ?_ _ | (simp; done) | (simp; omega)))))⟩
              case measure => simp [intOf]; omega
        · obtain ⟨k', rfl⟩ : ∃ k', k = k' + 1 := ⟨k - 1, by omega⟩
          obtain ⟨v0, v1, v2, v3, v4⟩ := hprow k' rfl
          obtain ⟨p1, p2⟩ := hprev k' rfl
          clear hprev hprow
          generalize f k' = v at *
          have d0 : decide ((0 : Int) < (k' : Int) + 1) = true := decide_eq_true (by omega)
          have d0' : decide (0 < k' + 1) = true := decide_eq_true (by omega)
          have hw1 : IntKind.i64.wrap (k' : Int) = k' := IntWalk.i64_in _ (by omega)
          have p3 : decide (v.d < z) = false := decide_eq_false (by omega)
          have p4 : decide (r < v.r) = false := decide_eq_false (by omega)
          clear hk0 p1 p2
          as_aux_lemma =>
            go_upto_region 24 with (refine wp_region_xt (by kernel_rfl) (by kernel_rfl) ?_; (repeat (go_big_quiet_step (fail))); refine wpQuiet_nil ?_; intro g)
            obtain ⟨k, hk9⟩ : ∃ k, k' + 1 = k := ⟨_, rfl⟩
            have hk8 : (k' : Int) + 1 = (k : Int) := by omega
            simp only [hk8, hk9]
            rw [hk9] at y0 y1 y2 y3 y4 hlt hk
            have HK9 := Lib.hid hk9
            clear d0 d0' hw1 p3 p4 v0 v1 v2 v3 v4 hk8 hk9 HE
            go_region_held3 (fun w' => blk w' w.heap.size = some (.cells #[.int .i64 c.e.x, .int .i64 c.e.y, .int .i64 c.e.z, .int .i64 c.r.x, .int .i64 c.r.y, .int .i64 c.r.z, .int .i64 c.u.x, .int .i64 c.u.y, .int .i64 c.u.z, .int .i64 c.f.x, .int .i64 c.f.y, .int .i64 c.f.z, .int .i64 c.fo, .int .i64 c.wi, .int .i64 c.he, .int .i64 c.ne] 25 (0, 0)) ∧ old w.heap.size w' ∧ old b w' ∧ old b' w' ∧ w'.cell? ⟨b', o' + k * 5, none⟩ = some (.int .i64 (j : Int)) ∧ w'.cell? ⟨b, o + j * 3, none⟩ = some (.int .i64 p.x) ∧ w'.cell? ⟨b, o + j * 3 + 1, none⟩ = some (.int .i64 p.y) ∧ w'.cell? ⟨b, o + j * 3 + 2, none⟩ = some (.int .i64 p.z)) (go_simp) (first | (go_at_call 15; refine (RetB.grown (CP _).out).mono ?_; rintro e' w' ⟨rfl, g, rfl⟩))
            all_goals
              go_wp2_with (first
                | (refine wp_region_xt (by kernel_rfl) (by kernel_rfl) ?_; (repeat (go_big_quiet_step (first | fail))); refine wpQuiet_nil ?_; intro g))
              go_roundw
              case rel => exact ⟨k + 1, _, by omega, by go_num, (Classical.choose_spec (xt_of_below (by repeat' (first | exact Below.refl _ _ | assumption | refine Below.xt ?_ ?_ _ | refine Below.alloc ?_ ?_ _ | refine Below.drew ?_ | refine Below.setCell ?_ ?_ _ | (simp; done) | (simp; omega)))))⟩
              case measure => have h9 := HK9.out; simp [intOf]; omega
      · obtain rfl : k = m := by omega
        have CM := fun w => Lib.hid (show Calls Try.prog 25 #[.agg #[.int .i64 c.e.x, .int .i64 c.e.y, .int .i64 c.e.z], .agg #[.int .i64 d.x, .int .i64 d.y, .int .i64 d.z]] w (RetB (.agg #[.int .i64 (c.e.x + d.x), .int .i64 (c.e.y + d.y), .int .i64 (c.e.z + d.z)]) w) from moved_any c.e d (by have h := pnt_iff.1 HG.out.e; unfold Bd; omega) (by have h := pnt_iff.1 HD.out; unfold Bd; omega) w)
        have hdb := HXb.out.d
        have hod := blk_old hdb
        have x0 := blk_cell hcb (j := 0) rfl
        have x1 := blk_cell hcb (j := 1) rfl
        have x2 := blk_cell hcb (j := 2) rfl
        have z0 := blk_cell hdb (j := 0) rfl
        have z1 := blk_cell hdb (j := 1) rfl
        have z2 := blk_cell hdb (j := 2) rfl
        have hfz0 := blk_free hcb (j := 0)
        have hfz1 := blk_free hcb (j := 1)
        have hfz2 := blk_free hcb (j := 2)
        go_upto_region 28 with fail
        go_cut [] from 260 to 264 (fun wx => HC w (c.mv d) d wx ∧ Row wx A' k 5 fun i => scell (f i))
        case first =>
          have hbb := HXb.out.below
          have hsz := hbb.size
          go_wp2_with (go_at_call 25; refine (RetB.grown (CM _).out).mono ?_; rintro e' w' ⟨rfl, g, rfl⟩)
          go_meet
          refine ⟨⟨(by repeat' (first | exact Below.refl _ _ | assumption | refine Below.xt ?_ ?_ _ | refine Below.alloc ?_ ?_ _ | refine Below.drew ?_ | refine Below.setCell ?_ ?_ _ | (simp; done) | (simp; omega))), ?_, by go_simp⟩, HRb.out.keep (by simp; omega) fun ad he hlt j => ?_⟩
          · have hob' : w.heap.size < Wb.heap.size := hob
            have h3 := blk_set (k := 2) (blk_set (k := 1) (blk_set (k := 0) hcb (.int .i64 (c.e.x + d.x))) (.int .i64 (c.e.y + d.y))) (.int .i64 (c.e.z + d.z))
            refine (blk_xt _ _ _ ?_).trans ((blk_xt _ _ _ ?_).trans ?_)
            · unfold old; simp; omega
            · unfold old; simp; omega
            · simpa [Cam.mv, mvd'] using h3
          · have h1 := HFr.out ad he
            rw [xt_cell _ _ _ _ _ (by rw [old_xt]; left; unfold old; simp; exact hlt), xt_cell _ _ _ _ _ (by unfold old; simp; exact hlt), cell_other (by simp; omega), cell_other (by simp; omega), cell_other (by simp; omega)]
        case rest =>
        obtain ⟨h1, h2⟩ := hcut
        have HX3 := Lib.hid h1
        have HR3 := Lib.hid h2
        clear h1 h2 HXb HLb HRb hcb hob hdb hod x0 x1 x2 z0 z1 z2 hfz0 hfz1 hfz2 CM
        as_aux_lemma =>
          have hdb := HX3.out.d
          have hod := blk_old hdb
          have hcb := HX3.out.c
          have hob := blk_old hcb
          have z0 := blk_cell hdb (j := 0) rfl
          have z1 := blk_cell hdb (j := 1) rfl
          have z2 := blk_cell hdb (j := 2) rfl
          have hbb := HX3.out.below
          have hsz := hbb.size
          have HL3 := Lib.hid (show RowV wc A l from HL.out.below' hbb)
          obtain ⟨i1, hi1, hy0, hy1, hy2⟩ := info_parts infoVec
          go_wp2_with fail
          go_loopw [28, 29] (fun s i wr => ∃ (j : Nat) (g : Gr), j ≤ n ∧ i = .int .i64 j ∧ wr = xt wc g ∧ Hid (∀ i, i < j → pnt (mvd' (at_ l i) d) = true) ∧ Hid ((xt wc g).ownsRow wc.heap.size 23 3 s j (flat j 3 fun i => vcell (mvd' (at_ l i) d)))) (fun _ i _ => n - (intOf i).toNat)
          case atStart => exact ⟨0, ⟨[], _⟩, by omega, rfl, (xt_self _).symm, Lib.hid (fun i hi => absurd hi (by omega)), own_nil⟩
          case round =>
            obtain ⟨j, g, hj, rfl, rfl, HPS, HO⟩ := hrel
            by_cases hlt : j < n
            · obtain ⟨b, o, rfl, hb, hcl⟩ := HL3.out.at_ (by have := HN.out; omega)
              obtain ⟨x0, x1, x2⟩ := RowV.cells hcl (HN.out ▸ hlt)
              have hpv : pnt (at_ l j) = true := HPT.out j hlt
              have CM := fun w => Lib.hid (show Calls Try.prog 25 #[.agg #[.int .i64 ((at_ l j)).x, .int .i64 ((at_ l j)).y, .int .i64 ((at_ l j)).z], .agg #[.int .i64 d.x, .int .i64 d.y, .int .i64 d.z]] w (RetB (.agg #[.int .i64 ((at_ l j).x + d.x), .int .i64 ((at_ l j).y + d.y), .int .i64 ((at_ l j).z + d.z)]) w) from moved_any (at_ l j) d (by have h := pnt_iff.1 hpv; unfold Bd; omega) (by have h := pnt_iff.1 HD.out; unfold Bd; omega) w)
              have CQ := fun w => Lib.hid (show Calls Try.prog 24 #[.agg #[.int .i64 ((at_ l j).x + d.x), .int .i64 ((at_ l j).y + d.y), .int .i64 ((at_ l j).z + d.z)]] w (RetB (.bool (pnt (mvd' (at_ l j) d))) w) from ePoint_any (mvd' (at_ l j) d) w)
              obtain ⟨v, hv⟩ : ∃ v, at_ l j = v := ⟨_, rfl⟩
              rw [hv] at x0 x1 x2 CM CQ
              have HV := Lib.hid hv
              clear hv hcl hpv
              as_aux_lemma =>
                go_upto_region 33 with fail
                go_region_held3 (fun w' => old (w.heap.size + 1) w' ∧ old b w' ∧ w'.cell? ⟨w.heap.size + 1, 0, none⟩ = some (.int .i64 d.x) ∧ w'.cell? ⟨w.heap.size + 1, 1, none⟩ = some (.int .i64 d.y) ∧ w'.cell? ⟨w.heap.size + 1, 2, none⟩ = some (.int .i64 d.z) ∧ w'.cell? ⟨b, o + j * 3, none⟩ = some (.int .i64 v.x) ∧ w'.cell? ⟨b, o + j * 3 + 1, none⟩ = some (.int .i64 v.y) ∧ w'.cell? ⟨b, o + j * 3 + 2, none⟩ = some (.int .i64 v.z)) (go_simp) (first
                  | (refine step_append_lies _ rfl _ _ 41 rfl wc.heap.size 23 i1 _ 3 24 Try.underlying41 hi1 hy0 hy1 hy2 rfl (by omega) u28 j (flat j 3 fun i => vcell (mvd' (at_ l i) d)) rfl (by repeat (first | (with_reducible exact HO.out) | (with_reducible exact own_drawn HO.out _) | (with_reducible exact own_xtd HO.out) | (with_reducible refine World.ownsRow.alloc ?_ _) | (with_reducible refine own_xt ?_ _) | (with_reducible refine own_drew ?_))) _ 1 _ [.int .i64 (v.x + d.x), .int .i64 (v.y + d.y), .int .i64 (v.z + d.z)] rfl rfl ?_ ?_ (by omega) (by simp only [maxLen]; omega) (by omega) ?_ _ rfl ?_; (next => (refine cells_new _ _ _ _ ?_; simp; done)); (next => (intro u hu; simp only [List.mem_cons, List.not_mem_nil, or_false] at hu; rcases hu with rfl | rfl | rfl <;> rfl)); (next => (simp; omega)); intro g2 cap2 w2 hown2 hgrow2 hat2 hlt2; obtain ⟨gB, rfl⟩ := xt_of_below (show Below wc.heap.size wc w2 from below_grown (e := 23) (s := 3) (n := j) (v := u28) (xs := flat j 3 fun i => vcell (mvd' (at_ l i) d)) (by repeat' (first | exact Below.refl _ _ | assumption | refine Below.xt ?_ ?_ _ | refine Below.alloc ?_ ?_ _ | refine Below.drew ?_ | refine Below.setCell ?_ ?_ _ | (simp; done) | (simp; omega))) (by simp; omega) (by repeat (first | (with_reducible exact HO.out) | (with_reducible exact own_drawn HO.out _) | (with_reducible exact own_xtd HO.out) | (with_reducible refine World.ownsRow.alloc ?_ _) | (with_reducible refine own_xt ?_ _) | (with_reducible refine own_drew ?_))) hgrow2); have HO2 := Lib.hid hown2; clear hown2 hgrow2 hat2 hlt2)
                  | (go_at_call 25; refine (RetB.grown (CM _).out).mono ?_; rintro e' w' ⟨rfl, g, rfl⟩))
                have HO1 := Lib.hid (show (xt wc gB).ownsRow wc.heap.size 23 3 (.slice (some ⟨g2, 0, none⟩) (j + 1) cap2) (j + 1) (flat (j + 1) 3 fun i => vcell (mvd' (at_ l i) d)) by rw [flat_succ (by omega), HV.out]; exact HO2.out)
                have hg2 : old g2 (xt wc gB) := (HO1.out.lt g2 rfl).2
                have hc3 : ∀ q, q < 3 → (xt wc gB).cell? ⟨g2, 0 + j * 3 + q, none⟩ = some (vcell (mvd' (at_ l j) d) q) := fun q hq => by
                  obtain ⟨A2, c2, e2, hrow2⟩ := Row.of_own (f := fun i => vcell (mvd' (at_ l i) d)) HO1.out rfl
                  obtain ⟨b2, o2, e3, _, hc2⟩ := hrow2.at_ (by omega)
                  subst e3
                  injection e2 with e4 _ _
                  injection e4 with e4
                  injection e4 with e5 e6 _
                  subst e5 e6
                  exact hc2 j q (by omega) hq
                rw [HV.out, Nat.zero_add] at hc3
                have q0 : (xt wc gB).cell? ⟨g2, j * 3, none⟩ = some (.int .i64 (v.x + d.x)) := hc3 0 (by omega)
                have q1 : (xt wc gB).cell? ⟨g2, j * 3 + 1, none⟩ = some (.int .i64 (v.y + d.y)) := hc3 1 (by omega)
                have q2 : (xt wc gB).cell? ⟨g2, j * 3 + 2, none⟩ = some (.int .i64 (v.z + d.z)) := hc3 2 (by omega)
                clear hc3 x0 x1 x2 z0 z1 z2 HO2 HO
                rcases Bool.eq_false_or_eq_true (pnt (mvd' v d)) with hq | hq
                · rw [hq] at CQ
                  have HPS1 := Lib.hid (show ∀ i, i < j + 1 → pnt (mvd' (at_ l i) d) = true from fun i hi => by
                    by_cases e : i = j
                    · subst e; rw [HV.out]; exact hq
                    · exact HPS.out i (by omega))
                  clear hq
                  go_wp2_with (first
                    | (go_at_call 24; refine (RetB.grown ((CQ _).out)).mono ?_; rintro e' w' ⟨rfl, g, rfl⟩)
                    | (refine wp_region_xt (by kernel_rfl) (by kernel_rfl) ?_; (repeat (go_big_quiet_step (first | (go_at_call 24; exact RetB.quiet ((CQ _).out))))); refine wpQuiet_nil ?_; intro g))
                  go_roundw
                  case rel => exact ⟨j + 1, _, by omega, by go_num, (Classical.choose_spec (xt_of_below (by repeat' (first | exact Below.refl _ _ | assumption | refine Below.xt ?_ ?_ _ | refine Below.alloc ?_ ?_ _ | refine Below.drew ?_ | refine Below.setCell ?_ ?_ _ | (simp; done) | (simp; omega))))), HPS1, by rw [← Classical.choose_spec (xt_of_below (by repeat' (first | exact Below.refl _ _ | assumption | refine Below.xt ?_ ?_ _ | refine Below.alloc ?_ ?_ _ | refine Below.drew ?_ | refine Below.setCell ?_ ?_ _ | (simp; done) | (simp; omega))))]; exact Lib.hid (by repeat (first | (with_reducible exact HO1.out) | (with_reducible refine own_xt ?_ _)))⟩
                  case measure => simp [intOf]; omega
                · rw [hq] at CQ
                  clear hq
                  go_wp2_with (first
                    | (go_at_call 24; refine (RetB.grown ((CQ _).out)).mono ?_; rintro e' w' ⟨rfl, g, rfl⟩)
                    | (go_at_call 12; refine (RetB.grown (known_any _)).mono ?_; rintro e' w' ⟨rfl, g, rfl⟩)
                    | (refine wp_region_xt (by kernel_rfl) (by kernel_rfl) ?_; (repeat (go_big_quiet_step (first | (go_at_call 24; exact RetB.quiet ((CQ _).out)) | (go_at_call 12; exact RetB.quiet (known_any _))))); refine wpQuiet_nil ?_; intro g))
                  go_ret
                  exact RetB.of rfl (by repeat' (first | exact Below.refl _ _ | assumption | refine Below.xt ?_ ?_ _ | refine Below.alloc ?_ ?_ _ | refine Below.drew ?_ | refine Below.setCell ?_ ?_ _ | (simp; done) | (simp; omega)))
            · obtain rfl : j = n := by omega
              obtain ⟨A2, c2, rfl, hrow2⟩ := Row.of_own (f := fun i => vcell (mvd' (at_ l i) d)) HO.out rfl
              obtain ⟨M, hM⟩ : ∃ M, M = (List.range j).map fun i => mvd' (at_ l i) d := ⟨_, rfl⟩
              have hML : M.length = j := by rw [hM]; simp
              have hMat : ∀ i, i < j → at_ M i = mvd' (at_ l i) d := fun i hi => by rw [hM]; simp [at_, List.getD, hi]
              have HRM := Lib.hid (show RowV (xt wc g) A2 M by unfold RowV; rw [hML]; exact hrow2.congr fun i q hi hq => by rw [hMat i hi])
              have hLM := scn_mv c d l M ra j hMat
              have hcv : pnt (c.mv d).e = true → cval (c.mv d) = true := fun h => mv_val HG.out h
              have hpm : ∀ i, i < j → pointAt M i = true := fun i hi => by unfold pointAt; rw [hMat i hi]; exact HPS.out i hi
              obtain ⟨t, ht⟩ : ∃ t, c.mv d = t := ⟨_, rfl⟩
              rw [ht] at hcb hLM hcv
              clear hM hMat hrow2 HO HPS ht HX3 hdb hod z0 z1 z2 HL3
              have x0 := blk_cell hcb (j := 0) rfl
              have x1 := blk_cell hcb (j := 1) rfl
              have x2 := blk_cell hcb (j := 2) rfl
              have CE := fun w => Lib.hid (ePoint_any t.e w)
              rcases Bool.eq_false_or_eq_true (pnt t.e) with hpe | hpe
              · rw [hpe] at CE
                have CSC := fun w (h : RowV w A2 M) => Scene_20 t M A2 j c2 ra w (hcv hpe) HR.out hML.symm hn h hpm
                rw [hLM, HSL.out, HF.out, HM.out] at CSC
                have CSD := fun w h => Lib.hid (CSC w h)
                clear CSC hpe hcv hpm hLM hML
                go_wp2_with (go_at_call 24; refine (RetB.grown (CE _).out).mono ?_; rintro e' w' ⟨rfl, g, rfl⟩)
                refine (CSD _ (by repeat (first | exact HRM.out | refine Row.xt ?_ _))).out.mono ?_
                rintro e Wd ⟨A3, cp3, rfl, hb3, _, hrow3⟩
                obtain ⟨g3, rfl⟩ := xt_of_below hb3
                have HR4 := Lib.hid hrow3
                clear hrow3 hb3
                have CSS := fun w h1 h2 => Lib.hid (same_spots A' A3 k cp cp3 f w (by omega) h1 h2)
                go_wp2_with (first
                  | (go_at_call 19; refine (RetB.grown ((CSS _ (by repeat (first | exact HR3.out | refine Row.xt ?_ _)) (by repeat (first | exact HR4.out | refine Row.xt ?_ _))).out)).mono ?_; rintro e' w' ⟨rfl, g, rfl⟩)
                  | (go_at_call 12; refine (RetB.grown (known_any _)).mono ?_; rintro e' w' ⟨rfl, g, rfl⟩)
                  | (refine wp_region_xt (by kernel_rfl) (by kernel_rfl) ?_; (repeat (go_big_quiet_step (first | (go_at_call 19; exact RetB.quiet ((CSS _ (by repeat (first | exact HR3.out | refine Row.xt ?_ _)) (by repeat (first | exact HR4.out | refine Row.xt ?_ _))).out)) | (go_at_call 12; exact RetB.quiet (known_any _))))); refine wpQuiet_nil ?_; intro g))
                go_ret
                exact RetB.of rfl (by repeat' (first | exact Below.refl _ _ | assumption | refine Below.xt ?_ ?_ _ | refine Below.alloc ?_ ?_ _ | refine Below.drew ?_ | refine Below.setCell ?_ ?_ _ | (simp; done) | (simp; omega)))
              · rw [hpe] at CE
                clear hpe hcv hpm hLM hML
                go_wp2_with (first
                  | (go_at_call 24; refine (RetB.grown ((CE _).out)).mono ?_; rintro e' w' ⟨rfl, g, rfl⟩)
                  | (go_at_call 12; refine (RetB.grown (known_any _)).mono ?_; rintro e' w' ⟨rfl, g, rfl⟩)
                  | (refine wp_region_xt (by kernel_rfl) (by kernel_rfl) ?_; (repeat (go_big_quiet_step (first | (go_at_call 24; exact RetB.quiet ((CE _).out)) | (go_at_call 12; exact RetB.quiet (known_any _))))); refine wpQuiet_nil ?_; intro g))
                go_ret
                exact RetB.of rfl (by repeat' (first | exact Below.refl _ _ | assumption | refine Below.xt ?_ ?_ _ | refine Below.alloc ?_ ?_ _ | refine Below.drew ?_ | refine Below.setCell ?_ ?_ _ | (simp; done) | (simp; omega)))
  · have hbad : ∀ w, RowV w A l → Calls Try.prog 35 #[.agg #[.int .i64 c.e.x, .int .i64 c.e.y, .int .i64 c.e.z, .int .i64 c.r.x, .int .i64 c.r.y, .int .i64 c.r.z, .int .i64 c.u.x, .int .i64 c.u.y, .int .i64 c.u.z, .int .i64 c.f.x, .int .i64 c.f.y, .int .i64 c.f.z, .int .i64 c.fo, .int .i64 c.wi, .int .i64 c.he, .int .i64 c.ne], .int .i64 ra, .slice A n cap] w (RetB (.bool false) w) := fun w h => by
      rcases Bool.eq_false_or_eq_true (within ra 0 1000) with hr | hr
      · have hex : ∃ i, i < n ∧ pointAt l i = false := by
          false_or_by_contra
          rename_i hne
          refine hok ⟨hr, fun i hi => ?_⟩
          rcases Bool.eq_false_or_eq_true (pointAt l i) with h | h
          · exact h
          · exact absurd ⟨i, hi, h⟩ hne
        have hex2 := hex
        obtain ⟨i, hi, _⟩ := hex2
        obtain ⟨b, o, rfl, _, _⟩ := h.at_ (by have := HN.out; omega)
        exact fine_no c ra b o n cap l w HCV.out hr (by omega) HN.out h hex
      · exact fine_rad c ra A n cap w HCV.out hr
    have CS := Lib.hid (Scene_bad c l A n cap ra wc hlc hbad)
    have HBw := Lib.hid HX2.out.below
    clear hok hbad hlc
    go_wp2_with fail
    refine (RetB.grown CS.out).mono ?_
    rintro e' w' ⟨rfl, g, rfl⟩
    go_wp2_with (first
      | (go_at_call 12; refine (RetB.grown (known_any _)).mono ?_; rintro e' w' ⟨rfl, g, rfl⟩)
      | (refine wp_region_xt (by kernel_rfl) (by kernel_rfl) ?_; (repeat (go_big_quiet_step (first | (go_at_call 12; exact RetB.quiet (known_any _))))); refine wpQuiet_nil ?_; intro g))
    go_ret
    exact RetB.of rfl (HBw.out.trans (Below.mono (by repeat' (first | exact Below.refl _ _ | assumption | refine Below.xt ?_ ?_ _ | refine Below.alloc ?_ ?_ _ | refine Below.drew ?_ | refine Below.setCell ?_ ?_ _ | (simp; done) | (simp; omega))) HBw.out.size))
end Go.Proofs.Ytjeemlnhokihoaa

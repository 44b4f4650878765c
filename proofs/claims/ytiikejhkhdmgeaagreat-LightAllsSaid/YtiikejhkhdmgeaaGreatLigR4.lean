
/- Walks: the colour of an aircraft, by the reference. Conditions stand in each theorem. -/
import Derived.Test.YtiikejhkhdmgeaaGreatLigR2
import Derived.Test.YtiikejhkhdmgeaaGreatLigR3
import Derived.Test.YtiikejhkhdmgeaaGreatLigL4
import Derived.Test.YtiikejhkhdmgeaaGreatEffW8
namespace Go.Proofs.YtiikejhkhdmgeaaGreat
open Go.RowKit
set_option linter.unusedVariables false
set_option linter.unusedSimpArgs false
attribute [local go_sem ↓] ldr16 ldr18

/-- What stands behind the loop over the groups. -/
theorem rcue_fin {L : Li} {a : Nat} {p : V3} {t : Int} (hv : liB L = true) (ha : a < L.nG) (hw : wh L.os (L.G a) t L.os.length < 0) :
    ((rpick L.cs (L.G a) t (L.G a).length).1 < 0 → black = colC L a p t) ∧ (0 ≤ (rpick L.cs (L.G a) t (L.G a).length).1 → valG L.cs (rpick L.cs (L.G a) t (L.G a).length).2 t = colC L a p t ∧ nameB (rpick L.cs (L.G a) t (L.G a).length).2 = true) := by
  obtain ⟨q1, q2, q3, q4, q5⟩ := liB_iff.1 hv
  have hg := q4 a ha
  have hb := rpick_best (t := t) q2 hg
  have ha' : ((a : Nat) : Int).toNat = a := by omega
  have hC : colC L a p t = if (rpick L.cs (L.G a) t (L.G a).length).1 < 0 then black else valG L.cs (rpick L.cs (L.G a) t (L.G a).length).2 t := by
    rw [colC, ha', if_neg (by omega), cueC]
  refine ⟨fun h => by rw [hC, if_pos h], fun h => ⟨by rw [hC, if_neg (by omega)], ?_⟩⟩
  obtain ⟨i, hi, ei⟩ := memB_iff.1 (best_neg hb q2 h)
  rw [← ei]
  exact (grpB_iff.1 hg).1 i hi
theorem rpick_step {cs : List Cu} {g : List ByteArray} {t : Int} {k : Nat} :
    ((rpick cs g t k).1 < lst cs (nm g k) t → rpick cs g t (k + 1) = (lst cs (nm g k) t, nm g k)) ∧ (¬ (rpick cs g t k).1 < lst cs (nm g k) t → rpick cs g t (k + 1) = rpick cs g t k) :=
  ⟨fun h => by rw [rpick, if_pos h], fun h => by rw [rpick, if_neg h]⟩

set_option maxRecDepth 100000 in
set_option maxHeartbeats 3200000 in
theorem rAt_over (A1 A2 A3 : Option Addr) (c1 c2 c3 a i : Nat) (L : Li) (p : V3) (t : Int) (w : World) (hF : FineL L) (h0 : fineE L (a : Nat) t = 0) (hr : RowL w A1 A2 A3 L) (hp : point p = true) (hi : wh L.os (L.G a) t L.os.length = i) :
    Calls Tryz.prog 22 #[.agg #[.slice A1 L.nG c1, .slice A2 L.cs.length c2, .slice A3 L.os.length c3], .int .i64 (a : Nat), .agg #[.int .i64 p.x, .int .i64 p.y, .int .i64 p.z], .int .i64 t] w (RetB (.tuple #[.agg #[.int .u8 (colC L a p t).r, .int .u8 (colC L a p t).g, .int .u8 (colC L a p t).b], .int .i64 0]) w) := by
  obtain ⟨hv, ⟨_, ha⟩, ht⟩ := fine_zero.1 h0
  have ha : a < L.nG := by omega
  obtain ⟨hil, e1, e2⟩ := over_ok hv hp hi
  have K1 := fun w h => Lib.hid (rlValid_any A1 A2 A3 c1 c2 c3 L w hF h)
  rw [hv] at K1
  have KP := fun w => Lib.hid (refPoint_any p w)
  rw [hp] at KP
  have K := fun w h => Lib.hid (rWhich_ok A1 A2 A3 c1 c2 c3 a L t w hF h0 h)
  rw [hi] at K
  have n1 := hF.n
  have K2 := fun w => Lib.hid (refAt_any (ov L.os i).e a p t w (hF.os i hil).2.1 (hF.os i hil).2.2 (by unfold I64; omega))
  rw [e1, e2] at K2
  have n2 := hF.on
  have i0 : (0 : Int) ≤ (i : Int) := by omega
  have i1 : (i : Int) < (L.os.length : Int) := by omega
  obtain ⟨b, o, rfl, hb, hc⟩ := RowO.row hr.o (by omega)
  have x0 := RowO.eff (hc i hil)
  have HR := Lib.hid hr
  generalize ov L.os i = v at *
  generalize colC L a p t = V at *
  clear hc hF hv hp hi e1 e2 hr h0 ht
  go_enter Tryz.func22, Tryz.ntmps22
  go_wp2_with fail
  refine (RetB.grown (K1 _ (by repeat (first | (with_reducible exact HR.out) | (with_reducible refine RowL.alloc ?_ _) | (with_reducible refine RowL.drew ?_) | (with_reducible refine RowL.xt ?_ _)))).out).mono ?_
  rintro e' w' ⟨rfl, g, rfl⟩
  go_wp2_with (first
    | (go_at_call 21; refine (RetB.grown ((KP _).out)).mono ?_; rintro e' w' ⟨rfl, g, rfl⟩)
    | (refine wp_region_xt (by kernel_rfl) (by kernel_rfl) ?_; (repeat (go_big_quiet_step (first | (go_at_call 21; exact RetB.quiet ((KP _).out))))); refine wpQuiet_nil ?_; intro g))
  refine (RetB.grown (K _ (by repeat (first | (with_reducible exact HR.out) | (with_reducible refine RowL.alloc ?_ _) | (with_reducible refine RowL.drew ?_) | (with_reducible refine RowL.xt ?_ _)))).out).mono ?_
  rintro e' w' ⟨rfl, g2, rfl⟩
  clear HR K K1
  go_wp2_with (first
    | (go_at_call 38; refine (RetB.grown ((K2 _).out)).mono ?_; rintro e' w' ⟨rfl, g, rfl⟩)
    | (refine wp_region_xt (by kernel_rfl) (by kernel_rfl) ?_; (repeat (go_big_quiet_step (first | (go_at_call 38; exact RetB.quiet ((K2 _).out))))); refine wpQuiet_nil ?_; intro g)
    | (refine wp_region_xt_tail 12 (by kernel_rfl) (by kernel_rfl) ?_; simp only [List.take_succ_cons, List.take_zero, List.drop_succ_cons, List.drop_zero]; (repeat (go_big_quiet_step (first | (go_at_call 38; exact RetB.quiet ((K2 _).out))))); refine wpQuiet_nil ?_; intro g))
  refine bodyPost_ret (v := .tuple #[.agg #[.int .u8 V.r, .int .u8 V.g, .int .u8 V.b], .int .i64 0]) (by simp [results, Tryz.results22, go_sem]) rfl ?_
  exact RetB.of rfl (by repeat' (first | exact Below.refl _ _ | assumption | refine Below.xt ?_ ?_ _ | refine Below.alloc ?_ ?_ _ | refine Below.drew ?_ | refine Below.setCell ?_ ?_ _ | (simp; done) | (simp; omega)))

set_option maxRecDepth 100000 in
set_option maxHeartbeats 3200000 in
theorem rAt_cue (A1 A2 A3 : Option Addr) (c1 c2 c3 a : Nat) (L : Li) (p : V3) (t : Int) (w : World) (hF : FineL L) (h0 : fineE L (a : Nat) t = 0) (hr : RowL w A1 A2 A3 L) (hp : point p = true) (hw : wh L.os (L.G a) t L.os.length < 0) :
    Calls Tryz.prog 22 #[.agg #[.slice A1 L.nG c1, .slice A2 L.cs.length c2, .slice A3 L.os.length c3], .int .i64 (a : Nat), .agg #[.int .i64 p.x, .int .i64 p.y, .int .i64 p.z], .int .i64 t] w (RetB (.tuple #[.agg #[.int .u8 (colC L a p t).r, .int .u8 (colC L a p t).g, .int .u8 (colC L a p t).b], .int .i64 0]) w) := by
  obtain ⟨hv, ⟨_, ha⟩, ht0, ht1⟩ := fine_zero.1 h0
  have ha : a < L.nG := by omega
  have K1 := fun w h => Lib.hid (rlValid_any A1 A2 A3 c1 c2 c3 L w hF h)
  rw [hv] at K1
  have KP := fun w => Lib.hid (refPoint_any p w)
  rw [hp] at KP
  have K := fun w h => Lib.hid (rWhich_ok A1 A2 A3 c1 c2 c3 a L t w hF h0 h)
  have hw1 : wh L.os (L.G a) t L.os.length = -1 := by have := wh_bd L.os (L.G a) t L.os.length; omega
  rw [hw1] at K
  have n1 := hF.n
  have HR := Lib.hid hr
  have HU := Lib.hid hr.u
  have CL := fun (x : ByteArray) w h => Lib.hid (rlast_any A1 A2 A3 c1 c2 c3 L x t w hF.cn h)
  have hcn := (cusB_iff.1 (liB_iff.1 hv).2.1).2.2
  have CV := fun (x : ByteArray) w h hx => Lib.hid (rcueValue_ok A2 L.cs.length c2 L.cs x t w rfl hcn hF.cs h (nameB_size hx) (liB_iff.1 hv).2.1 hx ht0 ht1)
  have FI := Lib.hid (rcue_fin (p := p) hv ha hw)
  have hgl := (hF.gs a ha).1
  obtain ⟨b, o, rfl, hb, hc⟩ := hr.g.top (by omega)
  obtain ⟨Ai, ci, x0, hrow⟩ := hc a ha
  have HROW := Lib.hid hrow
  generalize colC L a p t = V at *
  have a0 : decide ((a : Int) < 0) = false := by simp
  clear hF hv hr hw hw1 ht0 ht1 hc h0 hp hrow
  go_enter Tryz.func22, Tryz.ntmps22
  go_wp2_with fail
  refine (RetB.grown (K1 _ (by repeat (first | (with_reducible exact HR.out) | (with_reducible refine RowL.alloc ?_ _) | (with_reducible refine RowL.drew ?_) | (with_reducible refine RowL.xt ?_ _)))).out).mono ?_
  rintro e' w' ⟨rfl, g, rfl⟩
  go_wp2_with (first
    | (go_at_call 21; refine (RetB.grown ((KP _).out)).mono ?_; rintro e' w' ⟨rfl, g, rfl⟩)
    | (refine wp_region_xt (by kernel_rfl) (by kernel_rfl) ?_; (repeat (go_big_quiet_step (first | (go_at_call 21; exact RetB.quiet ((KP _).out))))); refine wpQuiet_nil ?_; intro g))
  refine (RetB.grown (K _ (by repeat (first | (with_reducible exact HR.out) | (with_reducible refine RowL.alloc ?_ _) | (with_reducible refine RowL.drew ?_) | (with_reducible refine RowL.xt ?_ _)))).out).mono ?_
  rintro e' w' ⟨rfl, g2, rfl⟩
  clear HR K K1 KP
  rcases Nat.eq_zero_or_pos (L.G a).length with hz | hz
  · have E := Lib.hid (FI.out.1 (by rw [hz]; show (-1 : Int) < 0; decide))
    have HZ := Lib.hid hz
    clear FI CV CL hz
    rw [HZ.out] at x0
    go_wp2_with fail
    go_rounds 1
    rw [← E.out]
    refine bodyPost_ret (v := .tuple #[.agg #[.int .u8 black.r, .int .u8 black.g, .int .u8 black.b], .int .i64 0]) (by simp [results, Tryz.results22, go_sem, black]) rfl ?_
    exact RetB.of rfl (by repeat' (first | exact Below.refl _ _ | assumption | refine Below.xt ?_ ?_ _ | refine Below.alloc ?_ ?_ _ | refine Below.drew ?_ | refine Below.setCell ?_ ?_ _ | (simp; done) | (simp; omega)))
  obtain ⟨bi, oi, rfl, hbi, hci⟩ := RowN.at_ HROW.out hz
  have HCI := Lib.hid hci
  clear hci HROW
  go_wp2_with fail
  go_loopw [12, 13, 14] (fun u12 u13 i wr => ∃ (k : Nat) (g : Gr), k ≤ (L.G a).length ∧ u12 = .int .i64 (rpick L.cs (L.G a) t k).1 ∧ u13 = .string (rpick L.cs (L.G a) t k).2 ∧ i = .int .i64 k ∧ wr = xt (((w.alloc (.cells #[.slice (some ⟨b, o, none⟩) L.nG c1, .slice A2 L.cs.length c2, .slice A3 L.os.length c3] 26)).alloc (.cells #[.int .i64 p.x, .int .i64 p.y, .int .i64 p.z] 37)).alloc (.cells #[.int .u8 0, .int .u8 0, .int .u8 0] 42)) g) (fun _ _ i _ => (L.G a).length - (intOf i).toNat)
  case atStart => exact ⟨0, _, by omega, rfl, rfl, rfl, Classical.choose_spec (xt_of_below (by repeat' (first | exact Below.refl _ _ | assumption | refine Below.xt ?_ ?_ _ | refine Below.alloc ?_ ?_ _ | refine Below.drew ?_ | refine Below.setCell ?_ ?_ _ | (simp; done) | (simp; omega))))⟩
  case round =>
    clear g g2
    obtain ⟨k, g, hk, rfl, rfl, rfl, rfl⟩ := hrel
    by_cases hlt : k < (L.G a).length
    · have y0 := HCI.out k hlt
      have HST := Lib.hid (rpick_step (cs := L.cs) (g := L.G a) (t := t) (k := k))
      have C := CL (nm (L.G a) k)
      obtain ⟨at_, gp, hpk⟩ : ∃ x y, rpick L.cs (L.G a) t k = (x, y) := ⟨_, _, rfl⟩
      rw [hpk] at HST ⊢
      dsimp only at HST ⊢
      clear hpk CV FI CL
      generalize lst L.cs (nm (L.G a) k) t = l at *
      generalize nm (L.G a) k = s at *
      by_cases h1 : at_ < l
      · have E := Lib.hid (HST.out.1 h1)
        clear HST
        go_wp2_with fail
        refine (RetB.grown (C _ (by repeat (first | (with_reducible exact HU.out) | (with_reducible refine RowU.alloc ?_ _) | (with_reducible refine RowU.drew ?_) | (with_reducible refine RowU.xt ?_ _)))).out).mono ?_
        rintro e' w' ⟨rfl, g3, rfl⟩
        go_wp2_with fail
        refine (RetB.grown (C _ (by repeat (first | (with_reducible exact HU.out) | (with_reducible refine RowU.alloc ?_ _) | (with_reducible refine RowU.drew ?_) | (with_reducible refine RowU.xt ?_ _)))).out).mono ?_
        rintro e' w' ⟨rfl, g4, rfl⟩
        go_wp2_with fail
        go_roundw
        case rel => exact ⟨k + 1, _, by omega, by rw [E.out], by rw [E.out], by go_num, Classical.choose_spec (xt_of_below (by repeat' (first | exact Below.refl _ _ | assumption | refine Below.xt ?_ ?_ _ | refine Below.alloc ?_ ?_ _ | refine Below.drew ?_ | refine Below.setCell ?_ ?_ _ | (simp; done) | (simp; omega))))⟩
        case measure => simp [intOf]; omega
      · have E := Lib.hid (HST.out.2 h1)
        have d1 : decide (at_ < l) = false := by simpa using h1
        clear HST
        go_wp2_with fail
        refine (RetB.grown (C _ (by repeat (first | (with_reducible exact HU.out) | (with_reducible refine RowU.alloc ?_ _) | (with_reducible refine RowU.drew ?_) | (with_reducible refine RowU.xt ?_ _)))).out).mono ?_
        rintro e' w' ⟨rfl, g3, rfl⟩
        go_wp2_with fail
        go_roundw
        case rel => exact ⟨k + 1, _, by omega, by rw [E.out], by rw [E.out], by go_num, Classical.choose_spec (xt_of_below (by repeat' (first | exact Below.refl _ _ | assumption | refine Below.xt ?_ ?_ _ | refine Below.alloc ?_ ?_ _ | refine Below.drew ?_ | refine Below.setCell ?_ ?_ _ | (simp; done) | (simp; omega))))⟩
        case measure => simp [intOf]; omega
    · have hkG : k = (L.G a).length := by omega
      rw [← hkG] at FI
      clear hkG
      obtain ⟨at_, gp, hpk⟩ : ∃ x y, rpick L.cs (L.G a) t k = (x, y) := ⟨_, _, rfl⟩
      rw [hpk] at FI ⊢
      dsimp only at FI ⊢
      clear hpk CL
      by_cases h0 : at_ < 0
      · have E := Lib.hid (FI.out.1 h0)
        clear FI CV
        go_wp2_with fail
        rw [← E.out]
        refine bodyPost_ret (v := .tuple #[.agg #[.int .u8 black.r, .int .u8 black.g, .int .u8 black.b], .int .i64 0]) (by simp [results, Tryz.results22, go_sem, black]) rfl ?_
        exact RetB.of rfl (by repeat' (first | exact Below.refl _ _ | assumption | refine Below.xt ?_ ?_ _ | refine Below.alloc ?_ ?_ _ | refine Below.drew ?_ | refine Below.setCell ?_ ?_ _ | (simp; done) | (simp; omega)))
      · obtain ⟨e1, e2⟩ := FI.out.2 (by omega)
        have C := fun w h => CV gp w h e2
        rw [e1] at C
        have hz : (0 : Int) ≤ at_ := by omega
        clear FI CV e1 e2
        go_wp2_with fail
        refine (RetB.grown (C _ (by repeat (first | (with_reducible exact HU.out) | (with_reducible refine RowU.alloc ?_ _) | (with_reducible refine RowU.drew ?_) | (with_reducible refine RowU.xt ?_ _)))).out).mono ?_
        rintro e' w' ⟨rfl, g3, rfl⟩
        go_wp2_with fail
        refine bodyPost_ret (v := .tuple #[.agg #[.int .u8 V.r, .int .u8 V.g, .int .u8 V.b], .int .i64 0]) (by simp [results, Tryz.results22, go_sem]) rfl ?_
        exact RetB.of rfl (by repeat' (first | exact Below.refl _ _ | assumption | refine Below.xt ?_ ?_ _ | refine Below.alloc ?_ ?_ _ | refine Below.drew ?_ | refine Below.setCell ?_ ?_ _ | (simp; done) | (simp; omega)))

set_option maxRecDepth 100000 in
set_option maxHeartbeats 3200000 in
theorem rlAt_any (A1 A2 A3 : Option Addr) (c1 c2 c3 : Nat) (L : Li) (a : Int) (p : V3) (t : Int) (w : World) (hF : FineL L) (hr : RowL w A1 A2 A3 L) :
    Calls Tryz.prog 22 #[.agg #[.slice A1 L.nG c1, .slice A2 L.cs.length c2, .slice A3 L.os.length c3], .int .i64 a, .agg #[.int .i64 p.x, .int .i64 p.y, .int .i64 p.z], .int .i64 t] w (RetB (.tuple #[.agg #[.int .u8 (atC L a p t).r, .int .u8 (atC L a p t).g, .int .u8 (atC L a p t).b], .int .i64 (atE L a p t)]) w) := by
  by_cases h0 : point p = true ∧ fineE L a t = 0
  · obtain ⟨hp, h0⟩ := h0
    obtain ⟨q1, ⟨q2, q3⟩, q4, q5⟩ := fine_zero.1 h0
    obtain ⟨n, rfl⟩ := Int.eq_ofNat_of_zero_le q2
    have e : atE L n p t = 0 := by rw [atE, if_pos hp, h0]
    have e2 : atC L n p t = colC L n p t := by rw [atC, if_pos e]
    rw [e, e2]
    rcases Int.lt_or_le (wh L.os (L.G n) t L.os.length) 0 with h | h
    · exact rAt_cue A1 A2 A3 c1 c2 c3 n L p t w hF h0 hr hp h
    · exact rAt_over A1 A2 A3 c1 c2 c3 n (wh L.os (L.G n) t L.os.length).toNat L p t w hF h0 hr hp (by omega)
  · have e0 : atE L a p t ≠ 0 := by
      rw [atE]; intro h
      by_cases hp : point p = true
      · rw [if_pos hp] at h; exact h0 ⟨hp, h⟩
      · rw [if_neg hp] at h; cases h
    have e2 : atC L a p t = black := by rw [atC, if_neg e0]
    rw [e2]
    have K1 := fun w h => Lib.hid (rlValid_any A1 A2 A3 c1 c2 c3 L w hF h)
    have KP := fun w => Lib.hid (refPoint_any p w)
    have K := fun w h => Lib.hid (rWhich_any A1 A2 A3 c1 c2 c3 L a t w hF h)
    have n1 := hF.n
    have HR := Lib.hid hr
    have HE := Lib.hid (show atE L a p t = if point p = true then fineE L a t else 2 from rfl)
    obtain ⟨d, hd⟩ : ∃ d, atE L a p t = d := ⟨_, rfl⟩
    rw [hd] at HE ⊢
    have HW := Lib.hid (show fineE L a t = 2 → whE L a t = 0 from fun h => by rw [whE, if_neg]; rw [h]; decide)
    have HW3 := Lib.hid (show fineE L a t = 3 → whE L a t = 0 from fun h => by rw [whE, if_neg]; rw [h]; decide)
    have HFi := Lib.hid (show fineE L a t = if liB L = true ∧ 0 ≤ a ∧ a < L.nG then (if 0 ≤ t ∧ t ≤ 3600000 then 0 else 3) else 2 from rfl)
    generalize whE L a t = W at *
    generalize fineE L a t = f at *
    obtain ⟨v, hv⟩ : ∃ v, liB L = v := ⟨_, rfl⟩
    rw [hv] at K1 HFi
    obtain ⟨pp, hpp⟩ : ∃ pp, point p = pp := ⟨_, rfl⟩
    rw [hpp] at KP HE h0
    clear hF hr hd e0 e2 hv hpp
    cases v
    · have E := Lib.hid (show 2 = d by rw [HE.out, HFi.out]; simp)
      clear HE HW HFi HW3 h0
      go_enter Tryz.func22, Tryz.ntmps22
      go_wp2_with fail
      refine (RetB.grown (K1 _ (by repeat (first | (with_reducible exact HR.out) | (with_reducible refine RowL.alloc ?_ _) | (with_reducible refine RowL.drew ?_) | (with_reducible refine RowL.xt ?_ _)))).out).mono ?_
      rintro e' w' ⟨rfl, g, rfl⟩
      go_wp2_with fail
      rw [← E.out]
      refine bodyPost_ret (v := .tuple #[.agg #[.int .u8 black.r, .int .u8 black.g, .int .u8 black.b], .int .i64 2]) (by simp [results, Tryz.results22, go_sem, black]) rfl ?_
      exact RetB.of rfl (by repeat' (first | exact Below.refl _ _ | assumption | refine Below.xt ?_ ?_ _ | refine Below.alloc ?_ ?_ _ | refine Below.drew ?_ | refine Below.setCell ?_ ?_ _ | (simp; done) | (simp; omega)))
    · by_cases ha : 0 ≤ a ∧ a < L.nG
      · cases pp
        · have E := Lib.hid (show 2 = d by rw [HE.out]; simp)
          obtain ⟨a0, a1⟩ := ha
          clear HE HW HFi HW3 h0
          go_enter Tryz.func22, Tryz.ntmps22
          go_wp2_with fail
          refine (RetB.grown (K1 _ (by repeat (first | (with_reducible exact HR.out) | (with_reducible refine RowL.alloc ?_ _) | (with_reducible refine RowL.drew ?_) | (with_reducible refine RowL.xt ?_ _)))).out).mono ?_
          rintro e' w' ⟨rfl, g, rfl⟩
          go_wp2_with (first
            | (go_at_call 21; refine (RetB.grown ((KP _).out)).mono ?_; rintro e' w' ⟨rfl, g, rfl⟩)
            | (refine wp_region_xt (by kernel_rfl) (by kernel_rfl) ?_; (repeat (go_big_quiet_step (first | (go_at_call 21; exact RetB.quiet ((KP _).out))))); refine wpQuiet_nil ?_; intro g))
          rw [← E.out]
          refine bodyPost_ret (v := .tuple #[.agg #[.int .u8 black.r, .int .u8 black.g, .int .u8 black.b], .int .i64 2]) (by simp [results, Tryz.results22, go_sem, black]) rfl ?_
          exact RetB.of rfl (by repeat' (first | exact Below.refl _ _ | assumption | refine Below.xt ?_ ?_ _ | refine Below.alloc ?_ ?_ _ | refine Below.drew ?_ | refine Below.setCell ?_ ?_ _ | (simp; done) | (simp; omega)))
        · have hf3 : f = 3 := by
            rw [HFi.out, if_pos ⟨rfl, ha⟩]
            split
            · rename_i h
              exact absurd ⟨rfl, by rw [HFi.out, if_pos ⟨rfl, ha⟩, if_pos h]⟩ h0
            · rfl
          have hW := HW3.out hf3
          have E := Lib.hid (show 3 = d by rw [HE.out, hf3]; rfl)
          obtain ⟨a0, a1⟩ := ha
          subst hf3 hW
          clear HE HW HFi HW3 h0
          go_enter Tryz.func22, Tryz.ntmps22
          go_wp2_with fail
          refine (RetB.grown (K1 _ (by repeat (first | (with_reducible exact HR.out) | (with_reducible refine RowL.alloc ?_ _) | (with_reducible refine RowL.drew ?_) | (with_reducible refine RowL.xt ?_ _)))).out).mono ?_
          rintro e' w' ⟨rfl, g, rfl⟩
          go_wp2_with (first
            | (go_at_call 21; refine (RetB.grown ((KP _).out)).mono ?_; rintro e' w' ⟨rfl, g, rfl⟩)
            | (refine wp_region_xt (by kernel_rfl) (by kernel_rfl) ?_; (repeat (go_big_quiet_step (first | (go_at_call 21; exact RetB.quiet ((KP _).out))))); refine wpQuiet_nil ?_; intro g))
          refine (RetB.grown (K _ (by repeat (first | (with_reducible exact HR.out) | (with_reducible refine RowL.alloc ?_ _) | (with_reducible refine RowL.drew ?_) | (with_reducible refine RowL.xt ?_ _)))).out).mono ?_
          rintro e' w' ⟨rfl, g2, rfl⟩
          go_wp2_with fail
          rw [← E.out]
          refine bodyPost_ret (v := .tuple #[.agg #[.int .u8 black.r, .int .u8 black.g, .int .u8 black.b], .int .i64 3]) (by simp [results, Tryz.results22, go_sem, black]) rfl ?_
          exact RetB.of rfl (by repeat' (first | exact Below.refl _ _ | assumption | refine Below.xt ?_ ?_ _ | refine Below.alloc ?_ ?_ _ | refine Below.drew ?_ | refine Below.setCell ?_ ?_ _ | (simp; done) | (simp; omega)))
      · have E := Lib.hid (show 2 = d by
          rw [HE.out]
          split
          · rw [HFi.out, if_neg (fun h => ha h.2)]
          · rfl)
        have aa : a < 0 ∨ (0 ≤ a ∧ (L.nG : Int) ≤ a) := by omega
        clear HE HW HFi HW3 h0 ha
        rcases aa with a0 | ⟨a0, a1⟩
        all_goals
          go_enter Tryz.func22, Tryz.ntmps22
          go_wp2_with fail
          refine (RetB.grown (K1 _ (by repeat (first | (with_reducible exact HR.out) | (with_reducible refine RowL.alloc ?_ _) | (with_reducible refine RowL.drew ?_) | (with_reducible refine RowL.xt ?_ _)))).out).mono ?_
          rintro e' w' ⟨rfl, g, rfl⟩
          go_wp2_with fail
          rw [← E.out]
          refine bodyPost_ret (v := .tuple #[.agg #[.int .u8 black.r, .int .u8 black.g, .int .u8 black.b], .int .i64 2]) (by simp [results, Tryz.results22, go_sem, black]) rfl ?_
          exact RetB.of rfl (by repeat' (first | exact Below.refl _ _ | assumption | refine Below.xt ?_ ?_ _ | refine Below.alloc ?_ ?_ _ | refine Below.drew ?_ | refine Below.setCell ?_ ?_ _ | (simp; done) | (simp; omega)))

end Go.Proofs.YtiikejhkhdmgeaaGreat

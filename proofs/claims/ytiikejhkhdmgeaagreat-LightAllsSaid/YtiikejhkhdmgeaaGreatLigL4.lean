
/- Walks: the colour of an aircraft at a point, by the program. Conditions stand in each theorem. -/
import Derived.Test.YtiikejhkhdmgeaaGreatLigL3
import Derived.Test.YtiikejhkhdmgeaaGreatLigC4
import Derived.Test.YtiikejhkhdmgeaaGreatEffW7
import Derived.Deep.RegionHeld3
namespace Go.Proofs.YtiikejhkhdmgeaaGreat
open Go.RowKit
set_option linter.unusedVariables false
set_option linter.unusedSimpArgs false
attribute [local go_sem ↓] ldr16 ldr18

theorem RowO.eff {w : World} {b o : Nat} {l : List Ov} {i : Nat} (h : row? w b (o + i * 18) 18 = some [.string ((ov l i)).g, .int .i64 ((ov l i)).p, .int .i64 ((ov l i)).e.kind, .int .i64 ((ov l i)).e.fr, .int .i64 ((ov l i)).e.to, .int .i64 ((ov l i)).e.period, .int .i64 ((ov l i)).e.width, .int .i64 (((ov l i)).e.along).x, .int .i64 (((ov l i)).e.along).y, .int .i64 (((ov l i)).e.along).z, .int .i64 ((ov l i)).e.scale, .int .i64 ((ov l i)).e.seed, .int .u8 ((ov l i)).e.a.r, .int .u8 ((ov l i)).e.a.g, .int .u8 ((ov l i)).e.a.b, .int .u8 ((ov l i)).e.b.r, .int .u8 ((ov l i)).e.b.g, .int .u8 ((ov l i)).e.b.b]) : row? w b (o + i * 18 + 2) 16 = some [.int .i64 (ov l i).e.kind, .int .i64 (ov l i).e.fr, .int .i64 (ov l i).e.to, .int .i64 (ov l i).e.period, .int .i64 (ov l i).e.width, .int .i64 ((ov l i).e.along).x, .int .i64 ((ov l i).e.along).y, .int .i64 ((ov l i).e.along).z, .int .i64 (ov l i).e.scale, .int .i64 (ov l i).e.seed, .int .u8 (ov l i).e.a.r, .int .u8 (ov l i).e.a.g, .int .u8 (ov l i).e.a.b, .int .u8 (ov l i).e.b.r, .int .u8 (ov l i).e.b.g, .int .u8 (ov l i).e.b.b] := by
  obtain ⟨_, h2⟩ := mapM_some h
  refine row_of rfl fun j v hv => ?_
  have hj : j < 16 := (List.getElem?_eq_some_iff.1 hv).1
  obtain ⟨u, hu, hc⟩ := h2 (j + 2) (j + 2) (List.getElem?_range (by omega))
  have : ([.string ((ov l i)).g, .int .i64 ((ov l i)).p, .int .i64 ((ov l i)).e.kind, .int .i64 ((ov l i)).e.fr, .int .i64 ((ov l i)).e.to, .int .i64 ((ov l i)).e.period, .int .i64 ((ov l i)).e.width, .int .i64 (((ov l i)).e.along).x, .int .i64 (((ov l i)).e.along).y, .int .i64 (((ov l i)).e.along).z, .int .i64 ((ov l i)).e.scale, .int .i64 ((ov l i)).e.seed, .int .u8 ((ov l i)).e.a.r, .int .u8 ((ov l i)).e.a.g, .int .u8 ((ov l i)).e.a.b, .int .u8 ((ov l i)).e.b.r, .int .u8 ((ov l i)).e.b.g, .int .u8 ((ov l i)).e.b.b] : List Value)[j + 2]? = ([.int .i64 (ov l i).e.kind, .int .i64 (ov l i).e.fr, .int .i64 (ov l i).e.to, .int .i64 (ov l i).e.period, .int .i64 (ov l i).e.width, .int .i64 ((ov l i).e.along).x, .int .i64 ((ov l i).e.along).y, .int .i64 ((ov l i).e.along).z, .int .i64 (ov l i).e.scale, .int .i64 (ov l i).e.seed, .int .u8 (ov l i).e.a.r, .int .u8 (ov l i).e.a.g, .int .u8 (ov l i).e.a.b, .int .u8 (ov l i).e.b.r, .int .u8 (ov l i).e.b.g, .int .u8 (ov l i).e.b.b] : List Value)[j]? := rfl
  rw [this, hv] at hu
  injection hu with hu
  subst hu
  rw [show o + i * 18 + 2 + j = o + i * 18 + (j + 2) by omega]
  exact hc

/-- An overlay that decides: its effect gives a colour. -/
theorem over_ok {L : Li} {a i : Nat} {p : V3} {t : Int} (hv : liB L = true) (hp : point p = true) (hi : wh L.os (L.G a) t L.os.length = i) :
    i < L.os.length ∧ atErr (ov L.os i).e a p t = 0 ∧ atCol (ov L.os i).e a p t = colC L a p t := by
  have hb := wh_bd L.os (L.G a) t L.os.length
  have hh := wh_hit L.os (L.G a) t L.os.length (by omega)
  have ha : ((a : Nat) : Int).toNat = a := by omega
  have hil : i < L.os.length := by omega
  have ho := (liB_iff.1 hv).2.2.2.2 i hil
  have hin : (i : Int).toNat = i := by omega
  rw [hi, hin] at hh
  simp only [hitB, onB, Bool.and_eq_true, decide_eq_true_eq] at hh
  simp only [ovB, Bool.and_eq_true] at ho
  have he : atErr (ov L.os i).e a p t = 0 := by
    rw [atErr, ho.2, hp]
    simp [hh.1.1, hh.1.2]
  refine ⟨hil, he, ?_⟩
  rw [atCol, if_pos he, colC, ha, hi, if_pos (by omega), hin]

set_option maxRecDepth 100000 in
set_option maxHeartbeats 3200000 in
theorem color_over (A1 A2 A3 : Option Addr) (c1 c2 c3 a i : Nat) (L : Li) (p : V3) (t : Int) (w : World) (hF : FineL L) (hv : liB L = true) (ha : a < L.nG) (hr : RowL w A1 A2 A3 L) (hp : point p = true) (hi : wh L.os (L.G a) t L.os.length = i) :
    Calls Tryz.prog 19 #[.agg #[.slice A1 L.nG c1, .slice A2 L.cs.length c2, .slice A3 L.os.length c3, .int .i64 (a : Nat)], .agg #[.int .i64 p.x, .int .i64 p.y, .int .i64 p.z], .int .i64 t] w (RetB (.agg #[.int .u8 (colC L a p t).r, .int .u8 (colC L a p t).g, .int .u8 (colC L a p t).b]) w) := by
  obtain ⟨hil, e1, e2⟩ := over_ok hv hp hi
  have K := fun w h => Lib.hid (which_any A1 A2 A3 c1 c2 c3 a L t w hF hv ha h)
  rw [hi] at K
  have n1 := hF.n
  have K2 := fun w => Lib.hid (At_any (ov L.os i).e a p t w (hF.os i hil).2.1 (hF.os i hil).2.2 (by unfold I64; omega))
  rw [e1, e2] at K2
  have n2 := hF.on
  have i0 : (0 : Int) ≤ (i : Int) := by omega
  have i1 : (i : Int) < (L.os.length : Int) := by omega
  obtain ⟨b, o, rfl, hb, hc⟩ := RowO.row hr.o (by omega)
  have x0 := RowO.eff (hc i hil)
  have HR := Lib.hid hr
  generalize ov L.os i = v at *
  generalize colC L a p t = V at *
  clear hc hF hv hp hi e1 e2 hr ha n1
  go_enter Tryz.func19, Tryz.ntmps19
  go_wp2_with fail
  refine (RetB.grown (K _ (by repeat (first | (with_reducible exact HR.out) | (with_reducible refine RowL.alloc ?_ _)))).out).mono ?_
  rintro e' w' ⟨rfl, g, rfl⟩
  clear HR K
  go_wp2_with fail
  go_region_held3 (fun w' => old w.heap.size w' ∧ old (w.heap.size + 1) w' ∧ old b w' ∧ w'.cell? ⟨w.heap.size, 2, none⟩ = some (.slice (some ⟨b, o, none⟩) L.os.length c3) ∧ w'.cell? ⟨w.heap.size, 3, none⟩ = some (.int .i64 (a : Nat)) ∧ w'.cell? ⟨w.heap.size + 1, 0, none⟩ = some (.int .i64 p.x) ∧ w'.cell? ⟨w.heap.size + 1, 1, none⟩ = some (.int .i64 p.y) ∧ w'.cell? ⟨w.heap.size + 1, 2, none⟩ = some (.int .i64 p.z) ∧ row? w' b (o + i * 18 + 2) 16 = some [.int .i64 v.e.kind, .int .i64 v.e.fr, .int .i64 v.e.to, .int .i64 v.e.period, .int .i64 v.e.width, .int .i64 v.e.along.x, .int .i64 v.e.along.y, .int .i64 v.e.along.z, .int .i64 v.e.scale, .int .i64 v.e.seed, .int .u8 v.e.a.r, .int .u8 v.e.a.g, .int .u8 v.e.a.b, .int .u8 v.e.b.r, .int .u8 v.e.b.g, .int .u8 v.e.b.b]) (go_simp)
    (first | (go_at_call 30; (with_reducible refine (RetB.grown (K2 _).out).mono ?_); rintro e' w' ⟨rfl, g, rfl⟩))
  all_goals go_wp2_with fail
  all_goals refine bodyPost_ret (v := .agg #[.int .u8 V.r, .int .u8 V.g, .int .u8 V.b]) (by simp [results, Tryz.results19, go_sem]) rfl ?_
  all_goals exact RetB.of rfl (by repeat' (first | exact Below.refl _ _ | assumption | refine Below.xt ?_ ?_ _ | refine Below.alloc ?_ ?_ _ | refine Below.drew ?_ | refine Below.setCell ?_ ?_ _ | (simp; done) | (simp; omega)))

theorem nameB_size {s : ByteArray} (h : nameB s = true) : s.size ≤ maxLen := by
  simp only [nameB, Bool.and_eq_true, decide_eq_true_eq] at h
  unfold maxLen; omega
theorem best_neg {cs : List Cu} {g : List ByteArray} {t : Int} {r : Int × ByteArray} (h : Best cs g t r) (hc : cusB cs = true) : (0 ≤ r.1 → memB g r.2 = true) := by
  intro h0
  rcases h with ⟨h1, _⟩ | ⟨_, _, h3, _⟩
  · rw [h1] at h0; exact absurd h0 (by decide)
  · exact h3
/-- What stands behind the loop over the cues. -/
theorem cue_fin {L : Li} {a k : Nat} {p : V3} {t : Int} (hv : liB L = true) (ha : a < L.nG) (hw : wh L.os (L.G a) t L.os.length < 0) (hk : k ≤ L.cs.length) (h1 : ∀ j, j < k → (cu L.cs j).t ≤ t) (h2 : k < L.cs.length → t < (cu L.cs k).t) :
    ((pick L.cs (L.G a) k).1 < 0 → black = colC L a p t) ∧ (0 ≤ (pick L.cs (L.G a) k).1 → valG L.cs (pick L.cs (L.G a) k).2 t = colC L a p t ∧ nameB (pick L.cs (L.G a) k).2 = true) := by
  obtain ⟨q1, q2, q3, q4, q5⟩ := liB_iff.1 hv
  have hg := q4 a ha
  have e := pick_rpick q2 hg hk h1 h2
  have hb := pick_best (g := L.G a) q2 hk h1 h2
  have ha' : ((a : Nat) : Int).toNat = a := by omega
  have hC : colC L a p t = if (pick L.cs (L.G a) k).1 < 0 then black else valG L.cs (pick L.cs (L.G a) k).2 t := by
    rw [colC, ha', if_neg (by omega), cueC, e]
  refine ⟨fun h => by rw [hC, if_pos h], fun h => ⟨by rw [hC, if_neg (by omega)], ?_⟩⟩
  obtain ⟨i, hi, ei⟩ := memB_iff.1 (best_neg hb q2 h)
  rw [← ei]
  exact (grpB_iff.1 hg).1 i hi
theorem pick_step {cs : List Cu} {g : List ByteArray} {k : Nat} :
    (memB g (cu cs k).g = true → ((pick cs g k).1 < (cu cs k).t ∨ rank g (cu cs k).g < rank g (pick cs g k).2) → pick cs g (k + 1) = ((cu cs k).t, (cu cs k).g)) ∧
    (¬ (memB g (cu cs k).g = true ∧ ((pick cs g k).1 < (cu cs k).t ∨ rank g (cu cs k).g < rank g (pick cs g k).2)) → pick cs g (k + 1) = pick cs g k) := by
  refine ⟨fun h1 h2 => ?_, fun h => ?_⟩
  · rw [pick, if_pos ⟨h1, h2⟩]
  · rw [pick, if_neg h]

set_option maxRecDepth 100000 in
set_option maxHeartbeats 3200000 in
theorem color_cue (A1 A2 A3 : Option Addr) (c1 c2 c3 a : Nat) (L : Li) (p : V3) (t : Int) (w : World) (hF : FineL L) (hv : liB L = true) (ha : a < L.nG) (hr : RowL w A1 A2 A3 L) (ht0 : 0 ≤ t) (ht1 : t ≤ 3600000) (hw : wh L.os (L.G a) t L.os.length < 0) :
    Calls Tryz.prog 19 #[.agg #[.slice A1 L.nG c1, .slice A2 L.cs.length c2, .slice A3 L.os.length c3, .int .i64 (a : Nat)], .agg #[.int .i64 p.x, .int .i64 p.y, .int .i64 p.z], .int .i64 t] w (RetB (.agg #[.int .u8 (colC L a p t).r, .int .u8 (colC L a p t).g, .int .u8 (colC L a p t).b]) w) := by
  have K := fun w h => Lib.hid (which_any A1 A2 A3 c1 c2 c3 a L t w hF hv ha h)
  have hw1 : wh L.os (L.G a) t L.os.length = -1 := by have := wh_bd L.os (L.G a) t L.os.length; omega
  rw [hw1] at K
  have HR := Lib.hid hr
  have HG := Lib.hid hr.g
  have HU := Lib.hid hr.u
  have CB := fun (x : ByteArray) w h => Lib.hid (belongs_any A1 A2 A3 c1 c2 c3 a L x w ha hF.n (hF.gs a ha).1 h)
  have CR := fun (x : ByteArray) w h => Lib.hid (rank_any A1 A2 A3 c1 c2 c3 a L x w ha hF.n (hF.gs a ha).1 h)
  have hcn := (cusB_iff.1 (liB_iff.1 hv).2.1).2.2
  have CV := fun (x : ByteArray) w h hx => Lib.hid (Value_ok A2 L.cs.length c2 L.cs x t w rfl hcn hF.cs h (nameB_size hx) (liB_iff.1 hv).2.1 hx ht0 ht1)
  have FI := Lib.hid (fun k hk h1 h2 => cue_fin (k := k) (p := p) hv ha hw hk h1 h2)
  generalize colC L a p t = V at *
  clear hF hv hr ha hw hw1 ht0 ht1
  go_enter Tryz.func19, Tryz.ntmps19
  go_wp2_with fail
  refine (RetB.grown (K _ (by repeat (first | (with_reducible exact HR.out) | (with_reducible refine RowL.alloc ?_ _)))).out).mono ?_
  rintro e' w' ⟨rfl, g, rfl⟩
  clear K HR
  go_wp2_with (first
    | (refine wp_region_xt (by kernel_rfl) (by kernel_rfl) ?_; (repeat (go_big_quiet_step (first | fail))); refine wpQuiet_nil ?_; intro g))
  go_loopw [10, 11, 44] (fun u10 u11 i wr => ∃ (k : Nat) (g : Gr), k ≤ L.cs.length ∧ u10 = .string (pick L.cs (L.G a) k).2 ∧ u11 = .int .i64 (pick L.cs (L.G a) k).1 ∧ i = .int .i64 k ∧ wr = xt (((w.alloc (.cells #[.slice A1 L.nG c1, .slice A2 L.cs.length c2, .slice A3 L.os.length c3, .int .i64 (a : Nat)] 60)).alloc (.cells #[.int .i64 p.x, .int .i64 p.y, .int .i64 p.z] 37)).alloc (.cells #[.int .u8 0, .int .u8 0, .int .u8 0] 42)) g ∧ Hid (∀ j, j < k → (cu L.cs j).t ≤ t)) (fun _ _ i _ => L.cs.length - (intOf i).toNat)
  case atStart => exact ⟨0, _, by omega, rfl, rfl, rfl, Classical.choose_spec (xt_of_below (by repeat' (first | exact Below.refl _ _ | assumption | refine Below.xt ?_ ?_ _ | refine Below.alloc ?_ ?_ _ | refine Below.drew ?_ | refine Below.setCell ?_ ?_ _ | (simp; done) | (simp; omega)))), Lib.hid fun j hj => absurd hj (by omega)⟩
  case round =>
    obtain ⟨k, g, hk, rfl, rfl, rfl, rfl, HT⟩ := hrel
    have HFk := Lib.hid (fun h => FI.out k hk HT.out h)
    have HST := Lib.hid (pick_step (cs := L.cs) (g := L.G a) (k := k))
    obtain ⟨at_, gp, hpk⟩ : ∃ x y, pick L.cs (L.G a) k = (x, y) := ⟨_, _, rfl⟩
    rw [hpk] at HFk HST ⊢
    dsimp only at HFk HST ⊢
    clear hpk
    by_cases hlt : k < L.cs.length
    · obtain ⟨b, o, rfl, hbo, hc⟩ := Row.at_ HU.out (by omega)
      obtain ⟨x0, x1, x2, x3, x4, x5⟩ := RowU.cells hc hlt
      clear hc
      by_cases hT : t < (cu L.cs k).t
      · have HE := Lib.hid (HFk.out (fun _ => hT))
        clear HFk HST HT
        by_cases h0 : at_ < 0
        · have E := Lib.hid (HE.out.1 h0)
          clear HE CV CB CR FI
          go_wp2_with fail
          rw [← E.out]
          refine bodyPost_ret (v := .agg #[.int .u8 black.r, .int .u8 black.g, .int .u8 black.b]) (by simp [results, Tryz.results19, go_sem, black]) rfl ?_
          exact RetB.of rfl (by repeat' (first | exact Below.refl _ _ | assumption | refine Below.xt ?_ ?_ _ | refine Below.alloc ?_ ?_ _ | refine Below.drew ?_ | refine Below.setCell ?_ ?_ _ | (simp; done) | (simp; omega)))
        · obtain ⟨e1, e2⟩ := HE.out.2 (by omega)
          have C := fun w h => CV gp w h e2
          rw [e1] at C
          have hz : (0 : Int) ≤ at_ := by omega
          clear HE CV CB CR FI e1 e2
          go_wp2_with (first
            | (go_at_call 32; refine (RetB.grown ((C _ (by repeat (first | (with_reducible exact HU.out) | (with_reducible refine RowU.alloc ?_ _) | (with_reducible refine RowU.drew ?_) | (with_reducible refine RowU.xt ?_ _)))).out)).mono ?_; rintro e' w' ⟨rfl, g, rfl⟩)
            | (refine wp_region_xt (by kernel_rfl) (by kernel_rfl) ?_; (repeat (go_big_quiet_step (first | (go_at_call 32; exact RetB.quiet ((C _ (by repeat (first | (with_reducible exact HU.out) | (with_reducible refine RowU.alloc ?_ _) | (with_reducible refine RowU.drew ?_) | (with_reducible refine RowU.xt ?_ _)))).out))))); refine wpQuiet_nil ?_; intro g))
          refine bodyPost_ret (v := .agg #[.int .u8 V.r, .int .u8 V.g, .int .u8 V.b]) (by simp [results, Tryz.results19, go_sem]) rfl ?_
          exact RetB.of rfl (by repeat' (first | exact Below.refl _ _ | assumption | refine Below.xt ?_ ?_ _ | refine Below.alloc ?_ ?_ _ | refine Below.drew ?_ | refine Below.setCell ?_ ?_ _ | (simp; done) | (simp; omega)))
      · have HT' := Lib.hid (show ∀ j, j < k + 1 → (cu L.cs j).t ≤ t from fun j hj => if e : j = k then by subst e; omega else HT.out j (by omega))
        have C1 := CB (cu L.cs k).g
        have hi : IntKind.i64.wrap ((k : Int) + 1) = (k : Int) + 1 := IntWalk.i64_in _ (by omega)
        obtain ⟨m, hm⟩ : ∃ m, memB (L.G a) (cu L.cs k).g = m := ⟨_, rfl⟩
        rw [hm] at C1 HST
        clear hm HFk HT CV CB
        cases m
        · have E := Lib.hid (HST.out.2 (fun h => by cases h.1))
          clear HST CR FI
          go_wp2_with (first
            | (go_at_call 24; (with_reducible refine (RetB.grown ((C1 _ (by repeat (first | (with_reducible exact HG.out) | (with_reducible refine RowG.alloc ?_ _) | (with_reducible refine RowG.drew ?_) | (with_reducible refine RowG.xt ?_ _)))).out)).mono ?_); rintro e' w' ⟨rfl, g, rfl⟩)
            | (refine wp_region_xt (by kernel_rfl) (by kernel_rfl) ?_; (repeat (go_big_quiet_step (first | (go_at_call 24; (with_reducible exact RetB.quiet ((C1 _ (by repeat (first | (with_reducible exact HG.out) | (with_reducible refine RowG.alloc ?_ _) | (with_reducible refine RowG.drew ?_) | (with_reducible refine RowG.xt ?_ _)))).out)))))); refine wpQuiet_nil ?_; intro g))
          go_roundw
          case rel => exact ⟨k + 1, _, by omega, by rw [E.out], by rw [E.out], by go_num, Classical.choose_spec (xt_of_below (by repeat' (first | exact Below.refl _ _ | assumption | refine Below.xt ?_ ?_ _ | refine Below.alloc ?_ ?_ _ | refine Below.drew ?_ | refine Below.setCell ?_ ?_ _ | (simp; done) | (simp; omega)))), HT'⟩
          case measure => simp [intOf]; omega
        · by_cases h1 : at_ < (cu L.cs k).t
          · have E := Lib.hid (HST.out.1 rfl (.inl h1))
            clear HST CR FI
            go_wp2_with (first
              | (go_at_call 24; (with_reducible refine (RetB.grown ((C1 _ (by repeat (first | (with_reducible exact HG.out) | (with_reducible refine RowG.alloc ?_ _) | (with_reducible refine RowG.drew ?_) | (with_reducible refine RowG.xt ?_ _)))).out)).mono ?_); rintro e' w' ⟨rfl, g, rfl⟩)
              | (refine wp_region_xt (by kernel_rfl) (by kernel_rfl) ?_; (repeat (go_big_quiet_step (first | (go_at_call 24; (with_reducible exact RetB.quiet ((C1 _ (by repeat (first | (with_reducible exact HG.out) | (with_reducible refine RowG.alloc ?_ _) | (with_reducible refine RowG.drew ?_) | (with_reducible refine RowG.xt ?_ _)))).out)))))); refine wpQuiet_nil ?_; intro g))
            go_roundw
            case rel => exact ⟨k + 1, _, by omega, by rw [E.out], by rw [E.out], by go_num, Classical.choose_spec (xt_of_below (by repeat' (first | exact Below.refl _ _ | assumption | refine Below.xt ?_ ?_ _ | refine Below.alloc ?_ ?_ _ | refine Below.drew ?_ | refine Below.setCell ?_ ?_ _ | (simp; done) | (simp; omega)))), HT'⟩
            case measure => simp [intOf]; omega
          · have d1 : decide (at_ < (cu L.cs k).t) = false := by simpa using h1
            have R1 := CR (cu L.cs k).g
            have R2 := CR gp
            generalize rank (L.G a) (cu L.cs k).g = r1 at *
            generalize rank (L.G a) gp = r2 at *
            by_cases h2 : r1 < r2
            · have E := Lib.hid (HST.out.1 rfl (.inr h2))
              clear HST CR FI
              go_wp2_with (first
                | (go_at_call 24; (with_reducible refine (RetB.grown ((C1 _ (by repeat (first | (with_reducible exact HG.out) | (with_reducible refine RowG.alloc ?_ _) | (with_reducible refine RowG.drew ?_) | (with_reducible refine RowG.xt ?_ _)))).out)).mono ?_); rintro e' w' ⟨rfl, g, rfl⟩)
                | (go_at_call 31; (with_reducible refine (RetB.grown ((R1 _ (by repeat (first | (with_reducible exact HG.out) | (with_reducible refine RowG.alloc ?_ _) | (with_reducible refine RowG.drew ?_) | (with_reducible refine RowG.xt ?_ _)))).out)).mono ?_); rintro e' w' ⟨rfl, g, rfl⟩)
                | (go_at_call 31; (with_reducible refine (RetB.grown ((R2 _ (by repeat (first | (with_reducible exact HG.out) | (with_reducible refine RowG.alloc ?_ _) | (with_reducible refine RowG.drew ?_) | (with_reducible refine RowG.xt ?_ _)))).out)).mono ?_); rintro e' w' ⟨rfl, g, rfl⟩)
                | (refine wp_region_xt (by kernel_rfl) (by kernel_rfl) ?_; (repeat (go_big_quiet_step (first | (go_at_call 24; (with_reducible exact RetB.quiet ((C1 _ (by repeat (first | (with_reducible exact HG.out) | (with_reducible refine RowG.alloc ?_ _) | (with_reducible refine RowG.drew ?_) | (with_reducible refine RowG.xt ?_ _)))).out))) | (go_at_call 31; (with_reducible exact RetB.quiet ((R1 _ (by repeat (first | (with_reducible exact HG.out) | (with_reducible refine RowG.alloc ?_ _) | (with_reducible refine RowG.drew ?_) | (with_reducible refine RowG.xt ?_ _)))).out))) | (go_at_call 31; (with_reducible exact RetB.quiet ((R2 _ (by repeat (first | (with_reducible exact HG.out) | (with_reducible refine RowG.alloc ?_ _) | (with_reducible refine RowG.drew ?_) | (with_reducible refine RowG.xt ?_ _)))).out)))))); refine wpQuiet_nil ?_; intro g))
              go_roundw
              case rel => exact ⟨k + 1, _, by omega, by rw [E.out], by rw [E.out], by go_num, Classical.choose_spec (xt_of_below (by repeat' (first | exact Below.refl _ _ | assumption | refine Below.xt ?_ ?_ _ | refine Below.alloc ?_ ?_ _ | refine Below.drew ?_ | refine Below.setCell ?_ ?_ _ | (simp; done) | (simp; omega)))), HT'⟩
              case measure => simp [intOf]; omega
            · have E := Lib.hid (HST.out.2 (fun h => by rcases h.2 with h | h <;> contradiction))
              have d2 : decide (r1 < r2) = false := by simpa using h2
              clear HST CR FI
              go_wp2_with (first
                | (go_at_call 24; (with_reducible refine (RetB.grown ((C1 _ (by repeat (first | (with_reducible exact HG.out) | (with_reducible refine RowG.alloc ?_ _) | (with_reducible refine RowG.drew ?_) | (with_reducible refine RowG.xt ?_ _)))).out)).mono ?_); rintro e' w' ⟨rfl, g, rfl⟩)
                | (go_at_call 31; (with_reducible refine (RetB.grown ((R1 _ (by repeat (first | (with_reducible exact HG.out) | (with_reducible refine RowG.alloc ?_ _) | (with_reducible refine RowG.drew ?_) | (with_reducible refine RowG.xt ?_ _)))).out)).mono ?_); rintro e' w' ⟨rfl, g, rfl⟩)
                | (go_at_call 31; (with_reducible refine (RetB.grown ((R2 _ (by repeat (first | (with_reducible exact HG.out) | (with_reducible refine RowG.alloc ?_ _) | (with_reducible refine RowG.drew ?_) | (with_reducible refine RowG.xt ?_ _)))).out)).mono ?_); rintro e' w' ⟨rfl, g, rfl⟩)
                | (refine wp_region_xt (by kernel_rfl) (by kernel_rfl) ?_; (repeat (go_big_quiet_step (first | (go_at_call 24; (with_reducible exact RetB.quiet ((C1 _ (by repeat (first | (with_reducible exact HG.out) | (with_reducible refine RowG.alloc ?_ _) | (with_reducible refine RowG.drew ?_) | (with_reducible refine RowG.xt ?_ _)))).out))) | (go_at_call 31; (with_reducible exact RetB.quiet ((R1 _ (by repeat (first | (with_reducible exact HG.out) | (with_reducible refine RowG.alloc ?_ _) | (with_reducible refine RowG.drew ?_) | (with_reducible refine RowG.xt ?_ _)))).out))) | (go_at_call 31; (with_reducible exact RetB.quiet ((R2 _ (by repeat (first | (with_reducible exact HG.out) | (with_reducible refine RowG.alloc ?_ _) | (with_reducible refine RowG.drew ?_) | (with_reducible refine RowG.xt ?_ _)))).out)))))); refine wpQuiet_nil ?_; intro g))
              go_roundw
              case rel => exact ⟨k + 1, _, by omega, by rw [E.out], by rw [E.out], by go_num, Classical.choose_spec (xt_of_below (by repeat' (first | exact Below.refl _ _ | assumption | refine Below.xt ?_ ?_ _ | refine Below.alloc ?_ ?_ _ | refine Below.drew ?_ | refine Below.setCell ?_ ?_ _ | (simp; done) | (simp; omega)))), HT'⟩
              case measure => simp [intOf]; omega
    · have HE := Lib.hid (HFk.out (fun h => absurd h hlt))
      clear HFk HST HT
      by_cases h0 : at_ < 0
      · have E := Lib.hid (HE.out.1 h0)
        clear HE CV CB CR FI
        go_wp2_with fail
        rw [← E.out]
        refine bodyPost_ret (v := .agg #[.int .u8 black.r, .int .u8 black.g, .int .u8 black.b]) (by simp [results, Tryz.results19, go_sem, black]) rfl ?_
        exact RetB.of rfl (by repeat' (first | exact Below.refl _ _ | assumption | refine Below.xt ?_ ?_ _ | refine Below.alloc ?_ ?_ _ | refine Below.drew ?_ | refine Below.setCell ?_ ?_ _ | (simp; done) | (simp; omega)))
      · obtain ⟨e1, e2⟩ := HE.out.2 (by omega)
        have C := fun w h => CV gp w h e2
        rw [e1] at C
        have hz : (0 : Int) ≤ at_ := by omega
        clear HE CV CB CR FI e1 e2
        go_wp2_with (first
          | (go_at_call 32; refine (RetB.grown ((C _ (by repeat (first | (with_reducible exact HU.out) | (with_reducible refine RowU.alloc ?_ _) | (with_reducible refine RowU.drew ?_) | (with_reducible refine RowU.xt ?_ _)))).out)).mono ?_; rintro e' w' ⟨rfl, g, rfl⟩)
          | (refine wp_region_xt (by kernel_rfl) (by kernel_rfl) ?_; (repeat (go_big_quiet_step (first | (go_at_call 32; exact RetB.quiet ((C _ (by repeat (first | (with_reducible exact HU.out) | (with_reducible refine RowU.alloc ?_ _) | (with_reducible refine RowU.drew ?_) | (with_reducible refine RowU.xt ?_ _)))).out))))); refine wpQuiet_nil ?_; intro g))
        refine bodyPost_ret (v := .agg #[.int .u8 V.r, .int .u8 V.g, .int .u8 V.b]) (by simp [results, Tryz.results19, go_sem]) rfl ?_
        exact RetB.of rfl (by repeat' (first | exact Below.refl _ _ | assumption | refine Below.xt ?_ ?_ _ | refine Below.alloc ?_ ?_ _ | refine Below.drew ?_ | refine Below.setCell ?_ ?_ _ | (simp; done) | (simp; omega)))

end Go.Proofs.YtiikejhkhdmgeaaGreat


/- Walk: a smallest cover, its lists in blocks of their own. Conditions stand in each theorem. -/
import Derived.Test.YtjiknjcmfiapjaaMatB7
import Derived.Test.YtjiknjcmfiapjaaBotW2
import Derived.Deep.LoopGhost
namespace Go.Proofs.Ytjiknjcmfiapjaa
open Go.RowKit
set_option linter.unusedVariables false
set_option linter.unusedSimpArgs false

/-- The call returns two lists, in blocks of its own. -/
def RetCovO (L Rr : List Int) (d : Int) (w : World) (e : Ending) (w' : World) : Prop := ∃ A c A' c', e = .returned (.tuple #[.agg #[.slice A L.length c, .slice A' Rr.length c'], .int .i64 d]) ∧ Below w.heap.size w w' ∧ w'.ownsRow w.heap.size 3 1 (.slice A L.length c) L.length (L.map (Value.int .i64)) ∧ w'.ownsRow w.heap.size 3 1 (.slice A' Rr.length c') Rr.length (Rr.map (Value.int .i64))
set_option maxRecDepth 100000 in
set_option maxHeartbeats 6400000 in
theorem Cover_to (A : Option Addr) (nL cap R : Nat) (G : Nat → List Int) (t : St) (w : World) (hG : GRow w A nL G) (hv : vld G nL R = true) (ht : runM G nL (nL + 1) ⟨fun _ => -1, fun _ => -1, fun _ => 0⟩ = some t) :
    Calls Try.prog 28 #[.agg #[.slice A nL cap, .int .i64 (R : Int)]] w (RetCovO (covL t.V nL) (covR G t.V nL R) 0 w) := by
  obtain ⟨i0, hi0, hz0, hz1, hz2⟩ := info_parts infoInt
  have HF := Lib.hid (fit_of hv)
  have hL := HF.out.hL
  have hRR := HF.out.hR
  have C := fun w h => Valid_any A nL cap R G w (by have := HF.out.hL; omega) (fun i hi => by have := HF.out.len i hi; omega) h
  rw [hv] at C
  have HC := fun w h => Lib.hid (C w h)
  have HR := fun w h => Lib.hid (run_any w A cap nL R G t h HF.out ht)
  have hmk := fun W => mk_bools R (by omega) W
  have HG := Lib.hid hG
  clear C hG hv ht
  go_enter Try.func28, Try.ntmps28
  go_wp2_with (go_at_call 45; refine (RetB.grown (HC _ (GRow.alloc (GRow.alloc HG.out _) _)).out).mono ?_; rintro e' w' ⟨rfl, g, rfl⟩)
  refine (HR _ (GRow.xt (GRow.alloc (GRow.alloc HG.out _) _) _)).out.mono ?_
  rintro e' w1 ⟨bS, bM, bB, bV, rfl, hS⟩
  obtain ⟨c0, c2, c3, c4, o0, o1, o2, o3⟩ := hS.f
  have HS := Lib.hid hS
  have HB0 := Lib.hid (show Below (w.heap.size + 2) ((w.alloc (.cells #[.slice A nL cap, .int .i64 (R : Int)] 54)).alloc (.cells #[.slice none 0 0, .slice none 0 0] 27)) w1 from
    Below.trans (show Below (w.heap.size + 2) ((w.alloc (.cells #[.slice A nL cap, .int .i64 (R : Int)] 54)).alloc (.cells #[.slice none 0 0, .slice none 0 0] 27)) (xt ((w.alloc (.cells #[.slice A nL cap, .int .i64 (R : Int)] 54)).alloc (.cells #[.slice none 0 0, .slice none 0 0] 27)) g) from (by repeat' (first | exact Below.refl _ _ | assumption | refine Below.xt ?_ ?_ _ | refine Below.alloc ?_ ?_ _ | refine Below.drew ?_ | refine Below.setCell ?_ ?_ _ | (simp; done) | (simp; omega)))) (HS.out.below.mono (by simp)))
  have f0 : w1.cell? ⟨w.heap.size, 0, none⟩ = some (.slice A nL cap) := (HB0.out.cell (p := ⟨w.heap.size, 0, none⟩) (by simp)).trans (by go_simp)
  have f1 : w1.cell? ⟨w.heap.size, 1, none⟩ = some (.int .i64 (R : Int)) := (HB0.out.cell (p := ⟨w.heap.size, 1, none⟩) (by simp)).trans (by go_simp)
  have q0 : w.heap.size + 2 ≤ w1.heap.size := by have := HB0.out.size; simpa using this
  have q1 : old w.heap.size w1 := by unfold old; omega
  clear hS HC HR
  go_wp2_with fail
  have HC := Lib.hid (show CvI w1 (w1.heap.size + 2) R (covL t.V 0) [] (.slice none 0 0) (.slice none 0 0) (fun n => rch G t.V 0 n) ((w1.alloc (.cells #[.slice none 0 0, .slice none 0 0] 27)).alloc (.cells (arrB R fun _ => false) 4)) from
    ⟨(by repeat' (first | exact Below.refl _ _ | assumption | refine Below.xt ?_ ?_ _ | refine Below.alloc ?_ ?_ _ | refine Below.drew ?_ | refine Below.setCell ?_ ?_ _ | (simp; done) | (simp; omega))), (Blk.new _ _ _ rfl).alloc _, Blk.new _ _ _ (by simp), own_nil, own_nil, Nat.le_refl _, fun b e => nomatch e⟩)
  go_loopg [27] (nL) (fun gk i wr => ∃ (k : Nat) (vL : Value) (bR : Nat), k + gk = nL ∧ i = .int .i64 k ∧ Hid (CvI w1 bR R (covL t.V k) [] vL (.slice none 0 0) (fun n => rch G t.V k n) wr))
  case atStart => exact ⟨0, _, _, by omega, rfl, HC⟩
  case round =>
    clear HC
    obtain ⟨k, vL, bR, hk, rfl, HC⟩ := hrel
    obtain ⟨x0, x1, x2, x3, x4, x5⟩ := HC.out.fs
    have hzz := HC.out.size
    have y1 : wr.cell? ⟨bS, 4, none⟩ = some (.slice (some ⟨bV, 0, none⟩) nL nL) := (HC.out.below.cell (p := ⟨bS, 4, none⟩) o0).trans c4
    have g0 : wr.cell? ⟨w.heap.size, 0, none⟩ = some (.slice A nL cap) := (HC.out.below.cell (p := ⟨w.heap.size, 0, none⟩) q1).trans f0
    have q2 : old w.heap.size wr := Nat.lt_of_lt_of_le q1 HC.out.below.size
    by_cases hlt : k < nL
    · have z1 : wr.cell? ⟨bV, k, none⟩ = some (.int .i64 (t.V k)) := (HC.out.below.cell (p := ⟨bV, k, none⟩) o3).trans (HS.out.v hlt).1
      have z2 : old bV wr := Nat.lt_of_lt_of_le o3 HC.out.below.size
      by_cases hV : t.V k < 0
      · have hsn : covL t.V (k + 1) = covL t.V k ++ [(k : Int)] := by rw [covL_succ, if_pos hV]
        have hle := covL_le t.V k
        have hrn : ∀ n, rch G t.V k n = rch G t.V (k + 1) n := fun n => by rw [rch_succ, decide_eq_false (by omega)]; simp
        have HSN := Lib.hid hsn
        have HRN := Lib.hid hrn
        clear hsn hrn
        generalize covL t.V k = L at *
        go_wp2_with (at_builtin; go_must (refine wpList_append_own _ rfl _ _ 23 rfl (w1.heap.size + 2) 3 i0 _ 1 8 Try.underlying23 hi0 hz0 hz1 hz2 rfl (by omega) vL L.length (L.map (Value.int .i64)) rfl (HC.out.L.alloc _) _ 1 _ [.int .i64 (k : Int)] rfl rfl ?_ ?_ ?_ ?_ ?_ ?_))
        · exact cells_new _ _ _ _ (by simp)
        · intro u hu; simp only [List.mem_cons, List.not_mem_nil, or_false] at hu; subst hu; rfl
        · simp only [maxLen]; omega
        · omega
        · simp; omega
        intro v1 w2 hown1 hgr1 _
        have hC2 : Blk w2 w1.heap.size #[vL, .slice none 0 0] 27 := (HC.out.C.alloc _).kept hgr1 (fun e => by have := (HC.out.L.lt _ e.symm).1; omega)
        have t2 : old w1.heap.size w2 := hC2.lt
        have t3 : w2.frozen? ⟨w1.heap.size, 0, none⟩ = false := hC2.frozen
        have t1 : w2.cell? ⟨w1.heap.size, 0, none⟩ = some vL := hC2.cell rfl
        have hown2 : w2.ownsRow (w1.heap.size + 2) 3 1 v1 (L ++ [(k : Int)]).length ((L ++ [(k : Int)]).map (Value.int .i64)) := by rw [ints_snoc, List.length_append]; exact hown1
        have HC2 := Lib.hid ((HC.out.pushL rfl hown2 hgr1 _ (Nat.le_refl _)).congr (fun n _ => HRN.out n))
        rw [← HSN.out] at HC2
        obtain ⟨g1, cp1, rfl⟩ := own_form hown1
        clear hown1 hown2 hgr1 hC2 HC HRN HSN
        go_wp2_with fail
        go_roundg (gk - 1)
        case measure => omega
        case rel => exact ⟨k + 1, _, _, by omega, by go_num, HC2⟩
      · obtain ⟨gf, rfl⟩ : ∃ gf, gk = gf + 1 := ⟨gk - 1, by omega⟩
        have hgr := ((HG.out.alloc (.cells #[.slice A nL cap, .int .i64 (R : Int)] 54)).alloc (.cells #[.slice none 0 0, .slice none 0 0] 27)).below (show Below ((w.alloc (.cells #[.slice A nL cap, .int .i64 (R : Int)] 54)).alloc (.cells #[.slice none 0 0, .slice none 0 0] 27)).heap.size _ w1 by simpa using HB0.out)
        obtain ⟨gb, go, rfl, hgo0, hgc⟩ := hgr.top (by omega)
        obtain ⟨Ai, ci, hgi0, hrow⟩ := hgc k hlt
        have hgi : wr.cell? ⟨gb, go + k, none⟩ = some (.slice Ai (G k).length ci) := (HC.out.below.cell (p := ⟨gb, go + k, none⟩) hgo0).trans hgi0
        have hgo : old gb wr := Nat.lt_of_lt_of_le hgo0 HC.out.below.size
        have hlk := HF.out.len k hlt
        have hsn : covL t.V (k + 1) = covL t.V k := by rw [covL_succ, if_neg hV]
        have HSN := Lib.hid hsn
        have HRN := Lib.hid (show ∀ n, (rch G t.V k n || hs ((G k).take (G k).length) (n : Int)) = rch G t.V (k + 1) n from fun n => by rw [rch_succ, decide_eq_true (by omega), List.take_length, Bool.true_and])
        have HX := Lib.hid (HF.out.g k hlt)
        have HW := Lib.hid hrow
        have HC0 := Lib.hid (show CvI w1 bR R (covL t.V k) [] vL (.slice none 0 0) (fun n => rch G t.V k n || hs ((G k).take 0) (n : Int)) wr from HC.out.congr (fun n _ => by simp [hs]))
        clear hsn hgc hrow hgr HC hgi0
        go_wp2_with fail
        go_loopg [46] ((G k).length) (fun gj j wr => ∃ (m : Nat), m + gj = (G k).length ∧ j = .int .i64 m ∧ Hid (CvI w1 bR R (covL t.V k) [] vL (.slice none 0 0) (fun n => rch G t.V k n || hs ((G k).take m) (n : Int)) wr))
        case atStart => exact ⟨0, by omega, rfl, HC0⟩
        case round =>
          clear HC0 x0 x1 x2 x3 x4 x5 hzz y1 g0 q2 z1 z2 hgi hgo
          obtain ⟨m, hm, rfl, HC⟩ := hrel
          obtain ⟨x0, x1, x2, x3, x4, x5⟩ := HC.out.fs
          by_cases hlt2 : m < (G k).length
          · obtain ⟨q, o, rfl, hq, hc⟩ := (HW.out.below HC.out.below).at_ (by omega)
            have e1 := hc m hlt2
            have HN := Lib.hid (fun n y : Nat => hs_next (m := G k) (n := n) (x := y) hlt2)
            have hxr := HX.out _ (getD_in hlt2)
            obtain ⟨x, hx⟩ : ∃ x, (G k).getD m 0 = x := ⟨_, rfl⟩
            rw [hx] at e1 hxr HN
            obtain ⟨y, rfl⟩ : ∃ y : Nat, x = (y : Int) := ⟨x.toNat, by omega⟩
            have hyr : y < R := by omega
            have e2 := HC.out.U.cell (arrB_get hyr)
            have e3 : wr.frozen? ⟨w1.heap.size + 1, y, none⟩ = false := HC.out.U.frozen
            have HC2 := Lib.hid (HC.out.mark (g := fun n => rch G t.V k n || hs ((G k).take (m + 1)) (n : Int)) y (fun j hj => by
              rw [HN.out j y rfl]
              by_cases e : j = y <;> simp [e]))
            obtain ⟨bb, hbb⟩ : ∃ bb, (rch G t.V k y || hs ((G k).take m) (y : Int)) = bb := ⟨_, rfl⟩
            rw [hbb] at e2
            clear hc hx hbb HC HN
            go_wp2_with fail
            go_roundg (gk - 1)
            case measure => omega
            case rel => exact ⟨m + 1, by omega, by go_num, HC2⟩
          · obtain rfl : m = (G k).length := by omega
            have HC2 := Lib.hid (HC.out.congr (g := fun n => rch G t.V (k + 1) n) (fun n _ => HRN.out n))
            rw [← HSN.out] at HC2
            clear HC
            go_wp2_with fail
            go_roundg gf
            case measure => omega
            case rel => exact ⟨k + 1, _, _, by omega, by go_num, HC2⟩
    · obtain rfl : k = nL := by omega
      have HC1 := Lib.hid (show CvI w1 wr.heap.size R (covL t.V k) (covR G t.V k 0) vL (.slice none 0 0) (fun n => rch G t.V k n) wr from
        ⟨HC.out.below, HC.out.C, HC.out.U, HC.out.L, own_nil, hzz, fun b e => (HC.out.L.lt b e).2⟩)
      obtain ⟨bT, hbT⟩ : ∃ bT, wr.heap.size = bT := ⟨_, rfl⟩
      have hbT2 : bT ≤ wr.heap.size := by omega
      rw [hbT] at HC1
      clear HC hbT
      go_wp2_with fail
      go_loopg [57] (R) (fun gk i wr => ∃ (m : Nat) (vR : Value), m + gk = R ∧ i = .int .i64 m ∧ bT ≤ wr.heap.size ∧ Hid (CvI w1 bT R (covL t.V k) (covR G t.V k m) vL vR (fun n => rch G t.V k n) wr))
      case atStart => exact ⟨0, _, by omega, rfl, hbT2, HC1⟩
      case round =>
        clear HC1 x0 x1 x2 x3 x4 x5 hzz y1 g0 q2 hbT2
        obtain ⟨m, vR, hm, rfl, hbT2, HC⟩ := hrel
        obtain ⟨x0, x1, x2, x3, x4, x5⟩ := HC.out.fs
        have hzz := HC.out.size
        by_cases hlt2 : m < R
        · have e2 := HC.out.U.cell (arrB_get hlt2)
          have HM := Lib.hid (covR_succ G t.V k m)
          have hle := covR_le G t.V k m
          rcases Bool.eq_false_or_eq_true (rch G t.V k m) with hr | hr
          · have HSN := Lib.hid (show covR G t.V k (m + 1) = covR G t.V k m ++ [(m : Int)] by rw [HM.out, if_pos hr])
            rw [hr] at e2
            clear hr HM
            generalize covR G t.V k m = L at *
            go_wp2_with (at_builtin; go_must (refine wpList_append_own _ rfl _ _ 23 rfl bT 3 i0 _ 1 8 Try.underlying23 hi0 hz0 hz1 hz2 rfl (by omega) vR L.length (L.map (Value.int .i64)) rfl (HC.out.Rr.alloc _) _ 1 _ [.int .i64 (m : Int)] rfl rfl ?_ ?_ ?_ ?_ ?_ ?_))
            · exact cells_new _ _ _ _ (by simp)
            · intro u hu; simp only [List.mem_cons, List.not_mem_nil, or_false] at hu; subst hu; rfl
            · simp only [maxLen]; omega
            · omega
            · simp; omega
            intro v1 w2 hown1 hgr1 _
            have hbR := HC.out.hR
            have hC2 : Blk w2 w1.heap.size #[vL, vR] 27 := (HC.out.C.alloc _).kept hgr1 (fun e => by have := (HC.out.Rr.lt _ e.symm).1; omega)
            have t2 : old w1.heap.size w2 := hC2.lt
            have t3 : w2.frozen? ⟨w1.heap.size, 1, none⟩ = false := hC2.frozen
            have t1 : w2.cell? ⟨w1.heap.size, 1, none⟩ = some vR := hC2.cell rfl
            have hbT3 : bT ≤ w2.heap.size := by have := hgr1.size; simp at this; omega
            have hown2 : w2.ownsRow bT 3 1 v1 (L ++ [(m : Int)]).length ((L ++ [(m : Int)]).map (Value.int .i64)) := by rw [ints_snoc, List.length_append]; exact hown1
            have HC2 := Lib.hid (HC.out.pushR hbT2 hown2 hgr1)
            rw [← HSN.out] at HC2
            obtain ⟨g1, cp1, rfl⟩ := own_form hown1
            clear hown1 hown2 hgr1 hC2 HC HSN hbT2
            go_wp2_with fail
            go_roundg (gk - 1)
            case measure => omega
            case rel => exact ⟨m + 1, _, by omega, by go_num, by simpa using hbT3, HC2⟩
          · have HSN := Lib.hid (show covR G t.V k (m + 1) = covR G t.V k m by rw [HM.out, if_neg (by rw [hr]; decide)])
            rw [hr] at e2
            have HC2 := HC
            rw [← HSN.out] at HC2
            clear hr HM HC
            go_wp2_with fail
            go_roundg (gk - 1)
            case measure => omega
            case rel => exact ⟨m + 1, _, by omega, by go_num, hbT2, HC2⟩
        · obtain rfl : m = R := by omega
          have hres : Blk wr (w.heap.size + 1) #[.slice none 0 0, .slice none 0 0] 27 :=
            ((show Blk ((w.alloc (.cells #[.slice A k cap, .int .i64 (m : Int)] 54)).alloc (.cells #[.slice none 0 0, .slice none 0 0] 27)) (w.heap.size + 1) #[.slice none 0 0, .slice none 0 0] 27 from Blk.new _ _ _ (by simp)).below HB0.out (by omega)).below HC.out.below (by omega)
          have r1 : old (w.heap.size + 1) wr := hres.lt
          have r2 : wr.frozen? ⟨w.heap.size + 1, 0, none⟩ = false := hres.frozen
          have r3 : wr.frozen? ⟨w.heap.size + 1, 1, none⟩ = false := hres.frozen
          have r4 : wr.cell? ⟨w.heap.size + 1, 0, none⟩ = some (.slice none 0 0) := hres.cell rfl
          have r5 : wr.cell? ⟨w.heap.size + 1, 1, none⟩ = some (.slice none 0 0) := hres.cell rfl
          obtain ⟨Aa, ca, rfl, hca, _⟩ := own_row HC.out.L
          obtain ⟨Ab, cb, rfl, hcb, _⟩ := own_row HC.out.Rr
          have HBe := Lib.hid (show Below w.heap.size w wr from
            (show Below w.heap.size w ((w.alloc (.cells #[.slice A k cap, .int .i64 (m : Int)] 54)).alloc (.cells #[.slice none 0 0, .slice none 0 0] 27)) from (by repeat' (first | exact Below.refl _ _ | assumption | refine Below.xt ?_ ?_ _ | refine Below.alloc ?_ ?_ _ | refine Below.drew ?_ | refine Below.setCell ?_ ?_ _ | (simp; done) | (simp; omega)))).trans ((HB0.out.mono (by omega)).trans (HC.out.below.mono (by omega))))
          have HCa := Lib.hid hca
          have HCb := Lib.hid hcb
          have hbR := HC.out.hR
          have hb1 := (hres.set (k := 0) (.slice Aa (covL t.V k).length ca)).set (k := 1) (.slice Ab (covR G t.V k m).length cb)
          have hrA := own_low (base := w.heap.size) (own_set (own_set HC.out.L (w.heap.size + 1) 0 (.slice Aa (covL t.V k).length ca) (by omega)) (w.heap.size + 1) 1 (.slice Ab (covR G t.V k m).length cb) (by omega)) (by omega)
          have hrB := own_low (base := w.heap.size) (own_set (own_set HC.out.Rr (w.heap.size + 1) 0 (.slice Aa (covL t.V k).length ca) (by omega)) (w.heap.size + 1) 1 (.slice Ab (covR G t.V k m).length cb) (by omega)) (by omega)
          have hbe := HBe.out
          have HBe2 := Lib.hid (show Below w.heap.size w ((wr.setCell ⟨w.heap.size + 1, 0, none⟩ (.slice Aa (covL t.V k).length ca)).setCell ⟨w.heap.size + 1, 1, none⟩ (.slice Ab (covR G t.V k m).length cb)) from (by repeat' (first | exact Below.refl _ _ | assumption | refine Below.xt ?_ ?_ _ | refine Below.alloc ?_ ?_ _ | refine Below.drew ?_ | refine Below.setCell ?_ ?_ _ | (simp; done) | (simp; omega))))
          clear hbe
          have s1 := (hres.set (k := 0) (.slice Aa (covL t.V k).length ca)).cell (j := 0) rfl
          have s2 := hb1.cell (j := 1) rfl
          have S1 := Lib.hid s1
          have S2 := Lib.hid s2
          have HrA := Lib.hid hrA
          have HrB := Lib.hid hrB
          clear hres hca hcb hb1 s1 s2 hrA hrB
          go_wp2_with fail
          have s1 := S1.out
          have s2 := S2.out
          refine bodyPost_ret (v := .tuple #[.agg #[.slice Aa (covL t.V k).length ca, .slice Ab (covR G t.V k m).length cb], .int .i64 0]) (by simp [results, Try.results28, go_sem, s1, s2]) rfl ?_
          exact ⟨Aa, ca, Ab, cb, rfl, HBe2.out, HrA.out, HrB.out⟩
theorem Cover_own (A : Option Addr) (nL cap R : Nat) (G : Nat → List Int) (w : World) (hG : GRow w A nL G) (hv : vld G nL R = true) :
    Calls Try.prog 28 #[.agg #[.slice A nL cap, .int .i64 (R : Int)]] w (RetCovO (cvL G nL) (cvR G nL R) 0 w) := Cover_to A nL cap R G (fin G nL) w hG hv (fin_spec G hv).1
end Go.Proofs.Ytjiknjcmfiapjaa


/- Walks: the colour of a group at a time, by the program. Conditions stand in each theorem. -/
import Derived.Test.YtiikejhkhdmgeaaGreatLigC3
import Derived.Test.YtiikejhkhdmgeaaGreatEffW6
namespace Go.Proofs.YtiikejhkhdmgeaaGreat
open Go.RowKit
set_option linter.unusedVariables false
set_option linter.unusedSimpArgs false
attribute [local go_sem ↓] ld6

set_option maxHeartbeats 400000 in
theorem now0_any (t : Int) (w : World) : Calls Tryz.prog 57 #[.int .i64 t] w (RetB (.agg #[.int .u8 black.r, .int .u8 black.g, .int .u8 black.b]) w) := by
  go_enter Tryz.func57, Tryz.ntmps57
  go_wp2
  refine bodyPost_ret (v := .agg #[.int .u8 black.r, .int .u8 black.g, .int .u8 black.b]) (by simp [results, Tryz.results57, go_sem, black]) rfl ?_
  exact RetB.of rfl (by repeat' (first | exact Below.refl _ _ | assumption | refine Below.xt ?_ ?_ _ | refine Below.alloc ?_ ?_ _ | refine Below.drew ?_ | refine Below.setCell ?_ ?_ _ | (simp; done) | (simp; omega)))
def nowC (c : Cu) (s : Col) (t : Int) : Col := if c.t + c.f ≤ t then c.c else mixCol s c.c (t - c.t) c.f
set_option maxRecDepth 100000 in
set_option maxHeartbeats 1600000 in
theorem now1_any (c : Cu) (s : Col) (t : Int) (B1 B2 : Nat) (w : World) (hs : s.ok) (hc : c.c.ok) (h0 : 0 ≤ c.t) (h1 : 0 ≤ c.f) (h1' : c.f ≤ 3600000) (h2 : c.t ≤ t) (h3 : t ≤ 3600000) (o1 : old B1 w) (o2 : old B2 w)
    (c0 : w.cell? ⟨B1, 0, none⟩ = some (.int .i64 c.t)) (c1 : w.cell? ⟨B1, 1, none⟩ = some (.int .i64 c.f)) (c3 : w.cell? ⟨B1, 3, none⟩ = some (.int .u8 c.c.r)) (c4 : w.cell? ⟨B1, 4, none⟩ = some (.int .u8 c.c.g)) (c5 : w.cell? ⟨B1, 5, none⟩ = some (.int .u8 c.c.b))
    (s0 : w.cell? ⟨B2, 0, none⟩ = some (.int .u8 s.r)) (s1 : w.cell? ⟨B2, 1, none⟩ = some (.int .u8 s.g)) (s2 : w.cell? ⟨B2, 2, none⟩ = some (.int .u8 s.b)) :
    Calls Tryz.prog 59 #[.int .i64 t, .pointer (some ⟨B1, 0, none⟩), .pointer (some ⟨B2, 0, none⟩)] w (RetB (.agg #[.int .u8 (nowC c s t).r, .int .u8 (nowC c s t).g, .int .u8 (nowC c s t).b]) w) := by
  have hB1 : B1 < w.heap.size := o1
  have hB2 : B2 < w.heap.size := o2
  by_cases hg : c.t + c.f ≤ t
  · have E := Lib.hid (show nowC c s t = c.c by rw [nowC, if_pos hg])
    generalize nowC c s t = R at *
    clear hs hc
    go_enter Tryz.func59, Tryz.ntmps59
    go_wp2
    rw [E.out]
    refine bodyPost_ret (v := .agg #[.int .u8 c.c.r, .int .u8 c.c.g, .int .u8 c.c.b]) (by simp [results, Tryz.results59, go_sem]) rfl ?_
    exact RetB.of rfl (by repeat' (first | exact Below.refl _ _ | assumption | refine Below.xt ?_ ?_ _ | refine Below.alloc ?_ ?_ _ | refine Below.drew ?_ | refine Below.setCell ?_ ?_ _ | (simp; done) | (simp; omega)))
  · have E := Lib.hid (show nowC c s t = mixCol s c.c (t - c.t) c.f by rw [nowC, if_neg hg])
    have C := fun w => Lib.hid (Mix_ok s c.c (t - c.t) c.f w hs hc (by omega) (by omega) (by omega) (by omega))
    generalize nowC c s t = R at *
    generalize mixCol s c.c (t - c.t) c.f = M at *
    clear hs hc
    go_enter Tryz.func59, Tryz.ntmps59
    go_wp2_with (first
      | (go_at_call 52; refine (RetB.grown ((C _).out)).mono ?_; rintro e' w' ⟨rfl, g, rfl⟩)
      | (refine wp_region_xt (by kernel_rfl) (by kernel_rfl) ?_; (repeat (go_big_quiet_step (first | (go_at_call 52; exact RetB.quiet ((C _).out))))); refine wpQuiet_nil ?_; intro g))
    rw [E.out]
    refine bodyPost_ret (v := .agg #[.int .u8 M.r, .int .u8 M.g, .int .u8 M.b]) (by simp [results, Tryz.results59, go_sem]) rfl ?_
    exact RetB.of rfl (by repeat' (first | exact Below.refl _ _ | assumption | refine Below.xt ?_ ?_ _ | refine Below.alloc ?_ ?_ _ | refine Below.drew ?_ | refine Below.setCell ?_ ?_ _ | (simp; done) | (simp; omega)))

/-- The function value that stands behind the first k cues. -/
def NowIs (F : List Cu) (k : Nat) (v : Value) (w : World) : Prop :=
  (k = 0 ∧ v = .func (.func 57) #[] #[]) ∨
  ∃ j B1 B2, k = j + 1 ∧ v = .func (.func 59) #[] #[.pointer (some ⟨B1, 0, none⟩), .pointer (some ⟨B2, 0, none⟩)] ∧ old B1 w ∧ old B2 w ∧
    (∀ i, i < 6 → w.cell? ⟨B1, i, none⟩ = some (ucell (cu F j) i)) ∧ (∀ i, i < 3 → w.cell? ⟨B2, i, none⟩ = some (if i = 0 then .int .u8 (val F j (cu F j).t).r else if i = 1 then .int .u8 (val F j (cu F j).t).g else .int .u8 (val F j (cu F j).t).b))
theorem NowIs.xt {F : List Cu} {k : Nat} {v : Value} {w : World} (h : NowIs F k v w) (g : Gr) : NowIs F k v (xt w g) := by
  rcases h with h | ⟨j, B1, B2, h1, h2, h3, h4, h5, h6⟩
  · exact .inl h
  · refine .inr ⟨j, B1, B2, h1, h2, by rw [old_xt]; exact .inl h3, by rw [old_xt]; exact .inl h4, fun i hi => ?_, fun i hi => ?_⟩
    · rw [xt_cell w g B1 i none h3]; exact h5 i hi
    · rw [xt_cell w g B2 i none h4]; exact h6 i hi
theorem NowIs.alloc {F : List Cu} {k : Nat} {v : Value} {w : World} (h : NowIs F k v w) (o : Obj) : NowIs F k v (w.alloc o) := by
  obtain ⟨g, hg⟩ := xt_of_below ((Below.refl w.heap.size w).alloc (Nat.le_refl _) o)
  rw [hg]; exact h.xt g
theorem now_val {F : List Cu} {j : Nat} {t : Int} (h : (cu F j).t ≤ t) : nowC (cu F j) (val F j (cu F j).t) t = val F (j + 1) t := by
  rw [val_now h]; rfl
theorem NowIs.next {F : List Cu} {k : Nat} {w : World} {B1 B2 : Nat} (h1 : old B1 w) (h2 : old B2 w)
    (c0 : w.cell? ⟨B1, 0, none⟩ = some (.int .i64 (cu F k).t)) (c1 : w.cell? ⟨B1, 1, none⟩ = some (.int .i64 (cu F k).f)) (c2 : w.cell? ⟨B1, 2, none⟩ = some (.string (cu F k).g)) (c3 : w.cell? ⟨B1, 3, none⟩ = some (.int .u8 (cu F k).c.r)) (c4 : w.cell? ⟨B1, 4, none⟩ = some (.int .u8 (cu F k).c.g)) (c5 : w.cell? ⟨B1, 5, none⟩ = some (.int .u8 (cu F k).c.b))
    (s0 : w.cell? ⟨B2, 0, none⟩ = some (.int .u8 (val F k (cu F k).t).r)) (s1 : w.cell? ⟨B2, 1, none⟩ = some (.int .u8 (val F k (cu F k).t).g)) (s2 : w.cell? ⟨B2, 2, none⟩ = some (.int .u8 (val F k (cu F k).t).b)) :
    NowIs F (k + 1) (.func (.func 59) #[] #[.pointer (some ⟨B1, 0, none⟩), .pointer (some ⟨B2, 0, none⟩)]) w := by
  refine .inr ⟨k, B1, B2, rfl, rfl, h1, h2, fun i hi => ?_, fun i hi => ?_⟩
  · have : i = 0 ∨ i = 1 ∨ i = 2 ∨ i = 3 ∨ i = 4 ∨ i = 5 := by omega
    rcases this with rfl | rfl | rfl | rfl | rfl | rfl
    · exact c0
    · exact c1
    · exact c2
    · exact c3
    · exact c4
    · exact c5
  · have : i = 0 ∨ i = 1 ∨ i = 2 := by omega
    rcases this with rfl | rfl | rfl
    · exact s0
    · exact s1
    · exact s2
/-- The call of the function value, at a time that is not before its cue. -/
def NowCalls (v : Value) (t : Int) (c : Col) (w : World) : Prop := ∀ g : Gr, ∀ f cl, v = .func (.func f) #[] cl → Calls Tryz.prog f (#[.int .i64 t] ++ cl) (xt w g) (RetB (.agg #[.int .u8 c.r, .int .u8 c.g, .int .u8 c.b]) (xt w g))
/-- What the cues of a group are like. -/
def okU (F : List Cu) : Prop := ∀ i, i < F.length → (0 ≤ (cu F i).t ∧ (cu F i).t ≤ 3600000) ∧ (0 ≤ (cu F i).f ∧ (cu F i).f ≤ 3600000) ∧ (cu F i).c.ok

theorem now_rel {F : List Cu} {A : Option Addr} {w0 W : World} {k : Nat} {u i : Value} {t : Int} (h1 : k + 1 ≤ F.length) (hi : i = .int .i64 ((k + 1 : Nat) : Int)) (hb : Below w0.heap.size w0 W) (hr : RowU W A F) (hn : NowIs F (k + 1) u W) (hT : Hid (∀ q, q < k + 1 → (cu F q).t ≤ t)) :
    ∃ (k : Nat) (g : Gr), k ≤ F.length ∧ i = .int .i64 k ∧ W = xt w0 g ∧ Hid (RowU (xt w0 g) A F) ∧ Hid (NowIs F k u (xt w0 g)) ∧ Hid (∀ q, q < k → (cu F q).t ≤ t) := by
  obtain ⟨g, rfl⟩ := xt_of_below hb
  exact ⟨k + 1, g, h1, hi, rfl, Lib.hid hr, Lib.hid hn, hT⟩
set_option maxRecDepth 100000 in
set_option maxHeartbeats 3200000 in
theorem Value_ok (A : Option Addr) (n cap : Nat) (l : List Cu) (x : ByteArray) (t : Int) (w : World) (hn : n = l.length) (hm : n ≤ 1000) (hf : fineU l) (hr : RowU w A l) (hx : x.size ≤ maxLen) (hv : cusB l = true) (hN : nameB x = true) (ht0 : 0 ≤ t) (ht1 : t ≤ 3600000) :
    Calls Tryz.prog 32 #[.slice A n cap, .string x, .int .i64 t] w (RetB (.tuple #[.agg #[.int .u8 (valG l x t).r, .int .u8 (valG l x t).g, .int .u8 (valG l x t).b], .int .i64 0]) w) := by
  have K1 := fun w h => Lib.hid (cueValid_any A n cap l w hn (by omega) hf h)
  rw [hv] at K1
  have K2 := fun w => Lib.hid (vname_any x w hx)
  rw [hN] at K2
  have K3 := fun w => Lib.hid (cwithin_any t w)
  rw [show isT t = true from within_iff.2 ⟨ht0, ht1⟩] at K3
  have K4 := fun w h => Lib.hid (of_any A n cap l x w hn hm h)
  have HR := Lib.hid hr
  have HF := Lib.hid (show okU (ofG l x) from fun i hi => by
    obtain ⟨j, hj, e, _⟩ := ofG_mem hi
    have h1 := (cusB_iff.1 hv).1 j hj
    simp only [cuOk, isT, Bool.and_eq_true, within_iff] at h1
    rw [← e]
    exact ⟨h1.1.1, h1.1.2, (hf j hj).2.1⟩)
  have HI := Lib.hid (show ∀ i k, i < k → k < (ofG l x).length → (cu (ofG l x) i).t < (cu (ofG l x) k).t from fun i k h1 h2 => ofG_rise hv x h1 h2)
  have HL := Lib.hid (show (ofG l x).length ≤ 1000 from by have := ofG_len l x; omega)
  have HV := Lib.hid (show valG l x t = val (ofG l x) (ofG l x).length t from rfl)
  generalize ofG l x = F at *
  generalize valG l x t = V at *
  have hL := HL.out
  clear hn hm hf hr hx hv hN
  go_enter Tryz.func32, Tryz.ntmps32
  go_wp2_with (first
    | (go_at_call 44; refine (RetB.grown ((K1 _ (by repeat (first | (with_reducible exact HR.out) | (with_reducible refine RowU.alloc ?_ _)))).out)).mono ?_; rintro e' w' ⟨rfl, g, rfl⟩)
    | (go_at_call 55; refine ((K2 _).out).mono ?_; rintro e' w' ⟨rfl, rfl⟩)
    | (go_at_call 56; refine ((K3 _).out).mono ?_; rintro e' w' ⟨rfl, rfl⟩)
    | (refine wp_region_xt (by kernel_rfl) (by kernel_rfl) ?_; (repeat (go_big_quiet_step (first | (go_at_call 44; exact RetB.quiet ((K1 _ (by repeat (first | (with_reducible exact HR.out) | (with_reducible refine RowU.alloc ?_ _)))).out)) | (go_at_call 55; exact Ret.quiet ((K2 _).out)) | (go_at_call 56; exact Ret.quiet ((K3 _).out))))); refine wpQuiet_nil ?_; intro g))
  refine (K4 _ (by repeat (first | (with_reducible exact HR.out) | (with_reducible refine RowU.alloc ?_ _) | (with_reducible refine RowU.xt ?_ _)))).out.mono ?_
  rintro e' w' ⟨A1, c1, rfl, hb, hrow, _, _⟩
  obtain ⟨g', rfl⟩ : ∃ g', w' = xt (w.alloc (.cells #[.int .u8 0, .int .u8 0, .int .u8 0] 42)) g' := xt_of_below (Below.next' (by repeat' (first | exact Below.refl _ _ | assumption | refine Below.xt ?_ ?_ _ | refine Below.alloc ?_ ?_ _ | refine Below.drew ?_ | refine Below.setCell ?_ ?_ _ | (simp; done) | (simp; omega))) hb (by simp))
  have HRow := Lib.hid hrow
  clear hb K1 K2 K3 K4 hrow
  go_wp2_with fail
  go_loopw [8, 31] (fun u8 i wr => ∃ (k : Nat) (g : Gr), k ≤ F.length ∧ i = .int .i64 k ∧ wr = xt (w.alloc (.cells #[.int .u8 0, .int .u8 0, .int .u8 0] 42)) g ∧ Hid (RowU (xt (w.alloc (.cells #[.int .u8 0, .int .u8 0, .int .u8 0] 42)) g) A1 F) ∧ Hid (NowIs F k u8 (xt (w.alloc (.cells #[.int .u8 0, .int .u8 0, .int .u8 0] 42)) g)) ∧ Hid (∀ q, q < k → (cu F q).t ≤ t)) (fun _ i _ => F.length - (intOf i).toNat)
  case atStart => exact ⟨0, g', by omega, rfl, rfl, HRow, Lib.hid (.inl ⟨rfl, rfl⟩), Lib.hid fun q hq => absurd hq (by omega)⟩
  case round =>
    clear HRow
    obtain ⟨k, g, hk, rfl, rfl, HRow, HNow, HT⟩ := hrel
    by_cases hlt : k < F.length
    · obtain ⟨b, o, rfl, hbo, hc⟩ := Row.at_ HRow.out (by omega)
      obtain ⟨x0, x1, x2, x3, x4, x5⟩ := RowU.cells hc hlt
      clear hc
      by_cases hT : t < (cu F k).t
      · have HE := Lib.hid (show val F k t = V by rw [HV.out]; exact (val_skip hk fun j h1 h2 => by
          by_cases e : k = j
          · subst e; exact hT
          · have := HI.out k j (by omega) h2; omega).symm)
        clear HV HI
        rcases HNow.out with ⟨hk0, rfl⟩ | ⟨j, B1, B2, hkj, rfl, o1, o2, h5, h6⟩
        · have HE2 := Lib.hid (show black = V by rw [← HE.out, hk0]; rfl)
          clear HE HNow HT HF hk0
          go_wp2_with (first
            | (go_at_call 57; refine (RetB.grown (now0_any _ _)).mono ?_; rintro e' w' ⟨rfl, g, rfl⟩)
            | (refine wp_region_xt (by kernel_rfl) (by kernel_rfl) ?_; (repeat (go_big_quiet_step (first | (go_at_call 57; exact RetB.quiet (now0_any _ _))))); refine wpQuiet_nil ?_; intro g))
          rw [← HE2.out]
          refine bodyPost_ret (v := .tuple #[.agg #[.int .u8 black.r, .int .u8 black.g, .int .u8 black.b], .int .i64 0]) (by simp [results, Tryz.results32, go_sem, black]) rfl ?_
          exact RetB.of rfl (by repeat' (first | exact Below.refl _ _ | assumption | refine Below.xt ?_ ?_ _ | refine Below.alloc ?_ ?_ _ | refine Below.drew ?_ | refine Below.setCell ?_ ?_ _ | (simp; done) | (simp; omega)))
        · have hjn : (cu F j).t ≤ t := HT.out j (by omega)
          have N := fun W q1 q2 q3 q4 q5 q6 q7 q8 q9 q10 => Lib.hid (now1_any (cu F j) (val F j (cu F j).t) t B1 B2 W (val_ok fun i hi => (HF.out i (by omega)).2.2) (HF.out j (by omega)).2.2 (HF.out j (by omega)).1.1 (HF.out j (by omega)).2.1.1 (HF.out j (by omega)).2.1.2 hjn ht1 q1 q2 q3 q4 q5 q6 q7 q8 q9 q10)
          have e6 : nowC (cu F j) (val F j (cu F j).t) t = V := by rw [now_val hjn, ← HE.out, hkj]
          rw [e6] at N
          have y0 := h5 0 (by omega)
          have y1 := h5 1 (by omega)
          have y3 := h5 3 (by omega)
          have y4 := h5 4 (by omega)
          have y5 := h5 5 (by omega)
          have z0 := h6 0 (by omega)
          have z1 := h6 1 (by omega)
          have z2 := h6 2 (by omega)
          simp only [ucell, if_true, if_false, Nat.one_ne_zero, Nat.reduceEqDiff] at y0 y1 y3 y4 y5 z0 z1 z2
          clear HE HNow HT HF h5 h6 e6 hjn hkj
          go_wp2_with (first
            | (go_at_call 59; refine (RetB.grown ((N _ (by go_simp) (by go_simp) (by go_simp) (by go_simp) (by go_simp) (by go_simp) (by go_simp) (by go_simp) (by go_simp) (by go_simp)).out)).mono ?_; rintro e' w' ⟨rfl, g, rfl⟩)
            | (refine wp_region_xt (by kernel_rfl) (by kernel_rfl) ?_; (repeat (go_big_quiet_step (first | (go_at_call 59; exact RetB.quiet ((N _ (by go_simp) (by go_simp) (by go_simp) (by go_simp) (by go_simp) (by go_simp) (by go_simp) (by go_simp) (by go_simp) (by go_simp)).out))))); refine wpQuiet_nil ?_; intro g))
          refine bodyPost_ret (v := .tuple #[.agg #[.int .u8 V.r, .int .u8 V.g, .int .u8 V.b], .int .i64 0]) (by simp [results, Tryz.results32, go_sem]) rfl ?_
          exact RetB.of rfl (by repeat' (first | exact Below.refl _ _ | assumption | refine Below.xt ?_ ?_ _ | refine Below.alloc ?_ ?_ _ | refine Below.drew ?_ | refine Below.setCell ?_ ?_ _ | (simp; done) | (simp; omega)))
      · have HT' := Lib.hid (show ∀ q, q < k + 1 → (cu F q).t ≤ t from fun q hq => if e : q = k then by subst e; omega else HT.out q (by omega))
        rcases HNow.out with ⟨hk0, rfl⟩ | ⟨j, B1, B2, hkj, rfl, o1, o2, h5, h6⟩
        · have HE2 := Lib.hid (show val F k (cu F k).t = black by rw [hk0]; rfl)
          clear HNow HT HV hk0
          go_wp2_with (first
            | (go_at_call 57; refine (RetB.grown (now0_any _ _)).mono ?_; rintro e' w' ⟨rfl, g, rfl⟩)
            | (refine wp_region_xt (by kernel_rfl) (by kernel_rfl) ?_; (repeat (go_big_quiet_step (first | (go_at_call 57; exact RetB.quiet (now0_any _ _))))); refine wpQuiet_nil ?_; intro g))
          have hi : IntKind.i64.wrap ((k : Int) + 1) = (k : Int) + 1 := IntWalk.i64_in _ (by omega)
          go_roundw
          case rel => exact now_rel hlt (by go_num) (by repeat' (first | exact Below.refl _ _ | assumption | refine Below.xt ?_ ?_ _ | refine Below.alloc ?_ ?_ _ | refine Below.drew ?_ | refine Below.setCell ?_ ?_ _ | (simp; done) | (simp; omega))) (by repeat (first | (with_reducible exact HRow.out) | (with_reducible refine RowU.alloc ?_ _) | (with_reducible refine RowU.xt ?_ _))) (NowIs.next (by go_simp) (by go_simp) (by go_simp) (by go_simp) (by go_simp) (by go_simp) (by go_simp) (by go_simp) (by rw [HE2.out]; go_simp) (by rw [HE2.out]; go_simp) (by rw [HE2.out]; go_simp)) HT'
          case measure => simp [intOf]; omega
        · have hjn : (cu F j).t ≤ (cu F k).t := Int.le_of_lt (HI.out j k (by omega) hlt)
          have N := fun W q1 q2 q3 q4 q5 q6 q7 q8 q9 q10 => Lib.hid (now1_any (cu F j) (val F j (cu F j).t) (cu F k).t B1 B2 W (val_ok fun i hi => (HF.out i (by omega)).2.2) (HF.out j (by omega)).2.2 (HF.out j (by omega)).1.1 (HF.out j (by omega)).2.1.1 (HF.out j (by omega)).2.1.2 hjn (HF.out k hlt).1.2 q1 q2 q3 q4 q5 q6 q7 q8 q9 q10)
          obtain ⟨V', hV'⟩ : ∃ V', val F k (cu F k).t = V' := ⟨_, rfl⟩
          have e6 : nowC (cu F j) (val F j (cu F j).t) (cu F k).t = V' := by rw [now_val hjn, ← hkj]; exact hV'
          rw [e6] at N
          have HE2 := Lib.hid hV'
          have y0 := h5 0 (by omega)
          have y1 := h5 1 (by omega)
          have y3 := h5 3 (by omega)
          have y4 := h5 4 (by omega)
          have y5 := h5 5 (by omega)
          have z0 := h6 0 (by omega)
          have z1 := h6 1 (by omega)
          have z2 := h6 2 (by omega)
          simp only [ucell, if_true, if_false, Nat.one_ne_zero, Nat.reduceEqDiff] at y0 y1 y3 y4 y5 z0 z1 z2
          have hi : IntKind.i64.wrap ((k : Int) + 1) = (k : Int) + 1 := IntWalk.i64_in _ (by omega)
          clear HNow HT HV h5 h6 e6 hjn hkj hV'
          go_wp2_with (first
            | (go_at_call 59; refine (RetB.grown ((N _ (by go_simp) (by go_simp) (by go_simp) (by go_simp) (by go_simp) (by go_simp) (by go_simp) (by go_simp) (by go_simp) (by go_simp)).out)).mono ?_; rintro e' w' ⟨rfl, g, rfl⟩)
            | (refine wp_region_xt (by kernel_rfl) (by kernel_rfl) ?_; (repeat (go_big_quiet_step (first | (go_at_call 59; exact RetB.quiet ((N _ (by go_simp) (by go_simp) (by go_simp) (by go_simp) (by go_simp) (by go_simp) (by go_simp) (by go_simp) (by go_simp) (by go_simp)).out))))); refine wpQuiet_nil ?_; intro g))
          go_roundw
          case rel => exact now_rel hlt (by go_num) (by repeat' (first | exact Below.refl _ _ | assumption | refine Below.xt ?_ ?_ _ | refine Below.alloc ?_ ?_ _ | refine Below.drew ?_ | refine Below.setCell ?_ ?_ _ | (simp; done) | (simp; omega))) (by repeat (first | (with_reducible exact HRow.out) | (with_reducible refine RowU.alloc ?_ _) | (with_reducible refine RowU.xt ?_ _))) (NowIs.next (by go_simp) (by go_simp) (by go_simp) (by go_simp) (by go_simp) (by go_simp) (by go_simp) (by go_simp) (by rw [HE2.out]; go_simp) (by rw [HE2.out]; go_simp) (by rw [HE2.out]; go_simp)) HT'
          case measure => simp [intOf]; omega
    · have hkF : k = F.length := by omega
      have HE := Lib.hid (show val F k t = V by rw [hkF]; exact HV.out.symm)
      clear HV HI
      rcases HNow.out with ⟨hk0, rfl⟩ | ⟨j, B1, B2, hkj, rfl, o1, o2, h5, h6⟩
      · have HE2 := Lib.hid (show black = V by rw [← HE.out, hk0]; rfl)
        clear HE HNow HT HF hk0 hkF
        go_wp2_with (first
          | (go_at_call 57; refine (RetB.grown (now0_any _ _)).mono ?_; rintro e' w' ⟨rfl, g, rfl⟩)
          | (refine wp_region_xt (by kernel_rfl) (by kernel_rfl) ?_; (repeat (go_big_quiet_step (first | (go_at_call 57; exact RetB.quiet (now0_any _ _))))); refine wpQuiet_nil ?_; intro g))
        rw [← HE2.out]
        refine bodyPost_ret (v := .tuple #[.agg #[.int .u8 black.r, .int .u8 black.g, .int .u8 black.b], .int .i64 0]) (by simp [results, Tryz.results32, go_sem, black]) rfl ?_
        exact RetB.of rfl (by repeat' (first | exact Below.refl _ _ | assumption | refine Below.xt ?_ ?_ _ | refine Below.alloc ?_ ?_ _ | refine Below.drew ?_ | refine Below.setCell ?_ ?_ _ | (simp; done) | (simp; omega)))
      · have hjn : (cu F j).t ≤ t := HT.out j (by omega)
        have N := fun W q1 q2 q3 q4 q5 q6 q7 q8 q9 q10 => Lib.hid (now1_any (cu F j) (val F j (cu F j).t) t B1 B2 W (val_ok fun i hi => (HF.out i (by omega)).2.2) (HF.out j (by omega)).2.2 (HF.out j (by omega)).1.1 (HF.out j (by omega)).2.1.1 (HF.out j (by omega)).2.1.2 hjn ht1 q1 q2 q3 q4 q5 q6 q7 q8 q9 q10)
        have e6 : nowC (cu F j) (val F j (cu F j).t) t = V := by rw [now_val hjn, ← HE.out, hkj]
        rw [e6] at N
        have y0 := h5 0 (by omega)
        have y1 := h5 1 (by omega)
        have y3 := h5 3 (by omega)
        have y4 := h5 4 (by omega)
        have y5 := h5 5 (by omega)
        have z0 := h6 0 (by omega)
        have z1 := h6 1 (by omega)
        have z2 := h6 2 (by omega)
        simp only [ucell, if_true, if_false, Nat.one_ne_zero, Nat.reduceEqDiff] at y0 y1 y3 y4 y5 z0 z1 z2
        clear HE HNow HT HF h5 h6 e6 hjn hkj hkF
        go_wp2_with (first
          | (go_at_call 59; refine (RetB.grown ((N _ (by go_simp) (by go_simp) (by go_simp) (by go_simp) (by go_simp) (by go_simp) (by go_simp) (by go_simp) (by go_simp) (by go_simp)).out)).mono ?_; rintro e' w' ⟨rfl, g, rfl⟩)
          | (refine wp_region_xt (by kernel_rfl) (by kernel_rfl) ?_; (repeat (go_big_quiet_step (first | (go_at_call 59; exact RetB.quiet ((N _ (by go_simp) (by go_simp) (by go_simp) (by go_simp) (by go_simp) (by go_simp) (by go_simp) (by go_simp) (by go_simp) (by go_simp)).out))))); refine wpQuiet_nil ?_; intro g))
        refine bodyPost_ret (v := .tuple #[.agg #[.int .u8 V.r, .int .u8 V.g, .int .u8 V.b], .int .i64 0]) (by simp [results, Tryz.results32, go_sem]) rfl ?_
        exact RetB.of rfl (by repeat' (first | exact Below.refl _ _ | assumption | refine Below.xt ?_ ?_ _ | refine Below.alloc ?_ ?_ _ | refine Below.drew ?_ | refine Below.setCell ?_ ?_ _ | (simp; done) | (simp; omega)))

end Go.Proofs.YtiikejhkhdmgeaaGreat

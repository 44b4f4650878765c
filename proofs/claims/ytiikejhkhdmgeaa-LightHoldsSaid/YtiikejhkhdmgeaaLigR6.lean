
/- Walks: the changes of an aircraft, by the reference. Conditions stand in each theorem. -/
import Derived.Test.YtiikejhkhdmgeaaLigR5
import Derived.Test.YtiikejhkhdmgeaaLigR2
import Derived.Deep.RegionHeld3
namespace Go.Proofs.Ytiikejhkhdmgeaa
open Go.RowKit
set_option linter.unusedVariables false
set_option linter.unusedSimpArgs false
attribute [local go_sem ↓] ldr16 ldr18

def chgR (L : Li) (a : Int) : List Int := if fineE L a 0 = 0 then chg (L.G a.toNat) L.cs L.os else []
theorem refC_pos (g : List ByteArray) (cs : List Cu) (k : Nat) : 0 < (refC g cs k).length := by
  have h : (0 : Int) ∈ rawC g cs k := by
    induction k with
    | zero => simp [rawC]
    | succ k ih => rw [rawC, List.mem_append]; exact .inl ih
  exact List.length_pos_of_mem (((refC_spec g cs k).2 0).2 h)
theorem refO_pos (g : List ByteArray) (cs : List Cu) (os : List Ov) (k : Nat) : 0 < (refO g cs os k).length := by
  have h : (0 : Int) ∈ rawO g cs os k := by
    induction k with
    | zero =>
      show (0 : Int) ∈ rawC g cs cs.length
      generalize cs.length = k
      induction k with
      | zero => simp [rawC]
      | succ k ih => rw [rawC, List.mem_append]; exact .inl ih
    | succ k ih => rw [rawO, List.mem_append]; exact .inl ih
  exact List.length_pos_of_mem (((refO_spec g cs os k).2 0).2 h)
theorem insL_pos (l : List Int) (n : Int) : 0 < (insL l n).length := List.length_pos_of_mem (insL_mem.2 (.inl rfl))
/-- The list that has been made so far, in slot u of world W. -/
def ChRel (w0 : World) (l : List Int) (u : Value) (W : World) : Prop := ∃ (g : Gr) (A : Option Addr) (c : Nat), W = xt w0 g ∧ u = .slice A l.length c ∧ Hid (RowI (xt w0 g) A l) ∧ l.length ≤ c ∧ c ≤ maxLen
theorem ChRel.mk {w0 W : World} {A : Option Addr} {c : Nat} {l : List Int} (hb : Below w0.heap.size w0 W) (hr : RowI W A l) (h1 : l.length ≤ c) (h2 : c ≤ maxLen) : ChRel w0 l (.slice A l.length c) W := by
  obtain ⟨g, rfl⟩ := xt_of_below hb
  exact ⟨g, A, c, rfl, rfl, Lib.hid hr, h1, h2⟩
theorem ChRel.to {w0 W : World} {A : Option Addr} {c : Nat} {l m : List Int} (e : m = l) (hb : Below w0.heap.size w0 W) (hr : RowI W A l) (h1 : l.length ≤ c) (h2 : c ≤ maxLen) : ChRel w0 m (.slice A l.length c) W := by
  subst e; exact ChRel.mk hb hr h1 h2
theorem row_one {w : World} {t : TypeId} {m : Nat} {n : Int} (hm : m = w.heap.size) : RowI (w.alloc (.cells #[.int .i64 n] t)) (some ⟨m, 0, none⟩) [n] :=
  Row.made hm fun i j hi hj => by
    have : i = 0 := by simp at hi; omega
    have : j = 0 := by omega
    subst i j
    rfl

set_option maxRecDepth 100000 in
set_option maxHeartbeats 6400000 in
theorem rChanges_ok (A1 A2 A3 : Option Addr) (c1 c2 c3 a : Nat) (L : Li) (w : World) (hF : FineL L) (h0 : fineE L (a : Nat) 0 = 0) (hr : RowL w A1 A2 A3 L) :
    Calls Try.prog 17 #[.agg #[.slice A1 L.nG c1, .slice A2 L.cs.length c2, .slice A3 L.os.length c3], .int .i64 (a : Nat)] w (RetI2 (chg (L.G a) L.cs L.os) 0 w) := by
  have K := fun w h => Lib.hid (rFine_any A1 A2 A3 c1 c2 c3 L (a : Nat) 0 w hF h)
  rw [h0] at K
  obtain ⟨hv, ⟨_, ha⟩, _⟩ := fine_zero.1 h0
  have ha : a < L.nG := by omega
  obtain ⟨q1, q2, q3, q4, q5⟩ := liB_iff.1 hv
  have hcn := (cusB_iff.1 q2).2.2
  have HR := Lib.hid hr
  have HG := Lib.hid hr.g
  have HQ := Lib.hid (show ∀ k, k < L.cs.length → (0 ≤ (cu L.cs k).t ∧ (cu L.cs k).t ≤ 3600000) ∧ (0 ≤ (cu L.cs k).f ∧ (cu L.cs k).f ≤ 3600000) from fun k hk => by
    have h1 := (cusB_iff.1 q2).1 k hk
    simp only [cuOk, isT, Bool.and_eq_true, within_iff] at h1
    exact h1.1)
  have C := fun (x : ByteArray) w h => Lib.hid (rmember_any A1 A2 A3 c1 c2 c3 a L x w ha hF.n (hF.gs a ha).1 h)
  have n2 := hF.on
  clear hr hF h0 hv q1 q2 q4 q5
  go_enter Try.func17, Try.ntmps17
  go_wp2_with fail
  refine (RetB.grown (K _ (by repeat (first | (with_reducible exact HR.out) | (with_reducible refine RowL.alloc ?_ _) | (with_reducible refine RowL.drew ?_) | (with_reducible refine RowL.xt ?_ _)))).out).mono ?_
  rintro e' w' ⟨rfl, g1, rfl⟩
  clear K
  go_wp2_with fail
  go_loopw [7, 8] (fun u7 i wr => ∃ k : Nat, k ≤ L.cs.length ∧ i = .int .i64 k ∧ ChRel (w.alloc (.cells #[.slice A1 L.nG c1, .slice A2 L.cs.length c2, .slice A3 L.os.length c3] 26)) (refC (L.G a) L.cs k) u7 wr) (fun _ i _ => L.cs.length - (intOf i).toNat)
  case atStart => exact ⟨0, by omega, rfl, ChRel.mk (l := [0]) (by repeat' (first | exact Below.refl _ _ | assumption | refine Below.xt ?_ ?_ _ | refine Below.alloc ?_ ?_ _ | refine Below.drew ?_ | refine Below.setCell ?_ ?_ _ | (simp; done) | (simp; omega))) (row_one (by simp)) (by simp) (by unfold maxLen; simp)⟩
  case round =>
    obtain ⟨k, hk, rfl, g, A, c, rfl, rfl, HI, hlc, hcm⟩ := hrel
    have hpos := refC_pos (L.G a) L.cs k
    have hlen := refC_len (L.G a) L.cs k
    by_cases hlt : k < L.cs.length
    · obtain ⟨b, o, rfl, hb, hc⟩ := Row.at_ HR.out.u (by omega)
      obtain ⟨x0, x1, x2, x3, x4, x5⟩ := RowU.cells hc hlt
      clear hc
      obtain ⟨⟨t0, t1⟩, t2, t3⟩ := HQ.out k hlt
      have C1 := C (cu L.cs k).g
      have HS := Lib.hid (show refC (L.G a) L.cs (k + 1) = (cueAdd (L.G a) (cu L.cs k)).foldl insL (refC (L.G a) L.cs k) from rfl)
      have HA := Lib.hid (show cueAdd (L.G a) (cu L.cs k) = if memB (L.G a) (cu L.cs k).g = true then (if (cu L.cs k).t + (cu L.cs k).f ≤ 3600000 then [(cu L.cs k).t, (cu L.cs k).t + (cu L.cs k).f] else [(cu L.cs k).t]) else [] from rfl)
      obtain ⟨m, hm⟩ : ∃ m, memB (L.G a) (cu L.cs k).g = m := ⟨_, rfl⟩
      rw [hm] at C1 HA
      clear hm
      generalize cu L.cs k = v at *
      generalize hl : refC (L.G a) L.cs k = l at *
      clear hl
      cases m
      · have E := Lib.hid (show refC (L.G a) L.cs (k + 1) = l by rw [HS.out, HA.out]; rfl)
        clear HS HA C
        go_wp2_with fail
        refine (RetB.grown (C1 _ (by repeat (first | (with_reducible exact HG.out) | (with_reducible refine RowG.alloc ?_ _) | (with_reducible refine RowG.drew ?_) | (with_reducible refine RowG.xt ?_ _)))).out).mono ?_
        rintro e' w' ⟨rfl, g2, rfl⟩
        go_wp2_with fail
        go_roundw
        case rel => exact ⟨k + 1, by omega, by go_num, ChRel.to E.out (by repeat' (first | exact Below.refl _ _ | assumption | refine Below.xt ?_ ?_ _ | refine Below.alloc ?_ ?_ _ | refine Below.drew ?_ | refine Below.setCell ?_ ?_ _ | (simp; done) | (simp; omega))) (by repeat (first | (with_reducible exact HI.out) | (with_reducible refine RowI.alloc ?_ _) | (with_reducible refine RowI.drew ?_) | (with_reducible refine RowI.xt ?_ _))) hlc hcm⟩
        case measure => simp [intOf]; omega
      · have P1 := fun w h => Lib.hid (put_any A c l v.t w hpos (by omega) hlc hcm h)
        by_cases h36 : v.t + v.f ≤ 3600000
        · have E := Lib.hid (show refC (L.G a) L.cs (k + 1) = insL (insL l v.t) (v.t + v.f) by rw [HS.out, HA.out, if_pos rfl, if_pos h36]; rfl)
          have P2 := fun A c w h1 h2 h3 => Lib.hid (put_any A c (insL l v.t) (v.t + v.f) w (insL_pos _ _) (by have := insL_len l v.t; omega) h1 h2 h3)
          clear HS HA C
          go_wp2_with fail
          refine (RetB.grown (C1 _ (by repeat (first | (with_reducible exact HG.out) | (with_reducible refine RowG.alloc ?_ _) | (with_reducible refine RowG.drew ?_) | (with_reducible refine RowG.xt ?_ _)))).out).mono ?_
          rintro e' w' ⟨rfl, g2, rfl⟩
          go_wp2_with fail
          refine (P1 _ (by repeat (first | (with_reducible exact HI.out) | (with_reducible refine RowI.alloc ?_ _) | (with_reducible refine RowI.drew ?_) | (with_reducible refine RowI.xt ?_ _)))).out.mono ?_
          rintro e' w' ⟨A5, c5, rfl, hb5, hr5, hl5, hc5⟩
          obtain ⟨g5, rfl⟩ := xt_of_below hb5
          have HR5 := Lib.hid hr5
          clear hb5 hr5 HI P1
          go_wp2_with fail
          refine (P2 _ _ _ hl5 hc5 HR5.out).out.mono ?_
          rintro e' w' ⟨A6, c6, rfl, hb6, hr6, hl6, hc6⟩
          obtain ⟨g6, rfl⟩ := xt_of_below hb6
          have HR6 := Lib.hid hr6
          clear hb6 hr6 HR5 P2
          go_wp2_with fail
          go_roundw
          case rel => exact ⟨k + 1, by omega, by go_num, ChRel.to E.out (by repeat' (first | exact Below.refl _ _ | assumption | refine Below.xt ?_ ?_ _ | refine Below.alloc ?_ ?_ _ | refine Below.drew ?_ | refine Below.setCell ?_ ?_ _ | (simp; done) | (simp; omega))) HR6.out hl6 hc6⟩
          case measure => simp [intOf]; omega
        · have E := Lib.hid (show refC (L.G a) L.cs (k + 1) = insL l v.t by rw [HS.out, HA.out, if_pos rfl, if_neg h36]; rfl)
          clear HS HA C
          go_wp2_with fail
          refine (RetB.grown (C1 _ (by repeat (first | (with_reducible exact HG.out) | (with_reducible refine RowG.alloc ?_ _) | (with_reducible refine RowG.drew ?_) | (with_reducible refine RowG.xt ?_ _)))).out).mono ?_
          rintro e' w' ⟨rfl, g2, rfl⟩
          go_wp2_with fail
          refine (P1 _ (by repeat (first | (with_reducible exact HI.out) | (with_reducible refine RowI.alloc ?_ _) | (with_reducible refine RowI.drew ?_) | (with_reducible refine RowI.xt ?_ _)))).out.mono ?_
          rintro e' w' ⟨A5, c5, rfl, hb5, hr5, hl5, hc5⟩
          obtain ⟨g5, rfl⟩ := xt_of_below hb5
          have HR5 := Lib.hid hr5
          clear hb5 hr5 HI P1
          go_wp2_with fail
          go_roundw
          case rel => exact ⟨k + 1, by omega, by go_num, ChRel.to E.out (by repeat' (first | exact Below.refl _ _ | assumption | refine Below.xt ?_ ?_ _ | refine Below.alloc ?_ ?_ _ | refine Below.drew ?_ | refine Below.setCell ?_ ?_ _ | (simp; done) | (simp; omega))) HR5.out hl5 hc5⟩
          case measure => simp [intOf]; omega
    · obtain rfl : k = L.cs.length := by omega
      rcases Nat.eq_zero_or_pos L.os.length with hz | hz
      · have E := Lib.hid (show chg (L.G a) L.cs L.os = refC (L.G a) L.cs L.cs.length by rw [chg, hz]; rfl)
        have HZ := Lib.hid hz
        clear HQ C hpos hlen hz
        generalize refC (L.G a) L.cs L.cs.length = l at *
        have hz := HZ.out
        clear HG HR HZ
        generalize L.os.length = no at *
        subst hz
        go_wp2_with fail
        go_rounds 1
        go_ret2
        exact ⟨A, c, by rw [E.out]; rfl, (by repeat' (first | exact Below.refl _ _ | assumption | refine Below.xt ?_ ?_ _ | refine Below.alloc ?_ ?_ _ | refine Below.drew ?_ | refine Below.setCell ?_ ?_ _ | (simp; done) | (simp; omega))), by rw [E.out]; exact (by repeat (first | (with_reducible exact HI.out) | (with_reducible refine RowI.alloc ?_ _) | (with_reducible refine RowI.drew ?_) | (with_reducible refine RowI.xt ?_ _)))⟩
      · obtain ⟨b3, o3, rfl, hb3, hc3⟩ := RowO.row HR.out.o hz
        have HC3 := Lib.hid hc3
        clear hc3 HQ
        go_wp2_with fail
        go_loopw [7, 10] (fun u7 i wr => ∃ k : Nat, k ≤ L.os.length ∧ i = .int .i64 k ∧ ChRel (w.alloc (.cells #[.slice A1 L.nG c1, .slice A2 L.cs.length c2, .slice (some ⟨b3, o3, none⟩) L.os.length c3] 26)) (refO (L.G a) L.cs L.os k) u7 wr) (fun _ i _ => L.os.length - (intOf i).toNat)
        case atStart => exact ⟨0, by omega, rfl, ChRel.mk (l := refO (L.G a) L.cs L.os 0) (by repeat' (first | exact Below.refl _ _ | assumption | refine Below.xt ?_ ?_ _ | refine Below.alloc ?_ ?_ _ | refine Below.drew ?_ | refine Below.setCell ?_ ?_ _ | (simp; done) | (simp; omega))) HI.out hlc hcm⟩
        case round =>
          clear HI hlc hcm hpos hlen hk hlt
          obtain ⟨k, hk, rfl, g, A, c, rfl, rfl, HI, hlc, hcm⟩ := hrel
          have hpos := refO_pos (L.G a) L.cs L.os k
          have hlen := refO_len (L.G a) L.cs L.os k
          by_cases hlt : k < L.os.length
          · have x0 := HC3.out k hlt
            have C1 := C (ov L.os k).g
            have HS := Lib.hid (show refO (L.G a) L.cs L.os (k + 1) = (ovAdd (L.G a) (ov L.os k)).foldl insL (refO (L.G a) L.cs L.os k) from rfl)
            have HA := Lib.hid (show ovAdd (L.G a) (ov L.os k) = if memB (L.G a) (ov L.os k).g = true then [(ov L.os k).e.fr, (ov L.os k).e.to] else [] from rfl)
            obtain ⟨m, hm⟩ : ∃ m, memB (L.G a) (ov L.os k).g = m := ⟨_, rfl⟩
            rw [hm] at C1 HA
            clear hm
            generalize ov L.os k = v at *
            generalize hl : refO (L.G a) L.cs L.os k = l at *
            clear hl
            cases m
            · have E := Lib.hid (show refO (L.G a) L.cs L.os (k + 1) = l by rw [HS.out, HA.out]; rfl)
              clear HS HA C
              go_wp2_with fail
              refine (RetB.grown (C1 _ (by repeat (first | (with_reducible exact HG.out) | (with_reducible refine RowG.alloc ?_ _) | (with_reducible refine RowG.drew ?_) | (with_reducible refine RowG.xt ?_ _)))).out).mono ?_
              rintro e' w' ⟨rfl, g2, rfl⟩
              go_wp2_with fail
              go_roundw
              case rel => exact ⟨k + 1, by omega, by go_num, ChRel.to E.out (by repeat' (first | exact Below.refl _ _ | assumption | refine Below.xt ?_ ?_ _ | refine Below.alloc ?_ ?_ _ | refine Below.drew ?_ | refine Below.setCell ?_ ?_ _ | (simp; done) | (simp; omega))) (by repeat (first | (with_reducible exact HI.out) | (with_reducible refine RowI.alloc ?_ _) | (with_reducible refine RowI.drew ?_) | (with_reducible refine RowI.xt ?_ _))) hlc hcm⟩
              case measure => simp [intOf]; omega
            · have E := Lib.hid (show refO (L.G a) L.cs L.os (k + 1) = insL (insL l v.e.fr) v.e.to by rw [HS.out, HA.out, if_pos rfl]; rfl)
              have P1 := fun w h => Lib.hid (put_any A c l v.e.fr w hpos (by omega) hlc hcm h)
              have P2 := fun A c w h1 h2 h3 => Lib.hid (put_any A c (insL l v.e.fr) v.e.to w (insL_pos _ _) (by have := insL_len l v.e.fr; omega) h1 h2 h3)
              clear HS HA C
              go_wp2_with fail
              refine (RetB.grown (C1 _ (by repeat (first | (with_reducible exact HG.out) | (with_reducible refine RowG.alloc ?_ _) | (with_reducible refine RowG.drew ?_) | (with_reducible refine RowG.xt ?_ _)))).out).mono ?_
              rintro e' w' ⟨rfl, g2, rfl⟩
              go_wp2_with fail
              go_region_held3 (fun w' => old (w.heap.size + 1 + g.blocks.length) w' ∧ w'.cell? ⟨w.heap.size + 1 + g.blocks.length, 3, none⟩ = some (.int .i64 v.e.fr) ∧ w'.cell? ⟨w.heap.size + 1 + g.blocks.length, 4, none⟩ = some (.int .i64 v.e.to)) (go_simp)
                (first | (go_at_call 44; (with_reducible refine (P1 _ (by repeat (first | (with_reducible exact HI.out) | (with_reducible refine RowI.alloc ?_ _) | (with_reducible refine RowI.drew ?_) | (with_reducible refine RowI.xt ?_ _)))).out.mono ?_); rintro e' w' ⟨A5, c5, rfl, hb5, hr5, hl5, hc5⟩; obtain ⟨g5, rfl⟩ := xt_of_below hb5; clear hb5) | (go_at_call 44; (with_reducible refine (P2 _ _ _ hl5 hc5 hr5).out.mono ?_); rintro e' w' ⟨A6, c6, rfl, hb6, hr6, hl6, hc6⟩; obtain ⟨g6, rfl⟩ := xt_of_below hb6; clear hb6))
              all_goals go_wp2_with fail
              all_goals go_roundw
              case rel => exact ⟨k + 1, by omega, by go_num, ChRel.to E.out (by repeat' (first | exact Below.refl _ _ | assumption | refine Below.xt ?_ ?_ _ | refine Below.alloc ?_ ?_ _ | refine Below.drew ?_ | refine Below.setCell ?_ ?_ _ | (simp; done) | (simp; omega))) (by assumption) hl6 hc6⟩
              case measure => simp [intOf]; omega
          · obtain rfl : k = L.os.length := by omega
            have E := Lib.hid (show chg (L.G a) L.cs L.os = refO (L.G a) L.cs L.os L.os.length from rfl)
            go_wp2_with fail
            go_ret2
            exact ⟨A, c, by rw [E.out]; rfl, (by repeat' (first | exact Below.refl _ _ | assumption | refine Below.xt ?_ ?_ _ | refine Below.alloc ?_ ?_ _ | refine Below.drew ?_ | refine Below.setCell ?_ ?_ _ | (simp; done) | (simp; omega))), by rw [E.out]; exact (by repeat (first | (with_reducible exact HI.out) | (with_reducible refine RowI.alloc ?_ _) | (with_reducible refine RowI.drew ?_) | (with_reducible refine RowI.xt ?_ _)))⟩

set_option maxRecDepth 100000 in
set_option maxHeartbeats 1600000 in
theorem rChanges_any (A1 A2 A3 : Option Addr) (c1 c2 c3 : Nat) (L : Li) (a : Int) (w : World) (hF : FineL L) (hr : RowL w A1 A2 A3 L) :
    Calls Try.prog 17 #[.agg #[.slice A1 L.nG c1, .slice A2 L.cs.length c2, .slice A3 L.os.length c3], .int .i64 a] w (RetI2 (chgR L a) (fineE L a 0) w) := by
  by_cases h0 : fineE L a 0 = 0
  · obtain ⟨q1, ⟨q2, q3⟩, q4, q5⟩ := fine_zero.1 h0
    obtain ⟨n, rfl⟩ := Int.eq_ofNat_of_zero_le q2
    have e : chgR L n = chg (L.G n) L.cs L.os := by rw [chgR, if_pos h0]; rfl
    rw [h0, e]
    exact rChanges_ok A1 A2 A3 c1 c2 c3 n L w hF h0 hr
  · have K := fun w h => Lib.hid (rFine_any A1 A2 A3 c1 c2 c3 L a 0 w hF h)
    have HR := Lib.hid hr
    have e : chgR L a = [] := by rw [chgR, if_neg h0]
    rw [e]
    have z : (fineE L a 0 != 0) = true := by simpa using h0
    generalize fineE L a 0 = d at *
    clear hF hr h0 e
    go_enter Try.func17, Try.ntmps17
    go_wp2_with fail
    refine (RetB.grown (K _ (by repeat (first | (with_reducible exact HR.out) | (with_reducible refine RowL.alloc ?_ _) | (with_reducible refine RowL.drew ?_) | (with_reducible refine RowL.xt ?_ _)))).out).mono ?_
    rintro e' w' ⟨rfl, g1, rfl⟩
    go_wp2_with fail
    go_ret2
    exact ⟨none, 0, rfl, (by repeat' (first | exact Below.refl _ _ | assumption | refine Below.xt ?_ ?_ _ | refine Below.alloc ?_ ?_ _ | refine Below.drew ?_ | refine Below.setCell ?_ ?_ _ | (simp; done) | (simp; omega))), Row.none_⟩

end Go.Proofs.Ytiikejhkhdmgeaa

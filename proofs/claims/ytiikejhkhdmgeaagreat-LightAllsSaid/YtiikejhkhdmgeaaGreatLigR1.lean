
/- Walks: which lights are valid, which aircraft belong to a group, by the reference. Conditions stand in each theorem. -/
import Derived.Test.YtiikejhkhdmgeaaGreatLigL2
import Derived.Test.YtiikejhkhdmgeaaGreatLigC5
namespace Go.Proofs.YtiikejhkhdmgeaaGreat
open Go.RowKit
set_option linter.unusedVariables false
set_option linter.unusedSimpArgs false
attribute [local go_sem ↓] ldr16 ldr18

set_option maxRecDepth 100000 in
set_option maxHeartbeats 1600000 in
theorem rmember_any (A1 A2 A3 : Option Addr) (c1 c2 c3 k : Nat) (L : Li) (x : ByteArray) (w : World) (hk : k < L.nG) (hn : L.nG ≤ 4294967296) (hg : (L.G k).length ≤ 4294967296) (hr : RowG w A1 L.nG L.G) :
    Calls Tryz.prog 63 #[.agg #[.slice A1 L.nG c1, .slice A2 L.cs.length c2, .slice A3 L.os.length c3], .int .i64 (k : Nat), .string x] w (RetB (.bool (memB (L.G k) x)) w) := by
  obtain ⟨b, o, rfl, hb, hc⟩ := hr.top (by omega)
  obtain ⟨Ai, ci, x0, hrow⟩ := hc k hk
  obtain ⟨R, hR⟩ : ∃ R, memB (L.G k) x = R := ⟨_, rfl⟩
  rw [hR]
  have HB := Lib.hid (show ∀ j, j < (L.G k).length → nm (L.G k) j = x → true = R from fun j hj h => by rw [← hR]; exact (memB_iff.2 ⟨j, hj, h⟩).symm)
  have HG := Lib.hid (show (∀ j, j < (L.G k).length → nm (L.G k) j ≠ x) → false = R from fun h => by
    rw [← hR]; symm; rw [Bool.eq_false_iff]; intro H
    obtain ⟨j, hj, e⟩ := memB_iff.1 H
    exact h j hj e)
  clear hc hr hR
  rcases Nat.eq_zero_or_pos (L.G k).length with h0 | h0
  · have E := Lib.hid (HG.out fun j hj => absurd hj (by omega))
    clear HB HG hrow
    have z : ((L.G k).length : Int) = 0 := by omega
    rw [h0] at x0
    clear z h0 hg
    go_enter Tryz.func63, Tryz.ntmps63
    go_wp2_with fail
    go_rounds 1
    go_ret
    exact RetB.of (congrArg Value.bool E.out) (by repeat' (first | exact Below.refl _ _ | assumption | refine Below.xt ?_ ?_ _ | refine Below.alloc ?_ ?_ _ | refine Below.drew ?_ | refine Below.setCell ?_ ?_ _ | (simp; done) | (simp; omega)))
  · obtain ⟨bi, oi, rfl, hbi, hci⟩ := RowN.at_ hrow h0
    have HC := Lib.hid hci
    clear hci hrow
    go_enter Tryz.func63, Tryz.ntmps63
    go_wp2_with fail
    go_loopw [7] (fun i wr => ∃ (j : Nat) (g : Gr), j ≤ (L.G k).length ∧ Hid (∀ q, q < j → nm (L.G k) q ≠ x) ∧ i = .int .i64 j ∧ wr = xt (w.alloc (.cells #[.slice (some ⟨b, o, none⟩) L.nG c1, .slice A2 L.cs.length c2, .slice A3 L.os.length c3] 26)) g) (fun i _ => (L.G k).length - (intOf i).toNat)
    case atStart => exact ⟨0, ⟨[], _⟩, by omega, Lib.hid fun q hq => absurd hq (by omega), rfl, (xt_self _).symm⟩
    case round =>
      obtain ⟨j, g, hj, HP, rfl, rfl⟩ := hrel
      by_cases hlt : j < (L.G k).length
      · have y0 := HC.out j hlt
        have HB' := Lib.hid (HB.out j hlt)
        have HS := Lib.hid (show nm (L.G k) j ≠ x → ∀ q, q < j + 1 → nm (L.G k) q ≠ x from fun h q hq => if e : q = j then e ▸ h else HP.out q (by omega))
        generalize nm (L.G k) j = s at *
        by_cases he : s = x
        · have e1 : (s.toList == x.toList) = true := by rw [beq_str]; simpa using he
          have E := Lib.hid (HB'.out he)
          clear he HB' HS HB HG
          go_wp2_with fail
          go_ret
          exact RetB.of (congrArg Value.bool E.out) (by repeat' (first | exact Below.refl _ _ | assumption | refine Below.xt ?_ ?_ _ | refine Below.alloc ?_ ?_ _ | refine Below.drew ?_ | refine Below.setCell ?_ ?_ _ | (simp; done) | (simp; omega)))
        · have e1 : (s.toList == x.toList) = false := by rw [beq_str]; simpa using he
          have E := Lib.hid (HS.out he)
          clear he HB' HS
          go_wp2_with fail
          go_roundw
          case rel => exact ⟨j + 1, _, by omega, E, by go_num, (Classical.choose_spec (xt_of_below (by repeat' (first | exact Below.refl _ _ | assumption | refine Below.xt ?_ ?_ _ | refine Below.alloc ?_ ?_ _ | refine Below.drew ?_ | refine Below.setCell ?_ ?_ _ | (simp; done) | (simp; omega)))))⟩
          case measure => simp [intOf]; omega
      · have hje : j = (L.G k).length := by omega
        have E := Lib.hid (HG.out (by rw [← hje]; exact HP.out))
        clear hje
        go_wp2_with fail
        go_ret
        exact RetB.of (congrArg Value.bool E.out) (by repeat' (first | exact Below.refl _ _ | assumption | refine Below.xt ?_ ?_ _ | refine Below.alloc ?_ ?_ _ | refine Below.drew ?_ | refine Below.setCell ?_ ?_ _ | (simp; done) | (simp; omega)))

theorem grp_bad1 {g : List ByteArray} (h : 16 < g.length) : grpB g = false := by
  rw [Bool.eq_false_iff]; intro H; have := (grpB_iff.1 H).2.2; omega
theorem grp_bad2 {g : List ByteArray} {k : Nat} (hk : k < g.length) (h : nameB (nm g k) = false) : grpB g = false := by
  rw [Bool.eq_false_iff]; intro H; have := (grpB_iff.1 H).1 k hk; rw [this] at h; cases h
theorem grp_bad3 {g : List ByteArray} {k j : Nat} (hk : k < g.length) (hj : j < k) (h : nm g j = nm g k) : grpB g = false := by
  rw [Bool.eq_false_iff]; intro H; exact (grpB_iff.1 H).2.1 k hk j hj h

set_option maxRecDepth 100000 in
set_option maxHeartbeats 6400000 in
theorem rlValid_ok (A1 A2 A3 : Option Addr) (c1 c2 c3 : Nat) (L : Li) (w : World) (hF : FineL L) (hr : RowL w A1 A2 A3 L) (q1 : 1 ≤ L.nG) (q2 : L.nG ≤ 64) (q3 : L.os.length ≤ 64) (q4 : cusB L.cs = true) :
    Calls Tryz.prog 20 #[.agg #[.slice A1 L.nG c1, .slice A2 L.cs.length c2, .slice A3 L.os.length c3]] w (RetB (.bool (liB L)) w) := by
  have f1 := hF.n
  have f2 := hF.cn
  have f3 := hF.on
  have HR := Lib.hid hr
  have K1 := fun w h => Lib.hid (rcueValid_any A2 L.cs.length c2 L.cs w rfl hF.cn hF.cs h)
  rw [q4] at K1
  obtain ⟨R, hR⟩ : ∃ R, liB L = R := ⟨_, rfl⟩
  rw [hR]
  have HB := Lib.hid (show ∀ i, i < L.nG → grpB (L.G i) = false → false = R from fun i hi h => by
    rw [← hR]; symm; rw [Bool.eq_false_iff]; intro H
    rw [(liB_iff.1 H).2.2.2.1 i hi] at h; cases h)
  have HB2 := Lib.hid (show ∀ i, i < L.os.length → ovB (ov L.os i) = false → false = R from fun i hi h => by
    rw [← hR]; symm; rw [Bool.eq_false_iff]; intro H
    rw [(liB_iff.1 H).2.2.2.2 i hi] at h; cases h)
  have HG := Lib.hid (show (∀ i, i < L.nG → grpB (L.G i) = true) → (∀ i, i < L.os.length → ovB (ov L.os i) = true) → true = R from fun h h' => by
    rw [← hR]; symm; exact liB_iff.2 ⟨⟨q1, q2⟩, q4, q3, h, h'⟩)
  have HN := Lib.hid hF.gs
  have HFO := Lib.hid hF.os
  obtain ⟨b, o, rfl, hb, hc⟩ := hr.g.top (by omega)
  have HC := Lib.hid hc
  clear hR hc hr hF q4
  go_enter Tryz.func20, Tryz.ntmps20
  go_wp2_with fail
  refine (RetB.grown (K1 _ (HR.out.u.alloc _)).out).mono ?_
  rintro e' w' ⟨rfl, g1, rfl⟩
  clear K1
  go_wp2_with fail
  go_loopw [3] (fun i wr => ∃ (n : Nat) (g : Gr), n ≤ L.nG ∧ Hid (∀ q, q < n → grpB (L.G q) = true) ∧ i = .int .i64 n ∧ wr = xt (w.alloc (.cells #[.slice (some ⟨b, o, none⟩) L.nG c1, .slice A2 L.cs.length c2, .slice A3 L.os.length c3] 26)) g) (fun i _ => L.nG - (intOf i).toNat)
  case atStart => exact ⟨0, g1, by omega, Lib.hid fun q hq => absurd hq (by omega), rfl, rfl⟩
  case round =>
    clear g1
    obtain ⟨n, g, hn, HP, rfl, rfl⟩ := hrel
    by_cases hlt : n < L.nG
    · obtain ⟨Ai, ci, x0, hrow⟩ := HC.out n hlt
      have HB' := Lib.hid (HB.out n hlt)
      obtain ⟨hl, hsz⟩ := HN.out n hlt
      have HSZ := Lib.hid hsz
      have HROW := Lib.hid hrow
      have HS := Lib.hid (show grpB (L.G n) = true → ∀ q, q < n + 1 → grpB (L.G q) = true from fun h q hq => if e : q = n then e ▸ h else HP.out q (by omega))
      clear hsz hrow HP
      generalize L.G n = G at *
      by_cases h16 : 16 < G.length
      · have E := Lib.hid (HB'.out (grp_bad1 h16))
        clear HB' HS HB HB2 HG
        go_wp2_with fail
        go_ret
        exact RetB.of (congrArg Value.bool E.out) (by repeat' (first | exact Below.refl _ _ | assumption | refine Below.xt ?_ ?_ _ | refine Below.alloc ?_ ?_ _ | refine Below.drew ?_ | refine Below.setCell ?_ ?_ _ | (simp; done) | (simp; omega)))
      · go_wp2_with fail
        go_loopw [5] (fun i wr => ∃ (k : Nat) (g : Gr), k ≤ G.length ∧ Hid (distTo G k) ∧ i = .int .i64 k ∧ wr = xt (w.alloc (.cells #[.slice (some ⟨b, o, none⟩) L.nG c1, .slice A2 L.cs.length c2, .slice A3 L.os.length c3] 26)) g) (fun i _ => G.length - (intOf i).toNat)
        case atStart => exact ⟨0, g, by omega, Lib.hid fun q hq => absurd hq (by omega), rfl, rfl⟩
        case round =>
          clear g
          obtain ⟨k, g, hk, HD, rfl, rfl⟩ := hrel
          by_cases hkl : k < G.length
          · obtain ⟨bi, oi, rfl, hbi, hci⟩ := RowN.at_ HROW.out (by omega)
            have y0 := hci k hkl
            have HCI := Lib.hid hci
            have hsk := HSZ.out k hkl
            have C := fun w => Lib.hid (rname_any (nm G k) w hsk)
            have HB3 := Lib.hid (fun h => HB'.out (grp_bad2 hkl h))
            have HB4 := Lib.hid (fun j hj h => HB'.out (grp_bad3 (j := j) hkl hj h))
            have HDS := Lib.hid (show nameB (nm G k) = true → (∀ j, j < k → nm G j ≠ nm G k) → distTo G (k + 1) from fun h h' i hi => if e : i = k then by subst e; exact ⟨h, h'⟩ else HD.out i (by omega))
            clear hci hsk HD
            generalize nm G k = s at *
            obtain ⟨v, hv⟩ : ∃ v, nameB s = v := ⟨_, rfl⟩
            rw [hv] at C HB3 HDS
            clear hv
            cases v
            · have E := Lib.hid (HB3.out rfl)
              clear HB' HS HB HB2 HG HB3 HB4 HDS
              go_wp2_with (first
                | (go_at_call 34; refine ((C _).out).mono ?_; rintro e' w' ⟨rfl, rfl⟩)
                | (refine wp_region_xt (by kernel_rfl) (by kernel_rfl) ?_; (repeat (go_big_quiet_step (first | (go_at_call 34; exact Ret.quiet ((C _).out))))); refine wpQuiet_nil ?_; intro g))
              go_ret
              exact RetB.of (congrArg Value.bool E.out) (by repeat' (first | exact Below.refl _ _ | assumption | refine Below.xt ?_ ?_ _ | refine Below.alloc ?_ ?_ _ | refine Below.drew ?_ | refine Below.setCell ?_ ?_ _ | (simp; done) | (simp; omega)))
            · have HDS' := Lib.hid (HDS.out rfl)
              clear HDS HB3
              go_wp2_with (first
                | (go_at_call 34; refine ((C _).out).mono ?_; rintro e' w' ⟨rfl, rfl⟩)
                | (refine wp_region_xt (by kernel_rfl) (by kernel_rfl) ?_; (repeat (go_big_quiet_step (first | (go_at_call 34; exact Ret.quiet ((C _).out))))); refine wpQuiet_nil ?_; intro g))
              go_loopw [6] (fun i wr => ∃ (j : Nat) (g : Gr), j ≤ k ∧ Hid (∀ q, q < j → nm G q ≠ s) ∧ i = .int .i64 j ∧ wr = xt (w.alloc (.cells #[.slice (some ⟨b, o, none⟩) L.nG c1, .slice A2 L.cs.length c2, .slice A3 L.os.length c3] 26)) g) (fun i _ => k - (intOf i).toNat)
              case atStart => exact ⟨0, g, by omega, Lib.hid fun q hq => absurd hq (by omega), rfl, rfl⟩
              case round =>
                clear g
                obtain ⟨j, g, hj, HQ, rfl, rfl⟩ := hrel
                by_cases hjk : j < k
                · have z0 := HCI.out j (by omega)
                  have HB5 := Lib.hid (fun h => HB4.out j hjk h)
                  have HQS := Lib.hid (show nm G j ≠ s → ∀ q, q < j + 1 → nm G q ≠ s from fun h q hq => if e : q = j then e ▸ h else HQ.out q (by omega))
                  generalize nm G j = r at *
                  by_cases he : r = s
                  · have e1 : (r.toList == s.toList) = true := by rw [beq_str]; simpa using he
                    have E := Lib.hid (HB5.out he)
                    clear he HB' HS HB HB2 HG HB4 HDS' HQS HB5
                    go_wp2_with (first
                      | (refine wp_region_xt (by kernel_rfl) (by kernel_rfl) ?_; (repeat (go_big_quiet_step (first | fail))); refine wpQuiet_nil ?_; intro g))
                    go_ret
                    exact RetB.of (congrArg Value.bool E.out) (by repeat' (first | exact Below.refl _ _ | assumption | refine Below.xt ?_ ?_ _ | refine Below.alloc ?_ ?_ _ | refine Below.drew ?_ | refine Below.setCell ?_ ?_ _ | (simp; done) | (simp; omega)))
                  · have e1 : (r.toList == s.toList) = false := by rw [beq_str]; simpa using he
                    have E := Lib.hid (HQS.out he)
                    clear he HB4 HDS' HQS HB5
                    go_wp2_with (first
                      | (refine wp_region_xt (by kernel_rfl) (by kernel_rfl) ?_; (repeat (go_big_quiet_step (first | fail))); refine wpQuiet_nil ?_; intro g))
                    go_roundw
                    case rel => exact ⟨j + 1, _, by omega, E, by go_num, (Classical.choose_spec (xt_of_below (by repeat' (first | exact Below.refl _ _ | assumption | refine Below.xt ?_ ?_ _ | refine Below.alloc ?_ ?_ _ | refine Below.drew ?_ | refine Below.setCell ?_ ?_ _ | (simp; done) | (simp; omega)))))⟩
                    case measure => simp [intOf]; omega
                · obtain rfl : j = k := by omega
                  have E := Lib.hid (HDS'.out HQ.out)
                  clear HB4 HDS' HQ
                  go_wp2_with fail
                  go_roundw
                  case rel => exact ⟨j + 1, _, by omega, E, by go_num, (Classical.choose_spec (xt_of_below (by repeat' (first | exact Below.refl _ _ | assumption | refine Below.xt ?_ ?_ _ | refine Below.alloc ?_ ?_ _ | refine Below.drew ?_ | refine Below.setCell ?_ ?_ _ | (simp; done) | (simp; omega)))))⟩
                  case measure => simp [intOf]; omega
          · have hkG : k = G.length := by omega
            have E := Lib.hid (HS.out (by rw [grpB_eq G (by rw [← hkG]; exact HD.out)]; simp; omega))
            clear HS HB' HD hkG
            go_wp2_with fail
            go_roundw
            case rel => exact ⟨n + 1, _, by omega, E, by go_num, (Classical.choose_spec (xt_of_below (by repeat' (first | exact Below.refl _ _ | assumption | refine Below.xt ?_ ?_ _ | refine Below.alloc ?_ ?_ _ | refine Below.drew ?_ | refine Below.setCell ?_ ?_ _ | (simp; done) | (simp; omega)))))⟩
            case measure => simp [intOf]; omega
    · obtain rfl : n = L.nG := by omega
      have HPG := Lib.hid (HG.out HP.out)
      clear HP HG HB HN HC
      rcases Nat.eq_zero_or_pos L.os.length with h0 | h0
      · have E := Lib.hid (HPG.out fun i hi => absurd hi (by omega))
        clear HPG HB2
        generalize L.os.length = no at *
        subst h0
        go_wp2_with fail
        go_rounds 1
        go_ret
        exact RetB.of (congrArg Value.bool E.out) (by repeat' (first | exact Below.refl _ _ | assumption | refine Below.xt ?_ ?_ _ | refine Below.alloc ?_ ?_ _ | refine Below.drew ?_ | refine Below.setCell ?_ ?_ _ | (simp; done) | (simp; omega)))
      · obtain ⟨b3, o3, rfl, hb3, hc3⟩ := RowO.row HR.out.o h0
        have HC3 := Lib.hid hc3
        clear hc3
        go_wp2_with fail
        go_loopw [7] (fun i wr => ∃ (k : Nat) (g : Gr), k ≤ L.os.length ∧ Hid (∀ q, q < k → ovB (ov L.os q) = true) ∧ i = .int .i64 k ∧ wr = xt (w.alloc (.cells #[.slice (some ⟨b, o, none⟩) L.nG c1, .slice A2 L.cs.length c2, .slice (some ⟨b3, o3, none⟩) L.os.length c3] 26)) g) (fun i _ => L.os.length - (intOf i).toNat)
        case atStart => exact ⟨0, g, by omega, Lib.hid fun q hq => absurd hq (by omega), rfl, rfl⟩
        case round =>
          clear g
          obtain ⟨k, g, hk, HQ, rfl, rfl⟩ := hrel
          by_cases hkl : k < L.os.length
          · have x0 := HC3.out k hkl
            have C := fun w => Lib.hid (rname_any (ov L.os k).g w (HFO.out k hkl).1)
            have C2 := fun w => Lib.hid (refValid_any (ov L.os k).e w)
            have HB3 := Lib.hid (fun h => HB2.out k hkl h)
            have HS := Lib.hid (show ovB (ov L.os k) = true → ∀ q, q < k + 1 → ovB (ov L.os q) = true from fun h q hq => if e : q = k then e ▸ h else HQ.out q (by omega))
            have HO := Lib.hid (show ovB (ov L.os k) = (nameB (ov L.os k).g && within (ov L.os k).p 0 100 && effValid (ov L.os k).e) from rfl)
            generalize ovB (ov L.os k) = B at *
            generalize ov L.os k = v at *
            obtain ⟨n1, hn1⟩ : ∃ n1, nameB v.g = n1 := ⟨_, rfl⟩
            obtain ⟨n2, hn2⟩ : ∃ n2, effValid v.e = n2 := ⟨_, rfl⟩
            rw [hn1] at C HO
            rw [hn2] at C2 HO
            clear hn1 hn2 HQ
            cases n1
            · have E := Lib.hid (HB3.out (by rw [HO.out]; rfl))
              clear HB3 HS HO C2 HPG HB2
              go_wp2_with (first
                | (go_at_call 34; refine ((C _).out).mono ?_; rintro e' w' ⟨rfl, rfl⟩)
                | (refine wp_region_xt (by kernel_rfl) (by kernel_rfl) ?_; (repeat (go_big_quiet_step (first | (go_at_call 34; exact Ret.quiet ((C _).out))))); refine wpQuiet_nil ?_; intro g))
              go_ret
              exact RetB.of (congrArg Value.bool E.out) (by repeat' (first | exact Below.refl _ _ | assumption | refine Below.xt ?_ ?_ _ | refine Below.alloc ?_ ?_ _ | refine Below.drew ?_ | refine Below.setCell ?_ ?_ _ | (simp; done) | (simp; omega)))
            · by_cases p0 : 0 ≤ v.p
              · by_cases p1 : v.p ≤ 100
                · have HO2 := Lib.hid (show B = n2 by rw [HO.out, within_iff.2 ⟨p0, p1⟩]; rfl)
                  clear HO
                  cases n2
                  · have E := Lib.hid (HB3.out HO2.out)
                    clear HB3 HS HO2 HPG HB2
                    go_wp2_with (first
                      | (go_at_call 34; refine ((C _).out).mono ?_; rintro e' w' ⟨rfl, rfl⟩)
                      | (go_at_call 35; refine (RetB.grown ((C2 _).out)).mono ?_; rintro e' w' ⟨rfl, g, rfl⟩)
                      | (refine wp_region_xt (by kernel_rfl) (by kernel_rfl) ?_; (repeat (go_big_quiet_step (first | (go_at_call 34; exact Ret.quiet ((C _).out)) | (go_at_call 35; exact RetB.quiet ((C2 _).out))))); refine wpQuiet_nil ?_; intro g))
                    go_ret
                    exact RetB.of (congrArg Value.bool E.out) (by repeat' (first | exact Below.refl _ _ | assumption | refine Below.xt ?_ ?_ _ | refine Below.alloc ?_ ?_ _ | refine Below.drew ?_ | refine Below.setCell ?_ ?_ _ | (simp; done) | (simp; omega)))
                  · have E := Lib.hid (HS.out HO2.out)
                    clear HB3 HS HO2
                    go_wp2_with (first
                      | (go_at_call 34; refine ((C _).out).mono ?_; rintro e' w' ⟨rfl, rfl⟩)
                      | (go_at_call 35; refine (RetB.grown ((C2 _).out)).mono ?_; rintro e' w' ⟨rfl, g, rfl⟩)
                      | (refine wp_region_xt (by kernel_rfl) (by kernel_rfl) ?_; (repeat (go_big_quiet_step (first | (go_at_call 34; exact Ret.quiet ((C _).out)) | (go_at_call 35; exact RetB.quiet ((C2 _).out))))); refine wpQuiet_nil ?_; intro g))
                    go_roundw
                    case rel => exact ⟨k + 1, _, by omega, E, by go_num, (Classical.choose_spec (xt_of_below (by repeat' (first | exact Below.refl _ _ | assumption | refine Below.xt ?_ ?_ _ | refine Below.alloc ?_ ?_ _ | refine Below.drew ?_ | refine Below.setCell ?_ ?_ _ | (simp; done) | (simp; omega)))))⟩
                    case measure => simp [intOf]; omega
                · have E := Lib.hid (HB3.out (by
                    rw [HO.out]
                    have : within v.p 0 100 = false := by rw [Bool.eq_false_iff]; intro h; exact p1 (within_iff.1 h).2
                    rw [this]; simp))
                  clear HB3 HS HO C2 HPG HB2
                  go_wp2_with (first
                    | (go_at_call 34; refine ((C _).out).mono ?_; rintro e' w' ⟨rfl, rfl⟩)
                    | (refine wp_region_xt (by kernel_rfl) (by kernel_rfl) ?_; (repeat (go_big_quiet_step (first | (go_at_call 34; exact Ret.quiet ((C _).out))))); refine wpQuiet_nil ?_; intro g))
                  go_ret
                  exact RetB.of (congrArg Value.bool E.out) (by repeat' (first | exact Below.refl _ _ | assumption | refine Below.xt ?_ ?_ _ | refine Below.alloc ?_ ?_ _ | refine Below.drew ?_ | refine Below.setCell ?_ ?_ _ | (simp; done) | (simp; omega)))
              · have E := Lib.hid (HB3.out (by
                  rw [HO.out]
                  have : within v.p 0 100 = false := by rw [Bool.eq_false_iff]; intro h; exact p0 (within_iff.1 h).1
                  rw [this]; simp))
                clear HB3 HS HO C2 HPG HB2
                go_wp2_with (first
                  | (go_at_call 34; refine ((C _).out).mono ?_; rintro e' w' ⟨rfl, rfl⟩)
                  | (refine wp_region_xt (by kernel_rfl) (by kernel_rfl) ?_; (repeat (go_big_quiet_step (first | (go_at_call 34; exact Ret.quiet ((C _).out))))); refine wpQuiet_nil ?_; intro g))
                go_ret
                exact RetB.of (congrArg Value.bool E.out) (by repeat' (first | exact Below.refl _ _ | assumption | refine Below.xt ?_ ?_ _ | refine Below.alloc ?_ ?_ _ | refine Below.drew ?_ | refine Below.setCell ?_ ?_ _ | (simp; done) | (simp; omega)))
          · obtain rfl : k = L.os.length := by omega
            have E := Lib.hid (HPG.out HQ.out)
            clear HPG HB2
            go_wp2_with fail
            go_ret
            exact RetB.of (congrArg Value.bool E.out) (by repeat' (first | exact Below.refl _ _ | assumption | refine Below.xt ?_ ?_ _ | refine Below.alloc ?_ ?_ _ | refine Below.drew ?_ | refine Below.setCell ?_ ?_ _ | (simp; done) | (simp; omega)))
set_option maxRecDepth 100000 in
set_option maxHeartbeats 1600000 in
theorem rlValid_any (A1 A2 A3 : Option Addr) (c1 c2 c3 : Nat) (L : Li) (w : World) (hF : FineL L) (hr : RowL w A1 A2 A3 L) :
    Calls Tryz.prog 20 #[.agg #[.slice A1 L.nG c1, .slice A2 L.cs.length c2, .slice A3 L.os.length c3]] w (RetB (.bool (liB L)) w) := by
  by_cases hc : 1 ≤ L.nG ∧ L.nG ≤ 64
  · obtain ⟨q1, q2⟩ := hc
    have K1 := fun w h => Lib.hid (rcueValid_any A2 L.cs.length c2 L.cs w rfl hF.cn hF.cs h)
    have HR := Lib.hid hr
    by_cases q4 : cusB L.cs = true
    · by_cases q3 : L.os.length ≤ 64
      · exact rlValid_ok A1 A2 A3 c1 c2 c3 L w hF hr q1 q2 q3 q4
      · have f3 := hF.on
        have f2 := hF.cn
        rw [liB_bad (fun h => q3 h.2.2)]
        rw [q4] at K1
        clear hF hr q4
        go_enter Tryz.func20, Tryz.ntmps20
        go_wp2_with fail
        refine (RetB.grown (K1 _ (HR.out.u.alloc _)).out).mono ?_
        rintro e' w' ⟨rfl, g1, rfl⟩
        go_wp2_with fail
        go_ret
        exact RetB.of rfl (by repeat' (first | exact Below.refl _ _ | assumption | refine Below.xt ?_ ?_ _ | refine Below.alloc ?_ ?_ _ | refine Below.drew ?_ | refine Below.setCell ?_ ?_ _ | (simp; done) | (simp; omega)))
    · have e : liB L = false := by rw [Bool.eq_false_iff]; intro H; exact q4 (liB_iff.1 H).2.1
      have f2 := hF.cn
      rw [e]
      have q4' : cusB L.cs = false := by simpa using q4
      rw [q4'] at K1
      clear hF hr q4 q4' e
      go_enter Tryz.func20, Tryz.ntmps20
      go_wp2_with fail
      refine (RetB.grown (K1 _ (HR.out.u.alloc _)).out).mono ?_
      rintro e' w' ⟨rfl, g1, rfl⟩
      go_wp2_with fail
      go_ret
      exact RetB.of rfl (by repeat' (first | exact Below.refl _ _ | assumption | refine Below.xt ?_ ?_ _ | refine Below.alloc ?_ ?_ _ | refine Below.drew ?_ | refine Below.setCell ?_ ?_ _ | (simp; done) | (simp; omega)))
  · rw [liB_bad (fun h => hc ⟨h.1, h.2.1⟩)]
    have f1 := hF.n
    clear hF hr
    by_cases q1 : 1 ≤ L.nG
    · have q2 : 64 < L.nG := by omega
      clear hc
      go_enter Tryz.func20, Tryz.ntmps20
      go_wp2_with fail
      go_ret
      exact RetB.of rfl (by repeat' (first | exact Below.refl _ _ | assumption | refine Below.xt ?_ ?_ _ | refine Below.alloc ?_ ?_ _ | refine Below.drew ?_ | refine Below.setCell ?_ ?_ _ | (simp; done) | (simp; omega)))
    · have z0 : decide ((L.nG : Int) < 1) = true := by simp; omega
      have z1 : decide (L.nG < 1) = true := by simp; omega
      clear hc
      go_enter Tryz.func20, Tryz.ntmps20
      go_wp2_with fail
      go_ret
      exact RetB.of rfl (by repeat' (first | exact Below.refl _ _ | assumption | refine Below.xt ?_ ?_ _ | refine Below.alloc ?_ ?_ _ | refine Below.drew ?_ | refine Below.setCell ?_ ?_ _ | (simp; done) | (simp; omega)))

end Go.Proofs.YtiikejhkhdmgeaaGreat

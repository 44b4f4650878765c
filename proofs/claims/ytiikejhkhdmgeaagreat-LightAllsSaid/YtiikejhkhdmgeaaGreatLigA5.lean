
/- The walk of LightAlls. Conditions stand in each theorem. -/
import Derived.Test.YtiikejhkhdmgeaaGreatLigA4
import Derived.Laws.AppendOwnNone
import Derived.Test.YtiikejhkhdmgeaaGreatLigW1
namespace Go.Proofs.YtiikejhkhdmgeaaGreat
open Go.RowKit
set_option linter.unusedVariables false
set_option linter.unusedSimpArgs false
attribute [local go_sem ↓] ldr16 ldr18

theorem infoVec : (Tryz.prog.info? 37).map (fun i => (i.zero, i.size, i.bytes)) = some (some (.agg #[.int .i64 0, .int .i64 0, .int .i64 0]), 3, 24) := by kernel_rfl
theorem one_cells {n : Nat} {l : List V3} : ∀ u ∈ flat n 3 (fun i => vcell (at_ l i)), u.oneCell' = true := by
  intro u hu
  unfold flat at hu
  obtain ⟨k, _, rfl⟩ := List.mem_map.1 hu
  show (vcell (at_ l (k / 3)) (k % 3)).oneCell' = true
  unfold vcell
  split
  · rfl
  · split <;> rfl

set_option maxRecDepth 100000 in
set_option maxHeartbeats 1600000 in
theorem LA_nots (A1 A2 A3 A : Option Addr) (c1 c2 c3 n cap : Nat) (L : Li) (t : Int) (w : World) (h : LightsOk w A1 A2 A3 L.nG L.cs.length L.os.length c1 c2 c3 L) (hs : ¬ (L.nG ≤ 70 ∧ L.cs.length ≤ 40 ∧ L.os.length ≤ 70 ∧ ∀ i, i < L.nG → (L.G i).length ≤ 20)) : Calls Tryz.prog 3 #[.agg #[.slice A1 L.nG c1, .slice A2 L.cs.length c2, .slice A3 L.os.length c3], .slice A n cap, .int .i64 t] w (RetB (.bool true) w) := by
  have HR := Lib.hid h.r
  have SM := fun w hr => Lib.hid (h.small w hr)
  have HS := Lib.hid hs
  clear h hs
  go_enter Tryz.func3, Tryz.ntmps3
  go_wp2_with fail
  refine (SM _ (by repeat (first | (with_reducible exact HR.out) | (with_reducible refine RowL.alloc ?_ _) | (with_reducible refine RowL.drew ?_) | (with_reducible refine RowL.xt ?_ _)))).out.mono ?_
  rintro e' w' ⟨v, rfl, hb, hv⟩
  obtain ⟨g, rfl⟩ := xt_of_below hb
  clear hb SM
  cases v
  · clear hv
    go_wp2_with (first
      | (go_at_call 5; refine (RetB.grown (known_any _)).mono ?_; rintro e' w' ⟨rfl, g, rfl⟩)
      | (refine wp_region_xt (by kernel_rfl) (by kernel_rfl) ?_; (repeat (go_big_quiet_step (first | (go_at_call 5; exact RetB.quiet (known_any _))))); refine wpQuiet_nil ?_; intro g))
    go_ret
    exact RetB.of rfl (by repeat' (first | exact Below.refl _ _ | assumption | refine Below.xt ?_ ?_ _ | refine Below.alloc ?_ ?_ _ | refine Below.drew ?_ | refine Below.setCell ?_ ?_ _ | (simp; done) | (simp; omega)))
  · exact absurd (hv rfl) HS.out

set_option maxRecDepth 100000 in
set_option maxHeartbeats 1600000 in
theorem LA_big (A1 A2 A3 A : Option Addr) (c1 c2 c3 n cap : Nat) (L : Li) (t : Int) (w : World) (h : LightsOk w A1 A2 A3 L.nG L.cs.length L.os.length c1 c2 c3 L) (hm : n ≤ maxLen) (hn : 70 < n) : Calls Tryz.prog 3 #[.agg #[.slice A1 L.nG c1, .slice A2 L.cs.length c2, .slice A3 L.os.length c3], .slice A n cap, .int .i64 t] w (RetB (.bool true) w) := by
  have HR := Lib.hid h.r
  have SM := fun w hr => Lib.hid (h.small w hr)
  unfold maxLen at hm
  have d1 : decide ((70 : Int) < (n : Int)) = true := decide_eq_true (by omega)
  clear h
  go_enter Tryz.func3, Tryz.ntmps3
  go_wp2_with fail
  refine (SM _ (by repeat (first | (with_reducible exact HR.out) | (with_reducible refine RowL.alloc ?_ _) | (with_reducible refine RowL.drew ?_) | (with_reducible refine RowL.xt ?_ _)))).out.mono ?_
  rintro e' w' ⟨v, rfl, hb, hv⟩
  obtain ⟨g, rfl⟩ := xt_of_below hb
  clear hb SM hv
  cases v
  · skip
    go_wp2_with (first
      | (go_at_call 5; refine (RetB.grown (known_any _)).mono ?_; rintro e' w' ⟨rfl, g, rfl⟩)
      | (refine wp_region_xt (by kernel_rfl) (by kernel_rfl) ?_; (repeat (go_big_quiet_step (first | (go_at_call 5; exact RetB.quiet (known_any _))))); refine wpQuiet_nil ?_; intro g))
    go_ret
    exact RetB.of rfl (by repeat' (first | exact Below.refl _ _ | assumption | refine Below.xt ?_ ?_ _ | refine Below.alloc ?_ ?_ _ | refine Below.drew ?_ | refine Below.setCell ?_ ?_ _ | (simp; done) | (simp; omega)))
  · skip
    go_wp2_with (first
      | (go_at_call 5; refine (RetB.grown (known_any _)).mono ?_; rintro e' w' ⟨rfl, g, rfl⟩)
      | (refine wp_region_xt (by kernel_rfl) (by kernel_rfl) ?_; (repeat (go_big_quiet_step (first | (go_at_call 5; exact RetB.quiet (known_any _))))); refine wpQuiet_nil ?_; intro g))
    go_ret
    exact RetB.of rfl (by repeat' (first | exact Below.refl _ _ | assumption | refine Below.xt ?_ ?_ _ | refine Below.alloc ?_ ?_ _ | refine Below.drew ?_ | refine Below.setCell ?_ ?_ _ | (simp; done) | (simp; omega)))

set_option maxRecDepth 100000 in
set_option maxHeartbeats 3200000 in
theorem LA_err (A1 A2 A3 : Option Addr) (ad : Addr) (c1 c2 c3 n cap : Nat) (L : Li) (l : List V3) (t : Int) (w : World) (h : LightsOk w A1 A2 A3 L.nG L.cs.length L.os.length c1 c2 c3 L) (hF : FineL L) (hn : n = l.length) (hm : n ≤ 70) (hv : RowV w (some ad) l) (hE : allE L l t ≠ 0) :
    Calls Tryz.prog 3 #[.agg #[.slice A1 L.nG c1, .slice A2 L.cs.length c2, .slice A3 L.os.length c3], .slice (some ad) n cap, .int .i64 t] w (RetB (.bool true) w) := by
  have HR := Lib.hid h.r
  have SM := fun w hr => Lib.hid (h.small w hr)
  have d1 : decide ((70 : Int) < (n : Int)) = false := decide_eq_false (by omega)
  have H1 := fun A c w hr hv => Lib.hid (lAll_e A1 A2 A3 A c1 c2 c3 n c L l t w hF hr hn (by omega) hv hE)
  have H2 := fun A c w hr hv => Lib.hid (rAll_e A1 A2 A3 A c1 c2 c3 n c L l t w hF hr hn (by omega) hv hE)
  generalize allE L l t = E at *
  have HN := Lib.hid hn
  have HV := Lib.hid hv
  obtain ⟨i0, hi0, hz0, hz1, hz2⟩ := info_parts infoVec
  clear h hF hn hv hE
  go_enter Tryz.func3, Tryz.ntmps3
  go_wp2_with fail
  refine (SM _ (by repeat (first | (with_reducible exact HR.out) | (with_reducible refine RowL.alloc ?_ _) | (with_reducible refine RowL.drew ?_) | (with_reducible refine RowL.xt ?_ _)))).out.mono ?_
  rintro e' w' ⟨v, rfl, hb, hv⟩
  obtain ⟨g1, rfl⟩ := xt_of_below hb
  clear hb SM hv
  cases v
  · skip
    go_wp2_with (first
      | (go_at_call 5; refine (RetB.grown (known_any _)).mono ?_; rintro e' w' ⟨rfl, g, rfl⟩)
      | (refine wp_region_xt (by kernel_rfl) (by kernel_rfl) ?_; (repeat (go_big_quiet_step (first | (go_at_call 5; exact RetB.quiet (known_any _))))); refine wpQuiet_nil ?_; intro g))
    go_ret
    exact RetB.of rfl (by repeat' (first | exact Below.refl _ _ | assumption | refine Below.xt ?_ ?_ _ | refine Below.alloc ?_ ?_ _ | refine Below.drew ?_ | refine Below.setCell ?_ ?_ _ | (simp; done) | (simp; omega)))
  go_wp2_with (at_builtin; refine wpList_append_own _ rfl _ _ 27 rfl ((xt (w.alloc (.cells #[.slice A1 L.nG c1, .slice A2 L.cs.length c2, .slice A3 L.os.length c3] 26)) g1)).heap.size 37 i0 _ 3 24 Tryz.underlying27 hi0 hz0 hz1 hz2 rfl (by omega) (.slice none 0 0) 0 [] rfl own_nil ad n cap (flat n 3 fun i => vcell (at_ l i)) rfl (flat_length _ _ _) ?_ one_cells ?_ ?_ ?_ ?_)
  · have hx : RowV (xt (w.alloc (.cells #[.slice A1 L.nG c1, .slice A2 L.cs.length c2, .slice A3 L.os.length c3] 26)) g1) (some ad) l := (by repeat (first | (with_reducible exact HV.out) | (with_reducible refine RowV.alloc ?_ _) | (with_reducible refine RowV.drew ?_) | (with_reducible refine RowV.xt ?_ _)))
    unfold RowV at hx
    rw [← HN.out] at hx
    exact row_news hx (by omega)
  · simp only [maxLen]; omega
  · omega
  · simp
  intro v1 w1 hown1 hgr1 _
  have hb1 : Below ((xt (w.alloc (.cells #[.slice A1 L.nG c1, .slice A2 L.cs.length c2, .slice A3 L.os.length c3] 26)) g1)).heap.size (xt (w.alloc (.cells #[.slice A1 L.nG c1, .slice A2 L.cs.length c2, .slice A3 L.os.length c3] 26)) g1) w1 := (Below.refl _ _).grown hgr1 (Nat.le_refl _) (by simp [Value.ownBlock])
  obtain ⟨g9, rfl⟩ := xt_of_below hb1
  obtain ⟨A', c', rfl, hrow⟩ := Row.of_own (n := n) (f := fun i => vcell (at_ l i)) (by simpa using hown1) rfl
  have HO := Lib.hid (show RowV (xt (xt (w.alloc (.cells #[.slice A1 L.nG c1, .slice A2 L.cs.length c2, .slice A3 L.os.length c3] 26)) g1) g9) A' l by unfold RowV; rw [← HN.out]; exact hrow)
  clear hown1 hgr1 hb1 hrow
  go_wp2_with fail
  refine (RetB.grown (H1 A' c' _ (by repeat (first | (with_reducible exact HR.out) | (with_reducible refine RowL.alloc ?_ _) | (with_reducible refine RowL.drew ?_) | (with_reducible refine RowL.xt ?_ _))) HO.out).out).mono ?_
  rintro e' w' ⟨rfl, g2, rfl⟩
  go_wp2_with fail
  refine (RetB.grown (H2 _ _ _ (by repeat (first | (with_reducible exact HR.out) | (with_reducible refine RowL.alloc ?_ _) | (with_reducible refine RowL.drew ?_) | (with_reducible refine RowL.xt ?_ _))) (by repeat (first | (with_reducible exact HV.out) | (with_reducible refine RowV.alloc ?_ _) | (with_reducible refine RowV.drew ?_) | (with_reducible refine RowV.xt ?_ _)))).out).mono ?_
  rintro e' w' ⟨rfl, g3, rfl⟩
  clear H1 H2
  go_wp2_with fail
  rcases Nat.eq_zero_or_pos n with h0 | h0
  · subst h0
    refine wp_loop_rounds 1 ?_
    repeat any_goals (rw [rounds_succ]; go_wp2_with (first
      | (go_at_call 8; refine (RetB.grown (same_col none none 0 0 0 (fun _ => black) _ (by omega) Row.none_ Row.none_)).mono ?_; rintro e' w' ⟨rfl, g, rfl⟩)
      | (go_at_call 5; refine (RetB.grown (known_any _)).mono ?_; rintro e' w' ⟨rfl, g, rfl⟩)
      | (refine wp_region_xt (by kernel_rfl) (by kernel_rfl) ?_; (repeat (go_big_quiet_step (first | (go_at_call 8; exact RetB.quiet (same_col none none 0 0 0 (fun _ => black) _ (by omega) Row.none_ Row.none_)) | (go_at_call 5; exact RetB.quiet (known_any _))))); refine wpQuiet_nil ?_; intro g)))
    go_ret
    exact RetB.of rfl (by repeat' (first | exact Below.refl _ _ | assumption | refine Below.xt ?_ ?_ _ | refine Below.alloc ?_ ?_ _ | refine Below.drew ?_ | refine Below.setCell ?_ ?_ _ | (simp; done) | (simp; omega)))
  · obtain ⟨b, o, e1, hb, hc⟩ := HV.out.at_ (by rw [← HN.out]; exact h0)
    injection e1 with e1
    subst e1
    obtain ⟨b', o', rfl, hb', hc'⟩ := HO.out.at_ (by rw [← HN.out]; exact h0)
    have HC := Lib.hid hc
    have HC' := Lib.hid hc'
    clear hc hc'
    go_loopw [12] (fun i wr => ∃ (k : Nat) (g : Gr), k ≤ n ∧ i = .int .i64 k ∧ wr = xt (xt (xt (xt (xt (w.alloc (.cells #[.slice A1 L.nG c1, .slice A2 L.cs.length c2, .slice A3 L.os.length c3] 26)) g1) g9) g2) g3) g) (fun i _ => n - (intOf i).toNat)
    case atStart => exact ⟨0, ⟨[], _⟩, by omega, rfl, (xt_self _).symm⟩
    case round =>
      obtain ⟨k, g, hk, rfl, rfl⟩ := hrel
      by_cases hlt : k < n
      · obtain ⟨hx, hy, hz⟩ := RowV.cells HC.out (HN.out ▸ hlt)
        obtain ⟨gx, gy, gz⟩ := RowV.cells HC'.out (HN.out ▸ hlt)
        generalize at_ l k = v at *
        go_wp2_with (first
          | (refine wp_region_xt (by kernel_rfl) (by kernel_rfl) ?_; (repeat (go_big_quiet_step (first | fail))); refine wpQuiet_nil ?_; intro g))
        go_roundw
        case rel => exact ⟨k + 1, _, by omega, by go_num, (Classical.choose_spec (xt_of_below (by repeat' (first | exact Below.refl _ _ | assumption | refine Below.xt ?_ ?_ _ | refine Below.alloc ?_ ?_ _ | refine Below.drew ?_ | refine Below.setCell ?_ ?_ _ | (simp; done) | (simp; omega)))))⟩
        case measure => simp [intOf]; omega
      · skip
        go_wp2_with (first
          | (go_at_call 8; refine (RetB.grown (same_col none none 0 0 0 (fun _ => black) _ (by omega) Row.none_ Row.none_)).mono ?_; rintro e' w' ⟨rfl, g, rfl⟩)
          | (go_at_call 5; refine (RetB.grown (known_any _)).mono ?_; rintro e' w' ⟨rfl, g, rfl⟩)
          | (refine wp_region_xt (by kernel_rfl) (by kernel_rfl) ?_; (repeat (go_big_quiet_step (first | (go_at_call 8; exact RetB.quiet (same_col none none 0 0 0 (fun _ => black) _ (by omega) Row.none_ Row.none_)) | (go_at_call 5; exact RetB.quiet (known_any _))))); refine wpQuiet_nil ?_; intro g))
        go_ret
        exact RetB.of rfl (by repeat' (first | exact Below.refl _ _ | assumption | refine Below.xt ?_ ?_ _ | refine Below.alloc ?_ ?_ _ | refine Below.drew ?_ | refine Below.setCell ?_ ?_ _ | (simp; done) | (simp; omega)))

set_option maxRecDepth 100000 in
set_option maxHeartbeats 3200000 in
theorem LA_ok (A1 A2 A3 : Option Addr) (ad : Addr) (c1 c2 c3 n cap : Nat) (L : Li) (l : List V3) (t : Int) (w : World) (h : LightsOk w A1 A2 A3 L.nG L.cs.length L.os.length c1 c2 c3 L) (hF : FineL L) (hn : n = l.length) (hm : n ≤ 70) (hv : RowV w (some ad) l) (hE : allE L l t = 0) :
    Calls Tryz.prog 3 #[.agg #[.slice A1 L.nG c1, .slice A2 L.cs.length c2, .slice A3 L.os.length c3], .slice (some ad) n cap, .int .i64 t] w (RetB (.bool true) w) := by
  have HR := Lib.hid h.r
  have SM := fun w hr => Lib.hid (h.small w hr)
  have d1 : decide ((70 : Int) < (n : Int)) = false := decide_eq_false (by omega)
  obtain ⟨z1, z2, z3⟩ := allE_zero hE
  have hnG : n = L.nG := by omega
  have hpos := (fine_zero.1 z3).2.1.2
  have H1 := fun A c w (hr : RowL w A1 A2 A3 L) (hv : RowV w A l) => Lib.hid (show Calls Tryz.prog 6 #[.agg #[.slice A1 L.nG c1, .slice A2 L.cs.length c2, .slice A3 L.os.length c3], .slice A n c, .int .i64 t] w (RetRow n 3 (fun i => ccell (allC L l t i)) w) from by
    obtain ⟨b, o, rfl, _, _⟩ := hv.at_ (by omega)
    rw [hnG]
    exact lAll_ok A1 A2 A3 c1 c2 c3 b o c L l t w hF hr z1.symm hv (fun i hi => z2 i (by omega)) z3)
  have H2 := fun A c w (hr : RowL w A1 A2 A3 L) (hv : RowV w A l) => Lib.hid (show Calls Tryz.prog 7 #[.agg #[.slice A1 L.nG c1, .slice A2 L.cs.length c2, .slice A3 L.os.length c3], .slice A n c, .int .i64 t] w (RetRow n 3 (fun i => ccell (allC L l t i)) w) from by
    obtain ⟨b, o, rfl, _, _⟩ := hv.at_ (by omega)
    rw [hnG]
    exact rAll_ok A1 A2 A3 c1 c2 c3 b o c L l t w hF hr z1.symm hv (fun i hi => z2 i (by omega)) z3)
  clear z1 z2 z3 hnG hpos
  have HN := Lib.hid hn
  have HV := Lib.hid hv
  obtain ⟨i0, hi0, hz0, hz1, hz2⟩ := info_parts infoVec
  clear h hF hn hv hE
  go_enter Tryz.func3, Tryz.ntmps3
  go_wp2_with fail
  refine (SM _ (by repeat (first | (with_reducible exact HR.out) | (with_reducible refine RowL.alloc ?_ _) | (with_reducible refine RowL.drew ?_) | (with_reducible refine RowL.xt ?_ _)))).out.mono ?_
  rintro e' w' ⟨v, rfl, hb, hv⟩
  obtain ⟨g1, rfl⟩ := xt_of_below hb
  clear hb SM hv
  cases v
  · skip
    go_wp2_with (first
      | (go_at_call 5; refine (RetB.grown (known_any _)).mono ?_; rintro e' w' ⟨rfl, g, rfl⟩)
      | (refine wp_region_xt (by kernel_rfl) (by kernel_rfl) ?_; (repeat (go_big_quiet_step (first | (go_at_call 5; exact RetB.quiet (known_any _))))); refine wpQuiet_nil ?_; intro g))
    go_ret
    exact RetB.of rfl (by repeat' (first | exact Below.refl _ _ | assumption | refine Below.xt ?_ ?_ _ | refine Below.alloc ?_ ?_ _ | refine Below.drew ?_ | refine Below.setCell ?_ ?_ _ | (simp; done) | (simp; omega)))
  go_wp2_with (at_builtin; refine wpList_append_own _ rfl _ _ 27 rfl ((xt (w.alloc (.cells #[.slice A1 L.nG c1, .slice A2 L.cs.length c2, .slice A3 L.os.length c3] 26)) g1)).heap.size 37 i0 _ 3 24 Tryz.underlying27 hi0 hz0 hz1 hz2 rfl (by omega) (.slice none 0 0) 0 [] rfl own_nil ad n cap (flat n 3 fun i => vcell (at_ l i)) rfl (flat_length _ _ _) ?_ one_cells ?_ ?_ ?_ ?_)
  · have hx : RowV (xt (w.alloc (.cells #[.slice A1 L.nG c1, .slice A2 L.cs.length c2, .slice A3 L.os.length c3] 26)) g1) (some ad) l := (by repeat (first | (with_reducible exact HV.out) | (with_reducible refine RowV.alloc ?_ _) | (with_reducible refine RowV.drew ?_) | (with_reducible refine RowV.xt ?_ _)))
    unfold RowV at hx
    rw [← HN.out] at hx
    exact row_news hx (by omega)
  · simp only [maxLen]; omega
  · omega
  · simp
  intro v1 w1 hown1 hgr1 _
  have hb1 : Below ((xt (w.alloc (.cells #[.slice A1 L.nG c1, .slice A2 L.cs.length c2, .slice A3 L.os.length c3] 26)) g1)).heap.size (xt (w.alloc (.cells #[.slice A1 L.nG c1, .slice A2 L.cs.length c2, .slice A3 L.os.length c3] 26)) g1) w1 := (Below.refl _ _).grown hgr1 (Nat.le_refl _) (by simp [Value.ownBlock])
  obtain ⟨g9, rfl⟩ := xt_of_below hb1
  obtain ⟨A', c', rfl, hrow⟩ := Row.of_own (n := n) (f := fun i => vcell (at_ l i)) (by simpa using hown1) rfl
  have HO := Lib.hid (show RowV (xt (xt (w.alloc (.cells #[.slice A1 L.nG c1, .slice A2 L.cs.length c2, .slice A3 L.os.length c3] 26)) g1) g9) A' l by unfold RowV; rw [← HN.out]; exact hrow)
  clear hown1 hgr1 hb1 hrow
  go_wp2_with fail
  refine (H1 A' c' _ (by repeat (first | (with_reducible exact HR.out) | (with_reducible refine RowL.alloc ?_ _) | (with_reducible refine RowL.drew ?_) | (with_reducible refine RowL.xt ?_ _))) HO.out).out.mono ?_
  rintro e' w' ⟨B1, q1, rfl, hb2, hrow1⟩
  obtain ⟨g2, rfl⟩ := xt_of_below hb2
  have HA := Lib.hid hrow1
  clear hb2 hrow1
  go_wp2_with fail
  refine (H2 _ _ _ (by repeat (first | (with_reducible exact HR.out) | (with_reducible refine RowL.alloc ?_ _) | (with_reducible refine RowL.drew ?_) | (with_reducible refine RowL.xt ?_ _))) (by repeat (first | (with_reducible exact HV.out) | (with_reducible refine RowV.alloc ?_ _) | (with_reducible refine RowV.drew ?_) | (with_reducible refine RowV.xt ?_ _)))).out.mono ?_
  rintro e' w' ⟨B2, q2, rfl, hb3, hrow2⟩
  obtain ⟨g3, rfl⟩ := xt_of_below hb3
  have HB := Lib.hid hrow2
  clear hb3 hrow2
  clear H1 H2
  go_wp2_with fail
  rcases Nat.eq_zero_or_pos n with h0 | h0
  · subst h0
    refine wp_loop_rounds 1 ?_
    repeat any_goals (rw [rounds_succ]; go_wp2_with (first
      | (go_at_call 8; refine (RetB.grown (same_col B1 B2 _ _ _ (allC L l t) _ (by omega) (by repeat (first | exact HA.out | refine Row.xt ?_ _ | refine Row.alloc ?_ _)) (by repeat (first | exact HB.out | refine Row.xt ?_ _ | refine Row.alloc ?_ _)))).mono ?_; rintro e' w' ⟨rfl, g, rfl⟩)
      | (go_at_call 5; refine (RetB.grown (known_any _)).mono ?_; rintro e' w' ⟨rfl, g, rfl⟩)
      | (refine wp_region_xt (by kernel_rfl) (by kernel_rfl) ?_; (repeat (go_big_quiet_step (first | (go_at_call 8; exact RetB.quiet (same_col B1 B2 _ _ _ (allC L l t) _ (by omega) (by repeat (first | exact HA.out | refine Row.xt ?_ _ | refine Row.alloc ?_ _)) (by repeat (first | exact HB.out | refine Row.xt ?_ _ | refine Row.alloc ?_ _)))) | (go_at_call 5; exact RetB.quiet (known_any _))))); refine wpQuiet_nil ?_; intro g)))
    go_ret
    exact RetB.of rfl (by repeat' (first | exact Below.refl _ _ | assumption | refine Below.xt ?_ ?_ _ | refine Below.alloc ?_ ?_ _ | refine Below.drew ?_ | refine Below.setCell ?_ ?_ _ | (simp; done) | (simp; omega)))
  · obtain ⟨b, o, e1, hb, hc⟩ := HV.out.at_ (by rw [← HN.out]; exact h0)
    injection e1 with e1
    subst e1
    obtain ⟨b', o', rfl, hb', hc'⟩ := HO.out.at_ (by rw [← HN.out]; exact h0)
    have HC := Lib.hid hc
    have HC' := Lib.hid hc'
    clear hc hc'
    go_loopw [12] (fun i wr => ∃ (k : Nat) (g : Gr), k ≤ n ∧ i = .int .i64 k ∧ wr = xt (xt (xt (xt (xt (w.alloc (.cells #[.slice A1 L.nG c1, .slice A2 L.cs.length c2, .slice A3 L.os.length c3] 26)) g1) g9) g2) g3) g) (fun i _ => n - (intOf i).toNat)
    case atStart => exact ⟨0, ⟨[], _⟩, by omega, rfl, (xt_self _).symm⟩
    case round =>
      obtain ⟨k, g, hk, rfl, rfl⟩ := hrel
      by_cases hlt : k < n
      · obtain ⟨hx, hy, hz⟩ := RowV.cells HC.out (HN.out ▸ hlt)
        obtain ⟨gx, gy, gz⟩ := RowV.cells HC'.out (HN.out ▸ hlt)
        generalize at_ l k = v at *
        go_wp2_with (first
          | (refine wp_region_xt (by kernel_rfl) (by kernel_rfl) ?_; (repeat (go_big_quiet_step (first | fail))); refine wpQuiet_nil ?_; intro g))
        go_roundw
        case rel => exact ⟨k + 1, _, by omega, by go_num, (Classical.choose_spec (xt_of_below (by repeat' (first | exact Below.refl _ _ | assumption | refine Below.xt ?_ ?_ _ | refine Below.alloc ?_ ?_ _ | refine Below.drew ?_ | refine Below.setCell ?_ ?_ _ | (simp; done) | (simp; omega)))))⟩
        case measure => simp [intOf]; omega
      · skip
        go_wp2_with (first
          | (go_at_call 8; refine (RetB.grown (same_col B1 B2 _ _ _ (allC L l t) _ (by omega) (by repeat (first | exact HA.out | refine Row.xt ?_ _ | refine Row.alloc ?_ _)) (by repeat (first | exact HB.out | refine Row.xt ?_ _ | refine Row.alloc ?_ _)))).mono ?_; rintro e' w' ⟨rfl, g, rfl⟩)
          | (go_at_call 5; refine (RetB.grown (known_any _)).mono ?_; rintro e' w' ⟨rfl, g, rfl⟩)
          | (refine wp_region_xt (by kernel_rfl) (by kernel_rfl) ?_; (repeat (go_big_quiet_step (first | (go_at_call 8; exact RetB.quiet (same_col B1 B2 _ _ _ (allC L l t) _ (by omega) (by repeat (first | exact HA.out | refine Row.xt ?_ _ | refine Row.alloc ?_ _)) (by repeat (first | exact HB.out | refine Row.xt ?_ _ | refine Row.alloc ?_ _)))) | (go_at_call 5; exact RetB.quiet (known_any _))))); refine wpQuiet_nil ?_; intro g))
        go_ret
        exact RetB.of rfl (by repeat' (first | exact Below.refl _ _ | assumption | refine Below.xt ?_ ?_ _ | refine Below.alloc ?_ ?_ _ | refine Below.drew ?_ | refine Below.setCell ?_ ?_ _ | (simp; done) | (simp; omega)))

end Go.Proofs.YtiikejhkhdmgeaaGreat

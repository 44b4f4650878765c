/- The walk of the law CameraScenes, whatever its arguments within the form's own reach. -/
import Derived.Test.YtjeemlnhokihoaaCamR7
import Derived.Test.YtjeemlnhokihoaaCamH3
import Derived.Test.YtjeemlnhokihoaaCamK
import Derived.Test.YtjeemlnhokihoaaCamO
namespace Go.Proofs.Ytjeemlnhokihoaa
open Go.RowKit
set_option linter.unusedVariables false
set_option linter.unusedSimpArgs false
attribute [local go_sem ↓] ld16

theorem row_below {w w' : World} {A : Option Addr} {n s : Nat} {f : Nat → Nat → Value} (h : Row w A n s f) (hb : Below w.heap.size w w') : Row w' A n s f := by
  obtain ⟨g, rfl⟩ := xt_of_below hb
  exact h.xt g
/-- The call returns a row of spots with this property, and this error's number. -/
def RetQ (P : Nat → (Nat → Sp) → Prop) (er : Int) (w : World) (e : Ending) (w' : World) : Prop := ∃ m f A cp, P m f ∧ e = .returned (.tuple #[.slice A m cp, .int .i64 er]) ∧ Below w.heap.size w w' ∧ Row w' A m 5 fun i => scell (f i)

set_option maxRecDepth 100000 in
set_option maxHeartbeats 1600000 in
theorem CS_many (c : Cam) (A : Option Addr) (n cap : Nat) (ra : Int) (w : World) (h1 : 100 < n) (h2 : n ≤ 4096) : Calls Try.prog 6 #[.agg #[.int .i64 c.e.x, .int .i64 c.e.y, .int .i64 c.e.z, .int .i64 c.r.x, .int .i64 c.r.y, .int .i64 c.r.z, .int .i64 c.u.x, .int .i64 c.u.y, .int .i64 c.u.z, .int .i64 c.f.x, .int .i64 c.f.y, .int .i64 c.f.z, .int .i64 c.fo, .int .i64 c.wi, .int .i64 c.he, .int .i64 c.ne], .slice A n cap, .int .i64 ra] w (RetB (.bool true) w) := by
  have d1 : decide ((100 : Int) < (n : Int)) = true := by simp; omega
  have d1' : decide (100 < n) = true := by simp; omega
  have d2 : decide ((n : Int) ≤ 4096) = true := by simp; omega
  have d2' : decide (n ≤ 4096) = true := by simp; omega
  clear h1 h2
  go_enter Try.func6, Try.ntmps6
  go_wp2_with (go_at_call 12; refine (RetB.grown (known_any _)).mono ?_; rintro e' w' ⟨rfl, gk, rfl⟩)
  go_ret
  exact RetB.of rfl (by repeat' (first | exact Below.refl _ _ | assumption | refine Below.xt ?_ ?_ _ | refine Below.alloc ?_ ?_ _ | refine Below.drew ?_ | refine Below.setCell ?_ ?_ _ | (simp; done) | (simp; omega)))

set_option maxRecDepth 100000 in
set_option maxHeartbeats 6400000 in
theorem CS_main (P Q : Nat → (Nat → Sp) → Prop) (er : Int) (c : Cam) (l : List V3) (A : Option Addr) (n cap : Nat) (ra : Int) (w : World) (hm : n ≤ 100 ∨ 4096 < n) (hb : n * 24 ≤ 140737488351232) (hn : n = l.length) (hl : RowV w A l) (hA : A = none → n = 0 ∧ cap = 0)
    (c1 : ∀ A cap w, RowV w A l → Calls Try.prog 17 #[.agg #[.int .i64 c.e.x, .int .i64 c.e.y, .int .i64 c.e.z, .int .i64 c.r.x, .int .i64 c.r.y, .int .i64 c.r.z, .int .i64 c.u.x, .int .i64 c.u.y, .int .i64 c.u.z, .int .i64 c.f.x, .int .i64 c.f.y, .int .i64 c.f.z, .int .i64 c.fo, .int .i64 c.wi, .int .i64 c.he, .int .i64 c.ne], .slice A n cap, .int .i64 ra] w (RetQ P er w)) (c2 : ∀ A cap w, RowV w A l → Calls Try.prog 18 #[.agg #[.int .i64 c.e.x, .int .i64 c.e.y, .int .i64 c.e.z, .int .i64 c.r.x, .int .i64 c.r.y, .int .i64 c.r.z, .int .i64 c.u.x, .int .i64 c.u.y, .int .i64 c.u.z, .int .i64 c.f.x, .int .i64 c.f.y, .int .i64 c.f.z, .int .i64 c.fo, .int .i64 c.wi, .int .i64 c.he, .int .i64 c.ne], .slice A n cap, .int .i64 ra] w (RetQ Q er w))
    (hPQ : ∀ m f m' f', P m f → Q m' f' → m' = m ∧ m ≤ 4096 ∧ ∀ i, i < m → f' i = f i) : Calls Try.prog 6 #[.agg #[.int .i64 c.e.x, .int .i64 c.e.y, .int .i64 c.e.z, .int .i64 c.r.x, .int .i64 c.r.y, .int .i64 c.r.z, .int .i64 c.u.x, .int .i64 c.u.y, .int .i64 c.u.z, .int .i64 c.f.x, .int .i64 c.f.y, .int .i64 c.f.z, .int .i64 c.fo, .int .i64 c.wi, .int .i64 c.he, .int .i64 c.ne], .slice A n cap, .int .i64 ra] w (RetB (.bool true) w) := by
  have HL := Lib.hid hl
  have HN := Lib.hid hn
  have C1 := fun A cap w h => Lib.hid (c1 A cap w h)
  have C2 := fun A cap w h => Lib.hid (c2 A cap w h)
  have HPQ := Lib.hid hPQ
  have HA := Lib.hid hA
  obtain ⟨i0, hi0, hz0, hz1, hz2⟩ := info_parts infoVec
  clear hn hl c1 c2 hPQ hA
  go_enter Try.func6, Try.ntmps6
  go_upto_region 1 with fail
  go_cut [20] (fun s wx => s = .bool false ∧ wx = (w.alloc (.cells #[.int .i64 c.e.x, .int .i64 c.e.y, .int .i64 c.e.z, .int .i64 c.r.x, .int .i64 c.r.y, .int .i64 c.r.z, .int .i64 c.u.x, .int .i64 c.u.y, .int .i64 c.u.z, .int .i64 c.f.x, .int .i64 c.f.y, .int .i64 c.f.z, .int .i64 c.fo, .int .i64 c.wi, .int .i64 c.he, .int .i64 c.ne] 25)))
  case first =>
    --A{
    rcases hm with h | h
    · have d1 : decide ((100 : Int) < (n : Int)) = false := by simp; omega
      have d1' : decide (100 < n) = false := by simp; omega
      go_wp2_with fail
      go_meet
      exact ⟨rfl, rfl⟩
    · have d1 : decide ((100 : Int) < (n : Int)) = true := by simp; omega
      have d1' : decide (100 < n) = true := by simp; omega
      have d2 : decide ((n : Int) ≤ 4096) = false := by simp; omega
      have d2' : decide (n ≤ 4096) = false := by simp; omega
      go_wp2_with fail
      go_meet
      exact ⟨rfl, rfl⟩
    --A}
  case rest =>
    obtain ⟨rfl, rfl⟩ := hcut
    clear hm
    go_upto_region 3 with fail
    go_cut [7] (fun v wx => ∃ A2 c2 g, v = .slice A2 n c2 ∧ wx = xt (w.alloc (.cells #[.int .i64 c.e.x, .int .i64 c.e.y, .int .i64 c.e.z, .int .i64 c.r.x, .int .i64 c.r.y, .int .i64 c.r.z, .int .i64 c.u.x, .int .i64 c.u.y, .int .i64 c.u.z, .int .i64 c.f.x, .int .i64 c.f.y, .int .i64 c.f.z, .int .i64 c.fo, .int .i64 c.wi, .int .i64 c.he, .int .i64 c.ne] 25)) g ∧ Hid (RowV (xt (w.alloc (.cells #[.int .i64 c.e.x, .int .i64 c.e.y, .int .i64 c.e.z, .int .i64 c.r.x, .int .i64 c.r.y, .int .i64 c.r.z, .int .i64 c.u.x, .int .i64 c.u.y, .int .i64 c.u.z, .int .i64 c.f.x, .int .i64 c.f.y, .int .i64 c.f.z, .int .i64 c.fo, .int .i64 c.wi, .int .i64 c.he, .int .i64 c.ne] 25)) g) A2 l))
    case first =>
      --B{
      rcases A with _ | ad
      · obtain ⟨rfl, rfl⟩ := HA.out rfl
        go_wp2_with fail
        go_meet
        exact ⟨none, 0, ⟨[], _⟩, rfl, (xt_self _).symm, by rw [xt_self]; exact Lib.hid (show Row _ none l.length 3 _ by rw [← HN.out]; exact Row.none_)⟩
      · go_wp2_with (at_builtin; go_must (refine wpList_append_own _ rfl _ _ 41 rfl ((w.alloc (.cells #[.int .i64 c.e.x, .int .i64 c.e.y, .int .i64 c.e.z, .int .i64 c.r.x, .int .i64 c.r.y, .int .i64 c.r.z, .int .i64 c.u.x, .int .i64 c.u.y, .int .i64 c.u.z, .int .i64 c.f.x, .int .i64 c.f.y, .int .i64 c.f.z, .int .i64 c.fo, .int .i64 c.wi, .int .i64 c.he, .int .i64 c.ne] 25))).heap.size 23 i0 _ 3 24 Try.underlying41 hi0 hz0 hz1 hz2 rfl (by omega) (.slice none 0 0) 0 [] rfl own_nil ad n cap (flat l.length 3 fun i => vcell (at_ l i)) rfl (by rw [flat_length, HN.out]) (row_news (Row.alloc HL.out _) (by omega)) one_cells ?_ ?_ ?_ ?_))
        · simp only [maxLen]; omega
        · omega
        · simp
        intro v w1 hown hgr _
        have hb1 : Below ((w.alloc (.cells #[.int .i64 c.e.x, .int .i64 c.e.y, .int .i64 c.e.z, .int .i64 c.r.x, .int .i64 c.r.y, .int .i64 c.r.z, .int .i64 c.u.x, .int .i64 c.u.y, .int .i64 c.u.z, .int .i64 c.f.x, .int .i64 c.f.y, .int .i64 c.f.z, .int .i64 c.fo, .int .i64 c.wi, .int .i64 c.he, .int .i64 c.ne] 25))).heap.size (w.alloc (.cells #[.int .i64 c.e.x, .int .i64 c.e.y, .int .i64 c.e.z, .int .i64 c.r.x, .int .i64 c.r.y, .int .i64 c.r.z, .int .i64 c.u.x, .int .i64 c.u.y, .int .i64 c.u.z, .int .i64 c.f.x, .int .i64 c.f.y, .int .i64 c.f.z, .int .i64 c.fo, .int .i64 c.wi, .int .i64 c.he, .int .i64 c.ne] 25)) w1 := below_noneR hgr
        obtain ⟨g, rfl⟩ := xt_of_below hb1
        try simp only [Nat.zero_add, List.nil_append] at hown
        obtain ⟨A2, c2, rfl, hrow⟩ := Row.of_own (f := fun i => vcell (at_ l i)) hown (by rw [HN.out])
        have HRW := Lib.hid (show RowV (xt (w.alloc (.cells #[.int .i64 c.e.x, .int .i64 c.e.y, .int .i64 c.e.z, .int .i64 c.r.x, .int .i64 c.r.y, .int .i64 c.r.z, .int .i64 c.u.x, .int .i64 c.u.y, .int .i64 c.u.z, .int .i64 c.f.x, .int .i64 c.f.y, .int .i64 c.f.z, .int .i64 c.fo, .int .i64 c.wi, .int .i64 c.he, .int .i64 c.ne] 25)) g) A2 l from by rw [HN.out] at hrow; exact hrow)
        clear hown hgr hb1 hrow
        go_wp2_with fail
        go_meet
        exact ⟨A2, c2, g, rfl, rfl, HRW⟩
      --B}
    case rest =>
      obtain ⟨A2, c2, g2, rfl, rfl, HR2⟩ := hcut
      --C{
      have HLB := Lib.hid (show RowV (w.alloc (.cells #[.int .i64 c.e.x, .int .i64 c.e.y, .int .i64 c.e.z, .int .i64 c.r.x, .int .i64 c.r.y, .int .i64 c.r.z, .int .i64 c.u.x, .int .i64 c.u.y, .int .i64 c.u.z, .int .i64 c.f.x, .int .i64 c.f.y, .int .i64 c.f.z, .int .i64 c.fo, .int .i64 c.wi, .int .i64 c.he, .int .i64 c.ne] 25)) A l from Row.alloc HL.out _)
      go_upto_region 6 with (first | (go_at_call 17; refine (C1 _ _ _ HR2.out).out.mono ?_; rintro e' w' ⟨m, f, A3, c3, hP, rfl, hb3, hr3⟩; obtain ⟨g3, rfl⟩ := xt_of_below hb3; have HP3 := Lib.hid hP; have HR3 := Lib.hid hr3; clear hP hr3 hb3) | (go_at_call 18; refine (C2 _ _ _ (by repeat (first | (with_reducible exact HLB.out) | (with_reducible refine RowV.xt ?_ _)))).out.mono ?_; rintro e' w' ⟨m', f', A4, c4, hQ, rfl, hb4, hr4⟩; obtain ⟨g4, rfl⟩ := xt_of_below hb4; have HQ4 := Lib.hid hQ; have HR4 := Lib.hid hr4; clear hQ hr4 hb4))
      obtain ⟨e1, e2, e3⟩ := HPQ.out _ _ _ _ HP3.out HQ4.out
      subst e1
      obtain ⟨W5, hW5, HB5, HL5, HO5, HR5, HS5⟩ : ∃ W5, xt (xt (xt (w.alloc (.cells #[.int .i64 c.e.x, .int .i64 c.e.y, .int .i64 c.e.z, .int .i64 c.r.x, .int .i64 c.r.y, .int .i64 c.r.z, .int .i64 c.u.x, .int .i64 c.u.y, .int .i64 c.u.z, .int .i64 c.f.x, .int .i64 c.f.y, .int .i64 c.f.z, .int .i64 c.fo, .int .i64 c.wi, .int .i64 c.he, .int .i64 c.ne] 25)) g2) g3) g4 = W5 ∧ Hid (Below w.heap.size w W5) ∧ Hid (RowV W5 A l) ∧ Hid (RowV W5 A2 l) ∧ Hid (Row W5 A3 m' 5 fun i => scell (f i)) ∧ Hid (Row W5 A4 m' 5 fun i => scell (f i)) :=
        ⟨_, rfl, Lib.hid (by repeat' (first | exact Below.refl _ _ | assumption | refine Below.xt ?_ ?_ _ | refine Below.alloc ?_ ?_ _ | refine Below.drew ?_ | refine Below.setCell ?_ ?_ _ | (simp; done) | (simp; omega))), Lib.hid (((HLB.out.xt _).xt _).xt _), Lib.hid ((HR2.out.xt _).xt _), Lib.hid (HR3.out.xt _), Lib.hid (HR4.out.congr fun i j hi hj => by rw [e3 i hi])⟩
      rw [hW5]
      have hm' : m' ≤ 4294967296 := by omega
      have SS := fun W a b => Lib.hid (same_spots A3 A4 m' c3 c4 f W hm' a b)
      clear hW5 HP3 HQ4 HR3 HR4 e3 HLB HR2 HL C1 C2 HPQ HA
      go_wp2_with fail
      go_loopw [12] (fun i wr => ∃ (k : Nat) (g : Gr), k ≤ n ∧ i = .int .i64 k ∧ wr = xt W5 g) (fun i _ => n - (intOf i).toNat)
      case atStart => exact ⟨0, ⟨[], _⟩, by omega, rfl, (xt_self _).symm⟩
      case round =>
        obtain ⟨k, g, hk, rfl, rfl⟩ := hrel
        by_cases hlt : k < n
        · skip
          --D{
          obtain ⟨b, o, rfl, hb1, hcl⟩ := HL5.out.at_ (HN.out ▸ (show 0 < n by omega))
          obtain ⟨x0, x1, x2⟩ := RowV.cells hcl (HN.out ▸ hlt)
          obtain ⟨b', o', rfl, hb2, hcl2⟩ := HO5.out.at_ (HN.out ▸ (show 0 < n by omega))
          obtain ⟨y0, y1, y2⟩ := RowV.cells hcl2 (HN.out ▸ hlt)
          clear hcl hcl2
          generalize at_ l k = v at *
          go_wp2_with fail
          refine wp_region_xt (by kernel_rfl) (by kernel_rfl) ?_
          repeat (go_big_quiet_step (fail))
          refine wpQuiet_nil ?_
          intro g9
          go_wp2_with fail
          go_roundw
          case rel => exact ⟨k + 1, _, by omega, by go_num, (Classical.choose_spec (xt_of_below (by repeat' (first | exact Below.refl _ _ | assumption | refine Below.xt ?_ ?_ _ | refine Below.alloc ?_ ?_ _ | refine Below.drew ?_ | refine Below.setCell ?_ ?_ _ | (simp; done) | (simp; omega)))))⟩
          case measure => simp [intOf]; omega
          --D}
        · skip
          --E{
          have d1 : decide ((k : Int) < (n : Int)) = false := by simp; omega
          have d1' : decide (k < n) = false := by simp; omega
          have HX := Lib.hid (show ∀ g, Below w.heap.size w (xt W5 g) from fun g => Below.xt HB5.out HB5.out.size g)
          have S9 := fun g => Lib.hid (show Calls Try.prog 19 #[.slice A3 m' c3, .slice A4 m' c4] (xt W5 g) (RetB (.bool true) (xt W5 g)) from (SS _ (HR5.out.xt _) (HS5.out.xt _)).out)
          clear SS HR5 HS5 HL5 HO5
          go_wp2_with (first | (go_at_call 19; refine (RetB.grown (S9 _).out).mono ?_; rintro e' w' ⟨rfl, g8, rfl⟩) | (go_at_call 12; refine (RetB.grown (known_any _)).mono ?_; rintro e' w' ⟨rfl, gk, rfl⟩))
          go_ret
          exact RetB.of rfl (by (repeat rw [xt_xt]); exact HX.out _)
          --E}
      --C}

set_option maxRecDepth 100000 in
set_option maxHeartbeats 1600000 in
theorem rScene_bad (c : Cam) (l : List V3) (A : Option Addr) (n cap : Nat) (ra : Int) (w : World) (hl : RowV w A l) (K : ∀ w, RowV w A l → Calls Try.prog 37 #[.agg #[.int .i64 c.e.x, .int .i64 c.e.y, .int .i64 c.e.z, .int .i64 c.r.x, .int .i64 c.r.y, .int .i64 c.r.z, .int .i64 c.u.x, .int .i64 c.u.y, .int .i64 c.u.z, .int .i64 c.f.x, .int .i64 c.f.y, .int .i64 c.f.z, .int .i64 c.fo, .int .i64 c.wi, .int .i64 c.he, .int .i64 c.ne], .slice A n cap, .int .i64 ra] w (RetB (.bool false) w)) :
    Calls Try.prog 18 #[.agg #[.int .i64 c.e.x, .int .i64 c.e.y, .int .i64 c.e.z, .int .i64 c.r.x, .int .i64 c.r.y, .int .i64 c.r.z, .int .i64 c.u.x, .int .i64 c.u.y, .int .i64 c.u.z, .int .i64 c.f.x, .int .i64 c.f.y, .int .i64 c.f.z, .int .i64 c.fo, .int .i64 c.wi, .int .i64 c.he, .int .i64 c.ne], .slice A n cap, .int .i64 ra] w (RetB (.tuple #[.slice none 0 0, .int .i64 2]) w) := by
  have K2 := fun w h => Lib.hid (K w h)
  clear K
  go_enter Try.func18, Try.ntmps18
  go_wp2_with fail
  refine (RetB.grown (K2 _ (Row.alloc hl _)).out).mono ?_
  rintro e w' ⟨rfl, ga, rfl⟩
  clear K2
  go_wp2_with fail
  go_ret2
  exact RetB.of rfl (by repeat' (first | exact Below.refl _ _ | assumption | refine Below.xt ?_ ?_ _ | refine Below.alloc ?_ ?_ _ | refine Below.drew ?_ | refine Below.setCell ?_ ?_ _ | (simp; done) | (simp; omega)))

theorem retQ_bad {f : Nat} {args : Array Value} {w : World} (h : Calls Try.prog f args w (RetB (.tuple #[.slice none 0 0, .int .i64 2]) w)) : Calls Try.prog f args w (RetQ (fun m _ => m = 0) 2 w) :=
  (RetB.grown h).mono fun e w' ⟨he, g, hw⟩ => ⟨0, fun _ => default, none, 0, rfl, he, by rw [hw]; exact Below.xt (Below.refl _ _) (Nat.le_refl _) g, Row.none_⟩
theorem CS_bad (c : Cam) (l : List V3) (A : Option Addr) (n cap : Nat) (ra : Int) (w : World) (hm : n ≤ 100 ∨ 4096 < n) (hb : n * 24 ≤ 140737488351232) (hn : n = l.length) (hl : RowV w A l) (hA : A = none → n = 0 ∧ cap = 0)
    (k1 : ∀ A cap w, RowV w A l → Calls Try.prog 35 #[.agg #[.int .i64 c.e.x, .int .i64 c.e.y, .int .i64 c.e.z, .int .i64 c.r.x, .int .i64 c.r.y, .int .i64 c.r.z, .int .i64 c.u.x, .int .i64 c.u.y, .int .i64 c.u.z, .int .i64 c.f.x, .int .i64 c.f.y, .int .i64 c.f.z, .int .i64 c.fo, .int .i64 c.wi, .int .i64 c.he, .int .i64 c.ne], .int .i64 ra, .slice A n cap] w (RetB (.bool false) w)) (k2 : ∀ A cap w, RowV w A l → Calls Try.prog 37 #[.agg #[.int .i64 c.e.x, .int .i64 c.e.y, .int .i64 c.e.z, .int .i64 c.r.x, .int .i64 c.r.y, .int .i64 c.r.z, .int .i64 c.u.x, .int .i64 c.u.y, .int .i64 c.u.z, .int .i64 c.f.x, .int .i64 c.f.y, .int .i64 c.f.z, .int .i64 c.fo, .int .i64 c.wi, .int .i64 c.he, .int .i64 c.ne], .slice A n cap, .int .i64 ra] w (RetB (.bool false) w)) :
    Calls Try.prog 6 #[.agg #[.int .i64 c.e.x, .int .i64 c.e.y, .int .i64 c.e.z, .int .i64 c.r.x, .int .i64 c.r.y, .int .i64 c.r.z, .int .i64 c.u.x, .int .i64 c.u.y, .int .i64 c.u.z, .int .i64 c.f.x, .int .i64 c.f.y, .int .i64 c.f.z, .int .i64 c.fo, .int .i64 c.wi, .int .i64 c.he, .int .i64 c.ne], .slice A n cap, .int .i64 ra] w (RetB (.bool true) w) :=
  CS_main (fun m _ => m = 0) (fun m _ => m = 0) 2 c l A n cap ra w hm hb hn hl hA
    (fun A cap w h => retQ_bad (Scene_bad c l A n cap ra w h (fun w h => k1 A cap w h)))
    (fun A cap w h => retQ_bad (rScene_bad c l A n cap ra w h (fun w h => k2 A cap w h)))
    (fun m f m' f' h h' => ⟨h'.trans h.symm, by omega, fun i hi => by omega⟩)
theorem CS_ok (c : Cam) (l : List V3) (A : Option Addr) (n cap : Nat) (ra : Int) (w : World) (hm : n ≤ 100) (hn : n = l.length) (hl : RowV w A l) (hA : A = none → n = 0 ∧ cap = 0)
    (hc : cval c = true) (hr : within ra 0 1000 = true) (hp : ∀ i, i < n → pointAt l i = true) :
    Calls Try.prog 6 #[.agg #[.int .i64 c.e.x, .int .i64 c.e.y, .int .i64 c.e.z, .int .i64 c.r.x, .int .i64 c.r.y, .int .i64 c.r.z, .int .i64 c.u.x, .int .i64 c.u.y, .int .i64 c.u.z, .int .i64 c.f.x, .int .i64 c.f.y, .int .i64 c.f.z, .int .i64 c.fo, .int .i64 c.wi, .int .i64 c.he, .int .i64 c.ne], .slice A n cap, .int .i64 ra] w (RetB (.bool true) w) :=
  CS_main (fun m f => m = (scn c l ra n).length ∧ Mrg (sfn (scn c l ra n)) 0 (scn c l ra n).length f) (fun m f => ∃ R, RefL R (scn c l ra n) ∧ m = R.length ∧ f = sfn R) 0 c l A n cap ra w (.inl hm) (by omega) hn hl hA
    (fun A cap w h => (Scene_any c l A n cap ra w hc hr hn (by omega) h hp).mono fun e w' ⟨f, A1, cp, hM, he, hb, hrow⟩ => ⟨_, f, A1, cp, ⟨rfl, hM⟩, he, hb, hrow⟩)
    (fun A cap w h => (rScene_any c l A n cap ra w hc hr hn (by omega) h hp).mono fun e w' ⟨R, A1, cp, hM, he, hb, hrow⟩ => ⟨_, sfn R, A1, cp, ⟨R, hM, rfl, rfl⟩, he, hb, hrow⟩)
    (fun m f m' f' ⟨h1, hM⟩ ⟨R, hR, h2, h3⟩ => by
      obtain ⟨e1, e2⟩ := both_rows hM hR
      have := scn_len c l ra n
      subst h1 h2 h3
      exact ⟨e1, by omega, e2⟩)
theorem CameraScenes_any (c : Cam) (l : List V3) (A : Option Addr) (n cap : Nat) (ra : Int) (w : World) (hb : n * 24 ≤ 140737488351232) (hn : n = l.length) (hl : RowV w A l) (hA : A = none → n = 0 ∧ cap = 0) :
    Calls Try.prog 6 #[.agg #[.int .i64 c.e.x, .int .i64 c.e.y, .int .i64 c.e.z, .int .i64 c.r.x, .int .i64 c.r.y, .int .i64 c.r.z, .int .i64 c.u.x, .int .i64 c.u.y, .int .i64 c.u.z, .int .i64 c.f.x, .int .i64 c.f.y, .int .i64 c.f.z, .int .i64 c.fo, .int .i64 c.wi, .int .i64 c.he, .int .i64 c.ne], .slice A n cap, .int .i64 ra] w (RetB (.bool true) w) := by
  by_cases hm : n ≤ 100 ∨ 4096 < n
  · rcases Bool.eq_false_or_eq_true (cval c) with hc | hc
    · rcases Bool.eq_false_or_eq_true (within ra 0 1000) with hr | hr
      · by_cases h4 : n ≤ 4096
        · by_cases hp : ∀ i, i < n → pointAt l i = true
          · exact CS_ok c l A n cap ra w (by omega) hn hl hA hc hr hp
          · have hp' : ∃ i, i < n ∧ pointAt l i = false := by
              refine Classical.byContradiction fun h => hp fun i hi => ?_
              rcases Bool.eq_false_or_eq_true (pointAt l i) with h1 | h1
              · exact h1
              · exact absurd ⟨i, hi, h1⟩ h
            have h0 : 0 < l.length := by obtain ⟨i, hi, _⟩ := hp'; omega
            refine CS_bad c l A n cap ra w hm hb hn hl hA (fun A cap w h => ?_) (fun A cap w h => ?_)
            · obtain ⟨b, o, rfl, _, _⟩ := h.at_ h0
              exact fine_no c ra b o n cap l w hc hr h4 hn h hp'
            · obtain ⟨b, o, rfl, _, _⟩ := h.at_ h0
              exact rfine_no c ra b o n cap l w hc hr h4 hn h hp'
        · exact CS_bad c l A n cap ra w hm hb hn hl hA (fun A cap w h => fine_many c ra A n cap w hc hr (by omega)) (fun A cap w h => rfine_many c ra A n cap w hc (by omega))
      · refine CS_bad c l A n cap ra w hm hb hn hl hA (fun A cap w h => fine_rad c ra A n cap w hc hr) (fun A cap w h => ?_)
        by_cases h4 : n ≤ 4096
        · exact rfine_rad c ra A n cap w hc h4 hr
        · exact rfine_many c ra A n cap w hc (by omega)
    · exact CS_bad c l A n cap ra w hm hb hn hl hA (fun A cap w h => fine_bad c ra A n cap w hc) (fun A cap w h => rfine_bad c ra A n cap w hc)
  · exact CS_many c A n cap ra w (by omega) (by omega)
theorem CameraScenes_walk (c : Cam) (A : Option Addr) (n cap : Nat) (ra : Int) (w : World) (oc : c.ok)
    (ol : (A = none ∧ n = 0 ∧ cap = 0) ∨ ∃ ad l, A = some ad ∧ n = l.length ∧ n ≤ maxLen ∧ RowV w (some ad) l) (ora : I64 ra) (hb : n * 24 ≤ 140737488351232) :
    Calls Try.prog 6 #[.agg #[.int .i64 c.e.x, .int .i64 c.e.y, .int .i64 c.e.z, .int .i64 c.r.x, .int .i64 c.r.y, .int .i64 c.r.z, .int .i64 c.u.x, .int .i64 c.u.y, .int .i64 c.u.z, .int .i64 c.f.x, .int .i64 c.f.y, .int .i64 c.f.z, .int .i64 c.fo, .int .i64 c.wi, .int .i64 c.he, .int .i64 c.ne], .slice A n cap, .int .i64 ra] w (RetB (.bool true) w) := by
  rcases ol with ⟨rfl, rfl, rfl⟩ | ⟨ad, l, rfl, hn, _, hl⟩
  · exact CameraScenes_any c [] none 0 0 ra w hb rfl Row.none_ (fun _ => ⟨rfl, rfl⟩)
  · exact CameraScenes_any c l (some ad) n cap ra w hb hn hl (fun h => by cases h)

/-- How long the datum is that a slice of vectors reads as. -/
theorem len_SV {H : Type} {enc : TypeId × Value → H} {W : World} {b : Nat} {sp : Nat → Bool} {held : Bool} {A : Option Addr} {n c : Nat} {d : DataW H} {p : List MemPlace} (h : DataW.Trod enc Try.prog W b sp held 41 (.slice A n c) d p) :
    n = 0 ∨ ∃ es rs, d = .slice es rs ∧ es.length = n := by
  obtain ⟨fuel, hf⟩ := h
  rcases Go.Deep.open_slice Try.underlying41 hf with ⟨hcs, _⟩ | ⟨a, len, cap, m, k, D, Pl, hcs, _, _, _, _, hx, _⟩
  · simp [Value.cells] at hcs
    exact .inl hcs.2.1
  · simp [Value.cells] at hcs
    obtain ⟨_, e, _⟩ := hcs
    simp only [Prod.mk.injEq] at hx
    exact .inr ⟨_, _, hx.1, by simp [e]⟩

end Go.Proofs.Ytjeemlnhokihoaa

/- Walk of the law MatchingLarge. Conditions stand in each theorem. -/
import Derived.Test.YtkabknmhbjmmcaaMatL4
namespace Go.Proofs.Ytkabknmhbjmmcaa
open Go.RowKit
set_option linter.unusedVariables false
set_option linter.unusedSimpArgs false

/-- The numbers below m with p. -/
def nums (p : Nat → Bool) (m : Nat) : List Int := ((List.range m).filter p).map fun k : Nat => (k : Int)
theorem nums_yes {p : Nat → Bool} {m : Nat} (h : p m = true) : nums p (m + 1) = nums p m ++ [(m : Int)] := by
  unfold nums; rw [List.range_succ, List.filter_append]; simp [h]
theorem nums_no {p : Nat → Bool} {m : Nat} (h : p m = false) : nums p (m + 1) = nums p m := by
  unfold nums; rw [List.range_succ, List.filter_append]; simp [h]
theorem nums_len (p : Nat → Bool) (m : Nat) : (nums p m).length ≤ m := by
  unfold nums; rw [List.length_map]; have := List.length_filter_le p (List.range m); simpa using this
theorem nums_vld (P : Nat → Nat → Bool) {nL R : Nat} (h1 : nL ≤ 200) (h2 : R ≤ 200) : vld (fun i => nums (P i) R) nL R = true :=
  (vld_iff _).2 ⟨fun i hi => inc_filter _ R _ (Int.le_refl _), h1, by omega, by omega⟩
def rul (a b c i k : Nat) : Bool := decide ((i * a + k * b) % c = 0)

set_option maxRecDepth 100000 in
set_option maxHeartbeats 6400000 in
theorem MatchingLarge_in (nL R a b c : Nat) (W : World) (h1 : nL ≤ 200) (h2 : R ≤ 200) (h3 : a ≤ 1000) (h4 : b ≤ 1000) (h5 : 1 ≤ c) (h6 : c ≤ 1000) :
    Calls Try.prog 7 #[.int .i64 (nL : Int), .int .i64 (R : Int), .int .i64 (a : Int), .int .i64 (b : Int), .int .i64 (c : Int)] W (RetB (.bool true) W) := by
  obtain ⟨i0, hi0, hz0, hz1, hz2⟩ := info_parts infoInt
  obtain ⟨i1, hi1, hy0, hy1, hy2⟩ := info_parts infoRow
  have n1 : decide ((200 : Int) < (nL : Int)) = false := by simp; omega
  have n2 : decide ((200 : Int) < (R : Int)) = false := by simp; omega
  have n3 : decide ((1000 : Int) < (a : Int)) = false := by simp; omega
  have n4 : decide ((1000 : Int) < (b : Int)) = false := by simp; omega
  have n5 : decide ((c : Int) < 1) = false := by simp; omega
  have z1 : decide ((nL : Int) < 0) = false := by simp
  have z2 : decide ((R : Int) < 0) = false := by simp
  have z3 : decide ((a : Int) < 0) = false := by simp
  have z4 : decide ((b : Int) < 0) = false := by simp
  have n6 : decide ((1000 : Int) < (c : Int)) = false := by simp; omega
  have HC := Lib.hid (show Blk (W.alloc (.cells #[.slice none 0 0, .int .i64 (R : Int)] 24)) W.heap.size #[.slice none 0 0, .int .i64 (R : Int)] 24 from Blk.new _ _ _ rfl)
  have HB2 := Lib.hid (show Below W.heap.size W (W.alloc (.cells #[.slice none 0 0, .int .i64 (R : Int)] 24)) from (by repeat' (first | exact Below.refl _ _ | assumption | refine Below.xt ?_ ?_ _ | refine Below.alloc ?_ ?_ _ | refine Below.drew ?_ | refine Below.setCell ?_ ?_ _ | (simp; done) | (simp; omega))))
  go_enter Try.func7, Try.ntmps7
  go_wp2_with fail
  go_loopg [12] (nL) (fun gk i wr => ∃ (k : Nat) (vL : Value), k + gk = nL ∧ i = .int .i64 k ∧ Hid (Below W.heap.size W wr) ∧ Hid (Blk wr W.heap.size #[vL, .int .i64 (R : Int)] 24) ∧ Hid (GOwn wr (W.heap.size + 1) vL k (fun i => nums (rul a b c i) R)))
  case atStart => exact ⟨0, _, by omega, rfl, HB2, HC, Lib.hid GOwn.nil⟩
  case round =>
    clear HC HB2
    obtain ⟨k, vL, hk, rfl, HB2, HC, HO⟩ := hrel
    by_cases hlt : k < nL
    · obtain ⟨gf, rfl⟩ : ∃ gf, gk = gf + 1 := ⟨gk - 1, by omega⟩
      have ka1 : (0 : Int) ≤ (k : Int) * (a : Int) := Int.mul_nonneg (by omega) (by omega)
      have ka2 : (k : Int) * (a : Int) ≤ 200000 := by
        have := Nat.mul_le_mul (show k ≤ 200 by omega) h3
        have e : ((k * a : Nat) : Int) = (k : Int) * (a : Int) := by rw [Int.natCast_mul]
        omega
      obtain ⟨Wo, hWo⟩ : ∃ Wo, Wo = wr := ⟨_, rfl⟩
      subst hWo
      go_wp2_with fail
      go_loopg [13, 14] (R) (fun gk l j wr => ∃ (m : Nat), m + gk = R ∧ j = .int .i64 m ∧ Hid (Below Wo.heap.size Wo wr) ∧ Hid (wr.ownsRow Wo.heap.size 3 1 l (nums (rul a b c k) m).length ((nums (rul a b c k) m).map (Value.int .i64))))
      case atStart => exact ⟨0, by omega, rfl, Lib.hid (Below.refl _ _), Lib.hid own_nil⟩
      case round =>
        obtain ⟨m, hm, rfl, HBx, HL⟩ := hrel
        by_cases hlt2 : m < R
        · have mb1 : (0 : Int) ≤ (m : Int) * (b : Int) := Int.mul_nonneg (by omega) (by omega)
          have mb2 : (m : Int) * (b : Int) ≤ 200000 := by
            have := Nat.mul_le_mul (show m ≤ 200 by omega) h4
            have e : ((m * b : Nat) : Int) = (m : Int) * (b : Int) := by rw [Int.natCast_mul]
            omega
          have hle := nums_len (rul a b c k) m
          rcases Bool.eq_false_or_eq_true (rul a b c k m) with hp | hp
          · have hz : ((((k : Int) * (a : Int) + (m : Int) * (b : Int)) % (c : Int)) == 0) = true := by
              have h := of_decide_eq_true hp
              rw [beq_iff_eq, ← Int.natCast_mul, ← Int.natCast_mul, ← Int.natCast_add, ← Int.natCast_emod, h]; rfl
            have HSN := Lib.hid (nums_yes hp)
            clear hp
            generalize nums (rul a b c k) m = L at *
            go_wp2_with (at_builtin; go_must (refine wpList_append_own _ rfl _ _ 25 rfl Wo.heap.size 3 i0 _ 1 8 Try.underlying25 hi0 hz0 hz1 hz2 rfl (by omega) u13 L.length (L.map (Value.int .i64)) rfl (HL.out.alloc _) _ 1 _ [.int .i64 (m : Int)] rfl rfl ?_ ?_ ?_ ?_ ?_ ?_))
            · exact cells_new _ _ _ _ (by simp)
            · intro u hu; simp only [List.mem_cons, List.not_mem_nil, or_false] at hu; subst hu; rfl
            · simp only [maxLen]; omega
            · omega
            · have := HBx.out.size; simp; omega
            intro v1 w1 hown1 hgr1 _
            have hsx := HBx.out.size
            have HB1 := Lib.hid (below_grown (n := L.length) (v := u13) (xs := L.map (Value.int .i64)) (e := 3) (s := 1) (HBx.out.alloc hsx _) (by simp; omega) (HL.out.alloc _) hgr1)
            have HL1 := Lib.hid (show w1.ownsRow Wo.heap.size 3 1 v1 (nums (rul a b c k) (m + 1)).length ((nums (rul a b c k) (m + 1)).map (Value.int .i64)) by rw [HSN.out, ints_snoc, List.length_append]; exact hown1)
            clear hown1 hgr1 HL HBx HSN
            go_wp2_with fail
            go_roundg (gk - 1)
            case measure => omega
            case rel => exact ⟨m + 1, by omega, by go_num, HB1, HL1⟩
          · have hz : ((((k : Int) * (a : Int) + (m : Int) * (b : Int)) % (c : Int)) == 0) = false := by
              have h := of_decide_eq_false hp
              rw [beq_eq_false_iff_ne, ← Int.natCast_mul, ← Int.natCast_mul, ← Int.natCast_add, ← Int.natCast_emod]; omega
            have HL1 := HL
            rw [← nums_no hp] at HL1
            clear HL hp
            go_wp2_with fail
            go_roundg (gk - 1)
            case measure => omega
            case rel => exact ⟨m + 1, by omega, by go_num, HBx, HL1⟩
        · obtain rfl : m = R := by omega
          obtain ⟨xs, hx, hi⟩ := HO.out.below HBx.out
          have HX := Lib.hid hx
          have HI := Lib.hid hi
          obtain ⟨Al, cl, rfl, hcl, hrl⟩ := own_row HL.out
          have hCx := HC.out.below HBx.out HC.out.lt
          have x1 : wr.cell? ⟨W.heap.size, 0, none⟩ = some vL := hCx.cell rfl
          have x4 : old W.heap.size wr := hCx.lt
          have HCx := Lib.hid hCx
          have HLo := Lib.hid (own_low (base := W.heap.size + 1) HL.out (by have := HC.out.lt; omega))
          have HBx2 := Lib.hid (Below.next' HB2.out HBx.out HB2.out.size)
          clear hx hi hcl hrl hCx HO HL HBx HB2 HC ka1 ka2
          go_wp2_with (at_builtin; go_must (refine wpList_append_own _ rfl _ _ 22 rfl (W.heap.size + 1) 25 i1 _ 1 24 Try.underlying22 hi1 hy0 hy1 hy2 rfl (by omega) vL k xs rfl (HX.out.alloc _) _ 1 _ [.slice Al (nums (rul a b c k) m).length cl] rfl rfl ?_ ?_ ?_ ?_ ?_ ?_))
          · rfl
          · simp only [maxLen]; omega
          · omega
          · have := HCx.out.lt; omega
          intro v3 w3 hown3 hgrow3 _
          have hB3 := (HCx.out.alloc (.cells #[.slice Al (nums (rul a b c k) m).length cl] 25)).kept hgrow3 (fun e => by have := (HX.out.lt _ e.symm).1; omega)
          obtain ⟨g3, cap3, rfl⟩ := own_form hown3
          have t1 : w3.cell? ⟨W.heap.size, 0, none⟩ = some vL := hB3.cell rfl
          have t2 : old W.heap.size w3 := hB3.lt
          have t3 : w3.frozen? ⟨W.heap.size, 0, none⟩ = false := hB3.frozen
          have HGO := Lib.hid ((gown_push (w := wr.alloc (.cells #[.slice Al (nums (rul a b c k) m).length cl] 25)) (n := k) (G := fun i => nums (rul a b c i) m) (HX.out.alloc _) (fun i hlt => by obtain ⟨u, e, ho⟩ := HI.out i hlt; exact ⟨u, e, ho.alloc _⟩) (HLo.out.alloc _) hown3 hgrow3).set W.heap.size 0 (.slice (some ⟨g3, 0, none⟩) (k + 1) cap3) (by omega))
          have HC3 := Lib.hid (show Blk (w3.setCell ⟨W.heap.size, 0, none⟩ (.slice (some ⟨g3, 0, none⟩) (k + 1) cap3)) W.heap.size #[.slice (some ⟨g3, 0, none⟩) (k + 1) cap3, .int .i64 (m : Int)] 24 from hB3.set (k := 0) (.slice (some ⟨g3, 0, none⟩) (k + 1) cap3))
          have HB3 := Lib.hid (show Below W.heap.size W (w3.setCell ⟨W.heap.size, 0, none⟩ (.slice (some ⟨g3, 0, none⟩) (k + 1) cap3)) from Below.setCell (below_grown (e := 25) (s := 1) (n := k) (v := vL) (xs := xs) (HBx2.out.alloc HBx2.out.size _) (by have := HBx2.out.size; simp; omega) (own_low (base' := W.heap.size + 1) (HX.out.alloc _) (by omega)) hgrow3) (Nat.le_refl _) _)
          clear hown3 hgrow3 hB3 HX HI HLo HBx2 HCx
          go_wp2_with fail
          go_roundg gf
          case measure => omega
          case rel => exact ⟨k + 1, _, by omega, by go_num, HB3, HC3, HGO⟩
    · obtain rfl : k = nL := by omega
      have hv := nums_vld (rul a b c) h1 h2
      obtain ⟨A2, c2, rfl, hrow⟩ := HO.out.row
      have x1 : wr.cell? ⟨W.heap.size, 0, none⟩ = some (.slice A2 k c2) := HC.out.cell rfl
      have x2 : wr.cell? ⟨W.heap.size, 1, none⟩ = some (.int .i64 (R : Int)) := HC.out.cell rfl
      have x4 : old W.heap.size wr := HC.out.lt
      generalize (fun i => nums (rul a b c i) R) = G at *
      have HG := Lib.hid hrow
      have HBw := HB2.out
      have hsw := HB2.out.size
      have V := (vld_iff G).1 hv
      have hgl : (grt G k).length ≤ 1000 := by rw [grt_len]; omega
      have hL1 : (cvL G k).length ≤ 1000 := by have := inc_len (cvL_inc G k) (by omega); omega
      have hR1 : (cvR G k R).length ≤ 1000 := by have := inc_len (cvR_inc G k R) (by omega); omega
      have hll : ∀ i, i < k → (G i).length ≤ 1000 := fun i hi => by have := inc_len (V.inc i hi) V.h0; omega
      have K1 := fun w h => Lib.hid (Greatest_ok A2 k c2 R G w h hv)
      have K2 := fun w h => Lib.hid (Cover_ok A2 k c2 R G w h hv)
      have K3 := fun w h => Size_ok A2 k c2 R G w h hv
      have K4 := fun M cM A1 c1 A3 c3 w hg hc hm ha hb => refProves_any A2 M A1 A3 k c2 (grt G k).length cM (cvL G k).length c1 (cvR G k R).length c3 R G (grt G k) (cvL G k) (cvR G k R) w (by omega) hll hg rfl hgl hc hm rfl hL1 ha rfl hR1 hb
      have K5 := fun M cM w hm => Count_any M cM (grt G k) w hgl hm
      have K6 := fun M cM A1 c1 A3 c3 w hg hm ha hb => Check_ok A2 M A1 A3 k c2 (grt G k).length cM (cvL G k).length c1 (cvR G k R).length c3 R G (grt G k) (cvL G k) (cvR G k R) w hg rfl hgl hm rfl hL1 ha rfl hR1 hb hv
      rw [prv_ok G hv] at K4
      rw [grt_cnt] at K5
      rw [prE_yes (prv_ok G hv)] at K6
      clear hrow HO HB2 HC V hv hll hgl hL1 hR1
      generalize grt G k = l at *
      generalize cvL G k = cl at *
      generalize cvR G k R = cr at *
      generalize sizeV G k = z at *
      have H3 := fun w h => Lib.hid (K3 w h)
      have H4 := fun M cM A1 c1 A3 c3 w hg hc hm ha hb => Lib.hid (K4 M cM A1 c1 A3 c3 w hg hc hm ha hb)
      have H5 := fun M cM w hm => Lib.hid (K5 M cM w hm)
      have H6 := fun M cM A1 c1 A3 c3 w hg hm ha hb => Lib.hid (K6 M cM A1 c1 A3 c3 w hg hm ha hb)
      clear K3 K4 K5 K6
      go_wp2_with fail
      refine (K1 _ (by repeat (first | (with_reducible exact HG.out) | (with_reducible refine GRow.xt ?_ _) | (with_reducible refine GRow.alloc ?_ _) | (with_reducible refine GRow.drew ?_)))).out.mono ?_
      rintro e' w' ⟨M, cM, rfl, hcM, hbel, hrM⟩
      obtain ⟨gx, rfl⟩ := xt_of_below hbel
      have HM := Lib.hid hrM
      clear hbel hrM K1
      go_wp2_with fail
      refine (K2 _ (by repeat (first | (with_reducible exact HG.out) | (with_reducible refine GRow.xt ?_ _) | (with_reducible refine GRow.alloc ?_ _) | (with_reducible refine GRow.drew ?_)))).out.mono ?_
      rintro e' w' ⟨A1, c1, A3, c3, rfl, hc1, hc3, hbel, hr1, hr3⟩
      obtain ⟨gy, rfl⟩ := xt_of_below hbel
      have HA := Lib.hid hr1
      have HBr := Lib.hid hr3
      clear hbel hr1 hr3 K2
      go_wp2_with (first
        | (go_at_call 18; refine (RetB.grown (H3 _ (by repeat (first | (with_reducible exact HG.out) | (with_reducible refine GRow.xt ?_ _) | (with_reducible refine GRow.alloc ?_ _) | (with_reducible refine GRow.drew ?_)))).out).mono ?_; rintro e' w' ⟨rfl, g7, rfl⟩)
        | (go_at_call 16; refine (RetB.grown (H4 _ _ _ _ _ _ _ (by repeat (first | (with_reducible exact HG.out) | (with_reducible refine GRow.xt ?_ _) | (with_reducible refine GRow.alloc ?_ _) | (with_reducible refine GRow.drew ?_))) hcM (by repeat (first | (with_reducible exact HM.out) | (with_reducible refine RowI.xt ?_ _) | (with_reducible refine RowI.alloc ?_ _) | (with_reducible refine RowI.drew ?_))) (by repeat (first | (with_reducible exact HA.out) | (with_reducible refine RowI.xt ?_ _) | (with_reducible refine RowI.alloc ?_ _) | (with_reducible refine RowI.drew ?_))) (by repeat (first | (with_reducible exact HBr.out) | (with_reducible refine RowI.xt ?_ _) | (with_reducible refine RowI.alloc ?_ _) | (with_reducible refine RowI.drew ?_)))).out).mono ?_; rintro e' w' ⟨rfl, g8, rfl⟩)
        | (go_at_call 20; refine (H5 _ _ _ (by repeat (first | (with_reducible exact HM.out) | (with_reducible refine RowI.xt ?_ _) | (with_reducible refine RowI.alloc ?_ _) | (with_reducible refine RowI.drew ?_)))).out.mono ?_; rintro e' w' ⟨rfl, rfl⟩)
        | (go_at_call 15; refine (RetB.grown (H6 _ _ _ _ _ _ _ (by repeat (first | (with_reducible exact HG.out) | (with_reducible refine GRow.xt ?_ _) | (with_reducible refine GRow.alloc ?_ _) | (with_reducible refine GRow.drew ?_))) (by repeat (first | (with_reducible exact HM.out) | (with_reducible refine RowI.xt ?_ _) | (with_reducible refine RowI.alloc ?_ _) | (with_reducible refine RowI.drew ?_))) (by repeat (first | (with_reducible exact HA.out) | (with_reducible refine RowI.xt ?_ _) | (with_reducible refine RowI.alloc ?_ _) | (with_reducible refine RowI.drew ?_))) (by repeat (first | (with_reducible exact HBr.out) | (with_reducible refine RowI.xt ?_ _) | (with_reducible refine RowI.alloc ?_ _) | (with_reducible refine RowI.drew ?_)))).out).mono ?_; rintro e' w' ⟨rfl, g9, rfl⟩)
        | (go_at_call 10; refine (RetB.grown (known_any _)).mono ?_; rintro e' w' ⟨rfl, g9, rfl⟩))
      go_ret
      exact RetB.of rfl (by repeat' (first | exact Below.refl _ _ | assumption | refine Below.xt ?_ ?_ _ | refine Below.alloc ?_ ?_ _ | refine Below.drew ?_ | refine Below.setCell ?_ ?_ _ | (simp; done) | (simp; omega)))

set_option maxHeartbeats 3200000 in
theorem MatchingLarge_walk (left right a b c : Int) (W : World) (o1 : I64 left) (o2 : I64 right) (o3 : I64 a) (o4 : I64 b) (o5 : I64 c) :
    Calls Try.prog 7 #[.int .i64 left, .int .i64 right, .int .i64 a, .int .i64 b, .int .i64 c] W (RetB (.bool true) W) := by
  by_cases h : (0 ≤ left ∧ left ≤ 200) ∧ (0 ≤ right ∧ right ≤ 200) ∧ (0 ≤ a ∧ a ≤ 1000) ∧ (0 ≤ b ∧ b ≤ 1000) ∧ (1 ≤ c ∧ c ≤ 1000)
  · obtain ⟨⟨p1, q1⟩, ⟨p2, q2⟩, ⟨p3, q3⟩, ⟨p4, q4⟩, p5, q5⟩ := h
    obtain ⟨x1, rfl⟩ : ∃ x : Nat, left = (x : Int) := ⟨left.toNat, by omega⟩
    obtain ⟨x2, rfl⟩ : ∃ x : Nat, right = (x : Int) := ⟨right.toNat, by omega⟩
    obtain ⟨x3, rfl⟩ : ∃ x : Nat, a = (x : Int) := ⟨a.toNat, by omega⟩
    obtain ⟨x4, rfl⟩ : ∃ x : Nat, b = (x : Int) := ⟨b.toNat, by omega⟩
    obtain ⟨x5, rfl⟩ : ∃ x : Nat, c = (x : Int) := ⟨c.toNat, by omega⟩
    exact MatchingLarge_in x1 x2 x3 x4 x5 W (by omega) (by omega) (by omega) (by omega) (by omega) (by omega)
  · have hb : decide (left < 0) = true ∨ (decide (left < 0) = false ∧ (decide (200 < left) = true ∨ (decide (200 < left) = false ∧ (decide (right < 0) = true ∨ (decide (right < 0) = false ∧ (decide (200 < right) = true ∨ (decide (200 < right) = false ∧ (decide (a < 0) = true ∨ (decide (a < 0) = false ∧ (decide (1000 < a) = true ∨ (decide (1000 < a) = false ∧ (decide (b < 0) = true ∨ (decide (b < 0) = false ∧ (decide (1000 < b) = true ∨ (decide (1000 < b) = false ∧ (decide (c < 1) = true ∨ (decide (c < 1) = false ∧ (decide (1000 < c) = true)))))))))))))))))) := by
      simp only [decide_eq_true_eq, decide_eq_false_iff_not]; omega
    clear h
    rcases hb with h1 | ⟨h1, h2 | ⟨h2, h3 | ⟨h3, h4 | ⟨h4, h5 | ⟨h5, h6 | ⟨h6, h7 | ⟨h7, h8 | ⟨h8, h9 | ⟨h9, h10⟩⟩⟩⟩⟩⟩⟩⟩⟩
    all_goals
      go_enter Try.func7, Try.ntmps7
      go_wp2_with (go_at_call 10; refine (RetB.grown (known_any _)).mono ?_; rintro e' w' ⟨rfl, g9, rfl⟩)
      go_ret
      exact RetB.of rfl (by repeat' (first | exact Below.refl _ _ | assumption | refine Below.xt ?_ ?_ _ | refine Below.alloc ?_ ?_ _ | refine Below.drew ?_ | refine Below.setCell ?_ ?_ _ | (simp; done) | (simp; omega)))
end Go.Proofs.Ytkabknmhbjmmcaa

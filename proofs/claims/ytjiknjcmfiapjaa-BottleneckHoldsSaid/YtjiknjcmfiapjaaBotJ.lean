
/- Walk: whether a proof proves that an assignment is best, by the reference: graph, cover, potentials. Conditions stand in each theorem. -/
import Derived.Test.YtjiknjcmfiapjaaBotN
namespace Go.Proofs.Ytjiknjcmfiapjaa
open Go.RowKit
set_option linter.unusedVariables false
set_option linter.unusedSimpArgs false

theorem pr4_pt {G : Nat → List Int} {n k : Nat} {g s : Int} {u v : List Int} (hk : k < n) (h : ptB u v k = false) : pr4 G n g s u v = false := by
  rw [← Bool.not_eq_true]
  intro e
  simp only [pr4, Bool.and_eq_true, List.all_eq_true, List.mem_range] at e
  rw [e.1.1 k hk] at h; cases h
theorem pr4_fe {G : Nat → List Int} {n i k : Nat} {g s : Int} {u v : List Int} (hi : i < n) (hk : k < n) (h : feA G g u v i k = false) : pr4 G n g s u v = false := by
  rw [← Bool.not_eq_true]
  intro e
  simp only [pr4, Bool.and_eq_true] at e
  rw [all_all.1 e.1.2 i hi k hk] at h; cases h
theorem pr4_end {G : Nat → List Int} {n : Nat} {g s : Int} {u v : List Int} (h1 : ∀ k, k < n → ptB u v k = true) (h2 : ∀ i, i < n → ∀ k, k < n → feA G g u v i k = true) : pr4 G n g s u v = decide (smU u v n = s) := by
  have e1 : (List.range n).all (ptB u v) = true := by simp only [List.all_eq_true, List.mem_range]; exact h1
  have e2 : (List.range n).all (fun i => (List.range n).all fun k => feA G g u v i k) = true := all_all.2 h2
  rw [pr4, e1, e2]; simp
theorem ptB_iff {u v : List Int} {i : Nat} : ptB u v i = true ↔ -9007199254740992 ≤ u.getD i 0 ∧ u.getD i 0 ≤ 9007199254740992 ∧ -9007199254740992 ≤ v.getD i 0 ∧ v.getD i 0 ≤ 9007199254740992 := by
  simp [ptB, and_assoc]
theorem smU_bd {u v : List Int} : ∀ k, (∀ j, j < k → ptB u v j = true) → -(k * 18014398509481984 : Int) ≤ smU u v k ∧ smU u v k ≤ k * 18014398509481984
  | 0, _ => by simp [smU, sm]
  | k + 1, h => by
    have h1 := smU_bd k fun j hj => h j (by omega)
    have h2 := ptB_iff.1 (h k (by omega))
    have e : smU u v (k + 1) = smU u v k + (u.getD k 0 + v.getD k 0) := rfl
    omega

set_option maxRecDepth 100000 in
set_option maxHeartbeats 12800000 in
theorem rProves_3 (A Lo Al Ar Au Av : Option Addr) (no cap co kl cl0 kr cr0 cu cv : Nat) (G : Nat → List Int) (of cl cr u v : List Int) (M S : Int) (w : World) (hG : GRow w A no G) (hC : Cst G no) (hA : AP w Lo Al Ar Au Av no co kl kr no no of cl cr u v)
    (hb : colsB of no = true) (hM : mstC G of no = M) (hS : sumC G of no = S) :
    Calls Try.prog 12 #[.slice A no cap, .agg #[.slice Lo no co, .int .i64 M, .int .i64 S], .agg #[.slice Al kl cl0, .slice Ar kr cr0, .slice Au no cu, .slice Av no cv]] w (RetB (.bool (pr3 G no M cl cr && pr4 G no M S u v)) w) := by
  obtain ⟨i0, hi0, hz0, hz1, hz2⟩ := info_parts infoInt
  obtain ⟨i1, hi1, hy0, hy1, hy2⟩ := info_parts infoRow
  have hn1 := hC.pos
  have hn2 := hC.le
  have hcb := colsB_iff.1 hb
  have hM1 := mstC_bd hC no (Nat.le_refl _) hcb.1
  have hS1 := sumC_bd hC no (Nat.le_refl _) hcb.1
  rw [hM] at hM1
  rw [hS] at hS1
  obtain ⟨hM0, hM2⟩ := hM1
  have hS2 : 0 ≤ S ∧ S ≤ 64 * 17592186044416 := by omega
  obtain ⟨hS0, hS3⟩ := hS2
  have C1 := fun (w' : World) (h : RowI w' Lo of) => Lib.hid (show Calls Try.prog 14 #[.slice Lo no co, .int .i64 (no : Int)] w' (RetB (.bool true) w') by rw [← hb]; exact Columns_any Lo no co of no w' hA.eno hA.lo (by omega) hA.eco h)
  have C2 := fun (w' : World) (h : RowI w' Lo of) (h' : GRow w' A no G) => Lib.hid (show Calls Try.prog 15 #[.slice A no cap, .slice Lo no co] w' (RetB (.tuple #[.int .i64 M, .int .i64 S]) w') by rw [← hM, ← hS]; exact rCosts_any A Lo no cap no co G of w' h' hC rfl hb h)
  have HR := Lib.hid hA.ro
  have HG := Lib.hid hG
  have HA := Lib.hid hA
  have HC := Lib.hid hC
  clear hb hM hS hG hC hA hcb hS1
  go_enter Try.func12, Try.ntmps12
  go_wp2_with (first | (go_at_call 14; refine (RetB.grown (C1 _ ((HR.out.alloc _).alloc _)).out).mono ?_; rintro e' w' ⟨rfl, g1, rfl⟩) | (go_at_call 15; refine (RetB.grown (C2 _ (((HR.out.alloc _).alloc _).xt _) (((HG.out.alloc _).alloc _).xt _)).out).mono ?_; rintro e' w' ⟨rfl, g2, rfl⟩))
  clear C1 C2 HR
  obtain ⟨W2, hW2, HB1, HPa, hs2, hWb⟩ : ∃ W2, xt (xt ((w.alloc (.cells #[.slice Lo no co, .int .i64 M, .int .i64 S] 25)).alloc (.cells #[.slice Al kl cl0, .slice Ar kr cr0, .slice Au no cu, .slice Av no cv] 29)) g1) g2 = W2 ∧ Hid (Below w.heap.size w W2) ∧ Hid (Blk W2 (w.heap.size + 1) #[.slice Al kl cl0, .slice Ar kr cr0, .slice Au no cu, .slice Av no cv] 29) ∧ w.heap.size + 1 + 1 + g1.blocks.length + g2.blocks.length = W2.heap.size ∧ w.heap.size + 1 < W2.heap.size :=
    ⟨_, rfl, Lib.hid (by repeat' (first | exact Below.refl _ _ | assumption | refine Below.xt ?_ ?_ _ | refine Below.alloc ?_ ?_ _ | refine Below.drew ?_ | refine Below.setCell ?_ ?_ _ | (simp; done) | (simp; omega))), Lib.hid (((Blk.new _ _ _ (by simp)).xt _).xt _), by simp, by simp; omega⟩
  rw [hW2, hs2]
  clear hW2 hs2
  obtain ⟨ga, go, rfl, hgo, hgc⟩ := HG.out.top (by omega)
  have HGC := Lib.hid hgc
  clear hgc
  have HCx := Lib.hid (show Blk (W2.alloc (.cells #[.slice none 0 0, .int .i64 (no : Int)] 54)) W2.heap.size #[.slice none 0 0, .int .i64 (no : Int)] 54 from Blk.new _ _ _ rfl)
  have HB2 := Lib.hid (show Below W2.heap.size W2 (W2.alloc (.cells #[.slice none 0 0, .int .i64 (no : Int)] 54)) from (by repeat' (first | exact Below.refl _ _ | assumption | refine Below.xt ?_ ?_ _ | refine Below.alloc ?_ ?_ _ | refine Below.drew ?_ | refine Below.setCell ?_ ?_ _ | (simp; done) | (simp; omega))))
  go_loopg [11] (no) (fun gk i wr => ∃ (k : Nat) (vL : Value), k + gk = no ∧ i = .int .i64 k ∧ Hid (Below W2.heap.size W2 wr) ∧ Hid (Blk wr W2.heap.size #[vL, .int .i64 (no : Int)] 54) ∧ Hid (GOwn wr (W2.heap.size + 1) vL k (gph G no fun x => decide (x < M))))
  case atStart => exact ⟨0, _, by omega, rfl, HB2, HCx, Lib.hid GOwn.nil⟩
  case round =>
    clear HCx HB2
    obtain ⟨k, vL, hk, rfl, HB2, HCx, HO⟩ := hrel
    obtain ⟨Wo, hWo⟩ : ∃ Wo, Wo = wr := ⟨_, rfl⟩
    subst hWo
    have HW := Lib.hid (show Below w.heap.size w Wo from Below.next' HB1.out HB2.out HB1.out.size)
    by_cases hlt : k < no
    · skip
      --A{
      obtain ⟨gf, rfl⟩ : ∃ gf, gk = gf + 1 := ⟨gk - 1, by omega⟩
      obtain ⟨Ai, ci, hgi0, hrow⟩ := HGC.out k hlt
      have hlr := HC.out.len k hlt
      rw [hlr] at hgi0
      have hgi := (HW.out.cell (p := ⟨ga, go + k, none⟩) hgo).trans hgi0
      have hga : old ga Wo := Nat.lt_of_lt_of_le hgo HW.out.size
      have HRow := Lib.hid (hrow.below HW.out)
      have HLr := Lib.hid hlr
      clear hrow hgi0 hlr
      go_wp2_with fail
      go_loopg [12, 13] (no) (fun gk l j wr => ∃ (m : Nat), m + gk = no ∧ j = .int .i64 m ∧ Hid (Below Wo.heap.size Wo wr) ∧ Hid (wr.ownsRow Wo.heap.size 3 1 l (nums (fun j => decide (cst G k j < M)) m).length ((nums (fun j => decide (cst G k j < M)) m).map (Value.int .i64))))
      case atStart => exact ⟨0, by omega, rfl, Lib.hid (Below.refl _ _), Lib.hid own_nil⟩
      case round =>
        obtain ⟨m, hm, rfl, HBx, HL⟩ := hrel
        by_cases hlt2 : m < no
        · have hle := nums_len (fun j => decide (cst G k j < M)) m
          obtain ⟨qb, qo, rfl, hqo, hqc⟩ := RowI.at_ (HRow.out.below HBx.out) (by rw [HLr.out]; omega)
          have hx := hqc m (by rw [HLr.out]; exact hlt2)
          have hgx := (HBx.out.cell (p := ⟨ga, go + k, none⟩) hga).trans hgi
          have hgax : old ga wr := Nat.lt_of_lt_of_le hga HBx.out.size
          obtain ⟨x, hxx⟩ : ∃ x, (G k).getD m 0 = x := ⟨_, rfl⟩
          rw [hxx] at hx
          have hcx : cst G k m = x := hxx
          clear hqc
          rcases Bool.eq_false_or_eq_true (decide (x < M)) with hp | hp
          · have HSN := Lib.hid (nums_yes (p := fun j => decide (cst G k j < M)) (m := m) (by rw [hcx]; exact hp))
            clear hxx hcx
            generalize nums (fun j => decide (cst G k j < M)) m = L at *
            go_wp2_with (at_builtin; go_must (refine wpList_append_own _ rfl _ _ 23 rfl Wo.heap.size 3 i0 _ 1 8 Try.underlying23 hi0 hz0 hz1 hz2 rfl (by omega) u12 L.length (L.map (Value.int .i64)) rfl (HL.out.alloc _) _ 1 _ [.int .i64 (m : Int)] rfl rfl ?_ ?_ ?_ ?_ ?_ ?_))
            · exact cells_new _ _ _ _ (by simp)
            · intro u hu; simp only [List.mem_cons, List.not_mem_nil, or_false] at hu; subst hu; rfl
            · simp only [maxLen]; omega
            · omega
            · have := HBx.out.size; simp; omega
            intro v1 w1 hown1 hgr1 _
            have hsx := HBx.out.size
            have HB1' := Lib.hid (below_grown (n := L.length) (v := u12) (xs := L.map (Value.int .i64)) (e := 3) (s := 1) (HBx.out.alloc hsx _) (by simp; omega) (HL.out.alloc _) hgr1)
            have HL1 := Lib.hid (show w1.ownsRow Wo.heap.size 3 1 v1 (nums (fun j => decide (cst G k j < M)) (m + 1)).length ((nums (fun j => decide (cst G k j < M)) (m + 1)).map (Value.int .i64)) by rw [HSN.out, ints_snoc, List.length_append]; exact hown1)
            clear hown1 hgr1 HL HBx HSN
            go_wp2_with fail
            go_roundg (gk - 1)
            case measure => omega
            case rel => exact ⟨m + 1, by omega, by go_num, HB1', HL1⟩
          · have HL1 := HL
            rw [← nums_no (p := fun j => decide (cst G k j < M)) (m := m) (by rw [hcx]; exact hp)] at HL1
            clear HL hxx hcx
            go_wp2_with fail
            go_roundg (gk - 1)
            case measure => omega
            case rel => exact ⟨m + 1, by omega, by go_num, HBx, HL1⟩
        · obtain rfl : no = m := by omega
          obtain ⟨xs, hx, hi⟩ := HO.out.below HBx.out
          have HX := Lib.hid hx
          have HI := Lib.hid hi
          have HL2 := Lib.hid (show wr.ownsRow Wo.heap.size 3 1 u12 (gph G no (fun x => decide (x < M)) k).length ((gph G no (fun x => decide (x < M)) k).map (Value.int .i64)) from HL.out)
          obtain ⟨Bl, bl, rfl, hcl, hrl⟩ := own_row HL2.out
          have hCx := HCx.out.below HBx.out HCx.out.lt
          have x1 : wr.cell? ⟨W2.heap.size, 0, none⟩ = some vL := hCx.cell rfl
          have x4 : old W2.heap.size wr := hCx.lt
          have HCy := Lib.hid hCx
          have HLo := Lib.hid (own_low (base := W2.heap.size + 1) HL2.out (by have := HCx.out.lt; omega))
          have HBx2 := Lib.hid (Below.next' HB2.out HBx.out HB2.out.size)
          clear hx hi hcl hrl hCx HO HL HL2 HBx HB2 HCx hgi hga
          generalize hLL : (gph G no (fun x => decide (x < M)) k).length = LL at *
          have HLL := Lib.hid hLL
          clear hLL
          go_wp2_with (at_builtin; go_must (refine wpList_append_own _ rfl _ _ 22 rfl (W2.heap.size + 1) 23 i1 _ 1 24 Try.underlying22 hi1 hy0 hy1 hy2 rfl (by omega) vL k xs rfl (HX.out.alloc _) _ 1 _ [.slice Bl LL bl] rfl rfl ?_ ?_ ?_ ?_ ?_ ?_))
          · exact cells_new _ _ _ _ (by simp)
          · intro u hu; simp only [List.mem_cons, List.not_mem_nil, or_false] at hu; subst hu; rfl
          · simp only [maxLen]; omega
          · omega
          · have := HCy.out.lt; simp; omega
          intro v3 w3 hown3 hgrow3 _
          have hB3 := (HCy.out.alloc (.cells #[.slice Bl LL bl] 23)).kept hgrow3 (fun e => by have := (HX.out.lt _ e.symm).1; omega)
          obtain ⟨g3, cap3, rfl⟩ := own_form hown3
          have t1 : w3.cell? ⟨W2.heap.size, 0, none⟩ = some vL := hB3.cell rfl
          have t2 : old W2.heap.size w3 := hB3.lt
          have t3 : w3.frozen? ⟨W2.heap.size, 0, none⟩ = false := hB3.frozen
          have HLo2 := Lib.hid (show wr.ownsRow (W2.heap.size + 1) 3 1 (.slice Bl LL bl) (gph G no (fun x => decide (x < M)) k).length ((gph G no (fun x => decide (x < M)) k).map (Value.int .i64)) by rw [HLL.out]; exact HLo.out)
          have HGO := Lib.hid ((gown_push (w := wr.alloc (.cells #[.slice Bl LL bl] 23)) (n := k) (G := gph G no fun x => decide (x < M)) (HX.out.alloc _) (fun i hlt => by obtain ⟨u, e, ho⟩ := HI.out i hlt; exact ⟨u, e, ho.alloc _⟩) (HLo2.out.alloc _) hown3 hgrow3).set W2.heap.size 0 (.slice (some ⟨g3, 0, none⟩) (k + 1) cap3) (by omega))
          have HC3 := Lib.hid (show Blk (w3.setCell ⟨W2.heap.size, 0, none⟩ (.slice (some ⟨g3, 0, none⟩) (k + 1) cap3)) W2.heap.size #[.slice (some ⟨g3, 0, none⟩) (k + 1) cap3, .int .i64 (no : Int)] 54 from hB3.set (k := 0) (.slice (some ⟨g3, 0, none⟩) (k + 1) cap3))
          have HB3 := Lib.hid (show Below W2.heap.size W2 (w3.setCell ⟨W2.heap.size, 0, none⟩ (.slice (some ⟨g3, 0, none⟩) (k + 1) cap3)) from Below.setCell (below_grown (e := 23) (s := 1) (n := k) (v := vL) (xs := xs) (HBx2.out.alloc HBx2.out.size _) (by have := HBx2.out.size; simp; omega) (own_low (base' := W2.heap.size + 1) (HX.out.alloc _) (by omega)) hgrow3) (Nat.le_refl _) _)
          clear hown3 hgrow3 hB3 HX HI HLo HLo2 HBx2 HCy
          go_wp2_with fail
          go_roundg gf
          case measure => omega
          case rel => exact ⟨k + 1, _, by omega, by go_num, HB3, HC3, HGO⟩
      --A}
    · obtain rfl : no = k := by omega
      obtain ⟨Ag, cg, rfl, hrow⟩ := HO.out.row
      have x1 : Wo.cell? ⟨W2.heap.size, 0, none⟩ = some (.slice Ag no cg) := HCx.out.cell rfl
      have x2 : Wo.cell? ⟨W2.heap.size, 1, none⟩ = some (.int .i64 (no : Int)) := HCx.out.cell rfl
      have x4 : old W2.heap.size Wo := HCx.out.lt
      have hP := HPa.out.below HB2.out hWb
      have p0 : Wo.cell? ⟨w.heap.size + 1, 0, none⟩ = some (.slice Al kl cl0) := hP.cell rfl
      have p1 : Wo.cell? ⟨w.heap.size + 1, 1, none⟩ = some (.slice Ar kr cr0) := hP.cell rfl
      have p2 : Wo.cell? ⟨w.heap.size + 1, 2, none⟩ = some (.slice Au no cu) := hP.cell rfl
      have p3 : Wo.cell? ⟨w.heap.size + 1, 3, none⟩ = some (.slice Av no cv) := hP.cell rfl
      have pO : old (w.heap.size + 1) Wo := hP.lt
      have HAo := Lib.hid (HA.out.below HW.out)
      have HGo := Lib.hid (HG.out.below HW.out)
      have CV := fun (bb : Bool) (hbb : covB (gph G no fun x => decide (x < M)) no no cl cr = bb) => Lib.hid (show Calls Try.prog 25 #[.agg #[.slice Ag no cg, .int .i64 (no : Int)], .agg #[.slice Al kl cl0, .slice Ar kr cr0]] Wo (RetB (.bool bb) Wo) by rw [← hbb]; exact refCovers_any Ag Al Ar no cg kl cl0 kr cr0 no (gph G no fun x => decide (x < M)) cl cr Wo (by omega) (fun i hi => Nat.le_trans (gph_len G no _ i) (by omega)) hrow HAo.out.ekl HAo.out.ll HAo.out.rl HAo.out.ekr HAo.out.lr HAo.out.rr)
      clear hrow hP HCx HO HB2 HPa hWb
      cases hcv : covB (gph G no fun x => decide (x < M)) no no cl cr with
      | false =>
        have C := CV false hcv
        have HE := Lib.hid (show (pr3 G no M cl cr && pr4 G no M S u v) = false by simp [pr3, hcv])
        clear CV hcv
        go_wp2_with (go_at_call 25; refine (RetB.grown C.out).mono ?_; rintro e' w' ⟨rfl, g5, rfl⟩)
        go_ret
        exact ⟨by rw [HE.out]; rfl, (Below.xt HW.out HW.out.size g5)⟩
      | true =>
        have C := CV true hcv
        have hekl := HA.out.ekl
        have hekr := HA.out.ekr
        have hll := HA.out.ll
        have hlr := HA.out.lr
        rw [← hekl] at hll
        rw [← hekr] at hlr
        by_cases hln : kl + kr < no
        · have d1 : decide ((no : Int) ≤ (kl : Int) + (kr : Int)) = false := by simpa using by omega
          have HP3 := Lib.hid (show pr3 G no M cl cr = true by simp [pr3, hcv, ← hekl, ← hekr, hln])
          clear CV hcv hekl hekr
          go_wp2_with (go_at_call 25; refine (RetB.grown C.out).mono ?_; rintro e' w' ⟨rfl, g5, rfl⟩)
          obtain ⟨W5, hW5, HB5, HG5, HA5, q2, q3, qO⟩ : ∃ W5, xt Wo g5 = W5 ∧ Hid (Below w.heap.size w W5) ∧ Hid (GRow W5 (some ⟨ga, go, none⟩) no G) ∧ Hid (AP W5 Lo Al Ar Au Av no co kl kr no no of cl cr u v) ∧ W5.cell? ⟨w.heap.size + 1, 2, none⟩ = some (.slice Au no cu) ∧ W5.cell? ⟨w.heap.size + 1, 3, none⟩ = some (.slice Av no cv) ∧ old (w.heap.size + 1) W5 :=
            ⟨_, rfl, Lib.hid (Below.xt HW.out HW.out.size g5), Lib.hid (HGo.out.xt g5), Lib.hid (HAo.out.below (below_xt Wo g5)), by go_simp, by go_simp, by go_simp⟩
          rw [hW5]
          clear hW5 x1 x2 x4 p0 p1 p2 p3 pO HAo HGo HW
          have HX5 := Lib.hid (show ∀ g, Below w.heap.size w (xt W5 g) from fun g => Below.xt HB5.out HB5.out.size g)
          have heu := HA5.out.eku
          have hev := HA5.out.ekv
          obtain ⟨ub, uo, rfl, hub, huc⟩ := RowI.at_ HA5.out.ru (by omega)
          obtain ⟨vb, vo, rfl, hvb, hvc⟩ := RowI.at_ HA5.out.rv (by omega)
          rw [← heu] at huc
          rw [← hev] at hvc
          have HUC := Lib.hid huc
          have HVC := Lib.hid hvc
          clear huc hvc heu hev
          go_loopw [9, 14] (fun s i wr => ∃ (k : Nat) (g : Gr), k ≤ no ∧ i = .int .i64 k ∧ s = .int .i64 (S - smU u v k) ∧ wr = xt W5 g ∧ Hid (∀ j, j < k → ptB u v j = true)) (fun _ i _ => no - (intOf i).toNat)
          case atStart => exact ⟨0, _, by omega, rfl, by simp [smU, sm], (xt_self _).symm, Lib.hid (fun j h => absurd h (by omega))⟩
          case round =>
            obtain ⟨k, g, hk2, rfl, rfl, rfl, HK⟩ := hrel
            have hsb := smU_bd k HK.out
            by_cases hlt3 : k < no
            · have c1 := HUC.out k hlt3
              have c2 := HVC.out k hlt3
              have HSm := Lib.hid (show S - smU u v (k + 1) = S - smU u v k - u.getD k 0 - v.getD k 0 by
                have e : smU u v (k + 1) = smU u v k + (u.getD k 0 + v.getD k 0) := rfl
                omega)
              have HPt := Lib.hid (ptB_iff (u := u) (v := v) (i := k))
              obtain ⟨z, hz⟩ : ∃ z, S - smU u v k = z := ⟨_, rfl⟩
              have hz1 : -2305843009213693952 ≤ z := by omega
              have hz2 : z ≤ 2305843009213693952 := by omega
              rw [hz] at HSm ⊢
              generalize u.getD k 0 = x at c1 HSm HPt
              generalize v.getD k 0 = y at c2 HSm HPt
              clear hsb hz
              --C{
              by_cases h1 : 9007199254740992 < x
              · have d1 : decide (9007199254740992 < x) = true := by simpa using h1
                have HE := Lib.hid (show (pr3 G no M cl cr && pr4 G no M S u v) = false by rw [pr4_pt hlt3 (by rw [← Bool.not_eq_true, HPt.out]; omega)]; simp)
                clear HSm HPt HK
                go_wp2_with fail
                go_ret
                exact ⟨by rw [HE.out]; rfl, by (repeat rw [xt_xt]); exact HX5.out _⟩
              · have d1 : decide (9007199254740992 < x) = false := by simpa using h1
                by_cases h2 : x < -9007199254740992
                · have d2 : decide (x < -9007199254740992) = true := by simpa using h2
                  have HE := Lib.hid (show (pr3 G no M cl cr && pr4 G no M S u v) = false by rw [pr4_pt hlt3 (by rw [← Bool.not_eq_true, HPt.out]; omega)]; simp)
                  clear HSm HPt HK
                  go_wp2_with fail
                  go_ret
                  exact ⟨by rw [HE.out]; rfl, by (repeat rw [xt_xt]); exact HX5.out _⟩
                · have d2 : decide (x < -9007199254740992) = false := by simpa using h2
                  by_cases h3 : 9007199254740992 < y
                  · have d3 : decide (9007199254740992 < y) = true := by simpa using h3
                    have HE := Lib.hid (show (pr3 G no M cl cr && pr4 G no M S u v) = false by rw [pr4_pt hlt3 (by rw [← Bool.not_eq_true, HPt.out]; omega)]; simp)
                    clear HSm HPt HK
                    go_wp2_with fail
                    go_ret
                    exact ⟨by rw [HE.out]; rfl, by (repeat rw [xt_xt]); exact HX5.out _⟩
                  · have d3 : decide (9007199254740992 < y) = false := by simpa using h3
                    by_cases h4 : y < -9007199254740992
                    · have d4 : decide (y < -9007199254740992) = true := by simpa using h4
                      have HE := Lib.hid (show (pr3 G no M cl cr && pr4 G no M S u v) = false by rw [pr4_pt hlt3 (by rw [← Bool.not_eq_true, HPt.out]; omega)]; simp)
                      clear HSm HPt HK
                      go_wp2_with fail
                      go_ret
                      exact ⟨by rw [HE.out]; rfl, by (repeat rw [xt_xt]); exact HX5.out _⟩
                    · have d4 : decide (y < -9007199254740992) = false := by simpa using h4
                      have HK2 := Lib.hid (all_next HK.out (HPt.out.2 ⟨by omega, by omega, by omega, by omega⟩))
                      clear HPt HK
                      go_wp2_with (first
                        | (refine wp_region_xt (by kernel_rfl) (by kernel_rfl) ?_; (repeat (go_big_quiet_step (first | fail))); refine wpQuiet_nil ?_; intro g))
                      go_roundw
                      case rel => exact ⟨k + 1, _, by omega, by go_num, by rw [HSm.out], xt_xt _ _ _, HK2⟩
                      case measure => simp [intOf]; omega
              --C}
            · obtain rfl : no = k := by omega
              have HZ := Lib.hid (show ∀ h2 : (∀ i, i < no → ∀ k, k < no → feA G M u v i k = true), (pr3 G no M cl cr && pr4 G no M S u v) = (S - smU u v no == 0) from fun h2 => by
                rw [HP3.out, pr4_end HK.out h2, Bool.true_and, Bool.eq_iff_iff]
                simp; omega)
              have HUV := Lib.hid (show ∀ j, j < no → -9007199254740992 ≤ u.getD j 0 ∧ u.getD j 0 ≤ 9007199254740992 ∧ -9007199254740992 ≤ v.getD j 0 ∧ v.getD j 0 ≤ 9007199254740992 from fun j hj => ptB_iff.1 (HK.out j hj))
              generalize S - smU u v no = z at *
              clear HK hsb HP3
              --B{
              go_wp2_with fail
              go_loopw [15] (fun i wr => ∃ (k : Nat) (g : Gr), k ≤ no ∧ i = .int .i64 k ∧ wr = xt W5 g ∧ Hid (∀ i, i < k → ∀ j, j < no → feA G M u v i j = true)) (fun i _ => no - (intOf i).toNat)
              case atStart => exact ⟨0, _, by omega, rfl, rfl, Lib.hid (fun j h => absurd h (by omega))⟩
              case round =>
                obtain ⟨i, g2, hi2, rfl, rfl, HI⟩ := hrel
                by_cases hlt4 : i < no
                · obtain ⟨gb2, go2, e2, hgo2, hgc2⟩ := HG5.out.top (by omega)
                  injection e2 with e2
                  injection e2 with e2a e2b _
                  subst e2a e2b
                  obtain ⟨Ai, ci, hgi, hrow⟩ := hgc2 i hlt4
                  have hlr2 := HC.out.len i hlt4
                  obtain ⟨qb, qo, rfl, hqo, hqc⟩ := RowI.at_ hrow (by omega)
                  rw [hlr2] at hgi hqc
                  have c1 := HUC.out i hlt4
                  obtain ⟨x, hx⟩ : ∃ x, u.getD i 0 = x := ⟨_, rfl⟩
                  have bx := HUV.out i hlt4
                  rw [hx] at c1 bx
                  have HX := Lib.hid hx
                  have HQC := Lib.hid hqc
                  obtain ⟨bx1, bx2, _, _⟩ := bx
                  clear hx hqc hrow hgc2 hlr2
                  go_wp2_with fail
                  go_loopw [16] (fun j wr => ∃ (k : Nat) (g : Gr), k ≤ no ∧ j = .int .i64 k ∧ wr = xt W5 g ∧ Hid (∀ j, j < k → feA G M u v i j = true)) (fun j _ => no - (intOf j).toNat)
                  case atStart => exact ⟨0, _, by omega, rfl, rfl, Lib.hid (fun j h => absurd h (by omega))⟩
                  case round =>
                    obtain ⟨k, g3, hk3, rfl, rfl, HJ⟩ := hrel
                    by_cases hlt5 : k < no
                    · have c2 := HVC.out k hlt5
                      have c3 := HQC.out k hlt5
                      have by_ := HUV.out k hlt5
                      have bc := HC.out.c hlt4 hlt5
                      have HFe := Lib.hid (show feA G M u v i k = (!decide (cst G i k ≤ M) || decide (u.getD i 0 + v.getD k 0 ≤ cst G i k)) from rfl)
                      rw [HX.out] at HFe
                      unfold cst at HFe bc
                      generalize v.getD k 0 = y at *
                      generalize (G i).getD k 0 = c at *
                      obtain ⟨_, _, by1, by2⟩ := by_
                      by_cases h1 : c ≤ M
                      · have d1 : decide (c ≤ M) = true := by simpa using h1
                        by_cases h2 : c < x + y
                        · have d2 : decide (c < x + y) = true := by simpa using h2
                          have HE := Lib.hid (show (pr3 G no M cl cr && pr4 G no M S u v) = false by rw [pr4_fe hlt4 hlt5 (by rw [HFe.out]; simp; omega)]; simp)
                          clear HFe HJ
                          go_upto_if 191 with (refine wp_region_xt (by kernel_rfl) (by kernel_rfl) ?_; (repeat (go_big_quiet_step (fail))); refine wpQuiet_nil ?_; intro g)
                          go_wp2_with fail
                          go_ret
                          exact ⟨by rw [HE.out]; rfl, by (repeat rw [xt_xt]); exact HX5.out _⟩
                        · have d2 : decide (c < x + y) = false := by simpa using h2
                          have HJ2 := Lib.hid (all_next HJ.out (by rw [HFe.out]; simp; omega))
                          clear HFe HJ
                          go_wp2_with (first
                            | (refine wp_region_xt (by kernel_rfl) (by kernel_rfl) ?_; (repeat (go_big_quiet_step (first | fail))); refine wpQuiet_nil ?_; intro g))
                          go_roundw
                          case rel => exact ⟨k + 1, _, by omega, by go_num, xt_xt _ _ _, HJ2⟩
                          case measure => simp [intOf]; omega
                      · have d1 : decide (c ≤ M) = false := by simpa using h1
                        have HJ2 := Lib.hid (all_next HJ.out (by rw [HFe.out]; simp; omega))
                        clear HFe HJ
                        go_wp2_with (first
                          | (refine wp_region_xt (by kernel_rfl) (by kernel_rfl) ?_; (repeat (go_big_quiet_step (first | fail))); refine wpQuiet_nil ?_; intro g))
                        go_roundw
                        case rel => exact ⟨k + 1, _, by omega, by go_num, xt_xt _ _ _, HJ2⟩
                        case measure => simp [intOf]; omega
                    · obtain rfl : no = k := by omega
                      have HI2 := Lib.hid (show ∀ i', i' < i + 1 → ∀ j, j < no → feA G M u v i' j = true from fun i' hi' => by
                        by_cases e : i' = i
                        · rw [e]; exact HJ.out
                        · exact HI.out i' (by omega))
                      clear HI HJ
                      go_wp2_with fail
                      go_roundw
                      case rel => exact ⟨i + 1, _, by omega, by go_num, rfl, HI2⟩
                      case measure => simp [intOf]; omega
                · obtain rfl : no = i := by omega
                  have HE := Lib.hid (HZ.out HI.out)
                  clear HI HZ
                  go_wp2_with fail
                  go_ret
                  exact ⟨by rw [HE.out]; rfl, by (repeat rw [xt_xt]); exact HX5.out _⟩
              --B}
        · have d1 : decide ((no : Int) ≤ (kl : Int) + (kr : Int)) = true := by simpa using by omega
          have HE := Lib.hid (show (pr3 G no M cl cr && pr4 G no M S u v) = false by simp [pr3, ← hekl, ← hekr]; intro _ h; omega)
          clear CV hcv hekl hekr
          go_wp2_with (go_at_call 25; refine (RetB.grown C.out).mono ?_; rintro e' w' ⟨rfl, g5, rfl⟩)
          go_ret
          exact ⟨by rw [HE.out]; rfl, (Below.xt HW.out HW.out.size g5)⟩
end Go.Proofs.Ytjiknjcmfiapjaa

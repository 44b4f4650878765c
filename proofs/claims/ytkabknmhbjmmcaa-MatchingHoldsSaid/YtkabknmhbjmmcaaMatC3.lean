/- Walk: a graph with its sides exchanged, by the reference. Conditions stand in each theorem. -/
import Derived.Test.YtkabknmhbjmmcaaMatL5
namespace Go.Proofs.Ytkabknmhbjmmcaa
open Go.RowKit
set_option linter.unusedVariables false
set_option linter.unusedSimpArgs false

/-- The call returns a graph. -/
def RetG (nL : Nat) (R : Int) (G : Nat → List Int) (w : World) (e : Ending) (w' : World) : Prop := ∃ A c, e = .returned (.agg #[.slice A nL c, .int .i64 R]) ∧ Below w.heap.size w w' ∧ GRow w' A nL G
theorem trn_nums (G : Nat → List Int) (nL n : Nat) : trn G nL n = nums (fun i => hs (G i) (n : Int)) nL := rfl

set_option maxRecDepth 100000 in
set_option maxHeartbeats 6400000 in
theorem Turn_any (A : Option Addr) (nL cap R : Nat) (G : Nat → List Int) (w : World) (h1 : nL ≤ 200) (h2 : R ≤ 200) (hl : ∀ i, i < nL → (G i).length ≤ 1000) (hG : GRow w A nL G) :
    Calls Try.prog 23 #[.agg #[.slice A nL cap, .int .i64 (R : Int)]] w (RetG R nL (trn G nL) w) := by
  obtain ⟨i0, hi0, hz0, hz1, hz2⟩ := info_parts infoInt
  obtain ⟨i1, hi1, hy0, hy1, hy2⟩ := info_parts infoRow
  have HGG := Lib.hid hG
  have HLn := Lib.hid hl
  clear hG hl
  go_enter Try.func23, Try.ntmps23
  go_wp2_with fail
  obtain ⟨W2, hW2, HB1, HG1, HRes, f0, f1, o0, o1, hs2⟩ : ∃ W2, (w.alloc (.cells #[.slice A nL cap, .int .i64 (R : Int)] 24)).alloc (.cells #[.slice none 0 0, .int .i64 0] 24) = W2 ∧ Hid (Below w.heap.size w W2) ∧ Hid (GRow W2 A nL G) ∧ Hid (Blk W2 (w.heap.size + 1) #[.slice none 0 0, .int .i64 0] 24) ∧ W2.cell? ⟨w.heap.size, 0, none⟩ = some (.slice A nL cap) ∧ W2.cell? ⟨w.heap.size, 1, none⟩ = some (.int .i64 (R : Int)) ∧ old w.heap.size W2 ∧ old (w.heap.size + 1) W2 ∧ w.heap.size + 1 + 1 = W2.heap.size :=
    ⟨_, rfl, Lib.hid (by repeat' (first | exact Below.refl _ _ | assumption | refine Below.xt ?_ ?_ _ | refine Below.alloc ?_ ?_ _ | refine Below.drew ?_ | refine Below.setCell ?_ ?_ _ | (simp; done) | (simp; omega))), Lib.hid ((HGG.out.alloc _).alloc _), Lib.hid (Blk.new _ _ _ (by simp)), by go_simp, by go_simp, by unfold old; simp; omega, by unfold old; simp, by simp⟩
  rw [hW2, hs2]
  clear hW2 hs2 HGG
  have HC := Lib.hid (show Blk (W2.alloc (.cells #[.slice none 0 0, .int .i64 (nL : Int)] 24)) W2.heap.size #[.slice none 0 0, .int .i64 (nL : Int)] 24 from Blk.new _ _ _ rfl)
  have HB2 := Lib.hid (show Below W2.heap.size W2 (W2.alloc (.cells #[.slice none 0 0, .int .i64 (nL : Int)] 24)) from (by repeat' (first | exact Below.refl _ _ | assumption | refine Below.xt ?_ ?_ _ | refine Below.alloc ?_ ?_ _ | refine Below.drew ?_ | refine Below.setCell ?_ ?_ _ | (simp; done) | (simp; omega))))
  go_loopg [4] (R) (fun gk i wr => ∃ (k : Nat) (vL : Value), k + gk = R ∧ i = .int .i64 k ∧ Hid (Below W2.heap.size W2 wr) ∧ Hid (Blk wr W2.heap.size #[vL, .int .i64 (nL : Int)] 24) ∧ Hid (GOwn wr (W2.heap.size + 1) vL k (fun n => nums (fun i => hs (G i) (n : Int)) nL)))
  case atStart => exact ⟨0, _, by omega, rfl, HB2, HC, Lib.hid GOwn.nil⟩
  case round =>
    clear HC HB2
    obtain ⟨k, vL, hk, rfl, HB2, HC, HO⟩ := hrel
    obtain ⟨Wo, hWo⟩ : ∃ Wo, Wo = wr := ⟨_, rfl⟩
    subst hWo
    have e0 : Wo.cell? ⟨w.heap.size, 0, none⟩ = some (.slice A nL cap) := (HB2.out.cell (p := ⟨w.heap.size, 0, none⟩) o0).trans f0
    have e1 : Wo.cell? ⟨w.heap.size, 1, none⟩ = some (.int .i64 (R : Int)) := (HB2.out.cell (p := ⟨w.heap.size, 1, none⟩) o0).trans f1
    have q0 : old w.heap.size Wo := Nat.lt_of_lt_of_le o0 HB2.out.size
    have HGo := Lib.hid (HG1.out.below HB2.out)
    by_cases hlt : k < R
    · obtain ⟨gf, rfl⟩ : ∃ gf, gk = gf + 1 := ⟨gk - 1, by omega⟩
      go_wp2_with fail
      go_loopg [5, 6] (nL) (fun gk l j wr => ∃ (m : Nat), m + gk = nL ∧ j = .int .i64 m ∧ Hid (Below Wo.heap.size Wo wr) ∧ Hid (wr.ownsRow Wo.heap.size 3 1 l (nums (fun i => hs (G i) (k : Int)) m).length ((nums (fun i => hs (G i) (k : Int)) m).map (Value.int .i64))))
      case atStart => exact ⟨0, by omega, rfl, Lib.hid (Below.refl _ _), Lib.hid own_nil⟩
      case round =>
        obtain ⟨m, hm, rfl, HBx, HL⟩ := hrel
        have x0 : wr.cell? ⟨w.heap.size, 0, none⟩ = some (.slice A nL cap) := (HBx.out.cell (p := ⟨w.heap.size, 0, none⟩) q0).trans e0
        have x9 : old w.heap.size wr := Nat.lt_of_lt_of_le q0 HBx.out.size
        by_cases hlt2 : m < nL
        · have hle := nums_len (fun i => hs (G i) (k : Int)) m
          obtain ⟨gb, go, rfl, hgo, hgc⟩ := (HGo.out.below HBx.out).top (by omega)
          obtain ⟨Ai, ci, hgi, hrow⟩ := hgc m hlt2
          have CH := Has_any Ai (G m).length ci (G m) (k : Int) wr rfl (HLn.out m hlt2) hrow
          clear hgc hrow
          rcases Bool.eq_false_or_eq_true (hs (G m) (k : Int)) with hp | hp
          · have HSN := Lib.hid (nums_yes (p := fun i => hs (G i) (k : Int)) hp)
            rw [hp] at CH
            have HCH := Lib.hid CH
            clear hp CH
            generalize nums (fun i => hs (G i) (k : Int)) m = L at *
            go_wp2_with (first | (go_at_call 24; refine HCH.out.mono ?_; rintro e' w' ⟨rfl, rfl⟩) | (at_builtin; go_must (refine wpList_append_own _ rfl _ _ 25 rfl Wo.heap.size 3 i0 _ 1 8 Try.underlying25 hi0 hz0 hz1 hz2 rfl (by omega) u5 L.length (L.map (Value.int .i64)) rfl (HL.out.alloc _) _ 1 _ [.int .i64 (m : Int)] rfl rfl ?_ ?_ ?_ ?_ ?_ ?_)))
            · exact cells_new _ _ _ _ (by simp)
            · intro u hu; simp only [List.mem_cons, List.not_mem_nil, or_false] at hu; subst hu; rfl
            · simp only [maxLen]; omega
            · omega
            · have := HBx.out.size; simp; omega
            intro v1 w1 hown1 hgr1 _
            have hsx := HBx.out.size
            have HB1' := Lib.hid (below_grown (n := L.length) (v := u5) (xs := L.map (Value.int .i64)) (e := 3) (s := 1) (HBx.out.alloc hsx _) (by simp; omega) (HL.out.alloc _) hgr1)
            have HL1 := Lib.hid (show w1.ownsRow Wo.heap.size 3 1 v1 (nums (fun i => hs (G i) (k : Int)) (m + 1)).length ((nums (fun i => hs (G i) (k : Int)) (m + 1)).map (Value.int .i64)) by rw [HSN.out, ints_snoc, List.length_append]; exact hown1)
            clear hown1 hgr1 HL HBx HSN
            go_wp2_with fail
            go_roundg (gk - 1)
            case measure => omega
            case rel => exact ⟨m + 1, by omega, by go_num, HB1', HL1⟩
          · rw [hp] at CH
            have HCH := Lib.hid CH
            have HL1 := HL
            rw [← nums_no (p := fun i => hs (G i) (k : Int)) hp] at HL1
            clear HL hp CH
            go_wp2_with (go_at_call 24; refine HCH.out.mono ?_; rintro e' w' ⟨rfl, rfl⟩)
            go_roundg (gk - 1)
            case measure => omega
            case rel => exact ⟨m + 1, by omega, by go_num, HBx, HL1⟩
        · obtain rfl : m = nL := by omega
          obtain ⟨xs, hx, hi⟩ := HO.out.below HBx.out
          have HX := Lib.hid hx
          have HI := Lib.hid hi
          obtain ⟨Al, cl, rfl, hcl, hrl⟩ := own_row HL.out
          have hCx := HC.out.below HBx.out HC.out.lt
          have x1 : wr.cell? ⟨W2.heap.size, 0, none⟩ = some vL := hCx.cell rfl
          have x4 : old W2.heap.size wr := hCx.lt
          have HCx := Lib.hid hCx
          have HLo := Lib.hid (own_low (base := W2.heap.size + 1) HL.out (by have := HC.out.lt; omega))
          have HBx2 := Lib.hid (Below.next' HB2.out HBx.out HB2.out.size)
          clear hx hi hcl hrl hCx HO HL HBx HB2 HC e0 e1
          go_wp2_with (at_builtin; go_must (refine wpList_append_own _ rfl _ _ 22 rfl (W2.heap.size + 1) 25 i1 _ 1 24 Try.underlying22 hi1 hy0 hy1 hy2 rfl (by omega) vL k xs rfl (HX.out.alloc _) _ 1 _ [.slice Al (nums (fun i => hs (G i) (k : Int)) m).length cl] rfl rfl ?_ ?_ ?_ ?_ ?_ ?_))
          · rfl
          · simp only [maxLen]; omega
          · omega
          · have := HCx.out.lt; omega
          intro v3 w3 hown3 hgrow3 _
          have hB3 := (HCx.out.alloc (.cells #[.slice Al (nums (fun i => hs (G i) (k : Int)) m).length cl] 25)).kept hgrow3 (fun e => by have := (HX.out.lt _ e.symm).1; omega)
          obtain ⟨g3, cap3, rfl⟩ := own_form hown3
          have t1 : w3.cell? ⟨W2.heap.size, 0, none⟩ = some vL := hB3.cell rfl
          have t2 : old W2.heap.size w3 := hB3.lt
          have t3 : w3.frozen? ⟨W2.heap.size, 0, none⟩ = false := hB3.frozen
          have HGO := Lib.hid ((gown_push (w := wr.alloc (.cells #[.slice Al (nums (fun i => hs (G i) (k : Int)) m).length cl] 25)) (n := k) (G := fun n => nums (fun i => hs (G i) (n : Int)) m) (HX.out.alloc _) (fun i hlt => by obtain ⟨u, e, ho⟩ := HI.out i hlt; exact ⟨u, e, ho.alloc _⟩) (HLo.out.alloc _) hown3 hgrow3).set W2.heap.size 0 (.slice (some ⟨g3, 0, none⟩) (k + 1) cap3) (by omega))
          have HC3 := Lib.hid (show Blk (w3.setCell ⟨W2.heap.size, 0, none⟩ (.slice (some ⟨g3, 0, none⟩) (k + 1) cap3)) W2.heap.size #[.slice (some ⟨g3, 0, none⟩) (k + 1) cap3, .int .i64 (m : Int)] 24 from hB3.set (k := 0) (.slice (some ⟨g3, 0, none⟩) (k + 1) cap3))
          have HB3 := Lib.hid (show Below W2.heap.size W2 (w3.setCell ⟨W2.heap.size, 0, none⟩ (.slice (some ⟨g3, 0, none⟩) (k + 1) cap3)) from Below.setCell (below_grown (e := 25) (s := 1) (n := k) (v := vL) (xs := xs) (HBx2.out.alloc HBx2.out.size _) (by have := HBx2.out.size; simp; omega) (own_low (base' := W2.heap.size + 1) (HX.out.alloc _) (by omega)) hgrow3) (Nat.le_refl _) _)
          clear hown3 hgrow3 hB3 HX HI HLo HBx2 HCx
          go_wp2_with fail
          go_roundg gf
          case measure => omega
          case rel => exact ⟨k + 1, _, by omega, by go_num, HB3, HC3, HGO⟩
    · obtain rfl : k = R := by omega
      obtain ⟨A2, c2, rfl, hrow⟩ := HO.out.row
      have x1 : Wo.cell? ⟨W2.heap.size, 0, none⟩ = some (.slice A2 k c2) := HC.out.cell rfl
      have x2 : Wo.cell? ⟨W2.heap.size, 1, none⟩ = some (.int .i64 (nL : Int)) := HC.out.cell rfl
      have x4 : old W2.heap.size Wo := HC.out.lt
      have hres := HRes.out.below HB2.out HRes.out.lt
      have r1 : old (w.heap.size + 1) Wo := hres.lt
      have r2 : Wo.frozen? ⟨w.heap.size + 1, 0, none⟩ = false := hres.frozen
      have r3 : Wo.frozen? ⟨w.heap.size + 1, 1, none⟩ = false := hres.frozen
      have r4 : Wo.cell? ⟨w.heap.size + 1, 0, none⟩ = some (.slice none 0 0) := hres.cell rfl
      have r5 : Wo.cell? ⟨w.heap.size + 1, 1, none⟩ = some (.int .i64 0) := hres.cell rfl
      have hb1 := (hres.set (k := 0) (.slice A2 k c2)).set (k := 1) (.int .i64 (nL : Int))
      have S1 := Lib.hid ((hres.set (k := 0) (.slice A2 k c2)).cell (j := 0) rfl)
      have S2 := Lib.hid (hb1.cell (j := 1) rfl)
      have hw2 : w.heap.size + 1 < W2.heap.size := HRes.out.lt
      have hbe := Below.next' HB1.out HB2.out HB1.out.size
      have HBe := Lib.hid (show Below w.heap.size w ((Wo.setCell ⟨w.heap.size + 1, 0, none⟩ (.slice A2 k c2)).setCell ⟨w.heap.size + 1, 1, none⟩ (.int .i64 (nL : Int))) from (by repeat' (first | exact Below.refl _ _ | assumption | refine Below.xt ?_ ?_ _ | refine Below.alloc ?_ ?_ _ | refine Below.drew ?_ | refine Below.setCell ?_ ?_ _ | (simp; done) | (simp; omega))))
      obtain ⟨A3, c3, e3, hr3⟩ := ((HO.out.set (w.heap.size + 1) 0 (.slice A2 k c2) (by omega)).set (w.heap.size + 1) 1 (.int .i64 (nL : Int)) (by omega)).row
      injection e3 with e3 _ e3c
      subst e3 e3c
      have HR3 := Lib.hid hr3
      clear hrow hres hb1 hbe hr3
      go_wp2_with fail
      have s1 := S1.out
      have s2 := S2.out
      refine bodyPost_ret (v := .agg #[.slice A2 k c2, .int .i64 (nL : Int)]) (by simp [results, Try.results23, go_sem, s1, s2]) rfl ?_
      exact ⟨A2, c2, rfl, HBe.out, HR3.out⟩
end Go.Proofs.Ytkabknmhbjmmcaa

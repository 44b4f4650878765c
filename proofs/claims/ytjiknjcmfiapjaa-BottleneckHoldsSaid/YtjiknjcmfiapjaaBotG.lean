
/- Walks: the graph of the pairs with costs that a function allows. Conditions stand in each theorem. -/
import Derived.Test.YtjiknjcmfiapjaaBotW3
import Derived.Test.YtjiknjcmfiapjaaBotQ
import Derived.Test.YtjiknjcmfiapjaaMatB7
namespace Go.Proofs.Ytjiknjcmfiapjaa
open Go.RowKit
set_option linter.unusedVariables false
set_option linter.unusedSimpArgs false

def nums (p : Nat → Bool) (m : Nat) : List Int := ((List.range m).filter p).map fun k : Nat => (k : Int)
theorem nums_yes {p : Nat → Bool} {m : Nat} (h : p m = true) : nums p (m + 1) = nums p m ++ [(m : Int)] := by
  simp [nums, List.range_succ, List.filter_append, h]
theorem nums_no {p : Nat → Bool} {m : Nat} (h : p m = false) : nums p (m + 1) = nums p m := by
  simp [nums, List.range_succ, List.filter_append, h]
theorem nums_len (p : Nat → Bool) (m : Nat) : (nums p m).length ≤ m := by
  unfold nums; rw [List.length_map]; exact Nat.le_trans (List.length_filter_le _ _) (by simp)
theorem infoRow : (Try.prog.info? 23).map (fun i => (i.zero, i.size, i.bytes)) = some (some (.slice none 0 0), 1, 24) := by kernel_rfl
/-- The columns whose costs are allowed. -/
def gph (G : Nat → List Int) (n : Nat) (p : Int → Bool) (i : Nat) : List Int := nums (fun k => p (cst G i k)) n
theorem gph_vld (G : Nat → List Int) {n : Nat} (p : Int → Bool) (h : n ≤ 200) : vld (gph G n p) n n = true :=
  (vld_iff _).2 ⟨fun i hi => inc_filter _ n _ (Int.le_refl _), h, by omega, by omega⟩
/-- The call returns the graph. -/
def RetGr (n : Nat) (G : Nat → List Int) (w : World) (e : Ending) (w' : World) : Prop := ∃ A c, e = .returned (.agg #[.slice A n c, .int .i64 n]) ∧ Below w.heap.size w w' ∧ GRow w' A n G

theorem le_cl (x M : Int) (b : Nat) (w : World) (hb : old b w) (hc : w.cell? ⟨b, 0, none⟩ = some (.int .i64 M)) : Calls Try.prog 43 #[.int .i64 x, .pointer (some ⟨b, 0, none⟩)] w (Ret (.bool (decide (x ≤ M))) w) := by
  go_enter Try.func43, Try.ntmps43
  go_wp2_with fail
  go_ret
  exact ⟨rfl, rfl⟩
set_option maxRecDepth 100000 in
set_option maxHeartbeats 6400000 in
theorem graphle (A : Option Addr) (n cap b : Nat) (M : Int) (G : Nat → List Int) (w : World) (hn0 : 1 ≤ n) (hn : n ≤ 64) (hl : ∀ i, i < n → (G i).length = n) (hG : GRow w A n G) (hb : old b w) (hc : w.cell? ⟨b, 0, none⟩ = some (.int .i64 M)) :
    Calls Try.prog 29 #[.slice A n cap, .func (.func 43) #[] #[.pointer (some ⟨b, 0, none⟩)]] w (RetGr n (gph G n fun x => decide (x ≤ M)) w) := by
  obtain ⟨i0, hi0, hz0, hz1, hz2⟩ := info_parts infoInt
  obtain ⟨i1, hi1, hy0, hy1, hy2⟩ := info_parts infoRow
  obtain ⟨ga, go, rfl, hgo, hgc⟩ := hG.top (by omega)
  have HGC := Lib.hid hgc
  have HLn := Lib.hid hl
  clear hG hl hgc
  go_enter Try.func29, Try.ntmps29
  go_wp2_with fail
  have hmw : old ga w := hgo
  obtain ⟨W2, hW2, HB1, HRes, f0, hs2, o1⟩ : ∃ W2, w.alloc (.cells #[.slice none 0 0, .int .i64 0] 54) = W2 ∧ Hid (Below w.heap.size w W2) ∧ Hid (Blk W2 w.heap.size #[.slice none 0 0, .int .i64 0] 54) ∧ W2.cell? ⟨b, 0, none⟩ = some (.int .i64 M) ∧ w.heap.size + 1 = W2.heap.size ∧ old b W2 :=
    ⟨_, rfl, Lib.hid (by repeat' (first | exact Below.refl _ _ | assumption | refine Below.xt ?_ ?_ _ | refine Below.alloc ?_ ?_ _ | refine Below.drew ?_ | refine Below.setCell ?_ ?_ _ | (simp; done) | (simp; omega))), Lib.hid (Blk.new _ _ _ rfl), by go_simp, by simp, by go_simp⟩
  rw [hW2, hs2]
  clear hW2 hs2 hc
  have HC := Lib.hid (show Blk (W2.alloc (.cells #[.slice none 0 0, .int .i64 (n : Int)] 54)) W2.heap.size #[.slice none 0 0, .int .i64 (n : Int)] 54 from Blk.new _ _ _ rfl)
  have HB2 := Lib.hid (show Below W2.heap.size W2 (W2.alloc (.cells #[.slice none 0 0, .int .i64 (n : Int)] 54)) from (by repeat' (first | exact Below.refl _ _ | assumption | refine Below.xt ?_ ?_ _ | refine Below.alloc ?_ ?_ _ | refine Below.drew ?_ | refine Below.setCell ?_ ?_ _ | (simp; done) | (simp; omega))))
  have CL := fun (x : Int) (w' : World) (h1 : old b w') (h2 : w'.cell? ⟨b, 0, none⟩ = some (.int .i64 M)) => Lib.hid (le_cl x M b w' h1 h2)
  go_loopg [16] (n) (fun gk i wr => ∃ (k : Nat) (vL : Value), k + gk = n ∧ i = .int .i64 k ∧ Hid (Below W2.heap.size W2 wr) ∧ Hid (Blk wr W2.heap.size #[vL, .int .i64 (n : Int)] 54) ∧ Hid (GOwn wr (W2.heap.size + 1) vL k (gph G n fun x => decide (x ≤ M))))
  case atStart => exact ⟨0, _, by omega, rfl, HB2, HC, Lib.hid GOwn.nil⟩
  case round =>
    clear HC HB2
    obtain ⟨k, vL, hk, rfl, HB2, HC, HO⟩ := hrel
    obtain ⟨Wo, hWo⟩ : ∃ Wo, Wo = wr := ⟨_, rfl⟩
    subst hWo
    have e0 : Wo.cell? ⟨b, 0, none⟩ = some (.int .i64 M) := (HB2.out.cell (p := ⟨b, 0, none⟩) o1).trans f0
    have q0 : old b Wo := Nat.lt_of_lt_of_le o1 HB2.out.size
    have HW := Lib.hid (show Below w.heap.size w Wo from Below.next' HB1.out HB2.out HB1.out.size)
    by_cases hlt : k < n
    · obtain ⟨gf, rfl⟩ : ∃ gf, gk = gf + 1 := ⟨gk - 1, by omega⟩
      obtain ⟨Ai, ci, hgi0, hrow⟩ := HGC.out k hlt
      have hlr := HLn.out k hlt
      rw [hlr] at hgi0
      have hgi := (HW.out.cell (p := ⟨ga, go + k, none⟩) hmw).trans hgi0
      have hga : old ga Wo := Nat.lt_of_lt_of_le hmw HW.out.size
      have HRow := Lib.hid (hrow.below HW.out)
      have HLr := Lib.hid hlr
      clear hrow hgi0 hlr
      go_wp2_with fail
      clear hgi hga
      go_loopg [8, 22] (n) (fun gk l j wr => ∃ (m : Nat), m + gk = n ∧ j = .int .i64 m ∧ Hid (Below Wo.heap.size Wo wr) ∧ Hid (wr.ownsRow Wo.heap.size 3 1 l (nums (fun j => decide (cst G k j ≤ M)) m).length ((nums (fun j => decide (cst G k j ≤ M)) m).map (Value.int .i64))))
      case atStart => exact ⟨0, by omega, rfl, Lib.hid (Below.refl _ _), Lib.hid own_nil⟩
      case round =>
        obtain ⟨m, hm, rfl, HBx, HL⟩ := hrel
        have x0 : wr.cell? ⟨b, 0, none⟩ = some (.int .i64 M) := (HBx.out.cell (p := ⟨b, 0, none⟩) q0).trans e0
        have x9 : old b wr := Nat.lt_of_lt_of_le q0 HBx.out.size
        by_cases hlt2 : m < n
        · have hle := nums_len (fun j => decide (cst G k j ≤ M)) m
          obtain ⟨qb, qo, rfl, hqo, hqc⟩ := RowI.at_ (HRow.out.below HBx.out) (by rw [HLr.out]; omega)
          have hx := hqc m (by rw [HLr.out]; exact hlt2)
          obtain ⟨x, hxx⟩ : ∃ x, (G k).getD m 0 = x := ⟨_, rfl⟩
          rw [hxx] at hx
          have hcx : cst G k m = x := hxx
          have C1 := CL x wr x9 x0
          clear hqc
          rcases Bool.eq_false_or_eq_true (decide (x ≤ M)) with hp | hp
          · have HSN := Lib.hid (nums_yes (p := fun j => decide (cst G k j ≤ M)) (m := m) (by rw [hcx]; exact hp))
            rw [hp] at C1
            clear hp hxx hcx
            generalize nums (fun j => decide (cst G k j ≤ M)) m = L at *
            go_wp2_with (first | (go_at_call 43; refine C1.out.mono ?_; rintro e' w' ⟨rfl, rfl⟩) | (at_builtin; go_must (refine wpList_append_own _ rfl _ _ 23 rfl Wo.heap.size 3 i0 _ 1 8 Try.underlying23 hi0 hz0 hz1 hz2 rfl (by omega) u8 L.length (L.map (Value.int .i64)) rfl (HL.out.alloc _) _ 1 _ [.int .i64 (m : Int)] rfl rfl ?_ ?_ ?_ ?_ ?_ ?_)))
            · exact cells_new _ _ _ _ (by simp)
            · intro u hu; simp only [List.mem_cons, List.not_mem_nil, or_false] at hu; subst hu; rfl
            · simp only [maxLen]; omega
            · omega
            · have := HBx.out.size; simp; omega
            intro v1 w1 hown1 hgr1 _
            have hsx := HBx.out.size
            have HB1' := Lib.hid (below_grown (n := L.length) (v := u8) (xs := L.map (Value.int .i64)) (e := 3) (s := 1) (HBx.out.alloc hsx _) (by simp; omega) (HL.out.alloc _) hgr1)
            have HL1 := Lib.hid (show w1.ownsRow Wo.heap.size 3 1 v1 (nums (fun j => decide (cst G k j ≤ M)) (m + 1)).length ((nums (fun j => decide (cst G k j ≤ M)) (m + 1)).map (Value.int .i64)) by rw [HSN.out, ints_snoc, List.length_append]; exact hown1)
            clear hown1 hgr1 HL HBx HSN C1
            go_wp2_with fail
            go_roundg (gk - 1)
            case measure => omega
            case rel => exact ⟨m + 1, by omega, by go_num, HB1', HL1⟩
          · rw [hp] at C1
            have HL1 := HL
            rw [← nums_no (p := fun j => decide (cst G k j ≤ M)) (m := m) (by rw [hcx]; exact hp)] at HL1
            clear HL hp hxx hcx
            go_wp2_with (go_at_call 43; refine C1.out.mono ?_; rintro e' w' ⟨rfl, rfl⟩)
            go_roundg (gk - 1)
            case measure => omega
            case rel => exact ⟨m + 1, by omega, by go_num, HBx, HL1⟩
        · obtain rfl : n = m := by omega
          obtain ⟨xs, hx, hi⟩ := HO.out.below HBx.out
          have HX := Lib.hid hx
          have HI := Lib.hid hi
          have HL2 := Lib.hid (show wr.ownsRow Wo.heap.size 3 1 u8 (gph G n (fun x => decide (x ≤ M)) k).length ((gph G n (fun x => decide (x ≤ M)) k).map (Value.int .i64)) from HL.out)
          obtain ⟨Al, cl, rfl, hcl, hrl⟩ := own_row HL2.out
          have hCx := HC.out.below HBx.out HC.out.lt
          have x1 : wr.cell? ⟨W2.heap.size, 0, none⟩ = some vL := hCx.cell rfl
          have x4 : old W2.heap.size wr := hCx.lt
          have HCx := Lib.hid hCx
          have HLo := Lib.hid (own_low (base := W2.heap.size + 1) HL2.out (by have := HC.out.lt; omega))
          have HBx2 := Lib.hid (Below.next' HB2.out HBx.out HB2.out.size)
          clear hx hi hcl hrl hCx HO HL HL2 HBx HB2 HC e0 x0 x9
          generalize hLL : (gph G n (fun x => decide (x ≤ M)) k).length = LL at *
          have HLL := Lib.hid hLL
          clear hLL
          go_wp2_with (at_builtin; go_must (refine wpList_append_own _ rfl _ _ 22 rfl (W2.heap.size + 1) 23 i1 _ 1 24 Try.underlying22 hi1 hy0 hy1 hy2 rfl (by omega) vL k xs rfl (HX.out.alloc _) _ 1 _ [.slice Al LL cl] rfl rfl ?_ ?_ ?_ ?_ ?_ ?_))
          · exact cells_new _ _ _ _ (by simp)
          · intro u hu; simp only [List.mem_cons, List.not_mem_nil, or_false] at hu; subst hu; rfl
          · simp only [maxLen]; omega
          · omega
          · have := HCx.out.lt; simp; omega
          intro v3 w3 hown3 hgrow3 _
          have hB3 := (HCx.out.alloc (.cells #[.slice Al LL cl] 23)).kept hgrow3 (fun e => by have := (HX.out.lt _ e.symm).1; omega)
          obtain ⟨g3, cap3, rfl⟩ := own_form hown3
          have t1 : w3.cell? ⟨W2.heap.size, 0, none⟩ = some vL := hB3.cell rfl
          have t2 : old W2.heap.size w3 := hB3.lt
          have t3 : w3.frozen? ⟨W2.heap.size, 0, none⟩ = false := hB3.frozen
          have HLo2 := Lib.hid (show wr.ownsRow (W2.heap.size + 1) 3 1 (.slice Al LL cl) (gph G n (fun x => decide (x ≤ M)) k).length ((gph G n (fun x => decide (x ≤ M)) k).map (Value.int .i64)) by rw [HLL.out]; exact HLo.out)
          have HGO := Lib.hid ((gown_push (w := wr.alloc (.cells #[.slice Al LL cl] 23)) (n := k) (G := gph G n fun x => decide (x ≤ M)) (HX.out.alloc _) (fun i hlt => by obtain ⟨u, e, ho⟩ := HI.out i hlt; exact ⟨u, e, ho.alloc _⟩) (HLo2.out.alloc _) hown3 hgrow3).set W2.heap.size 0 (.slice (some ⟨g3, 0, none⟩) (k + 1) cap3) (by omega))
          have HC3 := Lib.hid (show Blk (w3.setCell ⟨W2.heap.size, 0, none⟩ (.slice (some ⟨g3, 0, none⟩) (k + 1) cap3)) W2.heap.size #[.slice (some ⟨g3, 0, none⟩) (k + 1) cap3, .int .i64 (n : Int)] 54 from hB3.set (k := 0) (.slice (some ⟨g3, 0, none⟩) (k + 1) cap3))
          have HB3 := Lib.hid (show Below W2.heap.size W2 (w3.setCell ⟨W2.heap.size, 0, none⟩ (.slice (some ⟨g3, 0, none⟩) (k + 1) cap3)) from Below.setCell (below_grown (e := 23) (s := 1) (n := k) (v := vL) (xs := xs) (HBx2.out.alloc HBx2.out.size _) (by have := HBx2.out.size; simp; omega) (own_low (base' := W2.heap.size + 1) (HX.out.alloc _) (by omega)) hgrow3) (Nat.le_refl _) _)
          clear hown3 hgrow3 hB3 HX HI HLo HLo2 HBx2 HCx
          go_wp2_with fail
          go_roundg gf
          case measure => omega
          case rel => exact ⟨k + 1, _, by omega, by go_num, HB3, HC3, HGO⟩
    · obtain rfl : n = k := by omega
      obtain ⟨A2, c2, rfl, hrow⟩ := HO.out.row
      have x1 : Wo.cell? ⟨W2.heap.size, 0, none⟩ = some (.slice A2 n c2) := HC.out.cell rfl
      have x2 : Wo.cell? ⟨W2.heap.size, 1, none⟩ = some (.int .i64 (n : Int)) := HC.out.cell rfl
      have x4 : old W2.heap.size Wo := HC.out.lt
      have hres := HRes.out.below HB2.out HRes.out.lt
      have r1 : old w.heap.size Wo := hres.lt
      have r2 : Wo.frozen? ⟨w.heap.size, 0, none⟩ = false := hres.frozen
      have r3 : Wo.frozen? ⟨w.heap.size, 1, none⟩ = false := hres.frozen
      have r4 : Wo.cell? ⟨w.heap.size, 0, none⟩ = some (.slice none 0 0) := hres.cell rfl
      have r5 : Wo.cell? ⟨w.heap.size, 1, none⟩ = some (.int .i64 0) := hres.cell rfl
      have hb1 := (hres.set (k := 0) (.slice A2 n c2)).set (k := 1) (.int .i64 (n : Int))
      have S1 := Lib.hid ((hres.set (k := 0) (.slice A2 n c2)).cell (j := 0) rfl)
      have S2 := Lib.hid (hb1.cell (j := 1) rfl)
      have S3 := Lib.hid (hb1.cell (j := 0) rfl)
      have hw2 : w.heap.size < W2.heap.size := HRes.out.lt
      have hbe := Below.next' HB1.out HB2.out HB1.out.size
      have HBe := Lib.hid (show Below w.heap.size w ((Wo.setCell ⟨w.heap.size, 0, none⟩ (.slice A2 n c2)).setCell ⟨w.heap.size, 1, none⟩ (.int .i64 (n : Int))) from (by repeat' (first | exact Below.refl _ _ | assumption | refine Below.xt ?_ ?_ _ | refine Below.alloc ?_ ?_ _ | refine Below.drew ?_ | refine Below.setCell ?_ ?_ _ | (simp; done) | (simp; omega))))
      obtain ⟨A3, c3, e3, hr3⟩ := ((HO.out.set w.heap.size 0 (.slice A2 n c2) (by omega)).set w.heap.size 1 (.int .i64 (n : Int)) (by omega)).row
      injection e3 with e3 _ e3c
      subst e3 e3c
      have HR3 := Lib.hid hr3
      clear hrow hres hb1 hbe hr3
      go_wp2_with fail
      have s1 := S1.out
      have s2 := S2.out
      refine bodyPost_ret (v := .agg #[.slice A2 n c2, .int .i64 (n : Int)]) (by simp [results, Try.results29, go_sem, s1, s2]) rfl ?_
      exact ⟨A2, c2, rfl, HBe.out, HR3.out⟩
theorem lt_cl (x M : Int) (b : Nat) (w : World) (hb : old b w) (hc : w.cell? ⟨b, 0, none⟩ = some (.int .i64 M)) : Calls Try.prog 30 #[.int .i64 x, .pointer (some ⟨b, 0, none⟩)] w (Ret (.bool (decide (x < M))) w) := by
  go_enter Try.func30, Try.ntmps30
  go_wp2_with fail
  go_ret
  exact ⟨rfl, rfl⟩
set_option maxRecDepth 100000 in
set_option maxHeartbeats 6400000 in
theorem graphlt (A : Option Addr) (n cap b : Nat) (M : Int) (G : Nat → List Int) (w : World) (hn0 : 1 ≤ n) (hn : n ≤ 64) (hl : ∀ i, i < n → (G i).length = n) (hG : GRow w A n G) (hb : old b w) (hc : w.cell? ⟨b, 0, none⟩ = some (.int .i64 M)) :
    Calls Try.prog 29 #[.slice A n cap, .func (.func 30) #[] #[.pointer (some ⟨b, 0, none⟩)]] w (RetGr n (gph G n fun x => decide (x < M)) w) := by
  obtain ⟨i0, hi0, hz0, hz1, hz2⟩ := info_parts infoInt
  obtain ⟨i1, hi1, hy0, hy1, hy2⟩ := info_parts infoRow
  obtain ⟨ga, go, rfl, hgo, hgc⟩ := hG.top (by omega)
  have HGC := Lib.hid hgc
  have HLn := Lib.hid hl
  clear hG hl hgc
  go_enter Try.func29, Try.ntmps29
  go_wp2_with fail
  have hmw : old ga w := hgo
  obtain ⟨W2, hW2, HB1, HRes, f0, hs2, o1⟩ : ∃ W2, w.alloc (.cells #[.slice none 0 0, .int .i64 0] 54) = W2 ∧ Hid (Below w.heap.size w W2) ∧ Hid (Blk W2 w.heap.size #[.slice none 0 0, .int .i64 0] 54) ∧ W2.cell? ⟨b, 0, none⟩ = some (.int .i64 M) ∧ w.heap.size + 1 = W2.heap.size ∧ old b W2 :=
    ⟨_, rfl, Lib.hid (by repeat' (first | exact Below.refl _ _ | assumption | refine Below.xt ?_ ?_ _ | refine Below.alloc ?_ ?_ _ | refine Below.drew ?_ | refine Below.setCell ?_ ?_ _ | (simp; done) | (simp; omega))), Lib.hid (Blk.new _ _ _ rfl), by go_simp, by simp, by go_simp⟩
  rw [hW2, hs2]
  clear hW2 hs2 hc
  have HC := Lib.hid (show Blk (W2.alloc (.cells #[.slice none 0 0, .int .i64 (n : Int)] 54)) W2.heap.size #[.slice none 0 0, .int .i64 (n : Int)] 54 from Blk.new _ _ _ rfl)
  have HB2 := Lib.hid (show Below W2.heap.size W2 (W2.alloc (.cells #[.slice none 0 0, .int .i64 (n : Int)] 54)) from (by repeat' (first | exact Below.refl _ _ | assumption | refine Below.xt ?_ ?_ _ | refine Below.alloc ?_ ?_ _ | refine Below.drew ?_ | refine Below.setCell ?_ ?_ _ | (simp; done) | (simp; omega))))
  have CL := fun (x : Int) (w' : World) (h1 : old b w') (h2 : w'.cell? ⟨b, 0, none⟩ = some (.int .i64 M)) => Lib.hid (lt_cl x M b w' h1 h2)
  go_loopg [16] (n) (fun gk i wr => ∃ (k : Nat) (vL : Value), k + gk = n ∧ i = .int .i64 k ∧ Hid (Below W2.heap.size W2 wr) ∧ Hid (Blk wr W2.heap.size #[vL, .int .i64 (n : Int)] 54) ∧ Hid (GOwn wr (W2.heap.size + 1) vL k (gph G n fun x => decide (x < M))))
  case atStart => exact ⟨0, _, by omega, rfl, HB2, HC, Lib.hid GOwn.nil⟩
  case round =>
    clear HC HB2
    obtain ⟨k, vL, hk, rfl, HB2, HC, HO⟩ := hrel
    obtain ⟨Wo, hWo⟩ : ∃ Wo, Wo = wr := ⟨_, rfl⟩
    subst hWo
    have e0 : Wo.cell? ⟨b, 0, none⟩ = some (.int .i64 M) := (HB2.out.cell (p := ⟨b, 0, none⟩) o1).trans f0
    have q0 : old b Wo := Nat.lt_of_lt_of_le o1 HB2.out.size
    have HW := Lib.hid (show Below w.heap.size w Wo from Below.next' HB1.out HB2.out HB1.out.size)
    by_cases hlt : k < n
    · obtain ⟨gf, rfl⟩ : ∃ gf, gk = gf + 1 := ⟨gk - 1, by omega⟩
      obtain ⟨Ai, ci, hgi0, hrow⟩ := HGC.out k hlt
      have hlr := HLn.out k hlt
      rw [hlr] at hgi0
      have hgi := (HW.out.cell (p := ⟨ga, go + k, none⟩) hmw).trans hgi0
      have hga : old ga Wo := Nat.lt_of_lt_of_le hmw HW.out.size
      have HRow := Lib.hid (hrow.below HW.out)
      have HLr := Lib.hid hlr
      clear hrow hgi0 hlr
      go_wp2_with fail
      clear hgi hga
      go_loopg [8, 22] (n) (fun gk l j wr => ∃ (m : Nat), m + gk = n ∧ j = .int .i64 m ∧ Hid (Below Wo.heap.size Wo wr) ∧ Hid (wr.ownsRow Wo.heap.size 3 1 l (nums (fun j => decide (cst G k j < M)) m).length ((nums (fun j => decide (cst G k j < M)) m).map (Value.int .i64))))
      case atStart => exact ⟨0, by omega, rfl, Lib.hid (Below.refl _ _), Lib.hid own_nil⟩
      case round =>
        obtain ⟨m, hm, rfl, HBx, HL⟩ := hrel
        have x0 : wr.cell? ⟨b, 0, none⟩ = some (.int .i64 M) := (HBx.out.cell (p := ⟨b, 0, none⟩) q0).trans e0
        have x9 : old b wr := Nat.lt_of_lt_of_le q0 HBx.out.size
        by_cases hlt2 : m < n
        · have hle := nums_len (fun j => decide (cst G k j < M)) m
          obtain ⟨qb, qo, rfl, hqo, hqc⟩ := RowI.at_ (HRow.out.below HBx.out) (by rw [HLr.out]; omega)
          have hx := hqc m (by rw [HLr.out]; exact hlt2)
          obtain ⟨x, hxx⟩ : ∃ x, (G k).getD m 0 = x := ⟨_, rfl⟩
          rw [hxx] at hx
          have hcx : cst G k m = x := hxx
          have C1 := CL x wr x9 x0
          clear hqc
          rcases Bool.eq_false_or_eq_true (decide (x < M)) with hp | hp
          · have HSN := Lib.hid (nums_yes (p := fun j => decide (cst G k j < M)) (m := m) (by rw [hcx]; exact hp))
            rw [hp] at C1
            clear hp hxx hcx
            generalize nums (fun j => decide (cst G k j < M)) m = L at *
            go_wp2_with (first | (go_at_call 30; refine C1.out.mono ?_; rintro e' w' ⟨rfl, rfl⟩) | (at_builtin; go_must (refine wpList_append_own _ rfl _ _ 23 rfl Wo.heap.size 3 i0 _ 1 8 Try.underlying23 hi0 hz0 hz1 hz2 rfl (by omega) u8 L.length (L.map (Value.int .i64)) rfl (HL.out.alloc _) _ 1 _ [.int .i64 (m : Int)] rfl rfl ?_ ?_ ?_ ?_ ?_ ?_)))
            · exact cells_new _ _ _ _ (by simp)
            · intro u hu; simp only [List.mem_cons, List.not_mem_nil, or_false] at hu; subst hu; rfl
            · simp only [maxLen]; omega
            · omega
            · have := HBx.out.size; simp; omega
            intro v1 w1 hown1 hgr1 _
            have hsx := HBx.out.size
            have HB1' := Lib.hid (below_grown (n := L.length) (v := u8) (xs := L.map (Value.int .i64)) (e := 3) (s := 1) (HBx.out.alloc hsx _) (by simp; omega) (HL.out.alloc _) hgr1)
            have HL1 := Lib.hid (show w1.ownsRow Wo.heap.size 3 1 v1 (nums (fun j => decide (cst G k j < M)) (m + 1)).length ((nums (fun j => decide (cst G k j < M)) (m + 1)).map (Value.int .i64)) by rw [HSN.out, ints_snoc, List.length_append]; exact hown1)
            clear hown1 hgr1 HL HBx HSN C1
            go_wp2_with fail
            go_roundg (gk - 1)
            case measure => omega
            case rel => exact ⟨m + 1, by omega, by go_num, HB1', HL1⟩
          · rw [hp] at C1
            have HL1 := HL
            rw [← nums_no (p := fun j => decide (cst G k j < M)) (m := m) (by rw [hcx]; exact hp)] at HL1
            clear HL hp hxx hcx
            go_wp2_with (go_at_call 30; refine C1.out.mono ?_; rintro e' w' ⟨rfl, rfl⟩)
            go_roundg (gk - 1)
            case measure => omega
            case rel => exact ⟨m + 1, by omega, by go_num, HBx, HL1⟩
        · obtain rfl : n = m := by omega
          obtain ⟨xs, hx, hi⟩ := HO.out.below HBx.out
          have HX := Lib.hid hx
          have HI := Lib.hid hi
          have HL2 := Lib.hid (show wr.ownsRow Wo.heap.size 3 1 u8 (gph G n (fun x => decide (x < M)) k).length ((gph G n (fun x => decide (x < M)) k).map (Value.int .i64)) from HL.out)
          obtain ⟨Al, cl, rfl, hcl, hrl⟩ := own_row HL2.out
          have hCx := HC.out.below HBx.out HC.out.lt
          have x1 : wr.cell? ⟨W2.heap.size, 0, none⟩ = some vL := hCx.cell rfl
          have x4 : old W2.heap.size wr := hCx.lt
          have HCx := Lib.hid hCx
          have HLo := Lib.hid (own_low (base := W2.heap.size + 1) HL2.out (by have := HC.out.lt; omega))
          have HBx2 := Lib.hid (Below.next' HB2.out HBx.out HB2.out.size)
          clear hx hi hcl hrl hCx HO HL HL2 HBx HB2 HC e0 x0 x9
          generalize hLL : (gph G n (fun x => decide (x < M)) k).length = LL at *
          have HLL := Lib.hid hLL
          clear hLL
          go_wp2_with (at_builtin; go_must (refine wpList_append_own _ rfl _ _ 22 rfl (W2.heap.size + 1) 23 i1 _ 1 24 Try.underlying22 hi1 hy0 hy1 hy2 rfl (by omega) vL k xs rfl (HX.out.alloc _) _ 1 _ [.slice Al LL cl] rfl rfl ?_ ?_ ?_ ?_ ?_ ?_))
          · exact cells_new _ _ _ _ (by simp)
          · intro u hu; simp only [List.mem_cons, List.not_mem_nil, or_false] at hu; subst hu; rfl
          · simp only [maxLen]; omega
          · omega
          · have := HCx.out.lt; simp; omega
          intro v3 w3 hown3 hgrow3 _
          have hB3 := (HCx.out.alloc (.cells #[.slice Al LL cl] 23)).kept hgrow3 (fun e => by have := (HX.out.lt _ e.symm).1; omega)
          obtain ⟨g3, cap3, rfl⟩ := own_form hown3
          have t1 : w3.cell? ⟨W2.heap.size, 0, none⟩ = some vL := hB3.cell rfl
          have t2 : old W2.heap.size w3 := hB3.lt
          have t3 : w3.frozen? ⟨W2.heap.size, 0, none⟩ = false := hB3.frozen
          have HLo2 := Lib.hid (show wr.ownsRow (W2.heap.size + 1) 3 1 (.slice Al LL cl) (gph G n (fun x => decide (x < M)) k).length ((gph G n (fun x => decide (x < M)) k).map (Value.int .i64)) by rw [HLL.out]; exact HLo.out)
          have HGO := Lib.hid ((gown_push (w := wr.alloc (.cells #[.slice Al LL cl] 23)) (n := k) (G := gph G n fun x => decide (x < M)) (HX.out.alloc _) (fun i hlt => by obtain ⟨u, e, ho⟩ := HI.out i hlt; exact ⟨u, e, ho.alloc _⟩) (HLo2.out.alloc _) hown3 hgrow3).set W2.heap.size 0 (.slice (some ⟨g3, 0, none⟩) (k + 1) cap3) (by omega))
          have HC3 := Lib.hid (show Blk (w3.setCell ⟨W2.heap.size, 0, none⟩ (.slice (some ⟨g3, 0, none⟩) (k + 1) cap3)) W2.heap.size #[.slice (some ⟨g3, 0, none⟩) (k + 1) cap3, .int .i64 (n : Int)] 54 from hB3.set (k := 0) (.slice (some ⟨g3, 0, none⟩) (k + 1) cap3))
          have HB3 := Lib.hid (show Below W2.heap.size W2 (w3.setCell ⟨W2.heap.size, 0, none⟩ (.slice (some ⟨g3, 0, none⟩) (k + 1) cap3)) from Below.setCell (below_grown (e := 23) (s := 1) (n := k) (v := vL) (xs := xs) (HBx2.out.alloc HBx2.out.size _) (by have := HBx2.out.size; simp; omega) (own_low (base' := W2.heap.size + 1) (HX.out.alloc _) (by omega)) hgrow3) (Nat.le_refl _) _)
          clear hown3 hgrow3 hB3 HX HI HLo HLo2 HBx2 HCx
          go_wp2_with fail
          go_roundg gf
          case measure => omega
          case rel => exact ⟨k + 1, _, by omega, by go_num, HB3, HC3, HGO⟩
    · obtain rfl : n = k := by omega
      obtain ⟨A2, c2, rfl, hrow⟩ := HO.out.row
      have x1 : Wo.cell? ⟨W2.heap.size, 0, none⟩ = some (.slice A2 n c2) := HC.out.cell rfl
      have x2 : Wo.cell? ⟨W2.heap.size, 1, none⟩ = some (.int .i64 (n : Int)) := HC.out.cell rfl
      have x4 : old W2.heap.size Wo := HC.out.lt
      have hres := HRes.out.below HB2.out HRes.out.lt
      have r1 : old w.heap.size Wo := hres.lt
      have r2 : Wo.frozen? ⟨w.heap.size, 0, none⟩ = false := hres.frozen
      have r3 : Wo.frozen? ⟨w.heap.size, 1, none⟩ = false := hres.frozen
      have r4 : Wo.cell? ⟨w.heap.size, 0, none⟩ = some (.slice none 0 0) := hres.cell rfl
      have r5 : Wo.cell? ⟨w.heap.size, 1, none⟩ = some (.int .i64 0) := hres.cell rfl
      have hb1 := (hres.set (k := 0) (.slice A2 n c2)).set (k := 1) (.int .i64 (n : Int))
      have S1 := Lib.hid ((hres.set (k := 0) (.slice A2 n c2)).cell (j := 0) rfl)
      have S2 := Lib.hid (hb1.cell (j := 1) rfl)
      have S3 := Lib.hid (hb1.cell (j := 0) rfl)
      have hw2 : w.heap.size < W2.heap.size := HRes.out.lt
      have hbe := Below.next' HB1.out HB2.out HB1.out.size
      have HBe := Lib.hid (show Below w.heap.size w ((Wo.setCell ⟨w.heap.size, 0, none⟩ (.slice A2 n c2)).setCell ⟨w.heap.size, 1, none⟩ (.int .i64 (n : Int))) from (by repeat' (first | exact Below.refl _ _ | assumption | refine Below.xt ?_ ?_ _ | refine Below.alloc ?_ ?_ _ | refine Below.drew ?_ | refine Below.setCell ?_ ?_ _ | (simp; done) | (simp; omega))))
      obtain ⟨A3, c3, e3, hr3⟩ := ((HO.out.set w.heap.size 0 (.slice A2 n c2) (by omega)).set w.heap.size 1 (.int .i64 (n : Int)) (by omega)).row
      injection e3 with e3 _ e3c
      subst e3 e3c
      have HR3 := Lib.hid hr3
      clear hrow hres hb1 hbe hr3
      go_wp2_with fail
      have s1 := S1.out
      have s2 := S2.out
      refine bodyPost_ret (v := .agg #[.slice A2 n c2, .int .i64 (n : Int)]) (by simp [results, Try.results29, go_sem, s1, s2]) rfl ?_
      exact ⟨A2, c2, rfl, HBe.out, HR3.out⟩
end Go.Proofs.Ytjiknjcmfiapjaa

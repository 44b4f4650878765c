
/- Walks: a number put into a rising list, by the reference. Conditions stand in each theorem. -/
import Derived.Test.YtiikejhkhdmgeaaLigI
import Derived.Test.YtiikejhkhdmgeaaLigQ
import Derived.IntWalk
import Derived.Laws.AppendOwnNone
namespace Go.Proofs.Ytiikejhkhdmgeaa
open Go.RowKit
set_option linter.unusedVariables false
set_option linter.unusedSimpArgs false

theorem getD_take_drop (l : List Int) (p : Nat) : l.take p ++ l.drop p = l := List.take_append_drop p l
theorem info_own (l : List Int) : (l.map (Value.int .i64)).length = l.length * 1 := by simp

theorem newsI {w : World} {b o q : Nat} {l : List Int} (h : RowI w (some ⟨b, o, none⟩) l) (h0 : 0 < l.length) {p m : Nat} (hq : q = o + p) (hm : p + m ≤ l.length) : ∀ j u, (((l.drop p).take m).map (Value.int .i64))[j]? = some u → w.cell? ((⟨b, q, none⟩ : Addr).add j) = some u := by
  obtain ⟨_, _, e, _, hc⟩ := RowI.at_ h h0
  injection e with e
  injection e with e1 e2
  subst e1 e2 hq
  exact RowI.news hc hm
/-- The three parts joined. -/
theorem parts_len {l : List Int} {k : Nat} (n : Int) (hk : k ≤ l.length) : (l.take k ++ [n] ++ l.drop k).length = k + 1 + (l.length - k) := by
  simp; omega
theorem parts_map (l : List Int) (k : Nat) (n : Int) : (l.take k ++ [n] ++ l.drop k).map (Value.int .i64) = [] ++ (l.take k).map (Value.int .i64) ++ [.int .i64 n] ++ (l.drop k).map (Value.int .i64) := by
  simp
set_option maxRecDepth 100000 in
set_option maxHeartbeats 3200000 in
theorem put_any (A : Option Addr) (c : Nat) (l : List Int) (n : Int) (w : World) (h0 : 0 < l.length) (hl : l.length ≤ 100000) (hc : l.length ≤ c) (hcm : c ≤ maxLen) (hr : RowI w A l) :
    Calls Try.prog 44 #[.slice A l.length c, .int .i64 n] w (RetI (insL l n) w) := by
  have hcM := hcm
  unfold maxLen at hcm
  obtain ⟨b, o, rfl, hb, hc0⟩ := RowI.at_ hr h0
  have HC := Lib.hid hc0
  have HR := Lib.hid hr
  have HCM := Lib.hid hcM
  have hp := plc_le l n
  have HL := Lib.hid (fun j h => plc_lt (l := l) (n := n) (j := j) h)
  have HG := Lib.hid (plc_ge (l := l) (n := n))
  have HI := Lib.hid (insL_eq (l := l) (n := n))
  obtain ⟨i0, hi0, hz0, hz1, hz2⟩ := info_parts infoInt
  clear hc0 hr hcM
  generalize plc l n = p at *
  go_enter Try.func44, Try.ntmps44
  go_wp2_with fail
  go_loopw [5] (fun i wr => ∃ (k : Nat) (g : Gr), k ≤ p ∧ i = .int .i64 k ∧ wr = xt w g) (fun i _ => p - (intOf i).toNat)
  case atStart => exact ⟨0, ⟨[], _⟩, by omega, rfl, (xt_self _).symm⟩
  case round =>
    obtain ⟨k, g, hk, rfl, rfl⟩ := hrel
    by_cases hlt : k < p
    · have x0 := HC.out k (by omega)
      have hx := HL.out k hlt
      generalize l.getD k 0 = x at *
      go_wp2_with fail
      go_roundw
      case rel => exact ⟨k + 1, g, by omega, by go_num, rfl⟩
      case measure => simp [intOf]; omega
    · obtain rfl : k = p := by omega
      by_cases hkl : k < l.length
      · have x0 := HC.out k hkl
        have hx := HG.out hkl
        obtain ⟨x, hxe⟩ : ∃ x, l.getD k 0 = x := ⟨_, rfl⟩
        rw [hxe] at x0 hx
        have HX := Lib.hid hxe
        clear hxe HG HL
        have d1 : decide (x < n) = false := by simpa using hx
        by_cases he : x = n
        · have e1 : (x == n) = true := by simpa using he
          have E := Lib.hid (show insL l n = l by rw [HI.out, if_pos ⟨hkl, by rw [HX.out]; exact he⟩])
          clear he HI HX hx
          go_wp2_with fail
          go_ret
          exact ⟨some ⟨b, o, none⟩, c, by rw [E.out]; rfl, (by repeat' (first | exact Below.refl _ _ | assumption | refine Below.xt ?_ ?_ _ | refine Below.alloc ?_ ?_ _ | refine Below.drew ?_ | refine Below.setCell ?_ ?_ _ | (simp; done) | (simp; omega))), by rw [E.out]; exact HR.out.xt _, by rw [E.out]; exact hc, HCM.out⟩
        · have e1 : (x == n) = false := by simpa using he
          have E := Lib.hid (show insL l n = l.take k ++ [n] ++ l.drop k by rw [HI.out, if_neg (fun h => he (by rw [← HX.out]; exact h.2))])
          clear he HI HX hx
          have hn0 : k ≤ c := by omega
          go_wp2_with (at_builtin; go_must (refine wpList_append_own _ rfl _ _ 44 rfl w.heap.size 3 i0 _ 1 8 Try.underlying44 hi0 hz0 hz1 hz2 rfl (by omega) (.slice none 0 0) (0) ([]) rfl own_nil ⟨b, o, none⟩ k (c) ((l.take k).map (Value.int .i64)) rfl ?_ ?_ ?_ ?_ ?_ ?_ ?_))
          · simp; omega
          · exact newsI (p := 0) (m := k) (HR.out.xt g) h0 rfl (by omega)
          · exact one_ints _
          · simp only [maxLen]; omega
          · omega
          · simp
          intro v1 w1 hown1 hgr1 _
          have hb1 : Below w.heap.size w w1 := below_grown (n := 0) (v := .slice none 0 0) (xs := []) (e := 3) (s := 1) (by repeat' (first | exact Below.refl _ _ | assumption | refine Below.xt ?_ ?_ _ | refine Below.alloc ?_ ?_ _ | refine Below.drew ?_ | refine Below.setCell ?_ ?_ _ | (simp; done) | (simp; omega))) (by simp) own_nil hgr1
          obtain ⟨g1, rfl⟩ := xt_of_below hb1
          have HO := Lib.hid (show (xt w g1).ownsRow w.heap.size 3 1 v1 k ((l.take k).map (Value.int .i64)) by simpa using hown1)
          clear hown1 hgr1 hb1
          go_wp2_with (at_builtin; go_must (refine wpList_append_own _ rfl _ _ 44 rfl w.heap.size 3 i0 _ 1 8 Try.underlying44 hi0 hz0 hz1 hz2 rfl (by omega) v1 (k) ((l.take k).map (Value.int .i64)) rfl (by repeat (first | (with_reducible exact HO.out) | (with_reducible refine World.ownsRow.alloc ?_ _) | (with_reducible refine own_drew ?_) | (with_reducible refine own_xt ?_ _))) _ 1 (_) ([.int .i64 n]) rfl ?_ ?_ ?_ ?_ ?_ ?_ ?_))
          · rfl
          · exact cells_new _ _ _ _ (by simp)
          · exact one_ints [n]
          · simp only [maxLen]; omega
          · omega
          · simp; omega
          intro v2 w2 hown2 hgr2 _
          have hb2 : Below w.heap.size w w2 := below_grown (n := k) (v := v1) (xs := (l.take k).map (Value.int .i64)) (e := 3) (s := 1) (by repeat' (first | exact Below.refl _ _ | assumption | refine Below.xt ?_ ?_ _ | refine Below.alloc ?_ ?_ _ | refine Below.drew ?_ | refine Below.setCell ?_ ?_ _ | (simp; done) | (simp; omega))) (by simp; omega) (by repeat (first | (with_reducible exact HO.out) | (with_reducible refine World.ownsRow.alloc ?_ _) | (with_reducible refine own_drew ?_) | (with_reducible refine own_xt ?_ _))) hgr2
          obtain ⟨g2, rfl⟩ := xt_of_below hb2
          have HO2 := Lib.hid (show (xt w g2).ownsRow w.heap.size 3 1 v2 (k + 1) ((l.take k).map (Value.int .i64) ++ [.int .i64 n]) by simpa using hown2)
          clear hown2 hgr2 hb2 HO
          go_wp2_with (at_builtin; go_must (refine wpList_append_own _ rfl _ _ 44 rfl w.heap.size 3 i0 _ 1 8 Try.underlying44 hi0 hz0 hz1 hz2 rfl (by omega) v2 (k + 1) ((l.take k).map (Value.int .i64) ++ [.int .i64 n]) rfl HO2.out ⟨b, o + k, none⟩ (l.length - k) (c - k) ((l.drop k).map (Value.int .i64)) rfl ?_ ?_ ?_ ?_ ?_ ?_ ?_))
          · simp
          · have h9 := newsI (p := k) (m := l.length - k) (HR.out.xt g2) h0 (q := o + k) rfl (by omega)
            rw [List.take_of_length_le (by simp)] at h9
            exact h9
          · exact one_ints _
          · simp only [maxLen]; omega
          · omega
          · simp
          intro v3 w3 hown3 hgr3 _
          have hb3 : Below w.heap.size w w3 := below_grown (n := k + 1) (v := v2) (xs := (l.take k).map (Value.int .i64) ++ [.int .i64 n]) (e := 3) (s := 1) (by repeat' (first | exact Below.refl _ _ | assumption | refine Below.xt ?_ ?_ _ | refine Below.alloc ?_ ?_ _ | refine Below.drew ?_ | refine Below.setCell ?_ ?_ _ | (simp; done) | (simp; omega))) (by simp) HO2.out hgr3
          obtain ⟨g3, rfl⟩ := xt_of_below hb3
          have HO3 := Lib.hid (show (xt w g3).ownsRow w.heap.size 3 1 v3 (k + 1 + (l.length - k)) ((l.take k ++ [n] ++ l.drop k).map (Value.int .i64)) by simpa using hown3)
          clear hown3 hgr3 hb3 HO2
          go_wp2_with fail
          obtain ⟨A', c', rfl, hrow, hc1, hc2⟩ := RowI.of_own HO3.out (parts_len n (by omega)).symm
          go_ret
          rw [E.out]
          exact ⟨A', c', rfl, (by repeat' (first | exact Below.refl _ _ | assumption | refine Below.xt ?_ ?_ _ | refine Below.alloc ?_ ?_ _ | refine Below.drew ?_ | refine Below.setCell ?_ ?_ _ | (simp; done) | (simp; omega))), hrow, hc1, hc2⟩
      · obtain rfl : k = l.length := by omega
        have E := Lib.hid (show insL l n = l.take l.length ++ [n] ++ l.drop l.length by rw [HI.out, if_neg (fun h => hkl h.1)])
        clear HI HG HL
        by_cases hkc : l.length = c
        · subst hkc
          go_wp2_with (at_builtin; go_must (refine wpList_append_own _ rfl _ _ 44 rfl w.heap.size 3 i0 _ 1 8 Try.underlying44 hi0 hz0 hz1 hz2 rfl (by omega) (.slice none 0 0) (0) ([]) rfl own_nil ⟨b, o, none⟩ l.length (l.length) ((l.take l.length).map (Value.int .i64)) rfl ?_ ?_ ?_ ?_ ?_ ?_ ?_))
          · simp
          · exact newsI (p := 0) (m := l.length) (HR.out.xt g) h0 rfl (by omega)
          · exact one_ints _
          · simp only [maxLen]; omega
          · omega
          · simp
          intro v1 w1 hown1 hgr1 _
          have hb1 : Below w.heap.size w w1 := below_grown (n := 0) (v := .slice none 0 0) (xs := []) (e := 3) (s := 1) (by repeat' (first | exact Below.refl _ _ | assumption | refine Below.xt ?_ ?_ _ | refine Below.alloc ?_ ?_ _ | refine Below.drew ?_ | refine Below.setCell ?_ ?_ _ | (simp; done) | (simp; omega))) (by simp) own_nil hgr1
          obtain ⟨g1, rfl⟩ := xt_of_below hb1
          have HO := Lib.hid (show (xt w g1).ownsRow w.heap.size 3 1 v1 l.length ((l.take l.length).map (Value.int .i64)) by simpa using hown1)
          clear hown1 hgr1 hb1
          go_wp2_with (at_builtin; go_must (refine wpList_append_own _ rfl _ _ 44 rfl w.heap.size 3 i0 _ 1 8 Try.underlying44 hi0 hz0 hz1 hz2 rfl (by omega) v1 (l.length) ((l.take l.length).map (Value.int .i64)) rfl (by repeat (first | (with_reducible exact HO.out) | (with_reducible refine World.ownsRow.alloc ?_ _) | (with_reducible refine own_drew ?_) | (with_reducible refine own_xt ?_ _))) _ 1 (_) ([.int .i64 n]) rfl ?_ ?_ ?_ ?_ ?_ ?_ ?_))
          · rfl
          · exact cells_new _ _ _ _ (by simp)
          · exact one_ints [n]
          · simp only [maxLen]; omega
          · omega
          · simp; omega
          intro v2 w2 hown2 hgr2 _
          have hb2 : Below w.heap.size w w2 := below_grown (n := l.length) (v := v1) (xs := (l.take l.length).map (Value.int .i64)) (e := 3) (s := 1) (by repeat' (first | exact Below.refl _ _ | assumption | refine Below.xt ?_ ?_ _ | refine Below.alloc ?_ ?_ _ | refine Below.drew ?_ | refine Below.setCell ?_ ?_ _ | (simp; done) | (simp; omega))) (by simp; omega) (by repeat (first | (with_reducible exact HO.out) | (with_reducible refine World.ownsRow.alloc ?_ _) | (with_reducible refine own_drew ?_) | (with_reducible refine own_xt ?_ _))) hgr2
          obtain ⟨g2, rfl⟩ := xt_of_below hb2
          have HO2 := Lib.hid (show (xt w g2).ownsRow w.heap.size 3 1 v2 (l.length + 1) ((l.take l.length).map (Value.int .i64) ++ [.int .i64 n]) by simpa using hown2)
          clear hown2 hgr2 hb2 HO
          go_wp2_with (at_builtin; go_must (refine wpList_append_own _ rfl _ _ 44 rfl w.heap.size 3 i0 _ 1 8 Try.underlying44 hi0 hz0 hz1 hz2 rfl (by omega) v2 (l.length + 1) ((l.take l.length).map (Value.int .i64) ++ [.int .i64 n]) rfl HO2.out ⟨b, o, none⟩ 0 (0) ((l.drop l.length).map (Value.int .i64)) rfl ?_ ?_ ?_ ?_ ?_ ?_ ?_))
          · simp
          · intro j u hu; simp at hu
          · exact one_ints _
          · simp only [maxLen]; omega
          · omega
          · simp
          intro v3 w3 hown3 hgr3 _
          have hb3 : Below w.heap.size w w3 := below_grown (n := l.length + 1) (v := v2) (xs := (l.take l.length).map (Value.int .i64) ++ [.int .i64 n]) (e := 3) (s := 1) (by repeat' (first | exact Below.refl _ _ | assumption | refine Below.xt ?_ ?_ _ | refine Below.alloc ?_ ?_ _ | refine Below.drew ?_ | refine Below.setCell ?_ ?_ _ | (simp; done) | (simp; omega))) (by simp) HO2.out hgr3
          obtain ⟨g3, rfl⟩ := xt_of_below hb3
          have HO3 := Lib.hid (show (xt w g3).ownsRow w.heap.size 3 1 v3 (l.length + 1 + 0) ((l.take l.length ++ [n] ++ l.drop l.length).map (Value.int .i64)) by simpa using hown3)
          clear hown3 hgr3 hb3 HO2
          go_wp2_with fail
          obtain ⟨A', c', rfl, hrow, hc1, hc2⟩ := RowI.of_own HO3.out (show l.length + 1 + 0 = _ by simp)
          go_ret
          rw [E.out]
          exact ⟨A', c', rfl, (by repeat' (first | exact Below.refl _ _ | assumption | refine Below.xt ?_ ?_ _ | refine Below.alloc ?_ ?_ _ | refine Below.drew ?_ | refine Below.setCell ?_ ?_ _ | (simp; done) | (simp; omega))), hrow, hc1, hc2⟩
        · have hkc' : l.length < c := by omega
          clear hkc
          go_wp2_with (at_builtin; go_must (refine wpList_append_own _ rfl _ _ 44 rfl w.heap.size 3 i0 _ 1 8 Try.underlying44 hi0 hz0 hz1 hz2 rfl (by omega) (.slice none 0 0) (0) ([]) rfl own_nil ⟨b, o, none⟩ l.length (c) ((l.take l.length).map (Value.int .i64)) rfl ?_ ?_ ?_ ?_ ?_ ?_ ?_))
          · simp
          · exact newsI (p := 0) (m := l.length) (HR.out.xt g) h0 rfl (by omega)
          · exact one_ints _
          · simp only [maxLen]; omega
          · omega
          · simp
          intro v1 w1 hown1 hgr1 _
          have hb1 : Below w.heap.size w w1 := below_grown (n := 0) (v := .slice none 0 0) (xs := []) (e := 3) (s := 1) (by repeat' (first | exact Below.refl _ _ | assumption | refine Below.xt ?_ ?_ _ | refine Below.alloc ?_ ?_ _ | refine Below.drew ?_ | refine Below.setCell ?_ ?_ _ | (simp; done) | (simp; omega))) (by simp) own_nil hgr1
          obtain ⟨g1, rfl⟩ := xt_of_below hb1
          have HO := Lib.hid (show (xt w g1).ownsRow w.heap.size 3 1 v1 l.length ((l.take l.length).map (Value.int .i64)) by simpa using hown1)
          clear hown1 hgr1 hb1
          go_wp2_with (at_builtin; go_must (refine wpList_append_own _ rfl _ _ 44 rfl w.heap.size 3 i0 _ 1 8 Try.underlying44 hi0 hz0 hz1 hz2 rfl (by omega) v1 (l.length) ((l.take l.length).map (Value.int .i64)) rfl (by repeat (first | (with_reducible exact HO.out) | (with_reducible refine World.ownsRow.alloc ?_ _) | (with_reducible refine own_drew ?_) | (with_reducible refine own_xt ?_ _))) _ 1 (_) ([.int .i64 n]) rfl ?_ ?_ ?_ ?_ ?_ ?_ ?_))
          · rfl
          · exact cells_new _ _ _ _ (by simp)
          · exact one_ints [n]
          · simp only [maxLen]; omega
          · omega
          · simp; omega
          intro v2 w2 hown2 hgr2 _
          have hb2 : Below w.heap.size w w2 := below_grown (n := l.length) (v := v1) (xs := (l.take l.length).map (Value.int .i64)) (e := 3) (s := 1) (by repeat' (first | exact Below.refl _ _ | assumption | refine Below.xt ?_ ?_ _ | refine Below.alloc ?_ ?_ _ | refine Below.drew ?_ | refine Below.setCell ?_ ?_ _ | (simp; done) | (simp; omega))) (by simp; omega) (by repeat (first | (with_reducible exact HO.out) | (with_reducible refine World.ownsRow.alloc ?_ _) | (with_reducible refine own_drew ?_) | (with_reducible refine own_xt ?_ _))) hgr2
          obtain ⟨g2, rfl⟩ := xt_of_below hb2
          have HO2 := Lib.hid (show (xt w g2).ownsRow w.heap.size 3 1 v2 (l.length + 1) ((l.take l.length).map (Value.int .i64) ++ [.int .i64 n]) by simpa using hown2)
          clear hown2 hgr2 hb2 HO
          go_wp2_with (at_builtin; go_must (refine wpList_append_own _ rfl _ _ 44 rfl w.heap.size 3 i0 _ 1 8 Try.underlying44 hi0 hz0 hz1 hz2 rfl (by omega) v2 (l.length + 1) ((l.take l.length).map (Value.int .i64) ++ [.int .i64 n]) rfl HO2.out ⟨b, o + l.length, none⟩ 0 (c - l.length) ((l.drop l.length).map (Value.int .i64)) rfl ?_ ?_ ?_ ?_ ?_ ?_ ?_))
          · simp
          · intro j u hu; simp at hu
          · exact one_ints _
          · simp only [maxLen]; omega
          · omega
          · simp
          intro v3 w3 hown3 hgr3 _
          have hb3 : Below w.heap.size w w3 := below_grown (n := l.length + 1) (v := v2) (xs := (l.take l.length).map (Value.int .i64) ++ [.int .i64 n]) (e := 3) (s := 1) (by repeat' (first | exact Below.refl _ _ | assumption | refine Below.xt ?_ ?_ _ | refine Below.alloc ?_ ?_ _ | refine Below.drew ?_ | refine Below.setCell ?_ ?_ _ | (simp; done) | (simp; omega))) (by simp) HO2.out hgr3
          obtain ⟨g3, rfl⟩ := xt_of_below hb3
          have HO3 := Lib.hid (show (xt w g3).ownsRow w.heap.size 3 1 v3 (l.length + 1 + 0) ((l.take l.length ++ [n] ++ l.drop l.length).map (Value.int .i64)) by simpa using hown3)
          clear hown3 hgr3 hb3 HO2
          go_wp2_with fail
          obtain ⟨A', c', rfl, hrow, hc1, hc2⟩ := RowI.of_own HO3.out (show l.length + 1 + 0 = _ by simp)
          go_ret
          rw [E.out]
          exact ⟨A', c', rfl, (by repeat' (first | exact Below.refl _ _ | assumption | refine Below.xt ?_ ?_ _ | refine Below.alloc ?_ ?_ _ | refine Below.drew ?_ | refine Below.setCell ?_ ?_ _ | (simp; done) | (simp; omega))), hrow, hc1, hc2⟩

end Go.Proofs.Ytiikejhkhdmgeaa

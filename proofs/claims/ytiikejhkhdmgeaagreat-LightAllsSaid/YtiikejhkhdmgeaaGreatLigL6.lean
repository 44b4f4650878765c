
/- Walks: the changes of an aircraft, by the program. Conditions stand in each theorem. -/
import Derived.Test.YtiikejhkhdmgeaaGreatLigI
import Derived.Test.YtiikejhkhdmgeaaGreatLigQ
import Derived.Test.YtiikejhkhdmgeaaGreatLigS
import Derived.Test.YtiikejhkhdmgeaaGreatLigL3
import Derived.Sort.OwnSortedInts
import Derived.Laws.AppendOwnNone
namespace Go.Proofs.YtiikejhkhdmgeaaGreat
open Go.RowKit Go.Sort
set_option linter.unusedVariables false
set_option linter.unusedSimpArgs false
attribute [local go_sem ↓] ldr16 ldr18

theorem own_made {w : World} {B m : Nat} {e : TypeId} {n : Int} (hB : B ≤ m) (hm : m = w.heap.size) : (w.alloc (.cells #[.int .i64 n] e)).ownsRow B e 1 (.slice (some ⟨m, 0, none⟩) 1 1) 1 ([n].map (Value.int .i64)) := by
  subst hm
  refine ⟨by simp, .inr ⟨w.heap.size, 1, #[.int .i64 n], rfl, hB, by rw [heap_alloc_new], by omega, by unfold maxLen; simp, by simp, by simp⟩⟩

/-- The list that has been made so far, in slot u of world W. -/
def OwRel (w0 : World) (l : List Int) (u : Value) (W : World) : Prop := ∃ g : Gr, W = xt w0 g ∧ Hid ((xt w0 g).ownsRow w0.heap.size 3 1 u l.length (l.map (Value.int .i64)))
theorem OwRel.mk {w0 W : World} {u : Value} {n : Nat} {l m : List Int} (e : m = l) (hn : n = l.length) (hb : Below w0.heap.size w0 W) (hr : W.ownsRow w0.heap.size 3 1 u n (l.map (Value.int .i64))) : OwRel w0 m u W := by
  subst e hn
  obtain ⟨g, rfl⟩ := xt_of_below hb
  exact ⟨g, rfl, Lib.hid hr⟩
theorem old_of_cell {w : World} {m i : Nat} {u : Value} (h : w.cell? ⟨m, i, none⟩ = some u) : old m w := by
  rcases Nat.lt_or_ge m w.heap.size with hlt | hge
  · exact hlt
  · simp [World.cell?, Array.getElem?_eq_none hge] at h
theorem box_kept {W1 W w3 : World} {base e s n m i : Nat} {v u : Value} {xs : List Value} (ho : W1.ownsRow base e s v n xs) (hm : W1.heap.size ≤ m) (hg : W.grownBy w3 v.ownBlock) (hc : W.cell? ⟨m, i, none⟩ = some u) : w3.cell? ⟨m, i, none⟩ = some u := by
  rw [← hc]
  refine hg.cell_far _ (old_of_cell hc) fun he => ?_
  rcases ho.2 with ⟨rfl, _⟩ | ⟨g, cap, cur, rfl, hb, hgb, _⟩
  · simp [Value.ownBlock] at he
  · simp [Value.ownBlock] at he
    subst he
    rw [Array.getElem?_eq_none hm] at hgb
    cases hgb
theorem rowI_block {w : World} {g : Nat} {cur : Array Value} {e : TypeId} {l m r : List Int} (hb : w.heap[g]? = some (.cells cur e (0, 0))) (ht : cur.toList.take l.length = l.map (Value.int .i64)) (hm : l = m ++ r) : RowI w (some ⟨g, 0, none⟩) m := by
  refine ⟨fun hn => ⟨g, 0, rfl, ?_, fun i j hi hj => ?_⟩⟩
  · rcases Nat.lt_or_ge g w.heap.size with hlt | hge
    · exact hlt
    · rw [Array.getElem?_eq_none hge] at hb; cases hb
  · have hj0 : j = 0 := by omega
    subst hj0
    have hil : i < l.length := by rw [hm, List.length_append]; omega
    have h1 : (cur.toList.take l.length)[i]? = (l.map (Value.int .i64))[i]? := by rw [ht]
    rw [List.getElem?_take_of_lt hil] at h1
    simp only [World.cell?, hb, Nat.zero_add, Nat.mul_one, Nat.add_zero]
    simp only [Option.isSome_none, Bool.false_eq_true, if_false]
    rw [← Array.getElem?_toList, h1, hm, List.map_append, List.getElem?_append_left (by simpa using hi)]
    simp [icell, hi, List.getD]
theorem compact_len_le (d : Array Int) : ∀ m, (Lib.compactUpTo d m).length ≤ m
  | 0 => by simp [Lib.compactUpTo]
  | m + 1 => by
    have := compact_len_le d m
    rw [Lib.compactUpTo_succ, List.length_append]
    split <;> simp <;> omega
/-- The library's two calls: the numbers sorted, each once. -/
theorem sort_compact (gb cap : Nat) (cur : Array Value) (l : List Int) (w : World) (hl : l.length < 4611686018427387904) (hcap : l.length ≤ cap) (hsz : cur.size = cap) (hb : w.heap[gb]? = some (.cells cur 3 (0, 0))) (ht : cur.toList.take l.length = l.map (Value.int .i64)) :
    Calls Tryz.prog 25 #[.slice (some ⟨gb, 0, none⟩) l.length cap] w fun e w3 => e = .returned (.tuple #[]) ∧ w.grownBy w3 (some gb) ∧
      Calls Tryz.prog 26 #[.slice (some ⟨gb, 0, none⟩) l.length cap] w3 fun e w4 => e = .returned (.slice (some ⟨gb, 0, none⟩) (sortC l).length cap) ∧ w3.grownBy w4 (some gb) ∧ RowI w4 (some ⟨gb, 0, none⟩) (sortC l) := by
  have hg : gb < w.heap.size := (Array.getElem?_eq_some_iff.1 hb).1
  refine (Tryz.slices_Sort_int gb 0 cap l w (holds_of_blockI hb ht) hg hl).mono fun e w3 ⟨he, n, os, hw3⟩ => ⟨he, ?_, ?_⟩
  · rw [hw3]; exact grownBy_sortedI _
  have hp := (List.mergeSort_perm l fun x y => decide (x ≤ y)).length_eq
  have hS : sortC l = Lib.compact (l.mergeSort fun x y => decide (x ≤ y)) := by rw [sortC, Lib.compact, hp]
  rw [hS]
  generalize l.mergeSort (fun x y => decide (x ≤ y)) = ts at *
  have hb3 : w3.heap[gb]? = some (.cells (putCells (Value.int .i64) 0 ts.toArray cur) 3 (0, 0)) := by rw [hw3]; exact heap_sortedI _ hb
  have ht3 := take_putCellsI cur ts (by omega)
  have hc := Tryz.slices_Compact_int gb 0 cap ts w3 (holds_of_blockI hb3 ht3) (by omega) (by omega)
  rw [hp] at hc
  have hle := compact_len_le ts.toArray ts.length
  refine hc.mono fun e w4 ⟨he, q, hw4⟩ => ⟨he, ?_, ?_⟩
  · rw [hw4]
    have := grownBy_sortedI (w := w3) (g := gb) (n := q) (os := #[]) (Lib.compact ts ++ List.replicate (l.length - (Lib.compact ts).length) 0).toArray
    rwa [grow_empty] at this
  · have h4 := heap_sortedI (n := q) (os := #[]) (Lib.compact ts ++ List.replicate (l.length - (Lib.compact ts).length) 0).toArray hb3
    rw [grow_empty, ← hw4] at h4
    refine rowI_block (l := Lib.compact ts ++ List.replicate (l.length - (Lib.compact ts).length) 0) (r := List.replicate (l.length - (Lib.compact ts).length) 0) h4 (take_putCellsI _ _ ?_) rfl
    have h5 : (Lib.compact ts).length ≤ ts.length := hle
    simp only [List.length_append, List.length_replicate, putCells, Array.size_mapIdx]
    omega
set_option maxRecDepth 100000 in
set_option maxHeartbeats 6400000 in
theorem lChanges_ok (A1 A2 A3 : Option Addr) (c1 c2 c3 a : Nat) (L : Li) (w : World) (hF : FineL L) (h0 : fineE L (a : Nat) 0 = 0) (hr : RowL w A1 A2 A3 L) :
    Calls Tryz.prog 11 #[.agg #[.slice A1 L.nG c1, .slice A2 L.cs.length c2, .slice A3 L.os.length c3], .int .i64 (a : Nat)] w (RetI2 (chg (L.G a) L.cs L.os) 0 w) := by
  have K := fun w h => Lib.hid (pick_any A1 A2 A3 c1 c2 c3 L (a : Nat) 0 w hF h)
  simp only [h0, if_true] at K
  obtain ⟨hv, ⟨_, ha⟩, _⟩ := fine_zero.1 h0
  have ha : a < L.nG := by omega
  obtain ⟨q1, q2, q3, q4, q5⟩ := liB_iff.1 hv
  have hcn := (cusB_iff.1 q2).2.2
  have HR := Lib.hid hr
  have HG := Lib.hid hr.g
  have HQ := Lib.hid (show ∀ k, k < L.cs.length → (0 ≤ (cu L.cs k).t ∧ (cu L.cs k).t ≤ 3600000) ∧ (0 ≤ (cu L.cs k).f ∧ (cu L.cs k).f ≤ 3600000) from fun k hk => by
    have h1 := (cusB_iff.1 q2).1 k hk
    simp only [cuOk, isT, Bool.and_eq_true, within_iff] at h1
    exact h1.1)
  have C := fun (x : ByteArray) w h => Lib.hid (belongs_any A1 A2 A3 c1 c2 c3 a L x w ha hF.n (hF.gs a ha).1 h)
  have n2 := hF.on
  clear hr hF h0 hv q1 q2 q4 q5
  go_enter Tryz.func11, Tryz.ntmps11
  go_wp2_with fail
  refine (RetB.grown (K _ (by repeat (first | (with_reducible exact HR.out) | (with_reducible refine RowL.alloc ?_ _) | (with_reducible refine RowL.drew ?_) | (with_reducible refine RowL.xt ?_ _)))).out).mono ?_
  rintro e' w' ⟨rfl, g1, rfl⟩
  clear K
  go_wp2_with fail
  obtain ⟨i0, hi0, hz0, hz1, hz2⟩ := info_parts infoInt
  go_loopw [8, 28] (fun u8 i wr => ∃ k : Nat, k ≤ L.cs.length ∧ i = .int .i64 k ∧ OwRel ((xt (w.alloc (.cells #[.slice A1 L.nG c1, .slice A2 L.cs.length c2, .slice A3 L.os.length c3] 26)) g1).alloc (.cells #[.slice A1 L.nG c1, .slice A2 L.cs.length c2, .slice A3 L.os.length c3, .int .i64 (a : Nat)] 60)) (rawC (L.G a) L.cs k) u8 wr) (fun _ i _ => L.cs.length - (intOf i).toNat)
  case atStart => exact ⟨0, by omega, rfl, OwRel.mk (l := [0]) rfl rfl (by repeat' (first | exact Below.refl _ _ | assumption | refine Below.xt ?_ ?_ _ | refine Below.alloc ?_ ?_ _ | refine Below.drew ?_ | refine Below.setCell ?_ ?_ _ | (simp; done) | (simp; omega))) (own_made (by simp) (by simp))⟩
  case round =>
    obtain ⟨k, hk, rfl, g, rfl, HO⟩ := hrel
    have hlen := (rawC_len (L.G a) L.cs k).2
    by_cases hlt : k < L.cs.length
    · obtain ⟨b, o, rfl, hb, hc⟩ := Row.at_ HR.out.u (by omega)
      obtain ⟨x0, x1, x2, x3, x4, x5⟩ := RowU.cells hc hlt
      clear hc
      obtain ⟨⟨t0, t1⟩, t2, t3⟩ := HQ.out k hlt
      have C1 := C (cu L.cs k).g
      have HS := Lib.hid (show rawC (L.G a) L.cs (k + 1) = rawC (L.G a) L.cs k ++ cueAdd (L.G a) (cu L.cs k) from rfl)
      have HA := Lib.hid (show cueAdd (L.G a) (cu L.cs k) = if memB (L.G a) (cu L.cs k).g = true then (if (cu L.cs k).t + (cu L.cs k).f ≤ 3600000 then [(cu L.cs k).t, (cu L.cs k).t + (cu L.cs k).f] else [(cu L.cs k).t]) else [] from rfl)
      obtain ⟨m, hm⟩ : ∃ m, memB (L.G a) (cu L.cs k).g = m := ⟨_, rfl⟩
      rw [hm] at C1 HA
      clear hm
      generalize cu L.cs k = v at *
      generalize hl : rawC (L.G a) L.cs k = l at *
      clear hl
      cases m
      · have E := Lib.hid (show rawC (L.G a) L.cs (k + 1) = l by rw [HS.out, HA.out]; simp)
        clear HS HA C
        go_wp2_with fail
        refine (RetB.grown (C1 _ (by repeat (first | (with_reducible exact HG.out) | (with_reducible refine RowG.alloc ?_ _) | (with_reducible refine RowG.drew ?_) | (with_reducible refine RowG.xt ?_ _)))).out).mono ?_
        rintro e' w' ⟨rfl, g2, rfl⟩
        go_wp2_with fail
        go_roundw
        case rel => exact ⟨k + 1, by omega, by go_num, OwRel.mk E.out rfl (by repeat' (first | exact Below.refl _ _ | assumption | refine Below.xt ?_ ?_ _ | refine Below.alloc ?_ ?_ _ | refine Below.drew ?_ | refine Below.setCell ?_ ?_ _ | (simp; done) | (simp; omega))) (by repeat (first | (with_reducible exact HO.out) | (with_reducible refine World.ownsRow.alloc ?_ _) | (with_reducible refine own_drew ?_) | (with_reducible refine own_xt ?_ _)))⟩
        case measure => simp [intOf]; omega
      · by_cases h36 : v.t + v.f ≤ 3600000
        · have E := Lib.hid (show rawC (L.G a) L.cs (k + 1) = l ++ [v.t] ++ [v.t + v.f] by rw [HS.out, HA.out, if_pos rfl, if_pos h36]; simp)
          clear HS HA C
          go_wp2_with fail
          refine (RetB.grown (C1 _ (by repeat (first | (with_reducible exact HG.out) | (with_reducible refine RowG.alloc ?_ _) | (with_reducible refine RowG.drew ?_) | (with_reducible refine RowG.xt ?_ _)))).out).mono ?_
          rintro e' w' ⟨rfl, g2, rfl⟩
          go_wp2_with (at_builtin; go_must (refine wpList_append_own _ rfl _ _ 52 rfl ((xt (w.alloc (.cells #[.slice A1 L.nG c1, .slice (some ⟨b, o, none⟩) L.cs.length c2, .slice A3 L.os.length c3] 26)) g1).alloc (.cells #[.slice A1 L.nG c1, .slice (some ⟨b, o, none⟩) L.cs.length c2, .slice A3 L.os.length c3, .int .i64 (a : Nat)] 60)).heap.size 3 i0 _ 1 8 Tryz.underlying52 hi0 hz0 hz1 hz2 rfl (by omega) u8 (l).length ((l).map (Value.int .i64)) rfl (by repeat (first | (with_reducible exact HO.out) | (with_reducible refine World.ownsRow.alloc ?_ _) | (with_reducible refine own_drew ?_) | (with_reducible refine own_xt ?_ _))) _ 1 _ [.int .i64 v.t] rfl rfl ?_ ?_ ?_ ?_ ?_ ?_))
          · exact cells_new _ _ _ _ (by simp)
          · intro u hu; simp only [List.mem_cons, List.not_mem_nil, or_false] at hu; (first | (rcases hu with rfl; rfl) | (rcases hu with rfl | rfl <;> rfl))
          · simp only [maxLen]; omega
          · omega
          · simp; omega
          intro v3 w3 hown hgr _
          have hb9 : Below ((xt (w.alloc (.cells #[.slice A1 L.nG c1, .slice (some ⟨b, o, none⟩) L.cs.length c2, .slice A3 L.os.length c3] 26)) g1).alloc (.cells #[.slice A1 L.nG c1, .slice (some ⟨b, o, none⟩) L.cs.length c2, .slice A3 L.os.length c3, .int .i64 (a : Nat)] 60)).heap.size ((xt (w.alloc (.cells #[.slice A1 L.nG c1, .slice (some ⟨b, o, none⟩) L.cs.length c2, .slice A3 L.os.length c3] 26)) g1).alloc (.cells #[.slice A1 L.nG c1, .slice (some ⟨b, o, none⟩) L.cs.length c2, .slice A3 L.os.length c3, .int .i64 (a : Nat)] 60)) w3 := below_grown (n := (l).length) (v := u8) (xs := (l).map (Value.int .i64)) (e := 3) (s := 1) (by repeat' (first | exact Below.refl _ _ | assumption | refine Below.xt ?_ ?_ _ | refine Below.alloc ?_ ?_ _ | refine Below.drew ?_ | refine Below.setCell ?_ ?_ _ | (simp; done) | (simp; omega))) (by simp; omega) (by repeat (first | (with_reducible exact HO.out) | (with_reducible refine World.ownsRow.alloc ?_ _) | (with_reducible refine own_drew ?_) | (with_reducible refine own_xt ?_ _))) hgr
          have y0 := box_kept (m := w.heap.size + 1 + g1.blocks.length + 1 + g.blocks.length) (i := 0) HO.out (by simp) hgr (u := .int .i64 v.t) (by go_simp)
          have y1 := box_kept (m := w.heap.size + 1 + g1.blocks.length + 1 + g.blocks.length) (i := 1) HO.out (by simp) hgr (u := .int .i64 v.f) (by go_simp)
          have ym := old_of_cell y0
          obtain ⟨g3, rfl⟩ := xt_of_below hb9
          have HO3 := Lib.hid (show (xt ((xt (w.alloc (.cells #[.slice A1 L.nG c1, .slice (some ⟨b, o, none⟩) L.cs.length c2, .slice A3 L.os.length c3] 26)) g1).alloc (.cells #[.slice A1 L.nG c1, .slice (some ⟨b, o, none⟩) L.cs.length c2, .slice A3 L.os.length c3, .int .i64 (a : Nat)] 60)) g3).ownsRow ((xt (w.alloc (.cells #[.slice A1 L.nG c1, .slice (some ⟨b, o, none⟩) L.cs.length c2, .slice A3 L.os.length c3] 26)) g1).alloc (.cells #[.slice A1 L.nG c1, .slice (some ⟨b, o, none⟩) L.cs.length c2, .slice A3 L.os.length c3, .int .i64 (a : Nat)] 60)).heap.size 3 1 v3 (l ++ [v.t]).length ((l ++ [v.t]).map (Value.int .i64)) by simpa using hown)
          clear hown hgr hb9 HO
          have HO := HO3
          clear HO3
          have hl3 : (l ++ [v.t]).length ≤ 2 * k + 2 := by simp; omega
          generalize l ++ [v.t] = l3 at *
          go_wp2_with (at_builtin; go_must (refine wpList_append_own _ rfl _ _ 52 rfl ((xt (w.alloc (.cells #[.slice A1 L.nG c1, .slice (some ⟨b, o, none⟩) L.cs.length c2, .slice A3 L.os.length c3] 26)) g1).alloc (.cells #[.slice A1 L.nG c1, .slice (some ⟨b, o, none⟩) L.cs.length c2, .slice A3 L.os.length c3, .int .i64 (a : Nat)] 60)).heap.size 3 i0 _ 1 8 Tryz.underlying52 hi0 hz0 hz1 hz2 rfl (by omega) v3 (l3).length ((l3).map (Value.int .i64)) rfl (by repeat (first | (with_reducible exact HO.out) | (with_reducible refine World.ownsRow.alloc ?_ _) | (with_reducible refine own_drew ?_) | (with_reducible refine own_xt ?_ _))) _ 1 _ [.int .i64 (v.t + v.f)] rfl rfl ?_ ?_ ?_ ?_ ?_ ?_))
          · exact cells_new _ _ _ _ (by simp)
          · intro u hu; simp only [List.mem_cons, List.not_mem_nil, or_false] at hu; (first | (rcases hu with rfl; rfl) | (rcases hu with rfl | rfl <;> rfl))
          · simp only [maxLen]; omega
          · omega
          · simp; omega
          intro v4 w4 hown hgr _
          have hb9 : Below ((xt (w.alloc (.cells #[.slice A1 L.nG c1, .slice (some ⟨b, o, none⟩) L.cs.length c2, .slice A3 L.os.length c3] 26)) g1).alloc (.cells #[.slice A1 L.nG c1, .slice (some ⟨b, o, none⟩) L.cs.length c2, .slice A3 L.os.length c3, .int .i64 (a : Nat)] 60)).heap.size ((xt (w.alloc (.cells #[.slice A1 L.nG c1, .slice (some ⟨b, o, none⟩) L.cs.length c2, .slice A3 L.os.length c3] 26)) g1).alloc (.cells #[.slice A1 L.nG c1, .slice (some ⟨b, o, none⟩) L.cs.length c2, .slice A3 L.os.length c3, .int .i64 (a : Nat)] 60)) w4 := below_grown (n := (l3).length) (v := v3) (xs := (l3).map (Value.int .i64)) (e := 3) (s := 1) (by repeat' (first | exact Below.refl _ _ | assumption | refine Below.xt ?_ ?_ _ | refine Below.alloc ?_ ?_ _ | refine Below.drew ?_ | refine Below.setCell ?_ ?_ _ | (simp; done) | (simp; omega))) (by simp; omega) (by repeat (first | (with_reducible exact HO.out) | (with_reducible refine World.ownsRow.alloc ?_ _) | (with_reducible refine own_drew ?_) | (with_reducible refine own_xt ?_ _))) hgr
          obtain ⟨g4, rfl⟩ := xt_of_below hb9
          have HO4 := Lib.hid (show (xt ((xt (w.alloc (.cells #[.slice A1 L.nG c1, .slice (some ⟨b, o, none⟩) L.cs.length c2, .slice A3 L.os.length c3] 26)) g1).alloc (.cells #[.slice A1 L.nG c1, .slice (some ⟨b, o, none⟩) L.cs.length c2, .slice A3 L.os.length c3, .int .i64 (a : Nat)] 60)) g4).ownsRow ((xt (w.alloc (.cells #[.slice A1 L.nG c1, .slice (some ⟨b, o, none⟩) L.cs.length c2, .slice A3 L.os.length c3] 26)) g1).alloc (.cells #[.slice A1 L.nG c1, .slice (some ⟨b, o, none⟩) L.cs.length c2, .slice A3 L.os.length c3, .int .i64 (a : Nat)] 60)).heap.size 3 1 v4 (l3 ++ [v.t + v.f]).length ((l3 ++ [v.t + v.f]).map (Value.int .i64)) by simpa using hown)
          clear hown hgr hb9 HO
          have HO := HO4
          clear HO4
          go_wp2_with fail
          go_roundw
          case rel => exact ⟨k + 1, by omega, by go_num, OwRel.mk E.out rfl (by repeat' (first | exact Below.refl _ _ | assumption | refine Below.xt ?_ ?_ _ | refine Below.alloc ?_ ?_ _ | refine Below.drew ?_ | refine Below.setCell ?_ ?_ _ | (simp; done) | (simp; omega))) (by repeat (first | (with_reducible exact HO.out) | (with_reducible refine World.ownsRow.alloc ?_ _) | (with_reducible refine own_drew ?_) | (with_reducible refine own_xt ?_ _)))⟩
          case measure => simp [intOf]; omega
        · have E := Lib.hid (show rawC (L.G a) L.cs (k + 1) = l ++ [v.t] by rw [HS.out, HA.out, if_pos rfl, if_neg h36])
          clear HS HA C
          go_wp2_with fail
          refine (RetB.grown (C1 _ (by repeat (first | (with_reducible exact HG.out) | (with_reducible refine RowG.alloc ?_ _) | (with_reducible refine RowG.drew ?_) | (with_reducible refine RowG.xt ?_ _)))).out).mono ?_
          rintro e' w' ⟨rfl, g2, rfl⟩
          go_wp2_with (at_builtin; go_must (refine wpList_append_own _ rfl _ _ 52 rfl ((xt (w.alloc (.cells #[.slice A1 L.nG c1, .slice (some ⟨b, o, none⟩) L.cs.length c2, .slice A3 L.os.length c3] 26)) g1).alloc (.cells #[.slice A1 L.nG c1, .slice (some ⟨b, o, none⟩) L.cs.length c2, .slice A3 L.os.length c3, .int .i64 (a : Nat)] 60)).heap.size 3 i0 _ 1 8 Tryz.underlying52 hi0 hz0 hz1 hz2 rfl (by omega) u8 (l).length ((l).map (Value.int .i64)) rfl (by repeat (first | (with_reducible exact HO.out) | (with_reducible refine World.ownsRow.alloc ?_ _) | (with_reducible refine own_drew ?_) | (with_reducible refine own_xt ?_ _))) _ 1 _ [.int .i64 v.t] rfl rfl ?_ ?_ ?_ ?_ ?_ ?_))
          · exact cells_new _ _ _ _ (by simp)
          · intro u hu; simp only [List.mem_cons, List.not_mem_nil, or_false] at hu; (first | (rcases hu with rfl; rfl) | (rcases hu with rfl | rfl <;> rfl))
          · simp only [maxLen]; omega
          · omega
          · simp; omega
          intro v3 w3 hown hgr _
          have hb9 : Below ((xt (w.alloc (.cells #[.slice A1 L.nG c1, .slice (some ⟨b, o, none⟩) L.cs.length c2, .slice A3 L.os.length c3] 26)) g1).alloc (.cells #[.slice A1 L.nG c1, .slice (some ⟨b, o, none⟩) L.cs.length c2, .slice A3 L.os.length c3, .int .i64 (a : Nat)] 60)).heap.size ((xt (w.alloc (.cells #[.slice A1 L.nG c1, .slice (some ⟨b, o, none⟩) L.cs.length c2, .slice A3 L.os.length c3] 26)) g1).alloc (.cells #[.slice A1 L.nG c1, .slice (some ⟨b, o, none⟩) L.cs.length c2, .slice A3 L.os.length c3, .int .i64 (a : Nat)] 60)) w3 := below_grown (n := (l).length) (v := u8) (xs := (l).map (Value.int .i64)) (e := 3) (s := 1) (by repeat' (first | exact Below.refl _ _ | assumption | refine Below.xt ?_ ?_ _ | refine Below.alloc ?_ ?_ _ | refine Below.drew ?_ | refine Below.setCell ?_ ?_ _ | (simp; done) | (simp; omega))) (by simp; omega) (by repeat (first | (with_reducible exact HO.out) | (with_reducible refine World.ownsRow.alloc ?_ _) | (with_reducible refine own_drew ?_) | (with_reducible refine own_xt ?_ _))) hgr
          have y0 := box_kept (m := w.heap.size + 1 + g1.blocks.length + 1 + g.blocks.length) (i := 0) HO.out (by simp) hgr (u := .int .i64 v.t) (by go_simp)
          have y1 := box_kept (m := w.heap.size + 1 + g1.blocks.length + 1 + g.blocks.length) (i := 1) HO.out (by simp) hgr (u := .int .i64 v.f) (by go_simp)
          have ym := old_of_cell y0
          obtain ⟨g3, rfl⟩ := xt_of_below hb9
          have HO3 := Lib.hid (show (xt ((xt (w.alloc (.cells #[.slice A1 L.nG c1, .slice (some ⟨b, o, none⟩) L.cs.length c2, .slice A3 L.os.length c3] 26)) g1).alloc (.cells #[.slice A1 L.nG c1, .slice (some ⟨b, o, none⟩) L.cs.length c2, .slice A3 L.os.length c3, .int .i64 (a : Nat)] 60)) g3).ownsRow ((xt (w.alloc (.cells #[.slice A1 L.nG c1, .slice (some ⟨b, o, none⟩) L.cs.length c2, .slice A3 L.os.length c3] 26)) g1).alloc (.cells #[.slice A1 L.nG c1, .slice (some ⟨b, o, none⟩) L.cs.length c2, .slice A3 L.os.length c3, .int .i64 (a : Nat)] 60)).heap.size 3 1 v3 (l ++ [v.t]).length ((l ++ [v.t]).map (Value.int .i64)) by simpa using hown)
          clear hown hgr hb9 HO
          have HO := HO3
          clear HO3
          go_wp2_with fail
          go_roundw
          case rel => exact ⟨k + 1, by omega, by go_num, OwRel.mk E.out rfl (by repeat' (first | exact Below.refl _ _ | assumption | refine Below.xt ?_ ?_ _ | refine Below.alloc ?_ ?_ _ | refine Below.drew ?_ | refine Below.setCell ?_ ?_ _ | (simp; done) | (simp; omega))) (by repeat (first | (with_reducible exact HO.out) | (with_reducible refine World.ownsRow.alloc ?_ _) | (with_reducible refine own_drew ?_) | (with_reducible refine own_xt ?_ _)))⟩
          case measure => simp [intOf]; omega
    · obtain rfl : k = L.cs.length := by omega
      clear HQ hk
      go_wp2_with fail
      go_loopw [8, 57] (fun u8 i wr => ∃ k : Nat, k ≤ L.os.length ∧ i = .int .i64 k ∧ OwRel ((xt (w.alloc (.cells #[.slice A1 L.nG c1, .slice A2 L.cs.length c2, .slice A3 L.os.length c3] 26)) g1).alloc (.cells #[.slice A1 L.nG c1, .slice A2 L.cs.length c2, .slice A3 L.os.length c3, .int .i64 (a : Nat)] 60)) (rawO (L.G a) L.cs L.os k) u8 wr) (fun _ i _ => L.os.length - (intOf i).toNat)
      case atStart => exact ⟨0, by omega, rfl, OwRel.mk (l := rawO (L.G a) L.cs L.os 0) rfl rfl (by repeat' (first | exact Below.refl _ _ | assumption | refine Below.xt ?_ ?_ _ | refine Below.alloc ?_ ?_ _ | refine Below.drew ?_ | refine Below.setCell ?_ ?_ _ | (simp; done) | (simp; omega))) HO.out⟩
      case round =>
        clear HO hlen hlt
        obtain ⟨k, hk, rfl, g, rfl, HO⟩ := hrel
        have hlen := (rawO_len (L.G a) L.cs L.os k).2
        have hpos := (rawO_len (L.G a) L.cs L.os k).1
        by_cases hlt : k < L.os.length
        · obtain ⟨b, o, rfl, hb, hc⟩ := RowO.row HR.out.o (by omega)
          have x0 := hc k hlt
          clear hc
          have C1 := C (ov L.os k).g
          have HS := Lib.hid (show rawO (L.G a) L.cs L.os (k + 1) = rawO (L.G a) L.cs L.os k ++ ovAdd (L.G a) (ov L.os k) from rfl)
          have HA := Lib.hid (show ovAdd (L.G a) (ov L.os k) = if memB (L.G a) (ov L.os k).g = true then [(ov L.os k).e.fr, (ov L.os k).e.to] else [] from rfl)
          obtain ⟨m, hm⟩ : ∃ m, memB (L.G a) (ov L.os k).g = m := ⟨_, rfl⟩
          rw [hm] at C1 HA
          clear hm
          generalize ov L.os k = v at *
          generalize hl : rawO (L.G a) L.cs L.os k = l at *
          clear hl
          cases m
          · have E := Lib.hid (show rawO (L.G a) L.cs L.os (k + 1) = l by rw [HS.out, HA.out]; simp)
            clear HS HA C
            go_wp2_with fail
            refine (RetB.grown (C1 _ (by repeat (first | (with_reducible exact HG.out) | (with_reducible refine RowG.alloc ?_ _) | (with_reducible refine RowG.drew ?_) | (with_reducible refine RowG.xt ?_ _)))).out).mono ?_
            rintro e' w' ⟨rfl, g2, rfl⟩
            go_wp2_with fail
            go_roundw
            case rel => exact ⟨k + 1, by omega, by go_num, OwRel.mk E.out rfl (by repeat' (first | exact Below.refl _ _ | assumption | refine Below.xt ?_ ?_ _ | refine Below.alloc ?_ ?_ _ | refine Below.drew ?_ | refine Below.setCell ?_ ?_ _ | (simp; done) | (simp; omega))) (by repeat (first | (with_reducible exact HO.out) | (with_reducible refine World.ownsRow.alloc ?_ _) | (with_reducible refine own_drew ?_) | (with_reducible refine own_xt ?_ _)))⟩
            case measure => simp [intOf]; omega
          · have E := Lib.hid (show rawO (L.G a) L.cs L.os (k + 1) = l ++ [v.e.fr, v.e.to] by rw [HS.out, HA.out, if_pos rfl])
            clear HS HA C
            go_wp2_with fail
            refine (RetB.grown (C1 _ (by repeat (first | (with_reducible exact HG.out) | (with_reducible refine RowG.alloc ?_ _) | (with_reducible refine RowG.drew ?_) | (with_reducible refine RowG.xt ?_ _)))).out).mono ?_
            rintro e' w' ⟨rfl, g2, rfl⟩
            go_wp2_with (at_builtin; go_must (refine wpList_append_own _ rfl _ _ 52 rfl ((xt (w.alloc (.cells #[.slice A1 L.nG c1, .slice A2 L.cs.length c2, .slice (some ⟨b, o, none⟩) L.os.length c3] 26)) g1).alloc (.cells #[.slice A1 L.nG c1, .slice A2 L.cs.length c2, .slice (some ⟨b, o, none⟩) L.os.length c3, .int .i64 (a : Nat)] 60)).heap.size 3 i0 _ 1 8 Tryz.underlying52 hi0 hz0 hz1 hz2 rfl (by omega) u8 (l).length ((l).map (Value.int .i64)) rfl (by repeat (first | (with_reducible exact HO.out) | (with_reducible refine World.ownsRow.alloc ?_ _) | (with_reducible refine own_drew ?_) | (with_reducible refine own_xt ?_ _))) _ 2 _ [.int .i64 v.e.fr, .int .i64 v.e.to] rfl rfl ?_ ?_ ?_ ?_ ?_ ?_))
            · exact cells_new _ _ _ _ (by simp)
            · intro u hu; simp only [List.mem_cons, List.not_mem_nil, or_false] at hu; (first | (rcases hu with rfl; rfl) | (rcases hu with rfl | rfl <;> rfl))
            · simp only [maxLen]; omega
            · omega
            · simp; omega
            intro v3 w3 hown hgr _
            have hb9 : Below ((xt (w.alloc (.cells #[.slice A1 L.nG c1, .slice A2 L.cs.length c2, .slice (some ⟨b, o, none⟩) L.os.length c3] 26)) g1).alloc (.cells #[.slice A1 L.nG c1, .slice A2 L.cs.length c2, .slice (some ⟨b, o, none⟩) L.os.length c3, .int .i64 (a : Nat)] 60)).heap.size ((xt (w.alloc (.cells #[.slice A1 L.nG c1, .slice A2 L.cs.length c2, .slice (some ⟨b, o, none⟩) L.os.length c3] 26)) g1).alloc (.cells #[.slice A1 L.nG c1, .slice A2 L.cs.length c2, .slice (some ⟨b, o, none⟩) L.os.length c3, .int .i64 (a : Nat)] 60)) w3 := below_grown (n := (l).length) (v := u8) (xs := (l).map (Value.int .i64)) (e := 3) (s := 1) (by repeat' (first | exact Below.refl _ _ | assumption | refine Below.xt ?_ ?_ _ | refine Below.alloc ?_ ?_ _ | refine Below.drew ?_ | refine Below.setCell ?_ ?_ _ | (simp; done) | (simp; omega))) (by simp; omega) (by repeat (first | (with_reducible exact HO.out) | (with_reducible refine World.ownsRow.alloc ?_ _) | (with_reducible refine own_drew ?_) | (with_reducible refine own_xt ?_ _))) hgr
            obtain ⟨g3, rfl⟩ := xt_of_below hb9
            have HO3 := Lib.hid (show (xt ((xt (w.alloc (.cells #[.slice A1 L.nG c1, .slice A2 L.cs.length c2, .slice (some ⟨b, o, none⟩) L.os.length c3] 26)) g1).alloc (.cells #[.slice A1 L.nG c1, .slice A2 L.cs.length c2, .slice (some ⟨b, o, none⟩) L.os.length c3, .int .i64 (a : Nat)] 60)) g3).ownsRow ((xt (w.alloc (.cells #[.slice A1 L.nG c1, .slice A2 L.cs.length c2, .slice (some ⟨b, o, none⟩) L.os.length c3] 26)) g1).alloc (.cells #[.slice A1 L.nG c1, .slice A2 L.cs.length c2, .slice (some ⟨b, o, none⟩) L.os.length c3, .int .i64 (a : Nat)] 60)).heap.size 3 1 v3 (l ++ [v.e.fr, v.e.to]).length ((l ++ [v.e.fr, v.e.to]).map (Value.int .i64)) by simpa using hown)
            clear hown hgr hb9 HO
            have HO := HO3
            clear HO3
            go_wp2_with fail
            go_roundw
            case rel => exact ⟨k + 1, by omega, by go_num, OwRel.mk E.out rfl (by repeat' (first | exact Below.refl _ _ | assumption | refine Below.xt ?_ ?_ _ | refine Below.alloc ?_ ?_ _ | refine Below.drew ?_ | refine Below.setCell ?_ ?_ _ | (simp; done) | (simp; omega))) (by repeat (first | (with_reducible exact HO.out) | (with_reducible refine World.ownsRow.alloc ?_ _) | (with_reducible refine own_drew ?_) | (with_reducible refine own_xt ?_ _)))⟩
            case measure => simp [intOf]; omega
        · have hkO : k = L.os.length := by omega
          have E := Lib.hid (show sortC (rawO (L.G a) L.cs L.os k) = chg (L.G a) L.cs L.os by rw [hkO]; exact chg_eq _ _ _)
          clear hkO C
          generalize rawO (L.G a) L.cs L.os k = l at *
          obtain ⟨gb, cap, cur, rfl, hbb, hgb, hcap, hcm, hsz, ht⟩ : ∃ gb cap cur, u8 = .slice (some ⟨gb, 0, none⟩) l.length cap ∧ (w.heap.size + 1 + g1.blocks.length + 1) ≤ gb ∧ (xt ((xt (w.alloc (.cells #[.slice A1 L.nG c1, .slice A2 L.cs.length c2, .slice A3 L.os.length c3] 26)) g1).alloc (.cells #[.slice A1 L.nG c1, .slice A2 L.cs.length c2, .slice A3 L.os.length c3, .int .i64 (a : Nat)] 60)) g).heap[gb]? = some (.cells cur 3 (0, 0)) ∧ l.length ≤ cap ∧ cap ≤ maxLen ∧ cur.size = cap ∧ cur.toList.take l.length = l.map (Value.int .i64) := by
            rcases HO.out.2 with ⟨_, h⟩ | ⟨gb, cap, cur, h1, hbb, hgb, hcap, hcm, hsz, ht⟩
            · have : l = [] := by simpa using h
              subst this; simp at hpos
            · exact ⟨gb, cap, cur, h1, by simpa using hbb, hgb, hcap, hcm, by simpa using hsz, by simpa using ht⟩
          have hSC := sort_compact gb cap cur l (xt ((xt (w.alloc (.cells #[.slice A1 L.nG c1, .slice A2 L.cs.length c2, .slice A3 L.os.length c3] 26)) g1).alloc (.cells #[.slice A1 L.nG c1, .slice A2 L.cs.length c2, .slice A3 L.os.length c3, .int .i64 (a : Nat)] 60)) g) (by omega) hcap hsz hgb ht
          rw [E.out] at hSC
          have HSC := Lib.hid hSC
          clear hSC hgb ht hsz E HO
          have hbW : Below w.heap.size w (xt ((xt (w.alloc (.cells #[.slice A1 L.nG c1, .slice A2 L.cs.length c2, .slice A3 L.os.length c3] 26)) g1).alloc (.cells #[.slice A1 L.nG c1, .slice A2 L.cs.length c2, .slice A3 L.os.length c3, .int .i64 (a : Nat)] 60)) g) := (by repeat' (first | exact Below.refl _ _ | assumption | refine Below.xt ?_ ?_ _ | refine Below.alloc ?_ ?_ _ | refine Below.drew ?_ | refine Below.setCell ?_ ?_ _ | (simp; done) | (simp; omega)))
          have HBW := Lib.hid hbW
          clear hbW
          go_wp2_with fail
          refine HSC.out.mono ?_
          rintro e' w3 ⟨rfl, hg3, hC⟩
          have HB3 := Lib.hid (HBW.out.grown hg3 HBW.out.size (by intro k hk; injection hk with hk; omega))
          have HCC := Lib.hid hC
          clear hC hg3 HSC HBW
          go_wp2_with fail
          refine HCC.out.mono ?_
          rintro e' w4 ⟨rfl, hg4, hr4⟩
          have HB4 := Lib.hid (HB3.out.grown hg4 HB3.out.size (by intro k hk; injection hk with hk; omega))
          have HR4 := Lib.hid hr4
          clear hr4 hg4 HCC
          go_wp2_with fail
          go_ret2
          exact ⟨_, _, rfl, HB4.out, HR4.out⟩

set_option maxRecDepth 100000 in
set_option maxHeartbeats 1600000 in
theorem lChanges_any (A1 A2 A3 : Option Addr) (c1 c2 c3 : Nat) (L : Li) (a : Int) (w : World) (hF : FineL L) (hr : RowL w A1 A2 A3 L) :
    Calls Tryz.prog 11 #[.agg #[.slice A1 L.nG c1, .slice A2 L.cs.length c2, .slice A3 L.os.length c3], .int .i64 a] w (RetI2 (if fineE L a 0 = 0 then chg (L.G a.toNat) L.cs L.os else []) (fineE L a 0) w) := by
  by_cases h0 : fineE L a 0 = 0
  · obtain ⟨q1, ⟨q2, q3⟩, q4, q5⟩ := fine_zero.1 h0
    obtain ⟨n, rfl⟩ := Int.eq_ofNat_of_zero_le q2
    rw [if_pos h0, h0]
    exact lChanges_ok A1 A2 A3 c1 c2 c3 n L w hF h0 hr
  · have K := fun w h => Lib.hid (pick_any A1 A2 A3 c1 c2 c3 L a 0 w hF h)
    have HR := Lib.hid hr
    rw [if_neg h0]
    simp only [h0, if_false] at K
    have z : (fineE L a 0 != 0) = true := by simpa using h0
    generalize fineE L a 0 = d at *
    clear hF hr h0
    go_enter Tryz.func11, Tryz.ntmps11
    go_wp2_with fail
    refine (RetB.grown (K _ (by repeat (first | (with_reducible exact HR.out) | (with_reducible refine RowL.alloc ?_ _) | (with_reducible refine RowL.drew ?_) | (with_reducible refine RowL.xt ?_ _)))).out).mono ?_
    rintro e' w' ⟨rfl, g1, rfl⟩
    go_wp2_with fail
    go_ret2
    exact ⟨none, 0, rfl, (by repeat' (first | exact Below.refl _ _ | assumption | refine Below.xt ?_ ?_ _ | refine Below.alloc ?_ ?_ _ | refine Below.drew ?_ | refine Below.setCell ?_ ?_ _ | (simp; done) | (simp; omega))), Row.none_⟩

end Go.Proofs.YtiikejhkhdmgeaaGreat

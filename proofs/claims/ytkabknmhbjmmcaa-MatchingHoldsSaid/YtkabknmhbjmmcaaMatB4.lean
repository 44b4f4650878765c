/- Walks: whether a list is a matching, by the program. Conditions stand in each theorem. -/
import Derived.Test.YtkabknmhbjmmcaaMatB3
namespace Go.Proofs.Ytkabknmhbjmmcaa
open Go.RowKit
set_option linter.unusedVariables false
set_option linter.unusedSimpArgs false

/-- The answers f 0 .. f (n - 1). -/
def arrB (n : Nat) (f : Nat → Bool) : Array Value := ((List.range n).map fun k => Value.bool (f k)).toArray
theorem arrB_get {n k : Nat} {f : Nat → Bool} (hk : k < n) : (arrB n f)[k]? = some (.bool (f k)) := by simp [arrB, hk]
theorem arrB_size {n : Nat} {f : Nat → Bool} : (arrB n f).size = n := by simp [arrB]
theorem arrB_set {n k : Nat} {f g : Nat → Bool} (h : ∀ j, j < n → g j = if j = k then true else f j) : (arrB n f).setIfInBounds k (.bool true) = arrB n g := by
  apply Array.ext_getElem?
  intro j
  by_cases hj : j < n
  · rw [arrB_get hj, Array.getElem?_setIfInBounds, h j hj]
    by_cases e : k = j
    · subst e; rw [if_pos rfl, if_pos (by rw [arrB_size]; exact hj), if_pos rfl]
    · rw [if_neg e, arrB_get hj, if_neg (Ne.symm e)]
  · rw [Array.getElem?_eq_none (by simp [arrB]; omega), Array.getElem?_eq_none (by simp [arrB]; omega)]
theorem arrB_congr {n : Nat} {f g : Nat → Bool} (h : ∀ k, k < n → f k = g k) : arrB n f = arrB n g := by
  unfold arrB
  congr 1
  apply List.map_congr_left
  intro k hk
  rw [h k (List.mem_range.1 hk)]
theorem infoBool : (Try.prog.info? 4).map (fun i => (i.zero, i.size, i.bytes)) = some (some (.bool false), 1, 1) := by kernel_rfl
theorem arrB_made (n : Nat) : madeCells #[.bool false] n = arrB n (fun _ => false) := by
  apply Array.ext_getElem?
  intro m
  by_cases hm : m < n
  · rw [arrB_get hm]
    simp [madeCells, hm, Nat.mod_one]
  · rw [Array.getElem?_eq_none (by rw [size_madeCells]; omega), Array.getElem?_eq_none (by rw [arrB_size]; omega)]
theorem mk_bools (n : Nat) (hn : n ≤ 4294967296) (W : World) : (Instr.makeSlice 49 (.int .i64 (n : Int)) (.int .i64 (n : Int))).run Try.prog W = .ok (.slice (some ⟨W.heap.size, 0, none⟩) n n) (W.alloc (.cells (arrB n (fun _ => false)) 4)) := by
  obtain ⟨i, hi, hz, hs, hb⟩ := info_parts infoBool
  have h := run_make (P := Try.prog) W 49 4 i _ Try.underlying49 hi hz .i64 .i64 n n (by omega) (by omega) (by rw [hb]; omega) (by omega)
  rw [hs] at h
  simp only [Int.toNat_natCast, Nat.mul_one] at h
  rw [← arrB_made n]
  exact h

def vmB (G : Nat → List Int) (nL : Nat) (R : Int) (m : List Int) : Bool := vld G nL R && matB G nL m
theorem hs_take {m : List Int} {k : Nat} {n : Nat} (hk : k < m.length) (h : m.getD k 0 = -1) : hs (m.take k) (n : Int) = hs (m.take (k + 1)) (n : Int) := by
  unfold hs
  rw [Bool.eq_iff_iff, List.contains_iff_mem, List.contains_iff_mem]
  constructor
  · intro h1
    obtain ⟨j, h2, h3, h4⟩ := take_mem h1
    rw [← h4]; exact mem_take (by omega) h3
  · intro h1
    obtain ⟨j, h2, h3, h4⟩ := take_mem h1
    by_cases e : j = k
    · subst e; omega
    · rw [← h4]; exact mem_take (by omega) h3
theorem hs_next {m : List Int} {k : Nat} {n x : Nat} (hk : k < m.length) (h : m.getD k 0 = (x : Int)) : hs (m.take (k + 1)) (n : Int) = if n = x then true else hs (m.take k) (n : Int) := by
  unfold hs
  rw [Bool.eq_iff_iff]
  by_cases e : n = x
  · subst e
    rw [if_pos rfl, List.contains_iff_mem]
    exact ⟨fun _ => rfl, fun _ => by rw [← h]; exact mem_take (by omega) hk⟩
  · rw [if_neg e, List.contains_iff_mem, List.contains_iff_mem]
    constructor
    · intro h1
      obtain ⟨j, h2, h3, h4⟩ := take_mem h1
      by_cases e : j = k
      · subst e; omega
      · rw [← h4]; exact mem_take (by omega) h3
    · intro h1
      obtain ⟨j, h2, h3, h4⟩ := take_mem h1
      rw [← h4]; exact mem_take (by omega) h3
theorem matAt_free {G : Nat → List Int} {m : List Int} {k : Nat} (h : m.getD k 0 = -1) : matAt G m k = true := by simp only [matAt, h, decide_true, Bool.true_or]
theorem matAt_eq {G : Nat → List Int} {m : List Int} {k : Nat} (h : m.getD k 0 ≠ -1) : matAt G m k = (hs (G k) (m.getD k 0) && !hs (m.take k) (m.getD k 0)) := by
  simp only [matAt, h, decide_false, Bool.false_or]; rfl

set_option maxRecDepth 100000 in
set_option maxHeartbeats 3200000 in
theorem ValidMatch_any (A M : Option Addr) (nL cap k0 c0 : Nat) (R : Int) (G : Nat → List Int) (m : List Int) (w : World) (hm : nL ≤ 1000) (hl : ∀ i, i < nL → (G i).length ≤ 1000) (hG : GRow w A nL G) (h0 : k0 = m.length) (hml : m.length ≤ 1000) (hM : RowI w M m) :
    Calls Try.prog 13 #[.agg #[.slice A nL cap, .int .i64 R], .slice M k0 c0] w (RetB (.bool (vmB G nL R m)) w) := by
  subst h0
  have C := fun w h => Valid_any A nL cap R G w hm hl h
  have HG := Lib.hid hG
  have HM := Lib.hid hM
  have HL := Lib.hid hl
  clear hG hM hl
  cases hv : vld G nL R with
  | false =>
    rw [hv] at C
    have HC := fun w h => Lib.hid (C w h)
    have HE := Lib.hid (show vmB G nL R m = false by unfold vmB; rw [hv]; rfl)
    clear C hv
    go_enter Try.func13, Try.ntmps13
    go_wp2_with (go_at_call 12; refine (RetB.grown (HC _ (GRow.alloc HG.out _)).out).mono ?_; rintro e' w' ⟨rfl, g, rfl⟩)
    go_ret
    exact RetB.of (by rw [HE.out]; rfl) (by repeat' (first | exact Below.refl _ _ | assumption | refine Below.xt ?_ ?_ _ | refine Below.alloc ?_ ?_ _ | refine Below.drew ?_ | refine Below.setCell ?_ ?_ _ | (simp; done) | (simp; omega)))
  | true =>
    rw [hv] at C
    have HC := fun w h => Lib.hid (C w h)
    have V := (vld_iff G).1 hv
    have v1 := V.h0
    have v2 := V.hR
    obtain ⟨r, rfl⟩ : ∃ r : Nat, R = (r : Int) := ⟨R.toNat, by omega⟩
    have HI := Lib.hid V.inc
    have hv1 : nL ≤ 200 := V.hL
    by_cases hl : m.length = nL
    · have HE := Lib.hid (show vmB G nL r m = matB G nL m by unfold vmB; rw [hv]; rfl)
      have HX := Lib.hid (vld_mem G hv)
      have hmk := fun W => mk_bools r (by omega) W
      clear C hv V
      subst hl
      go_enter Try.func13, Try.ntmps13
      go_wp2_with (go_at_call 12; refine (RetB.grown (HC _ (GRow.alloc HG.out _)).out).mono ?_; rintro e' w' ⟨rfl, g, rfl⟩)
      obtain ⟨W1, hW1, HB1, hf1, hf2, hs1⟩ : ∃ W1, xt (w.alloc (.cells #[.slice A m.length cap, .int .i64 (r : Int)] 24)) g = W1 ∧ Hid (Below w.heap.size w W1) ∧ W1.cell? ⟨w.heap.size, 0, none⟩ = some (.slice A m.length cap) ∧ old w.heap.size W1 ∧ w.heap.size + 1 + g.blocks.length = W1.heap.size := ⟨_, rfl, Lib.hid (by repeat' (first | exact Below.refl _ _ | assumption | refine Below.xt ?_ ?_ _ | refine Below.alloc ?_ ?_ _ | refine Below.drew ?_ | refine Below.setCell ?_ ?_ _ | (simp; done) | (simp; omega))), by go_simp, by unfold old; simp; omega, by simp⟩
      rw [hW1, hs1]
      clear hW1 HC hs1
      have HU := Lib.hid (show Blk (W1.alloc (.cells (arrB r (fun _ => false)) 4)) W1.heap.size (arrB r (fun n => hs (m.take 0) (n : Int))) 4 from Blk.new _ _ _ rfl)
      have HB2 := Lib.hid (show Below W1.heap.size W1 (W1.alloc (.cells (arrB r (fun _ => false)) 4)) from (by repeat' (first | exact Below.refl _ _ | assumption | refine Below.xt ?_ ?_ _ | refine Below.alloc ?_ ?_ _ | refine Below.drew ?_ | refine Below.setCell ?_ ?_ _ | (simp; done) | (simp; omega))))
      go_loopw [26] (fun i wr => ∃ (k : Nat), k ≤ m.length ∧ i = .int .i64 k ∧ Hid (Below W1.heap.size W1 wr) ∧ Hid (Blk wr W1.heap.size (arrB r (fun n => hs (m.take k) (n : Int))) 4) ∧ Hid (∀ j, j < k → matAt G m j = true)) (fun i _ => m.length - (intOf i).toNat)
      case atStart => exact ⟨0, by omega, rfl, HB2, HU, Lib.hid (fun j h => absurd h (by omega))⟩
      case round =>
        clear HU HB2
        obtain ⟨k, hk, rfl, HB2, HU, HK⟩ := hrel
        have g1 : wr.cell? ⟨w.heap.size, 0, none⟩ = some (.slice A m.length cap) := (HB2.out.cell (p := ⟨w.heap.size, 0, none⟩) hf2).trans hf1
        have g2 : old w.heap.size wr := Nat.lt_of_lt_of_le hf2 HB2.out.size
        have HB3 := Lib.hid (Below.next' HB1.out HB2.out HB1.out.size)
        have hU := HU.out.lt
        by_cases hlt : k < m.length
        · obtain ⟨q, o, rfl, hq, hc⟩ := RowI.at_ (HM.out.below HB3.out) (by omega)
          have c1 := hc k hlt
          have HT := fun n : Nat => hs_take (m := m) (n := n) hlt
          have HN := fun n x : Nat => hs_next (m := m) (n := n) (x := x) hlt
          have HF := Lib.hid (matAt_free (G := G) (m := m) (k := k))
          have HQ := Lib.hid (matAt_eq (G := G) (m := m) (k := k))
          have HT := Lib.hid HT
          have HN := Lib.hid HN
          obtain ⟨x, hx⟩ : ∃ x, m.getD k 0 = x := ⟨_, rfl⟩
          rw [hx] at c1 HT HN HF HQ
          clear hc hx
          by_cases hx1 : x = -1
          · have HE := Lib.hid (all_next (p := fun j => matAt G m j) HK.out (HF.out hx1))
            have HU' := Lib.hid (show Blk wr W1.heap.size (arrB r (fun n => hs (m.take (k + 1)) (n : Int))) 4 by rw [← arrB_congr fun n _ => HT.out n hx1]; exact HU.out)
            have d1 : (x == -1) = true := by simpa using hx1
            clear HU HT HN HF HQ HK hx1
            go_wp2_with fail
            go_roundw
            case rel => exact ⟨k + 1, by omega, by go_num, HB2, HU', HE⟩
            case measure => simp [intOf]; omega
          · have d1 : (x == -1) = false := by simpa using hx1
            have hQ := HQ.out hx1
            obtain ⟨gb, go, rfl, hgo, hgc⟩ := (HG.out.below HB3.out).top (by omega)
            obtain ⟨Ai, ci, hgi, hrow⟩ := hgc k hlt
            have CB := bin_any Ai (G k).length ci (G k) r x wr rfl (HL.out k hlt) (HI.out k hlt) hrow
            have HX2 := HX.out k hlt x
            clear HQ hgc hrow HF HT
            cases hh : hs (G k) x with
            | false =>
              have HE2 := Lib.hid (matB_no G hlt (by rw [hQ, hh]; rfl))
              have HCB := Lib.hid CB
              unfold BS at HCB
              rw [hh] at HCB
              clear hh hQ CB HX2 hx1
              go_wp2_with (go_at_call 27; refine HCB.out.mono ?_; rintro e' w' ⟨p, hp, rfl, rfl⟩)
              go_ret
              exact RetB.of (by rw [HE.out, HE2.out]; rfl) HB3.out
            | true =>
              have hx2 := HX2 (by unfold hs at hh; exact List.contains_iff_mem.1 hh)
              obtain ⟨y, rfl⟩ : ∃ y : Nat, x = (y : Int) := ⟨x.toNat, by omega⟩
              have hyr : y < r := by omega
              have HCB := Lib.hid CB
              unfold BS at HCB
              rw [hh] at HCB
              rw [hh] at hQ
              have u1 := HU.out.cell (arrB_get hyr)
              have u2 := HU.out.frozen (j := y)
              cases hz : hs (m.take k) (y : Int) with
              | true =>
                have HE2 := Lib.hid (matB_no G hlt (by rw [hQ, hz]; rfl))
                rw [hz] at u1
                clear hh hQ CB HX2 hx1 hz
                go_wp2_with (go_at_call 27; refine HCB.out.mono ?_; rintro e' w' ⟨p, hp, rfl, rfl⟩)
                go_ret
                exact RetB.of (by rw [HE.out, HE2.out]; rfl) HB3.out
              | false =>
                have HE2 := Lib.hid (all_next (p := fun j => matAt G m j) HK.out (by rw [hQ, hz]; rfl))
                rw [hz] at u1
                have HU' := Lib.hid (show Blk (wr.setCell ⟨W1.heap.size, y, none⟩ (.bool true)) W1.heap.size (arrB r (fun n => hs (m.take (k + 1)) (n : Int))) 4 by rw [← arrB_set fun n _ => HN.out n y rfl]; exact HU.out.set _)
                have HB4 := Lib.hid (show Below W1.heap.size W1 (wr.setCell ⟨W1.heap.size, y, none⟩ (.bool true)) from HB2.out.setCell (Nat.le_refl _) _)
                clear hh hQ CB HX2 hx1 hz HU HN HK
                go_wp2_with (go_at_call 27; refine HCB.out.mono ?_; rintro e' w' ⟨p, hp, rfl, rfl⟩)
                go_roundw
                case rel => exact ⟨k + 1, by omega, by go_num, HB4, HU', HE2⟩
                case measure => simp [intOf]; omega
        · obtain rfl : k = m.length := by omega
          have HE2 := Lib.hid (matB_of G rfl HK.out)
          go_wp2_with fail
          go_ret
          exact RetB.of (by rw [HE.out, HE2.out]; rfl) HB3.out
    · have HE := Lib.hid (show vmB G nL r m = false by
        unfold vmB matB
        simp [hl])
      have d1 : ((m.length : Int) == (nL : Int)) = false := by simpa using (show ¬ (m.length : Int) = (nL : Int) by omega)
      clear C hv V hl
      go_enter Try.func13, Try.ntmps13
      go_wp2_with (go_at_call 12; refine (RetB.grown (HC _ (GRow.alloc HG.out _)).out).mono ?_; rintro e' w' ⟨rfl, g, rfl⟩)
      go_ret
      exact RetB.of (by rw [HE.out]; rfl) (by repeat' (first | exact Below.refl _ _ | assumption | refine Below.xt ?_ ?_ _ | refine Below.alloc ?_ ?_ _ | refine Below.drew ?_ | refine Below.setCell ?_ ?_ _ | (simp; done) | (simp; omega)))
end Go.Proofs.Ytkabknmhbjmmcaa

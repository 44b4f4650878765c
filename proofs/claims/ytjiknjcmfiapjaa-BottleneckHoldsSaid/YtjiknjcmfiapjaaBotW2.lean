
/- Walks: a list that is cloned; the assignment of some columns, by the program. Conditions stand in each theorem. -/
import Derived.Test.YtjiknjcmfiapjaaBotW1
import Derived.BigRegion
import Derived.Lib.SliceRun
import Derived.Deep.LoopGhost
namespace Go.Proofs.Ytjiknjcmfiapjaa
open Go.RowKit
set_option linter.unusedVariables false
set_option linter.unusedSimpArgs false

theorem own_low {w : World} {base base' : Nat} {e : TypeId} {s n : Nat} {v : Value} {xs : List Value} (h : w.ownsRow base' e s v n xs) (hb : base ≤ base') : w.ownsRow base e s v n xs := by
  refine ⟨h.1, ?_⟩
  rcases h.2 with h' | ⟨gb, cap, cur, hv, hbb, hg, hrest⟩
  · exact .inl h'
  · exact .inr ⟨gb, cap, cur, hv, Nat.le_trans hb hbb, hg, hrest⟩
theorem own_fresh {w : World} {t : TypeId} {m base : Nat} (hm : m = w.heap.size) (hb : base ≤ m) : (w.alloc (.cells #[] t)).ownsRow base t 1 (.slice (some ⟨m, 0, none⟩) 0 0) 0 [] := by
  subst hm
  exact ⟨by simp, .inr ⟨_, 0, #[], rfl, hb, heap_alloc_new w _, by omega, by simp [maxLen], by simp, by simp⟩⟩
/-- The call returns these numbers, in a block of its own. -/
def RetOwn (l : List Int) (w : World) (e : Ending) (w' : World) : Prop := ∃ v, e = .returned v ∧ Below w.heap.size w w' ∧ w'.ownsRow w.heap.size 3 1 v l.length (l.map (Value.int .i64))
set_option maxRecDepth 100000 in
set_option maxHeartbeats 800000 in
theorem Clone_any (A : Option Addr) (m cap : Nat) (l : List Int) (w : World) (hm : m = l.length) (hA : A = none → l.length = 0 ∧ cap = 0) (hl : l.length ≤ 1000) (h : RowI w A l) : Calls Try.prog 35 #[.slice A m cap] w (RetOwn l w) := by
  subst hm
  obtain ⟨i0, hi0, hz0, hz1, hz2⟩ := info_parts infoInt
  cases A with
  | none =>
    obtain ⟨h1, h2⟩ := hA rfl
    have h3 := List.eq_nil_of_length_eq_zero h1
    subst h3 h2
    clear h hA hl
    have heq := fun W : World => Lib.run_eql_slice_nil (P := Try.prog) W 23 3 none 0 0 0 0 Try.underlying23
    go_enter Try.func35, Try.ntmps35
    go_wp2_with fail
    go_ret
    exact ⟨_, rfl, (by repeat' (first | exact Below.refl _ _ | assumption | refine Below.xt ?_ ?_ _ | refine Below.alloc ?_ ?_ _ | refine Below.drew ?_ | refine Below.setCell ?_ ?_ _ | (simp; done) | (simp; omega))), own_nil⟩
  | some ad =>
    have HN := Lib.hid (show ∀ j u, (l.map (Value.int .i64))[j]? = some u → (w.alloc (.cells #[] 3)).cell? (ad.add j) = some u from fun j u hu => by
      have hj : j < l.length := by have := (List.getElem?_eq_some_iff.1 hu).1; simpa using this
      obtain ⟨b, o, e, hold, hc⟩ := h.at_ (by omega)
      injection e with e
      subst e
      rw [add_none, cell_alloc_old _ _ _ _ _ hold, hc j hj]
      rw [List.getElem?_map] at hu
      simp [List.getD, hj] at hu ⊢
      exact hu)
    have H1 := Lib.hid (one_ints l)
    clear h hA
    generalize hn : l.length = n at *
    have HL := Lib.hid hn
    clear hn
    have heq := fun W : World => Lib.run_eql_slice_nil (P := Try.prog) W 23 3 (some ad) n cap 0 0 Try.underlying23
    go_enter Try.func35, Try.ntmps35
    go_wp2_with (at_builtin; go_must (refine wpList_append_own _ rfl _ _ 23 rfl w.heap.size 3 i0 _ 1 8 Try.underlying23 hi0 hz0 hz1 hz2 rfl (by omega) (.slice (some ⟨w.heap.size, 0, none⟩) 0 0) 0 [] rfl (own_fresh rfl (Nat.le_refl _)) ad n _ (l.map (Value.int .i64)) rfl ?_ ?_ H1.out ?_ ?_ ?_ ?_))
    · rw [List.length_map, HL.out, Nat.mul_one]
    · exact HN.out
    · simp only [maxLen]; omega
    · omega
    · simp
    intro v1 w1 hown1 hgr1 _
    have hb := below_grown (B := w.heap.size) (n := 0) (e := 3) (s := 1) ((Below.refl w.heap.size w).alloc (Nat.le_refl _) (.cells #[] 3)) (by simp) (own_fresh rfl (Nat.le_refl _)) hgr1
    go_wp2_with fail
    go_ret
    exact ⟨v1, rfl, hb, by rw [HL.out]; simpa using hown1⟩

/-- The call returns these columns with these costs, or says that they are none. -/
def RetAs (l : List Int) (b : Bool) (g s : Int) (w : World) (e : Ending) (w' : World) : Prop :=
  ∃ v x y, e = .returned (.tuple #[.agg #[v, .int .i64 x, .int .i64 y], .bool b]) ∧ Below w.heap.size w w' ∧ w'.ownsRow w.heap.size 3 1 v l.length (l.map (Value.int .i64)) ∧ (b = true → x = g ∧ y = s)
theorem own_frm {w : World} {base n : Nat} {e : TypeId} {v : Value} {s : Nat} {xs : List Value} (h : w.ownsRow base e s v n xs) : ∃ A c, v = .slice A n c := by
  rcases h.2 with ⟨rfl, rfl⟩ | ⟨g, cap, cur, rfl, _⟩
  · exact ⟨none, 0, rfl⟩
  · exact ⟨_, _, rfl⟩
theorem own_ne {w : World} {base n s : Nat} {e : TypeId} {v : Value} {xs : List Value} (h : w.ownsRow base e s v n xs) {b : Nat} (hb : w.heap.size ≤ b) : v.ownBlock = none ∨ v.ownBlock ≠ some b := by
  rcases h.2 with ⟨rfl, _⟩ | ⟨g, cap, cur, rfl, hg, hgg, _⟩
  · exact .inl rfl
  · right
    have : g < w.heap.size := (Array.getElem?_eq_some_iff.1 hgg).1
    simp only [Value.ownBlock, ne_eq, Option.some.injEq]
    omega
theorem own_setNe {w : World} {base n s : Nat} {e : TypeId} {v : Value} {xs : List Value} (h : w.ownsRow base e s v n xs) (b k : Nat) (x : Value) (hb : v.ownBlock = none ∨ v.ownBlock ≠ some b) : (w.setCell ⟨b, k, none⟩ x).ownsRow base e s v n xs :=
  h.kept (grownBy_set w b k x) hb
theorem hs_nxt {m : List Int} {k n : Nat} {x : Int} (hk : k < m.length) (h : m.getD k 0 = x) : hs (m.take (k + 1)) (n : Int) = if (n : Int) = x then true else hs (m.take k) (n : Int) := by
  unfold hs
  rw [Bool.eq_iff_iff]
  by_cases e : (n : Int) = x
  · rw [if_pos e, List.contains_iff_mem]
    exact ⟨fun _ => rfl, fun _ => by rw [e, ← h]; exact mem_take (by omega) hk⟩
  · rw [if_neg e, List.contains_iff_mem, List.contains_iff_mem]
    constructor
    · intro h1
      obtain ⟨j, h2, h3, h4⟩ := take_mem h1
      by_cases e' : j = k
      · subst e'; omega
      · rw [← h4]; exact mem_take (by omega) h3
    · intro h1
      obtain ⟨j, h2, h3, h4⟩ := take_mem h1
      rw [← h4]; exact mem_take (by omega) h3

theorem Blk.f3 {W : World} {B : Nat} {a b c : Value} {T : TypeId} (h : Blk W B #[a, b, c] T) :
    W.cell? ⟨B, 0, none⟩ = some a ∧ W.cell? ⟨B, 1, none⟩ = some b ∧ W.cell? ⟨B, 2, none⟩ = some c ∧ W.frozen? ⟨B, 0, none⟩ = false ∧ W.frozen? ⟨B, 1, none⟩ = false ∧ W.frozen? ⟨B, 2, none⟩ = false ∧ old B W :=
  ⟨h.cell rfl, h.cell rfl, h.cell rfl, h.frozen, h.frozen, h.frozen, h.lt⟩
/-- What lies there when the columns have been copied. -/
theorem of_start {w w1 : World} {n : Nat} {v : Value} {l : List Value} {q : Nat}
    (hb : Below ((w.alloc (.cells #[.slice none 0 0, .int .i64 0, .int .i64 0] 25)).alloc (.cells (arrB n (fun _ => false)) 4)).heap.size ((w.alloc (.cells #[.slice none 0 0, .int .i64 0, .int .i64 0] 25)).alloc (.cells (arrB n (fun _ => false)) 4)) w1)
    (ho : w1.ownsRow ((w.alloc (.cells #[.slice none 0 0, .int .i64 0, .int .i64 0] 25)).alloc (.cells (arrB n (fun _ => false)) 4)).heap.size 3 1 v q l) :
    w1.cell? ⟨w.heap.size, 0, none⟩ = some (.slice none 0 0) ∧ w1.cell? ⟨w.heap.size, 1, none⟩ = some (.int .i64 0) ∧ w1.cell? ⟨w.heap.size, 2, none⟩ = some (.int .i64 0) ∧ w1.frozen? ⟨w.heap.size, 0, none⟩ = false ∧ w1.frozen? ⟨w.heap.size, 1, none⟩ = false ∧ w1.frozen? ⟨w.heap.size, 2, none⟩ = false ∧ old w.heap.size w1 ∧ old (w.heap.size + 1) w1 ∧
    Hid (Below w.heap.size w w1 ∧ Blk w1 w.heap.size #[.slice none 0 0, .int .i64 0, .int .i64 0] 25 ∧ Blk w1 (w.heap.size + 1) (arrB n (fun _ => false)) 4) ∧ Hid (w1.ownsRow (w.heap.size + 2) 3 1 v q l) := by
  have e : ((w.alloc (.cells #[.slice none 0 0, .int .i64 0, .int .i64 0] 25)).alloc (.cells (arrB n (fun _ => false)) 4)).heap.size = w.heap.size + 2 := by simp
  have b1 : Blk w1 w.heap.size #[.slice none 0 0, .int .i64 0, .int .i64 0] 25 := Blk.below (Blk.alloc (Blk.new w _ _ rfl) _) hb (by rw [e]; omega)
  have b2 : Blk w1 (w.heap.size + 1) (arrB n (fun _ => false)) 4 := Blk.below (Blk.new _ _ _ (by simp)) hb (by rw [e]; omega)
  obtain ⟨h0, h1, h2, h3, h4, h5, h6⟩ := b1.f3
  rw [e] at ho
  exact ⟨h0, h1, h2, h3, h4, h5, h6, b2.lt, Lib.hid ⟨Below.next (by repeat' (first | exact Below.refl _ _ | assumption | refine Below.xt ?_ ?_ _ | refine Below.alloc ?_ ?_ _ | refine Below.drew ?_ | refine Below.setCell ?_ ?_ _ | (simp; done) | (simp; omega))) hb (by rw [e]; omega), b1, b2⟩, Lib.hid ho⟩
set_option maxRecDepth 100000 in
set_option maxHeartbeats 6400000 in
theorem of_any (A L : Option Addr) (n cap m c : Nat) (G : Nat → List Int) (l : List Int) (w : World) (hG : GRow w A n G) (hC : Cst G n) (hm : m = l.length) (hl : l.length ≤ 1000) (hA : L = none → l.length = 0 ∧ c = 0) (hr : RowI w L l) :
    Calls Try.prog 22 #[.slice A n cap, .slice L m c] w (RetAs l (colsB l n) (mstC G l n) (sumC G l n) w) := by
  subst hm
  have HC := Lib.hid hC
  have HG := Lib.hid hG
  have HR := Lib.hid hr
  have hn1 := hC.pos
  have hn2 := hC.le
  have hmk := fun W => mk_bools n (by omega) W
  have CC := fun w h => Lib.hid (Clone_any L l.length c l w rfl hA hl h)
  clear hG hC hr hA
  go_enter Try.func22, Try.ntmps22
  by_cases hln : l.length = n
  · have HQ := Lib.hid hln
    have HD := fun k => Lib.hid (colsB_no (l := l) (n := n) (k := k))
    have HD2 := Lib.hid (colsB_end (l := l) (n := n))
    rw [hln] at CC
    generalize hq : l.length = q at hln
    subst hln
    clear hq
    go_wp2_with (go_at_call 35; refine (CC _ ((HR.out.alloc _).alloc _)).out.mono ?_; rintro e' w1 ⟨v, rfl, hb1, ho1⟩; rw [HQ.out] at ho1; obtain ⟨A1, c1, rfl⟩ := own_frm ho1; obtain ⟨r0, r1, r2, r3, r4, r5, r6, r7, HB1, HO1⟩ := of_start hb1 ho1; clear hb1 ho1)
    clear CC r0 r1 r2 r3 r4 r5 r6 r7
    have HA := Lib.hid (show Blk (w1.alloc (.cells #[.slice A1 q c1, .int .i64 0, .int .i64 0] 25)) w1.heap.size #[.slice A1 q c1, .int .i64 (mstC G l 0), .int .i64 (sumC G l 0)] 25 from Blk.new _ _ _ rfl)
    have HNe := Lib.hid (own_ne HO1.out (Nat.le_refl _))
    have hlt1 : w.heap.size + 1 < w1.heap.size := HB1.out.2.2.lt
    go_loopg [24] (q) (fun gk i wr => ∃ k : Nat, k + gk = q ∧ i = .int .i64 k ∧ Hid (Below w.heap.size w wr) ∧ Hid (Blk wr w.heap.size #[.slice none 0 0, .int .i64 0, .int .i64 0] 25) ∧ Hid (Blk wr (w.heap.size + 1) (arrB q (fun j => hs (l.take k) (j : Int))) 4) ∧ Hid (Blk wr w1.heap.size #[.slice A1 q c1, .int .i64 (mstC G l k), .int .i64 (sumC G l k)] 25) ∧ Hid (wr.ownsRow (w.heap.size + 2) 3 1 (.slice A1 q c1) q (l.map (Value.int .i64))) ∧ Hid (∀ j, j < k → colAt l q j = true))
    case atStart => exact ⟨0, by omega, rfl, Lib.hid (HB1.out.1.alloc (by have := HB1.out.1.size; exact this) _), Lib.hid (HB1.out.2.1.alloc _), Lib.hid (HB1.out.2.2.alloc _), HA, Lib.hid (HO1.out.alloc _), Lib.hid (fun j h => absurd h (by omega))⟩
    case round =>
      clear HA HB1 HO1
      obtain ⟨k, hk, rfl, HB, HRs, HU, HA, HO, HK⟩ := hrel
      by_cases hlt : k < q
      · have hlq : k < l.length := by rw [HQ.out]; exact hlt
        have HN := Lib.hid (fun n x => hs_nxt (m := l) (k := k) (n := n) (x := x) hlq)
        have HCa := Lib.hid (fun h : colAt l q k = false => HD k |>.out hlq h)
        obtain ⟨bq, oq, rfl, hold, hc⟩ := (RowI.below HR.out HB.out).at_ (by omega)
        have ec1 := hc k hlq
        obtain ⟨x, hx⟩ : ∃ x, l.getD k 0 = x := ⟨_, rfl⟩
        have HX := Lib.hid hx
        rw [hx] at ec1
        clear hx hc
        obtain ⟨x0, x1, x2, x3, x4, x5, x6⟩ := HA.out.f3
        obtain ⟨y0, y1, y2, y3, y4, y5, y6⟩ := HRs.out.f3
        by_cases h0 : x < 0
        · have HE := Lib.hid (HCa.out (by rw [← Bool.not_eq_true, colAt_iff, HX.out]; omega))
          have d0 : decide (x < 0) = true := by simpa using h0
          clear HN HCa HX
          (clear HD HD2 HC HG HR hmk HNe; go_wp2_with fail; obtain ⟨s0, s1, s2, _⟩ := (show Blk _ w.heap.size #[.slice A1 q c1, .int .i64 (mstC G l k), .int .i64 (sumC G l k)] _ from (((HRs.out).set (k := 0) (.slice A1 q c1)).set (k := 1) (.int .i64 (mstC G l k))).set (k := 2) (.int .i64 (sumC G l k))).f3; refine bodyPost_ret (v := .tuple #[.agg #[.slice A1 q c1, .int .i64 (mstC G l k), .int .i64 (sumC G l k)], .bool false]) (by simp [results, Try.results22, go_sem, s0, s1, s2]) rfl ?_; have hb := HB.out; refine ⟨_, _, _, by rw [HE.out], (by repeat' (first | exact Below.refl _ _ | assumption | refine Below.xt ?_ ?_ _ | refine Below.alloc ?_ ?_ _ | refine Below.drew ?_ | refine Below.setCell ?_ ?_ _ | (simp; done) | (simp; omega))), ?_, fun h => by rw [HE.out] at h; cases h⟩; rw [HQ.out]; exact own_low ((own_set (own_set (own_set HO.out w.heap.size 0 _ (by omega)) w.heap.size 1 _ (by omega)) w.heap.size 2 _ (by omega))) (by omega))
        · have d0 : decide (x < 0) = false := by simpa using h0
          by_cases h1 : (q : Int) ≤ x
          · have HE := Lib.hid (HCa.out (by rw [← Bool.not_eq_true, colAt_iff, HX.out]; omega))
            have d1 : decide ((q : Int) ≤ x) = true := by simpa using h1
            clear HN HCa HX
            (clear HD HD2 HC HG HR hmk HNe; go_wp2_with fail; obtain ⟨s0, s1, s2, _⟩ := (show Blk _ w.heap.size #[.slice A1 q c1, .int .i64 (mstC G l k), .int .i64 (sumC G l k)] _ from (((HRs.out).set (k := 0) (.slice A1 q c1)).set (k := 1) (.int .i64 (mstC G l k))).set (k := 2) (.int .i64 (sumC G l k))).f3; refine bodyPost_ret (v := .tuple #[.agg #[.slice A1 q c1, .int .i64 (mstC G l k), .int .i64 (sumC G l k)], .bool false]) (by simp [results, Try.results22, go_sem, s0, s1, s2]) rfl ?_; have hb := HB.out; refine ⟨_, _, _, by rw [HE.out], (by repeat' (first | exact Below.refl _ _ | assumption | refine Below.xt ?_ ?_ _ | refine Below.alloc ?_ ?_ _ | refine Below.drew ?_ | refine Below.setCell ?_ ?_ _ | (simp; done) | (simp; omega))), ?_, fun h => by rw [HE.out] at h; cases h⟩; rw [HQ.out]; exact own_low ((own_set (own_set (own_set HO.out w.heap.size 0 _ (by omega)) w.heap.size 1 _ (by omega)) w.heap.size 2 _ (by omega))) (by omega))
          · have d1 : decide ((q : Int) ≤ x) = false := by simpa using h1
            obtain ⟨y, rfl⟩ : ∃ y : Nat, x = (y : Int) := ⟨x.toNat, by omega⟩
            have hy : y < q := by omega
            have u1 := HU.out.cell (arrB_get (f := fun j => hs (l.take k) (j : Int)) hy)
            have u2 : wr.frozen? ⟨w.heap.size + 1, y, none⟩ = false := HU.out.frozen
            have u3 : old (w.heap.size + 1) wr := HU.out.lt
            cases h2 : hs (l.take k) (y : Int) with
            | true =>
              have HE := Lib.hid (HCa.out (by rw [← Bool.not_eq_true, colAt_iff, HX.out, h2]; simp))
              rw [h2] at u1
              clear HN HCa HX h2
              (clear HD HD2 HC HG HR hmk HNe; go_wp2_with fail; obtain ⟨s0, s1, s2, _⟩ := (show Blk _ w.heap.size #[.slice A1 q c1, .int .i64 (mstC G l k), .int .i64 (sumC G l k)] _ from (((HRs.out).set (k := 0) (.slice A1 q c1)).set (k := 1) (.int .i64 (mstC G l k))).set (k := 2) (.int .i64 (sumC G l k))).f3; refine bodyPost_ret (v := .tuple #[.agg #[.slice A1 q c1, .int .i64 (mstC G l k), .int .i64 (sumC G l k)], .bool false]) (by simp [results, Try.results22, go_sem, s0, s1, s2]) rfl ?_; have hb := HB.out; refine ⟨_, _, _, by rw [HE.out], (by repeat' (first | exact Below.refl _ _ | assumption | refine Below.xt ?_ ?_ _ | refine Below.alloc ?_ ?_ _ | refine Below.drew ?_ | refine Below.setCell ?_ ?_ _ | (simp; done) | (simp; omega))), ?_, fun h => by rw [HE.out] at h; cases h⟩; rw [HQ.out]; exact own_low ((own_set (own_set (own_set HO.out w.heap.size 0 _ (by omega)) w.heap.size 1 _ (by omega)) w.heap.size 2 _ (by omega))) (by omega))
            | false =>
              have HK1 := Lib.hid (all_next (p := fun j => colAt l q j) HK.out (by rw [colAt_iff, HX.out]; exact ⟨by omega, by omega, h2⟩))
              rw [h2] at u1
              have HM1 := Lib.hid (show mstC G l (k + 1) = max (mstC G l k) ((G k).getD y 0) by rw [mstC, HX.out]; rfl)
              have HS1 := Lib.hid (show sumC G l (k + 1) = sumC G l k + (G k).getD y 0 by rw [sumC, HX.out]; rfl)
              have hb := HB.out
              have HB2 := Lib.hid (show Below w.heap.size w (wr.setCell ⟨w.heap.size + 1, y, none⟩ (.bool true)) from Below.setCell hb (by simp) _)
              have HRs2 := Lib.hid (HRs.out.other (a := ⟨w.heap.size + 1, y, none⟩) (.bool true) (by simp))
              have HU2 := Lib.hid (show Blk (wr.setCell ⟨w.heap.size + 1, y, none⟩ (.bool true)) (w.heap.size + 1) (arrB q (fun j => hs (l.take (k + 1)) (j : Int))) 4 by
                rw [← arrB_set (f := fun j => hs (l.take k) (j : Int)) (k := y) (fun j hj => by show hs (l.take (k + 1)) (j : Int) = _; rw [HN.out j y HX.out]; simp only [Int.ofNat_inj])]
                exact HU.out.set _)
              have HA2 := Lib.hid (HA.out.other (a := ⟨w.heap.size + 1, y, none⟩) (.bool true) (by show w.heap.size + 1 ≠ w1.heap.size; omega))
              have HO2 := Lib.hid (own_set HO.out (w.heap.size + 1) y (.bool true) (by omega))
              have mb := mstC_bd HC.out k (by omega) HK.out
              have sb := sumC_bd HC.out k (by omega) HK.out
              have kb : (k : Int) * 17592186044416 ≤ 64 * 17592186044416 := by omega
              clear hb HD HD2 h2 HN HCa HX
              go_wp2_with fail
              obtain ⟨W2, hW2⟩ : ∃ W2, wr.setCell ⟨w.heap.size + 1, y, none⟩ (.bool true) = W2 := ⟨_, rfl⟩
              rw [hW2] at HB2 HRs2 HU2 HA2 HO2 ⊢
              clear hW2 HB HRs HU HA HO u1 u2 u3 x0 x1 x2 x3 x4 x5 x6 y0 y1 y2 y3 y4 y5 y6 ec1 hold hmk HR
              obtain ⟨gb, go, rfl, hgo, hgc⟩ := HG.out.top (by omega)
              obtain ⟨Ai, ci, hgi, hrow⟩ := hgc k hlt
              obtain ⟨q2, o2, rfl, hq2, hc2⟩ := hrow.at_ (by rw [HC.out.len k hlt]; omega)
              have c2 := hc2 y (by rw [HC.out.len k hlt]; exact hy)
              have b1 := HC.out.c hlt hy
              unfold cst at b1
              rw [HC.out.len k hlt] at hgi
              have F := Lib.hid (fun W (hb : Below w.heap.size w W) => show W.cell? ⟨gb, go + k, none⟩ = some (.slice (some ⟨q2, o2, none⟩) q ci) ∧ W.cell? ⟨q2, o2 + y, none⟩ = some (.int .i64 ((G k).getD y 0)) ∧ old gb W ∧ old q2 W from ⟨(hb.cell (p := ⟨gb, go + k, none⟩) hgo).trans hgi, (hb.cell (p := ⟨q2, o2 + y, none⟩) hq2).trans c2, Nat.lt_of_lt_of_le hgo hb.size, Nat.lt_of_lt_of_le hq2 hb.size⟩)
              obtain ⟨v1, v2, v3, v4⟩ := F.out W2 HB2.out
              clear hgc hrow hc2 HG HC hgi c2 hgo hq2
              generalize mstC G l k = M at *
              generalize sumC G l k = Sm at *
              generalize (G k).getD y 0 = C at *
              obtain ⟨z0, z1, z2, z3, z4, z5, z6⟩ := HA2.out.f3
              go_wp2_with (first
                | (refine wp_region_xt (by kernel_rfl) (by kernel_rfl) ?_; (repeat (go_big_quiet_step (first | fail))); refine wpQuiet_nil ?_; intro g)
                | (refine wp_region_xt_tail 11 (by kernel_rfl) (by kernel_rfl) ?_; simp only [List.take_succ_cons, List.take_zero, List.drop_succ_cons, List.drop_zero]; (repeat (go_big_quiet_step (first | fail))); refine wpQuiet_nil ?_; intro g))
              · have HB3 := Lib.hid (show Below w.heap.size w (xt (W2.setCell ⟨w1.heap.size, 1, none⟩ (.int .i64 C)) g) from Below.xt (Below.setCell HB2.out (show w.heap.size ≤ w1.heap.size by omega) _) (by have := HB2.out.size; simp; exact this) g)
                have HRs3 := Lib.hid ((HRs2.out.other (a := ⟨w1.heap.size, 1, none⟩) (.int .i64 C) (show w1.heap.size ≠ w.heap.size by omega)).xt g)
                have HU3 := Lib.hid ((HU2.out.other (a := ⟨w1.heap.size, 1, none⟩) (.int .i64 C) (show w1.heap.size ≠ w.heap.size + 1 by omega)).xt g)
                have HA3 := Lib.hid (show Blk (xt (W2.setCell ⟨w1.heap.size, 1, none⟩ (.int .i64 C)) g) w1.heap.size #[.slice A1 q c1, .int .i64 (mstC G l (k + 1)), .int .i64 Sm] 25 by
                  rw [HM1.out, show max M C = C by omega]
                  exact (HA2.out.set (k := 1) (.int .i64 C)).xt g)
                have HO3 := Lib.hid (own_xt (own_setNe HO2.out w1.heap.size 1 (.int .i64 C) HNe.out) g)
                clear HB2 HRs2 HU2 HA2 HO2 HM1 v1 v2 v3 v4 z0 z1 z2 z3 z4 z5 z6
                obtain ⟨W3, hW3⟩ : ∃ W3, xt (W2.setCell ⟨w1.heap.size, 1, none⟩ (.int .i64 C)) g = W3 := ⟨_, rfl⟩
                rw [hW3] at HB3 HRs3 HU3 HA3 HO3 ⊢
                clear hW3
                obtain ⟨v1, v2, v3, v4⟩ := F.out W3 HB3.out
                obtain ⟨z0, z1, z2, z3, z4, z5, z6⟩ := HA3.out.f3
                clear F
                go_wp2_with (first
                  | (refine wp_region_xt (by kernel_rfl) (by kernel_rfl) ?_; (repeat (go_big_quiet_step (first | fail))); refine wpQuiet_nil ?_; intro g)
                  | (refine wp_region_xt_tail 11 (by kernel_rfl) (by kernel_rfl) ?_; simp only [List.take_succ_cons, List.take_zero, List.drop_succ_cons, List.drop_zero]; (repeat (go_big_quiet_step (first | fail))); refine wpQuiet_nil ?_; intro g))
                go_roundg (gk - 1)
                case measure => omega
                case rel =>
                  have HA4 := HA3.out.set (k := 2) (.int .i64 (Sm + C))
                  exact ⟨k + 1, by omega, by go_num, Lib.hid (Below.xt (Below.setCell HB3.out (show w.heap.size ≤ w1.heap.size by omega) _) (by have := HB3.out.size; simp; exact this) _),
                    Lib.hid ((HRs3.out.other (a := ⟨w1.heap.size, 2, none⟩) _ (show w1.heap.size ≠ w.heap.size by omega)).xt _),
                    Lib.hid ((HU3.out.other (a := ⟨w1.heap.size, 2, none⟩) _ (show w1.heap.size ≠ w.heap.size + 1 by omega)).xt _),
                    Lib.hid (by rw [HS1.out]; exact HA4.xt _), Lib.hid (own_xt (own_setNe HO3.out w1.heap.size 2 _ HNe.out) _), HK1⟩
              · have HB3 := Lib.hid (show Below w.heap.size w (xt (W2.setCell ⟨w1.heap.size, 1, none⟩ (.int .i64 M)) g) from Below.xt (Below.setCell HB2.out (show w.heap.size ≤ w1.heap.size by omega) _) (by have := HB2.out.size; simp; exact this) g)
                have HRs3 := Lib.hid ((HRs2.out.other (a := ⟨w1.heap.size, 1, none⟩) (.int .i64 M) (show w1.heap.size ≠ w.heap.size by omega)).xt g)
                have HU3 := Lib.hid ((HU2.out.other (a := ⟨w1.heap.size, 1, none⟩) (.int .i64 M) (show w1.heap.size ≠ w.heap.size + 1 by omega)).xt g)
                have HA3 := Lib.hid (show Blk (xt (W2.setCell ⟨w1.heap.size, 1, none⟩ (.int .i64 M)) g) w1.heap.size #[.slice A1 q c1, .int .i64 (mstC G l (k + 1)), .int .i64 Sm] 25 by
                  rw [HM1.out, show max M C = M by omega]
                  exact (HA2.out.set (k := 1) (.int .i64 M)).xt g)
                have HO3 := Lib.hid (own_xt (own_setNe HO2.out w1.heap.size 1 (.int .i64 M) HNe.out) g)
                clear HB2 HRs2 HU2 HA2 HO2 HM1 v1 v2 v3 v4 z0 z1 z2 z3 z4 z5 z6
                obtain ⟨W3, hW3⟩ : ∃ W3, xt (W2.setCell ⟨w1.heap.size, 1, none⟩ (.int .i64 M)) g = W3 := ⟨_, rfl⟩
                rw [hW3] at HB3 HRs3 HU3 HA3 HO3 ⊢
                clear hW3
                obtain ⟨v1, v2, v3, v4⟩ := F.out W3 HB3.out
                obtain ⟨z0, z1, z2, z3, z4, z5, z6⟩ := HA3.out.f3
                clear F
                go_wp2_with (first
                  | (refine wp_region_xt (by kernel_rfl) (by kernel_rfl) ?_; (repeat (go_big_quiet_step (first | fail))); refine wpQuiet_nil ?_; intro g)
                  | (refine wp_region_xt_tail 11 (by kernel_rfl) (by kernel_rfl) ?_; simp only [List.take_succ_cons, List.take_zero, List.drop_succ_cons, List.drop_zero]; (repeat (go_big_quiet_step (first | fail))); refine wpQuiet_nil ?_; intro g))
                go_roundg (gk - 1)
                case measure => omega
                case rel =>
                  have HA4 := HA3.out.set (k := 2) (.int .i64 (Sm + C))
                  exact ⟨k + 1, by omega, by go_num, Lib.hid (Below.xt (Below.setCell HB3.out (show w.heap.size ≤ w1.heap.size by omega) _) (by have := HB3.out.size; simp; exact this) _),
                    Lib.hid ((HRs3.out.other (a := ⟨w1.heap.size, 2, none⟩) _ (show w1.heap.size ≠ w.heap.size by omega)).xt _),
                    Lib.hid ((HU3.out.other (a := ⟨w1.heap.size, 2, none⟩) _ (show w1.heap.size ≠ w.heap.size + 1 by omega)).xt _),
                    Lib.hid (by rw [HS1.out]; exact HA4.xt _), Lib.hid (own_xt (own_setNe HO3.out w1.heap.size 2 _ HNe.out) _), HK1⟩
      · obtain rfl : k = q := by omega
        have HE := Lib.hid (show colsB l k = true by rw [HD2.out (fun j hj => HK.out j (by rw [← HQ.out]; exact hj))]; simp [HQ.out])
        obtain ⟨x0, x1, x2, x3, x4, x5, x6⟩ := HA.out.f3
        obtain ⟨y0, y1, y2, y3, y4, y5, y6⟩ := HRs.out.f3
        go_wp2_with fail
        obtain ⟨s0, s1, s2, _⟩ := (show Blk _ w.heap.size #[.slice A1 k c1, .int .i64 (mstC G l k), .int .i64 (sumC G l k)] _ from (((HRs.out).set (k := 0) (.slice A1 k c1)).set (k := 1) (.int .i64 (mstC G l k))).set (k := 2) (.int .i64 (sumC G l k))).f3
        refine bodyPost_ret (v := .tuple #[.agg #[.slice A1 k c1, .int .i64 (mstC G l k), .int .i64 (sumC G l k)], .bool true]) (by simp [results, Try.results22, go_sem, s0, s1, s2]) rfl ?_
        have hb := HB.out
        refine ⟨_, _, _, by rw [HE.out], (by repeat' (first | exact Below.refl _ _ | assumption | refine Below.xt ?_ ?_ _ | refine Below.alloc ?_ ?_ _ | refine Below.drew ?_ | refine Below.setCell ?_ ?_ _ | (simp; done) | (simp; omega))), ?_, fun _ => ⟨rfl, rfl⟩⟩
        rw [HQ.out]
        exact own_low ((own_set (own_set (own_set HO.out _ _ _ (by omega)) _ _ _ (by omega)) _ _ _ (by omega))) (by omega)
  · have HE := Lib.hid (colsB_len hln)
    generalize hq : l.length = q at hln hl CC ⊢
    have HQ := Lib.hid hq
    clear hq
    have d1 : ((q : Int) == (n : Int)) = false := by simpa using by omega
    go_wp2_with (go_at_call 35; refine (CC _ ((HR.out.alloc _).alloc _)).out.mono ?_; rintro e' w1 ⟨v, rfl, hb1, ho1⟩; rw [HQ.out] at ho1; obtain ⟨A1, c1, rfl⟩ := own_frm ho1; obtain ⟨r0, r1, r2, r3, r4, r5, r6, r7, HB1, HO1⟩ := of_start hb1 ho1; clear hb1 ho1)
    obtain ⟨s0, s1, s2, _⟩ := (show Blk _ w.heap.size #[.slice A1 q c1, .int .i64 0, .int .i64 0] _ from ((((HB1.out.2.1).set (k := 0) (.slice A1 q c1)).set (k := 1) (.int .i64 0)).set (k := 2) (.int .i64 0)).alloc (.cells #[.slice A1 q c1, .int .i64 0, .int .i64 0] 25)).f3
    refine bodyPost_ret (v := .tuple #[.agg #[.slice A1 q c1, .int .i64 0, .int .i64 0], .bool false]) (by simp [results, Try.results22, go_sem, s0, s1, s2]) rfl ?_
    have hb := HB1.out.1
    refine ⟨_, 0, 0, by rw [HE.out], ?_, ?_, fun h => by rw [HE.out] at h; cases h⟩
    · have h0 := hb.size; refine Below.alloc (Below.setCell (Below.setCell (Below.setCell hb (Nat.le_refl _) _) (Nat.le_refl _) _) (Nat.le_refl _) _) (by simp; exact h0) _
    rw [HQ.out]
    exact own_low ((own_set (own_set (own_set HO1.out w.heap.size 0 _ (by omega)) w.heap.size 1 _ (by omega)) w.heap.size 2 _ (by omega)).alloc _) (by omega)

end Go.Proofs.Ytjiknjcmfiapjaa

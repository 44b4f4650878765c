/- Walks: the colour with a text, by the program and by the reference. Conditions stand in each theorem. -/
import Derived.Test.YtkekhnclbkachaaColW2
import Derived.Test.YtkekhnclbkachaaColW4
import Derived.Test.YtkekhnclbkachaaColW5
import Derived.Lib.SlicesS
namespace Go.Proofs.Ytkekhnclbkachaa
open Go.RowKit
set_option linter.unusedVariables false
set_option linter.unusedSimpArgs false

theorem hex_row {w : World} {m : Nat} {fr : Nat × Nat} (hm : m = w.heap.size) : ∀ j, j < 16 → (w.alloc (.cells #[.int .u8 48, .int .u8 49, .int .u8 50, .int .u8 51, .int .u8 52, .int .u8 53, .int .u8 54, .int .u8 55, .int .u8 56, .int .u8 57, .int .u8 97, .int .u8 98, .int .u8 99, .int .u8 100, .int .u8 101, .int .u8 102] 5 fr)).cell? ⟨m, j, none⟩ = some (.int .u8 (hexd j)) := by
  intro j hj
  refine cell_marked hm ?_
  have : j = 0 ∨ j = 1 ∨ j = 2 ∨ j = 3 ∨ j = 4 ∨ j = 5 ∨ j = 6 ∨ j = 7 ∨ j = 8 ∨ j = 9 ∨ j = 10 ∨ j = 11 ∨ j = 12 ∨ j = 13 ∨ j = 14 ∨ j = 15 := by omega
  rcases this with rfl | rfl | rfl | rfl | rfl | rfl | rfl | rfl | rfl | rfl | rfl | rfl | rfl | rfl | rfl | rfl <;> rfl

/-! ### What a text says -/
def hexAll (s : ByteArray) : Bool := decide (0 ≤ dig (bt s 1) ∧ 0 ≤ dig (bt s 2) ∧ 0 ≤ dig (bt s 3) ∧ 0 ≤ dig (bt s 4) ∧ 0 ≤ dig (bt s 5) ∧ 0 ≤ dig (bt s 6))
def parseOk (s : ByteArray) : Bool := decide (s.size = 7) && decide (bt s 0 = 35) && hexAll s
def parseRaw (s : ByteArray) : Col := ⟨dig (bt s 1) * 16 + dig (bt s 2), dig (bt s 3) * 16 + dig (bt s 4), dig (bt s 5) * 16 + dig (bt s 6)⟩
def parseC (s : ByteArray) : Col := if parseOk s then parseRaw s else black
def parseE (s : ByteArray) : Int := if parseOk s then 0 else 6
theorem hexAll_iff {s : ByteArray} : hexAll s = true ↔ 0 ≤ dig (bt s 1) ∧ 0 ≤ dig (bt s 2) ∧ 0 ≤ dig (bt s 3) ∧ 0 ≤ dig (bt s 4) ∧ 0 ≤ dig (bt s 5) ∧ 0 ≤ dig (bt s 6) := by simp [hexAll]
theorem parseRaw_ok {s : ByteArray} (h : hexAll s = true) : (parseRaw s).ok := by
  obtain ⟨h1, h2, h3, h4, h5, h6⟩ := hexAll_iff.1 h
  have := dig_le (bt s 1)
  have := dig_le (bt s 2)
  have := dig_le (bt s 3)
  have := dig_le (bt s 4)
  have := dig_le (bt s 5)
  have := dig_le (bt s 6)
  unfold Col.ok U8 parseRaw
  simp only
  omega
theorem parseC_ok (s : ByteArray) : (parseC s).ok := by
  unfold parseC
  split
  · rename_i h
    simp only [parseOk, Bool.and_eq_true] at h
    exact parseRaw_ok h.2
  · exact black_ok
theorem byte_hex {x y : Int} (hx : 0 ≤ dig x) (hy : 0 ≤ dig y) : hexd ((dig x * 16 + dig y).toNat / 16) = x ∧ hexd ((dig x * 16 + dig y).toNat % 16) = y := by
  have h1 := dig_le x
  have h2 := dig_le y
  have e1 : (dig x * 16 + dig y).toNat / 16 = (dig x).toNat := by omega
  have e2 : (dig x * 16 + dig y).toNat % 16 = (dig y).toNat := by omega
  rw [e1, e2, hexd_dig hx, hexd_dig hy]
  exact ⟨rfl, rfl⟩
theorem str_ext {s t : ByteArray} (hs : s.size = t.size) (h : ∀ i, i < s.size → bt s i = bt t i) : s = t := by
  apply ByteArray.ext
  apply Array.ext
  · simpa using hs
  · intro i h1 h2
    have h1' : i < s.size := h1
    have h2' : i < t.size := h2
    have e := h i h1'
    rw [← bt_at h1', ← bt_at h2'] at e
    have e' : s[i].toNat = t[i].toNat := by omega
    exact UInt8.toNat_inj.1 e'
theorem text_parse {s : ByteArray} (hs : s.size = 7) (h : hexAll s = true) : ((textB (parseRaw s)).toList == s.toList) = decide (bt s 0 = 35) := by
  obtain ⟨h1, h2, h3, h4, h5, h6⟩ := hexAll_iff.1 h
  obtain ⟨a1, a2⟩ := byte_hex h1 h2
  obtain ⟨a3, a4⟩ := byte_hex h3 h4
  obtain ⟨a5, a6⟩ := byte_hex h5 h6
  by_cases h0 : bt s 0 = 35
  · rw [decide_eq_true h0, Lib.bytes_beq_iff]
    refine str_ext (by rw [hs]; rfl) fun i hi => ?_
    have hi' : i < 7 := hi
    have : i = 0 ∨ i = 1 ∨ i = 2 ∨ i = 3 ∨ i = 4 ∨ i = 5 ∨ i = 6 := by omega
    rcases this with rfl | rfl | rfl | rfl | rfl | rfl | rfl
    · rw [h0]; rfl
    · rw [← a1]; rfl
    · rw [← a2]; rfl
    · rw [← a3]; rfl
    · rw [← a4]; rfl
    · rw [← a5]; rfl
    · rw [← a6]; rfl
  · rw [decide_eq_false h0, Lib.bytes_beq_false_iff]
    intro e
    exact h0 (by rw [← e]; rfl)

set_option maxHeartbeats 3200000 in
theorem Parse_seven (s : ByteArray) (w : World) (hs : s.size = 7) : Calls Try.prog 17 #[.string s] w (RetB (.tuple #[.agg #[.int .u8 (parseC s).r, .int .u8 (parseC s).g, .int .u8 (parseC s).b], .int .i64 (parseE s)]) w) := by
  have HS := Lib.hid hs
  obtain ⟨V, hV⟩ : ∃ V : Value, .tuple #[.agg #[.int .u8 (parseC s).r, .int .u8 (parseC s).g, .int .u8 (parseC s).b], .int .i64 (parseE s)] = V := ⟨_, rfl⟩
  rw [hV]
  have HB := Lib.hid (show hexAll s = false → .tuple #[.agg #[.int .u8 0, .int .u8 0, .int .u8 0], .int .i64 6] = V from fun h => by
    rw [← hV, parseC, parseE, parseOk, h, Bool.and_false]; rfl)
  have HG := Lib.hid (show hexAll s = true → ∀ R, ((textB (parseRaw s)).toList == s.toList) = R → .tuple #[.agg #[.int .u8 ((if R then parseRaw s else black)).r, .int .u8 ((if R then parseRaw s else black)).g, .int .u8 ((if R then parseRaw s else black)).b], .int .i64 (if R then 0 else 6)] = V from fun h R hR => by
    rw [← hV, parseC, parseE, parseOk, h, ← hR, text_parse hs h, decide_eq_true hs, Bool.true_and, Bool.and_true])
  clear hV
  have HA := Lib.hid (hexAll_iff (s := s))
  have HR := Lib.hid (show parseRaw s = ⟨dig (bt s 1) * 16 + dig (bt s 2), dig (bt s 3) * 16 + dig (bt s 4), dig (bt s 5) * 16 + dig (bt s 6)⟩ from rfl)
  obtain ⟨A, hA⟩ : ∃ A, hexAll s = A := ⟨_, rfl⟩
  rw [hA] at HB HG HA
  clear hA
  generalize parseRaw s = P at *
  have b1 := bt_at (s := s) (i := 1) (by omega)
  obtain ⟨l1, u1⟩ := dig_le (bt s 1)
  have C1 := fun b c w h => Lib.hid (index_hex b c (bt s 1) w h)
  generalize dig (bt s 1) = d1 at *
  generalize bt s 1 = x1 at *
  have b2 := bt_at (s := s) (i := 2) (by omega)
  obtain ⟨l2, u2⟩ := dig_le (bt s 2)
  have C2 := fun b c w h => Lib.hid (index_hex b c (bt s 2) w h)
  generalize dig (bt s 2) = d2 at *
  generalize bt s 2 = x2 at *
  have b3 := bt_at (s := s) (i := 3) (by omega)
  obtain ⟨l3, u3⟩ := dig_le (bt s 3)
  have C3 := fun b c w h => Lib.hid (index_hex b c (bt s 3) w h)
  generalize dig (bt s 3) = d3 at *
  generalize bt s 3 = x3 at *
  have b4 := bt_at (s := s) (i := 4) (by omega)
  obtain ⟨l4, u4⟩ := dig_le (bt s 4)
  have C4 := fun b c w h => Lib.hid (index_hex b c (bt s 4) w h)
  generalize dig (bt s 4) = d4 at *
  generalize bt s 4 = x4 at *
  have b5 := bt_at (s := s) (i := 5) (by omega)
  obtain ⟨l5, u5⟩ := dig_le (bt s 5)
  have C5 := fun b c w h => Lib.hid (index_hex b c (bt s 5) w h)
  generalize dig (bt s 5) = d5 at *
  generalize bt s 5 = x5 at *
  have b6 := bt_at (s := s) (i := 6) (by omega)
  obtain ⟨l6, u6⟩ := dig_le (bt s 6)
  have C6 := fun b c w h => Lib.hid (index_hex b c (bt s 6) w h)
  generalize dig (bt s 6) = d6 at *
  generalize bt s 6 = x6 at *
  have kc := fun (w : World) (C : Array Value) (n c g : Nat) (hg : g = w.heap.size) => Go.Joins.run_convert_bytes_const_at (P := Try.prog) w 63 5 C n c g hg Try.underlying63 Try.underlying5
  go_enter Try.func17, Try.ntmps17
  go_wp2
  refine wp_loop_rounds 7 ?_
  repeat any_goals (rw [rounds_succ]; go_wp2_with (first
    | (go_at_call 36; first | ((with_reducible refine (C1 _ _ _ (hex_row (by simp))).out.mono ?_); rintro e w' ⟨rfl, rfl⟩) | ((with_reducible refine (C2 _ _ _ (hex_row (by simp))).out.mono ?_); rintro e w' ⟨rfl, rfl⟩) | ((with_reducible refine (C3 _ _ _ (hex_row (by simp))).out.mono ?_); rintro e w' ⟨rfl, rfl⟩) | ((with_reducible refine (C4 _ _ _ (hex_row (by simp))).out.mono ?_); rintro e w' ⟨rfl, rfl⟩) | ((with_reducible refine (C5 _ _ _ (hex_row (by simp))).out.mono ?_); rintro e w' ⟨rfl, rfl⟩) | ((with_reducible refine (C6 _ _ _ (hex_row (by simp))).out.mono ?_); rintro e w' ⟨rfl, rfl⟩))
    | (refine wp_region_xt (by kernel_rfl) (by kernel_rfl) ?_; (repeat (go_big_quiet_step (first | fail))); refine wpQuiet_nil ?_; intro g)))
  rotate_left 6
  · have hA : A = true := HA.out.2 ⟨by assumption, by assumption, by assumption, by assumption, by assumption, by assumption⟩
    have HG2 := Lib.hid (HG.out hA)
    have TT := fun w h => Lib.hid (Text_any ⟨d1 * 16 + d2, d3 * 16 + d4, d5 * 16 + d6⟩ w h)
    rw [← HR.out] at TT
    have hP : P.ok := by rw [HR.out]; unfold Col.ok U8; simp only; omega
    have TP := fun w => TT w hP
    obtain ⟨R, hR⟩ : ∃ R, ((textB P).toList == s.toList) = R := ⟨_, rfl⟩
    have HG3 := Lib.hid (HG2.out R hR)
    have HR2 := Lib.hid HR.out
    clear hA HG HG2 HA HB TT hP HR
    generalize textB P = T at *
    have HX := Lib.hid (show P.r = d1 * 16 + d2 ∧ P.g = d3 * 16 + d4 ∧ P.b = d5 * 16 + d6 by rw [HR2.out]; exact ⟨rfl, rfl, rfl⟩)
    have TQ := fun w => TP w
    simp only [HX.out.1, HX.out.2.1, HX.out.2.2] at TQ
    clear TP
    refine (RetB.grown (TQ _).out).mono ?_
    rintro e w' ⟨rfl, g, rfl⟩
    cases R
    · go_wp2
      refine bodyPost_ret (v := .tuple #[.agg #[.int .u8 0, .int .u8 0, .int .u8 0], .int .i64 6]) (by simp [results, Try.results17, go_sem]) rfl ?_
      exact RetB.of HG3.out (by repeat' (first | exact Below.refl _ _ | assumption | refine Below.xt ?_ ?_ _ | refine Below.alloc ?_ ?_ _ | refine Below.drew ?_ | refine Below.setCell ?_ ?_ _ | (simp; done) | (simp; omega)))
    · go_wp2
      refine bodyPost_ret (v := .tuple #[.agg #[.int .u8 (d1 * 16 + d2), .int .u8 (d3 * 16 + d4), .int .u8 (d5 * 16 + d6)], .int .i64 0]) (by simp [results, Try.results17, go_sem]) rfl ?_
      exact RetB.of (by rw [← HG3.out, HR2.out]; rfl) (by repeat' (first | exact Below.refl _ _ | assumption | refine Below.xt ?_ ?_ _ | refine Below.alloc ?_ ?_ _ | refine Below.drew ?_ | refine Below.setCell ?_ ?_ _ | (simp; done) | (simp; omega)))
  all_goals
    have hA : A = false := by
      cases hA : A
      · rfl
      · have := HA.out.1 hA
        omega
    have HB2 := HB.out hA
    clear hA
    refine bodyPost_ret (v := .tuple #[.agg #[.int .u8 0, .int .u8 0, .int .u8 0], .int .i64 6]) (by simp [results, Try.results17, go_sem]) rfl ?_
    exact RetB.of HB2 (by repeat' (first | exact Below.refl _ _ | assumption | refine Below.xt ?_ ?_ _ | refine Below.alloc ?_ ?_ _ | refine Below.drew ?_ | refine Below.setCell ?_ ?_ _ | (simp; done) | (simp; omega)))

set_option maxHeartbeats 800000 in
theorem Parse_other (s : ByteArray) (w : World) (hs : s.size ≠ 7) : Calls Try.prog 17 #[.string s] w (RetB (.tuple #[.agg #[.int .u8 (parseC s).r, .int .u8 (parseC s).g, .int .u8 (parseC s).b], .int .i64 (parseE s)]) w) := by
  have e : parseOk s = false := by simp [parseOk, hs]
  have HV := Lib.hid (show Value.tuple #[.agg #[.int .u8 0, .int .u8 0, .int .u8 0], .int .i64 6] = .tuple #[.agg #[.int .u8 (parseC s).r, .int .u8 (parseC s).g, .int .u8 (parseC s).b], .int .i64 (parseE s)] by rw [parseC, parseE, e]; rfl)
  generalize Value.tuple #[.agg #[.int .u8 (parseC s).r, .int .u8 (parseC s).g, .int .u8 (parseC s).b], .int .i64 (parseE s)] = V at *
  have h1 : ((s.size : Int) != 7) = true := by simp; omega
  clear e
  go_enter Try.func17, Try.ntmps17
  go_wp2
  refine bodyPost_ret (v := .tuple #[.agg #[.int .u8 0, .int .u8 0, .int .u8 0], .int .i64 6]) (by simp [results, Try.results17, go_sem]) rfl ?_
  exact RetB.of HV.out (by repeat' (first | exact Below.refl _ _ | assumption | refine Below.xt ?_ ?_ _ | refine Below.alloc ?_ ?_ _ | refine Below.drew ?_ | refine Below.setCell ?_ ?_ _ | (simp; done) | (simp; omega)))
theorem Parse_any (s : ByteArray) (w : World) : Calls Try.prog 17 #[.string s] w (RetB (.tuple #[.agg #[.int .u8 (parseC s).r, .int .u8 (parseC s).g, .int .u8 (parseC s).b], .int .i64 (parseE s)]) w) := by
  by_cases h : s.size = 7
  · exact Parse_seven s w h
  · exact Parse_other s w h

end Go.Proofs.Ytkekhnclbkachaa

/- Walks: the text of a colour, by the program and by the reference. Conditions stand in each theorem. -/
import Derived.Test.YtkekhnclbkachaaColW1
import Derived.Test.YtkekhnclbkachaaSg
import Derived.Lib.SmallJoins
import Derived.Lib.SlBytesRow
import Derived.Deep.RegionLawGrows
import Derived.Deep.AppendLies
namespace Go.Proofs.Ytkekhnclbkachaa
open Go.RowKit
set_option linter.unusedVariables false
set_option linter.unusedSimpArgs false

theorem infoU8 : (Try.prog.info? 5).map (fun i => (i.zero, i.size, i.bytes)) = some (some (.int .u8 0), 1, 1) := by kernel_rfl
def hexS : ByteArray := ⟨#[48, 49, 50, 51, 52, 53, 54, 55, 56, 57, 97, 98, 99, 100, 101, 102]⟩
def hexB (n : Nat) : UInt8 := #[48, 49, 50, 51, 52, 53, 54, 55, 56, 57, 97, 98, 99, 100, 101, 102].getD n 0
def hexd (n : Nat) : Int := ((hexB n).toNat : Int)
theorem hex_0 (w : World) : (Instr.index 9 (.string ⟨#[48, 49, 50, 51, 52, 53, 54, 55, 56, 57, 97, 98, 99, 100, 101, 102]⟩) (.int .u8 ((0 : Nat) : Int))).run Try.prog w = .ok (.int .u8 (hexd 0)) w := by kernel_rfl
theorem hex_1 (w : World) : (Instr.index 9 (.string ⟨#[48, 49, 50, 51, 52, 53, 54, 55, 56, 57, 97, 98, 99, 100, 101, 102]⟩) (.int .u8 ((1 : Nat) : Int))).run Try.prog w = .ok (.int .u8 (hexd 1)) w := by kernel_rfl
theorem hex_2 (w : World) : (Instr.index 9 (.string ⟨#[48, 49, 50, 51, 52, 53, 54, 55, 56, 57, 97, 98, 99, 100, 101, 102]⟩) (.int .u8 ((2 : Nat) : Int))).run Try.prog w = .ok (.int .u8 (hexd 2)) w := by kernel_rfl
theorem hex_3 (w : World) : (Instr.index 9 (.string ⟨#[48, 49, 50, 51, 52, 53, 54, 55, 56, 57, 97, 98, 99, 100, 101, 102]⟩) (.int .u8 ((3 : Nat) : Int))).run Try.prog w = .ok (.int .u8 (hexd 3)) w := by kernel_rfl
theorem hex_4 (w : World) : (Instr.index 9 (.string ⟨#[48, 49, 50, 51, 52, 53, 54, 55, 56, 57, 97, 98, 99, 100, 101, 102]⟩) (.int .u8 ((4 : Nat) : Int))).run Try.prog w = .ok (.int .u8 (hexd 4)) w := by kernel_rfl
theorem hex_5 (w : World) : (Instr.index 9 (.string ⟨#[48, 49, 50, 51, 52, 53, 54, 55, 56, 57, 97, 98, 99, 100, 101, 102]⟩) (.int .u8 ((5 : Nat) : Int))).run Try.prog w = .ok (.int .u8 (hexd 5)) w := by kernel_rfl
theorem hex_6 (w : World) : (Instr.index 9 (.string ⟨#[48, 49, 50, 51, 52, 53, 54, 55, 56, 57, 97, 98, 99, 100, 101, 102]⟩) (.int .u8 ((6 : Nat) : Int))).run Try.prog w = .ok (.int .u8 (hexd 6)) w := by kernel_rfl
theorem hex_7 (w : World) : (Instr.index 9 (.string ⟨#[48, 49, 50, 51, 52, 53, 54, 55, 56, 57, 97, 98, 99, 100, 101, 102]⟩) (.int .u8 ((7 : Nat) : Int))).run Try.prog w = .ok (.int .u8 (hexd 7)) w := by kernel_rfl
theorem hex_8 (w : World) : (Instr.index 9 (.string ⟨#[48, 49, 50, 51, 52, 53, 54, 55, 56, 57, 97, 98, 99, 100, 101, 102]⟩) (.int .u8 ((8 : Nat) : Int))).run Try.prog w = .ok (.int .u8 (hexd 8)) w := by kernel_rfl
theorem hex_9 (w : World) : (Instr.index 9 (.string ⟨#[48, 49, 50, 51, 52, 53, 54, 55, 56, 57, 97, 98, 99, 100, 101, 102]⟩) (.int .u8 ((9 : Nat) : Int))).run Try.prog w = .ok (.int .u8 (hexd 9)) w := by kernel_rfl
theorem hex_10 (w : World) : (Instr.index 9 (.string ⟨#[48, 49, 50, 51, 52, 53, 54, 55, 56, 57, 97, 98, 99, 100, 101, 102]⟩) (.int .u8 ((10 : Nat) : Int))).run Try.prog w = .ok (.int .u8 (hexd 10)) w := by kernel_rfl
theorem hex_11 (w : World) : (Instr.index 9 (.string ⟨#[48, 49, 50, 51, 52, 53, 54, 55, 56, 57, 97, 98, 99, 100, 101, 102]⟩) (.int .u8 ((11 : Nat) : Int))).run Try.prog w = .ok (.int .u8 (hexd 11)) w := by kernel_rfl
theorem hex_12 (w : World) : (Instr.index 9 (.string ⟨#[48, 49, 50, 51, 52, 53, 54, 55, 56, 57, 97, 98, 99, 100, 101, 102]⟩) (.int .u8 ((12 : Nat) : Int))).run Try.prog w = .ok (.int .u8 (hexd 12)) w := by kernel_rfl
theorem hex_13 (w : World) : (Instr.index 9 (.string ⟨#[48, 49, 50, 51, 52, 53, 54, 55, 56, 57, 97, 98, 99, 100, 101, 102]⟩) (.int .u8 ((13 : Nat) : Int))).run Try.prog w = .ok (.int .u8 (hexd 13)) w := by kernel_rfl
theorem hex_14 (w : World) : (Instr.index 9 (.string ⟨#[48, 49, 50, 51, 52, 53, 54, 55, 56, 57, 97, 98, 99, 100, 101, 102]⟩) (.int .u8 ((14 : Nat) : Int))).run Try.prog w = .ok (.int .u8 (hexd 14)) w := by kernel_rfl
theorem hex_15 (w : World) : (Instr.index 9 (.string ⟨#[48, 49, 50, 51, 52, 53, 54, 55, 56, 57, 97, 98, 99, 100, 101, 102]⟩) (.int .u8 ((15 : Nat) : Int))).run Try.prog w = .ok (.int .u8 (hexd 15)) w := by kernel_rfl
theorem hex_index : ∀ {n : Nat}, n < 16 → ∀ (w : World), (Instr.index 9 (.string ⟨#[48, 49, 50, 51, 52, 53, 54, 55, 56, 57, 97, 98, 99, 100, 101, 102]⟩) (.int .u8 (n : Int))).run Try.prog w = .ok (.int .u8 (hexd n)) w
  | 0, _, w => hex_0 w
  | 1, _, w => hex_1 w
  | 2, _, w => hex_2 w
  | 3, _, w => hex_3 w
  | 4, _, w => hex_4 w
  | 5, _, w => hex_5 w
  | 6, _, w => hex_6 w
  | 7, _, w => hex_7 w
  | 8, _, w => hex_8 w
  | 9, _, w => hex_9 w
  | 10, _, w => hex_10 w
  | 11, _, w => hex_11 w
  | 12, _, w => hex_12 w
  | 13, _, w => hex_13 w
  | 14, _, w => hex_14 w
  | 15, _, w => hex_15 w
  | n + 16, h, _ => absurd h (by omega)
theorem cell_marked {w : World} {cs : Array Value} {t : TypeId} {fr : Nat × Nat} {m j : Nat} {v : Value} (hm : m = w.heap.size) (hv : cs[j]? = some v) : (w.alloc (.cells cs t fr)).cell? ⟨m, j, none⟩ = some v := by
  subst hm
  rw [cell_of_row _ _ j cs t fr (heap_alloc_new w _)]
  exact hv
theorem one_cell {w : World} {g : Nat} {v : Value} (h : w.cell? ⟨g, 0, none⟩ = some v) : ∀ j u, [v][j]? = some u → w.cell? ((⟨g, 0, none⟩ : Addr).add j) = some u := by
  intro j u hu
  match j, hu with
  | 0, hu => simp at hu; subst hu; rw [zero_add_addr]; exact h
  | j + 1, hu => simp at hu
/-- The text of a colour. -/
def textB (c : Col) : ByteArray := ⟨#[35, hexB (c.r.toNat / 16), hexB (c.r.toNat % 16), hexB (c.g.toNat / 16), hexB (c.g.toNat % 16), hexB (c.b.toNat / 16), hexB (c.b.toNat % 16)]⟩

theorem digit_facts {x : Int} (h : U8 x) : IntKind.u8.wrap (x.tdiv 16) = ((x.toNat / 16 : Nat) : Int) ∧ x.tmod 16 = ((x.toNat % 16 : Nat) : Int) ∧ x.toNat / 16 < 16 ∧ x.toNat % 16 < 16 := by
  obtain ⟨h0, h1⟩ := h
  obtain ⟨n, rfl⟩ := Int.eq_ofNat_of_zero_le h0
  rw [Int.tdiv_eq_ediv_of_nonneg h0, Int.tmod_eq_emod_of_nonneg h0]
  refine ⟨?_, by omega, by simp; omega, by simp; omega⟩
  have : ((n : Int) / 16) = ((n / 16 : Nat) : Int) := by omega
  simp only [Int.toNat_natCast, this]
  exact IntWalk.u8_in _ (by omega)

theorem text_bytes {w : World} {g a b c d e f : Nat} (h : ∀ (j : Nat) (u : Value), [Value.int .u8 35, .int .u8 (hexd a), .int .u8 (hexd b), .int .u8 (hexd c), .int .u8 (hexd d), .int .u8 (hexd e), .int .u8 (hexd f)][j]? = some u → w.cell? ⟨g, j, none⟩ = some u) :
    Lib.Bytes w g 0 ⟨#[35, hexB a, hexB b, hexB c, hexB d, hexB e, hexB f]⟩ := by
  intro i hi
  rw [Nat.zero_add]
  have hi' : i < 7 := hi
  have : i = 0 ∨ i = 1 ∨ i = 2 ∨ i = 3 ∨ i = 4 ∨ i = 5 ∨ i = 6 := by omega
  rcases this with rfl | rfl | rfl | rfl | rfl | rfl | rfl <;> exact h _ _ rfl
set_option maxHeartbeats 1600000 in
theorem Text_any (c : Col) (w : World) (hc : c.ok) : Calls Try.prog 19 #[.agg #[.int .u8 c.r, .int .u8 c.g, .int .u8 c.b]] w (RetB (.string (textB c)) w) := by
  obtain ⟨qr1, qr2, qr3, qr4⟩ := digit_facts hc.1
  have qr5 := fun w => hex_index qr3 w
  have qr6 := fun w => hex_index qr4 w
  obtain ⟨qg1, qg2, qg3, qg4⟩ := digit_facts hc.2.1
  have qg5 := fun w => hex_index qg3 w
  have qg6 := fun w => hex_index qg4 w
  obtain ⟨qb1, qb2, qb3, qb4⟩ := digit_facts hc.2.2
  have qb5 := fun w => hex_index qb3 w
  have qb6 := fun w => hex_index qb4 w
  have HT := Lib.hid (show textB c = ⟨#[35, hexB (c.r.toNat / 16), hexB (c.r.toNat % 16), hexB (c.g.toNat / 16), hexB (c.g.toNat % 16), hexB (c.b.toNat / 16), hexB (c.b.toNat % 16)]⟩ from rfl)
  obtain ⟨s, hs⟩ : ∃ s, textB c = s := ⟨_, rfl⟩
  rw [hs] at HT ⊢
  clear hs
  obtain ⟨⟨r0, r1⟩, ⟨g0, g1⟩, b0, b1⟩ := hc
  generalize c.r.toNat / 16 = dr at *
  generalize c.r.toNat % 16 = er at *
  generalize c.g.toNat / 16 = dg at *
  generalize c.g.toNat % 16 = eg at *
  generalize c.b.toNat / 16 = db at *
  generalize c.b.toNat % 16 = eb at *
  obtain ⟨i0, hi0, hz0, hz1, hz2⟩ := info_parts infoU8
  have kc := fun (w : World) (C : Array Value) (n c g : Nat) (hg : g = w.heap.size) => Go.Joins.run_convert_bytes_const_at (P := Try.prog) w 63 5 C n c g hg Try.underlying63 Try.underlying5
  go_enter Try.func19, Try.ntmps19
  go_wp2
  refine wp_loop_rounds 4 ?_
  rw [rounds_succ]
  go_wp2_with fail
  go_region_law (refine step_append_grows rfl _ _ 63 rfl 5 i0 _ 1 1 Try.underlying63 hi0 hz0 hz1 hz2 rfl (by omega) (some ⟨w.heap.size + 1, 0, none⟩) 1 1 [.int .u8 35] rfl (by simp) rfl ?_ _ 2 _ [.int .u8 (hexd dr), .int .u8 (hexd er)] rfl rfl ?_ ?_ (by omega) (by simp only [maxLen]; omega) (by omega) ?_; (next => (intro b hb; injection hb with hb; subst hb; refine one_cell ?_; go_simp; exact cell_marked (by simp) rfl)); (next => (refine cells_new _ _ _ _ ?_; simp; done)); (next => (intro u hu; simp only [List.mem_cons, List.not_mem_nil, or_false] at hu; rcases hu with rfl | rfl <;> rfl)); intro v1 w1 hown hgrow; obtain ⟨gq, cq, rfl, hgq, _⟩ := hown.form (by omega); have fg : w1.cell? ⟨w.heap.size + 1 + 1, 1, none⟩ = some (.int .u8 c.g) := (hgrow.cell_far ⟨w.heap.size + 1 + 1, 1, none⟩ (by simp) (by simp)).trans (by go_simp); have fb : w1.cell? ⟨w.heap.size + 1 + 1, 2, none⟩ = some (.int .u8 c.b) := (hgrow.cell_far ⟨w.heap.size + 1 + 1, 2, none⟩ (by simp) (by simp)).trans (by go_simp); have HO := Lib.hid hown; have HG := Lib.hid hgrow; clear hown hgrow)
  all_goals
    have HW := Lib.hid (show Below w.heap.size w w1 from HG.out |> fun h => (show Below w.heap.size w _ from (by repeat' (first | exact Below.refl _ _ | assumption | refine Below.xt ?_ ?_ _ | refine Below.alloc ?_ ?_ _ | refine Below.drew ?_ | refine Below.setCell ?_ ?_ _ | (simp; done) | (simp; omega)))).grown h (by simp; omega) (by simp))
    obtain ⟨B, hB, hs, hg, HO⟩ : ∃ B, w.heap.size + 4 ≤ B ∧ B ≤ w1.heap.size ∧ B ≤ gq ∧ Hid (w1.ownsRow B 5 1 (.slice (some ⟨gq, 0, none⟩) 3 cq) 3 [.int .u8 35, .int .u8 (hexd dr), .int .u8 (hexd er)]) := ⟨_, by first | (simp; done) | (simp; omega), by have := HG.out.size; simpa using this, hgq, HO⟩
    have ho : old (w.heap.size + 1 + 1) w1 := by unfold old; omega
    clear HG hgq
    go_wp2_with fail
    rw [rounds_succ]
    go_wp2_with fail
    go_region_law (refine step_append_lies _ rfl _ _ 63 rfl B 5 i0 _ 1 1 Try.underlying63 hi0 hz0 hz1 hz2 rfl (by omega) (.slice (some ⟨gq, 0, none⟩) 3 cq) 3 _ rfl (own_later HO.out (by repeat' (first | exact Below.refl _ _ | assumption | refine Below.xt ?_ ?_ _ | refine Below.alloc ?_ ?_ _ | refine Below.drew ?_ | refine Below.setCell ?_ ?_ _ | (simp; done) | (simp; omega)))) _ 2 _ [.int .u8 (hexd dg), .int .u8 (hexd eg)] rfl rfl ?_ ?_ (by omega) (by simp only [maxLen]; omega) (by omega) ?_ _ rfl ?_; (next => (refine cells_new _ _ _ _ ?_; simp; done)); (next => (intro u hu; simp only [List.mem_cons, List.not_mem_nil, or_false] at hu; rcases hu with rfl | rfl <;> rfl)); (next => (simp; omega)); intro g2 c2 w2 hown hgrow hat hlt; have HW := Lib.hid (below_app HW.out (by omega) (by repeat' (first | exact Below.refl _ _ | assumption | refine Below.xt ?_ ?_ _ | refine Below.alloc ?_ ?_ _ | refine Below.drew ?_ | refine Below.setCell ?_ ?_ _ | (simp; done) | (simp; omega))) hgrow (fun k e => own_block (by omega) e)); have hg : B ≤ g2 := (hown.lt g2 rfl).1; have hs : B ≤ w2.heap.size := (by omega); have fb : w2.cell? ⟨w.heap.size + 1 + 1, 2, none⟩ = some (.int .u8 c.b) := (hgrow.cell_far ⟨w.heap.size + 1 + 1, 2, none⟩ (by simp; omega) (by simp only [Value.ownBlock, ne_eq, Option.some.injEq]; omega)).trans (by go_simp); have ho : old (w.heap.size + 1 + 1) w2 := (by unfold old; omega); have HO := Lib.hid hown; clear hown hgrow hat hlt)
    all_goals
      go_wp2_with fail
      rw [rounds_succ]
      go_wp2_with fail
      go_region_law (refine step_append_lies _ rfl _ _ 63 rfl B 5 i0 _ 1 1 Try.underlying63 hi0 hz0 hz1 hz2 rfl (by omega) (.slice (some ⟨g2, 0, none⟩) 5 c2) 5 _ rfl (own_later HO.out (by repeat' (first | exact Below.refl _ _ | assumption | refine Below.xt ?_ ?_ _ | refine Below.alloc ?_ ?_ _ | refine Below.drew ?_ | refine Below.setCell ?_ ?_ _ | (simp; done) | (simp; omega)))) _ 2 _ [.int .u8 (hexd db), .int .u8 (hexd eb)] rfl rfl ?_ ?_ (by omega) (by simp only [maxLen]; omega) (by omega) ?_ _ rfl ?_; (next => (refine cells_new _ _ _ _ ?_; simp; done)); (next => (intro u hu; simp only [List.mem_cons, List.not_mem_nil, or_false] at hu; rcases hu with rfl | rfl <;> rfl)); (next => (simp; omega)); intro g3 c3 w3 hown hgrow hat hlt; have HW := Lib.hid (below_app HW.out (by omega) (by repeat' (first | exact Below.refl _ _ | assumption | refine Below.xt ?_ ?_ _ | refine Below.alloc ?_ ?_ _ | refine Below.drew ?_ | refine Below.setCell ?_ ?_ _ | (simp; done) | (simp; omega))) hgrow (fun k e => own_block (by omega) e));  have hg : B ≤ g3 := (hown.lt g3 rfl).1; have hs : B ≤ w3.heap.size := (by omega); have HO := Lib.hid hown; clear hown hgrow hat hlt)
      all_goals
        have h7 : s.size = 7 := by rw [HT.out]; rfl
        have hconv := Lib.run_convert_whole (P := Try.prog) w3 63 5 9 Try.underlying63 Try.underlying5 Try.underlying9 g3 0 s (by rw [HT.out]; exact text_bytes (fun j u hu => own_at HO.out hu)) c3
        rw [h7] at hconv
        go_wp2_with fail
        rw [rounds_succ]
        go_wp2_with fail
        go_ret
        exact RetB.of rfl HW.out
end Go.Proofs.Ytkekhnclbkachaa

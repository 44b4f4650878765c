/- Walks: the text of a colour by the reference. Conditions stand in each theorem. -/
import Derived.Test.YtkekhnclbkachaaColW3
namespace Go.Proofs.Ytkekhnclbkachaa
open Go.RowKit
set_option linter.unusedVariables false
set_option linter.unusedSimpArgs false

theorem hexs_0 (w : World) : (Instr.slice 9 (.string ⟨#[48, 49, 50, 51, 52, 53, 54, 55, 56, 57, 97, 98, 99, 100, 101, 102]⟩) (some (.int .i64 ((0 : Nat) : Int))) (some (.int .i64 (((0 : Nat) : Int) + 1))) none).run Try.prog w = .ok (.string ⟨#[hexB 0]⟩) w := by kernel_rfl
theorem hexs_1 (w : World) : (Instr.slice 9 (.string ⟨#[48, 49, 50, 51, 52, 53, 54, 55, 56, 57, 97, 98, 99, 100, 101, 102]⟩) (some (.int .i64 ((1 : Nat) : Int))) (some (.int .i64 (((1 : Nat) : Int) + 1))) none).run Try.prog w = .ok (.string ⟨#[hexB 1]⟩) w := by kernel_rfl
theorem hexs_2 (w : World) : (Instr.slice 9 (.string ⟨#[48, 49, 50, 51, 52, 53, 54, 55, 56, 57, 97, 98, 99, 100, 101, 102]⟩) (some (.int .i64 ((2 : Nat) : Int))) (some (.int .i64 (((2 : Nat) : Int) + 1))) none).run Try.prog w = .ok (.string ⟨#[hexB 2]⟩) w := by kernel_rfl
theorem hexs_3 (w : World) : (Instr.slice 9 (.string ⟨#[48, 49, 50, 51, 52, 53, 54, 55, 56, 57, 97, 98, 99, 100, 101, 102]⟩) (some (.int .i64 ((3 : Nat) : Int))) (some (.int .i64 (((3 : Nat) : Int) + 1))) none).run Try.prog w = .ok (.string ⟨#[hexB 3]⟩) w := by kernel_rfl
theorem hexs_4 (w : World) : (Instr.slice 9 (.string ⟨#[48, 49, 50, 51, 52, 53, 54, 55, 56, 57, 97, 98, 99, 100, 101, 102]⟩) (some (.int .i64 ((4 : Nat) : Int))) (some (.int .i64 (((4 : Nat) : Int) + 1))) none).run Try.prog w = .ok (.string ⟨#[hexB 4]⟩) w := by kernel_rfl
theorem hexs_5 (w : World) : (Instr.slice 9 (.string ⟨#[48, 49, 50, 51, 52, 53, 54, 55, 56, 57, 97, 98, 99, 100, 101, 102]⟩) (some (.int .i64 ((5 : Nat) : Int))) (some (.int .i64 (((5 : Nat) : Int) + 1))) none).run Try.prog w = .ok (.string ⟨#[hexB 5]⟩) w := by kernel_rfl
theorem hexs_6 (w : World) : (Instr.slice 9 (.string ⟨#[48, 49, 50, 51, 52, 53, 54, 55, 56, 57, 97, 98, 99, 100, 101, 102]⟩) (some (.int .i64 ((6 : Nat) : Int))) (some (.int .i64 (((6 : Nat) : Int) + 1))) none).run Try.prog w = .ok (.string ⟨#[hexB 6]⟩) w := by kernel_rfl
theorem hexs_7 (w : World) : (Instr.slice 9 (.string ⟨#[48, 49, 50, 51, 52, 53, 54, 55, 56, 57, 97, 98, 99, 100, 101, 102]⟩) (some (.int .i64 ((7 : Nat) : Int))) (some (.int .i64 (((7 : Nat) : Int) + 1))) none).run Try.prog w = .ok (.string ⟨#[hexB 7]⟩) w := by kernel_rfl
theorem hexs_8 (w : World) : (Instr.slice 9 (.string ⟨#[48, 49, 50, 51, 52, 53, 54, 55, 56, 57, 97, 98, 99, 100, 101, 102]⟩) (some (.int .i64 ((8 : Nat) : Int))) (some (.int .i64 (((8 : Nat) : Int) + 1))) none).run Try.prog w = .ok (.string ⟨#[hexB 8]⟩) w := by kernel_rfl
theorem hexs_9 (w : World) : (Instr.slice 9 (.string ⟨#[48, 49, 50, 51, 52, 53, 54, 55, 56, 57, 97, 98, 99, 100, 101, 102]⟩) (some (.int .i64 ((9 : Nat) : Int))) (some (.int .i64 (((9 : Nat) : Int) + 1))) none).run Try.prog w = .ok (.string ⟨#[hexB 9]⟩) w := by kernel_rfl
theorem hexs_10 (w : World) : (Instr.slice 9 (.string ⟨#[48, 49, 50, 51, 52, 53, 54, 55, 56, 57, 97, 98, 99, 100, 101, 102]⟩) (some (.int .i64 ((10 : Nat) : Int))) (some (.int .i64 (((10 : Nat) : Int) + 1))) none).run Try.prog w = .ok (.string ⟨#[hexB 10]⟩) w := by kernel_rfl
theorem hexs_11 (w : World) : (Instr.slice 9 (.string ⟨#[48, 49, 50, 51, 52, 53, 54, 55, 56, 57, 97, 98, 99, 100, 101, 102]⟩) (some (.int .i64 ((11 : Nat) : Int))) (some (.int .i64 (((11 : Nat) : Int) + 1))) none).run Try.prog w = .ok (.string ⟨#[hexB 11]⟩) w := by kernel_rfl
theorem hexs_12 (w : World) : (Instr.slice 9 (.string ⟨#[48, 49, 50, 51, 52, 53, 54, 55, 56, 57, 97, 98, 99, 100, 101, 102]⟩) (some (.int .i64 ((12 : Nat) : Int))) (some (.int .i64 (((12 : Nat) : Int) + 1))) none).run Try.prog w = .ok (.string ⟨#[hexB 12]⟩) w := by kernel_rfl
theorem hexs_13 (w : World) : (Instr.slice 9 (.string ⟨#[48, 49, 50, 51, 52, 53, 54, 55, 56, 57, 97, 98, 99, 100, 101, 102]⟩) (some (.int .i64 ((13 : Nat) : Int))) (some (.int .i64 (((13 : Nat) : Int) + 1))) none).run Try.prog w = .ok (.string ⟨#[hexB 13]⟩) w := by kernel_rfl
theorem hexs_14 (w : World) : (Instr.slice 9 (.string ⟨#[48, 49, 50, 51, 52, 53, 54, 55, 56, 57, 97, 98, 99, 100, 101, 102]⟩) (some (.int .i64 ((14 : Nat) : Int))) (some (.int .i64 (((14 : Nat) : Int) + 1))) none).run Try.prog w = .ok (.string ⟨#[hexB 14]⟩) w := by kernel_rfl
theorem hexs_15 (w : World) : (Instr.slice 9 (.string ⟨#[48, 49, 50, 51, 52, 53, 54, 55, 56, 57, 97, 98, 99, 100, 101, 102]⟩) (some (.int .i64 ((15 : Nat) : Int))) (some (.int .i64 (((15 : Nat) : Int) + 1))) none).run Try.prog w = .ok (.string ⟨#[hexB 15]⟩) w := by kernel_rfl
theorem hex_slice : ∀ {n : Nat}, n < 16 → ∀ (w : World), (Instr.slice 9 (.string ⟨#[48, 49, 50, 51, 52, 53, 54, 55, 56, 57, 97, 98, 99, 100, 101, 102]⟩) (some (.int .i64 (n : Int))) (some (.int .i64 ((n : Int) + 1))) none).run Try.prog w = .ok (.string ⟨#[hexB n]⟩) w
  | 0, _, w => hexs_0 w
  | 1, _, w => hexs_1 w
  | 2, _, w => hexs_2 w
  | 3, _, w => hexs_3 w
  | 4, _, w => hexs_4 w
  | 5, _, w => hexs_5 w
  | 6, _, w => hexs_6 w
  | 7, _, w => hexs_7 w
  | 8, _, w => hexs_8 w
  | 9, _, w => hexs_9 w
  | 10, _, w => hexs_10 w
  | 11, _, w => hexs_11 w
  | 12, _, w => hexs_12 w
  | 13, _, w => hexs_13 w
  | 14, _, w => hexs_14 w
  | 15, _, w => hexs_15 w
  | n + 16, h, _ => absurd h (by omega)
theorem digit_facts2 {x : Int} (h : U8 x) : IntKind.i64.wrap x = x ∧ IntKind.i64.wrap (x.tdiv 16) = ((x.toNat / 16 : Nat) : Int) ∧ x.tdiv 16 = ((x.toNat / 16 : Nat) : Int) ∧ x.tmod 16 = ((x.toNat % 16 : Nat) : Int) ∧ x.toNat / 16 < 16 ∧ x.toNat % 16 < 16 := by
  obtain ⟨h0, h1⟩ := h
  obtain ⟨n, rfl⟩ := Int.eq_ofNat_of_zero_le h0
  rw [Int.tdiv_eq_ediv_of_nonneg h0, Int.tmod_eq_emod_of_nonneg h0]
  have e : ((n : Int) / 16) = ((n / 16 : Nat) : Int) := by omega
  simp only [Int.toNat_natCast, e]
  exact ⟨IntWalk.i64_in _ (by omega), IntWalk.i64_in _ (by omega), trivial, by omega, by omega, by omega⟩
theorem text_app (a b c d e f : UInt8) : (⟨#[35]⟩ : ByteArray) ++ ⟨#[a]⟩ ++ ⟨#[b]⟩ ++ ⟨#[c]⟩ ++ ⟨#[d]⟩ ++ ⟨#[e]⟩ ++ ⟨#[f]⟩ = ⟨#[35, a, b, c, d, e, f]⟩ := by
  apply ByteArray.ext
  simp [ByteArray.data_append]
set_option maxHeartbeats 1600000 in
theorem refText_any (c : Col) (w : World) (hc : c.ok) : Calls Try.prog 20 #[.agg #[.int .u8 c.r, .int .u8 c.g, .int .u8 c.b]] w (RetB (.string (textB c)) w) := by
  obtain ⟨qr1, qr2, qr0, qr3, qr4, qr5⟩ := digit_facts2 hc.1
  have qr6 := fun w => hex_slice qr4 w
  have qr7 := fun w => hex_slice qr5 w
  obtain ⟨qg1, qg2, qg0, qg3, qg4, qg5⟩ := digit_facts2 hc.2.1
  have qg6 := fun w => hex_slice qg4 w
  have qg7 := fun w => hex_slice qg5 w
  obtain ⟨qb1, qb2, qb0, qb3, qb4, qb5⟩ := digit_facts2 hc.2.2
  have qb6 := fun w => hex_slice qb4 w
  have qb7 := fun w => hex_slice qb5 w
  have HT := Lib.hid (show textB c = ⟨#[35, hexB (c.r.toNat / 16), hexB (c.r.toNat % 16), hexB (c.g.toNat / 16), hexB (c.g.toNat % 16), hexB (c.b.toNat / 16), hexB (c.b.toNat % 16)]⟩ from rfl)
  obtain ⟨s, hs⟩ : ∃ s, textB c = s := ⟨_, rfl⟩
  rw [hs] at HT ⊢
  clear hs
  obtain ⟨⟨r0, r1⟩, ⟨g0, g1⟩, b0, b1⟩ := hc
  generalize c.r.toNat / 16 = dr at *
  generalize c.r.toNat % 16 = er at *
  have ur : IntKind.i64.wrap ((dr : Int) + 1) = (dr : Int) + 1 := IntWalk.i64_in _ (by omega)
  have vr : IntKind.i64.wrap ((er : Int) + 1) = (er : Int) + 1 := IntWalk.i64_in _ (by omega)
  generalize c.g.toNat / 16 = dg at *
  generalize c.g.toNat % 16 = eg at *
  have ug : IntKind.i64.wrap ((dg : Int) + 1) = (dg : Int) + 1 := IntWalk.i64_in _ (by omega)
  have vg : IntKind.i64.wrap ((eg : Int) + 1) = (eg : Int) + 1 := IntWalk.i64_in _ (by omega)
  generalize c.b.toNat / 16 = db at *
  generalize c.b.toNat % 16 = eb at *
  have ub : IntKind.i64.wrap ((db : Int) + 1) = (db : Int) + 1 := IntWalk.i64_in _ (by omega)
  have vb : IntKind.i64.wrap ((eb : Int) + 1) = (eb : Int) + 1 := IntWalk.i64_in _ (by omega)
  go_enter Try.func20, Try.ntmps20
  go_wp2_with fail
  refine wp_loop_rounds 4 ?_
  repeat any_goals (rw [rounds_succ]; go_wp2_with (first
    | (refine wp_region_xt (by kernel_rfl) (by kernel_rfl) ?_; (repeat (go_big_quiet_step (first | fail))); refine wpQuiet_nil ?_; intro g)))
  go_ret
  exact RetB.of (congrArg Value.string (by rw [HT.out]; exact text_app _ _ _ _ _ _)) (by repeat' (first | exact Below.refl _ _ | assumption | refine Below.xt ?_ ?_ _ | refine Below.alloc ?_ ?_ _ | refine Below.drew ?_ | refine Below.setCell ?_ ?_ _ | (simp; done) | (simp; omega)))

end Go.Proofs.Ytkekhnclbkachaa

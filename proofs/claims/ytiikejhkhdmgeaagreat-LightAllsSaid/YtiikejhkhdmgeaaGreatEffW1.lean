
/- Walks of the small functions of effects: each call returns what the plain law says. Conditions stand in each theorem. -/
import Derived.Test.YtiikejhkhdmgeaaGreatProg
import Derived.Test.YtiikejhkhdmgeaaGreatEffP
namespace Go.Proofs.YtiikejhkhdmgeaaGreat
open Go.RowKit

set_option maxHeartbeats 400000 in
theorem within_any (a b c : Int) (w : World) :
    Calls Tryz.prog 88 #[.int .i64 a, .int .i64 b, .int .i64 c] w (Ret (.bool (within a b c)) w) := by
  go_enter Tryz.func88, Tryz.ntmps88
  go_wp2
  all_goals go_ret
  all_goals refine Ret.of (bool_eq ?_)
  all_goals
    unfold within
    simp
    try omega

set_option maxHeartbeats 400000 in
theorem to_any (a b c : Int) (w : World) :
    Calls Tryz.prog 36 #[.int .i64 a, .int .i64 b, .int .i64 c] w (Ret (.bool (within a b c)) w) := by
  go_enter Tryz.func36, Tryz.ntmps36
  go_wp2
  all_goals go_ret
  all_goals refine Ret.of (bool_eq ?_)
  all_goals
    unfold within
    simp
    try omega

theorem tmod_le {a b : Int} (hb : 1 ≤ b) : -b < a.tmod b ∧ a.tmod b < b := by
  have h7 := Int.tmod_lt_of_pos a (show 0 < b by omega)
  rcases Int.le_total 0 a with h | h
  · have := Int.tmod_nonneg b h; omega
  · have := Int.tmod_nonneg b (show 0 ≤ -a by omega)
    have h8 := Int.tmod_lt_of_pos (-a) (show 0 < b by omega)
    rw [Int.neg_tmod] at *
    omega

theorem tmod_rest' {a b : Int} (hb : 1 ≤ b) : (a.tmod b + b) % b = a % b := by
  have h := tmod_rest (a := a) hb
  rwa [Int.tmod_eq_emod_of_nonneg (by have := (tmod_le (a := a) hb).1; omega)] at h

set_option maxHeartbeats 400000 in
theorem rest_any (a b : Int) (w : World) (hb : 1 ≤ b) (hb' : b ≤ 4611686018427387904) :
    Calls Tryz.prog 91 #[.int .i64 a, .int .i64 b] w (Ret (.int .i64 (a % b)) w) := by
  have h1 := (tmod_le (a := a) hb).1
  have h2 := (tmod_le (a := a) hb).2
  go_enter Tryz.func91, Tryz.ntmps91
  go_wp2
  go_ret
  refine Ret.of (int_eq ?_)
  exact tmod_rest' hb

set_option maxHeartbeats 400000 in
theorem down_any (a b : Int) (w : World) (hb : 1 ≤ b) (ha : -4611686018427387904 ≤ a) (ha' : a ≤ 4611686018427387904) :
    Calls Tryz.prog 93 #[.int .i64 a, .int .i64 b] w (Ret (.int .i64 (a / b)) w) := by
  have h1 := tdiv_floor (a := a) hb
  have hd : -4611686018427387904 ≤ a.tdiv b ∧ a.tdiv b ≤ 4611686018427387904 := by
    have e : (a.tdiv b).natAbs = a.natAbs / b.natAbs := Int.natAbs_tdiv a b
    have e2 : a.natAbs / b.natAbs ≤ a.natAbs := Nat.div_le_self _ _
    generalize a.natAbs / b.natAbs = q at *
    omega
  have hd1 := hd.1
  have hd2 := hd.2
  clear hd
  by_cases hn : a.tmod b < 0
  · rw [if_pos hn] at h1
    have H1 := Lib.hid h1
    clear h1
    go_enter Tryz.func93, Tryz.ntmps93
    go_wp2
    go_ret
    exact Ret.of (int_eq H1.out)
  · rw [if_neg hn] at h1
    have H1 := Lib.hid h1
    clear h1
    go_enter Tryz.func93, Tryz.ntmps93
    go_wp2
    go_ret
    exact Ret.of (int_eq H1.out)

set_option maxHeartbeats 400000 in
theorem mix_any (a b num den : Int) (w : World) (ha : U8 a) (hb : U8 b) (hd : 1 ≤ den) (hd' : den ≤ 3600000) (h0 : 0 ≤ num) (h1 : num ≤ den) :
    Calls Tryz.prog 92 #[.int .u8 a, .int .u8 b, .int .i64 num, .int .i64 den] w (Ret (.int .u8 (mixPart a b num den)) w) := by
  obtain ⟨p1, p2, p3, p4⟩ := mixPart_prods ha hb hd hd' h0 h1
  obtain ⟨m1, m2⟩ := mixPart_le ha hb hd h0 h1
  obtain ⟨a1, a2⟩ := ha
  obtain ⟨b1, b2⟩ := hb
  unfold mixPart at m1 m2 ⊢
  go_enter Tryz.func92, Tryz.ntmps92
  go_wp2
  go_ret
  exact Ret.of (int_eq rfl)

theorem part_facts {a b num den : Int} (ha : U8 a) (hb : U8 b) (hd : 1 ≤ den) (hd' : den ≤ 3600000) (h0 : 0 ≤ num) (h1 : num ≤ den) :
    0 ≤ a * den ∧ a * den ≤ 918000000 ∧ -918000000 ≤ (b - a) * num ∧ (b - a) * num ≤ 918000000 := by
  unfold U8 at *
  have e1 := mul_le_of (a := a) (b := den) (A := 255) (B := 3600000) (by omega) (by omega)
  have e2 := mul_le_of (a := b - a) (b := num) (A := 255) (B := 3600000) (by omega) (by omega)
  have e3 : 0 ≤ a * den := Int.mul_nonneg ha.1 (by omega)
  omega

set_option maxHeartbeats 400000 in
theorem part_any (a b num den : Int) (w : World) (ha : U8 a) (hb : U8 b) (hd : 1 ≤ den) (hd' : den ≤ 3600000) (h0 : 0 ≤ num) (h1 : num ≤ den) :
    Calls Tryz.prog 94 #[.int .i64 a, .int .i64 b, .int .i64 num, .int .i64 den] w (Ret (.int .u8 (mixPart a b num den)) w) := by
  obtain ⟨p1, p2, p3, p4⟩ := part_facts ha hb hd hd' h0 h1
  obtain ⟨m1, m2⟩ := mixPart_le ha hb hd h0 h1
  obtain ⟨a1, a2⟩ := ha
  obtain ⟨b1, b2⟩ := hb
  have hs := fun n => part_search (a := a) (b := b) (num := num) hd n
  have HS := Lib.hid hs
  clear hs
  generalize mixPart a b num den = M at *
  go_enter Tryz.func94, Tryz.ntmps94
  go_wp2

  go_loop [9] (fun n => ∃ k : Int, 0 ≤ k ∧ k ≤ M ∧ n = .int .i64 k) (fun n => (256 - intOf n).toNat)
  case atStart => exact ⟨0, by omega, by omega, rfl⟩
  case round =>
    obtain ⟨k, hk0, hk1, rfl⟩ := hrel
    have q1 : 0 ≤ 2 * k * den := Int.mul_nonneg (by omega) (by omega)
    have q2 := (mul_le_of (a := 2 * k) (b := den) (A := 510) (B := 3600000) (by omega) (by omega)).2
    by_cases hlt : k < M
    · have t1 := ((HS.out k).1 hlt)
      go_wp2
      go_round
      case rel => exact ⟨k + 1, by omega, by omega, rfl⟩
      case measure => simp [intOf]; omega
    · have t1 := ((HS.out k).2 (by omega)).1
      have t2 := ((HS.out k).2 (by omega)).2
      go_wp2
      go_ret
      exact Ret.of (int_eq (by omega))

end Go.Proofs.YtiikejhkhdmgeaaGreat

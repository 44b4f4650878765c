/- Walks of the library's stable sort of spots: rotations. Conditions stand in each theorem. -/
import Derived.Test.YtjeemlnhokihoaaCamT2
namespace Go.Proofs.Ytjeemlnhokihoaa
open Go.RowKit
set_option linter.unusedVariables false
set_option linter.unusedSimpArgs false

theorem Leaves.next {g n cap base : Nat} {f : Nat → Sp} {w w1 : World} {e : Ending} {w2 : World} (h : w.grownBy w1 (some g)) (k : Leaves g n cap base f w1 e w2) : Leaves g n cap base f w e w2 := ⟨k.1, grown_two h k.2.1, k.2.2⟩

set_option maxRecDepth 100000 in
set_option maxHeartbeats 6400000 in
theorem rotate_any (g n cap base : Nat) (f : Nat → Sp) (a m b : Nat) (w : World) (hown : w.ownsRow base 35 5 (.slice (some ⟨g, 0, none⟩) n cap) n (rowS f n)) (h1 : a < m) (h2 : m < b) (h3 : b ≤ n) (hn : n ≤ 4294967296) :
    Calls Try.prog 53 #[.slice (some ⟨g, 0, none⟩) n cap, .int .i64 (a : Int), .int .i64 (m : Int), .int .i64 (b : Int), .func (.func 40) #[] #[]] w (Leaves g n cap base (rot f a m b) w) := by
  have HO := Lib.hid hown
  clear hown
  have w1 : IntKind.i64.wrap ((m : Int) - (a : Int)) = ((m - a : Nat) : Int) := by rw [show ((m - a : Nat) : Int) = (m : Int) - (a : Int) by omega]; exact IntWalk.i64_in _ (by omega)
  have w2 : IntKind.i64.wrap ((b : Int) - (m : Int)) = ((b - m : Nat) : Int) := by rw [show ((b - m : Nat) : Int) = (b : Int) - (m : Int) by omega]; exact IntWalk.i64_in _ (by omega)
  obtain ⟨i0, hi0⟩ : ∃ i0, m - a = i0 := ⟨_, rfl⟩
  obtain ⟨j0, hj0⟩ : ∃ j0, b - m = j0 := ⟨_, rfl⟩
  rw [hi0] at w1
  rw [hj0] at w2
  have HT := Lib.hid (show rot f (m - i0) m (m + j0) = rot f a m b by rw [show m - i0 = a by omega, show m + j0 = b by omega])
  have HB := Lib.hid (show 1 ≤ i0 ∧ 1 ≤ j0 ∧ i0 ≤ m ∧ m + j0 ≤ n by omega)
  clear hi0 hj0
  obtain ⟨R, hR⟩ : ∃ R, rot f a m b = R := ⟨_, rfl⟩
  rw [hR] at HT ⊢
  clear hR
  go_enter Try.func53, Try.ntmps53
  go_wp2_with fail
  clear w1 w2 h1 h2 h3
  go_loopw [10, 11] (fun i j wr => ∃ (x y : Nat) (h : Nat → Sp), Hid (1 ≤ x ∧ 1 ≤ y ∧ x ≤ m ∧ m + y ≤ n) ∧ i = .int .i64 x ∧ j = .int .i64 y ∧ Hid (rot h (m - x) m (m + y) = R) ∧ Hid (w.grownBy wr (some g)) ∧ Hid (wr.ownsRow base 35 5 (.slice (some ⟨g, 0, none⟩) n cap) n (rowS h n))) (fun i j _ => (intOf i).toNat + (intOf j).toNat)
  case atStart => exact ⟨i0, j0, f, HB, rfl, rfl, HT, Lib.hid (World.grownBy.refl _ _), HO⟩
  case round =>
    clear HT HB HO
    obtain ⟨x, y, h, HB, rfl, rfl, HT, HG, HR⟩ := hrel
    obtain ⟨b1, b2, b3, b4⟩ := HB.out
    obtain ⟨mx, hmx⟩ : ∃ p, m - x = p := ⟨_, rfl⟩
    have w1 : IntKind.i64.wrap ((m : Int) - (x : Int)) = (mx : Int) := by rw [show (mx : Int) = (m : Int) - (x : Int) by omega]; exact IntWalk.i64_in _ (by omega)
    rw [hmx] at HT
    by_cases hne : x = y
    · subst hne
      --A{
      have C := fun w ho => Lib.hid (swapR_any g n cap base h mx m x w ho (by omega) (by omega) hn)
      have HE := Lib.hid (show swR h mx m x = R by have e := rot_eq (f := h) b3; rw [hmx] at e; exact e.trans HT.out)
      clear b1 b2 b3 b4 hmx
      go_wp2_with fail
      refine (C _ HR.out).out.mono ?_
      rintro e w' ⟨rfl, hg, ho⟩
      rw [HE.out] at ho
      have HG2 := Lib.hid (grown_two HG.out hg)
      have HO2 := Lib.hid ho
      clear hg ho
      go_wp2_with fail
      go_end0
      exact ⟨rfl, HG2.out, HO2.out⟩
      --A}
    · have d0 : ((x : Int) == (y : Int)) = false := by simp; omega
      obtain ⟨my, hmy⟩ : ∃ p, m + y = p := ⟨_, rfl⟩
      have w2 : IntKind.i64.wrap ((m : Int) + (y : Int)) = (my : Int) := by rw [show (my : Int) = (m : Int) + (y : Int) by omega]; exact IntWalk.i64_in _ (by omega)
      rw [hmy] at HT
      by_cases hlt : y < x
      · have d1 : decide ((y : Int) < (x : Int)) = true := by simp; omega
        have d1' : decide (y < x) = true := by simp; omega
        --B{
        obtain ⟨z, hz⟩ : ∃ p, x - y = p := ⟨_, rfl⟩
        have C := fun w ho => Lib.hid (swapR_any g n cap base h mx m y w ho (by omega) (by omega) hn)
        have HE := Lib.hid (show rot (swR h mx m y) (m - z) m (m + y) = R by have e := rot_gt (f := h) hlt b3; rw [hmx, hz] at e; rw [e, hmy]; exact HT.out)
        have w3 : IntKind.i64.wrap ((x : Int) - (y : Int)) = (z : Int) := by rw [show (z : Int) = (x : Int) - (y : Int) by omega]; exact IntWalk.i64_in _ (by omega)
        have HB2 := Lib.hid (show 1 ≤ z ∧ 1 ≤ y ∧ z ≤ m ∧ m + y ≤ n by omega)
        have HM := Lib.hid (show z < x by omega)
        clear b1 b2 b3 b4 hmx hmy hz hlt hne
        go_wp2_with fail
        refine (C _ HR.out).out.mono ?_
        rintro e w' ⟨rfl, hg, ho⟩
        have HG2 := Lib.hid (grown_two HG.out hg)
        have HO2 := Lib.hid ho
        clear hg ho
        go_wp2_with fail
        go_roundw
        case rel => exact ⟨z, y, _, HB2, rfl, rfl, HE, HG2, HO2⟩
        case measure => have := HM.out; simp [intOf]; omega
        --B}
      · have d1 : decide ((y : Int) < (x : Int)) = false := by simp; omega
        have d1' : decide (y < x) = false := by simp; omega
        --C{
        obtain ⟨z, hz⟩ : ∃ p, y - x = p := ⟨_, rfl⟩
        obtain ⟨q, hq⟩ : ∃ p, m + y - x = p := ⟨_, rfl⟩
        have w4 : IntKind.i64.wrap ((my : Int) - (x : Int)) = (q : Int) := by rw [show (q : Int) = (my : Int) - (x : Int) by omega]; exact IntWalk.i64_in _ (by omega)
        have C := fun w ho => Lib.hid (swapR_any g n cap base h mx q x w ho (by omega) (by omega) hn)
        have HE := Lib.hid (show rot (swR h mx q x) (m - x) m (m + z) = R by have e := rot_lt (f := h) (show x < y by omega) b3; rw [hq, hmx, hz] at e; rw [hmx, e, hmy]; exact HT.out)
        have w3 : IntKind.i64.wrap ((y : Int) - (x : Int)) = (z : Int) := by rw [show (z : Int) = (y : Int) - (x : Int) by omega]; exact IntWalk.i64_in _ (by omega)
        have HB2 := Lib.hid (show 1 ≤ x ∧ 1 ≤ z ∧ x ≤ m ∧ m + z ≤ n by omega)
        have HM := Lib.hid (show z < y by omega)
        clear b1 b2 b3 b4 hmx hmy hz hq hlt hne
        go_wp2_with fail
        refine (C _ HR.out).out.mono ?_
        rintro e w' ⟨rfl, hg, ho⟩
        have HG2 := Lib.hid (grown_two HG.out hg)
        have HO2 := Lib.hid ho
        clear hg ho
        go_wp2_with fail
        go_roundw
        case rel => exact ⟨x, z, _, HB2, rfl, rfl, HE, HG2, HO2⟩
        case measure => have := HM.out; simp [intOf]; omega
        --C}

end Go.Proofs.Ytjeemlnhokihoaa

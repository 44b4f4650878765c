/- Walks of the library's stable sort of spots: exchanges and rotations. Conditions stand in each theorem. -/
import Derived.Test.YtjeemlnhokihoaaCamT1
namespace Go.Proofs.Ytjeemlnhokihoaa
open Go.RowKit
set_option linter.unusedVariables false
set_option linter.unusedSimpArgs false

/-- The call leaves this row in its place. -/
def Leaves (g n cap base : Nat) (f : Nat → Sp) (w : World) (e : Ending) (w' : World) : Prop := e = .returned (.tuple #[]) ∧ w.grownBy w' (some g) ∧ w'.ownsRow base 35 5 (.slice (some ⟨g, 0, none⟩) n cap) n (rowS f n)

theorem flat_ex {f : Nat → Sp} {n p q : Nat} (hp : p < n) (hq : q < n) (hpq : p ≠ q) :
    ((((((((((rowS f n).set (p * 5) (.int .i64 (f q).ix)).set (p * 5 + 1) (.int .i64 (f q).x)).set (p * 5 + 2) (.int .i64 (f q).y)).set (p * 5 + 3) (.int .i64 (f q).r)).set (p * 5 + 4) (.int .i64 (f q).d)).set (q * 5) (.int .i64 (f p).ix)).set (q * 5 + 1) (.int .i64 (f p).x)).set (q * 5 + 2) (.int .i64 (f p).y)).set (q * 5 + 3) (.int .i64 (f p).r)).set (q * 5 + 4) (.int .i64 (f p).d) = rowS (ex f p q) n := by
  apply List.ext_getElem?
  intro m
  have hl : (rowS f n).length = n * 5 := flat_length _ _ _
  have hl' : (rowS (ex f p q) n).length = n * 5 := flat_length _ _ _
  by_cases hm : m < n * 5
  · have e : m = m / 5 * 5 + m % 5 := by omega
    have h1 := flat_get (n := n) (s := 5) (f := fun i => scell (f i)) (i := m / 5) (j := m % 5) (by omega) (by omega)
    have h2 := flat_get (n := n) (s := 5) (f := fun i => scell (ex f p q i)) (i := m / 5) (j := m % 5) (by omega) (by omega)
    rw [← e] at h1 h2
    have h1' : (rowS f n)[m]? = some (scell (f (m / 5)) (m % 5)) := h1
    have h2' : (rowS (ex f p q) n)[m]? = some (scell (ex f p q (m / 5)) (m % 5)) := h2
    rw [h2']
    simp only [List.getElem?_set, List.length_set, hl]
    rw [h1']
    have hr : m % 5 = 0 ∨ m % 5 = 1 ∨ m % 5 = 2 ∨ m % 5 = 3 ∨ m % 5 = 4 := by omega
    by_cases hq' : m / 5 = q
    · have es : ex f p q (m / 5) = f p := by unfold ex; rw [if_neg (by omega), if_pos hq']
      rw [es]
      rcases hr with h | h | h | h | h <;> rw [h] <;> (repeat (first | rw [if_neg (by omega)] | rw [if_pos (by omega)])) <;> rfl
    · by_cases hp' : m / 5 = p
      · have es : ex f p q (m / 5) = f q := by unfold ex; rw [if_pos hp']
        rw [es]
        rcases hr with h | h | h | h | h <;> rw [h] <;> (repeat (first | rw [if_neg (by omega)] | rw [if_pos (by omega)])) <;> rfl
      · have es : ex f p q (m / 5) = f (m / 5) := by unfold ex; rw [if_neg hp', if_neg hq']
        rw [es]
        repeat rw [if_neg (by omega)]
  · rw [List.getElem?_eq_none (by simp [hl]; omega), List.getElem?_eq_none (by omega)]

theorem grown_drew {a b : World} {g : Nat} (h : a.grownBy b (some g)) : a.grownBy b.drew (some g) := ⟨h.os, h.tape, h.output, h.size, h.block⟩
theorem own_drwT {w : World} {base : Nat} {e : TypeId} {s n : Nat} {v : Value} {xs : List Value} (h : w.ownsRow base e s v n xs) : w.drew.ownsRow base e s v n xs := h
theorem storedPQ {w : World} {g n cap base : Nat} {T : TypeId} {xs : List Value} (h : w.ownsRow base T 5 (.slice (some ⟨g, 0, none⟩) n cap) n xs) (b0 b1 b2 b3 b4 a0 a1 a2 a3 a4 : Value) (p q : Nat) :
    ((((((((((w.setCell ⟨g, p * 5, none⟩ b0).setCell ⟨g, p * 5 + 1, none⟩ b1).setCell ⟨g, p * 5 + 2, none⟩ b2).setCell ⟨g, p * 5 + 3, none⟩ b3).setCell ⟨g, p * 5 + 4, none⟩ b4).setCell ⟨g, q * 5, none⟩ a0).setCell ⟨g, q * 5 + 1, none⟩ a1).setCell ⟨g, q * 5 + 2, none⟩ a2).setCell ⟨g, q * 5 + 3, none⟩ a3).setCell ⟨g, q * 5 + 4, none⟩ a4).drew.ownsRow base T 5 (.slice (some ⟨g, 0, none⟩) n cap) n
      ((((((((((xs.set (p * 5) b0).set (p * 5 + 1) b1).set (p * 5 + 2) b2).set (p * 5 + 3) b3).set (p * 5 + 4) b4).set (q * 5) a0).set (q * 5 + 1) a1).set (q * 5 + 2) a2).set (q * 5 + 3) a3).set (q * 5 + 4) a4) ∧
    w.grownBy ((((((((((w.setCell ⟨g, p * 5, none⟩ b0).setCell ⟨g, p * 5 + 1, none⟩ b1).setCell ⟨g, p * 5 + 2, none⟩ b2).setCell ⟨g, p * 5 + 3, none⟩ b3).setCell ⟨g, p * 5 + 4, none⟩ b4).setCell ⟨g, q * 5, none⟩ a0).setCell ⟨g, q * 5 + 1, none⟩ a1).setCell ⟨g, q * 5 + 2, none⟩ a2).setCell ⟨g, q * 5 + 3, none⟩ a3).setCell ⟨g, q * 5 + 4, none⟩ a4).drew (some g) := by
  have h0 := h.stored (p * 5) b0
  have h1 := h0.1.stored (p * 5 + 1) b1
  have h2 := h1.1.stored (p * 5 + 2) b2
  have h3 := h2.1.stored (p * 5 + 3) b3
  have h4 := h3.1.stored (p * 5 + 4) b4
  have h5 := h4.1.stored (q * 5) a0
  have h6 := h5.1.stored (q * 5 + 1) a1
  have h7 := h6.1.stored (q * 5 + 2) a2
  have h8 := h7.1.stored (q * 5 + 3) a3
  have h9 := h8.1.stored (q * 5 + 4) a4
  exact ⟨own_drwT h9.1, grown_drew (grown_two (grown_two (grown_two (grown_two (grown_two (grown_two (grown_two (grown_two (grown_two h0.2 h1.2) h2.2) h3.2) h4.2) h5.2) h6.2) h7.2) h8.2) h9.2)⟩

set_option maxRecDepth 100000 in
set_option maxHeartbeats 6400000 in
theorem swapR_any (g n cap base : Nat) (f : Nat → Sp) (a b m : Nat) (w : World) (hown : w.ownsRow base 35 5 (.slice (some ⟨g, 0, none⟩) n cap) n (rowS f n)) (h1 : a + m ≤ b) (h2 : b + m ≤ n) (hn : n ≤ 4294967296) :
    Calls Try.prog 54 #[.slice (some ⟨g, 0, none⟩) n cap, .int .i64 (a : Int), .int .i64 (b : Int), .int .i64 (m : Int), .func (.func 40) #[] #[]] w (Leaves g n cap base (swR f a b m) w) := by
  have HO := Lib.hid hown
  clear hown
  go_enter Try.func54, Try.ntmps54
  go_wp2_with fail
  go_loopw [10] (fun i wr => ∃ k : Nat, k ≤ m ∧ i = .int .i64 k ∧ Hid (w.grownBy wr (some g)) ∧ Hid (wr.ownsRow base 35 5 (.slice (some ⟨g, 0, none⟩) n cap) n (rowS (swR f a b k) n))) (fun i _ => m - (intOf i).toNat)
  case atStart => exact ⟨0, by omega, rfl, Lib.hid (World.grownBy.refl _ _), by rw [swR_zero]; exact HO⟩
  case round =>
    obtain ⟨k, hk, rfl, HG, HR⟩ := hrel
    by_cases hlt : k < m
    · have HS := Lib.hid (swR_succ (f := f) (a := a) (b := b) (n := k) (by omega))
      obtain ⟨p, hp⟩ : ∃ p, a + k = p := ⟨_, rfl⟩
      obtain ⟨q, hq⟩ : ∃ q, b + k = q := ⟨_, rfl⟩
      rw [hp, hq] at HS
      obtain ⟨h, hh⟩ : ∃ h, swR f a b k = h := ⟨_, rfl⟩
      rw [hh] at HS HR
      have w1 : IntKind.i64.wrap ((a : Int) + (k : Int)) = (p : Int) := by rw [← hp]; simp; exact IntWalk.i64_in _ (by omega)
      have w2 : IntKind.i64.wrap ((b : Int) + (k : Int)) = (q : Int) := by rw [← hq]; simp; exact IntWalk.i64_in _ (by omega)
      have p1 : (0 : Int) ≤ (p : Int) := by omega
      have p2 : (p : Int) < (n : Int) := by omega
      have q1 : (0 : Int) ≤ (q : Int) := by omega
      have q2 : (q : Int) < (n : Int) := by omega
      have hpn : p < n := by omega
      have hqn : q < n := by omega
      obtain ⟨a0, a1, a2, a3, a4⟩ := own_cells HR.out hpn
      obtain ⟨b0, b1, b2, b3, b4⟩ := own_cells HR.out hqn
      have hog := own_old HR.out
      have HW := Lib.hid (flat_ex (f := h) hpn hqn (by omega))
      generalize h p = sA at *
      generalize h q = sB at *
      have z0 := HR.out.frozenAt (p * 5)
      have z1 := HR.out.frozenAt (p * 5 + 1)
      have z2 := HR.out.frozenAt (p * 5 + 2)
      have z3 := HR.out.frozenAt (p * 5 + 3)
      have z4 := HR.out.frozenAt (p * 5 + 4)
      have y0 := HR.out.frozenAt (q * 5)
      have y1 := HR.out.frozenAt (q * 5 + 1)
      have y2 := HR.out.frozenAt (q * 5 + 2)
      have y3 := HR.out.frozenAt (q * 5 + 3)
      have y4 := HR.out.frozenAt (q * 5 + 4)
      have hpq : p ≠ q := by omega
      have n00 : ¬ p * 5 = q * 5 := by omega
      have m00 : ¬ q * 5 = p * 5 := by omega
      have n01 : ¬ p * 5 = q * 5 + 1 := by omega
      have m01 : ¬ q * 5 + 1 = p * 5 := by omega
      have n02 : ¬ p * 5 = q * 5 + 2 := by omega
      have m02 : ¬ q * 5 + 2 = p * 5 := by omega
      have n03 : ¬ p * 5 = q * 5 + 3 := by omega
      have m03 : ¬ q * 5 + 3 = p * 5 := by omega
      have n04 : ¬ p * 5 = q * 5 + 4 := by omega
      have m04 : ¬ q * 5 + 4 = p * 5 := by omega
      have n10 : ¬ p * 5 + 1 = q * 5 := by omega
      have m10 : ¬ q * 5 = p * 5 + 1 := by omega
      have n11 : ¬ p * 5 + 1 = q * 5 + 1 := by omega
      have m11 : ¬ q * 5 + 1 = p * 5 + 1 := by omega
      have n12 : ¬ p * 5 + 1 = q * 5 + 2 := by omega
      have m12 : ¬ q * 5 + 2 = p * 5 + 1 := by omega
      have n13 : ¬ p * 5 + 1 = q * 5 + 3 := by omega
      have m13 : ¬ q * 5 + 3 = p * 5 + 1 := by omega
      have n14 : ¬ p * 5 + 1 = q * 5 + 4 := by omega
      have m14 : ¬ q * 5 + 4 = p * 5 + 1 := by omega
      have n20 : ¬ p * 5 + 2 = q * 5 := by omega
      have m20 : ¬ q * 5 = p * 5 + 2 := by omega
      have n21 : ¬ p * 5 + 2 = q * 5 + 1 := by omega
      have m21 : ¬ q * 5 + 1 = p * 5 + 2 := by omega
      have n22 : ¬ p * 5 + 2 = q * 5 + 2 := by omega
      have m22 : ¬ q * 5 + 2 = p * 5 + 2 := by omega
      have n23 : ¬ p * 5 + 2 = q * 5 + 3 := by omega
      have m23 : ¬ q * 5 + 3 = p * 5 + 2 := by omega
      have n24 : ¬ p * 5 + 2 = q * 5 + 4 := by omega
      have m24 : ¬ q * 5 + 4 = p * 5 + 2 := by omega
      have n30 : ¬ p * 5 + 3 = q * 5 := by omega
      have m30 : ¬ q * 5 = p * 5 + 3 := by omega
      have n31 : ¬ p * 5 + 3 = q * 5 + 1 := by omega
      have m31 : ¬ q * 5 + 1 = p * 5 + 3 := by omega
      have n32 : ¬ p * 5 + 3 = q * 5 + 2 := by omega
      have m32 : ¬ q * 5 + 2 = p * 5 + 3 := by omega
      have n33 : ¬ p * 5 + 3 = q * 5 + 3 := by omega
      have m33 : ¬ q * 5 + 3 = p * 5 + 3 := by omega
      have n34 : ¬ p * 5 + 3 = q * 5 + 4 := by omega
      have m34 : ¬ q * 5 + 4 = p * 5 + 3 := by omega
      have n40 : ¬ p * 5 + 4 = q * 5 := by omega
      have m40 : ¬ q * 5 = p * 5 + 4 := by omega
      have n41 : ¬ p * 5 + 4 = q * 5 + 1 := by omega
      have m41 : ¬ q * 5 + 1 = p * 5 + 4 := by omega
      have n42 : ¬ p * 5 + 4 = q * 5 + 2 := by omega
      have m42 : ¬ q * 5 + 2 = p * 5 + 4 := by omega
      have n43 : ¬ p * 5 + 4 = q * 5 + 3 := by omega
      have m43 : ¬ q * 5 + 3 = p * 5 + 4 := by omega
      have n44 : ¬ p * 5 + 4 = q * 5 + 4 := by omega
      have m44 : ¬ q * 5 + 4 = p * 5 + 4 := by omega
      clear hh hp hq
      go_wp2_with fail
      go_region
      go_wp2_with fail
      obtain ⟨q1', q2'⟩ := storedPQ HR.out (.int .i64 sB.ix) (.int .i64 sB.x) (.int .i64 sB.y) (.int .i64 sB.r) (.int .i64 sB.d) (.int .i64 sA.ix) (.int .i64 sA.x) (.int .i64 sA.y) (.int .i64 sA.r) (.int .i64 sA.d) p q
      rw [HW.out, HS.out] at q1'
      exact ⟨⟨k + 1, by omega, by go_num, Lib.hid (grown_two HG.out q2'), Lib.hid q1'⟩, by simp [intOf]; omega⟩
    · obtain rfl : k = m := by omega
      go_wp2_with fail
      go_end0
      exact ⟨rfl, HG.out, HR.out⟩

end Go.Proofs.Ytjeemlnhokihoaa

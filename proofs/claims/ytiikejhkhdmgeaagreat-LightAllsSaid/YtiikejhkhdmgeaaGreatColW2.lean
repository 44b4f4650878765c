
/- Walks: which strings are names, by the program and by the reference. Conditions stand in each theorem. -/
import Derived.Test.YtiikejhkhdmgeaaGreatProg
import Derived.Test.YtiikejhkhdmgeaaGreatEffP
import Derived.Test.YtiikejhkhdmgeaaGreatMem
import Derived.Test.YtiikejhkhdmgeaaGreatTail
namespace Go.Proofs.YtiikejhkhdmgeaaGreat
open Go.RowKit
set_option linter.unusedVariables false
set_option linter.unusedSimpArgs false

/-- Whether a byte may stand in a name at some place. -/
def okX (i : Nat) (x : Int) : Bool := decide (((97 ≤ x ∧ x ≤ 122) ∨ (65 ≤ x ∧ x ≤ 90)) ∨ (0 < i ∧ ((48 ≤ x ∧ x ≤ 57) ∨ x = 45 ∨ x = 95)))
theorem okX_iff {i : Nat} {x : Int} : okX i x = true ↔ ((97 ≤ x ∧ x ≤ 122) ∨ (65 ≤ x ∧ x ≤ 90)) ∨ (0 < i ∧ ((48 ≤ x ∧ x ≤ 57) ∨ x = 45 ∨ x = 95)) := by simp [okX]
/-- The bytes of a string as numbers. -/
def bt (s : ByteArray) (i : Nat) : Int := ((s.data.toList.getD i 0).toNat : Int)
theorem bt_at {s : ByteArray} {i : Nat} (h : i < s.size) : ((s[i].toNat : Nat) : Int) = bt s i := by
  unfold bt
  have h' : i < s.data.toList.length := by simpa using h
  rw [List.getD_eq_getElem?_getD, List.getElem?_eq_getElem h']
  rfl
theorem bt_le (s : ByteArray) (i : Nat) : 0 ≤ bt s i ∧ bt s i ≤ 255 := by
  have := (s.data.toList.getD i 0).toNat_lt
  unfold bt; omega
def goodTo (s : ByteArray) : Nat → Bool
  | 0 => true
  | k + 1 => goodTo s k && okX k (bt s k)
def nameB (s : ByteArray) : Bool := decide (1 ≤ s.size ∧ s.size ≤ 32) && goodTo s s.size
theorem goodTo_mono {s : ByteArray} {k n : Nat} (h : k ≤ n) (hn : goodTo s n = true) : goodTo s k = true := by
  induction n with
  | zero => have : k = 0 := by omega
            subst this; rfl
  | succ n ih =>
    rcases Nat.lt_or_ge n k with h1 | h1
    · have : k = n + 1 := by omega
      subst this; exact hn
    · simp only [goodTo, Bool.and_eq_true] at hn
      exact ih h1 hn.1
theorem goodTo_bad {s : ByteArray} {k n : Nat} (h : k < n) (hk : okX k (bt s k) = false) : goodTo s n = false := by
  cases hg : goodTo s n
  · rfl
  · have := goodTo_mono (k := k + 1) (by omega) hg
    simp [goodTo, hk] at this
/-- What the walk finds out. -/
def NameSo (b : Bool) (w : World) (e : Ending) (w' : World) : Prop := Ret (.bool b) w e w'

set_option maxHeartbeats 800000 in
theorem vname_any (s : ByteArray) (w : World) (hs : s.size ≤ maxLen) : Calls Tryz.prog 55 #[.string s] w (Ret (.bool (nameB s)) w) := by
  unfold maxLen at hs
  obtain ⟨N, hN⟩ : ∃ N, N = s.size := ⟨_, rfl⟩
  obtain ⟨R, hR⟩ : ∃ R, nameB s = R := ⟨_, rfl⟩
  rw [hR]
  have HR := Lib.hid hR
  clear hR
  go_enter Tryz.func55, Tryz.ntmps55
  go_wp2
  go_loop [7] (fun i => ∃ k : Nat, k ≤ s.size ∧ Hid (goodTo s k = true) ∧ i = .int .i64 k) (fun i => s.size - (intOf i).toNat)
  case atStart => exact ⟨0, by omega, Lib.hid rfl, rfl⟩
  case round =>
    obtain ⟨k, hk, HG, rfl⟩ := hrel
    by_cases hlt : k < s.size
    · have hb := bt_at hlt
      obtain ⟨x0, x1⟩ := bt_le s k
      have HS := Lib.hid (show okX k (bt s k) = true → goodTo s (k + 1) = true from fun h => by simp [goodTo, HG.out, h])
      have HF := Lib.hid (show okX k (bt s k) = false → R = false from fun h => by rw [← HR.out, nameB, goodTo_bad hlt h, Bool.and_false])
      go_wp2
      all_goals first
        | (have hx : okX k (bt s k) = true := okX_iff.2 (by first | omega | (simp only [Bool.not_eq_eq_eq_not, Bool.not_true, Bool.not_false, decide_eq_true_eq, decide_eq_false_iff_not, beq_iff_eq, beq_eq_false_iff_ne, ne_eq] at *; omega))
           have HX := Lib.hid (HS.out hx)
           clear hx
           go_round
           case rel => exact ⟨k + 1, by omega, HX, by go_num⟩
           case measure => simp [intOf]; omega)
        | (have hx : okX k (bt s k) = false := by
             cases h : okX k (bt s k)
             · rfl
             · have h := okX_iff.1 h
               exfalso
               first | omega | (simp only [Bool.not_eq_eq_eq_not, Bool.not_true, Bool.not_false, decide_eq_true_eq, decide_eq_false_iff_not, beq_iff_eq, beq_eq_false_iff_ne, ne_eq] at *; omega)
           have e := HF.out hx
           clear hx
           go_ret
           exact Ret.of (congrArg Value.bool e.symm))
    · have e : k = s.size := by omega
      subst e
      have hz : (1 ≤ s.size ∧ s.size ≤ 32) ∨ s.size = 0 ∨ 32 < s.size := by omega
      have E := Lib.hid (show decide (1 ≤ s.size ∧ s.size ≤ 32) = R by rw [← HR.out, nameB, HG.out, Bool.and_true])
      rcases hz with ⟨z1, z2⟩ | hz | hz
      · have E2 := Lib.hid (show true = R by rw [← E.out]; simp; omega)
        clear E
        go_wp2
        go_ret
        exact Ret.of (congrArg Value.bool (by rw [← E2.out]; first | done | (simp; done) | (simp; omega)))
      · have E2 := Lib.hid (show false = R by rw [← E.out]; simp; omega)
        clear E
        go_wp2
        go_ret
        exact Ret.of (congrArg Value.bool (by rw [← E2.out]; first | done | (simp; done) | (simp; omega)))
      · have E2 := Lib.hid (show false = R by rw [← E.out]; simp; omega)
        clear E
        go_wp2
        go_ret
        exact Ret.of (congrArg Value.bool (by rw [← E2.out]; first | done | (simp; done) | (simp; omega)))

set_option maxHeartbeats 1600000 in
theorem rname_any (s : ByteArray) (w : World) (hs : s.size ≤ maxLen) : Calls Tryz.prog 34 #[.string s] w (Ret (.bool (nameB s)) w) := by
  unfold maxLen at hs
  obtain ⟨R, hR⟩ : ∃ R, nameB s = R := ⟨_, rfl⟩
  rw [hR]
  have HR := Lib.hid hR
  clear hR
  by_cases hz : 1 ≤ s.size ∧ s.size ≤ 32
  · have HZ := Lib.hid (show goodTo s s.size = R by rw [← HR.out, nameB, decide_eq_true hz, Bool.true_and])
    obtain ⟨z1, z2⟩ := hz
    go_enter Tryz.func34, Tryz.ntmps34
    go_wp2
    go_loop [3] (fun i => ∃ k : Nat, k ≤ s.size ∧ Hid (goodTo s k = true) ∧ i = .int .i64 k) (fun i => s.size - (intOf i).toNat)
    case atStart => exact ⟨0, by omega, Lib.hid rfl, rfl⟩
    case round =>
      obtain ⟨k, hk, HG, rfl⟩ := hrel
      by_cases hlt : k < s.size
      · have hb := bt_at hlt
        obtain ⟨x0, x1⟩ := bt_le s k
        have HS := Lib.hid (show okX k (bt s k) = true → goodTo s (k + 1) = true from fun h => by simp [goodTo, HG.out, h])
        have HF := Lib.hid (show okX k (bt s k) = false → R = false from fun h => by rw [← HR.out, nameB, goodTo_bad hlt h, Bool.and_false])
        obtain ⟨k0, hk0⟩ : ∃ b, ((k : Int) == 0) = b := ⟨_, rfl⟩
        have K0 := Lib.hid (show k0 = true ↔ k = 0 by rw [← hk0]; simp)
        cases k0
        all_goals go_wp2
        all_goals have K1 := K0.out
        all_goals simp only [iff_true, true_iff, Bool.false_eq_true, false_iff] at K1
        all_goals first
          | (have hx : okX k (bt s k) = true := okX_iff.2 (by first | omega | (simp only [Bool.not_eq_eq_eq_not, Bool.not_true, Bool.not_false, decide_eq_true_eq, decide_eq_false_iff_not, beq_iff_eq, beq_eq_false_iff_ne, ne_eq] at *; omega))
             have HX := Lib.hid (HS.out hx)
             clear hx K1
             go_round
             case rel => exact ⟨k + 1, by omega, HX, by go_num⟩
             case measure => simp [intOf]; omega)
          | (have hx : okX k (bt s k) = false := by
               cases h : okX k (bt s k)
               · rfl
               · have h := okX_iff.1 h
                 exfalso
                 first | omega | (simp only [Bool.not_eq_eq_eq_not, Bool.not_true, Bool.not_false, decide_eq_true_eq, decide_eq_false_iff_not, beq_iff_eq, beq_eq_false_iff_ne, ne_eq] at *; omega)
             have e := HF.out hx
             clear hx K1
             go_ret
             exact Ret.of (congrArg Value.bool e.symm))
      · have e : k = s.size := by omega
        subst e
        have E := Lib.hid (show true = R by rw [← HZ.out, HG.out])
        go_wp2
        go_ret
        exact Ret.of (congrArg Value.bool E.out)
  · have HZ := Lib.hid (show false = R by rw [← HR.out, nameB, decide_eq_false hz, Bool.false_and])
    have hz' : s.size = 0 ∨ 32 < s.size := by omega
    clear hz
    go_enter Tryz.func34, Tryz.ntmps34
    go_wp2
    all_goals first | (exfalso; omega) | skip
    all_goals
      go_ret
      exact Ret.of (congrArg Value.bool HZ.out)

end Go.Proofs.YtiikejhkhdmgeaaGreat


/- Lists of numbers in memory. No condition. -/
import Derived.Test.YtiikejhkhdmgeaaGreatLigV
import Derived.Test.YtiikejhkhdmgeaaGreatSg
namespace Go.Proofs.YtiikejhkhdmgeaaGreat
open Go.RowKit
set_option linter.unusedVariables false
set_option linter.unusedSimpArgs false

def icell (l : List Int) (i : Nat) (j : Nat) : Value := .int .i64 (l.getD i 0)
/-- The slice at A holds these numbers. -/
def RowI (w : World) (A : Option Addr) (l : List Int) : Prop := Row w A l.length 1 (icell l)
theorem flat_ints (l : List Int) : flat l.length 1 (icell l) = l.map (Value.int .i64) := by
  apply List.ext_getElem?
  intro i
  rcases Nat.lt_or_ge i l.length with hi | hi
  · have h := flat_get (n := l.length) (s := 1) (f := icell l) hi (show 0 < 1 by omega)
    simp only [Nat.mul_one, Nat.add_zero] at h
    rw [h]
    simp [icell, hi, List.getD]
  · rw [List.getElem?_eq_none (by rw [flat_length]; omega), List.getElem?_eq_none (by simpa using hi)]
theorem infoInt : (Tryz.prog.info? 3).map (fun i => (i.zero, i.size, i.bytes)) = some (some (.int .i64 0), 1, 8) := by kernel_rfl
theorem one_ints (l : List Int) : ∀ u ∈ l.map (Value.int .i64), u.oneCell' = true := by
  intro u hu
  obtain ⟨k, _, rfl⟩ := List.mem_map.1 hu
  rfl
theorem RowI.at_ {w : World} {A : Option Addr} {l : List Int} (h : RowI w A l) (h0 : 0 < l.length) : ∃ b o, A = some ⟨b, o, none⟩ ∧ old b w ∧ ∀ i, i < l.length → w.cell? ⟨b, o + i, none⟩ = some (.int .i64 (l.getD i 0)) := by
  obtain ⟨b, o, e, hb, hc⟩ := Row.at_ h h0
  refine ⟨b, o, e, hb, fun i hi => ?_⟩
  have := hc i 0 hi (by omega)
  simpa [icell] using this
theorem RowI.xt {w : World} {A : Option Addr} {l : List Int} (h : RowI w A l) (g : Gr) : RowI (xt w g) A l := Row.xt h g
theorem RowI.alloc {w : World} {A : Option Addr} {l : List Int} (h : RowI w A l) (o : Obj) : RowI (w.alloc o) A l := Row.alloc h o
theorem RowI.drew {w : World} {A : Option Addr} {l : List Int} (h : RowI w A l) : RowI w.drew A l := Row.drew h
theorem RowI.below {w w' : World} {A : Option Addr} {l : List Int} (h : RowI w A l) (hb : Below w.heap.size w w') : RowI w' A l := Row.below h hb
/-- The call returns a slice of these numbers. -/
def RetI (l : List Int) (w : World) (e : Ending) (w' : World) : Prop := ∃ A c, e = .returned (.slice A l.length c) ∧ Below w.heap.size w w' ∧ RowI w' A l ∧ l.length ≤ c ∧ c ≤ maxLen
/-- The same, and an error's number. -/
def RetI2 (l : List Int) (d : Int) (w : World) (e : Ending) (w' : World) : Prop := ∃ A c, e = .returned (.tuple #[.slice A l.length c, .int .i64 d]) ∧ Below w.heap.size w w' ∧ RowI w' A l
theorem RowI.of_own {w : World} {base : Nat} {e : TypeId} {n : Nat} {v : Value} {l : List Int} (h : w.ownsRow base e 1 v n (l.map (Value.int .i64))) (hn : n = l.length) : ∃ A c, v = .slice A l.length c ∧ RowI w A l ∧ l.length ≤ c ∧ c ≤ maxLen := by
  subst hn
  obtain ⟨A, c, rfl, hr⟩ := Row.of_own h (flat_ints l).symm
  refine ⟨A, c, rfl, hr, ?_⟩
  rcases h.2 with ⟨h1, h2⟩ | ⟨g, cap, cur, h1, hb, hg, hcap, hm, hsz, ht⟩
  · injection h1 with _ h1 h3
    rw [h1, h3]
    exact ⟨Nat.le_refl _, Nat.zero_le _⟩
  · injection h1 with _ h1 h3
    subst h3
    exact ⟨hcap, hm⟩
/-- What is to be appended lies there. -/
theorem RowI.news {w : World} {b o : Nat} {l : List Int} (h : ∀ i, i < l.length → w.cell? ⟨b, o + i, none⟩ = some (.int .i64 (l.getD i 0))) {p m : Nat} (hm : p + m ≤ l.length) : ∀ j u, (((l.drop p).take m).map (Value.int .i64))[j]? = some u → w.cell? ((⟨b, o + p, none⟩ : Addr).add j) = some u := by
  intro j u hu
  have hj : j < m := by
    have := (List.getElem?_eq_some_iff.1 hu).1
    simp at this; omega
  have h1 := h (p + j) (by omega)
  have hadd : (⟨b, o + p, none⟩ : Addr).add j = ⟨b, o + (p + j), none⟩ := by
    unfold Addr.add
    split
    · rename_i h0; rw [h0, Nat.add_zero]
    · rw [Nat.add_assoc]
  rw [hadd, h1, ← hu]
  have hl : p + j < l.length := by omega
  simp [List.getElem?_take_of_lt hj, List.getElem?_drop, hl, List.getD]

/-! ### Equal lists -/
set_option maxHeartbeats 1600000 in
theorem same_any (A B : Option Addr) (c d : Nat) (l m : List Int) (w : World) (hl : l.length ≤ 4294967296) (hm : m.length ≤ 4294967296) (ha : RowI w A l) (hb : RowI w B m) :
    Calls Tryz.prog 14 #[.slice A l.length c, .slice B m.length d] w (RetB (.bool (decide (l = m))) w) := by
  by_cases hlm : l.length = m.length
  · obtain ⟨R, hR⟩ : ∃ R, decide (l = m) = R := ⟨_, rfl⟩
    rw [hR]
    have HB := Lib.hid (show ∀ k, k < l.length → l.getD k 0 ≠ m.getD k 0 → false = R from fun k hk h => by
      rw [← hR]; symm; rw [decide_eq_false_iff_not]; intro e; rw [e] at h; exact h rfl)
    have HG := Lib.hid (show (∀ k, k < l.length → l.getD k 0 = m.getD k 0) → true = R from fun h => by
      rw [← hR]; symm; rw [decide_eq_true_iff]
      apply List.ext_getElem hlm
      intro i h1 h2
      have := h i h1
      simpa [List.getD, h1, h2] using this)
    clear hR
    rcases Nat.eq_zero_or_pos l.length with h0 | h0
    · have E := Lib.hid (HG.out fun k hk => absurd hk (by omega))
      clear HB HG ha hb
      have h2 : m.length = 0 := by omega
      generalize l.length = n1 at *
      generalize m.length = n2 at *
      subst h0 h2
      clear hlm
      go_enter Tryz.func14, Tryz.ntmps14
      go_wp2_with fail
      go_rounds 1
      go_ret
      exact RetB.of (congrArg Value.bool E.out) (by repeat' (first | exact Below.refl _ _ | assumption | refine Below.xt ?_ ?_ _ | refine Below.alloc ?_ ?_ _ | refine Below.drew ?_ | refine Below.setCell ?_ ?_ _ | (simp; done) | (simp; omega)))
    · obtain ⟨a, o, rfl, hoa, hca⟩ := RowI.at_ ha h0
      obtain ⟨b, q, rfl, hob, hcb⟩ := RowI.at_ hb (by omega)
      have HA := Lib.hid hca
      have HB' := Lib.hid hcb
      have HLM := Lib.hid hlm
      rw [← hlm]
      clear hca hcb ha hb hlm
      go_enter Tryz.func14, Tryz.ntmps14
      go_wp2_with fail
      go_loopw [5] (fun i wr => ∃ (k : Nat) (g : Gr), k ≤ l.length ∧ Hid (∀ j, j < k → l.getD j 0 = m.getD j 0) ∧ i = .int .i64 k ∧ wr = xt w g) (fun i _ => l.length - (intOf i).toNat)
      case atStart => exact ⟨0, ⟨[], _⟩, by omega, Lib.hid fun j hj => absurd hj (by omega), rfl, (xt_self _).symm⟩
      case round =>
        obtain ⟨k, g, hk, HP, rfl, rfl⟩ := hrel
        by_cases hlt : k < l.length
        · have x0 := HA.out k hlt
          have y0 := HB'.out k (by have := HLM.out; omega)
          have HB2 := Lib.hid (HB.out k hlt)
          have HS := Lib.hid (show l.getD k 0 = m.getD k 0 → ∀ j, j < k + 1 → l.getD j 0 = m.getD j 0 from fun h j hj => if e : j = k then e ▸ h else HP.out j (by omega))
          generalize l.getD k 0 = x at *
          generalize m.getD k 0 = y at *
          by_cases he : x = y
          · have e1 : (x == y) = true := by simpa using he
            have e2 : (x != y) = false := by simpa using he
            have E := Lib.hid (HS.out he)
            clear he HS HB2
            go_wp2_with (first
              | (refine wp_region_xt (by kernel_rfl) (by kernel_rfl) ?_; (repeat (go_big_quiet_step (first | fail))); refine wpQuiet_nil ?_; intro g))
            go_roundw
            case rel => exact ⟨k + 1, _, by omega, E, by go_num, (Classical.choose_spec (xt_of_below (by repeat' (first | exact Below.refl _ _ | assumption | refine Below.xt ?_ ?_ _ | refine Below.alloc ?_ ?_ _ | refine Below.drew ?_ | refine Below.setCell ?_ ?_ _ | (simp; done) | (simp; omega)))))⟩
            case measure => simp [intOf]; omega
          · have e1 : (x == y) = false := by simpa using he
            have e2 : (x != y) = true := by simpa using he
            have E := Lib.hid (HB2.out he)
            clear he HS HB2 HB HG
            go_wp2_with (first
              | (refine wp_region_xt (by kernel_rfl) (by kernel_rfl) ?_; (repeat (go_big_quiet_step (first | fail))); refine wpQuiet_nil ?_; intro g))
            go_ret
            exact RetB.of (congrArg Value.bool E.out) (by repeat' (first | exact Below.refl _ _ | assumption | refine Below.xt ?_ ?_ _ | refine Below.alloc ?_ ?_ _ | refine Below.drew ?_ | refine Below.setCell ?_ ?_ _ | (simp; done) | (simp; omega)))
        · have E := Lib.hid (HG.out (by
            have : k = l.length := by omega
            rw [← this]; exact HP.out))
          go_wp2_with fail
          go_ret
          exact RetB.of (congrArg Value.bool E.out) (by repeat' (first | exact Below.refl _ _ | assumption | refine Below.xt ?_ ?_ _ | refine Below.alloc ?_ ?_ _ | refine Below.drew ?_ | refine Below.setCell ?_ ?_ _ | (simp; done) | (simp; omega)))
  · have e : decide (l = m) = false := by rw [decide_eq_false_iff_not]; intro e; rw [e] at hlm; exact hlm rfl
    rw [e]
    have e1 : ((l.length : Int) != (m.length : Int)) = true := by simp; omega
    have e2 : ((l.length : Int) == (m.length : Int)) = false := by simp; omega
    have e3 : (l.length != m.length) = true := by simpa using hlm
    have e4 : (l.length == m.length) = false := by simpa using hlm
    clear ha hb hlm e
    go_enter Tryz.func14, Tryz.ntmps14
    go_wp2_with fail
    go_ret
    exact RetB.of rfl (by repeat' (first | exact Below.refl _ _ | assumption | refine Below.xt ?_ ?_ _ | refine Below.alloc ?_ ?_ _ | refine Below.drew ?_ | refine Below.setCell ?_ ?_ _ | (simp; done) | (simp; omega)))

end Go.Proofs.YtiikejhkhdmgeaaGreat

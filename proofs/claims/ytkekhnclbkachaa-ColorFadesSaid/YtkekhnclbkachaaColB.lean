/- Walks: the colour with a name, by the program. Conditions stand in each theorem. -/
import Derived.Test.YtkekhnclbkachaaColS
import Derived.Sort.Walk0
namespace Go.Proofs.Ytkekhnclbkachaa
open Go.RowKit
set_option linter.unusedVariables false
set_option linter.unusedSimpArgs false

/-! ### The order of names -/
theorem nlt_iff {a b : ByteArray} : nlt a b = true ↔ a.toList < b.toList := by
  unfold nlt; rw [bytesLess_eq]; simp
theorem nlt_irrefl (a : ByteArray) : nlt a a = false := by
  cases h : nlt a a
  · rfl
  · exact absurd (nlt_iff.1 h) (List.lt_irrefl _)
theorem nlt_trans {a b c : ByteArray} (h : nlt a b = true) (k : nlt b c = true) : nlt a c = true :=
  nlt_iff.2 (List.lt_trans (nlt_iff.1 h) (nlt_iff.1 k))
theorem beq_str (a b : ByteArray) : (a.toList == b.toList) = decide (a = b) := by
  cases h : (a.toList == b.toList)
  · have := (Lib.bytes_beq_false_iff a b).1 h
    simp [this]
  · have := (Lib.bytes_beq_iff a b).1 h
    simp [this]
theorem nlt_tri {a b : ByteArray} (h : nlt a b = false) (k : a ≠ b) : nlt b a = true := by
  have h' : ¬ a.toList < b.toList := fun hh => by rw [nlt_iff.2 hh] at h; cases h
  have hl : b.toList ≤ a.toList := List.not_lt.1 h'
  rw [nlt_iff]
  rcases List.le_iff_lt_or_eq.1 hl with h1 | h1
  · exact h1
  · exact absurd ((Lib.bytes_beq_iff a b).1 (by rw [h1]; simp)) k
/-- The names of a palette rise. -/
theorem pal_step {l : List Sw} : ∀ {n k : Nat}, palTo l n = true → k < n → okW l k = true
  | n + 1, k, h, hk => by
    simp only [palTo, Bool.and_eq_true] at h
    by_cases e : k = n
    · subst e; exact h.2
    · exact pal_step h.1 (by omega)
theorem pal_lt {l : List Sw} {n : Nat} (h : palTo l n = true) : ∀ {i k : Nat}, i < k → k < n → nlt (sw l i).n (sw l k).n = true := by
  intro i k hik
  induction k with
  | zero => omega
  | succ k ih =>
    intro hk
    have h1 := pal_step h hk
    simp only [okW, Bool.and_eq_true, Bool.or_eq_true, decide_eq_true_eq, Nat.add_sub_cancel] at h1
    have h2 : nlt (sw l k).n (sw l (k + 1)).n = true := by
      rcases h1.2 with h3 | h3
      · omega
      · exact h3
    by_cases e : i = k
    · subst e; exact h2
    · exact nlt_trans (ih (by omega) (by omega)) h2
theorem pal_inj {l : List Sw} {n : Nat} (h : palTo l n = true) {i k : Nat} (hi : i < n) (hk : k < n) (e : (sw l i).n = (sw l k).n) : i = k := by
  rcases Nat.lt_trichotomy i k with h1 | h1 | h1
  · have := pal_lt h h1 hk
    rw [e, nlt_irrefl] at this; cases this
  · exact h1
  · have := pal_lt h h1 hi
    rw [e, nlt_irrefl] at this; cases this

/-! ### Comparing -/
def cmp3 (a b : ByteArray) : Int := if nlt a b then -1 else if a = b then 0 else 1
set_option maxHeartbeats 400000 in
theorem isNaN_any (a : ByteArray) (w : World) : Calls Try.prog 44 #[.string a] w (Ret (.bool false) w) := by
  go_enter Try.func44, Try.ntmps44
  go_wp2
  go_ret
  exact Ret.of rfl
set_option maxHeartbeats 800000 in
theorem Compare_any (a b : ByteArray) (w : World) : Calls Try.prog 41 #[.string a, .string b] w (Ret (.int .i64 (cmp3 a b)) w) := by
  obtain ⟨t, ht⟩ : ∃ t, Op.bytesLess a.toList b.toList = t := ⟨_, rfl⟩
  obtain ⟨q, hq⟩ : ∃ q, (a.toList == b.toList) = q := ⟨_, rfl⟩
  have E := Lib.hid (show cmp3 a b = if t then -1 else if q then 0 else 1 by
    rw [cmp3, nlt, ht, ← hq, beq_str]; simp)
  generalize cmp3 a b = R at *
  cases t
  · cases q
    · go_enter Try.func41, Try.ntmps41
      go_wp2_with (first
        | (go_at_call 44; refine (isNaN_any _ _).mono ?_; rintro e' w' ⟨rfl, rfl⟩)
        | (refine wp_region_xt (by kernel_rfl) (by kernel_rfl) ?_; (repeat (go_big_quiet_step (first | (go_at_call 44; exact Ret.quiet (isNaN_any _ _))))); refine wpQuiet_nil ?_; intro g))
      go_ret
      exact Ret.of (int_eq E.out.symm)
    · go_enter Try.func41, Try.ntmps41
      go_wp2_with (first
        | (go_at_call 44; refine (isNaN_any _ _).mono ?_; rintro e' w' ⟨rfl, rfl⟩)
        | (refine wp_region_xt (by kernel_rfl) (by kernel_rfl) ?_; (repeat (go_big_quiet_step (first | (go_at_call 44; exact Ret.quiet (isNaN_any _ _))))); refine wpQuiet_nil ?_; intro g))
      go_ret
      exact Ret.of (int_eq E.out.symm)
  · go_enter Try.func41, Try.ntmps41
    go_wp2_with (first
      | (go_at_call 44; refine (isNaN_any _ _).mono ?_; rintro e' w' ⟨rfl, rfl⟩)
      | (refine wp_region_xt (by kernel_rfl) (by kernel_rfl) ?_; (repeat (go_big_quiet_step (first | (go_at_call 44; exact Ret.quiet (isNaN_any _ _))))); refine wpQuiet_nil ?_; intro g))
    go_ret
    exact Ret.of (int_eq E.out.symm)
set_option maxHeartbeats 400000 in
theorem Find1_any (s : Sw) (n : ByteArray) (w : World) : Calls Try.prog 40 #[.agg #[.string s.n, .int .u8 s.c.r, .int .u8 s.c.g, .int .u8 s.c.b], .string n] w (RetB (.int .i64 (cmp3 s.n n)) w) := by
  go_enter Try.func40, Try.ntmps40
  go_wp2_with (first
    | (go_at_call 41; refine (Compare_any _ _ _).mono ?_; rintro e' w' ⟨rfl, rfl⟩)
    | (refine wp_region_xt (by kernel_rfl) (by kernel_rfl) ?_; (repeat (go_big_quiet_step (first | (go_at_call 41; exact Ret.quiet (Compare_any _ _ _))))); refine wpQuiet_nil ?_; intro g))
  go_ret
  exact RetB.of rfl (by repeat' (first | exact Below.refl _ _ | assumption | refine Below.xt ?_ ?_ _ | refine Below.alloc ?_ ?_ _ | refine Below.drew ?_ | refine Below.setCell ?_ ?_ _ | (simp; done) | (simp; omega)))

/-! ### Searching -/
/-- Where the name stands, or that no swatch has it. -/
def Found (l : List Sw) (n : Nat) (name : ByteArray) (w : World) (e : Ending) (w' : World) : Prop := ∃ (i : Nat) (f : Bool), e = .returned (.tuple #[.int .i64 i, .bool f]) ∧ Below w.heap.size w w' ∧ (f = true → i < n ∧ (sw l i).n = name) ∧ (f = false → ∀ k, k < n → (sw l k).n ≠ name)
set_option maxHeartbeats 1600000 in
theorem search_some (b o n cap : Nat) (l : List Sw) (name : ByteArray) (w : World) (hn : n = l.length) (hm : n ≤ 4294967296) (hp : palTo l n = true) (hr : RowW w (some ⟨b, o, none⟩) l) (h0 : 0 < n) : Calls Try.prog 39 #[.slice (some ⟨b, o, none⟩) n cap, .string name, .func (.func 40) #[] #[]] w (Found l n name w) := by
  obtain ⟨b', o', e, hb, hc⟩ := Row.at_ hr (by omega)
  injection e with e
  injection e with e1 e2
  subst e1 e2
  have HN := Lib.hid hn
  have HC := Lib.hid fun k hk => RowW.cells hc (i := k) hk
  have HP := Lib.hid hp
  clear hn hr hp hc
  go_enter Try.func39, Try.ntmps39
  go_wp2_with fail
  go_loopw [9, 10] (fun u9 u10 wr => ∃ (i j : Nat) (g : Gr), i ≤ j ∧ j ≤ n ∧ Hid (∀ k, k < i → nlt (sw l k).n name = true) ∧ Hid (∀ k, j ≤ k → k < n → nlt (sw l k).n name = false) ∧ u9 = .int .i64 i ∧ u10 = .int .i64 j ∧ wr = xt w g) (fun u9 u10 _ => (intOf u10 - intOf u9).toNat)
  case atStart => exact ⟨0, n, ⟨[], _⟩, by omega, by omega, Lib.hid fun k hk => absurd hk (by omega), Lib.hid fun k h1 h2 => absurd h1 (by omega), rfl, rfl, (xt_self _).symm⟩
  case round =>
    obtain ⟨i, j, g, hij, hj, HI, HJ, rfl, rfl, rfl⟩ := hrel
    by_cases hlt : i < j
    · obtain ⟨h, hh⟩ : ∃ h, h = (i + j) / 2 := ⟨_, rfl⟩
      have hh1 : i ≤ h := by omega
      have hh2 : h < j := by omega
      obtain ⟨x0, x1, x2, x3⟩ := HC.out h (by have := HN.out; omega)
      have m1 : ((i : Int) + j) / 2 = h := by omega
      clear hh
      have C := fun w => Lib.hid (Find1_any (sw l h) name w)
      have HT := Lib.hid (show (cmp3 (sw l h).n name < 0 → nlt (sw l h).n name = true) ∧ (0 ≤ cmp3 (sw l h).n name → nlt (sw l h).n name = false) by
        unfold cmp3; split
        · rename_i hh; exact ⟨fun _ => hh, fun h => by omega⟩
        · rename_i hh; exact ⟨fun h => by split at h <;> omega, fun _ => by simpa using hh⟩)
      have HL := Lib.hid (show nlt (sw l h).n name = true → ∀ k, k < h + 1 → nlt (sw l k).n name = true from fun hh k hk =>
        if e : k = h then e ▸ hh else nlt_trans (pal_lt HP.out (i := k) (k := h) (by omega) (by omega)) hh)
      have HR := Lib.hid (show nlt (sw l h).n name = false → ∀ k, h ≤ k → k < n → nlt (sw l k).n name = false from fun hh k hk hkn => by
        by_cases e : k = h
        · rw [e]; exact hh
        · cases hc : nlt (sw l k).n name
          · rfl
          · have := nlt_trans (pal_lt HP.out (i := h) (k := k) (by omega) hkn) hc
            rw [this] at hh; cases hh)
      generalize cmp3 (sw l h).n name = r at *
      generalize nlt (sw l h).n name = t at *
      generalize sw l h = s at *
      by_cases hr : r < 0
      · have H1 := Lib.hid (HL.out (HT.out.1 hr))
        clear HL HR HT
        go_wp2_with (first
          | (go_at_call 40; refine (RetB.grown ((C _).out)).mono ?_; rintro e' w' ⟨rfl, g, rfl⟩)
          | (refine wp_region_xt (by kernel_rfl) (by kernel_rfl) ?_; (repeat (go_big_quiet_step (first | (go_at_call 40; exact RetB.quiet ((C _).out))))); refine wpQuiet_nil ?_; intro g))
        go_roundw
        case rel => exact ⟨h + 1, j, _, by omega, hj, H1, HJ, by go_num, rfl, (Classical.choose_spec (xt_of_below (by repeat' (first | exact Below.refl _ _ | assumption | refine Below.xt ?_ ?_ _ | refine Below.alloc ?_ ?_ _ | refine Below.drew ?_ | refine Below.setCell ?_ ?_ _ | (simp; done) | (simp; omega)))))⟩
        case measure => simp [intOf]; omega
      · have H1 := Lib.hid (HR.out (HT.out.2 (by omega)))
        clear HL HR HT
        go_wp2_with (first
          | (go_at_call 40; refine (RetB.grown ((C _).out)).mono ?_; rintro e' w' ⟨rfl, g, rfl⟩)
          | (refine wp_region_xt (by kernel_rfl) (by kernel_rfl) ?_; (repeat (go_big_quiet_step (first | (go_at_call 40; exact RetB.quiet ((C _).out))))); refine wpQuiet_nil ?_; intro g))
        go_roundw
        case rel => exact ⟨i, h, _, hh1, by omega, HI, H1, rfl, rfl, (Classical.choose_spec (xt_of_below (by repeat' (first | exact Below.refl _ _ | assumption | refine Below.xt ?_ ?_ _ | refine Below.alloc ?_ ?_ _ | refine Below.drew ?_ | refine Below.setCell ?_ ?_ _ | (simp; done) | (simp; omega)))))⟩
        case measure => simp [intOf]; omega
    · obtain rfl : i = j := by omega
      by_cases hin : i < n
      · obtain ⟨x0, x1, x2, x3⟩ := HC.out i (by have := HN.out; omega)
        have C := fun w => Lib.hid (Find1_any (sw l i) name w)
        have HT := Lib.hid (show (cmp3 (sw l i).n name = 0 → (sw l i).n = name) ∧ (cmp3 (sw l i).n name ≠ 0 → ∀ k, k < n → (sw l k).n ≠ name) by
          refine ⟨fun h => ?_, fun h k hk e => ?_⟩
          · unfold cmp3 at h; split at h
            · omega
            · split at h
              · assumption
              · omega
          · apply h
            rcases Nat.lt_trichotomy k i with h1 | h1 | h1
            · have := HI.out k h1
              rw [e, nlt_irrefl] at this; cases this
            · subst h1; unfold cmp3; rw [e, nlt_irrefl]; simp
            · have h2 := pal_lt HP.out h1 hk
              have h3 := HJ.out i (Nat.le_refl _) hin
              rw [e] at h2
              rw [h2] at h3; cases h3)
        have HS := Lib.hid (show ∀ f, (f = true → i < n ∧ (sw l i).n = name) → (f = false → ∀ k, k < n → (sw l k).n ≠ name) → ∀ W', Below w.heap.size w W' → Found l n name w (.returned (.tuple #[.int .i64 i, .bool f])) W' from fun f h1 h2 W' hb => ⟨i, f, rfl, hb, h1, h2⟩)
        generalize cmp3 (sw l i).n name = r at *
        generalize sw l i = s at *
        by_cases hr : r = 0
        · have e1 : (r == 0) = true := by simpa using hr
          have H1 := Lib.hid (HT.out.1 hr)
          clear HT hr
          go_wp2_with (first
            | (go_at_call 40; refine (RetB.grown ((C _).out)).mono ?_; rintro e' w' ⟨rfl, g, rfl⟩)
            | (refine wp_region_xt (by kernel_rfl) (by kernel_rfl) ?_; (repeat (go_big_quiet_step (first | (go_at_call 40; exact RetB.quiet ((C _).out))))); refine wpQuiet_nil ?_; intro g))
          go_ret2
          exact HS.out true (fun _ => ⟨hin, H1.out⟩) (fun h => by cases h) _ (by repeat' (first | exact Below.refl _ _ | assumption | refine Below.xt ?_ ?_ _ | refine Below.alloc ?_ ?_ _ | refine Below.drew ?_ | refine Below.setCell ?_ ?_ _ | (simp; done) | (simp; omega)))
        · have e1 : (r == 0) = false := by simpa using hr
          have H1 := Lib.hid (HT.out.2 hr)
          clear HT hr
          go_wp2_with (first
            | (go_at_call 40; refine (RetB.grown ((C _).out)).mono ?_; rintro e' w' ⟨rfl, g, rfl⟩)
            | (refine wp_region_xt (by kernel_rfl) (by kernel_rfl) ?_; (repeat (go_big_quiet_step (first | (go_at_call 40; exact RetB.quiet ((C _).out))))); refine wpQuiet_nil ?_; intro g))
          go_ret2
          exact HS.out false (fun h => by cases h) (fun _ => H1.out) _ (by repeat' (first | exact Below.refl _ _ | assumption | refine Below.xt ?_ ?_ _ | refine Below.alloc ?_ ?_ _ | refine Below.drew ?_ | refine Below.setCell ?_ ?_ _ | (simp; done) | (simp; omega)))
      · obtain rfl : i = n := by omega
        have H1 := Lib.hid (show ∀ k, k < i → (sw l k).n ≠ name from fun k hk e => by
          have := HI.out k hk
          rw [e, nlt_irrefl] at this; cases this)
        have HS := Lib.hid (show ∀ W', Below w.heap.size w W' → Found l i name w (.returned (.tuple #[.int .i64 i, .bool false])) W' from fun W' hb => ⟨i, false, rfl, hb, (fun h => nomatch h), fun _ => H1.out⟩)
        go_wp2_with fail
        go_ret2
        exact HS.out _ (by repeat' (first | exact Below.refl _ _ | assumption | refine Below.xt ?_ ?_ _ | refine Below.alloc ?_ ?_ _ | refine Below.drew ?_ | refine Below.setCell ?_ ?_ _ | (simp; done) | (simp; omega)))
set_option maxHeartbeats 400000 in
theorem search_any (A : Option Addr) (n cap : Nat) (l : List Sw) (name : ByteArray) (w : World) (hn : n = l.length) (hm : n ≤ 4294967296) (hp : palTo l n = true) (hr : RowW w A l) : Calls Try.prog 39 #[.slice A n cap, .string name, .func (.func 40) #[] #[]] w (Found l n name w) := by
  rcases Nat.eq_zero_or_pos n with h0 | h0
  · subst h0
    have HS := Lib.hid (show ∀ W', Below w.heap.size w W' → Found l 0 name w (.returned (.tuple #[.int .i64 0, .bool false])) W' from fun W' hb => ⟨0, false, rfl, hb, (fun h => nomatch h), fun _ k hk => absurd hk (by omega)⟩)
    clear hr hn hp
    go_enter Try.func39, Try.ntmps39
    go_wp2_with fail
    go_rounds 1
    go_ret2
    exact HS.out _ (by repeat' (first | exact Below.refl _ _ | assumption | refine Below.xt ?_ ?_ _ | refine Below.alloc ?_ ?_ _ | refine Below.drew ?_ | refine Below.setCell ?_ ?_ _ | (simp; done) | (simp; omega)))
  · obtain ⟨b, o, rfl, _, _⟩ := Row.at_ hr (by omega)
    exact search_some b o n cap l name w hn hm hp hr h0

/-! ### Find -/
/-- The first of k swatches that has a name, or k. -/
def fix (l : List Sw) (name : ByteArray) : Nat → Nat
  | 0 => 0
  | k + 1 => if fix l name k < k then fix l name k else if (sw l k).n = name then k else k + 1
theorem fix_le (l : List Sw) (name : ByteArray) : ∀ k, fix l name k ≤ k
  | 0 => Nat.le_refl 0
  | k + 1 => by
    have := fix_le l name k
    rw [fix]; split
    · omega
    · split <;> omega
theorem fix_at {l : List Sw} {name : ByteArray} : ∀ {k : Nat}, fix l name k < k → (sw l (fix l name k)).n = name
  | 0, h => absurd h (by simp [fix])
  | k + 1, h => by
    rw [fix] at h ⊢
    split
    · rename_i h1; exact fix_at h1
    · rename_i h1
      rw [if_neg h1] at h
      split
      · rename_i h2; exact h2
      · rename_i h2; rw [if_neg h2] at h; omega
theorem fix_none {l : List Sw} {name : ByteArray} : ∀ {k : Nat}, (∀ i, i < k → (sw l i).n ≠ name) → fix l name k = k
  | 0, _ => rfl
  | k + 1, h => by
    rw [fix, fix_none (fun i hi => h i (by omega)), if_neg (by omega), if_neg (h k (by omega))]
theorem fix_some {l : List Sw} {name : ByteArray} {k i : Nat} (hi : i < k) (h : (sw l i).n = name) : fix l name k < k := by
  rcases Nat.lt_or_ge (fix l name k) k with h1 | h1
  · exact h1
  · exfalso
    have key : ∀ m, m ≤ k → ¬ fix l name m < m → ∀ j, j < m → (sw l j).n ≠ name := by
      intro m
      induction m with
      | zero => intro _ _ j hj; omega
      | succ m ih =>
        intro hm hf j hj
        rw [fix] at hf
        by_cases h2 : fix l name m < m
        · rw [if_pos h2] at hf; omega
        · rw [if_neg h2] at hf
          by_cases h3 : (sw l m).n = name
          · rw [if_pos h3] at hf; omega
          · by_cases e : j = m
            · rw [e]; exact h3
            · exact ih (by omega) h2 j (by omega)
    exact key k (Nat.le_refl _) (by omega) i hi h
theorem fix_uniq {l : List Sw} {name : ByteArray} {k i : Nat} (hp : palTo l k = true) (hi : i < k) (h : (sw l i).n = name) : fix l name k = i := by
  have h1 := fix_some hi h
  exact pal_inj hp h1 hi ((fix_at h1).trans h.symm)
def findE (l : List Sw) (name : ByteArray) : Int := if palB l then (if fix l name l.length < l.length then 0 else 9) else 2
def findC (l : List Sw) (name : ByteArray) : Col := if findE l name = 0 then (sw l (fix l name l.length)).c else black
theorem palB_to {l : List Sw} (h : palB l = true) : palTo l l.length = true := by
  simp only [palB, Bool.and_eq_true] at h; exact h.1

set_option maxHeartbeats 800000 in
theorem Find_any (A : Option Addr) (n cap : Nat) (l : List Sw) (name : ByteArray) (w : World) (hn : n = l.length) (hm : n ≤ 4294967296) (hf : fineW l) (hr : RowW w A l) : Calls Try.prog 25 #[.slice A n cap, .string name] w (RetB (.tuple #[.agg #[.int .u8 (findC l name).r, .int .u8 (findC l name).g, .int .u8 (findC l name).b], .int .i64 (findE l name)]) w) := by
  have K := fun w h => Lib.hid (vpal_any A n cap l w hn hm hf h)
  have HR := Lib.hid hr
  have HN := Lib.hid hn
  obtain ⟨V, hV⟩ : ∃ V : Value, .tuple #[.agg #[.int .u8 (findC l name).r, .int .u8 (findC l name).g, .int .u8 (findC l name).b], .int .i64 (findE l name)] = V := ⟨_, rfl⟩
  rw [hV]
  obtain ⟨p, hp⟩ : ∃ p, palB l = p := ⟨_, rfl⟩
  rw [hp] at K
  cases p
  · have HV := Lib.hid (show .tuple #[.agg #[.int .u8 0, .int .u8 0, .int .u8 0], .int .i64 2] = V by
      rw [← hV, findC, findE, hp]; rfl)
    clear hV hp hr hn hf
    go_enter Try.func25, Try.ntmps25
    go_wp2_with (first
      | (go_at_call 27; refine (RetB.grown ((K _ (by repeat (first | exact HR.out | refine RowW.xt ?_ _ | refine RowW.alloc ?_ _ | refine RowW.drew ?_))).out)).mono ?_; rintro e' w' ⟨rfl, g, rfl⟩)
      | (refine wp_region_xt (by kernel_rfl) (by kernel_rfl) ?_; (repeat (go_big_quiet_step (first | (go_at_call 27; exact RetB.quiet ((K _ (by repeat (first | exact HR.out | refine RowW.xt ?_ _ | refine RowW.alloc ?_ _ | refine RowW.drew ?_))).out))))); refine wpQuiet_nil ?_; intro g))
    refine bodyPost_ret (v := .tuple #[.agg #[.int .u8 0, .int .u8 0, .int .u8 0], .int .i64 2]) (by simp [results, Try.results25, go_sem]) rfl ?_
    exact RetB.of HV.out (by repeat' (first | exact Below.refl _ _ | assumption | refine Below.xt ?_ ?_ _ | refine Below.alloc ?_ ?_ _ | refine Below.drew ?_ | refine Below.setCell ?_ ?_ _ | (simp; done) | (simp; omega)))
  · have HP := Lib.hid (palB_to hp)
    have HV9 := Lib.hid (show (∀ k, k < n → (sw l k).n ≠ name) → .tuple #[.agg #[.int .u8 0, .int .u8 0, .int .u8 0], .int .i64 9] = V from fun h => by
      rw [hn] at h
      rw [← hV, findC, findE, hp, fix_none h]; simp [black])
    have HV0 := Lib.hid (show ∀ i, i < n → (sw l i).n = name → .tuple #[.agg #[.int .u8 ((sw l i).c).r, .int .u8 ((sw l i).c).g, .int .u8 ((sw l i).c).b], .int .i64 0] = V from fun i hi h => by
      rw [hn] at hi
      rw [← hV, findC, findE, hp, fix_uniq (palB_to hp) hi h]; simp [hi])
    have S := fun w h => Lib.hid (search_any A n cap l name w hn hm (by rw [hn]; exact HP.out) h)
    clear hV hp hr hn hf
    go_enter Try.func25, Try.ntmps25
    go_wp2_with (first
      | (go_at_call 27; refine (RetB.grown ((K _ (by repeat (first | exact HR.out | refine RowW.xt ?_ _ | refine RowW.alloc ?_ _ | refine RowW.drew ?_))).out)).mono ?_; rintro e' w' ⟨rfl, g, rfl⟩)
      | (refine wp_region_xt (by kernel_rfl) (by kernel_rfl) ?_; (repeat (go_big_quiet_step (first | (go_at_call 27; exact RetB.quiet ((K _ (by repeat (first | exact HR.out | refine RowW.xt ?_ _ | refine RowW.alloc ?_ _ | refine RowW.drew ?_))).out))))); refine wpQuiet_nil ?_; intro g))
    refine (S _ (by repeat (first | exact HR.out | refine RowW.xt ?_ _ | refine RowW.alloc ?_ _ | refine RowW.drew ?_))).out.mono ?_
    rintro e w' ⟨i, f, rfl, hb, h1, h2⟩
    obtain ⟨g, rfl⟩ := xt_of_below hb
    clear hb K S
    cases f
    · have E := Lib.hid (HV9.out (h2 rfl))
      clear h1 h2
      go_wp2_with fail
      refine bodyPost_ret (v := .tuple #[.agg #[.int .u8 0, .int .u8 0, .int .u8 0], .int .i64 9]) (by simp [results, Try.results25, go_sem]) rfl ?_
      exact RetB.of E.out (by repeat' (first | exact Below.refl _ _ | assumption | refine Below.xt ?_ ?_ _ | refine Below.alloc ?_ ?_ _ | refine Below.drew ?_ | refine Below.setCell ?_ ?_ _ | (simp; done) | (simp; omega)))
    · obtain ⟨hi, hx⟩ := h1 rfl
      have E := Lib.hid (HV0.out i hi hx)
      obtain ⟨b, o, rfl, hbo, hc⟩ := Row.at_ HR.out (by have := HN.out; omega)
      obtain ⟨x0, x1, x2, x3⟩ := RowW.cells hc (i := i) (by have := HN.out; omega)
      clear h1 h2 hc hx HV0 HV9
      generalize sw l i = s at *
      go_wp2_with fail
      refine bodyPost_ret (v := .tuple #[.agg #[.int .u8 s.c.r, .int .u8 s.c.g, .int .u8 s.c.b], .int .i64 0]) (by simp [results, Try.results25, go_sem]) rfl ?_
      exact RetB.of E.out (by repeat' (first | exact Below.refl _ _ | assumption | refine Below.xt ?_ ?_ _ | refine Below.alloc ?_ ?_ _ | refine Below.drew ?_ | refine Below.setCell ?_ ?_ _ | (simp; done) | (simp; omega)))

end Go.Proofs.Ytkekhnclbkachaa

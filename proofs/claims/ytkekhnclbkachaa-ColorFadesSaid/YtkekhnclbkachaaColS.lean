/- Slices of swatches, and which are palettes. Conditions stand in each theorem. -/
import Derived.Test.YtkekhnclbkachaaColW2
import Derived.Test.YtkekhnclbkachaaSg
import Derived.Lib.SlicesS
import Derived.WalkLawsBesides
namespace Go.Proofs.Ytkekhnclbkachaa
open Go.RowKit
set_option linter.unusedVariables false
set_option linter.unusedSimpArgs false

structure Sw where
  n : ByteArray
  c : Col
instance : Inhabited Sw := ⟨⟨⟨#[]⟩, ⟨0, 0, 0⟩⟩⟩
def sw (l : List Sw) (i : Nat) : Sw := l.getD i default
def swcell (s : Sw) (j : Nat) : Value := if j = 0 then .string s.n else if j = 1 then .int .u8 s.c.r else if j = 2 then .int .u8 s.c.g else .int .u8 s.c.b
/-- The slice at A holds these swatches. -/
def RowW (w : World) (A : Option Addr) (l : List Sw) : Prop := Row w A l.length 4 fun i => swcell (sw l i)
theorem RowW.cells {w : World} {b o : Nat} {l : List Sw} {i : Nat} (h : ∀ i j, i < l.length → j < 4 → w.cell? ⟨b, o + i * 4 + j, none⟩ = some (swcell (sw l i) j)) (hi : i < l.length) :
    w.cell? ⟨b, o + i * 4, none⟩ = some (.string (sw l i).n) ∧ w.cell? ⟨b, o + i * 4 + 1, none⟩ = some (.int .u8 (sw l i).c.r) ∧ w.cell? ⟨b, o + i * 4 + 2, none⟩ = some (.int .u8 (sw l i).c.g) ∧ w.cell? ⟨b, o + i * 4 + 3, none⟩ = some (.int .u8 (sw l i).c.b) :=
  ⟨h i 0 hi (by omega), h i 1 hi (by omega), h i 2 hi (by omega), h i 3 hi (by omega)⟩
theorem RowW.xt {w : World} {A : Option Addr} {l : List Sw} (h : RowW w A l) (g : Gr) : RowW (xt w g) A l := Row.xt h g
theorem RowW.alloc {w : World} {A : Option Addr} {l : List Sw} (h : RowW w A l) (o : Obj) : RowW (w.alloc o) A l := Row.alloc h o
theorem RowW.drew {w : World} {A : Option Addr} {l : List Sw} (h : RowW w A l) : RowW w.drew A l := Row.drew h
/-- What the swatches of a program are like. -/
def fineW (l : List Sw) : Prop := ∀ i, i < l.length → (sw l i).n.size ≤ maxLen ∧ (sw l i).c.ok

/-- One name ahead of another. -/
def nlt (a b : ByteArray) : Bool := Op.bytesLess a.toList b.toList
def okW (l : List Sw) (k : Nat) : Bool := nameB (sw l k).n && (decide (k = 0) || nlt (sw l (k - 1)).n (sw l k).n)
def palTo (l : List Sw) : Nat → Bool
  | 0 => true
  | k + 1 => palTo l k && okW l k
def palB (l : List Sw) : Bool := palTo l l.length && decide (l.length ≤ 256)
theorem palTo_bad {l : List Sw} {k n : Nat} (h : k < n) (hk : okW l k = false) : palTo l n = false := by
  induction n with
  | zero => omega
  | succ n ih =>
    by_cases e : k = n
    · subst e; rw [palTo, hk, Bool.and_false]
    · rw [palTo, ih (by omega), Bool.false_and]

set_option maxHeartbeats 1600000 in
theorem vpal_some (b o n cap : Nat) (l : List Sw) (w : World) (hn : n = l.length) (hm : n ≤ 4294967296) (hf : fineW l) (hr : RowW w (some ⟨b, o, none⟩) l) (h0 : 0 < n) : Calls Try.prog 27 #[.slice (some ⟨b, o, none⟩) n cap] w (RetB (.bool (palB l)) w) := by
  obtain ⟨b', o', e, hb, hc⟩ := Row.at_ hr (by omega)
  injection e with e
  injection e with e1 e2
  subst e1 e2
  have HN := Lib.hid hn
  have HC := Lib.hid fun k hk => RowW.cells hc (i := k) hk
  have HF := Lib.hid hf
  obtain ⟨R, hR⟩ : ∃ R, palB l = R := ⟨_, rfl⟩
  rw [hR]
  have HB := Lib.hid (show ∀ k, k < n → okW l k = false → R = false from fun k hk h => by rw [← hR, palB, palTo_bad (hn ▸ hk) h, Bool.false_and])
  have HG := Lib.hid (show palTo l n = true → decide (n ≤ 256) = R from fun h => by rw [← hR, palB, ← hn, h, Bool.true_and])
  clear hn hr hc hf hR
  go_enter Try.func27, Try.ntmps27
  go_wp2_with fail
  go_loopw [7] (fun i wr => ∃ (k : Nat) (g : Gr), k ≤ n ∧ Hid (palTo l k = true) ∧ i = .int .i64 k ∧ wr = xt w g) (fun i _ => n - (intOf i).toNat)
  case atStart => exact ⟨0, ⟨[], _⟩, by omega, Lib.hid rfl, rfl, (xt_self _).symm⟩
  case round =>
    obtain ⟨k, g, hk, HP, rfl, rfl⟩ := hrel
    by_cases hlt : k < n
    · obtain ⟨x0, x1, x2, x3⟩ := HC.out k (HN.out ▸ hlt)
      have hsz := (HF.out k (HN.out ▸ hlt)).1
      have HK := Lib.hid (HB.out k hlt)
      have HS := Lib.hid (show okW l k = true → palTo l (k + 1) = true from fun h => by rw [palTo, HP.out, h]; rfl)
      have HO := Lib.hid (show okW l k = (nameB (sw l k).n && (decide (k = 0) || nlt (sw l (k - 1)).n (sw l k).n)) from rfl)
      rcases Nat.eq_zero_or_pos k with k0 | k0
      · have q1 : decide ((0 : Int) < (k : Int)) = false := by simp; omega
        have q2 : decide (0 < k) = false := by simp; omega
        rw [decide_eq_true k0] at HO
        clear k0
        generalize sw l k = s at *
        have C := fun w => Lib.hid (vname_any s.n w hsz)
        obtain ⟨v, hv⟩ : ∃ v, nameB s.n = v := ⟨_, rfl⟩
        rw [hv] at C HO
        clear hv
        cases v
        · have e := Lib.hid (HK.out (by rw [HO.out]; rfl))
          clear HS HO HK
          go_wp2_with (first
            | (go_at_call 11; refine ((C _).out).mono ?_; rintro e' w' ⟨rfl, rfl⟩)
            | (refine wp_region_xt (by kernel_rfl) (by kernel_rfl) ?_; (repeat (go_big_quiet_step (first | (go_at_call 11; exact Ret.quiet ((C _).out))))); refine wpQuiet_nil ?_; intro g))
          go_ret
          exact RetB.of (congrArg Value.bool e.out.symm) (by repeat' (first | exact Below.refl _ _ | assumption | refine Below.xt ?_ ?_ _ | refine Below.alloc ?_ ?_ _ | refine Below.drew ?_ | refine Below.setCell ?_ ?_ _ | (simp; done) | (simp; omega)))
        · have e := Lib.hid (HS.out (by rw [HO.out]; simp))
          clear HS HO HK
          go_wp2_with (first
            | (go_at_call 11; refine ((C _).out).mono ?_; rintro e' w' ⟨rfl, rfl⟩)
            | (refine wp_region_xt (by kernel_rfl) (by kernel_rfl) ?_; (repeat (go_big_quiet_step (first | (go_at_call 11; exact Ret.quiet ((C _).out))))); refine wpQuiet_nil ?_; intro g))
          go_roundw
          case rel => exact ⟨k + 1, _, by omega, e, by go_num, (Classical.choose_spec (xt_of_below (by repeat' (first | exact Below.refl _ _ | assumption | refine Below.xt ?_ ?_ _ | refine Below.alloc ?_ ?_ _ | refine Below.drew ?_ | refine Below.setCell ?_ ?_ _ | (simp; done) | (simp; omega)))))⟩
          case measure => simp [intOf]; omega
      · obtain ⟨j, rfl⟩ : ∃ j, k = j + 1 := ⟨k - 1, by omega⟩
        obtain ⟨y0, y1, y2, y3⟩ := HC.out j (by have := HN.out; omega)
        simp only [Nat.add_sub_cancel] at HO
        generalize sw l j = p at *
        generalize sw l (j + 1) = s at *
        have C := fun w => Lib.hid (vname_any s.n w hsz)
        obtain ⟨v, hv⟩ : ∃ v, nameB s.n = v := ⟨_, rfl⟩
        rw [hv] at C HO
        clear hv
        cases v
        · have e := Lib.hid (HK.out (by rw [HO.out]; rfl))
          clear HS HO HK
          go_wp2_with (first
            | (go_at_call 11; refine ((C _).out).mono ?_; rintro e' w' ⟨rfl, rfl⟩)
            | (refine wp_region_xt (by kernel_rfl) (by kernel_rfl) ?_; (repeat (go_big_quiet_step (first | (go_at_call 11; exact Ret.quiet ((C _).out))))); refine wpQuiet_nil ?_; intro g))
          go_ret
          exact RetB.of (congrArg Value.bool e.out.symm) (by repeat' (first | exact Below.refl _ _ | assumption | refine Below.xt ?_ ?_ _ | refine Below.alloc ?_ ?_ _ | refine Below.drew ?_ | refine Below.setCell ?_ ?_ _ | (simp; done) | (simp; omega)))
        · obtain ⟨t, ht⟩ : ∃ t, Op.bytesLess p.n.toList s.n.toList = t := ⟨_, rfl⟩
          have HT := Lib.hid (show okW l (j + 1) = t by rw [HO.out, nlt, ht]; simp)
          cases t
          · have e := Lib.hid (HK.out HT.out)
            clear HS HO HK
            go_wp2_with (first
              | (go_at_call 11; refine ((C _).out).mono ?_; rintro e' w' ⟨rfl, rfl⟩)
              | (refine wp_region_xt (by kernel_rfl) (by kernel_rfl) ?_; (repeat (go_big_quiet_step (first | (go_at_call 11; exact Ret.quiet ((C _).out))))); refine wpQuiet_nil ?_; intro g))
            go_ret
            exact RetB.of (congrArg Value.bool e.out.symm) (by repeat' (first | exact Below.refl _ _ | assumption | refine Below.xt ?_ ?_ _ | refine Below.alloc ?_ ?_ _ | refine Below.drew ?_ | refine Below.setCell ?_ ?_ _ | (simp; done) | (simp; omega)))
          · have e := Lib.hid (HS.out HT.out)
            clear HS HO HK
            go_wp2_with (first
              | (go_at_call 11; refine ((C _).out).mono ?_; rintro e' w' ⟨rfl, rfl⟩)
              | (refine wp_region_xt (by kernel_rfl) (by kernel_rfl) ?_; (repeat (go_big_quiet_step (first | (go_at_call 11; exact Ret.quiet ((C _).out))))); refine wpQuiet_nil ?_; intro g))
            go_roundw
            case rel => exact ⟨j + 1 + 1, _, by omega, e, by go_num, (Classical.choose_spec (xt_of_below (by repeat' (first | exact Below.refl _ _ | assumption | refine Below.xt ?_ ?_ _ | refine Below.alloc ?_ ?_ _ | refine Below.drew ?_ | refine Below.setCell ?_ ?_ _ | (simp; done) | (simp; omega)))))⟩
            case measure => simp [intOf]; omega
    · obtain rfl : k = n := by omega
      have E := Lib.hid (HG.out HP.out)
      by_cases h256 : k ≤ 256
      · have E2 := Lib.hid (show true = R by rw [← E.out, decide_eq_true h256])
        go_wp2_with fail
        go_ret
        exact RetB.of (congrArg Value.bool (by rw [← E2.out]; first | done | (simp; omega))) (by repeat' (first | exact Below.refl _ _ | assumption | refine Below.xt ?_ ?_ _ | refine Below.alloc ?_ ?_ _ | refine Below.drew ?_ | refine Below.setCell ?_ ?_ _ | (simp; done) | (simp; omega)))
      · have E2 := Lib.hid (show false = R by rw [← E.out, decide_eq_false h256])
        go_wp2_with fail
        go_ret
        exact RetB.of (congrArg Value.bool (by rw [← E2.out]; first | done | (simp; omega))) (by repeat' (first | exact Below.refl _ _ | assumption | refine Below.xt ?_ ?_ _ | refine Below.alloc ?_ ?_ _ | refine Below.drew ?_ | refine Below.setCell ?_ ?_ _ | (simp; done) | (simp; omega)))
set_option maxHeartbeats 400000 in
theorem vpal_any (A : Option Addr) (n cap : Nat) (l : List Sw) (w : World) (hn : n = l.length) (hm : n ≤ 4294967296) (hf : fineW l) (hr : RowW w A l) : Calls Try.prog 27 #[.slice A n cap] w (RetB (.bool (palB l)) w) := by
  rcases Nat.eq_zero_or_pos n with h0 | h0
  · subst h0
    have e : l = [] := List.eq_nil_of_length_eq_zero hn.symm
    subst e
    clear hr hf hn
    go_enter Try.func27, Try.ntmps27
    go_wp2_with fail
    go_rounds 1
    go_ret
    exact RetB.of rfl (by repeat' (first | exact Below.refl _ _ | assumption | refine Below.xt ?_ ?_ _ | refine Below.alloc ?_ ?_ _ | refine Below.drew ?_ | refine Below.setCell ?_ ?_ _ | (simp; done) | (simp; omega)))
  · obtain ⟨b, o, rfl, _, _⟩ := Row.at_ hr (by omega)
    exact vpal_some b o n cap l w hn hm hf hr h0

set_option maxHeartbeats 1600000 in
theorem rpal_some (b o n cap : Nat) (l : List Sw) (w : World) (hn : n = l.length) (hm : n ≤ 4294967296) (hf : fineW l) (hr : RowW w (some ⟨b, o, none⟩) l) (h0 : 0 < n) : Calls Try.prog 28 #[.slice (some ⟨b, o, none⟩) n cap] w (RetB (.bool (palB l)) w) := by
  obtain ⟨b', o', e, hb, hc⟩ := Row.at_ hr (by omega)
  injection e with e
  injection e with e1 e2
  subst e1 e2
  have HN := Lib.hid hn
  have HC := Lib.hid fun k hk => RowW.cells hc (i := k) hk
  have HF := Lib.hid hf
  obtain ⟨R, hR⟩ : ∃ R, palB l = R := ⟨_, rfl⟩
  rw [hR]
  have HB := Lib.hid (show ∀ k, k < n → okW l k = false → R = false from fun k hk h => by rw [← hR, palB, palTo_bad (hn ▸ hk) h, Bool.false_and])
  have HG := Lib.hid (show palTo l n = true → decide (n ≤ 256) = R from fun h => by rw [← hR, palB, ← hn, h, Bool.true_and])
  clear hn hr hc hf hR
  go_enter Try.func28, Try.ntmps28
  go_wp2_with fail
  go_loopw [3] (fun i wr => ∃ (k : Nat) (g : Gr), k ≤ n ∧ Hid (palTo l k = true) ∧ i = .int .i64 k ∧ wr = xt w g) (fun i _ => n - (intOf i).toNat)
  case atStart => exact ⟨0, ⟨[], _⟩, by omega, Lib.hid rfl, rfl, (xt_self _).symm⟩
  case round =>
    obtain ⟨k, g, hk, HP, rfl, rfl⟩ := hrel
    by_cases hlt : k < n
    · obtain ⟨x0, x1, x2, x3⟩ := HC.out k (HN.out ▸ hlt)
      have hsz := (HF.out k (HN.out ▸ hlt)).1
      have HK := Lib.hid (HB.out k hlt)
      have HS := Lib.hid (show okW l k = true → palTo l (k + 1) = true from fun h => by rw [palTo, HP.out, h]; rfl)
      have HO := Lib.hid (show okW l k = (nameB (sw l k).n && (decide (k = 0) || nlt (sw l (k - 1)).n (sw l k).n)) from rfl)
      rcases Nat.eq_zero_or_pos k with k0 | k0
      · have q1 : decide ((0 : Int) < (k : Int)) = false := by simp; omega
        have q2 : decide (0 < k) = false := by simp; omega
        rw [decide_eq_true k0] at HO
        clear k0
        generalize sw l k = s at *
        have C := fun w => Lib.hid (rname_any s.n w hsz)
        obtain ⟨v, hv⟩ : ∃ v, nameB s.n = v := ⟨_, rfl⟩
        rw [hv] at C HO
        clear hv
        cases v
        · have e := Lib.hid (HK.out (by rw [HO.out]; rfl))
          clear HS HO HK
          go_wp2_with (first
            | (go_at_call 12; refine ((C _).out).mono ?_; rintro e' w' ⟨rfl, rfl⟩)
            | (refine wp_region_xt (by kernel_rfl) (by kernel_rfl) ?_; (repeat (go_big_quiet_step (first | (go_at_call 12; exact Ret.quiet ((C _).out))))); refine wpQuiet_nil ?_; intro g))
          go_ret
          exact RetB.of (congrArg Value.bool e.out.symm) (by repeat' (first | exact Below.refl _ _ | assumption | refine Below.xt ?_ ?_ _ | refine Below.alloc ?_ ?_ _ | refine Below.drew ?_ | refine Below.setCell ?_ ?_ _ | (simp; done) | (simp; omega)))
        · have e := Lib.hid (HS.out (by rw [HO.out]; simp))
          clear HS HO HK
          go_wp2_with (first
            | (go_at_call 12; refine ((C _).out).mono ?_; rintro e' w' ⟨rfl, rfl⟩)
            | (refine wp_region_xt (by kernel_rfl) (by kernel_rfl) ?_; (repeat (go_big_quiet_step (first | (go_at_call 12; exact Ret.quiet ((C _).out))))); refine wpQuiet_nil ?_; intro g))
          go_roundw
          case rel => exact ⟨k + 1, _, by omega, e, by go_num, (Classical.choose_spec (xt_of_below (by repeat' (first | exact Below.refl _ _ | assumption | refine Below.xt ?_ ?_ _ | refine Below.alloc ?_ ?_ _ | refine Below.drew ?_ | refine Below.setCell ?_ ?_ _ | (simp; done) | (simp; omega)))))⟩
          case measure => simp [intOf]; omega
      · obtain ⟨j, rfl⟩ : ∃ j, k = j + 1 := ⟨k - 1, by omega⟩
        obtain ⟨y0, y1, y2, y3⟩ := HC.out j (by have := HN.out; omega)
        simp only [Nat.add_sub_cancel] at HO
        generalize sw l j = p at *
        generalize sw l (j + 1) = s at *
        have C := fun w => Lib.hid (rname_any s.n w hsz)
        obtain ⟨v, hv⟩ : ∃ v, nameB s.n = v := ⟨_, rfl⟩
        rw [hv] at C HO
        clear hv
        cases v
        · have e := Lib.hid (HK.out (by rw [HO.out]; rfl))
          clear HS HO HK
          go_wp2_with (first
            | (go_at_call 12; refine ((C _).out).mono ?_; rintro e' w' ⟨rfl, rfl⟩)
            | (refine wp_region_xt (by kernel_rfl) (by kernel_rfl) ?_; (repeat (go_big_quiet_step (first | (go_at_call 12; exact Ret.quiet ((C _).out))))); refine wpQuiet_nil ?_; intro g))
          go_ret
          exact RetB.of (congrArg Value.bool e.out.symm) (by repeat' (first | exact Below.refl _ _ | assumption | refine Below.xt ?_ ?_ _ | refine Below.alloc ?_ ?_ _ | refine Below.drew ?_ | refine Below.setCell ?_ ?_ _ | (simp; done) | (simp; omega)))
        · obtain ⟨t, ht⟩ : ∃ t, Op.bytesLess p.n.toList s.n.toList = t := ⟨_, rfl⟩
          have HT := Lib.hid (show okW l (j + 1) = t by rw [HO.out, nlt, ht]; simp)
          cases t
          · have e := Lib.hid (HK.out HT.out)
            clear HS HO HK
            go_wp2_with (first
              | (go_at_call 12; refine ((C _).out).mono ?_; rintro e' w' ⟨rfl, rfl⟩)
              | (refine wp_region_xt (by kernel_rfl) (by kernel_rfl) ?_; (repeat (go_big_quiet_step (first | (go_at_call 12; exact Ret.quiet ((C _).out))))); refine wpQuiet_nil ?_; intro g))
            go_ret
            exact RetB.of (congrArg Value.bool e.out.symm) (by repeat' (first | exact Below.refl _ _ | assumption | refine Below.xt ?_ ?_ _ | refine Below.alloc ?_ ?_ _ | refine Below.drew ?_ | refine Below.setCell ?_ ?_ _ | (simp; done) | (simp; omega)))
          · have e := Lib.hid (HS.out HT.out)
            clear HS HO HK
            go_wp2_with (first
              | (go_at_call 12; refine ((C _).out).mono ?_; rintro e' w' ⟨rfl, rfl⟩)
              | (refine wp_region_xt (by kernel_rfl) (by kernel_rfl) ?_; (repeat (go_big_quiet_step (first | (go_at_call 12; exact Ret.quiet ((C _).out))))); refine wpQuiet_nil ?_; intro g))
            go_roundw
            case rel => exact ⟨j + 1 + 1, _, by omega, e, by go_num, (Classical.choose_spec (xt_of_below (by repeat' (first | exact Below.refl _ _ | assumption | refine Below.xt ?_ ?_ _ | refine Below.alloc ?_ ?_ _ | refine Below.drew ?_ | refine Below.setCell ?_ ?_ _ | (simp; done) | (simp; omega)))))⟩
            case measure => simp [intOf]; omega
    · obtain rfl : k = n := by omega
      have E := Lib.hid (HG.out HP.out)
      by_cases h256 : k ≤ 256
      · have E2 := Lib.hid (show true = R by rw [← E.out, decide_eq_true h256])
        go_wp2_with fail
        go_ret
        exact RetB.of (congrArg Value.bool (by rw [← E2.out]; first | done | (simp; omega))) (by repeat' (first | exact Below.refl _ _ | assumption | refine Below.xt ?_ ?_ _ | refine Below.alloc ?_ ?_ _ | refine Below.drew ?_ | refine Below.setCell ?_ ?_ _ | (simp; done) | (simp; omega)))
      · have E2 := Lib.hid (show false = R by rw [← E.out, decide_eq_false h256])
        go_wp2_with fail
        go_ret
        exact RetB.of (congrArg Value.bool (by rw [← E2.out]; first | done | (simp; omega))) (by repeat' (first | exact Below.refl _ _ | assumption | refine Below.xt ?_ ?_ _ | refine Below.alloc ?_ ?_ _ | refine Below.drew ?_ | refine Below.setCell ?_ ?_ _ | (simp; done) | (simp; omega)))
set_option maxHeartbeats 400000 in
theorem rpal_any (A : Option Addr) (n cap : Nat) (l : List Sw) (w : World) (hn : n = l.length) (hm : n ≤ 4294967296) (hf : fineW l) (hr : RowW w A l) : Calls Try.prog 28 #[.slice A n cap] w (RetB (.bool (palB l)) w) := by
  rcases Nat.eq_zero_or_pos n with h0 | h0
  · subst h0
    have e : l = [] := List.eq_nil_of_length_eq_zero hn.symm
    subst e
    clear hr hf hn
    go_enter Try.func28, Try.ntmps28
    go_wp2_with fail
    go_rounds 1
    go_ret
    exact RetB.of rfl (by repeat' (first | exact Below.refl _ _ | assumption | refine Below.xt ?_ ?_ _ | refine Below.alloc ?_ ?_ _ | refine Below.drew ?_ | refine Below.setCell ?_ ?_ _ | (simp; done) | (simp; omega)))
  · obtain ⟨b, o, rfl, _, _⟩ := Row.at_ hr (by omega)
    exact rpal_some b o n cap l w hn hm hf hr h0

end Go.Proofs.Ytkekhnclbkachaa

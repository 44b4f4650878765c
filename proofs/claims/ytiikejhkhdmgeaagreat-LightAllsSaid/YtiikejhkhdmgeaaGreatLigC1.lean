
/- Walks: which lists are cue lists, by the program. Conditions stand in each theorem. -/
import Derived.Test.YtiikejhkhdmgeaaGreatLigP
import Derived.Test.YtiikejhkhdmgeaaGreatSg
import Derived.Lib.Strings
import Derived.Lib.Slices
import Derived.Lib.Walk
import Derived.Lib.Bytealg
namespace Go.Proofs.YtiikejhkhdmgeaaGreat
open Go.RowKit
set_option linter.unusedVariables false
set_option linter.unusedSimpArgs false

def ucell (c : Cu) (j : Nat) : Value := if j = 0 then .int .i64 c.t else if j = 1 then .int .i64 c.f else if j = 2 then .string c.g else if j = 3 then .int .u8 c.c.r else if j = 4 then .int .u8 c.c.g else .int .u8 c.c.b
/-- The slice at A holds these cues. -/
def RowU (w : World) (A : Option Addr) (l : List Cu) : Prop := Row w A l.length 6 fun i => ucell (cu l i)
theorem RowU.cells {w : World} {b o : Nat} {l : List Cu} {i : Nat} (h : ∀ i j, i < l.length → j < 6 → w.cell? ⟨b, o + i * 6 + j, none⟩ = some (ucell (cu l i) j)) (hi : i < l.length) :
    w.cell? ⟨b, o + i * 6, none⟩ = some (.int .i64 (cu l i).t) ∧ w.cell? ⟨b, o + i * 6 + 1, none⟩ = some (.int .i64 (cu l i).f) ∧ w.cell? ⟨b, o + i * 6 + 2, none⟩ = some (.string (cu l i).g) ∧
    w.cell? ⟨b, o + i * 6 + 3, none⟩ = some (.int .u8 (cu l i).c.r) ∧ w.cell? ⟨b, o + i * 6 + 4, none⟩ = some (.int .u8 (cu l i).c.g) ∧ w.cell? ⟨b, o + i * 6 + 5, none⟩ = some (.int .u8 (cu l i).c.b) :=
  ⟨h i 0 hi (by omega), h i 1 hi (by omega), h i 2 hi (by omega), h i 3 hi (by omega), h i 4 hi (by omega), h i 5 hi (by omega)⟩
theorem RowU.xt {w : World} {A : Option Addr} {l : List Cu} (h : RowU w A l) (g : Gr) : RowU (xt w g) A l := Row.xt h g
theorem RowU.alloc {w : World} {A : Option Addr} {l : List Cu} (h : RowU w A l) (o : Obj) : RowU (w.alloc o) A l := Row.alloc h o
theorem RowU.drew {w : World} {A : Option Addr} {l : List Cu} (h : RowU w A l) : RowU w.drew A l := Row.drew h
/-- What the cues of a program are like. -/
def fineU (l : List Cu) : Prop := ∀ i, i < l.length → (cu l i).g.size ≤ maxLen ∧ (cu l i).c.ok ∧ I64 (cu l i).t ∧ I64 (cu l i).f

set_option maxHeartbeats 400000 in
theorem cwithin_any (n : Int) (w : World) : Calls Tryz.prog 56 #[.int .i64 n] w (Ret (.bool (isT n)) w) := by
  obtain ⟨R, hR⟩ : ∃ R, isT n = R := ⟨_, rfl⟩
  rw [hR]
  have hR := Lib.hid hR
  by_cases h0 : 0 ≤ n
  · by_cases h1 : n ≤ 3600000
    · have E := Lib.hid (show true = R by rw [← hR.out]; exact (within_iff.2 ⟨h0, h1⟩).symm)
      clear hR
      go_enter Tryz.func56, Tryz.ntmps56
      go_wp2
      go_ret
      exact Ret.of (congrArg Value.bool E.out)
    · have E := Lib.hid (show false = R by rw [← hR.out]; unfold isT within; simp; omega)
      clear hR
      go_enter Tryz.func56, Tryz.ntmps56
      go_wp2
      go_ret
      exact Ret.of (congrArg Value.bool E.out)
  · have E := Lib.hid (show false = R by rw [← hR.out]; unfold isT within; simp; omega)
    have d : decide (0 ≤ n) = false := by simpa using h0
    clear hR
    go_enter Tryz.func56, Tryz.ntmps56
    go_wp2
    go_ret
    exact Ret.of (congrArg Value.bool E.out)

set_option maxHeartbeats 800000 in
theorem fine_any (c : Cu) (w : World) (hs : c.g.size ≤ maxLen) : Calls Tryz.prog 85 #[.agg #[.int .i64 c.t, .int .i64 c.f, .string c.g, .int .u8 c.c.r, .int .u8 c.c.g, .int .u8 c.c.b]] w (RetB (.bool (cuOk c)) w) := by
  have C0 := fun n w => Lib.hid (cwithin_any n w)
  have C1 := fun w => Lib.hid (vname_any c.g w hs)
  clear hs
  obtain ⟨R, hR⟩ : ∃ R, cuOk c = R := ⟨_, rfl⟩
  rw [hR]
  have HR := Lib.hid (show ((isT c.t && isT c.f) && nameB c.g) = R from hR)
  clear hR
  obtain ⟨a, ha⟩ : ∃ a, isT c.t = a := ⟨_, rfl⟩
  obtain ⟨b, hb⟩ : ∃ b, isT c.f = b := ⟨_, rfl⟩
  obtain ⟨d, hd⟩ : ∃ d, nameB c.g = d := ⟨_, rfl⟩
  have CT := fun w => (C0 c.t w)
  have CF := fun w => (C0 c.f w)
  rw [ha] at CT
  rw [hb] at CF
  rw [hd] at C1
  rw [ha, hb, hd] at HR
  clear ha hb hd C0
  obtain ⟨t, f, g, x⟩ := c
  cases a
  · go_enter Tryz.func85, Tryz.ntmps85
    go_wp2_with (first
      | (go_at_call 56; refine ((CT _).out).mono ?_; rintro e' w' ⟨rfl, rfl⟩)
      | (refine wp_region_xt (by kernel_rfl) (by kernel_rfl) ?_; (repeat (go_big_quiet_step (first | (go_at_call 56; exact Ret.quiet ((CT _).out))))); refine wpQuiet_nil ?_; intro g))
    go_ret
    exact RetB.of (congrArg Value.bool (by rw [← HR.out]; rfl)) (by repeat' (first | exact Below.refl _ _ | assumption | refine Below.xt ?_ ?_ _ | refine Below.alloc ?_ ?_ _ | refine Below.drew ?_ | refine Below.setCell ?_ ?_ _ | (simp; done) | (simp; omega)))
  · cases b
    · go_enter Tryz.func85, Tryz.ntmps85
      go_wp2_with fail
      refine ((CT _).out).mono ?_
      rintro e' w' ⟨rfl, rfl⟩
      go_wp2_with fail
      refine ((CF _).out).mono ?_
      rintro e' w' ⟨rfl, rfl⟩
      go_wp2_with fail
      go_ret
      exact RetB.of (congrArg Value.bool (by rw [← HR.out]; rfl)) (by repeat' (first | exact Below.refl _ _ | assumption | refine Below.xt ?_ ?_ _ | refine Below.alloc ?_ ?_ _ | refine Below.drew ?_ | refine Below.setCell ?_ ?_ _ | (simp; done) | (simp; omega)))
    · go_enter Tryz.func85, Tryz.ntmps85
      go_wp2_with fail
      refine ((CT _).out).mono ?_
      rintro e' w' ⟨rfl, rfl⟩
      go_wp2_with fail
      refine ((CF _).out).mono ?_
      rintro e' w' ⟨rfl, rfl⟩
      go_wp2_with (first
        | (go_at_call 55; refine ((C1 _).out).mono ?_; rintro e' w' ⟨rfl, rfl⟩)
        | (refine wp_region_xt (by kernel_rfl) (by kernel_rfl) ?_; (repeat (go_big_quiet_step (first | (go_at_call 55; exact Ret.quiet ((C1 _).out))))); refine wpQuiet_nil ?_; intro g))
      go_ret
      exact RetB.of (congrArg Value.bool (by rw [← HR.out]; cases d <;> rfl)) (by repeat' (first | exact Below.refl _ _ | assumption | refine Below.xt ?_ ?_ _ | refine Below.alloc ?_ ?_ _ | refine Below.drew ?_ | refine Below.setCell ?_ ?_ _ | (simp; done) | (simp; omega)))

set_option maxHeartbeats 400000 in
theorem notFine_any (c : Cu) (w : World) (hs : c.g.size ≤ maxLen) : Calls Tryz.prog 84 #[.agg #[.int .i64 c.t, .int .i64 c.f, .string c.g, .int .u8 c.c.r, .int .u8 c.c.g, .int .u8 c.c.b]] w (RetB (.bool (!cuOk c)) w) := by
  have C := fun w => Lib.hid (fine_any c w hs)
  generalize cuOk c = r at *
  obtain ⟨t, f, g, x⟩ := c
  clear hs
  go_enter Tryz.func84, Tryz.ntmps84
  go_wp2_with (first
    | (go_at_call 85; refine (RetB.grown ((C _).out)).mono ?_; rintro e' w' ⟨rfl, g, rfl⟩)
    | (refine wp_region_xt (by kernel_rfl) (by kernel_rfl) ?_; (repeat (go_big_quiet_step (first | (go_at_call 85; exact RetB.quiet ((C _).out))))); refine wpQuiet_nil ?_; intro g))
  go_ret
  exact RetB.of rfl (by repeat' (first | exact Below.refl _ _ | assumption | refine Below.xt ?_ ?_ _ | refine Below.alloc ?_ ?_ _ | refine Below.drew ?_ | refine Below.setCell ?_ ?_ _ | (simp; done) | (simp; omega)))

/-! ### Comparing -/
def icmp (a b : Int) : Int := if a < b then -1 else if b < a then 1 else 0
def scmp (a b : ByteArray) : Int := if nlt a b then -1 else if a = b then 0 else 1
def ucmp (a b : Cu) : Int := if icmp a.t b.t = 0 then scmp a.g b.g else icmp a.t b.t
theorem ucmp_lt {a b : Cu} : ucmp a b < 0 ↔ cuLt a b = true := by
  have hs : scmp a.g b.g < 0 ↔ nlt a.g b.g = true := by
    unfold scmp
    by_cases h3 : nlt a.g b.g = true
    · simp [h3]
    · by_cases h4 : a.g = b.g
      · rw [if_neg h3, if_pos h4]; simp [h3]
      · rw [if_neg h3, if_neg h4]; simp [h3]
  have e : ucmp a b = if icmp a.t b.t = 0 then scmp a.g b.g else icmp a.t b.t := rfl
  have hi : icmp a.t b.t = if a.t < b.t then -1 else if b.t < a.t then 1 else 0 := rfl
  rw [e]
  simp only [cuLt, Bool.or_eq_true, Bool.and_eq_true, decide_eq_true_eq]
  by_cases h1 : a.t < b.t
  · rw [if_pos h1] at hi
    rw [hi]
    simp [h1]
  · by_cases h2 : b.t < a.t
    · rw [if_neg h1, if_pos h2] at hi
      rw [hi]
      simp only [h1, false_or]
      constructor
      · intro h; simp at h
      · rintro ⟨h, _⟩; omega
    · rw [if_neg h1, if_neg h2] at hi
      have e : a.t = b.t := by omega
      rw [hi, if_pos rfl, hs]
      simp [e]
theorem cmp_bytes (a b : List UInt8) : Lib.compareBytes a b = if a < b then -1 else if a = b then 0 else 1 := by
  induction a generalizing b with
  | nil => cases b with
    | nil => rfl
    | cons y ys => simp [Lib.compareBytes]
  | cons x xs ih => cases b with
    | nil => simp [Lib.compareBytes]
    | cons y ys =>
      rw [Lib.compareBytes, ih]
      simp only [List.cons_lt_cons_iff, List.cons.injEq]
      by_cases h1 : x < y
      · simp [h1]
      · by_cases h2 : y < x
        · have h3 : x ≠ y := fun e => by subst e; exact UInt8.lt_irrefl _ h2
          simp [h1, h2, h3]
        · have h3 : x = y := UInt8.le_antisymm (UInt8.not_lt.1 h2) (UInt8.not_lt.1 h1)
          subst h3
          simp
theorem scmp_eq (a b : ByteArray) : Lib.compareBytes a.data.toList b.data.toList = scmp a b := by
  rw [cmp_bytes, scmp, nlt_data]
  have e : (a.data.toList = b.data.toList) = (a = b) := by
    apply propext
    constructor
    · intro h; exact ByteArray.ext (Array.toList_inj.1 h)
    · intro h; rw [h]
  simp only [e, decide_eq_true_eq]

set_option maxHeartbeats 400000 in
theorem isNaNi_any (a : Int) (w : World) : Calls Tryz.prog 100 #[.int .i64 a] w (Ret (.bool false) w) := by
  go_enter Tryz.func100, Tryz.ntmps100
  go_wp2
  go_ret
  exact Ret.of rfl
set_option maxHeartbeats 800000 in
theorem icmp_any (a b : Int) (w : World) : Calls Tryz.prog 102 #[.int .i64 a, .int .i64 b] w (Ret (.int .i64 (icmp a b)) w) := by
  have E := Lib.hid (show icmp a b = if a < b then -1 else if b < a then 1 else 0 from rfl)
  generalize icmp a b = R at *
  by_cases h : a < b
  · have E2 := Lib.hid (show -1 = R by rw [E.out, if_pos h])
    clear E
    go_enter Tryz.func102, Tryz.ntmps102
    go_wp2_with (first
      | (go_at_call 100; refine (isNaNi_any _ _).mono ?_; rintro e' w' ⟨rfl, rfl⟩)
      | (refine wp_region_xt (by kernel_rfl) (by kernel_rfl) ?_; (repeat (go_big_quiet_step (first | (go_at_call 100; exact Ret.quiet (isNaNi_any _ _))))); refine wpQuiet_nil ?_; intro g))
    go_ret
    exact Ret.of (int_eq E2.out)
  · by_cases k : b < a
    · have E2 := Lib.hid (show 1 = R by rw [E.out, if_neg h, if_pos k])
      clear E
      go_enter Tryz.func102, Tryz.ntmps102
      go_wp2_with (first
        | (go_at_call 100; refine (isNaNi_any _ _).mono ?_; rintro e' w' ⟨rfl, rfl⟩)
        | (refine wp_region_xt (by kernel_rfl) (by kernel_rfl) ?_; (repeat (go_big_quiet_step (first | (go_at_call 100; exact Ret.quiet (isNaNi_any _ _))))); refine wpQuiet_nil ?_; intro g))
      go_ret
      exact Ret.of (int_eq E2.out)
    · have E2 := Lib.hid (show 0 = R by rw [E.out, if_neg h, if_neg k])
      clear E
      go_enter Tryz.func102, Tryz.ntmps102
      go_wp2_with (first
        | (go_at_call 100; refine (isNaNi_any _ _).mono ?_; rintro e' w' ⟨rfl, rfl⟩)
        | (refine wp_region_xt (by kernel_rfl) (by kernel_rfl) ?_; (repeat (go_big_quiet_step (first | (go_at_call 100; exact Ret.quiet (isNaNi_any _ _))))); refine wpQuiet_nil ?_; intro g))
      go_ret
      exact Ret.of (int_eq E2.out)
set_option maxHeartbeats 1000000 in
set_option maxRecDepth 100000 in
theorem cmpString_any (a b : ByteArray) (w : World) : Calls Tryz.prog 106 #[.string a, .string b] w (Ret (.int .i64 (scmp a b)) w) := by
  go_enter Tryz.func106, Tryz.ntmps106
  go_wp2
  rw [run_callFunc_extern Tryz.func107 (by kernel_rfl) (by kernel_rfl) (by kernel_rfl) (e := Extern.BytealgCompare.compare) (by kernel_rfl), Lib.run_compareString, scmp_eq]
  simp only [Result.andThen]
  rw [Oper.upon_value]
  go_wp2
  go_ret
  exact Ret.of rfl
set_option maxHeartbeats 400000 in
theorem sCompare_any (a b : ByteArray) (w : World) : Calls Tryz.prog 103 #[.string a, .string b] w (Ret (.int .i64 (scmp a b)) w) := by
  go_enter Tryz.func103, Tryz.ntmps103
  go_wp2_with (first
    | (go_at_call 106; refine (cmpString_any _ _ _).mono ?_; rintro e' w' ⟨rfl, rfl⟩)
    | (refine wp_region_xt (by kernel_rfl) (by kernel_rfl) ?_; (repeat (go_big_quiet_step (first | (go_at_call 106; exact Ret.quiet (cmpString_any _ _ _))))); refine wpQuiet_nil ?_; intro g))
  go_ret
  exact Ret.of rfl
def or2 (a b : Int) : Int := if a = 0 then b else a
set_option maxHeartbeats 800000 in
theorem Or_any (a b : Int) (m c : Nat) (w : World) (hm : old m w) (h0 : w.cell? ⟨m, 0, none⟩ = some (.int .i64 a)) (h1 : w.cell? ⟨m, 1, none⟩ = some (.int .i64 b)) :
    Calls Tryz.prog 101 #[.slice (some ⟨m, 0, none⟩) 2 c] w (RetB (.int .i64 (or2 a b)) w) := by
  have E := Lib.hid (show or2 a b = if a = 0 then b else a from rfl)
  generalize or2 a b = R at *
  by_cases h : a = 0
  · subst h
    have E2 := Lib.hid (show b = R by rw [E.out, if_pos rfl])
    clear E
    by_cases k : b = 0
    · subst k
      go_enter Tryz.func101, Tryz.ntmps101
      go_wp2_with fail
      refine wp_loop_rounds 3 ?_
      repeat any_goals (rw [rounds_succ]; go_wp2_with (first
        | fail
        | (refine wp_region_xt (by kernel_rfl) (by kernel_rfl) ?_; (repeat (go_big_quiet_step (first | fail))); refine wpQuiet_nil ?_; intro g)))
      go_ret
      exact RetB.of (int_eq E2.out) (by repeat' (first | exact Below.refl _ _ | assumption | refine Below.xt ?_ ?_ _ | refine Below.alloc ?_ ?_ _ | refine Below.drew ?_ | refine Below.setCell ?_ ?_ _ | (simp; done) | (simp; omega)))
    · have k' : (b != 0) = true := by simpa using k
      have k2 : (b == 0) = false := by simpa using k
      clear k
      go_enter Tryz.func101, Tryz.ntmps101
      go_wp2_with fail
      refine wp_loop_rounds 3 ?_
      repeat any_goals (rw [rounds_succ]; go_wp2_with (first
        | fail
        | (refine wp_region_xt (by kernel_rfl) (by kernel_rfl) ?_; (repeat (go_big_quiet_step (first | fail))); refine wpQuiet_nil ?_; intro g)))
      go_ret
      exact RetB.of (int_eq E2.out) (by repeat' (first | exact Below.refl _ _ | assumption | refine Below.xt ?_ ?_ _ | refine Below.alloc ?_ ?_ _ | refine Below.drew ?_ | refine Below.setCell ?_ ?_ _ | (simp; done) | (simp; omega)))
  · have E2 := Lib.hid (show a = R by rw [E.out, if_neg h])
    have k' : (a != 0) = true := by simpa using h
    have k2 : (a == 0) = false := by simpa using h
    clear E h
    go_enter Tryz.func101, Tryz.ntmps101
    go_wp2_with fail
    refine wp_loop_rounds 3 ?_
    repeat any_goals (rw [rounds_succ]; go_wp2_with (first
      | fail
      | (refine wp_region_xt (by kernel_rfl) (by kernel_rfl) ?_; (repeat (go_big_quiet_step (first | fail))); refine wpQuiet_nil ?_; intro g)))
    go_ret
    exact RetB.of (int_eq E2.out) (by repeat' (first | exact Below.refl _ _ | assumption | refine Below.xt ?_ ?_ _ | refine Below.alloc ?_ ?_ _ | refine Below.drew ?_ | refine Below.setCell ?_ ?_ _ | (simp; done) | (simp; omega)))

end Go.Proofs.YtiikejhkhdmgeaaGreat

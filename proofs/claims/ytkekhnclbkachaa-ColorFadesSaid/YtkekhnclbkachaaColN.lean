/- Walks: the colour with a name by the reference, and the nearest swatch by the program and by the reference. Conditions stand in each theorem. -/
import Derived.Test.YtkekhnclbkachaaColB
import Derived.Test.YtkekhnclbkachaaColW1
namespace Go.Proofs.Ytkekhnclbkachaa
open Go.RowKit
set_option linter.unusedVariables false
set_option linter.unusedSimpArgs false

set_option maxHeartbeats 1600000 in
theorem refFind_any (A : Option Addr) (n cap : Nat) (l : List Sw) (name : ByteArray) (w : World) (hn : n = l.length) (hm : n ≤ 4294967296) (hf : fineW l) (hr : RowW w A l) : Calls Try.prog 26 #[.slice A n cap, .string name] w (RetB (.tuple #[.agg #[.int .u8 (findC l name).r, .int .u8 (findC l name).g, .int .u8 (findC l name).b], .int .i64 (findE l name)]) w) := by
  have K := fun w h => Lib.hid (rpal_any A n cap l w hn hm hf h)
  have HR := Lib.hid hr
  have HN := Lib.hid hn
  obtain ⟨V, hV⟩ : ∃ V : Value, .tuple #[.agg #[.int .u8 (findC l name).r, .int .u8 (findC l name).g, .int .u8 (findC l name).b], .int .i64 (findE l name)] = V := ⟨_, rfl⟩
  rw [hV]
  obtain ⟨p, hp⟩ : ∃ p, palB l = p := ⟨_, rfl⟩
  rw [hp] at K
  cases p
  · have HV := Lib.hid (show .tuple #[.agg #[.int .u8 0, .int .u8 0, .int .u8 0], .int .i64 2] = V by
      rw [← hV, findC, findE, hp]; rfl)
    clear hV hp hr hn hf
    go_enter Try.func26, Try.ntmps26
    go_wp2_with (first
      | (go_at_call 28; refine (RetB.grown ((K _ (by repeat (first | exact HR.out | refine RowW.xt ?_ _ | refine RowW.alloc ?_ _ | refine RowW.drew ?_))).out)).mono ?_; rintro e' w' ⟨rfl, g, rfl⟩)
      | (refine wp_region_xt (by kernel_rfl) (by kernel_rfl) ?_; (repeat (go_big_quiet_step (first | (go_at_call 28; exact RetB.quiet ((K _ (by repeat (first | exact HR.out | refine RowW.xt ?_ _ | refine RowW.alloc ?_ _ | refine RowW.drew ?_))).out))))); refine wpQuiet_nil ?_; intro g))
    refine bodyPost_ret (v := .tuple #[.agg #[.int .u8 0, .int .u8 0, .int .u8 0], .int .i64 2]) (by simp [results, Try.results26, go_sem]) rfl ?_
    exact RetB.of HV.out (by repeat' (first | exact Below.refl _ _ | assumption | refine Below.xt ?_ ?_ _ | refine Below.alloc ?_ ?_ _ | refine Below.drew ?_ | refine Below.setCell ?_ ?_ _ | (simp; done) | (simp; omega)))
  · have HV9 := Lib.hid (show (∀ k, k < n → (sw l k).n ≠ name) → .tuple #[.agg #[.int .u8 0, .int .u8 0, .int .u8 0], .int .i64 9] = V from fun h => by
      rw [hn] at h
      rw [← hV, findC, findE, hp, fix_none h]; simp [black])
    have HV0 := Lib.hid (show ∀ i, i < n → (sw l i).n = name → .tuple #[.agg #[.int .u8 ((sw l i).c).r, .int .u8 ((sw l i).c).g, .int .u8 ((sw l i).c).b], .int .i64 0] = V from fun i hi h => by
      rw [hn] at hi
      rw [← hV, findC, findE, hp, fix_uniq (palB_to hp) hi h]; simp [hi])
    clear hV hp hr hn hf
    rcases Nat.eq_zero_or_pos n with h0 | h0
    · subst h0
      have E := Lib.hid (HV9.out fun k hk => absurd hk (by omega))
      go_enter Try.func26, Try.ntmps26
      go_wp2_with (first
        | (go_at_call 28; refine (RetB.grown ((K _ (by repeat (first | exact HR.out | refine RowW.xt ?_ _ | refine RowW.alloc ?_ _ | refine RowW.drew ?_))).out)).mono ?_; rintro e' w' ⟨rfl, g, rfl⟩)
        | (refine wp_region_xt (by kernel_rfl) (by kernel_rfl) ?_; (repeat (go_big_quiet_step (first | (go_at_call 28; exact RetB.quiet ((K _ (by repeat (first | exact HR.out | refine RowW.xt ?_ _ | refine RowW.alloc ?_ _ | refine RowW.drew ?_))).out))))); refine wpQuiet_nil ?_; intro g))
      go_rounds 1
      refine bodyPost_ret (v := .tuple #[.agg #[.int .u8 0, .int .u8 0, .int .u8 0], .int .i64 9]) (by simp [results, Try.results26, go_sem]) rfl ?_
      exact RetB.of E.out (by repeat' (first | exact Below.refl _ _ | assumption | refine Below.xt ?_ ?_ _ | refine Below.alloc ?_ ?_ _ | refine Below.drew ?_ | refine Below.setCell ?_ ?_ _ | (simp; done) | (simp; omega)))
    obtain ⟨b, o, rfl, hbo, hc⟩ := Row.at_ HR.out (by have := HN.out; omega)
    have HC := Lib.hid fun k hk => RowW.cells hc (i := k) hk
    clear hc
    go_enter Try.func26, Try.ntmps26
    go_wp2_with (first
      | (go_at_call 28; refine (RetB.grown ((K _ (by repeat (first | exact HR.out | refine RowW.xt ?_ _ | refine RowW.alloc ?_ _ | refine RowW.drew ?_))).out)).mono ?_; rintro e' w' ⟨rfl, g, rfl⟩)
      | (refine wp_region_xt (by kernel_rfl) (by kernel_rfl) ?_; (repeat (go_big_quiet_step (first | (go_at_call 28; exact RetB.quiet ((K _ (by repeat (first | exact HR.out | refine RowW.xt ?_ _ | refine RowW.alloc ?_ _ | refine RowW.drew ?_))).out))))); refine wpQuiet_nil ?_; intro g))
    go_loopw [6] (fun i wr => ∃ (k : Nat) (g : Gr), k ≤ n ∧ Hid (∀ j, j < k → (sw l j).n ≠ name) ∧ i = .int .i64 k ∧ wr = xt (w.alloc (.cells #[.int .u8 0, .int .u8 0, .int .u8 0] 25)) g) (fun i _ => n - (intOf i).toNat)
    case atStart => exact ⟨0, _, by omega, Lib.hid fun j hj => absurd hj (by omega), rfl, Classical.choose_spec (xt_of_below (by repeat' (first | exact Below.refl _ _ | assumption | refine Below.xt ?_ ?_ _ | refine Below.alloc ?_ ?_ _ | refine Below.drew ?_ | refine Below.setCell ?_ ?_ _ | (simp; done) | (simp; omega))))⟩
    case round =>
      obtain ⟨k, g, hk, HK, rfl, rfl⟩ := hrel
      by_cases hlt : k < n
      · obtain ⟨x0, x1, x2, x3⟩ := HC.out k (HN.out ▸ hlt)
        have H0 := Lib.hid (HV0.out k hlt)
        have HS := Lib.hid (show (sw l k).n ≠ name → ∀ j, j < k + 1 → (sw l j).n ≠ name from fun h j hj => if e : j = k then e ▸ h else HK.out j (by omega))
        generalize sw l k = s at *
        by_cases he : s.n = name
        · have e1 : (s.n.toList == name.toList) = true := by rw [beq_str]; simpa using he
          have E := Lib.hid (H0.out he)
          clear he H0 HS
          go_wp2_with fail
          refine bodyPost_ret (v := .tuple #[.agg #[.int .u8 s.c.r, .int .u8 s.c.g, .int .u8 s.c.b], .int .i64 0]) (by simp [results, Try.results26, go_sem]) rfl ?_
          exact RetB.of E.out (by repeat' (first | exact Below.refl _ _ | assumption | refine Below.xt ?_ ?_ _ | refine Below.alloc ?_ ?_ _ | refine Below.drew ?_ | refine Below.setCell ?_ ?_ _ | (simp; done) | (simp; omega)))
        · have e1 : (s.n.toList == name.toList) = false := by rw [beq_str]; simpa using he
          have E := Lib.hid (HS.out he)
          clear he H0 HS
          go_wp2_with fail
          go_roundw
          case rel => exact ⟨k + 1, g, by omega, E, by go_num, rfl⟩
          case measure => simp [intOf]; omega
      · obtain rfl : k = n := by omega
        have E := Lib.hid (HV9.out HK.out)
        go_wp2_with fail
        refine bodyPost_ret (v := .tuple #[.agg #[.int .u8 0, .int .u8 0, .int .u8 0], .int .i64 9]) (by simp [results, Try.results26, go_sem]) rfl ?_
        exact RetB.of E.out (by repeat' (first | exact Below.refl _ _ | assumption | refine Below.xt ?_ ?_ _ | refine Below.alloc ?_ ?_ _ | refine Below.drew ?_ | refine Below.setCell ?_ ?_ _ | (simp; done) | (simp; omega)))

/-! ### The nearest swatch -/
def mi (l : List Sw) (c : Col) : Nat → Nat
  | 0 => 0
  | k + 1 => if cd2 (sw l k).c c < cd2 (sw l (mi l c k)).c c then k else mi l c k
theorem mi_lt (l : List Sw) (c : Col) : ∀ k, 0 < k → mi l c k < k
  | 0, h => absurd h (by omega)
  | k + 1, _ => by
    rw [mi]
    split
    · omega
    · rcases Nat.eq_zero_or_pos k with h0 | h0
      · subst h0; simp [mi]
      · have := mi_lt l c k h0; omega
def nearE (l : List Sw) (c : Col) : Int := if palB l then (if l.length = 0 then 9 else 0) else 2
def nearN (l : List Sw) (c : Col) : ByteArray := if nearE l c = 0 then (sw l (mi l c l.length)).n else ⟨#[]⟩

set_option maxHeartbeats 1600000 in
theorem Near1_any (s t : Sw) (c : Col) (B : Nat) (w : World) (hs : s.c.ok) (ht : t.c.ok) (hc : c.ok) (hB : old B w) (c0 : w.cell? ⟨B, 0, none⟩ = some (.int .u8 c.r)) (c1 : w.cell? ⟨B, 1, none⟩ = some (.int .u8 c.g)) (c2 : w.cell? ⟨B, 2, none⟩ = some (.int .u8 c.b)) :
    Calls Try.prog 43 #[.agg #[.string s.n, .int .u8 s.c.r, .int .u8 s.c.g, .int .u8 s.c.b], .agg #[.string t.n, .int .u8 t.c.r, .int .u8 t.c.g, .int .u8 t.c.b], .pointer (some ⟨B, 0, none⟩)] w (RetB (.int .i64 (cd2 s.c c - cd2 t.c c)) w) := by
  have C1 := fun w => Lib.hid (Dist_any s.c c w hs hc)
  have C2 := fun w => Lib.hid (Dist_any t.c c w ht hc)
  obtain ⟨d1, d2⟩ := cd2_le hs hc
  obtain ⟨d3, d4⟩ := cd2_le ht hc
  have e1 : IntKind.i64.wrap (cd2 s.c c - cd2 t.c c) = cd2 s.c c - cd2 t.c c := IntWalk.i64_in _ (by omega)
  clear hs ht hc
  generalize cd2 s.c c = x at *
  generalize cd2 t.c c = y at *
  go_enter Try.func43, Try.ntmps43
  go_wp2_with (first
    | (go_at_call 21; (with_reducible refine (RetB.grown ((C1 _).out)).mono ?_); rintro e' w' ⟨rfl, g, rfl⟩)
    | (go_at_call 21; (with_reducible refine (RetB.grown ((C2 _).out)).mono ?_); rintro e' w' ⟨rfl, g, rfl⟩)
    | (refine wp_region_xt (by kernel_rfl) (by kernel_rfl) ?_; (repeat (go_big_quiet_step (first | (go_at_call 21; (with_reducible exact RetB.quiet ((C1 _).out))) | (go_at_call 21; (with_reducible exact RetB.quiet ((C2 _).out)))))); refine wpQuiet_nil ?_; intro g))
  go_ret
  exact RetB.of rfl (by repeat' (first | exact Below.refl _ _ | assumption | refine Below.xt ?_ ?_ _ | refine Below.alloc ?_ ?_ _ | refine Below.drew ?_ | refine Below.setCell ?_ ?_ _ | (simp; done) | (simp; omega)))

def swV (s : Sw) : Value := .agg #[.string s.n, .int .u8 s.c.r, .int .u8 s.c.g, .int .u8 s.c.b]
set_option maxHeartbeats 3200000 in
theorem MinFunc_any (b o n cap : Nat) (l : List Sw) (c : Col) (B : Nat) (w : World) (hn : n = l.length) (hm : n ≤ 4294967296) (hf : fineW l) (hr : RowW w (some ⟨b, o, none⟩) l) (h0 : 0 < n) (hco : c.ok) (hB : old B w) (c0 : w.cell? ⟨B, 0, none⟩ = some (.int .u8 c.r)) (c1 : w.cell? ⟨B, 1, none⟩ = some (.int .u8 c.g)) (c2 : w.cell? ⟨B, 2, none⟩ = some (.int .u8 c.b)) :
    Calls Try.prog 42 #[.slice (some ⟨b, o, none⟩) n cap, .func (.func 43) #[] #[.pointer (some ⟨B, 0, none⟩)]] w (RetB (.agg #[.string (sw l (mi l c n)).n, .int .u8 (sw l (mi l c n)).c.r, .int .u8 (sw l (mi l c n)).c.g, .int .u8 (sw l (mi l c n)).c.b]) w) := by
  obtain ⟨b', o', e, hb, hc⟩ := Row.at_ hr (by omega)
  injection e with e
  injection e with e1 e2
  subst e1 e2
  have HN := Lib.hid hn
  have HC := Lib.hid fun k hk => RowW.cells hc (i := k) hk
  have HF := Lib.hid hf
  obtain ⟨x0, x1, x2, x3⟩ := HC.out 0 (by omega)
  simp only [Nat.zero_mul, Nat.add_zero] at x0 x1 x2 x3
  have D := fun (i j : Nat) (hi : i < n) (hj : j < n) (W : World) (q0 : old B W) q1 q2 q3 => Lib.hid (Near1_any (sw l i) (sw l j) c B W (hf i (by omega)).2 (hf j (by omega)).2 hco q0 q1 q2 q3)
  have HM := Lib.hid (fun k => mi_lt l c k)
  have HI := Lib.hid (fun k => show mi l c (k + 1) = if cd2 (sw l k).c c < cd2 (sw l (mi l c k)).c c then k else mi l c k from rfl)
  have h1 : mi l c 1 = 0 := by simp [mi]
  clear hn hr hc hf hco
  go_enter Try.func42, Try.ntmps42
  go_wp2_with fail
  have h1' := Lib.hid h1
  clear h1 x0 x1 x2 x3
  go_loopw [6] (fun i wr => ∃ (k : Nat) (g : Gr), 1 ≤ k ∧ k ≤ n ∧ i = .int .i64 k ∧ wr = xt ((w.alloc (.cells #[.string ⟨#[]⟩, .int .u8 0, .int .u8 0, .int .u8 0] 54)).alloc (.cells #[.string (sw l (mi l c k)).n, .int .u8 (sw l (mi l c k)).c.r, .int .u8 (sw l (mi l c k)).c.g, .int .u8 (sw l (mi l c k)).c.b] 54)) g) (fun i _ => n - (intOf i).toNat)
  case atStart => exact ⟨1, ⟨[], _⟩, by omega, by omega, rfl, by rw [h1'.out]; exact (xt_self _).symm⟩
  case round =>
    obtain ⟨k, g, hk1, hk, rfl, rfl⟩ := hrel
    by_cases hlt : k < n
    · obtain ⟨x0, x1, x2, x3⟩ := HC.out k (HN.out ▸ hlt)
      have D1 := D k (mi l c k) hlt (Nat.lt_of_lt_of_le (HM.out k (by omega)) hk)
      have I1 := Lib.hid (HI.out k)
      obtain ⟨d, hd⟩ : ∃ d, cd2 (sw l k).c c - cd2 (sw l (mi l c k)).c c = d := ⟨_, rfl⟩
      rw [hd] at D1
      have I2 := Lib.hid (show mi l c (k + 1) = if d < 0 then k else mi l c k by rw [I1.out, ← hd]; split <;> (split <;> first | rfl | omega))
      clear hd I1 D
      have HSk := Lib.hid (show ∀ i, mi l c (k + 1) = i → sw l (mi l c (k + 1)) = sw l i from fun i h => by rw [h])
      by_cases hd : d < 0
      · have E := Lib.hid (HSk.out k (by rw [I2.out, if_pos hd]))
        generalize sw l (mi l c k) = t at *
        generalize sw l k = s at *
        go_wp2_with (first
          | (go_at_call 43; refine (RetB.grown ((D1 _ (by go_simp) (by go_simp) (by go_simp) (by go_simp)).out)).mono ?_; rintro e' w' ⟨rfl, g, rfl⟩)
          | (refine wp_region_xt (by kernel_rfl) (by kernel_rfl) ?_; (repeat (go_big_quiet_step (first | (go_at_call 43; exact RetB.quiet ((D1 _ (by go_simp) (by go_simp) (by go_simp) (by go_simp)).out))))); refine wpQuiet_nil ?_; intro g))
        go_roundw
        case rel =>
          refine ⟨k + 1, ?_⟩
          rw [E.out]
          exact ⟨_, by omega, by omega, by go_num, Classical.choose_spec (xt_of_below (by repeat' (first | exact Below.refl _ _ | assumption | refine Below.xt ?_ ?_ _ | refine Below.alloc ?_ ?_ _ | refine Below.drew ?_ | refine Below.setCell ?_ ?_ _ | (simp; done) | (simp; omega))))⟩
        case measure => simp [intOf]; omega
      · have E := Lib.hid (HSk.out (mi l c k) (by rw [I2.out, if_neg hd]))
        generalize sw l (mi l c k) = t at *
        generalize sw l k = s at *
        go_wp2_with (first
          | (go_at_call 43; refine (RetB.grown ((D1 _ (by go_simp) (by go_simp) (by go_simp) (by go_simp)).out)).mono ?_; rintro e' w' ⟨rfl, g, rfl⟩)
          | (refine wp_region_xt (by kernel_rfl) (by kernel_rfl) ?_; (repeat (go_big_quiet_step (first | (go_at_call 43; exact RetB.quiet ((D1 _ (by go_simp) (by go_simp) (by go_simp) (by go_simp)).out))))); refine wpQuiet_nil ?_; intro g))
        go_roundw
        case rel =>
          refine ⟨k + 1, ?_⟩
          rw [E.out]
          exact ⟨_, by omega, by omega, by go_num, Classical.choose_spec (xt_of_below (by repeat' (first | exact Below.refl _ _ | assumption | refine Below.xt ?_ ?_ _ | refine Below.alloc ?_ ?_ _ | refine Below.drew ?_ | refine Below.setCell ?_ ?_ _ | (simp; done) | (simp; omega))))⟩
        case measure => simp [intOf]; omega
    · obtain rfl : k = n := by omega
      generalize sw l (mi l c k) = t at *
      go_wp2_with fail
      refine bodyPost_ret (v := .agg #[.string t.n, .int .u8 t.c.r, .int .u8 t.c.g, .int .u8 t.c.b]) (by simp [results, Try.results42, go_sem]) rfl ?_
      exact RetB.of rfl (by repeat' (first | exact Below.refl _ _ | assumption | refine Below.xt ?_ ?_ _ | refine Below.alloc ?_ ?_ _ | refine Below.drew ?_ | refine Below.setCell ?_ ?_ _ | (simp; done) | (simp; omega)))

set_option maxHeartbeats 1600000 in
theorem Nearest_any (A : Option Addr) (n cap : Nat) (l : List Sw) (c : Col) (w : World) (hn : n = l.length) (hm : n ≤ 4294967296) (hf : fineW l) (hr : RowW w A l) (hco : c.ok) : Calls Try.prog 29 #[.slice A n cap, .agg #[.int .u8 c.r, .int .u8 c.g, .int .u8 c.b]] w (RetB (.tuple #[.string (nearN l c), .int .i64 (nearE l c)]) w) := by
  have K := fun w h => Lib.hid (vpal_any A n cap l w hn hm hf h)
  have HR := Lib.hid hr
  have HN := Lib.hid hn
  obtain ⟨V, hV⟩ : ∃ V : Value, .tuple #[.string (nearN l c), .int .i64 (nearE l c)] = V := ⟨_, rfl⟩
  rw [hV]
  obtain ⟨p, hp⟩ : ∃ p, palB l = p := ⟨_, rfl⟩
  rw [hp] at K
  cases p
  · have HV := Lib.hid (show .tuple #[.string ⟨#[]⟩, .int .i64 2] = V by
      rw [← hV, nearN, nearE, hp]; rfl)
    clear hV hp hr hn hf hco
    go_enter Try.func29, Try.ntmps29
    go_wp2_with (first
      | (go_at_call 27; refine (RetB.grown ((K _ (by repeat (first | exact HR.out | refine RowW.xt ?_ _ | refine RowW.alloc ?_ _ | refine RowW.drew ?_))).out)).mono ?_; rintro e' w' ⟨rfl, g, rfl⟩)
      | (refine wp_region_xt (by kernel_rfl) (by kernel_rfl) ?_; (repeat (go_big_quiet_step (first | (go_at_call 27; exact RetB.quiet ((K _ (by repeat (first | exact HR.out | refine RowW.xt ?_ _ | refine RowW.alloc ?_ _ | refine RowW.drew ?_))).out))))); refine wpQuiet_nil ?_; intro g))
    go_ret2
    exact RetB.of HV.out (by repeat' (first | exact Below.refl _ _ | assumption | refine Below.xt ?_ ?_ _ | refine Below.alloc ?_ ?_ _ | refine Below.drew ?_ | refine Below.setCell ?_ ?_ _ | (simp; done) | (simp; omega)))
  · rcases Nat.eq_zero_or_pos n with h0 | h0
    · have HV := Lib.hid (show .tuple #[.string ⟨#[]⟩, .int .i64 9] = V by
        rw [← hV, nearN, nearE, hp, ← hn, h0]; rfl)
      subst h0
      clear hV hp hr hn hf hco
      go_enter Try.func29, Try.ntmps29
      go_wp2_with (first
        | (go_at_call 27; refine (RetB.grown ((K _ (by repeat (first | exact HR.out | refine RowW.xt ?_ _ | refine RowW.alloc ?_ _ | refine RowW.drew ?_))).out)).mono ?_; rintro e' w' ⟨rfl, g, rfl⟩)
        | (refine wp_region_xt (by kernel_rfl) (by kernel_rfl) ?_; (repeat (go_big_quiet_step (first | (go_at_call 27; exact RetB.quiet ((K _ (by repeat (first | exact HR.out | refine RowW.xt ?_ _ | refine RowW.alloc ?_ _ | refine RowW.drew ?_))).out))))); refine wpQuiet_nil ?_; intro g))
      go_ret2
      exact RetB.of HV.out (by repeat' (first | exact Below.refl _ _ | assumption | refine Below.xt ?_ ?_ _ | refine Below.alloc ?_ ?_ _ | refine Below.drew ?_ | refine Below.setCell ?_ ?_ _ | (simp; done) | (simp; omega)))
    · have HV := Lib.hid (show .tuple #[.string (sw l (mi l c n)).n, .int .i64 0] = V by
        rw [← hV, nearN, nearE, hp, ← hn]; simp [show n ≠ 0 by omega])
      have hz : ((n : Int) == 0) = false := by simp; omega
      obtain ⟨b, o, rfl, hbo, hc⟩ := Row.at_ hr (by omega)
      have M := fun B w h q0 q1 q2 q3 => Lib.hid (MinFunc_any b o n cap l c B w hn hm hf h h0 hco q0 q1 q2 q3)
      generalize sw l (mi l c n) = t at *
      clear hV hp hr hn hf hco hc
      go_enter Try.func29, Try.ntmps29
      go_wp2_with (first
        | (go_at_call 27; refine (RetB.grown ((K _ (by repeat (first | exact HR.out | refine RowW.xt ?_ _ | refine RowW.alloc ?_ _ | refine RowW.drew ?_))).out)).mono ?_; rintro e' w' ⟨rfl, g, rfl⟩)
        | (go_at_call 42; refine (RetB.grown ((M _ _ (by repeat (first | exact HR.out | refine RowW.xt ?_ _ | refine RowW.alloc ?_ _ | refine RowW.drew ?_)) (by go_simp) (by go_simp) (by go_simp) (by go_simp)).out)).mono ?_; rintro e' w' ⟨rfl, g, rfl⟩)
        | (refine wp_region_xt (by kernel_rfl) (by kernel_rfl) ?_; (repeat (go_big_quiet_step (first | (go_at_call 27; exact RetB.quiet ((K _ (by repeat (first | exact HR.out | refine RowW.xt ?_ _ | refine RowW.alloc ?_ _ | refine RowW.drew ?_))).out)) | (go_at_call 42; exact RetB.quiet ((M _ _ (by repeat (first | exact HR.out | refine RowW.xt ?_ _ | refine RowW.alloc ?_ _ | refine RowW.drew ?_)) (by go_simp) (by go_simp) (by go_simp) (by go_simp)).out))))); refine wpQuiet_nil ?_; intro g))
      go_ret2
      exact RetB.of HV.out (by repeat' (first | exact Below.refl _ _ | assumption | refine Below.xt ?_ ?_ _ | refine Below.alloc ?_ ?_ _ | refine Below.drew ?_ | refine Below.setCell ?_ ?_ _ | (simp; done) | (simp; omega)))

set_option maxHeartbeats 3200000 in
theorem refNearest_any (A : Option Addr) (n cap : Nat) (l : List Sw) (c : Col) (w : World) (hn : n = l.length) (hm : n ≤ 4294967296) (hf : fineW l) (hr : RowW w A l) (hco : c.ok) : Calls Try.prog 30 #[.slice A n cap, .agg #[.int .u8 c.r, .int .u8 c.g, .int .u8 c.b]] w (RetB (.tuple #[.string (nearN l c), .int .i64 (nearE l c)]) w) := by
  have K := fun w h => Lib.hid (rpal_any A n cap l w hn hm hf h)
  have HR := Lib.hid hr
  have HN := Lib.hid hn
  obtain ⟨V, hV⟩ : ∃ V : Value, .tuple #[.string (nearN l c), .int .i64 (nearE l c)] = V := ⟨_, rfl⟩
  rw [hV]
  obtain ⟨p, hp⟩ : ∃ p, palB l = p := ⟨_, rfl⟩
  rw [hp] at K
  cases p
  · have HV := Lib.hid (show .tuple #[.string ⟨#[]⟩, .int .i64 2] = V by
      rw [← hV, nearN, nearE, hp]; rfl)
    clear hV hp hr hn hf hco
    go_enter Try.func30, Try.ntmps30
    go_wp2_with (first
      | (go_at_call 28; refine (RetB.grown ((K _ (by repeat (first | exact HR.out | refine RowW.xt ?_ _ | refine RowW.alloc ?_ _ | refine RowW.drew ?_))).out)).mono ?_; rintro e' w' ⟨rfl, g, rfl⟩)
      | (refine wp_region_xt (by kernel_rfl) (by kernel_rfl) ?_; (repeat (go_big_quiet_step (first | (go_at_call 28; exact RetB.quiet ((K _ (by repeat (first | exact HR.out | refine RowW.xt ?_ _ | refine RowW.alloc ?_ _ | refine RowW.drew ?_))).out))))); refine wpQuiet_nil ?_; intro g))
    go_ret2
    exact RetB.of HV.out (by repeat' (first | exact Below.refl _ _ | assumption | refine Below.xt ?_ ?_ _ | refine Below.alloc ?_ ?_ _ | refine Below.drew ?_ | refine Below.setCell ?_ ?_ _ | (simp; done) | (simp; omega)))
  · rcases Nat.eq_zero_or_pos n with h0 | h0
    · have HV := Lib.hid (show .tuple #[.string ⟨#[]⟩, .int .i64 9] = V by
        rw [← hV, nearN, nearE, hp, ← hn, h0]; rfl)
      subst h0
      clear hV hp hr hn hf hco
      go_enter Try.func30, Try.ntmps30
      go_wp2_with (first
        | (go_at_call 28; refine (RetB.grown ((K _ (by repeat (first | exact HR.out | refine RowW.xt ?_ _ | refine RowW.alloc ?_ _ | refine RowW.drew ?_))).out)).mono ?_; rintro e' w' ⟨rfl, g, rfl⟩)
        | (refine wp_region_xt (by kernel_rfl) (by kernel_rfl) ?_; (repeat (go_big_quiet_step (first | (go_at_call 28; exact RetB.quiet ((K _ (by repeat (first | exact HR.out | refine RowW.xt ?_ _ | refine RowW.alloc ?_ _ | refine RowW.drew ?_))).out))))); refine wpQuiet_nil ?_; intro g))
      go_ret2
      exact RetB.of HV.out (by repeat' (first | exact Below.refl _ _ | assumption | refine Below.xt ?_ ?_ _ | refine Below.alloc ?_ ?_ _ | refine Below.drew ?_ | refine Below.setCell ?_ ?_ _ | (simp; done) | (simp; omega)))
    · have HV := Lib.hid (show .tuple #[.string (sw l (mi l c n)).n, .int .i64 0] = V by
        rw [← hV, nearN, nearE, hp, ← hn]; simp [show n ≠ 0 by omega])
      have hz : ((n : Int) == 0) = false := by simp; omega
      obtain ⟨b, o, rfl, hbo, hc⟩ := Row.at_ hr (by omega)
      have HC := Lib.hid fun k hk => RowW.cells hc (i := k) hk
      have D := fun (i : Nat) (hi : i < n) (W : World) => Lib.hid (refDist_any (sw l i).c c W (hf i (by omega)).2 hco)
      have HM := Lib.hid (fun k => mi_lt l c k)
      have HI := Lib.hid (fun k => show mi l c (k + 1) = if cd2 (sw l k).c c < cd2 (sw l (mi l c k)).c c then k else mi l c k from rfl)
      have h1' := Lib.hid (show mi l c 1 = 0 by simp [mi])
      clear hV hp hr hn hf hco hc
      go_enter Try.func30, Try.ntmps30
      go_wp2_with (first
        | (go_at_call 28; refine (RetB.grown ((K _ (by repeat (first | exact HR.out | refine RowW.xt ?_ _ | refine RowW.alloc ?_ _ | refine RowW.drew ?_))).out)).mono ?_; rintro e' w' ⟨rfl, g, rfl⟩)
        | (refine wp_region_xt (by kernel_rfl) (by kernel_rfl) ?_; (repeat (go_big_quiet_step (first | (go_at_call 28; exact RetB.quiet ((K _ (by repeat (first | exact HR.out | refine RowW.xt ?_ _ | refine RowW.alloc ?_ _ | refine RowW.drew ?_))).out))))); refine wpQuiet_nil ?_; intro g))
      go_loopw [6, 7] (fun u6 u7 wr => ∃ (k : Nat) (g : Gr), 1 ≤ k ∧ k ≤ n ∧ u6 = .int .i64 (mi l c k : Nat) ∧ u7 = .int .i64 k ∧ wr = xt (w.alloc (.cells #[.int .u8 c.r, .int .u8 c.g, .int .u8 c.b] 25)) g) (fun _ u7 _ => n - (intOf u7).toNat)
      case atStart => exact ⟨1, _, by omega, by omega, by rw [h1'.out]; rfl, rfl, Classical.choose_spec (xt_of_below (by repeat' (first | exact Below.refl _ _ | assumption | refine Below.xt ?_ ?_ _ | refine Below.alloc ?_ ?_ _ | refine Below.drew ?_ | refine Below.setCell ?_ ?_ _ | (simp; done) | (simp; omega))))⟩
      case round =>
        obtain ⟨k, g, hk1, hk, rfl, rfl, rfl⟩ := hrel
        have hml : mi l c k < n := Nat.lt_of_lt_of_le (HM.out k (by omega)) hk
        by_cases hlt : k < n
        · obtain ⟨x0, x1, x2, x3⟩ := HC.out k (by have := HN.out; omega)
          obtain ⟨y0, y1, y2, y3⟩ := HC.out (mi l c k) (by have := HN.out; omega)
          have D1 := D k hlt
          have D2 := D (mi l c k) hml
          have I1 := Lib.hid (HI.out k)
          clear D
          generalize cd2 (sw l k).c c = d at *
          generalize cd2 (sw l (mi l c k)).c c = e at *
          generalize hm1 : mi l c k = m at *
          clear hm1
          generalize sw l m = t at *
          generalize sw l k = s at *
          by_cases hd : d < e
          · have E := Lib.hid (show mi l c (k + 1) = k by rw [I1.out, if_pos hd])
            clear I1
            go_wp2_with (first
              | (go_at_call 22; (with_reducible refine (RetB.grown ((D1 _).out)).mono ?_); rintro e' w' ⟨rfl, g, rfl⟩)
              | (go_at_call 22; (with_reducible refine (RetB.grown ((D2 _).out)).mono ?_); rintro e' w' ⟨rfl, g, rfl⟩)
              | (refine wp_region_xt (by kernel_rfl) (by kernel_rfl) ?_; (repeat (go_big_quiet_step (first | (go_at_call 22; (with_reducible exact RetB.quiet ((D1 _).out))) | (go_at_call 22; (with_reducible exact RetB.quiet ((D2 _).out)))))); refine wpQuiet_nil ?_; intro g))
            go_roundw
            case rel =>
              refine ⟨k + 1, ?_⟩
              rw [E.out]
              exact ⟨_, by omega, by omega, rfl, by go_num, Classical.choose_spec (xt_of_below (by repeat' (first | exact Below.refl _ _ | assumption | refine Below.xt ?_ ?_ _ | refine Below.alloc ?_ ?_ _ | refine Below.drew ?_ | refine Below.setCell ?_ ?_ _ | (simp; done) | (simp; omega))))⟩
            case measure => simp [intOf]; omega
          · have E := Lib.hid (show mi l c (k + 1) = m by rw [I1.out, if_neg hd])
            have hd' : decide (d < e) = false := by simpa using hd
            clear I1
            go_wp2_with (first
              | (go_at_call 22; (with_reducible refine (RetB.grown ((D1 _).out)).mono ?_); rintro e' w' ⟨rfl, g, rfl⟩)
              | (go_at_call 22; (with_reducible refine (RetB.grown ((D2 _).out)).mono ?_); rintro e' w' ⟨rfl, g, rfl⟩)
              | (refine wp_region_xt (by kernel_rfl) (by kernel_rfl) ?_; (repeat (go_big_quiet_step (first | (go_at_call 22; (with_reducible exact RetB.quiet ((D1 _).out))) | (go_at_call 22; (with_reducible exact RetB.quiet ((D2 _).out)))))); refine wpQuiet_nil ?_; intro g))
            go_roundw
            case rel =>
              refine ⟨k + 1, ?_⟩
              rw [E.out]
              exact ⟨_, by omega, by omega, rfl, by go_num, Classical.choose_spec (xt_of_below (by repeat' (first | exact Below.refl _ _ | assumption | refine Below.xt ?_ ?_ _ | refine Below.alloc ?_ ?_ _ | refine Below.drew ?_ | refine Below.setCell ?_ ?_ _ | (simp; done) | (simp; omega))))⟩
            case measure => simp [intOf]; omega
        · obtain rfl : k = n := by omega
          obtain ⟨y0, y1, y2, y3⟩ := HC.out (mi l c k) (by have := HN.out; omega)
          generalize hm1 : mi l c k = m at *
          clear hm1
          generalize sw l m = t at *
          go_wp2_with fail
          go_ret2
          exact RetB.of HV.out (by repeat' (first | exact Below.refl _ _ | assumption | refine Below.xt ?_ ?_ _ | refine Below.alloc ?_ ?_ _ | refine Below.drew ?_ | refine Below.setCell ?_ ?_ _ | (simp; done) | (simp; omega)))

end Go.Proofs.Ytkekhnclbkachaa

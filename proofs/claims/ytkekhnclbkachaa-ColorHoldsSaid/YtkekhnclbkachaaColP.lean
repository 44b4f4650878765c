/- Walks: the lists of swatches that the laws look at. Conditions stand in each theorem. -/
import Derived.Test.YtkekhnclbkachaaColN
import Derived.Test.YtkekhnclbkachaaColJ
import Derived.Deep.RegionLaw
import Derived.Deep.AppendLies
import Derived.Deep.RegionHeld3
import Derived.Laws.AppendOwnNone
namespace Go.Proofs.Ytkekhnclbkachaa
open Go.RowKit
set_option linter.unusedVariables false
set_option linter.unusedSimpArgs false

theorem pcc_any (r g b : Int) (w : World) : Calls Try.prog 32 #[.int .u8 r, .int .u8 g, .int .u8 b] w (RetB (.agg #[.int .u8 r, .int .u8 g, .int .u8 b]) w) := by
  go_enter Try.func32, Try.ntmps32
  go_wp2
  refine bodyPost_ret (v := .agg #[.int .u8 r, .int .u8 g, .int .u8 b]) (by simp [results, Try.results32, go_sem]) rfl ?_
  exact RetB.of rfl (by repeat' (first | exact Below.refl _ _ | assumption | refine Below.xt ?_ ?_ _ | refine Below.alloc ?_ ?_ _ | refine Below.drew ?_ | refine Below.setCell ?_ ?_ _ | (simp; done) | (simp; omega)))

def shortTo (l : List Sw) : Nat → Bool
  | 0 => true
  | k + 1 => shortTo l k && decide ((sw l k).n.size ≤ 60)
def smallB (l : List Sw) : Bool := shortTo l l.length && decide (l.length ≤ 20)
theorem shortTo_bad {l : List Sw} {k n : Nat} (h : k < n) (hk : ¬ (sw l k).n.size ≤ 60) : shortTo l n = false := by
  induction n with
  | zero => omega
  | succ n ih =>
    by_cases e : k = n
    · subst e; rw [shortTo, decide_eq_false hk, Bool.and_false]
    · rw [shortTo, ih (by omega), Bool.false_and]
theorem small_len {l : List Sw} (h : smallB l = true) : l.length ≤ 20 := by
  simp only [smallB, Bool.and_eq_true, decide_eq_true_eq] at h; exact h.2

set_option maxHeartbeats 1600000 in
theorem small_some (b o n cap : Nat) (l : List Sw) (w : World) (hn : n = l.length) (hm : n ≤ 9223372036854775807) (hf : fineW l) (hr : RowW w (some ⟨b, o, none⟩) l) (h0 : 0 < n) : Calls Try.prog 23 #[.slice (some ⟨b, o, none⟩) n cap] w (RetB (.bool (smallB l)) w) := by
  obtain ⟨b', o', e, hb, hc⟩ := Row.at_ hr (by omega)
  injection e with e
  injection e with e1 e2
  subst e1 e2
  have HN := Lib.hid hn
  have HC := Lib.hid fun k hk => RowW.cells hc (i := k) hk
  have HF := Lib.hid hf
  obtain ⟨R, hR⟩ : ∃ R, smallB l = R := ⟨_, rfl⟩
  rw [hR]
  have HB := Lib.hid (show ∀ k, k < n → ¬ (sw l k).n.size ≤ 60 → R = false from fun k hk h => by rw [← hR, smallB, shortTo_bad (hn ▸ hk) h, Bool.false_and])
  have HG := Lib.hid (show shortTo l n = true → decide (n ≤ 20) = R from fun h => by rw [← hR, smallB, ← hn, h, Bool.true_and])
  clear hn hr hc hf hR
  go_enter Try.func23, Try.ntmps23
  go_wp2_with fail
  go_loopw [7] (fun i wr => ∃ (k : Nat) (g : Gr), k ≤ n ∧ Hid (shortTo l k = true) ∧ i = .int .i64 k ∧ wr = xt w g) (fun i _ => n - (intOf i).toNat)
  case atStart => exact ⟨0, ⟨[], _⟩, by omega, Lib.hid rfl, rfl, (xt_self _).symm⟩
  case round =>
    obtain ⟨k, g, hk, HP, rfl, rfl⟩ := hrel
    by_cases hlt : k < n
    · obtain ⟨x0, x1, x2, x3⟩ := HC.out k (HN.out ▸ hlt)
      have hsz := (HF.out k (HN.out ▸ hlt)).1
      have HK := Lib.hid (HB.out k hlt)
      have HS := Lib.hid (show (sw l k).n.size ≤ 60 → shortTo l (k + 1) = true from fun h => by rw [shortTo, HP.out, decide_eq_true h]; rfl)
      generalize sw l k = s at *
      unfold maxLen at hsz
      by_cases h60 : s.n.size ≤ 60
      · have e := Lib.hid (HS.out h60)
        go_wp2_with fail
        go_roundw
        case rel => exact ⟨k + 1, _, by omega, e, by go_num, (Classical.choose_spec (xt_of_below (by repeat' (first | exact Below.refl _ _ | assumption | refine Below.xt ?_ ?_ _ | refine Below.alloc ?_ ?_ _ | refine Below.drew ?_ | refine Below.setCell ?_ ?_ _ | (simp; done) | (simp; omega)))))⟩
        case measure => simp [intOf]; omega
      · have e := Lib.hid (HK.out h60)
        go_wp2_with fail
        go_ret
        exact RetB.of (congrArg Value.bool e.out.symm) (by repeat' (first | exact Below.refl _ _ | assumption | refine Below.xt ?_ ?_ _ | refine Below.alloc ?_ ?_ _ | refine Below.drew ?_ | refine Below.setCell ?_ ?_ _ | (simp; done) | (simp; omega)))
    · obtain rfl : k = n := by omega
      have E := Lib.hid (HG.out HP.out)
      by_cases h20 : k ≤ 20
      · have E2 := Lib.hid (show true = R by rw [← E.out, decide_eq_true h20])
        go_wp2_with fail
        go_ret
        exact RetB.of (congrArg Value.bool (by rw [← E2.out]; first | done | (simp; omega))) (by repeat' (first | exact Below.refl _ _ | assumption | refine Below.xt ?_ ?_ _ | refine Below.alloc ?_ ?_ _ | refine Below.drew ?_ | refine Below.setCell ?_ ?_ _ | (simp; done) | (simp; omega)))
      · have E2 := Lib.hid (show false = R by rw [← E.out, decide_eq_false h20])
        go_wp2_with fail
        go_ret
        exact RetB.of (congrArg Value.bool (by rw [← E2.out]; first | done | (simp; omega))) (by repeat' (first | exact Below.refl _ _ | assumption | refine Below.xt ?_ ?_ _ | refine Below.alloc ?_ ?_ _ | refine Below.drew ?_ | refine Below.setCell ?_ ?_ _ | (simp; done) | (simp; omega)))
set_option maxHeartbeats 400000 in
theorem small_any (A : Option Addr) (n cap : Nat) (l : List Sw) (w : World) (hn : n = l.length) (hm : n ≤ 9223372036854775807) (hf : fineW l) (hr : RowW w A l) : Calls Try.prog 23 #[.slice A n cap] w (RetB (.bool (smallB l)) w) := by
  rcases Nat.eq_zero_or_pos n with h0 | h0
  · subst h0
    have e : l = [] := List.eq_nil_of_length_eq_zero hn.symm
    subst e
    clear hr hf hn
    go_enter Try.func23, Try.ntmps23
    go_wp2_with fail
    go_rounds 1
    go_ret
    exact RetB.of rfl (by repeat' (first | exact Below.refl _ _ | assumption | refine Below.xt ?_ ?_ _ | refine Below.alloc ?_ ?_ _ | refine Below.drew ?_ | refine Below.setCell ?_ ?_ _ | (simp; done) | (simp; omega)))
  · obtain ⟨b, o, rfl, _, _⟩ := Row.at_ hr (by omega)
    exact small_some b o n cap l w hn hm hf hr h0

theorem infoSw : (Try.prog.info? 54).map (fun i => (i.zero, i.size, i.bytes)) = some (some (.agg #[.string ByteArray.empty, .int .u8 0, .int .u8 0, .int .u8 0]), 4, 24) := by kernel_rfl
theorem flat_congr {n s : Nat} {f g : Nat → Nat → Value} (h : ∀ i j, i < n → f i j = g i j) : flat n s f = flat n s g := by
  unfold flat
  refine List.map_congr_left fun k hk => ?_
  have hk := List.mem_range.1 hk
  refine h _ _ ?_
  rcases Nat.eq_zero_or_pos s with e | e
  · subst e; simp at hk
  · exact (Nat.div_lt_iff_lt_mul e).2 hk
def swLit (m : List Sw) : List Value := flat m.length 4 fun i => swcell (sw m i)
theorem sw_app {m : List Sw} {s : Sw} {i : Nat} (h : i < m.length) : sw (m ++ [s]) i = sw m i := by simp [sw, List.getD, List.getElem?_append_left h]
theorem sw_last (m : List Sw) (s : Sw) : sw (m ++ [s]) m.length = s := by simp [sw, List.getD]
theorem swLit_snoc (m : List Sw) (s : Sw) : swLit (m ++ [s]) = swLit m ++ [.string s.n, .int .u8 s.c.r, .int .u8 s.c.g, .int .u8 s.c.b] := by
  unfold swLit
  rw [List.length_append, List.length_singleton, flat_succ (by omega)]
  congr 1
  · exact flat_congr fun i j hi => by rw [sw_app hi]
  · rw [sw_last]; rfl
theorem fine_snoc {m : List Sw} {s : Sw} (h : fineW m) (h1 : s.n.size ≤ maxLen) (h2 : s.c.ok) : fineW (m ++ [s]) := by
  intro i hi
  rw [List.length_append, List.length_singleton] at hi
  by_cases e : i = m.length
  · subst e; rw [sw_last]; exact ⟨h1, h2⟩
  · rw [sw_app (by omega)]; exact h i (by omega)

/-- A slice of swatches of the call's own, with what was there as it was. -/
def PalSo (w : World) (e : Ending) (w' : World) : Prop := ∃ (B : Option Addr) (n : Nat) (m : List Sw) (c : Nat), e = .returned (.slice B n c) ∧ n = m.length ∧ n ≤ 260 ∧ Below w.heap.size w w' ∧ RowW w' B m ∧ fineW m

def zname (k : Nat) : ByteArray := ⟨#[122, UInt8.ofNat (97 + k / 26), UInt8.ofNat (97 + k % 26)]⟩
theorem zbytes {w : World} {g a b : Nat} {p q : UInt8} (hp : (p.toNat : Int) = 97 + (a : Int)) (hq : (q.toNat : Int) = 97 + (b : Int)) (h0 : w.cell? ⟨g, 0, none⟩ = some (.int .u8 (97 + (a : Int)))) (h1 : w.cell? ⟨g, 1, none⟩ = some (.int .u8 (97 + (b : Int)))) :
    (convert 63 9 (.slice (some ⟨g, 0, none⟩) 2 2)).run Try.prog w = .ok (.string ⟨#[p, q]⟩) w := by
  refine Lib.run_convert_whole (P := Try.prog) w 63 5 9 Try.underlying63 Try.underlying5 Try.underlying9 g 0 ⟨#[p, q]⟩ ?_ 2
  intro i hi
  rw [Nat.zero_add]
  have hi' : i < 2 := hi
  have : i = 0 ∨ i = 1 := by omega
  rcases this with rfl | rfl
  · rw [h0]; show _ = some (Value.int .u8 (p.toNat : Int)); rw [hp]
  · rw [h1]; show _ = some (Value.int .u8 (q.toNat : Int)); rw [hq]

theorem swLit_one (m : List Sw) : ∀ u ∈ swLit m, u.oneCell' = true := by
  intro u hu
  obtain ⟨k, _, rfl⟩ := List.mem_map.1 hu
  simp only [swcell]
  repeat' split
  all_goals rfl
theorem RowW.len {w : World} {A : Option Addr} {l : List Sw} {n : Nat} (hn : n = l.length) (h : RowW w A l) : Row w A n 4 fun i => swcell (sw l i) := by subst hn; exact h

theorem palette_after (v : Value) (l : List Sw) (w w1 : World) (h : w1.ownsRow w.heap.size 54 4 v (0 + l.length) ([] ++ swLit l)) (hg : w.grownBy w1 (.slice none 0 0 : Value).ownBlock) : ∃ A c g, v = .slice A l.length c ∧ w1 = xt w g ∧ (xt w g).ownsRow w.heap.size 54 4 (.slice A l.length c) l.length (swLit l) := by
  have hb : Below w.heap.size w w1 := (Below.refl _ _).grown hg (Nat.le_refl _) (by simp [Value.ownBlock])
  obtain ⟨g, rfl⟩ := xt_of_below hb
  rw [Nat.zero_add, List.nil_append] at h
  obtain ⟨A, c, rfl, _⟩ := Row.of_own h rfl
  exact ⟨A, c, g, rfl, rfl, h⟩

set_option maxHeartbeats 1600000 in
theorem palette_out (A : Option Addr) (n cap : Nat) (l : List Sw) (long : Int) (w : World) (hl : I64 long) (ho : ¬ (250 ≤ long ∧ long ≤ 260)) (hn : n = l.length) (h20 : n ≤ 20) (hf : fineW l) (hr : RowW w A l) (hA : (n = 0 ∧ A = none ∧ cap = 0) ∨ A ≠ none) : Calls Try.prog 24 #[.slice A n cap, .int .i64 long] w (PalSo w) := by
  obtain ⟨i0, hi0, hz0, hz1, hz2⟩ := info_parts infoSw
  obtain ⟨hl1, hl2⟩ := hl
  have HL := Lib.hid hn
  have HF := Lib.hid hf
  have HL1 := Lib.hid (show (swLit l).length = n * 4 by rw [swLit, flat_length, hn])
  rcases hA with ⟨rfl, rfl, rfl⟩ | hA
  · have e : l = [] := List.eq_nil_of_length_eq_zero hn.symm
    subst e
    clear hn hf hr
    by_cases h1 : 250 ≤ long
    · have h2 : ¬ long ≤ 260 := by omega
      clear ho
      go_enter Try.func24, Try.ntmps24
      go_wp2_with (at_builtin; refine wpList_append_own_none rfl _ _ 41 rfl w.heap.size 54 i0 4 Try.underlying41 hi0 (.slice none 0 0) 0 [] rfl own_nil rfl ?_)
      go_wp2_with fail
      go_ret
      exact ⟨none, 0, [], 0, rfl, rfl, by omega, (by repeat' (first | exact Below.refl _ _ | assumption | refine Below.xt ?_ ?_ _ | refine Below.alloc ?_ ?_ _ | refine Below.drew ?_ | refine Below.setCell ?_ ?_ _ | (simp; done) | (simp; omega))), Row.none_, HF.out⟩
    · clear ho
      go_enter Try.func24, Try.ntmps24
      go_wp2_with (at_builtin; refine wpList_append_own_none rfl _ _ 41 rfl w.heap.size 54 i0 4 Try.underlying41 hi0 (.slice none 0 0) 0 [] rfl own_nil rfl ?_)
      go_wp2_with fail
      go_ret
      exact ⟨none, 0, [], 0, rfl, rfl, by omega, (by repeat' (first | exact Below.refl _ _ | assumption | refine Below.xt ?_ ?_ _ | refine Below.alloc ?_ ?_ _ | refine Below.drew ?_ | refine Below.setCell ?_ ?_ _ | (simp; done) | (simp; omega))), Row.none_, HF.out⟩
  · obtain ⟨ad, rfl⟩ := Option.ne_none_iff_exists'.1 hA
    have HNW := Lib.hid (row_news (RowW.len hn hr) (by omega))
    rw [hn] at HNW
    clear hn hf hr hA
    by_cases h1 : 250 ≤ long
    · have h2 : ¬ long ≤ 260 := by omega
      clear ho
      go_enter Try.func24, Try.ntmps24
      go_wp2_with (at_builtin; refine wpList_append_own _ rfl _ _ 41 rfl w.heap.size 54 i0 _ 4 24 Try.underlying41 hi0 hz0 hz1 hz2 rfl (by omega) (.slice none 0 0) 0 [] rfl own_nil ad n cap (swLit l) rfl HL1.out ?_ (swLit_one l) ?_ ?_ ?_ ?_; (next => exact HNW.out); (next => (simp only [maxLen]; omega)); (next => omega); (next => exact Nat.le_refl _); intro v1 w1 hown1 hgr1 _)
      rw [HL.out] at hown1
      obtain ⟨A1, c1, g1, rfl, rfl, ho1⟩ := palette_after v1 l w w1 hown1 hgr1
      have HO := Lib.hid ho1
      clear hown1 hgr1 ho1
      go_wp2_with fail
      go_ret
      refine ⟨A1, l.length, l, c1, rfl, rfl, by have := HL.out; omega, (by repeat' (first | exact Below.refl _ _ | assumption | refine Below.xt ?_ ?_ _ | refine Below.alloc ?_ ?_ _ | refine Below.drew ?_ | refine Below.setCell ?_ ?_ _ | (simp; done) | (simp; omega))), ?_, HF.out⟩
      obtain ⟨A2, c2, e, hrow⟩ := Row.of_own HO.out rfl
      injection e with e
      subst e
      exact hrow
    · clear ho
      go_enter Try.func24, Try.ntmps24
      go_wp2_with (at_builtin; refine wpList_append_own _ rfl _ _ 41 rfl w.heap.size 54 i0 _ 4 24 Try.underlying41 hi0 hz0 hz1 hz2 rfl (by omega) (.slice none 0 0) 0 [] rfl own_nil ad n cap (swLit l) rfl HL1.out ?_ (swLit_one l) ?_ ?_ ?_ ?_; (next => exact HNW.out); (next => (simp only [maxLen]; omega)); (next => omega); (next => exact Nat.le_refl _); intro v1 w1 hown1 hgr1 _)
      rw [HL.out] at hown1
      obtain ⟨A1, c1, g1, rfl, rfl, ho1⟩ := palette_after v1 l w w1 hown1 hgr1
      have HO := Lib.hid ho1
      clear hown1 hgr1 ho1
      go_wp2_with fail
      go_ret
      refine ⟨A1, l.length, l, c1, rfl, rfl, by have := HL.out; omega, (by repeat' (first | exact Below.refl _ _ | assumption | refine Below.xt ?_ ?_ _ | refine Below.alloc ?_ ?_ _ | refine Below.drew ?_ | refine Below.setCell ?_ ?_ _ | (simp; done) | (simp; omega))), ?_, HF.out⟩
      obtain ⟨A2, c2, e, hrow⟩ := Row.of_own HO.out rfl
      injection e with e
      subst e
      exact hrow


def sliceLen : Value → Nat
  | .slice _ n _ => n
  | _ => 0
theorem sliceLen_eq (A : Option Addr) (n c : Nat) : sliceLen (.slice A n c) = n := rfl
theorem step_callB {P : Program} {ops : Array Oper} {o : Oper} {a : Act} {w : World} {K : Act → World → Prop} {Q : Exit → Act → World → Prop} {E : Prop} (hgd : o.guard = none) {f : FuncId} {args : Array Value} (he : (execOp a.eval o).run P w = .ok (.enter f args) w) {v : Value} (hc : Calls P f args w (RetB v w)) (h : ∀ g : Gr, K (a.put o.dst v) (xt w g)) :
    if Region.wanted o (yielded ops a.tmps) = true then Oper.wp P o a w K Q else E := by
  have hw : Region.wanted o (yielded ops a.tmps) = true := by simp [Region.wanted, hgd]
  rw [if_pos hw]
  unfold Oper.wp
  rw [he]
  refine (RetB.grown hc).mono ?_
  rintro e w' ⟨rfl, g, rfl⟩
  exact h g
theorem u8_wrap (n : Int) : U8 (IntKind.u8.wrap n) := by
  rw [IntKind.wrap_u8]; unfold U8; omega
set_option maxHeartbeats 3200000 in
theorem palette_nil (ad : Addr) (n cap : Nat) (l : List Sw) (long : Int) (w : World) (hL1 : 250 ≤ long) (hL2 : long ≤ 260) (hn0 : l = []) (hn : n = l.length) (h20 : n ≤ 20) (hf : fineW l) (hr : RowW w (some ad) l) : Calls Try.prog 24 #[.slice none 0 0, .int .i64 long] w (PalSo w) := by
  obtain ⟨i0, hi0, hz0, hz1, hz2⟩ := info_parts infoSw
  have HL := Lib.hid hn
  have HF := Lib.hid hf
  have HL1 := Lib.hid (show (swLit l).length = n * 4 by rw [swLit, flat_length, hn])
  have HNW := Lib.hid (row_news (RowW.len hn hr) (by omega))
  rw [hn] at HNW
  clear hn hf hr hn0
  go_enter Try.func24, Try.ntmps24
  go_wp2_with (at_builtin; refine wpList_append_own_none rfl _ _ 41 rfl w.heap.size 54 i0 4 Try.underlying41 hi0 (.slice none 0 0) 0 [] rfl own_nil rfl ?_)
  (have HO := Lib.hid (show w.ownsRow w.heap.size 54 4 (.slice none 0 0) 0 (swLit []) from own_nil); have HW := Lib.hid (Below.refl w.heap.size w); have HWS := Lib.hid (Nat.le_refl w.heap.size))
  go_wp2_with fail
  go_loopw [5] (fun v wr => ∃ (m : List Sw) (k : Nat) (A : Option Addr) (c : Nat), v = .slice A k c ∧ Hid (k = m.length) ∧ k ≤ 260 ∧ Hid (Below w.heap.size w wr) ∧ Hid (w.heap.size ≤ wr.heap.size) ∧ Hid (wr.ownsRow w.heap.size 54 4 (.slice A k c) k (swLit m)) ∧ Hid (fineW m)) (fun v _ => 260 - sliceLen v)
  case atStart => exact ⟨[], 0, none, 0, rfl, Lib.hid rfl, by omega, HW, HWS, HO, Lib.hid (fun i hi => absurd hi (by simp))⟩
  case round =>
    clear HO HW HWS HF
    obtain ⟨m, k, A, cp, rfl, HK, hk, HW, HWS, HO, HF⟩ := hrel
    by_cases hlt : (k : Int) < long
    · have hk2 : k < 260 := by omega
      obtain ⟨a, b, ha, hb, q1, q2, q3, q4, bp, bq, HP, HQ, HA⟩ : ∃ a b : Nat, a < 10 ∧ b < 26 ∧ (k : Int).tdiv 26 = (a : Int) ∧ (k : Int) / 26 = (a : Int) ∧ (k : Int).tmod 26 = (b : Int) ∧ (k : Int) % 26 = (b : Int) ∧ ∃ p q : UInt8, Hid ((p.toNat : Int) = 97 + (a : Int)) ∧ Hid ((q.toNat : Int) = 97 + (b : Int)) ∧ Hid (zname k = ⟨#[122, p, q]⟩) :=
        ⟨k / 26, k % 26, by omega, by omega, by rw [Int.tdiv_eq_ediv_of_nonneg (by omega)]; rfl, rfl, by rw [Int.tmod_eq_emod_of_nonneg (by omega)]; rfl, rfl, UInt8.ofNat (97 + k / 26), UInt8.ofNat (97 + k % 26), Lib.hid (by rw [UInt8.toNat_ofNat_of_lt' (by simp [UInt8.size]; omega)]; rfl), Lib.hid (by rw [UInt8.toNat_ofNat_of_lt' (by simp [UInt8.size]; omega)]; rfl), Lib.hid rfl⟩
      have q5 : IntKind.i64.wrap (a : Int) = a := IntWalk.i64_in _ (by omega)
      have q6 : IntKind.i64.wrap (97 + (a : Int)) = 97 + a := IntWalk.i64_in _ (by omega)
      have q7 : IntKind.i64.wrap (97 + (b : Int)) = 97 + b := IntWalk.i64_in _ (by omega)
      have q8 : IntKind.u8.wrap (97 + (a : Int)) = 97 + a := IntWalk.u8_in _ (by omega)
      have q9 : IntKind.u8.wrap (97 + (b : Int)) = 97 + b := IntWalk.u8_in _ (by omega)
      have hx := u8_wrap (k : Int)
      generalize hq : IntKind.u8.wrap (k : Int) = x at *
      have HX := Lib.hid hx
      have HZ := Lib.hid (show swLit (m ++ [⟨zname k, ⟨x, 0, 0⟩⟩]) = swLit m ++ [.string (zname k), .int .u8 x, .int .u8 0, .int .u8 0] from swLit_snoc _ _)
      have HF2 := Lib.hid (show fineW (m ++ [⟨zname k, ⟨x, 0, 0⟩⟩]) from fine_snoc HF.out (by show 3 ≤ maxLen; unfold maxLen; omega) ⟨hx, by simp [U8], by simp [U8]⟩)
      have hcv := fun (W : World) (g : Nat) => zbytes (w := W) (g := g) (a := a) (b := b) HP.out HQ.out
      have hcat : (⟨#[122]⟩ : ByteArray) ++ ⟨#[bp, bq]⟩ = zname k := by rw [HA.out]; rfl
      generalize zname k = z at *
      clear hx HA
      go_wp2_with fail
      go_region_law (first | (refine step_append_lies _ rfl _ _ 41 rfl w.heap.size 54 i0 _ 4 24 Try.underlying41 hi0 hz0 hz1 hz2 rfl (by omega) (.slice A k cp) k (swLit m) rfl (by repeat (first | (with_reducible exact HO.out) | (with_reducible refine World.ownsRow.alloc ?_ _) | (with_reducible refine own_drew ?_) | (with_reducible refine own_xt ?_ _) | (with_reducible exact own_drawn HO.out _))) _ 1 _ [.string z, .int .u8 x, .int .u8 0, .int .u8 0] rfl rfl ?_ ?_ (by omega) (by simp only [maxLen]; omega) (by omega) ?_ _ rfl ?_; (next => (refine cells_new _ _ _ _ ?_; simp; done)); (next => (intro u hu; simp only [List.mem_cons, List.not_mem_nil, or_false] at hu; rcases hu with rfl | rfl | rfl | rfl <;> rfl)); (next => (have := HWS.out; simp; omega)); intro gq cq wq hown hgrow hat hlt; have HW := Lib.hid (below_step HW.out (by repeat' (first | exact Below.refl _ _ | assumption | refine Below.xt ?_ ?_ _ | refine Below.alloc ?_ ?_ _ | refine Below.drew ?_ | refine Below.setCell ?_ ?_ _ | (simp; done) | (simp; omega))) HWS.out (own_later HO.out (by repeat' (first | exact Below.refl _ _ | assumption | refine Below.xt ?_ ?_ _ | refine Below.alloc ?_ ?_ _ | refine Below.drew ?_ | refine Below.setCell ?_ ?_ _ | (simp; done) | (simp; omega)))) hgrow); have HS := Lib.hid (Nat.le_trans HWS.out (show _ ≤ wq.heap.size by have := hgrow.size; simp at this; omega)); have HO := Lib.hid hown; clear hown hgrow hat hlt) | (refine step_callB rfl (f := 32) (args := #[.int .u8 x, .int .u8 0, .int .u8 0]) (by go_simp) (pcc_any _ _ _ _) ?_; intro g))
      all_goals
        clear q1 q2 q3 q4 q5 q6 q7 q8 q9 hcv hcat hq
        go_simp
        go_wp2_with fail
        go_roundw
        case rel => exact ⟨_, k + 1, _, _, rfl, Lib.hid (by rw [List.length_append, List.length_singleton, HK.out]), by omega, HW, HS, Lib.hid (by rw [HZ.out]; exact HO.out), HF2⟩
        case measure => rw [sliceLen_eq, sliceLen_eq]; omega
    · go_wp2_with fail
      go_ret
      obtain ⟨A2, c2, e, hrow⟩ := Row.of_own HO.out (f := fun i => swcell (sw m i)) (by rw [swLit, HK.out])
      injection e with e
      subst e
      exact ⟨A, k, m, cp, rfl, HK.out, hk, HW.out, by unfold RowW; rw [← HK.out]; exact hrow, HF.out⟩
set_option maxHeartbeats 3200000 in
theorem palette_some (ad : Addr) (n cap : Nat) (l : List Sw) (long : Int) (w : World) (hL1 : 250 ≤ long) (hL2 : long ≤ 260) (hn0 : True) (hn : n = l.length) (h20 : n ≤ 20) (hf : fineW l) (hr : RowW w (some ad) l) : Calls Try.prog 24 #[.slice (some ad) n cap, .int .i64 long] w (PalSo w) := by
  obtain ⟨i0, hi0, hz0, hz1, hz2⟩ := info_parts infoSw
  have HL := Lib.hid hn
  have HF := Lib.hid hf
  have HL1 := Lib.hid (show (swLit l).length = n * 4 by rw [swLit, flat_length, hn])
  have HNW := Lib.hid (row_news (RowW.len hn hr) (by omega))
  rw [hn] at HNW
  clear hn hf hr hn0
  go_enter Try.func24, Try.ntmps24
  go_wp2_with (at_builtin; refine wpList_append_own _ rfl _ _ 41 rfl w.heap.size 54 i0 _ 4 24 Try.underlying41 hi0 hz0 hz1 hz2 rfl (by omega) (.slice none 0 0) 0 [] rfl own_nil ad n cap (swLit l) rfl HL1.out ?_ (swLit_one l) ?_ ?_ ?_ ?_; (next => exact HNW.out); (next => (simp only [maxLen]; omega)); (next => omega); (next => exact Nat.le_refl _); intro v1 w1 hown1 hgr1 _)
  (have HL2 : l.length ≤ 260 := (by have := HL.out; omega); rw [HL.out] at hown1; obtain ⟨A1, c1, g1, rfl, rfl, ho1⟩ := palette_after v1 l w w1 hown1 hgr1; have HO := Lib.hid ho1; have HW := Lib.hid (show Below w.heap.size w (xt w g1) from (by repeat' (first | exact Below.refl _ _ | assumption | refine Below.xt ?_ ?_ _ | refine Below.alloc ?_ ?_ _ | refine Below.drew ?_ | refine Below.setCell ?_ ?_ _ | (simp; done) | (simp; omega)))); have HWS := Lib.hid (show w.heap.size ≤ (xt w g1).heap.size by simp); clear hown1 hgr1 ho1)
  go_wp2_with fail
  go_loopw [5] (fun v wr => ∃ (m : List Sw) (k : Nat) (A : Option Addr) (c : Nat), v = .slice A k c ∧ Hid (k = m.length) ∧ k ≤ 260 ∧ Hid (Below w.heap.size w wr) ∧ Hid (w.heap.size ≤ wr.heap.size) ∧ Hid (wr.ownsRow w.heap.size 54 4 (.slice A k c) k (swLit m)) ∧ Hid (fineW m)) (fun v _ => 260 - sliceLen v)
  case atStart => exact ⟨l, l.length, A1, c1, rfl, Lib.hid rfl, HL2, HW, HWS, HO, HF⟩
  case round =>
    clear HO HW HWS HF
    obtain ⟨m, k, A, cp, rfl, HK, hk, HW, HWS, HO, HF⟩ := hrel
    by_cases hlt : (k : Int) < long
    · have hk2 : k < 260 := by omega
      obtain ⟨a, b, ha, hb, q1, q2, q3, q4, bp, bq, HP, HQ, HA⟩ : ∃ a b : Nat, a < 10 ∧ b < 26 ∧ (k : Int).tdiv 26 = (a : Int) ∧ (k : Int) / 26 = (a : Int) ∧ (k : Int).tmod 26 = (b : Int) ∧ (k : Int) % 26 = (b : Int) ∧ ∃ p q : UInt8, Hid ((p.toNat : Int) = 97 + (a : Int)) ∧ Hid ((q.toNat : Int) = 97 + (b : Int)) ∧ Hid (zname k = ⟨#[122, p, q]⟩) :=
        ⟨k / 26, k % 26, by omega, by omega, by rw [Int.tdiv_eq_ediv_of_nonneg (by omega)]; rfl, rfl, by rw [Int.tmod_eq_emod_of_nonneg (by omega)]; rfl, rfl, UInt8.ofNat (97 + k / 26), UInt8.ofNat (97 + k % 26), Lib.hid (by rw [UInt8.toNat_ofNat_of_lt' (by simp [UInt8.size]; omega)]; rfl), Lib.hid (by rw [UInt8.toNat_ofNat_of_lt' (by simp [UInt8.size]; omega)]; rfl), Lib.hid rfl⟩
      have q5 : IntKind.i64.wrap (a : Int) = a := IntWalk.i64_in _ (by omega)
      have q6 : IntKind.i64.wrap (97 + (a : Int)) = 97 + a := IntWalk.i64_in _ (by omega)
      have q7 : IntKind.i64.wrap (97 + (b : Int)) = 97 + b := IntWalk.i64_in _ (by omega)
      have q8 : IntKind.u8.wrap (97 + (a : Int)) = 97 + a := IntWalk.u8_in _ (by omega)
      have q9 : IntKind.u8.wrap (97 + (b : Int)) = 97 + b := IntWalk.u8_in _ (by omega)
      have hx := u8_wrap (k : Int)
      generalize hq : IntKind.u8.wrap (k : Int) = x at *
      have HX := Lib.hid hx
      have HZ := Lib.hid (show swLit (m ++ [⟨zname k, ⟨x, 0, 0⟩⟩]) = swLit m ++ [.string (zname k), .int .u8 x, .int .u8 0, .int .u8 0] from swLit_snoc _ _)
      have HF2 := Lib.hid (show fineW (m ++ [⟨zname k, ⟨x, 0, 0⟩⟩]) from fine_snoc HF.out (by show 3 ≤ maxLen; unfold maxLen; omega) ⟨hx, by simp [U8], by simp [U8]⟩)
      have hcv := fun (W : World) (g : Nat) => zbytes (w := W) (g := g) (a := a) (b := b) HP.out HQ.out
      have hcat : (⟨#[122]⟩ : ByteArray) ++ ⟨#[bp, bq]⟩ = zname k := by rw [HA.out]; rfl
      generalize zname k = z at *
      clear hx HA
      go_wp2_with fail
      go_region_law (first | (refine step_append_lies _ rfl _ _ 41 rfl w.heap.size 54 i0 _ 4 24 Try.underlying41 hi0 hz0 hz1 hz2 rfl (by omega) (.slice A k cp) k (swLit m) rfl (by repeat (first | (with_reducible exact HO.out) | (with_reducible refine World.ownsRow.alloc ?_ _) | (with_reducible refine own_drew ?_) | (with_reducible refine own_xt ?_ _) | (with_reducible exact own_drawn HO.out _))) _ 1 _ [.string z, .int .u8 x, .int .u8 0, .int .u8 0] rfl rfl ?_ ?_ (by omega) (by simp only [maxLen]; omega) (by omega) ?_ _ rfl ?_; (next => (refine cells_new _ _ _ _ ?_; simp; done)); (next => (intro u hu; simp only [List.mem_cons, List.not_mem_nil, or_false] at hu; rcases hu with rfl | rfl | rfl | rfl <;> rfl)); (next => (have := HWS.out; simp; omega)); intro gq cq wq hown hgrow hat hlt; have HW := Lib.hid (below_step HW.out (by repeat' (first | exact Below.refl _ _ | assumption | refine Below.xt ?_ ?_ _ | refine Below.alloc ?_ ?_ _ | refine Below.drew ?_ | refine Below.setCell ?_ ?_ _ | (simp; done) | (simp; omega))) HWS.out (own_later HO.out (by repeat' (first | exact Below.refl _ _ | assumption | refine Below.xt ?_ ?_ _ | refine Below.alloc ?_ ?_ _ | refine Below.drew ?_ | refine Below.setCell ?_ ?_ _ | (simp; done) | (simp; omega)))) hgrow); have HS := Lib.hid (Nat.le_trans HWS.out (show _ ≤ wq.heap.size by have := hgrow.size; simp at this; omega)); have HO := Lib.hid hown; clear hown hgrow hat hlt) | (refine step_callB rfl (f := 32) (args := #[.int .u8 x, .int .u8 0, .int .u8 0]) (by go_simp) (pcc_any _ _ _ _) ?_; intro g))
      all_goals
        clear q1 q2 q3 q4 q5 q6 q7 q8 q9 hcv hcat hq
        go_simp
        go_wp2_with fail
        go_roundw
        case rel => exact ⟨_, k + 1, _, _, rfl, Lib.hid (by rw [List.length_append, List.length_singleton, HK.out]), by omega, HW, HS, Lib.hid (by rw [HZ.out]; exact HO.out), HF2⟩
        case measure => rw [sliceLen_eq, sliceLen_eq]; omega
    · go_wp2_with fail
      go_ret
      obtain ⟨A2, c2, e, hrow⟩ := Row.of_own HO.out (f := fun i => swcell (sw m i)) (by rw [swLit, HK.out])
      injection e with e
      subst e
      exact ⟨A, k, m, cp, rfl, HK.out, hk, HW.out, by unfold RowW; rw [← HK.out]; exact hrow, HF.out⟩
theorem palette_any (A : Option Addr) (n cap : Nat) (l : List Sw) (long : Int) (w : World) (hl : I64 long) (hn : n = l.length) (h20 : n ≤ 20) (hf : fineW l) (hr : RowW w A l) (hA : (n = 0 ∧ A = none ∧ cap = 0) ∨ A ≠ none) : Calls Try.prog 24 #[.slice A n cap, .int .i64 long] w (PalSo w) := by
  by_cases ho : 250 ≤ long ∧ long ≤ 260
  · rcases hA with ⟨rfl, rfl, rfl⟩ | hA
    · have e : l = [] := List.eq_nil_of_length_eq_zero hn.symm
      subst e
      exact palette_nil ⟨0, 0, none⟩ 0 0 [] long w ho.1 ho.2 rfl rfl (by omega) hf ⟨fun h => absurd h (by simp)⟩
    · obtain ⟨ad, rfl⟩ := Option.ne_none_iff_exists'.1 hA
      exact palette_some ad n cap l long w ho.1 ho.2 trivial hn h20 hf hr
  · exact palette_out A n cap l long w hl ho hn h20 hf hr hA
end Go.Proofs.Ytkekhnclbkachaa

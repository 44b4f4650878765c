/- Walks: the iterator over the colours of a fade. Conditions stand in each theorem. -/
import Derived.Test.YtkekhnclbkachaaColW1
import Derived.Test.YtkekhnclbkachaaRng
import Derived.Shelf.Abstract
import Derived.Shelf.RegionOpen
namespace Go.Proofs.Ytkekhnclbkachaa
open Go.RowKit Go.Shelf
set_option linter.unusedVariables false
set_option linter.unusedSimpArgs false
attribute [local go_sem] Oper.semAt_some

/-- What a round is handed. -/
def fadeEnc (a b : Col) (steps : Nat) (k : Nat) : Array Value := #[.int .i64 (k : Int), .agg #[.int .u8 (mixCol a b (k : Int) (steps : Int)).r, .int .u8 (mixCol a b (k : Int) (steps : Int)).g, .int .u8 (mixCol a b (k : Int) (steps : Int)).b]]

set_option maxHeartbeats 1600000 in
theorem Fade_any (a b : Col) (steps : Int) (w : World) : Calls Try.prog 16 #[.agg #[.int .u8 a.r, .int .u8 a.g, .int .u8 a.b], .agg #[.int .u8 b.r, .int .u8 b.g, .int .u8 b.b], .int .i64 steps] w fun e w' => e = .returned (.func (.func 35) #[] #[.pointer (some ⟨w.heap.size + 1 + 1, 0, none⟩), .pointer (some ⟨w.heap.size, 0, none⟩), .pointer (some ⟨w.heap.size + 1, 0, none⟩)]) ∧
    ((w.alloc (.cells #[.int .u8 a.r, .int .u8 a.g, .int .u8 a.b] 25)).alloc (.cells #[.int .u8 b.r, .int .u8 b.g, .int .u8 b.b] 25)).alloc (.cells #[.int .i64 steps] 3) = w' := by
  go_enter Try.func16, Try.ntmps16
  go_wp2
  go_ret
  exact ⟨rfl, rfl⟩

set_option maxRecDepth 100000 in
set_option maxHeartbeats 3200000 in
theorem Fade1_in (n l n₀ Bs Ba Bb : Nat) (a b : Col) (steps : Nat) (ha : a.ok) (hb : b.ok) (h1 : 1 ≤ steps) (h2 : steps ≤ 1000) (J Jx : List Nat → World → Prop)
    (W : World) (hJab : AbidesFrom W.heap.size J)
    (hY : ∀ pre x W1, J pre W1 → pre.length < steps + 1 → YieldAt Fence.wide (n - 1) Try.prog l (fadeEnc a b steps x) W1 fun e W' =>
      (e = .returned (.bool true) ∧ J (pre ++ [x]) W' ∧ Below n₀ W1 W') ∨ (e = .returned (.bool false) ∧ Jx (pre ++ [x]) W'))
    (hBs : W.cell? ⟨Bs, 0, none⟩ = some (.int .i64 (steps : Int))) (ls : Bs < n₀) (la : Ba < n₀) (lb : Bb < n₀) (hn0 : n₀ ≤ W.heap.size)
    (a0 : W.cell? ⟨Ba, 0, none⟩ = some (.int .u8 a.r)) (a1 : W.cell? ⟨Ba, 1, none⟩ = some (.int .u8 a.g)) (a2 : W.cell? ⟨Ba, 2, none⟩ = some (.int .u8 a.b))
    (b0 : W.cell? ⟨Bb, 0, none⟩ = some (.int .u8 b.r)) (b1 : W.cell? ⟨Bb, 1, none⟩ = some (.int .u8 b.g)) (b2 : W.cell? ⟨Bb, 2, none⟩ = some (.int .u8 b.b)) (h0 : J [] W) :
    CallsIn Fence.wide n Try.prog 35 #[.func (.yield l) #[] #[], .pointer (some ⟨Bs, 0, none⟩), .pointer (some ⟨Ba, 0, none⟩), .pointer (some ⟨Bb, 0, none⟩)] W fun e W' => (∃ v, e = .returned v) ∧
      ((∃ ys, ys = List.range (steps + 1) ∧ J ys W') ∨ (∃ pre, (∃ k, k ≤ steps + 1 ∧ pre = List.range k) ∧ Jx pre W')) := by
  have C := fun (k : Nat) (hk : k < steps + 1) (w : World) => Lib.hid (Mix_ok a b k steps w ha hb (by omega) (by omega) (by omega) (by omega))
  clear ha hb
  refine callsIn_of_wp Try.func35 rfl trivial ?_ rfl
  simp only [Try.ntmps35, List.size_toArray, List.length_cons, List.length_nil, Nat.reduceAdd, Nat.reduceSub, Array.replicate_succ, Array.replicate_zero, List.push_toArray, List.append_toArray, List.nil_append, List.cons_append]
  gi_wp2
  gi_loopw [16] (fun i wr => ∃ k : Nat, k ≤ steps + 1 ∧ i = .int .i64 k ∧ J (List.range k) wr ∧ Hid (Below n₀ W wr)) (fun i _ => steps + 1 - (intOf i).toNat)
  case atStart => exact ⟨0, Nat.zero_le _, rfl, h0, Lib.hid (Below.refl _ _)⟩
  case round =>
    obtain ⟨k, hk, rfl, hJs, HX⟩ := hrel
    by_cases hlt : k < steps + 1
    · have c0 := (HX.out.cell (p := ⟨Bs, 0, none⟩) ls).trans hBs
      have c1 := (HX.out.cell (p := ⟨Ba, 0, none⟩) la).trans a0
      have c2 := (HX.out.cell (p := ⟨Ba, 1, none⟩) la).trans a1
      have c3 := (HX.out.cell (p := ⟨Ba, 2, none⟩) la).trans a2
      have c4 := (HX.out.cell (p := ⟨Bb, 0, none⟩) lb).trans b0
      have c5 := (HX.out.cell (p := ⟨Bb, 1, none⟩) lb).trans b1
      have c6 := (HX.out.cell (p := ⟨Bb, 2, none⟩) lb).trans b2
      have os : old Bs wr := Nat.lt_of_lt_of_le ls (Nat.le_trans hn0 HX.out.size)
      have oa : old Ba wr := Nat.lt_of_lt_of_le la (Nat.le_trans hn0 HX.out.size)
      have ob : old Bb wr := Nat.lt_of_lt_of_le lb (Nat.le_trans hn0 HX.out.size)
      gi_wp2_with (refine ⟨trivial, (fun h0 => nomatch h0), ?_⟩; refine (RetB.wide (C k hlt _).out).mono ?_; rintro e' w' ⟨rfl, g, rfl⟩)
      obtain ⟨fn, tmps, assign, body, hy, hR⟩ := hY (List.range k) k ((xt wr g).alloc (.cells #[.int .u8 (mixCol a b (k : Int) (steps : Int)).r, .int .u8 (mixCol a b (k : Int) (steps : Int)).g, .int .u8 (mixCol a b (k : Int) (steps : Int)).b] 25)) (hJab _ wr _ none hJs (grown_of_below (by repeat' (first | exact Below.refl _ _ | assumption | refine Below.xt ?_ ?_ _ | refine Below.alloc ?_ ?_ _ | refine Below.drew ?_ | refine Below.setCell ?_ ?_ _ | (simp; done) | (simp; omega)))) (fun r e => by cases e)) (by simp; omega)
      dsimp only [fadeEnc] at hy
      have HR := Lib.hid hR
      have HB3 := Lib.hid (show Below n₀ wr ((xt wr g).alloc (.cells #[.int .u8 (mixCol a b (k : Int) (steps : Int)).r, .int .u8 (mixCol a b (k : Int) (steps : Int)).g, .int .u8 (mixCol a b (k : Int) (steps : Int)).b] 25)) from Below.mono (show Below wr.heap.size wr _ from (by repeat' (first | exact Below.refl _ _ | assumption | refine Below.xt ?_ ?_ _ | refine Below.alloc ?_ ?_ _ | refine Below.drew ?_ | refine Below.setCell ?_ ?_ _ | (simp; done) | (simp; omega)))) (Nat.le_trans hn0 HX.out.size))
      clear hR
      rw [hy]
      refine ⟨(fun h0 => nomatch h0), HR.out.mono ?_⟩
      rintro e W3 (⟨rfl, hJ3, hk3⟩ | ⟨rfl, hJx3⟩)
      · have HX3 := Lib.hid (HX.out.trans (HB3.out.trans hk3))
        clear hk3 HR HB3 hy
        gi_wp2
        go_roundw
        case rel => exact ⟨k + 1, by omega, by go_num, by rw [List.range_succ]; exact hJ3, HX3⟩
        case measure => simp [intOf]; omega
      · clear HR HB3 hy
        gi_wp2
        refine bodyPost_ret (results_none rfl _ _ _) rfl ?_
        exact ⟨⟨_, rfl⟩, .inr ⟨_, ⟨k + 1, by omega, (List.range_succ).symm⟩, hJx3⟩⟩
    · obtain rfl : k = steps + 1 := by omega
      gi_wp2
      go_end0
      exact ⟨⟨_, rfl⟩, .inl ⟨_, rfl, hJs⟩⟩

end Go.Proofs.Ytkekhnclbkachaa


/- Walk: a number repeated. Conditions stand in each theorem. -/
import Derived.Test.YtjiknjcmfiapjaaMatM
import Derived.Test.YtjiknjcmfiapjaaTail
import Derived.Deep.LoopGhost
import Derived.BigRegion
import Derived.Laws.CopyOwn
import Derived.Shelf.Bits.Mul64
namespace Go.Proofs.Ytjiknjcmfiapjaa
open Go.RowKit Go.Lib
set_option linter.unusedVariables false
set_option linter.unusedSimpArgs false

set_option maxHeartbeats 1000000 in
theorem mul64_any (x y : Nat) (hx : x < 18446744073709551616) (hy : y < 18446744073709551616) (w : World) :
    Calls Try.prog 63 #[.int .u64 x, .int .u64 y] w (Ret (.tuple #[.int .u64 ((x * y / 18446744073709551616 : Nat) : Int), .int .u64 ((x * y % 18446744073709551616 : Nat) : Int)]) w) := by
  obtain ⟨bd, bt, bw, hhi⟩ := Lib.mul64_hi x y hx hy
  have ba := Lib.half_mul_le (a := x / 4294967296) (b := y / 4294967296) (by omega) (by omega)
  have bb := Lib.half_mul_le (a := x / 4294967296) (b := y % 4294967296) (by omega) (by omega)
  have bc := Lib.half_mul_le (a := x % 4294967296) (b := y / 4294967296) (by omega) (by omega)
  have ba' : x / 4294967296 * (y / 4294967296) < 18446744073709551616 := by omega
  have bb' : x / 4294967296 * (y % 4294967296) < 18446744073709551616 := by omega
  have bc' : x % 4294967296 * (y / 4294967296) < 18446744073709551616 := by omega
  have bh1 : x / 4294967296 * (y / 4294967296) + (x / 4294967296 * (y % 4294967296) + x % 4294967296 * (y % 4294967296) / 4294967296) / 4294967296 < 18446744073709551616 := by omega
  have bh : x / 4294967296 * (y / 4294967296) + (x / 4294967296 * (y % 4294967296) + x % 4294967296 * (y % 4294967296) / 4294967296) / 4294967296 + ((x / 4294967296 * (y % 4294967296) + x % 4294967296 * (y % 4294967296) / 4294967296) % 4294967296 + x % 4294967296 * (y / 4294967296)) / 4294967296 < 18446744073709551616 := by omega
  go_enter Try.func63, Try.ntmps63
  go_wp2
  simp only [Mul64.maskN x hx, Mul64.maskN y hy, Mul64.divN, Mul64.mulN, Mul64.addN, Mul64.wrapN _ bd, Mul64.wrapN _ bb', Mul64.wrapN _ bt, Mul64.maskN _ bt, Mul64.wrapN _ bc', Mul64.wrapN _ bw, Mul64.wrapN _ ba', Mul64.wrapN _ bh1, Mul64.wrapN _ bh, Mul64.wrapM (x * y)]
  rw [hhi]
  go_ret2
  exact ⟨rfl, rfl⟩
set_option maxHeartbeats 1000000 in
theorem mul_one (n : Nat) (hn : n ≤ 1000) (w : World) : Calls Try.prog 54 #[.int .u64 1, .int .u64 n] w (Ret (.tuple #[.int .u64 0, .int .u64 n]) w) := by
  have C := mul64_any 1 n (by omega) (by omega) w
  have e1 : ((1 * n / 18446744073709551616 : Nat) : Int) = 0 := by omega
  have e2 : ((1 * n % 18446744073709551616 : Nat) : Int) = n := by omega
  rw [e1, e2] at C
  have C := Lib.hid C
  clear e1 e2
  go_enter Try.func54, Try.ntmps54
  go_wp2_with (go_at_call 63; refine C.out.mono ?_; rintro e w' ⟨rfl, rfl⟩)
  go_ret2
  exact ⟨rfl, rfl⟩

theorem arrI_made (n : Nat) : madeCells #[.int .i64 0] n = arrI n (fun _ => 0) := by
  apply Array.ext_getElem?
  intro m
  by_cases hm : m < n
  · rw [arrI_get hm]
    simp [madeCells, hm, Nat.mod_one]
  · rw [Array.getElem?_eq_none (by rw [size_madeCells]; omega), Array.getElem?_eq_none (by rw [arrI_size]; omega)]
theorem mk_ints (n : Nat) (hn : n ≤ 4294967296) (W : World) : (Instr.makeSlice 23 (.int .i64 (n : Int)) (.int .i64 (n : Int))).run Try.prog W = .ok (.slice (some ⟨W.heap.size, 0, none⟩) n n) (W.alloc (.cells (arrI n (fun _ => 0)) 3)) := by
  obtain ⟨i, hi, hz, hs, hb⟩ := info_parts infoInt
  have h := run_make (P := Try.prog) W 23 3 i _ Try.underlying23 hi hz .i64 .i64 n n (by omega) (by omega) (by rw [hb]; omega) (by omega)
  rw [hs] at h
  simp only [Int.toNat_natCast, Nat.mul_one] at h
  rw [← arrI_made n]
  exact h
/-- The first m of n are -1. -/
def rl (n m : Nat) : List Value := (List.range n).map fun j => Value.int .i64 (if j < m then -1 else 0)
theorem rl_zero (n : Nat) : arrI n (fun _ => 0) = (rl n 0).toArray := by unfold arrI rl; congr 1
theorem rl_all (n : Nat) : (rl n n).toArray = arrI n (fun _ => -1) := by
  unfold arrI rl
  congr 1
  apply List.map_congr_left
  intro k hk
  rw [if_pos (List.mem_range.1 hk)]
theorem rl_len (n m : Nat) : (rl n m).length = n := by simp [rl]
theorem rl_get {n m j : Nat} (hj : j < n) : (rl n m)[j]? = some (.int .i64 (if j < m then -1 else 0)) := by simp [rl, hj]
def neg1 (c : Nat) : List Value := List.replicate c (.int .i64 (-1))
theorem rl_splice {n m c : Nat} (h : m + c ≤ n) : splice (rl n m) m (neg1 c) = rl n (m + c) := by
  apply List.ext_getElem?
  intro j
  unfold splice neg1
  by_cases hj : j < n
  · rw [rl_get hj]
    by_cases h1 : j < m
    · rw [List.getElem?_append_left (by rw [List.length_take, rl_len]; omega), List.getElem?_take, if_pos h1, rl_get hj, if_pos h1, if_pos (by omega)]
    · rw [List.getElem?_append_right (by rw [List.length_take, rl_len]; omega), List.length_take, rl_len, Nat.min_eq_left (by omega)]
      by_cases h2 : j < m + c
      · rw [List.getElem?_append_left (by rw [List.length_replicate]; omega), if_pos h2, List.getElem?_replicate, if_pos (by omega)]
      · rw [List.getElem?_append_right (by rw [List.length_replicate]; omega), List.length_replicate, List.getElem?_drop, rl_get (by omega), if_neg (by omega), if_neg (by omega)]
  · rw [List.getElem?_eq_none (by simp [rl_len]; omega), List.getElem?_eq_none (by rw [rl_len]; omega)]
theorem neg1_len (c : Nat) : (neg1 c).length = c := by simp [neg1]
theorem neg1_one (c : Nat) : ∀ v ∈ neg1 c, v.oneCell' = true := fun v hv => by
  have := (List.mem_replicate.1 hv).2; subst this; rfl
/-- The call returns so many times -1, in a block of its own. -/
def RepP (n : Nat) (w : World) (e : Ending) (w' : World) : Prop := ∃ g, e = .returned (.slice (some ⟨g, 0, none⟩) n n) ∧ w.heap.size ≤ g ∧ Below w.heap.size w w' ∧ Blk w' g (arrI n fun _ => -1) 3
set_option maxHeartbeats 1600000 in
theorem repeat_any (b n : Nat) (hn : n ≤ 1000) (w : World) (hb : old b w) (hc : w.cell? ⟨b, 0, none⟩ = some (.int .i64 (-1))) : Calls Try.prog 44 #[.slice (some ⟨b, 0, none⟩) 1 1, .int .i64 (n : Int)] w (RepP n w) := by
  have C := fun w => Lib.hid (mul_one n hn w)
  have hmk := fun W => mk_ints n (by omega) W
  go_enter Try.func44, Try.ntmps44
  have HC := Lib.hid hc
  go_wp2_with (first | (go_at_call 54; refine (C _).out.mono ?_; rintro e w' ⟨rfl, rfl⟩) | (with_reducible refine wpList_copy_splice rfl (.tmp 31) (.tmp 32) 23 23 rfl 3 Try.underlying23 (by kernel_rfl) (some ⟨w.heap.size, 0, none⟩) (some ⟨b, 0, none⟩) n n 1 1 rfl rfl w.heap.size 0 (rl n 0) 3 ?_ (neg1 (Nat.min 1 n)) ?_ ?_ ?_ (neg1_one _) w.heap.size w ?_ (Nat.le_refl _) ?_))
  · rw [← rl_zero]; exact heap_alloc_new w _
  · rw [neg1_len]
  · intro h
    rw [neg1_len] at h
    have H : ∀ (j : Nat) (v : Value), (neg1 (Nat.min 1 n))[j]? = some v → w.cell? ⟨b, j, none⟩ = some v := fun j v hv => by
      have hj : j = 0 := by
        have := (List.getElem?_eq_some_iff.1 hv).1
        rw [neg1_len] at this
        have : Nat.min 1 n ≤ 1 := Nat.min_le_left _ _
        omega
      subst hj
      have hv' : v = .int .i64 (-1) := (List.mem_replicate.1 (List.mem_of_getElem? hv)).2
      subst hv'
      exact HC.out
    first | exact H | exact ⟨rfl, _, rfl, fun j v hv => by rw [zero_add_addr, cell_alloc_old _ _ _ _ _ hb]; exact H j v hv⟩
  · rw [neg1_len, rl_len]; have : Nat.min 1 n ≤ n := Nat.min_le_right _ _; omega
  · exact (by repeat' (first | exact Below.refl _ _ | assumption | refine Below.xt ?_ ?_ _ | refine Below.alloc ?_ ?_ _ | refine Below.drew ?_ | refine Below.setCell ?_ ?_ _ | (simp; done) | (simp; omega)))
  intro w1 hw1 hb1
  have hm1 : Nat.min 1 n ≤ n := Nat.min_le_right _ _
  have HB := Lib.hid hb1
  have HK := Lib.hid (show Blk w1 w.heap.size (rl n (Nat.min 1 n)).toArray 3 by have h := hw1; rw [rl_splice (by omega), Nat.zero_add] at h; exact h)
  have hm2 : n = 0 ∨ 0 < Nat.min 1 n := by
    rcases Nat.eq_zero_or_pos n with h | h
    · exact .inl h
    · exact .inr (by show 0 < min 1 n; omega)
  clear hw1 hb1 hmk C HC hc
  rw [neg1_len]
  generalize Nat.min 1 n = m0 at *
  go_wp2_with fail
  go_loopg [8] (n - m0) (fun gk mm wr => ∃ m : Nat, mm = .int .i64 m ∧ m + gk = n ∧ (n = 0 ∨ 0 < m) ∧ Hid (Below w.heap.size w wr) ∧ Hid (Blk wr w.heap.size (rl n m).toArray 3))
  case atStart => exact ⟨m0, rfl, by omega, hm2, HB, HK⟩
  case round =>
    clear HB HK hm1 hm2
    obtain ⟨m, rfl, hm, hm2, HB, HK⟩ := hrel
    by_cases hlt : m < n
    · have hmp : 0 < m := by omega
      have HSrc := Lib.hid (show ∀ (j : Nat) (v : Value), (neg1 (Nat.min m (n - m)))[j]? = some v → wr.cell? ⟨w.heap.size, j, none⟩ = some v from fun j v hv => by
        have hj := (List.getElem?_eq_some_iff.1 hv).1
        rw [neg1_len] at hj
        have hj2 : Nat.min m (n - m) ≤ m := Nat.min_le_left _ _
        have hv' : v = .int .i64 (-1) := (List.mem_replicate.1 (List.mem_of_getElem? hv)).2
        subst hv'
        refine HK.out.cell ?_
        rw [List.getElem?_toArray, rl_get (by omega), if_pos (by omega)])
      have hmm : Nat.min m (n - m) + m ≤ n := by show min m (n - m) + m ≤ n; omega
      have hmp2 : 0 < Nat.min m (n - m) := by show 0 < min m (n - m); omega
      obtain ⟨c, hc⟩ : ∃ c, Nat.min m (n - m) = c := ⟨_, rfl⟩
      have hrun := run_copy_row (P := Try.prog) wr.drew 23 23 3 3 w.heap.size m (n - m) (n - m) ⟨w.heap.size, 0, none⟩ m n (rl n m).toArray 3 (neg1 c) Try.underlying23 (by kernel_rfl) HK.out (by rw [neg1_len, hc]) (fun j v hv => by rw [zero_add_addr]; exact HSrc.out j v (by rw [hc]; exact hv)) (by rw [neg1_len]; simp [rl_len]; omega) (neg1_one _)
      rw [hc] at hmm hmp2
      have e1 : (goInt (neg1 c).length) = .int .i64 (c : Int) := by rw [neg1_len]; rfl
      rw [e1] at hrun
      have HS := Lib.hid (show (rl n m).toArray.toList.take m ++ neg1 c ++ (rl n m).toArray.toList.drop (m + (neg1 c).length) = rl n (m + c) by
        have := rl_splice (n := n) (m := m) (c := c) (by omega)
        rw [← this, splice, List.append_assoc])
      rw [HS.out] at hrun
      have HB3 := Lib.hid (below_setRow (Below.drew HB.out) (Nat.le_refl w.heap.size) (rl n (m + c)).toArray)
      have HK3 := Lib.hid (show Blk (wr.drew.setRow w.heap.size (rl n (m + c)).toArray) w.heap.size (rl n (m + c)).toArray 3 from setRow_heap wr.drew w.heap.size _ _ _ _ HK.out)
      clear HSrc HB HK hc e1 HS
      go_wp2_with fail
      go_region
      go_wp2_with fail
      go_roundg (gk - c)
      case measure => omega
      case rel => exact ⟨m + c, by go_num, by omega, .inr (by omega), HB3, HK3⟩
    · obtain rfl : m = n := by omega
      go_wp2_with fail
      go_ret
      exact ⟨_, rfl, Nat.le_refl _, HB.out, by rw [← rl_all]; exact HK.out⟩

end Go.Proofs.Ytjiknjcmfiapjaa

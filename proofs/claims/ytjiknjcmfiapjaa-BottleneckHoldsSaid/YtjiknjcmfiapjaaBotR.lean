
/- Walk: any number repeated. Conditions stand in each theorem. -/
import Derived.Test.YtjiknjcmfiapjaaMatW3
namespace Go.Proofs.Ytjiknjcmfiapjaa
open Go.RowKit Go.Lib
set_option linter.unusedVariables false
set_option linter.unusedSimpArgs false

/-- The first m of n are x. -/
def rx (x : Int) (n m : Nat) : List Value := (List.range n).map fun j => Value.int .i64 (if j < m then x else 0)
theorem rx_zero (x : Int) (n : Nat) : arrI n (fun _ => 0) = (rx x n 0).toArray := by unfold arrI rx; congr 1
theorem rx_all (x : Int) (n : Nat) : (rx x n n).toArray = arrI n (fun _ => x) := by
  unfold arrI rx
  congr 1
  apply List.map_congr_left
  intro k hk
  rw [if_pos (List.mem_range.1 hk)]
theorem rx_len (x : Int) (n m : Nat) : (rx x n m).length = n := by simp [rx]
theorem rx_get {x : Int} {n m j : Nat} (hj : j < n) : (rx x n m)[j]? = some (.int .i64 (if j < m then x else 0)) := by simp [rx, hj]
def xs (x : Int) (c : Nat) : List Value := List.replicate c (.int .i64 x)
theorem rx_splice {x : Int} {n m c : Nat} (h : m + c ≤ n) : splice (rx x n m) m (xs x c) = rx x n (m + c) := by
  apply List.ext_getElem?
  intro j
  unfold splice xs
  by_cases hj : j < n
  · rw [rx_get hj]
    by_cases h1 : j < m
    · rw [List.getElem?_append_left (by rw [List.length_take, rx_len]; omega), List.getElem?_take, if_pos h1, rx_get hj, if_pos h1, if_pos (by omega)]
    · rw [List.getElem?_append_right (by rw [List.length_take, rx_len]; omega), List.length_take, rx_len, Nat.min_eq_left (by omega)]
      by_cases h2 : j < m + c
      · rw [List.getElem?_append_left (by rw [List.length_replicate]; omega), if_pos h2, List.getElem?_replicate, if_pos (by omega)]
      · rw [List.getElem?_append_right (by rw [List.length_replicate]; omega), List.length_replicate, List.getElem?_drop, rx_get (by omega), if_neg (by omega), if_neg (by omega)]
  · rw [List.getElem?_eq_none (by simp [rx_len]; omega), List.getElem?_eq_none (by rw [rx_len]; omega)]
theorem xs_len (x : Int) (c : Nat) : (xs x c).length = c := by simp [xs]
theorem xs_one (x : Int) (c : Nat) : ∀ v ∈ xs x c, v.oneCell' = true := fun v hv => by
  have := (List.mem_replicate.1 hv).2; subst this; rfl
/-- The call returns so many times x, in a block of its own. -/
def RepX (x : Int) (n : Nat) (w : World) (e : Ending) (w' : World) : Prop := ∃ g, e = .returned (.slice (some ⟨g, 0, none⟩) n n) ∧ w.heap.size ≤ g ∧ Below w.heap.size w w' ∧ Blk w' g (arrI n fun _ => x) 3
set_option maxHeartbeats 1600000 in
theorem repeatx_any (x : Int) (b n : Nat) (hn : n ≤ 1000) (w : World) (hb : old b w) (hc : w.cell? ⟨b, 0, none⟩ = some (.int .i64 x)) : Calls Try.prog 44 #[.slice (some ⟨b, 0, none⟩) 1 1, .int .i64 (n : Int)] w (RepX x n w) := by
  have C := fun w => Lib.hid (mul_one n hn w)
  have hmk := fun W => mk_ints n (by omega) W
  go_enter Try.func44, Try.ntmps44
  have HC := Lib.hid hc
  go_wp2_with (first | (go_at_call 54; refine (C _).out.mono ?_; rintro e w' ⟨rfl, rfl⟩) | (with_reducible refine wpList_copy_splice rfl (.tmp 31) (.tmp 32) 23 23 rfl 3 Try.underlying23 (by kernel_rfl) (some ⟨w.heap.size, 0, none⟩) (some ⟨b, 0, none⟩) n n 1 1 rfl rfl w.heap.size 0 (rx x n 0) 3 ?_ (xs x (Nat.min 1 n)) ?_ ?_ ?_ (xs_one _ _) w.heap.size w ?_ (Nat.le_refl _) ?_))
  · rw [← rx_zero x]; exact heap_alloc_new w _
  · rw [xs_len]
  · intro h
    rw [xs_len] at h
    have H : ∀ (j : Nat) (v : Value), (xs x (Nat.min 1 n))[j]? = some v → w.cell? ⟨b, j, none⟩ = some v := fun j v hv => by
      have hj : j = 0 := by
        have := (List.getElem?_eq_some_iff.1 hv).1
        rw [xs_len] at this
        have : Nat.min 1 n ≤ 1 := Nat.min_le_left _ _
        omega
      subst hj
      have hv' : v = .int .i64 x := (List.mem_replicate.1 (List.mem_of_getElem? hv)).2
      subst hv'
      exact HC.out
    first | exact H | exact ⟨rfl, _, rfl, fun j v hv => by rw [zero_add_addr, cell_alloc_old _ _ _ _ _ hb]; exact H j v hv⟩
  · rw [xs_len, rx_len]; have : Nat.min 1 n ≤ n := Nat.min_le_right _ _; omega
  · exact (by repeat' (first | exact Below.refl _ _ | assumption | refine Below.xt ?_ ?_ _ | refine Below.alloc ?_ ?_ _ | refine Below.drew ?_ | refine Below.setCell ?_ ?_ _ | (simp; done) | (simp; omega)))
  intro w1 hw1 hb1
  have hm1 : Nat.min 1 n ≤ n := Nat.min_le_right _ _
  have HB := Lib.hid hb1
  have HK := Lib.hid (show Blk w1 w.heap.size (rx x n (Nat.min 1 n)).toArray 3 by have h := hw1; rw [rx_splice (by omega), Nat.zero_add] at h; exact h)
  have hm2 : n = 0 ∨ 0 < Nat.min 1 n := by
    rcases Nat.eq_zero_or_pos n with h | h
    · exact .inl h
    · exact .inr (by show 0 < min 1 n; omega)
  clear hw1 hb1 hmk C HC hc
  rw [xs_len]
  generalize Nat.min 1 n = m0 at *
  go_wp2_with fail
  go_loopg [8] (n - m0) (fun gk mm wr => ∃ m : Nat, mm = .int .i64 m ∧ m + gk = n ∧ (n = 0 ∨ 0 < m) ∧ Hid (Below w.heap.size w wr) ∧ Hid (Blk wr w.heap.size (rx x n m).toArray 3))
  case atStart => exact ⟨m0, rfl, by omega, hm2, HB, HK⟩
  case round =>
    clear HB HK hm1 hm2
    obtain ⟨m, rfl, hm, hm2, HB, HK⟩ := hrel
    by_cases hlt : m < n
    · have hmp : 0 < m := by omega
      have HSrc := Lib.hid (show ∀ (j : Nat) (v : Value), (xs x (Nat.min m (n - m)))[j]? = some v → wr.cell? ⟨w.heap.size, j, none⟩ = some v from fun j v hv => by
        have hj := (List.getElem?_eq_some_iff.1 hv).1
        rw [xs_len] at hj
        have hj2 : Nat.min m (n - m) ≤ m := Nat.min_le_left _ _
        have hv' : v = .int .i64 x := (List.mem_replicate.1 (List.mem_of_getElem? hv)).2
        subst hv'
        refine HK.out.cell ?_
        rw [List.getElem?_toArray, rx_get (by omega), if_pos (by omega)])
      have hmm : Nat.min m (n - m) + m ≤ n := by show min m (n - m) + m ≤ n; omega
      have hmp2 : 0 < Nat.min m (n - m) := by show 0 < min m (n - m); omega
      obtain ⟨c, hc⟩ : ∃ c, Nat.min m (n - m) = c := ⟨_, rfl⟩
      have hrun := run_copy_row (P := Try.prog) wr.drew 23 23 3 3 w.heap.size m (n - m) (n - m) ⟨w.heap.size, 0, none⟩ m n (rx x n m).toArray 3 (xs x c) Try.underlying23 (by kernel_rfl) HK.out (by rw [xs_len, hc]) (fun j v hv => by rw [zero_add_addr]; exact HSrc.out j v (by rw [hc]; exact hv)) (by rw [xs_len]; simp [rx_len]; omega) (xs_one _ _)
      rw [hc] at hmm hmp2
      have e1 : (goInt (xs x c).length) = .int .i64 (c : Int) := by rw [xs_len]; rfl
      rw [e1] at hrun
      have HS := Lib.hid (show (rx x n m).toArray.toList.take m ++ xs x c ++ (rx x n m).toArray.toList.drop (m + (xs x c).length) = rx x n (m + c) by
        have := rx_splice (x := x) (n := n) (m := m) (c := c) (by omega)
        rw [← this, splice, List.append_assoc])
      rw [HS.out] at hrun
      have HB3 := Lib.hid (below_setRow (Below.drew HB.out) (Nat.le_refl w.heap.size) (rx x n (m + c)).toArray)
      have HK3 := Lib.hid (show Blk (wr.drew.setRow w.heap.size (rx x n (m + c)).toArray) w.heap.size (rx x n (m + c)).toArray 3 from setRow_heap wr.drew w.heap.size _ _ _ _ HK.out)
      clear HSrc HB HK hc e1 HS
      go_wp2_with fail
      go_region
      go_wp2_with fail
      go_roundg (gk - c)
      case measure => omega
      case rel => exact ⟨m + c, by go_num, by omega, .inr (by omega), HB3, HK3⟩
    · obtain rfl : m = n := by omega
      go_wp2_with fail
      go_ret
      exact ⟨_, rfl, Nat.le_refl _, HB.out, by rw [← rx_all]; exact HK.out⟩

end Go.Proofs.Ytjiknjcmfiapjaa

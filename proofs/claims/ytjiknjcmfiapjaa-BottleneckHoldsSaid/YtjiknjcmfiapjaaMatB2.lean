
/- Walks: lists that have a number, counts, valid graphs, small graphs. Conditions stand in each theorem. -/
import Derived.Test.YtjiknjcmfiapjaaMatB1
namespace Go.Proofs.Ytjiknjcmfiapjaa
open Go.RowKit
set_option linter.unusedVariables false
set_option linter.unusedSimpArgs false

theorem RowI.take {w : World} {A : Option Addr} {l : List Int} (h : RowI w A l) (i : Nat) : RowI w A (l.take i) :=
  ⟨fun hn => by
    have hl : (l.take i).length ≤ l.length := by rw [List.length_take]; omega
    obtain ⟨b, o, e, hb, hc⟩ := Row.at_ h (by omega)
    refine ⟨b, o, e, hb, fun k j hk hj => ?_⟩
    rw [hc k j (by omega) hj]
    have h1 : k < i := by rw [List.length_take] at hk; omega
    simp [icell, List.getD, List.getElem?_take, h1]⟩
/-- The list has the number. -/
def hs (l : List Int) (n : Int) : Bool := l.contains n
theorem has_no {l : List Int} {n : Int} (h : ∀ j, j < l.length → l.getD j 0 ≠ n) : hs l n = false := by
  unfold hs
  rw [← Bool.not_eq_true, List.contains_iff_mem]
  intro hm
  obtain ⟨i, hi, e⟩ := mem_getD hm
  exact h i hi e
theorem has_yes {l : List Int} {n : Int} {k : Nat} (hk : k < l.length) (h : l.getD k 0 = n) : hs l n = true := by
  unfold hs; rw [List.contains_iff_mem, ← h]; exact getD_in hk

set_option maxHeartbeats 800000 in
theorem Has_any (A : Option Addr) (m cap : Nat) (l : List Int) (n : Int) (w : World) (hm : m = l.length) (hl : l.length ≤ 1000) (h : RowI w A l) : Calls Try.prog 31 #[.slice A m cap, .int .i64 n] w (Ret (.bool (hs l n)) w) := by
  subst hm
  have HI := Lib.hid h
  clear h
  go_enter Try.func31, Try.ntmps31
  go_wp2_with fail
  go_loop [5] (fun i => ∃ k : Nat, k ≤ l.length ∧ i = .int .i64 k ∧ Hid (∀ j, j < k → l.getD j 0 ≠ n)) (fun i => l.length - (intOf i).toNat)
  case atStart => exact ⟨0, by omega, rfl, Lib.hid (fun j h => absurd h (by omega))⟩
  case round =>
    obtain ⟨k, hk, rfl, HK⟩ := hrel
    by_cases hlt : k < l.length
    · obtain ⟨q, o, rfl, hq, hc⟩ := RowI.at_ HI.out (by omega)
      have c1 := hc k hlt
      obtain ⟨x, hx⟩ : ∃ x, l.getD k 0 = x := ⟨_, rfl⟩
      rw [hx] at c1
      by_cases h0 : x = n
      · have HE := Lib.hid (has_yes (n := n) hlt (by rw [hx]; exact h0))
        have d1 : (x == n) = true := by simpa using h0
        clear hx HK hc HI h0
        go_wp2_with (first
          | (refine wp_region_xt (by kernel_rfl) (by kernel_rfl) ?_; (repeat (go_big_quiet_step (first | fail))); refine wpQuiet_nil ?_; intro g))
        go_ret
        exact ⟨by rw [HE.out]; rfl, rfl⟩
      · have d1 : (x == n) = false := by simpa using h0
        have HE := Lib.hid (show ∀ j, j < k + 1 → l.getD j 0 ≠ n from fun j hj => by
          by_cases e : j = k
          · subst e; rw [hx]; exact h0
          · exact HK.out j (by omega))
        clear hx HK hc HI h0
        go_wp2_with (first
          | (refine wp_region_xt (by kernel_rfl) (by kernel_rfl) ?_; (repeat (go_big_quiet_step (first | fail))); refine wpQuiet_nil ?_; intro g))
        go_round
        case rel => exact ⟨k + 1, by omega, by go_num, HE⟩
        case measure => simp [intOf]; omega
    · have HE := Lib.hid (has_no (l := l) (n := n) fun i hi => HK.out i (by omega))
      clear HI
      go_wp2_with (first
        | (refine wp_region_xt (by kernel_rfl) (by kernel_rfl) ?_; (repeat (go_big_quiet_step (first | fail))); refine wpQuiet_nil ?_; intro g))
      go_ret
      exact ⟨by rw [HE.out]; rfl, rfl⟩

/-- The numbers from 0 on. -/
def szv (l : List Int) : Nat := cntp (fun i => decide (0 ≤ l.getD i 0)) l.length
theorem cntp_yes {p : Nat → Bool} {k : Nat} (h : p k = true) : cntp p (k + 1) = cntp p k + 1 := by rw [cntp, h]; rfl
theorem cntp_not {p : Nat → Bool} {k : Nat} (h : p k = false) : cntp p (k + 1) = cntp p k := by rw [cntp, h]; rfl
set_option maxHeartbeats 800000 in
theorem size_any (A : Option Addr) (cap : Nat) (l : List Int) (w : World) (hl : l.length ≤ 1000) (h : RowI w A l) : Calls Try.prog 53 #[.slice A l.length cap] w (Ret (.int .i64 (szv l : Nat)) w) := by
  have HI := Lib.hid h
  clear h
  have hle := fun k => cntp_le (fun i => decide (0 ≤ l.getD i 0)) k
  go_enter Try.func53, Try.ntmps53
  go_wp2_with fail
  go_loop [3, 8] (fun c i => ∃ (k n : Nat), k ≤ l.length ∧ n ≤ k ∧ i = .int .i64 k ∧ c = .int .i64 n ∧ Hid (n = cntp (fun i => decide (0 ≤ l.getD i 0)) k)) (fun _ i => l.length - (intOf i).toNat)
  case atStart => exact ⟨0, 0, by omega, by omega, rfl, rfl, Lib.hid rfl⟩
  case round =>
    obtain ⟨k, n, hk, hn, rfl, rfl, HK⟩ := hrel
    by_cases hlt : k < l.length
    · obtain ⟨q, o, rfl, hq, hc⟩ := RowI.at_ HI.out (by omega)
      have c1 := hc k hlt
      obtain ⟨x, hx⟩ : ∃ x, l.getD k 0 = x := ⟨_, rfl⟩
      rw [hx] at c1
      by_cases h0 : 0 ≤ x
      · have HE := Lib.hid (show n + 1 = cntp (fun i => decide (0 ≤ l.getD i 0)) (k + 1) by rw [cntp_yes (by rw [hx]; simpa using h0), HK.out])
        have d1 : decide (0 ≤ x) = true := by simpa using h0
        clear hx HK hc HI hle
        go_wp2_with (first
          | (refine wp_region_xt (by kernel_rfl) (by kernel_rfl) ?_; (repeat (go_big_quiet_step (first | fail))); refine wpQuiet_nil ?_; intro g))
        go_round
        case rel => exact ⟨k + 1, n + 1, by omega, by omega, by go_num, by go_num, HE⟩
        case measure => simp [intOf]; omega
      · have d1 : decide (0 ≤ x) = false := by simpa using h0
        have HE := Lib.hid (show n = cntp (fun i => decide (0 ≤ l.getD i 0)) (k + 1) by rw [cntp_not (by rw [hx]; simpa using h0), HK.out])
        clear hx HK hc HI hle
        go_wp2_with (first
          | (refine wp_region_xt (by kernel_rfl) (by kernel_rfl) ?_; (repeat (go_big_quiet_step (first | fail))); refine wpQuiet_nil ?_; intro g))
        go_round
        case rel => exact ⟨k + 1, n, by omega, by omega, by go_num, rfl, HE⟩
        case measure => simp [intOf]; omega
    · obtain rfl : k = l.length := by omega
      clear HI hle
      go_wp2_with (first
        | (refine wp_region_xt (by kernel_rfl) (by kernel_rfl) ?_; (repeat (go_big_quiet_step (first | fail))); refine wpQuiet_nil ?_; intro g))
      go_ret
      exact ⟨by rw [HK.out]; rfl, rfl⟩

def smB (G : Nat → List Int) (nL most : Nat) : Bool := (List.range nL).all (fun i => decide ((G i).length ≤ most)) && decide (nL ≤ most)
theorem smB_no {G : Nat → List Int} {nL most i : Nat} (hi : i < nL) (h : most < (G i).length) : smB G nL most = false := by
  rw [← Bool.not_eq_true]
  intro e
  simp only [smB, Bool.and_eq_true, List.all_eq_true, List.mem_range, decide_eq_true_eq] at e
  have := e.1 i hi; omega
theorem smB_iff {G : Nat → List Int} {nL most : Nat} : smB G nL most = true ↔ (∀ i, i < nL → (G i).length ≤ most) ∧ nL ≤ most := by
  simp only [smB, Bool.and_eq_true, List.all_eq_true, List.mem_range, decide_eq_true_eq]
end Go.Proofs.Ytjiknjcmfiapjaa

/- Walk: whether a list has a number; the plain law of GridHolds. Conditions stand in each theorem. -/
import Derived.Test.YtoaakjkflcjkhaaGrL
namespace Go.Proofs.Ytoaakjkflcjkhaa
open Go.RowKit
set_option linter.unusedVariables false

set_option maxHeartbeats 800000 in
theorem has_any (A : Option Addr) (n cap : Nat) (L : List Int) (x : Int) (w : World) (hn : n = L.length) (hm : n ≤ 4294967296) (hl : RowI w A L) : Calls Try.prog 26 #[.slice A n cap, .int .i64 x] w (RetB (.bool (decide (x ∈ L))) w) := by
  have HN := Lib.hid hn
  by_cases hx : x ∈ L
  · rw [decide_eq_true hx]
    have h0 : 0 < n := by rw [hn]; exact List.length_pos_of_mem hx
    obtain ⟨b, o, rfl, hb, hc⟩ := hl.at_ (hn ▸ h0)
    have HC := Lib.hid hc
    obtain ⟨i, hi, hix⟩ := List.getElem_of_mem hx
    have HX := Lib.hid (show ∃ i, i < n ∧ L.getD i 0 = x from ⟨i, by omega, by simp [List.getD, hi, hix]⟩)
    clear hn hl hc hx hi hix
    go_enter Try.func26, Try.ntmps26
    go_wp2_with fail
    go_loopw [5] (fun i wr => ∃ (k : Nat) (g : Gr), k ≤ n ∧ Hid (∀ j, j < k → L.getD j 0 ≠ x) ∧ i = .int .i64 k ∧ wr = xt w g) (fun i _ => n - (intOf i).toNat)
    case atStart => exact ⟨0, ⟨[], _⟩, by omega, Lib.hid fun j hj => absurd hj (by omega), rfl, (xt_self _).symm⟩
    case round =>
      obtain ⟨k, g, hk, HK, rfl, rfl⟩ := hrel
      by_cases hlt : k < n
      · have hx := HC.out k (HN.out ▸ hlt)
        have HS := Lib.hid (fun (h : L.getD k 0 ≠ x) => show ∀ j, j < k + 1 → L.getD j 0 ≠ x from fun j hj => if e : j = k then e ▸ h else HK.out j (by omega))
        generalize L.getD k 0 = v at *
        by_cases hv : v = x
        · have e1 : (v == x) = true := by simpa using hv
          clear hv
          go_wp2_with (first
            | (refine wp_region_xt (by kernel_rfl) (by kernel_rfl) ?_; (repeat (go_big_quiet_step (first | fail))); refine wpQuiet_nil ?_; intro g))
          go_ret
          exact RetB.of rfl (by repeat' (first | exact Below.refl _ _ | assumption | refine Below.xt ?_ ?_ _ | refine Below.alloc ?_ ?_ _ | refine Below.drew ?_ | refine Below.setCell ?_ ?_ _ | (simp; done) | (simp; omega)))
        · have e1 : (v == x) = false := by simpa using hv
          have HV := Lib.hid hv
          clear hv
          go_wp2_with (first
            | (refine wp_region_xt (by kernel_rfl) (by kernel_rfl) ?_; (repeat (go_big_quiet_step (first | fail))); refine wpQuiet_nil ?_; intro g))
          go_roundw
          case rel => exact ⟨k + 1, _, by omega, Lib.hid (HS.out HV.out), by go_num, (Classical.choose_spec (xt_of_below (by repeat' (first | exact Below.refl _ _ | assumption | refine Below.xt ?_ ?_ _ | refine Below.alloc ?_ ?_ _ | refine Below.drew ?_ | refine Below.setCell ?_ ?_ _ | (simp; done) | (simp; omega)))))⟩
          case measure => simp [intOf]; omega
      · exfalso
        obtain ⟨j, hj, hf⟩ := HX.out
        exact HK.out j (by omega) hf
  · rw [decide_eq_false hx]
    rcases Nat.eq_zero_or_pos n with h0 | h0
    · subst h0
      clear hn hl hx
      go_enter Try.func26, Try.ntmps26
      go_wp2_with fail
      go_rounds 1
      go_ret
      exact RetB.of rfl (by repeat' (first | exact Below.refl _ _ | assumption | refine Below.xt ?_ ?_ _ | refine Below.alloc ?_ ?_ _ | refine Below.drew ?_ | refine Below.setCell ?_ ?_ _ | (simp; done) | (simp; omega)))
    · obtain ⟨b, o, rfl, hb, hc⟩ := hl.at_ (hn ▸ h0)
      have HC := Lib.hid hc
      have HX := Lib.hid (show ∀ i, i < n → L.getD i 0 ≠ x from fun i hi he => hx (by
        have hi' : i < L.length := by omega
        have : L.getD i 0 = L[i] := by simp [List.getD, hi']
        rw [← he, this]; exact List.getElem_mem hi'))
      clear hn hl hc hx
      go_enter Try.func26, Try.ntmps26
      go_wp2_with fail
      go_loopw [5] (fun i wr => ∃ (k : Nat) (g : Gr), k ≤ n ∧ i = .int .i64 k ∧ wr = xt w g) (fun i _ => n - (intOf i).toNat)
      case atStart => exact ⟨0, ⟨[], _⟩, by omega, rfl, (xt_self _).symm⟩
      case round =>
        obtain ⟨k, g, hk, rfl, rfl⟩ := hrel
        by_cases hlt : k < n
        · have hx := HC.out k (HN.out ▸ hlt)
          have hv := HX.out k hlt
          generalize L.getD k 0 = v at *
          have e1 : (v == x) = false := by simpa using hv
          clear hv
          go_wp2_with (first
            | (refine wp_region_xt (by kernel_rfl) (by kernel_rfl) ?_; (repeat (go_big_quiet_step (first | fail))); refine wpQuiet_nil ?_; intro g))
          go_roundw
          case rel => exact ⟨k + 1, _, by omega, by go_num, (Classical.choose_spec (xt_of_below (by repeat' (first | exact Below.refl _ _ | assumption | refine Below.xt ?_ ?_ _ | refine Below.alloc ?_ ?_ _ | refine Below.drew ?_ | refine Below.setCell ?_ ?_ _ | (simp; done) | (simp; omega)))))⟩
          case measure => simp [intOf]; omega
        · go_wp2_with fail
          go_ret
          exact RetB.of rfl (by repeat' (first | exact Below.refl _ _ | assumption | refine Below.xt ?_ ?_ _ | refine Below.alloc ?_ ?_ _ | refine Below.drew ?_ | refine Below.setCell ?_ ?_ _ | (simp; done) | (simp; omega)))

/-! ### The plain law -/
theorem d2_comm (a b : V3) : d2 a b = d2 b a := by unfold d2; grind
/-- A spot is a neighbour of another one if they are the spacing apart. -/
theorem neigh_mem {q : Gd} (h : q.dims) {i k : Nat} (hi : i < q.n) (hk : k < q.n) : (k : Int) ∈ neigh q i ↔ d2 (q.spot k) (q.spot i) = q.sp * q.sp := by
  have hn := g_n h
  rw [neigh_eq h (by omega) (by omega), mem_rng]
  constructor
  · rintro ⟨m, h1, h2, h3⟩
    have : m = k := by omega
    subst this
    simpa using h2
  · intro h2
    exact ⟨k, hk, by simpa using h2, rfl⟩
theorem near_self {q : Gd} (h : q.dims) {a : Nat} (ha : a < q.n) : nb (dist (spots q) (q.spot a)) (fun _ => false) (spots q).length = a := by
  rw [spots_len]
  refine nb_best _ _ ha rfl fun i hi hne _ => ?_
  simp only [dist, Int.toNat_natCast]
  rw [spots_at ha, spots_at hi, d2_self]
  have h1 := apart (g := q) h.2.2.2.2.2.1 (i := (a : Int)) (k := (i : Int)) (by omega)
  have h2 : 0 < q.sp * q.sp := Int.mul_pos (by have := h.2.2.2.2.2.1; omega) (by have := h.2.2.2.2.2.1; omega)
  omega
/-- Spots asked for one after the other, from a on, in one of both directions. -/
def sq (n a : Nat) (down : Bool) (k : Nat) : Nat := if down then n - 1 - (a + k) % n else (a + k) % n
theorem sq_lt {n a k : Nat} {d : Bool} (hn : 0 < n) : sq n a d k < n := by
  have := Nat.mod_lt (a + k) hn
  unfold sq; split <;> omega
theorem mod_inj {n a i k : Nat} (hi : i < n) (hk : k < n) (h : (a + i) % n = (a + k) % n) : i = k := by
  have h1 := Nat.div_add_mod (a + i) n
  have h2 := Nat.div_add_mod (a + k) n
  rw [h] at h1
  rcases Nat.lt_trichotomy ((a + i) / n) ((a + k) / n) with hq | hq | hq
  · have := Nat.mul_le_mul_left n (show (a + i) / n + 1 ≤ (a + k) / n by omega)
    rw [Nat.mul_add, Nat.mul_one] at this; omega
  · rw [hq] at h1; omega
  · have := Nat.mul_le_mul_left n (show (a + k) / n + 1 ≤ (a + i) / n by omega)
    rw [Nat.mul_add, Nat.mul_one] at this; omega
theorem sq_inj {n a : Nat} {d : Bool} {i k : Nat} (hi : i < n) (hk : k < n) (h : sq n a d i = sq n a d k) : i = k := by
  have hn : 0 < n := by omega
  have h1 := Nat.mod_lt (a + i) hn
  have h2 := Nat.mod_lt (a + k) hn
  refine mod_inj (a := a) hi hk ?_
  unfold sq at h
  split at h <;> omega
def pts (q : Gd) (a : Nat) (d : Bool) (n : Nat) : List V3 := (List.range n).map fun k => q.spot ((sq q.n a d k : Nat) : Int)
def ord (q : Gd) (a : Nat) (d : Bool) (n : Nat) : List Int := (List.range n).map fun k => ((sq q.n a d k : Nat) : Int)
theorem pts_at {q : Gd} {a : Nat} {d : Bool} {n k : Nat} (h : k < n) : at_ (pts q a d n) k = q.spot ((sq q.n a d k : Nat) : Int) := by simp [at_, pts, List.getD, h]
theorem asgs_self {q : Gd} (h : q.dims) (a : Nat) (d : Bool) : asgs (spots q) (pts q a d q.n) q.n = ord q a d q.n := by
  have hn := g_n h
  have s1 := h.2.2.2.2.2.1
  unfold asgs ord
  apply List.map_congr_left
  intro j hj
  have hj := List.mem_range.1 hj
  rw [spots_len]
  refine (asg_self (F := far (spots q) (pts q a d q.n)) (n := q.n) (m := q.n) (s := sq q.n a d) (fun k hk => sq_lt (by omega)) (fun i k hi hk e => sq_inj hi hk e) (fun k i hk hi hne => ?_) q.n (Nat.le_refl _)).2 j hj
  simp only [far, dist, Int.toNat_natCast]
  rw [pts_at hk, spots_at (sq_lt (by omega)), spots_at hi, d2_self]
  have h1 := apart (g := q) s1 (i := ((sq q.n a d k : Nat) : Int)) (k := (i : Int)) (by omega)
  have h2 : 0 < q.sp * q.sp := Int.mul_pos (by omega) (by omega)
  omega

end Go.Proofs.Ytoaakjkflcjkhaa

/- Walks: the smallest and the greatest parts of some vectors, by the program and by the reference. Conditions stand in each theorem. -/
import Derived.Test.YtjgfobknifobhaaVecR1
import Derived.Test.YtjgfobknifobhaaVecW2
import Derived.BigRegion
import Derived.ChangeAlike
namespace Go.Proofs.Ytjgfobknifobhaa
open Go.RowKit
set_option linter.unusedVariables false

instance : Inhabited V3 := ⟨⟨0, 0, 0⟩⟩
def at_ (l : List V3) (i : Nat) : V3 := l.getD i default
/-- The smallest and the greatest parts of the first vector and of the first k ones. -/
def lo (f : V3 → Int) (l : List V3) : Nat → Int
  | 0 => f (at_ l 0)
  | k + 1 => min (lo f l k) (f (at_ l k))
def hi (f : V3 → Int) (l : List V3) : Nat → Int
  | 0 => f (at_ l 0)
  | k + 1 => max (hi f l k) (f (at_ l k))

/-- The slice at b, o holds these vectors. -/
structure Row3 (w : World) (b o : Nat) (l : List V3) : Prop where
  old : old b w
  x : ∀ i, i < l.length → w.cell? ⟨b, o + i * 3, none⟩ = some (.int .i64 (at_ l i).x)
  y : ∀ i, i < l.length → w.cell? ⟨b, o + i * 3 + 1, none⟩ = some (.int .i64 (at_ l i).y)
  z : ∀ i, i < l.length → w.cell? ⟨b, o + i * 3 + 2, none⟩ = some (.int .i64 (at_ l i).z)

def okAt (l : List V3) (i : Nat) : Bool := vok (at_ l i).x (at_ l i).y (at_ l i).z

set_option maxHeartbeats 400000 in
theorem Box_nil (A : Option Addr) (cap : Nat) (w : World) : Calls Try.prog 30 #[.slice A 0 cap] w (RetB (.tuple #[.agg #[.int .i64 0, .int .i64 0, .int .i64 0], .agg #[.int .i64 0, .int .i64 0, .int .i64 0], .int .i64 9]) w) := by
  go_enter Try.func30, Try.ntmps30
  go_wp2_with fail
  go_rounds 1
  refine bodyPost_ret (v := .tuple #[.agg #[.int .i64 0, .int .i64 0, .int .i64 0], .agg #[.int .i64 0, .int .i64 0, .int .i64 0], .int .i64 9]) (by simp [results, Try.results30, go_sem]) rfl ?_
  exact RetB.of rfl (by repeat' (first | exact Below.refl _ _ | assumption | refine Below.xt ?_ ?_ _ | refine Below.alloc ?_ ?_ _ | refine Below.drew ?_ | refine Below.setCell ?_ ?_ _ | (simp; done) | (simp; omega)))

set_option maxHeartbeats 800000 in
theorem Box_bad (b o n cap : Nat) (l : List V3) (w : World) (hn : n = l.length) (hm : n ≤ 4294967296) (hr : Row3 w b o l) (hbad : ∃ i, i < n ∧ okAt l i = false) :
    Calls Try.prog 30 #[.slice (some ⟨b, o, none⟩) n cap] w (RetB (.tuple #[.agg #[.int .i64 0, .int .i64 0, .int .i64 0], .agg #[.int .i64 0, .int .i64 0, .int .i64 0], .int .i64 2]) w) := by
  have HN := Lib.hid hn
  have HR := Lib.hid hr
  have HB := Lib.hid hbad
  have hb := hr.old
  clear hn hr hbad
  go_enter Try.func30, Try.ntmps30
  go_wp2_with fail
  go_loopw [11] (fun i wr => ∃ (k : Nat) (g : Gr), k ≤ n ∧ Hid (∀ j, j < k → okAt l j = true) ∧ i = .int .i64 k ∧ wr = xt ((w.alloc (.cells #[.int .i64 0, .int .i64 0, .int .i64 0] 23)).alloc (.cells #[.int .i64 0, .int .i64 0, .int .i64 0] 23)) g) (fun i _ => n - (intOf i).toNat)
  case atStart => exact ⟨0, ⟨[], _⟩, by omega, fun j hj => absurd hj (by omega), rfl, (xt_self _).symm⟩
  case round =>
    obtain ⟨k, g, hk, HK, rfl, rfl⟩ := hrel
    by_cases hlt : k < n
    · have hx := HR.out.x k (HN.out ▸ hlt)
      have hy := HR.out.y k (HN.out ▸ hlt)
      have hz := HR.out.z k (HN.out ▸ hlt)
      have hs := fun (j : Nat) (hj : j < k + 1) (h : okAt l k = true) => show okAt l j = true from if e : j = k then e ▸ h else HK.out j (by omega)
      have HS := Lib.hid hs
      clear hs
      unfold okAt at HS
      generalize hv : at_ l k = v at *
      clear hv
      by_cases hok : vok v.x v.y v.z = true
      · have HO := Lib.hid hok
        go_wp2_with (first
          | (go_at_call 33; refine (RetB.grown (valid_any v.x v.y v.z _)).mono ?_; rintro e' w' ⟨rfl, g, rfl⟩)
          | (refine wp_region_xt (by kernel_rfl) (by kernel_rfl) ?_; (repeat (go_big_quiet_step (first | (go_at_call 33; exact RetB.quiet (valid_any v.x v.y v.z _))))); refine wpQuiet_nil ?_; intro g))
        go_roundw
        case rel => exact ⟨k + 1, _, by omega, fun j hj => HS.out j hj HO.out, by go_num, (Classical.choose_spec (xt_of_below (by repeat' (first | exact Below.refl _ _ | assumption | refine Below.xt ?_ ?_ _ | refine Below.alloc ?_ ?_ _ | refine Below.drew ?_ | refine Below.setCell ?_ ?_ _ | (simp; done) | (simp; omega)))))⟩
        case measure => simp [intOf]; omega
      · have hok' : vok v.x v.y v.z = false := by simpa using hok
        clear hok
        go_wp2_with (first
          | (go_at_call 33; refine (RetB.grown (valid_any v.x v.y v.z _)).mono ?_; rintro e' w' ⟨rfl, g, rfl⟩)
          | (refine wp_region_xt (by kernel_rfl) (by kernel_rfl) ?_; (repeat (go_big_quiet_step (first | (go_at_call 33; exact RetB.quiet (valid_any v.x v.y v.z _))))); refine wpQuiet_nil ?_; intro g))
        refine bodyPost_ret (v := .tuple #[.agg #[.int .i64 0, .int .i64 0, .int .i64 0], .agg #[.int .i64 0, .int .i64 0, .int .i64 0], .int .i64 2]) (by simp [results, Try.results30, go_sem]) rfl ?_
        exact RetB.of rfl (by repeat' (first | exact Below.refl _ _ | assumption | refine Below.xt ?_ ?_ _ | refine Below.alloc ?_ ?_ _ | refine Below.drew ?_ | refine Below.setCell ?_ ?_ _ | (simp; done) | (simp; omega)))
    · exfalso
      obtain ⟨j, hj, hf⟩ := HB.out
      have := HK.out j (by omega)
      rw [hf] at this
      cases this

set_option maxHeartbeats 1600000 in
theorem Box_ok (b o n cap : Nat) (l : List V3) (w : World) (hn : n = l.length) (h0 : 0 < n) (hm : n ≤ 4294967296) (hr : Row3 w b o l) (hok : ∀ i, i < n → okAt l i = true) :
    Calls Try.prog 30 #[.slice (some ⟨b, o, none⟩) n cap] w (RetB (.tuple #[.agg #[.int .i64 (lo V3.x l n), .int .i64 (lo V3.y l n), .int .i64 (lo V3.z l n)], .agg #[.int .i64 (hi V3.x l n), .int .i64 (hi V3.y l n), .int .i64 (hi V3.z l n)], .int .i64 0]) w) := by
  have HN := Lib.hid hn
  have HR := Lib.hid hr
  have HO := Lib.hid hok
  have hb := hr.old
  have x0 := hr.x 0 (by omega)
  have y0 := hr.y 0 (by omega)
  have z0 := hr.z 0 (by omega)
  clear hn hr hok
  go_enter Try.func30, Try.ntmps30
  go_wp2_with fail
  go_loopw [11] (fun i wr => ∃ (k : Nat) (g : Gr), k ≤ n ∧ i = .int .i64 k ∧ wr = xt ((w.alloc (.cells #[.int .i64 0, .int .i64 0, .int .i64 0] 23)).alloc (.cells #[.int .i64 0, .int .i64 0, .int .i64 0] 23)) g) (fun i _ => n - (intOf i).toNat)
  case atStart => exact ⟨0, ⟨[], _⟩, by omega, rfl, (xt_self _).symm⟩
  case round =>
    obtain ⟨k, g, hk, rfl, rfl⟩ := hrel
    by_cases hlt : k < n
    · have hx := HR.out.x k (HN.out ▸ hlt)
      have hy := HR.out.y k (HN.out ▸ hlt)
      have hz := HR.out.z k (HN.out ▸ hlt)
      have hv := HO.out k hlt
      unfold okAt at hv
      generalize hw : at_ l k = v at *
      clear hw x0 y0 z0
      go_wp2_with (first
        | (go_at_call 33; refine (RetB.grown (valid_any v.x v.y v.z _)).mono ?_; rintro e' w' ⟨rfl, g, rfl⟩)
        | (refine wp_region_xt (by kernel_rfl) (by kernel_rfl) ?_; (repeat (go_big_quiet_step (first | (go_at_call 33; exact RetB.quiet (valid_any v.x v.y v.z _))))); refine wpQuiet_nil ?_; intro g))
      go_roundw
      case rel => exact ⟨k + 1, _, by omega, by go_num, (Classical.choose_spec (xt_of_below (by repeat' (first | exact Below.refl _ _ | assumption | refine Below.xt ?_ ?_ _ | refine Below.alloc ?_ ?_ _ | refine Below.drew ?_ | refine Below.setCell ?_ ?_ _ | (simp; done) | (simp; omega)))))⟩
      case measure => simp [intOf]; omega
    · simp only [Nat.zero_mul, Nat.add_zero] at x0 y0 z0
      have hn0 : ((n : Int) == 0) = false := by simp; omega
      go_wp2_with fail
      go_region
      clear x0 y0 z0 hlt hk
      go_wp2_with fail
      go_loopw [34] (fun i wr => ∃ (k : Nat) (g : Gr), k ≤ n ∧ i = .int .i64 k ∧ wr = xt ((w.alloc (.cells #[.int .i64 (lo V3.x l k), .int .i64 (lo V3.y l k), .int .i64 (lo V3.z l k)] 23)).alloc (.cells #[.int .i64 (hi V3.x l k), .int .i64 (hi V3.y l k), .int .i64 (hi V3.z l k)] 23)) g) (fun i _ => n - (intOf i).toNat)
      case atStart => exact ⟨0, _, by omega, rfl, rfl⟩
      case round =>
        obtain ⟨k, g, hk, rfl, rfl⟩ := hrel
        by_cases hlt : k < n
        · have hx := HR.out.x k (HN.out ▸ hlt)
          have hy := HR.out.y k (HN.out ▸ hlt)
          have hz := HR.out.z k (HN.out ▸ hlt)
          go_wp2_with (first
            | (go_at_call 39; (with_reducible refine (RetB.grown (join_min _ _ _ _ _ _ _)).mono ?_); rintro e' w' ⟨rfl, g, rfl⟩)
            | (go_at_call 39; (with_reducible refine (RetB.grown (join_max _ _ _ _ _ _ _)).mono ?_); rintro e' w' ⟨rfl, g, rfl⟩)
            | (refine wp_region_xt (by kernel_rfl) (by kernel_rfl) ?_; (repeat (go_big_quiet_step (first | (go_at_call 39; (with_reducible exact RetB.quiet (join_min _ _ _ _ _ _ _))) | (go_at_call 39; (with_reducible exact RetB.quiet (join_max _ _ _ _ _ _ _)))))); refine wpQuiet_nil ?_; intro g))
          go_roundw
          case rel =>
            refine ⟨k + 1, ?_⟩
            simp only [lo, hi]
            exact ⟨_, by omega, by go_num, (Classical.choose_spec (xt_of_below (by repeat' (first | exact Below.refl _ _ | assumption | refine Below.xt ?_ ?_ _ | refine Below.alloc ?_ ?_ _ | refine Below.drew ?_ | refine Below.setCell ?_ ?_ _ | (simp; done) | (simp; omega)))))⟩
          case measure => simp [intOf]; omega
        · have e : k = n := by omega
          subst e
          go_wp2_with fail
          go_region
          go_wp2_with fail
          refine bodyPost_ret (v := .tuple #[.agg #[.int .i64 (lo V3.x l k), .int .i64 (lo V3.y l k), .int .i64 (lo V3.z l k)], .agg #[.int .i64 (hi V3.x l k), .int .i64 (hi V3.y l k), .int .i64 (hi V3.z l k)], .int .i64 0]) (by simp [results, Try.results30, go_sem]) rfl ?_
          exact RetB.of rfl (by repeat' (first | exact Below.refl _ _ | assumption | refine Below.xt ?_ ?_ _ | refine Below.alloc ?_ ?_ _ | refine Below.drew ?_ | refine Below.setCell ?_ ?_ _ | (simp; done) | (simp; omega)))

end Go.Proofs.Ytjgfobknifobhaa

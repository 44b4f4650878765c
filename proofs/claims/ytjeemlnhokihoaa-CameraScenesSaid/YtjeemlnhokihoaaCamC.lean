/- Walks of cameras, by the program: whether all vectors are points. Conditions stand in each theorem. -/
import Derived.Test.YtjeemlnhokihoaaCamW1
import Derived.Test.YtjeemlnhokihoaaSv
namespace Go.Proofs.Ytjeemlnhokihoaa
open Go.RowKit
set_option linter.unusedVariables false

def pointAt (l : List V3) (i : Nat) : Bool := pnt (at_ l i)

set_option maxHeartbeats 400000 in
theorem notPoint_cl (v : V3) (w : World) : Calls Try.prog 45 #[.agg #[.int .i64 v.x, .int .i64 v.y, .int .i64 v.z]] w (RetB (.bool (!pnt v)) w) := by
  go_enter Try.func45, Try.ntmps45
  go_wp2_with (first
    | (go_at_call 29; refine (RetB.grown (point_any _ _)).mono ?_; rintro e' w' ⟨rfl, g, rfl⟩)
    | (refine wp_region_xt (by kernel_rfl) (by kernel_rfl) ?_; (repeat (go_big_quiet_step (first | (go_at_call 29; exact RetB.quiet (point_any _ _))))); refine wpQuiet_nil ?_; intro g))
  go_ret
  exact RetB.of rfl (by repeat' (first | exact Below.refl _ _ | assumption | refine Below.xt ?_ ?_ _ | refine Below.alloc ?_ ?_ _ | refine Below.drew ?_ | refine Below.setCell ?_ ?_ _ | (simp; done) | (simp; omega)))

def IdxVal (p : Int → Prop) (w : World) (e : Ending) (w' : World) : Prop := ∃ k : Int, p k ∧ e = .returned (.int .i64 k) ∧ Below w.heap.size w w'

set_option maxHeartbeats 800000 in
theorem index_none (A : Option Addr) (n cap : Nat) (l : List V3) (w : World) (hn : n = l.length) (hm : n ≤ 4294967296) (hr : RowV w A l) (hp : ∀ i, i < n → pointAt l i = true) :
    Calls Try.prog 50 #[.slice A n cap, .func (.func 45) #[] #[]] w (RetB (.int .i64 (-1)) w) := by
  rcases Nat.eq_zero_or_pos n with h0 | h0
  · subst h0
    clear hn hr hp
    go_enter Try.func50, Try.ntmps50
    go_wp2_with fail
    go_rounds 1
    go_ret
    exact RetB.of rfl (by repeat' (first | exact Below.refl _ _ | assumption | refine Below.xt ?_ ?_ _ | refine Below.alloc ?_ ?_ _ | refine Below.drew ?_ | refine Below.setCell ?_ ?_ _ | (simp; done) | (simp; omega)))
  · obtain ⟨b, o, rfl, hb, hc⟩ := hr.at_ (by omega)
    have HN := Lib.hid hn
    have HC := Lib.hid hc
    have HP := Lib.hid hp
    clear hn hr hp hc
    go_enter Try.func50, Try.ntmps50
    go_wp2_with fail
    go_loopw [8] (fun i wr => ∃ (k : Nat) (g : Gr), k ≤ n ∧ i = .int .i64 k ∧ wr = xt w g) (fun i _ => n - (intOf i).toNat)
    case atStart => exact ⟨0, ⟨[], _⟩, by omega, rfl, (xt_self _).symm⟩
    case round =>
      obtain ⟨k, g, hk, rfl, rfl⟩ := hrel
      by_cases hlt : k < n
      · obtain ⟨hx, hy, hz⟩ := RowV.cells HC.out (HN.out ▸ hlt)
        have hv := HP.out k hlt
        unfold pointAt at hv
        generalize at_ l k = v at *
        go_wp2_with (first
          | (go_at_call 45; refine (RetB.grown (notPoint_cl v _)).mono ?_; rintro e' w' ⟨rfl, g, rfl⟩)
          | (refine wp_region_xt (by kernel_rfl) (by kernel_rfl) ?_; (repeat (go_big_quiet_step (first | (go_at_call 45; exact RetB.quiet (notPoint_cl v _))))); refine wpQuiet_nil ?_; intro g))
        go_roundw
        case rel => exact ⟨k + 1, _, by omega, by go_num, (Classical.choose_spec (xt_of_below (by repeat' (first | exact Below.refl _ _ | assumption | refine Below.xt ?_ ?_ _ | refine Below.alloc ?_ ?_ _ | refine Below.drew ?_ | refine Below.setCell ?_ ?_ _ | (simp; done) | (simp; omega)))))⟩
        case measure => simp [intOf]; omega
      · go_wp2_with fail
        go_ret
        exact RetB.of rfl (by repeat' (first | exact Below.refl _ _ | assumption | refine Below.xt ?_ ?_ _ | refine Below.alloc ?_ ?_ _ | refine Below.drew ?_ | refine Below.setCell ?_ ?_ _ | (simp; done) | (simp; omega)))

set_option maxHeartbeats 800000 in
theorem index_some (b o n cap : Nat) (l : List V3) (w : World) (hn : n = l.length) (hm : n ≤ 4294967296) (hr : RowV w (some ⟨b, o, none⟩) l) (hp : ∃ i, i < n ∧ pointAt l i = false) :
    Calls Try.prog 50 #[.slice (some ⟨b, o, none⟩) n cap, .func (.func 45) #[] #[]] w (IdxVal (0 ≤ ·) w) := by
  have h0 : 0 < n := by obtain ⟨i, hi, _⟩ := hp; omega
  obtain ⟨b', o', e, hb, hc⟩ := hr.at_ (by omega)
  injection e with e
  injection e with e1 e2
  subst e1 e2
  have HN := Lib.hid hn
  have HC := Lib.hid hc
  have HP := Lib.hid hp
  clear hn hr hp hc
  go_enter Try.func50, Try.ntmps50
  go_wp2_with fail
  go_loopw [8] (fun i wr => ∃ (k : Nat) (g : Gr), k ≤ n ∧ Hid (∀ j, j < k → pointAt l j = true) ∧ i = .int .i64 k ∧ wr = xt w g) (fun i _ => n - (intOf i).toNat)
  case atStart => exact ⟨0, ⟨[], _⟩, by omega, fun j hj => absurd hj (by omega), rfl, (xt_self _).symm⟩
  case round =>
    obtain ⟨k, g, hk, HK, rfl, rfl⟩ := hrel
    by_cases hlt : k < n
    · obtain ⟨hx, hy, hz⟩ := RowV.cells HC.out (HN.out ▸ hlt)
      have hs := fun (j : Nat) (hj : j < k + 1) (h : pointAt l k = true) => show pointAt l j = true from if e : j = k then e ▸ h else HK.out j (by omega)
      have HS := Lib.hid hs
      clear hs
      have hpa : pointAt l k = pnt (at_ l k) := rfl
      rw [hpa] at HS
      clear hpa
      generalize at_ l k = v at *
      by_cases hok : pnt v = true
      · have HO := Lib.hid hok
        go_wp2_with (first
          | (go_at_call 45; refine (RetB.grown (notPoint_cl v _)).mono ?_; rintro e' w' ⟨rfl, g, rfl⟩)
          | (refine wp_region_xt (by kernel_rfl) (by kernel_rfl) ?_; (repeat (go_big_quiet_step (first | (go_at_call 45; exact RetB.quiet (notPoint_cl v _))))); refine wpQuiet_nil ?_; intro g))
        go_roundw
        case rel => exact ⟨k + 1, _, by omega, fun j hj => HS.out j hj HO.out, by go_num, (Classical.choose_spec (xt_of_below (by repeat' (first | exact Below.refl _ _ | assumption | refine Below.xt ?_ ?_ _ | refine Below.alloc ?_ ?_ _ | refine Below.drew ?_ | refine Below.setCell ?_ ?_ _ | (simp; done) | (simp; omega)))))⟩
        case measure => simp [intOf]; omega
      · have hok' : pnt v = false := by simpa using hok
        clear hok
        go_wp2_with (first
          | (go_at_call 45; refine (RetB.grown (notPoint_cl v _)).mono ?_; rintro e' w' ⟨rfl, g, rfl⟩)
          | (refine wp_region_xt (by kernel_rfl) (by kernel_rfl) ?_; (repeat (go_big_quiet_step (first | (go_at_call 45; exact RetB.quiet (notPoint_cl v _))))); refine wpQuiet_nil ?_; intro g))
        go_ret
        exact ⟨k, by omega, rfl, (by repeat' (first | exact Below.refl _ _ | assumption | refine Below.xt ?_ ?_ _ | refine Below.alloc ?_ ?_ _ | refine Below.drew ?_ | refine Below.setCell ?_ ?_ _ | (simp; done) | (simp; omega)))⟩
    · exfalso
      obtain ⟨j, hj, hf⟩ := HP.out
      have := HK.out j (by omega)
      rw [hf] at this
      cases this

set_option maxHeartbeats 400000 in
theorem contains_no (A : Option Addr) (n cap : Nat) (l : List V3) (w : World) (hn : n = l.length) (hm : n ≤ 4294967296) (hr : RowV w A l) (hp : ∀ i, i < n → pointAt l i = true) :
    Calls Try.prog 44 #[.slice A n cap, .func (.func 45) #[] #[]] w (RetB (.bool false) w) := by
  have C1 := Lib.hid (index_none A n cap l w hn hm hr hp)
  clear hn hr hp
  go_enter Try.func44, Try.ntmps44
  go_wp2_with (first
    | (go_at_call 50; refine (RetB.grown (C1.out)).mono ?_; rintro e' w' ⟨rfl, g, rfl⟩)
    | (refine wp_region_xt (by kernel_rfl) (by kernel_rfl) ?_; (repeat (go_big_quiet_step (first | (go_at_call 50; exact RetB.quiet (C1.out))))); refine wpQuiet_nil ?_; intro g))
  go_ret
  exact RetB.of rfl (by repeat' (first | exact Below.refl _ _ | assumption | refine Below.xt ?_ ?_ _ | refine Below.alloc ?_ ?_ _ | refine Below.drew ?_ | refine Below.setCell ?_ ?_ _ | (simp; done) | (simp; omega)))
set_option maxHeartbeats 400000 in
theorem contains_yes (b o n cap : Nat) (l : List V3) (w : World) (hn : n = l.length) (hm : n ≤ 4294967296) (hr : RowV w (some ⟨b, o, none⟩) l) (hp : ∃ i, i < n ∧ pointAt l i = false) :
    Calls Try.prog 44 #[.slice (some ⟨b, o, none⟩) n cap, .func (.func 45) #[] #[]] w (RetB (.bool true) w) := by
  have C1 := Lib.hid (index_some b o n cap l w hn hm hr hp)
  clear hn hr hp
  go_enter Try.func44, Try.ntmps44
  go_wp2_with fail
  refine C1.out.mono ?_
  rintro e w' ⟨k, hk, rfl, hb⟩
  obtain ⟨g, rfl⟩ := xt_of_below hb
  go_wp2_with fail
  go_ret
  exact RetB.of rfl (by repeat' (first | exact Below.refl _ _ | assumption | refine Below.xt ?_ ?_ _ | refine Below.alloc ?_ ?_ _ | refine Below.drew ?_ | refine Below.setCell ?_ ?_ _ | (simp; done) | (simp; omega)))

end Go.Proofs.Ytjeemlnhokihoaa


/- Walks: the last cue of a group, by the reference. Conditions stand in each theorem. -/
import Derived.Test.YtiikejhkhdmgeaaGreatLigR1
namespace Go.Proofs.YtiikejhkhdmgeaaGreat
open Go.RowKit
set_option linter.unusedVariables false
set_option linter.unusedSimpArgs false

theorem lastT_step {cs : List Cu} {x : ByteArray} {t : Int} {k : Nat} :
    ((cu cs k).g = x → (cu cs k).t ≤ t → lastT cs x t (k + 1) = (cu cs k).t) ∧ (¬ ((cu cs k).g = x ∧ (cu cs k).t ≤ t) → lastT cs x t (k + 1) = lastT cs x t k) :=
  ⟨fun h1 h2 => by rw [lastT, if_pos ⟨h1, h2⟩], fun h => by rw [lastT, if_neg h]⟩

set_option maxRecDepth 100000 in
set_option maxHeartbeats 1600000 in
theorem rlast_any (A1 A2 A3 : Option Addr) (c1 c2 c3 : Nat) (L : Li) (x : ByteArray) (t : Int) (w : World) (hn : L.cs.length ≤ 4294967296) (hr : RowU w A2 L.cs) :
    Calls Tryz.prog 39 #[.agg #[.slice A1 L.nG c1, .slice A2 L.cs.length c2, .slice A3 L.os.length c3], .string x, .int .i64 t] w (RetB (.int .i64 (lst L.cs x t)) w) := by
  rcases Nat.eq_zero_or_pos L.cs.length with hz | hz
  · have E := Lib.hid (show -1 = lst L.cs x t by rw [lst, hz]; rfl)
    clear hr
    generalize lst L.cs x t = R at *
    generalize L.cs.length = n at *
    subst hz
    clear hn
    go_enter Tryz.func39, Tryz.ntmps39
    go_wp2_with fail
    go_rounds 1
    go_ret
    exact RetB.of (int_eq E.out) (by repeat' (first | exact Below.refl _ _ | assumption | refine Below.xt ?_ ?_ _ | refine Below.alloc ?_ ?_ _ | refine Below.drew ?_ | refine Below.setCell ?_ ?_ _ | (simp; done) | (simp; omega)))
  · obtain ⟨b, o, rfl, hb, hc⟩ := Row.at_ hr hz
    have HC := Lib.hid fun k hk => RowU.cells hc (i := k) hk
    clear hr hc
    go_enter Tryz.func39, Tryz.ntmps39
    go_wp2_with fail
    go_loopw [7, 8] (fun u7 i wr => ∃ (k : Nat) (g : Gr), k ≤ L.cs.length ∧ u7 = .int .i64 (lastT L.cs x t k) ∧ i = .int .i64 k ∧ wr = xt (w.alloc (.cells #[.slice A1 L.nG c1, .slice (some ⟨b, o, none⟩) L.cs.length c2, .slice A3 L.os.length c3] 26)) g) (fun _ i _ => L.cs.length - (intOf i).toNat)
    case atStart => exact ⟨0, ⟨[], _⟩, by omega, rfl, rfl, (xt_self _).symm⟩
    case round =>
      obtain ⟨k, g, hk, rfl, rfl, rfl⟩ := hrel
      by_cases hlt : k < L.cs.length
      · obtain ⟨x0, x1, x2, x3, x4, x5⟩ := HC.out k hlt
        have HS := Lib.hid (lastT_step (cs := L.cs) (x := x) (t := t) (k := k))
        generalize cu L.cs k = v at *
        by_cases he : v.g = x
        · have e1 : (v.g.toList == x.toList) = true := by rw [beq_str]; simpa using he
          by_cases h2 : v.t ≤ t
          · have E := Lib.hid (HS.out.1 he h2)
            clear he HS
            go_wp2_with fail
            go_roundw
            case rel => exact ⟨k + 1, _, by omega, by rw [E.out], by go_num, (Classical.choose_spec (xt_of_below (by repeat' (first | exact Below.refl _ _ | assumption | refine Below.xt ?_ ?_ _ | refine Below.alloc ?_ ?_ _ | refine Below.drew ?_ | refine Below.setCell ?_ ?_ _ | (simp; done) | (simp; omega)))))⟩
            case measure => simp [intOf]; omega
          · have E := Lib.hid (HS.out.2 (fun h => h2 h.2))
            have d2 : decide (v.t ≤ t) = false := by simpa using h2
            clear he HS
            go_wp2_with fail
            go_roundw
            case rel => exact ⟨k + 1, _, by omega, by rw [E.out], by go_num, (Classical.choose_spec (xt_of_below (by repeat' (first | exact Below.refl _ _ | assumption | refine Below.xt ?_ ?_ _ | refine Below.alloc ?_ ?_ _ | refine Below.drew ?_ | refine Below.setCell ?_ ?_ _ | (simp; done) | (simp; omega)))))⟩
            case measure => simp [intOf]; omega
        · have e1 : (v.g.toList == x.toList) = false := by rw [beq_str]; simpa using he
          have E := Lib.hid (HS.out.2 (fun h => he h.1))
          clear he HS
          go_wp2_with fail
          go_roundw
          case rel => exact ⟨k + 1, _, by omega, by rw [E.out], by go_num, (Classical.choose_spec (xt_of_below (by repeat' (first | exact Below.refl _ _ | assumption | refine Below.xt ?_ ?_ _ | refine Below.alloc ?_ ?_ _ | refine Below.drew ?_ | refine Below.setCell ?_ ?_ _ | (simp; done) | (simp; omega)))))⟩
          case measure => simp [intOf]; omega
      · have E := Lib.hid (show lastT L.cs x t k = lst L.cs x t by rw [lst]; congr 1; omega)
        go_wp2_with fail
        go_ret
        exact RetB.of (int_eq E.out) (by repeat' (first | exact Below.refl _ _ | assumption | refine Below.xt ?_ ?_ _ | refine Below.alloc ?_ ?_ _ | refine Below.drew ?_ | refine Below.setCell ?_ ?_ _ | (simp; done) | (simp; omega)))

end Go.Proofs.YtiikejhkhdmgeaaGreat

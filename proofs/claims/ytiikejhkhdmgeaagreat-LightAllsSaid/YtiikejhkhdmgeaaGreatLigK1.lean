
/- Walks of the statements: which lights are small; the lights of the examples. Conditions stand in each theorem. -/
import Derived.Test.YtiikejhkhdmgeaaGreatLigV
import Derived.Test.YtiikejhkhdmgeaaGreatMemR
import Derived.Test.YtiikejhkhdmgeaaGreatLigL2
import Derived.IntWalk
namespace Go.Proofs.YtiikejhkhdmgeaaGreat
open Go.RowKit
set_option linter.unusedVariables false
set_option linter.unusedSimpArgs false
attribute [local go_sem ↓] ldr16 ldr18

/-- What the statements ask before they look. -/
def SmallRet (L : Li) (w : World) (e : Ending) (w' : World) : Prop := ∃ v : Bool, e = .returned (.bool v) ∧ Below w.heap.size w w' ∧ (v = true → L.nG ≤ 70 ∧ L.cs.length ≤ 40 ∧ L.os.length ≤ 70 ∧ ∀ i, i < L.nG → (L.G i).length ≤ 20)
theorem SmallRet.no {L : Li} {w w' : World} (h : Below w.heap.size w w') : SmallRet L w (.returned (.bool false)) w' := ⟨false, rfl, h, fun h => by cases h⟩

set_option maxRecDepth 100000 in
set_option maxHeartbeats 6400000 in
theorem small_any (A1 A2 A3 : Option Addr) (c1 c2 c3 : Nat) (L : Li) (w : World) (h1 : L.nG ≤ maxLen) (h2 : L.cs.length ≤ maxLen) (h3 : L.os.length ≤ maxLen) (hg : ∀ i, i < L.nG → (L.G i).length ≤ maxLen ∧ fineN (L.G i)) (hu : fineU L.cs) (ho : fineO L.os) (hr : RowL w A1 A2 A3 L) :
    Calls Tryz.prog 4 #[.agg #[.slice A1 L.nG c1, .slice A2 L.cs.length c2, .slice A3 L.os.length c3]] w (SmallRet L w) := by
  unfold maxLen at h1 h2 h3
  by_cases hc : L.nG ≤ 70 ∧ L.cs.length ≤ 40 ∧ L.os.length ≤ 70
  · obtain ⟨q1, q2, q3⟩ := hc
    have HR := Lib.hid hr
    have HN := Lib.hid hg
    have HU := Lib.hid hu
    have HO := Lib.hid ho
    clear hr hg hu ho h1 h2 h3
    go_enter Tryz.func4, Tryz.ntmps4
    go_wp2_with fail
    go_loopw [3] (fun i wr => ∃ (n : Nat) (g : Gr), n ≤ L.nG ∧ Hid (∀ q, q < n → (L.G q).length ≤ 20) ∧ i = .int .i64 n ∧ wr = xt (w.alloc (.cells #[.slice A1 L.nG c1, .slice A2 L.cs.length c2, .slice A3 L.os.length c3] 26)) g) (fun i _ => L.nG - (intOf i).toNat)
    case atStart => exact ⟨0, ⟨[], _⟩, by omega, Lib.hid fun q hq => absurd hq (by omega), rfl, (xt_self _).symm⟩
    case round =>
      obtain ⟨n, g, hn, HP, rfl, rfl⟩ := hrel
      by_cases hlt : n < L.nG
      · obtain ⟨b, o, rfl, hb, hc⟩ := HR.out.g.top (by omega)
        obtain ⟨Ai, ci, x0, hrow⟩ := hc n hlt
        obtain ⟨hl, hsz⟩ := HN.out n hlt
        have HSZ := Lib.hid hsz
        have HROW := Lib.hid hrow
        have HS := Lib.hid (show (L.G n).length ≤ 20 → ∀ q, q < n + 1 → (L.G q).length ≤ 20 from fun h q hq => if e : q = n then e ▸ h else HP.out q (by omega))
        unfold maxLen at hl
        clear hsz hrow HP hc
        generalize L.G n = G at *
        by_cases h20 : 20 < G.length
        · clear HS
          go_wp2_with fail
          go_ret
          exact SmallRet.no (by repeat' (first | exact Below.refl _ _ | assumption | refine Below.xt ?_ ?_ _ | refine Below.alloc ?_ ?_ _ | refine Below.drew ?_ | refine Below.setCell ?_ ?_ _ | (simp; done) | (simp; omega)))
        · have E := Lib.hid (HS.out (by omega))
          clear HS
          rcases Nat.eq_zero_or_pos G.length with hz | hz
          · have HZ := Lib.hid hz
            rw [HZ.out] at x0
            clear hz h20 hl HZ
            go_wp2_with fail
            go_rounds 1
            go_roundw
            case rel => exact ⟨n + 1, _, by omega, E, by go_num, (Classical.choose_spec (xt_of_below (by repeat' (first | exact Below.refl _ _ | assumption | refine Below.xt ?_ ?_ _ | refine Below.alloc ?_ ?_ _ | refine Below.drew ?_ | refine Below.setCell ?_ ?_ _ | (simp; done) | (simp; omega)))))⟩
            case measure => simp [intOf]; omega
          · obtain ⟨bi, oi, rfl, hbi, hci⟩ := RowN.at_ HROW.out hz
            have HCI := Lib.hid hci
            clear hci
            go_wp2_with fail
            go_loopw [4] (fun i wr => ∃ (k : Nat) (g : Gr), k ≤ G.length ∧ i = .int .i64 k ∧ wr = xt (w.alloc (.cells #[.slice (some ⟨b, o, none⟩) L.nG c1, .slice A2 L.cs.length c2, .slice A3 L.os.length c3] 26)) g) (fun i _ => G.length - (intOf i).toNat)
            case atStart => exact ⟨0, g, by omega, rfl, rfl⟩
            case round =>
              obtain ⟨k, g, hk, rfl, rfl⟩ := hrel
              by_cases hkl : k < G.length
              · have y0 := HCI.out k hkl
                have hs := HSZ.out k hkl
                unfold maxLen at hs
                generalize nm G k = s at *
                by_cases h100 : 100 < s.size
                · go_wp2_with fail
                  go_ret
                  exact SmallRet.no (by repeat' (first | exact Below.refl _ _ | assumption | refine Below.xt ?_ ?_ _ | refine Below.alloc ?_ ?_ _ | refine Below.drew ?_ | refine Below.setCell ?_ ?_ _ | (simp; done) | (simp; omega)))
                · go_wp2_with fail
                  go_roundw
                  case rel => exact ⟨k + 1, _, by omega, by go_num, (Classical.choose_spec (xt_of_below (by repeat' (first | exact Below.refl _ _ | assumption | refine Below.xt ?_ ?_ _ | refine Below.alloc ?_ ?_ _ | refine Below.drew ?_ | refine Below.setCell ?_ ?_ _ | (simp; done) | (simp; omega)))))⟩
                  case measure => simp [intOf]; omega
              · go_wp2_with fail
                go_roundw
                case rel => exact ⟨n + 1, _, by omega, E, by go_num, (Classical.choose_spec (xt_of_below (by repeat' (first | exact Below.refl _ _ | assumption | refine Below.xt ?_ ?_ _ | refine Below.alloc ?_ ?_ _ | refine Below.drew ?_ | refine Below.setCell ?_ ?_ _ | (simp; done) | (simp; omega)))))⟩
                case measure => simp [intOf]; omega
      · obtain rfl : n = L.nG := by omega
        go_wp2_with fail
        go_loopw [5] (fun i wr => ∃ (k : Nat) (g : Gr), k ≤ L.cs.length ∧ i = .int .i64 k ∧ wr = xt (w.alloc (.cells #[.slice A1 L.nG c1, .slice A2 L.cs.length c2, .slice A3 L.os.length c3] 26)) g) (fun i _ => L.cs.length - (intOf i).toNat)
        case atStart => exact ⟨0, g, by omega, rfl, rfl⟩
        case round =>
          obtain ⟨k, g, hk, rfl, rfl⟩ := hrel
          by_cases hkl : k < L.cs.length
          · obtain ⟨b, o, rfl, hb, hc⟩ := Row.at_ HR.out.u (by omega)
            obtain ⟨x0, x1, x2, x3, x4, x5⟩ := RowU.cells hc hkl
            have hs := (HU.out k hkl).1
            unfold maxLen at hs
            clear hc
            generalize cu L.cs k = v at *
            by_cases h100 : 100 < v.g.size
            · go_wp2_with fail
              go_ret
              exact SmallRet.no (by repeat' (first | exact Below.refl _ _ | assumption | refine Below.xt ?_ ?_ _ | refine Below.alloc ?_ ?_ _ | refine Below.drew ?_ | refine Below.setCell ?_ ?_ _ | (simp; done) | (simp; omega)))
            · go_wp2_with fail
              go_roundw
              case rel => exact ⟨k + 1, _, by omega, by go_num, (Classical.choose_spec (xt_of_below (by repeat' (first | exact Below.refl _ _ | assumption | refine Below.xt ?_ ?_ _ | refine Below.alloc ?_ ?_ _ | refine Below.drew ?_ | refine Below.setCell ?_ ?_ _ | (simp; done) | (simp; omega)))))⟩
              case measure => simp [intOf]; omega
          · go_wp2_with fail
            go_loopw [6] (fun i wr => ∃ (k : Nat) (g : Gr), k ≤ L.os.length ∧ i = .int .i64 k ∧ wr = xt (w.alloc (.cells #[.slice A1 L.nG c1, .slice A2 L.cs.length c2, .slice A3 L.os.length c3] 26)) g) (fun i _ => L.os.length - (intOf i).toNat)
            case atStart => exact ⟨0, g, by omega, rfl, rfl⟩
            case round =>
              obtain ⟨k, g, hk, rfl, rfl⟩ := hrel
              by_cases hkl : k < L.os.length
              · obtain ⟨b, o, rfl, hb, hc⟩ := Row.at_ HR.out.o (by omega)
                have x0 := (RowO.cells hc hkl).1
                have hs := (HO.out k hkl).1
                unfold maxLen at hs
                clear hc
                generalize ov L.os k = v at *
                by_cases h100 : 100 < v.g.size
                · go_wp2_with fail
                  go_ret
                  exact SmallRet.no (by repeat' (first | exact Below.refl _ _ | assumption | refine Below.xt ?_ ?_ _ | refine Below.alloc ?_ ?_ _ | refine Below.drew ?_ | refine Below.setCell ?_ ?_ _ | (simp; done) | (simp; omega)))
                · go_wp2_with fail
                  go_roundw
                  case rel => exact ⟨k + 1, _, by omega, by go_num, (Classical.choose_spec (xt_of_below (by repeat' (first | exact Below.refl _ _ | assumption | refine Below.xt ?_ ?_ _ | refine Below.alloc ?_ ?_ _ | refine Below.drew ?_ | refine Below.setCell ?_ ?_ _ | (simp; done) | (simp; omega)))))⟩
                  case measure => simp [intOf]; omega
              · go_wp2_with fail
                go_ret
                exact ⟨true, rfl, (by repeat' (first | exact Below.refl _ _ | assumption | refine Below.xt ?_ ?_ _ | refine Below.alloc ?_ ?_ _ | refine Below.drew ?_ | refine Below.setCell ?_ ?_ _ | (simp; done) | (simp; omega))), fun _ => ⟨q1, q2, q3, HP.out⟩⟩
  · clear hr hg hu ho
    by_cases q1 : L.nG ≤ 70
    · by_cases q2 : L.cs.length ≤ 40
      · have q3 : 70 < L.os.length := by omega
        clear hc
        go_enter Tryz.func4, Tryz.ntmps4
        go_wp2_with fail
        go_ret
        exact SmallRet.no (by repeat' (first | exact Below.refl _ _ | assumption | refine Below.xt ?_ ?_ _ | refine Below.alloc ?_ ?_ _ | refine Below.drew ?_ | refine Below.setCell ?_ ?_ _ | (simp; done) | (simp; omega)))
      · clear hc
        go_enter Tryz.func4, Tryz.ntmps4
        go_wp2_with fail
        go_ret
        exact SmallRet.no (by repeat' (first | exact Below.refl _ _ | assumption | refine Below.xt ?_ ?_ _ | refine Below.alloc ?_ ?_ _ | refine Below.drew ?_ | refine Below.setCell ?_ ?_ _ | (simp; done) | (simp; omega)))
    · clear hc
      go_enter Tryz.func4, Tryz.ntmps4
      go_wp2_with fail
      go_ret
      exact SmallRet.no (by repeat' (first | exact Below.refl _ _ | assumption | refine Below.xt ?_ ?_ _ | refine Below.alloc ?_ ?_ _ | refine Below.drew ?_ | refine Below.setCell ?_ ?_ _ | (simp; done) | (simp; omega)))

end Go.Proofs.YtiikejhkhdmgeaaGreat

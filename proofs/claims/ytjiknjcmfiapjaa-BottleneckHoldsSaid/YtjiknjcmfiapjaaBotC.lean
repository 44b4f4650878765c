
/- Walks: the costs of an assignment, and the best of all that begin with some columns, by the reference. Conditions stand in each theorem. -/
import Derived.Test.YtjiknjcmfiapjaaBotL
import Derived.Test.YtjiknjcmfiapjaaBotW3
namespace Go.Proofs.Ytjiknjcmfiapjaa
open Go.RowKit
set_option linter.unusedVariables false
set_option linter.unusedSimpArgs false

set_option maxHeartbeats 1600000 in
theorem rCosts_any (A L : Option Addr) (n cap m c : Nat) (G : Nat → List Int) (l : List Int) (w : World) (hG : GRow w A n G) (hC : Cst G n) (hm : m = n) (hl : colsB l n = true) (hr : RowI w L l) :
    Calls Try.prog 15 #[.slice A n cap, .slice L m c] w (RetB (.tuple #[.int .i64 (mstC G l n), .int .i64 (sumC G l n)]) w) := by
  subst hm
  have hn1 := hC.pos
  have hn2 := hC.le
  have hll := (colsB_iff.1 hl).2
  obtain ⟨gb, go, rfl, hgo, hgc⟩ := hG.top (by omega)
  obtain ⟨lb, lo, rfl, hlo, hlc⟩ := RowI.at_ hr (by omega)
  have HGC := Lib.hid hgc
  have HLC := Lib.hid hlc
  have HC := Lib.hid hC
  have HL := Lib.hid (colsB_iff.1 hl).1
  have HLL := Lib.hid hll
  clear hG hC hl hr hgc hlc hll
  go_enter Try.func15, Try.ntmps15
  go_wp2_with fail
  go_loopw [6, 7, 8] (fun s t i wr => ∃ (k : Nat) (g : Gr), k ≤ m ∧ i = .int .i64 k ∧ s = .int .i64 (mstC G l k) ∧ t = .int .i64 (sumC G l k) ∧ wr = xt w g) (fun _ _ i _ => m - (intOf i).toNat)
  case atStart => exact ⟨0, _, by omega, rfl, rfl, rfl, (xt_self _).symm⟩
  case round =>
    obtain ⟨k, g, hk, rfl, rfl, rfl, rfl⟩ := hrel
    by_cases hlt : k < m
    · have hl1 := HLC.out k (by rw [HLL.out]; exact hlt)
      obtain ⟨y0, y1, _⟩ := colAt_iff.1 (HL.out k hlt)
      obtain ⟨y, hy⟩ : ∃ y : Nat, l.getD k 0 = (y : Int) := ⟨(l.getD k 0).toNat, by omega⟩
      rw [hy] at hl1
      have hyn : y < m := by omega
      have hyc : (l.getD k 0).toNat = y := by omega
      obtain ⟨Ai, ci, hgi, hrow⟩ := HGC.out k hlt
      have hlr := HC.out.len k hlt
      obtain ⟨qb, qo, rfl, hqo, hqc⟩ := RowI.at_ hrow (by omega)
      have hx := hqc y (by omega)
      rw [hlr] at hgi
      have hb := HC.out.c hlt hyn
      unfold cst at hb
      have mb := mstC_bd HC.out k (by omega) (fun j hj => HL.out j (by omega))
      have sb := sumC_bd HC.out k (by omega) (fun j hj => HL.out j (by omega))
      have HS := Lib.hid (show sumC G l (k + 1) = sumC G l k + (G k).getD y 0 by rw [sumC, hyc]; rfl)
      have HM := Lib.hid (show mstC G l (k + 1) = max (mstC G l k) ((G k).getD y 0) by rw [mstC, hyc]; rfl)
      generalize (G k).getD y 0 = x at *
      generalize mstC G l k = M at *
      generalize sumC G l k = S at *
      have sb2 : 0 ≤ S ∧ S ≤ 64 * 17592186044416 := by omega
      obtain ⟨sb3, sb4⟩ := sb2
      clear hy y0 y1 hyc hqc hrow hlr sb
      by_cases hxm : M < x
      · have d1 : decide (M < x) = true := by simpa using hxm
        have HM2 := Lib.hid (show mstC G l (k + 1) = x by rw [HM.out]; omega)
        clear HM
        go_wp2_with (first
          | (refine wp_region_xt (by kernel_rfl) (by kernel_rfl) ?_; (repeat (go_big_quiet_step (first | fail))); refine wpQuiet_nil ?_; intro g))
        go_roundw
        case rel => exact ⟨k + 1, _, by omega, by go_num, by rw [HM2.out], by rw [HS.out], xt_xt _ _ _⟩
        case measure => simp [intOf]; omega
      · have d1 : decide (M < x) = false := by simpa using hxm
        have HM2 := Lib.hid (show mstC G l (k + 1) = M by rw [HM.out]; omega)
        clear HM
        go_wp2_with (first
          | (refine wp_region_xt (by kernel_rfl) (by kernel_rfl) ?_; (repeat (go_big_quiet_step (first | fail))); refine wpQuiet_nil ?_; intro g))
        go_roundw
        case rel => exact ⟨k + 1, _, by omega, by go_num, by rw [HM2.out], by rw [HS.out], xt_xt _ _ _⟩
        case measure => simp [intOf]; omega
    · obtain rfl : m = k := by omega
      go_wp2_with fail
      go_ret2
      exact ⟨rfl, (by repeat' (first | exact Below.refl _ _ | assumption | refine Below.xt ?_ ?_ _ | refine Below.alloc ?_ ?_ _ | refine Below.drew ?_ | refine Below.setCell ?_ ?_ _ | (simp; done) | (simp; omega)))⟩
end Go.Proofs.Ytjiknjcmfiapjaa


/- Walks of the statements: the lights of the examples. Conditions stand in each theorem. -/
import Derived.Test.YtiikejhkhdmgeaaGreatLigL5
import Derived.Test.YtiikejhkhdmgeaaGreatLigK1
namespace Go.Proofs.YtiikejhkhdmgeaaGreat
open Go.RowKit
set_option linter.unusedVariables false
set_option linter.unusedSimpArgs false

def bA : ByteArray := ⟨#[97]⟩
def bB : ByteArray := ⟨#[98]⟩
def Ls : Li := ⟨2, fun i => if i = 0 then [bA, bB] else [bB], [⟨1000, 0, bA, ⟨255, 0, 0⟩⟩, ⟨2000, 0, bB, ⟨0, 255, 0⟩⟩], [⟨bA, 5, ⟨2, 3000, 4000, 100, 100, ⟨1, 0, 0⟩, 1, 0, ⟨0, 0, 0⟩, ⟨0, 0, 255⟩⟩⟩]⟩
/-- The call returns the lights of the examples. -/
def SampleRet (w : World) (e : Ending) (w' : World) : Prop := ∃ A1 c1 A2 c2 A3 c3, e = .returned (.agg #[.slice A1 2 c1, .slice A2 2 c2, .slice A3 1 c3]) ∧ Below w.heap.size w w' ∧ RowL w' A1 A2 A3 Ls
set_option maxRecDepth 100000 in
set_option maxHeartbeats 1600000 in
theorem sample_any (w : World) : Calls Tryz.prog 12 #[] w (SampleRet w) := by
  go_enter Tryz.func12, Tryz.ntmps12
  go_wp2
  refine bodyPost_ret (v := .agg #[.slice (some ⟨w.heap.size + 1 + 1 + 1, 0, none⟩) 2 2, .slice (some ⟨w.heap.size + 1 + 1 + 1 + 1, 0, none⟩) 2 2, .slice (some ⟨w.heap.size + 1 + 1 + 1 + 1 + 1, 0, none⟩) 1 1]) (by simp [results, Tryz.results12, go_sem]) rfl ?_
  refine ⟨_, _, _, _, _, _, rfl, (by repeat' (first | exact Below.refl _ _ | assumption | refine Below.xt ?_ ?_ _ | refine Below.alloc ?_ ?_ _ | refine Below.drew ?_ | refine Below.setCell ?_ ?_ _ | (simp; done) | (simp; omega))), ⟨?_, ?_, ?_⟩⟩
  · refine RowG.alloc (RowG.alloc ⟨fun _ => ⟨_, 0, rfl, old_of (by simp), fun i hi => ?_⟩⟩ _) _
    have : i = 0 ∨ i = 1 := by simp [Ls] at hi; omega
    rcases this with rfl | rfl
    · refine ⟨some ⟨w.heap.size + 1, 0, none⟩, 2, ?_, RowN.alloc (RowN.alloc (Row.made (by simp) fun i j hi hj => ?_) _) _⟩
      · rw [World.cell?_alloc_at _ _ _ _ (by simp)]; rfl
      · have : i = 0 ∨ i = 1 := by simp [Ls] at hi; omega
        have hj : j = 0 := by omega
        subst hj
        rcases this with rfl | rfl <;> rfl
    · refine ⟨some ⟨w.heap.size + 1 + 1, 0, none⟩, 1, ?_, RowN.alloc (Row.made (by simp) fun i j hi hj => ?_) _⟩
      · rw [World.cell?_alloc_at _ _ _ _ (by simp)]; rfl
      · have : i = 0 := by simp [Ls] at hi; omega
        have hj : j = 0 := by omega
        subst hj this
        rfl
  · refine RowU.alloc (Row.made (by simp) fun i j hi hj => ?_) _
    have : i = 0 ∨ i = 1 := by simp [Ls] at hi; omega
    have hj : j = 0 ∨ j = 1 ∨ j = 2 ∨ j = 3 ∨ j = 4 ∨ j = 5 := by omega
    rcases this with rfl | rfl <;> rcases hj with rfl | rfl | rfl | rfl | rfl | rfl <;> rfl
  · refine Row.made (by simp) fun i j hi hj => ?_
    have : i = 0 := by simp [Ls] at hi; omega
    subst this
    have hj : j = 0 ∨ j = 1 ∨ j = 2 ∨ j = 3 ∨ j = 4 ∨ j = 5 ∨ j = 6 ∨ j = 7 ∨ j = 8 ∨ j = 9 ∨ j = 10 ∨ j = 11 ∨ j = 12 ∨ j = 13 ∨ j = 14 ∨ j = 15 ∨ j = 16 ∨ j = 17 := by omega
    rcases hj with rfl | rfl | rfl | rfl | rfl | rfl | rfl | rfl | rfl | rfl | rfl | rfl | rfl | rfl | rfl | rfl | rfl | rfl <;> rfl

theorem fineLs : FineL Ls where
  n := by decide
  gs := fun i hi => by
    have : i = 0 ∨ i = 1 := by simp [Ls] at hi; omega
    rcases this with rfl | rfl
    · refine ⟨by decide, fun k hk => ?_⟩
      have : k = 0 ∨ k = 1 := by simp [Ls] at hk; omega
      rcases this with rfl | rfl <;> (unfold maxLen; decide)
    · refine ⟨by decide, fun k hk => ?_⟩
      have : k = 0 := by simp [Ls] at hk; omega
      subst this
      unfold maxLen; decide
  cn := by decide
  cs := fun i hi => by
    have : i = 0 ∨ i = 1 := by simp [Ls] at hi; omega
    rcases this with rfl | rfl
    · exact ⟨by unfold maxLen; decide, by unfold Col.ok U8; decide, by unfold I64; decide, by unfold I64; decide⟩
    · exact ⟨by unfold maxLen; decide, by unfold Col.ok U8; decide, by unfold I64; decide, by unfold I64; decide⟩
  on := by decide
  os := fun i hi => by
    have : i = 0 := by simp [Ls] at hi; omega
    subst this
    exact ⟨by unfold maxLen; decide, by unfold Col.ok U8; decide, by unfold Col.ok U8; decide⟩
theorem e1 : atE Ls 0 ⟨0, 0, 0⟩ 500 = 0 := by kernel_rfl
theorem e2 : atC Ls 0 ⟨0, 0, 0⟩ 500 = ⟨0, 0, 0⟩ := by kernel_rfl
theorem e3 : atC Ls 0 ⟨0, 0, 0⟩ 1500 = ⟨255, 0, 0⟩ := by kernel_rfl
theorem e4 : atC Ls 0 ⟨0, 0, 0⟩ 2500 = ⟨0, 255, 0⟩ := by kernel_rfl
theorem e5 : atC Ls 0 ⟨0, 0, 0⟩ 3500 = ⟨0, 0, 255⟩ := by kernel_rfl
theorem e6 : atC Ls 1 ⟨0, 0, 0⟩ 1500 = ⟨0, 0, 0⟩ := by kernel_rfl
theorem e7 : atC Ls 1 ⟨0, 0, 0⟩ 3500 = ⟨0, 255, 0⟩ := by kernel_rfl
theorem e8 : whE Ls 0 3500 = 0 ∧ fineE Ls 0 3500 = 0 := ⟨by kernel_rfl, by kernel_rfl⟩
theorem e10 : whE Ls 0 4000 = -1 ∧ fineE Ls 0 4000 = 0 := ⟨by kernel_rfl, by kernel_rfl⟩
theorem e11 : whE Ls 2 0 = 0 ∧ fineE Ls 2 0 = 2 := ⟨by kernel_rfl, by kernel_rfl⟩
theorem f2 : atE Ls 0 ⟨0, 0, 0⟩ 1500 = 0 := by kernel_rfl
theorem f3 : atE Ls 0 ⟨0, 0, 0⟩ 2500 = 0 := by kernel_rfl
theorem f4 : atE Ls 0 ⟨0, 0, 0⟩ 3500 = 0 := by kernel_rfl
theorem f5 : atE Ls 1 ⟨0, 0, 0⟩ 1500 = 0 := by kernel_rfl
theorem f6 : atE Ls 1 ⟨0, 0, 0⟩ 3500 = 0 := by kernel_rfl
theorem e9 : whE Ls 1 3500 = -1 ∧ fineE Ls 1 3500 = 0 := ⟨by kernel_rfl, by kernel_rfl⟩

set_option maxRecDepth 100000 in
set_option maxHeartbeats 1600000 in
theorem shows_is (a t : Int) (c : Col) (w : World) (h : atE Ls a ⟨0, 0, 0⟩ t = 0) (hc : atC Ls a ⟨0, 0, 0⟩ t = c) : Calls Tryz.prog 9 #[.int .i64 a, .int .i64 t, .agg #[.int .u8 c.r, .int .u8 c.g, .int .u8 c.b]] w (RetB (.bool true) w) := by
  have K := fun A1 A2 A3 c1 c2 c3 w hr => Lib.hid (show Calls Tryz.prog 23 #[.agg #[.slice A1 2 c1, .slice A2 2 c2, .slice A3 1 c3], .int .i64 a, .agg #[.int .i64 0, .int .i64 0, .int .i64 0], .int .i64 t] w (RetB (.tuple #[.agg #[.int .u8 c.r, .int .u8 c.g, .int .u8 c.b], .int .i64 0]) w) from by
    have k := lAt_any A1 A2 A3 c1 c2 c3 Ls a ⟨0, 0, 0⟩ t w fineLs hr
    rw [h, hc] at k
    exact k)
  clear h hc
  go_enter Tryz.func9, Tryz.ntmps9
  go_wp2_with fail
  refine (sample_any _).mono ?_
  rintro e' w' ⟨A1, c1, A2, c2, A3, c3, rfl, hb, hr⟩
  obtain ⟨g, rfl⟩ := xt_of_below hb
  have HR := Lib.hid hr
  clear hb hr
  go_wp2_with fail
  refine (RetB.grown (K _ _ _ _ _ _ _ HR.out).out).mono ?_
  rintro e' w' ⟨rfl, g2, rfl⟩
  go_wp2_with fail
  go_ret
  exact RetB.of rfl (by repeat' (first | exact Below.refl _ _ | assumption | refine Below.xt ?_ ?_ _ | refine Below.alloc ?_ ?_ _ | refine Below.drew ?_ | refine Below.setCell ?_ ?_ _ | (simp; done) | (simp; omega)))
set_option maxRecDepth 100000 in
set_option maxHeartbeats 1600000 in
theorem decides_is (a t n : Int) (w : World) (h : whE Ls a t = n ∧ fineE Ls a t = 0) : Calls Tryz.prog 10 #[.int .i64 a, .int .i64 t, .int .i64 n] w (RetB (.bool true) w) := by
  have K := fun A1 A2 A3 c1 c2 c3 w hr => Lib.hid (show Calls Tryz.prog 13 #[.agg #[.slice A1 2 c1, .slice A2 2 c2, .slice A3 1 c3], .int .i64 a, .int .i64 t] w (RetB (.tuple #[.int .i64 n, .int .i64 0]) w) from by
    have k := lWhich_any A1 A2 A3 c1 c2 c3 Ls a t w fineLs hr
    rw [h.1, h.2] at k
    exact k)
  clear h
  go_enter Tryz.func10, Tryz.ntmps10
  go_wp2_with fail
  refine (sample_any _).mono ?_
  rintro e' w' ⟨A1, c1, A2, c2, A3, c3, rfl, hb, hr⟩
  obtain ⟨g, rfl⟩ := xt_of_below hb
  have HR := Lib.hid hr
  clear hb hr
  go_wp2_with fail
  refine (RetB.grown (K _ _ _ _ _ _ _ HR.out).out).mono ?_
  rintro e' w' ⟨rfl, g2, rfl⟩
  go_wp2_with fail
  go_ret
  exact RetB.of rfl (by repeat' (first | exact Below.refl _ _ | assumption | refine Below.xt ?_ ?_ _ | refine Below.alloc ?_ ?_ _ | refine Below.drew ?_ | refine Below.setCell ?_ ?_ _ | (simp; done) | (simp; omega)))

end Go.Proofs.YtiikejhkhdmgeaaGreat

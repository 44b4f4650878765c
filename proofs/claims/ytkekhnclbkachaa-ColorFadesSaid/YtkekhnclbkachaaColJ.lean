/- The examples of the chapter on colours that hold texts and palettes. Conditions stand in each theorem. -/
import Derived.Test.YtkekhnclbkachaaColN
import Derived.Test.YtkekhnclbkachaaColW7
namespace Go.Proofs.Ytkekhnclbkachaa
open Go.RowKit
set_option linter.unusedVariables false
set_option linter.unusedSimpArgs false

theorem kParse1 (w : World) : Calls Try.prog 17 #[.string ⟨#[35, 48, 97, 102, 102, 49, 48]⟩] w (RetB (.tuple #[.agg #[.int .u8 10, .int .u8 255, .int .u8 16], .int .i64 0]) w) := by
  have h := Parse_any ⟨#[35, 48, 97, 102, 102, 49, 48]⟩ w
  rw [show parseC ⟨#[35, 48, 97, 102, 102, 49, 48]⟩ = ⟨10, 255, 16⟩ from by kernel_rfl, show parseE ⟨#[35, 48, 97, 102, 102, 49, 48]⟩ = 0 from by decide +kernel] at h
  exact h
theorem kParse2 (w : World) : Calls Try.prog 17 #[.string ⟨#[35, 48, 65, 70, 70, 49, 48]⟩] w (RetB (.tuple #[.agg #[.int .u8 0, .int .u8 0, .int .u8 0], .int .i64 6]) w) := by
  have h := Parse_any ⟨#[35, 48, 65, 70, 70, 49, 48]⟩ w
  rw [show parseC ⟨#[35, 48, 65, 70, 70, 49, 48]⟩ = ⟨0, 0, 0⟩ from by kernel_rfl, show parseE ⟨#[35, 48, 65, 70, 70, 49, 48]⟩ = 6 from by decide +kernel] at h
  exact h
theorem kParse3 (w : World) : Calls Try.prog 17 #[.string ⟨#[48, 97, 102, 102, 49, 48]⟩] w (RetB (.tuple #[.agg #[.int .u8 0, .int .u8 0, .int .u8 0], .int .i64 6]) w) := by
  have h := Parse_any ⟨#[48, 97, 102, 102, 49, 48]⟩ w
  rw [show parseC ⟨#[48, 97, 102, 102, 49, 48]⟩ = ⟨0, 0, 0⟩ from by kernel_rfl, show parseE ⟨#[48, 97, 102, 102, 49, 48]⟩ = 6 from by decide +kernel] at h
  exact h
theorem kText (w : World) : Calls Try.prog 19 #[.agg #[.int .u8 255, .int .u8 100, .int .u8 0]] w (RetB (.string ⟨#[35, 102, 102, 54, 52, 48, 48]⟩) w) := by
  have h := Text_any ⟨255, 100, 0⟩ w (by unfold Col.ok U8; simp)
  rw [show textB ⟨255, 100, 0⟩ = ⟨#[35, 102, 102, 54, 52, 48, 48]⟩ from by decide +kernel] at h
  exact h
def l2 : List Sw := [⟨⟨#[98, 108, 117, 101]⟩, ⟨0, 0, 255⟩⟩, ⟨⟨#[114, 101, 100]⟩, ⟨255, 0, 0⟩⟩]
theorem fine_l2 : fineW l2 := by
  intro i hi
  have : i = 0 ∨ i = 1 := by simp [l2] at hi; omega
  rcases this with rfl | rfl
  · exact ⟨by unfold maxLen; decide, by unfold Col.ok U8; decide⟩
  · exact ⟨by unfold maxLen; decide, by unfold Col.ok U8; decide⟩
theorem nlt_data (a b : ByteArray) : nlt a b = decide (a.data.toList < b.data.toList) := by
  unfold nlt; rw [bytesLess_eq, Lib.toList_data, Lib.toList_data]
theorem pal_l2 : palB l2 = true := by
  have h : nlt (sw l2 0).n (sw l2 1).n = true := by rw [nlt_data]; decide +kernel
  have h0 : nameB (sw l2 0).n = true := by decide +kernel
  have h1 : nameB (sw l2 1).n = true := by decide +kernel
  show (((true && okW l2 0) && okW l2 1) && decide (2 ≤ 256)) = true
  rw [okW, okW, h0, h1, h]; rfl
theorem row_l2 {w : World} {m : Nat} {T : TypeId} (hm : m = w.heap.size) : RowW (w.alloc (.cells #[.string ⟨#[98, 108, 117, 101]⟩, .int .u8 0, .int .u8 0, .int .u8 255, .string ⟨#[114, 101, 100]⟩, .int .u8 255, .int .u8 0, .int .u8 0] T)) (some ⟨m, 0, none⟩) l2 :=
  Row.made hm fun i j hi hj => by
    have hi : i = 0 ∨ i = 1 := by simp [l2] at hi; omega
    have hj : j = 0 ∨ j = 1 ∨ j = 2 ∨ j = 3 := by omega
    rcases hi with rfl | rfl <;> rcases hj with rfl | rfl | rfl | rfl <;> rfl
theorem kFind1 (b c : Nat) (w : World) (hr : RowW w (some ⟨b, 0, none⟩) l2) : Calls Try.prog 25 #[.slice (some ⟨b, 0, none⟩) 2 c, .string ⟨#[114, 101, 100]⟩] w (RetB (.tuple #[.agg #[.int .u8 255, .int .u8 0, .int .u8 0], .int .i64 0]) w) := by
  have h := Find_any (some ⟨b, 0, none⟩) 2 c l2 ⟨#[114, 101, 100]⟩ w rfl (by decide) fine_l2 hr
  have e : fix l2 ⟨#[114, 101, 100]⟩ 2 = 1 := by decide +kernel
  have e1 : findE l2 ⟨#[114, 101, 100]⟩ = 0 := by rw [findE, pal_l2, if_pos rfl]; show (if fix l2 _ 2 < 2 then (0 : Int) else 9) = 0; rw [e]; rfl
  have e2 : findC l2 ⟨#[114, 101, 100]⟩ = ⟨255, 0, 0⟩ := by rw [findC, e1]; show (if (0 : Int) = 0 then (sw l2 (fix l2 _ 2)).c else black) = _; rw [e]; rfl
  rw [e1, e2] at h
  exact h
theorem kFind2 (b c : Nat) (w : World) (hr : RowW w (some ⟨b, 0, none⟩) l2) : Calls Try.prog 25 #[.slice (some ⟨b, 0, none⟩) 2 c, .string ⟨#[103, 114, 101, 101, 110]⟩] w (RetB (.tuple #[.agg #[.int .u8 0, .int .u8 0, .int .u8 0], .int .i64 9]) w) := by
  have h := Find_any (some ⟨b, 0, none⟩) 2 c l2 ⟨#[103, 114, 101, 101, 110]⟩ w rfl (by decide) fine_l2 hr
  have e : fix l2 ⟨#[103, 114, 101, 101, 110]⟩ 2 = 2 := by decide +kernel
  have e1 : findE l2 ⟨#[103, 114, 101, 101, 110]⟩ = 9 := by rw [findE, pal_l2, if_pos rfl]; show (if fix l2 _ 2 < 2 then (0 : Int) else 9) = 9; rw [e]; rfl
  have e2 : findC l2 ⟨#[103, 114, 101, 101, 110]⟩ = ⟨0, 0, 0⟩ := by rw [findC, e1]; rfl
  rw [e1, e2] at h
  exact h
theorem kNear (b c : Nat) (w : World) (hr : RowW w (some ⟨b, 0, none⟩) l2) : Calls Try.prog 29 #[.slice (some ⟨b, 0, none⟩) 2 c, .agg #[.int .u8 128, .int .u8 0, .int .u8 128]] w (RetB (.tuple #[.string ⟨#[98, 108, 117, 101]⟩, .int .i64 0]) w) := by
  have h := Nearest_any (some ⟨b, 0, none⟩) 2 c l2 ⟨128, 0, 128⟩ w rfl (by decide) fine_l2 hr (by unfold Col.ok U8; decide)
  have e1 : nearE l2 ⟨128, 0, 128⟩ = 0 := by rw [nearE, pal_l2]; rfl
  have e2 : nearN l2 ⟨128, 0, 128⟩ = ⟨#[98, 108, 117, 101]⟩ := by
    rw [nearN, e1]; show (if (0 : Int) = 0 then (sw l2 (mi l2 _ 2)).n else _) = _
    rw [show mi l2 ⟨128, 0, 128⟩ 2 = 0 from by decide +kernel]; rfl
  rw [e1, e2] at h
  exact h

end Go.Proofs.Ytkekhnclbkachaa

/- Walks: the library's stable sort of fewer than 20 spots. Conditions stand in each theorem. -/
import Derived.Test.YtjeemlnhokihoaaCamS
namespace Go.Proofs.Ytjeemlnhokihoaa
open Go.RowKit
set_option linter.unusedVariables false

/-- The call sorts the row in place. -/
def Sorts (g n cap base : Nat) (f : Nat → Sp) (w : World) (e : Ending) (w' : World) : Prop := e = .returned (.tuple #[]) ∧ w.grownBy w' (some g) ∧ w'.ownsRow base 35 5 (.slice (some ⟨g, 0, none⟩) n cap) n (rowS (srt f n) n)

set_option maxHeartbeats 800000 in
theorem stable_any (g n cap base : Nat) (f : Nat → Sp) (w : World) (hown : w.ownsRow base 35 5 (.slice (some ⟨g, 0, none⟩) n cap) n (rowS f n)) (hok : ∀ i, (f i).ok) (hn : n < 20) :
    Calls Try.prog 49 #[.slice (some ⟨g, 0, none⟩) n cap, .int .i64 (n : Int), .func (.func 40) #[] #[]] w (Sorts g n cap base f w) := by
  have C := Lib.hid (isort_any g n cap base f w hown hok (by omega))
  have d1 : decide ((20 : Int) ≤ (n : Int)) = false := by simp; omega
  have d2 : decide ((20 : Int) < (n : Int)) = false := by simp; omega
  clear hown hok
  go_enter Try.func49, Try.ntmps49
  go_wp2_with fail
  refine wp_loop_rounds 1 ?_
  rw [rounds_succ]
  go_wp2_with fail
  refine C.out.mono ?_
  rintro e w' ⟨rfl, hg, ho⟩
  have HG := Lib.hid hg
  have HO := Lib.hid ho
  clear hg ho
  go_wp2_with fail
  refine wp_loop_rounds 1 ?_
  rw [rounds_succ]
  go_wp2_with fail
  go_end0
  exact ⟨rfl, HG.out, HO.out⟩

set_option maxHeartbeats 800000 in
theorem sort_any (g n cap base : Nat) (f : Nat → Sp) (w : World) (hown : w.ownsRow base 35 5 (.slice (some ⟨g, 0, none⟩) n cap) n (rowS f n)) (hok : ∀ i, (f i).ok) (hn : n < 20) :
    Calls Try.prog 39 #[.slice (some ⟨g, 0, none⟩) n cap, .func (.func 40) #[] #[]] w (Sorts g n cap base f w) := by
  have C := Lib.hid (stable_any g n cap base f w hown hok (by omega))
  clear hown hok
  go_enter Try.func39, Try.ntmps39
  go_wp2_with fail
  refine C.out.mono ?_
  rintro e w' ⟨rfl, hg, ho⟩
  have HG := Lib.hid hg
  have HO := Lib.hid ho
  clear hg ho
  go_wp2_with fail
  go_end0
  exact ⟨rfl, HG.out, HO.out⟩

end Go.Proofs.Ytjeemlnhokihoaa

/- Walks for CameraHolds: points moved, the spots of at most 20 points, whether spots are the same. Conditions stand in each theorem. -/
import Derived.Test.YtjeemlnhokihoaaCamZ
namespace Go.Proofs.Ytjeemlnhokihoaa
open Go.RowKit
set_option linter.unusedVariables false
set_option linter.unusedSimpArgs false
attribute [local go_sem ↓] ld16

/-- A vector far from what 64 bits hold. -/
def Bd (v : V3) : Prop := (-4611686018427387904 ≤ v.x ∧ v.x ≤ 4611686018427387903) ∧ (-4611686018427387904 ≤ v.y ∧ v.y ≤ 4611686018427387903) ∧ (-4611686018427387904 ≤ v.z ∧ v.z ≤ 4611686018427387903)
set_option maxHeartbeats 800000 in
theorem moved_any (p d : V3) (hp : Bd p) (hd : Bd d) (w : World) : Calls Try.prog 25 #[.agg #[.int .i64 p.x, .int .i64 p.y, .int .i64 p.z], .agg #[.int .i64 d.x, .int .i64 d.y, .int .i64 d.z]] w (RetB (.agg #[.int .i64 ((mvd' p d)).x, .int .i64 ((mvd' p d)).y, .int .i64 ((mvd' p d)).z]) w) := by
  obtain ⟨⟨x1, x2⟩, ⟨y1, y2⟩, z1, z2⟩ := hp
  obtain ⟨⟨x3, x4⟩, ⟨y3, y4⟩, z3, z4⟩ := hd
  have ex : IntKind.i64.wrap (p.x + d.x) = p.x + d.x := IntWalk.i64_in _ (by omega)
  have ey : IntKind.i64.wrap (p.y + d.y) = p.y + d.y := IntWalk.i64_in _ (by omega)
  have ez : IntKind.i64.wrap (p.z + d.z) = p.z + d.z := IntWalk.i64_in _ (by omega)
  clear x1 x2 x3 x4 y1 y2 y3 y4 z1 z2 z3 z4
  go_enter Try.func25, Try.ntmps25
  go_wp2_with (first
    | (refine wp_region_xt (by kernel_rfl) (by kernel_rfl) ?_; (repeat (go_big_quiet_step (first | fail))); refine wpQuiet_nil ?_; intro g))
  refine bodyPost_ret (v := .agg #[.int .i64 ((mvd' p d)).x, .int .i64 ((mvd' p d)).y, .int .i64 ((mvd' p d)).z]) (by simp [results, Try.results25, go_sem, mvd', ex, ey, ez]) rfl ?_
  exact RetB.of rfl (by repeat' (first | exact Below.refl _ _ | assumption | refine Below.xt ?_ ?_ _ | refine Below.alloc ?_ ?_ _ | refine Below.drew ?_ | refine Below.setCell ?_ ?_ _ | (simp; done) | (simp; omega)))

set_option maxHeartbeats 800000 in
theorem isort_void (s : Option Addr) (n cap k : Nat) (hk : k ≤ 4294967296) (w : World) :
    Calls Try.prog 51 #[.slice s n cap, .int .i64 (k : Int), .int .i64 (k : Int), .func (.func 40) #[] #[]] w fun e w' => e = .returned (.tuple #[]) ∧ w = w' := by
  have hw : IntKind.i64.wrap ((k : Int) + 1) = (k : Int) + 1 := IntWalk.i64_in _ (by omega)
  have d1 : decide ((k : Int) + 1 < (k : Int)) = false := by simp; omega
  clear hk
  go_enter Try.func51, Try.ntmps51
  go_wp2_with fail
  refine wp_loop_rounds 1 ?_
  rw [rounds_succ]
  go_wp2_with fail
  go_end0
  exact ⟨rfl, rfl⟩

set_option maxHeartbeats 800000 in
theorem stable_20 (g cap base : Nat) (f : Nat → Sp) (w : World) (hown : w.ownsRow base 35 5 (.slice (some ⟨g, 0, none⟩) 20 cap) 20 (rowS f 20)) (hok : ∀ i, (f i).ok) :
    Calls Try.prog 49 #[.slice (some ⟨g, 0, none⟩) 20 cap, .int .i64 20, .func (.func 40) #[] #[]] w (Sorts g 20 cap base f w) := by
  have C := Lib.hid (isort_any g 20 cap base f w hown hok (by omega))
  have V := fun w => Lib.hid (isort_void (some ⟨g, 0, none⟩) 20 cap 20 (by omega) w)
  clear hown hok
  go_enter Try.func49, Try.ntmps49
  go_wp2_with fail
  refine wp_loop_rounds 2 ?_
  rw [rounds_succ]
  go_wp2_with fail
  refine C.out.mono ?_
  rintro e w' ⟨rfl, hg, ho⟩
  have HG := Lib.hid hg
  have HO := Lib.hid ho
  clear hg ho
  go_wp2_with fail
  rw [rounds_succ]
  go_wp2_with fail
  refine (V _).out.mono ?_
  rintro e w' ⟨rfl, rfl⟩
  go_wp2_with fail
  refine wp_loop_rounds 1 ?_
  rw [rounds_succ]
  go_wp2_with fail
  go_end0
  exact ⟨rfl, HG.out, HO.out⟩
set_option maxHeartbeats 800000 in
theorem stable_0 (w : World) : Calls Try.prog 49 #[.slice none 0 0, .int .i64 0, .func (.func 40) #[] #[]] w fun e w' => e = .returned (.tuple #[]) ∧ w = w' := by
  have V := fun w => Lib.hid (isort_void none 0 0 0 (by omega) w)
  go_enter Try.func49, Try.ntmps49
  go_wp2_with fail
  refine wp_loop_rounds 1 ?_
  rw [rounds_succ]
  go_wp2_with fail
  refine (V _).out.mono ?_
  rintro e w' ⟨rfl, rfl⟩
  go_wp2_with fail
  refine wp_loop_rounds 1 ?_
  rw [rounds_succ]
  go_wp2_with fail
  go_end0
  exact ⟨rfl, rfl⟩

set_option maxHeartbeats 800000 in
theorem sort_20 (g n cap base : Nat) (f : Nat → Sp) (w : World) (hown : w.ownsRow base 35 5 (.slice (some ⟨g, 0, none⟩) n cap) n (rowS f n)) (hok : ∀ i, (f i).ok) (hn : n ≤ 20) :
    Calls Try.prog 39 #[.slice (some ⟨g, 0, none⟩) n cap, .func (.func 40) #[] #[]] w (Sorts g n cap base f w) := by
  by_cases h : n = 20
  · subst h
    have C := Lib.hid (stable_20 g cap base f w hown hok)
    clear hown hok
    go_enter Try.func39, Try.ntmps39
    go_wp2_with fail
    refine C.out.mono ?_
    rintro e w' ⟨rfl, hg, ho⟩
    have HG := Lib.hid hg
    have HO := Lib.hid ho
    clear hg ho
    go_wp2_with fail
    go_end0
    exact ⟨rfl, HG.out, HO.out⟩
  · exact sort_any g n cap base f w hown hok (by omega)
set_option maxHeartbeats 800000 in
theorem sort_0 (w : World) : Calls Try.prog 39 #[.slice none 0 0, .func (.func 40) #[] #[]] w fun e w' => e = .returned (.tuple #[]) ∧ w = w' := by
  go_enter Try.func39, Try.ntmps39
  go_wp2_with fail
  refine (stable_0 w).mono ?_
  rintro e w' ⟨rfl, rfl⟩
  go_wp2_with fail
  go_end0
  exact ⟨rfl, rfl⟩
end Go.Proofs.Ytjeemlnhokihoaa

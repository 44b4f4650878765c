/- Walks for CameraHolds: whether spots are the same, by the reference. Conditions stand in each theorem. -/
import Derived.Test.YtjeemlnhokihoaaCamH2
namespace Go.Proofs.Ytjeemlnhokihoaa
open Go.RowKit
set_option linter.unusedVariables false
set_option linter.unusedSimpArgs false

theorem spot_row {w : World} {b o n : Nat} {f : Nat → Sp} (hc : ∀ i j, i < n → j < 5 → w.cell? ⟨b, o + i * 5 + j, none⟩ = some (scell (f i) j)) {k : Nat} (hk : k < n) :
    w.cell? ⟨b, o + k * 5, none⟩ = some (.int .i64 (f k).ix) ∧ w.cell? ⟨b, o + k * 5 + 1, none⟩ = some (.int .i64 (f k).x) ∧ w.cell? ⟨b, o + k * 5 + 2, none⟩ = some (.int .i64 (f k).y) ∧ w.cell? ⟨b, o + k * 5 + 3, none⟩ = some (.int .i64 (f k).r) ∧ w.cell? ⟨b, o + k * 5 + 4, none⟩ = some (.int .i64 (f k).d) :=
  ⟨hc k 0 hk (by omega), hc k 1 hk (by omega), hc k 2 hk (by omega), hc k 3 hk (by omega), hc k 4 hk (by omega)⟩

set_option maxHeartbeats 1600000 in
theorem same_spots (A B : Option Addr) (n c d : Nat) (f : Nat → Sp) (w : World) (hm : n ≤ 4294967296) (ha : Row w A n 5 fun i => scell (f i)) (hb : Row w B n 5 fun i => scell (f i)) :
    Calls Try.prog 19 #[.slice A n c, .slice B n d] w (RetB (.bool true) w) := by
  rcases Nat.eq_zero_or_pos n with h0 | h0
  · subst h0
    clear ha hb
    go_enter Try.func19, Try.ntmps19
    go_wp2_with fail
    go_rounds 1
    go_ret
    exact RetB.of rfl (by repeat' (first | exact Below.refl _ _ | assumption | refine Below.xt ?_ ?_ _ | refine Below.alloc ?_ ?_ _ | refine Below.drew ?_ | refine Below.setCell ?_ ?_ _ | (simp; done) | (simp; omega)))
  · obtain ⟨a, o, rfl, ho, hc⟩ := ha.at_ h0
    obtain ⟨b, q, rfl, hq, hd⟩ := hb.at_ h0
    have HC := Lib.hid fun k (hk : k < n) => spot_row hc hk
    have HD := Lib.hid fun k (hk : k < n) => spot_row hd hk
    clear hc hd ha hb
    go_enter Try.func19, Try.ntmps19
    go_wp2_with fail
    go_loopw [5] (fun i wr => ∃ (k : Nat) (g : Gr), k ≤ n ∧ i = .int .i64 k ∧ wr = xt w g) (fun i _ => n - (intOf i).toNat)
    case atStart => exact ⟨0, ⟨[], _⟩, by omega, rfl, (xt_self _).symm⟩
    case round =>
      obtain ⟨k, g, hk, rfl, rfl⟩ := hrel
      by_cases hlt : k < n
      · obtain ⟨x1, x2, x3, x4, x5⟩ := HC.out k hlt
        obtain ⟨y1, y2, y3, y4, y5⟩ := HD.out k hlt
        generalize f k = v at *
        go_wp2_with (first
          | (refine wp_region_xt (by kernel_rfl) (by kernel_rfl) ?_; (repeat (go_big_quiet_step (first | fail))); refine wpQuiet_nil ?_; intro g))
        go_roundw
        case rel => exact ⟨k + 1, _, by omega, by go_num, (Classical.choose_spec (xt_of_below (by repeat' (first | exact Below.refl _ _ | assumption | refine Below.xt ?_ ?_ _ | refine Below.alloc ?_ ?_ _ | refine Below.drew ?_ | refine Below.setCell ?_ ?_ _ | (simp; done) | (simp; omega)))))⟩
        case measure => simp [intOf]; omega
      · go_wp2_with fail
        go_ret
        exact RetB.of rfl (by repeat' (first | exact Below.refl _ _ | assumption | refine Below.xt ?_ ?_ _ | refine Below.alloc ?_ ?_ _ | refine Below.drew ?_ | refine Below.setCell ?_ ?_ _ | (simp; done) | (simp; omega)))
end Go.Proofs.Ytjeemlnhokihoaa

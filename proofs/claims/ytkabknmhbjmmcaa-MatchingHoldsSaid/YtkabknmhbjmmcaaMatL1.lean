/- Walks of the laws MatchingValid and MatchingChecks. Conditions stand in each theorem. -/
import Derived.Test.YtkabknmhbjmmcaaMatB9
import Derived.Test.YtkabknmhbjmmcaaMatO
namespace Go.Proofs.Ytkabknmhbjmmcaa
open Go.RowKit
set_option linter.unusedVariables false
set_option linter.unusedSimpArgs false

theorem smB_len {G : Nat → List Int} {nL most : Nat} (h : smB G nL most = true) (hm : most ≤ 1000) : nL ≤ 1000 ∧ ∀ i, i < nL → (G i).length ≤ 1000 := by
  have := smB_iff.1 h
  exact ⟨by omega, fun i hi => by have := this.1 i hi; omega⟩
theorem infoRow : (Try.prog.info? 25).map (fun i => (i.zero, i.size, i.bytes)) = some (some (.slice none 0 0), 1, 24) := by kernel_rfl
theorem mk_rows (n : Nat) (hn : n ≤ 100000) (W : World) : (Instr.makeSlice 22 (.int .i64 (n : Int)) (.int .i64 (n : Int))).run Try.prog W = .ok (.slice (some ⟨W.heap.size, 0, none⟩) n n) (W.alloc (.cells (madeCells #[.slice none 0 0] n) 25)) := by
  obtain ⟨i, hi, hz, hs, hb⟩ := info_parts infoRow
  have h := run_make (P := Try.prog) W 22 25 i _ Try.underlying22 hi hz .i64 .i64 n n (by omega) (by omega) (by rw [hb]; omega) (by omega)
  rw [hs] at h
  simp only [Int.toNat_natCast, Nat.mul_one] at h
  exact h
theorem grow_made {w : World} {m n : Nat} (hm : m = w.heap.size) : GRow (w.alloc (.cells (madeCells #[.slice none 0 0] n) 25)) (some ⟨m, 0, none⟩) n (fun _ => []) :=
  ⟨fun _ => ⟨m, 0, rfl, by rw [old_alloc]; exact .inr hm, fun i hi => ⟨none, 0, by
    rw [World.cell?_alloc_at _ _ _ _ hm, Nat.zero_add]
    simp [madeCells, hi, Nat.mod_one], RowI.nil _ _⟩⟩⟩
theorem vld_empty (n : Nat) : vld (fun _ => []) n 0 = decide (n ≤ 200) := by
  unfold vld
  rw [Bool.eq_iff_iff]
  simp [inc]
theorem vld_bare (G : Nat → List Int) (n : Nat) : vld G 0 n = decide (n ≤ 200) := by
  unfold vld
  rw [Bool.eq_iff_iff]
  simp
  omega

set_option maxRecDepth 100000 in
set_option maxHeartbeats 3200000 in
theorem MatchingValid_walk (A : Option Addr) (nL cap : Nat) (R : Int) (M : Option Addr) (k0 c0 : Nat) (long : Int) (W : World) (og : GraphOk W A nL cap R) (om : IntsOk W M k0 c0) (ol : I64 long) :
    Calls Try.prog 3 #[.agg #[.slice A nL cap, .int .i64 R], .slice M k0 c0, .int .i64 long] W (RetB (.bool true) W) := by
  obtain ⟨G, g1, g2, g3, g4, g5⟩ := og
  obtain ⟨m, rfl, m2, m3, m4, m5⟩ := om
  have CS := fun w h => small_any A nL cap 20 R G w g1 (fun i hi => (g2 i hi).1) h
  have HG := Lib.hid g3
  have HM := Lib.hid m5
  unfold maxLen at m2
  clear g3 m4 m5
  rcases Bool.eq_false_or_eq_true (smB G nL 20) with s1 | s1
  · obtain ⟨b1, b2⟩ := smB_len s1 (by omega)
    rw [s1] at CS
    have HS := fun w h => Lib.hid (CS w h)
    by_cases hml : m.length ≤ 25
    · have C1 := fun w h => refValid_any A nL cap R G w b1 b2 h
      have C2 := fun w h => Valid_any A nL cap R G w b1 b2 h
      have C3 := fun w h hr => ValidMatch_any A M nL cap m.length c0 R G m w b1 b2 h rfl (by omega) hr
      have C4 := fun w h hr => refMatching_any A M nL cap m.length c0 R G m w b1 b2 h rfl (by omega) m3 hr
      have hvm : vmB G nL R m = (vld G nL R && matB G nL m) := rfl
      have d0 : decide ((25 : Int) < (m.length : Int)) = false := by simp; omega
      generalize vmB G nL R m = x0 at *
      generalize vld G nL R = x1 at *
      generalize matB G nL m = x2 at *
      have H1 := fun w h => Lib.hid (C1 w h)
      have H2 := fun w h => Lib.hid (C2 w h)
      have H3 := fun w h hr => Lib.hid (C3 w h hr)
      have H4 := fun w h hr => Lib.hid (C4 w h hr)
      clear C1 C2 C3 C4 CS g2 b1 b2 s1
      subst hvm
      by_cases hl : 195 ≤ long ∧ long ≤ 205
      · obtain ⟨l1, l2⟩ := hl
        obtain ⟨n, rfl⟩ : ∃ n : Nat, long = (n : Int) := ⟨long.toNat, by omega⟩
        have hmk := fun W => mk_rows n (by omega) W
        have V1 := fun A cap w h => Valid_any A n cap 0 (fun _ => []) w (by omega) (fun i hi => Nat.zero_le _) h
        have V2 := fun A cap w h => Valid_any A 0 cap n (fun _ => []) w (by omega) (fun i hi => Nat.zero_le _) h
        have e1 : decide (n ≤ 200) = decide ((n : Int) ≤ 200) := by rw [decide_eq_decide]; omega
        rw [vld_empty, e1] at V1
        rw [vld_bare, e1] at V2
        obtain ⟨bb, hbb⟩ : ∃ bb, decide ((n : Int) ≤ 200) = bb := ⟨_, rfl⟩
        rw [hbb] at V1 V2
        have HV1 := fun A cap w h => Lib.hid (V1 A cap w h)
        have HV2 := fun A cap w h => Lib.hid (V2 A cap w h)
        have n1 : decide ((n : Int) < 195) = false := by simp; omega
        have n2 : decide ((205 : Int) < (n : Int)) = false := by simp; omega
        have l1' : 195 ≤ n := by omega
        have l2' : n ≤ 205 := by omega
        clear V1 V2 e1
        cases x1 <;> cases x2 <;> (
          go_enter Try.func3, Try.ntmps3
          go_upto_region 8 with (first
            | (go_at_call 9; refine (RetB.grown (HS _ (by repeat (first | exact HG.out | refine GRow.xt ?_ _ | refine GRow.alloc ?_ _ | refine GRow.drew ?_))).out).mono ?_; rintro e' w' ⟨rfl, g, rfl⟩)
            | (go_at_call 11; refine (RetB.grown (H1 _ (by repeat (first | exact HG.out | refine GRow.xt ?_ _ | refine GRow.alloc ?_ _ | refine GRow.drew ?_))).out).mono ?_; rintro e' w' ⟨rfl, g, rfl⟩)
            | (go_at_call 12; refine (RetB.grown (H2 _ (by repeat (first | exact HG.out | refine GRow.xt ?_ _ | refine GRow.alloc ?_ _ | refine GRow.drew ?_))).out).mono ?_; rintro e' w' ⟨rfl, g, rfl⟩)
            | (go_at_call 13; refine (RetB.grown (H3 _ (by repeat (first | exact HG.out | refine GRow.xt ?_ _ | refine GRow.alloc ?_ _ | refine GRow.drew ?_)) (by repeat (first | exact HM.out | refine RowI.xt ?_ _ | refine RowI.alloc ?_ _ | refine RowI.drew ?_))).out).mono ?_; rintro e' w' ⟨rfl, g, rfl⟩)
            | (go_at_call 14; refine (RetB.grown (H4 _ (by repeat (first | exact HG.out | refine GRow.xt ?_ _ | refine GRow.alloc ?_ _ | refine GRow.drew ?_)) (by repeat (first | exact HM.out | refine RowI.xt ?_ _ | refine RowI.alloc ?_ _ | refine RowI.drew ?_))).out).mono ?_; rintro e' w' ⟨rfl, g, rfl⟩))
          go_wp2_with fail
          refine (RetB.grown (HV1 _ _ _ (grow_made (by simp))).out).mono ?_
          rintro e' w' ⟨rfl, g9, rfl⟩
          go_wp2_with fail
          refine (RetB.grown (HV2 _ _ _ ⟨fun h => absurd h (by omega)⟩).out).mono ?_
          rintro e' w' ⟨rfl, g8, rfl⟩
          go_wp2_with (first
            | (go_at_call 10; refine (RetB.grown (known_any _)).mono ?_; rintro e' w' ⟨rfl, g, rfl⟩)
            | (refine wp_region_xt (by kernel_rfl) (by kernel_rfl) ?_; (repeat (go_big_quiet_step (first | (go_at_call 10; exact RetB.quiet (known_any _))))); refine wpQuiet_nil ?_; intro g))
          go_ret
          exact RetB.of rfl (by repeat' (first | exact Below.refl _ _ | assumption | refine Below.xt ?_ ?_ _ | refine Below.alloc ?_ ?_ _ | refine Below.drew ?_ | refine Below.setCell ?_ ?_ _ | (simp; done) | (simp; omega))))
      · have n1 : decide (long < 195) = true ∨ (decide (long < 195) = false ∧ decide ((205 : Int) < long) = true) := by simp; omega
        clear hl
        rcases n1 with n1 | ⟨n1, n2⟩
        all_goals
          cases x1 <;> cases x2 <;> (
            go_enter Try.func3, Try.ntmps3
            go_wp2_with (first
              | (go_at_call 9; refine (RetB.grown (HS _ (by repeat (first | exact HG.out | refine GRow.xt ?_ _ | refine GRow.alloc ?_ _ | refine GRow.drew ?_))).out).mono ?_; rintro e' w' ⟨rfl, g, rfl⟩)
              | (go_at_call 11; refine (RetB.grown (H1 _ (by repeat (first | exact HG.out | refine GRow.xt ?_ _ | refine GRow.alloc ?_ _ | refine GRow.drew ?_))).out).mono ?_; rintro e' w' ⟨rfl, g, rfl⟩)
              | (go_at_call 12; refine (RetB.grown (H2 _ (by repeat (first | exact HG.out | refine GRow.xt ?_ _ | refine GRow.alloc ?_ _ | refine GRow.drew ?_))).out).mono ?_; rintro e' w' ⟨rfl, g, rfl⟩)
              | (go_at_call 13; refine (RetB.grown (H3 _ (by repeat (first | exact HG.out | refine GRow.xt ?_ _ | refine GRow.alloc ?_ _ | refine GRow.drew ?_)) (by repeat (first | exact HM.out | refine RowI.xt ?_ _ | refine RowI.alloc ?_ _ | refine RowI.drew ?_))).out).mono ?_; rintro e' w' ⟨rfl, g, rfl⟩)
              | (go_at_call 14; refine (RetB.grown (H4 _ (by repeat (first | exact HG.out | refine GRow.xt ?_ _ | refine GRow.alloc ?_ _ | refine GRow.drew ?_)) (by repeat (first | exact HM.out | refine RowI.xt ?_ _ | refine RowI.alloc ?_ _ | refine RowI.drew ?_))).out).mono ?_; rintro e' w' ⟨rfl, g, rfl⟩)
              | (go_at_call 10; refine (RetB.grown (known_any _)).mono ?_; rintro e' w' ⟨rfl, g, rfl⟩))
            go_ret
            exact RetB.of rfl (by repeat' (first | exact Below.refl _ _ | assumption | refine Below.xt ?_ ?_ _ | refine Below.alloc ?_ ?_ _ | refine Below.drew ?_ | refine Below.setCell ?_ ?_ _ | (simp; done) | (simp; omega))))
    · have d0 : decide ((25 : Int) < (m.length : Int)) = true := by simp; omega
      clear CS g2 b1 b2 s1
      go_enter Try.func3, Try.ntmps3
      go_wp2_with (first
        | (go_at_call 9; refine (RetB.grown (HS _ (by repeat (first | exact HG.out | refine GRow.xt ?_ _ | refine GRow.alloc ?_ _ | refine GRow.drew ?_))).out).mono ?_; rintro e' w' ⟨rfl, g, rfl⟩)
        | (go_at_call 10; refine (RetB.grown (known_any _)).mono ?_; rintro e' w' ⟨rfl, g, rfl⟩))
      go_ret
      exact RetB.of rfl (by repeat' (first | exact Below.refl _ _ | assumption | refine Below.xt ?_ ?_ _ | refine Below.alloc ?_ ?_ _ | refine Below.drew ?_ | refine Below.setCell ?_ ?_ _ | (simp; done) | (simp; omega)))
  · rw [s1] at CS
    have HS := fun w h => Lib.hid (CS w h)
    clear CS g2 s1
    go_enter Try.func3, Try.ntmps3
    go_wp2_with (first
      | (go_at_call 9; refine (RetB.grown (HS _ (by repeat (first | exact HG.out | refine GRow.xt ?_ _ | refine GRow.alloc ?_ _ | refine GRow.drew ?_))).out).mono ?_; rintro e' w' ⟨rfl, g, rfl⟩)
      | (go_at_call 10; refine (RetB.grown (known_any _)).mono ?_; rintro e' w' ⟨rfl, g, rfl⟩))
    go_ret
    exact RetB.of rfl (by repeat' (first | exact Below.refl _ _ | assumption | refine Below.xt ?_ ?_ _ | refine Below.alloc ?_ ?_ _ | refine Below.drew ?_ | refine Below.setCell ?_ ?_ _ | (simp; done) | (simp; omega)))
end Go.Proofs.Ytkabknmhbjmmcaa

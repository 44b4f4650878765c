
/- Walks: the greatest matching, its size, by the program. Conditions stand in each theorem. -/
import Derived.Test.YtjiknjcmfiapjaaMatB5
import Derived.Test.YtjiknjcmfiapjaaMatW4
namespace Go.Proofs.Ytjiknjcmfiapjaa
open Go.RowKit
set_option linter.unusedVariables false
set_option linter.unusedSimpArgs false

theorem fit_of {G : Nat → List Int} {nL R : Nat} (h : vld G nL R = true) : Fit nL R G := by
  have V := (vld_iff G).1 h
  refine ⟨V.hL, by have := V.hR; omega, vld_mem G h, fun i hi => ?_⟩
  have := inc_len (V.inc i hi) V.h0
  have := V.hR
  omega
theorem SMem.rowM {w0 W : World} {A : Option Addr} {cA nL R : Nat} {G : Nat → List Int} {bS bM bB bV : Nat} (h : SMem w0 W A cA nL R G bS bM bB bV (fin G nL)) : RowI W (some ⟨bM, 0, none⟩) (grt G nL) := by
  refine rowI_of (fun h => nomatch h) fun a ha c hc => ?_
  injection ha with ha
  subst ha
  rw [zero_add_addr, grt_get G (by rw [grt_len] at hc; exact hc)]
  exact h.M.cell (arrI_get (by rw [grt_len] at hc; exact hc))
/-- The call returns these numbers, in a slice that may be cut, and an error's number. -/
def RetL (l : List Int) (d : Int) (w : World) (e : Ending) (w' : World) : Prop := ∃ A c, e = .returned (.tuple #[.slice A l.length c, .int .i64 d]) ∧ l.length ≤ c ∧ Below w.heap.size w w' ∧ RowI w' A l
def erV (G : Nat → List Int) (nL : Nat) (R : Int) : Int := if vld G nL R then 0 else 2
def szN (G : Nat → List Int) (nL : Nat) (R : Int) : Int := if vld G nL R then (sizeV G nL : Int) else 0
theorem szv_grt {G : Nat → List Int} {nL R : Nat} (h : vld G nL R = true) : szv (grt G nL) = sizeV G nL := by
  unfold szv sizeV
  rw [grt_len]
  refine cntp_congr nL fun k hk => ?_
  rw [grt_get G hk, used]
  have := (fin_spec G h).2.1.lowM k
  rw [Bool.eq_iff_iff, decide_eq_true_eq, decide_eq_true_eq]; omega

set_option maxHeartbeats 1600000 in
theorem Size_no (A : Option Addr) (nL cap : Nat) (R : Int) (G : Nat → List Int) (w : World) (hm : nL ≤ 1000) (hl : ∀ i, i < nL → (G i).length ≤ 1000) (hG : GRow w A nL G) (hv : vld G nL R = false) :
    Calls Try.prog 42 #[.agg #[.slice A nL cap, .int .i64 R]] w (RetB (.tuple #[.int .i64 0, .int .i64 2]) w) := by
  have C := fun w h => Valid_any A nL cap R G w hm hl h
  rw [hv] at C
  have HC := fun w h => Lib.hid (C w h)
  have HG := Lib.hid hG
  clear C hl hG hv
  go_enter Try.func42, Try.ntmps42
  go_wp2_with (go_at_call 45; refine (RetB.grown (HC _ (GRow.alloc HG.out _)).out).mono ?_; rintro e' w' ⟨rfl, g, rfl⟩)
  go_ret2
  exact RetB.of rfl (by repeat' (first | exact Below.refl _ _ | assumption | refine Below.xt ?_ ?_ _ | refine Below.alloc ?_ ?_ _ | refine Below.drew ?_ | refine Below.setCell ?_ ?_ _ | (simp; done) | (simp; omega)))
set_option maxHeartbeats 1600000 in
theorem Size_ok (A : Option Addr) (nL cap R : Nat) (G : Nat → List Int) (w : World) (hG : GRow w A nL G) (hv : vld G nL R = true) :
    Calls Try.prog 42 #[.agg #[.slice A nL cap, .int .i64 (R : Int)]] w (RetB (.tuple #[.int .i64 (sizeV G nL : Int), .int .i64 0]) w) := by
  have HF := Lib.hid (fit_of hv)
  have hL := HF.out.hL
  have C := fun w h => Valid_any A nL cap R G w (by have := HF.out.hL; omega) (fun i hi => by have := HF.out.len i hi; omega) h
  rw [hv] at C
  have HC := fun w h => Lib.hid (C w h)
  have HR := fun w h => Lib.hid (run_any w A cap nL R G (fin G nL) h HF.out (fin_spec G hv).1)
  have HZ := fun bM w h => Lib.hid (show Calls Try.prog 53 #[.slice (some ⟨bM, 0, none⟩) nL nL] w (Ret (.int .i64 (sizeV G nL : Int)) w) by
    have h1 := size_any (some ⟨bM, 0, none⟩) nL (grt G nL) w (by rw [grt_len]; have := HF.out.hL; omega) h
    rw [szv_grt hv, grt_len] at h1; exact h1)
  have HG := Lib.hid hG
  clear C hG hv
  generalize sizeV G nL = sz at *
  go_enter Try.func42, Try.ntmps42
  go_wp2_with (go_at_call 45; refine (RetB.grown (HC _ (GRow.alloc HG.out _)).out).mono ?_; rintro e' w' ⟨rfl, g, rfl⟩)
  refine (HR _ (GRow.xt (GRow.alloc HG.out _) _)).out.mono ?_
  rintro e' w1 ⟨bS, bM, bB, bV, rfl, hS⟩
  obtain ⟨c0, c2, c3, c4, o0, o1, o2, o3⟩ := hS.f
  have HS := Lib.hid hS
  clear hS HC HR
  go_wp2_with (go_at_call 53; refine (HZ _ _ HS.out.rowM).out.mono ?_; rintro e' w' ⟨rfl, rfl⟩)
  go_ret2
  exact RetB.of rfl (Below.trans (show Below w.heap.size w (xt (w.alloc (.cells #[.slice A nL cap, .int .i64 (R : Int)] 54)) g) from (by repeat' (first | exact Below.refl _ _ | assumption | refine Below.xt ?_ ?_ _ | refine Below.alloc ?_ ?_ _ | refine Below.drew ?_ | refine Below.setCell ?_ ?_ _ | (simp; done) | (simp; omega)))) (HS.out.below.mono (by simp; omega)))
theorem Size_any (A : Option Addr) (nL cap : Nat) (R : Int) (G : Nat → List Int) (w : World) (hm : nL ≤ 1000) (hl : ∀ i, i < nL → (G i).length ≤ 1000) (hG : GRow w A nL G) :
    Calls Try.prog 42 #[.agg #[.slice A nL cap, .int .i64 R]] w (RetB (.tuple #[.int .i64 (szN G nL R), .int .i64 (erV G nL R)]) w) := by
  unfold szN erV
  rcases Bool.eq_false_or_eq_true (vld G nL R) with hv | hv
  · have V := (vld_iff G).1 hv
    have := V.h0
    obtain ⟨r, rfl⟩ : ∃ r : Nat, R = (r : Int) := ⟨R.toNat, by omega⟩
    rw [if_pos hv, if_pos hv]
    exact Size_ok A nL cap r G w hG hv
  · rw [if_neg (by rw [hv]; decide), if_neg (by rw [hv]; decide)]
    exact Size_no A nL cap R G w hm hl hG hv
end Go.Proofs.Ytjiknjcmfiapjaa

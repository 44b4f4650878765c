
/- The search for cheapest columns in memory. Conditions stand in each theorem. -/
import Derived.Test.YtjiknjcmfiapjaaBotA
import Derived.Test.YtjiknjcmfiapjaaBotR
import Derived.Test.YtjiknjcmfiapjaaMatB4
namespace Go.Proofs.Ytjiknjcmfiapjaa
open Go.RowKit
set_option linter.unusedVariables false

theorem arrB_put {n k : Nat} {f : Nat → Bool} {v : Bool} : (arrB n f).setIfInBounds k (.bool v) = arrB n (upb f k v) :=
  by
  apply Array.ext_getElem?
  intro j
  by_cases hj : j < n
  · rw [arrB_get hj, Array.getElem?_setIfInBounds]
    by_cases e : k = j
    · subst e; rw [if_pos rfl, if_pos (by rw [arrB_size]; exact hj), upb_self]
    · rw [if_neg e, arrB_get hj, upb_ne (Ne.symm e)]
  · rw [Array.getElem?_eq_none (by simp [arrB]; omega), Array.getElem?_eq_none (by simp [arrB]; omega)]

/-- Potentials and rows lie there: w0 is the world in which the search began, W the one now. -/
structure KM (w0 W : World) (n bU bV bR : Nat) (U V R : Nat → Int) : Prop where
  below : Below w0.heap.size w0 W
  geU : w0.heap.size ≤ bU
  geV : w0.heap.size ≤ bV
  geR : w0.heap.size ≤ bR
  nUV : bU ≠ bV
  nUR : bU ≠ bR
  nVR : bV ≠ bR
  cU : Blk W bU (arrI n U) 3
  cV : Blk W bV (arrI (n + 1) V) 3
  cR : Blk W bR (arrI (n + 1) R) 3
section
variable {w0 W W' : World} {n bU bV bR : Nat} {U V R : Nat → Int}
theorem KM.setU (h : KM w0 W n bU bV bR U V R) (k : Nat) (v : Int) : KM w0 (W.setCell ⟨bU, k, none⟩ (.int .i64 v)) n bU bV bR (up U k v) V R :=
  ⟨h.below.setCell h.geU _, h.geU, h.geV, h.geR, h.nUV, h.nUR, h.nVR, by rw [← arrI_set]; exact h.cU.set _, h.cV.other _ h.nUV, h.cR.other _ h.nUR⟩
theorem KM.setV (h : KM w0 W n bU bV bR U V R) (k : Nat) (v : Int) : KM w0 (W.setCell ⟨bV, k, none⟩ (.int .i64 v)) n bU bV bR U (up V k v) R :=
  ⟨h.below.setCell h.geV _, h.geU, h.geV, h.geR, h.nUV, h.nUR, h.nVR, h.cU.other _ (Ne.symm h.nUV), by rw [← arrI_set]; exact h.cV.set _, h.cR.other _ h.nVR⟩
theorem KM.setR (h : KM w0 W n bU bV bR U V R) (k : Nat) (v : Int) : KM w0 (W.setCell ⟨bR, k, none⟩ (.int .i64 v)) n bU bV bR U V (up R k v) :=
  ⟨h.below.setCell h.geR _, h.geU, h.geV, h.geR, h.nUV, h.nUR, h.nVR, h.cU.other _ (Ne.symm h.nUR), h.cV.other _ (Ne.symm h.nVR), by rw [← arrI_set]; exact h.cR.set _⟩
theorem KM.drew (h : KM w0 W n bU bV bR U V R) : KM w0 W.drew n bU bV bR U V R := ⟨h.below.drew, h.geU, h.geV, h.geR, h.nUV, h.nUR, h.nVR, h.cU, h.cV, h.cR⟩
theorem KM.xt (h : KM w0 W n bU bV bR U V R) (g : Gr) : KM w0 (xt W g) n bU bV bR U V R := ⟨Below.xt h.below h.below.size g, h.geU, h.geV, h.geR, h.nUV, h.nUR, h.nVR, h.cU.xt g, h.cV.xt g, h.cR.xt g⟩
theorem KM.alloc (h : KM w0 W n bU bV bR U V R) (o : Obj) : KM w0 (W.alloc o) n bU bV bR U V R := ⟨h.below.alloc h.below.size o, h.geU, h.geV, h.geR, h.nUV, h.nUR, h.nVR, h.cU.alloc o, h.cV.alloc o, h.cR.alloc o⟩
theorem KM.o (h : KM w0 W n bU bV bR U V R) : old bU W ∧ old bV W ∧ old bR W := ⟨h.cU.lt, h.cV.lt, h.cR.lt⟩
theorem KM.rU (h : KM w0 W n bU bV bR U V R) {k : Nat} (hk : k < n) : W.cell? ⟨bU, k, none⟩ = some (.int .i64 (U k)) ∧ W.frozen? ⟨bU, k, none⟩ = false := ⟨h.cU.cell (arrI_get hk), h.cU.frozen⟩
theorem KM.rV (h : KM w0 W n bU bV bR U V R) {k : Nat} (hk : k < n + 1) : W.cell? ⟨bV, k, none⟩ = some (.int .i64 (V k)) ∧ W.frozen? ⟨bV, k, none⟩ = false := ⟨h.cV.cell (arrI_get hk), h.cV.frozen⟩
theorem KM.rR (h : KM w0 W n bU bV bR U V R) {k : Nat} (hk : k < n + 1) : W.cell? ⟨bR, k, none⟩ = some (.int .i64 (R k)) ∧ W.frozen? ⟨bR, k, none⟩ = false := ⟨h.cR.cell (arrI_get hk), h.cR.frozen⟩
end
/-- And distances, ways and what is done. -/
structure LM (w0 W : World) (n bU bV bR bD bF bN : Nat) (U V R D F : Nat → Int) (N : Nat → Bool) : Prop where
  below : Below w0.heap.size w0 W
  geU : w0.heap.size ≤ bU
  geV : w0.heap.size ≤ bV
  geR : w0.heap.size ≤ bR
  geD : w0.heap.size ≤ bD
  geF : w0.heap.size ≤ bF
  geN : w0.heap.size ≤ bN
  nUV : bU ≠ bV
  nUR : bU ≠ bR
  nUD : bU ≠ bD
  nUF : bU ≠ bF
  nUN : bU ≠ bN
  nVR : bV ≠ bR
  nVD : bV ≠ bD
  nVF : bV ≠ bF
  nVN : bV ≠ bN
  nRD : bR ≠ bD
  nRF : bR ≠ bF
  nRN : bR ≠ bN
  nDF : bD ≠ bF
  nDN : bD ≠ bN
  nFN : bF ≠ bN
  cU : Blk W bU (arrI n U) 3
  cV : Blk W bV (arrI (n + 1) V) 3
  cR : Blk W bR (arrI (n + 1) R) 3
  cD : Blk W bD (arrI n D) 3
  cF : Blk W bF (arrI n F) 3
  cN : Blk W bN (arrB (n + 1) N) 4
section
variable {w0 W W' : World} {n bU bV bR bD bF bN : Nat} {U V R D F : Nat → Int} {N : Nat → Bool}
theorem LM.setU (h : LM w0 W n bU bV bR bD bF bN U V R D F N) (k : Nat) (v : Int) : LM w0 (W.setCell ⟨bU, k, none⟩ (.int .i64 v)) n bU bV bR bD bF bN (up U k v) V R D F N :=
  ⟨h.below.setCell h.geU _, h.geU, h.geV, h.geR, h.geD, h.geF, h.geN, h.nUV, h.nUR, h.nUD, h.nUF, h.nUN, h.nVR, h.nVD, h.nVF, h.nVN, h.nRD, h.nRF, h.nRN, h.nDF, h.nDN, h.nFN, by rw [← arrI_set]; exact h.cU.set _, h.cV.other _ h.nUV, h.cR.other _ h.nUR, h.cD.other _ h.nUD, h.cF.other _ h.nUF, h.cN.other _ h.nUN⟩
theorem LM.setV (h : LM w0 W n bU bV bR bD bF bN U V R D F N) (k : Nat) (v : Int) : LM w0 (W.setCell ⟨bV, k, none⟩ (.int .i64 v)) n bU bV bR bD bF bN U (up V k v) R D F N :=
  ⟨h.below.setCell h.geV _, h.geU, h.geV, h.geR, h.geD, h.geF, h.geN, h.nUV, h.nUR, h.nUD, h.nUF, h.nUN, h.nVR, h.nVD, h.nVF, h.nVN, h.nRD, h.nRF, h.nRN, h.nDF, h.nDN, h.nFN, h.cU.other _ (Ne.symm h.nUV), by rw [← arrI_set]; exact h.cV.set _, h.cR.other _ h.nVR, h.cD.other _ h.nVD, h.cF.other _ h.nVF, h.cN.other _ h.nVN⟩
theorem LM.setR (h : LM w0 W n bU bV bR bD bF bN U V R D F N) (k : Nat) (v : Int) : LM w0 (W.setCell ⟨bR, k, none⟩ (.int .i64 v)) n bU bV bR bD bF bN U V (up R k v) D F N :=
  ⟨h.below.setCell h.geR _, h.geU, h.geV, h.geR, h.geD, h.geF, h.geN, h.nUV, h.nUR, h.nUD, h.nUF, h.nUN, h.nVR, h.nVD, h.nVF, h.nVN, h.nRD, h.nRF, h.nRN, h.nDF, h.nDN, h.nFN, h.cU.other _ (Ne.symm h.nUR), h.cV.other _ (Ne.symm h.nVR), by rw [← arrI_set]; exact h.cR.set _, h.cD.other _ h.nRD, h.cF.other _ h.nRF, h.cN.other _ h.nRN⟩
theorem LM.setD (h : LM w0 W n bU bV bR bD bF bN U V R D F N) (k : Nat) (v : Int) : LM w0 (W.setCell ⟨bD, k, none⟩ (.int .i64 v)) n bU bV bR bD bF bN U V R (up D k v) F N :=
  ⟨h.below.setCell h.geD _, h.geU, h.geV, h.geR, h.geD, h.geF, h.geN, h.nUV, h.nUR, h.nUD, h.nUF, h.nUN, h.nVR, h.nVD, h.nVF, h.nVN, h.nRD, h.nRF, h.nRN, h.nDF, h.nDN, h.nFN, h.cU.other _ (Ne.symm h.nUD), h.cV.other _ (Ne.symm h.nVD), h.cR.other _ (Ne.symm h.nRD), by rw [← arrI_set]; exact h.cD.set _, h.cF.other _ h.nDF, h.cN.other _ h.nDN⟩
theorem LM.setF (h : LM w0 W n bU bV bR bD bF bN U V R D F N) (k : Nat) (v : Int) : LM w0 (W.setCell ⟨bF, k, none⟩ (.int .i64 v)) n bU bV bR bD bF bN U V R D (up F k v) N :=
  ⟨h.below.setCell h.geF _, h.geU, h.geV, h.geR, h.geD, h.geF, h.geN, h.nUV, h.nUR, h.nUD, h.nUF, h.nUN, h.nVR, h.nVD, h.nVF, h.nVN, h.nRD, h.nRF, h.nRN, h.nDF, h.nDN, h.nFN, h.cU.other _ (Ne.symm h.nUF), h.cV.other _ (Ne.symm h.nVF), h.cR.other _ (Ne.symm h.nRF), h.cD.other _ (Ne.symm h.nDF), by rw [← arrI_set]; exact h.cF.set _, h.cN.other _ h.nFN⟩
theorem LM.setN (h : LM w0 W n bU bV bR bD bF bN U V R D F N) (k : Nat) (v : Bool) : LM w0 (W.setCell ⟨bN, k, none⟩ (.bool v)) n bU bV bR bD bF bN U V R D F (upb N k v) :=
  ⟨h.below.setCell h.geN _, h.geU, h.geV, h.geR, h.geD, h.geF, h.geN, h.nUV, h.nUR, h.nUD, h.nUF, h.nUN, h.nVR, h.nVD, h.nVF, h.nVN, h.nRD, h.nRF, h.nRN, h.nDF, h.nDN, h.nFN, h.cU.other _ (Ne.symm h.nUN), h.cV.other _ (Ne.symm h.nVN), h.cR.other _ (Ne.symm h.nRN), h.cD.other _ (Ne.symm h.nDN), h.cF.other _ (Ne.symm h.nFN), by rw [← arrB_put]; exact h.cN.set _⟩
theorem LM.drew (h : LM w0 W n bU bV bR bD bF bN U V R D F N) : LM w0 W.drew n bU bV bR bD bF bN U V R D F N := ⟨h.below.drew, h.geU, h.geV, h.geR, h.geD, h.geF, h.geN, h.nUV, h.nUR, h.nUD, h.nUF, h.nUN, h.nVR, h.nVD, h.nVF, h.nVN, h.nRD, h.nRF, h.nRN, h.nDF, h.nDN, h.nFN, h.cU, h.cV, h.cR, h.cD, h.cF, h.cN⟩
theorem LM.xt (h : LM w0 W n bU bV bR bD bF bN U V R D F N) (g : Gr) : LM w0 (xt W g) n bU bV bR bD bF bN U V R D F N := ⟨Below.xt h.below h.below.size g, h.geU, h.geV, h.geR, h.geD, h.geF, h.geN, h.nUV, h.nUR, h.nUD, h.nUF, h.nUN, h.nVR, h.nVD, h.nVF, h.nVN, h.nRD, h.nRF, h.nRN, h.nDF, h.nDN, h.nFN, h.cU.xt g, h.cV.xt g, h.cR.xt g, h.cD.xt g, h.cF.xt g, h.cN.xt g⟩
theorem LM.alloc (h : LM w0 W n bU bV bR bD bF bN U V R D F N) (o : Obj) : LM w0 (W.alloc o) n bU bV bR bD bF bN U V R D F N := ⟨h.below.alloc h.below.size o, h.geU, h.geV, h.geR, h.geD, h.geF, h.geN, h.nUV, h.nUR, h.nUD, h.nUF, h.nUN, h.nVR, h.nVD, h.nVF, h.nVN, h.nRD, h.nRF, h.nRN, h.nDF, h.nDN, h.nFN, h.cU.alloc o, h.cV.alloc o, h.cR.alloc o, h.cD.alloc o, h.cF.alloc o, h.cN.alloc o⟩
theorem LM.o (h : LM w0 W n bU bV bR bD bF bN U V R D F N) : old bU W ∧ old bV W ∧ old bR W ∧ old bD W ∧ old bF W ∧ old bN W := ⟨h.cU.lt, h.cV.lt, h.cR.lt, h.cD.lt, h.cF.lt, h.cN.lt⟩
theorem LM.rU (h : LM w0 W n bU bV bR bD bF bN U V R D F N) {k : Nat} (hk : k < n) : W.cell? ⟨bU, k, none⟩ = some (.int .i64 (U k)) ∧ W.frozen? ⟨bU, k, none⟩ = false := ⟨h.cU.cell (arrI_get hk), h.cU.frozen⟩
theorem LM.rV (h : LM w0 W n bU bV bR bD bF bN U V R D F N) {k : Nat} (hk : k < n + 1) : W.cell? ⟨bV, k, none⟩ = some (.int .i64 (V k)) ∧ W.frozen? ⟨bV, k, none⟩ = false := ⟨h.cV.cell (arrI_get hk), h.cV.frozen⟩
theorem LM.rR (h : LM w0 W n bU bV bR bD bF bN U V R D F N) {k : Nat} (hk : k < n + 1) : W.cell? ⟨bR, k, none⟩ = some (.int .i64 (R k)) ∧ W.frozen? ⟨bR, k, none⟩ = false := ⟨h.cR.cell (arrI_get hk), h.cR.frozen⟩
theorem LM.rD (h : LM w0 W n bU bV bR bD bF bN U V R D F N) {k : Nat} (hk : k < n) : W.cell? ⟨bD, k, none⟩ = some (.int .i64 (D k)) ∧ W.frozen? ⟨bD, k, none⟩ = false := ⟨h.cD.cell (arrI_get hk), h.cD.frozen⟩
theorem LM.rF (h : LM w0 W n bU bV bR bD bF bN U V R D F N) {k : Nat} (hk : k < n) : W.cell? ⟨bF, k, none⟩ = some (.int .i64 (F k)) ∧ W.frozen? ⟨bF, k, none⟩ = false := ⟨h.cF.cell (arrI_get hk), h.cF.frozen⟩
theorem LM.rN (h : LM w0 W n bU bV bR bD bF bN U V R D F N) {k : Nat} (hk : k < n + 1) : W.cell? ⟨bN, k, none⟩ = some (.bool (N k)) ∧ W.frozen? ⟨bN, k, none⟩ = false := ⟨h.cN.cell (arrB_get hk), h.cN.frozen⟩
end
section
variable {w0 W : World} {n bU bV bR bD bF bN : Nat} {U V R D F : Nat → Int} {N : Nat → Bool}
theorem LM.k (h : LM w0 W n bU bV bR bD bF bN U V R D F N) : KM w0 W n bU bV bR U V R := ⟨h.below, h.geU, h.geV, h.geR, h.nUV, h.nUR, h.nVR, h.cU, h.cV, h.cR⟩
end
end Go.Proofs.Ytjiknjcmfiapjaa


/- Plain laws: rows exchanged, a number added to all costs; memory of copied rows. Conditions stand in each theorem. -/
import Derived.Test.YtjiknjcmfiapjaaBotE
import Derived.Test.YtjiknjcmfiapjaaBotC
import Derived.Laws.OwnMore
namespace Go.Proofs.Ytjiknjcmfiapjaa
open Go.RowKit
set_option linter.unusedVariables false
set_option linter.unusedSimpArgs false

def sgm (i k r : Nat) : Nat := if r = i then k else if r = k then i else r
theorem sgm_sgm (i k r : Nat) : sgm i k (sgm i k r) = r := by
  unfold sgm
  repeat' split
  all_goals omega
theorem sgm_lt {i k r n : Nat} (hi : i < n) (hk : k < n) (hr : r < n) : sgm i k r < n := by
  unfold sgm
  repeat' split
  all_goals omega
theorem sgm_prm {i k n : Nat} (hi : i < n) (hk : k < n) : Prm (sgm i k) n :=
  ⟨fun r hr => sgm_lt hi hk hr, fun a _ b _ e => by rw [← sgm_sgm i k a, e, sgm_sgm]⟩
def swG (G : Nat → List Int) (i k r : Nat) : List Int := G (sgm i k r)
theorem swG_swG (G : Nat → List Int) (i k : Nat) : swG (swG G i k) i k = G := by funext r; simp [swG, sgm_sgm]
section
variable {G : Nat → List Int} {n i k : Nat} {g s m : Int}
theorem cst_swG (r c : Nat) : cst (swG G i k) r c = cst G (sgm i k r) c := rfl
theorem mst_eq {G G' : Nat → List Int} {l l' : List Int} (h : ∀ b, mstC G l n ≤ b ↔ mstC G' l' n ≤ b) : mstC G l n = mstC G' l' n := by
  have h1 := (h (mstC G' l' n)).2 (Int.le_refl _)
  have h2 := (h (mstC G l n)).1 (Int.le_refl _)
  omega
theorem xch (hi : i < n) (hk : k < n) {l : List Int} (h : colsB l n = true) : ∃ l', colsB l' n = true ∧ mstC (swG G i k) l' n = mstC G l n ∧ sumC (swG G i k) l' n = sumC G l n := by
  have hp := cols_prm h
  have hs := sgm_prm hi hk
  obtain ⟨hc, hl⟩ := colsB_iff.1 h
  have hN : ∀ r, r < n → colN ((List.range n).map fun r => l.getD (sgm i k r) 0) r = colN l (sgm i k r) := fun r hr => by
    unfold colN
    congr 1
    simp [List.getD, hr]
  refine ⟨(List.range n).map fun r => l.getD (sgm i k r) 0, ?_, ?_, ?_⟩
  · refine prm_cols (by simp) (fun r hr => ?_) ⟨fun r hr => ?_, fun a ha b hb e => ?_⟩
    · have := (colAt_iff.1 (hc _ (sgm_lt hi hk hr))).1
      simpa [List.getD, hr] using this
    · rw [hN r hr]; exact hp.lt _ (sgm_lt hi hk hr)
    · rw [hN a ha, hN b hb] at e
      have := hp.inj _ (sgm_lt hi hk ha) _ (sgm_lt hi hk hb) e
      rw [← sgm_sgm i k a, this, sgm_sgm]
  · refine mst_eq fun b => ?_
    rw [mstC_le, mstC_le]
    refine and_congr Iff.rfl ⟨fun h r hr => ?_, fun h r hr => ?_⟩
    · have := h _ (sgm_lt hi hk hr)
      rw [hN _ (sgm_lt hi hk hr), cst_swG, sgm_sgm] at this
      exact this
    · rw [hN _ hr, cst_swG]
      exact h _ (sgm_lt hi hk hr)
  · rw [sumC_sm, sumC_sm, ← hs.sum fun r => cst G r (colN l r)]
    exact sm_congr n fun r hr => by rw [hN _ hr, cst_swG]
theorem Opt.xch (hi : i < n) (hk : k < n) (h : Opt G n g s) : Opt (swG G i k) n g s := by
  obtain ⟨l, h1, h2, h3⟩ := h.is
  obtain ⟨l', h4, h5, h6⟩ := Go.Proofs.Ytjiknjcmfiapjaa.xch (G := G) hi hk h1
  refine ⟨⟨l', h4, by omega, by omega⟩, fun L hL => ?_⟩
  obtain ⟨L', h7, h8, h9⟩ := Go.Proofs.Ytjiknjcmfiapjaa.xch (G := swG G i k) hi hk hL
  rw [swG_swG] at h8 h9
  have := h.lo L' h7
  omega
theorem Cst.xch (hi : i < n) (hk : k < n) (h : Cst G n) : Cst (swG G i k) n :=
  ⟨fun r hr => h.len _ (sgm_lt hi hk hr), fun r hr c hc => h.rng _ (sgm_lt hi hk hr) c hc, h.pos, h.le⟩

/-- A number is added to all costs. -/
def hiG (G : Nat → List Int) (m : Int) (r : Nat) : List Int := (G r).map (· + m)
theorem cst_hiG (h : Cst G n) {r c : Nat} (hr : r < n) (hc : c < n) : cst (hiG G m) r c = cst G r c + m := by
  have := h.len r hr
  simp [cst, hiG, List.getD, show c < (G r).length by omega]
theorem hi_sum (h : Cst G n) {l : List Int} (hl : colsB l n = true) : sumC (hiG G m) l n = sumC G l n + n * m := by
  have hp := cols_prm hl
  rw [sumC_sm, sumC_sm, ← sm_const m n, ← sm_add]
  exact sm_congr n fun r hr => cst_hiG h hr (hp.lt r hr)
theorem hi_mst (h : Cst G n) (hm : 0 ≤ m) {l : List Int} (hl : colsB l n = true) : mstC (hiG G m) l n = mstC G l n + m := by
  have hp := cols_prm hl
  have hpos := h.pos
  have hn1 : 0 < n := by omega
  have a := (mstC_le (G := G) (l := l) (b := mstC G l n) n).1 (Int.le_refl _)
  have b := (mstC_le (G := hiG G m) (l := l) (b := mstC (hiG G m) l n) n).1 (Int.le_refl _)
  have h1 : mstC (hiG G m) l n ≤ mstC G l n + m := by
    rw [mstC_le]
    refine ⟨by omega, fun r hr => ?_⟩
    rw [cst_hiG h hr (hp.lt r hr)]
    have := a.2 r hr
    omega
  have h2 : mstC G l n ≤ mstC (hiG G m) l n - m := by
    rw [mstC_le]
    refine ⟨?_, fun r hr => ?_⟩
    · have := b.2 0 hn1
      rw [cst_hiG h hn1 (hp.lt 0 hn1)] at this
      have := (h.c hn1 (hp.lt 0 hn1)).1
      omega
    · have := b.2 r hr
      rw [cst_hiG h hr (hp.lt r hr)] at this
      omega
  omega
theorem Opt.hi (hC : Cst G n) (hm : 0 ≤ m) (h : Opt G n g s) : Opt (hiG G m) n (g + m) (s + n * m) := by
  obtain ⟨l, h1, h2, h3⟩ := h.is
  refine ⟨⟨l, h1, by rw [hi_mst hC hm h1, h2], by rw [hi_sum hC h1, h3]⟩, fun L hL => ?_⟩
  rw [hi_mst hC hm hL, hi_sum hC hL]
  have := h.lo L hL
  generalize (n : Int) * m = p
  omega
theorem Cst.hi (h : Cst G n) (hm : 0 ≤ m) (hb : ∀ r, r < n → ∀ c, c < (G r).length → (G r).getD c 0 ≤ 17592186044416 - m) : Cst (hiG G m) n :=
  ⟨fun r hr => by simp [hiG, h.len r hr], fun r hr c hc => by
    have h1 := h.rng r hr c hc
    have hl := h.len r hr
    have h2 := hb r hr c (by omega)
    have e : (hiG G m r).getD c 0 = (G r).getD c 0 + m := cst_hiG h hr hc
    rw [e]; omega, h.pos, h.le⟩
def hiL (l : List Int) (m : Int) (j : Nat) : List Int := (l.take j).map (· + m)
theorem hiL_zero (l : List Int) (m : Int) : hiL l m 0 = [] := by simp [hiL]
theorem hiL_snoc {l : List Int} {m : Int} {j : Nat} (hj : j < l.length) : hiL l m (j + 1) = hiL l m j ++ [l.getD j 0 + m] := by
  unfold hiL
  rw [List.take_add_one, List.map_append]
  simp [List.getD, hj]
theorem hiL_len {l : List Int} {m : Int} {j : Nat} (hj : j ≤ l.length) : (hiL l m j).length = j := by simp [hiL]; omega
theorem hiL_all {l : List Int} {m : Int} : hiL l m l.length = l.map (· + m) := by simp [hiL]
end

/-- The rows' slices as they lie. -/
def rwV (w : World) (b o n : Nat) : List Value := (List.range n).map fun i => (w.cell? ⟨b, o + i, none⟩).getD (.slice none 0 0)
section
variable {w w' : World} {b o n : Nat} {G : Nat → List Int}
theorem rwV_len : (rwV w b o n).length = n * 1 := by simp [rwV]
theorem rwV_get {i : Nat} {v : Value} (hi : i < n) (h : w.cell? ⟨b, o + i, none⟩ = some v) : (rwV w b o n)[i]? = some v := by simp [rwV, hi, h]
theorem rwV_news (hc : ∀ i, i < n → ∃ A c, w.cell? ⟨b, o + i, none⟩ = some (.slice A (G i).length c) ∧ RowI w A (G i)) : ∀ j u, (rwV w b o n)[j]? = some u → w.cell? ((⟨b, o, none⟩ : Addr).add j) = some u := by
  intro j u h
  have hj : j < n := by
    have := (List.getElem?_eq_some_iff.1 h).1
    simpa [rwV] using this
  obtain ⟨A, c, e, _⟩ := hc j hj
  rw [rwV_get hj e] at h
  rw [← h, ← e]
  unfold Addr.add
  split <;> simp_all
theorem rwV_one (hc : ∀ i, i < n → ∃ A c, w.cell? ⟨b, o + i, none⟩ = some (.slice A (G i).length c) ∧ RowI w A (G i)) : ∀ u ∈ rwV w b o n, u.oneCell' = true := by
  intro u hu
  obtain ⟨i, hi, rfl⟩ := List.mem_map.1 hu
  obtain ⟨A, c, e, _⟩ := hc i (List.mem_range.1 hi)
  rw [e]
  rfl
/-- Two of the copied rows are exchanged. -/
theorem rwV_swap {xs : List Value} {gb q i k : Nat} {w0 : World} (hb0 : Below w0.heap.size w0 w') (ho : w'.ownsRow w0.heap.size 23 1 (.slice (some ⟨gb, 0, none⟩) n q) n xs) (hi : i < n) (hk : k < n)
    (hc : ∀ r, r < n → ∃ A c, xs[r]? = some (.slice A (G r).length c) ∧ RowI w0 A (G r)) {vi vk : Value} (hvi : xs[i]? = some vi) (hvk : xs[k]? = some vk) :
    GRow ((w'.setCell ⟨gb, i, none⟩ vk).setCell ⟨gb, k, none⟩ vi) (some ⟨gb, 0, none⟩) n (swG G i k) ∧ Below w0.heap.size w0 ((w'.setCell ⟨gb, i, none⟩ vk).setCell ⟨gb, k, none⟩ vi) := by
  have hg := ho.lt gb rfl
  have h2 := ((ho.stored i vk).1.stored k vi).1
  have hl : xs.length = n := by have := ho.1; omega
  have hb : Below w0.heap.size w0 ((w'.setCell ⟨gb, i, none⟩ vk).setCell ⟨gb, k, none⟩ vi) := (hb0.setCell hg.1 _).setCell hg.1 _
  refine ⟨⟨fun _ => ⟨gb, 0, rfl, (h2.lt gb rfl).2, fun r hr => ?_⟩⟩, hb⟩
  obtain ⟨A, c, e, hrow⟩ := hc _ (sgm_lt hi hk hr)
  refine ⟨A, c, ?_, hrow.below hb⟩
  rw [Nat.zero_add]
  refine own_at h2 ?_
  show ((xs.set i vk).set k vi)[r]? = some (.slice A (swG G i k r).length c)
  unfold swG
  unfold sgm at e ⊢
  rw [List.getElem?_set, List.getElem?_set]
  by_cases e1 : k = r
  · subst e1
    by_cases e2 : k = i
    · subst e2
      simp only [List.length_set, hl, hk, if_true] at e ⊢
      rw [← hvi]; exact e
    · simp only [List.length_set, hl, hk, if_true, e2, if_false] at e ⊢
      rw [← hvi]; exact e
  · rw [if_neg e1]
    by_cases e2 : i = r
    · subst e2
      simp only [hl, hi, if_true] at e ⊢
      rw [← hvk]; exact e
    · have e3 : ¬ r = i := fun h => e2 h.symm
      have e4 : ¬ r = k := fun h => e1 h.symm
      simp only [e2, e3, e4, if_false] at e ⊢
      exact e
end
end Go.Proofs.Ytjiknjcmfiapjaa

/- The plain law of the theorem of stage 29: waves repeat, sparkles stay, equal products give equal colours. No condition but those in each theorem. -/
import Derived.Test.YtjnajibflalmbaaEffP
namespace Go.Proofs.Ytjnajibflalmbaa

theorem start_of {e : Eff} (h : effValid e = true) {t : Int} (h1 : e.fr ≤ t) :
    (e.fr + (t - e.fr) / e.period * e.period - e.fr) / e.period = (t - e.fr) / e.period ∧ e.fr ≤ e.fr + (t - e.fr) / e.period * e.period ∧ e.fr + (t - e.fr) / e.period * e.period ≤ t := by
  have hp := span_le h
  have h2 : 0 ≤ (t - e.fr) / e.period := Int.ediv_nonneg (by omega) (by omega)
  have h3 : (t - e.fr) / e.period * e.period ≤ t - e.fr := Int.ediv_mul_le _ (by omega)
  have h4 : 0 ≤ (t - e.fr) / e.period * e.period := Int.mul_nonneg h2 (by omega)
  refine ⟨?_, by omega, by omega⟩
  rw [show e.fr + (t - e.fr) / e.period * e.period - e.fr = (t - e.fr) / e.period * e.period by omega]
  exact Int.mul_ediv_cancel _ (by omega)

theorem colour_spark {e : Eff} (hk : e.kind = 3) (i : Int) (p p' : V3) {s t : Int} (h : (s - e.fr) / e.period = (t - e.fr) / e.period) : colourAt e i p' s = colourAt e i p t := by
  simp [colourAt, litAt, hk, h]

theorem colour_move {e : Eff} (hk : e.kind ≠ 3) (i j : Int) (p p' : V3) {s t : Int} (h : (s - e.fr + phase e p') % e.period = (t - e.fr + phase e p) % e.period) : colourAt e j p' s = colourAt e i p t := by
  simp [colourAt, litAt, hk, h]

theorem colour_later {e : Eff} (hk : e.kind ≠ 3) (i : Int) (p : V3) (t n : Int) : colourAt e i p (t + n * e.period) = colourAt e i p t := by
  refine colour_move hk i i p p ?_
  rw [show t + n * e.period - e.fr + phase e p = (t - e.fr + phase e p) + n * e.period by omega]
  exact Int.add_mul_emod_self_right ..

def vplus (p q : V3) : V3 := ⟨p.x + q.x, p.y + q.y, p.z + q.z⟩
theorem phase_plus {e : Eff} {p q : V3} (h : dot3 e.along q = 0) : phase e (vplus p q) = phase e p := by
  have : dot3 e.along (vplus p q) = dot3 e.along p := by
    unfold dot3 vplus at *
    simp only [Int.mul_add]
    omega
  simp [phase, this]

theorem colour_plus {e : Eff} (hk : e.kind ≠ 3) (i j : Int) {p q : V3} (t : Int) (h : dot3 e.along q = 0) : colourAt e j (vplus p q) t = colourAt e i p t :=
  colour_move hk i j p (vplus p q) (by rw [phase_plus h])

theorem mixPart_zero {a b den : Int} (hd : 1 ≤ den) : mixPart a b 0 den = a := by
  unfold mixPart
  rw [show 2 * (a * (den - 0) + b * 0) + den = den + a * (2 * den) by rw [Int.mul_zero, Int.sub_zero, Int.mul_left_comm]; omega]
  rw [Int.add_mul_ediv_right _ _ (by omega), Int.ediv_eq_zero_of_lt (by omega) (by omega)]
  omega

theorem colour_first {e : Eff} (h : effValid e = true) (hk : e.kind = 1) (i : Int) (p : V3) (t : Int) (hz : (t - e.fr + phase e p) % e.period = 0) : colourAt e i p t = e.a := by
  have hp := span_le h
  have hw : waveN 0 e.period = 0 := by unfold waveN; rw [if_pos (by omega)]; rfl
  simp only [colourAt, hk, hz, if_pos, hw, mixCol, mixPart_zero hp.2.2.2.1]

theorem colour_none {e : Eff} (h : effValid e = true) (hk : e.kind ≠ 1) (hw : e.width = 0) (i : Int) (p : V3) (t : Int) : colourAt e i p t = e.a := by
  have hp := span_le h
  have h1 := Int.emod_nonneg (t - e.fr + phase e p) (show e.period ≠ 0 by omega)
  have h2 := (number_le e.seed i ((t - e.fr) / e.period)).1
  have hl : litAt e i ((t - e.fr + phase e p) % e.period) (t - e.fr) = false := by
    unfold litAt
    split
    · simp only [hw, decide_eq_false_iff_not]; omega
    · simp only [hw, decide_eq_false_iff_not]; omega
  simp [colourAt, hk, hl]

theorem colour_all {e : Eff} (h : effValid e = true) (hk : e.kind = 2) (hw : e.width = e.period) (i : Int) (p : V3) (t : Int) : colourAt e i p t = e.b := by
  have hp := span_le h
  have h1 := Int.emod_lt_of_pos (t - e.fr + phase e p) (show 0 < e.period by omega)
  simp [colourAt, litAt, hk, hw, h1]

theorem colour_thousand {e : Eff} (hk : e.kind = 3) (hw : e.width = 1000) (i : Int) (p : V3) (t : Int) : colourAt e i p t = e.b := by
  have h2 : numberOf e.seed i ((t - e.fr) / e.period) % 1000 < 1000 := by omega
  simp [colourAt, litAt, hk, hw, h2]

end Go.Proofs.Ytjnajibflalmbaa

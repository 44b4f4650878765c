
/- The plain law of stage 30: what an overlay more changes, and what stays between two changes. No condition. -/
import Derived.Test.YtiikejhkhdmgeaaLigQ
namespace Go.Proofs.Ytiikejhkhdmgeaa
set_option linter.unusedVariables false
set_option linter.unusedSimpArgs false

/-- The lights with an overlay more. -/
def more (L : Li) (o : Ov) : Li := { L with os := L.os ++ [o] }
theorem ov_app {l : List Ov} {o : Ov} {i : Nat} (h : i < l.length) : ov (l ++ [o]) i = ov l i := by
  simp [ov, List.getD, List.getElem?_append_left h]
theorem ov_last {l : List Ov} {o : Ov} : ov (l ++ [o]) l.length = o := by simp [ov, List.getD]
theorem wh_more {L : Li} {o : Ov} {g : List ByteArray} {t : Int} (h : memB g o.g = false ∨ (0 ≤ wh L.os g t L.os.length ∧ o.p < (ov L.os (wh L.os g t L.os.length).toNat).p)) : wh (more L o).os g t (more L o).os.length = wh L.os g t L.os.length := by
  have hl : (more L o).os.length = L.os.length + 1 := by simp [more]
  have he : wh (more L o).os g t L.os.length = wh L.os g t L.os.length := wh_congr fun i hi => by
    have : ov (more L o).os i = ov L.os i := ov_app hi
    exact ⟨by simp only [hitB, this], by rw [this]⟩
  have ho : ov (more L o).os L.os.length = o := ov_last
  have hb := wh_bd L.os g t L.os.length
  rw [hl, wh, he, if_neg]
  rintro ⟨h1, h2⟩
  rw [hitB, ho, Bool.and_eq_true] at h1
  rcases h with h | ⟨h3, h4⟩
  · rw [h1.2] at h; cases h
  · rw [ho] at h2
    have hov : ov (more L o).os (wh L.os g t L.os.length).toNat = ov L.os (wh L.os g t L.os.length).toNat := ov_app (by omega)
    rw [hov] at h2
    omega
theorem col_more {L : Li} {o : Ov} {a : Nat} {p : V3} {t : Int} (h : memB (L.G a) o.g = false ∨ (0 ≤ wh L.os (L.G a) t L.os.length ∧ o.p < (ov L.os (wh L.os (L.G a) t L.os.length).toNat).p)) : colC (more L o) a p t = colC L a p t := by
  have e := wh_more h
  have hG : (more L o).G = L.G := rfl
  have hC : (more L o).cs = L.cs := rfl
  have ha : ((a : Nat) : Int).toNat = a := by omega
  have hb := wh_bd L.os (L.G a) t L.os.length
  unfold colC
  rw [hG, hC, ha, e]
  by_cases h0 : 0 ≤ wh L.os (L.G a) t L.os.length
  · have hov : ov (more L o).os (wh L.os (L.G a) t L.os.length).toNat = ov L.os (wh L.os (L.G a) t L.os.length).toNat := ov_app (by omega)
    rw [if_pos h0, if_pos h0, hov]
  · rw [if_neg h0, if_neg h0]
theorem fine_more {L : Li} {o : Ov} {a t : Int} (h : fineE L a t = 0) (hv : liB (more L o) = true) : fineE (more L o) a t = 0 :=
  fine_zero.2 ⟨hv, (fine_zero.1 h).2.1, (fine_zero.1 h).2.2⟩

/-! ### The changes -/
theorem rawO_cue {g : List ByteArray} {cs : List Cu} {os : List Ov} {x : Int} : ∀ k, x ∈ rawC g cs cs.length → x ∈ rawO g cs os k
  | 0, h => h
  | k + 1, h => by rw [rawO, List.mem_append]; exact .inl (rawO_cue k h)
theorem rawC_zero (g : List ByteArray) (cs : List Cu) : ∀ k, (0 : Int) ∈ rawC g cs k
  | 0 => by simp [rawC]
  | k + 1 => by rw [rawC, List.mem_append]; exact .inl (rawC_zero g cs k)
theorem rawO_ov {g : List ByteArray} {cs : List Cu} {os : List Ov} {i : Nat} (hm : memB g (ov os i).g = true) : ∀ k, i < k → (ov os i).e.fr ∈ rawO g cs os k ∧ (ov os i).e.to ∈ rawO g cs os k
  | 0, h => absurd h (by omega)
  | k + 1, h => by
    rw [rawO, List.mem_append, List.mem_append]
    by_cases e : i = k
    · subst e
      have : ovAdd g (ov os i) = [(ov os i).e.fr, (ov os i).e.to] := by rw [ovAdd, if_pos hm]
      rw [this]
      exact ⟨.inr (by simp), .inr (by simp)⟩
    · have := rawO_ov (cs := cs) hm k (by omega)
      exact ⟨.inl this.1, .inl this.2⟩
theorem rawC_nonneg {g : List ByteArray} {cs : List Cu} (hc : cusB cs = true) : ∀ k, k ≤ cs.length → ∀ x ∈ rawC g cs k, 0 ≤ x
  | 0, _, x, h => by simp [rawC] at h; omega
  | k + 1, hk, x, h => by
    rw [rawC, List.mem_append] at h
    rcases h with h | h
    · exact rawC_nonneg hc k (by omega) x h
    · have h1 := (cusB_iff.1 hc).1 k (by omega)
      simp only [cuOk, isT, Bool.and_eq_true, within_iff] at h1
      rw [cueAdd] at h
      split at h
      · split at h
        · simp at h; omega
        · simp at h; omega
      · simp at h
theorem rawO_nonneg {g : List ByteArray} {cs : List Cu} {os : List Ov} (hc : cusB cs = true) (ho : ∀ i, i < os.length → ovB (ov os i) = true) : ∀ k, k ≤ os.length → ∀ x ∈ rawO g cs os k, 0 ≤ x
  | 0, _, x, h => rawC_nonneg hc cs.length (Nat.le_refl _) x h
  | k + 1, hk, x, h => by
    rw [rawO, List.mem_append] at h
    rcases h with h | h
    · exact rawO_nonneg hc ho k (by omega) x h
    · have h1 := ho k (by omega)
      simp only [ovB, Bool.and_eq_true] at h1
      have h2 := span_le h1.2
      rw [ovAdd] at h
      split at h
      · simp at h; omega
      · simp at h
/-- The last of the first k numbers up to t, 0 before. -/
def lastLe (X : List Int) (t : Int) : Nat → Int
  | 0 => 0
  | k + 1 => if X.getD k 0 ≤ t then X.getD k 0 else lastLe X t k
structure ChgOk (L : Li) (a : Nat) (t : Int) (X : List Int) : Prop where
  pos : 0 < X.length
  first : X.getD 0 0 = 0
  rise : ∀ i, 0 < i → i < X.length → X.getD (i - 1) 0 < X.getD i 0
  lo : 0 ≤ lastLe X t X.length
  hi : lastLe X t X.length ≤ t
  same : wh L.os (L.G a) (lastLe X t X.length) L.os.length = wh L.os (L.G a) t L.os.length
theorem lastLe_le {X : List Int} {t : Int} (ht : 0 ≤ t) : ∀ k, lastLe X t k ≤ t
  | 0 => ht
  | k + 1 => by
    rw [lastLe]; split
    · assumption
    · exact lastLe_le ht k
theorem lastLe_max {X : List Int} {t : Int} (hr : Rise X) (h0 : ∀ x ∈ X, 0 ≤ x) : ∀ k, k ≤ X.length → 0 ≤ lastLe X t k ∧ ∀ j, j < k → X.getD j 0 ≤ t → X.getD j 0 ≤ lastLe X t k
  | 0, _ => ⟨Int.le_refl _, fun j hj => absurd hj (by omega)⟩
  | k + 1, hk => by
    obtain ⟨i1, i2⟩ := lastLe_max hr h0 k (by omega)
    have hkl : k < X.length := by omega
    have hmem : X.getD k 0 ∈ X := by simp [List.getD, hkl]
    have hx0 := h0 _ hmem
    rw [lastLe]
    split
    · refine ⟨hx0, fun j hj hjt => ?_⟩
      by_cases e : j = k
      · subst e; exact Int.le_refl _
      · unfold Rise at hr
        rw [List.pairwise_iff_getElem] at hr
        have := hr j k (by omega) hkl (by omega)
        have hjl : j < X.length := by omega
        simp only [List.getD, List.getElem?_eq_getElem hjl, List.getElem?_eq_getElem hkl, Option.getD_some]
        omega
    · rename_i hn
      refine ⟨i1, fun j hj hjt => ?_⟩
      by_cases e : j = k
      · subst e; exact absurd hjt hn
      · exact i2 j (by omega) hjt
theorem chg_ok {L : Li} {a : Nat} {t : Int} (hv : liB L = true) (ha : a < L.nG) (ht : 0 ≤ t) : ChgOk L a t (chg (L.G a) L.cs L.os) := by
  obtain ⟨q1, q2, q3, q4, q5⟩ := liB_iff.1 hv
  obtain ⟨h1, h2⟩ := refO_spec (L.G a) L.cs L.os L.os.length
  have hX : chg (L.G a) L.cs L.os = refO (L.G a) L.cs L.os L.os.length := rfl
  rw [← hX] at h1 h2
  generalize chg (L.G a) L.cs L.os = X at *
  have hn : ∀ x ∈ X, 0 ≤ x := fun x hx => rawO_nonneg q2 q5 L.os.length (Nat.le_refl _) x ((h2 x).1 hx)
  have hz : (0 : Int) ∈ X := (h2 0).2 (rawO_cue _ (rawC_zero _ _ _))
  have hpos := List.length_pos_of_mem hz
  have hp := h1
  unfold Rise at hp
  rw [List.pairwise_iff_getElem] at hp
  have hget : ∀ i, (h : i < X.length) → X.getD i 0 = X[i] := fun i h => by simp [List.getD, h]
  obtain ⟨m1, m2⟩ := lastLe_max (t := t) h1 hn X.length (Nat.le_refl _)
  have hle := lastLe_le (X := X) ht X.length
  have hall : ∀ x ∈ X, x ≤ t → x ≤ lastLe X t X.length := fun x hx hxt => by
    obtain ⟨j, hj, e⟩ := List.mem_iff_getElem.1 hx
    have := m2 j hj (by rw [hget j hj, e]; exact hxt)
    rwa [hget j hj, e] at this
  refine ⟨hpos, ?_, fun i hi hil => ?_, m1, hle, ?_⟩
  · rw [hget 0 hpos]
    obtain ⟨j, hj, e⟩ := List.mem_iff_getElem.1 hz
    have h0 := hn X[0] (by simp)
    by_cases ej : j = 0
    · subst ej; exact e
    · have := hp 0 j hpos hj (by omega); omega
  · rw [hget _ (by omega), hget i hil]
    exact hp (i - 1) i (by omega) hil (by omega)
  · refine wh_congr fun i hi => ⟨?_, rfl⟩
    rw [hitB, hitB]
    cases hm : memB (L.G a) (ov L.os i).g
    · simp
    · obtain ⟨hf, hto⟩ := rawO_ov (cs := L.cs) hm L.os.length hi
      have hf := (h2 _).2 hf
      have hto := (h2 _).2 hto
      have a1 := hall _ hf
      have a2 := hall _ hto
      congr 1
      rw [Bool.eq_iff_iff]
      simp only [onB, Bool.and_eq_true, decide_eq_true_eq]
      constructor
      · rintro ⟨b1, b2⟩
        refine ⟨by omega, ?_⟩
        rcases Int.lt_or_le t (ov L.os i).e.to with h | h
        · exact h
        · have := a2 h; omega
      · rintro ⟨b1, b2⟩
        exact ⟨a1 b1, by omega⟩
/-- An aircraft with one group, and no overlays. -/
theorem one_group {L : Li} {a : Nat} {p : V3} {t : Int} (hv : liB L = true) (ha : a < L.nG) (h1 : (L.G a).length = 1) (h0 : L.os.length = 0) : valG L.cs (nm (L.G a) 0) t = colC L a p t := by
  obtain ⟨q1, q2, q3, q4, q5⟩ := liB_iff.1 hv
  have ha' : ((a : Nat) : Int).toNat = a := by omega
  have hw : ¬ 0 ≤ wh L.os (L.G a) t L.os.length := by rw [h0]; simp [wh]
  rw [colC, ha', if_neg hw, cueC, h1]
  have hr : rpick L.cs (L.G a) t 1 = if (-1 : Int) < lst L.cs (nm (L.G a) 0) t then (lst L.cs (nm (L.G a) 0) t, nm (L.G a) 0) else (-1, ⟨#[]⟩) := rfl
  have hs := lastT_spec q2 (nm (L.G a) 0) t L.cs.length (Nat.le_refl _)
  have hl : lst L.cs (nm (L.G a) 0) t = lastT L.cs (nm (L.G a) 0) t L.cs.length := rfl
  rw [← hl] at hs
  rcases hs with ⟨e, hk⟩ | ⟨e, _⟩
  · have hr' : rpick L.cs (L.G a) t 1 = (-1, ⟨#[]⟩) := by rw [hr, if_neg (by omega)]
    rw [hr', if_pos (by decide)]
    refine (val_skip (k := 0) (Nat.zero_le _) fun j _ hj => ?_)
    obtain ⟨i, hi, e1, e2⟩ := ofG_mem hj
    rw [← e1]
    exact hk i hi (by rw [e1]; exact e2)
  · have hr' : rpick L.cs (L.G a) t 1 = (lst L.cs (nm (L.G a) 0) t, nm (L.G a) 0) := by rw [hr, if_pos (by omega)]
    rw [hr', if_neg (by show ¬ lst L.cs (nm (L.G a) 0) t < 0; omega)]

end Go.Proofs.Ytiikejhkhdmgeaa

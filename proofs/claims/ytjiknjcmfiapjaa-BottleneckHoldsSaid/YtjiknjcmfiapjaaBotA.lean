
/- The search for cheapest columns: the way back, the rows one after the other, and the columns at the end; plain. Conditions stand in each theorem. -/
import Derived.Test.YtjiknjcmfiapjaaBotH
namespace Go.Proofs.Ytjiknjcmfiapjaa
set_option linter.unusedVariables false
variable {G : Nat → List Int} {n : Nat} {M : Int}

/-- While the rows are moved along the way: column c is the hole. -/
structure Aug (G : Nat → List Int) (n : Nat) (M : Int) (i : Nat) (R U V : Nat → Int) (Dn : Nat → Bool) (od : Nat → Nat) (c0 : Nat) (R' : Nat → Int) (c : Nat) : Prop where
  cn : c ≤ n
  on : Dn c = true ∨ c = c0
  old : ∀ k, k ≤ n → Dn k = true → od k < od c → R' k = R k
  tight : ∀ k, k < n → k ≠ c → 0 ≤ R' k → cst G (R' k).toNat k ≤ M ∧ U (R' k).toNat + V k = cst G (R' k).toNat k
  hi : ∀ k, k ≤ n → k ≠ c → R' k ≤ i
  inj : ∀ a, a ≤ n → a ≠ c → ∀ b, b ≤ n → b ≠ c → 0 ≤ R' a → R' a = R' b → a = b
  cnt : cntp (fun k => decide (k ≠ c) && decide (0 ≤ R' k)) (n + 1) = i + 1
section
variable {R U V Ds Bf R' : Nat → Int} {Dn : Nat → Bool} {od : Nat → Nat} {i t c0 c : Nat}
theorem Aug.start (hW : Way G n M R U V Ds Bf Dn od t c0) (hR : Rws n i R) (hi : i < n) (hn : R n = i) (hc : R c0 < 0) : Aug G n M i R U V Dn od c0 R c0 := by
  have hcn : c0 < n := by
    have := hW.cn
    rcases Nat.lt_or_ge c0 n with h | h
    · exact h
    · obtain rfl : c0 = n := by omega
      omega
  refine ⟨hW.cn, .inr rfl, fun _ _ _ _ => rfl, fun k hk _ h0 => hW.tight k hk h0, fun k hk _ => ?_, fun a ha _ b hb _ h0 e => row_inj hR hn ha hb h0 e, ?_⟩
  · rcases Nat.lt_or_ge k n with h | h
    · have := hR.lt k h; omega
    · obtain rfl : k = n := by omega
      omega
  · rw [cntp, cntp_congr (q := fun k => decide (0 ≤ R k)) n fun k hk => ?_, hR.cnt]
    · have : n ≠ c0 := by omega
      rw [if_pos]
      simp [this, hn]
    · by_cases e : k = c0
      · subst e; simp; omega
      · simp [e]
theorem Aug.next (hW : Way G n M R U V Ds Bf Dn od t c0) (h : Aug G n M i R U V Dn od c0 R' c) (hc : c ≠ n) :
    ∃ b : Nat, Bf c = b ∧ b ≤ n ∧ b ≠ c ∧ od b < od c ∧ R' b = R b ∧ 0 ≤ R b ∧ Aug G n M i R U V Dn od c0 (up R' c (R' b)) b := by
  have hcn : c < n := by have := h.cn; omega
  obtain ⟨b, b1, b2, b3, b4, b5, b6⟩ := hW.path c hcn h.on
  have hbc : b ≠ c := fun e => by subst e; omega
  have hR' := h.old b b2 b3 b4
  have h0 := hW.row b b2 b3
  refine ⟨b, b1, b2, hbc, b4, hR', h0, b2, .inl b3, fun k hk hd ho => ?_, fun k hk hkb h0k => ?_, fun k hk hkb => ?_, fun x hx hxb y hy hyb h0x e => ?_, ?_⟩
  · rw [up_ne fun e => by subst e; omega]
    exact h.old k hk hd (by omega)
  · by_cases e : k = c
    · subst e; rw [up_self, hR']; exact ⟨b5, b6⟩
    · rw [up_ne e] at h0k ⊢; exact h.tight k hk e h0k
  · by_cases e : k = c
    · subst e; rw [up_self]; exact h.hi b b2 hbc
    · rw [up_ne e]; exact h.hi k hk e
  · by_cases ex : x = c <;> by_cases ey : y = c
    · omega
    · subst ex
      rw [up_self] at h0x e
      rw [up_ne ey] at e
      exact absurd (h.inj b b2 hbc y hy ey h0x e).symm hyb
    · subst ey
      rw [up_ne ex] at h0x e
      rw [up_self] at e
      exact absurd (h.inj x hx ex b b2 hbc h0x e) hxb
    · rw [up_ne ex] at h0x e
      rw [up_ne ey] at e
      exact h.inj x hx ex y hy ey h0x e
  · have e1 : cntp (fun k => decide (k = c) || decide (0 ≤ R' k)) (n + 1) = cntp (fun k => decide (k ≠ c) && decide (0 ≤ R' k)) (n + 1) + 1 :=
      cntp_one (n + 1) c (by omega) (by simp) (by simp) fun k _ hk => by simp [hk]
    have e2 : cntp (fun k => decide (k = c) || decide (0 ≤ R' k)) (n + 1) = cntp (fun k => decide (k ≠ b) && decide (0 ≤ up R' c (R' b) k)) (n + 1) + 1 :=
      cntp_one (n + 1) b (by omega) (by simp) (by rw [hR']; simp [h0]) fun k _ hk => by
        by_cases e : k = c
        · subst e; rw [up_self, hR']; simp [h0, hk]
        · rw [up_ne e]; simp [e, hk]
    have := h.cnt
    omega
theorem Aug.fin (h : Aug G n M i R U V Dn od c0 R' n) : Rws n (i + 1) R' ∧ Tgt G n M R' U V := by
  refine ⟨⟨fun k hk => ?_, fun a ha b hb h0 e => h.inj a (by omega) (by omega) b (by omega) (by omega) h0 e, ?_⟩, fun k hk h0 => h.tight k hk (by omega) h0⟩
  · have := h.hi k (by omega) (by omega); omega
  · have := h.cnt
    rw [cntp, cntp_congr (q := fun k => decide (0 ≤ R' k)) n fun k hk => ?_] at this
    · simpa using this
    · have : k ≠ n := by omega
      simp [this]
end

theorem cntp_full {p : Nat → Bool} : ∀ n, cntp p n = n → ∀ k, k < n → p k = true
  | 0, _, k, hk => by omega
  | n + 1, h, k, hk => by
    have := cntp_le p n
    rw [cntp] at h
    by_cases e : k = n
    · subst e
      cases hp : p k with
      | true => rfl
      | false => simp [hp] at h; omega
    · refine cntp_full n ?_ k (by omega)
      split at h <;> omega

/-- What the search leaves. -/
structure Chp (G : Nat → List Int) (n : Nat) (M : Int) (l : List Int) (U V : Nat → Int) : Prop where
  cols : colsB l n = true
  feas : Feas G n M U V
  tight : ∀ r, r < n → cst G r (colN l r) ≤ M ∧ U r + V (colN l r) = cst G r (colN l r)
  u : ∀ r, r < n → 0 ≤ U r ∧ U r ≤ 1125899906842624
  v : ∀ k, k < n → -1125899906842624 ≤ V k ∧ V k ≤ 0
theorem rws_all {R : Nat → Int} (h : Rws n n R) : ∀ k, k < n → 0 ≤ R k := fun k hk => by
  have := cntp_full n h.cnt k hk
  simpa using this
theorem rws_prm {R : Nat → Int} (h : Rws n n R) : Prm (fun k => (R k).toNat) n :=
  ⟨fun k hk => by have := h.lt k hk; have := rws_all h k hk; omega, fun a ha b hb e => by
    have := rws_all h a ha; have := rws_all h b hb
    try dsimp only at e
    exact h.inj a ha b hb (by omega) (by omega)⟩
/-- The columns below k are written. -/
def Colm (R : Nat → Int) (k : Nat) (C : Nat → Int) : Prop := ∀ j, j < k → C (R j).toNat = j
theorem Colm.next {R C : Nat → Int} {k : Nat} (hR : Rws n n R) (hk : k < n) (h : Colm R k C) : Colm R (k + 1) (up C (R k).toNat k) := fun j hj => by
  by_cases e : j = k
  · subst e; exact up_self _ _ _
  · rw [up_ne fun e2 => e ((rws_prm hR).inj j (by omega) k hk e2)]
    exact h j (by omega)
theorem chp_of {R U V C : Nat → Int} (hG : Cst G n) (hM : PM G n M) (hR : Rws n n R) (hP : Pot G n M U V) (hT : Tgt G n M R U V) (hC : Colm R n C) :
    Chp G n M ((List.range n).map C) U V := by
  have hp := rws_prm hR
  have hb := hP.bd hG hM
  have get : ∀ r, r < n → ((List.range n).map C).getD r 0 = C r := fun r hr => by simp [List.getD, hr]
  have key : ∀ r, r < n → ∃ k : Nat, k < n ∧ (R k).toNat = r ∧ C r = k ∧ colN ((List.range n).map C) r = k := fun r hr => by
    obtain ⟨k, hk, e⟩ := hp.hit hr
    try dsimp only at e
    have := hC k hk
    rw [e] at this
    exact ⟨k, hk, e, this, by unfold colN; rw [get r hr, this]; rfl⟩
  have hprm : Prm (colN ((List.range n).map C)) n := by
    refine ⟨fun r hr => ?_, fun a ha b hb e => ?_⟩
    · obtain ⟨k, hk, _, _, e⟩ := key r hr
      omega
    · obtain ⟨k, hk, e1, _, e2⟩ := key a ha
      obtain ⟨k', hk', e1', _, e2'⟩ := key b hb
      have : k = k' := by omega
      subst this
      omega
  refine ⟨prm_cols (by simp) (fun r hr => ?_) hprm, hP.feas, fun r hr => ?_, fun r hr => ?_, fun k hk => ?_⟩
  · obtain ⟨k, hk, _, e, _⟩ := key r hr
    rw [get r hr, e]; omega
  · obtain ⟨k, hk, e1, _, e2⟩ := key r hr
    rw [e2]
    have := hT k hk (rws_all hR k hk)
    rw [e1] at this
    exact this
  · have := hP.u r hr; omega
  · have := hP.v k (by omega); omega
end Go.Proofs.Ytjiknjcmfiapjaa


/- Matchings: ways that change a matching, phases, and the greatest matching; plain. Conditions stand in each theorem. -/
import Derived.Test.YtjiknjcmfiapjaaMatP
namespace Go.Proofs.Ytjiknjcmfiapjaa
set_option linter.unusedVariables false

/-- The right vertices of the left ones, the left vertices of the right ones, the levels. -/
structure St where
  M : Nat → Int
  B : Nat → Int
  V : Nat → Int

variable (G : Nat → List Int)

def augL (aug : St → Nat → Option (St × Bool)) (i : Nat) (lev : Int) : List Int → St → Option (St × Bool)
  | [], s => some (s, false)
  | n :: ns, s =>
    if s.B n.toNat < 0 then some (⟨up s.M i n, up s.B n.toNat i, s.V⟩, true)
    else if s.V (s.B n.toNat).toNat = lev + 1 then
      match aug s (s.B n.toNat).toNat with
      | none => none
      | some (t, true) => some (⟨up t.M i n, up t.B n.toNat i, t.V⟩, true)
      | some (t, false) => augL aug i lev ns t
    else augL aug i lev ns s
def aug : Nat → St → Nat → Option (St × Bool)
  | 0, _, _ => none
  | f + 1, s, i => augL (aug f) i (s.V i) (G i) ⟨s.M, s.B, up s.V i (-1)⟩

/-- A level of a vertex that has one. -/
def lps (V : Nat → Int) (k : Nat) : Bool := decide (0 ≤ V k)

structure Ctx (nL : Nat) : Prop where
  nn : ∀ i, i < nL → ∀ n ∈ G i, 0 ≤ n

/-- A matching, from both sides. -/
structure Inv (nL : Nat) (M B : Nat → Int) : Prop where
  fwd : ∀ k, k < nL → 0 ≤ M k → M k ∈ G k ∧ B (M k).toNat = (k : Int)
  bwd : ∀ n : Nat, 0 ≤ B n → (B n).toNat < nL ∧ M (B n).toNat = (n : Int)
  lowM : ∀ k, -1 ≤ M k
  lowB : ∀ k, -1 ≤ B k

/-- What a search that fails leaves: the matching as it was; the vertices that were seen lead to no free one. -/
structure Fail (nL i : Nat) (s t : St) : Prop where
  M : t.M = s.M
  B : t.B = s.B
  V : ∀ k, t.V k = s.V k ∨ t.V k = -1
  self : t.V i = -1
  closed : ∀ v, v < nL → 0 ≤ s.V v → t.V v = -1 → ∀ n ∈ G v, 0 ≤ s.B n.toNat ∧ (s.V (s.B n.toNat).toNat = s.V v + 1 → t.V (s.B n.toNat).toNat = -1)
/-- What a search that succeeds leaves. -/
structure Good (nL i : Nat) (s t : St) : Prop where
  fwd : ∀ k, k < nL → 0 ≤ t.M k → t.M k ∈ G k ∧ t.B (t.M k).toNat = (k : Int)
  bwd : ∀ n : Nat, 0 ≤ t.B n → (t.B n).toNat < nL ∧ (t.M (t.B n).toNat = (n : Int) ∨ (s.M i = (n : Int) ∧ t.B n = (i : Int)))
  lowM : ∀ k, -1 ≤ t.M k
  lowB : ∀ k, -1 ≤ t.B k
  got : 0 ≤ t.M i
  ne : t.M i ≠ s.M i
  same : ∀ k, k ≠ i → (0 ≤ t.M k ↔ 0 ≤ s.M k)
  unch : ∀ k, s.V k < 0 → k ≠ i → t.M k = s.M k
  unchB : ∀ n j : Nat, s.B n = (j : Int) → (s.V j < 0 ∨ j = i) → t.B n = s.B n
  V : ∀ k, t.V k = s.V k ∨ t.V k = -1
def Post (nL i : Nat) (s t : St) (b : Bool) : Prop := (b = false → Fail G nL i s t) ∧ (b = true → Good G nL i s t)

/-- The state while the neighbours are looked at: i has been seen. -/
structure Mid (nL i : Nat) (s u : St) : Prop where
  M : u.M = s.M
  B : u.B = s.B
  V : ∀ k, u.V k = s.V k ∨ u.V k = -1
  self : u.V i = -1
  closed : ∀ v, v < nL → v ≠ i → 0 ≤ s.V v → u.V v = -1 → ∀ n ∈ G v, 0 ≤ s.B n.toNat ∧ (s.V (s.B n.toNat).toNat = s.V v + 1 → u.V (s.B n.toNat).toNat = -1)

theorem augL_spec (nL i : Nat) (hi : i < nL) (hG : Ctx G nL) (s : St) (hInv : Inv G nL s.M s.B) (hV : ∀ k, -1 ≤ s.V k) (au : St → Nat → Option (St × Bool))
    (hau : ∀ u k, k < nL → Mid G nL i s u → 0 ≤ u.V k → ∃ t b, au u k = some (t, b) ∧ Post G nL k u t b) :
    ∀ (ns : List Int), (∀ n ∈ ns, n ∈ G i) → ∀ u, Mid G nL i s u → (∀ n ∈ G i, n ∉ ns → 0 ≤ s.B n.toNat ∧ (s.V (s.B n.toNat).toNat = s.V i + 1 → u.V (s.B n.toNat).toNat = -1)) →
      ∃ t b, augL au i (s.V i) ns u = some (t, b) ∧ Post G nL i s t b
  | [], _, u, hu, hd => ⟨u, false, rfl, fun _ => ⟨hu.M, hu.B, hu.V, hu.self, fun v hv h0 h1 n hn => by
      by_cases e : v = i
      · subst e; exact hd n hn (by simp)
      · exact hu.closed v hv e h0 h1 n hn⟩, fun h => by cases h⟩
  | n :: ns, hns, u, hu, hd => by
    have hnG := hns n (List.mem_cons_self ..)
    have hn0 := hG.nn i hi n hnG
    have hnn : (n.toNat : Int) = n := by omega
    have hvi := hV i
    rw [augL]
    by_cases h1 : u.B n.toNat < 0
    · rw [if_pos h1]
      rw [hu.B] at h1 ⊢
      refine ⟨_, true, rfl, (by intro h; cases h), fun _ => ⟨?_, ?_, ?_, ?_, ?_, ?_, ?_, ?_, ?_, hu.V⟩⟩
      · intro k hk h0
        dsimp only at h0 ⊢
        rw [hu.M] at h0 ⊢
        by_cases e : k = i
        · subst e; rw [up_self] at h0 ⊢; exact ⟨hnG, up_self _ _ _⟩
        · rw [up_ne e] at h0 ⊢
          have hf := hInv.fwd k hk h0
          refine ⟨hf.1, ?_⟩
          rw [up_ne (by intro e2; rw [e2] at hf; omega)]; exact hf.2
      · intro m h0
        dsimp only at h0 ⊢
        by_cases e : m = n.toNat
        · subst e; rw [up_self] at h0 ⊢
          refine ⟨by omega, .inl ?_⟩
          rw [show ((i : Int).toNat) = i by omega, up_self]; omega
        · rw [up_ne e] at h0 ⊢
          have hb := hInv.bwd m h0
          refine ⟨hb.1, ?_⟩
          by_cases e2 : (s.B m).toNat = i
          · right; rw [e2] at hb; exact ⟨hb.2, by omega⟩
          · left; rw [up_ne e2, hu.M]; exact hb.2
      · intro k
        dsimp only; rw [hu.M]
        by_cases e : k = i
        · subst e; rw [up_self]; omega
        · rw [up_ne e]; exact hInv.lowM k
      · intro k
        dsimp only
        by_cases e : k = n.toNat
        · subst e; rw [up_self]; omega
        · rw [up_ne e]; exact hInv.lowB k
      · dsimp only; rw [up_self]; exact hn0
      · dsimp only; rw [up_self]; intro e
        have hf := (hInv.fwd i hi (by omega)).2
        rw [← e] at hf; omega
      · intro k e; dsimp only; rw [up_ne e, hu.M]
      · intro k _ e; dsimp only; rw [up_ne e, hu.M]
      · intro m j hj _
        dsimp only
        rw [up_ne (by intro e; subst e; omega)]
    · rw [if_neg h1]
      rw [hu.B] at h1 ⊢
      obtain ⟨k, hkd⟩ : ∃ k, (s.B n.toNat).toNat = k := ⟨_, rfl⟩
      have hkB : s.B n.toNat = (k : Int) := by omega
      have hkb := hInv.bwd n.toNat (by omega)
      rw [hkd] at hkb ⊢
      by_cases h2 : u.V k = s.V i + 1
      · rw [if_pos h2]
        have hki : k ≠ i := fun e => by subst e; rw [hu.self] at h2; omega
        obtain ⟨t, b, hau1, hp⟩ := hau u k hkb.1 hu (by omega)
        rw [hau1]
        clear hau1
        cases b with
        | false =>
          have F := hp.1 rfl
          dsimp only
          refine augL_spec nL i hi hG s hInv hV au hau ns (fun m hm => hns m (List.mem_cons_of_mem _ hm)) t ⟨by rw [F.M, hu.M], by rw [F.B, hu.B], fun j => ?_, ?_, fun v hv hvi h0 h1' m hm => ?_⟩ fun m hm hmn => ?_
          · rcases F.V j with h | h
            · rw [h]; exact hu.V j
            · exact .inr h
          · rcases F.V i with h | h
            · rw [h]; exact hu.self
            · exact h
          · rcases hu.V v with h | h
            · by_cases h3 : 0 ≤ u.V v
              · have hc := F.closed v hv h3 h1' m hm
                rw [hu.B] at hc
                refine ⟨hc.1, fun h4 => ?_⟩
                rcases hu.V (s.B m.toNat).toNat with h5 | h5
                · exact hc.2 (by rw [h5, h4, h])
                · rcases F.V (s.B m.toNat).toNat with h6 | h6
                  · rw [h6]; exact h5
                  · exact h6
              · omega
            · have hc := hu.closed v hv hvi h0 h m hm
              refine ⟨hc.1, fun h4 => ?_⟩
              rcases F.V (s.B m.toNat).toNat with h6 | h6
              · rw [h6]; exact hc.2 h4
              · exact h6
          · by_cases em : m = n
            · subst em
              rw [hkd]
              exact ⟨by omega, fun _ => F.self⟩
            · have hc := hd m hm (by simp [em, hmn])
              refine ⟨hc.1, fun h4 => ?_⟩
              rcases F.V (s.B m.toNat).toNat with h6 | h6
              · rw [h6]; exact hc.2 h4
              · exact h6
        | true =>
          have K := hp.2 rfl
          have hMk : s.M k = n := by rw [hkb.2]; exact hnn
          refine ⟨_, true, rfl, (by intro h; cases h), fun _ => ?_⟩
          have hBk : t.B n.toNat = (k : Int) := by
            rw [K.unchB n.toNat k (by rw [hu.B]; exact hkB) (.inr rfl), hu.B]; exact hkB
          have hnot : ∀ j, j < nL → j ≠ i → t.M j ≠ n := fun j hj hji e => by
            have hf := (K.fwd j hj (by omega)).2
            rw [e, hBk] at hf
            have : j = k := by omega
            subst this
            have := K.ne
            rw [hu.M, hMk] at this
            exact this e
          refine ⟨?_, ?_, ?_, ?_, ?_, ?_, ?_, ?_, ?_, ?_⟩
          · intro j hj h0
            dsimp only at h0 ⊢
            by_cases e : j = i
            · subst e; rw [up_self] at h0 ⊢; exact ⟨hnG, up_self _ _ _⟩
            · rw [up_ne e] at h0 ⊢
              have hf := K.fwd j hj h0
              refine ⟨hf.1, ?_⟩
              rw [up_ne (by intro e2; exact hnot j hj e (by omega))]; exact hf.2
          · intro m h0
            dsimp only at h0 ⊢
            by_cases e : m = n.toNat
            · subst e; rw [up_self] at h0 ⊢
              refine ⟨by omega, .inl ?_⟩
              rw [show ((i : Int).toNat) = i by omega, up_self]; omega
            · rw [up_ne e] at h0 ⊢
              have hb := K.bwd m h0
              refine ⟨hb.1, ?_⟩
              have hm : t.M (t.B m).toNat = (m : Int) := by
                rcases hb.2 with h | h
                · exact h
                · rw [hu.M, hMk] at h; exact absurd h.1 (by omega)
              by_cases e2 : (t.B m).toNat = i
              · right
                rw [e2] at hm
                have hun := K.unch i (by rw [hu.self]; omega) (Ne.symm hki)
                rw [hu.M] at hun
                exact ⟨by rw [← hun]; exact hm, by omega⟩
              · left; rw [up_ne e2]; exact hm
          · intro j
            dsimp only
            by_cases e : j = i
            · subst e; rw [up_self]; omega
            · rw [up_ne e]; exact K.lowM j
          · intro j
            dsimp only
            by_cases e : j = n.toNat
            · subst e; rw [up_self]; omega
            · rw [up_ne e]; exact K.lowB j
          · dsimp only; rw [up_self]; exact hn0
          · dsimp only; rw [up_self]; intro e
            have hf := (hInv.fwd i hi (by omega)).2
            rw [← e, hkB] at hf; omega
          · intro j e; dsimp only; rw [up_ne e]
            by_cases ek : j = k
            · subst ek
              have := K.got
              rw [hMk]
              exact ⟨fun _ => hn0, fun _ => this⟩
            · have := K.same j ek; rw [hu.M] at this; exact this
          · intro j h0 e; dsimp only; rw [up_ne e]
            have hjk : j ≠ k := fun e2 => by
              subst e2
              rcases hu.V j with h | h <;> omega
            have hlt : u.V j < 0 := by rcases hu.V j with h | h <;> omega
            have := K.unch j hlt hjk
            rw [hu.M] at this; exact this
          · intro m j hj hor
            dsimp only
            have hmn : m ≠ n.toNat := fun e2 => by
              subst e2
              rw [hkB] at hj
              have : j = k := by omega
              subst this
              rcases hor with h | h
              · rcases hu.V j with h' | h' <;> omega
              · exact hki h
            rw [up_ne hmn]
            have := K.unchB m j (by rw [hu.B]; exact hj) (by
              rcases hor with h | h
              · left; rcases hu.V j with h' | h' <;> omega
              · left; rw [h, hu.self]; omega)
            rw [hu.B] at this; exact this
          · intro j
            dsimp only
            rcases K.V j with h | h
            · rw [h]; exact hu.V j
            · exact .inr h
      · rw [if_neg h2]
        refine augL_spec nL i hi hG s hInv hV au hau ns (fun m hm => hns m (List.mem_cons_of_mem _ hm)) u hu fun m hm hmn => ?_
        by_cases em : m = n
        · subst em
          rw [hkd]
          refine ⟨by omega, fun h3 => ?_⟩
          rcases hu.V k with h | h
          · rw [h] at h2; exact absurd h3 h2
          · exact h
        · exact hd m hm (by simp [em, hmn])

theorem aug_spec (nL : Nat) (hG : Ctx G nL) : ∀ (f : Nat) (s : St) (i : Nat), i < nL → Inv G nL s.M s.B → (∀ k, -1 ≤ s.V k) → cntp (lps (up s.V i (-1))) nL < f → ∃ t b, aug G f s i = some (t, b) ∧ Post G nL i s t b
  | 0, _, _, _, _, _, h => by omega
  | f + 1, s, i, hi, hInv, hV, hf => by
    rw [aug]
    refine augL_spec G nL i hi hG s hInv hV (aug G f) (fun u k hk hu h0 => ?_) (G i) (fun _ h => h) ⟨s.M, s.B, up s.V i (-1)⟩ ⟨rfl, rfl, fun k => ?_, up_self _ _ _, fun v hv hvi h0 h1 n hn => ?_⟩ fun n hn hnn => absurd hn hnn
    · refine aug_spec nL hG f u k hk (by rw [hu.M, hu.B]; exact hInv) (fun j => ?_) ?_
      · have := hV j
        rcases hu.V j with h | h <;> omega
      · have : cntp (lps (up u.V k (-1))) nL < cntp (lps (up s.V i (-1))) nL := by
          refine cntp_lt nL (fun j hj hp => ?_) ⟨k, hk, by simp [lps, up_self], ?_⟩
          · by_cases e : j = k
            · subst e; simp [lps, up_self] at hp
            · simp only [lps, decide_eq_true_eq, up_ne e] at hp ⊢
              have hji : j ≠ i := fun e2 => by subst e2; rw [hu.self] at hp; omega
              rw [up_ne hji]
              rcases hu.V j with h | h <;> omega
          · have hki : k ≠ i := fun e2 => by subst e2; rw [hu.self] at h0; omega
            simp only [lps, decide_eq_true_eq, up_ne hki]
            rcases hu.V k with h | h <;> omega
        omega
    · by_cases e : k = i
      · subst e; right; exact up_self _ _ _
      · left; exact up_ne e
    · dsimp only at h1
      rw [up_ne hvi] at h1; omega

end Go.Proofs.Ytjiknjcmfiapjaa

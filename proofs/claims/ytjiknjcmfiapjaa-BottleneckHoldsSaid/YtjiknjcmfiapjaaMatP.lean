
/- Matchings: the plain model of the search (levels, ways, phases) and what it comes to. No program in sight. Conditions stand in each theorem. -/
import Init
namespace Go.Proofs.Ytjiknjcmfiapjaa
set_option linter.unusedVariables false

def up (f : Nat → Int) (i : Nat) (v : Int) : Nat → Int := fun k => if k = i then v else f k
theorem up_self (f : Nat → Int) (i : Nat) (v : Int) : up f i v i = v := by simp [up]
theorem up_ne {f : Nat → Int} {i k : Nat} {v : Int} (h : k ≠ i) : up f i v k = f k := by simp [up, h]

/-- How many of the first n places have p. -/
def cntp (p : Nat → Bool) : Nat → Nat
  | 0 => 0
  | n + 1 => cntp p n + if p n then 1 else 0
theorem cntp_le (p : Nat → Bool) : ∀ n, cntp p n ≤ n
  | 0 => Nat.le_refl 0
  | n + 1 => by have := cntp_le p n; rw [cntp]; split <;> omega
theorem cntp_mono {p q : Nat → Bool} : ∀ n, (∀ k, k < n → p k = true → q k = true) → cntp p n ≤ cntp q n
  | 0, _ => Nat.le_refl 0
  | n + 1, h => by
    have := cntp_mono (p := p) (q := q) n (fun k hk => h k (by omega))
    have h1 := h n (by omega)
    rw [cntp, cntp]
    cases hp : p n <;> cases hq : q n <;> simp [hp, hq] at h1 ⊢ <;> omega
theorem cntp_congr {p q : Nat → Bool} (n : Nat) (h : ∀ k, k < n → p k = q k) : cntp p n = cntp q n :=
  Nat.le_antisymm (cntp_mono n fun k hk e => by rw [← h k hk]; exact e) (cntp_mono n fun k hk e => by rw [h k hk]; exact e)
theorem cntp_lt {p q : Nat → Bool} : ∀ n, (∀ k, k < n → p k = true → q k = true) → (∃ i, i < n ∧ p i = false ∧ q i = true) → cntp p n < cntp q n
  | 0, _, ⟨i, hi, _⟩ => by omega
  | n + 1, h, ⟨i, hi, hp, hq⟩ => by
    rw [cntp, cntp]
    by_cases e : i = n
    · subst e
      have := cntp_mono (p := p) (q := q) i (fun k hk => h k (by omega))
      rw [hp, hq]; simp; omega
    · have := cntp_lt (p := p) (q := q) n (fun k hk => h k (by omega)) ⟨i, by omega, hp, hq⟩
      have h1 := h n (by omega)
      cases hp : p n <;> cases hq : q n <;> simp [hp, hq] at h1 ⊢ <;> omega
/-- One place changes from no to yes. -/
theorem cntp_one {p q : Nat → Bool} : ∀ n i, i < n → p i = false → q i = true → (∀ k, k < n → k ≠ i → p k = q k) → cntp q n = cntp p n + 1
  | 0, i, hi, _, _, _ => by omega
  | n + 1, i, hi, hp, hq, h => by
    rw [cntp, cntp]
    by_cases e : i = n
    · subst e
      have := cntp_congr (p := p) (q := q) i (fun k hk => h k (by omega) (by omega))
      rw [hp, hq, this]; simp
    · have := cntp_one (p := p) (q := q) n i (by omega) hp hq (fun k hk => h k (by omega))
      have h1 := h n (by omega) (by omega)
      rw [this, h1]; omega
theorem cntp_zero {p : Nat → Bool} : ∀ n, cntp p n = 0 → ∀ k, k < n → p k = false
  | 0, _, k, hk => by omega
  | n + 1, h, k, hk => by
    rw [cntp] at h
    by_cases e : k = n
    · subst e; cases hp : p k <;> simp [hp] at h ⊢
    · exact cntp_zero n (by omega) k (by omega)

/-- A level that is less than 0: not reached. -/
def lng (V : Nat → Int) (k : Nat) : Bool := decide (V k < 0)

variable (G : Nat → List Int)

/-- The neighbours of a left vertex are looked at: the levels, the queue, and whether a free one was reached. -/
def visit (B : Nat → Int) (i : Nat) : List Int → (Nat → Int) → List Nat → Bool → (Nat → Int) × List Nat × Bool
  | [], V, q, r => (V, q, r)
  | n :: ns, V, q, r =>
    if B n.toNat < 0 then visit B i ns V q true
    else if V (B n.toNat).toNat < 0 then visit B i ns (up V (B n.toNat).toNat (V i + 1)) (q ++ [(B n.toNat).toNat]) r
    else visit B i ns V q r
def bfs (B : Nat → Int) : Nat → (Nat → Int) → List Nat → Bool → Option ((Nat → Int) × Bool)
  | _, V, [], r => some (V, r)
  | 0, _, _ :: _, _ => none
  | f + 1, V, i :: q, r => bfs B f (visit B i (G i) V q r).1 (visit B i (G i) V q r).2.1 (visit B i (G i) V q r).2.2

/-- What the look at some neighbours leaves. -/
structure VisitP (B : Nat → Int) (nL i : Nat) (ns : List Int) (V : Nat → Int) (q : List Nat) (r : Bool) (V' : Nat → Int) (q' : List Nat) (r' : Bool) : Prop where
  keep : ∀ k, 0 ≤ V k → V' k = V k
  inq : ∀ x ∈ q, x ∈ q'
  fresh : ∀ k, 0 ≤ V' k → 0 ≤ V k ∨ (k ∈ q' ∧ k < nL ∧ V' k = V i + 1 ∧ ∃ n ∈ ns, B n.toNat = (k : Int))
  ofq : ∀ x ∈ q', x ∈ q ∨ (x < nL ∧ 0 ≤ V' x)
  hit : ∀ n ∈ ns, 0 ≤ B n.toNat → 0 ≤ V' (B n.toNat).toNat
  up_ : r = true → r' = true
  no : r' = false → ∀ n ∈ ns, 0 ≤ B n.toNat
  yes : r' = true → r = true ∨ ∃ n ∈ ns, B n.toNat < 0
  size : cntp (lng V') nL + q'.length = cntp (lng V) nL + q.length
  low : ∀ k, V' k = V k ∨ 0 ≤ V' k
theorem visit_spec (B : Nat → Int) (nL i : Nat) : ∀ (ns : List Int) (V : Nat → Int) (q : List Nat) (r : Bool), (∀ n ∈ ns, 0 ≤ B n.toNat → (B n.toNat).toNat < nL) → 0 ≤ V i →
    VisitP B nL i ns V q r (visit B i ns V q r).1 (visit B i ns V q r).2.1 (visit B i ns V q r).2.2
  | [], V, q, r, _, _ => ⟨fun _ _ => rfl, fun _ h => h, fun k h => .inl h, fun x h => .inl h, fun n h => by simp at h, fun h => h, fun _ n h => by simp at h, fun h => .inl h, rfl, fun _ => .inl rfl⟩
  | n :: ns, V, q, r, hB, hi => by
    have hB' : ∀ n ∈ ns, 0 ≤ B n.toNat → (B n.toNat).toNat < nL := fun m hm => hB m (List.mem_cons_of_mem _ hm)
    rw [visit]
    by_cases h1 : B n.toNat < 0
    · rw [if_pos h1]
      have H := visit_spec B nL i ns V q true hB' hi
      refine ⟨H.keep, H.inq, fun k hk => ?_, H.ofq, fun m hm h0 => ?_, fun _ => H.up_ rfl, fun hf => ?_, fun _ => .inr ⟨n, List.mem_cons_self .., h1⟩, H.size, H.low⟩
      · rcases H.fresh k hk with h | ⟨a, b, c, m, hm, d⟩
        · exact .inl h
        · exact .inr ⟨a, b, c, m, List.mem_cons_of_mem _ hm, d⟩
      · rcases List.mem_cons.1 hm with rfl | hm
        · omega
        · exact H.hit m hm h0
      · rw [H.up_ rfl] at hf; cases hf
    · rw [if_neg h1]
      have hk := hB n (List.mem_cons_self ..) (by omega)
      obtain ⟨k, hkd⟩ : ∃ k, (B n.toNat).toNat = k := ⟨_, rfl⟩
      have hkB : B n.toNat = (k : Int) := by omega
      rw [hkd] at hk ⊢
      by_cases h2 : V k < 0
      · rw [if_pos h2]
        have hik : i ≠ k := fun e => by subst e; omega
        have H := visit_spec B nL i ns (up V k (V i + 1)) (q ++ [k]) r hB' (by rw [up_ne hik]; exact hi)
        have hiu : up V k (V i + 1) i = V i := up_ne hik
        refine ⟨fun j hj => ?_, fun x hx => H.inq x (by simp [hx]), fun j hj => ?_, fun x hx => ?_, fun m hm h0 => ?_, H.up_, fun hf m hm => ?_, fun ht => ?_, ?_, fun j => ?_⟩
        · have hjk : j ≠ k := fun e => by subst e; omega
          rw [H.keep j (by rw [up_ne hjk]; exact hj), up_ne hjk]
        · rcases H.fresh j hj with h | ⟨a, b, c, m, hm, d⟩
          · by_cases hjk : j = k
            · subst hjk
              refine .inr ⟨H.inq j (by simp), hk, ?_, n, List.mem_cons_self .., hkB⟩
              rw [H.keep j (by rw [up_self]; omega), up_self]
            · rw [up_ne hjk] at h; exact .inl h
          · exact .inr ⟨a, b, by rw [c, hiu], m, List.mem_cons_of_mem _ hm, d⟩
        · rcases H.ofq x hx with h | h
          · rcases List.mem_append.1 h with h | h
            · exact .inl h
            · simp only [List.mem_cons, List.not_mem_nil, or_false] at h
              subst h
              refine .inr ⟨hk, ?_⟩
              rw [H.keep x (by rw [up_self]; omega), up_self]; omega
          · exact .inr h
        · rcases List.mem_cons.1 hm with rfl | hm
          · rw [hkd, H.keep k (by rw [up_self]; omega), up_self]; omega
          · exact H.hit m hm h0
        · rcases List.mem_cons.1 hm with rfl | hm
          · omega
          · exact H.no hf m hm
        · rcases H.yes ht with h | ⟨m, hm, h⟩
          · exact .inl h
          · exact .inr ⟨m, List.mem_cons_of_mem _ hm, h⟩
        · have h3 := H.size
          have h4 : cntp (lng V) nL = cntp (lng (up V k (V i + 1))) nL + 1 := by
            refine cntp_one nL k hk ?_ ?_ fun j _ hj => ?_
            · simp [lng, up_self]; omega
            · simp [lng, h2]
            · simp [lng, up_ne hj]
          rw [h3, h4]; simp; omega
        · by_cases hjk : j = k
          · subst hjk; right; rw [H.keep j (by rw [up_self]; omega), up_self]; omega
          · have := H.low j; rwa [up_ne hjk] at this
      · rw [if_neg h2]
        have H := visit_spec B nL i ns V q r hB' hi
        refine ⟨H.keep, H.inq, fun j hj => ?_, H.ofq, fun m hm h0 => ?_, H.up_, fun hf m hm => ?_, fun ht => ?_, H.size, H.low⟩
        · rcases H.fresh j hj with h | ⟨a, b, c, m, hm, d⟩
          · exact .inl h
          · exact .inr ⟨a, b, c, m, List.mem_cons_of_mem _ hm, d⟩
        · rcases List.mem_cons.1 hm with rfl | hm
          · rw [hkd, H.keep k (by omega)]; omega
          · exact H.hit m hm h0
        · rcases List.mem_cons.1 hm with rfl | hm
          · omega
          · exact H.no hf m hm
        · rcases H.yes ht with h | ⟨m, hm, h⟩
          · exact .inl h
          · exact .inr ⟨m, List.mem_cons_of_mem _ hm, h⟩

/-- What stays true while the queue is worked off. -/
structure BfsI (M B : Nat → Int) (nL : Nat) (V : Nat → Int) (q : List Nat) (r : Bool) : Prop where
  low : ∀ k, -1 ≤ V k
  ofq : ∀ x ∈ q, x < nL ∧ 0 ≤ V x
  closed : ∀ i, i < nL → 0 ≤ V i → i ∈ q ∨ ∀ n ∈ G i, (r = false → 0 ≤ B n.toNat) ∧ (0 ≤ B n.toNat → 0 ≤ V (B n.toNat).toNat)
  pred : ∀ i, i < nL → 0 < V i → ∃ j, j < nL ∧ V j = V i - 1 ∧ ∃ n ∈ G j, B n.toNat = (i : Int)
  free : ∀ i, i < nL → (V i = 0 ↔ M i < 0)
  yes : r = true → ∃ i, i < nL ∧ 0 ≤ V i ∧ ∃ n ∈ G i, B n.toNat < 0
theorem bfs_spec (M B : Nat → Int) (nL : Nat) (hB : ∀ i, i < nL → ∀ n ∈ G i, 0 ≤ B n.toNat → (B n.toNat).toNat < nL) (hM : ∀ i, i < nL → ∀ n ∈ G i, 0 ≤ B n.toNat → 0 ≤ M (B n.toNat).toNat) :
    ∀ (f : Nat) (V : Nat → Int) (q : List Nat) (r : Bool), BfsI G M B nL V q r → cntp (lng V) nL + q.length ≤ f → ∃ V' r', bfs G B f V q r = some (V', r') ∧ BfsI G M B nL V' [] r'
  | f, V, [], r, h, _ => ⟨V, r, by cases f <;> rfl, h⟩
  | 0, V, i :: q, r, h, hf => by simp at hf
  | f + 1, V, i :: q, r, h, hf => by
    have hi := h.ofq i (List.mem_cons_self ..)
    have H := visit_spec B nL i (G i) V q r (hB i hi.1) hi.2
    rw [bfs]
    generalize (visit B i (G i) V q r).1 = V' at *
    generalize (visit B i (G i) V q r).2.1 = q' at *
    generalize (visit B i (G i) V q r).2.2 = r' at *
    refine bfs_spec M B nL hB hM f V' q' r' ⟨fun k => ?_, fun x hx => ?_, fun k hk h0 => ?_, fun k hk h0 => ?_, fun k hk => ?_, fun hr => ?_⟩ (by have := H.size; simp at hf; omega)
    · have := H.low k; have := h.low k; omega
    · rcases H.ofq x hx with h1 | h1
      · have := h.ofq x (List.mem_cons_of_mem _ h1)
        exact ⟨this.1, by rw [H.keep x this.2]; exact this.2⟩
      · exact h1
    · rcases H.fresh k h0 with h1 | h1
      · rcases h.closed k hk h1 with h2 | h2
        · rcases List.mem_cons.1 h2 with rfl | h2
          · exact .inr fun n hn => ⟨fun hr => H.no hr n hn, fun h3 => H.hit n hn h3⟩
          · exact .inl (H.inq k h2)
        · refine .inr fun n hn => ⟨fun hr => (h2 n hn).1 ?_, fun h3 => ?_⟩
          · cases r with
            | false => rfl
            | true => rw [H.up_ rfl] at hr; cases hr
          · have h4 := (h2 n hn).2 h3
            rw [H.keep _ h4]; exact h4
      · exact .inl h1.1
    · rcases H.fresh k (by omega) with h1 | ⟨_, _, h2, n, hn, h3⟩
      · rw [H.keep k h1] at h0 ⊢
        obtain ⟨j, hj, e, n, hn, e2⟩ := h.pred k hk h0
        exact ⟨j, hj, by rw [H.keep j (by omega)]; exact e, n, hn, e2⟩
      · exact ⟨i, hi.1, by rw [H.keep i hi.2, h2]; omega, n, hn, h3⟩
    · by_cases h1 : 0 ≤ V k
      · rw [H.keep k h1]; exact h.free k hk
      · have h2 : ¬ M k < 0 := fun e => by have := (h.free k hk).2 e; omega
        constructor
        · intro h3
          exfalso
          rcases H.fresh k (by omega) with h4 | ⟨_, _, h5, _⟩
          · omega
          · omega
        · intro h3; omega
    · rcases H.yes hr with h1 | ⟨n, hn, h1⟩
      · obtain ⟨j, hj, h2, n, hn, h3⟩ := h.yes h1
        exact ⟨j, hj, by rw [H.keep j h2]; exact h2, n, hn, h3⟩
      · exact ⟨i, hi.1, by rw [H.keep i hi.2]; exact hi.2, n, hn, h1⟩

end Go.Proofs.Ytjiknjcmfiapjaa

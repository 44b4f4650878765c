
/- The search for cheapest columns (shortest ways with potentials): plain. Conditions stand in each theorem. -/
import Derived.Test.YtjiknjcmfiapjaaBotQ
namespace Go.Proofs.Ytjiknjcmfiapjaa
set_option linter.unusedVariables false

def far : Int := 1152921504606846976
def upb (f : Nat → Bool) (i : Nat) (v : Bool) : Nat → Bool := fun k => if k = i then v else f k
theorem upb_self (f : Nat → Bool) (i : Nat) (v : Bool) : upb f i v i = v := by simp [upb]
theorem upb_ne {f : Nat → Bool} {i k : Nat} {v : Bool} (h : k ≠ i) : upb f i v k = f k := by simp [upb, h]
theorem up_same (f : Nat → Int) (i : Nat) : up f i (f i) = f := by
  funext k
  by_cases h : k = i
  · subst h; exact up_self _ _ _
  · exact up_ne h
/-- There are columns with costs of at most M. -/
def PM (G : Nat → List Int) (n : Nat) (M : Int) : Prop := ∃ s, Prm s n ∧ ∀ r, r < n → cst G r (s r) ≤ M

variable {G : Nat → List Int} {n : Nat} {M : Int}

/-- Potentials that are proved, and what they have come to. -/
structure Pot (G : Nat → List Int) (n : Nat) (M : Int) (U V : Nat → Int) : Prop where
  feas : Feas G n M U V
  sum : sm U n + sm V (n + 1) = 0
  u : ∀ r, r < n → 0 ≤ U r ∧ U r ≤ -(V n)
  v : ∀ k, k ≤ n → V n ≤ V k ∧ V k ≤ 0
theorem Pot.start (hG : Cst G n) : Pot G n M (fun _ => 0) (fun _ => 0) :=
  ⟨fun r hr k hk _ => by have := hG.c hr hk; simp; omega, by rw [sm_const, sm_const]; simp, fun r _ => by simp, fun k _ => by simp⟩
theorem Pot.bd {U V : Nat → Int} (h : Pot G n M U V) (hG : Cst G n) (hP : PM G n M) : -(V n) ≤ 1125899906842624 := by
  obtain ⟨s, hs, hM⟩ := hP
  have h1 := feas_sum h.feas hs hM
  have h2 := h.sum
  rw [sm] at h2
  have h3 : sm (fun r => cst G r (s r)) n ≤ sm (fun _ => 17592186044416) n := sm_le n fun r hr => (hG.c hr (hs.lt r hr)).2
  rw [sm_const] at h3
  have := hG.le
  omega

/-- The rows of the columns: the first i rows, each once. -/
structure Rws (n i : Nat) (R : Nat → Int) : Prop where
  lt : ∀ k, k < n → R k < i
  inj : ∀ a, a < n → ∀ b, b < n → 0 ≤ R a → R a = R b → a = b
  cnt : cntp (fun k => decide (0 ≤ R k)) n = i
theorem Rws.start (n : Nat) : Rws n 0 (fun _ => -1) := ⟨fun _ _ => by simp, fun _ _ _ _ h => by simp at h, by
  have : cntp (fun k => decide ((0 : Int) ≤ -1)) n = cntp (fun _ => false) n := cntp_congr n fun _ _ => by simp
  rw [this]
  clear this
  induction n with
  | zero => rfl
  | succ n ih => rw [cntp, ih]; simp⟩
/-- Each matched column is tight. -/
def Tgt (G : Nat → List Int) (n : Nat) (M : Int) (R U V : Nat → Int) : Prop := ∀ k, k < n → 0 ≤ R k → cst G (R k).toNat k ≤ M ∧ U (R k).toNat + V k = cst G (R k).toNat k

theorem row_lt {i : Nat} {R : Nat → Int} (hR : Rws n i R) (hi : i < n) (hn : R n = i) {k : Nat} (hk : k ≤ n) (h0 : 0 ≤ R k) : (R k).toNat < n ∧ R k ≤ i ∧ ((R k).toNat : Int) = R k := by
  rcases Nat.lt_or_ge k n with h | h
  · have := hR.lt k h; omega
  · obtain rfl : k = n := by omega
    omega
theorem row_inj {i : Nat} {R : Nat → Int} (hR : Rws n i R) (hn : R n = i) {a b : Nat} (ha : a ≤ n) (hb : b ≤ n) (h0 : 0 ≤ R a) (e : R a = R b) : a = b := by
  rcases Nat.lt_or_ge a n with h | h
  · rcases Nat.lt_or_ge b n with h' | h'
    · exact hR.inj a h b h' h0 e
    · obtain rfl : b = n := by omega
      have := hR.lt a h; omega
  · obtain rfl : a = n := by omega
    rcases Nat.lt_or_ge b a with h' | h'
    · have := hR.lt b h'; omega
    · omega

/-- The state at the head of a round of the search: c is the column to be done next. -/
structure Way (G : Nat → List Int) (n : Nat) (M : Int) (R U V Ds Bf : Nat → Int) (Dn : Nat → Bool) (od : Nat → Nat) (t c : Nat) : Prop where
  pot : Pot G n M U V
  tight : Tgt G n M R U V
  cn : c ≤ n
  cd : Dn c = false
  dn : c ≠ n → Dn n = true
  row : ∀ k, k ≤ n → Dn k = true → 0 ≤ R k
  lo : ∀ d, d ≤ n → Dn d = true → ∀ k, k < n → Dn k = false → cst G (R d).toNat k ≤ M → Ds k ≤ cst G (R d).toNat k - U (R d).toNat - V k
  hi : ∀ k, k < n → Dn k = false → Ds k ≤ far ∧ (Ds k < far → ∃ b : Nat, Bf k = b ∧ b ≤ n ∧ Dn b = true ∧ cst G (R b).toNat k ≤ M ∧ Ds k = cst G (R b).toNat k - U (R b).toNat - V k)
  path : ∀ k, k < n → (Dn k = true ∨ k = c) → ∃ b : Nat, Bf k = b ∧ b ≤ n ∧ Dn b = true ∧ od b < od k ∧ cst G (R b).toNat k ≤ M ∧ U (R b).toNat + V k = cst G (R b).toNat k
  ord : ∀ k, k ≤ n → Dn k = true → od k < t
  oc : od c = t
theorem Way.start {i : Nat} {R U V Bf : Nat → Int} (hP : Pot G n M U V) (hT : Tgt G n M R U V) : Way G n M R U V (fun _ => far) Bf (fun _ => false) (fun _ => 0) 0 n :=
  ⟨hP, hT, Nat.le_refl _, rfl, fun h => absurd rfl h, (fun _ _ h => nomatch h), (fun _ _ h => nomatch h), fun k hk _ => ⟨Int.le_refl _, fun h => absurd h (Int.lt_irrefl _)⟩, (fun k hk h => by
    rcases h with h | h
    · cases h
    · omega), (fun _ _ h => nomatch h), rfl⟩

/-- The look at the columns below k, from the row r of column c (done). -/
structure Scan (G : Nat → List Int) (M : Int) (U V : Nat → Int) (Dn : Nat → Bool) (c r : Nat) (Ds Bf : Nat → Int) (k : Nat) (Ds' Bf' : Nat → Int) (nx ls : Int) : Prop where
  out : ∀ j, (k ≤ j ∨ Dn j = true) → Ds' j = Ds j ∧ Bf' j = Bf j
  did : ∀ j, j < k → Dn j = false → (cst G r j ≤ M ∧ cst G r j - U r - V j < Ds j ∧ Ds' j = cst G r j - U r - V j ∧ Bf' j = c) ∨ ((cst G r j ≤ M → Ds j ≤ cst G r j - U r - V j) ∧ Ds' j = Ds j ∧ Bf' j = Bf j)
  least : (nx = -1 ∧ ls = far ∧ ∀ j, j < k → Dn j = false → far ≤ Ds' j) ∨ (∃ x : Nat, x < k ∧ nx = x ∧ Dn x = false ∧ ls = Ds' x ∧ ls < far ∧ ∀ j, j < k → Dn j = false → ls ≤ Ds' j)
section
variable {U V Ds Bf Ds' Bf' : Nat → Int} {Dn : Nat → Bool} {c r k : Nat} {nx ls : Int}
theorem Scan.start : Scan G M U V Dn c r Ds Bf 0 Ds Bf (-1) far := ⟨fun _ _ => ⟨rfl, rfl⟩, fun _ h => by omega, .inl ⟨rfl, rfl, fun _ h => by omega⟩⟩
theorem Scan.skip (h : Scan G M U V Dn c r Ds Bf k Ds' Bf' nx ls) (hk : Dn k = true) : Scan G M U V Dn c r Ds Bf (k + 1) Ds' Bf' nx ls := by
  have key : ∀ j, j < k + 1 → Dn j = false → j < k := fun j hj hjd => by
    by_cases e : j = k
    · rw [e, hk] at hjd; cases hjd
    · omega
  refine ⟨fun j hj => h.out j (by rcases hj with h1 | h1; exact .inl (by omega); exact .inr h1), fun j hj hd => h.did j (key j hj hd) hd, ?_⟩
  rcases h.least with ⟨a, b, c⟩ | ⟨x, a, b, c, d, e, f⟩
  · exact .inl ⟨a, b, fun j hj hd => c j (key j hj hd) hd⟩
  · exact .inr ⟨x, by omega, b, c, d, e, fun j hj hd => f j (key j hj hd) hd⟩
theorem Scan.ls_far (h : Scan G M U V Dn c r Ds Bf k Ds' Bf' nx ls) : ls ≤ far := by
  rcases h.least with ⟨a, b, c⟩ | ⟨x, a, b, c, d, e, f⟩ <;> omega
theorem Scan.next {y b nx' ls' : Int} (h : Scan G M U V Dn c r Ds Bf k Ds' Bf' nx ls) (hk : Dn k = false)
    (hy : (cst G r k ≤ M ∧ cst G r k - U r - V k < Ds' k ∧ y = cst G r k - U r - V k ∧ b = c) ∨ ((cst G r k ≤ M → Ds' k ≤ cst G r k - U r - V k) ∧ y = Ds' k ∧ b = Bf' k))
    (hl : (y < ls ∧ nx' = k ∧ ls' = y) ∨ (ls ≤ y ∧ nx' = nx ∧ ls' = ls)) : Scan G M U V Dn c r Ds Bf (k + 1) (up Ds' k y) (up Bf' k b) nx' ls' := by
  have hf := h.ls_far
  have ho := h.out k (.inl (Nat.le_refl k))
  rw [ho.1, ho.2] at hy
  have up1 : ∀ j, j < k → up Ds' k y j = Ds' j := fun j hj => up_ne (by omega)
  have split : ∀ j, j < k + 1 → j < k ∨ j = k := fun j hj => by omega
  refine ⟨fun j hj => ?_, fun j hj hd => ?_, ?_⟩
  · have hne : j ≠ k := fun e => by
      subst e
      rcases hj with h | h
      · omega
      · rw [hk] at h; cases h
    rw [up_ne hne, up_ne hne]
    exact h.out j (by rcases hj with h | h; exact .inl (by omega); exact .inr h)
  · rcases split j hj with h1 | rfl
    · rw [up_ne (by omega), up_ne (by omega)]; exact h.did j h1 hd
    · rw [up_self, up_self]; exact hy
  · rcases hl with ⟨h1, rfl, rfl⟩ | ⟨h1, rfl, rfl⟩
    · refine .inr ⟨k, by omega, rfl, hk, by rw [up_self], by omega, fun j hj hd => ?_⟩
      rcases split j hj with h2 | rfl
      · rw [up1 j h2]
        rcases h.least with ⟨_, b, c⟩ | ⟨x, a, b, c, d, e, f⟩
        · have := c j h2 hd; omega
        · have := f j h2 hd; omega
      · rw [up_self]; omega
    · rcases h.least with ⟨a, b, c⟩ | ⟨x, a, b, c, d, e, f⟩
      · refine .inl ⟨a, b, fun j hj hd => ?_⟩
        rcases split j hj with h2 | rfl
        · rw [up1 j h2]; exact c j h2 hd
        · rw [up_self]; omega
      · refine .inr ⟨x, by omega, b, c, by rw [up1 x a]; exact d, e, fun j hj hd => ?_⟩
        rcases split j hj with h2 | rfl
        · rw [up1 j h2]; exact f j h2 hd
        · rw [up_self]; exact h1
end

/-- The least distance is laid on the columns below k. -/
structure Upd (n : Nat) (R : Nat → Int) (Dn : Nat → Bool) (ls : Int) (U V Ds : Nat → Int) (k : Nat) (U' V' Ds' : Nat → Int) : Prop where
  u : ∀ d, d < k → Dn d = true → U' (R d).toNat = U (R d).toNat + ls
  uo : ∀ r, (∀ d, d < k → Dn d = true → (R d).toNat ≠ r) → U' r = U r
  v : ∀ d, d < k → Dn d = true → V' d = V d - ls
  vo : ∀ d, (k ≤ d ∨ Dn d = false) → V' d = V d
  d : ∀ j, j < k → Dn j = false → Ds' j = if Ds j < far then Ds j - ls else Ds j
  dO : ∀ j, (k ≤ j ∨ Dn j = true) → Ds' j = Ds j
  s : sm U' n + sm V' (n + 1) = sm U n + sm V (n + 1)
section
variable {R U V Ds U' V' Ds' : Nat → Int} {Dn : Nat → Bool} {ls : Int} {k i : Nat}
theorem Upd.start : Upd n R Dn ls U V Ds 0 U V Ds := ⟨fun _ h => by omega, fun _ _ => rfl, fun _ h => by omega, fun _ _ => rfl, fun _ h => by omega, fun _ _ => rfl, rfl⟩
/-- What the next column reads as. -/
theorem Upd.cur (h : Upd n R Dn ls U V Ds k U' V' Ds') (hR : Rws n i R) (hi : i < n) (hn : R n = i) (h0 : ∀ d, d ≤ n → Dn d = true → 0 ≤ R d) (hk : k ≤ n) :
    V' k = V k ∧ Ds' k = Ds k ∧ (Dn k = true → U' (R k).toNat = U (R k).toNat) := by
  refine ⟨h.vo k (.inl (Nat.le_refl k)), h.dO k (.inl (Nat.le_refl k)), fun hd => h.uo _ fun d hdk hdd e => ?_⟩
  have := row_lt hR hi hn (k := d) (by omega) (h0 d (by omega) hdd)
  have h2 := row_lt hR hi hn hk (h0 k hk hd)
  have := row_inj hR hn (a := d) (b := k) (by omega) hk (h0 d (by omega) hdd) (by omega)
  omega
theorem Upd.done (h : Upd n R Dn ls U V Ds k U' V' Ds') (hR : Rws n i R) (hi : i < n) (hn : R n = i) (h0 : ∀ d, d ≤ n → Dn d = true → 0 ≤ R d) (hk : k ≤ n) (hd : Dn k = true) :
    Upd n R Dn ls U V Ds (k + 1) (up U' (R k).toNat (U (R k).toNat + ls)) (up V' k (V k - ls)) Ds' := by
  have hr := row_lt hR hi hn hk (h0 k hk hd)
  have hc := h.cur hR hi hn h0 hk
  refine ⟨fun d hdk hdd => ?_, fun r hr => ?_, fun d hdk hdd => ?_, fun d hdk => ?_, fun j hj hjd => ?_, fun j hj => h.dO j (by rcases hj with h1 | h1; exact .inl (by omega); exact .inr h1), ?_⟩
  · by_cases e : d = k
    · subst e; rw [up_self]
    · have h1 := row_lt hR hi hn (k := d) (by omega) (h0 d (by omega) hdd)
      rw [up_ne fun e2 => e (row_inj hR hn (by omega) hk (h0 d (by omega) hdd) (by omega))]
      exact h.u d (by omega) hdd
  · rw [up_ne fun e => hr k (by omega) hd e.symm]
    exact h.uo r fun d hd2 hdd => hr d (by omega) hdd
  · by_cases e : d = k
    · subst e; rw [up_self]
    · rw [up_ne e]; exact h.v d (by omega) hdd
  · rw [up_ne fun e => by subst e; rcases hdk with h | h; omega; rw [hd] at h; cases h]
    exact h.vo d (by rcases hdk with h | h; exact .inl (by omega); exact .inr h)
  · by_cases e : j = k
    · subst e; rw [hd] at hjd; cases hjd
    · exact h.d j (by omega) hjd
  · have h1 := h.s
    rw [sm_up n hr.1, sm_up (n + 1) (by omega), hc.1, hc.2.2 hd]
    omega
theorem Upd.near (h : Upd n R Dn ls U V Ds k U' V' Ds') (hd : Dn k = false) (hf : Ds k < far) : Upd n R Dn ls U V Ds (k + 1) U' V' (up Ds' k (Ds k - ls)) := by
  have key : ∀ d, d < k + 1 → Dn d = true → d < k := fun d h1 h2 => by
    by_cases e : d = k
    · subst e; rw [hd] at h2; cases h2
    · omega
  refine ⟨fun d h1 h2 => h.u d (key d h1 h2) h2, fun r hr => h.uo r fun d h1 h2 => hr d (by omega) h2, fun d h1 h2 => h.v d (key d h1 h2) h2, fun d h1 => ?_, fun j h1 h2 => ?_, fun j hj => ?_, h.s⟩
  · rcases h1 with h1 | h1
    · exact h.vo d (.inl (by omega))
    · exact h.vo d (.inr h1)
  · by_cases e : j = k
    · subst e; rw [up_self, if_pos hf]
    · rw [up_ne e]; exact h.d j (by omega) h2
  · rw [up_ne fun e => by subst e; rcases hj with h | h; omega; rw [hd] at h; cases h]
    rcases hj with h1 | h1
    · exact h.dO j (.inl (by omega))
    · exact h.dO j (.inr h1)
theorem Upd.wide (h : Upd n R Dn ls U V Ds k U' V' Ds') (hd : Dn k = false) (hf : far ≤ Ds k) : Upd n R Dn ls U V Ds (k + 1) U' V' Ds' := by
  have key : ∀ d, d < k + 1 → Dn d = true → d < k := fun d h1 h2 => by
    by_cases e : d = k
    · subst e; rw [hd] at h2; cases h2
    · omega
  refine ⟨fun d h1 h2 => h.u d (key d h1 h2) h2, fun r hr => h.uo r fun d h1 h2 => hr d (by omega) h2, fun d h1 h2 => h.v d (key d h1 h2) h2, fun d h1 => ?_, fun j h1 h2 => ?_, fun j hj => ?_, h.s⟩
  · rcases h1 with h1 | h1
    · exact h.vo d (.inl (by omega))
    · exact h.vo d (.inr h1)
  · by_cases e : j = k
    · subst e; rw [if_neg (by omega)]; exact h.dO j (.inl (Nat.le_refl j))
    · exact h.d j (by omega) h2
  · rcases hj with h1 | h1
    · exact h.dO j (.inl (by omega))
    · exact h.dO j (.inr h1)
theorem Upd.all (hR : Rws n i R) (hi : i < n) (hn : R n = i) (h0 : ∀ d, d ≤ n → Dn d = true → 0 ≤ R d) : ∀ k, k ≤ n + 1 → ∃ U' V' Ds', Upd n R Dn ls U V Ds k U' V' Ds'
  | 0, _ => ⟨U, V, Ds, Upd.start⟩
  | k + 1, hk => by
    obtain ⟨U', V', Ds', h⟩ := Upd.all hR hi hn h0 k (by omega)
    cases hd : Dn k with
    | true => exact ⟨_, _, _, h.done hR hi hn h0 (by omega) hd⟩
    | false =>
      by_cases hf : Ds k < far
      · exact ⟨_, _, _, h.near hd hf⟩
      · exact ⟨_, _, _, h.wide hd (by omega)⟩
end

section
variable {R U V Ds Bf Ds1 Bf1 U' V' Ds' : Nat → Int} {Dn : Nat → Bool} {od : Nat → Nat} {nx ls : Int} {i t c : Nat}
theorem dn_row (hW : Way G n M R U V Ds Bf Dn od t c) (hc : 0 ≤ R c) : ∀ d, d ≤ n → upb Dn c true d = true → 0 ≤ R d := fun d hd h => by
  by_cases e : d = c
  · subst e; exact hc
  · rw [upb_ne e] at h; exact hW.row d hd h
theorem dn_n (hW : Way G n M R U V Ds Bf Dn od t c) : upb Dn c true n = true := by
  by_cases e : n = c
  · subst e; exact upb_self _ _ _
  · rw [upb_ne e]; exact hW.dn fun h => e h.symm
theorem dn_of {d : Nat} (h : upb Dn c true d = true) : d = c ∨ (d ≠ c ∧ Dn d = true) := by
  by_cases e : d = c
  · exact .inl e
  · rw [upb_ne e] at h; exact .inr ⟨e, h⟩
theorem dn_not {d : Nat} (h : upb Dn c true d = false) : d ≠ c ∧ Dn d = false := by
  by_cases e : d = c
  · subst e; rw [upb_self] at h; cases h
  · rw [upb_ne e] at h; exact ⟨e, h⟩
/-- Each distance that the look leaves is below the slack of each pair of a done column's row. -/
theorem scan_lo (hW : Way G n M R U V Ds Bf Dn od t c) (hS : Scan G M U V (upb Dn c true) c (R c).toNat Ds Bf n Ds1 Bf1 nx ls) {d k : Nat} (hd : d ≤ n) (hdd : upb Dn c true d = true) (hk : k < n) (hkd : upb Dn c true k = false) (hM : cst G (R d).toNat k ≤ M) :
    Ds1 k ≤ cst G (R d).toNat k - U (R d).toNat - V k := by
  have h1 := hS.did k hk hkd
  rcases dn_of hdd with rfl | ⟨hne, h2⟩
  · rcases h1 with ⟨_, _, h3, _⟩ | ⟨h3, h4, _⟩
    · omega
    · have := h3 hM; omega
  · have := hW.lo d hd h2 k hk (dn_not hkd).2 hM
    rcases h1 with ⟨_, h4, h3, _⟩ | ⟨h3, h4, _⟩ <;> omega
theorem scan_hi (hW : Way G n M R U V Ds Bf Dn od t c) (hS : Scan G M U V (upb Dn c true) c (R c).toNat Ds Bf n Ds1 Bf1 nx ls) {k : Nat} (hk : k < n) (hkd : upb Dn c true k = false) :
    Ds1 k ≤ far ∧ (Ds1 k < far → ∃ b : Nat, Bf1 k = b ∧ b ≤ n ∧ upb Dn c true b = true ∧ cst G (R b).toNat k ≤ M ∧ Ds1 k = cst G (R b).toNat k - U (R b).toNat - V k) := by
  have h0 := hW.hi k hk (dn_not hkd).2
  rcases hS.did k hk hkd with ⟨h1, h2, h3, h4⟩ | ⟨h1, h2, h3⟩
  · exact ⟨by omega, fun _ => ⟨c, h4, hW.cn, upb_self _ _ _, h1, h3⟩⟩
  · rw [h2, h3]
    refine ⟨h0.1, fun h => ?_⟩
    obtain ⟨b, b1, b2, b3, b4, b5⟩ := h0.2 h
    refine ⟨b, b1, b2, ?_, b4, b5⟩
    rw [upb_ne fun e => by subst e; rw [hW.cd] at b3; cases b3]; exact b3
theorem scan_low (hW : Way G n M R U V Ds Bf Dn od t c) (hc : 0 ≤ R c) (hR : Rws n i R) (hi : i < n) (hn : R n = i) (hS : Scan G M U V (upb Dn c true) c (R c).toNat Ds Bf n Ds1 Bf1 nx ls) {k : Nat} (hk : k < n) (hkd : upb Dn c true k = false) : 0 ≤ Ds1 k := by
  have h := scan_hi hW hS hk hkd
  by_cases hf : Ds1 k < far
  · obtain ⟨b, _, b2, b3, b4, b5⟩ := h.2 hf
    have hb := row_lt hR hi hn b2 (dn_row hW hc b b2 b3)
    have := hW.pot.feas _ hb.1 k hk b4
    omega
  · unfold far at hf; omega
/-- Potentials behind a round, for whatever the least distance is. -/
theorem pot_next (hW : Way G n M R U V Ds Bf Dn od t c) (hc : 0 ≤ R c) (hR : Rws n i R) (hi : i < n) (hn : R n = i) (hS : Scan G M U V (upb Dn c true) c (R c).toNat Ds Bf n Ds1 Bf1 nx ls)
    (hU : Upd n R (upb Dn c true) ls U V Ds1 (n + 1) U' V' Ds') (h0 : 0 ≤ ls) (hl : ∀ k, k < n → upb Dn c true k = false → ls ≤ Ds1 k) : Pot G n M U' V' := by
  have hrow := dn_row hW hc
  have hun : ∀ r, r < n → (U' r = U r ∧ ∀ d, d < n + 1 → upb Dn c true d = true → (R d).toNat ≠ r) ∨ (U' r = U r + ls ∧ ∃ d, d ≤ n ∧ upb Dn c true d = true ∧ (R d).toNat = r) := fun r hr => by
    by_cases h : ∃ d, d ≤ n ∧ upb Dn c true d = true ∧ (R d).toNat = r
    · obtain ⟨d, hd, hdd, e⟩ := h
      exact .inr ⟨by rw [← e]; exact hU.u d (by omega) hdd, d, hd, hdd, e⟩
    · have : ∀ d, d < n + 1 → upb Dn c true d = true → (R d).toNat ≠ r := fun d hd hdd e => h ⟨d, by omega, hdd, e⟩
      exact .inl ⟨hU.uo r this, this⟩
  have hvn : ∀ k, k ≤ n → (upb Dn c true k = false ∧ V' k = V k) ∨ (upb Dn c true k = true ∧ V' k = V k - ls) := fun k hk => by
    cases hd : upb Dn c true k with
    | false => exact .inl ⟨rfl, hU.vo k (.inr hd)⟩
    | true => exact .inr ⟨rfl, hU.v k (by omega) hd⟩
  have hV : V' n = V n - ls := hU.v n (by omega) (dn_n hW)
  have hp := hW.pot
  refine ⟨fun r hr k hk hM => ?_, by rw [hU.s]; exact hp.sum, fun r hr => ?_, fun k hk => ?_⟩
  · have hf := hp.feas r hr k hk hM
    rcases hun r hr with ⟨e1, _⟩ | ⟨e1, d, hd, hdd, rfl⟩ <;> rcases hvn k (by omega) with ⟨h2, e2⟩ | ⟨h2, e2⟩
    · omega
    · omega
    · have h3 := scan_lo hW hS hd hdd hk h2 hM
      have := hl k hk h2
      omega
    · omega
  · have := hp.u r hr
    rcases hun r hr with ⟨e1, _⟩ | ⟨e1, _⟩ <;> omega
  · have := hp.v k hk
    rcases hvn k hk with ⟨_, e⟩ | ⟨_, e⟩ <;> omega
/-- A column comes up in each round. -/
theorem scan_found (hG : Cst G n) (hP : PM G n M) (hW : Way G n M R U V Ds Bf Dn od t c) (hc : 0 ≤ R c) (hR : Rws n i R) (hi : i < n) (hn : R n = i) (hS : Scan G M U V (upb Dn c true) c (R c).toNat Ds Bf n Ds1 Bf1 nx ls) :
    ∃ x : Nat, x < n ∧ nx = x ∧ upb Dn c true x = false ∧ ls = Ds1 x ∧ 0 ≤ ls ∧ ls ≤ 1125899906842624 ∧ ∀ j, j < n → upb Dn c true j = false → ls ≤ Ds1 j := by
  obtain ⟨U', V', Ds', hU⟩ := Upd.all (ls := ls) (U := U) (V := V) (Ds := Ds1) hR hi hn (dn_row hW hc) (n + 1) (Nat.le_refl _)
  have hv := (hW.pot.v n (Nat.le_refl n)).2
  rcases hS.least with ⟨a, b, h1⟩ | ⟨x, a, b, h1, d, e, f⟩
  · exfalso
    have hp := pot_next hW hc hR hi hn hS hU (by rw [b]; unfold far; omega) (by rw [b]; exact h1)
    have h2 := hp.bd hG hP
    rw [hU.v n (by omega) (dn_n hW), b] at h2
    unfold far at h2
    omega
  · have h0 : 0 ≤ ls := by rw [d]; exact scan_low hW hc hR hi hn hS a h1
    have hp := pot_next hW hc hR hi hn hS hU h0 f
    have h2 := hp.bd hG hP
    rw [hU.v n (by omega) (dn_n hW)] at h2
    exact ⟨x, a, b, h1, d, h0, by omega, f⟩
/-- The head of the next round. -/
theorem way_next (hG : Cst G n) (hP : PM G n M) (hW : Way G n M R U V Ds Bf Dn od t c) (hc : 0 ≤ R c) (hR : Rws n i R) (hi : i < n) (hn : R n = i) (hS : Scan G M U V (upb Dn c true) c (R c).toNat Ds Bf n Ds1 Bf1 nx ls)
    (hU : Upd n R (upb Dn c true) ls U V Ds1 (n + 1) U' V' Ds') {x : Nat} (hx : nx = x) : Way G n M R U' V' Ds' Bf1 (upb Dn c true) (fun k => if k = x then t + 1 else od k) (t + 1) x := by
  obtain ⟨x', hxn, hx', hxd, hxl, h0, hb, hl⟩ := scan_found hG hP hW hc hR hi hn hS
  obtain rfl : x' = x := by omega
  have hrow := dn_row hW hc
  have hp := pot_next hW hc hR hi hn hS hU h0 hl
  have hbd := hW.pot.bd hG hP
  have hdu : ∀ b, b ≤ n → upb Dn c true b = true → U' (R b).toNat = U (R b).toNat + ls := fun b h1 h2 => hU.u b (by omega) h2
  have hdv : ∀ k, k ≤ n → upb Dn c true k = true → V' k = V k - ls := fun k h1 h2 => hU.v k (by omega) h2
  have hdo : ∀ k, upb Dn c true k = false → V' k = V k := fun k h => hU.vo k (.inr h)
  have hod : ∀ k, k ≤ n → upb Dn c true k = true → od k < t + 1 := fun k h1 h2 => by
    rcases dn_of h2 with rfl | ⟨_, h⟩
    · rw [hW.oc]; omega
    · have := hW.ord k h1 h; omega
  have hox : ∀ k, upb Dn c true k = true → (if k = x' then t + 1 else od k) = od k := fun k h => if_neg fun e => by subst e; rw [hxd] at h; cases h
  have hds : ∀ k, k < n → upb Dn c true k = false → Ds' k = if Ds1 k < far then Ds1 k - ls else Ds1 k := fun k h1 h2 => hU.d k (by omega) h2
  refine ⟨hp, fun k hk h0k => ?_, by omega, hxd, fun _ => dn_n hW, hrow, fun d hd hdd k hk hkd hM => ?_, fun k hk hkd => ?_, fun k hk h => ?_, fun k hk hkd => ?_, if_pos rfl⟩
  · have ht := hW.tight k hk h0k
    refine ⟨ht.1, ?_⟩
    cases hd : upb Dn c true k with
    | true => rw [hdu k (by omega) hd, hdv k (by omega) hd]; omega
    | false =>
      rw [hdo k hd, hU.uo _ fun d hdn hdd e => ?_]
      · exact ht.2
      · have h1 := row_lt hR hi hn (k := d) (by omega) (hrow d (by omega) hdd)
        have := row_inj hR hn (a := d) (b := k) (by omega) (by omega) (hrow d (by omega) hdd) (by omega)
        subst this
        rw [hd] at hdd; cases hdd
  · rw [hds k hk hkd, hdu d hd hdd, hdo k hkd]
    have h1 := scan_lo hW hS hd hdd hk hkd hM
    have h2 := row_lt hR hi hn hd (hrow d hd hdd)
    have h3 := hG.c h2.1 hk
    have h4 := hW.pot.u _ h2.1
    have h5 := hW.pot.v k (by omega)
    split
    · omega
    · unfold far at *; omega
  · rw [hds k hk hkd]
    have h1 := scan_hi hW hS hk hkd
    split
    · rename_i hf
      refine ⟨by omega, fun _ => ?_⟩
      obtain ⟨b, b1, b2, b3, b4, b5⟩ := h1.2 hf
      exact ⟨b, b1, b2, b3, b4, by rw [hdu b b2 b3, hdo k hkd]; omega⟩
    · exact ⟨h1.1, fun h => absurd h ‹_›⟩
  · rcases h with h | rfl
    · have hb : Bf1 k = Bf k := (hS.out k (.inr h)).2
      have h2 : Dn k = true ∨ k = c := by rcases dn_of h with e | ⟨_, e⟩; exact .inr e; exact .inl e
      obtain ⟨b, b1, b2, b3, b4, b5, b6⟩ := hW.path k hk h2
      have b3' : upb Dn c true b = true := by rw [upb_ne fun e => by subst e; rw [hW.cd] at b3; cases b3]; exact b3
      refine ⟨b, by rw [hb]; exact b1, b2, b3', by rw [hox b b3', hox k h]; exact b4, b5, ?_⟩
      rw [hdu b b2 b3', hdv k (by omega) h]; omega
    · have hf : Ds1 k < far := by unfold far; omega
      obtain ⟨b, b1, b2, b3, b4, b5⟩ := (scan_hi hW hS hk hxd).2 hf
      refine ⟨b, b1, b2, b3, ?_, b4, ?_⟩
      · rw [hox b b3, if_pos rfl]; exact hod b b2 b3
      · rw [hdu b b2 b3, hdo k hxd]; omega
  · rw [hox k hkd]; exact hod k hk hkd
end
end Go.Proofs.Ytjiknjcmfiapjaa


/- The plain law of lights: which lights are valid, which overlay decides, which cue gives the colour. No condition. -/
import Derived.Test.YtiikejhkhdmgeaaGreatNam
import Derived.Test.YtiikejhkhdmgeaaGreatColW2
namespace Go.Proofs.YtiikejhkhdmgeaaGreat
set_option linter.unusedVariables false
set_option linter.unusedSimpArgs false

structure Cu where
  t : Int
  f : Int
  g : ByteArray
  c : Col
structure Ov where
  g : ByteArray
  p : Int
  e : Eff
instance : Inhabited Col := ⟨⟨0, 0, 0⟩⟩
instance : Inhabited V3 := ⟨⟨0, 0, 0⟩⟩
instance : Inhabited Eff := ⟨⟨0, 0, 0, 0, 0, default, 0, 0, default, default⟩⟩
instance : Inhabited Cu := ⟨⟨0, 0, ⟨#[]⟩, default⟩⟩
instance : Inhabited Ov := ⟨⟨⟨#[]⟩, 0, default⟩⟩
def cu (l : List Cu) (i : Nat) : Cu := l.getD i default
def ov (l : List Ov) (i : Nat) : Ov := l.getD i default
def nm (l : List ByteArray) (i : Nat) : ByteArray := l.getD i ⟨#[]⟩
structure Li where
  nG : Nat
  G : Nat → List ByteArray
  cs : List Cu
  os : List Ov

/-! ### Which are valid -/
def isT (n : Int) : Bool := within n 0 3600000
def cuOk (c : Cu) : Bool := isT c.t && isT c.f && nameB c.g
def cuLt (a b : Cu) : Bool := decide (a.t < b.t) || (decide (a.t = b.t) && nlt a.g b.g)
def cusB (l : List Cu) : Bool := decide ((∀ i, i < l.length → cuOk (cu l i) = true) ∧ (∀ i, i < l.length - 1 → cuLt (cu l i) (cu l (i + 1)) = true) ∧ l.length ≤ 1000)
theorem cusB_iff {l : List Cu} : cusB l = true ↔ (∀ i, i < l.length → cuOk (cu l i) = true) ∧ (∀ i, i + 1 < l.length → cuLt (cu l i) (cu l (i + 1)) = true) ∧ l.length ≤ 1000 := by
  unfold cusB; rw [decide_eq_true_iff]
  exact ⟨fun ⟨a, b, c⟩ => ⟨a, fun i hi => b i (by omega), c⟩, fun ⟨a, b, c⟩ => ⟨a, fun i hi => b i (by omega), c⟩⟩
def grpB (g : List ByteArray) : Bool := decide ((∀ i, i < g.length → nameB (nm g i) = true) ∧ (∀ i, i < g.length → ∀ j, j < i → nm g j ≠ nm g i) ∧ g.length ≤ 16)
theorem grpB_iff {g : List ByteArray} : grpB g = true ↔ (∀ i, i < g.length → nameB (nm g i) = true) ∧ (∀ i, i < g.length → ∀ j, j < i → nm g j ≠ nm g i) ∧ g.length ≤ 16 := by
  unfold grpB; exact decide_eq_true_iff
def ovB (o : Ov) : Bool := nameB o.g && within o.p 0 100 && effValid o.e
def liB (L : Li) : Bool := decide ((1 ≤ L.nG ∧ L.nG ≤ 64) ∧ cusB L.cs = true ∧ L.os.length ≤ 64 ∧ (∀ i, i < L.nG → grpB (L.G i) = true) ∧ ∀ i, i < L.os.length → ovB (ov L.os i) = true)
theorem liB_iff {L : Li} : liB L = true ↔ (1 ≤ L.nG ∧ L.nG ≤ 64) ∧ cusB L.cs = true ∧ L.os.length ≤ 64 ∧ (∀ i, i < L.nG → grpB (L.G i) = true) ∧ ∀ i, i < L.os.length → ovB (ov L.os i) = true := by
  unfold liB; exact decide_eq_true_iff
def fineE (L : Li) (a t : Int) : Int := if liB L = true ∧ 0 ≤ a ∧ a < L.nG then (if 0 ≤ t ∧ t ≤ 3600000 then 0 else 3) else 2
theorem fine_zero {L : Li} {a t : Int} : fineE L a t = 0 ↔ liB L = true ∧ (0 ≤ a ∧ a < L.nG) ∧ 0 ≤ t ∧ t ≤ 3600000 := by
  unfold fineE
  split
  · split
    · simp_all
    · simp_all
  · rename_i h
    constructor
    · intro h2; cases h2
    · intro h2; exact absurd ⟨h2.1, h2.2.1.1, h2.2.1.2⟩ h

/-! ### The order of cues -/
theorem cuLt_trans {a b c : Cu} (h : cuLt a b = true) (k : cuLt b c = true) : cuLt a c = true := by
  simp only [cuLt, Bool.or_eq_true, Bool.and_eq_true, decide_eq_true_eq] at *
  rcases h with h | ⟨h, h'⟩ <;> rcases k with k | ⟨k, k'⟩
  · left; omega
  · left; omega
  · left; omega
  · right; exact ⟨by omega, nlt_trans h' k'⟩
theorem cuLt_le {a b : Cu} (h : cuLt a b = true) : a.t ≤ b.t := by
  simp only [cuLt, Bool.or_eq_true, Bool.and_eq_true, decide_eq_true_eq] at h
  rcases h with h | ⟨h, _⟩ <;> omega
theorem cuLt_same {a b : Cu} (h : cuLt a b = true) (e : a.g = b.g) : a.t < b.t := by
  simp only [cuLt, Bool.or_eq_true, Bool.and_eq_true, decide_eq_true_eq] at h
  rcases h with h | ⟨_, h⟩
  · exact h
  · rw [e, nlt_irrefl] at h; cases h
theorem cu_get {l : List Cu} {i : Nat} (h : i < l.length) : cu l i = l[i] := by simp [cu, List.getD, h]
theorem cus_lt {l : List Cu} (h : cusB l = true) {i k : Nat} (hik : i < k) (hk : k < l.length) : cuLt (cu l i) (cu l k) = true := by
  have hs := (cusB_iff.1 h).2.1
  induction k with
  | zero => omega
  | succ k ih =>
    by_cases e : i = k
    · subst e; exact hs i hk
    · exact cuLt_trans (ih (by omega) (by omega)) (hs k hk)
theorem cus_le {l : List Cu} (h : cusB l = true) {i k : Nat} (hik : i ≤ k) (hk : k < l.length) : (cu l i).t ≤ (cu l k).t := by
  by_cases e : i = k
  · subst e; exact Int.le_refl _
  · exact cuLt_le (cus_lt h (by omega) hk)
theorem cus_pair {l : List Cu} (h : cusB l = true) : l.Pairwise fun a b => cuLt a b = true := by
  rw [List.pairwise_iff_getElem]
  intro i j hi hj hij
  have := cus_lt h hij hj
  rwa [cu_get hi, cu_get hj] at this
/-- The cues of a group. -/
def ofG (l : List Cu) (g : ByteArray) : List Cu := l.filter fun c => decide (c.g = g)
theorem ofG_len (l : List Cu) (g : ByteArray) : (ofG l g).length ≤ l.length := List.length_filter_le _ _
theorem ofG_rise {l : List Cu} (h : cusB l = true) (g : ByteArray) {i k : Nat} (hik : i < k) (hk : k < (ofG l g).length) : (cu (ofG l g) i).t < (cu (ofG l g) k).t := by
  have hp := (cus_pair h).filter (fun c => decide (c.g = g))
  rw [List.pairwise_iff_getElem] at hp
  have hi : i < (ofG l g).length := by omega
  have h1 := hp i k hi hk hik
  have m1 : (ofG l g)[i] ∈ ofG l g := List.getElem_mem _
  have m2 : (ofG l g)[k] ∈ ofG l g := List.getElem_mem _
  unfold ofG at m1 m2
  rw [List.mem_filter] at m1 m2
  have e1 := m1.2
  have e2 := m2.2
  simp only [decide_eq_true_eq] at e1 e2
  rw [cu_get hi, cu_get hk]
  exact cuLt_same h1 (e1.trans e2.symm)
theorem mem_cu {l : List Cu} {c : Cu} (h : c ∈ l) : ∃ i, i < l.length ∧ cu l i = c := by
  obtain ⟨i, hi, e⟩ := List.mem_iff_getElem.1 h
  exact ⟨i, hi, by rw [cu_get hi, e]⟩
theorem ofG_mem {l : List Cu} {g : ByteArray} {i : Nat} (hi : i < (ofG l g).length) : ∃ j, j < l.length ∧ cu l j = cu (ofG l g) i ∧ (cu (ofG l g) i).g = g := by
  have m1 : (ofG l g)[i] ∈ ofG l g := List.getElem_mem _
  rw [cu_get hi]
  generalize (ofG l g)[i] = c at *
  unfold ofG at m1
  rw [List.mem_filter] at m1
  obtain ⟨j, hj, e⟩ := mem_cu m1.1
  exact ⟨j, hj, e, by simpa using m1.2⟩
theorem mem_ofG {l : List Cu} {g : ByteArray} {j : Nat} (hj : j < l.length) (e : (cu l j).g = g) : ∃ i, i < (ofG l g).length ∧ cu (ofG l g) i = cu l j := by
  have : cu l j ∈ ofG l g := by
    unfold ofG
    rw [List.mem_filter]
    exact ⟨by rw [cu_get hj]; exact List.getElem_mem _, by simpa using e⟩
  exact mem_cu this
theorem ofG_take {l : List Cu} {g : ByteArray} {k : Nat} (hk : k < l.length) : ofG (l.take (k + 1)) g = if (cu l k).g = g then ofG (l.take k) g ++ [cu l k] else ofG (l.take k) g := by
  unfold ofG
  rw [List.take_succ_eq_append_getElem hk, List.filter_append, cu_get hk]
  by_cases h : l[k].g = g <;> simp [List.filter_cons, h]

/-! ### The colour by the cues of a group -/
/-- The colour at t by the first n cues. -/
def val (l : List Cu) : Nat → Int → Col
  | 0, _ => black
  | n + 1, t => if t < (cu l n).t then val l n t else if (cu l n).t + (cu l n).f ≤ t then (cu l n).c else mixCol (val l n (cu l n).t) (cu l n).c (t - (cu l n).t) (cu l n).f
theorem val_skip {l : List Cu} {k : Nat} {t : Int} : ∀ {n : Nat}, k ≤ n → (∀ j, k ≤ j → j < n → t < (cu l j).t) → val l n t = val l k t
  | 0, h, _ => by have : k = 0 := by omega
                  subst this; rfl
  | n + 1, h, H => by
    by_cases e : k = n + 1
    · subst e; rfl
    · rw [val, if_pos (H n (by omega) (by omega))]
      exact val_skip (by omega) fun j h1 h2 => H j h1 (by omega)
/-- The colour that a closure gives behind the cue k. -/
def nowB (l : List Cu) (k : Nat) (t : Int) : Col := if (cu l k).t + (cu l k).f ≤ t then (cu l k).c else mixCol (val l k (cu l k).t) (cu l k).c (t - (cu l k).t) (cu l k).f
theorem val_now {l : List Cu} {k : Nat} {t : Int} (h : (cu l k).t ≤ t) : val l (k + 1) t = nowB l k t := by
  rw [val, if_neg (by omega), nowB]
theorem black_ok : black.ok := by simp [black, Col.ok, U8]
theorem val_ok {l : List Cu} : ∀ {n : Nat} {t : Int}, (∀ i, i < n → (cu l i).c.ok) → (val l n t).ok
  | 0, _, _ => black_ok
  | n + 1, t, H => by
    rw [val]
    split
    · exact val_ok fun i hi => H i (by omega)
    · split
      · exact H n (by omega)
      · exact mixCol_ok (val_ok fun i hi => H i (by omega)) (H n (by omega)) (by omega) (by omega) (by omega)
/-- The colour of a group at a time. -/
def valG (l : List Cu) (g : ByteArray) (t : Int) : Col := val (ofG l g) (ofG l g).length t
def valE (l : List Cu) (g : ByteArray) (t : Int) : Int := if cusB l = true ∧ nameB g = true then (if 0 ≤ t ∧ t ≤ 3600000 then 0 else 3) else 2
def valC (l : List Cu) (g : ByteArray) (t : Int) : Col := if valE l g t = 0 then valG l g t else black

/-! ### Which overlay decides -/
def memB (g : List ByteArray) (x : ByteArray) : Bool := decide (∃ i, i < g.length ∧ nm g i = x)
theorem memB_iff {g : List ByteArray} {x : ByteArray} : memB g x = true ↔ ∃ i, i < g.length ∧ nm g i = x := by
  unfold memB; exact decide_eq_true_iff
def onB (e : Eff) (t : Int) : Bool := decide (e.fr ≤ t) && decide (t < e.to)
def hitB (os : List Ov) (g : List ByteArray) (t : Int) (i : Nat) : Bool := onB (ov os i).e t && memB g (ov os i).g
/-- The best overlay of the first n, or -1. -/
def wh (os : List Ov) (g : List ByteArray) (t : Int) : Nat → Int
  | 0 => -1
  | n + 1 => if hitB os g t n = true ∧ (wh os g t n < 0 ∨ (ov os (wh os g t n).toNat).p ≤ (ov os n).p) then (n : Int) else wh os g t n
theorem wh_bd (os : List Ov) (g : List ByteArray) (t : Int) : ∀ n : Nat, -1 ≤ wh os g t n ∧ wh os g t n < n
  | 0 => by simp [wh]
  | n + 1 => by
    have := wh_bd os g t n
    rw [wh]
    split <;> omega
theorem wh_hit (os : List Ov) (g : List ByteArray) (t : Int) : ∀ n : Nat, 0 ≤ wh os g t n → hitB os g t (wh os g t n).toNat = true
  | 0, h => by simp [wh] at h
  | n + 1, h => by
    rw [wh] at h ⊢
    split
    · rename_i h1; simpa using h1.1
    · rename_i h1; rw [if_neg h1] at h; exact wh_hit os g t n h
/-- The priority that the program keeps. -/
def whP (os : List Ov) (g : List ByteArray) (t : Int) (n : Nat) : Int := if wh os g t n < 0 then 0 else (ov os (wh os g t n).toNat).p
theorem wh_congr {os os' : List Ov} {g g' : List ByteArray} {t t' : Int} : ∀ {n : Nat}, (∀ i, i < n → hitB os g t i = hitB os' g' t' i ∧ (ov os i).p = (ov os' i).p) → wh os g t n = wh os' g' t' n
  | 0, _ => rfl
  | n + 1, H => by
    have h := wh_congr (n := n) fun i hi => H i (by omega)
    rw [wh, wh, ← h, (H n (by omega)).1, (H n (by omega)).2]
    by_cases h0 : wh os g t n < 0
    · simp [h0]
    · have hb := wh_bd os g t n
      rw [(H (wh os g t n).toNat (by omega)).2]
def whE (L : Li) (a t : Int) : Int := if fineE L a t = 0 then wh L.os (L.G a.toNat) t L.os.length else 0

/-! ### Which cue gives the colour -/
/-- The place of a group, or -1. -/
def rk (g : List ByteArray) (x : ByteArray) : Nat → Int
  | 0 => -1
  | n + 1 => if 0 ≤ rk g x n then rk g x n else if nm g n = x then (n : Int) else -1
def rank (g : List ByteArray) (x : ByteArray) : Int := rk g x g.length
theorem rk_bd (g : List ByteArray) (x : ByteArray) : ∀ n : Nat, -1 ≤ rk g x n ∧ rk g x n < n
  | 0 => by simp [rk]
  | n + 1 => by
    have := rk_bd g x n
    rw [rk]
    split
    · omega
    · split <;> omega
theorem rk_at (g : List ByteArray) (x : ByteArray) : ∀ n : Nat, 0 ≤ rk g x n → nm g (rk g x n).toNat = x
  | 0, h => by simp [rk] at h
  | n + 1, h => by
    rw [rk] at h ⊢
    split
    · rename_i h1; exact rk_at g x n h1
    · rename_i h1
      rw [if_neg h1] at h
      split
      · rename_i h2; simpa using h2
      · rename_i h2; rw [if_neg h2] at h; omega
theorem rk_none (g : List ByteArray) (x : ByteArray) : ∀ n : Nat, rk g x n < 0 → ∀ i, i < n → nm g i ≠ x
  | 0, _, i, hi => absurd hi (by omega)
  | n + 1, h, i, hi => by
    rw [rk] at h
    split at h
    · omega
    · split at h
      · omega
      · rename_i h1 h2
        by_cases e : i = n
        · subst e; exact h2
        · exact rk_none g x n (by omega) i (by omega)
theorem rank_inj {g : List ByteArray} {x y : ByteArray} (hx : memB g x = true) (e : rank g x = rank g y) : x = y := by
  obtain ⟨i, hi, e1⟩ := memB_iff.1 hx
  have h0 : 0 ≤ rank g x := by
    rcases Int.lt_or_le (rank g x) 0 with h | h
    · exact absurd e1 (rk_none g x _ h i hi)
    · exact h
  have h1 := rk_at g x g.length h0
  have h2 := rk_at g y g.length (by show 0 ≤ rank g y; omega)
  rw [← h1, ← h2]
  show nm g (rank g x).toNat = nm g (rank g y).toNat
  rw [e]
theorem rank_at {g : List ByteArray} (hg : grpB g = true) {i : Nat} (hi : i < g.length) : rank g (nm g i) = i := by
  have hd := (grpB_iff.1 hg).2.1
  have h0 : 0 ≤ rank g (nm g i) := by
    rcases Int.lt_or_le (rank g (nm g i)) 0 with h | h
    · exact absurd rfl (rk_none g _ _ h i hi)
    · exact h
  have h1 := rk_at g (nm g i) g.length h0
  have h2 := (rk_bd g (nm g i) g.length).2
  have h3 : rank g (nm g i) = rk g (nm g i) g.length := rfl
  rw [h3] at h0 ⊢
  rcases Nat.lt_trichotomy (rk g (nm g i) g.length).toNat i with h | h | h
  · exact absurd h1 (hd i hi _ h)
  · omega
  · exact absurd h1.symm (hd _ (by omega) i h)

/-- What the program has found behind the first n cues: the time, -1 before, and the group. -/
def pick (cs : List Cu) (g : List ByteArray) : Nat → Int × ByteArray
  | 0 => (-1, ⟨#[]⟩)
  | n + 1 => if memB g (cu cs n).g = true ∧ ((pick cs g n).1 < (cu cs n).t ∨ rank g (cu cs n).g < rank g (pick cs g n).2) then ((cu cs n).t, (cu cs n).g) else pick cs g n
/-- The time of the last cue of a group up to t among the first n, or -1. -/
def lastT (cs : List Cu) (x : ByteArray) (t : Int) : Nat → Int
  | 0 => -1
  | n + 1 => if (cu cs n).g = x ∧ (cu cs n).t ≤ t then (cu cs n).t else lastT cs x t n
def lst (cs : List Cu) (x : ByteArray) (t : Int) : Int := lastT cs x t cs.length
/-- What the reference has found behind the first n groups. -/
def rpick (cs : List Cu) (g : List ByteArray) (t : Int) : Nat → Int × ByteArray
  | 0 => (-1, ⟨#[]⟩)
  | n + 1 => if (rpick cs g t n).1 < lst cs (nm g n) t then (lst cs (nm g n) t, nm g n) else rpick cs g t n

/-- What both are to find: the last time up to t at which a cue of a group comes, and the first group that has one then. -/
def Best (cs : List Cu) (g : List ByteArray) (t : Int) (r : Int × ByteArray) : Prop :=
  (r = (-1, ⟨#[]⟩) ∧ ∀ k, k < cs.length → (cu cs k).t ≤ t → memB g (cu cs k).g = false) ∨
  ((∃ k, k < cs.length ∧ (cu cs k).t = r.1 ∧ (cu cs k).g = r.2) ∧ r.1 ≤ t ∧ memB g r.2 = true ∧
    ∀ k, k < cs.length → (cu cs k).t ≤ t → memB g (cu cs k).g = true → (cu cs k).t < r.1 ∨ ((cu cs k).t = r.1 ∧ rank g r.2 ≤ rank g (cu cs k).g))
theorem best_uniq {cs : List Cu} {g : List ByteArray} {t : Int} {r s : Int × ByteArray} (h : Best cs g t r) (k : Best cs g t s) : r = s := by
  rcases h with ⟨h1, h2⟩ | ⟨⟨a, ha, ea, ea'⟩, h2, h3, h4⟩
  · rcases k with ⟨k1, k2⟩ | ⟨⟨b, hb, eb, eb'⟩, k2, k3, k4⟩
    · rw [h1, k1]
    · have := h2 b hb (by omega)
      rw [eb', k3] at this; cases this
  · rcases k with ⟨k1, k2⟩ | ⟨⟨b, hb, eb, eb'⟩, k2, k3, k4⟩
    · have := k2 a ha (by omega)
      rw [ea', h3] at this; cases this
    · have p1 := h4 b hb (by omega) (by rw [eb']; exact k3)
      have p2 := k4 a ha (by omega) (by rw [ea']; exact h3)
      rw [eb, eb'] at p1
      rw [ea, ea'] at p2
      have e1 : r.1 = s.1 := by omega
      have e2 : rank g r.2 = rank g s.2 := by omega
      exact Prod.ext e1 (rank_inj h3 e2)
theorem pick_best {cs : List Cu} {g : List ByteArray} {t : Int} (hc : cusB cs = true) {n : Nat} (hn : n ≤ cs.length) (h1 : ∀ k, k < n → (cu cs k).t ≤ t) (h2 : n < cs.length → t < (cu cs n).t) : Best cs g t (pick cs g n) := by
  have key : ∀ m, m ≤ n → (pick cs g m = (-1, ⟨#[]⟩) ∧ ∀ k, k < m → memB g (cu cs k).g = false) ∨
      ((∃ k, k < m ∧ (cu cs k).t = (pick cs g m).1 ∧ (cu cs k).g = (pick cs g m).2) ∧ (pick cs g m).1 ≤ t ∧ memB g (pick cs g m).2 = true ∧
        ∀ k, k < m → memB g (cu cs k).g = true → (cu cs k).t < (pick cs g m).1 ∨ ((cu cs k).t = (pick cs g m).1 ∧ rank g (pick cs g m).2 ≤ rank g (cu cs k).g)) := by
    intro m
    induction m with
    | zero => intro _; exact .inl ⟨rfl, fun k hk => absurd hk (by omega)⟩
    | succ m ih =>
      intro hm
      have ih := ih (by omega)
      have ht := h1 m (by omega)
      have h0 : 0 ≤ (cu cs m).t := by
        have := (cusB_iff.1 hc).1 m (by omega)
        simp only [cuOk, isT, Bool.and_eq_true, within_iff] at this
        omega
      rw [pick]
      split
      · rename_i hu
        right
        refine ⟨⟨m, by omega, rfl, rfl⟩, ht, hu.1, fun k hk hmem => ?_⟩
        by_cases e : k = m
        · subst e; exact .inr ⟨rfl, Int.le_refl _⟩
        · have hle := cus_le hc (i := k) (k := m) (by omega) (by omega)
          rcases ih with ⟨i1, i2⟩ | ⟨⟨q, hq, q1, q2⟩, i2, i3, i4⟩
          · have := i2 k (by omega); rw [this] at hmem; cases hmem
          · have i5 := i4 k (by omega) hmem
            have i6 := cus_le hc (i := q) (k := m) (by omega) (by omega)
            show (cu cs k).t < (cu cs m).t ∨ ((cu cs k).t = (cu cs m).t ∧ rank g (cu cs m).g ≤ rank g (cu cs k).g)
            rcases hu.2 with hu2 | hu2 <;> omega
      · rename_i hu
        rcases ih with ⟨i1, i2⟩ | ⟨⟨q, hq, q1, q2⟩, i2, i3, i4⟩
        · left
          refine ⟨i1, fun k hk => ?_⟩
          by_cases e : k = m
          · subst e
            cases hh : memB g (cu cs k).g
            · rfl
            · exact absurd ⟨hh, .inl (by rw [i1]; show (-1 : Int) < _; omega)⟩ hu
          · exact i2 k (by omega)
        · right
          refine ⟨⟨q, by omega, q1, q2⟩, i2, i3, fun k hk hmem => ?_⟩
          by_cases e : k = m
          · subst e
            have i6 := cus_le hc (i := q) (k := k) (by omega) (by omega)
            have n1 : ¬ ((pick cs g k).1 < (cu cs k).t ∨ rank g (cu cs k).g < rank g (pick cs g k).2) := fun hh => hu ⟨hmem, hh⟩
            omega
          · exact i4 k (by omega) hmem
  have late : ∀ k, n ≤ k → k < cs.length → t < (cu cs k).t := fun k hk hkl => by
    have := cus_le hc (i := n) (k := k) hk hkl
    have := h2 (by omega)
    omega
  rcases key n (Nat.le_refl _) with ⟨i1, i2⟩ | ⟨⟨q, hq, q1, q2⟩, i2, i3, i4⟩
  · exact .inl ⟨i1, fun k hk hkt => i2 k (by rcases Nat.lt_or_ge k n with h | h; exact h; have := late k h hk; omega)⟩
  · exact .inr ⟨⟨q, by omega, q1, q2⟩, i2, i3, fun k hk hkt => i4 k (by rcases Nat.lt_or_ge k n with h | h; exact h; have := late k h hk; omega)⟩
/-- The last time of a group. -/
theorem lastT_spec {cs : List Cu} (hc : cusB cs = true) (x : ByteArray) (t : Int) : ∀ n, n ≤ cs.length →
    (lastT cs x t n = -1 ∧ ∀ k, k < n → (cu cs k).g = x → t < (cu cs k).t) ∨
    (0 ≤ lastT cs x t n ∧ lastT cs x t n ≤ t ∧ (∃ k, k < n ∧ (cu cs k).g = x ∧ (cu cs k).t = lastT cs x t n) ∧ ∀ k, k < n → (cu cs k).g = x → (cu cs k).t ≤ t → (cu cs k).t ≤ lastT cs x t n)
  | 0, _ => .inl ⟨rfl, fun k hk => absurd hk (by omega)⟩
  | n + 1, hn => by
    have ih := lastT_spec hc x t n (by omega)
    have h0 : 0 ≤ (cu cs n).t := by
      have := (cusB_iff.1 hc).1 n (by omega)
      simp only [cuOk, isT, Bool.and_eq_true, within_iff] at this
      omega
    rw [lastT]
    split
    · rename_i hu
      right
      refine ⟨h0, hu.2, ⟨n, by omega, hu.1, rfl⟩, fun k hk _ _ => cus_le hc (by omega) (by omega)⟩
    · rename_i hu
      rcases ih with ⟨i1, i2⟩ | ⟨i1, i2, ⟨q, hq, q1, q2⟩, i4⟩
      · left
        refine ⟨i1, fun k hk e => ?_⟩
        by_cases ek : k = n
        · subst ek
          rcases Int.lt_or_le t (cu cs k).t with h | h
          · exact h
          · exact absurd ⟨e, h⟩ hu
        · exact i2 k (by omega) e
      · right
        refine ⟨i1, i2, ⟨q, by omega, q1, q2⟩, fun k hk e et => ?_⟩
        by_cases ek : k = n
        · subst ek; exact absurd ⟨e, et⟩ hu
        · exact i4 k (by omega) e et
theorem rpick_best {cs : List Cu} {g : List ByteArray} {t : Int} (hc : cusB cs = true) (hg : grpB g = true) : Best cs g t (rpick cs g t g.length) := by
  have key : ∀ m, m ≤ g.length → (rpick cs g t m = (-1, ⟨#[]⟩) ∧ ∀ i, i < m → lst cs (nm g i) t = -1) ∨
      (∃ i, i < m ∧ rpick cs g t m = (lst cs (nm g i) t, nm g i) ∧ 0 ≤ lst cs (nm g i) t ∧ (∀ j, j < m → lst cs (nm g j) t ≤ lst cs (nm g i) t) ∧ ∀ j, j < i → lst cs (nm g j) t < lst cs (nm g i) t) := by
    intro m
    induction m with
    | zero => intro _; exact .inl ⟨rfl, fun k hk => absurd hk (by omega)⟩
    | succ m ih =>
      intro hm
      have ih := ih (by omega)
      have hl := lastT_spec hc (nm g m) t cs.length (Nat.le_refl _)
      have hm1 : -1 ≤ lst cs (nm g m) t := by
        show -1 ≤ lastT cs (nm g m) t cs.length
        rcases hl with h | h <;> omega
      rw [rpick]
      split
      · rename_i hu
        right
        rcases ih with ⟨i1, i2⟩ | ⟨i, hi, i1, i2, i3, i4⟩
        · rw [i1] at hu
          have hu : (-1 : Int) < lst cs (nm g m) t := hu
          refine ⟨m, by omega, rfl, by omega, fun j hj => ?_, fun j hj => by rw [i2 j hj]; omega⟩
          by_cases e : j = m
          · subst e; exact Int.le_refl _
          · rw [i2 j (by omega)]; omega
        · rw [i1] at hu
          have hu : lst cs (nm g i) t < lst cs (nm g m) t := hu
          refine ⟨m, by omega, rfl, by omega, fun j hj => ?_, fun j hj => by have := i3 j hj; omega⟩
          by_cases e : j = m
          · subst e; exact Int.le_refl _
          · have := i3 j (by omega); omega
      · rename_i hu
        rcases ih with ⟨i1, i2⟩ | ⟨i, hi, i1, i2, i3, i4⟩
        · left
          refine ⟨i1, fun j hj => ?_⟩
          by_cases e : j = m
          · subst e
            rw [i1] at hu
            have hu : ¬ (-1 : Int) < lst cs (nm g j) t := hu
            omega
          · exact i2 j (by omega)
        · right
          refine ⟨i, by omega, i1, i2, fun j hj => ?_, i4⟩
          by_cases e : j = m
          · subst e
            rw [i1] at hu
            have hu : ¬ lst cs (nm g i) t < lst cs (nm g j) t := hu
            omega
          · exact i3 j (by omega)
  rcases key g.length (Nat.le_refl _) with ⟨i1, i2⟩ | ⟨i, hi, i1, i2, i3, i4⟩
  · left
    refine ⟨i1, fun k hk hkt => ?_⟩
    cases hh : memB g (cu cs k).g
    · rfl
    · obtain ⟨j, hj, e⟩ := memB_iff.1 hh
      have h1 := i2 j hj
      have h2 := lastT_spec hc (nm g j) t cs.length (Nat.le_refl _)
      have h3 : lastT cs (nm g j) t cs.length = -1 := h1
      rcases h2 with ⟨_, h2⟩ | ⟨h2, _⟩
      · have := h2 k hk e.symm; omega
      · omega
  · right
    rw [i1]
    have h2 := lastT_spec hc (nm g i) t cs.length (Nat.le_refl _)
    rcases h2 with ⟨h2, _⟩ | ⟨_, h2, ⟨q, hq, q1, q2⟩, h4⟩
    · have : lst cs (nm g i) t = -1 := h2
      omega
    · refine ⟨⟨q, hq, q2, q1⟩, h2, memB_iff.2 ⟨i, hi, rfl⟩, fun k hk hkt hmem => ?_⟩
      obtain ⟨j, hj, e⟩ := memB_iff.1 hmem
      have hr : rank g (cu cs k).g = j := by rw [← e]; exact rank_at hg hj
      have hri : rank g (nm g i) = i := rank_at hg hi
      have hjl := i3 j hj
      have hlj := lastT_spec hc (nm g j) t cs.length (Nat.le_refl _)
      have hle : (cu cs k).t ≤ lst cs (nm g j) t := by
        show _ ≤ lastT cs (nm g j) t cs.length
        rcases hlj with ⟨_, h⟩ | ⟨_, _, _, h⟩
        · have := h k hk e.symm; omega
        · exact h k hk e.symm hkt
      show (cu cs k).t < lst cs (nm g i) t ∨ ((cu cs k).t = lst cs (nm g i) t ∧ rank g (nm g i) ≤ rank g (cu cs k).g)
      rw [hr, hri]
      rcases Nat.lt_or_ge j i with hji | hji
      · have := i4 j hji; omega
      · omega
/-- The program and the reference find the same. -/
theorem pick_rpick {cs : List Cu} {g : List ByteArray} {t : Int} (hc : cusB cs = true) (hg : grpB g = true) {n : Nat} (hn : n ≤ cs.length) (h1 : ∀ k, k < n → (cu cs k).t ≤ t) (h2 : n < cs.length → t < (cu cs n).t) : pick cs g n = rpick cs g t g.length :=
  best_uniq (pick_best hc hn h1 h2) (rpick_best hc hg)

/-! ### The colour -/
def cueC (cs : List Cu) (g : List ByteArray) (t : Int) : Col := if (rpick cs g t g.length).1 < 0 then black else valG cs (rpick cs g t g.length).2 t
def colC (L : Li) (a : Int) (p : V3) (t : Int) : Col :=
  if 0 ≤ wh L.os (L.G a.toNat) t L.os.length then colourAt (ov L.os (wh L.os (L.G a.toNat) t L.os.length).toNat).e a p t else cueC L.cs (L.G a.toNat) t
def atE (L : Li) (a : Int) (p : V3) (t : Int) : Int := if point p = true then fineE L a t else 2
def atC (L : Li) (a : Int) (p : V3) (t : Int) : Col := if atE L a p t = 0 then colC L a p t else black

end Go.Proofs.YtiikejhkhdmgeaaGreat

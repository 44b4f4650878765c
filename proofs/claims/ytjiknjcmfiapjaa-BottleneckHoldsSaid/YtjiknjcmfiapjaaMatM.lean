
/- The search for a matching in memory. Conditions stand in each theorem. -/
import Derived.Test.YtjiknjcmfiapjaaGm
import Derived.Test.YtjiknjcmfiapjaaQue
import Derived.Test.YtjiknjcmfiapjaaMatR
namespace Go.Proofs.Ytjiknjcmfiapjaa
open Go.RowKit
set_option linter.unusedVariables false

/-- Block B, whole, not frozen. -/
def Blk (W : World) (B : Nat) (cs : Array Value) (t : TypeId) : Prop := W.heap[B]? = some (.cells cs t (0, 0))
theorem Blk.lt {W : World} {B : Nat} {cs : Array Value} {t : TypeId} (h : Blk W B cs t) : B < W.heap.size := (Array.getElem?_eq_some_iff.1 h).1
theorem Blk.cell {W : World} {B j : Nat} {cs : Array Value} {t : TypeId} {v : Value} (h : Blk W B cs t) (hj : cs[j]? = some v) : W.cell? ⟨B, j, none⟩ = some v := by
  simp [World.cell?, show W.heap[B]? = _ from h, hj]
theorem Blk.frozen {W : World} {B j : Nat} {cs : Array Value} {t : TypeId} (h : Blk W B cs t) : W.frozen? ⟨B, j, none⟩ = false := by simp [World.frozen?, show W.heap[B]? = _ from h]
theorem Blk.kept {W W' : World} {row : Option Nat} {B : Nat} {cs : Array Value} {t : TypeId} (h : Blk W B cs t) (hg : W.grownBy W' row) (hne : some B ≠ row) : Blk W' B cs t := (hg.block B h.lt hne).trans h
theorem Blk.xt {W : World} {B : Nat} {cs : Array Value} {t : TypeId} (h : Blk W B cs t) (g : Gr) : Blk (xt W g) B cs t := (xt_block W g B h.lt).trans h
theorem Blk.alloc {W : World} {B : Nat} {cs : Array Value} {t : TypeId} (h : Blk W B cs t) (o : Obj) : Blk (W.alloc o) B cs t := (Below.heap_alloc W o B h.lt).trans h
theorem Blk.new (W : World) (cs : Array Value) (t : TypeId) {m : Nat} (hm : m = W.heap.size) : Blk (W.alloc (.cells cs t)) m cs t := by subst hm; exact heap_alloc_new W _
theorem Blk.drew {W : World} {B : Nat} {cs : Array Value} {t : TypeId} (h : Blk W B cs t) : Blk W.drew B cs t := h
theorem Blk.set {W : World} {B k : Nat} {cs : Array Value} {t : TypeId} (h : Blk W B cs t) (v : Value) : Blk (W.setCell ⟨B, k, none⟩ v) B (cs.setIfInBounds k v) t := by
  have hlt := h.lt
  unfold Blk at *
  simp only [World.setCell, Array.getElem?_modify, h]
  rfl
theorem Blk.other {W : World} {B : Nat} {a : Addr} {cs : Array Value} {t : TypeId} (h : Blk W B cs t) (v : Value) (hne : a.block ≠ B) : Blk (W.setCell a v) B cs t := (heap_setCell_other W a B v (Ne.symm hne)).trans h
theorem Blk.below {n₀ : Nat} {W W' : World} {B : Nat} {cs : Array Value} {t : TypeId} (h : Blk W B cs t) (hb : Below n₀ W W') (hB : B < n₀) : Blk W' B cs t := (hb.block B hB).trans h
theorem grownBy_set (W : World) (b k : Nat) (v : Value) : W.grownBy (W.setCell ⟨b, k, none⟩ v) (some b) :=
  ⟨rfl, rfl, rfl, by simp [World.setCell], fun j _ hne => heap_setCell_other W ⟨b, k, none⟩ j v (fun e => hne (by rw [e]))⟩

/-- The numbers f 0 .. f (n - 1). -/
def arrI (n : Nat) (f : Nat → Int) : Array Value := ((List.range n).map fun k => Value.int .i64 (f k)).toArray
theorem arrI_get {n k : Nat} {f : Nat → Int} (hk : k < n) : (arrI n f)[k]? = some (.int .i64 (f k)) := by simp [arrI, hk]
theorem arrI_size {n : Nat} {f : Nat → Int} : (arrI n f).size = n := by simp [arrI]
theorem arrI_set {n k : Nat} {f : Nat → Int} {v : Int} : (arrI n f).setIfInBounds k (.int .i64 v) = arrI n (up f k v) := by
  apply Array.ext_getElem?
  intro j
  by_cases hj : j < n
  · rw [arrI_get hj, Array.getElem?_setIfInBounds]
    by_cases e : k = j
    · subst e; rw [if_pos rfl, if_pos (by rw [arrI_size]; exact hj), up_self]
    · rw [if_neg e, arrI_get hj, up_ne (Ne.symm e)]
  · rw [Array.getElem?_eq_none (by simp [arrI]; omega), Array.getElem?_eq_none (by simp [arrI]; omega)]
theorem arrI_congr {n : Nat} {f g : Nat → Int} (h : ∀ k, k < n → f k = g k) : arrI n f = arrI n g := by
  unfold arrI
  congr 1
  apply List.map_congr_left
  intro k hk
  rw [h k (List.mem_range.1 hk)]

/-- The search lies there: w0 is the world in which it was made, W the one now. -/
structure SMem (w0 W : World) (A : Option Addr) (cA nL R : Nat) (G : Nat → List Int) (bS bM bB bV : Nat) (s : St) : Prop where
  below : Below w0.heap.size w0 W
  geS : w0.heap.size ≤ bS
  geM : w0.heap.size ≤ bM
  geB : w0.heap.size ≤ bB
  geV : w0.heap.size ≤ bV
  nSM : bS ≠ bM
  nSB : bS ≠ bB
  nSV : bS ≠ bV
  nMB : bM ≠ bB
  nMV : bM ≠ bV
  nBV : bB ≠ bV
  S : Blk W bS #[.slice A nL cA, .int .i64 R, .slice (some ⟨bM, 0, none⟩) nL nL, .slice (some ⟨bB, 0, none⟩) R R, .slice (some ⟨bV, 0, none⟩) nL nL] 81
  M : Blk W bM (arrI nL s.M) 3
  B : Blk W bB (arrI R s.B) 3
  V : Blk W bV (arrI nL s.V) 3
  G : GRow w0 A nL G
section
variable {w0 W : World} {A : Option Addr} {cA nL R : Nat} {G : Nat → List Int} {bS bM bB bV : Nat} {s : St}
theorem SMem.setV (h : SMem w0 W A cA nL R G bS bM bB bV s) (k : Nat) (v : Int) : SMem w0 (W.setCell ⟨bV, k, none⟩ (.int .i64 v)) A cA nL R G bS bM bB bV ⟨s.M, s.B, up s.V k v⟩ :=
  ⟨h.below.setCell h.geV _, h.geS, h.geM, h.geB, h.geV, h.nSM, h.nSB, h.nSV, h.nMB, h.nMV, h.nBV, h.S.other _ (Ne.symm h.nSV), h.M.other _ (Ne.symm h.nMV), h.B.other _ (Ne.symm h.nBV), by rw [← arrI_set]; exact h.V.set _, h.G⟩
theorem SMem.setM (h : SMem w0 W A cA nL R G bS bM bB bV s) (k : Nat) (v : Int) : SMem w0 (W.setCell ⟨bM, k, none⟩ (.int .i64 v)) A cA nL R G bS bM bB bV ⟨up s.M k v, s.B, s.V⟩ :=
  ⟨h.below.setCell h.geM _, h.geS, h.geM, h.geB, h.geV, h.nSM, h.nSB, h.nSV, h.nMB, h.nMV, h.nBV, h.S.other _ (Ne.symm h.nSM), by rw [← arrI_set]; exact h.M.set _, h.B.other _ h.nMB, h.V.other _ h.nMV, h.G⟩
theorem SMem.setB (h : SMem w0 W A cA nL R G bS bM bB bV s) (k : Nat) (v : Int) : SMem w0 (W.setCell ⟨bB, k, none⟩ (.int .i64 v)) A cA nL R G bS bM bB bV ⟨s.M, up s.B k v, s.V⟩ :=
  ⟨h.below.setCell h.geB _, h.geS, h.geM, h.geB, h.geV, h.nSM, h.nSB, h.nSV, h.nMB, h.nMV, h.nBV, h.S.other _ (Ne.symm h.nSB), h.M.other _ (Ne.symm h.nMB), by rw [← arrI_set]; exact h.B.set _, h.V.other _ h.nBV, h.G⟩
theorem SMem.grown {W' : World} {row : Option Nat} {base : Nat} (h : SMem w0 W A cA nL R G bS bM bB bV s) (hg : W.grownBy W' row) (hr : ∀ k, row = some k → base ≤ k) (hS : bS < base) (hM : bM < base) (hB : bB < base) (hV : bV < base) : SMem w0 W' A cA nL R G bS bM bB bV s :=
  ⟨h.below.grown hg (Nat.le_trans h.geS (Nat.le_of_lt h.S.lt)) (fun k e => by have := hr k e; have := h.geS; omega), h.geS, h.geM, h.geB, h.geV, h.nSM, h.nSB, h.nSV, h.nMB, h.nMV, h.nBV,
    h.S.kept hg (fun e => by have := hr _ e.symm; omega), h.M.kept hg (fun e => by have := hr _ e.symm; omega), h.B.kept hg (fun e => by have := hr _ e.symm; omega), h.V.kept hg (fun e => by have := hr _ e.symm; omega), h.G⟩
theorem SMem.drew (h : SMem w0 W A cA nL R G bS bM bB bV s) : SMem w0 W.drew A cA nL R G bS bM bB bV s :=
  ⟨h.below.drew, h.geS, h.geM, h.geB, h.geV, h.nSM, h.nSB, h.nSV, h.nMB, h.nMV, h.nBV, h.S, h.M, h.B, h.V, h.G⟩
theorem SMem.alloc (h : SMem w0 W A cA nL R G bS bM bB bV s) (o : Obj) : SMem w0 (W.alloc o) A cA nL R G bS bM bB bV s :=
  ⟨h.below.alloc (Nat.le_trans h.geS (Nat.le_of_lt h.S.lt)) o, h.geS, h.geM, h.geB, h.geV, h.nSM, h.nSB, h.nSV, h.nMB, h.nMV, h.nBV, h.S.alloc o, h.M.alloc o, h.B.alloc o, h.V.alloc o, h.G⟩
theorem SMem.congrV (h : SMem w0 W A cA nL R G bS bM bB bV s) {V' : Nat → Int} (e : ∀ k, k < nL → s.V k = V' k) : SMem w0 W A cA nL R G bS bM bB bV ⟨s.M, s.B, V'⟩ :=
  ⟨h.below, h.geS, h.geM, h.geB, h.geV, h.nSM, h.nSB, h.nSV, h.nMB, h.nMV, h.nBV, h.S, h.M, h.B, by rw [← arrI_congr e]; exact h.V, h.G⟩
/-- The fields. -/
theorem SMem.f (h : SMem w0 W A cA nL R G bS bM bB bV s) : W.cell? ⟨bS, 0, none⟩ = some (.slice A nL cA) ∧ W.cell? ⟨bS, 2, none⟩ = some (.slice (some ⟨bM, 0, none⟩) nL nL) ∧ W.cell? ⟨bS, 3, none⟩ = some (.slice (some ⟨bB, 0, none⟩) R R) ∧ W.cell? ⟨bS, 4, none⟩ = some (.slice (some ⟨bV, 0, none⟩) nL nL) ∧ old bS W ∧ old bM W ∧ old bB W ∧ old bV W :=
  ⟨h.S.cell rfl, h.S.cell rfl, h.S.cell rfl, h.S.cell rfl, h.S.lt, h.M.lt, h.B.lt, h.V.lt⟩
theorem SMem.m (h : SMem w0 W A cA nL R G bS bM bB bV s) {k : Nat} (hk : k < nL) : W.cell? ⟨bM, k, none⟩ = some (.int .i64 (s.M k)) ∧ W.frozen? ⟨bM, k, none⟩ = false := ⟨h.M.cell (arrI_get hk), h.M.frozen⟩
theorem SMem.b (h : SMem w0 W A cA nL R G bS bM bB bV s) {k : Nat} (hk : k < R) : W.cell? ⟨bB, k, none⟩ = some (.int .i64 (s.B k)) ∧ W.frozen? ⟨bB, k, none⟩ = false := ⟨h.B.cell (arrI_get hk), h.B.frozen⟩
theorem SMem.v (h : SMem w0 W A cA nL R G bS bM bB bV s) {k : Nat} (hk : k < nL) : W.cell? ⟨bV, k, none⟩ = some (.int .i64 (s.V k)) ∧ W.frozen? ⟨bV, k, none⟩ = false := ⟨h.V.cell (arrI_get hk), h.V.frozen⟩
/-- A left vertex' list of neighbours, as it lies now. -/
theorem SMem.g (h : SMem w0 W A cA nL R G bS bM bB bV s) : GRow W A nL G := h.G.below h.below
end

theorem ownsQ.set {w : World} {base n : Nat} {e : TypeId} {v : Value} {xs : List Value} (h : ownsQ w base e v n xs) (b k : Nat) (x : Value) (hb : b < base) : ownsQ (w.setCell ⟨b, k, none⟩ x) base e v n xs :=
  h.kept (grownBy_set w b k x) (.inr fun he => by have := (h.lt b he).1; omega)
theorem ownsQ.alloc {w : World} {base n : Nat} {e : TypeId} {v : Value} {xs : List Value} (h : ownsQ w base e v n xs) (o : Obj) : ownsQ (w.alloc o) base e v n xs :=
  h.kept (World.grownBy_alloc w o none) (by cases hv : v.ownBlock <;> simp)
theorem ownsQ.drew {w : World} {base n : Nat} {e : TypeId} {v : Value} {xs : List Value} (h : ownsQ w base e v n xs) : ownsQ w.drew base e v n xs := h
theorem drop_tail {l ns : List Int} {j : Nat} {x : Int} (h : l.drop j = x :: ns) : l.drop (j + 1) = ns := by
  rw [← List.tail_drop, h]; rfl
theorem getD_mem {l : List Int} {j : Nat} (h : j < l.length) : l.getD j 0 ∈ l := by simp [List.getD, h]
theorem drop_at {l : List Int} {j : Nat} (h : j < l.length) : l.drop j = l.getD j 0 :: l.drop (j + 1) := by
  rw [List.drop_eq_getElem_cons h]; simp [List.getD, h]
section
variable {B U : Nat → Int} {i m kk : Nat} {ns : List Int} {q : List Nat} {r : Bool}
theorem visit_free (h : B m < 0) : visit B i ((m : Int) :: ns) U q r = visit B i ns U q true := by
  rw [visit, if_pos (by simpa using h)]
theorem visit_new (h : B m = (kk : Int)) (hU : U kk < 0) : visit B i ((m : Int) :: ns) U q r = visit B i ns (up U kk (U i + 1)) (q ++ [kk]) r := by
  rw [visit, if_neg (by simp [h]), if_pos (by simpa [h] using hU)]
  simp [h]
theorem visit_old (h : B m = (kk : Int)) (hU : ¬ U kk < 0) : visit B i ((m : Int) :: ns) U q r = visit B i ns U q r := by
  rw [visit, if_neg (by simp [h]), if_neg (by simpa [h] using hU)]
end
/-- What every state in the search keeps to. -/
structure Fit (nL R : Nat) (G : Nat → List Int) : Prop where
  hL : nL ≤ 200
  hR : R ≤ 200
  g : ∀ i, i < nL → ∀ n ∈ G i, 0 ≤ n ∧ n < (R : Int)
  len : ∀ i, i < nL → (G i).length ≤ 200
/-- The levels and the queue while the levels are found. -/
structure LvI (nL : Nat) (V : Nat → Int) (q : List Nat) : Prop where
  low : ∀ k, -1 ≤ V k
  high : ∀ k, V k ≤ (nL : Int) - (cntp (lng V) nL : Nat)
  cnt : cntp (lng V) nL + q.length ≤ nL
  q : ∀ x ∈ q, x < nL
theorem LvI.push {nL k i : Nat} {V : Nat → Int} {q : List Nat} (h : LvI nL V q) (hk : k < nL) (hi : 0 ≤ V i) (h1 : V k < 0) : LvI nL (up V k (V i + 1)) (q ++ [k]) := by
  have h4 : cntp (lng V) nL = cntp (lng (up V k (V i + 1))) nL + 1 := by
    refine cntp_one nL k hk ?_ ?_ fun j _ hj => ?_
    · simp [lng, up_self]; omega
    · simp [lng, h1]
    · simp [lng, up_ne hj]
  refine ⟨fun j => ?_, fun j => ?_, ?_, fun x hx => ?_⟩
  · by_cases e : j = k
    · subst e; rw [up_self]; omega
    · rw [up_ne e]; exact h.low j
  · by_cases e : j = k
    · subst e; rw [up_self]; have := h.high i; omega
    · rw [up_ne e]; have := h.high j; omega
  · have := h.cnt; simp; omega
  · rcases List.mem_append.1 hx with hx | hx
    · exact h.q x hx
    · simp only [List.mem_cons, List.not_mem_nil, or_false] at hx; subst hx; exact hk
theorem LvI.pop {nL i : Nat} {V : Nat → Int} {q : List Nat} (h : LvI nL V (i :: q)) : LvI nL V q :=
  ⟨h.low, h.high, by have := h.cnt; simp at this; omega, fun x hx => h.q x (List.mem_cons_of_mem _ hx)⟩
theorem LvI.start (nL : Nat) (M : Nat → Int) : LvI nL (lv0 M) (q0 M nL) :=
  ⟨fun k => by unfold lv0; split <;> omega, fun k => by
    have := lv0_cnt M nL
    have : lv0 M k ≤ 0 := by unfold lv0; split <;> omega
    omega, by rw [q0_len, lv0_cnt]; exact Nat.le_refl _, fun x hx => by
    simp only [q0, List.mem_filter, List.mem_range] at hx; exact hx.1⟩

end Go.Proofs.Ytjiknjcmfiapjaa

/- A map[int]bool that the program has made, read as a set of numbers: look-up, store, and how it is carried. -/
import Derived.Maps.OwnOps
import Derived.Maps.OwnSet
namespace Go.Proofs.Ytoaakjkflcjkhaa
open Go.Maps (Keyed)

theorem plainElem_bool_inv {H : Type} {P : Program} {e : TypeId} (he : P.underlying e = some .bool) {v : Value} {z : DataW H × List MemPlace} (h : plainElem P e v = some z) : ∃ x, v = .bool x ∧ z = (.lit (.bool x), []) := by
  unfold plainElem at h
  rw [he] at h
  cases v <;> simp at h
  exact ⟨_, rfl, h.symm⟩

/-- Block b of w is a map of at most n numbers that holds true for those of S, and false or nothing for the others. -/
def Marks (P : Program) (k e : TypeId) (w : World) (b n : Nat) (S : Int → Bool) : Prop :=
  ∃ D : DataW Unit, w.ownsMap P k (plainElem P e) b n D ∧ Maps.IsMap D ∧ ∀ i : Int, (Lit.int .i64 i).wf = true → D.atKey (.int .i64 i) (.lit (.bool false)) = .lit (.bool (S i))

section
variable {P : Program} {k e : TypeId} {w : World} {b n : Nat} {S : Int → Bool}

theorem Marks.made (w : World) : Marks P k e (w.alloc (.map #[] 0)) w.heap.size 0 (fun _ => false) := by
  refine ⟨.map [], World.ownsMap_made w P k _, ?_, fun i _ => ?_⟩
  · exact (World.ownsMap_made w P k (plainElem (H := Unit) P e)).isMap
  · exact WideAt.atKey_none _ (by simp)
theorem Marks.mono (h : Marks P k e w b n S) {m : Nat} (hm : n ≤ m) : Marks P k e w b m S := by
  obtain ⟨D, h1, h2⟩ := h
  exact ⟨D, h1.mono hm, h2⟩
theorem Marks.lt (h : Marks P k e w b n S) : b < w.heap.size := by
  obtain ⟨D, h1, h2⟩ := h
  exact h1.lt
theorem Marks.kept (h : Marks P k e w b n S) {w' : World} {row : Option Nat} (hg : w.grownBy w' row) (hne : some b ≠ row) : Marks P k e w' b n S := by
  obtain ⟨D, h1, h2⟩ := h
  exact ⟨D, h1.kept hg hne, h2⟩
theorem Marks.same (h : Marks P k e w b n S) {w' : World} (hb : w'.heap[b]? = w.heap[b]?) : Marks P k e w' b n S := by
  obtain ⟨D, ⟨es, clock, q, r⟩, h2⟩ := h
  exact ⟨D, ⟨es, clock, hb.trans q, r⟩, h2⟩
end

/-- `m[k]`. -/
theorem wpList_lookup_mark {P : Program} (w : World) {ops : Array Oper} {rest : List Oper} {o : Oper} {a : Act} {Q : Exit → Act → World → Prop}
    (hg : o.guard = none) (m x : Operand) (t : TypeId) (hop : o.op = Op.lookup t m x false)
    (k e : TypeId) (hk : P.underlying k = some (.int .i64)) (ht : P.underlying t = some (.map k e)) (he : P.underlying e = some .bool) (hz : (zeroValue e).run P w = .ok (.bool false) w) (b n : Nat) (S : Int → Bool)
    (hm : a.eval m = .map (some b)) (hown : Marks P k e w b n S) (i : Int) (hx : a.eval x = .int .i64 i) (hi : (Lit.int .i64 i).wf = true)
    (hK : wpList P ops Q rest (a.put o.dst (.bool (S i))) w) :
    wpList P ops Q (o :: rest) a w := by
  refine wpList_plain hg fun K' hK' => ?_
  obtain ⟨D, h1, _, h2⟩ := hown
  obtain ⟨v, ps, hrun, hv⟩ := h1.lookup (Maps.int_keyed hk) ht hz (plainElem_bool he false) (Maps.keyOf_int_mk hk hi)
  obtain ⟨y, rfl, hy⟩ := plainElem_bool_inv he hv
  rw [h2 i hi] at hy
  simp only [Prod.mk.injEq] at hy
  have e1 : y = S i := by
    have := hy.1
    injection this with q
    injection q with q
    exact q.symm
  subst e1
  unfold Oper.wp
  simp [execOp, hop, hm, hx, hrun, Result.andThen]
  exact hK' _ _ hK

/-- `m[k]` of the nil map. -/
theorem wpList_lookup_nil {P : Program} (w : World) {ops : Array Oper} {rest : List Oper} {o : Oper} {a : Act} {Q : Exit → Act → World → Prop}
    (hg : o.guard = none) (m x : Operand) (t : TypeId) (hop : o.op = Op.lookup t m x false)
    (i : Int) (hrun : (Instr.lookup t (.map none) (.int .i64 i) false).run P w = .ok (.bool false) w)
    (hm : a.eval m = .map none) (hx : a.eval x = .int .i64 i)
    (hK : wpList P ops Q rest (a.put o.dst (.bool false)) w) :
    wpList P ops Q (o :: rest) a w := by
  refine wpList_plain hg fun K' hK' => ?_
  unfold Oper.wp
  simp [execOp, hop, hm, hx, hrun, Result.andThen]
  exact hK' _ _ hK

/-- `m[k] = true`. -/
theorem wpList_store_mark {P : Program} (w : World) {ops : Array Oper} {rest : List Oper} {o : Oper} {a : Act} {Q : Exit → Act → World → Prop}
    (hg : o.guard = none) (m x v : Operand) (t : TypeId) (hop : o.op = Op.mapUpdate t m x v)
    (k e : TypeId) (hk : P.underlying k = some (.int .i64)) (ht : P.underlying t = some (.map k e)) (he : P.underlying e = some .bool) (b n : Nat) (S : Int → Bool)
    (hm : a.eval m = .map (some b)) (hown : Marks P k e w b n S) (hn : n < maxLen) (i : Int) (y : Bool) (hx : a.eval x = .int .i64 i) (hv : a.eval v = .bool y) (hi : (Lit.int .i64 i).wf = true)
    (hK : ∀ w', Marks P k e w' b (n + 1) (fun j => if j = i then y else S j) → w.grownBy w' (some b) → wpList P ops Q rest (a.put o.dst undef) w') :
    wpList P ops Q (o :: rest) a w := by
  obtain ⟨D, h1, h0, h2⟩ := hown
  refine wpList_mapUpdate_own w hg m x v t hop k e (Maps.int_keyed hk) ht (plainElem P e) b n D hm h1 hn (.int .i64 i) (.bool y) (.int .i64 i) hx hv (Maps.keyOf_int_mk hk hi) (.lit (.bool y)) [] (plainElem_bool he y) ?_
  intro w' hw hgr
  refine hK w' ⟨_, hw, hw.isMap, fun j hj => ?_⟩ hgr
  show DataW.atKey _ _ _ = DataW.lit (Lit.bool (if j = i then y else S j))
  by_cases hij : j = i
  · subst hij
    rw [if_pos rfl]
    exact Maps.atKey_put_same h0 ((Maps.int_keyed hk).key (Maps.keyOf_int_mk hk hi)) _ _
  · rw [if_neg hij, Maps.atKey_put_other (by intro q; injection q with _ q; exact hij q)]
    exact h2 j hj

end Go.Proofs.Ytoaakjkflcjkhaa

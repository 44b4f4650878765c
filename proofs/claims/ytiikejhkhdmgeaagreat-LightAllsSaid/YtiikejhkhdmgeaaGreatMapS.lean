
/- A map[string]bool that the program has made, read as a set of strings: look-up, store, and how it is carried. -/
import Derived.Test.YtiikejhkhdmgeaaGreatProg
import Derived.Test.YtiikejhkhdmgeaaGreatBase
import Derived.Maps.OwnOps
import Derived.Maps.OwnSet
import Derived.StringKeys
namespace Go.Proofs.YtiikejhkhdmgeaaGreat
open Go.Maps (Keyed)

theorem plainElem_bool_inv {H : Type} {P : Program} {e : TypeId} (he : P.underlying e = some .bool) {v : Value} {z : DataW H × List MemPlace} (h : plainElem P e v = some z) : ∃ x, v = .bool x ∧ z = (.lit (.bool x), []) := by
  unfold plainElem at h
  rw [he] at h
  cases v <;> simp at h
  exact ⟨_, rfl, h.symm⟩

/-- Block b of w is a map of at most n strings that holds true for those of S, and false or nothing for the others. -/
def MarksS (P : Program) (k e : TypeId) (w : World) (b n : Nat) (S : ByteArray → Bool) : Prop :=
  ∃ D : DataW Unit, w.ownsMap P k (plainElem P e) b n D ∧ Maps.IsMap D ∧ ∀ s : ByteArray, s.size ≤ maxLen → D.atKey (.string s.data.toList) (.lit (.bool false)) = .lit (.bool (S s))

section
variable {P : Program} {k e : TypeId} {w : World} {b n : Nat} {S : ByteArray → Bool}

theorem MarksS.made (w : World) : MarksS P k e (w.alloc (.map #[] 0)) w.heap.size 0 (fun _ => false) := by
  refine ⟨.map [], World.ownsMap_made w P k _, ?_, fun i _ => ?_⟩
  · exact (World.ownsMap_made w P k (plainElem (H := Unit) P e)).isMap
  · exact WideAt.atKey_none _ (by simp)
theorem MarksS.mono (h : MarksS P k e w b n S) {m : Nat} (hm : n ≤ m) : MarksS P k e w b m S := by
  obtain ⟨D, h1, h2⟩ := h
  exact ⟨D, h1.mono hm, h2⟩
theorem MarksS.lt (h : MarksS P k e w b n S) : b < w.heap.size := by
  obtain ⟨D, h1, h2⟩ := h
  exact h1.lt
theorem MarksS.kept (h : MarksS P k e w b n S) {w' : World} {row : Option Nat} (hg : w.grownBy w' row) (hne : some b ≠ row) : MarksS P k e w' b n S := by
  obtain ⟨D, h1, h2⟩ := h
  exact ⟨D, h1.kept hg hne, h2⟩
theorem MarksS.same (h : MarksS P k e w b n S) {w' : World} (hb : w'.heap[b]? = w.heap[b]?) : MarksS P k e w' b n S := by
  obtain ⟨D, ⟨es, clock, q, r⟩, h2⟩ := h
  exact ⟨D, ⟨es, clock, hb.trans q, r⟩, h2⟩
end

/-- What a look-up gives. -/
theorem MarksS.look {P : Program} {k e t : TypeId} {w : World} {b n : Nat} {S : ByteArray → Bool} (hk : P.underlying k = some .string) (ht : P.underlying t = some (.map k e)) (he : P.underlying e = some .bool) (hz : (zeroValue e).run P w = .ok (.bool false) w)
    (hown : MarksS P k e w b n S) (s : ByteArray) (hs : s.size ≤ maxLen) : (Instr.lookup t (.map (some b)) (.string s) false).run P w = .ok (.bool (S s)) w := by
  obtain ⟨D, h1, _, h2⟩ := hown
  obtain ⟨v, ps, hrun, hv⟩ := h1.lookup (Maps.string_keyed hk) ht hz (plainElem_bool he false) (WideMaps.keyOf_string_mk hk hs)
  obtain ⟨y, rfl, hy⟩ := plainElem_bool_inv he hv
  rw [h2 s hs] at hy
  simp only [Prod.mk.injEq] at hy
  have e1 : y = S s := by
    have := hy.1
    injection this with q
    injection q with q
    exact q.symm
  subst e1
  exact hrun

/-- `m[k] = true`. -/
theorem wpList_store_markS {P : Program} (w : World) {ops : Array Oper} {rest : List Oper} {o : Oper} {a : Act} {Q : Exit → Act → World → Prop}
    (hg : o.guard = none) (m x v : Operand) (t : TypeId) (hop : o.op = Op.mapUpdate t m x v)
    (k e : TypeId) (hk : P.underlying k = some .string) (ht : P.underlying t = some (.map k e)) (he : P.underlying e = some .bool) (b n : Nat) (S : ByteArray → Bool)
    (hm : a.eval m = .map (some b)) (hown : MarksS P k e w b n S) (hn : n < maxLen) (s : ByteArray) (y : Bool) (hx : a.eval x = .string s) (hv : a.eval v = .bool y) (hs : s.size ≤ maxLen)
    (hK : ∀ w', MarksS P k e w' b (n + 1) (fun j => if j = s then y else S j) → w.grownBy w' (some b) → wpList P ops Q rest (a.put o.dst undef) w') :
    wpList P ops Q (o :: rest) a w := by
  obtain ⟨D, h1, h0, h2⟩ := hown
  refine wpList_mapUpdate_own w hg m x v t hop k e (Maps.string_keyed hk) ht (plainElem P e) b n D hm h1 hn (.string s) (.bool y) (.string s.data.toList) hx hv (WideMaps.keyOf_string_mk hk hs) (.lit (.bool y)) [] (plainElem_bool he y) ?_
  intro w' hw hgr
  refine hK w' ⟨_, hw, hw.isMap, fun j hj => ?_⟩ hgr
  show DataW.atKey _ _ _ = DataW.lit (Lit.bool (if j = s then y else S j))
  by_cases hij : j = s
  · subst hij
    rw [if_pos rfl]
    exact Maps.atKey_put_same h0 ((Maps.string_keyed hk).key (WideMaps.keyOf_string_mk hk hs)) _ _
  · rw [if_neg hij, Maps.atKey_put_other (by intro q; injection q with q; exact hij (ByteArray.ext (Array.toList_inj.1 q)))]
    exact h2 j hj

end Go.Proofs.YtiikejhkhdmgeaaGreat

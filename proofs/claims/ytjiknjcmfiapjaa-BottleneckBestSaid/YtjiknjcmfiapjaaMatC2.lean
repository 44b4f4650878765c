
/- A list of numbers that came in, copied onto nil, in a region that draws its order. Conditions stand in each theorem. -/
import Derived.Test.YtjiknjcmfiapjaaMatC1
namespace Go.Proofs.Ytjiknjcmfiapjaa
open Go.RowKit
set_option linter.unusedVariables false
set_option linter.unusedSimpArgs false

theorem run_append_zero {P : Program} (w : World) (t ty e : TypeId) (i : TypeInfo) (ht : P.underlying t = some (.slice e)) (hi : P.info? e = some i) (A : Option Addr) (c : Nat) :
    (Builtin.append_ #[t, t] ty #[.slice none 0 0, .slice A 0 c]).run P w = .ok (.slice none 0 0) w := by
  cases A <;> simp [Builtin.append_, run_underlying ht, sizeOf, typeInfo, hi, Builtin.lenOf, Builtin.firstCells, loadCells, loadCellsFrom]
theorem step_copy {w : World} {ops : Array Oper} {o : Oper} {a : Act} {K : Act → World → Prop} {Q : Exit → Act → World → Prop} {E : Prop} (hgd : o.guard = none) (s x : Operand)
    (ho : o.op = .call { callee := .builtin .append, args := #[s, x], argTypes := #[23, 23] }) (base : Nat) (hbase : base ≤ w.heap.size) (A : Option Addr) (m c : Nat) (l : List Int)
    (hs : a.eval s = .slice none 0 0) (hx : a.eval x = .slice A m c) (hm : m = l.length) (hl : l.length ≤ 1000) (hr : RowI w A l)
    (h : ∀ A' c' w', w'.ownsRow base 3 1 (.slice A' l.length c') l.length (l.map (Value.int .i64)) → Below w.heap.size w w' → K (a.put o.dst (.slice A' l.length c')) w') :
    if Region.wanted o (yielded ops a.tmps) = true then Oper.wp Try.prog o a w K Q else E := by
  obtain ⟨i0, hi0, hz0, hz1, hz2⟩ := info_parts infoInt
  subst hm
  have hw : Region.wanted o (yielded ops a.tmps) = true := by simp [Region.wanted, hgd]
  by_cases h0 : l = []
  · subst h0
    rw [if_pos hw]
    have hrun := run_append_zero (P := Try.prog) w 23 o.type 3 i0 Try.underlying23 hi0 A c
    unfold Oper.wp
    simp only [List.length_nil] at hx
    simp [execOp, ho, resolve, invoke, builtin, hs, hx, hrun, Result.andThen]
    exact h none 0 w own_nil (Below.refl _ _)
  · have hp : 0 < l.length := List.length_pos_iff.2 h0
    obtain ⟨b, of, rfl, _, _⟩ := hr.at_ hp
    refine step_append_lies w hgd s x 23 ho base 3 i0 _ 1 8 Try.underlying23 hi0 hz0 hz1 hz2 rfl (by omega) (.slice none 0 0) 0 [] hs own_nil ⟨b, of, none⟩ l.length c (l.map (Value.int .i64)) hx (by simp) hr.news (one_ints l) hp (by simp only [maxLen]; omega) (by omega) hbase _ rfl ?_
    intro g cap w' hown hgrow _ _
    simp only [Nat.zero_add, List.nil_append] at hown ⊢
    exact h _ _ _ hown (below_none hgrow)
end Go.Proofs.Ytjiknjcmfiapjaa

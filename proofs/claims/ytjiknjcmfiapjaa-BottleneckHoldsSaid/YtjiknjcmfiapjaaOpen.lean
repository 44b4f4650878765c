
/- Arguments that are structs of numbers, opened to their cells. No condition. -/
import Derived.Test.YtjiknjcmfiapjaaProg
import Derived.Test.YtjiknjcmfiapjaaBase
import Derived.ProofKit
namespace Go.Proofs.Ytjiknjcmfiapjaa
open Go.RowKit Go.WideShapes
section
variable {P : Program} {W : World} {r : Reach} {b : Nat} {t u : TypeId} {v : Value}

theorem open_cells {fs : Array Field} {tys : List TypeId} (ht : P.underlying t = some (.struct fs)) (hts : P.cellTypes P.depth t = some tys) (hsz : P.cellsOf t = tys.length) (h : Value.okWide P W r b t v) :
    ∃ cs : List Value, v = .agg cs.toArray ∧ cs.length = tys.length ∧ ∀ (i : Nat) (u : TypeId), tys[i]? = some u → ∃ x, cs[i]? = some x ∧ Cell.okWide P W r b u x := by
  simp only [Value.okWide, ht] at h
  obtain ⟨cs, rfl, hc, ts, h1, _, h3⟩ := h
  rw [hts] at h1
  have h1' : tys = ts := Option.some.inj h1
  subst h1'
  refine ⟨cs.toList, by simp, by rw [Array.length_toList, hc, hsz], fun i u hu => ?_⟩
  have hi : i < tys.length := (List.getElem?_eq_some_iff.1 hu).1
  have hi' : i < cs.size := by rw [hc, hsz]; exact hi
  refine ⟨cs[i], by simp [hi'], ?_⟩
  obtain ⟨u', hu', hk⟩ := h3 i cs[i] (by simp [hi'])
  rw [Nat.mod_eq_of_lt hi] at hu'
  have : u = u' := Option.some.inj (hu.symm.trans hu')
  subst this
  exact hk

theorem cell_int {k : IntKind} (hu : P.underlying u = some (.int k)) {x : Value} (h : Cell.okWide P W r b u x) : ∃ n, x = .int k n ∧ k.has n := by
  simp only [Cell.okWide, hu] at h
  cases x <;> simp_all [Cell.ok]
theorem value_int {k : IntKind} (hu : P.underlying t = some (.int k)) (h : Value.okWide P W r b t v) : ∃ n, v = .int k n ∧ k.has n := by
  simp only [Value.okWide, hu] at h
  exact cell_int hu h
theorem cell_string (hu : P.underlying u = some .string) {x : Value} (h : Cell.okWide P W r b u x) : ∃ s, x = .string s := by
  simp only [Cell.okWide, hu] at h
  cases x <;> simp_all [Cell.ok]
theorem cell_slice {e : TypeId} (hu : P.underlying u = some (.slice e)) {x : Value} (h : Cell.okWide P W r b u x) : ∃ a n c, x = .slice a n c := by
  simp only [Cell.okWide, hu] at h
  cases x <;> simp_all [Cell.ok]
end

theorem has_i64 {n : Int} (h : IntKind.i64.has n) : I64 n := h
theorem has_u8 {n : Int} (h : IntKind.u8.has n) : 0 ≤ n ∧ n ≤ 255 := h

theorem own : ownKnob Try.prog.godebug = none := by kernel_rfl
theorem laidOut : laidOutB Try.prog = true := by kernel_rfl

end Go.Proofs.Ytjiknjcmfiapjaa


/- Walks: the greatest number of edges by trying all, by the reference. Conditions stand in each theorem. -/
import Derived.Test.YtjiknjcmfiapjaaMatB5
import Derived.Deep.LoopGhost
import Derived.Deep.RegionHeld3
import Derived.Deep.AppendLies
import Derived.Laws.OwnMore
import Derived.IntWalk
namespace Go.Proofs.Ytjiknjcmfiapjaa
open Go.RowKit
set_option linter.unusedVariables false
set_option linter.unusedSimpArgs false

theorem news_xt {w : World} {m : Nat} {xs : List Value} (h : ∀ j u, xs[j]? = some u → w.cell? ((⟨m, 0, none⟩ : Addr).add j) = some u) (hm : m < w.heap.size) (g : Gr) : ∀ j u, xs[j]? = some u → (Go.Proofs.Ytjiknjcmfiapjaa.xt w g).cell? ((⟨m, 0, none⟩ : Addr).add j) = some u := fun j u hu => by
  rw [← h j u hu, zero_add_addr, xt_cell _ _ _ _ _ hm]
theorem own_xtd {w : World} {g : Gr} {base : Nat} {e : TypeId} {s n : Nat} {v : Value} {xs : List Value} (h : (Go.Proofs.Ytjiknjcmfiapjaa.xt w g).ownsRow base e s v n xs) : (Go.Proofs.Ytjiknjcmfiapjaa.xt w.drew g).ownsRow base e s v n xs := h
theorem below_none {w w' : World} (h : w.grownBy w' (Value.ownBlock (.slice none 0 0))) : Below w.heap.size w w' := (Below.refl _ _).grown h (Nat.le_refl _) (fun k e => nomatch e)
theorem RowI.news {w : World} {ad : Addr} {l : List Int} (h : RowI w (some ad) l) : ∀ j u, (l.map (Value.int .i64))[j]? = some u → w.cell? (ad.add j) = some u := by
  rw [← flat_ints]; exact row_news h (by omega)
theorem step_append_nil {P : Program} {w : World} {ops : Array Oper} {o : Oper} {a : Act} {K : Act → World → Prop} {Q : Exit → Act → World → Prop} {E : Prop} (hgd : o.guard = none) (s x : Operand) (t : TypeId)
    (ho : o.op = .call { callee := .builtin .append, args := #[s, x], argTypes := #[t, t] })
    (e : TypeId) (i : TypeInfo) (ht : P.underlying t = some (.slice e)) (hi : P.info? e = some i)
    (hs : a.eval s = .slice none 0 0) (hx : a.eval x = .slice none 0 0) (h : K (a.put o.dst (.slice none 0 0)) w) :
    if Region.wanted o (yielded ops a.tmps) = true then Oper.wp P o a w K Q else E := by
  have hw : Region.wanted o (yielded ops a.tmps) = true := by simp [Region.wanted, hgd]
  rw [if_pos hw]
  have hrun := run_append_owned_none (P := P) (w := w) w.heap.size t o.type e i 1 ht hi (.slice none 0 0) 0 [] own_nil
  unfold Oper.wp
  simp [execOp, ho, resolve, invoke, builtin, hs, hx, hrun, Result.andThen]
  exact h

variable (G : Nat → List Int)
theorem bst_bd (nL : Nat) : ∀ (k : Nat) (us : List Int), bst G nL k us ≤ k
  | 0, us => Nat.le_refl 0
  | k + 1, us => by
    rw [bst]
    rcases foldl_is (f := fun x => 1 + bst G nL k (us ++ [x])) (p := fun x => us.contains x) (G (nL - (k + 1))) (bst G nL k us) with h | ⟨x, hx, hp, h⟩
    · rw [h]; have := bst_bd nL k us; omega
    · rw [h]; have := bst_bd nL k (us ++ [x]); omega
def bstP (nL k : Nat) (us : List Int) (l : List Int) : Nat := l.foldl (fun n x => if us.contains x then n else max n (1 + bst G nL k (us ++ [x]))) (bst G nL k us)
theorem bstP_bd (nL k : Nat) (us l : List Int) : bstP G nL k us l ≤ k + 1 := by
  unfold bstP
  rcases foldl_is (f := fun x => 1 + bst G nL k (us ++ [x])) (p := fun x => us.contains x) l (bst G nL k us) with h | ⟨x, hx, hp, h⟩
  · rw [h]; have := bst_bd G nL k us; omega
  · rw [h]; have := bst_bd G nL k (us ++ [x]); omega
theorem take_next {l : List Int} {j : Nat} (h : j < l.length) : l.take (j + 1) = l.take j ++ [l.getD j 0] := by
  rw [List.take_succ_eq_append_getElem h]; simp [List.getD, h]
theorem bstP_skip {nL k j : Nat} {us l : List Int} (h : j < l.length) (hc : hs us (l.getD j 0) = true) : bstP G nL k us (l.take (j + 1)) = bstP G nL k us (l.take j) := by
  unfold bstP
  rw [take_next h, List.foldl_append]
  simp only [List.foldl_cons, List.foldl_nil]
  unfold hs at hc
  rw [if_pos hc]
theorem bstP_step {nL k j : Nat} {us l : List Int} (h : j < l.length) (hc : hs us (l.getD j 0) = false) : bstP G nL k us (l.take (j + 1)) = max (bstP G nL k us (l.take j)) (1 + bst G nL k (us ++ [l.getD j 0])) := by
  unfold bstP
  rw [take_next h, List.foldl_append]
  simp only [List.foldl_cons, List.foldl_nil]
  rw [if_neg (by unfold hs at hc; rw [hc]; decide)]
theorem bst_succ (nL k : Nat) (us : List Int) : bst G nL (k + 1) us = bstP G nL k us (G (nL - (k + 1))) := rfl

/-- The used ones: none at all, or a list in memory. -/
def UsOk (w : World) (A : Option Addr) (c : Nat) (us : List Int) : Prop := (A = none ∧ c = 0 ∧ us = []) ∨ (∃ q o, A = some ⟨q, o, none⟩ ∧ 0 < us.length ∧ RowI w A us)
theorem UsOk.row {w : World} {A : Option Addr} {c : Nat} {us : List Int} (h : UsOk w A c us) : RowI w A us := by
  rcases h with ⟨rfl, _, rfl⟩ | ⟨q, o, rfl, _, h⟩
  · exact RowI.nil _ _
  · exact h
theorem UsOk.below {w w' : World} {A : Option Addr} {c : Nat} {us : List Int} (h : UsOk w A c us) (hb : Below w.heap.size w w') : UsOk w' A c us := by
  rcases h with ⟨h1, h2, h3⟩ | ⟨q, o, h1, h2, h3⟩
  · exact .inl ⟨h1, h2, h3⟩
  · exact .inr ⟨q, o, h1, h2, h3.below hb⟩

theorem usok_of {w : World} {base g c : Nat} {us : List Int} {x : Int} (h : w.ownsRow base 3 1 (.slice (some ⟨g, 0, none⟩) (us.length + 1) c) (us.length + 1) (us.map (Value.int .i64) ++ [.int .i64 x])) : UsOk w (some ⟨g, 0, none⟩) c (us ++ [x]) := by
  refine .inr ⟨g, 0, rfl, by simp, ?_⟩
  rw [← ints_snoc] at h
  obtain ⟨A, c', e, hr⟩ := RowI.of_own h (by simp)
  injection e with e _ _
  subst e
  exact hr
end Go.Proofs.Ytjiknjcmfiapjaa


/- Walks: a number put into a rising list, by the reference. Conditions stand in each theorem. -/
import Derived.Test.YtiikejhkhdmgeaaGreatLigI
import Derived.Test.YtiikejhkhdmgeaaGreatLigQ
import Derived.IntWalk
import Derived.Laws.AppendOwnNone
namespace Go.Proofs.YtiikejhkhdmgeaaGreat
open Go.RowKit
set_option linter.unusedVariables false
set_option linter.unusedSimpArgs false

theorem getD_take_drop (l : List Int) (p : Nat) : l.take p ++ l.drop p = l := List.take_append_drop p l
theorem info_own (l : List Int) : (l.map (Value.int .i64)).length = l.length * 1 := by simp

theorem newsI {w : World} {b o q : Nat} {l : List Int} (h : RowI w (some ⟨b, o, none⟩) l) (h0 : 0 < l.length) {p m : Nat} (hq : q = o + p) (hm : p + m ≤ l.length) : ∀ j u, (((l.drop p).take m).map (Value.int .i64))[j]? = some u → w.cell? ((⟨b, q, none⟩ : Addr).add j) = some u := by
  obtain ⟨_, _, e, _, hc⟩ := RowI.at_ h h0
  injection e with e
  injection e with e1 e2
  subst e1 e2 hq
  exact RowI.news hc hm
/-- The three parts joined. -/
theorem parts_len {l : List Int} {k : Nat} (n : Int) (hk : k ≤ l.length) : (l.take k ++ [n] ++ l.drop k).length = k + 1 + (l.length - k) := by
  simp; omega
theorem parts_map (l : List Int) (k : Nat) (n : Int) : (l.take k ++ [n] ++ l.drop k).map (Value.int .i64) = [] ++ (l.take k).map (Value.int .i64) ++ [.int .i64 n] ++ (l.drop k).map (Value.int .i64) := by
  simp
end Go.Proofs.YtiikejhkhdmgeaaGreat

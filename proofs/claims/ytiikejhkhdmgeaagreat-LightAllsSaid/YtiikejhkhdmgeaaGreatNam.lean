
/- The order of names. No condition. -/
import Derived.Test.YtiikejhkhdmgeaaGreatBase
import Derived.Lib.SlicesS
import Derived.WalkLawsBesides
import Derived.Sort.Walk0
namespace Go.Proofs.YtiikejhkhdmgeaaGreat
open Go.RowKit

/-- One name ahead of another. -/
def nlt (a b : ByteArray) : Bool := Op.bytesLess a.toList b.toList
theorem nlt_iff {a b : ByteArray} : nlt a b = true ↔ a.toList < b.toList := by
  unfold nlt; rw [bytesLess_eq]; simp
theorem nlt_irrefl (a : ByteArray) : nlt a a = false := by
  cases h : nlt a a
  · rfl
  · exact absurd (nlt_iff.1 h) (List.lt_irrefl _)
theorem nlt_trans {a b c : ByteArray} (h : nlt a b = true) (k : nlt b c = true) : nlt a c = true :=
  nlt_iff.2 (List.lt_trans (nlt_iff.1 h) (nlt_iff.1 k))
theorem beq_str (a b : ByteArray) : (a.toList == b.toList) = decide (a = b) := by
  cases h : (a.toList == b.toList)
  · have := (Lib.bytes_beq_false_iff a b).1 h
    simp [this]
  · have := (Lib.bytes_beq_iff a b).1 h
    simp [this]
theorem nlt_tri {a b : ByteArray} (h : nlt a b = false) (k : a ≠ b) : nlt b a = true := by
  have h' : ¬ a.toList < b.toList := fun hh => by rw [nlt_iff.2 hh] at h; cases h
  have hl : b.toList ≤ a.toList := List.not_lt.1 h'
  rw [nlt_iff]
  rcases List.le_iff_lt_or_eq.1 hl with h1 | h1
  · exact h1
  · exact absurd ((Lib.bytes_beq_iff a b).1 (by rw [h1]; simp)) k
theorem nlt_data (a b : ByteArray) : nlt a b = decide (a.data.toList < b.data.toList) := by
  unfold nlt; rw [bytesLess_eq, Lib.toList_data, Lib.toList_data]

end Go.Proofs.YtiikejhkhdmgeaaGreat

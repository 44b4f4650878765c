/- Walks: the examples of the chapter on matchings. Conditions stand in each theorem. -/
import Derived.Test.YtkabknmhbjmmcaaMatB7
import Derived.Test.YtkabknmhbjmmcaaMatB8
namespace Go.Proofs.Ytkabknmhbjmmcaa
open Go.RowKit
set_option linter.unusedVariables false
set_option linter.unusedSimpArgs false

def lit (L : List (List Int)) : Nat → List Int := fun i => L.getD i []
theorem rowI_lit {w : World} {m : Nat} {cs : Array Value} {t : TypeId} (l : List Int) (hm : m = w.heap.size) (hc : cs = (l.map (Value.int .i64)).toArray) : RowI (w.alloc (.cells cs t)) (some ⟨m, 0, none⟩) l :=
  rowI_of (fun h => nomatch h) fun a ha c hcl => by
    injection ha with ha
    subst ha hc
    rw [zero_add_addr, World.cell?_alloc_at _ _ _ _ hm]
    simp [List.getD, hcl]
theorem grow_lit {w : World} {b : Nat} {cs : Array Value} {t : TypeId} (L : List (List Int)) (hb : Blk w b cs t) (h : ∀ i, i < L.length → ∃ g c, cs[i]? = some (.slice (some ⟨g, 0, none⟩) (L.getD i []).length c) ∧ RowI w (some ⟨g, 0, none⟩) (L.getD i [])) : GRow w (some ⟨b, 0, none⟩) L.length (lit L) :=
  ⟨fun _ => ⟨b, 0, rfl, hb.lt, fun i hi => by
    obtain ⟨g, c, h1, h2⟩ := h i hi
    exact ⟨_, c, by rw [Nat.zero_add]; exact hb.cell h1, h2⟩⟩⟩
def g1 : Nat → List Int := lit [[0, 1], [0], [0]]
def g2 : Nat → List Int := lit [[0], [1], [2]]
theorem kS1 (A : Option Addr) (cap : Nat) (w : World) (h : GRow w A 3 g1) : Calls Try.prog 18 #[.agg #[.slice A 3 cap, .int .i64 3]] w (RetB (.tuple #[.int .i64 2, .int .i64 0]) w) := by
  have := Size_ok A 3 cap 3 g1 w h (by decide +kernel)
  rwa [show sizeV g1 3 = 2 by decide +kernel] at this
theorem kS2 (A : Option Addr) (cap : Nat) (w : World) (h : GRow w A 3 g2) : Calls Try.prog 18 #[.agg #[.slice A 3 cap, .int .i64 3]] w (RetB (.tuple #[.int .i64 3, .int .i64 0]) w) := by
  have := Size_ok A 3 cap 3 g2 w h (by decide +kernel)
  rwa [show sizeV g2 3 = 3 by decide +kernel] at this
theorem kM (A M : Option Addr) (cap k c : Nat) (m : List Int) (b : Bool) (w : World) (h : GRow w A 3 g1) (hk : k = m.length) (hml : m.length ≤ 1000) (hM : RowI w M m) (hb : vmB g1 3 3 m = b) : Calls Try.prog 13 #[.agg #[.slice A 3 cap, .int .i64 3], .slice M k c] w (RetB (.bool b) w) := by
  have := ValidMatch_any A M 3 cap k c 3 g1 m w (by omega) (by decide) h hk hml hM
  rwa [hb] at this
theorem kC (A M L0 R0 : Option Addr) (cap k c kl c1 kr c2 : Nat) (m cl cr : List Int) (d : Int) (w : World) (h : GRow w A 3 g1) (hk : k = m.length) (hml : m.length ≤ 1000) (hM : RowI w M m) (h1 : kl = cl.length) (hl1 : cl.length ≤ 1000) (hL : RowI w L0 cl) (h2 : kr = cr.length) (hr1 : cr.length ≤ 1000) (hR : RowI w R0 cr) (hd : chV g1 3 3 m cl cr = d) :
    Calls Try.prog 15 #[.agg #[.slice A 3 cap, .int .i64 3], .slice M k c, .agg #[.slice L0 kl c1, .slice R0 kr c2]] w (RetB (.int .i64 d) w) := by
  have := Check_any A M L0 R0 3 cap k c kl c1 kr c2 3 g1 m cl cr w (by omega) (by decide) h hk hml hM h1 hl1 hL h2 hr1 hR
  rwa [hd] at this
theorem kV (A : Option Addr) (cap : Nat) (l : List Int) (w : World) (hl : l.length ≤ 1000) (h : GRow w A 1 (lit [l])) (hv : vld (lit [l]) 1 2 = false) : Calls Try.prog 12 #[.agg #[.slice A 1 cap, .int .i64 2]] w (RetB (.bool false) w) := by
  have := Valid_any A 1 cap 2 (lit [l]) w (by omega) (fun i hi => by obtain rfl : i = 0 := by omega
                                                                     exact hl) h
  rwa [hv] at this

set_option maxRecDepth 100000 in
set_option maxHeartbeats 6400000 in
theorem known_any (w : World) : Calls Try.prog 10 #[] w (RetB (.bool true) w) := by
  go_enter Try.func10, Try.ntmps10
  go_wp2_with fail
  have HG0 : GRow (((((w.alloc (.cells #[.int .i64 0, .int .i64 1] 3)).alloc (.cells #[.int .i64 0] 3)).alloc (.cells #[.int .i64 0] 3)).alloc (.cells #[.slice (some ⟨w.heap.size, 0, none⟩) 2 2, .slice (some ⟨w.heap.size + 1, 0, none⟩) 1 1, .slice (some ⟨w.heap.size + 1 + 1, 0, none⟩) 1 1] 25)).alloc (.cells #[.slice (some ⟨w.heap.size + 1 + 1 + 1, 0, none⟩) 3 3, .int .i64 3] 24)) (some ⟨w.heap.size + 1 + 1 + 1, 0, none⟩) 3 g1 := GRow.alloc (grow_lit [[0, 1], [0], [0]] (Blk.new _ _ _ (by simp)) (fun i hi => by
    rcases (show i = 0 ∨ i = 1 ∨ i = 2 by simp at hi; omega) with rfl | rfl | rfl
    · exact ⟨_, _, rfl, (by repeat (first | (refine rowI_lit _ ?_ rfl; simp; done) | refine RowI.alloc ?_ _ | refine RowI.xt ?_ _ | refine RowI.drew ?_))⟩
    · exact ⟨_, _, rfl, (by repeat (first | (refine rowI_lit _ ?_ rfl; simp; done) | refine RowI.alloc ?_ _ | refine RowI.xt ?_ _ | refine RowI.drew ?_))⟩
    · exact ⟨_, _, rfl, (by repeat (first | (refine rowI_lit _ ?_ rfl; simp; done) | refine RowI.alloc ?_ _ | refine RowI.xt ?_ _ | refine RowI.drew ?_))⟩)) _
  obtain ⟨W1, hW1, HG, HB, f0, f1, f2, f3⟩ : ∃ W1, (((((w.alloc (.cells #[.int .i64 0, .int .i64 1] 3)).alloc (.cells #[.int .i64 0] 3)).alloc (.cells #[.int .i64 0] 3)).alloc (.cells #[.slice (some ⟨w.heap.size, 0, none⟩) 2 2, .slice (some ⟨w.heap.size + 1, 0, none⟩) 1 1, .slice (some ⟨w.heap.size + 1 + 1, 0, none⟩) 1 1] 25)).alloc (.cells #[.slice (some ⟨w.heap.size + 1 + 1 + 1, 0, none⟩) 3 3, .int .i64 3] 24)) = W1 ∧ Hid (GRow W1 (some ⟨w.heap.size + 1 + 1 + 1, 0, none⟩) 3 g1) ∧ Hid (Below w.heap.size w W1) ∧ W1.cell? ⟨w.heap.size + 1 + 1 + 1 + 1, 0, none⟩ = some (.slice (some ⟨w.heap.size + 1 + 1 + 1, 0, none⟩) 3 3) ∧ W1.cell? ⟨w.heap.size + 1 + 1 + 1 + 1, 1, none⟩ = some (.int .i64 3) ∧ old (w.heap.size + 1 + 1 + 1 + 1) W1 ∧ W1.heap.size = w.heap.size + 1 + 1 + 1 + 1 + 1 :=
    ⟨_, rfl, Lib.hid HG0, Lib.hid (by repeat' (first | exact Below.refl _ _ | assumption | refine Below.xt ?_ ?_ _ | refine Below.alloc ?_ ?_ _ | refine Below.drew ?_ | refine Below.setCell ?_ ?_ _ | (simp; done) | (simp; omega))), by go_simp, by go_simp, by unfold old; simp, by simp⟩
  rw [hW1]
  clear hW1 HG0
  have HSz := Lib.hid f3
  clear f3
  have hbel := HB.out
  refine (RetB.grown (kS1 _ _ _ (by repeat (first | exact HG.out | refine GRow.xt ?_ _ | refine GRow.alloc ?_ _ | refine GRow.drew ?_)))).mono ?_
  rintro e' w' ⟨rfl, ga, rfl⟩
  go_wp2_with fail
  refine (RetB.grown (kS2 _ _ _ (grow_lit [[0], [1], [2]] (Blk.new _ _ _ (by simp)) (fun i hi => by
    rcases (show i = 0 ∨ i = 1 ∨ i = 2 by simp at hi; omega) with rfl | rfl | rfl
    · exact ⟨_, _, rfl, (by repeat (first | (refine rowI_lit _ ?_ rfl; simp; done) | refine RowI.alloc ?_ _ | refine RowI.xt ?_ _ | refine RowI.drew ?_))⟩
    · exact ⟨_, _, rfl, (by repeat (first | (refine rowI_lit _ ?_ rfl; simp; done) | refine RowI.alloc ?_ _ | refine RowI.xt ?_ _ | refine RowI.drew ?_))⟩
    · exact ⟨_, _, rfl, (by repeat (first | (refine rowI_lit _ ?_ rfl; simp; done) | refine RowI.alloc ?_ _ | refine RowI.xt ?_ _ | refine RowI.drew ?_))⟩)))).mono ?_
  rintro e' w' ⟨rfl, gb, rfl⟩
  go_wp2_with fail
  refine (RetB.grown (kM _ _ _ _ _ [1, 0, -1] true _ (by repeat (first | exact HG.out | refine GRow.xt ?_ _ | refine GRow.alloc ?_ _ | refine GRow.drew ?_)) rfl (by decide) (by repeat (first | (refine rowI_lit _ ?_ rfl; simp; done) | refine RowI.alloc ?_ _ | refine RowI.xt ?_ _ | refine RowI.drew ?_)) (by decide +kernel))).mono ?_
  rintro e' w' ⟨rfl, gc, rfl⟩
  go_wp2_with fail
  refine (RetB.grown (kM _ _ _ _ _ [0, 0, -1] false _ (by repeat (first | exact HG.out | refine GRow.xt ?_ _ | refine GRow.alloc ?_ _ | refine GRow.drew ?_)) rfl (by decide) (by repeat (first | (refine rowI_lit _ ?_ rfl; simp; done) | refine RowI.alloc ?_ _ | refine RowI.xt ?_ _ | refine RowI.drew ?_)) (by decide +kernel))).mono ?_
  rintro e' w' ⟨rfl, gd, rfl⟩
  go_wp2_with fail
  refine (RetB.grown (kM _ _ _ _ _ [2, 0, -1] false _ (by repeat (first | exact HG.out | refine GRow.xt ?_ _ | refine GRow.alloc ?_ _ | refine GRow.drew ?_)) rfl (by decide) (by repeat (first | (refine rowI_lit _ ?_ rfl; simp; done) | refine RowI.alloc ?_ _ | refine RowI.xt ?_ _ | refine RowI.drew ?_)) (by decide +kernel))).mono ?_
  rintro e' w' ⟨rfl, ge, rfl⟩
  go_wp2_with fail
  refine (RetB.grown (kM _ _ _ _ _ [1, 0] false _ (by repeat (first | exact HG.out | refine GRow.xt ?_ _ | refine GRow.alloc ?_ _ | refine GRow.drew ?_)) rfl (by decide) (by repeat (first | (refine rowI_lit _ ?_ rfl; simp; done) | refine RowI.alloc ?_ _ | refine RowI.xt ?_ _ | refine RowI.drew ?_)) (by decide +kernel))).mono ?_
  rintro e' w' ⟨rfl, gf, rfl⟩
  go_wp2_with fail
  refine (RetB.grown (kC _ _ _ _ _ _ _ _ _ _ _ [1, 0, -1] [0] [0] 0 _ (by repeat (first | exact HG.out | refine GRow.xt ?_ _ | refine GRow.alloc ?_ _ | refine GRow.drew ?_)) rfl (by decide) (by repeat (first | (refine rowI_lit _ ?_ rfl; simp; done) | refine RowI.alloc ?_ _ | refine RowI.xt ?_ _ | refine RowI.drew ?_)) rfl (by decide) (by repeat (first | (refine rowI_lit _ ?_ rfl; simp; done) | refine RowI.alloc ?_ _ | refine RowI.xt ?_ _ | refine RowI.drew ?_)) rfl (by decide) (by repeat (first | (refine rowI_lit _ ?_ rfl; simp; done) | refine RowI.alloc ?_ _ | refine RowI.xt ?_ _ | refine RowI.drew ?_)) (by decide +kernel))).mono ?_
  rintro e' w' ⟨rfl, gg, rfl⟩
  go_wp2_with fail
  refine (RetB.grown (kC _ _ _ _ _ _ _ _ _ _ _ [1, 0, -1] [] [0] 10 _ (by repeat (first | exact HG.out | refine GRow.xt ?_ _ | refine GRow.alloc ?_ _ | refine GRow.drew ?_)) rfl (by decide) (by repeat (first | (refine rowI_lit _ ?_ rfl; simp; done) | refine RowI.alloc ?_ _ | refine RowI.xt ?_ _ | refine RowI.drew ?_)) rfl (by decide) (RowI.nil _ _) rfl (by decide) (by repeat (first | (refine rowI_lit _ ?_ rfl; simp; done) | refine RowI.alloc ?_ _ | refine RowI.xt ?_ _ | refine RowI.drew ?_)) (by decide +kernel))).mono ?_
  rintro e' w' ⟨rfl, gh, rfl⟩
  go_wp2_with fail
  refine (RetB.grown (kC _ _ _ _ _ _ _ _ _ _ _ [1, -1, -1] [0] [0] 10 _ (by repeat (first | exact HG.out | refine GRow.xt ?_ _ | refine GRow.alloc ?_ _ | refine GRow.drew ?_)) rfl (by decide) (by repeat (first | (refine rowI_lit _ ?_ rfl; simp; done) | refine RowI.alloc ?_ _ | refine RowI.xt ?_ _ | refine RowI.drew ?_)) rfl (by decide) (by repeat (first | (refine rowI_lit _ ?_ rfl; simp; done) | refine RowI.alloc ?_ _ | refine RowI.xt ?_ _ | refine RowI.drew ?_)) rfl (by decide) (by repeat (first | (refine rowI_lit _ ?_ rfl; simp; done) | refine RowI.alloc ?_ _ | refine RowI.xt ?_ _ | refine RowI.drew ?_)) (by decide +kernel))).mono ?_
  rintro e' w' ⟨rfl, gi, rfl⟩
  go_wp2_with fail
  refine (RetB.grown (kV _ _ [1, 0] _ (by decide) (grow_lit [[1, 0]] (Blk.new _ _ _ (by simp)) (fun i hi => by
    obtain rfl : i = 0 := by simp at hi; omega
    exact ⟨_, _, rfl, (by repeat (first | (refine rowI_lit _ ?_ rfl; simp; done) | refine RowI.alloc ?_ _ | refine RowI.xt ?_ _ | refine RowI.drew ?_))⟩)) (by decide +kernel))).mono ?_
  rintro e' w' ⟨rfl, gj, rfl⟩
  go_wp2_with fail
  refine (RetB.grown (kV _ _ [2] _ (by decide) (grow_lit [[2]] (Blk.new _ _ _ (by simp)) (fun i hi => by
    obtain rfl : i = 0 := by simp at hi; omega
    exact ⟨_, _, rfl, (by repeat (first | (refine rowI_lit _ ?_ rfl; simp; done) | refine RowI.alloc ?_ _ | refine RowI.xt ?_ _ | refine RowI.drew ?_))⟩)) (by decide +kernel))).mono ?_
  rintro e' w' ⟨rfl, gk, rfl⟩
  go_wp2_with fail
  go_ret
  have hsz : w.heap.size ≤ W1.heap.size := by have := HSz.out; omega
  exact RetB.of rfl (by repeat' (first | exact Below.refl _ _ | assumption | refine Below.xt ?_ ?_ _ | refine Below.alloc ?_ ?_ _ | refine Below.drew ?_ | refine Below.setCell ?_ ?_ _ | (simp; done) | (simp; omega)))
end Go.Proofs.Ytkabknmhbjmmcaa

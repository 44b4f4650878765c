/- A statement that draws its order, in a round: the calculus of the held orders, carried into the round. No condition. -/
import Derived.Test.YtkekhnclbkachaaHeldL
import Derived.Test.YtkekhnclbkachaaRng
namespace Go.Proofs.Ytkekhnclbkachaa
open Go.RowKit
section
variable {P : Program} {ops : Array Oper} {l n : Nat} {R : Act → World → Prop} {Q : Exit → Act → World → Prop}
def onlyNormal (R : Act → World → Prop) : Exit → Act → World → Prop := fun e a w => e = .normal ∧ R a w
theorem onlyNormal_out {R : Act → World → Prop} : ¬ LetsOut (onlyNormal R) := fun ⟨_, _, h, _⟩ => (nomatch h)
theorem wpIn_of_wp {o : Oper} {a : Act} {K K' : Act → World → Prop} {w : World} (hnd : ∀ c, o.op ≠ .defer c) (h : ∀ a w, K a w → K' a w) (hh : o.wp P a w K (onlyNormal R)) : o.wpIn (Fence.wide.inRound l) n P a w K' Q := by
  unfold Oper.wp at hh
  unfold Oper.wpIn
  refine ⟨fun _ _ => trivial, ?_⟩
  rw [Oper.semAt_eq _ _ _ hnd]
  generalize (execOp a.eval o).run P w = r at *
  cases r with
  | ok x w' =>
    cases x <;> simp only [Oper.upon, Oper.uponIn] at hh ⊢
    case enter f args => 
      refine ⟨fun h0 => (by cases h0), CallsIn.inRound l (callsIn_wide.2 (hh.mono fun e w'' he => ?_))⟩
      cases e with
      | returned v => exact h _ _ he
      | panicked c => exact absurd he.1 (fun h => nomatch h)
      | outgrown => exact absurd he onlyNormal_out
    case row row args =>
      refine ⟨fun h0 => (by cases h0), fun c cs _ => ?_⟩
      obtain ⟨v, w'', r, s⟩ := hh c cs
      exact ⟨v, w'', h _ _ r, stepsIn_wide.2 s⟩
    all_goals first | exact h _ _ hh | exact hh.elim
  | halt x w' =>
    cases x <;> simp only [Oper.upon, Oper.uponIn] at hh ⊢
    exact absurd hh.1 (fun h => nomatch h)
theorem wpOpIn_of_wpOp {i : Nat} {a : Act} {K K' : Act → World → Prop} {w : World} (hnd : noDefer ops = true) (h : ∀ a w, K a w → K' a w) (hh : wpOp P ops (onlyNormal R) i K a w) : wpOpIn (Fence.wide.inRound l) n P ops Q i K' a w := by
  unfold wpOp at hh
  unfold wpOpIn
  split
  · rename_i ho; simp only [ho] at hh; exact h _ _ hh
  · rename_i o ho
    simp only [ho] at hh
    split
    · rename_i hw
      simp only [hw, if_true] at hh
      rcases hh with hh | hh
      · exact wpIn_of_wp (noDefer_spec hnd ho) h hh
      · exact absurd hh.2 onlyNormal_out
    · rename_i hw; simp only [hw] at hh; exact ⟨fun _ _ => trivial, h _ _ hh⟩
theorem wpAnyIn_of_wpAny {md : Region.Mode} (hnd : noDefer ops = true) (hQ : ∀ a w, R a w → Q .normal a w) : ∀ (fuel : Nat) (listed : Array Bool) (a : Act) (w : World),
    wpAny P md ops (onlyNormal R) fuel listed a w → wpAnyIn (Fence.wide.inRound l) n P md ops Q fuel listed a w
  | 0, _, _, _, h => ⟨h.1, hQ _ _ h.2.2⟩
  | fuel + 1, _, _, _, h => ⟨fun h0 => hQ _ _ (h.1 h0).2, fun i hi => wpOpIn_of_wpOp hnd (fun a' w' => wpAnyIn_of_wpAny hnd hQ fuel _ a' w') (h.2 i hi)⟩
/-- The held orders, in a round. -/
theorem wpIn_region_L {id : Nat} {a : Act} {w : World} (R : Act → World → Prop) (SL : Array Bool → World → Prop) (hm : P.follows .mixedOrders = true) (hnd : noDefer ops = true) (hQ : ∀ a w, R a w → Q .normal a w)
    (h : Closed .any ops (Array.replicate ops.size false) → wpAnyL P .any ops (onlyNormal R) SL ops.size (Array.replicate ops.size false) a { w with drawn := w.drawn + 1 }) : (Code.region id ops true).wpIn (Fence.wide.inRound l) n P Q a w :=
  wpIn_region_any hm (wpAnyIn_of_wpAny hnd hQ _ _ _ _ (wpAny_of_L _ _ _ _ (h fun j oj _ hl => by rw [getD_replicate_false] at hl; cases hl)))
theorem getD_skip (listed : Array Bool) {i j : Nat} (h : i ≠ j) : (listed.setIfInBounds i true).getD j false = listed.getD j false := by
  simp [h]
theorem wpAnyL_takeD (i : Nat) (d : Option Tmp) {md : Region.Mode} {SL : Array Bool → World → Prop} {oi : Oper} (v : Value) (Si : World → Prop) {fuel : Nat} {listed : Array Bool} {a : Act} {w : World} (hi : ops[i]? = some oi) (hd : oi.dst = d)
    (hs : Region.noSelect ops = true) (hf : Region.free md ops listed i = true) (hr : (Region.ready md ops listed).contains i = true)
    (hQ : ∀ c a w, Q (.panic c) (a.put d v) w → Q (.panic c) a w) (hind : ∀ listed w, SL (listed.setIfInBounds i true) w ↔ SL listed w)
    (hcl : Closed md ops listed) (hS : SL listed w) (hSi : ∀ listed w, Closed md ops listed → listed.getD i true = false → SL listed w → Si w)
    (hy : YieldsIf P ops Si oi v a) (h : Closed md ops (listed.setIfInBounds i true) → SL (listed.setIfInBounds i true) w → wpAnyL P md ops Q SL fuel (listed.setIfInBounds i true) (a.put d v) w) : wpAnyL P md ops Q SL (fuel + 1) listed a w := by
  subst hd
  exact wpAnyL_take i v Si hi hs hf hr hQ hind hcl hS hSi hy h
theorem wpIn_region_Q {id : Nat} {a : Act} {w : World} (SL : Array Bool → World → Prop) (hm : P.follows .mixedOrders = true) (hnd : noDefer ops = true)
    (h : Closed .any ops (Array.replicate ops.size false) → wpAnyL P .any ops (onlyNormal (Q .normal)) SL ops.size (Array.replicate ops.size false) a { w with drawn := w.drawn + 1 }) : (Code.region id ops true).wpIn (Fence.wide.inRound l) n P Q a w :=
  wpIn_region_L (Q .normal) SL hm hnd (fun _ _ h => h) h
theorem wpOp_call {i : Nat} {o : Oper} {a : Act} {w : World} {K : Act → World → Prop} (d : Option Tmp) (ho : ops[i]? = some o) (hd : o.dst = d) (hw : Region.wanted o (yielded ops a.tmps) = true) {f : Nat} {args : Array Value} (he : (execOp a.eval o).run P w = .ok (.enter f args) w) {v : Value} (hc : Calls P f args w (RetB v w)) (hK : ∀ g : Gr, K (a.put d v) (xt w g)) : wpOp P ops Q i K a w := by
  subst hd
  unfold wpOp
  simp only [ho, hw, if_true]
  refine .inl ?_
  unfold Oper.wp
  rw [he]
  refine (RetB.grown hc).mono ?_
  rintro e w' ⟨rfl, g, rfl⟩
  exact hK g
theorem wpOp_value {i : Nat} {o : Oper} {a : Act} {w w' : World} {K : Act → World → Prop} {v : Value} (d : Option Tmp) (ho : ops[i]? = some o) (hd : o.dst = d) (hw : Region.wanted o (yielded ops a.tmps) = true) (he : (execOp a.eval o).run P w = .ok (.value v) w') (hK : K (a.put d v) w') : wpOp P ops Q i K a w := by
  subst hd
  unfold wpOp
  simp only [ho, hw, if_true]
  refine .inl ?_
  unfold Oper.wp
  rw [he]
  exact hK
end
/-- Everything below n is as it was, and there is that much. -/
def BS (n : Nat) (w W : World) : Prop := Below n w W ∧ n ≤ W.heap.size
theorem BS.xt {n : Nat} {w W : World} (h : BS n w W) (g : Gr) : BS n w (xt W g) := ⟨Below.xt h.1 h.2 g, by have := h.2; simp; omega⟩
theorem BS.alloc {n : Nat} {w W : World} (h : BS n w W) (o : Obj) : BS n w (W.alloc o) := ⟨h.1.alloc h.2 o, by have := h.2; simp; omega⟩
theorem BS.set {n : Nat} {w W : World} (h : BS n w W) (a : Addr) (v : Value) (ha : n ≤ a.block) : BS n w (W.setCell a v) := ⟨h.1.setCell ha v, by have := h.2; simp; omega⟩
theorem BS.put {n : Nat} {w W : World} (h : BS n w W) (D : Nat) (o : Obj) (hD : n ≤ D) : Below n w (W.putObj D o) := h.1.grown (grownBy_putObj' W D o) h.2 (fun k e => by injection e with e; omega)

end Go.Proofs.Ytkekhnclbkachaa

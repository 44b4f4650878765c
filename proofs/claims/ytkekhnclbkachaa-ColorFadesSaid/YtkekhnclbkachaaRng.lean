/- A statement that draws its order, in a round of a loop over a function, at the widest fence: its operations read or call what only makes new blocks. No condition. -/
import Derived.RangeFuncNested
import Derived.RangeFuncBound
import Derived.RangeFuncCalls
import Derived.RangeFuncLeaves
import Derived.OrdersIn
import Derived.CallsIn
import Derived.OwnWalkIn
import Derived.TacticsInMore
import Derived.LoopNIn
import Derived.LoopIn
import Derived.Test.YtkekhnclbkachaaBase
namespace Go.Proofs.Ytkekhnclbkachaa
open Go.RowKit

section
variable {P : Program} {ops : Array Oper} {C : World → Prop} {l n : Nat}

def noDefer (ops : Array Oper) : Bool := ops.toList.all fun o => match o.op with
  | .defer _ => false
  | _ => true
theorem noDefer_spec {ops : Array Oper} (h : noDefer ops = true) {i : Nat} {o : Oper} (hi : ops[i]? = some o) : ∀ c, o.op ≠ .defer c := by
  intro c hc
  have hm : o ∈ ops.toList := by
    have := Array.mem_of_getElem? hi
    simpa using this
  have := List.all_eq_true.1 h o hm
  rw [hc] at this
  cases this

theorem wpIn_of_quiet {o : Oper} {a : Act} {K : Act → Prop} {K' : Act → World → Prop} {Q' : Exit → Act → World → Prop} {w : World} (hnd : ∀ c, o.op ≠ .defer c) (hw : C w) (h : ∀ a w', C w' → K a → K' a w') (hh : o.quiet P a C K) : o.wpIn (Fence.wide.inRound l) n P a w K' Q' := by
  obtain ⟨v, h1, h2⟩ := hh
  have h3 := h1 w hw
  unfold Oper.quietAt at h3
  unfold Oper.wpIn
  refine ⟨fun _ _ => trivial, ?_⟩
  rw [Oper.semAt_eq _ _ _ hnd]
  generalize (execOp a.eval o).run P w = r at *
  cases r with
  | ok n w' =>
    cases n <;> simp only [Oper.quietUpon] at h3 <;> simp only [Oper.uponIn]
    case value u =>
      obtain ⟨e1, e2⟩ := h3
      rw [e1, e2]
      exact h _ _ hw h2
    case skip =>
      obtain ⟨e1, e2⟩ := h3
      rw [e1, ← e2]
      exact h _ _ hw h2
    case enter f args =>
      obtain ⟨e1, hc⟩ := h3
      rw [e1]
      exact ⟨fun h0 => (by cases h0), CallsIn.inRound l (callsIn_wide.2 (hc.mono fun e w'' ⟨he, hw''⟩ => by subst he; exact h _ _ hw'' h2))⟩
  | halt x w' => simp only [Oper.quietUpon] at h3
theorem wpOpIn_of_qOp {i : Nat} {a : Act} {K : Act → Prop} {K' : Act → World → Prop} {Q' : Exit → Act → World → Prop} {w : World} (hnd : noDefer ops = true) (hC : C w) (h : ∀ a w', C w' → K a → K' a w') (hh : qOp P ops C i K a) : wpOpIn (Fence.wide.inRound l) n P ops Q' i K' a w := by
  unfold qOp at hh
  unfold wpOpIn
  split
  · rename_i ho; simp only [ho] at hh; exact h _ _ hC hh
  · rename_i o ho
    simp only [ho] at hh
    split
    · rename_i hw; simp only [hw, if_true] at hh; exact wpIn_of_quiet (noDefer_spec hnd ho) hC h hh
    · rename_i hw; simp only [hw] at hh; exact ⟨fun _ _ => trivial, h _ _ hC hh⟩
theorem wpAnyIn_of_quiet {md : Region.Mode} {Q : Act → Prop} {Q' : Exit → Act → World → Prop} (hnd : noDefer ops = true) (hQ : ∀ a w, C w → Q a → Q' .normal a w) : ∀ (fuel : Nat) (listed : Array Bool) (a : Act) (w : World), C w →
    wpAnyQ P md ops C Q fuel listed a → wpAnyIn (Fence.wide.inRound l) n P md ops Q' fuel listed a w
  | 0, _, _, _, hw, h => ⟨h.1, hQ _ _ hw h.2⟩
  | fuel + 1, _, _, _, hw, h => ⟨fun h0 => hQ _ _ hw (h.1 h0), fun i hi => wpOpIn_of_qOp hnd hw (fun a' w' hw' => wpAnyIn_of_quiet hnd hQ fuel _ a' w' hw') (h.2 i hi)⟩
theorem wpIn_region_quiet {id : Nat} {Q : Exit → Act → World → Prop} {a : Act} {w : World} (hm : P.follows .mixedOrders = true) (hB : Region.lexB .any ops = true) (hnd : noDefer ops = true) (hC : C { w with drawn := w.drawn + 1 })
    (h : wpQuiet P ops C (fun a' => ∀ w', C w' → Q .normal a' w') ops.toList a) : (Code.region id ops true).wpIn (Fence.wide.inRound l) n P Q a w := by
  simp only [Region.lexB, Bool.and_eq_true] at hB
  refine wpIn_region_any hm (wpAnyIn_of_quiet (Q := fun a' => ∀ w', C w' → Q .normal a' w') hnd (fun _ w' hw' h => h w' hw') _ _ _ _ hC ?_)
  have := wpAnyQ_lex (C := C) (md := .any) hB.1 ops.toList 0 (Array.replicate ops.size false) a (by simp) (by simpa using hB.2) h
  simpa using this
/-- A region that draws its order, in a round: one walk, in the order of the text. -/
theorem wpIn_region_xt {id : Nat} {Q : Exit → Act → World → Prop} {a : Act} {w : World} {ls : List Oper} (hm : P.follows .mixedOrders = true) (hB : Region.lexB .any ls.toArray = true) (hnd : noDefer ls.toArray = true)
    (h : wpQuiet P ls.toArray (fun w' => ∃ g : Gr, w' = xt w g) (fun a' => ∀ g : Gr, Q .normal a' (xt w g)) ls a) : (Code.region id ls.toArray true).wpIn (Fence.wide.inRound l) n P Q a w := by
  refine wpIn_region_quiet (C := fun w' => ∃ g : Gr, w' = xt w g) hm hB hnd ⟨⟨[], w.drawn + 1⟩, by simp [xt]⟩ ?_
  have e : (fun a' => ∀ w', (∃ g : Gr, w' = xt w g) → Q .normal a' w') = fun a' => ∀ g : Gr, Q .normal a' (xt w g) := by
    funext a'
    exact propext ⟨fun h g => h _ ⟨g, rfl⟩, fun h w' ⟨g, e⟩ => e ▸ h g⟩
  rw [e]
  simpa using h
/-- A contract, met in a round. -/
theorem RetB.round {f : FuncId} {args : Array Value} {w : World} {v : Value} (h : Calls P f args w (RetB v w)) : CallsIn (Fence.wide.inRound l) n P f args w fun e w' => e = .returned v ∧ ∃ g : Gr, w' = xt w g :=
  CallsIn.inRound l (callsIn_wide.2 (RetB.grown h))
/-- A contract, met at the widest fence. -/
theorem RetB.wide {f : FuncId} {args : Array Value} {w : World} {v : Value} (h : Calls P f args w (RetB v w)) : CallsIn Fence.wide n P f args w fun e w' => e = .returned v ∧ ∃ g : Gr, w' = xt w g :=
  callsIn_wide.2 (RetB.grown h)
end
theorem grown_of_below {w w' : World} (h : Below w.heap.size w w') : w.grownBy w' none := ⟨h.os, h.tape, h.output, h.size, fun k hk _ => h.block k hk⟩
/-- A world that has grown keeps whatever is no cells. -/
theorem grown_xt (w : World) (g : Gr) : w.grownBy (xt w g) none :=
  ⟨rfl, rfl, rfl, by simp [xt], fun k hk _ => xt_block w g k hk⟩

/-- Block B, whole, not frozen. -/
def Blk (W : World) (B : Nat) (cs : Array Value) (t : TypeId) : Prop := W.heap[B]? = some (.cells cs t (0, 0))
theorem Blk.lt {W : World} {B : Nat} {cs : Array Value} {t : TypeId} (h : Blk W B cs t) : B < W.heap.size := (Array.getElem?_eq_some_iff.1 h).1
theorem Blk.cell {W : World} {B j : Nat} {cs : Array Value} {t : TypeId} {v : Value} (h : Blk W B cs t) (hj : cs[j]? = some v) : W.cell? ⟨B, j, none⟩ = some v := by
  simp [World.cell?, show W.heap[B]? = _ from h, hj]
theorem Blk.frozen {W : World} {B j : Nat} {cs : Array Value} {t : TypeId} (h : Blk W B cs t) : W.frozen? ⟨B, j, none⟩ = false := by simp [World.frozen?, show W.heap[B]? = _ from h]
theorem Blk.kept {W W' : World} {row : Option Nat} {B : Nat} {cs : Array Value} {t : TypeId} (h : Blk W B cs t) (hg : W.grownBy W' row) (hne : some B ≠ row) : Blk W' B cs t := (hg.block B h.lt hne).trans h
theorem Blk.xt {W : World} {B : Nat} {cs : Array Value} {t : TypeId} (h : Blk W B cs t) (g : Gr) : Blk (xt W g) B cs t := (xt_block W g B h.lt).trans h
theorem Blk.alloc {W : World} {B : Nat} {cs : Array Value} {t : TypeId} (h : Blk W B cs t) (o : Obj) : Blk (W.alloc o) B cs t := (Below.heap_alloc W o B h.lt).trans h
theorem Blk.new (W : World) (cs : Array Value) (t : TypeId) {m : Nat} (hm : m = W.heap.size) : Blk (W.alloc (.cells cs t)) m cs t := by subst hm; exact heap_alloc_new W _
theorem Blk.set {W : World} {B k : Nat} {cs : Array Value} {t : TypeId} (h : Blk W B cs t) (v : Value) : Blk (W.setCell ⟨B, k, none⟩ v) B (cs.setIfInBounds k v) t := by
  have hlt := h.lt
  unfold Blk at *
  simp only [World.setCell, Array.getElem?_modify, h]
  rfl
theorem Blk.other {W : World} {B : Nat} {a : Addr} {cs : Array Value} {t : TypeId} (h : Blk W B cs t) (v : Value) (hne : a.block ≠ B) : Blk (W.setCell a v) B cs t := (heap_setCell_other W a B v (Ne.symm hne)).trans h
theorem Blk.below {n₀ : Nat} {W W' : World} {B : Nat} {cs : Array Value} {t : TypeId} (h : Blk W B cs t) (hb : Below n₀ W W') (hB : B < n₀) : Blk W' B cs t := (hb.block B hB).trans h

/-- A loop over a function at the widest fence, its loop variables in boxes. -/
theorem wp_rangeH {P : Program} {α : Type} {g : Operand} {ps : Array Tmp} {assign body : Code} {Q : Exit → Act → World → Prop} {T : Array Value} {w : World} (n : Nat) (h1 : 1 ≤ n)
    {gf : Nat} {lb : Array Value} (hg : (⟨T, []⟩ : Act).eval g = .func (.func gf) #[] lb) (eg : ∀ args w, (callFunc gf args).run P w = .ok (.enter gf args) w)
    {encs : α → Array Value} {n₀ : Nat} {S Sp : List α → Prop} {N : Nat} (hseq : SeqStopsK Fence.wide (n - 1) P gf lb encs (Below n₀) S Sp N w) (hn0 : n₀ ≤ w.heap.size) (hps : ∀ x, (encs x).size = ps.size)
    (I : List α → World → Prop) (Ix : Code → List α → World → Prop) (hI : OwnFrom w.heap.size I) (hIx : ∀ c, OwnFrom w.heap.size (Ix c)) (h0 : I [] w) (Bx : α → Nat → World → Prop) (hBx : ∀ x m, OwnFrom w.heap.size (fun (_ : Unit) W => Bx x m W)) (sets : α → Nat → Array Value → Array Value)
    (hassign : ∀ (l : Nat) (pre : List α) (x : α) (W : World) (K : Act → World → Prop), I pre W → (∀ m W', KeepsFrom w.heap.size W W' → Below n₀ W W' → I pre W' → Bx x m W' → K ⟨sets x m ((ps.zip (encs x)).foldl (fun t (p, v) => t.setIfInBounds p v) T), []⟩ W') →
      assign.wpIn (Fence.wide.inRound l) (n - 1 - 1) P (Exit.then K (fun _ _ _ => False)) { tmps := (ps.zip (encs x)).foldl (fun t (p, v) => t.setIfInBounds p v) T, defers := [] } W)
    (hbody : ∀ (l : Nat) (pre : List α) (x : α) (m : Nat) (W : World), w.heap.size ≤ l → I pre W → Bx x m W → pre.length < N → body.wpIn (Fence.wide.inRound l) (n - 1 - 1) P (ownPostG w.heap.size (Below n₀) I Ix (pre ++ [x]) W) ⟨sets x m ((ps.zip (encs x)).foldl (fun t (p, v) => t.setIfInBounds p v) T), []⟩ W)
    (hdone : ∀ (D : Nat) (xs : List α) (W : World), w.heap.size ≤ D → S xs → I xs W → W.heap[D]? = some (.deferred (some [])) → Q .normal ⟨T, [{ target := .collected D, args := #[] }]⟩ W)
    (hstop : ∀ (D : Nat) (c : Code) (pre : List α) (W : World), w.heap.size ≤ D → Sp pre → Ix c pre W → W.heap[D]? = some (.deferred (some [])) → c.wp P Q ⟨T, [{ target := .collected D, args := #[] }]⟩ W) :
    (Code.rangeFunc g ps assign body).wp P Q ⟨T, []⟩ w := by
  refine (wpIn_wide (n := n)).1 (wpIn_rangeFunc_ownH (F := Fence.wide) rfl h1 hg trivial eg hseq belowK_t (belowK_b hn0) (Below.refl _ _) hps I Ix hI hIx h0
    (fun x a' W => ∃ m, Bx x m W ∧ a' = ⟨sets x m ((ps.zip (encs x)).foldl (fun t (p, v) => t.setIfInBounds p v) T), []⟩) ?_ ?_ ?_ ?_ ?_)
  · rintro x a' s A B row ⟨m, hm, ha⟩ hg hr
    exact ⟨m, hBx x m s A B row hm hg hr, ha⟩
  · intro l pre x W K hI hK
    exact hassign l pre x W K hI fun m W' h1 h2 h3 h4 => hK _ W' h1 h2 h3 ⟨m, h4, rfl⟩
  · rintro l pre x a' W hl _ hI ⟨m, hm, rfl⟩ hN
    exact hbody l pre x m W hl hI hm hN
  · intro D xs W hD hS hI hW
    exact hdone D xs W hD hS hI hW
  · intro D c pre W hD hS hI hW
    exact wpIn_wide.2 (hstop D c pre W hD hS hI hW)

end Go.Proofs.Ytkekhnclbkachaa

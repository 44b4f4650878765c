
/- Words for the walks of this seat: what a call returns and what it leaves of the memory. No condition. -/
import Derived.WalkKit
import Derived.WalkSpells
import Derived.WalkLawsBesides
import Derived.Handy
import Derived.Lib.Hide
import Derived.BigQuiet
import Derived.Deep.Draws
namespace Go.Proofs.Ytjiknjcmfiapjaa
open Go.RowKit

/-- The call returns v and leaves the world as it was. -/
def Ret (v : Value) (w : World) (e : Ending) (w' : World) : Prop := e = .returned v ∧ w = w'
/-- The call returns v; what was there is as it was. -/
def RetB (v : Value) (w : World) (e : Ending) (w' : World) : Prop := e = .returned v ∧ Below w.heap.size w w'

theorem Ret.rfl' {v : Value} {w : World} : Ret v w (.returned v) w := ⟨rfl, rfl⟩
theorem Ret.of {u v : Value} {w : World} (h : u = v) : Ret v w (.returned u) w := ⟨by rw [h], rfl⟩
theorem RetB.of {u v : Value} {w w' : World} (h : u = v) (hb : Below w.heap.size w w') : RetB v w (.returned u) w' := ⟨by rw [h], hb⟩
theorem bool_eq {a b : Bool} (h : a = b) : Value.bool a = Value.bool b := by rw [h]
theorem int_eq {k : IntKind} {a b : Int} (h : a = b) : Value.int k a = Value.int k b := by rw [h]

/-- A later world, of which all below an earlier one's size is known, seen from a still earlier one. -/
theorem Below.next {B : Nat} {a w w1 : World} (h : Below B a w) (k : Below w.heap.size w w1) (hB : B ≤ w.heap.size) : Below B a w1 :=
  h.trans (k.mono hB)

/-! ### A world that has grown: some blocks more, some answers drawn -/
structure Gr where
  blocks : List Obj
  drawn : Nat
instance : Inhabited Gr := ⟨⟨[], 0⟩⟩
def xt (w : World) (g : Gr) : World := { w with heap := w.heap ++ g.blocks.toArray, drawn := g.drawn }

/-- Block n was there in that world. -/
def old (n : Nat) (w : World) : Prop := n < w.heap.size
theorem old_of {n : Nat} {w : World} (h : n < w.heap.size) : old n w := h
@[go_sem] theorem old_alloc (w : World) (o : Obj) (n : Nat) : old n (w.alloc o) = (old n w ∨ n = w.heap.size) := by
  unfold old; exact propext ⟨fun h => by simp at h; omega, fun h => by simp; omega⟩
@[go_sem] theorem old_xt (w : World) (g : Gr) (n : Nat) : old n (xt w g) = (old n w ∨ n < w.heap.size + g.blocks.length) := by
  unfold old; exact propext ⟨fun h => by simp [xt] at h; omega, fun h => by simp [xt]; omega⟩
@[go_sem] theorem old_drew (w : World) (n : Nat) : old n w.drew = old n w := rfl
@[go_sem] theorem old_drewN (w : World) (k n : Nat) : old n (w.drewN k) = old n w := rfl
@[go_sem] theorem old_setCell (w : World) (a : Addr) (v : Value) (n : Nat) : old n (w.setCell a v) = old n w := by simp [old, World.setCell]
@[go_sem] theorem cell_alloc_old (w : World) (o : Obj) (n i : Nat) (s : Option Nat) (hn : old n w) : (w.alloc o).cell? ⟨n, i, s⟩ = w.cell? ⟨n, i, s⟩ := World.cell?_alloc_lt w o _ hn
@[go_sem] theorem frozen_alloc_old (w : World) (o : Obj) (n i : Nat) (s : Option Nat) (hn : old n w) : (w.alloc o).frozen? ⟨n, i, s⟩ = w.frozen? ⟨n, i, s⟩ :=
  World.frozen?_of_block (w := w) (Below.heap_alloc w o n hn)

section
variable (w : World) (g k : Gr)
@[go_sem, simp] theorem xt_size : (xt w g).heap.size = w.heap.size + g.blocks.length := by simp [xt]
@[go_sem] theorem xt_drew : (xt w g).drew = xt w ⟨g.blocks, g.drawn + 1⟩ := rfl
@[go_sem] theorem xt_drewN (n : Nat) : (xt w g).drewN n = xt w ⟨g.blocks, g.drawn + n⟩ := rfl
@[go_sem] theorem xt_of_drew : xt w.drew g = xt w g := rfl
@[go_sem] theorem xt_of_drewN (n : Nat) : xt (w.drewN n) g = xt w g := rfl
theorem xt_xt : xt (xt w g) k = xt w ⟨g.blocks ++ k.blocks, k.drawn⟩ := by simp [xt]
theorem xt_block (n : Nat) (hn : old n w) : (xt w g).heap[n]? = w.heap[n]? := by
  simp only [xt]
  rw [Array.getElem?_append_left hn]
@[go_sem] theorem xt_cell (n i : Nat) (s : Option Nat) (hn : old n w) : (xt w g).cell? ⟨n, i, s⟩ = w.cell? ⟨n, i, s⟩ := by
  simp only [World.cell?, xt_block w g n hn]
@[go_sem] theorem xt_frozen (n i : Nat) (s : Option Nat) (hn : old n w) : (xt w g).frozen? ⟨n, i, s⟩ = w.frozen? ⟨n, i, s⟩ := by
  simp only [World.frozen?, xt_block w g n hn]
@[go_sem] theorem xt_shape (n : Nat) (hn : old n w) : (xt w g).shape? n = w.shape? n := by
  simp only [World.shape?, xt_block w g n hn]
@[go_sem] theorem xt_setCell (n i : Nat) (s : Option Nat) (v : Value) (hn : old n w) : (xt w g).setCell ⟨n, i, s⟩ v = xt (w.setCell ⟨n, i, s⟩ v) g := by
  simp only [xt, World.setCell]
  congr 1
  apply Array.ext_getElem?
  intro k
  simp only [Array.getElem?_modify, Array.getElem?_append, Array.size_modify]
  by_cases hk : n = k
  · subst hk; simp [show n < w.heap.size from hn]
  · simp [hk]
theorem xt_self : xt w ⟨[], w.drawn⟩ = w := by simp [xt]
end

theorem xt_of_below {w w' : World} (h : Below w.heap.size w w') : ∃ g, w' = xt w g := by
  refine ⟨⟨w'.heap.toList.drop w.heap.size, w'.drawn⟩, ?_⟩
  have hh : w'.heap = w.heap ++ (w'.heap.toList.drop w.heap.size).toArray := by
    apply Array.ext_getElem?
    intro k
    by_cases hk : k < w.heap.size
    · rw [Array.getElem?_append_left hk, h.block k hk]
    · rw [Array.getElem?_append_right (by omega)]
      simp only [List.getElem?_toArray, List.getElem?_drop, Array.getElem?_toList]
      congr 1
      omega
  cases w'
  have h1 := h.os
  have h2 := h.tape
  have h3 := h.output
  simp only [xt] at *
  subst h1 h2 h3
  exact congrArg (fun x => World.mk x _ _ _ _) hh

theorem Below.xt {B : Nat} {a w : World} (h : Below B a w) (hB : B ≤ w.heap.size) (g : Gr) : Below B a (xt w g) :=
  h.trans ⟨rfl, rfl, rfl, by simp, fun k hk => xt_block w g k (Nat.lt_of_lt_of_le hk hB)⟩

/-- A region that draws its order, all of whose operations read or call what only makes new blocks: one walk, in the order of the text. -/
theorem wp_region_xt {P : Program} {id : Nat} {Q : Exit → Act → World → Prop} {a : Act} {w : World} {l : List Oper} (hm : P.follows .mixedOrders = true) (hB : Region.lexB .any l.toArray = true)
    (h : wpQuiet P l.toArray (fun w' => ∃ g : Gr, w' = xt w g) (fun a' => ∀ g : Gr, Q .normal a' (xt w g)) l a) : (Code.region id l.toArray true).wp P Q a w := by
  refine wp_region_quiet (C := fun w' => ∃ g : Gr, w' = xt w g) hm hB ⟨⟨[], w.drawn + 1⟩, by simp [xt]⟩ ?_
  have e : (fun a' => ∀ w', (∃ g : Gr, w' = xt w g) → Q .normal a' w') = fun a' => ∀ g : Gr, Q .normal a' (xt w g) := by
    funext a'
    exact propext ⟨fun h g => h _ ⟨g, rfl⟩, fun h w' ⟨g, e⟩ => e ▸ h g⟩
  rw [e]
  simpa using h

/-- A contract, met inside such a region. -/
theorem RetB.quiet {P : Program} {f : FuncId} {args : Array Value} {w : World} {g : Gr} {v : Value} (h : Calls P f args (xt w g) (RetB v (xt w g))) :
    Calls P f args (xt w g) fun e w'' => e = .returned v ∧ ∃ g : Gr, w'' = xt w g :=
  h.mono fun _ _ ⟨he, hb⟩ => ⟨he, by obtain ⟨k, rfl⟩ := xt_of_below hb; exact ⟨_, xt_xt _ _ _⟩⟩
theorem Ret.quiet {P : Program} {f : FuncId} {args : Array Value} {w : World} {g : Gr} {v : Value} (h : Calls P f args (xt w g) (Ret v (xt w g))) :
    Calls P f args (xt w g) fun e w'' => e = .returned v ∧ ∃ g : Gr, w'' = xt w g :=
  h.mono fun _ _ ⟨he, hb⟩ => ⟨he, g, hb.symm⟩
/-- A contract, met outside. -/
theorem RetB.grown {P : Program} {f : FuncId} {args : Array Value} {w : World} {v : Value} (h : Calls P f args w (RetB v w)) :
    Calls P f args w fun e w' => e = .returned v ∧ ∃ g : Gr, w' = xt w g :=
  h.mono fun _ _ ⟨he, hb⟩ => ⟨he, xt_of_below hb⟩

/-- A number that fits 64 bits. -/
def I64 (n : Int) : Prop := -9223372036854775808 ≤ n ∧ n ≤ 9223372036854775807

end Go.Proofs.Ytjiknjcmfiapjaa

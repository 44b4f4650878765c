
/- A whole struct out of a block of its own, in one step of the walk. No condition. -/
import Derived.Test.YtjiknjcmfiapjaaBase
namespace Go.Proofs.Ytjiknjcmfiapjaa
open Go.RowKit

@[go_sem] theorem nat_lt_grow (a b k : Nat) (h : a < b) : (a < b + k) = True := eq_true (by omega)

@[go_sem] theorem setCell_alloc_old (w : World) (o : Obj) (n i : Nat) (s : Option Nat) (v : Value) (hn : old n w) : (w.alloc o).setCell ⟨n, i, s⟩ v = (w.setCell ⟨n, i, s⟩ v).alloc o := by
  have hn' : n < w.heap.size := hn
  simp only [World.setCell, World.alloc]
  congr 1
  apply Array.ext_getElem?
  intro k
  simp only [Array.getElem?_modify, Array.getElem?_push, Array.size_modify]
  by_cases hk : n = k
  · subst hk
    rw [if_pos rfl, if_neg (by omega), if_pos rfl, if_neg (by omega)]
  · simp [hk]

/-- Block n, whole. -/
def blk (w : World) (n : Nat) : Option Obj := w.heap[n]?
/-- The first k cells of block b. -/
def ldRow (P : Program) (W : World) (b k : Nat) : Option Obj → Result (Array Value)
  | some (.cells cs _ _) => if cs.size = k then .ok cs W else (loadCellsFrom ⟨b, 0, none⟩ 0 k #[]).run P W
  | _ => (loadCellsFrom ⟨b, 0, none⟩ 0 k #[]).run P W

theorem ld_eq (P : Program) (W : World) (b k : Nat) : (loadCellsFrom ⟨b, 0, none⟩ 0 k #[]).run P W = ldRow P W b k (blk W b) := by
  unfold blk
  cases hb : W.heap[b]? with
  | none => rfl
  | some o =>
    cases o with
    | cells cs t fr =>
      simp only [ldRow]
      by_cases hk : cs.size = k
      · rw [if_pos hk]
        subst hk
        have hl : (loadCells ⟨b, 0, none⟩ cs.toList.length).run P W = .ok cs.toList.toArray W :=
          run_loadCells_list (P := P) W ⟨b, 0, none⟩ cs.toList (fun j v hv => by
            have hadd : (⟨b, 0, none⟩ : Addr).add j = ⟨b, j, none⟩ := by unfold Addr.add; split <;> simp_all
            rw [hadd, cell_of_row W b j cs t fr hb]
            simpa using hv)
        simpa [loadCells] using hl
      · rw [if_neg hk]
    | _ => rfl

theorem ld16 (P : Program) (W : World) (b : Nat) : (loadCellsFrom ⟨b, 0, none⟩ 0 16 #[]).run P W = ldRow P W b 16 (blk W b) := ld_eq P W b 16
theorem ld6 (P : Program) (W : World) (b : Nat) : (loadCellsFrom ⟨b, 0, none⟩ 0 6 #[]).run P W = ldRow P W b 6 (blk W b) := ld_eq P W b 6
theorem ld8 (P : Program) (W : World) (b : Nat) : (loadCellsFrom ⟨b, 0, none⟩ 0 8 #[]).run P W = ldRow P W b 8 (blk W b) := ld_eq P W b 8
theorem ld18 (P : Program) (W : World) (b : Nat) : (loadCellsFrom ⟨b, 0, none⟩ 0 18 #[]).run P W = ldRow P W b 18 (blk W b) := ld_eq P W b 18
@[go_sem] theorem ldRow_cells (P : Program) (W : World) (b k : Nat) (cs : Array Value) (t : TypeId) (fr : Nat × Nat) (h : cs.size = k) : ldRow P W b k (some (.cells cs t fr)) = .ok cs W := by
  simp [ldRow, h]

@[go_sem] theorem blk_alloc (w : World) (o : Obj) (n : Nat) (hn : n = w.heap.size) : blk (w.alloc o) n = some o := by subst hn; exact heap_alloc_new w o
@[go_sem] theorem blk_alloc_past (w : World) (o : Obj) (n : Nat) (hn : old n w) : blk (w.alloc o) n = blk w n := Below.heap_alloc w o n hn
@[go_sem] theorem blk_xt (w : World) (g : Gr) (n : Nat) (hn : old n w) : blk (xt w g) n = blk w n := xt_block w g n hn
@[go_sem] theorem blk_drew (w : World) (n : Nat) : blk w.drew n = blk w n := rfl
@[go_sem] theorem blk_drewN (w : World) (k n : Nat) : blk (w.drewN k) n = blk w n := rfl
@[go_sem] theorem blk_setCell (w : World) (a : Addr) (v : Value) (n : Nat) (hn : n ≠ a.block) : blk (w.setCell a v) n = blk w n := heap_setCell_other w a n v hn

theorem tup_int {k : IntKind} {a b : Int} {v : Value} (h : a = b) : Value.tuple #[.int k a, v] = Value.tuple #[.int k b, v] := by rw [h]
theorem pair_eq {u v : Value} {a b : Value} (h : u = v) (h' : a = b) : Value.tuple #[u, a] = Value.tuple #[v, b] := by rw [h, h']

end Go.Proofs.Ytjiknjcmfiapjaa

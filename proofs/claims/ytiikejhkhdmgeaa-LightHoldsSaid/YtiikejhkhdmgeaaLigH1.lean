
/- A list of overlays copied, and one more. Conditions stand in each theorem. -/
import Derived.Test.YtiikejhkhdmgeaaLigH0
import Derived.Test.YtiikejhkhdmgeaaLigW1
import Derived.Test.YtiikejhkhdmgeaaLigO2
import Derived.Deep.RegionHeld3
import Derived.Deep.AppendLies
import Derived.Deep.DeepCutAuto
import Derived.Laws.AppendOwnNone
namespace Go.Proofs.Ytiikejhkhdmgeaa
open Go.RowKit
set_option linter.unusedVariables false
set_option linter.unusedSimpArgs false

theorem infoOv : (Try.prog.info? 55).map (fun i => (i.zero, i.size, i.bytes)) = some (some (.agg #[.string ⟨#[]⟩, .int .i64 0, .int .i64 0, .int .i64 0, .int .i64 0, .int .i64 0, .int .i64 0, .int .i64 0, .int .i64 0, .int .i64 0, .int .i64 0, .int .i64 0, .int .u8 0, .int .u8 0, .int .u8 0, .int .u8 0, .int .u8 0, .int .u8 0]), 18, 112) := by kernel_rfl
/-- The cells of a list of overlays. -/
def flatO (l : List Ov) : List Value := flat l.length 18 fun i => ocell (ov l i)
theorem flatO_len (l : List Ov) : (flatO l).length = l.length * 18 := flat_length _ _ _
theorem range18 (o : Ov) : (List.range 18).map (ocell o) = ([.string o.g, .int .i64 o.p, .int .i64 o.e.kind, .int .i64 o.e.fr, .int .i64 o.e.to, .int .i64 o.e.period, .int .i64 o.e.width, .int .i64 o.e.along.x, .int .i64 o.e.along.y, .int .i64 o.e.along.z, .int .i64 o.e.scale, .int .i64 o.e.seed, .int .u8 o.e.a.r, .int .u8 o.e.a.g, .int .u8 o.e.a.b, .int .u8 o.e.b.r, .int .u8 o.e.b.g, .int .u8 o.e.b.b] : List Value) := rfl
theorem flatO_snoc (l : List Ov) (o : Ov) : flatO (l ++ [o]) = flatO l ++ ([.string o.g, .int .i64 o.p, .int .i64 o.e.kind, .int .i64 o.e.fr, .int .i64 o.e.to, .int .i64 o.e.period, .int .i64 o.e.width, .int .i64 o.e.along.x, .int .i64 o.e.along.y, .int .i64 o.e.along.z, .int .i64 o.e.scale, .int .i64 o.e.seed, .int .u8 o.e.a.r, .int .u8 o.e.a.g, .int .u8 o.e.a.b, .int .u8 o.e.b.r, .int .u8 o.e.b.g, .int .u8 o.e.b.b] : List Value) := by
  unfold flatO
  rw [List.length_append, List.length_singleton, flat_succ (by omega)]
  congr 1
  · exact flat_congr fun i j hi _ => by rw [ov_app hi]
  · rw [ov_last]; exact range18 o
theorem one_o (o : Ov) : ∀ u ∈ ([.string o.g, .int .i64 o.p, .int .i64 o.e.kind, .int .i64 o.e.fr, .int .i64 o.e.to, .int .i64 o.e.period, .int .i64 o.e.width, .int .i64 o.e.along.x, .int .i64 o.e.along.y, .int .i64 o.e.along.z, .int .i64 o.e.scale, .int .i64 o.e.seed, .int .u8 o.e.a.r, .int .u8 o.e.a.g, .int .u8 o.e.a.b, .int .u8 o.e.b.r, .int .u8 o.e.b.g, .int .u8 o.e.b.b] : List Value), u.oneCell' = true := by
  intro u hu
  rw [← range18] at hu
  obtain ⟨j, hj, rfl⟩ := List.mem_map.1 hu
  have hj := List.mem_range.1 hj
  have : j = 0 ∨ j = 1 ∨ j = 2 ∨ j = 3 ∨ j = 4 ∨ j = 5 ∨ j = 6 ∨ j = 7 ∨ j = 8 ∨ j = 9 ∨ j = 10 ∨ j = 11 ∨ j = 12 ∨ j = 13 ∨ j = 14 ∨ j = 15 ∨ j = 16 ∨ j = 17 := by omega
  rcases this with rfl | rfl | rfl | rfl | rfl | rfl | rfl | rfl | rfl | rfl | rfl | rfl | rfl | rfl | rfl | rfl | rfl | rfl <;> rfl
theorem one_os (l : List Ov) : ∀ u ∈ flatO l, u.oneCell' = true := by
  intro u hu
  unfold flatO flat at hu
  obtain ⟨k, hk, rfl⟩ := List.mem_map.1 hu
  refine one_o (ov l (k / 18)) _ ?_
  rw [← range18]
  exact List.mem_map.2 ⟨k % 18, List.mem_range.2 (Nat.mod_lt _ (by omega)), rfl⟩
theorem run_append_zero {P : Program} (w : World) (t ty e : TypeId) (i : TypeInfo) (ht : P.underlying t = some (.slice e)) (hi : P.info? e = some i) (A : Option Addr) (c : Nat) :
    (Builtin.append_ #[t, t] ty #[.slice none 0 0, .slice A 0 c]).run P w = .ok (.slice none 0 0) w := by
  cases A <;> simp [Builtin.append_, run_underlying ht, sizeOf, typeInfo, hi, Builtin.lenOf, Builtin.firstCells, loadCells, loadCellsFrom]
theorem below_none {w w' : World} (h : w.grownBy w' (Value.slice none 0 0).ownBlock) : Below w.heap.size w w' := (Below.refl _ _).grown h (Nat.le_refl _) (by simp [Value.ownBlock])
theorem step_copyO {w : World} {ops : Array Oper} {o : Oper} {a : Act} {K : Act → World → Prop} {Q : Exit → Act → World → Prop} {E : Prop} (hgd : o.guard = none) (s x : Operand)
    (ho : o.op = .call { callee := .builtin .append, args := #[s, x], argTypes := #[24, 24] }) (base : Nat) (hbase : base ≤ w.heap.size) (A : Option Addr) (m c : Nat) (l : List Ov)
    (hs : a.eval s = .slice none 0 0) (hx : a.eval x = .slice A m c) (hm : m = l.length) (hl : l.length ≤ 1000) (hr : RowO w A l)
    (h : ∀ A' c' w', w'.ownsRow base 55 18 (.slice A' l.length c') l.length (flatO l) → Below w.heap.size w w' → K (a.put o.dst (.slice A' l.length c')) w') :
    if Region.wanted o (yielded ops a.tmps) = true then Oper.wp Try.prog o a w K Q else E := by
  obtain ⟨i0, hi0, hz0, hz1, hz2⟩ := info_parts infoOv
  subst hm
  have hw : Region.wanted o (yielded ops a.tmps) = true := by simp [Region.wanted, hgd]
  by_cases h0 : l = []
  · subst h0
    rw [if_pos hw]
    have hrun := run_append_zero (P := Try.prog) w 24 o.type 55 i0 Try.underlying24 hi0 A c
    unfold Oper.wp
    simp only [List.length_nil] at hx
    simp [execOp, ho, resolve, invoke, builtin, hs, hx, hrun, Result.andThen]
    exact h none 0 w own_nil (Below.refl _ _)
  · have hp : 0 < l.length := List.length_pos_iff.2 h0
    obtain ⟨b, of, rfl, _, _⟩ := Row.at_ hr hp
    refine step_append_lies w hgd s x 24 ho base 55 i0 _ 18 112 Try.underlying24 hi0 hz0 hz1 hz2 rfl (by omega) (.slice none 0 0) 0 [] hs own_nil ⟨b, of, none⟩ l.length c (flatO l) hx (flatO_len l) (row_news hr (by omega)) (one_os l) hp (by simp only [maxLen]; omega) (by omega) hbase _ rfl ?_
    intro g cap w' hown hgrow _ _
    simp only [Nat.zero_add, List.nil_append] at hown ⊢
    exact h _ _ _ hown (below_none hgrow)
theorem fine_moreL {L : Li} {o : Ov} (hF : FineL L) (ho : OvOk o) (hn : L.os.length ≤ 64) : FineL (more L o) where
  n := hF.n
  gs := hF.gs
  cn := hF.cn
  cs := hF.cs
  on := by simp [more]; omega
  os := fun i hi => by
    have hi : i < L.os.length + 1 := by simpa [more] using hi
    by_cases e : i = L.os.length
    · subst e
      have : ov (more L o).os L.os.length = o := ov_last
      rw [this]; exact ho
    · have : ov (more L o).os i = ov L.os i := ov_app (by omega)
      rw [this]; exact hF.os i (by omega)

end Go.Proofs.Ytiikejhkhdmgeaa


/- Walks: the colours of all aircraft at some points, by the program. Conditions stand in each theorem. -/
import Derived.Test.YtiikejhkhdmgeaaGreatLigA1
import Derived.Test.YtiikejhkhdmgeaaGreatLigL4
import Derived.Test.YtiikejhkhdmgeaaGreatSg
import Derived.Deep.RegionHeld3
import Derived.Deep.AppendLies
namespace Go.Proofs.YtiikejhkhdmgeaaGreat
open Go.RowKit
set_option linter.unusedVariables false
set_option linter.unusedSimpArgs false
attribute [local go_sem ↓] ldr16 ldr18

/-- The error of All. -/
def allE (L : Li) (l : List V3) (t : Int) : Int := if l.length = L.nG ∧ ∀ i, i < l.length → pointAt l i = true then fineE L 0 t else 2
/-- The colour of aircraft i at its point. -/
def allC (L : Li) (l : List V3) (t : Int) (i : Nat) : Col := colC L i (at_ l i) t
/-- The call returns a slice of n elements and no error. -/
def RetRow (n s : Nat) (f : Nat → Nat → Value) (w : World) (e : Ending) (w' : World) : Prop :=
  ∃ A c, e = .returned (.tuple #[.slice A n c, .int .i64 0]) ∧ Below w.heap.size w w' ∧ Row w' A n s f
/-- What pick returns, whatever it is. -/
def PickRet (E : Int) (w : World) (e : Ending) (w' : World) : Prop :=
  ∃ B1 n1 d1 B2 n2 d2 B3 n3 d3 k, e = .returned (.tuple #[.agg #[.slice B1 n1 d1, .slice B2 n2 d2, .slice B3 n3 d3, .int .i64 k], .int .i64 E]) ∧ Below w.heap.size w w'
theorem pick_e (A1 A2 A3 : Option Addr) (c1 c2 c3 : Nat) (L : Li) (a t : Int) (w : World) (hF : FineL L) (hr : RowL w A1 A2 A3 L) :
    Calls Tryz.prog 15 #[.agg #[.slice A1 L.nG c1, .slice A2 L.cs.length c2, .slice A3 L.os.length c3], .int .i64 a, .int .i64 t] w (PickRet (fineE L a t) w) := by
  refine (pick_any A1 A2 A3 c1 c2 c3 L a t w hF hr).mono fun e w' ⟨he, hb⟩ => ?_
  subst he
  split
  · rename_i h; exact ⟨_, _, _, _, _, _, _, _, _, _, by rw [h], hb⟩
  · exact ⟨_, _, _, _, _, _, _, _, _, _, rfl, hb⟩

set_option maxRecDepth 100000 in
set_option maxHeartbeats 1600000 in
theorem lAll_len (A1 A2 A3 A : Option Addr) (c1 c2 c3 n cap : Nat) (L : Li) (t : Int) (w : World) (hF : FineL L) (hr : RowL w A1 A2 A3 L) (hn : n ≤ 4294967296) (hne : n ≠ L.nG) :
    Calls Tryz.prog 6 #[.agg #[.slice A1 L.nG c1, .slice A2 L.cs.length c2, .slice A3 L.os.length c3], .slice A n cap, .int .i64 t] w (RetB (.tuple #[.slice none 0 0, .int .i64 2]) w) := by
  have KP := fun w h => Lib.hid (pick_e A1 A2 A3 c1 c2 c3 L 0 t w hF h)
  have HR := Lib.hid hr
  have n1 := hF.n
  have b1 : ((n : Int) == (L.nG : Int)) = false := beq_eq_false_iff_ne.2 (by omega)
  have b2 : (n == L.nG) = false := beq_eq_false_iff_ne.2 hne
  have b3 : ¬ (n : Int) = (L.nG : Int) := by omega
  generalize fineE L 0 t = E at *
  clear hr hF
  go_enter Tryz.func6, Tryz.ntmps6
  go_wp2_with fail
  refine (KP _ (by repeat (first | (with_reducible exact HR.out) | (with_reducible refine RowL.alloc ?_ _) | (with_reducible refine RowL.drew ?_) | (with_reducible refine RowL.xt ?_ _)))).out.mono ?_
  rintro e' w' ⟨B1, n1, d1, B2, n2, d2, B3, n3, d3, kk, rfl, hb⟩
  obtain ⟨g1, rfl⟩ := xt_of_below hb
  clear hb KP
  go_wp2_with fail
  go_ret2
  exact RetB.of rfl (by repeat' (first | exact Below.refl _ _ | assumption | refine Below.xt ?_ ?_ _ | refine Below.alloc ?_ ?_ _ | refine Below.drew ?_ | refine Below.setCell ?_ ?_ _ | (simp; done) | (simp; omega)))

set_option maxRecDepth 100000 in
set_option maxHeartbeats 1600000 in
theorem lAll_point (A1 A2 A3 : Option Addr) (c1 c2 c3 b o cap : Nat) (L : Li) (l : List V3) (t : Int) (w : World) (hF : FineL L) (hr : RowL w A1 A2 A3 L) (hn : L.nG = l.length) (hv : RowV w (some ⟨b, o, none⟩) l) (hp : ∃ i, i < L.nG ∧ pointAt l i = false) :
    Calls Tryz.prog 6 #[.agg #[.slice A1 L.nG c1, .slice A2 L.cs.length c2, .slice A3 L.os.length c3], .slice (some ⟨b, o, none⟩) L.nG cap, .int .i64 t] w (RetB (.tuple #[.slice none 0 0, .int .i64 2]) w) := by
  have KP := fun w h => Lib.hid (pick_e A1 A2 A3 c1 c2 c3 L 0 t w hF h)
  have HR := Lib.hid hr
  have HV := Lib.hid hv
  have n1 := hF.n
  have C1 := fun w hr => Lib.hid (contains_yes b o L.nG cap l w hn hF.n hr hp)
  generalize fineE L 0 t = E at *
  clear hr hF hn hp hv
  go_enter Tryz.func6, Tryz.ntmps6
  go_wp2_with fail
  refine (KP _ (by repeat (first | (with_reducible exact HR.out) | (with_reducible refine RowL.alloc ?_ _) | (with_reducible refine RowL.drew ?_) | (with_reducible refine RowL.xt ?_ _)))).out.mono ?_
  rintro e' w' ⟨B1, n1, d1, B2, n2, d2, B3, n3, d3, kk, rfl, hb⟩
  obtain ⟨g1, rfl⟩ := xt_of_below hb
  clear hb KP
  go_wp2_with fail
  refine (RetB.grown (C1 _ (by repeat (first | (with_reducible exact HV.out) | (with_reducible refine RowV.alloc ?_ _) | (with_reducible refine RowV.drew ?_) | (with_reducible refine RowV.xt ?_ _)))).out).mono ?_
  rintro e' w' ⟨rfl, g2, rfl⟩
  go_wp2_with fail
  go_ret2
  exact RetB.of rfl (by repeat' (first | exact Below.refl _ _ | assumption | refine Below.xt ?_ ?_ _ | refine Below.alloc ?_ ?_ _ | refine Below.drew ?_ | refine Below.setCell ?_ ?_ _ | (simp; done) | (simp; omega)))

set_option maxRecDepth 100000 in
set_option maxHeartbeats 1600000 in
theorem lAll_fine (A1 A2 A3 A : Option Addr) (c1 c2 c3 cap : Nat) (L : Li) (l : List V3) (t : Int) (w : World) (hF : FineL L) (hr : RowL w A1 A2 A3 L) (hn : L.nG = l.length) (hv : RowV w A l) (hp : ∀ i, i < L.nG → pointAt l i = true) (hE : fineE L 0 t ≠ 0) :
    Calls Tryz.prog 6 #[.agg #[.slice A1 L.nG c1, .slice A2 L.cs.length c2, .slice A3 L.os.length c3], .slice A L.nG cap, .int .i64 t] w (RetB (.tuple #[.slice none 0 0, .int .i64 (fineE L 0 t)]) w) := by
  have KP := fun w h => Lib.hid (pick_e A1 A2 A3 c1 c2 c3 L 0 t w hF h)
  have HR := Lib.hid hr
  have HV := Lib.hid hv
  have n1 := hF.n
  have C1 := fun w hr => Lib.hid (contains_no A L.nG cap l w hn hF.n hr hp)
  generalize fineE L 0 t = E at *
  have b1 : (E == 0) = false := beq_eq_false_iff_ne.2 hE
  clear hr hF hn hp hv
  go_enter Tryz.func6, Tryz.ntmps6
  go_wp2_with fail
  refine (KP _ (by repeat (first | (with_reducible exact HR.out) | (with_reducible refine RowL.alloc ?_ _) | (with_reducible refine RowL.drew ?_) | (with_reducible refine RowL.xt ?_ _)))).out.mono ?_
  rintro e' w' ⟨B1, n1, d1, B2, n2, d2, B3, n3, d3, kk, rfl, hb⟩
  obtain ⟨g1, rfl⟩ := xt_of_below hb
  clear hb KP
  go_wp2_with fail
  refine (RetB.grown (C1 _ (by repeat (first | (with_reducible exact HV.out) | (with_reducible refine RowV.alloc ?_ _) | (with_reducible refine RowV.drew ?_) | (with_reducible refine RowV.xt ?_ _)))).out).mono ?_
  rintro e' w' ⟨rfl, g2, rfl⟩
  go_wp2_with fail
  go_ret2
  exact RetB.of rfl (by repeat' (first | exact Below.refl _ _ | assumption | refine Below.xt ?_ ?_ _ | refine Below.alloc ?_ ?_ _ | refine Below.drew ?_ | refine Below.setCell ?_ ?_ _ | (simp; done) | (simp; omega)))

theorem infoCol : (Tryz.prog.info? 42).map (fun i => (i.zero, i.size, i.bytes)) = some (some (.agg #[.int .u8 0, .int .u8 0, .int .u8 0]), 3, 3) := by kernel_rfl
theorem color_all (A1 A2 A3 : Option Addr) (c1 c2 c3 a : Nat) (L : Li) (p : V3) (t : Int) (w : World) (hF : FineL L) (hv : liB L = true) (ha : a < L.nG) (hr : RowL w A1 A2 A3 L) (hp : point p = true) (ht0 : 0 ≤ t) (ht1 : t ≤ 3600000) :
    Calls Tryz.prog 19 #[.agg #[.slice A1 L.nG c1, .slice A2 L.cs.length c2, .slice A3 L.os.length c3, .int .i64 (a : Nat)], .agg #[.int .i64 p.x, .int .i64 p.y, .int .i64 p.z], .int .i64 t] w (RetB (.agg #[.int .u8 (colC L a p t).r, .int .u8 (colC L a p t).g, .int .u8 (colC L a p t).b]) w) := by
  rcases Int.lt_or_le (wh L.os (L.G a) t L.os.length) 0 with h | h
  · exact color_cue A1 A2 A3 c1 c2 c3 a L p t w hF hv ha hr ht0 ht1 h
  · obtain ⟨i, hi⟩ := Int.eq_ofNat_of_zero_le h
    exact color_over A1 A2 A3 c1 c2 c3 a i L p t w hF hv ha hr hp hi

set_option maxRecDepth 100000 in
set_option maxHeartbeats 3200000 in
theorem lAll_ok (A1 A2 A3 : Option Addr) (c1 c2 c3 b o cap : Nat) (L : Li) (l : List V3) (t : Int) (w : World) (hF : FineL L) (hr : RowL w A1 A2 A3 L) (hn : L.nG = l.length) (hv : RowV w (some ⟨b, o, none⟩) l) (hp : ∀ i, i < L.nG → pointAt l i = true) (hE : fineE L 0 t = 0) :
    Calls Tryz.prog 6 #[.agg #[.slice A1 L.nG c1, .slice A2 L.cs.length c2, .slice A3 L.os.length c3], .slice (some ⟨b, o, none⟩) L.nG cap, .int .i64 t] w (RetRow L.nG 3 (fun i => ccell (allC L l t i)) w) := by
  have KP := fun w h => Lib.hid (pick_e A1 A2 A3 c1 c2 c3 L 0 t w hF h)
  rw [hE] at KP
  obtain ⟨hl, ⟨_, ha0⟩, ht0, ht1⟩ := fine_zero.1 hE
  have C2 := fun (k : Nat) v w (hk : k < L.nG) (hv : at_ l k = v) h => Lib.hid (by
    have c := color_all A1 A2 A3 c1 c2 c3 k L v t w hF hl hk h (by have := hp k hk; rw [pointAt, hv] at this; exact this) ht0 ht1
    have e2 : colC L k v t = allC L l t k := by unfold allC; rw [hv]
    rw [e2] at c
    exact c)
  have HR := Lib.hid hr
  have HV := Lib.hid hv
  have HN := Lib.hid hn
  have n1' := hF.n
  have n2' := (liB_iff.1 hl).1.2
  have C1 := fun w hr => Lib.hid (contains_no (some ⟨b, o, none⟩) L.nG cap l w hn hF.n hr hp)
  clear hr hF hn hp hv hE hl
  go_enter Tryz.func6, Tryz.ntmps6
  go_wp2_with fail
  refine (KP _ (by repeat (first | (with_reducible exact HR.out) | (with_reducible refine RowL.alloc ?_ _) | (with_reducible refine RowL.drew ?_) | (with_reducible refine RowL.xt ?_ _)))).out.mono ?_
  rintro e' w' ⟨B1, n1, d1, B2, n2, d2, B3, n3, d3, kk, rfl, hb⟩
  obtain ⟨g1, rfl⟩ := xt_of_below hb
  clear hb KP
  go_wp2_with fail
  refine (RetB.grown (C1 _ (by repeat (first | (with_reducible exact HV.out) | (with_reducible refine RowV.alloc ?_ _) | (with_reducible refine RowV.drew ?_) | (with_reducible refine RowV.xt ?_ _)))).out).mono ?_
  rintro e' w' ⟨rfl, g2, rfl⟩
  clear C1
  go_wp2_with fail
  have HR1 := Lib.hid (show RowL (xt ((xt (w.alloc (.cells #[.slice A1 L.nG c1, .slice A2 L.cs.length c2, .slice A3 L.os.length c3] 26)) g1).alloc (.cells #[.slice B1 n1 d1, .slice B2 n2 d2, .slice B3 n3 d3, .int .i64 kk] 60)) g2) A1 A2 A3 L from (by repeat (first | (with_reducible exact HR.out) | (with_reducible refine RowL.alloc ?_ _) | (with_reducible refine RowL.drew ?_) | (with_reducible refine RowL.xt ?_ _))))
  have HV1 := Lib.hid (show RowV (xt ((xt (w.alloc (.cells #[.slice A1 L.nG c1, .slice A2 L.cs.length c2, .slice A3 L.os.length c3] 26)) g1).alloc (.cells #[.slice B1 n1 d1, .slice B2 n2 d2, .slice B3 n3 d3, .int .i64 kk] 60)) g2) (some ⟨b, o, none⟩) l from (by repeat (first | (with_reducible exact HV.out) | (with_reducible refine RowV.alloc ?_ _) | (with_reducible refine RowV.drew ?_) | (with_reducible refine RowV.xt ?_ _))))
  have m0 : old w.heap.size (xt ((xt (w.alloc (.cells #[.slice A1 L.nG c1, .slice A2 L.cs.length c2, .slice A3 L.os.length c3] 26)) g1).alloc (.cells #[.slice B1 n1 d1, .slice B2 n2 d2, .slice B3 n3 d3, .int .i64 kk] 60)) g2) := by go_simp
  have l0 : ((xt ((xt (w.alloc (.cells #[.slice A1 L.nG c1, .slice A2 L.cs.length c2, .slice A3 L.os.length c3] 26)) g1).alloc (.cells #[.slice B1 n1 d1, .slice B2 n2 d2, .slice B3 n3 d3, .int .i64 kk] 60)) g2)).cell? ⟨w.heap.size, 0, none⟩ = some (.slice A1 L.nG c1) := by go_simp
  have l1 : ((xt ((xt (w.alloc (.cells #[.slice A1 L.nG c1, .slice A2 L.cs.length c2, .slice A3 L.os.length c3] 26)) g1).alloc (.cells #[.slice B1 n1 d1, .slice B2 n2 d2, .slice B3 n3 d3, .int .i64 kk] 60)) g2)).cell? ⟨w.heap.size, 1, none⟩ = some (.slice A2 L.cs.length c2) := by go_simp
  have l2 : ((xt ((xt (w.alloc (.cells #[.slice A1 L.nG c1, .slice A2 L.cs.length c2, .slice A3 L.os.length c3] 26)) g1).alloc (.cells #[.slice B1 n1 d1, .slice B2 n2 d2, .slice B3 n3 d3, .int .i64 kk] 60)) g2)).cell? ⟨w.heap.size, 2, none⟩ = some (.slice A3 L.os.length c3) := by go_simp
  have hbw : Below w.heap.size w (xt ((xt (w.alloc (.cells #[.slice A1 L.nG c1, .slice A2 L.cs.length c2, .slice A3 L.os.length c3] 26)) g1).alloc (.cells #[.slice B1 n1 d1, .slice B2 n2 d2, .slice B3 n3 d3, .int .i64 kk] 60)) g2) := (by repeat' (first | exact Below.refl _ _ | assumption | refine Below.xt ?_ ?_ _ | refine Below.alloc ?_ ?_ _ | refine Below.drew ?_ | refine Below.setCell ?_ ?_ _ | (simp; done) | (simp; omega)))
  clear HR HV
  generalize (xt ((xt (w.alloc (.cells #[.slice A1 L.nG c1, .slice A2 L.cs.length c2, .slice A3 L.os.length c3] 26)) g1).alloc (.cells #[.slice B1 n1 d1, .slice B2 n2 d2, .slice B3 n3 d3, .int .i64 kk] 60)) g2) = Wb at *
  have hsz := hbw.size
  have HR := HR1
  clear HR1
  obtain ⟨b', o', e, hb, hc⟩ := HV1.out.at_ (by rw [← HN.out]; omega)
  injection e with e
  injection e with e1 e2
  subst e1 e2
  have HC := Lib.hid hc
  clear hc HV1
  obtain ⟨i0, hi0, hz0, hz1, hz2⟩ := info_parts infoCol
  go_loopw [10, 34] (fun s i wr => ∃ (k : Nat) (g : Gr), k ≤ L.nG ∧ i = .int .i64 k ∧ wr = xt Wb g ∧ Hid ((xt Wb g).ownsRow Wb.heap.size 42 3 s k (flat k 3 fun i => ccell (allC L l t i)))) (fun _ i _ => L.nG - (intOf i).toNat)
  case atStart => exact ⟨0, ⟨[], _⟩, by omega, rfl, (xt_self _).symm, own_nil⟩
  case round =>
    obtain ⟨k, g, hk, rfl, rfl, HO⟩ := hrel
    by_cases hlt : k < L.nG
    · obtain ⟨hx, hy, hz⟩ := RowV.cells HC.out (HN.out ▸ hlt)
      have K2 := fun v w hv => C2 k v w hlt hv
      generalize hv : at_ l k = v at *
      have K3 := fun w => K2 v w rfl
      clear hv K2 C2
      go_wp2_with fail
      refine (RetB.grown (K3 _ (by repeat (first | (with_reducible exact HR.out) | (with_reducible refine RowL.alloc ?_ _) | (with_reducible refine RowL.drew ?_) | (with_reducible refine RowL.xt ?_ _)))).out).mono ?_
      rintro e' w' ⟨rfl, g3, rfl⟩
      go_wp2_with (at_builtin; go_must (refine wpList_append_own _ rfl _ _ 30 rfl Wb.heap.size 42 i0 _ 3 3 Tryz.underlying30 hi0 hz0 hz1 hz2 rfl (by omega) u10 k (flat k 3 fun i => ccell (allC L l t i)) rfl (by repeat (first | (with_reducible exact HO.out) | (with_reducible exact own_drawn HO.out _) | (with_reducible refine World.ownsRow.alloc ?_ _) | (with_reducible refine own_xt ?_ _))) _ 1 _ [.int .u8 (allC L l t k).r, .int .u8 (allC L l t k).g, .int .u8 (allC L l t k).b] rfl rfl ?_ ?_ ?_ ?_ ?_ ?_))
      all_goals first
        | exact cells_new _ _ _ _ (by simp)
        | (intro u hu; simp only [List.mem_cons, List.not_mem_nil, or_false] at hu; rcases hu with rfl | rfl | rfl <;> rfl)
        | (simp only [maxLen]; omega)
        | omega
        | (simp; omega)
        | skip
      intro v1 w1 hown1 hgr1 _
      have hb1 : Below Wb.heap.size Wb w1 := below_grown (n := k) (v := u10) (xs := flat k 3 fun i => ccell (allC L l t i)) (e := 42) (s := 3) (by repeat' (first | exact Below.refl _ _ | assumption | refine Below.xt ?_ ?_ _ | refine Below.alloc ?_ ?_ _ | refine Below.drew ?_ | refine Below.setCell ?_ ?_ _ | (simp; done) | (simp; omega))) (by simp; omega) (by repeat (first | (with_reducible exact HO.out) | (with_reducible exact own_drawn HO.out _) | (with_reducible refine World.ownsRow.alloc ?_ _) | (with_reducible refine own_xt ?_ _))) hgr1
      obtain ⟨g9, rfl⟩ := xt_of_below hb1
      have HO1 := Lib.hid (show (xt Wb g9).ownsRow Wb.heap.size 42 3 v1 (k + 1) (flat (k + 1) 3 fun i => ccell (allC L l t i)) by rw [flat_succ (by omega)]; exact hown1)
      clear hown1 hgr1 hb1 HO
      go_wp2_with fail
      go_roundw
      case rel => exact ⟨k + 1, g9, by omega, by go_num, rfl, HO1⟩
      case measure => simp [intOf]; omega
    · have e1 : k = L.nG := by omega
      subst e1
      go_wp2_with fail
      obtain ⟨A', c', rfl, hrow⟩ := Row.of_own HO.out rfl
      go_ret2
      exact ⟨_, _, rfl, (by repeat' (first | exact Below.refl _ _ | assumption | refine Below.xt ?_ ?_ _ | refine Below.alloc ?_ ?_ _ | refine Below.drew ?_ | refine Below.setCell ?_ ?_ _ | (simp; done) | (simp; omega))), hrow⟩

end Go.Proofs.YtiikejhkhdmgeaaGreat

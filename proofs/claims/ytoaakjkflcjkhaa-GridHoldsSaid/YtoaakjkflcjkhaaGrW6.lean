/- Walks of grids, by the program: the spots of points. Conditions stand in each theorem. -/
import Derived.Test.YtoaakjkflcjkhaaGrW5
import Derived.Test.YtoaakjkflcjkhaaGrC
namespace Go.Proofs.Ytoaakjkflcjkhaa
open Go.RowKit
set_option linter.unusedVariables false

theorem Row.below {w w' : World} {A : Option Addr} {n s : Nat} {f : Nat → Nat → Value} (h : Row w A n s f) (hb : Below w.heap.size w w') : Row w' A n s f := by
  obtain ⟨g, rfl⟩ := xt_of_below hb; exact h.xt g
theorem own_below {w w' : World} {base : Nat} {e : TypeId} {s n : Nat} {v : Value} {xs : List Value} (h : w.ownsRow base e s v n xs) (hb : Below w.heap.size w w') : w'.ownsRow base e s v n xs := by
  obtain ⟨g, rfl⟩ := xt_of_below hb; exact own_xt h g
/-- The distances of the spots to point k. -/
def far (l pts : List V3) (k : Nat) : Int → Int := dist l (at_ pts k)
def asgs (l pts : List V3) (k : Nat) : List Int := (List.range k).map fun j => asg (far l pts) l.length j
theorem asgs_len (l pts : List V3) (k : Nat) : (asgs l pts k).length = k := by simp [asgs]
theorem asgs_succ (l pts : List V3) (k : Nat) : asgs l pts (k + 1) = asgs l pts k ++ [asg (far l pts) l.length k] := by simp [asgs, List.range_succ]

set_option maxHeartbeats 400000 in
theorem Assign_bad (q : Gd) (A : Option Addr) (n cap : Nat) (w : World) (h : gval q = false) : Calls Try.prog 23 #[.agg #[.int .i64 q.ox, .int .i64 q.oy, .int .i64 q.oz, .int .i64 q.rows, .int .i64 q.cols, .int .i64 q.sp], .slice A n cap] w (RetB (.tuple #[.slice none 0 0, .int .i64 2]) w) := by
  go_enter Try.func23, Try.ntmps23
  go_wp2_with (first
    | (go_at_call 9; refine (RetB.grown (Spots_bad q _ h)).mono ?_; rintro e' w' ⟨rfl, g, rfl⟩)
    | (refine wp_region_xt (by kernel_rfl) (by kernel_rfl) ?_; (repeat (go_big_quiet_step (first | (go_at_call 9; exact RetB.quiet (Spots_bad q _ h))))); refine wpQuiet_nil ?_; intro g))
  go_ret2
  exact RetB.of rfl (by repeat' (first | exact Below.refl _ _ | assumption | refine Below.xt ?_ ?_ _ | refine Below.alloc ?_ ?_ _ | refine Below.drew ?_ | refine Below.setCell ?_ ?_ _ | (simp; done) | (simp; omega)))
set_option maxHeartbeats 800000 in
theorem Assign_far (q : Gd) (b o n cap : Nat) (pts : List V3) (w : World) (h : gval q = true) (hn : n = pts.length) (hm : n ≤ 4294967296) (hr : RowV w (some ⟨b, o, none⟩) pts) (hp : ∃ i, i < n ∧ pointAt pts i = false) : Calls Try.prog 23 #[.agg #[.int .i64 q.ox, .int .i64 q.oy, .int .i64 q.oz, .int .i64 q.rows, .int .i64 q.cols, .int .i64 q.sp], .slice (some ⟨b, o, none⟩) n cap] w (RetB (.tuple #[.slice none 0 0, .int .i64 2]) w) := by
  have HH := Lib.hid h
  have HR := Lib.hid hr
  have C := fun w h => Lib.hid (contains_yes b o n cap pts w hn hm h hp)
  clear h hr hn hp
  go_enter Try.func23, Try.ntmps23
  go_wp2_with fail
  refine (Spots_ok q _ HH.out).mono ?_
  rintro e w' ⟨A', c', rfl, hb, hrow⟩
  obtain ⟨g, rfl⟩ := xt_of_below hb
  clear hb hrow
  go_wp2_with (first
    | (go_at_call 40; refine (RetB.grown ((C _ (by repeat (first | exact HR.out | refine Row.xt ?_ _ | refine Row.alloc ?_ _ | refine Row.drew ?_))).out)).mono ?_; rintro e' w' ⟨rfl, g, rfl⟩)
    | (refine wp_region_xt (by kernel_rfl) (by kernel_rfl) ?_; (repeat (go_big_quiet_step (first | (go_at_call 40; exact RetB.quiet ((C _ (by repeat (first | exact HR.out | refine Row.xt ?_ _ | refine Row.alloc ?_ _ | refine Row.drew ?_))).out))))); refine wpQuiet_nil ?_; intro g))
  go_ret2
  exact RetB.of rfl (by repeat' (first | exact Below.refl _ _ | assumption | refine Below.xt ?_ ?_ _ | refine Below.alloc ?_ ?_ _ | refine Below.drew ?_ | refine Below.setCell ?_ ?_ _ | (simp; done) | (simp; omega)))
set_option maxHeartbeats 800000 in
theorem Assign_full (q : Gd) (A : Option Addr) (n cap : Nat) (pts : List V3) (w : World) (h : gval q = true) (hn : n = pts.length) (hm : n ≤ 4294967296) (hr : RowV w A pts) (hp : ∀ i, i < n → pointAt pts i = true) (hl : q.n < n) : Calls Try.prog 23 #[.agg #[.int .i64 q.ox, .int .i64 q.oy, .int .i64 q.oz, .int .i64 q.rows, .int .i64 q.cols, .int .i64 q.sp], .slice A n cap] w (RetB (.tuple #[.slice none 0 0, .int .i64 7]) w) := by
  have HH := Lib.hid h
  have HR := Lib.hid hr
  have C := fun w h => Lib.hid (contains_no A n cap pts w hn hm h hp)
  have hl' : (spots q).length < n := by rw [spots_len]; exact hl
  clear h hr hn hp hl
  go_enter Try.func23, Try.ntmps23
  go_wp2_with fail
  refine (Spots_ok q _ HH.out).mono ?_
  rintro e w' ⟨A', c', rfl, hb, hrow⟩
  obtain ⟨g, rfl⟩ := xt_of_below hb
  clear hb hrow
  go_wp2_with (first
    | (go_at_call 40; refine (RetB.grown ((C _ (by repeat (first | exact HR.out | refine Row.xt ?_ _ | refine Row.alloc ?_ _ | refine Row.drew ?_))).out)).mono ?_; rintro e' w' ⟨rfl, g, rfl⟩)
    | (refine wp_region_xt (by kernel_rfl) (by kernel_rfl) ?_; (repeat (go_big_quiet_step (first | (go_at_call 40; exact RetB.quiet ((C _ (by repeat (first | exact HR.out | refine Row.xt ?_ _ | refine Row.alloc ?_ _ | refine Row.drew ?_))).out))))); refine wpQuiet_nil ?_; intro g))
  go_ret2
  exact RetB.of rfl (by repeat' (first | exact Below.refl _ _ | assumption | refine Below.xt ?_ ?_ _ | refine Below.alloc ?_ ?_ _ | refine Below.drew ?_ | refine Below.setCell ?_ ?_ _ | (simp; done) | (simp; omega)))

set_option maxRecDepth 100000 in
set_option maxHeartbeats 3200000 in
theorem Assign_ok (q : Gd) (A : Option Addr) (n cap : Nat) (pts : List V3) (w : World) (h : gval q = true) (hn : n = pts.length) (hr : RowV w A pts) (hp : ∀ i, i < n → pointAt pts i = true) (hl : n ≤ q.n) : Calls Try.prog 23 #[.agg #[.int .i64 q.ox, .int .i64 q.oy, .int .i64 q.oz, .int .i64 q.rows, .int .i64 q.cols, .int .i64 q.sp], .slice A n cap] w (RetInts (asgs (spots q) pts n) 0 w) := by
  have hN := g_n (gval_iff.1 h).2.1
  have hm : n ≤ 4294967296 := by omega
  have HH := Lib.hid h
  have HR := Lib.hid hr
  have C := fun w h => Lib.hid (contains_no A n cap pts w hn hm h hp)
  have HPS := Lib.hid (show ∀ i, i < (spots q).length → pnt (at_ (spots q) i) = true from fun i hi => spots_pnt h (by rwa [spots_len] at hi))
  have hl' : n ≤ (spots q).length := by rw [spots_len]; exact hl
  have hL : (spots q).length ≤ 256 := by rw [spots_len]; omega
  have HN := Lib.hid hn
  have HP := Lib.hid hp
  clear h hr hn hp hl hN
  obtain ⟨i0, hi0, hz0, hz1, hz2⟩ := info_parts infoInt
  have hmm := @run_makeMap Try.prog
  go_enter Try.func23, Try.ntmps23
  go_wp2_with fail
  refine (Spots_ok q _ HH.out).mono ?_
  rintro e w' ⟨A', c', rfl, hb, hrow⟩
  obtain ⟨g, rfl⟩ := xt_of_below hb
  have HS := Lib.hid hrow
  clear hb hrow
  generalize spots q = l at *
  have d28 : decide (l.length < n) = false := by simp; omega
  have d28' : decide ((l.length : Int) < (n : Int)) = false := by simp; omega
  go_wp2_with fail
  refine (C _ (by repeat (first | exact HR.out | refine Row.xt ?_ _ | refine Row.alloc ?_ _ | refine Row.drew ?_))).out.mono ?_
  rintro e W1 ⟨rfl, hb1⟩
  have hBW : Below w.heap.size w W1 := Below.next (by repeat' (first | exact Below.refl _ _ | assumption | refine Below.xt ?_ ?_ _ | refine Below.alloc ?_ ?_ _ | refine Below.drew ?_ | refine Below.setCell ?_ ?_ _ | (simp; done) | (simp; omega))) hb1 (by simp; omega)
  have HR1 := Lib.hid (show RowV W1 A pts from Row.below HR.out hBW)
  have HS1 := Lib.hid (show RowV W1 A' l from Row.below HS.out hb1)
  clear hb1 HR HS C HH
  rcases Nat.eq_zero_or_pos n with h0 | h0
  · subst h0
    go_wp2_with fail
    go_rounds 1
    go_ret2
    exact ⟨none, 0, rfl, hBW.alloc hBW.size _, Row.none_⟩
  obtain ⟨b, o, rfl, hb, hc⟩ := HR1.out.at_ (HN.out ▸ h0)
  have HC := Lib.hid hc
  clear hc HR1
  go_wp2_with fail
  go_loopw [9, 32] (fun s i wr => ∃ k : Nat, k ≤ n ∧ i = .int .i64 k ∧ Below W1.heap.size W1 wr ∧ Hid (Marks Try.prog 3 4 wr W1.heap.size k (tk (far l pts) l.length k)) ∧ Hid (wr.ownsRow (W1.heap.size + 1) 3 1 s k ((asgs l pts k).map (Value.int .i64)))) (fun _ i _ => n - (intOf i).toNat)
  case atStart => exact ⟨0, by omega, rfl, (Below.refl _ _).alloc (Nat.le_refl _) _, Lib.hid (Marks.made _), Lib.hid own_nil⟩
  case round =>
    obtain ⟨k, hk, rfl, hB, HM, HO⟩ := hrel
    by_cases hlt : k < n
    · obtain ⟨cx, cy, cz⟩ := RowV.cells HC.out (HN.out ▸ hlt)
      have hx := (hB.cell (p := ⟨b, o + k * 3, none⟩) hb).trans cx
      have hy := (hB.cell (p := ⟨b, o + k * 3 + 1, none⟩) hb).trans cy
      have hz := (hB.cell (p := ⟨b, o + k * 3 + 2, none⟩) hb).trans cz
      have hbr : old b wr := Nat.lt_of_lt_of_le hb hB.size
      clear cx cy cz
      have HV := Lib.hid (show pnt (at_ pts k) = true from HP.out k hlt)
      obtain ⟨j1, j2⟩ := asg_bd (F := far l pts) (n := l.length) (k := k) (by omega)
      have HE := Lib.hid (asgs_succ l pts k)
      have HT := Lib.hid (show tk (far l pts) l.length (k + 1) = fun j => if j = asg (far l pts) l.length k then true else tk (far l pts) l.length k j from rfl)
      have CN := fun w hr hM => Lib.hid (show Calls Try.prog 38 #[.slice A' l.length c', .map (some W1.heap.size), .agg #[.int .i64 (at_ pts k).x, .int .i64 (at_ pts k).y, .int .i64 (at_ pts k).z]] w (RetB (.int .i64 (asg (far l pts) l.length k)) w) from nearest_any l A' l.length c' (.map (some W1.heap.size)) (tk (far l pts) l.length k) (at_ pts k) w rfl (by omega) hr HPS.out HV.out hM)
      have hwr := hB.size
      have hlb := HM.out.lt
      clear hlb
      generalize asg (far l pts) l.length k = a at *
      generalize at_ pts k = p at *
      go_wp2_with fail
      refine (CN _ (Row.alloc (Row.below HS1.out hB) _) (looks_marks (HM.out.same (Below.heap_alloc _ _ _ HM.out.lt)))).out.mono ?_
      rintro e w2 ⟨rfl, hb2⟩
      have hlt2 : W1.heap.size < wr.heap.size := HM.out.lt
      have HM2 := Lib.hid (HM.out.same (w' := w2) ((hb2.block _ (by simp; omega)).trans (Below.heap_alloc _ _ _ hlt2)))
      have HO2 := Lib.hid (own_below (HO.out.alloc _) hb2)
      have hB2 : Below W1.heap.size W1 w2 := Below.next (hB.alloc hB.size _) hb2 (by simp; omega)
      clear HM HO hb2 hx hy hz hbr hlt2 CN
      have hn9 : ∀ x, (u9 : Value).ownBlock = some x → W1.heap.size + 1 ≤ x := fun x hx => (HO2.out.lt x hx).1
      have HN9 := Lib.hid hn9
      clear hn9
      go_wp2_with (first
        | (at_mapUpdate
           go_must (refine wpList_store_mark _ rfl _ _ _ 78 rfl 3 4 Try.underlying3 Try.underlying78 Try.underlying4 W1.heap.size k (tk (far l pts) l.length k) rfl HM2.out (by simp only [maxLen]; omega) a true rfl rfl (WalkArith.wf_i64 (by omega)) ?_)
           intro w3 hm3 hg3
           have hB3 : Below W1.heap.size W1 w3 := hB2.grown hg3 hB2.size (fun k hk => by injection hk with hk; omega)
           have HM3 := Lib.hid (show Marks Try.prog 3 4 w3 W1.heap.size (k + 1) (tk (far l pts) l.length (k + 1)) by rw [HT.out]; exact hm3)
           have HO3 := Lib.hid (HO2.out.kept hg3 (by
             rcases ho : (u9 : Value).ownBlock with _ | x
             · exact .inl rfl
             · right
               have := HN9.out x ho
               intro e; injection e with e; omega))
           have hs3 := hB3.size
           clear hm3 hg3 HM2 HO2 hB2)
        | (at_builtin; go_must (refine wpList_append_own _ rfl _ _ 43 rfl (W1.heap.size + 1) 3 i0 _ 1 8 Try.underlying43 hi0 hz0 hz1 hz2 rfl (by omega) u9 k ((asgs l pts k).map (Value.int .i64)) rfl (HO3.out.alloc _) _ 1 _ [.int .i64 a] rfl rfl ?_ ?_ ?_ ?_ ?_ ?_)))
      · exact cells_new _ _ _ _ (by simp)
      · intro u hu; simp only [List.mem_cons, List.not_mem_nil, or_false] at hu; rcases hu with rfl; rfl
      · simp only [maxLen]; omega
      · omega
      · have := HM3.out.lt; simp; omega
      intro v4 w4 hown4 hgr4 _
      have hne := HN9.out
      have hlt3 := HM3.out.lt
      have hB4 : Below W1.heap.size W1 w4 := (hB3.alloc hB3.size _).grown hgr4 (by simp; omega) (fun x hx => by have := hne x hx; omega)
      have HM4 := Lib.hid ((HM3.out.same (Below.heap_alloc _ _ _ hlt3)).kept hgr4 (fun e => by have := hne _ e.symm; omega))
      have HO4 := Lib.hid (show w4.ownsRow (W1.heap.size + 1) 3 1 v4 (k + 1) ((asgs l pts (k + 1)).map (Value.int .i64)) by rw [HE.out, List.map_append]; exact hown4)
      clear hown4 hgr4 HM3 HO3 hne hB3 hs3 hlt3
      go_wp2_with fail
      go_roundw
      case rel => exact ⟨k + 1, by omega, by go_num, hB4, HM4, HO4⟩
      case measure => simp [intOf]; omega
    · have e1 : k = n := by omega
      subst e1
      go_wp2_with fail
      obtain ⟨A2, c2, rfl, hrow⟩ := RowI.of_own (l := asgs l pts k) HO.out (asgs_len _ _ _).symm
      go_ret2
      exact ⟨_, _, rfl, Below.next hBW hB hBW.size, hrow⟩

end Go.Proofs.Ytoaakjkflcjkhaa

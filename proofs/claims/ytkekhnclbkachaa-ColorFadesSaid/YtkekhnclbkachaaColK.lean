/- Walks: the fades that there are and are not; the examples of the chapter on colours. Conditions stand in each theorem. -/
import Derived.Test.YtkekhnclbkachaaColF
import Derived.Test.YtkekhnclbkachaaColN
import Derived.Test.YtkekhnclbkachaaColJ
import Derived.Test.YtkekhnclbkachaaColA
import Derived.Deep.DeepCutAuto
import Derived.Stop.RegionWithIn
namespace Go.Proofs.Ytkekhnclbkachaa
open Go.RowKit Go.Shelf
attribute [local go_sem] Oper.semAt_some
set_option linter.unusedVariables false
set_option linter.unusedSimpArgs false

set_option maxHeartbeats 400000 in
theorem cc_any (r g b : Int) (w : World) : Calls Try.prog 32 #[.int .u8 r, .int .u8 g, .int .u8 b] w (RetB (.agg #[.int .u8 r, .int .u8 g, .int .u8 b]) w) := by
  go_enter Try.func32, Try.ntmps32
  go_wp2
  refine bodyPost_ret (v := .agg #[.int .u8 r, .int .u8 g, .int .u8 b]) (by simp [results, Try.results32, go_sem]) rfl ?_
  exact RetB.of rfl (by repeat' (first | exact Below.refl _ _ | assumption | refine Below.xt ?_ ?_ _ | refine Below.alloc ?_ ?_ _ | refine Below.drew ?_ | refine Below.setCell ?_ ?_ _ | (simp; done) | (simp; omega)))

/-- A fade's colours come one after the other. -/
theorem fade_stops (n n₀ Bs Ba Bb : Nat) (a b : Col) (steps : Nat) (ha : a.ok) (hb : b.ok) (h1 : 1 ≤ steps) (h2 : steps ≤ 1000) (w : World) (hn0 : n₀ ≤ w.heap.size) (ls : Bs < n₀) (la : Ba < n₀) (lb : Bb < n₀)
    (hBs : w.cell? ⟨Bs, 0, none⟩ = some (.int .i64 (steps : Int)))
    (a0 : w.cell? ⟨Ba, 0, none⟩ = some (.int .u8 a.r)) (a1 : w.cell? ⟨Ba, 1, none⟩ = some (.int .u8 a.g)) (a2 : w.cell? ⟨Ba, 2, none⟩ = some (.int .u8 a.b))
    (b0 : w.cell? ⟨Bb, 0, none⟩ = some (.int .u8 b.r)) (b1 : w.cell? ⟨Bb, 1, none⟩ = some (.int .u8 b.g)) (b2 : w.cell? ⟨Bb, 2, none⟩ = some (.int .u8 b.b)) :
    SeqStopsK Fence.wide n Try.prog 35 #[.pointer (some ⟨Bs, 0, none⟩), .pointer (some ⟨Ba, 0, none⟩), .pointer (some ⟨Bb, 0, none⟩)] (fadeEnc a b steps) (Below n₀) (fun xs => xs = List.range (steps + 1)) (fun pre => ∃ k, k ≤ steps + 1 ∧ pre = List.range k) (steps + 1) w := fun l J Jx W hW hJ _ hY h0 => by
  have hn1 : n₀ ≤ W.heap.size := Nat.le_trans hn0 hW.size
  exact Fade1_in n l n₀ Bs Ba Bb a b steps ha hb h1 h2 J Jx W hJ hY ((hW.cell (p := ⟨Bs, 0, none⟩) (Nat.lt_of_lt_of_le ls hn0)).trans hBs) ls la lb hn1
    ((hW.cell (p := ⟨Ba, 0, none⟩) (Nat.lt_of_lt_of_le la hn0)).trans a0) ((hW.cell (p := ⟨Ba, 1, none⟩) (Nat.lt_of_lt_of_le la hn0)).trans a1) ((hW.cell (p := ⟨Ba, 2, none⟩) (Nat.lt_of_lt_of_le la hn0)).trans a2)
    ((hW.cell (p := ⟨Bb, 0, none⟩) (Nat.lt_of_lt_of_le lb hn0)).trans b0) ((hW.cell (p := ⟨Bb, 1, none⟩) (Nat.lt_of_lt_of_le lb hn0)).trans b1) ((hW.cell (p := ⟨Bb, 2, none⟩) (Nat.lt_of_lt_of_le lb hn0)).trans b2) h0

def cOr : Col := ⟨255, 100, 0⟩
theorem cOr_ok : cOr.ok := by unfold Col.ok U8 cOr; simp
theorem kMix1 (w : World) : Calls Try.prog 13 #[.agg #[.int .u8 0, .int .u8 0, .int .u8 0], .agg #[.int .u8 255, .int .u8 100, .int .u8 0], .int .i64 1, .int .i64 2] w (RetB (.tuple #[.agg #[.int .u8 128, .int .u8 50, .int .u8 0], .int .i64 0]) w) := Mix_any black cOr 1 2 w black_ok cOr_ok
theorem kMix2 (w : World) : Calls Try.prog 13 #[.agg #[.int .u8 255, .int .u8 100, .int .u8 0], .agg #[.int .u8 0, .int .u8 0, .int .u8 0], .int .i64 1, .int .i64 2] w (RetB (.tuple #[.agg #[.int .u8 128, .int .u8 50, .int .u8 0], .int .i64 0]) w) := Mix_any cOr black 1 2 w cOr_ok black_ok
theorem kMix3 (w : World) : Calls Try.prog 13 #[.agg #[.int .u8 0, .int .u8 0, .int .u8 0], .agg #[.int .u8 255, .int .u8 100, .int .u8 0], .int .i64 1, .int .i64 0] w (RetB (.tuple #[.agg #[.int .u8 0, .int .u8 0, .int .u8 0], .int .i64 2]) w) := Mix_any black cOr 1 0 w black_ok cOr_ok
theorem kMix4 (w : World) : Calls Try.prog 13 #[.agg #[.int .u8 0, .int .u8 0, .int .u8 0], .agg #[.int .u8 255, .int .u8 100, .int .u8 0], .int .i64 3, .int .i64 2] w (RetB (.tuple #[.agg #[.int .u8 0, .int .u8 0, .int .u8 0], .int .i64 2]) w) := Mix_any black cOr 3 2 w black_ok cOr_ok
theorem kDim (w : World) : Calls Try.prog 15 #[.agg #[.int .u8 255, .int .u8 100, .int .u8 0], .int .i64 1, .int .i64 3] w (RetB (.tuple #[.agg #[.int .u8 85, .int .u8 33, .int .u8 0], .int .i64 0]) w) := Dim_any cOr 1 3 w cOr_ok

theorem func_nil (lb : Array Value) (w : World) : (binOp BinOp.eql 34 (.func (.func 35) #[] lb) Value.nilFunc).run Try.prog w = .ok (.bool false) w := by kernel_rfl
theorem range_last {pre : List Nat} {x : Nat} (h : pre ++ [x] = List.range (pre ++ [x]).length) : x = pre.length := by
  have h1 : (pre ++ [x])[pre.length]? = some x := by simp
  rw [h] at h1
  simp only [List.length_append, List.length_cons, List.length_nil, Nat.zero_add] at h1
  rw [List.getElem?_range (by omega)] at h1
  exact (Option.some.inj h1).symm
/-- The loop's block for deferred calls, with none. -/
def DefAt (W : World) (D : Nat) : Prop := W.heap[D]? = some (.deferred (some []))
theorem DefAt.lt {W : World} {D : Nat} (h : DefAt W D) : D < W.heap.size := (Array.getElem?_eq_some_iff.1 h).1
theorem DefAt.xt {W : World} {D : Nat} (h : DefAt W D) (g : Gr) : DefAt (xt W g) D := (xt_block W g D h.lt).trans h
theorem DefAt.alloc {W : World} {D : Nat} (h : DefAt W D) (o : Obj) : DefAt (W.alloc o) D := (Below.heap_alloc W o D h.lt).trans h
theorem DefAt.set {W : World} {D : Nat} (h : DefAt W D) (a : Addr) (v : Value) (hne : D ≠ a.block) : DefAt (W.setCell a v) D := (heap_setCell_other W a D v hne).trans h
theorem putObj_cell (W : World) (D : Nat) (o : Obj) (b j : Nat) (hne : D ≠ b) : (W.putObj D o).cell? ⟨b, j, none⟩ = W.cell? ⟨b, j, none⟩ := by
  have h := (grownBy_putObj' W D o).block b
  rcases Nat.lt_or_ge b W.heap.size with hlt | hge
  · exact World.cell?_of_block (h hlt (by simp; omega))
  · have h1 : W.heap[b]? = none := Array.getElem?_eq_none hge
    have h2 : (W.putObj D o).heap[b]? = none := Array.getElem?_eq_none (by rw [← (show (W.putObj D o).heap.size = W.heap.size by simp [World.putObj])] at hge; exact hge)
    simp [World.cell?, h1, h2]
/-- A colour in a block of its own. -/
def ColAt (W : World) (b : Nat) (r g bl : Int) : Prop := old b W ∧ W.cell? ⟨b, 0, none⟩ = some (.int .u8 r) ∧ W.cell? ⟨b, 1, none⟩ = some (.int .u8 g) ∧ W.cell? ⟨b, 2, none⟩ = some (.int .u8 bl)
def KA (w : World) (s0 s1 s2 s3 s5 s7 : Value) (W : World) : Prop := ∃ b1 b2 b3 b5 b7 : Nat, s0 = .pointer (some ⟨w.heap.size, 0, none⟩) ∧ s1 = .pointer (some ⟨b1, 0, none⟩) ∧ s2 = .pointer (some ⟨b2, 0, none⟩) ∧ s3 = .pointer (some ⟨b3, 0, none⟩) ∧ s5 = .pointer (some ⟨b5, 0, none⟩) ∧ s7 = .pointer (some ⟨b7, 0, none⟩) ∧
  Below w.heap.size w W ∧ (old w.heap.size W ∧ W.cell? ⟨w.heap.size, 0, none⟩ = some (.bool false) ∧ W.frozen? ⟨w.heap.size, 0, none⟩ = false) ∧ (w.heap.size < b1 ∧ w.heap.size < b2) ∧ ColAt W b1 0 0 0 ∧ ColAt W b2 255 100 0 ∧ ColAt W b3 128 50 0 ∧ ColAt W b5 128 50 0 ∧ ColAt W b7 85 33 0

set_option maxRecDepth 100000 in
set_option maxHeartbeats 6400000 in
theorem known_any (w : World) : Calls Try.prog 10 #[] w (RetB (.bool true) w) := by
  refine (callsIn_wide (n := 5)).1 (callsIn_of_wp_marks Try.func10 rfl trivial (wpIn_wide.2 ?_) rfl)
  simp only [Try.ntmps10, List.size_toArray, List.length_cons, List.length_nil, Nat.reduceAdd, Nat.reduceSub, Array.replicate_succ, Array.replicate_zero, List.push_toArray, List.append_toArray, List.nil_append, List.cons_append]
  go_upto_region 6 with (first | (go_at_call 32; refine (RetB.grown (cc_any _ _ _ _)).mono ?_; rintro e' w' ⟨rfl, g, rfl⟩) | (go_at_call 13; (with_reducible refine (RetB.grown (kMix1 _)).mono ?_); rintro e' w' ⟨rfl, g, rfl⟩) | (go_at_call 13; (with_reducible refine (RetB.grown (kMix2 _)).mono ?_); rintro e' w' ⟨rfl, g, rfl⟩) | (go_at_call 13; (with_reducible refine (RetB.grown (kMix3 _)).mono ?_); rintro e' w' ⟨rfl, g, rfl⟩) | (go_at_call 13; (with_reducible refine (RetB.grown (kMix4 _)).mono ?_); rintro e' w' ⟨rfl, g, rfl⟩) | (go_at_call 15; refine (RetB.grown (kDim _)).mono ?_; rintro e' w' ⟨rfl, g, rfl⟩))
  go_cut [0, 1, 2, 3, 4, 5, 6, 7, 8, 10, 11, 12] from 22 to 191 (fun s0 s1 s2 s3 s4 s5 s6 s7 s8 s10 s11 s12 wx => KA w s0 s1 s2 s3 s5 s7 wx ∧ s4 = .int .i64 0 ∧ s6 = .int .i64 0 ∧ s8 = .int .i64 0 ∧ s10 = .int .i64 2 ∧ s12 = .int .i64 2)
  case first =>
    go_wp2_with (first | (go_at_call 13; (with_reducible refine (RetB.grown (kMix4 _)).mono ?_); rintro e' w' ⟨rfl, g, rfl⟩))
    go_meet
    refine ⟨⟨_, _, _, _, _, rfl, rfl, rfl, rfl, rfl, rfl, (by repeat' (first | exact Below.refl _ _ | assumption | refine Below.xt ?_ ?_ _ | refine Below.alloc ?_ ?_ _ | refine Below.drew ?_ | refine Below.setCell ?_ ?_ _ | (simp; done) | (simp; omega))), ?_, ?_, ?_, ?_, ?_, ?_, ?_⟩, rfl, rfl, rfl, rfl, rfl⟩
    · exact ⟨by unfold old; simp; omega, by go_simp, by go_simp⟩
    · exact ⟨by omega, by omega⟩
    all_goals exact ⟨by unfold old; simp <;> omega, by go_simp, by go_simp, by go_simp⟩
  case rest =>
    obtain ⟨⟨b1, b2, b3, b5, b7, rfl, rfl, rfl, rfl, rfl, rfl, hB, ⟨ho, h0, hz⟩, ⟨l1, l2⟩, ⟨o1, x1, y1, z1⟩, ⟨o2, x2, y2, z2⟩, ⟨o3, x3, y3, z3⟩, ⟨o5, x5, y5, z5⟩, ⟨o7, x7, y7, z7⟩⟩, rfl, rfl, rfl, rfl, rfl⟩ := hcut
    go_wp2_with (first
      | (go_at_call 32; refine (RetB.grown (cc_any _ _ _ _)).mono ?_; rintro e' w' ⟨rfl, g, rfl⟩)
      | (refine wp_region_xt (by kernel_rfl) (by kernel_rfl) ?_; (repeat (go_big_quiet_step (first | (go_at_call 32; exact RetB.quiet (cc_any _ _ _ _))))); refine wpQuiet_nil ?_; intro g))
    have hnf := func_nil
    revert g
    intro ga
    refine wp_region_xt_tail 2 (by kernel_rfl) (by kernel_rfl) ?_
    simp only [List.take_succ_cons, List.take_zero, List.drop_succ_cons, List.drop_zero]
    repeat (go_big_quiet_step (first | (go_at_call 32; exact RetB.quiet (cc_any _ _ _ _))))
    refine wpQuiet_nil ?_
    intro g
    go_wp2_with (go_at_call 16; refine (Fade_any ⟨0, 0, 0⟩ ⟨10, 0, 3⟩ 2 _).mono ?_; rintro e w' ⟨rfl, rfl⟩)
    obtain ⟨M, hM⟩ : ∃ M, xt (xt wc ga) g = M := ⟨_, rfl⟩
    have hsz : wc.heap.size + ga.blocks.length + g.blocks.length = M.heap.size := by rw [← hM]; simp
    have HBM := Lib.hid (show Below wc.heap.size wc M from by rw [← hM]; exact (by repeat' (first | exact Below.refl _ _ | assumption | refine Below.xt ?_ ?_ _ | refine Below.alloc ?_ ?_ _ | refine Below.drew ?_ | refine Below.setCell ?_ ?_ _ | (simp; done) | (simp; omega))))
    rw [hM, hsz]
    clear hM hsz hnf
    have hs0 : (((((M.alloc (.cells #[.int .u8 0, .int .u8 0, .int .u8 0] 25)).alloc (.cells #[.int .u8 10, .int .u8 0, .int .u8 3] 25)).alloc (.cells #[.int .i64 2] 3)).alloc (.cells #[.int .i64 0] 3))).heap.size = M.heap.size + 4 := by simp
    have HBn := Lib.hid (show Blk ((((M.alloc (.cells #[.int .u8 0, .int .u8 0, .int .u8 0] 25)).alloc (.cells #[.int .u8 10, .int .u8 0, .int .u8 3] 25)).alloc (.cells #[.int .i64 2] 3)).alloc (.cells #[.int .i64 0] 3)) (M.heap.size + 1 + 1 + 1) #[.int .i64 0] 3 from Blk.new _ _ _ (by simp))
    have HB0 := Lib.hid (show Below M.heap.size M ((((M.alloc (.cells #[.int .u8 0, .int .u8 0, .int .u8 0] 25)).alloc (.cells #[.int .u8 10, .int .u8 0, .int .u8 3] 25)).alloc (.cells #[.int .i64 2] 3)).alloc (.cells #[.int .i64 0] 3)) from (by repeat' (first | exact Below.refl _ _ | assumption | refine Below.xt ?_ ?_ _ | refine Below.alloc ?_ ?_ _ | refine Below.drew ?_ | refine Below.setCell ?_ ?_ _ | (simp; done) | (simp; omega))))
    have HC := Lib.hid (show (((((M.alloc (.cells #[.int .u8 0, .int .u8 0, .int .u8 0] 25)).alloc (.cells #[.int .u8 10, .int .u8 0, .int .u8 3] 25)).alloc (.cells #[.int .i64 2] 3)).alloc (.cells #[.int .i64 0] 3))).cell? ⟨M.heap.size + 1 + 1, 0, none⟩ = some (.int .i64 2) ∧ ColAt ((((M.alloc (.cells #[.int .u8 0, .int .u8 0, .int .u8 0] 25)).alloc (.cells #[.int .u8 10, .int .u8 0, .int .u8 3] 25)).alloc (.cells #[.int .i64 2] 3)).alloc (.cells #[.int .i64 0] 3)) M.heap.size 0 0 0 ∧ ColAt ((((M.alloc (.cells #[.int .u8 0, .int .u8 0, .int .u8 0] 25)).alloc (.cells #[.int .u8 10, .int .u8 0, .int .u8 3] 25)).alloc (.cells #[.int .i64 2] 3)).alloc (.cells #[.int .i64 0] 3)) (M.heap.size + 1) 10 0 3 from ⟨by go_simp, ⟨by unfold old; simp; omega, by go_simp, by go_simp, by go_simp⟩, ⟨by unfold old; simp, by go_simp, by go_simp, by go_simp⟩⟩)
    obtain ⟨W0, hW0⟩ : ∃ W0, ((((M.alloc (.cells #[.int .u8 0, .int .u8 0, .int .u8 0] 25)).alloc (.cells #[.int .u8 10, .int .u8 0, .int .u8 3] 25)).alloc (.cells #[.int .i64 2] 3)).alloc (.cells #[.int .i64 0] 3)) = W0 := ⟨_, rfl⟩
    rw [hW0] at hs0 HBn HB0 HC ⊢
    clear hW0
    refine wp_rangeH 5 (by omega) (gf := 35) (lb := #[.pointer (some ⟨M.heap.size + 1 + 1, 0, none⟩), .pointer (some ⟨M.heap.size, 0, none⟩), .pointer (some ⟨M.heap.size + 1, 0, none⟩)]) rfl (enters_of Try.func35 (by kernel_rfl) rfl)
      (fade_stops 4 (M.heap.size + 1 + 1 + 1) (M.heap.size + 1 + 1) M.heap.size (M.heap.size + 1) ⟨0, 0, 0⟩ ⟨10, 0, 3⟩ 2 (by unfold Col.ok U8; simp) (by unfold Col.ok U8; simp) (by omega) (by omega) _ (by omega) (by omega) (by omega) (by omega) HC.out.1 HC.out.2.1.2.1 HC.out.2.1.2.2.1 HC.out.2.1.2.2.2 HC.out.2.2.2.1 HC.out.2.2.2.2.1 HC.out.2.2.2.2.2)
      (by omega) (fun _ => rfl)
      (fun pre W => pre = List.range pre.length ∧ Blk W (M.heap.size + 1 + 1 + 1) #[.int .i64 (pre.length : Int)] 3 ∧ Below (M.heap.size + 1 + 1 + 1) W0 W)
      (fun _ pre _ => pre ≠ List.range pre.length) ?hI (fun c s A B row h _ _ => h) ?h0
      (fun x m W => M.heap.size + 1 + 1 + 1 < m ∧ Blk W m #[.int .u8 (mixCol ⟨0, 0, 0⟩ ⟨10, 0, 3⟩ (x : Int) 2).r, .int .u8 (mixCol ⟨0, 0, 0⟩ ⟨10, 0, 3⟩ (x : Int) 2).g, .int .u8 (mixCol ⟨0, 0, 0⟩ ⟨10, 0, 3⟩ (x : Int) 2).b] 25) ?hBx
      (fun x m T => (T.setIfInBounds 15 (.int .i64 (x : Int))).setIfInBounds 16 (.pointer (some ⟨m, 0, none⟩))) ?assign ?body ?done ?stop
    case hI =>
      rintro s A B row ⟨h1, h2, h3⟩ hg hr
      refine ⟨h1, h2.kept hg (fun e => ?_), h3.grown hg (by have := h2.lt; omega) (fun k e => ?_)⟩
      · have := (hr _ e.symm).1; omega
      · have := (hr k e).1; omega
    case h0 => exact ⟨rfl, HBn.out, Below.refl _ _⟩
    case hBx =>
      rintro x m s A B row ⟨h1, h2⟩ hg hr
      refine ⟨h1, h2.kept hg (fun e => ?_)⟩
      obtain ⟨o, ho, hc⟩ := (hr m e.symm).2
      rw [h2] at ho
      injection ho with ho
      subst ho
      cases hc
    case assign =>
      rintro l pre x W K ⟨hI1, hI2, hI3⟩ hK
      simp only [fadeEnc, List.zip_toArray, List.zip_cons_cons, List.zip_nil_right, List.foldl_toArray, List.foldl_cons, List.foldl_nil, List.setIfInBounds_toArray, List.set_cons_succ, List.set_cons_zero] at hK ⊢
      have HK := Lib.hid hK
      clear hK
      gi_wp2
      have hlt := hI2.lt
      exact HK.out W.heap.size _ ((KeepsOthers.alloc _ _).from _) ((Below.refl _ W).alloc (by omega) _) ⟨hI1, hI2.alloc _, hI3.alloc (by omega) _⟩ ⟨by omega, Blk.new _ _ _ rfl⟩
    case body =>
      rintro l pre x m W hl ⟨hI1, hI2, hI3⟩ ⟨hm, hx⟩ hN
      simp only [fadeEnc, List.zip_toArray, List.zip_cons_cons, List.zip_nil_right, List.foldl_toArray, List.foldl_cons, List.foldl_nil, List.setIfInBounds_toArray, List.set_cons_succ, List.set_cons_zero]
      have HL := Lib.hid hI1
      have HB3 := Lib.hid hI3
      have cn := hI2.cell (j := 0) rfl
      have cf := hI2.frozen (j := 0)
      have m0 := hx.cell (j := 0) rfl
      have m1 := hx.cell (j := 1) rfl
      have m2 := hx.cell (j := 2) rfl
      clear hI1
      have hlw : M.heap.size + 4 ≤ W.heap.size := by have := hI2.lt; omega
      have HR := Lib.hid (show ∀ b j, b < wc.heap.size → W.cell? ⟨b, j, none⟩ = wc.cell? ⟨b, j, none⟩ ∧ W.frozen? ⟨b, j, none⟩ = wc.frozen? ⟨b, j, none⟩ from fun b j hb => by
        have h1 : b < M.heap.size := Nat.lt_of_lt_of_le hb HBM.out.size
        exact ⟨(hI3.cell (p := ⟨b, j, none⟩) (by show b < _; omega)).trans ((HB0.out.cell (p := ⟨b, j, none⟩) h1).trans (HBM.out.cell (p := ⟨b, j, none⟩) hb)), (hI3.frozen (p := ⟨b, j, none⟩) (by show b < _; omega)).trans ((HB0.out.frozen (p := ⟨b, j, none⟩) h1).trans (HBM.out.frozen (p := ⟨b, j, none⟩) hb))⟩)
      have hMw : wc.heap.size ≤ M.heap.size := HBM.out.size
      have r0 : W.cell? ⟨w.heap.size, 0, none⟩ = some (.bool false) := (HR.out _ 0 ho).1.trans h0
      have r1 : W.frozen? ⟨w.heap.size, 0, none⟩ = false := (HR.out _ 0 ho).2.trans hz
      have ro : old w.heap.size W := by have h1 : w.heap.size < wc.heap.size := ho; show w.heap.size < W.heap.size; omega
      have on_ : old (M.heap.size + 1 + 1 + 1) W := hI2.lt
      have om : old m W := hx.lt
      have HXB := Lib.hid hx
      have HIB := Lib.hid hI2
      clear hx hI2 hI3
      by_cases hxe : x = pre.length
      · have q0 : W.cell? ⟨b1, 0, none⟩ = some (.int .u8 0) := (HR.out _ 0 o1).1.trans x1
        have q1 : W.cell? ⟨b1, 1, none⟩ = some (.int .u8 0) := (HR.out _ 1 o1).1.trans y1
        have q2 : W.cell? ⟨b1, 2, none⟩ = some (.int .u8 0) := (HR.out _ 2 o1).1.trans z1
        have ob : old b1 W := by have h1 : b1 < wc.heap.size := o1; show b1 < W.heap.size; omega
        have hx3 : (x : Int) = 0 ∨ (x : Int) = 1 ∨ (x : Int) = 2 := by omega
        have e1 : ((x : Int) != (pre.length : Int)) = false := by simp; omega
        have HE := Lib.hid hxe
        clear hxe
        generalize hX : (x : Int) = X at *
        have HX := Lib.hid hX
        clear hX
        rcases hx3 with rfl | rfl | rfl
        · simp only [show mixCol ⟨0, 0, 0⟩ ⟨10, 0, 3⟩ 0 2 = ⟨0, 0, 0⟩ from rfl] at m0 m1 m2
          gi_wp2
          refine wpIn_region_Q (fun _ w' => ∃ g : Gr, w' = xt W g) (by kernel_rfl) (by kernel_rfl) (fun hcl => ?_)
          have hS : ∃ g : Gr, { W with drawn := W.drawn + 1 } = xt W g := ⟨⟨[], W.drawn + 1⟩, by simp [xt]⟩
          change wpAnyL _ _ _ _ _ 18 (Array.replicate 18 false) _ _
          refine wpAnyL_takeD 0 (some 94) (.int .i64 (0)) (fun w' => ∃ g : Gr, w' = xt W g) rfl rfl (by kernel_rfl) (by kernel_rfl) (by kernel_rfl) (fun _ _ _ h => absurd h.1 (fun h => nomatch h)) (fun _ _ => Iff.rfl) hcl hS (fun _ _ _ _ h => h) (.inl ⟨by first | rfl | go_simp, fun w' hSi => ?_⟩) (fun hcl' hS' => ?_)
          · obtain ⟨g, rfl⟩ := hSi; go_simp
          clear hcl hS
          have hcl := hcl'; have hS := hS'; clear hcl' hS'
          simp only [Act.put, List.setIfInBounds_toArray, List.set_cons_zero, List.set_cons_succ]
          refine wpAnyL_takeD 1 (some 95) (.int .i64 (pre.length : Int)) (fun w' => ∃ g : Gr, w' = xt W g) rfl rfl (by kernel_rfl) (by kernel_rfl) (by kernel_rfl) (fun _ _ _ h => absurd h.1 (fun h => nomatch h)) (fun _ _ => Iff.rfl) hcl hS (fun _ _ _ _ h => h) (.inl ⟨by first | rfl | go_simp, fun w' hSi => ?_⟩) (fun hcl' hS' => ?_)
          · obtain ⟨g, rfl⟩ := hSi; go_simp
          clear hcl hS
          have hcl := hcl'; have hS := hS'; clear hcl' hS'
          simp only [Act.put, List.setIfInBounds_toArray, List.set_cons_zero, List.set_cons_succ]
          refine wpAnyL_takeD 2 (some 96) (.bool false) (fun w' => ∃ g : Gr, w' = xt W g) rfl rfl (by kernel_rfl) (by kernel_rfl) (by kernel_rfl) (fun _ _ _ h => absurd h.1 (fun h => nomatch h)) (fun _ _ => Iff.rfl) hcl hS (fun _ _ _ _ h => h) (.inl ⟨by first | rfl | go_simp, fun w' hSi => ?_⟩) (fun hcl' hS' => ?_)
          · obtain ⟨g, rfl⟩ := hSi; go_simp
          clear hcl hS
          have hcl := hcl'; have hS := hS'; clear hcl' hS'
          simp only [Act.put, List.setIfInBounds_toArray, List.set_cons_zero, List.set_cons_succ]
          refine wpAnyL_takeD 3 (some 97) (.bool false) (fun w' => ∃ g : Gr, w' = xt W g) rfl rfl (by kernel_rfl) (by kernel_rfl) (by kernel_rfl) (fun _ _ _ h => absurd h.1 (fun h => nomatch h)) (fun _ _ => Iff.rfl) hcl hS (fun _ _ _ _ h => h) (.inl ⟨by first | rfl | go_simp, fun w' hSi => ?_⟩) (fun hcl' hS' => ?_)
          · obtain ⟨g, rfl⟩ := hSi; go_simp
          clear hcl hS
          have hcl := hcl'; have hS := hS'; clear hcl' hS'
          simp only [Act.put, List.setIfInBounds_toArray, List.set_cons_zero, List.set_cons_succ]
          refine wpAnyL_takeD 4 (some 98) (.int .i64 (0)) (fun w' => ∃ g : Gr, w' = xt W g) rfl rfl (by kernel_rfl) (by kernel_rfl) (by kernel_rfl) (fun _ _ _ h => absurd h.1 (fun h => nomatch h)) (fun _ _ => Iff.rfl) hcl hS (fun _ _ _ _ h => h) (.inl ⟨by first | rfl | go_simp, fun w' hSi => ?_⟩) (fun hcl' hS' => ?_)
          · obtain ⟨g, rfl⟩ := hSi; go_simp
          clear hcl hS
          have hcl := hcl'; have hS := hS'; clear hcl' hS'
          simp only [Act.put, List.setIfInBounds_toArray, List.set_cons_zero, List.set_cons_succ]
          refine wpAnyL_takeD 5 (some 99) (.bool false) (fun w' => ∃ g : Gr, w' = xt W g) rfl rfl (by kernel_rfl) (by kernel_rfl) (by kernel_rfl) (fun _ _ _ h => absurd h.1 (fun h => nomatch h)) (fun _ _ => Iff.rfl) hcl hS (fun _ _ _ _ h => h) (.inl ⟨by first | rfl | go_simp, fun w' hSi => ?_⟩) (fun hcl' hS' => ?_)
          · obtain ⟨g, rfl⟩ := hSi; go_simp
          clear hcl hS
          have hcl := hcl'; have hS := hS'; clear hcl' hS'
          simp only [Act.put, List.setIfInBounds_toArray, List.set_cons_zero, List.set_cons_succ]
          refine wpAnyL_takeD 6 (some 100) (.bool false) (fun w' => ∃ g : Gr, w' = xt W g) rfl rfl (by kernel_rfl) (by kernel_rfl) (by kernel_rfl) (fun _ _ _ h => absurd h.1 (fun h => nomatch h)) (fun _ _ => Iff.rfl) hcl hS (fun _ _ _ _ h => h) (.inl ⟨by first | rfl | go_simp, fun w' hSi => ?_⟩) (fun hcl' hS' => ?_)
          · obtain ⟨g, rfl⟩ := hSi; go_simp
          clear hcl hS
          have hcl := hcl'; have hS := hS'; clear hcl' hS'
          simp only [Act.put, List.setIfInBounds_toArray, List.set_cons_zero, List.set_cons_succ]
          refine wpAnyL_takeD 7 (some 101) (.bool false) (fun w' => ∃ g : Gr, w' = xt W g) rfl rfl (by kernel_rfl) (by kernel_rfl) (by kernel_rfl) (fun _ _ _ h => absurd h.1 (fun h => nomatch h)) (fun _ _ => Iff.rfl) hcl hS (fun _ _ _ _ h => h) (.inl ⟨by first | rfl | go_simp, fun w' hSi => ?_⟩) (fun hcl' hS' => ?_)
          · obtain ⟨g, rfl⟩ := hSi; go_simp
          clear hcl hS
          have hcl := hcl'; have hS := hS'; clear hcl' hS'
          simp only [Act.put, List.setIfInBounds_toArray, List.set_cons_zero, List.set_cons_succ]
          refine wpAnyL_takeD 8 (some 102) (.agg #[.int .u8 0, .int .u8 0, .int .u8 0]) (fun w' => ∃ g : Gr, w' = xt W g) rfl rfl (by kernel_rfl) (by kernel_rfl) (by kernel_rfl) (fun _ _ _ h => absurd h.1 (fun h => nomatch h)) (fun _ _ => Iff.rfl) hcl hS (fun _ _ _ _ h => h) (.inl ⟨by first | rfl | go_simp, fun w' hSi => ?_⟩) (fun hcl' hS' => ?_)
          · obtain ⟨g, rfl⟩ := hSi; go_simp
          clear hcl hS
          have hcl := hcl'; have hS := hS'; clear hcl' hS'
          simp only [Act.put, List.setIfInBounds_toArray, List.set_cons_zero, List.set_cons_succ]
          refine wpAnyL_takeD 9 (some 103) (.agg #[.int .u8 0, .int .u8 0, .int .u8 0]) (fun w' => ∃ g : Gr, w' = xt W g) rfl rfl (by kernel_rfl) (by kernel_rfl) (by kernel_rfl) (fun _ _ _ h => absurd h.1 (fun h => nomatch h)) (fun _ _ => Iff.rfl) hcl hS (fun _ _ _ _ h => h) (.inl ⟨by first | rfl | go_simp, fun w' hSi => ?_⟩) (fun hcl' hS' => ?_)
          · obtain ⟨g, rfl⟩ := hSi; go_simp
          clear hcl hS
          have hcl := hcl'; have hS := hS'; clear hcl' hS'
          simp only [Act.put, List.setIfInBounds_toArray, List.set_cons_zero, List.set_cons_succ]
          refine wpAnyL_takeD 13 (some 107) (.int .i64 (0)) (fun w' => ∃ g : Gr, w' = xt W g) rfl rfl (by kernel_rfl) (by kernel_rfl) (by kernel_rfl) (fun _ _ _ h => absurd h.1 (fun h => nomatch h)) (fun _ _ => Iff.rfl) hcl hS (fun _ _ _ _ h => h) (.inl ⟨by first | rfl | go_simp, fun w' hSi => ?_⟩) (fun hcl' hS' => ?_)
          · obtain ⟨g, rfl⟩ := hSi; go_simp
          clear hcl hS
          have hcl := hcl'; have hS := hS'; clear hcl' hS'
          simp only [Act.put, List.setIfInBounds_toArray, List.set_cons_zero, List.set_cons_succ]
          refine wpAnyL_one 10 (by kernel_rfl) hcl ?_
          refine wpOp_call (some 104) rfl rfl (by first | rfl | go_simp) (f := 32) (args := #[.int .u8 5, .int .u8 0, .int .u8 2]) (by go_simp) (cc_any _ _ _ _) (fun g10 => ⟨?_, fun hcl' hS' => ?_⟩)
          · obtain ⟨g, hg⟩ := hS; exact ⟨_, by rw [hg]; exact xt_xt _ _ _⟩
          clear hcl hS
          have hcl := hcl'; have hS := hS'; clear hcl' hS'
          simp only [Act.put, List.setIfInBounds_toArray, List.set_cons_zero, List.set_cons_succ]
          refine wpAnyL_one 11 (by kernel_rfl) hcl ?_
          refine wpOp_call (some 105) rfl rfl (by first | rfl | go_simp) (f := 32) (args := #[.int .u8 10, .int .u8 0, .int .u8 3]) (by go_simp) (cc_any _ _ _ _) (fun g11 => ⟨?_, fun hcl' hS' => ?_⟩)
          · obtain ⟨g, hg⟩ := hS; exact ⟨_, by rw [hg]; exact xt_xt _ _ _⟩
          clear hcl hS
          have hcl := hcl'; have hS := hS'; clear hcl' hS'
          simp only [Act.put, List.setIfInBounds_toArray, List.set_cons_zero, List.set_cons_succ]
          obtain ⟨g, hg⟩ := hS
          have HG := Lib.hid hg
          generalize xt (xt { W with drawn := W.drawn + 1 } g10) g11 = Wz at *
          obtain rfl : Wz = xt W g := HG.out
          refine wpAnyL_one 12 (by kernel_rfl) hcl ?_
          refine wpOp_value (w' := (xt W g).alloc (.cells #[.int .u8 0, .int .u8 0, .int .u8 0, .int .u8 5, .int .u8 0, .int .u8 2, .int .u8 10, .int .u8 0, .int .u8 3] 25)) (v := .slice (some ⟨W.heap.size + g.blocks.length, 0, none⟩) 3 3) (some 106) rfl rfl (by first | rfl | go_simp) (by go_simp) ⟨xt_of_below (by repeat' (first | exact Below.refl _ _ | assumption | refine Below.xt ?_ ?_ _ | refine Below.alloc ?_ ?_ _ | refine Below.drew ?_ | refine Below.setCell ?_ ?_ _ | (simp; done) | (simp; omega))), fun hcl' hS' => ?_⟩
          clear hcl
          have hcl := hcl'; have hS := hS'; clear hcl' hS'
          simp only [Act.put, List.setIfInBounds_toArray, List.set_cons_zero, List.set_cons_succ]
          refine wpAnyL_one 14 (by kernel_rfl) hcl ?_
          refine wpOp_value (w' := (xt W g).alloc (.cells #[.int .u8 0, .int .u8 0, .int .u8 0, .int .u8 5, .int .u8 0, .int .u8 2, .int .u8 10, .int .u8 0, .int .u8 3] 25)) (v := .pointer (some ⟨W.heap.size + g.blocks.length, 0, none⟩)) (some 108) rfl rfl (by first | rfl | go_simp) (by go_simp) ⟨xt_of_below (by repeat' (first | exact Below.refl _ _ | assumption | refine Below.xt ?_ ?_ _ | refine Below.alloc ?_ ?_ _ | refine Below.drew ?_ | refine Below.setCell ?_ ?_ _ | (simp; done) | (simp; omega))), fun hcl' hS' => ?_⟩
          clear hcl hS
          have hcl := hcl'; have hS := hS'; clear hcl' hS'
          simp only [Act.put, List.setIfInBounds_toArray, List.set_cons_zero, List.set_cons_succ]
          refine wpAnyL_one 15 (by kernel_rfl) hcl ?_
          refine wpOp_value (w' := (xt W g).alloc (.cells #[.int .u8 0, .int .u8 0, .int .u8 0, .int .u8 5, .int .u8 0, .int .u8 2, .int .u8 10, .int .u8 0, .int .u8 3] 25)) (v := .agg #[.int .u8 0, .int .u8 0, .int .u8 0]) (some 109) rfl rfl (by first | rfl | go_simp) (by go_simp) ⟨xt_of_below (by repeat' (first | exact Below.refl _ _ | assumption | refine Below.xt ?_ ?_ _ | refine Below.alloc ?_ ?_ _ | refine Below.drew ?_ | refine Below.setCell ?_ ?_ _ | (simp; done) | (simp; omega))), fun hcl' hS' => ?_⟩
          clear hcl hS
          have hcl := hcl'; have hS := hS'; clear hcl' hS'
          simp only [Act.put, List.setIfInBounds_toArray, List.set_cons_zero, List.set_cons_succ]
          refine wpAnyL_one 16 (by kernel_rfl) hcl ?_
          refine wpOp_value (w' := (xt W g).alloc (.cells #[.int .u8 0, .int .u8 0, .int .u8 0, .int .u8 5, .int .u8 0, .int .u8 2, .int .u8 10, .int .u8 0, .int .u8 3] 25)) (v := .bool false) (some 110) rfl rfl (by first | rfl | go_simp) (by go_simp) ⟨xt_of_below (by repeat' (first | exact Below.refl _ _ | assumption | refine Below.xt ?_ ?_ _ | refine Below.alloc ?_ ?_ _ | refine Below.drew ?_ | refine Below.setCell ?_ ?_ _ | (simp; done) | (simp; omega))), fun hcl' hS' => ?_⟩
          clear hcl hS
          have hcl := hcl'; have hS := hS'; clear hcl' hS'
          simp only [Act.put, List.setIfInBounds_toArray, List.set_cons_zero, List.set_cons_succ]
          refine wpAnyL_one 17 (by kernel_rfl) hcl ?_
          refine wpOp_value (w' := (xt W g).alloc (.cells #[.int .u8 0, .int .u8 0, .int .u8 0, .int .u8 5, .int .u8 0, .int .u8 2, .int .u8 10, .int .u8 0, .int .u8 3] 25)) (v := .bool false) (some 111) rfl rfl (by first | rfl | go_simp) (by go_simp) ⟨xt_of_below (by repeat' (first | exact Below.refl _ _ | assumption | refine Below.xt ?_ ?_ _ | refine Below.alloc ?_ ?_ _ | refine Below.drew ?_ | refine Below.setCell ?_ ?_ _ | (simp; done) | (simp; omega))), fun hcl' hS' => ?_⟩
          clear hcl hS
          have hcl := hcl'; have hS := hS'; clear hcl' hS'
          simp only [Act.put, List.setIfInBounds_toArray, List.set_cons_zero, List.set_cons_succ]
          refine wpAnyL_done (by kernel_rfl) ⟨rfl, ?_⟩ _
          clear hcl hS hg HG
          gi_wp2
          have HBB := Lib.hid (show BS (M.heap.size + 1 + 1 + 1) W W from ⟨Below.refl _ _, by have := HIB.out.lt; omega⟩)
          refine ⟨((KeepsOthers.setCell _ _ _).from _).trans ((KeepsFrom.of_grownBy (grown_xt _ g) (fun j e => by cases e)).trans ((KeepsOthers.alloc _ _).from _)), (((HBB.out.set ⟨M.heap.size + 1 + 1 + 1, 0, none⟩ _ (Nat.le_refl _)).xt g).alloc _).1, ?_, ?_, HB3.out.trans (((HBB.out.set ⟨M.heap.size + 1 + 1 + 1, 0, none⟩ _ (Nat.le_refl _)).xt g).alloc _).1⟩
          · simp only [List.length_append, List.length_cons, List.length_nil, Nat.zero_add, List.range_succ]
            rw [← HL.out, HE.out]
          · have h5 := ((HIB.out.set (k := 0) (.int .i64 ((pre.length : Int) + 1))).xt g).alloc (.cells #[.int .u8 0, .int .u8 0, .int .u8 0, .int .u8 5, .int .u8 0, .int .u8 2, .int .u8 10, .int .u8 0, .int .u8 3] 25)
            simpa using h5
        · simp only [show mixCol ⟨0, 0, 0⟩ ⟨10, 0, 3⟩ 1 2 = ⟨5, 0, 2⟩ from rfl] at m0 m1 m2
          gi_wp2
          refine wpIn_region_Q (fun _ w' => ∃ g : Gr, w' = xt W g) (by kernel_rfl) (by kernel_rfl) (fun hcl => ?_)
          have hS : ∃ g : Gr, { W with drawn := W.drawn + 1 } = xt W g := ⟨⟨[], W.drawn + 1⟩, by simp [xt]⟩
          change wpAnyL _ _ _ _ _ 18 (Array.replicate 18 false) _ _
          refine wpAnyL_takeD 0 (some 94) (.int .i64 (1)) (fun w' => ∃ g : Gr, w' = xt W g) rfl rfl (by kernel_rfl) (by kernel_rfl) (by kernel_rfl) (fun _ _ _ h => absurd h.1 (fun h => nomatch h)) (fun _ _ => Iff.rfl) hcl hS (fun _ _ _ _ h => h) (.inl ⟨by first | rfl | go_simp, fun w' hSi => ?_⟩) (fun hcl' hS' => ?_)
          · obtain ⟨g, rfl⟩ := hSi; go_simp
          clear hcl hS
          have hcl := hcl'; have hS := hS'; clear hcl' hS'
          simp only [Act.put, List.setIfInBounds_toArray, List.set_cons_zero, List.set_cons_succ]
          refine wpAnyL_takeD 1 (some 95) (.int .i64 (pre.length : Int)) (fun w' => ∃ g : Gr, w' = xt W g) rfl rfl (by kernel_rfl) (by kernel_rfl) (by kernel_rfl) (fun _ _ _ h => absurd h.1 (fun h => nomatch h)) (fun _ _ => Iff.rfl) hcl hS (fun _ _ _ _ h => h) (.inl ⟨by first | rfl | go_simp, fun w' hSi => ?_⟩) (fun hcl' hS' => ?_)
          · obtain ⟨g, rfl⟩ := hSi; go_simp
          clear hcl hS
          have hcl := hcl'; have hS := hS'; clear hcl' hS'
          simp only [Act.put, List.setIfInBounds_toArray, List.set_cons_zero, List.set_cons_succ]
          refine wpAnyL_takeD 2 (some 96) (.bool false) (fun w' => ∃ g : Gr, w' = xt W g) rfl rfl (by kernel_rfl) (by kernel_rfl) (by kernel_rfl) (fun _ _ _ h => absurd h.1 (fun h => nomatch h)) (fun _ _ => Iff.rfl) hcl hS (fun _ _ _ _ h => h) (.inl ⟨by first | rfl | go_simp, fun w' hSi => ?_⟩) (fun hcl' hS' => ?_)
          · obtain ⟨g, rfl⟩ := hSi; go_simp
          clear hcl hS
          have hcl := hcl'; have hS := hS'; clear hcl' hS'
          simp only [Act.put, List.setIfInBounds_toArray, List.set_cons_zero, List.set_cons_succ]
          refine wpAnyL_takeD 3 (some 97) (.bool false) (fun w' => ∃ g : Gr, w' = xt W g) rfl rfl (by kernel_rfl) (by kernel_rfl) (by kernel_rfl) (fun _ _ _ h => absurd h.1 (fun h => nomatch h)) (fun _ _ => Iff.rfl) hcl hS (fun _ _ _ _ h => h) (.inl ⟨by first | rfl | go_simp, fun w' hSi => ?_⟩) (fun hcl' hS' => ?_)
          · obtain ⟨g, rfl⟩ := hSi; go_simp
          clear hcl hS
          have hcl := hcl'; have hS := hS'; clear hcl' hS'
          simp only [Act.put, List.setIfInBounds_toArray, List.set_cons_zero, List.set_cons_succ]
          refine wpAnyL_takeD 4 (some 98) (.int .i64 (1)) (fun w' => ∃ g : Gr, w' = xt W g) rfl rfl (by kernel_rfl) (by kernel_rfl) (by kernel_rfl) (fun _ _ _ h => absurd h.1 (fun h => nomatch h)) (fun _ _ => Iff.rfl) hcl hS (fun _ _ _ _ h => h) (.inl ⟨by first | rfl | go_simp, fun w' hSi => ?_⟩) (fun hcl' hS' => ?_)
          · obtain ⟨g, rfl⟩ := hSi; go_simp
          clear hcl hS
          have hcl := hcl'; have hS := hS'; clear hcl' hS'
          simp only [Act.put, List.setIfInBounds_toArray, List.set_cons_zero, List.set_cons_succ]
          refine wpAnyL_takeD 5 (some 99) (.bool false) (fun w' => ∃ g : Gr, w' = xt W g) rfl rfl (by kernel_rfl) (by kernel_rfl) (by kernel_rfl) (fun _ _ _ h => absurd h.1 (fun h => nomatch h)) (fun _ _ => Iff.rfl) hcl hS (fun _ _ _ _ h => h) (.inl ⟨by first | rfl | go_simp, fun w' hSi => ?_⟩) (fun hcl' hS' => ?_)
          · obtain ⟨g, rfl⟩ := hSi; go_simp
          clear hcl hS
          have hcl := hcl'; have hS := hS'; clear hcl' hS'
          simp only [Act.put, List.setIfInBounds_toArray, List.set_cons_zero, List.set_cons_succ]
          refine wpAnyL_takeD 6 (some 100) (.bool false) (fun w' => ∃ g : Gr, w' = xt W g) rfl rfl (by kernel_rfl) (by kernel_rfl) (by kernel_rfl) (fun _ _ _ h => absurd h.1 (fun h => nomatch h)) (fun _ _ => Iff.rfl) hcl hS (fun _ _ _ _ h => h) (.inl ⟨by first | rfl | go_simp, fun w' hSi => ?_⟩) (fun hcl' hS' => ?_)
          · obtain ⟨g, rfl⟩ := hSi; go_simp
          clear hcl hS
          have hcl := hcl'; have hS := hS'; clear hcl' hS'
          simp only [Act.put, List.setIfInBounds_toArray, List.set_cons_zero, List.set_cons_succ]
          refine wpAnyL_takeD 7 (some 101) (.bool false) (fun w' => ∃ g : Gr, w' = xt W g) rfl rfl (by kernel_rfl) (by kernel_rfl) (by kernel_rfl) (fun _ _ _ h => absurd h.1 (fun h => nomatch h)) (fun _ _ => Iff.rfl) hcl hS (fun _ _ _ _ h => h) (.inl ⟨by first | rfl | go_simp, fun w' hSi => ?_⟩) (fun hcl' hS' => ?_)
          · obtain ⟨g, rfl⟩ := hSi; go_simp
          clear hcl hS
          have hcl := hcl'; have hS := hS'; clear hcl' hS'
          simp only [Act.put, List.setIfInBounds_toArray, List.set_cons_zero, List.set_cons_succ]
          refine wpAnyL_takeD 8 (some 102) (.agg #[.int .u8 5, .int .u8 0, .int .u8 2]) (fun w' => ∃ g : Gr, w' = xt W g) rfl rfl (by kernel_rfl) (by kernel_rfl) (by kernel_rfl) (fun _ _ _ h => absurd h.1 (fun h => nomatch h)) (fun _ _ => Iff.rfl) hcl hS (fun _ _ _ _ h => h) (.inl ⟨by first | rfl | go_simp, fun w' hSi => ?_⟩) (fun hcl' hS' => ?_)
          · obtain ⟨g, rfl⟩ := hSi; go_simp
          clear hcl hS
          have hcl := hcl'; have hS := hS'; clear hcl' hS'
          simp only [Act.put, List.setIfInBounds_toArray, List.set_cons_zero, List.set_cons_succ]
          refine wpAnyL_takeD 9 (some 103) (.agg #[.int .u8 0, .int .u8 0, .int .u8 0]) (fun w' => ∃ g : Gr, w' = xt W g) rfl rfl (by kernel_rfl) (by kernel_rfl) (by kernel_rfl) (fun _ _ _ h => absurd h.1 (fun h => nomatch h)) (fun _ _ => Iff.rfl) hcl hS (fun _ _ _ _ h => h) (.inl ⟨by first | rfl | go_simp, fun w' hSi => ?_⟩) (fun hcl' hS' => ?_)
          · obtain ⟨g, rfl⟩ := hSi; go_simp
          clear hcl hS
          have hcl := hcl'; have hS := hS'; clear hcl' hS'
          simp only [Act.put, List.setIfInBounds_toArray, List.set_cons_zero, List.set_cons_succ]
          refine wpAnyL_takeD 13 (some 107) (.int .i64 (1)) (fun w' => ∃ g : Gr, w' = xt W g) rfl rfl (by kernel_rfl) (by kernel_rfl) (by kernel_rfl) (fun _ _ _ h => absurd h.1 (fun h => nomatch h)) (fun _ _ => Iff.rfl) hcl hS (fun _ _ _ _ h => h) (.inl ⟨by first | rfl | go_simp, fun w' hSi => ?_⟩) (fun hcl' hS' => ?_)
          · obtain ⟨g, rfl⟩ := hSi; go_simp
          clear hcl hS
          have hcl := hcl'; have hS := hS'; clear hcl' hS'
          simp only [Act.put, List.setIfInBounds_toArray, List.set_cons_zero, List.set_cons_succ]
          refine wpAnyL_one 10 (by kernel_rfl) hcl ?_
          refine wpOp_call (some 104) rfl rfl (by first | rfl | go_simp) (f := 32) (args := #[.int .u8 5, .int .u8 0, .int .u8 2]) (by go_simp) (cc_any _ _ _ _) (fun g10 => ⟨?_, fun hcl' hS' => ?_⟩)
          · obtain ⟨g, hg⟩ := hS; exact ⟨_, by rw [hg]; exact xt_xt _ _ _⟩
          clear hcl hS
          have hcl := hcl'; have hS := hS'; clear hcl' hS'
          simp only [Act.put, List.setIfInBounds_toArray, List.set_cons_zero, List.set_cons_succ]
          refine wpAnyL_one 11 (by kernel_rfl) hcl ?_
          refine wpOp_call (some 105) rfl rfl (by first | rfl | go_simp) (f := 32) (args := #[.int .u8 10, .int .u8 0, .int .u8 3]) (by go_simp) (cc_any _ _ _ _) (fun g11 => ⟨?_, fun hcl' hS' => ?_⟩)
          · obtain ⟨g, hg⟩ := hS; exact ⟨_, by rw [hg]; exact xt_xt _ _ _⟩
          clear hcl hS
          have hcl := hcl'; have hS := hS'; clear hcl' hS'
          simp only [Act.put, List.setIfInBounds_toArray, List.set_cons_zero, List.set_cons_succ]
          obtain ⟨g, hg⟩ := hS
          have HG := Lib.hid hg
          generalize xt (xt { W with drawn := W.drawn + 1 } g10) g11 = Wz at *
          obtain rfl : Wz = xt W g := HG.out
          refine wpAnyL_one 12 (by kernel_rfl) hcl ?_
          refine wpOp_value (w' := (xt W g).alloc (.cells #[.int .u8 0, .int .u8 0, .int .u8 0, .int .u8 5, .int .u8 0, .int .u8 2, .int .u8 10, .int .u8 0, .int .u8 3] 25)) (v := .slice (some ⟨W.heap.size + g.blocks.length, 0, none⟩) 3 3) (some 106) rfl rfl (by first | rfl | go_simp) (by go_simp) ⟨xt_of_below (by repeat' (first | exact Below.refl _ _ | assumption | refine Below.xt ?_ ?_ _ | refine Below.alloc ?_ ?_ _ | refine Below.drew ?_ | refine Below.setCell ?_ ?_ _ | (simp; done) | (simp; omega))), fun hcl' hS' => ?_⟩
          clear hcl
          have hcl := hcl'; have hS := hS'; clear hcl' hS'
          simp only [Act.put, List.setIfInBounds_toArray, List.set_cons_zero, List.set_cons_succ]
          refine wpAnyL_one 14 (by kernel_rfl) hcl ?_
          refine wpOp_value (w' := (xt W g).alloc (.cells #[.int .u8 0, .int .u8 0, .int .u8 0, .int .u8 5, .int .u8 0, .int .u8 2, .int .u8 10, .int .u8 0, .int .u8 3] 25)) (v := .pointer (some ⟨W.heap.size + g.blocks.length, 3, none⟩)) (some 108) rfl rfl (by first | rfl | go_simp) (by go_simp) ⟨xt_of_below (by repeat' (first | exact Below.refl _ _ | assumption | refine Below.xt ?_ ?_ _ | refine Below.alloc ?_ ?_ _ | refine Below.drew ?_ | refine Below.setCell ?_ ?_ _ | (simp; done) | (simp; omega))), fun hcl' hS' => ?_⟩
          clear hcl hS
          have hcl := hcl'; have hS := hS'; clear hcl' hS'
          simp only [Act.put, List.setIfInBounds_toArray, List.set_cons_zero, List.set_cons_succ]
          refine wpAnyL_one 15 (by kernel_rfl) hcl ?_
          refine wpOp_value (w' := (xt W g).alloc (.cells #[.int .u8 0, .int .u8 0, .int .u8 0, .int .u8 5, .int .u8 0, .int .u8 2, .int .u8 10, .int .u8 0, .int .u8 3] 25)) (v := .agg #[.int .u8 5, .int .u8 0, .int .u8 2]) (some 109) rfl rfl (by first | rfl | go_simp) (by go_simp) ⟨xt_of_below (by repeat' (first | exact Below.refl _ _ | assumption | refine Below.xt ?_ ?_ _ | refine Below.alloc ?_ ?_ _ | refine Below.drew ?_ | refine Below.setCell ?_ ?_ _ | (simp; done) | (simp; omega))), fun hcl' hS' => ?_⟩
          clear hcl hS
          have hcl := hcl'; have hS := hS'; clear hcl' hS'
          simp only [Act.put, List.setIfInBounds_toArray, List.set_cons_zero, List.set_cons_succ]
          refine wpAnyL_one 16 (by kernel_rfl) hcl ?_
          refine wpOp_value (w' := (xt W g).alloc (.cells #[.int .u8 0, .int .u8 0, .int .u8 0, .int .u8 5, .int .u8 0, .int .u8 2, .int .u8 10, .int .u8 0, .int .u8 3] 25)) (v := .bool false) (some 110) rfl rfl (by first | rfl | go_simp) (by go_simp) ⟨xt_of_below (by repeat' (first | exact Below.refl _ _ | assumption | refine Below.xt ?_ ?_ _ | refine Below.alloc ?_ ?_ _ | refine Below.drew ?_ | refine Below.setCell ?_ ?_ _ | (simp; done) | (simp; omega))), fun hcl' hS' => ?_⟩
          clear hcl hS
          have hcl := hcl'; have hS := hS'; clear hcl' hS'
          simp only [Act.put, List.setIfInBounds_toArray, List.set_cons_zero, List.set_cons_succ]
          refine wpAnyL_one 17 (by kernel_rfl) hcl ?_
          refine wpOp_value (w' := (xt W g).alloc (.cells #[.int .u8 0, .int .u8 0, .int .u8 0, .int .u8 5, .int .u8 0, .int .u8 2, .int .u8 10, .int .u8 0, .int .u8 3] 25)) (v := .bool false) (some 111) rfl rfl (by first | rfl | go_simp) (by go_simp) ⟨xt_of_below (by repeat' (first | exact Below.refl _ _ | assumption | refine Below.xt ?_ ?_ _ | refine Below.alloc ?_ ?_ _ | refine Below.drew ?_ | refine Below.setCell ?_ ?_ _ | (simp; done) | (simp; omega))), fun hcl' hS' => ?_⟩
          clear hcl hS
          have hcl := hcl'; have hS := hS'; clear hcl' hS'
          simp only [Act.put, List.setIfInBounds_toArray, List.set_cons_zero, List.set_cons_succ]
          refine wpAnyL_done (by kernel_rfl) ⟨rfl, ?_⟩ _
          clear hcl hS hg HG
          gi_wp2
          have HBB := Lib.hid (show BS (M.heap.size + 1 + 1 + 1) W W from ⟨Below.refl _ _, by have := HIB.out.lt; omega⟩)
          refine ⟨((KeepsOthers.setCell _ _ _).from _).trans ((KeepsFrom.of_grownBy (grown_xt _ g) (fun j e => by cases e)).trans ((KeepsOthers.alloc _ _).from _)), (((HBB.out.set ⟨M.heap.size + 1 + 1 + 1, 0, none⟩ _ (Nat.le_refl _)).xt g).alloc _).1, ?_, ?_, HB3.out.trans (((HBB.out.set ⟨M.heap.size + 1 + 1 + 1, 0, none⟩ _ (Nat.le_refl _)).xt g).alloc _).1⟩
          · simp only [List.length_append, List.length_cons, List.length_nil, Nat.zero_add, List.range_succ]
            rw [← HL.out, HE.out]
          · have h5 := ((HIB.out.set (k := 0) (.int .i64 ((pre.length : Int) + 1))).xt g).alloc (.cells #[.int .u8 0, .int .u8 0, .int .u8 0, .int .u8 5, .int .u8 0, .int .u8 2, .int .u8 10, .int .u8 0, .int .u8 3] 25)
            simpa using h5
        · simp only [show mixCol ⟨0, 0, 0⟩ ⟨10, 0, 3⟩ 2 2 = ⟨10, 0, 3⟩ from rfl] at m0 m1 m2
          gi_wp2
          refine wpIn_region_Q (fun _ w' => ∃ g : Gr, w' = xt W g) (by kernel_rfl) (by kernel_rfl) (fun hcl => ?_)
          have hS : ∃ g : Gr, { W with drawn := W.drawn + 1 } = xt W g := ⟨⟨[], W.drawn + 1⟩, by simp [xt]⟩
          change wpAnyL _ _ _ _ _ 18 (Array.replicate 18 false) _ _
          refine wpAnyL_takeD 0 (some 94) (.int .i64 (2)) (fun w' => ∃ g : Gr, w' = xt W g) rfl rfl (by kernel_rfl) (by kernel_rfl) (by kernel_rfl) (fun _ _ _ h => absurd h.1 (fun h => nomatch h)) (fun _ _ => Iff.rfl) hcl hS (fun _ _ _ _ h => h) (.inl ⟨by first | rfl | go_simp, fun w' hSi => ?_⟩) (fun hcl' hS' => ?_)
          · obtain ⟨g, rfl⟩ := hSi; go_simp
          clear hcl hS
          have hcl := hcl'; have hS := hS'; clear hcl' hS'
          simp only [Act.put, List.setIfInBounds_toArray, List.set_cons_zero, List.set_cons_succ]
          refine wpAnyL_takeD 1 (some 95) (.int .i64 (pre.length : Int)) (fun w' => ∃ g : Gr, w' = xt W g) rfl rfl (by kernel_rfl) (by kernel_rfl) (by kernel_rfl) (fun _ _ _ h => absurd h.1 (fun h => nomatch h)) (fun _ _ => Iff.rfl) hcl hS (fun _ _ _ _ h => h) (.inl ⟨by first | rfl | go_simp, fun w' hSi => ?_⟩) (fun hcl' hS' => ?_)
          · obtain ⟨g, rfl⟩ := hSi; go_simp
          clear hcl hS
          have hcl := hcl'; have hS := hS'; clear hcl' hS'
          simp only [Act.put, List.setIfInBounds_toArray, List.set_cons_zero, List.set_cons_succ]
          refine wpAnyL_takeD 2 (some 96) (.bool false) (fun w' => ∃ g : Gr, w' = xt W g) rfl rfl (by kernel_rfl) (by kernel_rfl) (by kernel_rfl) (fun _ _ _ h => absurd h.1 (fun h => nomatch h)) (fun _ _ => Iff.rfl) hcl hS (fun _ _ _ _ h => h) (.inl ⟨by first | rfl | go_simp, fun w' hSi => ?_⟩) (fun hcl' hS' => ?_)
          · obtain ⟨g, rfl⟩ := hSi; go_simp
          clear hcl hS
          have hcl := hcl'; have hS := hS'; clear hcl' hS'
          simp only [Act.put, List.setIfInBounds_toArray, List.set_cons_zero, List.set_cons_succ]
          refine wpAnyL_takeD 3 (some 97) (.bool false) (fun w' => ∃ g : Gr, w' = xt W g) rfl rfl (by kernel_rfl) (by kernel_rfl) (by kernel_rfl) (fun _ _ _ h => absurd h.1 (fun h => nomatch h)) (fun _ _ => Iff.rfl) hcl hS (fun _ _ _ _ h => h) (.inl ⟨by first | rfl | go_simp, fun w' hSi => ?_⟩) (fun hcl' hS' => ?_)
          · obtain ⟨g, rfl⟩ := hSi; go_simp
          clear hcl hS
          have hcl := hcl'; have hS := hS'; clear hcl' hS'
          simp only [Act.put, List.setIfInBounds_toArray, List.set_cons_zero, List.set_cons_succ]
          refine wpAnyL_takeD 4 (some 98) (.int .i64 (2)) (fun w' => ∃ g : Gr, w' = xt W g) rfl rfl (by kernel_rfl) (by kernel_rfl) (by kernel_rfl) (fun _ _ _ h => absurd h.1 (fun h => nomatch h)) (fun _ _ => Iff.rfl) hcl hS (fun _ _ _ _ h => h) (.inl ⟨by first | rfl | go_simp, fun w' hSi => ?_⟩) (fun hcl' hS' => ?_)
          · obtain ⟨g, rfl⟩ := hSi; go_simp
          clear hcl hS
          have hcl := hcl'; have hS := hS'; clear hcl' hS'
          simp only [Act.put, List.setIfInBounds_toArray, List.set_cons_zero, List.set_cons_succ]
          refine wpAnyL_takeD 5 (some 99) (.bool false) (fun w' => ∃ g : Gr, w' = xt W g) rfl rfl (by kernel_rfl) (by kernel_rfl) (by kernel_rfl) (fun _ _ _ h => absurd h.1 (fun h => nomatch h)) (fun _ _ => Iff.rfl) hcl hS (fun _ _ _ _ h => h) (.inl ⟨by first | rfl | go_simp, fun w' hSi => ?_⟩) (fun hcl' hS' => ?_)
          · obtain ⟨g, rfl⟩ := hSi; go_simp
          clear hcl hS
          have hcl := hcl'; have hS := hS'; clear hcl' hS'
          simp only [Act.put, List.setIfInBounds_toArray, List.set_cons_zero, List.set_cons_succ]
          refine wpAnyL_takeD 6 (some 100) (.bool false) (fun w' => ∃ g : Gr, w' = xt W g) rfl rfl (by kernel_rfl) (by kernel_rfl) (by kernel_rfl) (fun _ _ _ h => absurd h.1 (fun h => nomatch h)) (fun _ _ => Iff.rfl) hcl hS (fun _ _ _ _ h => h) (.inl ⟨by first | rfl | go_simp, fun w' hSi => ?_⟩) (fun hcl' hS' => ?_)
          · obtain ⟨g, rfl⟩ := hSi; go_simp
          clear hcl hS
          have hcl := hcl'; have hS := hS'; clear hcl' hS'
          simp only [Act.put, List.setIfInBounds_toArray, List.set_cons_zero, List.set_cons_succ]
          refine wpAnyL_takeD 7 (some 101) (.bool false) (fun w' => ∃ g : Gr, w' = xt W g) rfl rfl (by kernel_rfl) (by kernel_rfl) (by kernel_rfl) (fun _ _ _ h => absurd h.1 (fun h => nomatch h)) (fun _ _ => Iff.rfl) hcl hS (fun _ _ _ _ h => h) (.inl ⟨by first | rfl | go_simp, fun w' hSi => ?_⟩) (fun hcl' hS' => ?_)
          · obtain ⟨g, rfl⟩ := hSi; go_simp
          clear hcl hS
          have hcl := hcl'; have hS := hS'; clear hcl' hS'
          simp only [Act.put, List.setIfInBounds_toArray, List.set_cons_zero, List.set_cons_succ]
          refine wpAnyL_takeD 8 (some 102) (.agg #[.int .u8 10, .int .u8 0, .int .u8 3]) (fun w' => ∃ g : Gr, w' = xt W g) rfl rfl (by kernel_rfl) (by kernel_rfl) (by kernel_rfl) (fun _ _ _ h => absurd h.1 (fun h => nomatch h)) (fun _ _ => Iff.rfl) hcl hS (fun _ _ _ _ h => h) (.inl ⟨by first | rfl | go_simp, fun w' hSi => ?_⟩) (fun hcl' hS' => ?_)
          · obtain ⟨g, rfl⟩ := hSi; go_simp
          clear hcl hS
          have hcl := hcl'; have hS := hS'; clear hcl' hS'
          simp only [Act.put, List.setIfInBounds_toArray, List.set_cons_zero, List.set_cons_succ]
          refine wpAnyL_takeD 9 (some 103) (.agg #[.int .u8 0, .int .u8 0, .int .u8 0]) (fun w' => ∃ g : Gr, w' = xt W g) rfl rfl (by kernel_rfl) (by kernel_rfl) (by kernel_rfl) (fun _ _ _ h => absurd h.1 (fun h => nomatch h)) (fun _ _ => Iff.rfl) hcl hS (fun _ _ _ _ h => h) (.inl ⟨by first | rfl | go_simp, fun w' hSi => ?_⟩) (fun hcl' hS' => ?_)
          · obtain ⟨g, rfl⟩ := hSi; go_simp
          clear hcl hS
          have hcl := hcl'; have hS := hS'; clear hcl' hS'
          simp only [Act.put, List.setIfInBounds_toArray, List.set_cons_zero, List.set_cons_succ]
          refine wpAnyL_takeD 13 (some 107) (.int .i64 (2)) (fun w' => ∃ g : Gr, w' = xt W g) rfl rfl (by kernel_rfl) (by kernel_rfl) (by kernel_rfl) (fun _ _ _ h => absurd h.1 (fun h => nomatch h)) (fun _ _ => Iff.rfl) hcl hS (fun _ _ _ _ h => h) (.inl ⟨by first | rfl | go_simp, fun w' hSi => ?_⟩) (fun hcl' hS' => ?_)
          · obtain ⟨g, rfl⟩ := hSi; go_simp
          clear hcl hS
          have hcl := hcl'; have hS := hS'; clear hcl' hS'
          simp only [Act.put, List.setIfInBounds_toArray, List.set_cons_zero, List.set_cons_succ]
          refine wpAnyL_one 10 (by kernel_rfl) hcl ?_
          refine wpOp_call (some 104) rfl rfl (by first | rfl | go_simp) (f := 32) (args := #[.int .u8 5, .int .u8 0, .int .u8 2]) (by go_simp) (cc_any _ _ _ _) (fun g10 => ⟨?_, fun hcl' hS' => ?_⟩)
          · obtain ⟨g, hg⟩ := hS; exact ⟨_, by rw [hg]; exact xt_xt _ _ _⟩
          clear hcl hS
          have hcl := hcl'; have hS := hS'; clear hcl' hS'
          simp only [Act.put, List.setIfInBounds_toArray, List.set_cons_zero, List.set_cons_succ]
          refine wpAnyL_one 11 (by kernel_rfl) hcl ?_
          refine wpOp_call (some 105) rfl rfl (by first | rfl | go_simp) (f := 32) (args := #[.int .u8 10, .int .u8 0, .int .u8 3]) (by go_simp) (cc_any _ _ _ _) (fun g11 => ⟨?_, fun hcl' hS' => ?_⟩)
          · obtain ⟨g, hg⟩ := hS; exact ⟨_, by rw [hg]; exact xt_xt _ _ _⟩
          clear hcl hS
          have hcl := hcl'; have hS := hS'; clear hcl' hS'
          simp only [Act.put, List.setIfInBounds_toArray, List.set_cons_zero, List.set_cons_succ]
          obtain ⟨g, hg⟩ := hS
          have HG := Lib.hid hg
          generalize xt (xt { W with drawn := W.drawn + 1 } g10) g11 = Wz at *
          obtain rfl : Wz = xt W g := HG.out
          refine wpAnyL_one 12 (by kernel_rfl) hcl ?_
          refine wpOp_value (w' := (xt W g).alloc (.cells #[.int .u8 0, .int .u8 0, .int .u8 0, .int .u8 5, .int .u8 0, .int .u8 2, .int .u8 10, .int .u8 0, .int .u8 3] 25)) (v := .slice (some ⟨W.heap.size + g.blocks.length, 0, none⟩) 3 3) (some 106) rfl rfl (by first | rfl | go_simp) (by go_simp) ⟨xt_of_below (by repeat' (first | exact Below.refl _ _ | assumption | refine Below.xt ?_ ?_ _ | refine Below.alloc ?_ ?_ _ | refine Below.drew ?_ | refine Below.setCell ?_ ?_ _ | (simp; done) | (simp; omega))), fun hcl' hS' => ?_⟩
          clear hcl
          have hcl := hcl'; have hS := hS'; clear hcl' hS'
          simp only [Act.put, List.setIfInBounds_toArray, List.set_cons_zero, List.set_cons_succ]
          refine wpAnyL_one 14 (by kernel_rfl) hcl ?_
          refine wpOp_value (w' := (xt W g).alloc (.cells #[.int .u8 0, .int .u8 0, .int .u8 0, .int .u8 5, .int .u8 0, .int .u8 2, .int .u8 10, .int .u8 0, .int .u8 3] 25)) (v := .pointer (some ⟨W.heap.size + g.blocks.length, 6, none⟩)) (some 108) rfl rfl (by first | rfl | go_simp) (by go_simp) ⟨xt_of_below (by repeat' (first | exact Below.refl _ _ | assumption | refine Below.xt ?_ ?_ _ | refine Below.alloc ?_ ?_ _ | refine Below.drew ?_ | refine Below.setCell ?_ ?_ _ | (simp; done) | (simp; omega))), fun hcl' hS' => ?_⟩
          clear hcl hS
          have hcl := hcl'; have hS := hS'; clear hcl' hS'
          simp only [Act.put, List.setIfInBounds_toArray, List.set_cons_zero, List.set_cons_succ]
          refine wpAnyL_one 15 (by kernel_rfl) hcl ?_
          refine wpOp_value (w' := (xt W g).alloc (.cells #[.int .u8 0, .int .u8 0, .int .u8 0, .int .u8 5, .int .u8 0, .int .u8 2, .int .u8 10, .int .u8 0, .int .u8 3] 25)) (v := .agg #[.int .u8 10, .int .u8 0, .int .u8 3]) (some 109) rfl rfl (by first | rfl | go_simp) (by go_simp) ⟨xt_of_below (by repeat' (first | exact Below.refl _ _ | assumption | refine Below.xt ?_ ?_ _ | refine Below.alloc ?_ ?_ _ | refine Below.drew ?_ | refine Below.setCell ?_ ?_ _ | (simp; done) | (simp; omega))), fun hcl' hS' => ?_⟩
          clear hcl hS
          have hcl := hcl'; have hS := hS'; clear hcl' hS'
          simp only [Act.put, List.setIfInBounds_toArray, List.set_cons_zero, List.set_cons_succ]
          refine wpAnyL_one 16 (by kernel_rfl) hcl ?_
          refine wpOp_value (w' := (xt W g).alloc (.cells #[.int .u8 0, .int .u8 0, .int .u8 0, .int .u8 5, .int .u8 0, .int .u8 2, .int .u8 10, .int .u8 0, .int .u8 3] 25)) (v := .bool false) (some 110) rfl rfl (by first | rfl | go_simp) (by go_simp) ⟨xt_of_below (by repeat' (first | exact Below.refl _ _ | assumption | refine Below.xt ?_ ?_ _ | refine Below.alloc ?_ ?_ _ | refine Below.drew ?_ | refine Below.setCell ?_ ?_ _ | (simp; done) | (simp; omega))), fun hcl' hS' => ?_⟩
          clear hcl hS
          have hcl := hcl'; have hS := hS'; clear hcl' hS'
          simp only [Act.put, List.setIfInBounds_toArray, List.set_cons_zero, List.set_cons_succ]
          refine wpAnyL_one 17 (by kernel_rfl) hcl ?_
          refine wpOp_value (w' := (xt W g).alloc (.cells #[.int .u8 0, .int .u8 0, .int .u8 0, .int .u8 5, .int .u8 0, .int .u8 2, .int .u8 10, .int .u8 0, .int .u8 3] 25)) (v := .bool false) (some 111) rfl rfl (by first | rfl | go_simp) (by go_simp) ⟨xt_of_below (by repeat' (first | exact Below.refl _ _ | assumption | refine Below.xt ?_ ?_ _ | refine Below.alloc ?_ ?_ _ | refine Below.drew ?_ | refine Below.setCell ?_ ?_ _ | (simp; done) | (simp; omega))), fun hcl' hS' => ?_⟩
          clear hcl hS
          have hcl := hcl'; have hS := hS'; clear hcl' hS'
          simp only [Act.put, List.setIfInBounds_toArray, List.set_cons_zero, List.set_cons_succ]
          refine wpAnyL_done (by kernel_rfl) ⟨rfl, ?_⟩ _
          clear hcl hS hg HG
          gi_wp2
          have HBB := Lib.hid (show BS (M.heap.size + 1 + 1 + 1) W W from ⟨Below.refl _ _, by have := HIB.out.lt; omega⟩)
          refine ⟨((KeepsOthers.setCell _ _ _).from _).trans ((KeepsFrom.of_grownBy (grown_xt _ g) (fun j e => by cases e)).trans ((KeepsOthers.alloc _ _).from _)), (((HBB.out.set ⟨M.heap.size + 1 + 1 + 1, 0, none⟩ _ (Nat.le_refl _)).xt g).alloc _).1, ?_, ?_, HB3.out.trans (((HBB.out.set ⟨M.heap.size + 1 + 1 + 1, 0, none⟩ _ (Nat.le_refl _)).xt g).alloc _).1⟩
          · simp only [List.length_append, List.length_cons, List.length_nil, Nat.zero_add, List.range_succ]
            rw [← HL.out, HE.out]
          · have h5 := ((HIB.out.set (k := 0) (.int .i64 ((pre.length : Int) + 1))).xt g).alloc (.cells #[.int .u8 0, .int .u8 0, .int .u8 0, .int .u8 5, .int .u8 0, .int .u8 2, .int .u8 10, .int .u8 0, .int .u8 3] 25)
            simpa using h5
      · have e1 : ((x : Int) != (pre.length : Int)) = true := by simp; omega
        have HE := Lib.hid hxe
        clear hxe
        gi_wp2
        refine wpIn_region_xt (by kernel_rfl) (by kernel_rfl) (by kernel_rfl) ?_
        repeat (go_big_quiet_step (fail))
        refine wpQuiet_nil ?_
        intro g
        gi_wp2
        exact ⟨((KeepsOthers.setCell _ _ _).from _).trans (KeepsFrom.of_grownBy (grown_xt _ _) (fun j e => by cases e)), fun h => HE.out (range_last h)⟩
    case done =>
      rintro D xs W hD rfl ⟨_, hI2, hI3⟩ hK
      simp only [List.length_range] at hI2
      have hlw : M.heap.size + 4 ≤ W.heap.size := by have := hI2.lt; omega
      have HR := Lib.hid (show ∀ b j, b < wc.heap.size → W.cell? ⟨b, j, none⟩ = wc.cell? ⟨b, j, none⟩ ∧ W.frozen? ⟨b, j, none⟩ = wc.frozen? ⟨b, j, none⟩ from fun b j hb => by
        have h1 : b < M.heap.size := Nat.lt_of_lt_of_le hb HBM.out.size
        exact ⟨(hI3.cell (p := ⟨b, j, none⟩) (by show b < _; omega)).trans ((HB0.out.cell (p := ⟨b, j, none⟩) h1).trans (HBM.out.cell (p := ⟨b, j, none⟩) hb)), (hI3.frozen (p := ⟨b, j, none⟩) (by show b < _; omega)).trans ((HB0.out.frozen (p := ⟨b, j, none⟩) h1).trans (HBM.out.frozen (p := ⟨b, j, none⟩) hb))⟩)
      have hMw : wc.heap.size ≤ M.heap.size := HBM.out.size
      have r0 : W.cell? ⟨w.heap.size, 0, none⟩ = some (.bool false) := (HR.out _ 0 ho).1.trans h0
      have r1 : W.frozen? ⟨w.heap.size, 0, none⟩ = false := (HR.out _ 0 ho).2.trans hz
      have ro : old w.heap.size W := by have h1 : w.heap.size < wc.heap.size := ho; show w.heap.size < W.heap.size; omega
      have q0 : W.cell? ⟨b2, 0, none⟩ = some (.int .u8 255) := (HR.out _ 0 o2).1.trans x2
      have q1 : W.cell? ⟨b2, 1, none⟩ = some (.int .u8 100) := (HR.out _ 1 o2).1.trans y2
      have q2 : W.cell? ⟨b2, 2, none⟩ = some (.int .u8 0) := (HR.out _ 2 o2).1.trans z2
      have ob : old b2 W := by have h1 : b2 < wc.heap.size := o2; show b2 < W.heap.size; omega
      have on_ : old (M.heap.size + 1 + 1 + 1) W := hI2.lt
      have cn := hI2.cell (j := 0) rfl
      have HBW := Lib.hid (show Below w.heap.size w W from hB.trans (Below.mono (HBM.out.trans (Below.mono (HB0.out.trans (hI3.mono (by omega))) hMw)) hB.size))
      have HD := Lib.hid hK
      have HBS := Lib.hid (show BS w.heap.size w W from ⟨HBW.out, by have h1 : w.heap.size < wc.heap.size := ho; omega⟩)
      have HD2 := Lib.hid (show w.heap.size ≤ D by have h1 : w.heap.size < wc.heap.size := ho; omega)
      have HN2 := Lib.hid (show D ≠ w.heap.size by have h1 : w.heap.size < wc.heap.size := ho; omega)
      clear hI2 hI3 hK x1 y1 z1 x2 y2 z2 x3 y3 z3 x5 y5 z5 x7 y7 z7 h0 hz HR HC HBn
      go_wp2_with (first
        | (go_at_call 17; (with_reducible refine (RetB.grown (kParse1 _)).mono ?_); rintro e' w' ⟨rfl, g, rfl⟩)
        | (go_at_call 17; (with_reducible refine (RetB.grown (kParse2 _)).mono ?_); rintro e' w' ⟨rfl, g, rfl⟩)
        | (go_at_call 17; (with_reducible refine (RetB.grown (kParse3 _)).mono ?_); rintro e' w' ⟨rfl, g, rfl⟩)
        | (go_at_call 32; refine (RetB.grown (cc_any _ _ _ _)).mono ?_; rintro e' w' ⟨rfl, g, rfl⟩)
        | (go_at_call 25; (with_reducible refine (RetB.grown (kFind1 _ _ _ (by repeat (first | exact row_l2 (by simp) | refine RowW.xt ?_ _ | refine RowW.alloc ?_ _ | refine RowW.drew ?_)))).mono ?_); rintro e' w' ⟨rfl, g, rfl⟩)
        | (go_at_call 25; (with_reducible refine (RetB.grown (kFind2 _ _ _ (by repeat (first | exact row_l2 (by simp) | refine RowW.xt ?_ _ | refine RowW.alloc ?_ _ | refine RowW.drew ?_)))).mono ?_); rintro e' w' ⟨rfl, g, rfl⟩)
        | (go_at_call 29; refine (RetB.grown (kNear _ _ _ (by repeat (first | exact row_l2 (by simp) | refine RowW.xt ?_ _ | refine RowW.alloc ?_ _ | refine RowW.drew ?_)))).mono ?_; rintro e' w' ⟨rfl, g, rfl⟩)
        | (refine wp_region_xt (by kernel_rfl) (by kernel_rfl) ?_; (repeat (go_big_quiet_step (first | (go_at_call 17; (with_reducible exact RetB.quiet (kParse1 _))) | (go_at_call 17; (with_reducible exact RetB.quiet (kParse2 _))) | (go_at_call 17; (with_reducible exact RetB.quiet (kParse3 _))) | (go_at_call 32; exact RetB.quiet (cc_any _ _ _ _)) | (go_at_call 25; (with_reducible exact RetB.quiet (kFind1 _ _ _ (by repeat (first | exact row_l2 (by simp) | refine RowW.xt ?_ _ | refine RowW.alloc ?_ _ | refine RowW.drew ?_))))) | (go_at_call 25; (with_reducible exact RetB.quiet (kFind2 _ _ _ (by repeat (first | exact row_l2 (by simp) | refine RowW.xt ?_ _ | refine RowW.alloc ?_ _ | refine RowW.drew ?_))))) | (go_at_call 29; exact RetB.quiet (kNear _ _ _ (by repeat (first | exact row_l2 (by simp) | refine RowW.xt ?_ _ | refine RowW.alloc ?_ _ | refine RowW.drew ?_))))))); refine wpQuiet_nil ?_; intro g))
      have bt1 : ((⟨#[35, 102, 102, 54, 52, 48, 48]⟩ : ByteArray).toList == (⟨#[35, 102, 102, 54, 52, 48, 48]⟩ : ByteArray).toList) = true := by simp
      have bt2 : ((⟨#[98, 108, 117, 101]⟩ : ByteArray).toList == (⟨#[98, 108, 117, 101]⟩ : ByteArray).toList) = true := by simp
      refine wp_region_xt_tail 45 (by kernel_rfl) (by kernel_rfl) ?_
      simp only [List.take_succ_cons, List.take_zero, List.drop_succ_cons, List.drop_zero]
      repeat (go_big_quiet_step (first | (go_at_call 32; exact RetB.quiet (cc_any _ _ _ _)) | (go_at_call 19; exact RetB.quiet (kText _))))
      refine wpQuiet_nil ?_
      intro g
      go_wp2_with fail
      refine ⟨by simp, .inl ⟨_, _, rfl, run_takeDeferred (show DefAt _ D from ?_), ?_⟩⟩
      · repeat (first | exact HD.out | refine DefAt.xt ?_ _ | refine DefAt.alloc ?_ _ | refine DefAt.set ?_ _ _ HN2.out)
      · refine ⟨.bool true, ?_, ?_⟩
        · simp [results, Try.results10, go_sem, putObj_cell _ _ _ _ _ HN2.out]
          go_simp
        · refine RetB.of rfl (BS.put ?_ D _ HD2.out)
          repeat (first | exact HBS.out | refine BS.xt ?_ _ | refine BS.alloc ?_ _ | refine BS.set ?_ _ _ (Nat.le_refl _))
    case stop =>
      rintro D c pre W hD ⟨k, hk, rfl⟩ hx _
      exact absurd (by simp) hx

end Go.Proofs.Ytkekhnclbkachaa

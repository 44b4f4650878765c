/- Walks: the fades that there are and are not, as one sequence. Conditions stand in each theorem. -/
import Derived.Test.YtkekhnclbkachaaColK
import Derived.Test.YtkekhnclbkachaaRng2
namespace Go.Proofs.Ytkekhnclbkachaa
open Go.RowKit Go.Shelf
attribute [local go_sem] Oper.semAt_some
set_option linter.unusedVariables false
set_option linter.unusedSimpArgs false

set_option maxHeartbeats 1600000 in
theorem Fade1_none (n l n₀ Bs Ba Bb : Nat) (steps : Int) (h : steps < 1 ∨ 1000 < steps) (J Jx : List Nat → World → Prop) (W : World)
    (hBs : W.cell? ⟨Bs, 0, none⟩ = some (.int .i64 steps)) (ls : Bs < n₀) (hn0 : n₀ ≤ W.heap.size) (h0 : J [] W) :
    CallsIn Fence.wide n Try.prog 35 #[.func (.yield l) #[] #[], .pointer (some ⟨Bs, 0, none⟩), .pointer (some ⟨Ba, 0, none⟩), .pointer (some ⟨Bb, 0, none⟩)] W fun e W' => (∃ v, e = .returned v) ∧
      ((∃ ys, ys = List.range 0 ∧ J ys W') ∨ (∃ pre, (∃ k, k ≤ 0 ∧ pre = List.range k) ∧ Jx pre W')) := by
  have hJ := Lib.hid h0
  clear h0
  rcases h with h | h
  · have d : decide (steps < 1) = true := by simpa using h
    refine callsIn_of_wp Try.func35 rfl trivial ?_ rfl
    simp only [Try.ntmps35, List.size_toArray, List.length_cons, List.length_nil, Nat.reduceAdd, Nat.reduceSub, Array.replicate_succ, Array.replicate_zero, List.push_toArray, List.append_toArray, List.nil_append, List.cons_append]
    gi_wp2
    refine bodyPost_ret (results_none rfl _ _ _) rfl ?_
    exact ⟨⟨_, rfl⟩, .inl ⟨_, rfl, hJ.out⟩⟩
  · have d0 : decide (steps < 1) = false := by simp; omega
    have d : decide (1000 < steps) = true := by simpa using h
    refine callsIn_of_wp Try.func35 rfl trivial ?_ rfl
    simp only [Try.ntmps35, List.size_toArray, List.length_cons, List.length_nil, Nat.reduceAdd, Nat.reduceSub, Array.replicate_succ, Array.replicate_zero, List.push_toArray, List.append_toArray, List.nil_append, List.cons_append]
    gi_wp2
    refine bodyPost_ret (results_none rfl _ _ _) rfl ?_
    exact ⟨⟨_, rfl⟩, .inl ⟨_, rfl, hJ.out⟩⟩

/-- How many colours a fade has. -/
def Tot (steps : Int) (tot : Nat) : Prop := (1 ≤ steps ∧ steps ≤ 1000 ∧ (tot : Int) = steps + 1) ∨ ((steps < 1 ∨ 1000 < steps) ∧ tot = 0)
theorem fade_seq (n n₀ Bs Ba Bb : Nat) (a b : Col) (steps : Int) (tot : Nat) (ha : a.ok) (hb : b.ok) (ht : Tot steps tot) (w : World) (hn0 : n₀ ≤ w.heap.size) (ls : Bs < n₀) (la : Ba < n₀) (lb : Bb < n₀)
    (hBs : w.cell? ⟨Bs, 0, none⟩ = some (.int .i64 steps))
    (a0 : w.cell? ⟨Ba, 0, none⟩ = some (.int .u8 a.r)) (a1 : w.cell? ⟨Ba, 1, none⟩ = some (.int .u8 a.g)) (a2 : w.cell? ⟨Ba, 2, none⟩ = some (.int .u8 a.b))
    (b0 : w.cell? ⟨Bb, 0, none⟩ = some (.int .u8 b.r)) (b1 : w.cell? ⟨Bb, 1, none⟩ = some (.int .u8 b.g)) (b2 : w.cell? ⟨Bb, 2, none⟩ = some (.int .u8 b.b)) :
    SeqStopsK Fence.wide n Try.prog 35 #[.pointer (some ⟨Bs, 0, none⟩), .pointer (some ⟨Ba, 0, none⟩), .pointer (some ⟨Bb, 0, none⟩)] (fadeEnc a b steps.toNat) (Below n₀) (fun xs => xs = List.range tot) (fun pre => ∃ k, k ≤ tot ∧ pre = List.range k) tot w := by
  rcases ht with ⟨h1, h2, h3⟩ | ⟨h1, rfl⟩
  · obtain ⟨s, rfl⟩ : ∃ s : Nat, steps = (s : Int) := ⟨steps.toNat, by omega⟩
    obtain rfl : tot = s + 1 := by omega
    exact fade_stops n n₀ Bs Ba Bb a b s ha hb (by omega) (by omega) w hn0 ls la lb hBs a0 a1 a2 b0 b1 b2
  · intro l J Jx W hW hJ _ hY h0
    have hn1 : n₀ ≤ W.heap.size := Nat.le_trans hn0 hW.size
    exact Fade1_none n l n₀ Bs Ba Bb steps h1 J Jx W ((hW.cell (p := ⟨Bs, 0, none⟩) (Nat.lt_of_lt_of_le ls hn0)).trans hBs) ls hn1 h0

/-- While the colours of a fade are looked at: how many there were; k lies in block K. -/
def FI (K : Nat) (Wt : World) (pre : List Nat) (W : World) : Prop := pre = List.range pre.length ∧ Blk W K #[.int .i64 (pre.length : Int)] 3 ∧ Below K Wt W

/-- The variables ahead of the loops. -/
structure HW (w : World) (a b : Col) (steps many : Int) (tot : Nat) (W : World) : Prop where
  below : Below w.heap.size w W
  b1 : Blk W w.heap.size #[.int .u8 a.r, .int .u8 a.g, .int .u8 a.b] 25
  b2 : Blk W (w.heap.size + 1) #[.int .u8 b.r, .int .u8 b.g, .int .u8 b.b] 25
  b3 : Blk W (w.heap.size + 1 + 1) #[.int .i64 steps] 3
  b4 : Blk W (w.heap.size + 1 + 1 + 1) #[.int .i64 many] 3
  b5 : Blk W (w.heap.size + 1 + 1 + 1 + 1) #[.bool false] 4
  b6 : Blk W (w.heap.size + 1 + 1 + 1 + 1 + 1) #[.int .u8 a.r, .int .u8 a.g, .int .u8 a.b] 25
  b7 : Blk W (w.heap.size + 1 + 1 + 1 + 1 + 1 + 1) #[.int .u8 b.r, .int .u8 b.g, .int .u8 b.b] 25
  b8 : Blk W (w.heap.size + 1 + 1 + 1 + 1 + 1 + 1 + 1) #[.int .i64 steps] 3
  b9 : Blk W (w.heap.size + 1 + 1 + 1 + 1 + 1 + 1 + 1 + 1) #[.int .i64 (tot : Int)] 3

def gd (steps : Int) : Bool := decide (1 ≤ steps) && decide (steps ≤ 1000)
theorem HW.set {w W : World} {a b : Col} {steps many : Int} {tot : Nat} {x : Int} (h : HW w a b steps many tot W) (k : Nat) (hk : (k : Int) = x) : HW w a b steps many k (W.setCell ⟨w.heap.size + 1 + 1 + 1 + 1 + 1 + 1 + 1 + 1, 0, none⟩ (.int .i64 x)) := by
  subst hk
  exact ⟨h.below.setCell (by simp; omega) _, h.b1.other _ (by simp; omega), h.b2.other _ (by simp; omega), h.b3.other _ (by simp; omega), h.b4.other _ (by simp; omega), h.b5.other _ (by simp; omega), h.b6.other _ (by simp; omega), h.b7.other _ (by simp; omega), h.b8.other _ (by simp), h.b9.set _⟩
theorem HW.kept {w W W' : World} {a b : Col} {steps many : Int} {tot K : Nat} (h : HW w a b steps many tot W) (hK : w.heap.size + 9 ≤ K) (hKW : K ≤ W.heap.size) (hb : Below K W W') : HW w a b steps many tot W' :=
  ⟨h.below.trans (hb.mono (by omega)), h.b1.below hb (by omega), h.b2.below hb (by omega), h.b3.below hb (by omega), h.b4.below hb (by omega), h.b5.below hb (by omega), h.b6.below hb (by omega), h.b7.below hb (by omega), h.b8.below hb (by omega), h.b9.below hb (by omega)⟩
/-- How a look at a fade ends early: a colour out of turn, or enough of them. -/
def FX (K : Nat) (Wt : World) (many : Int) (id : Nat) (c : Code) (pre : List Nat) (W : World) : Prop := pre ≠ List.range pre.length ∨ (c = .exit id ∧ FI K Wt pre W ∧ 1 ≤ pre.length ∧ many ≤ pre.length ∧ (pre.length = 1 ∨ (pre.length : Int) - 1 < many))
theorem FI.own {K : Nat} {Wt : World} (B : Nat) (hB : K < B) (hK : K ≤ Wt.heap.size) : OwnFrom B (FI K Wt) := by
  rintro s A C row ⟨h1, h2, h3⟩ hg hr
  refine ⟨h1, h2.kept hg (fun e => ?_), h3.grown hg (by have := h2.lt; omega) (fun k e => ?_)⟩
  · have := (hr _ e.symm).1; omega
  · have := (hr k e).1; omega
theorem DefAt.put {W : World} {D D' : Nat} (h : DefAt W D) (o : Obj) (hne : D ≠ D') : DefAt (W.putObj D' o) D :=
  ((grownBy_putObj' W D' o).block D h.lt (by simp; omega)).trans h
theorem BS.put2 {n : Nat} {w W : World} (h : BS n w W) (D : Nat) (o : Obj) (hD : n ≤ D) : BS n w (W.putObj D o) := ⟨h.put D o hD, by have := h.2; simpa [World.putObj] using this⟩
theorem FI.step {K : Nat} {W : World} (hK : K < W.heap.size) (v : Value) (g : Gr) (o : Obj) : Below K W ((xt (W.setCell ⟨K, 0, none⟩ v) g).alloc o) :=
  ((((show BS K W W from ⟨Below.refl _ _, Nat.le_of_lt hK⟩).set ⟨K, 0, none⟩ _ (Nat.le_refl _)).xt g).alloc _).1
theorem FI.keeps (K B : Nat) (W : World) (v : Value) (g : Gr) (o : Obj) : KeepsFrom B W ((xt (W.setCell ⟨K, 0, none⟩ v) g).alloc o) :=
  ((KeepsOthers.setCell _ _ _).from _).trans ((KeepsFrom.of_grownBy (grown_xt _ g) (fun j e => by cases e)).trans ((KeepsOthers.alloc _ _).from _))
theorem FI.next {K x : Nat} {Wt W : World} {pre : List Nat} (h1 : pre = List.range pre.length) (h2 : Blk W K #[.int .i64 (pre.length : Int)] 3) (h3 : Below K Wt W) (hx : x = pre.length) (g : Gr) (o : Obj) :
    FI K Wt (pre ++ [x]) ((xt (W.setCell ⟨K, 0, none⟩ (.int .i64 ((pre.length : Int) + 1))) g).alloc o) := by
  refine ⟨?_, ?_, h3.trans (FI.step h2.lt _ g o)⟩
  · simp only [List.length_append, List.length_cons, List.length_nil, Nat.zero_add, List.range_succ]
    rw [← h1, hx]
  · have h5 := ((h2.set (k := 0) (.int .i64 ((pre.length : Int) + 1))).xt g).alloc o
    simpa using h5
set_option maxRecDepth 100000 in
set_option maxHeartbeats 6400000 in
theorem ColorFades_in (a b : Col) (steps many : Int) (tot : Nat) (ha : a.ok) (hb : b.ok) (os : I64 steps) (om : I64 many) (ht : Tot steps tot) (w : World) :
    Calls Try.prog 5 #[.agg #[.int .u8 a.r, .int .u8 a.g, .int .u8 a.b], .agg #[.int .u8 b.r, .int .u8 b.g, .int .u8 b.b], .int .i64 steps, .int .i64 many] w (RetB (.bool true) w) := by
  have HT := Lib.hid ht
  have hnf := func_nil
  refine (callsIn_wide (n := 5)).1 (callsIn_of_wp_marks Try.func5 rfl trivial (wpIn_wide.2 ?_) rfl)
  simp only [Try.ntmps5, List.size_toArray, List.length_cons, List.length_nil, Nat.reduceAdd, Nat.reduceSub, Array.replicate_succ, Array.replicate_zero, List.push_toArray, List.append_toArray, List.nil_append, List.cons_append]
  go_upto_region 5 with (go_at_call 16; refine (Fade_any a b steps _).mono ?_; rintro e w' ⟨rfl, rfl⟩)
  obtain ⟨Wx, hWx, HX⟩ : ∃ Wx, (((((((((w.alloc (.cells #[.int .u8 a.r, .int .u8 a.g, .int .u8 a.b] 25)).alloc (.cells #[.int .u8 b.r, .int .u8 b.g, .int .u8 b.b] 25)).alloc (.cells #[.int .i64 steps] 3)).alloc (.cells #[.int .i64 many] 3)).alloc (.cells #[.bool false] 4)).alloc (.cells #[.int .u8 a.r, .int .u8 a.g, .int .u8 a.b] 25)).alloc (.cells #[.int .u8 b.r, .int .u8 b.g, .int .u8 b.b] 25)).alloc (.cells #[.int .i64 steps] 3)).alloc (.cells #[.int .i64 0] 3)) = Wx ∧ Hid (HW w a b steps many 0 Wx) := ⟨_, rfl, Lib.hid (by
    refine ⟨(by repeat' (first | exact Below.refl _ _ | assumption | refine Below.xt ?_ ?_ _ | refine Below.alloc ?_ ?_ _ | refine Below.drew ?_ | refine Below.setCell ?_ ?_ _ | (simp; done) | (simp; omega))), ?_, ?_, ?_, ?_, ?_, ?_, ?_, ?_, ?_⟩
    all_goals (repeat (first | (refine Blk.new _ _ _ ?_; simp; done) | refine Blk.alloc ?_ _ | refine Blk.xt ?_ _ | refine Blk.other ?_ _ ?_)))⟩
  rw [hWx]
  clear hWx
  have c3 := HX.out.b3.cell (j := 0) rfl
  have q3 : old (w.heap.size + 1 + 1) Wx := HX.out.b3.lt
  have c9 := HX.out.b9.cell (j := 0) rfl
  have f9 : Wx.frozen? ⟨w.heap.size + 1 + 1 + 1 + 1 + 1 + 1 + 1 + 1, 0, none⟩ = false := HX.out.b9.frozen
  have q9 : old (w.heap.size + 1 + 1 + 1 + 1 + 1 + 1 + 1 + 1) Wx := HX.out.b9.lt
  go_cut [28] from 23 to 27 (fun s wx => s = .bool (gd steps) ∧ Wx = wx)
  case first =>
    rcases Bool.eq_false_or_eq_true (gd steps) with hg | hg
    · have HE := Lib.hid hg
      simp only [gd, Bool.and_eq_true, decide_eq_true_eq] at hg
      have e1 : decide ((1 : Int) ≤ steps) = true := by simpa using hg.1
      have e2 : decide (steps ≤ 1000) = true := by simpa using hg.2
      clear hg
      go_wp2_with fail
      go_meet
      exact ⟨by rw [HE.out], rfl⟩
    · have HE := Lib.hid hg
      have hg' : decide ((1 : Int) ≤ steps) = false ∨ (decide ((1 : Int) ≤ steps) = true ∧ decide (steps ≤ 1000) = false) := by
        simp only [gd, Bool.and_eq_false_iff, decide_eq_false_iff_not] at hg
        simp only [decide_eq_false_iff_not, decide_eq_true_eq]
        omega
      clear hg
      rcases hg' with e1 | ⟨e1, e2⟩
      · go_wp2_with fail
        go_meet
        exact ⟨by rw [HE.out], rfl⟩
      · go_wp2_with fail
        go_meet
        exact ⟨by rw [HE.out], rfl⟩
  case rest =>
  obtain ⟨rfl, rfl⟩ := hcut
  go_upto_if 28 with fail
  go_cut [10, 28] from 29 to 30 (fun s10 s28 wx => s10 = .pointer (some ⟨w.heap.size + 1 + 1 + 1 + 1 + 1 + 1 + 1 + 1, 0, none⟩) ∧ HW w a b steps many tot wx)
  case first =>
    rcases HT.out with ⟨h1, h2, h3⟩ | ⟨h1, h3⟩
    · have e1 : gd steps = true := by unfold gd; simp; omega
      rw [e1]
      clear e1
      have H3 := Lib.hid h3
      clear h3
      go_wp2_with fail
      go_meet
      exact ⟨rfl, HX.out.set tot H3.out⟩
    · subst h3
      have e1 : gd steps = false := by unfold gd; simp; omega
      rw [e1]
      clear e1
      go_wp2_with fail
      go_meet
      exact ⟨rfl, HX.out⟩
  case rest =>
    obtain ⟨rfl, hh⟩ := hcut
    have HH := Lib.hid hh
    clear hh
    go_wp2_with fail
    refine wp_loop_rounds 3 ?_
    rw [rounds_succ]
    have c3 := HH.out.b3.cell (j := 0) rfl
    go_wp2_with fail
    have hs : w.heap.size + 1 + 1 + 1 + 1 + 1 + 1 + 1 + 1 < wc.heap.size := HH.out.b9.lt
    have HB := HH.out.below
    have hs9 : w.heap.size + 9 ≤ wc.heap.size := hs
    have HX2 := Lib.hid (show HW w a b steps many tot ((wc.alloc (.cells #[.int .i64 0] 3)).alloc (.cells #[.int .i64 0] 3)) from HW.kept HH.out hs9 (Nat.le_refl _) (by repeat' (first | exact Below.refl _ _ | assumption | refine Below.xt ?_ ?_ _ | refine Below.alloc ?_ ?_ _ | refine Below.drew ?_ | refine Below.setCell ?_ ?_ _ | (simp; done) | (simp; omega))))
    have HT2 := Lib.hid (show Blk ((wc.alloc (.cells #[.int .i64 0] 3)).alloc (.cells #[.int .i64 0] 3)) wc.heap.size #[.int .i64 0] 3 from (Blk.new _ _ _ rfl).alloc _)
    have HK2 := Lib.hid (show Blk ((wc.alloc (.cells #[.int .i64 0] 3)).alloc (.cells #[.int .i64 0] 3)) (wc.heap.size + 1) #[.int .i64 0] 3 from Blk.new _ _ _ (by simp))
    have hs2 : (((wc.alloc (.cells #[.int .i64 0] 3)).alloc (.cells #[.int .i64 0] 3))).heap.size = wc.heap.size + 2 := by simp
    obtain ⟨Wt, hWt⟩ : ∃ Wt, ((wc.alloc (.cells #[.int .i64 0] 3)).alloc (.cells #[.int .i64 0] 3)) = Wt := ⟨_, rfl⟩
    rw [hWt] at hs2 HX2 HT2 HK2 ⊢
    clear hWt HX HB c3 q3 c9 f9 q9
    have HSQ := fade_seq 4 (wc.heap.size + 1) (w.heap.size + 1 + 1 + 1 + 1 + 1 + 1 + 1) (w.heap.size + 1 + 1 + 1 + 1 + 1) (w.heap.size + 1 + 1 + 1 + 1 + 1 + 1) a b steps tot ha hb HT.out Wt (by omega) (by omega) (by omega) (by omega)
        (HX2.out.b8.cell rfl) (HX2.out.b6.cell rfl) (HX2.out.b6.cell rfl) (HX2.out.b6.cell rfl) (HX2.out.b7.cell rfl) (HX2.out.b7.cell rfl) (HX2.out.b7.cell rfl)
    obtain ⟨sn, hsn⟩ : ∃ sn : Nat, steps.toNat = sn := ⟨_, rfl⟩
    rw [hsn] at HSQ
    have HSN := Lib.hid hsn
    clear hsn
    refine wp_rangeH 5 (by omega) (gf := 35) (lb := #[.pointer (some ⟨w.heap.size + 1 + 1 + 1 + 1 + 1 + 1 + 1, 0, none⟩), .pointer (some ⟨w.heap.size + 1 + 1 + 1 + 1 + 1, 0, none⟩), .pointer (some ⟨w.heap.size + 1 + 1 + 1 + 1 + 1 + 1, 0, none⟩)]) rfl (enters_of Try.func35 (by kernel_rfl) rfl)
      HSQ
      (by omega) (fun _ => rfl)
      (fun pre W => FI (wc.heap.size + 1) Wt pre W ∧ (pre.length = 0 ∨ (pre.length : Int) < many))
      (FX (wc.heap.size + 1) Wt many 2) ?hI ?hIx ?h0
      (fun x m W => wc.heap.size + 1 < m ∧ Blk W m #[.int .u8 (mixCol a b (x : Int) (sn : Int)).r, .int .u8 (mixCol a b (x : Int) (sn : Int)).g, .int .u8 (mixCol a b (x : Int) (sn : Int)).b] 25) ?hBx
      (fun x m T => (T.setIfInBounds 13 (.int .i64 (x : Int))).setIfInBounds 14 (.pointer (some ⟨m, 0, none⟩))) ?assign ?body ?done ?stop
    case hI =>
      rintro s A B row ⟨h1, h2⟩ hg hr
      exact ⟨FI.own _ (by omega) (by omega) s A B row h1 hg hr, h2⟩
    case hIx =>
      rintro c s A B row (h1 | ⟨h0, h1, h2⟩) hg hr
      · exact .inl h1
      · exact .inr ⟨h0, FI.own _ (by omega) (by omega) s A B row h1 hg hr, h2⟩
    case h0 => exact ⟨⟨rfl, HK2.out, Below.refl _ _⟩, .inl rfl⟩
    case hBx =>
      rintro x m s A B row ⟨h1, h2⟩ hg hr
      refine ⟨h1, h2.kept hg (fun e => ?_)⟩
      obtain ⟨o, ho, hc⟩ := (hr m e.symm).2
      rw [h2] at ho
      injection ho with ho
      subst ho
      cases hc
    case assign =>
      rintro l pre x W K ⟨⟨hI1, hI2, hI3⟩, hI4⟩ hK
      simp only [fadeEnc, List.zip_toArray, List.zip_cons_cons, List.zip_nil_right, List.foldl_toArray, List.foldl_cons, List.foldl_nil, List.setIfInBounds_toArray, List.set_cons_succ, List.set_cons_zero] at hK ⊢
      have HK := Lib.hid hK
      clear hK
      gi_wp2
      have hlt := hI2.lt
      exact HK.out W.heap.size _ ((KeepsOthers.alloc _ _).from _) ((Below.refl _ W).alloc (by omega) _) ⟨⟨hI1, hI2.alloc _, hI3.alloc (by omega) _⟩, hI4⟩ ⟨by omega, Blk.new _ _ _ rfl⟩
    case body =>
      rintro l pre x m W hl ⟨⟨hI1, hI2, hI3⟩, hI4⟩ ⟨hm, hx⟩ hN
      simp only [fadeEnc, List.zip_toArray, List.zip_cons_cons, List.zip_nil_right, List.foldl_toArray, List.foldl_cons, List.foldl_nil, List.setIfInBounds_toArray, List.set_cons_succ, List.set_cons_zero]
      have hst : (sn : Int) = steps ∧ 1 ≤ steps ∧ steps ≤ 1000 ∧ (tot : Int) = steps + 1 := by have := HSN.out; rcases HT.out with ⟨h1, h2, h3⟩ | ⟨h1, h3⟩ <;> omega
      obtain ⟨hst, hs1, hs1000, htot⟩ := hst
      rw [hst] at hx
      have CM0 := fun (hxe : x = pre.length) => refMix_ok a b (x : Int) steps W ha hb hs1 (by omega) (by omega) (by omega)
      obtain ⟨cmx, hcmx⟩ : ∃ c, mixCol a b (x : Int) steps = c := ⟨_, rfl⟩
      rw [hcmx] at hx CM0
      clear hcmx
      have HL := Lib.hid hI1
      have HB3 := Lib.hid hI3
      have HXW := Lib.hid (HX2.out.kept (K := wc.heap.size + 1) (by omega) (by omega) hI3)
      have HTW := Lib.hid (HT2.out.below hI3 (by omega))
      have ck := hI2.cell (j := 0) rfl
      have fk := hI2.frozen (j := 0)
      have ct := HTW.out.cell (j := 0) rfl
      have ca0 := HXW.out.b1.cell (j := 0) rfl
      have ca1 := HXW.out.b1.cell (j := 1) rfl
      have ca2 := HXW.out.b1.cell (j := 2) rfl
      have cb0 := HXW.out.b2.cell (j := 0) rfl
      have cb1 := HXW.out.b2.cell (j := 1) rfl
      have cb2 := HXW.out.b2.cell (j := 2) rfl
      have cs := HXW.out.b3.cell (j := 0) rfl
      have cm := HXW.out.b4.cell (j := 0) rfl
      have c8 := HXW.out.b5.cell (j := 0) rfl
      have f8 := HXW.out.b5.frozen (j := 0)
      have c9 := HXW.out.b9.cell (j := 0) rfl
      have m0 := hx.cell (j := 0) rfl
      have m1 := hx.cell (j := 1) rfl
      have m2 := hx.cell (j := 2) rfl
      have ok : old (wc.heap.size + 1) W := hI2.lt
      have om_ : old m W := hx.lt
      have ot : old wc.heap.size W := HTW.out.lt
      have o1 : old w.heap.size W := HXW.out.b1.lt
      have o2 : old (w.heap.size + 1) W := HXW.out.b2.lt
      have o3 : old (w.heap.size + 1 + 1) W := HXW.out.b3.lt
      have o4 : old (w.heap.size + 1 + 1 + 1) W := HXW.out.b4.lt
      have o5 : old (w.heap.size + 1 + 1 + 1 + 1) W := HXW.out.b5.lt
      have o9 : old (w.heap.size + 1 + 1 + 1 + 1 + 1 + 1 + 1 + 1) W := HXW.out.b9.lt
      have HXB := Lib.hid hx
      have HIB := Lib.hid hI2
      have d0 : decide ((tot : Int) ≤ (pre.length : Int)) = false := by simp; omega
      have HTOT := Lib.hid htot
      have hkb : (pre.length : Int) < 2000 := by omega
      clear hx hI2 hI3 hI1 htot
      by_cases hxe : x = pre.length
      · have e1 : ((x : Int) != (pre.length : Int)) = false := by simp; omega
        have CM := Lib.hid (CM0 hxe)
        clear CM0
        have hw : IntKind.i64.wrap ((pre.length : Int) + 1) = (pre.length : Int) + 1 := IntWalk.i64_in _ (by omega)
        have HE := Lib.hid hxe
        clear hxe
        have HI4 := Lib.hid hI4
        clear hI4
        by_cases hmy : many ≤ (pre.length : Int) + 1
        · have e2 : decide (many ≤ (pre.length : Int) + 1) = true := by simpa using hmy
          have HM := Lib.hid hmy
          clear hmy
          gi_wp2_with (refine ⟨trivial, ?_⟩; refine (RetB.round CM.out).mono ?_; rintro e' w' ⟨rfl, g, rfl⟩)
          refine ⟨FI.keeps _ _ _ _ _ _, .inr ⟨rfl, FI.next HL.out HIB.out HB3.out HE.out _ _, ?_⟩⟩
          have h4 := HI4.out
          have h5 := HM.out
          simp only [List.length_append, List.length_cons, List.length_nil]
          omega
        · have e2 : decide (many ≤ (pre.length : Int) + 1) = false := by simpa using hmy
          have HM := Lib.hid hmy
          clear hmy
          gi_wp2_with (refine ⟨trivial, ?_⟩; refine (RetB.round CM.out).mono ?_; rintro e' w' ⟨rfl, g, rfl⟩)
          refine ⟨FI.keeps _ _ _ _ _ _, FI.step HIB.out.lt _ _ _, FI.next HL.out HIB.out HB3.out HE.out _ _, ?_⟩
          have h5 := HM.out
          simp only [List.length_append, List.length_cons, List.length_nil]
          omega
      · have e1 : ((x : Int) != (pre.length : Int)) = true := by simp; omega
        have HE := Lib.hid hxe
        clear hxe
        gi_wp2
        exact ⟨(KeepsOthers.setCell _ _ _).from _, .inl fun h => HE.out (range_last h)⟩
    case' done =>
      rintro D xs W hD rfl ⟨⟨_, hI2, hI3⟩, hI4⟩ hK
      simp only [List.length_range] at hI2 hI4
      have HN := Lib.hid (show (tot : Int) = min (tot : Int) (max 1 many) by omega)
      have hp : (tot : Int) ≤ 2000 := by rcases HT.out with h | h <;> omega
      clear hI4
      have hI2 := (⟨tot, hI2, HN, hp⟩ : ∃ p : Nat, Blk W (wc.heap.size + 1) #[.int .i64 (p : Int)] 3 ∧ Hid ((p : Int) = min (tot : Int) (max 1 many)) ∧ (p : Int) ≤ 2000)
    case' stop =>
      rintro D c pre W hD ⟨k, hk, hk2⟩ (hx | ⟨rfl, ⟨h1, hI2, hI3⟩, hk1, hk3, hk4⟩) hK
      · exact absurd (by rw [hk2]; simp) hx
      have hlen : pre.length = k := by rw [hk2]; simp
      have HN := Lib.hid (show (pre.length : Int) = min (tot : Int) (max 1 many) by omega)
      have hp : (pre.length : Int) ≤ 2000 := by rcases HT.out with h | h <;> omega
      have hI2 := (⟨pre.length, hI2, HN, hp⟩ : ∃ p : Nat, Blk W (wc.heap.size + 1) #[.int .i64 (p : Int)] 3 ∧ Hid ((p : Int) = min (tot : Int) (max 1 many)) ∧ (p : Int) ≤ 2000)
      clear hk hk1 hk3 hk4 hk2 h1 hlen HN hp
    all_goals
      obtain ⟨p, hpB, HP, hp2⟩ := hI2
      have HXW := Lib.hid (HX2.out.kept (K := wc.heap.size + 1) (by omega) (by omega) hI3)
      have HTW := Lib.hid (HT2.out.below hI3 (by omega))
      have ck := hpB.cell (j := 0) rfl
      have ct := HTW.out.cell (j := 0) rfl
      have cm := HXW.out.b4.cell (j := 0) rfl
      have c8 := HXW.out.b5.cell (j := 0) rfl
      have f8 := HXW.out.b5.frozen (j := 0)
      have c9 := HXW.out.b9.cell (j := 0) rfl
      have ok : old (wc.heap.size + 1) W := hpB.lt
      have ot : old wc.heap.size W := HTW.out.lt
      have o4 : old (w.heap.size + 1 + 1 + 1) W := HXW.out.b4.lt
      have o5 : old (w.heap.size + 1 + 1 + 1 + 1) W := HXW.out.b5.lt
      have o9 : old (w.heap.size + 1 + 1 + 1 + 1 + 1 + 1 + 1 + 1) W := HXW.out.b9.lt
      have HD := Lib.hid hK
      have HDl := Lib.hid hD
      have HPB := Lib.hid hpB
      have HI3 := Lib.hid hI3
      clear hK hD hpB hI3
    all_goals
      go_wp2_with fail
      rw [rounds_succ]
      go_wp2_with fail
      have hkW : wc.heap.size + 1 < W.heap.size := ok
      have hs9W : w.heap.size + 9 ≤ W.heap.size := by omega
      have HY2 := Lib.hid (show HW w a b steps many tot ((W.alloc (.cells #[.int .i64 1] 3)).alloc (.cells #[.int .i64 0] 3)) from HW.kept HXW.out hs9W (Nat.le_refl _) (by repeat' (first | exact Below.refl _ _ | assumption | refine Below.xt ?_ ?_ _ | refine Below.alloc ?_ ?_ _ | refine Below.drew ?_ | refine Below.setCell ?_ ?_ _ | (simp; done) | (simp; omega))))
      have HU2 := Lib.hid (show Blk ((W.alloc (.cells #[.int .i64 1] 3)).alloc (.cells #[.int .i64 0] 3)) W.heap.size #[.int .i64 1] 3 from (Blk.new _ _ _ rfl).alloc _)
      have HL2 := Lib.hid (show Blk ((W.alloc (.cells #[.int .i64 1] 3)).alloc (.cells #[.int .i64 0] 3)) (W.heap.size + 1) #[.int .i64 0] 3 from Blk.new _ _ _ (by simp))
      have HE2 := Lib.hid (show DefAt ((W.alloc (.cells #[.int .i64 1] 3)).alloc (.cells #[.int .i64 0] 3)) D from ((show DefAt W D from HD.out).alloc _).alloc _)
      have hDW : D < W.heap.size := (show DefAt W D from HD.out).lt
      have hs3 : (((W.alloc (.cells #[.int .i64 1] 3)).alloc (.cells #[.int .i64 0] 3))).heap.size = W.heap.size + 2 := by simp
      obtain ⟨Wu, hWu⟩ : ∃ Wu, ((W.alloc (.cells #[.int .i64 1] 3)).alloc (.cells #[.int .i64 0] 3)) = Wu := ⟨_, rfl⟩
      rw [hWu] at hs3 HY2 HU2 HL2 HE2 ⊢
      clear hWu HX2 ck ct cm c8 f8 c9 ok ot o4 o5 o9 HSQ HXW HTW HT2 HK2 HPB HI3 HP
      have HSR := fade_seq 4 (W.heap.size + 1) (w.heap.size + 1 + 1 + 1 + 1 + 1 + 1 + 1) (w.heap.size + 1 + 1 + 1 + 1 + 1) (w.heap.size + 1 + 1 + 1 + 1 + 1 + 1) a b steps tot ha hb HT.out Wu (by omega) (by omega) (by omega) (by omega)
        (HY2.out.b8.cell rfl) (HY2.out.b6.cell rfl) (HY2.out.b6.cell rfl) (HY2.out.b6.cell rfl) (HY2.out.b7.cell rfl) (HY2.out.b7.cell rfl) (HY2.out.b7.cell rfl)
      rw [HSN.out] at HSR
      refine wp_rangeHD 5 (by omega) (gf := 35) (lb := #[.pointer (some ⟨w.heap.size + 1 + 1 + 1 + 1 + 1 + 1 + 1, 0, none⟩), .pointer (some ⟨w.heap.size + 1 + 1 + 1 + 1 + 1, 0, none⟩), .pointer (some ⟨w.heap.size + 1 + 1 + 1 + 1 + 1 + 1, 0, none⟩)]) rfl (enters_of Try.func35 (by kernel_rfl) rfl)
        HSR (by omega) (fun _ => rfl)
        (fun pre W' => FI (W.heap.size + 1) Wu pre W') (fun _ pre _ => pre ≠ List.range pre.length) ?hIb (fun c s A B row h _ _ => h) ?h0b
        (fun x m W' => W.heap.size + 1 < m ∧ Blk W' m #[.int .u8 (mixCol a b (x : Int) (sn : Int)).r, .int .u8 (mixCol a b (x : Int) (sn : Int)).g, .int .u8 (mixCol a b (x : Int) (sn : Int)).b] 25) ?hBxb
        (fun x m T => (T.setIfInBounds 13 (.int .i64 (x : Int))).setIfInBounds 14 (.pointer (some ⟨m, 0, none⟩))) ?assignb ?bodyb ?doneb ?stopb
      case hIb => exact FI.own _ (by omega) (by omega)
      case h0b => exact ⟨rfl, HL2.out, Below.refl _ _⟩
      case hBxb =>
        rintro x m s A B row ⟨h1, h2⟩ hg hr
        refine ⟨h1, h2.kept hg (fun e => ?_)⟩
        obtain ⟨o, ho, hc⟩ := (hr m e.symm).2
        rw [h2] at ho
        injection ho with ho
        subst ho
        cases hc
      case assignb =>
        rintro l pre x W1 K ⟨hI1, hI2, hI3⟩ hK
        simp only [fadeEnc, List.zip_toArray, List.zip_cons_cons, List.zip_nil_right, List.foldl_toArray, List.foldl_cons, List.foldl_nil, List.setIfInBounds_toArray, List.set_cons_succ, List.set_cons_zero] at hK ⊢
        have HK := Lib.hid hK
        clear hK
        gi_wp2
        have hlt := hI2.lt
        exact HK.out W1.heap.size _ ((KeepsOthers.alloc _ _).from _) ((Below.refl _ W1).alloc (by omega) _) ⟨hI1, hI2.alloc _, hI3.alloc (by omega) _⟩ ⟨by omega, Blk.new _ _ _ rfl⟩
      case bodyb =>
        rintro l pre x m W1 hl ⟨hI1, hI2, hI3⟩ ⟨hm, hx⟩ hN
        simp only [fadeEnc, List.zip_toArray, List.zip_cons_cons, List.zip_nil_right, List.foldl_toArray, List.foldl_cons, List.foldl_nil, List.setIfInBounds_toArray, List.set_cons_succ, List.set_cons_zero]
        have hst : (sn : Int) = steps ∧ 1 ≤ steps ∧ steps ≤ 1000 ∧ (tot : Int) = steps + 1 := by have := HSN.out; rcases HT.out with ⟨h1, h2, h3⟩ | ⟨h1, h3⟩ <;> omega
        obtain ⟨hst, hs1, hs1000, htot⟩ := hst
        rw [hst] at hx
        have CM0 := fun (hxe : x = pre.length) => refMix_ok a b (x : Int) steps W1 ha hb hs1 (by omega) (by omega) (by omega)
        obtain ⟨cmx, hcmx⟩ : ∃ c, mixCol a b (x : Int) steps = c := ⟨_, rfl⟩
        rw [hcmx] at hx CM0
        clear hcmx
        have HL := Lib.hid hI1
        have HB3 := Lib.hid hI3
        have HXW := Lib.hid (HY2.out.kept (K := W.heap.size + 1) (by omega) (by omega) hI3)
        have HTW := Lib.hid (HU2.out.below hI3 (by omega))
        have ck := hI2.cell (j := 0) rfl
        have fk := hI2.frozen (j := 0)
        have ct := HTW.out.cell (j := 0) rfl
        have ca0 := HXW.out.b1.cell (j := 0) rfl
        have ca1 := HXW.out.b1.cell (j := 1) rfl
        have ca2 := HXW.out.b1.cell (j := 2) rfl
        have cb0 := HXW.out.b2.cell (j := 0) rfl
        have cb1 := HXW.out.b2.cell (j := 1) rfl
        have cb2 := HXW.out.b2.cell (j := 2) rfl
        have cs := HXW.out.b3.cell (j := 0) rfl
        have cm := HXW.out.b4.cell (j := 0) rfl
        have c8 := HXW.out.b5.cell (j := 0) rfl
        have f8 := HXW.out.b5.frozen (j := 0)
        have c9 := HXW.out.b9.cell (j := 0) rfl
        have m0 := hx.cell (j := 0) rfl
        have m1 := hx.cell (j := 1) rfl
        have m2 := hx.cell (j := 2) rfl
        have ok : old (W.heap.size + 1) W1 := hI2.lt
        have om_ : old m W1 := hx.lt
        have ot : old W.heap.size W1 := HTW.out.lt
        have o1 : old w.heap.size W1 := HXW.out.b1.lt
        have o2 : old (w.heap.size + 1) W1 := HXW.out.b2.lt
        have o3 : old (w.heap.size + 1 + 1) W1 := HXW.out.b3.lt
        have o4 : old (w.heap.size + 1 + 1 + 1) W1 := HXW.out.b4.lt
        have o5 : old (w.heap.size + 1 + 1 + 1 + 1) W1 := HXW.out.b5.lt
        have o9 : old (w.heap.size + 1 + 1 + 1 + 1 + 1 + 1 + 1 + 1) W1 := HXW.out.b9.lt
        have HXB := Lib.hid hx
        have HIB := Lib.hid hI2
        have d0 : decide ((tot : Int) ≤ (pre.length : Int)) = false := by simp; omega
        have HTOT := Lib.hid htot
        have hkb : (pre.length : Int) < 2000 := by omega
        clear hx hI2 hI3 hI1 htot
        by_cases hxe : x = pre.length
        · have e1 : ((x : Int) != (pre.length : Int)) = false := by simp; omega
          have CM := Lib.hid (CM0 hxe)
          clear CM0
          have hw : IntKind.i64.wrap ((pre.length : Int) + 1) = (pre.length : Int) + 1 := IntWalk.i64_in _ (by omega)
          have HE := Lib.hid hxe
          clear hxe
          gi_wp2_with (refine ⟨trivial, ?_⟩; refine (RetB.round CM.out).mono ?_; rintro e' w' ⟨rfl, g, rfl⟩)
          exact ⟨FI.keeps _ _ _ _ _ _, FI.step HIB.out.lt _ _ _, FI.next HL.out HIB.out HB3.out HE.out _ _⟩
        · have e1 : ((x : Int) != (pre.length : Int)) = true := by simp; omega
          have HE := Lib.hid hxe
          clear hxe
          gi_wp2
          exact ⟨(KeepsOthers.setCell _ _ _).from _, fun h => HE.out (range_last h)⟩
      case stopb =>
        rintro D' c pre W1 hD ⟨k, hk, rfl⟩ hx _
        exact absurd (by simp) hx
      case doneb =>
        rintro D' xs W1 hD rfl ⟨_, hI2, hI3⟩ hK
        simp only [List.length_range] at hI2
        have HXW := Lib.hid (HY2.out.kept (K := W.heap.size + 1) (by omega) (by omega) hI3)
        have HTW := Lib.hid (HU2.out.below hI3 (by omega))
        have ck := hI2.cell (j := 0) rfl
        have ct := HTW.out.cell (j := 0) rfl
        have cm := HXW.out.b4.cell (j := 0) rfl
        have c8 := HXW.out.b5.cell (j := 0) rfl
        have f8 := HXW.out.b5.frozen (j := 0)
        have c9 := HXW.out.b9.cell (j := 0) rfl
        have ok : old (W.heap.size + 1) W1 := hI2.lt
        have ot : old W.heap.size W1 := HTW.out.lt
        have o4 : old (w.heap.size + 1 + 1 + 1) W1 := HXW.out.b4.lt
        have o5 : old (w.heap.size + 1 + 1 + 1 + 1) W1 := HXW.out.b5.lt
        have o9 : old (w.heap.size + 1 + 1 + 1 + 1 + 1 + 1 + 1 + 1) W1 := HXW.out.b9.lt
        have HDa := Lib.hid (show DefAt W1 D' from hK)
        have HDb := Lib.hid (show DefAt W1 D from (hI3.block D (by omega)).trans HE2.out)
        have HDn := Lib.hid (show D' ≠ D ∧ D ≠ w.heap.size + 1 + 1 + 1 + 1 ∧ D' ≠ w.heap.size + 1 + 1 + 1 + 1 ∧ w.heap.size ≤ D ∧ w.heap.size ≤ D' by have := HDl.out; omega)
        have HBS := Lib.hid (show BS w.heap.size w W1 from ⟨HXW.out.below, by have h1 : W.heap.size < W1.heap.size := ot; omega⟩)
        clear hK hD hI2 hI3
        go_wp2_with fail
        rw [rounds_succ]
        go_wp2_with (go_at_call 10; refine (RetB.grown (known_any _)).mono ?_; rintro e' w' ⟨rfl, g, rfl⟩)
        obtain ⟨hn1, hn2, hn3, hn4, hn5⟩ := HDn.out
        refine ⟨by simp, .inl ⟨_, _, rfl, run_takeDeferred (show DefAt _ D' from ?_), by simp, .inl ⟨_, _, rfl, run_takeDeferred (show DefAt _ D from ?_), ?_⟩⟩⟩
        · repeat (first | exact HDa.out | refine DefAt.xt ?_ _ | refine DefAt.alloc ?_ _ | refine DefAt.set ?_ _ _ hn3)
        · refine DefAt.put ?_ _ (Ne.symm hn1)
          repeat (first | exact HDb.out | refine DefAt.xt ?_ _ | refine DefAt.alloc ?_ _ | refine DefAt.set ?_ _ _ hn2)
        · refine ⟨.bool true, ?_, ?_⟩
          · simp [results, Try.results5, go_sem, putObj_cell _ _ _ _ _ hn2, putObj_cell _ _ _ _ _ hn3]
            go_simp
          · refine RetB.of rfl (BS.put (BS.put2 ?_ D' _ hn5) D _ hn4)
            repeat (first | exact HBS.out | refine BS.xt ?_ _ | refine BS.alloc ?_ _ | refine BS.set ?_ _ _ (by simp; omega))
/-- However long the fade, its colours come in order, at both turns. -/
theorem ColorFades_walk (a b : Col) (steps many : Int) (w : World) (ha : a.ok) (hb : b.ok) (os : I64 steps) (om : I64 many) :
    Calls Try.prog 5 #[.agg #[.int .u8 a.r, .int .u8 a.g, .int .u8 a.b], .agg #[.int .u8 b.r, .int .u8 b.g, .int .u8 b.b], .int .i64 steps, .int .i64 many] w (RetB (.bool true) w) := by
  by_cases h : 1 ≤ steps ∧ steps ≤ 1000
  · exact ColorFades_in a b steps many (steps + 1).toNat ha hb os om (.inl ⟨h.1, h.2, by omega⟩) w
  · exact ColorFades_in a b steps many 0 ha hb os om (.inr ⟨by omega, rfl⟩) w
end Go.Proofs.Ytkekhnclbkachaa

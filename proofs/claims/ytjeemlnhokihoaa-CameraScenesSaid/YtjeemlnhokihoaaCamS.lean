/- Walks: a stable sort of spots by insertion. Conditions stand in each theorem. -/
import Derived.Test.YtjeemlnhokihoaaCamW1
import Derived.Test.YtjeemlnhokihoaaSv
import Derived.Laws.OwnMore
import Derived.BigRegion
import Derived.ChangeAlike
namespace Go.Proofs.Ytjeemlnhokihoaa
open Go.RowKit
set_option linter.unusedVariables false

structure Sp where
  ix : Int
  x : Int
  y : Int
  r : Int
  d : Int
def scell (s : Sp) (j : Nat) : Value := if j = 0 then .int .i64 s.ix else if j = 1 then .int .i64 s.x else if j = 2 then .int .i64 s.y else if j = 3 then .int .i64 s.r else .int .i64 s.d
def Sp.ok (s : Sp) : Prop := -1000000000000 ≤ s.d ∧ s.d ≤ 1000000000000

set_option maxHeartbeats 400000 in
theorem cmp_any (a b : Sp) (w : World) (ha : a.ok) (hb : b.ok) : Calls Try.prog 40 #[.agg #[.int .i64 a.ix, .int .i64 a.x, .int .i64 a.y, .int .i64 a.r, .int .i64 a.d], .agg #[.int .i64 b.ix, .int .i64 b.x, .int .i64 b.y, .int .i64 b.r, .int .i64 b.d]] w (RetB (.int .i64 (b.d - a.d)) w) := by
  obtain ⟨a1, a2⟩ := ha
  obtain ⟨b1, b2⟩ := hb
  go_enter Try.func40, Try.ntmps40
  go_wp2_with (first
    | (refine wp_region_xt (by kernel_rfl) (by kernel_rfl) ?_; (repeat (go_big_quiet_step (first | fail))); refine wpQuiet_nil ?_; intro g))
  go_ret
  exact RetB.of rfl (by repeat' (first | exact Below.refl _ _ | assumption | refine Below.xt ?_ ?_ _ | refine Below.alloc ?_ ?_ _ | refine Below.drew ?_ | refine Below.setCell ?_ ?_ _ | (simp; done) | (simp; omega)))

/-! ### What it comes to -/
def swp (f : Nat → Sp) (j : Nat) : Nat → Sp := fun k => if k = j then f (j - 1) else if k + 1 = j then f j else f k
/-- Element j is carried down to its place. -/
def dwn (f : Nat → Sp) : Nat → (Nat → Sp)
  | 0 => f
  | j + 1 => if (f j).d < (f (j + 1)).d then dwn (swp f (j + 1)) j else f
/-- The first k are sorted. -/
def srt (f : Nat → Sp) : Nat → (Nat → Sp)
  | 0 => f
  | 1 => f
  | k + 2 => dwn (srt f (k + 1)) (k + 1)
theorem swp_ok {f : Nat → Sp} (h : ∀ i, (f i).ok) (j : Nat) : ∀ i, (swp f j i).ok := by
  intro i; unfold swp; split
  · exact h _
  · split <;> exact h _
theorem dwn_ok : ∀ (j : Nat) (f : Nat → Sp), (∀ i, (f i).ok) → ∀ i, (dwn f j i).ok
  | 0, f, h => h
  | j + 1, f, h => by
    rw [dwn]; split
    · exact dwn_ok j _ (swp_ok h _)
    · exact h
theorem srt_ok : ∀ (k : Nat) (f : Nat → Sp), (∀ i, (f i).ok) → ∀ i, (srt f k i).ok
  | 0, f, h => h
  | 1, f, h => h
  | k + 2, f, h => by rw [srt]; exact dwn_ok _ _ (srt_ok (k + 1) f h)

def rowS (f : Nat → Sp) (n : Nat) : List Value := flat n 5 fun i => scell (f i)

theorem flat_swp {f : Nat → Sp} {n j : Nat} (hj : j + 1 < n) :
    ((((((((((rowS f n).set ((j + 1) * 5) (.int .i64 (f j).ix)).set ((j + 1) * 5 + 1) (.int .i64 (f j).x)).set ((j + 1) * 5 + 2) (.int .i64 (f j).y)).set ((j + 1) * 5 + 3) (.int .i64 (f j).r)).set ((j + 1) * 5 + 4) (.int .i64 (f j).d)).set (j * 5) (.int .i64 (f (j + 1)).ix)).set (j * 5 + 1) (.int .i64 (f (j + 1)).x)).set (j * 5 + 2) (.int .i64 (f (j + 1)).y)).set (j * 5 + 3) (.int .i64 (f (j + 1)).r)).set (j * 5 + 4) (.int .i64 (f (j + 1)).d) = rowS (swp f (j + 1)) n := by
  apply List.ext_getElem?
  intro m
  by_cases hm : m < n * 5
  · have e : m = m / 5 * 5 + m % 5 := by omega
    have h1 := flat_get (n := n) (s := 5) (f := fun i => scell (f i)) (i := m / 5) (j := m % 5) (by omega) (by omega)
    have h2 := flat_get (n := n) (s := 5) (f := fun i => scell (swp f (j + 1) i)) (i := m / 5) (j := m % 5) (by omega) (by omega)
    rw [← e] at h1 h2
    show _ = (flat n 5 fun i => scell (swp f (j + 1) i))[m]?
    rw [h2]
    have hl : (rowS f n).length = n * 5 := flat_length _ _ _
    simp only [List.getElem?_set, List.length_set, hl]
    have h1' : (rowS f n)[m]? = some (scell (f (m / 5)) (m % 5)) := h1
    rw [h1']
    have hr : m % 5 = 0 ∨ m % 5 = 1 ∨ m % 5 = 2 ∨ m % 5 = 3 ∨ m % 5 = 4 := by omega
    by_cases hq : m / 5 = j + 1
    · have es : swp f (j + 1) (m / 5) = f j := by rw [hq]; simp [swp]
      rw [es]
      rcases hr with h | h | h | h | h <;> rw [h] <;> (repeat (first | rw [if_neg (by omega)] | rw [if_pos (by omega)])) <;> rfl
    · by_cases hq' : m / 5 = j
      · have es : swp f (j + 1) (m / 5) = f (j + 1) := by rw [hq']; simp [swp]
        rw [es]
        rcases hr with h | h | h | h | h <;> rw [h] <;> (repeat (first | rw [if_neg (by omega)] | rw [if_pos (by omega)])) <;> rfl
      · have es : swp f (j + 1) (m / 5) = f (m / 5) := by simp only [swp]; rw [if_neg hq, if_neg (by omega)]
        rw [es]
        repeat rw [if_neg (by omega)]
  · have hl : (rowS f n).length = n * 5 := flat_length _ _ _
    have hl' : (rowS (swp f (j + 1)) n).length = n * 5 := flat_length _ _ _
    rw [List.getElem?_eq_none (by simp [hl]; omega), List.getElem?_eq_none (by omega)]

/-- The ten cells of two neighbouring elements. -/
theorem own_cells {w : World} {g n cap base : Nat} {T : TypeId} {f : Nat → Sp} {j : Nat} (h : w.ownsRow base T 5 (.slice (some ⟨g, 0, none⟩) n cap) n (rowS f n)) (hj : j < n) :
    w.cell? ⟨g, j * 5, none⟩ = some (.int .i64 (f j).ix) ∧ w.cell? ⟨g, j * 5 + 1, none⟩ = some (.int .i64 (f j).x) ∧ w.cell? ⟨g, j * 5 + 2, none⟩ = some (.int .i64 (f j).y) ∧ w.cell? ⟨g, j * 5 + 3, none⟩ = some (.int .i64 (f j).r) ∧ w.cell? ⟨g, j * 5 + 4, none⟩ = some (.int .i64 (f j).d) := by
  have key : ∀ q, q < 5 → w.cell? ⟨g, j * 5 + q, none⟩ = some (scell (f j) q) := fun q hq => by
    rw [h.cellAt (j * 5 + q) (by omega)]
    exact flat_get hj hq
  exact ⟨key 0 (by omega), key 1 (by omega), key 2 (by omega), key 3 (by omega), key 4 (by omega)⟩
theorem own_old {w : World} {g n cap base : Nat} {T : TypeId} {s : Nat} {xs : List Value} (h : w.ownsRow base T s (.slice (some ⟨g, 0, none⟩) n cap) n xs) : old g w := (h.lt g rfl).2

theorem grown_two {a b c : World} {g : Nat} (h : a.grownBy b (some g)) (k : b.grownBy c (some g)) : a.grownBy c (some g) :=
  ⟨k.os.trans h.os, k.tape.trans h.tape, k.output.trans h.output, Nat.le_trans h.size k.size, fun i hi hne => (k.block i (Nat.lt_of_lt_of_le hi h.size) hne).trans (h.block i hi hne)⟩
theorem grown_below {a b c : World} {g : Nat} (h : a.grownBy b (some g)) (k : Below b.heap.size b c) : a.grownBy c (some g) :=
  grown_two h ⟨k.os, k.tape, k.output, k.size, fun i hi _ => k.block i hi⟩
theorem stored10 {w : World} {g n cap base : Nat} {T : TypeId} {xs : List Value} {g' : Gr} (h : w.ownsRow base T 5 (.slice (some ⟨g, 0, none⟩) n cap) n xs) (b0 b1 b2 b3 b4 a0 a1 a2 a3 a4 : Value) (j : Nat) :
    (xt ((((((((((w.setCell ⟨g, (j + 1) * 5, none⟩ b0).setCell ⟨g, (j + 1) * 5 + 1, none⟩ b1).setCell ⟨g, (j + 1) * 5 + 2, none⟩ b2).setCell ⟨g, (j + 1) * 5 + 3, none⟩ b3).setCell ⟨g, (j + 1) * 5 + 4, none⟩ b4).setCell ⟨g, j * 5, none⟩ a0).setCell ⟨g, j * 5 + 1, none⟩ a1).setCell ⟨g, j * 5 + 2, none⟩ a2).setCell ⟨g, j * 5 + 3, none⟩ a3).setCell ⟨g, j * 5 + 4, none⟩ a4) g').ownsRow base T 5 (.slice (some ⟨g, 0, none⟩) n cap) n
      ((((((((((xs.set ((j + 1) * 5) b0).set ((j + 1) * 5 + 1) b1).set ((j + 1) * 5 + 2) b2).set ((j + 1) * 5 + 3) b3).set ((j + 1) * 5 + 4) b4).set (j * 5) a0).set (j * 5 + 1) a1).set (j * 5 + 2) a2).set (j * 5 + 3) a3).set (j * 5 + 4) a4) ∧
    w.grownBy (xt ((((((((((w.setCell ⟨g, (j + 1) * 5, none⟩ b0).setCell ⟨g, (j + 1) * 5 + 1, none⟩ b1).setCell ⟨g, (j + 1) * 5 + 2, none⟩ b2).setCell ⟨g, (j + 1) * 5 + 3, none⟩ b3).setCell ⟨g, (j + 1) * 5 + 4, none⟩ b4).setCell ⟨g, j * 5, none⟩ a0).setCell ⟨g, j * 5 + 1, none⟩ a1).setCell ⟨g, j * 5 + 2, none⟩ a2).setCell ⟨g, j * 5 + 3, none⟩ a3).setCell ⟨g, j * 5 + 4, none⟩ a4) g') (some g) := by
  have h0 := h.stored ((j + 1) * 5) b0
  have h1 := h0.1.stored ((j + 1) * 5 + 1) b1
  have h2 := h1.1.stored ((j + 1) * 5 + 2) b2
  have h3 := h2.1.stored ((j + 1) * 5 + 3) b3
  have h4 := h3.1.stored ((j + 1) * 5 + 4) b4
  have h5 := h4.1.stored (j * 5) a0
  have h6 := h5.1.stored (j * 5 + 1) a1
  have h7 := h6.1.stored (j * 5 + 2) a2
  have h8 := h7.1.stored (j * 5 + 3) a3
  have h9 := h8.1.stored (j * 5 + 4) a4
  refine ⟨own_xt h9.1 _, grown_below (grown_two (grown_two (grown_two (grown_two (grown_two (grown_two (grown_two (grown_two (grown_two h0.2 h1.2) h2.2) h3.2) h4.2) h5.2) h6.2) h7.2) h8.2) h9.2) ?_⟩
  exact Below.xt (Below.refl _ _) (Nat.le_refl _) _

set_option maxRecDepth 100000 in
set_option maxHeartbeats 6400000 in
theorem isort_any (g n cap base : Nat) (f : Nat → Sp) (w : World) (hown : w.ownsRow base 35 5 (.slice (some ⟨g, 0, none⟩) n cap) n (rowS f n)) (hok : ∀ i, (f i).ok) (hn : n ≤ 4294967296) :
    Calls Try.prog 51 #[.slice (some ⟨g, 0, none⟩) n cap, .int .i64 0, .int .i64 (n : Int), .func (.func 40) #[] #[]] w fun e w' => e = .returned (.tuple #[]) ∧ w.grownBy w' (some g) ∧ w'.ownsRow base 35 5 (.slice (some ⟨g, 0, none⟩) n cap) n (rowS (srt f n) n) := by
  have HO := Lib.hid hown
  have HF := Lib.hid hok
  clear hown hok
  go_enter Try.func51, Try.ntmps51
  go_wp2_with fail
  go_loopw [8] (fun i wr => ∃ k : Nat, 1 ≤ k ∧ (k ≤ n ∨ k = 1) ∧ i = .int .i64 k ∧ Hid (w.grownBy wr (some g)) ∧ Hid (wr.ownsRow base 35 5 (.slice (some ⟨g, 0, none⟩) n cap) n (rowS (srt f k) n))) (fun i _ => n - (intOf i).toNat)
  case atStart => exact ⟨1, by omega, .inr rfl, rfl, Lib.hid (World.grownBy.refl _ _), HO⟩
  case round =>
    obtain ⟨k, hk1, hkn, rfl, HG, HR⟩ := hrel
    by_cases hlt : k < n
    · obtain ⟨k', rfl⟩ : ∃ k', k = k' + 1 := ⟨k - 1, by omega⟩
      have d14 : decide ((k' : Int) + 1 < (n : Int)) = true := by simp; omega
      have d14' : decide (k' + 1 < n) = true := by simp; omega
      have HS := Lib.hid (show srt f (k' + 1 + 1) = dwn (srt f (k' + 1)) (k' + 1) from rfl)
      have HF' := Lib.hid (srt_ok (k' + 1) f HF.out)
      obtain ⟨f1, hf1⟩ : ∃ f1, srt f (k' + 1) = f1 := ⟨_, rfl⟩
      rw [hf1] at HR HS HF'
      clear hf1
      obtain ⟨wo, rfl⟩ : ∃ wo : World, wo = wr := ⟨_, rfl⟩
      obtain ⟨T, hT⟩ : ∃ T, dwn f1 (k' + 1) = T := ⟨_, rfl⟩
      rw [hT] at HS
      have HT := Lib.hid hT
      clear hT
      go_wp2_with fail
      go_loopw [9] (fun i wr => ∃ (j : Nat) (h : Nat → Sp), j ≤ k' + 1 ∧ i = .int .i64 j ∧ Hid (dwn h j = T) ∧ Hid (∀ i, (h i).ok) ∧ Hid (w.grownBy wr (some g)) ∧ Hid (wr.ownsRow base 35 5 (.slice (some ⟨g, 0, none⟩) n cap) n (rowS h n))) (fun i _ => (intOf i).toNat)
      case atStart => exact ⟨k' + 1, f1, by omega, rfl, HT, HF', HG, HR⟩
      case round =>
        clear HT HF' HG HR
        obtain ⟨j, h, hj, rfl, HT, HF', HG, HR⟩ := hrel
        by_cases hj0 : 0 < j
        · obtain ⟨j', rfl⟩ : ∃ j', j = j' + 1 := ⟨j - 1, by omega⟩
          have d20 : decide ((0 : Int) < (j' : Int) + 1) = true := decide_eq_true (by omega)
          obtain ⟨a0, a1, a2, a3, a4⟩ := own_cells (j := j' + 1) HR.out (by omega)
          obtain ⟨b0, b1, b2, b3, b4⟩ := own_cells (j := j') HR.out (by omega)
          have hog := own_old HR.out
          have HD := Lib.hid (show dwn h (j' + 1) = if (h j').d < (h (j' + 1)).d then dwn (swp h (j' + 1)) j' else h from rfl)
          have CM := fun w => Lib.hid (cmp_any (h (j' + 1)) (h j') w (HF'.out _) (HF'.out _))
          have HW := Lib.hid (flat_swp (f := h) (n := n) (j := j') (by omega))
          obtain ⟨p1, p2⟩ := HF'.out (j' + 1)
          obtain ⟨p3, p4⟩ := HF'.out j'
          generalize h (j' + 1) = sA at *
          generalize h j' = sB at *
          by_cases hlt2 : sB.d < sA.d
          · have e1 : decide (sB.d - sA.d < 0) = true := by simp; omega
            go_wp2_with fail
            refine wp_region_xt (by kernel_rfl) (by kernel_rfl) ?_
            repeat (go_big_quiet_step (first | (go_at_call 40; exact RetB.quiet (CM _).out)))
            refine wpQuiet_nil ?_
            intro g1
            go_wp2_with fail
            have z0 := HR.out.frozenAt ((j' + 1) * 5)
            have z1 := HR.out.frozenAt ((j' + 1) * 5 + 1)
            have z2 := HR.out.frozenAt ((j' + 1) * 5 + 2)
            have z3 := HR.out.frozenAt ((j' + 1) * 5 + 3)
            have z4 := HR.out.frozenAt ((j' + 1) * 5 + 4)
            have y0 := HR.out.frozenAt (j' * 5)
            have y1 := HR.out.frozenAt (j' * 5 + 1)
            have y2 := HR.out.frozenAt (j' * 5 + 2)
            have y3 := HR.out.frozenAt (j' * 5 + 3)
            have y4 := HR.out.frozenAt (j' * 5 + 4)
            have q0 : IntKind.i64.wrap (j' : Int) = (j' : Int) := IntWalk.i64_in _ (by omega)
            have q3 : (0 : Int) ≤ (j' : Int) := by omega
            have q4 : (j' : Int) < (n : Int) := by omega
            have q5 : (j' : Int) + 1 < (n : Int) := by omega
            have q6 : (0 : Int) ≤ (j' : Int) + 1 := by omega
            have q1 : IntKind.i64.wrap (((j' + 1 : Nat) : Int) - 1) = (j' : Int) := by rw [show ((j' + 1 : Nat) : Int) - 1 = (j' : Int) by omega]; exact IntWalk.i64_in _ (by omega)
            have q2 : IntKind.i64.wrap ((j' : Int) + 1 - 1) = (j' : Int) := by rw [show (j' : Int) + 1 - 1 = (j' : Int) by omega]; exact IntWalk.i64_in _ (by omega)
            go_region
            go_wp2_with fail
            obtain ⟨q1', q2'⟩ := stored10 (g' := ⟨g1.blocks, g1.drawn + 1⟩) HR.out (.int .i64 sB.ix) (.int .i64 sB.x) (.int .i64 sB.y) (.int .i64 sB.r) (.int .i64 sB.d) (.int .i64 sA.ix) (.int .i64 sA.x) (.int .i64 sA.y) (.int .i64 sA.r) (.int .i64 sA.d) j'
            rw [HW.out] at q1'
            have e2 := HD.out
            rw [if_pos hlt2] at e2
            refine ⟨⟨j', swp h (j' + 1), by omega, rfl, Lib.hid (e2.symm.trans HT.out), Lib.hid (swp_ok HF'.out _), Lib.hid (grown_two HG.out q2'), Lib.hid q1'⟩, ?_⟩
            simp [intOf]
          · have e1 : decide (sB.d - sA.d < 0) = false := by simp; omega
            have HE := Lib.hid (show h = T by have e2 := HD.out; rw [if_neg hlt2] at e2; exact e2.symm.trans HT.out)
            clear HD HT
            go_wp2_with fail
            refine wp_region_xt (by kernel_rfl) (by kernel_rfl) ?_
            repeat (go_big_quiet_step (first | (go_at_call 40; exact RetB.quiet (CM _).out)))
            refine wpQuiet_nil ?_
            intro g1
            go_wp2_with fail
            go_roundw
            case rel => exact ⟨k' + 1 + 1, by omega, .inl (by omega), by go_num, Lib.hid (grown_below HG.out (by repeat' (first | exact Below.refl _ _ | assumption | refine Below.xt ?_ ?_ _ | refine Below.alloc ?_ ?_ _ | refine Below.drew ?_ | refine Below.setCell ?_ ?_ _ | (simp; done) | (simp; omega)))), Lib.hid (by rw [HS.out, ← HE.out]; exact own_xt HR.out _)⟩
            case measure => simp [intOf]; omega
        · have e0 : j = 0 := by omega
          subst e0
          have d20 : decide ((0 : Int) < 0) = false := by decide
          have HE := Lib.hid (show h = T from HT.out)
          clear HT
          go_wp2_with fail
          refine wp_region_xt (by kernel_rfl) (by kernel_rfl) ?_
          repeat (go_big_quiet_step (fail))
          refine wpQuiet_nil ?_
          intro g1
          go_wp2_with fail
          go_roundw
          case rel => exact ⟨k' + 1 + 1, by omega, .inl (by omega), by go_num, Lib.hid (grown_below HG.out (by repeat' (first | exact Below.refl _ _ | assumption | refine Below.xt ?_ ?_ _ | refine Below.alloc ?_ ?_ _ | refine Below.drew ?_ | refine Below.setCell ?_ ?_ _ | (simp; done) | (simp; omega)))), Lib.hid (by rw [HS.out, ← HE.out]; exact own_xt HR.out _)⟩
          case measure => simp [intOf]; omega
    · have HE := Lib.hid (show srt f k = srt f n by
        rcases hkn with h | h
        · rw [show k = n by omega]
        · subst h
          have : n = 0 ∨ n = 1 := by omega
          rcases this with rfl | rfl <;> rfl)
      go_wp2_with fail
      go_end0
      exact ⟨rfl, HG.out, by rw [← HE.out]; exact HR.out⟩

end Go.Proofs.Ytjeemlnhokihoaa

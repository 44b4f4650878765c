
/- Walk: the best of all assignments that begin with some columns, by the reference. Conditions stand in each theorem. -/
import Derived.Test.YtjiknjcmfiapjaaBotC
import Derived.Test.YtjiknjcmfiapjaaMatC2
namespace Go.Proofs.Ytjiknjcmfiapjaa
open Go.RowKit
set_option linter.unusedVariables false
set_option linter.unusedSimpArgs false

/-- The assignment begins with these columns. -/
def Ext (n : Nat) (l L : List Int) : Prop := colsB L n = true ∧ L.take l.length = l
/-- The columns are different ones. -/
def Pre (n : Nat) (l : List Int) : Prop := l.length ≤ n ∧ ∀ j, j < l.length → colAt l n j = true
/-- The pair is the best of those assignments, of which there is one. -/
structure TrP (G : Nat → List Int) (n : Nat) (P : List Int → Prop) (a b : Int) : Prop where
  pos : 0 ≤ a
  is : ∃ L, P L ∧ mstC G L n = a ∧ sumC G L n = b
  lo : ∀ L, P L → a < mstC G L n ∨ (a = mstC G L n ∧ b ≤ sumC G L n)
def TrB (G : Nat → List Int) (n : Nat) (P : List Int → Prop) (a b : Int) : Prop := (a = -1 ∧ b = 0 ∧ ∀ L, ¬ P L) ∨ TrP G n P a b
section
variable {G : Nat → List Int} {n : Nat} {l L : List Int}
theorem getD_take {j : Nat} (h : L.take l.length = l) (hj : j < l.length) : L.getD j 0 = l.getD j 0 := by
  have hl : l.length ≤ L.length := by have := congrArg List.length h; rw [List.length_take] at this; omega
  have : (L.take l.length).getD j 0 = l.getD j 0 := by rw [h]
  rw [← this]
  simp [List.getD, List.getElem?_take, hj]
theorem take_snoc' {k : Int} (hl : l.length < L.length) : L.take (l ++ [k]).length = l ++ [k] ↔ L.take l.length = l ∧ L.getD l.length 0 = k := by
  rw [List.length_append, List.length_singleton, List.take_succ_eq_append_getElem hl]
  constructor
  · intro h
    have := List.append_inj h (by simp; omega)
    refine ⟨this.1, ?_⟩
    have h2 := this.2
    simp at h2
    simp [List.getD, hl, h2]
  · rintro ⟨h1, h2⟩
    rw [h1]
    simp [List.getD, hl] at h2
    rw [h2]
theorem Pre.snoc {k : Nat} (h : Pre n l) (hk : k < n) (hlt : l.length < n) (hh : hs l (k : Int) = false) : Pre n (l ++ [(k : Int)]) := by
  refine ⟨by simp; omega, fun j hj => ?_⟩
  rw [List.length_append, List.length_singleton] at hj
  rcases Nat.lt_or_ge j l.length with h1 | h1
  · have := h.2 j h1
    rw [colAt_iff] at this ⊢
    have e : (l ++ [(k : Int)]).getD j 0 = l.getD j 0 := by simp [List.getD, List.getElem?_append_left h1]
    rw [e, List.take_append_of_le_length (by omega)]
    exact this
  · obtain rfl : j = l.length := by omega
    rw [colAt_iff]
    have e : (l ++ [(k : Int)]).getD l.length 0 = k := by simp [List.getD]
    rw [e, List.take_append_of_le_length (Nat.le_refl _), List.take_of_length_le (Nat.le_refl _)]
    exact ⟨by omega, by omega, hh⟩
theorem free_col (h : Pre n l) (hlt : l.length < n) : ∃ k, k < n ∧ hs l (k : Int) = false := by
  apply Classical.byContradiction
  intro hn
  have : ((List.range n).map fun k : Nat => (k : Int)).length ≤ l.length := by
    refine len_sub _ _ ?_ fun x hx => ?_
    · rw [List.Nodup, List.pairwise_map]
      exact List.nodup_range.imp fun {a b} hne he => hne (by omega)
    · obtain ⟨k, hk, rfl⟩ := List.mem_map.1 hx
      apply Classical.byContradiction
      intro hx'
      refine hn ⟨k, List.mem_range.1 hk, ?_⟩
      rw [← Bool.not_eq_true]
      intro e
      exact hx' (by simpa [hs] using e)
  simp at this
  omega
theorem ext_ex : ∀ (f : Nat) (l : List Int), l.length + f = n → Pre n l → ∃ L, Ext n l L
  | 0, l, hf, h => ⟨l, colsB_iff.2 ⟨fun k hk => h.2 k (by omega), by omega⟩, List.take_of_length_le (Nat.le_refl _)⟩
  | f + 1, l, hf, h => by
    obtain ⟨k, hk, hh⟩ := free_col h (by omega)
    obtain ⟨L, h1, h2⟩ := ext_ex f (l ++ [(k : Int)]) (by simp; omega) (h.snoc hk (by omega) hh)
    have hL := (colsB_iff.1 h1).2
    exact ⟨L, h1, ((take_snoc' (by omega)).1 h2).1⟩
/-- Those whose next column is one of the first k. -/
def ExtK (n : Nat) (l : List Int) (k : Nat) (L : List Int) : Prop := Ext n l L ∧ L.getD l.length 0 < k
theorem extK_zero (hlt : l.length < n) : TrB G n (ExtK n l 0) (-1) 0 := .inl ⟨rfl, rfl, fun L h => by
  have := (colAt_iff.1 ((colsB_iff.1 h.1.1).1 l.length hlt)).1
  have := h.2
  omega⟩
theorem hs_pre {k : Nat} (h : Ext n l L) (hlt : l.length < n) (e : L.getD l.length 0 = (k : Int)) : hs l (k : Int) = false := by
  have := (colAt_iff.1 ((colsB_iff.1 h.1).1 l.length hlt)).2.2
  rw [h.2, e] at this
  exact this
theorem extK_skip {k : Nat} {a b : Int} (hlt : l.length < n) (hh : hs l (k : Int) = true) (h : TrB G n (ExtK n l k) a b) : TrB G n (ExtK n l (k + 1)) a b := by
  have key : ∀ L, ExtK n l (k + 1) L ↔ ExtK n l k L := fun L => by
    constructor
    · rintro ⟨h1, h2⟩
      refine ⟨h1, ?_⟩
      have hne : L.getD l.length 0 ≠ (k : Int) := fun e => by
        have := hs_pre h1 hlt e
        rw [hh] at this; cases this
      omega
    · rintro ⟨h1, h2⟩
      exact ⟨h1, by omega⟩
  rcases h with ⟨h1, h2, h3⟩ | h
  · exact .inl ⟨h1, h2, fun L hL => h3 L ((key L).1 hL)⟩
  · obtain ⟨L, h1, h2⟩ := h.is
    exact .inr ⟨h.pos, ⟨L, (key L).2 h1, h2⟩, fun L hL => h.lo L ((key L).1 hL)⟩
theorem extK_take {k : Nat} {a b a' b' : Int} (hk : k < n) (hlt : l.length < n) (h : TrB G n (ExtK n l k) a b) (h' : TrP G n (Ext n (l ++ [(k : Int)])) a' b') (hc : a < 0 ∨ a' < a ∨ (a' = a ∧ b' < b)) : TrB G n (ExtK n l (k + 1)) a' b' := by
  have key : ∀ L, ExtK n l (k + 1) L → ExtK n l k L ∨ Ext n (l ++ [(k : Int)]) L := fun L hL => by
    rcases Int.lt_or_le (L.getD l.length 0) k with h1 | h1
    · exact .inl ⟨hL.1, h1⟩
    · right
      have h2 := hL.2
      have hl := (colsB_iff.1 hL.1.1).2
      exact ⟨hL.1.1, (take_snoc' (by omega)).2 ⟨hL.1.2, by omega⟩⟩
  obtain ⟨L, h1, h2⟩ := h'.is
  have hL := (colsB_iff.1 h1.1).2
  have ht := (take_snoc' (l := l) (k := (k : Int)) (by omega)).1 h1.2
  refine .inr ⟨h'.pos, ⟨L, ⟨⟨h1.1, ht.1⟩, by rw [ht.2]; omega⟩, h2⟩, fun L2 hL2 => ?_⟩
  rcases key L2 hL2 with h3 | h3
  · rcases h with ⟨_, _, h4⟩ | h
    · exact absurd h3 (h4 L2)
    · have := h.lo L2 h3
      have := h.pos
      omega
  · exact h'.lo L2 h3
theorem extK_take_eq {k : Nat} {a b a' b' : Int} (hk : k < n) (hlt : l.length < n) (h : TrB G n (ExtK n l k) a b) (h' : TrP G n (Ext n (l ++ [(k : Int)])) a' b') (hc : a < 0 ∨ a' < a ∨ (a' = a ∧ b' < b)) (he : a' = a) : TrB G n (ExtK n l (k + 1)) a b' := by
  have := extK_take hk hlt h h' hc
  rwa [he] at this
theorem extK_keep {k : Nat} {a b a' b' : Int} (hk : k < n) (hlt : l.length < n) (h : TrB G n (ExtK n l k) a b) (h' : TrP G n (Ext n (l ++ [(k : Int)])) a' b') (hc : ¬ (a < 0 ∨ a' < a ∨ (a' = a ∧ b' < b))) : TrB G n (ExtK n l (k + 1)) a b := by
  rcases h with ⟨h1, _, _⟩ | h
  · omega
  · obtain ⟨L, h1, h2⟩ := h.is
    refine .inr ⟨h.pos, ⟨L, ⟨h1.1, by have := h1.2; omega⟩, h2⟩, fun L2 hL2 => ?_⟩
    rcases Int.lt_or_le (L2.getD l.length 0) k with h3 | h3
    · exact h.lo L2 ⟨hL2.1, h3⟩
    · have h4 := hL2.2
      have hl := (colsB_iff.1 hL2.1.1).2
      have := h'.lo L2 ⟨hL2.1.1, (take_snoc' (by omega)).2 ⟨hL2.1.2, by omega⟩⟩
      omega
theorem extK_end {a b : Int} (h : Pre n l) (hlt : l.length < n) (ht : TrB G n (ExtK n l n) a b) : TrP G n (Ext n l) a b := by
  have key : ∀ L, Ext n l L → ExtK n l n L := fun L hL => ⟨hL, (colAt_iff.1 ((colsB_iff.1 hL.1).1 l.length hlt)).2.1⟩
  rcases ht with ⟨_, _, h1⟩ | ht
  · obtain ⟨L, hL⟩ := ext_ex (n - l.length) l (by omega) h
    exact absurd (key L hL) (h1 L)
  · obtain ⟨L, h1, h2⟩ := ht.is
    exact ⟨ht.pos, ⟨L, h1.1, h2⟩, fun L hL => ht.lo L (key L hL)⟩
theorem ext_full (hC : Cst G n) (h : colsB l n = true) : TrP G n (Ext n l) (mstC G l n) (sumC G l n) := by
  have hl := colsB_iff.1 h
  refine ⟨(mstC_bd hC n (Nat.le_refl n) hl.1).1, ⟨l, ⟨h, List.take_of_length_le (Nat.le_refl _)⟩, rfl, rfl⟩, fun L hL => ?_⟩
  have h2 := (colsB_iff.1 hL.1).2
  have : L = l := by rw [← hL.2, List.take_of_length_le (by omega)]
  subst this
  exact .inr ⟨rfl, Int.le_refl _⟩
theorem trP_opt {a b : Int} (h : TrP G n (Ext n []) a b) : Opt G n a b := by
  have key : ∀ L, Ext n [] L ↔ colsB L n = true := fun L => ⟨fun h => h.1, fun h => ⟨h, by simp⟩⟩
  obtain ⟨L, h1, h2⟩ := h.is
  exact ⟨⟨L, (key L).1 h1, h2⟩, fun L hL => h.lo L ((key L).2 hL)⟩
end

theorem wpList_copyI {w : World} {ops : Array Oper} {rest : List Oper} {o : Oper} {a : Act} {Q : Exit → Act → World → Prop} (hgd : o.guard = none) (s x : Operand)
    (ho : o.op = .call { callee := .builtin .append, args := #[s, x], argTypes := #[23, 23] }) (base : Nat) (hbase : base ≤ w.heap.size) (A : Option Addr) (m c : Nat) (l : List Int)
    (hs : a.eval s = .slice none 0 0) (hx : a.eval x = .slice A m c) (hm : m = l.length) (hl : l.length ≤ 1000) (hr : RowI w A l)
    (h : ∀ A' c' w', w'.ownsRow base 3 1 (.slice A' l.length c') l.length (l.map (Value.int .i64)) → Below w.heap.size w w' → wpList Try.prog ops Q rest (a.put o.dst (.slice A' l.length c')) w') : wpList Try.prog ops Q (o :: rest) a w := by
  refine wpList_plain hgd fun K hK => ?_
  have h2 := step_copy (w := w) (ops := ops) (o := o) (a := a) (K := K) (Q := Q) (E := False) hgd s x ho base hbase A m c l hs hx hm hl hr (fun A' c' w' h1 h2 => hK _ _ (h A' c' w' h1 h2))
  have hw : Region.wanted o (yielded ops a.tmps) = true := by simp [Region.wanted, hgd]
  rw [if_pos hw] at h2
  exact h2

/-- The call returns the best of those. -/
def TryE (G : Nat → List Int) (n : Nat) (l : List Int) (w : World) (e : Ending) (w' : World) : Prop := ∃ a b, e = .returned (.tuple #[.int .i64 a, .int .i64 b]) ∧ TrP G n (Ext n l) a b ∧ Below w.heap.size w w'
set_option maxRecDepth 100000 in
set_option maxHeartbeats 6400000 in
theorem try_any (A : Option Addr) (n cap : Nat) (G : Nat → List Int) (hC : Cst G n) : ∀ (f : Nat) (l : List Int) (L : Option Addr) (m c : Nat) (w : World), l.length + f = n → Pre n l → m = l.length → GRow w A n G → RowI w L l →
    Calls Try.prog 34 #[.slice A n cap, .slice L m c] w (TryE G n l w)
  | 0, l, L, m, c, w, hf, hp, hm, hG, hr => by
    have hn1 := hC.pos
    have hn2 := hC.le
    have hcl : colsB l n = true := colsB_iff.2 ⟨fun k hk => hp.2 k (by omega), by omega⟩
    obtain rfl : n = m := by omega
    have C := Lib.hid (rCosts_any A L n cap n c G l w hG hC rfl hcl hr)
    have HT := Lib.hid (ext_full hC hcl)
    clear hC hcl hp hG hr hm
    go_enter Try.func34, Try.ntmps34
    go_wp2_with (go_at_call 15; refine C.out.mono ?_; rintro e' w' ⟨rfl, hb⟩)
    go_ret2
    exact ⟨_, _, rfl, HT.out, hb⟩
  | f + 1, l, L, m, c, w, hf, hp, hm, hG, hr => by
    obtain ⟨i0, hi0, hz0, hz1, hz2⟩ := info_parts infoInt
    have hn1 := hC.pos
    have hn2 := hC.le
    have IH := Lib.hid (fun (l' : List Int) (L' : Option Addr) (c' : Nat) (w' : World) (h1 : l'.length + f = n) (h2 : Pre n l') (h3 : GRow w' A n G) (h4 : RowI w' L' l') => try_any A n cap G hC f l' L' l'.length c' w' h1 h2 rfl h3 h4)
    have HP := Lib.hid hp
    have HG := Lib.hid hG
    have HR := Lib.hid hr
    have HM := Lib.hid hm
    have hmn : m < n := by omega
    have d1 : ((m : Int) == (n : Int)) = false := by simpa using by omega
    have HF := Lib.hid hf
    clear hf hp hm hG hr hC
    go_enter Try.func34, Try.ntmps34
    go_wp2_with fail
    go_loopw [6, 7, 8] (fun s t i wr => ∃ (k : Nat) (g : Gr) (a b : Int), k ≤ n ∧ i = .int .i64 k ∧ s = .int .i64 a ∧ t = .int .i64 b ∧ wr = xt w g ∧ Hid (TrB G n (ExtK n l k) a b)) (fun _ _ i _ => n - (intOf i).toNat)
    case atStart => exact ⟨0, _, -1, 0, by omega, rfl, rfl, rfl, (xt_self _).symm, Lib.hid (extK_zero (by rw [← HM.out]; exact hmn))⟩
    case round =>
      obtain ⟨k, g, a, b, hk, rfl, rfl, rfl, rfl, HT⟩ := hrel
      by_cases hlt : k < n
      · have CH := Has_any L m c l (k : Int) (xt w g) HM.out (by have := HM.out; omega) (HR.out.xt g)
        rcases Bool.eq_false_or_eq_true (hs l (k : Int)) with hp | hp
        · rw [hp] at CH
          have HCH := Lib.hid CH
          have HT2 := Lib.hid (extK_skip (by rw [← HM.out]; exact hmn) hp HT.out)
          clear CH hp HT
          go_wp2_with (go_at_call 31; refine HCH.out.mono ?_; rintro e' w' ⟨rfl, rfl⟩)
          go_roundw
          case rel => exact ⟨k + 1, _, a, b, by omega, by go_num, rfl, rfl, rfl, HT2⟩
          case measure => simp [intOf]; omega
        · rw [hp] at CH
          have HCH := Lib.hid CH
          have HPS := Lib.hid (HP.out.snoc hlt (by rw [← HM.out]; exact hmn) hp)
          have HR1 := Lib.hid (HR.out.xt g)
          have HG1 := Lib.hid (HG.out.xt g)
          clear CH hp
          go_wp2_with (first
            | (go_at_call 31; refine HCH.out.mono ?_; rintro e' w' ⟨rfl, rfl⟩)
            | (at_builtin; go_must (refine wpList_copyI rfl (.const (.slice none 0 0)) (.tmp 32) rfl w.heap.size (by simp) L m c l rfl rfl HM.out ?_ HR1.out ?_)))
          · have := HM.out; omega
          intro A2 c2 w2 ho2 hb2
          have HO2 := Lib.hid ho2
          have HB2 := Lib.hid ((below_xt w g).trans (hb2.mono (by simp)))
          have HLm := Lib.hid (show l.length = m from HM.out.symm)
          rw [HLm.out] at HO2 ⊢
          clear ho2 hb2
          go_wp2_with (at_builtin; go_must (refine wpList_append_own _ rfl (.tmp 33) (.tmp 35) 23 rfl w.heap.size 3 i0 _ 1 8 Try.underlying23 hi0 hz0 hz1 hz2 rfl (by omega) (.slice A2 m c2) m (l.map (Value.int .i64)) rfl (HO2.out.alloc _) _ 1 _ [.int .i64 (k : Int)] rfl rfl ?_ ?_ ?_ ?_ ?_ ?_))
          · exact cells_new _ _ _ _ (by simp)
          · intro u hu; simp only [List.mem_cons, List.not_mem_nil, or_false] at hu; subst hu; rfl
          · simp only [maxLen]; omega
          · omega
          · have := HB2.out.size; simp; omega
          intro v3 w3 ho3 hg3 _
          have hsx := HB2.out.size
          have hb3 := below_grown (n := m) (v := .slice A2 m c2) (xs := l.map (Value.int .i64)) (e := 3) (s := 1) (HB2.out.alloc hsx (.cells #[.int .i64 (k : Int)] 3)) (by simp; omega) (HO2.out.alloc _) hg3
          obtain ⟨A3, c3, e3, hr3⟩ := RowI.of_own (l := l ++ [(k : Int)]) (show w3.ownsRow w.heap.size 3 1 v3 (m + 1) ((l ++ [(k : Int)]).map (Value.int .i64)) by rw [ints_snoc]; exact ho3) (by simp [HLm.out])
          have hl3 : (l ++ [(k : Int)]).length = m + 1 := by simp [HLm.out]
          rw [hl3] at e3
          subst e3
          obtain ⟨g3, hg3'⟩ := xt_of_below hb3
          subst hg3'
          have CI := IH.out (l ++ [(k : Int)]) A3 c3 _ (by have := HF.out; rw [hl3]; have := HLm.out; omega) HPS.out (HG.out.xt g3) hr3
          rw [hl3] at CI
          have HCI := Lib.hid CI
          clear ho3 hg3 hb3 hr3 CI HO2 HB2 HR1 HG1 hsx hl3
          go_wp2_with (go_at_call 34; refine HCI.out.mono ?_; rintro e' w4 ⟨a', b', rfl, ht, hb4⟩; obtain ⟨g4, rfl⟩ := xt_of_below hb4; have HT4 := Lib.hid ht; clear ht hb4)
          have hlm : l.length < n := by rw [HLm.out]; exact hmn
          all_goals (first
            | (go_roundw
               case rel => exact ⟨k + 1, _, _, _, by omega, by go_num, rfl, rfl, xt_xt _ _ _, Lib.hid (extK_keep hlt (by rw [HLm.out]; exact hmn) HT.out HT4.out (by omega))⟩
               case measure => simp [intOf]; omega)
            | (go_roundw
               case rel => exact ⟨k + 1, _, _, _, by omega, by go_num, rfl, rfl, xt_xt _ _ _, Lib.hid (extK_take hlt (by rw [HLm.out]; exact hmn) HT.out HT4.out (by omega))⟩
               case measure => simp [intOf]; omega)
            | (go_roundw
               case rel => exact ⟨k + 1, _, _, _, by omega, by go_num, rfl, rfl, xt_xt _ _ _, Lib.hid (extK_take_eq hlt (by rw [HLm.out]; exact hmn) HT.out HT4.out (by omega) (by omega))⟩
               case measure => simp [intOf]; omega))
      · obtain rfl : n = k := by omega
        have HE := Lib.hid (extK_end HP.out (by rw [← HM.out]; exact hmn) HT.out)
        clear HT
        go_wp2_with fail
        go_ret2
        exact ⟨a, b, rfl, HE.out, (by repeat' (first | exact Below.refl _ _ | assumption | refine Below.xt ?_ ?_ _ | refine Below.alloc ?_ ?_ _ | refine Below.drew ?_ | refine Below.setCell ?_ ?_ _ | (simp; done) | (simp; omega)))⟩
def BestE (G : Nat → List Int) (n : Nat) (w : World) (e : Ending) (w' : World) : Prop := ∃ a b, e = .returned (.tuple #[.int .i64 a, .int .i64 b]) ∧ Opt G n a b ∧ Below w.heap.size w w'
theorem rBest_any (A : Option Addr) (n cap : Nat) (G : Nat → List Int) (w : World) (hC : Cst G n) (hG : GRow w A n G) : Calls Try.prog 21 #[.slice A n cap] w (BestE G n w) := by
  have C := Lib.hid (try_any A n cap G hC n [] none 0 0 w (by simp) ⟨by simp, fun j h => absurd h (by simp)⟩ rfl hG (RowI.nil _ _))
  clear hC hG
  go_enter Try.func21, Try.ntmps21
  go_wp2_with (go_at_call 34; refine C.out.mono ?_; rintro e' w' ⟨a, b, rfl, ht, hb⟩)
  go_ret2
  exact ⟨a, b, rfl, trP_opt ht, hb⟩
end Go.Proofs.Ytjiknjcmfiapjaa

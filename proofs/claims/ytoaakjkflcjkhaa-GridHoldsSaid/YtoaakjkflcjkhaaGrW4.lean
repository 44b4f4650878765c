/- Walks of grids, by the program: the nearest spot that is free. Conditions stand in each theorem. -/
import Derived.Test.YtoaakjkflcjkhaaGrW3
import Derived.Test.YtoaakjkflcjkhaaMapB
namespace Go.Proofs.Ytoaakjkflcjkhaa
open Go.RowKit
set_option linter.unusedVariables false

theorem Dist_ok (a b : V3) (w : World) (ha : pnt a = true) (hb : pnt b = true) : Calls Try.prog 44 #[.agg #[.int .i64 a.x, .int .i64 a.y, .int .i64 a.z], .agg #[.int .i64 b.x, .int .i64 b.y, .int .i64 b.z]] w (RetB (.tuple #[.int .i64 (d2 a b), .int .i64 0]) w) :=
  Distance2_ok a.x a.y a.z b.x b.y b.z w (by have := pnt_iff.1 ha; rw [vok_iff]; omega) (by have := pnt_iff.1 hb; rw [vok_iff]; omega)

/-- Look-ups in M answer as S says, whatever else is made. -/
def Looks (w : World) (M : Value) (S : Int → Bool) : Prop := ∀ w', Below w.heap.size w w' → ∀ i : Nat, i ≤ 4294967296 → (Instr.lookup 78 M (.int .i64 (i : Int)) false).run Try.prog w' = .ok (.bool (S i)) w'
theorem looks_nil (w : World) : Looks w (.map none) (fun _ => false) := fun w' _ i _ => by kernel_rfl
theorem zeroB (w : World) : (zeroValue 4).run Try.prog w = .ok (.bool false) w := by kernel_rfl
theorem looks_marks {w : World} {b n : Nat} {S : Int → Bool} (h : Marks Try.prog 3 4 w b n S) : Looks w (.map (some b)) S := fun w' hb i hi => by
  have hl := h.lt
  obtain ⟨D, h1, _, h2⟩ := h.same (w' := w') (hb.block b hl)
  obtain ⟨v, ps, hrun, hv⟩ := h1.lookup (Maps.int_keyed Try.underlying3) Try.underlying78 (zeroB w') (plainElem_bool Try.underlying4 false) (Maps.keyOf_int_mk Try.underlying3 (show (Lit.int .i64 (i : Int)).wf = true from WalkArith.wf_i64 (by omega)))
  obtain ⟨y, rfl, hy⟩ := plainElem_bool_inv Try.underlying4 hv
  rw [h2 i (WalkArith.wf_i64 (by omega))] at hy
  simp only [Prod.mk.injEq] at hy
  have e1 : y = S i := by
    have := hy.1
    injection this with q
    injection q with q
    exact q.symm
  subst e1
  exact hrun

theorem wpList_lookup_run {P : Program} (w : World) {ops : Array Oper} {rest : List Oper} {o : Oper} {a : Act} {Q : Exit → Act → World → Prop}
    (hg : o.guard = none) (m x : Operand) (t : TypeId) (hop : o.op = Op.lookup t m x false)
    (M : Value) (i : Int) (s : Bool) (hrun : (Instr.lookup t M (.int .i64 i) false).run P w = .ok (.bool s) w)
    (hm : a.eval m = M) (hx : a.eval x = .int .i64 i)
    (hK : wpList P ops Q rest (a.put o.dst (.bool s)) w) :
    wpList P ops Q (o :: rest) a w := by
  refine wpList_plain hg fun K' hK' => ?_
  unfold Oper.wp
  simp [execOp, hop, hm, hx, hrun, Result.andThen]
  exact hK' _ _ hK

def dist (l : List V3) (v : V3) (i : Int) : Int := d2 (at_ l i.toNat) v

set_option maxRecDepth 100000 in
set_option maxHeartbeats 1600000 in
theorem nearest_any (l : List V3) (A : Option Addr) (n cap : Nat) (M : Value) (S : Int → Bool) (v : V3) (w : World) (hn : n = l.length) (hm : n ≤ 4294967296) (hl : RowV w A l) (hp : ∀ i, i < n → pnt (at_ l i) = true) (hv : pnt v = true) (hM : Looks w M S) :
    Calls Try.prog 38 #[.slice A n cap, M, .agg #[.int .i64 v.x, .int .i64 v.y, .int .i64 v.z]] w (RetB (.int .i64 (nb (dist l v) S n)) w) := by
  have HN := Lib.hid hn
  have HP := Lib.hid hp
  have HV := Lib.hid hv
  have HM := Lib.hid hM
  clear hn hp hv hM
  rcases Nat.eq_zero_or_pos n with h0 | h0
  · subst h0
    clear hl
    go_enter Try.func38, Try.ntmps38
    go_wp2_with fail
    go_rounds 1
    go_ret
    exact RetB.of rfl (by repeat' (first | exact Below.refl _ _ | assumption | refine Below.xt ?_ ?_ _ | refine Below.alloc ?_ ?_ _ | refine Below.drew ?_ | refine Below.setCell ?_ ?_ _ | (simp; done) | (simp; omega)))
  · obtain ⟨b, o, rfl, hb, hc⟩ := hl.at_ (HN.out ▸ h0)
    have HC := Lib.hid hc
    clear hc hl
    go_enter Try.func38, Try.ntmps38
    go_wp2_with fail
    go_loopw [7, 8, 15] (fun bs ls i wr => ∃ (k : Nat) (g : Gr), k ≤ n ∧ bs = .int .i64 (nb (dist l v) S k) ∧ ls = .int .i64 (least (dist l v) S k) ∧ i = .int .i64 k ∧ wr = xt (w.alloc (.cells #[.int .i64 v.x, .int .i64 v.y, .int .i64 v.z] 23)) g) (fun _ _ i _ => n - (intOf i).toNat)
    case atStart => exact ⟨0, ⟨[], _⟩, by omega, rfl, rfl, rfl, (xt_self _).symm⟩
    case round =>
      obtain ⟨k, g, hk, rfl, rfl, rfl, rfl⟩ := hrel
      by_cases hlt : k < n
      · obtain ⟨hx, hy, hz⟩ := RowV.cells HC.out (HN.out ▸ hlt)
        have HK := Lib.hid (HP.out k hlt)
        have hd : dist l v k = d2 (at_ l k) v := by simp [dist]
        have hs : nb (dist l v) S (k + 1) = if S k = false ∧ (nb (dist l v) S k < 0 ∨ dist l v k < dist l v (nb (dist l v) S k)) then (k : Int) else nb (dist l v) S k := rfl
        have ht : least (dist l v) S (k + 1) = if nb (dist l v) S (k + 1) < 0 then 0 else dist l v (nb (dist l v) S (k + 1)) := rfl
        have hu : least (dist l v) S k = if nb (dist l v) S k < 0 then 0 else dist l v (nb (dist l v) S k) := rfl
        have hb2 := (nb_bd (dist l v) S k).1
        have hb3 := (nb_bd (dist l v) S k).2
        have e0 : (k : Int) < 0 ↔ False := ⟨fun h => by omega, False.elim⟩
        rw [hs] at ht
        have HD := Lib.hid hd
        have HS := Lib.hid hs
        have HT := Lib.hid ht
        have HU := Lib.hid hu
        clear hs ht hu hd
        obtain ⟨b0, hb0⟩ : ∃ b0, nb (dist l v) S k = b0 := ⟨_, rfl⟩
        obtain ⟨l0, hl0⟩ : ∃ l0, least (dist l v) S k = l0 := ⟨_, rfl⟩
        rw [hb0] at HS HT HU hb2 hb3 ⊢
        rw [hl0] at HU ⊢
        clear hb0 hl0
        have C := fun w => Lib.hid (Dist_ok (at_ l k) v w HK.out HV.out)
        obtain ⟨D, hD⟩ : ∃ D, d2 (at_ l k) v = D := ⟨_, rfl⟩
        rw [hD] at HD C
        rw [HD.out] at HS HT
        clear hD
        generalize at_ l k = p at *
        obtain ⟨s, hS⟩ : ∃ s, S k = s := ⟨_, rfl⟩
        rw [hS] at HS HT
        have HSk := Lib.hid hS
        clear hS e0
        by_cases c1 : s = true
        · subst c1
          have h' : ¬ (true = false ∧ (b0 < 0 ∨ D < dist l v b0)) := fun h => by cases h.1
          have E1 : Hid (nb (dist l v) S (k + 1) = b0) := by have h := HS.out; rw [if_neg h'] at h; exact h
          have E2 : Hid (least (dist l v) S (k + 1) = l0) := by have h := HT.out; rw [if_neg h'] at h; exact h.trans HU.out.symm
          clear h'
          clear HS HT HU HD
          go_wp2_with (first
            | (go_at_call 44; refine (RetB.grown ((C _).out)).mono ?_; rintro e' w' ⟨rfl, g, rfl⟩)
            | (at_lookup; refine wpList_lookup_run _ rfl _ _ 78 rfl M (k : Int) true (by refine (HM.out _ ?_ k (by omega)).trans ?_; exact (by repeat' (first | exact Below.refl _ _ | assumption | refine Below.xt ?_ ?_ _ | refine Below.alloc ?_ ?_ _ | refine Below.drew ?_ | refine Below.setCell ?_ ?_ _ | (simp; done) | (simp; omega))); rw [HSk.out]) rfl rfl ?_)
            | (refine wp_region_xt (by kernel_rfl) (by kernel_rfl) ?_; (repeat (go_big_quiet_step (first | (go_at_call 44; exact RetB.quiet ((C _).out))))); refine wpQuiet_nil ?_; intro g))
          go_roundw
          case rel => exact ⟨k + 1, _, by omega, by rw [E1.out], by rw [E2.out], by go_num, (Classical.choose_spec (xt_of_below (by repeat' (first | exact Below.refl _ _ | assumption | refine Below.xt ?_ ?_ _ | refine Below.alloc ?_ ?_ _ | refine Below.drew ?_ | refine Below.setCell ?_ ?_ _ | (simp; done) | (simp; omega)))))⟩
          case measure => simp [intOf]; omega
        have c1' : s = false := by simpa using c1
        subst c1'
        clear c1
        have K1 : b0 < 0 ∨ D < l0 → Hid (nb (dist l v) S (k + 1) = k) ∧ Hid (least (dist l v) S (k + 1) = D) := fun h => by
          have h' : false = false ∧ (b0 < 0 ∨ D < dist l v b0) := ⟨rfl, by
            by_cases h0 : b0 < 0
            · exact .inl h0
            · have := HU.out; rw [if_neg h0] at this; rw [← this]; exact h⟩
          have h1 := HS.out
          have h2 := HT.out
          rw [if_pos h'] at h1 h2
          rw [if_neg (by omega), HD.out] at h2
          exact ⟨h1, h2⟩
        have K2 : ¬ (b0 < 0 ∨ D < l0) → Hid (nb (dist l v) S (k + 1) = b0) ∧ Hid (least (dist l v) S (k + 1) = l0) := fun h => by
          have h' : ¬ (false = false ∧ (b0 < 0 ∨ D < dist l v b0)) := fun hh => h (by
            by_cases h0 : b0 < 0
            · exact .inl h0
            · have := HU.out; rw [if_neg h0] at this; rw [this]; exact hh.2)
          have h1 := HS.out
          have h2 := HT.out
          rw [if_neg h'] at h1 h2
          exact ⟨h1, h2.trans HU.out.symm⟩
        clear HS HT HU HD
        by_cases c1 : b0 < 0
        · obtain ⟨E1, E2⟩ := K1 (.inl c1)
          clear K1 K2
          have g1 : decide (b0 < 0) = true := by simpa using c1
          go_wp2_with (first
            | (go_at_call 44; refine (RetB.grown ((C _).out)).mono ?_; rintro e' w' ⟨rfl, g, rfl⟩)
            | (at_lookup; refine wpList_lookup_run _ rfl _ _ 78 rfl M (k : Int) false (by refine (HM.out _ ?_ k (by omega)).trans ?_; exact (by repeat' (first | exact Below.refl _ _ | assumption | refine Below.xt ?_ ?_ _ | refine Below.alloc ?_ ?_ _ | refine Below.drew ?_ | refine Below.setCell ?_ ?_ _ | (simp; done) | (simp; omega))); rw [HSk.out]) rfl rfl ?_)
            | (refine wp_region_xt (by kernel_rfl) (by kernel_rfl) ?_; (repeat (go_big_quiet_step (first | (go_at_call 44; exact RetB.quiet ((C _).out))))); refine wpQuiet_nil ?_; intro g))
          go_roundw
          case rel => exact ⟨k + 1, _, by omega, by rw [E1.out], by rw [E2.out], by go_num, (Classical.choose_spec (xt_of_below (by repeat' (first | exact Below.refl _ _ | assumption | refine Below.xt ?_ ?_ _ | refine Below.alloc ?_ ?_ _ | refine Below.drew ?_ | refine Below.setCell ?_ ?_ _ | (simp; done) | (simp; omega)))))⟩
          case measure => simp [intOf]; omega
        have g1 : decide (b0 < 0) = false := by simpa using c1
        by_cases c2 : D < l0
        · obtain ⟨E1, E2⟩ := K1 (.inr c2)
          clear K1 K2
          have g2 : decide (D < l0) = true := by simpa using c2
          go_wp2_with (first
            | (go_at_call 44; refine (RetB.grown ((C _).out)).mono ?_; rintro e' w' ⟨rfl, g, rfl⟩)
            | (at_lookup; refine wpList_lookup_run _ rfl _ _ 78 rfl M (k : Int) false (by refine (HM.out _ ?_ k (by omega)).trans ?_; exact (by repeat' (first | exact Below.refl _ _ | assumption | refine Below.xt ?_ ?_ _ | refine Below.alloc ?_ ?_ _ | refine Below.drew ?_ | refine Below.setCell ?_ ?_ _ | (simp; done) | (simp; omega))); rw [HSk.out]) rfl rfl ?_)
            | (refine wp_region_xt (by kernel_rfl) (by kernel_rfl) ?_; (repeat (go_big_quiet_step (first | (go_at_call 44; exact RetB.quiet ((C _).out))))); refine wpQuiet_nil ?_; intro g))
          go_roundw
          case rel => exact ⟨k + 1, _, by omega, by rw [E1.out], by rw [E2.out], by go_num, (Classical.choose_spec (xt_of_below (by repeat' (first | exact Below.refl _ _ | assumption | refine Below.xt ?_ ?_ _ | refine Below.alloc ?_ ?_ _ | refine Below.drew ?_ | refine Below.setCell ?_ ?_ _ | (simp; done) | (simp; omega)))))⟩
          case measure => simp [intOf]; omega
        · obtain ⟨E1, E2⟩ := K2 (by omega)
          clear K1 K2
          have g2 : decide (D < l0) = false := by simpa using c2
          go_wp2_with (first
            | (go_at_call 44; refine (RetB.grown ((C _).out)).mono ?_; rintro e' w' ⟨rfl, g, rfl⟩)
            | (at_lookup; refine wpList_lookup_run _ rfl _ _ 78 rfl M (k : Int) false (by refine (HM.out _ ?_ k (by omega)).trans ?_; exact (by repeat' (first | exact Below.refl _ _ | assumption | refine Below.xt ?_ ?_ _ | refine Below.alloc ?_ ?_ _ | refine Below.drew ?_ | refine Below.setCell ?_ ?_ _ | (simp; done) | (simp; omega))); rw [HSk.out]) rfl rfl ?_)
            | (refine wp_region_xt (by kernel_rfl) (by kernel_rfl) ?_; (repeat (go_big_quiet_step (first | (go_at_call 44; exact RetB.quiet ((C _).out))))); refine wpQuiet_nil ?_; intro g))
          go_roundw
          case rel => exact ⟨k + 1, _, by omega, by rw [E1.out], by rw [E2.out], by go_num, (Classical.choose_spec (xt_of_below (by repeat' (first | exact Below.refl _ _ | assumption | refine Below.xt ?_ ?_ _ | refine Below.alloc ?_ ?_ _ | refine Below.drew ?_ | refine Below.setCell ?_ ?_ _ | (simp; done) | (simp; omega)))))⟩
          case measure => simp [intOf]; omega
      · have e1 : k = n := by omega
        subst e1
        go_wp2_with fail
        go_ret
        exact RetB.of rfl (by repeat' (first | exact Below.refl _ _ | assumption | refine Below.xt ?_ ?_ _ | refine Below.alloc ?_ ?_ _ | refine Below.drew ?_ | refine Below.setCell ?_ ?_ _ | (simp; done) | (simp; omega)))

end Go.Proofs.Ytoaakjkflcjkhaa


/- Walks: the groups of an aircraft, by the program. Conditions stand in each theorem. -/
import Derived.Test.YtiikejhkhdmgeaaGreatLigV
import Derived.Test.YtiikejhkhdmgeaaGreatMapS
import Derived.Test.YtiikejhkhdmgeaaGreatEffW3
import Derived.IntWalk
namespace Go.Proofs.YtiikejhkhdmgeaaGreat
open Go.RowKit
set_option linter.unusedVariables false
set_option linter.unusedSimpArgs false
attribute [local go_sem ↓] ld6 ld16 ld18

set_option maxHeartbeats 800000 in
theorem place_any (v : V3) (w : World) : Calls Tryz.prog 18 #[.agg #[.int .i64 v.x, .int .i64 v.y, .int .i64 v.z]] w (RetB (.bool (point v)) w) := by
  obtain ⟨R, hR⟩ : ∃ R, point v = R := ⟨_, rfl⟩
  rw [hR]
  have HR := Lib.hid (show R = true ↔ (-1048576 ≤ v.x ∧ v.x ≤ 1048576) ∧ (-1048576 ≤ v.y ∧ v.y ≤ 1048576) ∧ (-1048576 ≤ v.z ∧ v.z ≤ 1048576) by rw [← hR]; exact point_iff)
  clear hR
  go_enter Tryz.func18, Tryz.ntmps18
  go_wp2_with fail
  all_goals go_ret
  all_goals refine RetB.of (congrArg Value.bool ?_) (by repeat' (first | exact Below.refl _ _ | assumption | refine Below.xt ?_ ?_ _ | refine Below.alloc ?_ ?_ _ | refine Below.drew ?_ | refine Below.setCell ?_ ?_ _ | (simp; done) | (simp; omega)))
  all_goals (rw [Bool.eq_iff_iff, HR.out]; first | omega | (simp; done) | (simp; omega))

def SIdx (g : List ByteArray) (x : ByteArray) : Int := rank g x
set_option maxHeartbeats 800000 in
theorem sindex_any (A : Option Addr) (n cap : Nat) (l : List ByteArray) (x : ByteArray) (w : World) (hn : n = l.length) (hm : n ≤ 4294967296) (hr : RowN w A l) :
    Calls Tryz.prog 54 #[.slice A n cap, .string x] w (RetB (.int .i64 (rank l x)) w) := by
  rcases Nat.eq_zero_or_pos n with h0 | h0
  · subst h0
    have e : l = [] := List.eq_nil_of_length_eq_zero hn.symm
    subst e
    clear hr hn
    go_enter Tryz.func54, Tryz.ntmps54
    go_wp2_with fail
    go_rounds 1
    go_ret
    exact RetB.of rfl (by repeat' (first | exact Below.refl _ _ | assumption | refine Below.xt ?_ ?_ _ | refine Below.alloc ?_ ?_ _ | refine Below.drew ?_ | refine Below.setCell ?_ ?_ _ | (simp; done) | (simp; omega)))
  · obtain ⟨b, o, rfl, hb, hc⟩ := RowN.at_ hr (by omega)
    have HN := Lib.hid hn
    have HC := Lib.hid hc
    obtain ⟨R, hR⟩ : ∃ R, rank l x = R := ⟨_, rfl⟩
    rw [hR]
    have HB := Lib.hid (show ∀ k, k < n → (∀ j, j < k → nm l j ≠ x) → nm l k = x → (k : Int) = R from fun k hk h h' => by
      rw [← hR]
      have hb := rk_bd l x l.length
      have e0 : rank l x = rk l x l.length := rfl
      rw [e0]
      have h0 : 0 ≤ rk l x l.length := by
        rcases Int.lt_or_le (rk l x l.length) 0 with hh | hh
        · exact absurd h' (rk_none l x _ hh k (by omega))
        · exact hh
      have h1 := rk_at l x l.length h0
      have h2 : ∀ m, rk l x m < 0 ∨ (∀ q : Nat, (q : Int) < rk l x m → nm l q ≠ x) := by
        intro m
        induction m with
        | zero => left; simp [rk]
        | succ m ih =>
          rw [rk]
          split
          · rename_i hh
            rcases ih with ih | ih
            · omega
            · exact .inr ih
          · rename_i hh
            split
            · right
              intro q hq
              exact rk_none l x m (by omega) q (by omega)
            · left; omega
      rcases Int.lt_trichotomy (k : Int) (rk l x l.length) with h3 | h3 | h3
      · rcases h2 l.length with h4 | h4
        · omega
        · exact absurd h' (h4 k h3)
      · exact h3
      · exact absurd h1 (h _ (by omega)))
    have HG := Lib.hid (show (∀ k, k < n → nm l k ≠ x) → -1 = R from fun h => by
      rw [← hR]
      have hb := rk_bd l x l.length
      have e0 : rank l x = rk l x l.length := rfl
      rw [e0]
      rcases Int.lt_or_le (rk l x l.length) 0 with hh | hh
      · omega
      · exact absurd (rk_at l x _ hh) (h _ (by omega)))
    clear hn hr hc hR
    go_enter Tryz.func54, Tryz.ntmps54
    go_wp2_with fail
    go_loopw [8] (fun i wr => ∃ (k : Nat) (g : Gr), k ≤ n ∧ Hid (∀ j, j < k → nm l j ≠ x) ∧ i = .int .i64 k ∧ wr = xt w g) (fun i _ => n - (intOf i).toNat)
    case atStart => exact ⟨0, ⟨[], _⟩, by omega, Lib.hid fun j hj => absurd hj (by omega), rfl, (xt_self _).symm⟩
    case round =>
      obtain ⟨k, g, hk, HP, rfl, rfl⟩ := hrel
      by_cases hlt : k < n
      · have x0 := HC.out k (HN.out ▸ hlt)
        have HB' := Lib.hid (fun h => HB.out k hlt HP.out h)
        have HS := Lib.hid (show nm l k ≠ x → ∀ j, j < k + 1 → nm l j ≠ x from fun h j hj => if e : j = k then e ▸ h else HP.out j (by omega))
        generalize nm l k = s at *
        by_cases he : s = x
        · have e1 : (x.toList == s.toList) = true := by rw [beq_str]; simpa using he.symm
          have E := Lib.hid (HB'.out he)
          clear he HB' HS HB HG
          go_wp2_with fail
          go_ret
          exact RetB.of (int_eq E.out) (by repeat' (first | exact Below.refl _ _ | assumption | refine Below.xt ?_ ?_ _ | refine Below.alloc ?_ ?_ _ | refine Below.drew ?_ | refine Below.setCell ?_ ?_ _ | (simp; done) | (simp; omega)))
        · have e1 : (x.toList == s.toList) = false := by rw [beq_str]; simpa using fun h => he h.symm
          have E := Lib.hid (HS.out he)
          clear he HB' HS
          go_wp2_with fail
          go_roundw
          case rel => exact ⟨k + 1, _, by omega, E, by go_num, (Classical.choose_spec (xt_of_below (by repeat' (first | exact Below.refl _ _ | assumption | refine Below.xt ?_ ?_ _ | refine Below.alloc ?_ ?_ _ | refine Below.drew ?_ | refine Below.setCell ?_ ?_ _ | (simp; done) | (simp; omega)))))⟩
          case measure => simp [intOf]; omega
      · obtain rfl : k = n := by omega
        have E := Lib.hid (HG.out HP.out)
        go_wp2_with fail
        go_ret
        exact RetB.of (int_eq E.out) (by repeat' (first | exact Below.refl _ _ | assumption | refine Below.xt ?_ ?_ _ | refine Below.alloc ?_ ?_ _ | refine Below.drew ?_ | refine Below.setCell ?_ ?_ _ | (simp; done) | (simp; omega)))
set_option maxHeartbeats 800000 in
theorem scont_any (A : Option Addr) (n cap : Nat) (l : List ByteArray) (x : ByteArray) (w : World) (hn : n = l.length) (hm : n ≤ 4294967296) (hr : RowN w A l) :
    Calls Tryz.prog 41 #[.slice A n cap, .string x] w (RetB (.bool (memB l x)) w) := by
  have C := fun w h => Lib.hid (sindex_any A n cap l x w hn hm h)
  have HR := Lib.hid hr
  have E := Lib.hid (show memB l x = true ↔ 0 ≤ rank l x by
    rw [memB_iff]
    constructor
    · rintro ⟨i, hi, e⟩
      rcases Int.lt_or_le (rank l x) 0 with h | h
      · exact absurd e (rk_none l x _ h i hi)
      · exact h
    · intro h
      have hb := (rk_bd l x l.length).2
      exact ⟨(rank l x).toNat, by have : rank l x = rk l x l.length := rfl; omega, rk_at l x _ h⟩)
  generalize memB l x = t at *
  generalize rank l x = r at *
  clear hn hr
  go_enter Tryz.func41, Tryz.ntmps41
  go_wp2_with (first
    | (go_at_call 54; refine (RetB.grown ((C _ HR.out).out)).mono ?_; rintro e' w' ⟨rfl, g, rfl⟩)
    | (refine wp_region_xt (by kernel_rfl) (by kernel_rfl) ?_; (repeat (go_big_quiet_step (first | (go_at_call 54; exact RetB.quiet ((C _ HR.out).out))))); refine wpQuiet_nil ?_; intro g))
  go_ret
  exact RetB.of (congrArg Value.bool (by rw [Bool.eq_iff_iff, E.out]; simp)) (by repeat' (first | exact Below.refl _ _ | assumption | refine Below.xt ?_ ?_ _ | refine Below.alloc ?_ ?_ _ | refine Below.drew ?_ | refine Below.setCell ?_ ?_ _ | (simp; done) | (simp; omega)))

set_option maxRecDepth 100000 in
set_option maxHeartbeats 800000 in
theorem belongs_any (A1 A2 A3 : Option Addr) (c1 c2 c3 k : Nat) (L : Li) (x : ByteArray) (w : World) (hk : k < L.nG) (hn : L.nG ≤ 4294967296) (hg : (L.G k).length ≤ 4294967296) (hr : RowG w A1 L.nG L.G) :
    Calls Tryz.prog 24 #[.agg #[.slice A1 L.nG c1, .slice A2 L.cs.length c2, .slice A3 L.os.length c3, .int .i64 k], .string x] w (RetB (Value.bool (memB (L.G k) x)) w) := by
  obtain ⟨b, o, rfl, hb, hc⟩ := hr.top (by omega)
  obtain ⟨Ai, ci, x0, hrow⟩ := hc k hk
  have HR := Lib.hid hrow
  have C := fun w h => Lib.hid (scont_any Ai (L.G k).length ci (L.G k) x w rfl hg h)
  generalize Value.bool (memB (L.G k) x) = R at *
  clear hc hrow hr
  go_enter Tryz.func24, Tryz.ntmps24
  go_wp2_with (first
    | (go_at_call 41; refine (RetB.grown ((C _ (by repeat (first | (with_reducible exact HR.out) | (with_reducible refine RowN.alloc ?_ _)))).out)).mono ?_; rintro e' w' ⟨rfl, g, rfl⟩)
    | (refine wp_region_xt (by kernel_rfl) (by kernel_rfl) ?_; (repeat (go_big_quiet_step (first | (go_at_call 41; exact RetB.quiet ((C _ (by repeat (first | (with_reducible exact HR.out) | (with_reducible refine RowN.alloc ?_ _)))).out))))); refine wpQuiet_nil ?_; intro g))
  go_ret
  exact RetB.of rfl (by repeat' (first | exact Below.refl _ _ | assumption | refine Below.xt ?_ ?_ _ | refine Below.alloc ?_ ?_ _ | refine Below.drew ?_ | refine Below.setCell ?_ ?_ _ | (simp; done) | (simp; omega)))
set_option maxRecDepth 100000 in
set_option maxHeartbeats 800000 in
theorem rank_any (A1 A2 A3 : Option Addr) (c1 c2 c3 k : Nat) (L : Li) (x : ByteArray) (w : World) (hk : k < L.nG) (hn : L.nG ≤ 4294967296) (hg : (L.G k).length ≤ 4294967296) (hr : RowG w A1 L.nG L.G) :
    Calls Tryz.prog 31 #[.agg #[.slice A1 L.nG c1, .slice A2 L.cs.length c2, .slice A3 L.os.length c3, .int .i64 k], .string x] w (RetB (Value.int .i64 (rank (L.G k) x)) w) := by
  obtain ⟨b, o, rfl, hb, hc⟩ := hr.top (by omega)
  obtain ⟨Ai, ci, x0, hrow⟩ := hc k hk
  have HR := Lib.hid hrow
  have C := fun w h => Lib.hid (sindex_any Ai (L.G k).length ci (L.G k) x w rfl hg h)
  generalize Value.int .i64 (rank (L.G k) x) = R at *
  clear hc hrow hr
  go_enter Tryz.func31, Tryz.ntmps31
  go_wp2_with (first
    | (go_at_call 54; refine (RetB.grown ((C _ (by repeat (first | (with_reducible exact HR.out) | (with_reducible refine RowN.alloc ?_ _)))).out)).mono ?_; rintro e' w' ⟨rfl, g, rfl⟩)
    | (refine wp_region_xt (by kernel_rfl) (by kernel_rfl) ?_; (repeat (go_big_quiet_step (first | (go_at_call 54; exact RetB.quiet ((C _ (by repeat (first | (with_reducible exact HR.out) | (with_reducible refine RowN.alloc ?_ _)))).out))))); refine wpQuiet_nil ?_; intro g))
  go_ret
  exact RetB.of rfl (by repeat' (first | exact Below.refl _ _ | assumption | refine Below.xt ?_ ?_ _ | refine Below.alloc ?_ ?_ _ | refine Below.drew ?_ | refine Below.setCell ?_ ?_ _ | (simp; done) | (simp; omega)))

/-! ### Lists of groups -/
def distTo (g : List ByteArray) (k : Nat) : Prop := ∀ i, i < k → nameB (nm g i) = true ∧ ∀ j, j < i → nm g j ≠ nm g i
theorem grpB_eq (g : List ByteArray) (h : distTo g g.length) : grpB g = decide (g.length ≤ 16) := by
  rw [Bool.eq_iff_iff, grpB_iff, decide_eq_true_iff]
  exact ⟨fun h => h.2.2, fun h2 => ⟨fun i hi => (h i hi).1, fun i hi j hj => (h i hi).2 j hj, h2⟩⟩
def seenS (g : List ByteArray) (k : Nat) (s : ByteArray) : Bool := decide (∃ j, j < k ∧ nm g j = s)
theorem seenS_iff {g : List ByteArray} {k : Nat} {s : ByteArray} : seenS g k s = true ↔ ∃ j, j < k ∧ nm g j = s := by unfold seenS; exact decide_eq_true_iff
theorem seenS_succ (g : List ByteArray) (k : Nat) : seenS g (k + 1) = fun s => decide (s = nm g k) || seenS g k s := by
  funext s
  rw [Bool.eq_iff_iff, seenS_iff]
  simp only [Bool.or_eq_true, decide_eq_true_eq, seenS_iff]
  constructor
  · rintro ⟨j, hj, e⟩
    by_cases hjk : j = k
    · subst hjk; exact .inl e.symm
    · exact .inr ⟨j, by omega, e⟩
  · rintro (h | ⟨j, hj, e⟩)
    · exact ⟨k, by omega, h.symm⟩
    · exact ⟨j, by omega, e⟩
theorem zeroB (w : World) : (zeroValue 4).run Tryz.prog w = .ok (.bool false) w := by kernel_rfl

set_option maxRecDepth 100000 in
set_option maxHeartbeats 1600000 in
theorem wrongG_any (A : Option Addr) (n cap : Nat) (l : List ByteArray) (w : World) (hn : n = l.length) (hm : n ≤ 4294967296) (hf : fineN l) (hr : RowN w A l) :
    Calls Tryz.prog 46 #[.slice A n cap] w (RetB (.bool (!grpB l)) w) := by
  rcases Nat.eq_zero_or_pos n with h0 | h0
  · subst h0
    have e : l = [] := List.eq_nil_of_length_eq_zero hn.symm
    subst e
    have E := Lib.hid (show false = !grpB [] from by decide)
    clear hr hn hf
    have hmm := @run_makeMap Tryz.prog
    go_enter Tryz.func46, Tryz.ntmps46
    go_wp2_with fail
    go_rounds 1
    go_ret
    exact RetB.of (congrArg Value.bool E.out) (by repeat' (first | exact Below.refl _ _ | assumption | refine Below.xt ?_ ?_ _ | refine Below.alloc ?_ ?_ _ | refine Below.drew ?_ | refine Below.setCell ?_ ?_ _ | (simp; done) | (simp; omega)))
  · obtain ⟨b, o, rfl, hb, hc⟩ := RowN.at_ hr (by omega)
    have HN := Lib.hid hn
    have HC := Lib.hid hc
    have HF := Lib.hid hf
    obtain ⟨R, hR⟩ : ∃ R, (!grpB l) = R := ⟨_, rfl⟩
    rw [hR]
    have HB := Lib.hid (show ∀ k, k < n → (nameB (nm l k) = false ∨ seenS l k (nm l k) = true) → true = R from fun k hk h => by
      rw [← hR, Bool.eq_iff_iff]
      simp only [true_iff, Bool.not_eq_true']
      rw [Bool.eq_false_iff]
      intro H
      obtain ⟨h1, h2, _⟩ := grpB_iff.1 H
      rcases h with h | h
      · rw [h1 k (by omega)] at h; cases h
      · obtain ⟨j, hj, e⟩ := seenS_iff.1 h
        exact h2 k (by omega) j hj e)
    have HG := Lib.hid (show distTo l n → decide (16 < n) = R from fun h => by
      rw [← hR, grpB_eq l (hn ▸ h), ← hn]
      by_cases h16 : n ≤ 16
      · rw [decide_eq_true h16, decide_eq_false (by omega)]; rfl
      · rw [decide_eq_false h16, decide_eq_true (by omega)]; rfl)
    clear hn hr hc hf hR
    have hmm := @run_makeMap Tryz.prog
    go_enter Tryz.func46, Tryz.ntmps46
    go_wp2_with fail
    clear hmm
    go_loopw [9] (fun i wr => ∃ k : Nat, k ≤ n ∧ i = .int .i64 k ∧ Below w.heap.size w wr ∧ Hid (MarksS Tryz.prog 9 4 wr w.heap.size k (seenS l k)) ∧ Hid (distTo l k)) (fun i _ => n - (intOf i).toNat)
    case atStart => exact ⟨0, by omega, rfl, (Below.refl _ _).alloc (Nat.le_refl _) _, Lib.hid (by have := MarksS.made (P := Tryz.prog) (k := 9) (e := 4) w; rwa [show (fun _ => false) = seenS l 0 from by funext s; symm; rw [seenS, decide_eq_false]; rintro ⟨j, hj, _⟩; omega] at this), Lib.hid fun i hi => absurd hi (by omega)⟩
    case round =>
      obtain ⟨k, hk, rfl, hB, HM, HD⟩ := hrel
      by_cases hlt : k < n
      · have x0 := (hB.cell (p := ⟨b, o + k, none⟩) hb).trans (HC.out k (HN.out ▸ hlt))
        have hsz := HF.out k (HN.out ▸ hlt)
        have hbr : old b wr := Nat.lt_of_lt_of_le hb hB.size
        have HB' := Lib.hid (HB.out k hlt)
        have HS := Lib.hid (show nameB (nm l k) = true → seenS l k (nm l k) = false → distTo l (k + 1) from fun h h' i hi => by
          by_cases e : i = k
          · subst e
            refine ⟨h, fun j hj e => ?_⟩
            rw [Bool.eq_false_iff] at h'
            exact h' (seenS_iff.2 ⟨j, hj, e⟩)
          · exact HD.out i (by omega))
        have HT := Lib.hid (seenS_succ l k)
        have hlk := HM.out.look Tryz.underlying9 Tryz.underlying124 Tryz.underlying4 (zeroB wr) (nm l k) hsz
        have C := fun w => Lib.hid (vname_any (nm l k) w hsz)
        have HZ := Lib.hid hsz
        generalize nm l k = s at *
        obtain ⟨v, hv⟩ : ∃ v, nameB s = v := ⟨_, rfl⟩
        rw [hv] at C HB' HS
        obtain ⟨q, hq⟩ : ∃ q, seenS l k s = q := ⟨_, rfl⟩
        rw [hq] at hlk HB' HS
        clear hv hq hsz
        cases v
        · have E := Lib.hid (HB'.out (.inl rfl))
          clear HB' HS hlk
          go_wp2_with (first
            | (go_at_call 55; refine ((C _).out).mono ?_; rintro e' w' ⟨rfl, rfl⟩)
            | (refine wp_region_xt (by kernel_rfl) (by kernel_rfl) ?_; (repeat (go_big_quiet_step (first | (go_at_call 55; exact Ret.quiet ((C _).out))))); refine wpQuiet_nil ?_; intro g))
          go_ret
          exact RetB.of (congrArg Value.bool E.out) (by repeat' (first | exact Below.refl _ _ | assumption | refine Below.xt ?_ ?_ _ | refine Below.alloc ?_ ?_ _ | refine Below.drew ?_ | refine Below.setCell ?_ ?_ _ | (simp; done) | (simp; omega)))
        · cases q
          · have E := Lib.hid (HS.out rfl rfl)
            clear HB' HS
            go_wp2_with (first
              | (go_at_call 55; refine ((C _).out).mono ?_; rintro e' w' ⟨rfl, rfl⟩)
              | (at_mapUpdate; go_must (refine wpList_store_markS _ rfl _ _ _ 124 rfl 9 4 Tryz.underlying9 Tryz.underlying124 Tryz.underlying4 w.heap.size k (seenS l k) rfl HM.out (by simp only [maxLen]; omega) s true rfl rfl HZ.out ?_))
              | (refine wp_region_xt (by kernel_rfl) (by kernel_rfl) ?_; (repeat (go_big_quiet_step (first | (go_at_call 55; exact Ret.quiet ((C _).out))))); refine wpQuiet_nil ?_; intro g))
            intro w3 hm3 hg3
            have hB3 : Below w.heap.size w w3 := hB.grown hg3 hB.size (fun k hk => by injection hk with hk; omega)
            have HM3 := Lib.hid (show MarksS Tryz.prog 9 4 w3 w.heap.size (k + 1) (seenS l (k + 1)) by rw [HT.out]; exact hm3)
            clear hm3 hg3 HM hlk
            go_wp2_with fail
            go_roundw
            case rel => exact ⟨k + 1, by omega, by go_num, hB3, HM3, E⟩
            case measure => simp [intOf]; omega
          · have E := Lib.hid (HB'.out (.inr rfl))
            clear HB' HS
            go_wp2_with (first
              | (go_at_call 55; refine ((C _).out).mono ?_; rintro e' w' ⟨rfl, rfl⟩)
              | (refine wp_region_xt (by kernel_rfl) (by kernel_rfl) ?_; (repeat (go_big_quiet_step (first | (go_at_call 55; exact Ret.quiet ((C _).out))))); refine wpQuiet_nil ?_; intro g))
            go_ret
            exact RetB.of (congrArg Value.bool E.out) (by repeat' (first | exact Below.refl _ _ | assumption | refine Below.xt ?_ ?_ _ | refine Below.alloc ?_ ?_ _ | refine Below.drew ?_ | refine Below.setCell ?_ ?_ _ | (simp; done) | (simp; omega)))
      · obtain rfl : k = n := by omega
        have E := Lib.hid (HG.out HD.out)
        go_wp2_with fail
        go_ret
        exact RetB.of (congrArg Value.bool (by rw [← E.out]; first | done | rfl | (simp; done) | (simp; omega))) (by repeat' (first | exact Below.refl _ _ | assumption | refine Below.xt ?_ ?_ _ | refine Below.alloc ?_ ?_ _ | refine Below.drew ?_ | refine Below.setCell ?_ ?_ _ | (simp; done) | (simp; omega)))

end Go.Proofs.YtiikejhkhdmgeaaGreat

/- Walks: the colours of all aircraft at some points, by the program. Conditions stand in each theorem. -/
import Derived.Test.YtjnajibflalmbaaEffA1
namespace Go.Proofs.Ytjnajibflalmbaa
open Go.RowKit
set_option linter.unusedVariables false
attribute [local go_sem ↓] ld16

/-- The colours as an array, the first k of them set. -/
def arrC (n k : Nat) (F : Nat → Col) : Array Value := (flat n 3 fun i j => if i < k then ccell (F i) j else .int .u8 0).toArray
theorem arrC_size (n k : Nat) (F : Nat → Col) : (arrC n k F).size = n * 3 := by simp [arrC, flat_length]
theorem arrC_get {n k : Nat} {F : Nat → Col} {i j : Nat} (hi : i < n) (hj : j < 3) : (arrC n k F)[i * 3 + j]? = some (if i < k then ccell (F i) j else .int .u8 0) := by
  unfold arrC
  rw [List.getElem?_toArray, flat_get hi hj]
theorem arrC_made (n : Nat) (F : Nat → Col) : madeCells #[.int .u8 0, .int .u8 0, .int .u8 0] (n * 3) = arrC n 0 F := by
  apply Array.ext_getElem?
  intro m
  by_cases hm : m < n * 3
  · have e : m = m / 3 * 3 + m % 3 := by omega
    have h1 := arrC_get (n := n) (k := 0) (F := F) (i := m / 3) (j := m % 3) (by omega) (by omega)
    rw [← e] at h1
    rw [h1]
    have h2 : (#[Value.int .u8 0, .int .u8 0, .int .u8 0] : Array Value)[m % 3]! = .int .u8 0 := by
      have : m % 3 = 0 ∨ m % 3 = 1 ∨ m % 3 = 2 := by omega
      rcases this with h | h | h <;> rw [h] <;> rfl
    simp only [madeCells, Array.getElem?_map, Array.getElem?_range, hm, if_true, Option.map_some, Array.size]
    rw [show ([Value.int .u8 0, .int .u8 0, .int .u8 0] : List Value).length = 3 from rfl, h2]
    simp
  · rw [Array.getElem?_eq_none (by rw [size_madeCells]; omega), Array.getElem?_eq_none (by rw [arrC_size]; omega)]
theorem arrC_set {n k : Nat} {F : Nat → Col} (hk : k < n) :
    (((arrC n k F).setIfInBounds (k * 3) (.int .u8 (F k).r)).setIfInBounds (k * 3 + 1) (.int .u8 (F k).g)).setIfInBounds (k * 3 + 2) (.int .u8 (F k).b) = arrC n (k + 1) F := by
  apply Array.ext_getElem?
  intro m
  by_cases hm : m < n * 3
  · have e : m = m / 3 * 3 + m % 3 := by omega
    have h1 := arrC_get (n := n) (k := k) (F := F) (i := m / 3) (j := m % 3) (by omega) (by omega)
    have h2 := arrC_get (n := n) (k := k + 1) (F := F) (i := m / 3) (j := m % 3) (by omega) (by omega)
    rw [← e] at h1 h2
    rw [h2]
    have hsz := arrC_size n k F
    simp only [Array.getElem?_setIfInBounds, Array.size_setIfInBounds, hsz, h1]
    have hlt : k * 3 + 2 < n * 3 := by omega
    have hlt1 : k * 3 + 1 < n * 3 := by omega
    have hlt0 : k * 3 < n * 3 := by omega
    by_cases hq : m / 3 = k
    · have : m % 3 = 0 ∨ m % 3 = 1 ∨ m % 3 = 2 := by omega
      rcases this with h | h | h
      · rw [if_neg (by omega), if_neg (by omega), if_pos (by omega), if_pos hlt0, h, hq, if_pos (by omega)]; rfl
      · rw [if_neg (by omega), if_pos (by omega), if_pos hlt1, h, hq, if_pos (by omega)]; rfl
      · rw [if_pos (by omega), if_pos hlt, h, hq, if_pos (by omega)]; rfl
    · rw [if_neg (by omega), if_neg (by omega), if_neg (by omega)]
      by_cases hk2 : m / 3 < k
      · rw [if_pos hk2, if_pos (by omega)]
      · rw [if_neg hk2, if_neg (by omega)]
  · have h1 : ((((arrC n k F).setIfInBounds (k * 3) (.int .u8 (F k).r)).setIfInBounds (k * 3 + 1) (.int .u8 (F k).g)).setIfInBounds (k * 3 + 2) (.int .u8 (F k).b)).size = n * 3 := by simp [arrC_size]
    rw [Array.getElem?_eq_none (by omega), Array.getElem?_eq_none (by rw [arrC_size]; omega)]

theorem infoCol : (Try.prog.info? 26).map (fun i => (i.zero, i.size, i.bytes)) = some (some (.agg #[.int .u8 0, .int .u8 0, .int .u8 0]), 3, 3) := by kernel_rfl

theorem mk_colors (n : Nat) (hn : n ≤ 4294967296) (F : Nat → Col) (W : World) : (Instr.makeSlice 48 (.int .i64 (n : Int)) (.int .i64 (n : Int))).run Try.prog W = .ok (.slice (some ⟨W.heap.size, 0, none⟩) n n) (W.alloc (.cells (arrC n 0 F) 26)) := by
  obtain ⟨i, hi, hz, hs, hb⟩ := info_parts infoCol
  have h := run_make (P := Try.prog) W 48 26 i _ Try.underlying48 hi hz .i64 .i64 n n (by omega) (by omega) (by rw [hb]; omega) (by omega)
  rw [hs] at h
  simp only [Int.toNat_natCast] at h
  rw [← arrC_made n F]
  exact h

/-- The call returns a slice of n elements and no error. -/
def RetRow (n s : Nat) (f : Nat → Nat → Value) (w : World) (e : Ending) (w' : World) : Prop :=
  ∃ A c, e = .returned (.tuple #[.slice A n c, .int .i64 0]) ∧ Below w.heap.size w w' ∧ Row w' A n s f

/-- The colour of aircraft i. -/
def colAt (e : Eff) (l : List V3) (t : Int) (i : Nat) : Col := atCol e i (at_ l i) t

set_option maxHeartbeats 1600000 in
theorem All_arg (e : Eff) (A : Option Addr) (n cap : Nat) (l : List V3) (t : Int) (w : World) (hn : n = l.length) (hm : n ≤ 4294967296) (hr : RowV w A l) (h : effValid e = false ∨ 64 < n ∨ ∃ i, i < n ∧ pointAt l i = false) :
    Calls Try.prog 19 #[.agg #[.int .i64 e.kind, .int .i64 e.fr, .int .i64 e.to, .int .i64 e.period, .int .i64 e.width, .int .i64 e.along.x, .int .i64 e.along.y, .int .i64 e.along.z, .int .i64 e.scale, .int .i64 e.seed, .int .u8 e.a.r, .int .u8 e.a.g, .int .u8 e.a.b, .int .u8 e.b.r, .int .u8 e.b.g, .int .u8 e.b.b], .slice A n cap, .int .i64 t] w (RetB (.tuple #[.slice none 0 0, .int .i64 2]) w) := by
  by_cases hv : effValid e = true
  · by_cases h64 : 64 < n
    · clear h hr hn
      go_enter Try.func19, Try.ntmps19
      go_wp2_with (first
        | (go_at_call 9; refine (RetB.grown (valid_any e _)).mono ?_; rintro e' w' ⟨rfl, g, rfl⟩)
        | (refine wp_region_xt (by kernel_rfl) (by kernel_rfl) ?_; (repeat (go_big_quiet_step (first | (go_at_call 9; exact RetB.quiet (valid_any e _))))); refine wpQuiet_nil ?_; intro g))
      go_ret2
      exact RetB.of rfl (by repeat' (first | exact Below.refl _ _ | assumption | refine Below.xt ?_ ?_ _ | refine Below.alloc ?_ ?_ _ | refine Below.drew ?_ | refine Below.setCell ?_ ?_ _ | (simp; done) | (simp; omega)))
    · have hp : ∃ i, i < n ∧ pointAt l i = false := by
        rcases h with h | h | h
        · rw [hv] at h; cases h
        · omega
        · exact h
      have h0 : 0 < n := by obtain ⟨i, hi, _⟩ := hp; omega
      obtain ⟨b, o, rfl, _, _⟩ := hr.at_ (by omega)
      have C1 := fun w hr => Lib.hid (contains_yes b o n cap l w hn hm hr hp)
      have HR := Lib.hid hr
      clear h hr hn hp
      go_enter Try.func19, Try.ntmps19
      go_wp2_with (first
        | (go_at_call 9; refine (RetB.grown (valid_any e _)).mono ?_; rintro e' w' ⟨rfl, g, rfl⟩)
        | (go_at_call 33; refine (RetB.grown ((C1 _ (by repeat (first | exact HR.out | refine Row.xt ?_ _ | refine Row.alloc ?_ _))).out)).mono ?_; rintro e' w' ⟨rfl, g, rfl⟩)
        | (refine wp_region_xt (by kernel_rfl) (by kernel_rfl) ?_; (repeat (go_big_quiet_step (first | (go_at_call 9; exact RetB.quiet (valid_any e _)) | (go_at_call 33; exact RetB.quiet ((C1 _ (by repeat (first | exact HR.out | refine Row.xt ?_ _ | refine Row.alloc ?_ _))).out))))); refine wpQuiet_nil ?_; intro g))
      go_ret2
      exact RetB.of rfl (by repeat' (first | exact Below.refl _ _ | assumption | refine Below.xt ?_ ?_ _ | refine Below.alloc ?_ ?_ _ | refine Below.drew ?_ | refine Below.setCell ?_ ?_ _ | (simp; done) | (simp; omega)))
  · have hv' : effValid e = false := by simpa using hv
    clear h hv hr hn
    go_enter Try.func19, Try.ntmps19
    go_wp2_with (first
      | (go_at_call 9; refine (RetB.grown (valid_any e _)).mono ?_; rintro e' w' ⟨rfl, g, rfl⟩)
      | (refine wp_region_xt (by kernel_rfl) (by kernel_rfl) ?_; (repeat (go_big_quiet_step (first | (go_at_call 9; exact RetB.quiet (valid_any e _))))); refine wpQuiet_nil ?_; intro g))
    go_ret2
    exact RetB.of rfl (by repeat' (first | exact Below.refl _ _ | assumption | refine Below.xt ?_ ?_ _ | refine Below.alloc ?_ ?_ _ | refine Below.drew ?_ | refine Below.setCell ?_ ?_ _ | (simp; done) | (simp; omega)))

set_option maxHeartbeats 1600000 in
theorem All_range (e : Eff) (A : Option Addr) (n cap : Nat) (l : List V3) (t : Int) (w : World) (hn : n = l.length) (hm : n ≤ 64) (hr : RowV w A l) (hv : effValid e = true) (hp : ∀ i, i < n → pointAt l i = true) (h : t < e.fr ∨ e.to ≤ t) :
    Calls Try.prog 19 #[.agg #[.int .i64 e.kind, .int .i64 e.fr, .int .i64 e.to, .int .i64 e.period, .int .i64 e.width, .int .i64 e.along.x, .int .i64 e.along.y, .int .i64 e.along.z, .int .i64 e.scale, .int .i64 e.seed, .int .u8 e.a.r, .int .u8 e.a.g, .int .u8 e.a.b, .int .u8 e.b.r, .int .u8 e.b.g, .int .u8 e.b.b], .slice A n cap, .int .i64 t] w (RetB (.tuple #[.slice none 0 0, .int .i64 3]) w) := by
  have C1 := fun w hr => Lib.hid (contains_no A n cap l w hn (by omega) hr hp)
  have HR := Lib.hid hr
  clear hr hn hp
  rcases h with h | h
  · go_enter Try.func19, Try.ntmps19
    go_wp2_with (first
      | (go_at_call 9; refine (RetB.grown (valid_any e _)).mono ?_; rintro e' w' ⟨rfl, g, rfl⟩)
      | (go_at_call 33; refine (RetB.grown ((C1 _ (by repeat (first | exact HR.out | refine Row.xt ?_ _ | refine Row.alloc ?_ _))).out)).mono ?_; rintro e' w' ⟨rfl, g, rfl⟩)
      | (refine wp_region_xt (by kernel_rfl) (by kernel_rfl) ?_; (repeat (go_big_quiet_step (first | (go_at_call 9; exact RetB.quiet (valid_any e _)) | (go_at_call 33; exact RetB.quiet ((C1 _ (by repeat (first | exact HR.out | refine Row.xt ?_ _ | refine Row.alloc ?_ _))).out))))); refine wpQuiet_nil ?_; intro g))
    go_ret2
    exact RetB.of rfl (by repeat' (first | exact Below.refl _ _ | assumption | refine Below.xt ?_ ?_ _ | refine Below.alloc ?_ ?_ _ | refine Below.drew ?_ | refine Below.setCell ?_ ?_ _ | (simp; done) | (simp; omega)))
  · have h2 : e.fr ≤ t := by have := span_le hv; omega
    go_enter Try.func19, Try.ntmps19
    go_wp2_with (first
      | (go_at_call 9; refine (RetB.grown (valid_any e _)).mono ?_; rintro e' w' ⟨rfl, g, rfl⟩)
      | (go_at_call 33; refine (RetB.grown ((C1 _ (by repeat (first | exact HR.out | refine Row.xt ?_ _ | refine Row.alloc ?_ _))).out)).mono ?_; rintro e' w' ⟨rfl, g, rfl⟩)
      | (refine wp_region_xt (by kernel_rfl) (by kernel_rfl) ?_; (repeat (go_big_quiet_step (first | (go_at_call 9; exact RetB.quiet (valid_any e _)) | (go_at_call 33; exact RetB.quiet ((C1 _ (by repeat (first | exact HR.out | refine Row.xt ?_ _ | refine Row.alloc ?_ _))).out))))); refine wpQuiet_nil ?_; intro g))
    go_ret2
    exact RetB.of rfl (by repeat' (first | exact Below.refl _ _ | assumption | refine Below.xt ?_ ?_ _ | refine Below.alloc ?_ ?_ _ | refine Below.drew ?_ | refine Below.setCell ?_ ?_ _ | (simp; done) | (simp; omega)))

set_option maxRecDepth 100000 in
set_option maxHeartbeats 3200000 in
theorem All_ok (e : Eff) (A : Option Addr) (n cap : Nat) (l : List V3) (t : Int) (w : World) (ha : e.a.ok) (hb : e.b.ok) (hn : n = l.length) (hm : n ≤ 64) (hr : RowV w A l) (hv : effValid e = true) (hp : ∀ i, i < n → pointAt l i = true) (h1 : e.fr ≤ t) (h2 : t < e.to) :
    Calls Try.prog 19 #[.agg #[.int .i64 e.kind, .int .i64 e.fr, .int .i64 e.to, .int .i64 e.period, .int .i64 e.width, .int .i64 e.along.x, .int .i64 e.along.y, .int .i64 e.along.z, .int .i64 e.scale, .int .i64 e.seed, .int .u8 e.a.r, .int .u8 e.a.g, .int .u8 e.a.b, .int .u8 e.b.r, .int .u8 e.b.g, .int .u8 e.b.b], .slice A n cap, .int .i64 t] w (RetRow n 3 (fun i => ccell (colAt e l t i)) w) := by
  have C1 := fun w hr => Lib.hid (contains_no A n cap l w hn (by omega) hr hp)
  have C2 := fun (k : Nat) v w (hk : k < 64) (hv : at_ l k = v) => Lib.hid (by
    have c := At_any e k v t w ha hb (by unfold I64; omega)
    have e1 : atCol e k v t = colAt e l t k := by unfold colAt; rw [hv]
    rw [e1] at c
    exact c)
  have HR := Lib.hid hr
  have HN := Lib.hid hn
  have hmk := fun W => mk_colors n (by omega) (colAt e l t) W
  clear hr hn hp ha hb
  go_enter Try.func19, Try.ntmps19
  go_wp2_with fail
  refine (RetB.grown (valid_any e _)).mono ?_
  rintro e' w' ⟨rfl, g1, rfl⟩
  go_wp2_with fail
  refine (RetB.grown (C1 _ (Row.xt (Row.alloc HR.out _) _)).out).mono ?_
  rintro e' w' ⟨rfl, g2, rfl⟩
  go_wp2_with fail
  rcases Nat.eq_zero_or_pos n with h0 | h0
  · subst h0
    go_rounds 1
    go_ret2
    exact ⟨_, _, rfl, (by repeat' (first | exact Below.refl _ _ | assumption | refine Below.xt ?_ ?_ _ | refine Below.alloc ?_ ?_ _ | refine Below.drew ?_ | refine Below.setCell ?_ ?_ _ | (simp; done) | (simp; omega))), Row.none_⟩
  · obtain ⟨b, o, rfl, hb, hc⟩ := HR.out.at_ (by rw [← HN.out]; exact h0)
    have HC := Lib.hid hc
    clear hc
    go_loopw [38] (fun i wr => ∃ (k : Nat) (g : Gr), k ≤ n ∧ i = .int .i64 k ∧ wr = xt ((xt (xt (w.alloc (.cells #[.int .i64 e.kind, .int .i64 e.fr, .int .i64 e.to, .int .i64 e.period, .int .i64 e.width, .int .i64 e.along.x, .int .i64 e.along.y, .int .i64 e.along.z, .int .i64 e.scale, .int .i64 e.seed, .int .u8 e.a.r, .int .u8 e.a.g, .int .u8 e.a.b, .int .u8 e.b.r, .int .u8 e.b.g, .int .u8 e.b.b] 28)) g1) g2).alloc (.cells (arrC n k (colAt e l t)) 26)) g) (fun i _ => n - (intOf i).toNat)
    case atStart => exact ⟨0, ⟨[], _⟩, by omega, rfl, (xt_self _).symm⟩
    case round =>
      obtain ⟨k, g, hk, rfl, rfl⟩ := hrel
      by_cases hlt : k < n
      · obtain ⟨hx, hy, hz⟩ := RowV.cells HC.out (HN.out ▸ hlt)
        have K2 := fun v w hv => C2 k v w (by omega) hv
        have q0 := arrC_get (k := k) (F := colAt e l t) hlt (show 0 < 3 by omega)
        have q1 := arrC_get (k := k) (F := colAt e l t) hlt (show 1 < 3 by omega)
        have q2 := arrC_get (k := k) (F := colAt e l t) hlt (show 2 < 3 by omega)
        simp only [Nat.add_zero, Nat.lt_irrefl, if_false] at q0 q1 q2
        have hs := arrC_set (F := colAt e l t) hlt
        have HS := Lib.hid hs
        clear hs
        generalize hv : at_ l k = v at *
        have K3 := fun w => K2 v w rfl
        clear hv K2 C2
        go_wp2_with (first
          | (go_at_call 14; refine (RetB.grown ((K3 _).out)).mono ?_; rintro e' w' ⟨rfl, g, rfl⟩)
          | (refine wp_region_xt (by kernel_rfl) (by kernel_rfl) ?_; (repeat (go_big_quiet_step (first | (go_at_call 14; exact RetB.quiet ((K3 _).out))))); refine wpQuiet_nil ?_; intro g))
        go_roundw
        case rel =>
          refine ⟨k + 1, ?_⟩
          rw [HS.out]
          exact ⟨_, by omega, by go_num, (Classical.choose_spec (xt_of_below (by repeat' (first | exact Below.refl _ _ | assumption | refine Below.xt ?_ ?_ _ | refine Below.alloc ?_ ?_ _ | refine Below.drew ?_ | refine Below.setCell ?_ ?_ _ | (simp; done) | (simp; omega)))))⟩
        case measure => simp [intOf]; omega
      · have e1 : k = n := by omega
        subst e1
        go_wp2_with fail
        go_ret2
        exact ⟨_, _, rfl, (by repeat' (first | exact Below.refl _ _ | assumption | refine Below.xt ?_ ?_ _ | refine Below.alloc ?_ ?_ _ | refine Below.drew ?_ | refine Below.setCell ?_ ?_ _ | (simp; done) | (simp; omega))), Row.xt (Row.made (by simp) fun i j hi hj => by rw [arrC_get hi hj, if_pos hi]) _⟩

end Go.Proofs.Ytjnajibflalmbaa


/- Walks: the cues of a group, by the program and by the reference. Conditions stand in each theorem. -/
import Derived.Test.YtiikejhkhdmgeaaGreatLigC2
import Derived.Laws.AppendOwnNone
namespace Go.Proofs.YtiikejhkhdmgeaaGreat
open Go.RowKit
set_option linter.unusedVariables false
set_option linter.unusedSimpArgs false

theorem infoCu : (Tryz.prog.info? 44).map (fun i => (i.zero, i.size, i.bytes)) = some (some (.agg #[.int .i64 0, .int .i64 0, .string ⟨#[]⟩, .int .u8 0, .int .u8 0, .int .u8 0]), 6, 40) := by kernel_rfl
/-- The cells of a list of cues. -/
def flatU (l : List Cu) : List Value := flat l.length 6 fun i => ucell (cu l i)
theorem flat_congr {n s : Nat} {f f' : Nat → Nat → Value} (h : ∀ i j, i < n → j < s → f i j = f' i j) : flat n s f = flat n s f' := by
  unfold flat
  apply List.map_congr_left
  intro k hk
  have hk := List.mem_range.1 hk
  rcases Nat.eq_zero_or_pos s with h0 | h0
  · subst h0; simp at hk
  · exact h _ _ ((Nat.div_lt_iff_lt_mul h0).2 hk) (Nat.mod_lt _ h0)
theorem cu_app {l : List Cu} {c : Cu} {i : Nat} (h : i < l.length) : cu (l ++ [c]) i = cu l i := by
  simp [cu, List.getD, List.getElem?_append_left h]
theorem cu_last {l : List Cu} {c : Cu} : cu (l ++ [c]) l.length = c := by simp [cu, List.getD]
theorem flatU_snoc (l : List Cu) (c : Cu) : flatU (l ++ [c]) = flatU l ++ ([.int .i64 c.t, .int .i64 c.f, .string c.g, .int .u8 c.c.r, .int .u8 c.c.g, .int .u8 c.c.b] : List Value) := by
  unfold flatU
  rw [List.length_append, List.length_singleton, flat_succ (by omega)]
  congr 1
  · exact flat_congr fun i j hi _ => by rw [cu_app hi]
  · rw [cu_last]; rfl
theorem news_u (w : World) (m : Nat) (cs : Array Value) (t : TypeId) (hm : m = w.heap.size) : ∀ j u, cs.toList[j]? = some u → (w.alloc (.cells cs t)).cell? ((⟨m, 0, none⟩ : Addr).add j) = some u := cells_new w cs t m hm
theorem one_u (c : Cu) : ∀ u ∈ ([.int .i64 c.t, .int .i64 c.f, .string c.g, .int .u8 c.c.r, .int .u8 c.c.g, .int .u8 c.c.b] : List Value), u.oneCell' = true := by
  intro u hu
  simp only [List.mem_cons, List.not_mem_nil, or_false] at hu
  rcases hu with rfl | rfl | rfl | rfl | rfl | rfl <;> rfl
/-- The call returns a slice of these cues. -/
def RetCues (l : List Cu) (w : World) (e : Ending) (w' : World) : Prop := ∃ A c, e = .returned (.slice A l.length c) ∧ Below w.heap.size w w' ∧ RowU w' A l ∧ l.length ≤ c ∧ c ≤ maxLen
theorem Row.of_own' {w : World} {n s : Nat} {f : Nat → Nat → Value} {base : Nat} {e : TypeId} {v : Value} {xs : List Value} (h : w.ownsRow base e s v n xs) (hx : xs = flat n s f) :
    ∃ A c, v = .slice A n c ∧ Row w A n s f ∧ n ≤ c ∧ c ≤ maxLen := by
  obtain ⟨A, c, rfl, hr⟩ := Row.of_own h hx
  refine ⟨A, c, rfl, hr, ?_⟩
  rcases h.2 with ⟨h1, h2⟩ | ⟨g, cap, cur, h1, hb, hg, hcap, hm, hsz, ht⟩
  · injection h1 with _ h1 h3
    subst h1 h3
    exact ⟨Nat.le_refl _, Nat.zero_le _⟩
  · injection h1 with _ h1 h3
    subst h3
    exact ⟨hcap, hm⟩

theorem next_row {w wr : World} {B : Nat} {e : TypeId} {s n : Nat} {v : Value} {xs : List Value} (hb : Below w.heap.size w wr) (ho : wr.ownsRow B e s v n xs) : ∃ g, wr = xt w g ∧ Hid ((xt w g).ownsRow B e s v n xs) := by
  obtain ⟨g, rfl⟩ := xt_of_below hb
  exact ⟨g, rfl, Lib.hid ho⟩
set_option maxRecDepth 100000 in
set_option maxHeartbeats 1600000 in
theorem of_any (A : Option Addr) (n cap : Nat) (l : List Cu) (x : ByteArray) (w : World) (hn : n = l.length) (hm : n ≤ 1000) (hr : RowU w A l) :
    Calls Tryz.prog 58 #[.slice A n cap, .string x] w (RetCues (ofG l x) w) := by
  rcases Nat.eq_zero_or_pos n with h0 | h0
  · subst h0
    have e : l = [] := List.eq_nil_of_length_eq_zero hn.symm
    subst e
    clear hr hn
    go_enter Tryz.func58, Tryz.ntmps58
    go_wp2_with fail
    go_rounds 1
    go_ret
    exact ⟨none, 0, rfl, (by repeat' (first | exact Below.refl _ _ | assumption | refine Below.xt ?_ ?_ _ | refine Below.alloc ?_ ?_ _ | refine Below.drew ?_ | refine Below.setCell ?_ ?_ _ | (simp; done) | (simp; omega))), Row.none_, Nat.le_refl _, Nat.zero_le _⟩
  · obtain ⟨b, o, rfl, hb, hc⟩ := Row.at_ hr (by omega)
    have HN := Lib.hid hn
    have HC := Lib.hid fun k hk => RowU.cells hc (i := k) hk
    clear hn hr hc
    obtain ⟨i0, hi0, hz0, hz1, hz2⟩ := info_parts infoCu
    go_enter Tryz.func58, Tryz.ntmps58
    go_wp2_with fail
    go_loopw [5, 10] (fun s i wr => ∃ (k : Nat) (g : Gr), k ≤ n ∧ i = .int .i64 k ∧ wr = xt w g ∧ (ofG (l.take k) x).length ≤ k ∧ Hid ((xt w g).ownsRow w.heap.size 44 6 s (ofG (l.take k) x).length (flatU (ofG (l.take k) x)))) (fun _ i _ => n - (intOf i).toNat)
    case atStart => exact ⟨0, ⟨[], _⟩, by omega, rfl, (xt_self _).symm, by simp [ofG], Lib.hid own_nil⟩
    case round =>
      obtain ⟨k, g, hk, rfl, rfl, hle, HO⟩ := hrel
      by_cases hlt : k < n
      · obtain ⟨x0, x1, x2, x3, x4, x5⟩ := HC.out k (HN.out ▸ hlt)
        have HT := Lib.hid (ofG_take (l := l) (g := x) (k := k) (by have := HN.out; omega))
        generalize hF' : ofG (l.take (k + 1)) x = F' at *
        have HF' := Lib.hid hF'
        clear hF'
        generalize ofG (l.take k) x = F at *
        generalize cu l k = c at *
        by_cases he : c.g = x
        · have e1 : (c.g.toList == x.toList) = true := by rw [beq_str]; simpa using he
          have E := Lib.hid (show F' = F ++ [c] by rw [HT.out, if_pos he])
          clear he HT
          go_wp2_with (at_builtin; go_must (refine wpList_append_own _ rfl _ _ 23 rfl w.heap.size 44 i0 _ 6 40 Tryz.underlying23 hi0 hz0 hz1 hz2 rfl (by omega) u5 F.length (flatU F) rfl (by repeat (first | (with_reducible exact HO.out) | (with_reducible exact own_drawn HO.out _) | (with_reducible refine World.ownsRow.alloc ?_ _) | (with_reducible refine own_xt ?_ _))) _ 1 _ [.int .i64 c.t, .int .i64 c.f, .string c.g, .int .u8 c.c.r, .int .u8 c.c.g, .int .u8 c.c.b] rfl rfl ?_ ?_ ?_ ?_ ?_ ?_))
          · exact news_u _ _ _ _ (by simp)
          · exact one_u _
          · simp only [maxLen]; omega
          · omega
          · simp; omega
          intro v1 w1 hown1 hgr1 _
          have hb1 : Below w.heap.size w w1 := below_grown (n := F.length) (v := u5) (xs := flatU F) (e := 44) (s := 6) (by repeat' (first | exact Below.refl _ _ | assumption | refine Below.xt ?_ ?_ _ | refine Below.alloc ?_ ?_ _ | refine Below.drew ?_ | refine Below.setCell ?_ ?_ _ | (simp; done) | (simp; omega))) (by simp; omega) (by repeat (first | (with_reducible exact HO.out) | (with_reducible exact own_drawn HO.out _) | (with_reducible refine World.ownsRow.alloc ?_ _) | (with_reducible refine own_xt ?_ _))) hgr1
          obtain ⟨g9, rfl⟩ := xt_of_below hb1
          have HO1 := Lib.hid (show (xt w g9).ownsRow w.heap.size 44 6 v1 F'.length (flatU F') by rw [E.out, flatU_snoc, List.length_append, List.length_singleton]; exact hown1)
          have hle' : F'.length ≤ k + 1 := by rw [E.out, List.length_append, List.length_singleton]; omega
          clear hown1 hgr1 hb1 HO E
          go_wp2_with fail
          go_roundw
          case rel => exact ⟨k + 1, g9, by omega, by go_num, rfl, by rw [HF'.out]; exact hle', by rw [HF'.out]; exact HO1⟩
          case measure => simp [intOf]; omega
        · have e1 : (c.g.toList == x.toList) = false := by rw [beq_str]; simpa using he
          have E := Lib.hid (show F' = F by rw [HT.out, if_neg he])
          clear he HT
          go_wp2_with fail
          obtain ⟨g9, e9, HO1⟩ := next_row (w := w) (wr := ((xt w g).alloc (.cells #[.int .i64 c.t, .int .i64 c.f, .string c.g, .int .u8 c.c.r, .int .u8 c.c.g, .int .u8 c.c.b] 44))) (B := w.heap.size) (e := 44) (s := 6) (n := F.length) (v := u5) (xs := flatU F) (by repeat' (first | exact Below.refl _ _ | assumption | refine Below.xt ?_ ?_ _ | refine Below.alloc ?_ ?_ _ | refine Below.drew ?_ | refine Below.setCell ?_ ?_ _ | (simp; done) | (simp; omega))) (by repeat (first | (with_reducible exact HO.out) | (with_reducible exact own_drawn HO.out _) | (with_reducible refine World.ownsRow.alloc ?_ _) | (with_reducible refine own_xt ?_ _)))
          have HE := Lib.hid e9
          clear e9 HO
          go_roundw
          case rel => exact ⟨k + 1, g9, by omega, by go_num, HE.out, by rw [HF'.out, E.out]; omega, by rw [HF'.out, E.out]; exact HO1⟩
          case measure => simp [intOf]; omega
      · obtain rfl : k = n := by omega
        have e : l.take k = l := List.take_of_length_le (by have := HN.out; omega)
        rw [e] at HO
        go_wp2_with fail
        obtain ⟨A', c', rfl, hrow, hc1, hc2⟩ := Row.of_own' HO.out rfl
        go_ret
        exact ⟨A', c', rfl, (by repeat' (first | exact Below.refl _ _ | assumption | refine Below.xt ?_ ?_ _ | refine Below.alloc ?_ ?_ _ | refine Below.drew ?_ | refine Below.setCell ?_ ?_ _ | (simp; done) | (simp; omega))), hrow, hc1, hc2⟩
set_option maxRecDepth 100000 in
set_option maxHeartbeats 1600000 in
theorem rof_any (A : Option Addr) (n cap : Nat) (l : List Cu) (x : ByteArray) (w : World) (hn : n = l.length) (hm : n ≤ 1000) (hr : RowU w A l) :
    Calls Tryz.prog 69 #[.slice A n cap, .string x] w (RetCues (ofG l x) w) := by
  rcases Nat.eq_zero_or_pos n with h0 | h0
  · subst h0
    have e : l = [] := List.eq_nil_of_length_eq_zero hn.symm
    subst e
    clear hr hn
    go_enter Tryz.func69, Tryz.ntmps69
    go_wp2_with fail
    go_rounds 1
    go_ret
    exact ⟨none, 0, rfl, (by repeat' (first | exact Below.refl _ _ | assumption | refine Below.xt ?_ ?_ _ | refine Below.alloc ?_ ?_ _ | refine Below.drew ?_ | refine Below.setCell ?_ ?_ _ | (simp; done) | (simp; omega))), Row.none_, Nat.le_refl _, Nat.zero_le _⟩
  · obtain ⟨b, o, rfl, hb, hc⟩ := Row.at_ hr (by omega)
    have HN := Lib.hid hn
    have HC := Lib.hid fun k hk => RowU.cells hc (i := k) hk
    clear hn hr hc
    obtain ⟨i0, hi0, hz0, hz1, hz2⟩ := info_parts infoCu
    go_enter Tryz.func69, Tryz.ntmps69
    go_wp2_with fail
    go_loopw [5, 6] (fun s i wr => ∃ (k : Nat) (g : Gr), k ≤ n ∧ i = .int .i64 k ∧ wr = xt w g ∧ (ofG (l.take k) x).length ≤ k ∧ Hid ((xt w g).ownsRow w.heap.size 44 6 s (ofG (l.take k) x).length (flatU (ofG (l.take k) x)))) (fun _ i _ => n - (intOf i).toNat)
    case atStart => exact ⟨0, ⟨[], _⟩, by omega, rfl, (xt_self _).symm, by simp [ofG], Lib.hid own_nil⟩
    case round =>
      obtain ⟨k, g, hk, rfl, rfl, hle, HO⟩ := hrel
      by_cases hlt : k < n
      · obtain ⟨x0, x1, x2, x3, x4, x5⟩ := HC.out k (HN.out ▸ hlt)
        have HT := Lib.hid (ofG_take (l := l) (g := x) (k := k) (by have := HN.out; omega))
        generalize hF' : ofG (l.take (k + 1)) x = F' at *
        have HF' := Lib.hid hF'
        clear hF'
        generalize ofG (l.take k) x = F at *
        generalize cu l k = c at *
        by_cases he : c.g = x
        · have e1 : (c.g.toList == x.toList) = true := by rw [beq_str]; simpa using he
          have E := Lib.hid (show F' = F ++ [c] by rw [HT.out, if_pos he])
          clear he HT
          go_wp2_with (at_builtin; go_must (refine wpList_append_own _ rfl _ _ 23 rfl w.heap.size 44 i0 _ 6 40 Tryz.underlying23 hi0 hz0 hz1 hz2 rfl (by omega) u5 F.length (flatU F) rfl (by repeat (first | (with_reducible exact HO.out) | (with_reducible exact own_drawn HO.out _) | (with_reducible refine World.ownsRow.alloc ?_ _) | (with_reducible refine own_xt ?_ _))) _ 1 _ [.int .i64 c.t, .int .i64 c.f, .string c.g, .int .u8 c.c.r, .int .u8 c.c.g, .int .u8 c.c.b] rfl rfl ?_ ?_ ?_ ?_ ?_ ?_))
          · exact news_u _ _ _ _ (by simp)
          · exact one_u _
          · simp only [maxLen]; omega
          · omega
          · simp; omega
          intro v1 w1 hown1 hgr1 _
          have hb1 : Below w.heap.size w w1 := below_grown (n := F.length) (v := u5) (xs := flatU F) (e := 44) (s := 6) (by repeat' (first | exact Below.refl _ _ | assumption | refine Below.xt ?_ ?_ _ | refine Below.alloc ?_ ?_ _ | refine Below.drew ?_ | refine Below.setCell ?_ ?_ _ | (simp; done) | (simp; omega))) (by simp; omega) (by repeat (first | (with_reducible exact HO.out) | (with_reducible exact own_drawn HO.out _) | (with_reducible refine World.ownsRow.alloc ?_ _) | (with_reducible refine own_xt ?_ _))) hgr1
          obtain ⟨g9, rfl⟩ := xt_of_below hb1
          have HO1 := Lib.hid (show (xt w g9).ownsRow w.heap.size 44 6 v1 F'.length (flatU F') by rw [E.out, flatU_snoc, List.length_append, List.length_singleton]; exact hown1)
          have hle' : F'.length ≤ k + 1 := by rw [E.out, List.length_append, List.length_singleton]; omega
          clear hown1 hgr1 hb1 HO E
          go_wp2_with fail
          go_roundw
          case rel => exact ⟨k + 1, g9, by omega, by go_num, rfl, by rw [HF'.out]; exact hle', by rw [HF'.out]; exact HO1⟩
          case measure => simp [intOf]; omega
        · have e1 : (c.g.toList == x.toList) = false := by rw [beq_str]; simpa using he
          have E := Lib.hid (show F' = F by rw [HT.out, if_neg he])
          clear he HT
          go_wp2_with fail
          obtain ⟨g9, e9, HO1⟩ := next_row (w := w) (wr := (xt w g)) (B := w.heap.size) (e := 44) (s := 6) (n := F.length) (v := u5) (xs := flatU F) (by repeat' (first | exact Below.refl _ _ | assumption | refine Below.xt ?_ ?_ _ | refine Below.alloc ?_ ?_ _ | refine Below.drew ?_ | refine Below.setCell ?_ ?_ _ | (simp; done) | (simp; omega))) (by repeat (first | (with_reducible exact HO.out) | (with_reducible exact own_drawn HO.out _) | (with_reducible refine World.ownsRow.alloc ?_ _) | (with_reducible refine own_xt ?_ _)))
          have HE := Lib.hid e9
          clear e9 HO
          go_roundw
          case rel => exact ⟨k + 1, g9, by omega, by go_num, HE.out, by rw [HF'.out, E.out]; omega, by rw [HF'.out, E.out]; exact HO1⟩
          case measure => simp [intOf]; omega
      · obtain rfl : k = n := by omega
        have e : l.take k = l := List.take_of_length_le (by have := HN.out; omega)
        rw [e] at HO
        go_wp2_with fail
        obtain ⟨A', c', rfl, hrow, hc1, hc2⟩ := Row.of_own' HO.out rfl
        go_ret
        exact ⟨A', c', rfl, (by repeat' (first | exact Below.refl _ _ | assumption | refine Below.xt ?_ ?_ _ | refine Below.alloc ?_ ?_ _ | refine Below.drew ?_ | refine Below.setCell ?_ ?_ _ | (simp; done) | (simp; omega))), hrow, hc1, hc2⟩

end Go.Proofs.YtiikejhkhdmgeaaGreat

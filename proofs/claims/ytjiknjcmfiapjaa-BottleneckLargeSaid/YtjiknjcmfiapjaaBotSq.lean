
/- Walk: costs by a rule, their rows in blocks apart. Conditions stand in each theorem. -/
import Derived.Test.YtjiknjcmfiapjaaBotG
import Derived.Maps.AppendAt
import Derived.Laws.OwnMore
namespace Go.Proofs.Ytjiknjcmfiapjaa
open Go.RowKit
set_option linter.unusedVariables false
set_option linter.unusedSimpArgs false

/-- n lists of the call's own, each in a block apart. -/
def GD (w : World) (base : Nat) (v : Value) (n : Nat) (G : Nat → List Int) : Prop :=
  ∃ xs : List Value, w.ownsRow base 23 1 v n xs ∧ ∃ bs : Nat → Nat, (∀ i, i < n → ∃ c, xs[i]? = some (.slice (some ⟨bs i, 0, none⟩) (G i).length c) ∧ w.ownsRow base 3 1 (.slice (some ⟨bs i, 0, none⟩) (G i).length c) (G i).length ((G i).map (Value.int .i64))) ∧
    (∀ i, i < n → ∀ j, j < n → bs i = bs j → i = j) ∧ ∀ i, i < n → v.ownBlock ≠ some (bs i)
section
variable {w w' : World} {base n : Nat} {v v' : Value} {G : Nat → List Int}
theorem GD.nil : GD w base (.slice none 0 0) 0 G := ⟨[], own_nil, fun _ => 0, (fun i h => absurd h (by omega)), (fun i h => absurd h (by omega)), (fun i h => absurd h (by omega))⟩
theorem GD.own (h : GD w base v n G) : GOwn w base v n G := by
  obtain ⟨xs, hx, bs, h1, _, _⟩ := h
  exact ⟨xs, hx, fun i hi => by obtain ⟨c, e, ho⟩ := h1 i hi; exact ⟨_, e, ho⟩⟩
theorem own_blk_lt {e : TypeId} {s m g k c : Nat} {xs : List Value} (h : w.ownsRow base e s (.slice (some ⟨g, k, none⟩) m c) m xs) : g < w.heap.size := (h.lt g rfl).2
theorem GD.below (h : GD w base v n G) (hb : Below w.heap.size w w') : GD w' base v n G := by
  obtain ⟨xs, hx, bs, h1, h2, h3⟩ := h
  exact ⟨xs, own_later hx hb, bs, fun i hi => by obtain ⟨c, e, ho⟩ := h1 i hi; exact ⟨c, e, own_later ho hb⟩, h2, h3⟩
/-- One row more, that was made last. -/
theorem GD.push {B g c m : Nat} {xs : List Value} {bs : Nat → Nat} (hB : B ≤ g)
    (hx : w.ownsRow base 23 1 v n xs) (h1 : ∀ i, i < n → ∃ c, xs[i]? = some (.slice (some ⟨bs i, 0, none⟩) (G i).length c) ∧ w.ownsRow base 3 1 (.slice (some ⟨bs i, 0, none⟩) (G i).length c) (G i).length ((G i).map (Value.int .i64)))
    (h2 : ∀ i, i < n → ∀ j, j < n → bs i = bs j → i = j) (h3 : ∀ i, i < n → v.ownBlock ≠ some (bs i)) (hv : ∀ t, v.ownBlock = some t → t < B) (hbs : ∀ i, i < n → bs i < B)
    (hm : m = (G n).length) (hu : w.ownsRow base 3 1 (.slice (some ⟨g, 0, none⟩) m c) m ((G n).map (Value.int .i64))) (ho : w'.ownsRow base 23 1 v' (n + 1) (xs ++ [.slice (some ⟨g, 0, none⟩) m c])) (hg : w.grownBy w' v.ownBlock) (hb : v'.ownBlock = v.ownBlock ∨ v'.ownBlock = some w.heap.size) : GD w' base v' (n + 1) G := by
  subst hm
  have hl : xs.length = n := by have := hx.1; omega
  have hgl := own_blk_lt hu
  refine ⟨_, ho, fun i => if i = n then g else bs i, fun i hi => ?_, fun i hi j hj e => ?_, fun i hi => ?_⟩
  · by_cases e : i = n
    · subst e
      refine ⟨c, ?_, ?_⟩
      · dsimp only; rw [List.getElem?_append_right (by omega), hl, if_pos rfl]; simp
      · dsimp only; rw [if_pos rfl]; exact own_kept hu hx hg (by decide)
    · obtain ⟨c', e1, ho1⟩ := h1 i (by omega)
      refine ⟨c', ?_, ?_⟩
      · dsimp only; rw [List.getElem?_append_left (by omega), if_neg e]; exact e1
      · dsimp only; rw [if_neg e]; exact own_kept ho1 hx hg (by decide)
  · dsimp only at e
    split at e <;> split at e
    · omega
    · have := hbs j (by omega); omega
    · have := hbs i (by omega); omega
    · exact h2 i (by omega) j (by omega) e
  · dsimp only
    split
    · rcases hb with hb | hb
      · rw [hb]; intro e; have := hv _ e; omega
      · rw [hb]; intro e; injection e with e; omega
    · rcases hb with hb | hb
      · rw [hb]; exact h3 i (by omega)
      · rw [hb]; intro e; injection e with e; have := hbs i (by omega); omega
/-- A number of a row is stored. -/
theorem GD.store {G' : Nat → List Int} {i k : Nat} {y : Int} (h : GD w base v n G) (hi : i < n) (he : ∀ j, j < n → j ≠ i → G' j = G j) (hi' : G' i = (G i).set k y) :
    ∃ b c A q, v = .slice (some ⟨A, 0, none⟩) n q ∧ old A w ∧ w.cell? ⟨A, i, none⟩ = some (.slice (some ⟨b, 0, none⟩) (G i).length c) ∧ old b w ∧ (k < (G i).length → w.cell? ⟨b, k, none⟩ = some (.int .i64 ((G i).getD k 0))) ∧ w.frozen? ⟨b, k, none⟩ = false ∧ (∀ w0, Below base w0 w → Below base w0 (w.setCell ⟨b, k, none⟩ (.int .i64 y))) ∧ GD (w.setCell ⟨b, k, none⟩ (.int .i64 y)) base v n G' := by
  obtain ⟨xs, hx, bs, h1, h2, h3⟩ := h
  obtain ⟨c, e, ho⟩ := h1 i hi
  obtain ⟨A, q, rfl⟩ : ∃ A q, v = .slice (some ⟨A, 0, none⟩) n q := by
    rcases hx.2 with ⟨_, h0⟩ | ⟨g, cap, cur, hv, _⟩
    · omega
    · exact ⟨g, cap, hv⟩
  have hbl := ho.lt (bs i) rfl
  have hAl := hx.lt A rfl
  have hlen : (G' i).length = (G i).length := by rw [hi']; simp
  refine ⟨bs i, c, A, q, rfl, hAl.2, own_at hx e, hbl.2, fun hk => own_at ho (by simp [List.getD, hk]), ?_, fun w0 hb => hb.setCell hbl.1 _, xs, own_setNe hx _ _ _ (.inr (h3 i hi)), bs, fun j hj => ?_, h2, h3⟩
  · rcases ho.2 with ⟨h', _⟩ | ⟨g', cap', cur, h', hb, hg, _⟩
    · simp at h'
    · injection h' with h' _ _
      injection h' with h'
      injection h' with h'
      rw [h']
      simp [World.frozen?, hg]
  · by_cases ej : j = i
    · subst ej
      refine ⟨c, by rw [hlen]; exact e, ?_⟩
      have := (ho.stored k (.int .i64 y)).1
      rw [hlen, hi', List.map_set]
      exact this
    · obtain ⟨c', e', ho'⟩ := h1 j hj
      refine ⟨c', by rw [he j hj ej]; exact e', ?_⟩
      rw [he j hj ej]
      exact own_setNe ho' _ _ _ (.inr (by
        simp only [Value.ownBlock, ne_eq, Option.some.injEq]
        exact fun e2 => ej (h2 j hj i hi e2)))
end
/-- The cost of row i and column k. -/
def sqE (a b c d : Int) (i k : Nat) : Int := (a * i * i + b * k + c * i * k) % d
def sqG (n : Nat) (a b c d : Int) (i : Nat) : List Int := (List.range n).map fun k => sqE a b c d i k
def sqR (a b c d : Int) (i m : Nat) : List Int := (List.range m).map fun k => sqE a b c d i k
theorem sqR_snoc (a b c d : Int) (i m : Nat) : sqR a b c d i (m + 1) = sqR a b c d i m ++ [sqE a b c d i m] := by simp [sqR, List.range_succ]
theorem sqR_len (a b c d : Int) (i m : Nat) : (sqR a b c d i m).length = m := by simp [sqR]
theorem mul_bd {x y : Int} {bx by_ : Int} (h1 : 0 ≤ x) (h2 : x ≤ bx) (h3 : 0 ≤ y) (h4 : y ≤ by_) : 0 ≤ x * y ∧ x * y ≤ bx * by_ :=
  ⟨Int.mul_nonneg h1 h3, Int.mul_le_mul h2 h4 h3 (by omega)⟩

/-- The call returns these costs. -/
def RetSq (n : Nat) (G : Nat → List Int) (w : World) (e : Ending) (w' : World) : Prop := ∃ v, e = .returned v ∧ Below w.heap.size w w' ∧ GD w' w.heap.size v n G
set_option maxRecDepth 100000 in
set_option maxHeartbeats 6400000 in
theorem square_any (n : Nat) (a b c d : Int) (w : World) (hn : n ≤ 100) (ha : 0 ≤ a ∧ a ≤ 1000) (hb : 0 ≤ b ∧ b ≤ 1000) (hc : 0 ≤ c ∧ c ≤ 1000) (hd : 1 ≤ d ∧ d ≤ 2000) :
    Calls Try.prog 19 #[.int .i64 (n : Int), .int .i64 a, .int .i64 b, .int .i64 c, .int .i64 d] w (RetSq n (sqG n a b c d) w) := by
  obtain ⟨i0, hi0, hz0, hz1, hz2⟩ := info_parts infoInt
  obtain ⟨i1, hi1, hy0, hy1, hy2⟩ := info_parts infoRow
  obtain ⟨ha1, ha2⟩ := ha
  obtain ⟨hb1, hb2⟩ := hb
  obtain ⟨hc1, hc2⟩ := hc
  obtain ⟨hd1, hd2⟩ := hd
  go_enter Try.func19, Try.ntmps19
  go_wp2_with fail
  go_loopg [11, 12] (n) (fun gk v i wr => ∃ k : Nat, k + gk = n ∧ i = .int .i64 k ∧ Hid (Below w.heap.size w wr) ∧ Hid (GD wr w.heap.size v k (sqG n a b c d)))
  case atStart => exact ⟨0, by omega, rfl, Lib.hid (Below.refl _ _), Lib.hid GD.nil⟩
  case round =>
    obtain ⟨k, hk, rfl, HB, HO⟩ := hrel
    by_cases hlt : k < n
    · obtain ⟨gf, rfl⟩ : ∃ gf, gk = gf + 1 := ⟨gk - 1, by omega⟩
      obtain ⟨Wo, rfl⟩ : ∃ Wo : World, Wo = wr := ⟨_, rfl⟩
      go_wp2_with fail
      go_loopg [13, 14] (n) (fun gk l j wr => ∃ m : Nat, m + gk = n ∧ j = .int .i64 m ∧ Hid (Below Wo.heap.size Wo wr) ∧ Hid (wr.ownsRow Wo.heap.size 3 1 l m ((sqR a b c d k m).map (Value.int .i64))))
      case atStart => exact ⟨0, by omega, rfl, Lib.hid (Below.refl _ _), Lib.hid own_nil⟩
      case round =>
        obtain ⟨m, hm, rfl, HBx, HL⟩ := hrel
        by_cases hlt2 : m < n
        · have hk1 : (k : Int) ≤ 100 := by omega
          have hm1 : (m : Int) ≤ 100 := by omega
          have HS := Lib.hid (show sqE a b c d k m = (a * (k : Int) * (k : Int) + b * (m : Int) + c * (k : Int) * (m : Int)) % d from rfl)
          obtain ⟨p1, hp1⟩ : ∃ p, a * (k : Int) = p := ⟨_, rfl⟩
          have b1 := mul_bd (x := a) (y := (k : Int)) ha1 ha2 (by omega) hk1
          rw [hp1] at b1
          rw [hp1] at HS
          obtain ⟨p2, hp2⟩ : ∃ p, p1 * (k : Int) = p := ⟨_, rfl⟩
          have b2 := mul_bd (x := p1) (y := (k : Int)) b1.1 b1.2 (by omega) hk1
          rw [hp2] at b2
          rw [hp2] at HS
          obtain ⟨p3, hp3⟩ : ∃ p, b * (m : Int) = p := ⟨_, rfl⟩
          have b3 := mul_bd (x := b) (y := (m : Int)) hb1 hb2 (by omega) hm1
          rw [hp3] at b3
          rw [hp3] at HS
          obtain ⟨p4, hp4⟩ : ∃ p, c * (k : Int) = p := ⟨_, rfl⟩
          have b4 := mul_bd (x := c) (y := (k : Int)) hc1 hc2 (by omega) hk1
          rw [hp4] at b4
          rw [hp4] at HS
          obtain ⟨p5, hp5⟩ : ∃ p, p4 * (m : Int) = p := ⟨_, rfl⟩
          have b5 := mul_bd (x := p4) (y := (m : Int)) b4.1 b4.2 (by omega) hm1
          rw [hp5] at b5
          rw [hp5] at HS
          obtain ⟨b11, b12⟩ := b1
          obtain ⟨b21, b22⟩ := b2
          obtain ⟨b31, b32⟩ := b3
          obtain ⟨b41, b42⟩ := b4
          obtain ⟨b51, b52⟩ := b5
          have b12 : p1 ≤ 100000 := by omega
          have b22 : p2 ≤ 10000000 := by omega
          have b32 : p3 ≤ 100000 := by omega
          have b42 : p4 ≤ 100000 := by omega
          have b52 : p5 ≤ 10000000 := by omega
          clear hk1 hm1
          have hrem : (p2 + p3 + p5).tmod d = (p2 + p3 + p5) % d := Int.tmod_eq_emod_of_nonneg (by omega)
          go_wp2_with (at_builtin; go_must (refine wpList_append_own _ rfl (.tmp 25) (.tmp 43) 23 rfl Wo.heap.size 3 i0 _ 1 8 Try.underlying23 hi0 hz0 hz1 hz2 rfl (by omega) u13 m ((sqR a b c d k m).map (Value.int .i64)) rfl (HL.out.alloc _) _ 1 _ [.int .i64 ((p2 + p3 + p5) % d)] rfl rfl ?_ ?_ ?_ ?_ ?_ ?_))
          · exact cells_new _ _ _ _ (by simp)
          · intro u hu; simp only [List.mem_cons, List.not_mem_nil, or_false] at hu; subst hu; rfl
          · simp only [maxLen]; omega
          · omega
          · have := HBx.out.size; simp; omega
          intro v1 w1 hown1 hgr1 _
          have hsx := HBx.out.size
          have HB1' := Lib.hid (below_grown (n := m) (v := u13) (xs := (sqR a b c d k m).map (Value.int .i64)) (e := 3) (s := 1) (HBx.out.alloc hsx (.cells #[.int .i64 ((p2 + p3 + p5) % d)] 3)) (by simp; omega) (HL.out.alloc _) hgr1)
          have HL1 := Lib.hid (show w1.ownsRow Wo.heap.size 3 1 v1 (m + 1) ((sqR a b c d k (m + 1)).map (Value.int .i64)) by rw [sqR_snoc, HS.out, ints_snoc]; exact hown1)
          clear hown1 hgr1 HL HBx HS
          go_wp2_with fail
          go_roundg (gk - 1)
          case measure => omega
          case rel => exact ⟨m + 1, by omega, by go_num, HB1', HL1⟩
        · obtain rfl : n = m := by omega
          obtain ⟨xs, hx, bs, h1, h2, h3⟩ := HO.out
          obtain ⟨gq, cq, rfl⟩ : ∃ g c, u13 = .slice (some ⟨g, 0, none⟩) n c := by
            rcases HL.out.2 with ⟨_, h0⟩ | ⟨g, cap, cur, hv, _⟩
            · omega
            · exact ⟨g, cap, hv⟩
          have hgq := HL.out.lt gq rfl
          have HX := Lib.hid (own_later hx HBx.out)
          have H1 := Lib.hid (show ∀ i, i < k → ∃ c', xs[i]? = some (.slice (some ⟨bs i, 0, none⟩) (sqG n a b c d i).length c') ∧ wr.ownsRow w.heap.size 3 1 (.slice (some ⟨bs i, 0, none⟩) (sqG n a b c d i).length c') (sqG n a b c d i).length ((sqG n a b c d i).map (Value.int .i64)) from fun i hi => by obtain ⟨c', e, ho⟩ := h1 i hi; exact ⟨c', e, own_later ho HBx.out⟩)
          have H2 := Lib.hid h2
          have H3 := Lib.hid h3
          have HV := Lib.hid (show ∀ t, u11.ownBlock = some t → t < Wo.heap.size from fun t e => (hx.lt t e).2)
          have HBS := Lib.hid (show ∀ i, i < k → bs i < Wo.heap.size from fun i hi => by obtain ⟨c', e, ho⟩ := h1 i hi; exact own_blk_lt ho)
          have HLo := Lib.hid (own_low (base := w.heap.size) HL.out (HB.out.size))
          have HBx2 := Lib.hid (Below.next' HB.out HBx.out HB.out.size)
          clear hx h1 h2 h3 HO HL HB HBx
          go_wp2_with (at_builtin; go_must (refine Go.wpList_append_own_at _ rfl (.tmp 45) (.tmp 47) 22 rfl w.heap.size 23 i1 _ 1 24 Try.underlying22 hi1 hy0 hy1 hy2 rfl (by omega) u11 k xs rfl (HX.out.alloc _) _ 1 _ [.slice (some ⟨gq, 0, none⟩) n cq] rfl rfl ?_ ?_ ?_ ?_ ?_ ?_))
          · exact cells_new _ _ _ _ (by simp)
          · intro u hu; simp only [List.mem_cons, List.not_mem_nil, or_false] at hu; subst hu; rfl
          · simp only [maxLen]; omega
          · omega
          · have := HBx2.out.size; simp; omega
          intro v3 w3 hown3 hgrow3 _ hob3
          have hsx := HBx2.out.size
          have HGD := Lib.hid (GD.push (w := wr.alloc (.cells #[.slice (some ⟨gq, 0, none⟩) n cq] 23)) (G := sqG n a b c d) hgq.1 (HX.out.alloc _) (fun i hi => by obtain ⟨c', e, ho⟩ := H1.out i hi; exact ⟨c', e, ho.alloc _⟩) H2.out H3.out HV.out HBS.out (by simp [sqG]) (HLo.out.alloc _) hown3 hgrow3 (by simpa using hob3))
          have HB3 := Lib.hid (below_grown (e := 23) (s := 1) (n := k) (v := u11) (xs := xs) (HBx2.out.alloc hsx (.cells #[.slice (some ⟨gq, 0, none⟩) n cq] 23)) (by simp; omega) (HX.out.alloc _) hgrow3)
          clear hown3 hgrow3 hob3 HX H1 H2 H3 HV HBS HLo HBx2
          go_wp2_with fail
          go_roundg gf
          case measure => omega
          case rel => exact ⟨k + 1, by omega, by go_num, HB3, HGD⟩
    · obtain rfl : n = k := by omega
      go_wp2_with fail
      go_ret
      exact ⟨u11, rfl, HB.out, HO.out⟩
end Go.Proofs.Ytjiknjcmfiapjaa

/- The walk of VectorBox. No condition but that the numbers fit their kinds. -/
import Derived.Test.YtjgfobknifobhaaVecB2
import Derived.Test.YtjgfobknifobhaaVecK
import Derived.Test.YtjgfobknifobhaaVecO
import Derived.Deep.Strs
import Derived.OpenShut
namespace Go.Proofs.Ytjgfobknifobhaa
open Go.RowKit Go.WideShapes Go.ChangeShapes
set_option linter.unusedVariables false

section
variable {H : Type} {enc : TypeId × Value → H} {W : World}

theorem cells_SV {b : Nat} {sp : Nat → Bool} {held : Bool} {A : Option Addr} {n c : Nat} {d : DataW H} {p : List MemPlace} (h : DataW.Trod enc Try.prog W b sp held 46 (.slice A n c) d p) :
    (A = none ∧ n = 0 ∧ c = 0) ∨ ∃ ad, A = some ad ∧ n ≤ c ∧ c ≤ maxLen ∧ ∀ i, i < n → ∃ x y z, W.cell? (ad.add (i * 3)) = some (.int .i64 x) ∧ W.cell? (ad.add (i * 3 + 1)) = some (.int .i64 y) ∧ W.cell? (ad.add (i * 3 + 2)) = some (.int .i64 z) := by
  obtain ⟨fuel, hf⟩ := h
  rcases Go.Deep.open_slice Try.underlying46 hf with ⟨hcs, _⟩ | ⟨a, len, cap, m, k, D, Pl, hcs, _, hl, hm, hmm, _, hi⟩
  · simp [Value.cells] at hcs
    exact .inl ⟨hcs.1, hcs.2.1, hcs.2.2⟩
  · simp [Value.cells] at hcs
    obtain ⟨rfl, rfl, rfl⟩ := hcs
    refine .inr ⟨a, rfl, hl, hm, fun i hin => ?_⟩
    have him : i < m := by rw [hmm]; split <;> omega
    obtain ⟨cs', hc, ht'⟩ := hi i him
    have hC : Try.prog.cellsOf 23 = 3 := by kernel_rfl
    rw [hC] at hc
    obtain ⟨_, hcl, hat⟩ := World.cells?_some hc
    match cs', hcl with
    | [u0, u1, u2], _ =>
      obtain ⟨y0, y1, y2, k', _, _, g0, g1, g2⟩ := Go.Deep.trod_struct3 Try.underlying23 ht'
      have hI : Try.prog.cellsOf 3 = 1 := by kernel_rfl
      dsimp only at g0 g1 g2
      rw [hI] at g0 g1 g2
      obtain ⟨x, e0, _⟩ := DataW.trod_int Try.underlying3 g0
      obtain ⟨y, e1, _⟩ := DataW.trod_int Try.underlying3 g1
      obtain ⟨z, e2, _⟩ := DataW.trod_int Try.underlying3 g2
      simp at e0 e1 e2
      subst e0 e1 e2
      have h0 := hat 0 (by omega)
      have h1 := hat 1 (by omega)
      have h2 := hat 2 (by omega)
      rw [Go.Deep.add_add] at h0 h1 h2
      exact ⟨x, y, z, by simpa using h0, by simpa using h1, by simpa using h2⟩

/-- A slice of vectors: empty, or so many vectors in memory. -/
theorem open_SV {b : Nat} {sp : Nat → Bool} {held : Bool} {A : Option Addr} {n c : Nat} {d : DataW H} {p : List MemPlace} (h : DataW.Trod enc Try.prog W b sp held 46 (.slice A n c) d p) :
    n = 0 ∨ ∃ q o l, A = some ⟨q, o, none⟩ ∧ n = l.length ∧ 0 < n ∧ n ≤ maxLen ∧ Row3 W q o l := by
  rcases cells_SV h with h | ⟨ad, rfl, hl, hm, hc⟩
  · exact .inl h.2.1
  · rcases Nat.eq_zero_or_pos n with h0 | hn
    · exact .inl h0
    have hex : ∀ i, ∃ v : V3, i < n → W.cell? (ad.add (i * 3)) = some (.int .i64 v.x) ∧ W.cell? (ad.add (i * 3 + 1)) = some (.int .i64 v.y) ∧ W.cell? (ad.add (i * 3 + 2)) = some (.int .i64 v.z) := fun i => by
      by_cases hi : i < n
      · obtain ⟨x, y, z, h⟩ := hc i hi
        exact ⟨⟨x, y, z⟩, fun _ => h⟩
      · exact ⟨⟨0, 0, 0⟩, fun h => absurd h hi⟩
    obtain ⟨f, hf⟩ := Classical.axiomOfChoice hex
    obtain ⟨q, o, spot⟩ := ad
    have hspot : spot = none := by simpa [Addr.add] using World.cell?_spot (hf 0 hn).1
    subst hspot
    have hadd : ∀ k, (⟨q, o, none⟩ : Addr).add k = ⟨q, o + k, none⟩ := fun k => by
      unfold Addr.add
      split
      · rename_i h0; rw [h0]; rfl
      · rfl
    simp only [hadd] at hf
    have hold : old q W := old_of_cell (hf 0 hn).1
    have hat : ∀ i, i < n → at_ ((List.range n).map f) i = f i := fun i hi => by simp [at_, List.getD, hi]
    refine .inr ⟨q, o, (List.range n).map f, rfl, by simp, hn, by omega, ⟨hold, fun i hi => ?_, fun i hi => ?_, fun i hi => ?_⟩⟩
    all_goals
      simp only [List.length_map, List.length_range] at hi
      rw [hat i hi]
    · exact (hf i hi).1
    · have := (hf i hi).2.1; rwa [← Nat.add_assoc] at this
    · have := (hf i hi).2.2; rwa [← Nat.add_assoc] at this
end

set_option maxHeartbeats 800000 in
theorem VectorBox_far (A : Option Addr) (n c : Nat) (w : World) (h : 100 < n) (hm : n ≤ maxLen) : Calls Try.prog 7 #[.slice A n c] w (RetB (.bool true) w) := by
  unfold maxLen at hm
  go_enter Try.func7, Try.ntmps7
  go_wp2_with (first
    | (go_at_call 14; refine (RetB.grown (known_any _)).mono ?_; rintro e' w' ⟨rfl, g, rfl⟩)
    | (refine wp_region_xt (by kernel_rfl) (by kernel_rfl) ?_; (repeat (go_big_quiet_step (first | (go_at_call 14; exact RetB.quiet (known_any _))))); refine wpQuiet_nil ?_; intro g))
  go_ret
  exact RetB.of rfl (by repeat' (first | exact Below.refl _ _ | assumption | refine Below.xt ?_ ?_ _ | refine Below.alloc ?_ ?_ _ | refine Below.drew ?_ | refine Below.setCell ?_ ?_ _ | (simp; done) | (simp; omega)))

set_option maxHeartbeats 800000 in
theorem VectorBox_nil (A : Option Addr) (c : Nat) (w : World) : Calls Try.prog 7 #[.slice A 0 c] w (RetB (.bool true) w) := by
  have C1 := fun w => Lib.hid (Box_nil A c w)
  go_enter Try.func7, Try.ntmps7
  go_wp2_with fail
  refine (RetB.grown (C1 _).out).mono ?_
  rintro e' w' ⟨rfl, g, rfl⟩
  go_wp2_with fail
  refine wp_loop_rounds 1 ?_
  repeat any_goals (rw [rounds_succ]; go_wp2_with (first
    | (go_at_call 14; refine (RetB.grown (known_any _)).mono ?_; rintro e' w' ⟨rfl, g, rfl⟩)
    | (refine wp_region_xt (by kernel_rfl) (by kernel_rfl) ?_; (repeat (go_big_quiet_step (first | (go_at_call 14; exact RetB.quiet (known_any _))))); refine wpQuiet_nil ?_; intro g)))
  go_ret
  exact RetB.of rfl (by repeat' (first | exact Below.refl _ _ | assumption | refine Below.xt ?_ ?_ _ | refine Below.alloc ?_ ?_ _ | refine Below.drew ?_ | refine Below.setCell ?_ ?_ _ | (simp; done) | (simp; omega)))

set_option maxRecDepth 100000 in
set_option maxHeartbeats 1600000 in
theorem VectorBox_bad (b o n c : Nat) (l : List V3) (w : World) (hn : n = l.length) (hm : n ≤ 100) (hr : Row3 w b o l) (hbad : ∃ i, i < n ∧ okAt l i = false) : Calls Try.prog 7 #[.slice (some ⟨b, o, none⟩) n c] w (RetB (.bool true) w) := by
  have C1 := Lib.hid (Box_bad b o n c l w hn (by omega) hr hbad)
  have HN := Lib.hid hn
  have HR := Lib.hid hr
  have HB := Lib.hid hbad
  have hb := hr.old
  clear hn hr hbad
  go_enter Try.func7, Try.ntmps7
  go_wp2_with fail
  refine (RetB.grown C1.out).mono ?_
  rintro e' w' ⟨rfl, g1, rfl⟩
  go_wp2_with fail
  go_loopw [22] (fun i wr => ∃ (k : Nat) (g : Gr), k ≤ n ∧ Hid (∀ j, j < k → okAt l j = true) ∧ i = .int .i64 k ∧ wr = xt (((xt w g1).alloc (.cells #[.int .i64 (0), .int .i64 (0), .int .i64 (0)] 23)).alloc (.cells #[.int .i64 (0), .int .i64 (0), .int .i64 (0)] 23)) g) (fun i _ => n - (intOf i).toNat)
  case atStart => exact ⟨0, ⟨[], _⟩, by omega, fun j hj => absurd hj (by omega), rfl, (xt_self _).symm⟩
  case round =>
    obtain ⟨k, g, hk, HK, rfl, rfl⟩ := hrel
    by_cases hlt : k < n
    · have hx := HR.out.x k (HN.out ▸ hlt)
      have hy := HR.out.y k (HN.out ▸ hlt)
      have hz := HR.out.z k (HN.out ▸ hlt)
      have hs := fun (j : Nat) (hj : j < k + 1) (h : okAt l k = true) => show okAt l j = true from if e : j = k then e ▸ h else HK.out j (by omega)
      have HS := Lib.hid hs
      clear hs
      unfold okAt at HS
      generalize hv : at_ l k = v at *
      clear hv
      by_cases hok : vok v.x v.y v.z = true
      · have HO := Lib.hid hok
        go_wp2_with (first
          | (go_at_call 13; refine (RetB.grown (refValid_any v.x v.y v.z _)).mono ?_; rintro e' w' ⟨rfl, g, rfl⟩)
          | (refine wp_region_xt (by kernel_rfl) (by kernel_rfl) ?_; (repeat (go_big_quiet_step (first | (go_at_call 13; exact RetB.quiet (refValid_any v.x v.y v.z _))))); refine wpQuiet_nil ?_; intro g))
        go_roundw
        case rel => exact ⟨k + 1, _, by omega, fun j hj => HS.out j hj HO.out, by go_num, (Classical.choose_spec (xt_of_below (by repeat' (first | exact Below.refl _ _ | assumption | refine Below.xt ?_ ?_ _ | refine Below.alloc ?_ ?_ _ | refine Below.drew ?_ | refine Below.setCell ?_ ?_ _ | (simp; done) | (simp; omega)))))⟩
        case measure => simp [intOf]; omega
      · have hok' : vok v.x v.y v.z = false := by simpa using hok
        clear hok
        go_wp2_with (first
          | (go_at_call 13; refine (RetB.grown (refValid_any v.x v.y v.z _)).mono ?_; rintro e' w' ⟨rfl, g, rfl⟩)
          | (go_at_call 14; refine (RetB.grown (known_any _)).mono ?_; rintro e' w' ⟨rfl, g, rfl⟩)
          | (refine wp_region_xt (by kernel_rfl) (by kernel_rfl) ?_; (repeat (go_big_quiet_step (first | (go_at_call 13; exact RetB.quiet (refValid_any v.x v.y v.z _)) | (go_at_call 14; exact RetB.quiet (known_any _))))); refine wpQuiet_nil ?_; intro g))
        go_ret
        exact RetB.of rfl (by repeat' (first | exact Below.refl _ _ | assumption | refine Below.xt ?_ ?_ _ | refine Below.alloc ?_ ?_ _ | refine Below.drew ?_ | refine Below.setCell ?_ ?_ _ | (simp; done) | (simp; omega)))
    · exfalso
      obtain ⟨j, hj, hf⟩ := HB.out
      have := HK.out j (by omega)
      rw [hf] at this
      cases this

set_option maxRecDepth 100000 in
set_option maxHeartbeats 1600000 in
theorem VectorBox_ok (b o n c : Nat) (l : List V3) (w : World) (hn : n = l.length) (h0 : 0 < n) (hm : n ≤ 100) (hr : Row3 w b o l) (hok : ∀ i, i < n → okAt l i = true) : Calls Try.prog 7 #[.slice (some ⟨b, o, none⟩) n c] w (RetB (.bool true) w) := by
  have C1 := Lib.hid (Box_ok b o n c l w hn h0 (by omega) hr hok)
  have row3 : ∀ w' : World, (∀ p : Addr, p.block = b → w'.cell? p = w.cell? p) → old b w' → Row3 w' b o l := fun w' hc ho => ⟨ho, fun i hi => (hc _ rfl).trans (hr.x i hi), fun i hi => (hc _ rfl).trans (hr.y i hi), fun i hi => (hc _ rfl).trans (hr.z i hi)⟩
  have C2 := fun w' hc ho => Lib.hid (refBox_ok b o n c l w' hn h0 (by omega) (row3 w' hc ho))
  have HN := Lib.hid hn
  have HR := Lib.hid hr
  have HO := Lib.hid hok
  have hb := hr.old
  have hn0 : ((n : Int) == 0) = false := by simp; omega
  clear hn hr hok row3
  go_enter Try.func7, Try.ntmps7
  go_wp2_with fail
  refine (RetB.grown C1.out).mono ?_
  rintro e' w' ⟨rfl, g1, rfl⟩
  go_wp2_with fail
  go_loopw [22] (fun i wr => ∃ (k : Nat) (g : Gr), k ≤ n ∧ i = .int .i64 k ∧ wr = xt (((xt w g1).alloc (.cells #[.int .i64 (lo V3.x l n), .int .i64 (lo V3.y l n), .int .i64 (lo V3.z l n)] 23)).alloc (.cells #[.int .i64 (hi V3.x l n), .int .i64 (hi V3.y l n), .int .i64 (hi V3.z l n)] 23)) g) (fun i _ => n - (intOf i).toNat)
  case atStart => exact ⟨0, ⟨[], _⟩, by omega, rfl, (xt_self _).symm⟩
  case round =>
    obtain ⟨k, g, hk, rfl, rfl⟩ := hrel
    by_cases hlt : k < n
    · have hx := HR.out.x k (HN.out ▸ hlt)
      have hy := HR.out.y k (HN.out ▸ hlt)
      have hz := HR.out.z k (HN.out ▸ hlt)
      have hv := HO.out k hlt
      unfold okAt at hv
      generalize at_ l k = v at *
      go_wp2_with (first
        | (go_at_call 13; refine (RetB.grown (refValid_any v.x v.y v.z _)).mono ?_; rintro e' w' ⟨rfl, g, rfl⟩)
        | (refine wp_region_xt (by kernel_rfl) (by kernel_rfl) ?_; (repeat (go_big_quiet_step (first | (go_at_call 13; exact RetB.quiet (refValid_any v.x v.y v.z _))))); refine wpQuiet_nil ?_; intro g))
      go_roundw
      case rel => exact ⟨k + 1, _, by omega, by go_num, (Classical.choose_spec (xt_of_below (by repeat' (first | exact Below.refl _ _ | assumption | refine Below.xt ?_ ?_ _ | refine Below.alloc ?_ ?_ _ | refine Below.drew ?_ | refine Below.setCell ?_ ?_ _ | (simp; done) | (simp; omega)))))⟩
      case measure => simp [intOf]; omega
    · go_wp2_with fail
      refine (RetB.grown (C2 _ (fun p hp => ?_) ?_).out).mono ?_
      · obtain ⟨pb, po, ps⟩ := p
        simp only at hp
        subst hp
        go_simp
      · go_simp
      rintro e' w' ⟨rfl, g2, rfl⟩
      go_wp2_with (first
        | (go_at_call 14; refine (RetB.grown (known_any _)).mono ?_; rintro e' w' ⟨rfl, g, rfl⟩)
        | (refine wp_region_xt (by kernel_rfl) (by kernel_rfl) ?_; (repeat (go_big_quiet_step (first | (go_at_call 14; exact RetB.quiet (known_any _))))); refine wpQuiet_nil ?_; intro g))
      go_ret
      exact RetB.of rfl (by repeat' (first | exact Below.refl _ _ | assumption | refine Below.xt ?_ ?_ _ | refine Below.alloc ?_ ?_ _ | refine Below.drew ?_ | refine Below.setCell ?_ ?_ _ | (simp; done) | (simp; omega)))

theorem VectorBox_walk (A : Option Addr) (n c : Nat) (w : World) (hs : n = 0 ∨ ∃ q o l, A = some ⟨q, o, none⟩ ∧ n = l.length ∧ 0 < n ∧ n ≤ maxLen ∧ Row3 w q o l) : Calls Try.prog 7 #[.slice A n c] w (RetB (.bool true) w) := by
  rcases hs with rfl | ⟨q, o, l, rfl, hn, h0, hm, hr⟩
  · exact VectorBox_nil A c w
  · by_cases h : 100 < n
    · exact VectorBox_far _ n c w h hm
    · by_cases hp : ∃ i, i < n ∧ okAt l i = false
      · exact VectorBox_bad q o n c l w hn (by omega) hr hp
      · exact VectorBox_ok q o n c l w hn h0 (by omega) hr fun i hi => by
          cases hh : okAt l i
          · exact absurd ⟨i, hi, hh⟩ hp
          · rfl

end Go.Proofs.Ytjgfobknifobhaa

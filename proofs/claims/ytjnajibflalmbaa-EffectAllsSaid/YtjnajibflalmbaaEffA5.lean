/- A slice of vectors as an argument; EffectAlls by cases. No condition but that the numbers fit their kinds. -/
import Derived.Test.YtjnajibflalmbaaEffA4
import Derived.Deep.Strs
import Derived.OpenShut
namespace Go.Proofs.Ytjnajibflalmbaa
open Go.RowKit Go.WideShapes Go.ChangeShapes
set_option linter.unusedVariables false
attribute [local go_sem ↓] ld16

section
variable {H : Type} {enc : TypeId × Value → H} {W : World}

theorem cells_SV {b : Nat} {sp : Nat → Bool} {held : Bool} {A : Option Addr} {n c : Nat} {d : DataW H} {p : List MemPlace} (h : DataW.Trod enc Try.prog W b sp held 47 (.slice A n c) d p) :
    (A = none ∧ n = 0 ∧ c = 0) ∨ ∃ ad, A = some ad ∧ n ≤ c ∧ c ≤ maxLen ∧ ∀ i, i < n → ∃ x y z, W.cell? (ad.add (i * 3)) = some (.int .i64 x) ∧ W.cell? (ad.add (i * 3 + 1)) = some (.int .i64 y) ∧ W.cell? (ad.add (i * 3 + 2)) = some (.int .i64 z) := by
  obtain ⟨fuel, hf⟩ := h
  rcases Go.Deep.open_slice Try.underlying47 hf with ⟨hcs, _⟩ | ⟨a, len, cap, m, k, D, Pl, hcs, _, hl, hm, hmm, _, hi⟩
  · simp [Value.cells] at hcs
    exact .inl ⟨hcs.1, hcs.2.1, hcs.2.2⟩
  · simp [Value.cells] at hcs
    obtain ⟨rfl, rfl, rfl⟩ := hcs
    refine .inr ⟨a, rfl, hl, hm, fun i hin => ?_⟩
    have him : i < m := by rw [hmm]; split <;> omega
    obtain ⟨cs', hc, ht'⟩ := hi i him
    have hC : Try.prog.cellsOf 24 = 3 := by kernel_rfl
    rw [hC] at hc
    obtain ⟨_, hcl, hat⟩ := World.cells?_some hc
    match cs', hcl with
    | [u0, u1, u2], _ =>
      obtain ⟨y0, y1, y2, k', _, _, g0, g1, g2⟩ := Go.Deep.trod_struct3 Try.underlying24 ht'
      have hI : Try.prog.cellsOf 3 = 1 := by kernel_rfl
      dsimp only at g0 g1 g2
      rw [hI] at g0 g1 g2
      obtain ⟨x, e0, _⟩ := DataW.trod_int Try.underlying3 g0
      obtain ⟨y, e1, _⟩ := DataW.trod_int Try.underlying3 g1
      obtain ⟨z, e2, _⟩ := DataW.trod_int Try.underlying3 g2
      simp at e0 e1 e2
      subst e0 e1 e2
      have h0 := hat 0 (by omega)
      have h1 := hat 1 (by omega)
      have h2 := hat 2 (by omega)
      rw [Go.Deep.add_add] at h0 h1 h2
      exact ⟨x, y, z, by simpa using h0, by simpa using h1, by simpa using h2⟩

/-- A slice of vectors: nil, or so many vectors in memory. -/
theorem open_SV {b : Nat} {sp : Nat → Bool} {held : Bool} {A : Option Addr} {n c : Nat} {d : DataW H} {p : List MemPlace} (h : DataW.Trod enc Try.prog W b sp held 47 (.slice A n c) d p) :
    (A = none ∧ n = 0 ∧ c = 0) ∨ ∃ ad l, A = some ad ∧ n = l.length ∧ n ≤ maxLen ∧ RowV W (some ad) l := by
  rcases cells_SV h with h | ⟨ad, rfl, hl, hm, hc⟩
  · exact .inl h
  · have hex : ∀ i, ∃ v : V3, i < n → W.cell? (ad.add (i * 3)) = some (.int .i64 v.x) ∧ W.cell? (ad.add (i * 3 + 1)) = some (.int .i64 v.y) ∧ W.cell? (ad.add (i * 3 + 2)) = some (.int .i64 v.z) := fun i => by
      by_cases hi : i < n
      · obtain ⟨x, y, z, h⟩ := hc i hi
        exact ⟨⟨x, y, z⟩, fun _ => h⟩
      · exact ⟨⟨0, 0, 0⟩, fun h => absurd h hi⟩
    obtain ⟨f, hf⟩ := Classical.axiomOfChoice hex
    refine .inr ⟨ad, (List.range n).map f, rfl, by simp, by omega, ⟨fun hn => ?_⟩⟩
    simp only [List.length_map, List.length_range] at hn ⊢
    obtain ⟨q, o, spot⟩ := ad
    have hspot : spot = none := by simpa [Addr.add] using World.cell?_spot (hf 0 hn).1
    subst hspot
    have hadd : ∀ k, (⟨q, o, none⟩ : Addr).add k = ⟨q, o + k, none⟩ := fun k => by
      unfold Addr.add
      split
      · rename_i h0; rw [h0]; rfl
      · rfl
    simp only [hadd] at hf
    have hold : old q W := by
      have h0 := (hf 0 hn).1
      rcases Nat.lt_or_ge q W.heap.size with hlt | hge
      · exact hlt
      · simp [World.cell?, Array.getElem?_eq_none hge] at h0
    refine ⟨q, o, rfl, hold, fun i j hi hj => ?_⟩
    have hat : at_ ((List.range n).map f) i = f i := by simp [at_, List.getD, hi]
    rw [hat]
    obtain ⟨h0, h1, h2⟩ := hf i hi
    rw [← Nat.add_assoc] at h1 h2
    have : j = 0 ∨ j = 1 ∨ j = 2 := by omega
    rcases this with rfl | rfl | rfl
    · exact h0
    · exact h1
    · exact h2
end

set_option maxRecDepth 100000 in
set_option maxHeartbeats 3200000 in
theorem Alls_nil_err (e : Eff) (t : Int) (w : World) (d : Int) (c1 : ∀ c w, Calls Try.prog 19 #[.agg #[.int .i64 e.kind, .int .i64 e.fr, .int .i64 e.to, .int .i64 e.period, .int .i64 e.width, .int .i64 e.along.x, .int .i64 e.along.y, .int .i64 e.along.z, .int .i64 e.scale, .int .i64 e.seed, .int .u8 e.a.r, .int .u8 e.a.g, .int .u8 e.a.b, .int .u8 e.b.r, .int .u8 e.b.g, .int .u8 e.b.b], .slice none 0 c, .int .i64 t] w (RetB (.tuple #[.slice none 0 0, .int .i64 d]) w)) (c2 : ∀ c w, Calls Try.prog 20 #[.agg #[.int .i64 e.kind, .int .i64 e.fr, .int .i64 e.to, .int .i64 e.period, .int .i64 e.width, .int .i64 e.along.x, .int .i64 e.along.y, .int .i64 e.along.z, .int .i64 e.scale, .int .i64 e.seed, .int .u8 e.a.r, .int .u8 e.a.g, .int .u8 e.a.b, .int .u8 e.b.r, .int .u8 e.b.g, .int .u8 e.b.b], .slice none 0 c, .int .i64 t] w (RetB (.tuple #[.slice none 0 0, .int .i64 d]) w)) :
    Calls Try.prog 8 #[.agg #[.int .i64 e.kind, .int .i64 e.fr, .int .i64 e.to, .int .i64 e.period, .int .i64 e.width, .int .i64 e.along.x, .int .i64 e.along.y, .int .i64 e.along.z, .int .i64 e.scale, .int .i64 e.seed, .int .u8 e.a.r, .int .u8 e.a.g, .int .u8 e.a.b, .int .u8 e.b.r, .int .u8 e.b.g, .int .u8 e.b.b], .slice none 0 0, .int .i64 t] w (RetB (.bool true) w) := by
  have H1 := fun c w => Lib.hid (c1 c w)
  have H2 := fun c w => Lib.hid (c2 c w)
  obtain ⟨i0, hi0, hz0, hz1, hz2⟩ := info_parts infoVec
  clear c1 c2
  go_enter Try.func8, Try.ntmps8
  go_wp2_with (at_builtin; refine wpList_append_own_none rfl _ _ 47 rfl (w.alloc (.cells #[.int .i64 e.kind, .int .i64 e.fr, .int .i64 e.to, .int .i64 e.period, .int .i64 e.width, .int .i64 e.along.x, .int .i64 e.along.y, .int .i64 e.along.z, .int .i64 e.scale, .int .i64 e.seed, .int .u8 e.a.r, .int .u8 e.a.g, .int .u8 e.a.b, .int .u8 e.b.r, .int .u8 e.b.g, .int .u8 e.b.b] 28)).heap.size 24 i0 3 Try.underlying47 hi0 (.slice none 0 0) 0 [] rfl own_nil rfl ?_)
  go_wp2_with fail
  refine (RetB.grown (H1 _ _).out).mono ?_
  rintro e' w' ⟨rfl, g2, rfl⟩
  go_wp2_with fail
  refine (RetB.grown (H2 _ _).out).mono ?_
  rintro e' w' ⟨rfl, g3, rfl⟩
  go_wp2_with fail
  refine wp_loop_rounds 1 ?_
  repeat any_goals (rw [rounds_succ]; go_wp2_with (first
    | (go_at_call 21; refine (RetB.grown (same_any none none 0 0 0 (fun _ => black) _ (by omega) Row.none_ Row.none_)).mono ?_; rintro e' w' ⟨rfl, g, rfl⟩)
    | (go_at_call 11; refine (RetB.grown (known_any _)).mono ?_; rintro e' w' ⟨rfl, g, rfl⟩)
    | (refine wp_region_xt (by kernel_rfl) (by kernel_rfl) ?_; (repeat (go_big_quiet_step (first | (go_at_call 21; exact RetB.quiet (same_any none none 0 0 0 (fun _ => black) _ (by omega) Row.none_ Row.none_)) | (go_at_call 11; exact RetB.quiet (known_any _))))); refine wpQuiet_nil ?_; intro g)))
  go_ret
  exact RetB.of rfl (by repeat' (first | exact Below.refl _ _ | assumption | refine Below.xt ?_ ?_ _ | refine Below.alloc ?_ ?_ _ | refine Below.drew ?_ | refine Below.setCell ?_ ?_ _ | (simp; done) | (simp; omega)))
set_option maxRecDepth 100000 in
set_option maxHeartbeats 3200000 in
theorem Alls_nil_ok (e : Eff) (t : Int) (w : World) (c1 : ∀ c w, Calls Try.prog 19 #[.agg #[.int .i64 e.kind, .int .i64 e.fr, .int .i64 e.to, .int .i64 e.period, .int .i64 e.width, .int .i64 e.along.x, .int .i64 e.along.y, .int .i64 e.along.z, .int .i64 e.scale, .int .i64 e.seed, .int .u8 e.a.r, .int .u8 e.a.g, .int .u8 e.a.b, .int .u8 e.b.r, .int .u8 e.b.g, .int .u8 e.b.b], .slice none 0 c, .int .i64 t] w (RetRow 0 3 (fun i => ccell (colAt e [] t i)) w)) (c2 : ∀ c w, Calls Try.prog 20 #[.agg #[.int .i64 e.kind, .int .i64 e.fr, .int .i64 e.to, .int .i64 e.period, .int .i64 e.width, .int .i64 e.along.x, .int .i64 e.along.y, .int .i64 e.along.z, .int .i64 e.scale, .int .i64 e.seed, .int .u8 e.a.r, .int .u8 e.a.g, .int .u8 e.a.b, .int .u8 e.b.r, .int .u8 e.b.g, .int .u8 e.b.b], .slice none 0 c, .int .i64 t] w (RetRow 0 3 (fun i => ccell (colAt e [] t i)) w)) :
    Calls Try.prog 8 #[.agg #[.int .i64 e.kind, .int .i64 e.fr, .int .i64 e.to, .int .i64 e.period, .int .i64 e.width, .int .i64 e.along.x, .int .i64 e.along.y, .int .i64 e.along.z, .int .i64 e.scale, .int .i64 e.seed, .int .u8 e.a.r, .int .u8 e.a.g, .int .u8 e.a.b, .int .u8 e.b.r, .int .u8 e.b.g, .int .u8 e.b.b], .slice none 0 0, .int .i64 t] w (RetB (.bool true) w) := by
  have H1 := fun c w => Lib.hid (c1 c w)
  have H2 := fun c w => Lib.hid (c2 c w)
  obtain ⟨i0, hi0, hz0, hz1, hz2⟩ := info_parts infoVec
  clear c1 c2
  go_enter Try.func8, Try.ntmps8
  go_wp2_with (at_builtin; refine wpList_append_own_none rfl _ _ 47 rfl (w.alloc (.cells #[.int .i64 e.kind, .int .i64 e.fr, .int .i64 e.to, .int .i64 e.period, .int .i64 e.width, .int .i64 e.along.x, .int .i64 e.along.y, .int .i64 e.along.z, .int .i64 e.scale, .int .i64 e.seed, .int .u8 e.a.r, .int .u8 e.a.g, .int .u8 e.a.b, .int .u8 e.b.r, .int .u8 e.b.g, .int .u8 e.b.b] 28)).heap.size 24 i0 3 Try.underlying47 hi0 (.slice none 0 0) 0 [] rfl own_nil rfl ?_)
  go_wp2_with fail
  refine (H1 _ _).out.mono ?_
  rintro e' w' ⟨A1, q1, rfl, hb2, hrow1⟩
  obtain ⟨g2, rfl⟩ := xt_of_below hb2
  have HA := Lib.hid hrow1
  clear hb2 hrow1
  go_wp2_with fail
  refine (H2 _ _).out.mono ?_
  rintro e' w' ⟨A2, q2, rfl, hb3, hrow2⟩
  obtain ⟨g3, rfl⟩ := xt_of_below hb3
  have HB := Lib.hid hrow2
  clear hb3 hrow2
  go_wp2_with fail
  refine wp_loop_rounds 1 ?_
  repeat any_goals (rw [rounds_succ]; go_wp2_with (first
    | (go_at_call 21; refine (RetB.grown (same_any A1 A2 _ _ _ (colAt e [] t) _ (by omega) Row.none_ Row.none_)).mono ?_; rintro e' w' ⟨rfl, g, rfl⟩)
    | (go_at_call 11; refine (RetB.grown (known_any _)).mono ?_; rintro e' w' ⟨rfl, g, rfl⟩)
    | (refine wp_region_xt (by kernel_rfl) (by kernel_rfl) ?_; (repeat (go_big_quiet_step (first | (go_at_call 21; exact RetB.quiet (same_any A1 A2 _ _ _ (colAt e [] t) _ (by omega) Row.none_ Row.none_)) | (go_at_call 11; exact RetB.quiet (known_any _))))); refine wpQuiet_nil ?_; intro g)))
  go_ret
  exact RetB.of rfl (by repeat' (first | exact Below.refl _ _ | assumption | refine Below.xt ?_ ?_ _ | refine Below.alloc ?_ ?_ _ | refine Below.drew ?_ | refine Below.setCell ?_ ?_ _ | (simp; done) | (simp; omega)))

set_option maxHeartbeats 800000 in
theorem Alls_far (e : Eff) (A : Option Addr) (n c : Nat) (t : Int) (w : World) (h : 70 < n) (hm : n ≤ maxLen) : Calls Try.prog 8 #[.agg #[.int .i64 e.kind, .int .i64 e.fr, .int .i64 e.to, .int .i64 e.period, .int .i64 e.width, .int .i64 e.along.x, .int .i64 e.along.y, .int .i64 e.along.z, .int .i64 e.scale, .int .i64 e.seed, .int .u8 e.a.r, .int .u8 e.a.g, .int .u8 e.a.b, .int .u8 e.b.r, .int .u8 e.b.g, .int .u8 e.b.b], .slice A n c, .int .i64 t] w (RetB (.bool true) w) := by
  unfold maxLen at hm
  go_enter Try.func8, Try.ntmps8
  go_wp2_with (first
    | (go_at_call 11; refine (RetB.grown (known_any _)).mono ?_; rintro e' w' ⟨rfl, g, rfl⟩)
    | (refine wp_region_xt (by kernel_rfl) (by kernel_rfl) ?_; (repeat (go_big_quiet_step (first | (go_at_call 11; exact RetB.quiet (known_any _))))); refine wpQuiet_nil ?_; intro g))
  go_ret
  exact RetB.of rfl (by repeat' (first | exact Below.refl _ _ | assumption | refine Below.xt ?_ ?_ _ | refine Below.alloc ?_ ?_ _ | refine Below.drew ?_ | refine Below.setCell ?_ ?_ _ | (simp; done) | (simp; omega)))

theorem EffectAlls_walk (e : Eff) (A : Option Addr) (n c : Nat) (time : Int) (w : World) (o : e.ok) (hs : (A = none ∧ n = 0 ∧ c = 0) ∨ ∃ ad l, A = some ad ∧ n = l.length ∧ n ≤ maxLen ∧ RowV w (some ad) l) (ot : I64 time) : Calls Try.prog 8 #[.agg #[.int .i64 e.kind, .int .i64 e.fr, .int .i64 e.to, .int .i64 e.period, .int .i64 e.width, .int .i64 e.along.x, .int .i64 e.along.y, .int .i64 e.along.z, .int .i64 e.scale, .int .i64 e.seed, .int .u8 e.a.r, .int .u8 e.a.g, .int .u8 e.a.b, .int .u8 e.b.r, .int .u8 e.b.g, .int .u8 e.b.b], .slice A n c, .int .i64 time] w (RetB (.bool true) w) := by
  rcases hs with ⟨rfl, rfl, rfl⟩ | ⟨ad, l, rfl, hn, hm, hr⟩
  · by_cases hv : effValid e = true
    · by_cases h12 : e.fr ≤ time ∧ time < e.to
      · exact Alls_nil_ok e time w (fun c w => All_ok e none 0 c [] time w o.a o.b rfl (by omega) Row.none_ hv (fun i hi => absurd hi (by omega)) h12.1 h12.2) (fun c w => refAll_ok e none 0 c [] time w rfl (by omega) Row.none_ hv (fun i hi => absurd hi (by omega)) o.a o.b h12.1 h12.2)
      · exact Alls_nil_err e time w 3 (fun c w => All_range e none 0 c [] time w rfl (by omega) Row.none_ hv (fun i hi => absurd hi (by omega)) (by omega)) (fun c w => refAll_range e none 0 c [] time w rfl (by omega) Row.none_ hv (fun i hi => absurd hi (by omega)) h12)
    · have hv' : effValid e = false := by simpa using hv
      exact Alls_nil_err e time w 2 (fun c w => All_arg e none 0 c [] time w rfl (by omega) Row.none_ (.inl hv')) (fun c w => refAll_head e none 0 c time w (.inl hv') (by omega))
  · by_cases h70 : 70 < n
    · exact Alls_far e (some ad) n c time w h70 hm
    · by_cases hb : effValid e = false ∨ 64 < n
      · exact Alls_err e ad n c l time w hn (by omega) hr 2 (fun A c w h => All_arg e A n c l time w hn (by omega) h (hb.imp_right .inl)) (fun A c w h => refAll_head e A n c time w hb (by omega))
      · have hv : effValid e = true := by
          cases hh : effValid e
          · exact absurd (.inl hh) hb
          · rfl
        have h64 : n ≤ 64 := by
          rcases Nat.lt_or_ge 64 n with h | h
          · exact absurd (.inr h) hb
          · exact h
        by_cases hp : ∃ i, i < n ∧ pointAt l i = false
        · exact Alls_err e ad n c l time w hn (by omega) hr 2 (fun A c w h => All_arg e A n c l time w hn (by omega) h (.inr (.inr hp))) (fun A c w h => by
            obtain ⟨b, q, rfl, _, _⟩ := h.at_ (by obtain ⟨i, hi, _⟩ := hp; omega)
            exact refAll_bad e b q n c l time w hn h64 h hv hp)
        · have hp' : ∀ i, i < n → pointAt l i = true := fun i hi => by
            cases hh : pointAt l i
            · exact absurd ⟨i, hi, hh⟩ hp
            · rfl
          by_cases h12 : e.fr ≤ time ∧ time < e.to
          · exact Alls_ok e ad n c l time w hn (by omega) hr (fun A c w h => All_ok e A n c l time w o.a o.b hn h64 h hv hp' h12.1 h12.2) (fun A c w h => refAll_ok e A n c l time w hn h64 h hv hp' o.a o.b h12.1 h12.2)
          · exact Alls_err e ad n c l time w hn (by omega) hr 3 (fun A c w h => All_range e A n c l time w hn h64 h hv hp' (by omega)) (fun A c w h => refAll_range e A n c l time w hn h64 h hv hp' h12)

end Go.Proofs.Ytjnajibflalmbaa

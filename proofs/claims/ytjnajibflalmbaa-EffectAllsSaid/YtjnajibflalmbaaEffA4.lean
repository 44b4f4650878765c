/- The walk of EffectAlls. No condition but that the numbers fit their kinds. -/
import Derived.Test.YtjnajibflalmbaaEffA3
import Derived.Laws.AppendOwnNone
namespace Go.Proofs.Ytjnajibflalmbaa
open Go.RowKit
set_option linter.unusedVariables false
attribute [local go_sem ↓] ld16

theorem infoVec : (Try.prog.info? 24).map (fun i => (i.zero, i.size, i.bytes)) = some (some (.agg #[.int .i64 0, .int .i64 0, .int .i64 0]), 3, 24) := by kernel_rfl

theorem row_news {w : World} {ad : Addr} {n s : Nat} {f : Nat → Nat → Value} (h : Row w (some ad) n s f) (hs : 0 < s) : ∀ j u, (flat n s f)[j]? = some u → w.cell? (ad.add j) = some u := by
  intro j u hu
  have hj : j < n * s := by
    have := (List.getElem?_eq_some_iff.1 hu).1
    rwa [flat_length] at this
  have hn : 0 < n := by
    rcases Nat.eq_zero_or_pos n with h0 | h0
    · subst h0; rw [Nat.zero_mul] at hj; omega
    · exact h0
  obtain ⟨b, o, e, _, hc⟩ := h.at_ hn
  injection e with e
  subst e
  have hq : j / s < n := (Nat.div_lt_iff_lt_mul hs).2 hj
  have hr : j % s < s := Nat.mod_lt _ hs
  have e1 : j = j / s * s + j % s := by rw [Nat.mul_comm]; exact (Nat.div_add_mod j s).symm
  have h1 := hc _ _ hq hr
  have h2 := flat_get (f := f) hq hr
  rw [← e1, hu] at h2
  injection h2 with h2
  have hadd : (⟨b, o, none⟩ : Addr).add j = ⟨b, o + j / s * s + j % s, none⟩ := by
    have e2 : o + j / s * s + j % s = o + j := by omega
    rw [e2]
    unfold Addr.add
    split
    · rename_i h0; rw [h0]; rfl
    · rfl
  rw [hadd, h1, h2]

theorem one_cells {n : Nat} {l : List V3} : ∀ u ∈ flat n 3 (fun i => vcell (at_ l i)), u.oneCell' = true := by
  intro u hu
  unfold flat at hu
  obtain ⟨k, _, rfl⟩ := List.mem_map.1 hu
  show (vcell (at_ l (k / 3)) (k % 3)).oneCell' = true
  unfold vcell
  split
  · rfl
  · split <;> rfl

set_option maxRecDepth 100000 in
set_option maxHeartbeats 3200000 in
theorem Alls_err (e : Eff) (ad : Addr) (n cap : Nat) (l : List V3) (t : Int) (w : World) (hn : n = l.length) (hm : n ≤ 70) (hr : RowV w (some ad) l) (d : Int) (c1 : ∀ A c w, RowV w A l → Calls Try.prog 19 #[.agg #[.int .i64 e.kind, .int .i64 e.fr, .int .i64 e.to, .int .i64 e.period, .int .i64 e.width, .int .i64 e.along.x, .int .i64 e.along.y, .int .i64 e.along.z, .int .i64 e.scale, .int .i64 e.seed, .int .u8 e.a.r, .int .u8 e.a.g, .int .u8 e.a.b, .int .u8 e.b.r, .int .u8 e.b.g, .int .u8 e.b.b], .slice A n c, .int .i64 t] w (RetB (.tuple #[.slice none 0 0, .int .i64 d]) w)) (c2 : ∀ A c w, RowV w A l → Calls Try.prog 20 #[.agg #[.int .i64 e.kind, .int .i64 e.fr, .int .i64 e.to, .int .i64 e.period, .int .i64 e.width, .int .i64 e.along.x, .int .i64 e.along.y, .int .i64 e.along.z, .int .i64 e.scale, .int .i64 e.seed, .int .u8 e.a.r, .int .u8 e.a.g, .int .u8 e.a.b, .int .u8 e.b.r, .int .u8 e.b.g, .int .u8 e.b.b], .slice A n c, .int .i64 t] w (RetB (.tuple #[.slice none 0 0, .int .i64 d]) w)) :
    Calls Try.prog 8 #[.agg #[.int .i64 e.kind, .int .i64 e.fr, .int .i64 e.to, .int .i64 e.period, .int .i64 e.width, .int .i64 e.along.x, .int .i64 e.along.y, .int .i64 e.along.z, .int .i64 e.scale, .int .i64 e.seed, .int .u8 e.a.r, .int .u8 e.a.g, .int .u8 e.a.b, .int .u8 e.b.r, .int .u8 e.b.g, .int .u8 e.b.b], .slice (some ad) n cap, .int .i64 t] w (RetB (.bool true) w) := by
  have HN := Lib.hid hn
  have HR := Lib.hid hr
  have H1 := fun A c w h => Lib.hid (c1 A c w h)
  have H2 := fun A c w h => Lib.hid (c2 A c w h)
  obtain ⟨i0, hi0, hz0, hz1, hz2⟩ := info_parts infoVec
  clear hn hr c1 c2
  go_enter Try.func8, Try.ntmps8
  go_wp2_with (at_builtin; refine wpList_append_own _ rfl _ _ 47 rfl (w.alloc (.cells #[.int .i64 e.kind, .int .i64 e.fr, .int .i64 e.to, .int .i64 e.period, .int .i64 e.width, .int .i64 e.along.x, .int .i64 e.along.y, .int .i64 e.along.z, .int .i64 e.scale, .int .i64 e.seed, .int .u8 e.a.r, .int .u8 e.a.g, .int .u8 e.a.b, .int .u8 e.b.r, .int .u8 e.b.g, .int .u8 e.b.b] 28)).heap.size 24 i0 _ 3 24 Try.underlying47 hi0 hz0 hz1 hz2 rfl (by omega) (.slice none 0 0) 0 [] rfl own_nil ad n cap (flat n 3 fun i => vcell (at_ l i)) rfl (flat_length _ _ _) ?_ one_cells ?_ ?_ ?_ ?_)
  · exact row_news (Row.alloc (by rw [HN.out]; exact HR.out) _) (by omega)
  · simp only [maxLen]; omega
  · omega
  · simp
  intro v1 w1 hown1 hgr1 _
  have hb1 : Below (w.alloc (.cells #[.int .i64 e.kind, .int .i64 e.fr, .int .i64 e.to, .int .i64 e.period, .int .i64 e.width, .int .i64 e.along.x, .int .i64 e.along.y, .int .i64 e.along.z, .int .i64 e.scale, .int .i64 e.seed, .int .u8 e.a.r, .int .u8 e.a.g, .int .u8 e.a.b, .int .u8 e.b.r, .int .u8 e.b.g, .int .u8 e.b.b] 28)).heap.size (w.alloc (.cells #[.int .i64 e.kind, .int .i64 e.fr, .int .i64 e.to, .int .i64 e.period, .int .i64 e.width, .int .i64 e.along.x, .int .i64 e.along.y, .int .i64 e.along.z, .int .i64 e.scale, .int .i64 e.seed, .int .u8 e.a.r, .int .u8 e.a.g, .int .u8 e.a.b, .int .u8 e.b.r, .int .u8 e.b.g, .int .u8 e.b.b] 28)) w1 := (Below.refl _ _).grown hgr1 (Nat.le_refl _) (by simp [Value.ownBlock])
  obtain ⟨g9, rfl⟩ := xt_of_below hb1
  obtain ⟨A', c', rfl, hrow⟩ := Row.of_own (n := n) (f := fun i => vcell (at_ l i)) (by simpa using hown1) rfl
  have HO := Lib.hid (show RowV (xt (w.alloc (.cells #[.int .i64 e.kind, .int .i64 e.fr, .int .i64 e.to, .int .i64 e.period, .int .i64 e.width, .int .i64 e.along.x, .int .i64 e.along.y, .int .i64 e.along.z, .int .i64 e.scale, .int .i64 e.seed, .int .u8 e.a.r, .int .u8 e.a.g, .int .u8 e.a.b, .int .u8 e.b.r, .int .u8 e.b.g, .int .u8 e.b.b] 28)) g9) A' l by unfold RowV; rw [← HN.out]; exact hrow)
  clear hown1 hgr1 hb1 hrow
  go_wp2_with fail
  refine (RetB.grown (H1 A' c' _ HO.out).out).mono ?_
  rintro e' w' ⟨rfl, g2, rfl⟩
  go_wp2_with fail
  refine (RetB.grown (H2 _ _ _ (Row.xt (Row.xt (Row.alloc HR.out _) _) _)).out).mono ?_
  rintro e' w' ⟨rfl, g3, rfl⟩
  go_wp2_with fail
  rcases Nat.eq_zero_or_pos n with h0 | h0
  · subst h0
    refine wp_loop_rounds 1 ?_
    repeat any_goals (rw [rounds_succ]; go_wp2_with (first
      | (go_at_call 21; refine (RetB.grown (same_any none none 0 0 0 (fun _ => black) _ (by omega) Row.none_ Row.none_)).mono ?_; rintro e' w' ⟨rfl, g, rfl⟩)
      | (go_at_call 11; refine (RetB.grown (known_any _)).mono ?_; rintro e' w' ⟨rfl, g, rfl⟩)
      | (refine wp_region_xt (by kernel_rfl) (by kernel_rfl) ?_; (repeat (go_big_quiet_step (first | (go_at_call 21; exact RetB.quiet (same_any none none 0 0 0 (fun _ => black) _ (by omega) Row.none_ Row.none_)) | (go_at_call 11; exact RetB.quiet (known_any _))))); refine wpQuiet_nil ?_; intro g)))
    go_ret
    exact RetB.of rfl (by repeat' (first | exact Below.refl _ _ | assumption | refine Below.xt ?_ ?_ _ | refine Below.alloc ?_ ?_ _ | refine Below.drew ?_ | refine Below.setCell ?_ ?_ _ | (simp; done) | (simp; omega)))
  · obtain ⟨b, o, e1, hb, hc⟩ := HR.out.at_ (by rw [← HN.out]; exact h0)
    injection e1 with e1
    subst e1
    obtain ⟨b', o', rfl, hb', hc'⟩ := HO.out.at_ (by rw [← HN.out]; exact h0)
    have HC := Lib.hid hc
    have HC' := Lib.hid hc'
    clear hc hc'
    go_loopw [12] (fun i wr => ∃ (k : Nat) (g : Gr), k ≤ n ∧ i = .int .i64 k ∧ wr = xt (xt (xt (xt (w.alloc (.cells #[.int .i64 e.kind, .int .i64 e.fr, .int .i64 e.to, .int .i64 e.period, .int .i64 e.width, .int .i64 e.along.x, .int .i64 e.along.y, .int .i64 e.along.z, .int .i64 e.scale, .int .i64 e.seed, .int .u8 e.a.r, .int .u8 e.a.g, .int .u8 e.a.b, .int .u8 e.b.r, .int .u8 e.b.g, .int .u8 e.b.b] 28)) g9) g2) g3) g) (fun i _ => n - (intOf i).toNat)
    case atStart => exact ⟨0, ⟨[], _⟩, by omega, rfl, (xt_self _).symm⟩
    case round =>
      obtain ⟨k, g, hk, rfl, rfl⟩ := hrel
      by_cases hlt : k < n
      · obtain ⟨hx, hy, hz⟩ := RowV.cells HC.out (HN.out ▸ hlt)
        obtain ⟨gx, gy, gz⟩ := RowV.cells HC'.out (HN.out ▸ hlt)
        generalize at_ l k = v at *
        go_wp2_with (first
          | (refine wp_region_xt (by kernel_rfl) (by kernel_rfl) ?_; (repeat (go_big_quiet_step (first | fail))); refine wpQuiet_nil ?_; intro g))
        go_roundw
        case rel => exact ⟨k + 1, _, by omega, by go_num, (Classical.choose_spec (xt_of_below (by repeat' (first | exact Below.refl _ _ | assumption | refine Below.xt ?_ ?_ _ | refine Below.alloc ?_ ?_ _ | refine Below.drew ?_ | refine Below.setCell ?_ ?_ _ | (simp; done) | (simp; omega)))))⟩
        case measure => simp [intOf]; omega
      · skip
        go_wp2_with (first
          | (go_at_call 21; refine (RetB.grown (same_any none none 0 0 0 (fun _ => black) _ (by omega) Row.none_ Row.none_)).mono ?_; rintro e' w' ⟨rfl, g, rfl⟩)
          | (go_at_call 11; refine (RetB.grown (known_any _)).mono ?_; rintro e' w' ⟨rfl, g, rfl⟩)
          | (refine wp_region_xt (by kernel_rfl) (by kernel_rfl) ?_; (repeat (go_big_quiet_step (first | (go_at_call 21; exact RetB.quiet (same_any none none 0 0 0 (fun _ => black) _ (by omega) Row.none_ Row.none_)) | (go_at_call 11; exact RetB.quiet (known_any _))))); refine wpQuiet_nil ?_; intro g))
        go_ret
        exact RetB.of rfl (by repeat' (first | exact Below.refl _ _ | assumption | refine Below.xt ?_ ?_ _ | refine Below.alloc ?_ ?_ _ | refine Below.drew ?_ | refine Below.setCell ?_ ?_ _ | (simp; done) | (simp; omega)))
set_option maxRecDepth 100000 in
set_option maxHeartbeats 3200000 in
theorem Alls_ok (e : Eff) (ad : Addr) (n cap : Nat) (l : List V3) (t : Int) (w : World) (hn : n = l.length) (hm : n ≤ 70) (hr : RowV w (some ad) l) (c1 : ∀ A c w, RowV w A l → Calls Try.prog 19 #[.agg #[.int .i64 e.kind, .int .i64 e.fr, .int .i64 e.to, .int .i64 e.period, .int .i64 e.width, .int .i64 e.along.x, .int .i64 e.along.y, .int .i64 e.along.z, .int .i64 e.scale, .int .i64 e.seed, .int .u8 e.a.r, .int .u8 e.a.g, .int .u8 e.a.b, .int .u8 e.b.r, .int .u8 e.b.g, .int .u8 e.b.b], .slice A n c, .int .i64 t] w (RetRow n 3 (fun i => ccell (colAt e l t i)) w)) (c2 : ∀ A c w, RowV w A l → Calls Try.prog 20 #[.agg #[.int .i64 e.kind, .int .i64 e.fr, .int .i64 e.to, .int .i64 e.period, .int .i64 e.width, .int .i64 e.along.x, .int .i64 e.along.y, .int .i64 e.along.z, .int .i64 e.scale, .int .i64 e.seed, .int .u8 e.a.r, .int .u8 e.a.g, .int .u8 e.a.b, .int .u8 e.b.r, .int .u8 e.b.g, .int .u8 e.b.b], .slice A n c, .int .i64 t] w (RetRow n 3 (fun i => ccell (colAt e l t i)) w)) :
    Calls Try.prog 8 #[.agg #[.int .i64 e.kind, .int .i64 e.fr, .int .i64 e.to, .int .i64 e.period, .int .i64 e.width, .int .i64 e.along.x, .int .i64 e.along.y, .int .i64 e.along.z, .int .i64 e.scale, .int .i64 e.seed, .int .u8 e.a.r, .int .u8 e.a.g, .int .u8 e.a.b, .int .u8 e.b.r, .int .u8 e.b.g, .int .u8 e.b.b], .slice (some ad) n cap, .int .i64 t] w (RetB (.bool true) w) := by
  have HN := Lib.hid hn
  have HR := Lib.hid hr
  have H1 := fun A c w h => Lib.hid (c1 A c w h)
  have H2 := fun A c w h => Lib.hid (c2 A c w h)
  obtain ⟨i0, hi0, hz0, hz1, hz2⟩ := info_parts infoVec
  clear hn hr c1 c2
  go_enter Try.func8, Try.ntmps8
  go_wp2_with (at_builtin; refine wpList_append_own _ rfl _ _ 47 rfl (w.alloc (.cells #[.int .i64 e.kind, .int .i64 e.fr, .int .i64 e.to, .int .i64 e.period, .int .i64 e.width, .int .i64 e.along.x, .int .i64 e.along.y, .int .i64 e.along.z, .int .i64 e.scale, .int .i64 e.seed, .int .u8 e.a.r, .int .u8 e.a.g, .int .u8 e.a.b, .int .u8 e.b.r, .int .u8 e.b.g, .int .u8 e.b.b] 28)).heap.size 24 i0 _ 3 24 Try.underlying47 hi0 hz0 hz1 hz2 rfl (by omega) (.slice none 0 0) 0 [] rfl own_nil ad n cap (flat n 3 fun i => vcell (at_ l i)) rfl (flat_length _ _ _) ?_ one_cells ?_ ?_ ?_ ?_)
  · exact row_news (Row.alloc (by rw [HN.out]; exact HR.out) _) (by omega)
  · simp only [maxLen]; omega
  · omega
  · simp
  intro v1 w1 hown1 hgr1 _
  have hb1 : Below (w.alloc (.cells #[.int .i64 e.kind, .int .i64 e.fr, .int .i64 e.to, .int .i64 e.period, .int .i64 e.width, .int .i64 e.along.x, .int .i64 e.along.y, .int .i64 e.along.z, .int .i64 e.scale, .int .i64 e.seed, .int .u8 e.a.r, .int .u8 e.a.g, .int .u8 e.a.b, .int .u8 e.b.r, .int .u8 e.b.g, .int .u8 e.b.b] 28)).heap.size (w.alloc (.cells #[.int .i64 e.kind, .int .i64 e.fr, .int .i64 e.to, .int .i64 e.period, .int .i64 e.width, .int .i64 e.along.x, .int .i64 e.along.y, .int .i64 e.along.z, .int .i64 e.scale, .int .i64 e.seed, .int .u8 e.a.r, .int .u8 e.a.g, .int .u8 e.a.b, .int .u8 e.b.r, .int .u8 e.b.g, .int .u8 e.b.b] 28)) w1 := (Below.refl _ _).grown hgr1 (Nat.le_refl _) (by simp [Value.ownBlock])
  obtain ⟨g9, rfl⟩ := xt_of_below hb1
  obtain ⟨A', c', rfl, hrow⟩ := Row.of_own (n := n) (f := fun i => vcell (at_ l i)) (by simpa using hown1) rfl
  have HO := Lib.hid (show RowV (xt (w.alloc (.cells #[.int .i64 e.kind, .int .i64 e.fr, .int .i64 e.to, .int .i64 e.period, .int .i64 e.width, .int .i64 e.along.x, .int .i64 e.along.y, .int .i64 e.along.z, .int .i64 e.scale, .int .i64 e.seed, .int .u8 e.a.r, .int .u8 e.a.g, .int .u8 e.a.b, .int .u8 e.b.r, .int .u8 e.b.g, .int .u8 e.b.b] 28)) g9) A' l by unfold RowV; rw [← HN.out]; exact hrow)
  clear hown1 hgr1 hb1 hrow
  go_wp2_with fail
  refine (H1 A' c' _ HO.out).out.mono ?_
  rintro e' w' ⟨A1, q1, rfl, hb2, hrow1⟩
  obtain ⟨g2, rfl⟩ := xt_of_below hb2
  have HA := Lib.hid hrow1
  clear hb2 hrow1
  go_wp2_with fail
  refine (H2 _ _ _ (Row.xt (Row.xt (Row.alloc HR.out _) _) _)).out.mono ?_
  rintro e' w' ⟨A2, q2, rfl, hb3, hrow2⟩
  obtain ⟨g3, rfl⟩ := xt_of_below hb3
  have HB := Lib.hid hrow2
  clear hb3 hrow2
  go_wp2_with fail
  rcases Nat.eq_zero_or_pos n with h0 | h0
  · subst h0
    refine wp_loop_rounds 1 ?_
    repeat any_goals (rw [rounds_succ]; go_wp2_with (first
      | (go_at_call 21; refine (RetB.grown (same_any A1 A2 _ _ _ (colAt e l t) _ (by omega) (by repeat (first | exact HA.out | refine Row.xt ?_ _ | refine Row.alloc ?_ _)) (by repeat (first | exact HB.out | refine Row.xt ?_ _ | refine Row.alloc ?_ _)))).mono ?_; rintro e' w' ⟨rfl, g, rfl⟩)
      | (go_at_call 11; refine (RetB.grown (known_any _)).mono ?_; rintro e' w' ⟨rfl, g, rfl⟩)
      | (refine wp_region_xt (by kernel_rfl) (by kernel_rfl) ?_; (repeat (go_big_quiet_step (first | (go_at_call 21; exact RetB.quiet (same_any A1 A2 _ _ _ (colAt e l t) _ (by omega) (by repeat (first | exact HA.out | refine Row.xt ?_ _ | refine Row.alloc ?_ _)) (by repeat (first | exact HB.out | refine Row.xt ?_ _ | refine Row.alloc ?_ _)))) | (go_at_call 11; exact RetB.quiet (known_any _))))); refine wpQuiet_nil ?_; intro g)))
    go_ret
    exact RetB.of rfl (by repeat' (first | exact Below.refl _ _ | assumption | refine Below.xt ?_ ?_ _ | refine Below.alloc ?_ ?_ _ | refine Below.drew ?_ | refine Below.setCell ?_ ?_ _ | (simp; done) | (simp; omega)))
  · obtain ⟨b, o, e1, hb, hc⟩ := HR.out.at_ (by rw [← HN.out]; exact h0)
    injection e1 with e1
    subst e1
    obtain ⟨b', o', rfl, hb', hc'⟩ := HO.out.at_ (by rw [← HN.out]; exact h0)
    have HC := Lib.hid hc
    have HC' := Lib.hid hc'
    clear hc hc'
    go_loopw [12] (fun i wr => ∃ (k : Nat) (g : Gr), k ≤ n ∧ i = .int .i64 k ∧ wr = xt (xt (xt (xt (w.alloc (.cells #[.int .i64 e.kind, .int .i64 e.fr, .int .i64 e.to, .int .i64 e.period, .int .i64 e.width, .int .i64 e.along.x, .int .i64 e.along.y, .int .i64 e.along.z, .int .i64 e.scale, .int .i64 e.seed, .int .u8 e.a.r, .int .u8 e.a.g, .int .u8 e.a.b, .int .u8 e.b.r, .int .u8 e.b.g, .int .u8 e.b.b] 28)) g9) g2) g3) g) (fun i _ => n - (intOf i).toNat)
    case atStart => exact ⟨0, ⟨[], _⟩, by omega, rfl, (xt_self _).symm⟩
    case round =>
      obtain ⟨k, g, hk, rfl, rfl⟩ := hrel
      by_cases hlt : k < n
      · obtain ⟨hx, hy, hz⟩ := RowV.cells HC.out (HN.out ▸ hlt)
        obtain ⟨gx, gy, gz⟩ := RowV.cells HC'.out (HN.out ▸ hlt)
        generalize at_ l k = v at *
        go_wp2_with (first
          | (refine wp_region_xt (by kernel_rfl) (by kernel_rfl) ?_; (repeat (go_big_quiet_step (first | fail))); refine wpQuiet_nil ?_; intro g))
        go_roundw
        case rel => exact ⟨k + 1, _, by omega, by go_num, (Classical.choose_spec (xt_of_below (by repeat' (first | exact Below.refl _ _ | assumption | refine Below.xt ?_ ?_ _ | refine Below.alloc ?_ ?_ _ | refine Below.drew ?_ | refine Below.setCell ?_ ?_ _ | (simp; done) | (simp; omega)))))⟩
        case measure => simp [intOf]; omega
      · skip
        go_wp2_with (first
          | (go_at_call 21; refine (RetB.grown (same_any A1 A2 _ _ _ (colAt e l t) _ (by omega) (by repeat (first | exact HA.out | refine Row.xt ?_ _ | refine Row.alloc ?_ _)) (by repeat (first | exact HB.out | refine Row.xt ?_ _ | refine Row.alloc ?_ _)))).mono ?_; rintro e' w' ⟨rfl, g, rfl⟩)
          | (go_at_call 11; refine (RetB.grown (known_any _)).mono ?_; rintro e' w' ⟨rfl, g, rfl⟩)
          | (refine wp_region_xt (by kernel_rfl) (by kernel_rfl) ?_; (repeat (go_big_quiet_step (first | (go_at_call 21; exact RetB.quiet (same_any A1 A2 _ _ _ (colAt e l t) _ (by omega) (by repeat (first | exact HA.out | refine Row.xt ?_ _ | refine Row.alloc ?_ _)) (by repeat (first | exact HB.out | refine Row.xt ?_ _ | refine Row.alloc ?_ _)))) | (go_at_call 11; exact RetB.quiet (known_any _))))); refine wpQuiet_nil ?_; intro g))
        go_ret
        exact RetB.of rfl (by repeat' (first | exact Below.refl _ _ | assumption | refine Below.xt ?_ ?_ _ | refine Below.alloc ?_ ?_ _ | refine Below.drew ?_ | refine Below.setCell ?_ ?_ _ | (simp; done) | (simp; omega)))

end Go.Proofs.Ytjnajibflalmbaa

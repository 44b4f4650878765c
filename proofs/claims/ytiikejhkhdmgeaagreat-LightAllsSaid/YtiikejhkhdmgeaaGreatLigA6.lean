
/- The walk of LightAlls: nil points, and the whole. Conditions stand in each theorem. -/
import Derived.Test.YtiikejhkhdmgeaaGreatLigA5
namespace Go.Proofs.YtiikejhkhdmgeaaGreat
open Go.RowKit
set_option linter.unusedVariables false
set_option linter.unusedSimpArgs false
attribute [local go_sem ↓] ldr16 ldr18

theorem allE_nil (L : Li) (t : Int) : allE L [] t ≠ 0 := fun h => by
  obtain ⟨z1, _, z3⟩ := allE_zero h
  have := (fine_zero.1 z3).2.1.2
  simp at z1
  omega

set_option maxRecDepth 100000 in
set_option maxHeartbeats 3200000 in
theorem LA_nil (A1 A2 A3 : Option Addr) (c1 c2 c3 : Nat) (L : Li) (t : Int) (w : World) (h : LightsOk w A1 A2 A3 L.nG L.cs.length L.os.length c1 c2 c3 L) (hF : FineL L) :
    Calls Tryz.prog 3 #[.agg #[.slice A1 L.nG c1, .slice A2 L.cs.length c2, .slice A3 L.os.length c3], .slice none 0 0, .int .i64 t] w (RetB (.bool true) w) := by
  have HR := Lib.hid h.r
  have SM := fun w hr => Lib.hid (h.small w hr)
  have H1 := fun c w hr => Lib.hid (lAll_e A1 A2 A3 none c1 c2 c3 0 c L [] t w hF hr rfl (by omega) Row.none_ (allE_nil L t))
  have H2 := fun c w hr => Lib.hid (rAll_e A1 A2 A3 none c1 c2 c3 0 c L [] t w hF hr rfl (by omega) Row.none_ (allE_nil L t))
  generalize allE L [] t = E at *
  obtain ⟨i0, hi0, hz0, hz1, hz2⟩ := info_parts infoVec
  clear h hF
  go_enter Tryz.func3, Tryz.ntmps3
  go_wp2_with fail
  refine (SM _ (by repeat (first | (with_reducible exact HR.out) | (with_reducible refine RowL.alloc ?_ _) | (with_reducible refine RowL.drew ?_) | (with_reducible refine RowL.xt ?_ _)))).out.mono ?_
  rintro e' w' ⟨v, rfl, hb, hv⟩
  obtain ⟨g1, rfl⟩ := xt_of_below hb
  clear hb SM hv
  cases v
  · skip
    go_wp2_with (first
      | (go_at_call 5; refine (RetB.grown (known_any _)).mono ?_; rintro e' w' ⟨rfl, g, rfl⟩)
      | (refine wp_region_xt (by kernel_rfl) (by kernel_rfl) ?_; (repeat (go_big_quiet_step (first | (go_at_call 5; exact RetB.quiet (known_any _))))); refine wpQuiet_nil ?_; intro g))
    go_ret
    exact RetB.of rfl (by repeat' (first | exact Below.refl _ _ | assumption | refine Below.xt ?_ ?_ _ | refine Below.alloc ?_ ?_ _ | refine Below.drew ?_ | refine Below.setCell ?_ ?_ _ | (simp; done) | (simp; omega)))
  go_wp2_with (at_builtin; refine wpList_append_own_none rfl _ _ 27 rfl ((xt (w.alloc (.cells #[.slice A1 L.nG c1, .slice A2 L.cs.length c2, .slice A3 L.os.length c3] 26)) g1)).heap.size 37 i0 3 Tryz.underlying27 hi0 (.slice none 0 0) 0 [] rfl own_nil rfl ?_)
  go_wp2_with fail
  refine (RetB.grown (H1 _ _ (by repeat (first | (with_reducible exact HR.out) | (with_reducible refine RowL.alloc ?_ _) | (with_reducible refine RowL.drew ?_) | (with_reducible refine RowL.xt ?_ _)))).out).mono ?_
  rintro e' w' ⟨rfl, g2, rfl⟩
  go_wp2_with fail
  refine (RetB.grown (H2 _ _ (by repeat (first | (with_reducible exact HR.out) | (with_reducible refine RowL.alloc ?_ _) | (with_reducible refine RowL.drew ?_) | (with_reducible refine RowL.xt ?_ _)))).out).mono ?_
  rintro e' w' ⟨rfl, g3, rfl⟩
  clear H1 H2
  go_wp2_with fail
  refine wp_loop_rounds 1 ?_
  repeat any_goals (rw [rounds_succ]; go_wp2_with (first
    | (go_at_call 8; refine (RetB.grown (same_col none none 0 0 0 (fun _ => black) _ (by omega) Row.none_ Row.none_)).mono ?_; rintro e' w' ⟨rfl, g, rfl⟩)
    | (go_at_call 5; refine (RetB.grown (known_any _)).mono ?_; rintro e' w' ⟨rfl, g, rfl⟩)
    | (refine wp_region_xt (by kernel_rfl) (by kernel_rfl) ?_; (repeat (go_big_quiet_step (first | (go_at_call 8; exact RetB.quiet (same_col none none 0 0 0 (fun _ => black) _ (by omega) Row.none_ Row.none_)) | (go_at_call 5; exact RetB.quiet (known_any _))))); refine wpQuiet_nil ?_; intro g)))
  go_ret
  exact RetB.of rfl (by repeat' (first | exact Below.refl _ _ | assumption | refine Below.xt ?_ ?_ _ | refine Below.alloc ?_ ?_ _ | refine Below.drew ?_ | refine Below.setCell ?_ ?_ _ | (simp; done) | (simp; omega)))

theorem LightAlls_walk (A1 : Option Addr) (n1 c1 : Nat) (A2 : Option Addr) (n2 c2 : Nat) (A3 : Option Addr) (n3 c3 : Nat) (A : Option Addr) (n cap : Nat) (t : Int) (w : World) (ok : ∃ L, LightsOk w A1 A2 A3 n1 n2 n3 c1 c2 c3 L) (oo : (A = none ∧ n = 0 ∧ cap = 0) ∨ ∃ ad l, A = some ad ∧ n = l.length ∧ n ≤ maxLen ∧ RowV w (some ad) l) :
    Calls Tryz.prog 3 #[.agg #[.slice A1 n1 c1, .slice A2 n2 c2, .slice A3 n3 c3], .slice A n cap, .int .i64 t] w (RetB (.bool true) w) := by
  obtain ⟨L, h⟩ := ok
  obtain rfl := h.e1
  obtain rfl := h.e2
  obtain rfl := h.e3
  by_cases hs : L.nG ≤ 70 ∧ L.cs.length ≤ 40 ∧ L.os.length ≤ 70 ∧ ∀ i, i < L.nG → (L.G i).length ≤ 20
  · have hF := h.fine hs
    rcases oo with ⟨rfl, rfl, rfl⟩ | ⟨ad, l, rfl, hn, hm, hv⟩
    · exact LA_nil A1 A2 A3 c1 c2 c3 L t w h hF
    · rcases Nat.lt_or_ge 70 n with h70 | h70
      · exact LA_big A1 A2 A3 (some ad) c1 c2 c3 n cap L t w h hm h70
      · by_cases hE : allE L l t = 0
        · exact LA_ok A1 A2 A3 ad c1 c2 c3 n cap L l t w h hF hn h70 hv hE
        · exact LA_err A1 A2 A3 ad c1 c2 c3 n cap L l t w h hF hn h70 hv hE
  · exact LA_nots A1 A2 A3 A c1 c2 c3 n cap L t w h hs

end Go.Proofs.YtiikejhkhdmgeaaGreat

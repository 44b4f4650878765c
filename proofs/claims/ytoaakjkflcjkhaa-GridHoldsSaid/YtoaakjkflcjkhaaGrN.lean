/- The law GridHolds, joined: its walks and the plain law of grids. No condition but that the numbers fit their kinds. -/
import Derived.Test.YtoaakjkflcjkhaaGrJ
import Derived.Test.YtoaakjkflcjkhaaGrO
namespace Go.Proofs.Ytoaakjkflcjkhaa
open Go.RowKit
set_option linter.unusedVariables false

theorem pts_len (q : Gd) (a : Nat) (d : Bool) (n : Nat) : (pts q a d n).length = n := by simp [pts]
theorem holdsC {q : Gd} (h : gval q = true) {a b : Nat} (ha : a < q.n) (hb : b < q.n) (d : Bool) (w : World) : HoldsC q a b d (decide (d2 (at_ (spots q) a) (at_ (spots q) b) = q.sp * q.sp)) w := by
  have hd := (gval_iff.1 h).2.1
  have hn := g_n hd
  have pa := spots_pnt h ha
  have pb := spots_pnt h hb
  refine ⟨fun w => Spots_ok q w h, fun w => Neigh_ok q a w h (by omega) (by omega), fun w => Neigh_ok q b w h (by omega) (by omega), ?_, ?_, fun w => ?_, fun w => refDist_any _ _ w pa pb, fun w => ?_, fun A c w hr => ?_⟩
  · rw [decide_eq_decide, neigh_mem hd ha hb, spots_at ha, spots_at hb, d2_comm]
  · rw [decide_eq_decide, neigh_mem hd hb ha, spots_at ha, spots_at hb]
  · have c := Near_ok q (at_ (spots q) a) w h pa
    have e := near_self hd ha
    rw [spots_at ha] at c ⊢
    rwa [e] at c
  · have c := refPnt_any (at_ (spots q) a) w
    rwa [pa] at c
  · have c' := Assign_ok q A q.n c (pts q a d q.n) w h (by rw [pts_len]) hr (fun i hi => by
      have : pointAt (pts q a d q.n) i = pnt (at_ (pts q a d q.n) i) := rfl
      rw [this, pts_at hi]
      have h2 := spots_pnt h (sq_lt (n := q.n) (a := a) (k := i) (d := d) (by omega))
      rwa [spots_at (sq_lt (by omega))] at h2) (Nat.le_refl _)
    rwa [asgs_self hd] at c'

theorem GridHolds_walk (q : Gd) (i k s : Int) (_oq : q.ok) (oi : IntKind.u8.has i) (ok : IntKind.u8.has k) (os : IntKind.u8.has s) (w : World) : Calls Try.prog 7 #[.agg #[.int .i64 q.ox, .int .i64 q.oy, .int .i64 q.oz, .int .i64 q.rows, .int .i64 q.cols, .int .i64 q.sp], .int .u8 i, .int .u8 k, .int .u8 s] w (RetB (.bool true) w) := by
  have hi := has_u8 oi
  have hk := has_u8 ok
  have hs := has_u8 os
  by_cases h : gval q = true
  · have hd := (gval_iff.1 h).2.1
    have hn := g_n hd
    obtain ⟨_, _, _, _, _, s1, s2⟩ := hd
    by_cases h64 : 64 < q.n
    · exact GridHolds_far q i k s w h h64
    · have m1 := Int.emod_nonneg i (show (q.n : Int) ≠ 0 by omega)
      have m2 := Int.emod_lt_of_pos i (show (0 : Int) < q.n by omega)
      have m3 := Int.emod_nonneg k (show (q.n : Int) ≠ 0 by omega)
      have m4 := Int.emod_lt_of_pos k (show (0 : Int) < q.n by omega)
      obtain ⟨a, ea⟩ := Int.eq_ofNat_of_zero_le m1
      obtain ⟨b, eb⟩ := Int.eq_ofNat_of_zero_le m3
      have ha : a < q.n := by omega
      have hb : b < q.n := by omega
      have H := holdsC h ha hb (decide (s % 2 = 1)) w
      have e5 : (d2 (at_ (spots q) a) (at_ (spots q) b) == q.sp * q.sp) = decide (d2 (at_ (spots q) a) (at_ (spots q) b) = q.sp * q.sp) := rfl
      have hp : 0 < q.sp * q.sp := Int.mul_pos (by omega) (by omega)
      by_cases hab : a = b
      · refine GridHolds_same q i k s a b q.n _ _ w H (by omega) (by omega) rfl (spots_len q) ha hb hab hi.1 hi.2 hk.1 hk.2 hs.1 hs.2 ea eb rfl s1 s2 _ rfl ?_ e5
        rw [hab, d2_self]; simpa using hp
      · refine GridHolds_apart q i k s a b q.n _ _ w H (by omega) (by omega) rfl (spots_len q) ha hb hab hi.1 hi.2 hk.1 hk.2 hs.1 hs.2 ea eb rfl s1 s2 _ rfl ?_ e5
        have := apart (g := q) s1 (i := (b : Int)) (k := (a : Int)) (by omega)
        rw [spots_at ha, spots_at hb]
        simpa using this
  · exact GridHolds_bad q i k s w (by simpa using h)

end Go.Proofs.Ytoaakjkflcjkhaa

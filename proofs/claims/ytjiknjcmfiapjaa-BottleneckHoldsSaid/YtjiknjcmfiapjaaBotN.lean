
/- Walk: whether a proof proves that an assignment is best, by the reference: the first questions. Conditions stand in each theorem. -/
import Derived.Test.YtjiknjcmfiapjaaBotC
import Derived.Test.YtjiknjcmfiapjaaBotE
import Derived.Test.YtjiknjcmfiapjaaMatB5
namespace Go.Proofs.Ytjiknjcmfiapjaa
open Go.RowKit
set_option linter.unusedVariables false
set_option linter.unusedSimpArgs false

/-- An assignment and a proof lie there. -/
structure AP (w : World) (Lo Al Ar Au Av : Option Addr) (no co kl kr ku kv : Nat) (of cl cr u v : List Int) : Prop where
  eno : no = of.length
  ekl : kl = cl.length
  ekr : kr = cr.length
  eku : ku = u.length
  ekv : kv = v.length
  lo : of.length ≤ 1000
  ll : cl.length ≤ 1000
  lr : cr.length ≤ 1000
  lu : u.length ≤ 1000
  lv : v.length ≤ 1000
  eco : no ≤ co
  ro : RowI w Lo of
  rl : RowI w Al cl
  rr : RowI w Ar cr
  ru : RowI w Au u
  rv : RowI w Av v
section
variable {w w' : World} {Lo Al Ar Au Av : Option Addr} {no co kl kr ku kv : Nat} {of cl cr u v : List Int}
theorem AP.below (h : AP w Lo Al Ar Au Av no co kl kr ku kv of cl cr u v) (hb : Below w.heap.size w w') : AP w' Lo Al Ar Au Av no co kl kr ku kv of cl cr u v :=
  ⟨h.eno, h.ekl, h.ekr, h.eku, h.ekv, h.lo, h.ll, h.lr, h.lu, h.lv, h.eco, h.ro.below hb, h.rl.below hb, h.rr.below hb, h.ru.below hb, h.rv.below hb⟩
end
/-- What is false in a part is false in the whole. -/
theorem prvA_1 {G : Nat → List Int} {n : Nat} {of cl cr u v : List Int} {g s : Int} (h : pr1 n of u v = false) : prvA G n of g s cl cr u v = false := by simp [prvA, h]
theorem prvA_2 {G : Nat → List Int} {n : Nat} {of cl cr u v : List Int} {g s : Int} (h : pr2 G n of g s = false) : prvA G n of g s cl cr u v = false := by simp [prvA, h]
theorem prvA_3 {G : Nat → List Int} {n : Nat} {of cl cr u v : List Int} {g s : Int} (h : pr3 G n g cl cr = false) : prvA G n of g s cl cr u v = false := by simp [prvA, h]
theorem prvA_4 {G : Nat → List Int} {n : Nat} {of cl cr u v : List Int} {g s : Int} (h : pr4 G n g s u v = false) : prvA G n of g s cl cr u v = false := by simp [prvA, h]
theorem prvA_all {G : Nat → List Int} {n : Nat} {of cl cr u v : List Int} {g s : Int} (h1 : pr1 n of u v = true) (h2 : pr2 G n of g s = true) (h3 : pr3 G n g cl cr = true) : prvA G n of g s cl cr u v = pr4 G n g s u v := by simp [prvA, h1, h2, h3]

set_option maxRecDepth 100000 in
set_option maxHeartbeats 1600000 in
theorem rProves_1 (A Lo Al Ar Au Av : Option Addr) (n cap no co kl cl0 kr cr0 ku cu kv cv : Nat) (G : Nat → List Int) (of cl cr u v : List Int) (g s : Int) (w : World) (hG : GRow w A n G) (hC : Cst G n) (hA : AP w Lo Al Ar Au Av no co kl kr ku kv of cl cr u v) (h1 : pr1 n of u v = false) : Calls Try.prog 12 #[.slice A n cap, .agg #[.slice Lo no co, .int .i64 g, .int .i64 s], .agg #[.slice Al kl cl0, .slice Ar kr cr0, .slice Au ku cu, .slice Av kv cv]] w (RetB (.bool false) w) := by
  have hn2 := hC.le
  have CC := fun (b : Bool) (hb : colsB of n = b) (w' : World) (h : RowI w' Lo of) => Lib.hid (show Calls Try.prog 14 #[.slice Lo no co, .int .i64 (n : Int)] w' (RetB (.bool b) w') by rw [← hb]; exact Columns_any Lo no co of n w' hA.eno hA.lo (by omega) hA.eco h)
  have HR := Lib.hid hA.ro
  have hku := hA.eku
  have hkv := hA.ekv
  have hlu := hA.lu
  have hlv := hA.lv
  rw [← hku] at hlu
  rw [← hkv] at hlv
  cases hb : colsB of n with
  | false =>
    have C1 := CC false hb
    clear CC hb h1 hku hkv hG hC hA
    go_enter Try.func12, Try.ntmps12
    go_wp2_with (go_at_call 14; refine (RetB.grown (C1 _ ((HR.out.alloc _).alloc _)).out).mono ?_; rintro e' w' ⟨rfl, g, rfl⟩)
    go_ret
    exact ⟨rfl, (by repeat' (first | exact Below.refl _ _ | assumption | refine Below.xt ?_ ?_ _ | refine Below.alloc ?_ ?_ _ | refine Below.drew ?_ | refine Below.setCell ?_ ?_ _ | (simp; done) | (simp; omega)))⟩
  | true =>
    have C1 := CC true hb
    by_cases hu : ku = n
    · have hv : kv ≠ n := fun e => by
        simp [pr1, hb, ← hku, ← hkv, hu, e] at h1
      have d1 : ((ku : Int) != (n : Int)) = false := by simpa using by omega
      have d2 : ((kv : Int) != (n : Int)) = true := by simpa using by omega
      clear CC hb h1 hku hkv hG hC hA hu hv
      go_enter Try.func12, Try.ntmps12
      go_wp2_with (go_at_call 14; refine (RetB.grown (C1 _ ((HR.out.alloc _).alloc _)).out).mono ?_; rintro e' w' ⟨rfl, g, rfl⟩)
      go_ret
      exact ⟨rfl, (by repeat' (first | exact Below.refl _ _ | assumption | refine Below.xt ?_ ?_ _ | refine Below.alloc ?_ ?_ _ | refine Below.drew ?_ | refine Below.setCell ?_ ?_ _ | (simp; done) | (simp; omega)))⟩
    · have d1 : ((ku : Int) != (n : Int)) = true := by simpa using by omega
      clear CC hb h1 hku hkv hG hC hA hu
      go_enter Try.func12, Try.ntmps12
      go_wp2_with (go_at_call 14; refine (RetB.grown (C1 _ ((HR.out.alloc _).alloc _)).out).mono ?_; rintro e' w' ⟨rfl, g, rfl⟩)
      go_ret
      exact ⟨rfl, (by repeat' (first | exact Below.refl _ _ | assumption | refine Below.xt ?_ ?_ _ | refine Below.alloc ?_ ?_ _ | refine Below.drew ?_ | refine Below.setCell ?_ ?_ _ | (simp; done) | (simp; omega)))⟩
set_option maxRecDepth 100000 in
set_option maxHeartbeats 1600000 in
theorem rProves_2 (A Lo Al Ar Au Av : Option Addr) (n cap no co kl cl0 kr cr0 ku cu kv cv : Nat) (G : Nat → List Int) (of cl cr u v : List Int) (g s : Int) (w : World) (hG : GRow w A n G) (hC : Cst G n) (hA : AP w Lo Al Ar Au Av no co kl kr ku kv of cl cr u v) (h1 : pr1 n of u v = true) (h2 : pr2 G n of g s = false) : Calls Try.prog 12 #[.slice A n cap, .agg #[.slice Lo no co, .int .i64 g, .int .i64 s], .agg #[.slice Al kl cl0, .slice Ar kr cr0, .slice Au ku cu, .slice Av kv cv]] w (RetB (.bool false) w) := by
  have hn1 := hC.pos
  have hn2 := hC.le
  simp only [pr1, Bool.and_eq_true, decide_eq_true_eq] at h1
  obtain ⟨⟨hb, hu⟩, hv⟩ := h1
  obtain rfl : no = n := hA.eno.trans (colsB_iff.1 hb).2
  obtain rfl : no = ku := (hA.eku.trans hu).symm
  obtain rfl : no = kv := (hA.ekv.trans hv).symm
  have C1 := fun (w' : World) (h : RowI w' Lo of) => Lib.hid (show Calls Try.prog 14 #[.slice Lo no co, .int .i64 (no : Int)] w' (RetB (.bool true) w') by rw [← hb]; exact Columns_any Lo no co of no w' hA.eno hA.lo (by omega) hA.eco h)
  have C2 := fun (w' : World) (h : RowI w' Lo of) (h' : GRow w' A no G) => Lib.hid (rCosts_any A Lo no cap no co G of w' h' hC rfl hb h)
  have HR := Lib.hid hA.ro
  have HG := Lib.hid hG
  clear hb hu hv hG hC hA
  unfold pr2 at h2
  generalize mstC G of no = M at *
  generalize sumC G of no = S at *
  by_cases hm : M = g
  · have hs : S ≠ s := fun e => by simp [hm, e] at h2
    subst hm
    have d1 : (S != s) = true := by simpa using hs
    clear hs h2
    go_enter Try.func12, Try.ntmps12
    go_wp2_with (first | (go_at_call 14; refine (RetB.grown (C1 _ ((HR.out.alloc _).alloc _)).out).mono ?_; rintro e' w' ⟨rfl, g1, rfl⟩) | (go_at_call 15; refine (RetB.grown (C2 _ (((HR.out.alloc _).alloc _).xt _) (((HG.out.alloc _).alloc _).xt _)).out).mono ?_; rintro e' w' ⟨rfl, g2, rfl⟩))
    go_ret
    exact ⟨rfl, (by repeat' (first | exact Below.refl _ _ | assumption | refine Below.xt ?_ ?_ _ | refine Below.alloc ?_ ?_ _ | refine Below.drew ?_ | refine Below.setCell ?_ ?_ _ | (simp; done) | (simp; omega)))⟩
  · have d1 : (M != g) = true := by simpa using hm
    clear hm h2
    go_enter Try.func12, Try.ntmps12
    go_wp2_with (first | (go_at_call 14; refine (RetB.grown (C1 _ ((HR.out.alloc _).alloc _)).out).mono ?_; rintro e' w' ⟨rfl, g1, rfl⟩) | (go_at_call 15; refine (RetB.grown (C2 _ (((HR.out.alloc _).alloc _).xt _) (((HG.out.alloc _).alloc _).xt _)).out).mono ?_; rintro e' w' ⟨rfl, g2, rfl⟩))
    go_ret
    exact ⟨rfl, (by repeat' (first | exact Below.refl _ _ | assumption | refine Below.xt ?_ ?_ _ | refine Below.alloc ?_ ?_ _ | refine Below.drew ?_ | refine Below.setCell ?_ ?_ _ | (simp; done) | (simp; omega)))⟩
end Go.Proofs.Ytjiknjcmfiapjaa

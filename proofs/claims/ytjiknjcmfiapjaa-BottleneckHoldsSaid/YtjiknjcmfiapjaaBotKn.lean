
/- Walks: the examples of the chapter on bottlenecks. Conditions stand in each theorem. -/
import Derived.Test.YtjiknjcmfiapjaaBotCk
import Derived.Test.YtjiknjcmfiapjaaBotW3
namespace Go.Proofs.Ytjiknjcmfiapjaa
open Go.RowKit
set_option linter.unusedVariables false
set_option linter.unusedSimpArgs false

def lit (L : List (List Int)) : Nat → List Int := fun i => L.getD i []
theorem rowI_lit {w : World} {m : Nat} {cs : Array Value} {t : TypeId} (l : List Int) (hm : m = w.heap.size) (hc : cs = (l.map (Value.int .i64)).toArray) : RowI (w.alloc (.cells cs t)) (some ⟨m, 0, none⟩) l :=
  rowI_of (fun h => nomatch h) fun a ha c hcl => by
    injection ha with ha
    subst ha hc
    rw [zero_add_addr, World.cell?_alloc_at _ _ _ _ hm]
    simp [List.getD, hcl]
theorem grow_lit {w : World} {b : Nat} {cs : Array Value} {t : TypeId} (L : List (List Int)) (hb : Blk w b cs t) (h : ∀ i, i < L.length → ∃ g c, cs[i]? = some (.slice (some ⟨g, 0, none⟩) (L.getD i []).length c) ∧ RowI w (some ⟨g, 0, none⟩) (L.getD i [])) : GRow w (some ⟨b, 0, none⟩) L.length (lit L) :=
  ⟨fun _ => ⟨b, 0, rfl, hb.lt, fun i hi => by
    obtain ⟨g, c, h1, h2⟩ := h i hi
    exact ⟨_, c, by rw [Nat.zero_add]; exact hb.cell h1, h2⟩⟩⟩
def kc : Nat → List Int := lit [[1, 9], [9, 9]]
def kd : Nat → List Int := lit [[1, 5, 9], [5, 9, 9], [9, 5, 5]]
def kx : Nat → List Int := lit [[3, 1], [1, 3]]
theorem kcV : cvd kc 2 = true := by decide +kernel
theorem kdV : cvd kd 3 = true := by decide +kernel
theorem kxV : cvd kx 2 = true := by decide +kernel
theorem thr_lit {G : Nat → List Int} {n : Nat} {T : Int} (hn : n ≤ 200) (h1 : enB G n T = true) (h0 : enB G n (T - 1) = false) (hi : ∃ r k, r < n ∧ k < n ∧ cst G r k = T) : Thr G n T :=
  ⟨(enB_iff hn).1 h1, hi, fun x hx hp => by
    have := (enB_iff hn).2 (hp.mono (show x ≤ T - 1 by omega))
    rw [h0] at this; cases this⟩
theorem kcT : Thr kc 2 9 := thr_lit (by omega) (by decide +kernel) (by decide +kernel) ⟨0, 1, by omega, by omega, by decide +kernel⟩
theorem kdT : Thr kd 3 5 := thr_lit (by omega) (by decide +kernel) (by decide +kernel) ⟨0, 1, by omega, by omega, by decide +kernel⟩
theorem kxT : Thr kx 2 1 := thr_lit (by omega) (by decide +kernel) (by decide +kernel) ⟨0, 1, by omega, by omega, by decide +kernel⟩
theorem kcO : Opt kc 2 9 10 := prvA_opt (of := [0, 1]) (cl := [0]) (cr := []) (u := [1, 9]) (v := [0, 0]) (by omega) (by decide +kernel)
theorem kxO : Opt kx 2 1 2 := prvA_opt (of := [1, 0]) (cl := []) (cr := []) (u := [1, 1]) (v := [0, 0]) (by omega) (by decide +kernel)
theorem two_cols {l : List Int} (h : colsB l 2 = true) : l = [0, 1] ∨ l = [1, 0] := by
  obtain ⟨h1, h2⟩ := colsB_iff.1 h
  obtain ⟨a, b, rfl⟩ : ∃ a b, l = [a, b] := by
    match l, h2 with
    | [a, b], _ => exact ⟨a, b, rfl⟩
  have e0 := colAt_iff.1 (h1 0 (by omega))
  have e1 := colAt_iff.1 (h1 1 (by omega))
  simp [hs] at e0 e1
  rcases (show a = 0 ∨ a = 1 by omega) with rfl | rfl <;> rcases (show b = 0 ∨ b = 1 by omega) with rfl | rfl
  · simp at e1
  · exact .inl rfl
  · exact .inr rfl
  · simp at e1
theorem kTh (A : Option Addr) (n cap : Nat) (G : Nat → List Int) (T : Int) (w : World) (h : GRow w A n G) (hv : cvd G n = true) (hT : Thr G n T) : Calls Try.prog 20 #[.slice A n cap] w (RetB (.tuple #[.int .i64 T, .int .i64 0]) w) :=
  (Threshold_any A n cap G w h hv).mono fun e w' ⟨T', he, hT', hb⟩ => ⟨by rw [he, hT.uniq hT'], hb⟩
/-- The call returns this best assignment. -/
def KB (l : List Int) (g s : Int) (w : World) (e : Ending) (w' : World) : Prop :=
  ∃ A1 c1 p0 p1 p2 p3 k0 k1 k2 k3 d0 d1 d2 d3, e = .returned (.tuple #[.agg #[.slice A1 l.length c1, .int .i64 g, .int .i64 s], .agg #[.slice p0 k0 d0, .slice p1 k1 d1, .slice p2 k2 d2, .slice p3 k3 d3], .int .i64 0]) ∧ Below w.heap.size w w' ∧ RowI w' A1 l
theorem kBe (A : Option Addr) (cap : Nat) (G : Nat → List Int) (l : List Int) (g s : Int) (w : World) (h : GRow w A 2 G) (hv : cvd G 2 = true) (ho : Opt G 2 g s) (hl : ∀ l', colsB l' 2 = true → mstC G l' 2 = g → sumC G l' 2 = s → l' = l) : Calls Try.prog 13 #[.slice A 2 cap] w (KB l g s w) := by
  refine (Best_any A 2 cap G w h hv).mono ?_
  rintro e w' ⟨A1, c1, Al, cl0, Ar, cr0, AU, cu, AV, cv, l', T, s', cl, cr, u, v, he, _, hb, hr, _, _, _, _, hp, _⟩
  have ho' := prvA_opt (by omega) hp
  obtain ⟨rfl, rfl⟩ := ho.uniq ho'
  simp only [prvA, pr1, pr2, Bool.and_eq_true, decide_eq_true_eq] at hp
  obtain rfl := hl l' hp.1.1.1.1.1 hp.1.1.2.1 hp.1.1.2.2
  exact ⟨A1, c1, Al, Ar, AU, AV, cl.length, cr.length, u.length, v.length, cl0, cr0, cu, cv, he, hb, hr⟩
theorem kcB (A : Option Addr) (cap : Nat) (w : World) (h : GRow w A 2 kc) : Calls Try.prog 13 #[.slice A 2 cap] w (KB [0, 1] 9 10 w) :=
  kBe A cap kc [0, 1] 9 10 w h kcV kcO fun l' h1 _ h3 => by
    rcases two_cols h1 with rfl | rfl
    · rfl
    · exact absurd h3 (by decide +kernel)
theorem kxB (A : Option Addr) (cap : Nat) (w : World) (h : GRow w A 2 kx) : Calls Try.prog 13 #[.slice A 2 cap] w (KB [1, 0] 1 2 w) :=
  kBe A cap kx [1, 0] 1 2 w h kxV kxO fun l' h1 h2 _ => by
    rcases two_cols h1 with rfl | rfl
    · exact absurd h2 (by decide +kernel)
    · rfl
theorem kCk (A Lo Al Ar Au Av : Option Addr) (cap no co kl cl0 kr cr0 ku cu kv cv : Nat) (of cl cr u v : List Int) (g s d : Int) (w : World) (hG : GRow w A 2 kc) (hA : AP w Lo Al Ar Au Av no co kl kr ku kv of cl cr u v) (hN : 0 < of.length) (hu : ∀ x ∈ u, I64 x) (hv : ∀ x ∈ v, I64 x) (hd : ckE (prvA kc 2 of g s cl cr u v) = d) :
    Calls Try.prog 10 #[.slice A 2 cap, .agg #[.slice Lo no co, .int .i64 g, .int .i64 s], .agg #[.slice Al kl cl0, .slice Ar kr cr0, .slice Au ku cu, .slice Av kv cv]] w (RetB (.int .i64 d) w) := by
  rw [← hd]
  exact Check_any A Lo Al Ar Au Av 2 cap no co kl cl0 kr cr0 ku cu kv cv kc of cl cr u v g s w hG kcV hA (fun h => by
    obtain ⟨b, o, e, _⟩ := hA.ro.at_ hN
    rw [h] at e; cases e) hu hv

theorem kOf (A L : Option Addr) (cap m c : Nat) (l r : List Int) (g s d : Int) (w : World) (h : GRow w A 2 kc) (hm : m = l.length) (hl : 0 < l.length) (hl2 : l.length ≤ 1000) (hr : RowI w L l) (h1 : ofL kc 2 l = r) (h2 : ofG kc 2 l = g) (h3 : ofS kc 2 l = s) (h4 : ofE kc 2 l = d) : Calls Try.prog 16 #[.slice A 2 cap, .slice L m c] w (RetAE r g s d w) := by
  have := Of_any A L 2 cap m c kc l w (by omega) (fun i hi => by have := (cvd_iff.1 kcV).len i hi; omega) h hm hl2 (fun e => by
    obtain ⟨b, o, e2, _⟩ := hr.at_ hl
    rw [e] at e2; cases e2) hr
  rwa [h1, h2, h3, h4] at this
theorem kEq (A1 A2 : Option Addr) (m1 m2 c1 c2 : Nat) (l1 l2 : List Int) (g1 s1 g2 s2 : Int) (w : World) (hm1 : m1 = l1.length) (hm2 : m2 = l2.length) (hl1 : l1.length ≤ 1000) (hl2 : l2.length ≤ 1000) (hr1 : RowI w A1 l1) (hr2 : RowI w A2 l2) (he : eqA l1 g1 s1 l2 g2 s2 = true) :
    Calls Try.prog 18 #[.agg #[.slice A1 m1 c1, .int .i64 g1, .int .i64 s1], .slice A2 m2 c2, .int .i64 g2, .int .i64 s2] w (RetB (.bool true) w) := by
  have := equal_any A1 A2 m1 m2 c1 c2 l1 l2 g1 s1 g2 s2 w hm1 hm2 hl1 hl2 hr1 hr2
  rwa [he] at this

instance (x : Int) : Decidable (I64 x) := by unfold I64; infer_instance
set_option maxRecDepth 100000 in
set_option maxHeartbeats 12800000 in
theorem known_any (w : World) : Calls Try.prog 9 #[] w (RetB (.bool true) w) := by
  go_enter Try.func9, Try.ntmps9
  go_upto_region 2 with fail
  obtain ⟨W1, hW1, HKC, HKD, HKX, HB, f3⟩ : ∃ W1, ((((((((((w.alloc (.cells #[.int .i64 1, .int .i64 9] 3)).alloc (.cells #[.int .i64 9, .int .i64 9] 3)).alloc (.cells #[.slice (some ⟨w.heap.size, 0, none⟩) 2 2, .slice (some ⟨w.heap.size + 1, 0, none⟩) 2 2] 23)).alloc (.cells #[.int .i64 1, .int .i64 5, .int .i64 9] 3)).alloc (.cells #[.int .i64 5, .int .i64 9, .int .i64 9] 3)).alloc (.cells #[.int .i64 9, .int .i64 5, .int .i64 5] 3)).alloc (.cells #[.slice (some ⟨w.heap.size + 1 + 1 + 1, 0, none⟩) 3 3, .slice (some ⟨w.heap.size + 1 + 1 + 1 + 1, 0, none⟩) 3 3, .slice (some ⟨w.heap.size + 1 + 1 + 1 + 1 + 1, 0, none⟩) 3 3] 23)).alloc (.cells #[.int .i64 3, .int .i64 1] 3)).alloc (.cells #[.int .i64 1, .int .i64 3] 3)).alloc (.cells #[.slice (some ⟨w.heap.size + 1 + 1 + 1 + 1 + 1 + 1 + 1, 0, none⟩) 2 2, .slice (some ⟨w.heap.size + 1 + 1 + 1 + 1 + 1 + 1 + 1 + 1, 0, none⟩) 2 2] 23)) = W1 ∧ Hid (GRow W1 (some ⟨w.heap.size + 1 + 1, 0, none⟩) 2 kc) ∧ Hid (GRow W1 (some ⟨w.heap.size + 1 + 1 + 1 + 1 + 1 + 1, 0, none⟩) 3 kd) ∧ Hid (GRow W1 (some ⟨w.heap.size + 1 + 1 + 1 + 1 + 1 + 1 + 1 + 1 + 1, 0, none⟩) 2 kx) ∧ Hid (Below w.heap.size w W1) ∧ W1.heap.size = w.heap.size + 1 + 1 + 1 + 1 + 1 + 1 + 1 + 1 + 1 + 1 := by
    refine ⟨_, rfl, Lib.hid ?_, Lib.hid ?_, Lib.hid ?_, Lib.hid (by repeat' (first | exact Below.refl _ _ | assumption | refine Below.xt ?_ ?_ _ | refine Below.alloc ?_ ?_ _ | refine Below.drew ?_ | refine Below.setCell ?_ ?_ _ | (simp; done) | (simp; omega))), by simp⟩
    · iterate 7 refine GRow.alloc ?_ _
      exact grow_lit [[1, 9], [9, 9]] (Blk.new _ _ _ (by simp)) (fun i hi => by
        rcases (show i = 0 ∨ i = 1 by simp at hi; omega) with rfl | rfl
        · exact ⟨_, _, rfl, (by repeat (first | (refine rowI_lit _ ?_ rfl; simp; done) | refine RowI.alloc ?_ _ | refine RowI.xt ?_ _ | refine RowI.drew ?_))⟩
        · exact ⟨_, _, rfl, (by repeat (first | (refine rowI_lit _ ?_ rfl; simp; done) | refine RowI.alloc ?_ _ | refine RowI.xt ?_ _ | refine RowI.drew ?_))⟩)
    · iterate 3 refine GRow.alloc ?_ _
      exact grow_lit [[1, 5, 9], [5, 9, 9], [9, 5, 5]] (Blk.new _ _ _ (by simp)) (fun i hi => by
        rcases (show i = 0 ∨ i = 1 ∨ i = 2 by simp at hi; omega) with rfl | rfl | rfl
        · exact ⟨_, _, rfl, (by repeat (first | (refine rowI_lit _ ?_ rfl; simp; done) | refine RowI.alloc ?_ _ | refine RowI.xt ?_ _ | refine RowI.drew ?_))⟩
        · exact ⟨_, _, rfl, (by repeat (first | (refine rowI_lit _ ?_ rfl; simp; done) | refine RowI.alloc ?_ _ | refine RowI.xt ?_ _ | refine RowI.drew ?_))⟩
        · exact ⟨_, _, rfl, (by repeat (first | (refine rowI_lit _ ?_ rfl; simp; done) | refine RowI.alloc ?_ _ | refine RowI.xt ?_ _ | refine RowI.drew ?_))⟩)
    · exact grow_lit [[3, 1], [1, 3]] (Blk.new _ _ _ (by simp)) (fun i hi => by
        rcases (show i = 0 ∨ i = 1 by simp at hi; omega) with rfl | rfl
        · exact ⟨_, _, rfl, (by repeat (first | (refine rowI_lit _ ?_ rfl; simp; done) | refine RowI.alloc ?_ _ | refine RowI.xt ?_ _ | refine RowI.drew ?_))⟩
        · exact ⟨_, _, rfl, (by repeat (first | (refine rowI_lit _ ?_ rfl; simp; done) | refine RowI.alloc ?_ _ | refine RowI.xt ?_ _ | refine RowI.drew ?_))⟩)
  rw [hW1]
  clear hW1
  have HSz := Lib.hid f3
  clear f3
  have hbel := HB.out
  go_wp2_with fail
  refine (kOf _ _ _ _ _ [1, 0] [1, 0] 9 18 0 _ (by repeat (first | exact HKC.out | exact HKD.out | exact HKX.out | refine GRow.xt ?_ _ | refine GRow.alloc ?_ _ | refine GRow.drew ?_)) rfl (by decide) (by decide) (by repeat (first | (refine rowI_lit _ ?_ rfl; simp; done) | refine RowI.alloc ?_ _ | refine RowI.xt ?_ _ | refine RowI.drew ?_)) (by decide +kernel) (by decide +kernel) (by decide +kernel) (by decide +kernel)).mono ?_
  rintro e' w2 ⟨v2, rfl, hb2, ho2⟩
  obtain ⟨A2, c2, rfl, hr2⟩ := RowI.of_own ho2 rfl
  obtain ⟨g2, rfl⟩ := xt_of_below hb2
  have HR2 := Lib.hid hr2
  clear hb2 ho2 hr2
  go_wp2_with fail
  refine (kOf _ _ _ _ _ [0, 0] [] 0 0 10 _ (by repeat (first | exact HKC.out | exact HKD.out | exact HKX.out | refine GRow.xt ?_ _ | refine GRow.alloc ?_ _ | refine GRow.drew ?_)) rfl (by decide) (by decide) (by repeat (first | (refine rowI_lit _ ?_ rfl; simp; done) | refine RowI.alloc ?_ _ | refine RowI.xt ?_ _ | refine RowI.drew ?_)) (by decide +kernel) (by decide +kernel) (by decide +kernel) (by decide +kernel)).mono ?_
  rintro e' w3 ⟨v3, rfl, hb3, ho3⟩
  obtain ⟨A3, c3, rfl, hr3⟩ := RowI.of_own ho3 rfl
  obtain ⟨g3, rfl⟩ := xt_of_below hb3
  clear hb3 ho3 hr3
  go_wp2_with fail
  refine (RetB.grown (kEq _ _ _ _ _ _ [1, 0] [1, 0] 9 18 9 18 _ rfl rfl (by decide) (by decide) (by repeat (first | (with_reducible exact HR2.out) | refine RowI.alloc ?_ _ | refine RowI.xt ?_ _ | refine RowI.drew ?_)) (by repeat (first | (refine rowI_lit _ ?_ rfl; simp; done) | refine RowI.alloc ?_ _ | refine RowI.xt ?_ _ | refine RowI.drew ?_)) (by decide +kernel))).mono ?_
  rintro e' w' ⟨rfl, g4, rfl⟩
  go_wp2_with fail
  refine (RetB.grown (kTh _ 2 _ kc 9 _ (by repeat (first | exact HKC.out | exact HKD.out | exact HKX.out | refine GRow.xt ?_ _ | refine GRow.alloc ?_ _ | refine GRow.drew ?_)) kcV kcT)).mono ?_
  rintro e' w' ⟨rfl, g5, rfl⟩
  go_wp2_with fail
  refine (RetB.grown (kTh _ 3 _ kd 5 _ (by repeat (first | exact HKC.out | exact HKD.out | exact HKX.out | refine GRow.xt ?_ _ | refine GRow.alloc ?_ _ | refine GRow.drew ?_)) kdV kdT)).mono ?_
  rintro e' w' ⟨rfl, g6, rfl⟩
  go_wp2_with fail
  refine (RetB.grown (kTh _ 2 _ kx 1 _ (by repeat (first | exact HKC.out | exact HKD.out | exact HKX.out | refine GRow.xt ?_ _ | refine GRow.alloc ?_ _ | refine GRow.drew ?_)) kxV kxT)).mono ?_
  rintro e' w' ⟨rfl, g7, rfl⟩
  go_wp2_with fail
  refine (kcB _ _ _ (by repeat (first | exact HKC.out | exact HKD.out | exact HKX.out | refine GRow.xt ?_ _ | refine GRow.alloc ?_ _ | refine GRow.drew ?_))).mono ?_
  rintro e' w4 ⟨Ai, ci, p0, p1, p2, p3, k0, k1, k2, k3, d0, d1, d2, d3, rfl, hbi, hri⟩
  obtain ⟨g8, rfl⟩ := xt_of_below hbi
  have HRi := Lib.hid hri
  clear hbi hri
  go_wp2_with fail
  refine (kxB _ _ _ (by repeat (first | exact HKC.out | exact HKD.out | exact HKX.out | refine GRow.xt ?_ _ | refine GRow.alloc ?_ _ | refine GRow.drew ?_))).mono ?_
  rintro e' w5 ⟨Aj, cj, q0, q1, q2, q3, l0, l1, l2, l3, f0, f1, f2, f3, rfl, hbj, hrj⟩
  obtain ⟨g9, rfl⟩ := xt_of_below hbj
  have HRj := Lib.hid hrj
  clear hbj hrj
  go_wp2_with fail
  refine (RetB.grown (kEq _ _ _ _ _ _ [0, 1] [0, 1] 9 10 9 10 _ rfl rfl (by decide) (by decide) (by repeat (first | (with_reducible exact HRi.out) | refine RowI.alloc ?_ _ | refine RowI.xt ?_ _ | refine RowI.drew ?_)) (by repeat (first | (refine rowI_lit _ ?_ rfl; simp; done) | refine RowI.alloc ?_ _ | refine RowI.xt ?_ _ | refine RowI.drew ?_)) (by decide +kernel))).mono ?_
  rintro e' w' ⟨rfl, g10, rfl⟩
  go_wp2_with fail
  refine (RetB.grown (kEq _ _ _ _ _ _ [1, 0] [1, 0] 1 2 1 2 _ rfl rfl (by decide) (by decide) (by repeat (first | (with_reducible exact HRj.out) | refine RowI.alloc ?_ _ | refine RowI.xt ?_ _ | refine RowI.drew ?_)) (by repeat (first | (refine rowI_lit _ ?_ rfl; simp; done) | refine RowI.alloc ?_ _ | refine RowI.xt ?_ _ | refine RowI.drew ?_)) (by decide +kernel))).mono ?_
  rintro e' w' ⟨rfl, g11, rfl⟩
  go_wp2_with fail
  refine (RetB.grown (kCk _ _ _ _ _ _ _ _ _ _ _ _ _ _ _ _ _ [0, 1] [0] [] [1, 9] [0, 0] 9 10 0 _ (by repeat (first | exact HKC.out | exact HKD.out | exact HKX.out | refine GRow.xt ?_ _ | refine GRow.alloc ?_ _ | refine GRow.drew ?_)) ⟨rfl, rfl, rfl, rfl, rfl, by decide, by decide, by decide, by decide, by decide, by decide, (by repeat (first | (refine rowI_lit _ ?_ rfl; simp; done) | refine RowI.alloc ?_ _ | refine RowI.xt ?_ _ | refine RowI.drew ?_)), (by repeat (first | (refine rowI_lit _ ?_ rfl; simp; done) | refine RowI.alloc ?_ _ | refine RowI.xt ?_ _ | refine RowI.drew ?_)), RowI.nil _ _, (by repeat (first | (refine rowI_lit _ ?_ rfl; simp; done) | refine RowI.alloc ?_ _ | refine RowI.xt ?_ _ | refine RowI.drew ?_)), (by repeat (first | (refine rowI_lit _ ?_ rfl; simp; done) | refine RowI.alloc ?_ _ | refine RowI.xt ?_ _ | refine RowI.drew ?_))⟩ (by decide) (by decide) (by decide) (by decide +kernel))).mono ?_
  rintro e' w' ⟨rfl, g12, rfl⟩
  go_wp2_with fail
  refine (RetB.grown (kCk _ _ _ _ _ _ _ _ _ _ _ _ _ _ _ _ _ [0, 1] [0] [] [1, 8] [0, 0] 9 10 10 _ (by repeat (first | exact HKC.out | exact HKD.out | exact HKX.out | refine GRow.xt ?_ _ | refine GRow.alloc ?_ _ | refine GRow.drew ?_)) ⟨rfl, rfl, rfl, rfl, rfl, by decide, by decide, by decide, by decide, by decide, by decide, (by repeat (first | (refine rowI_lit _ ?_ rfl; simp; done) | refine RowI.alloc ?_ _ | refine RowI.xt ?_ _ | refine RowI.drew ?_)), (by repeat (first | (refine rowI_lit _ ?_ rfl; simp; done) | refine RowI.alloc ?_ _ | refine RowI.xt ?_ _ | refine RowI.drew ?_)), RowI.nil _ _, (by repeat (first | (refine rowI_lit _ ?_ rfl; simp; done) | refine RowI.alloc ?_ _ | refine RowI.xt ?_ _ | refine RowI.drew ?_)), (by repeat (first | (refine rowI_lit _ ?_ rfl; simp; done) | refine RowI.alloc ?_ _ | refine RowI.xt ?_ _ | refine RowI.drew ?_))⟩ (by decide) (by decide) (by decide) (by decide +kernel))).mono ?_
  rintro e' w' ⟨rfl, g13, rfl⟩
  go_wp2_with fail
  refine (RetB.grown (kCk _ _ _ _ _ _ _ _ _ _ _ _ _ _ _ _ _ [1, 0] [0] [] [1, 9] [0, 0] 9 18 10 _ (by repeat (first | exact HKC.out | exact HKD.out | exact HKX.out | refine GRow.xt ?_ _ | refine GRow.alloc ?_ _ | refine GRow.drew ?_)) ⟨rfl, rfl, rfl, rfl, rfl, by decide, by decide, by decide, by decide, by decide, by decide, (by repeat (first | (refine rowI_lit _ ?_ rfl; simp; done) | refine RowI.alloc ?_ _ | refine RowI.xt ?_ _ | refine RowI.drew ?_)), (by repeat (first | (refine rowI_lit _ ?_ rfl; simp; done) | refine RowI.alloc ?_ _ | refine RowI.xt ?_ _ | refine RowI.drew ?_)), RowI.nil _ _, (by repeat (first | (refine rowI_lit _ ?_ rfl; simp; done) | refine RowI.alloc ?_ _ | refine RowI.xt ?_ _ | refine RowI.drew ?_)), (by repeat (first | (refine rowI_lit _ ?_ rfl; simp; done) | refine RowI.alloc ?_ _ | refine RowI.xt ?_ _ | refine RowI.drew ?_))⟩ (by decide) (by decide) (by decide) (by decide +kernel))).mono ?_
  rintro e' w' ⟨rfl, g14, rfl⟩
  go_wp2_with fail
  go_ret
  have hsz : w.heap.size ≤ W1.heap.size := by have := HSz.out; omega
  exact RetB.of rfl (by repeat' (first | exact Below.refl _ _ | assumption | refine Below.xt ?_ ?_ _ | refine Below.alloc ?_ ?_ _ | refine Below.drew ?_ | refine Below.setCell ?_ ?_ _ | (simp; done) | (simp; omega)))
end Go.Proofs.Ytjiknjcmfiapjaa

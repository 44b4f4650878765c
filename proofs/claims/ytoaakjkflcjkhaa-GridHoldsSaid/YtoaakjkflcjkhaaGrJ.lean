/- Walk of the law GridHolds at a grid of at most 64 spots. Conditions stand in each theorem. -/
import Derived.Test.YtoaakjkflcjkhaaGrI
import Derived.Deep.RegionLaw
import Derived.Deep.AppendLies
namespace Go.Proofs.Ytoaakjkflcjkhaa
open Go.RowKit
set_option linter.unusedVariables false
attribute [local go_sem ↓] ld6

theorem own_kept {w w' : World} {base base' : Nat} {e e' : TypeId} {s s' n n' : Nat} {v v' : Value} {xs xs' : List Value} (h : w.ownsRow base e s v n xs) (k : w.ownsRow base' e' s' v' n' xs') (hg : w.grownBy w' v'.ownBlock) (hne : e ≠ e') : w'.ownsRow base e s v n xs := by
  refine h.kept hg ?_
  rcases h.2 with ⟨rfl, _⟩ | ⟨g, cap, cur, rfl, hb, hg1, _⟩
  · exact .inl rfl
  · right
    rcases k.2 with ⟨rfl, _⟩ | ⟨g', cap', cur', rfl, hb', hg2, _⟩
    · simp [Value.ownBlock]
    · intro he
      simp only [Value.ownBlock, Option.some.injEq] at he
      subst he
      rw [hg1] at hg2
      injection hg2 with h1
      injection h1 with _ h2
      exact hne h2
theorem own_later {w w' : World} {base : Nat} {e : TypeId} {s n : Nat} {v : Value} {xs : List Value} (h : w.ownsRow base e s v n xs) (hb : Below w.heap.size w w') : w'.ownsRow base e s v n xs := by
  refine ⟨h.1, ?_⟩
  rcases h.2 with h' | ⟨gb, cap, cur, hv, hbb, hg, hrest⟩
  · exact .inl h'
  · have hlt : gb < w.heap.size := by
      rcases Nat.lt_or_ge gb w.heap.size with hlt | hge
      · exact hlt
      · rw [Array.getElem?_eq_none hge] at hg; cases hg
    exact .inr ⟨gb, cap, cur, hv, hbb, (hb.block gb hlt).trans hg, hrest⟩
theorem below_step {B : Nat} {w0 w W wq : World} {e : TypeId} {s n : Nat} {v : Value} {xs : List Value} (hW : Below B w0 w) (hb : Below w.heap.size w W) (hB : B ≤ w.heap.size) (h : W.ownsRow B e s v n xs) (hg : W.grownBy wq v.ownBlock) : Below B w0 wq :=
  below_grown (Below.next hW hb hB) (Nat.le_trans hB hb.size) h hg
theorem own_drew {w : World} {base : Nat} {e : TypeId} {s n : Nat} {v : Value} {xs : List Value} (h : w.ownsRow base e s v n xs) : w.drew.ownsRow base e s v n xs := h

theorem news_alloc {w : World} {m : Nat} {xs : List Value} {o : Obj} (h : ∀ j u, xs[j]? = some u → w.cell? ((⟨m, 0, none⟩ : Addr).add j) = some u) (hm : m < w.heap.size) : ∀ j u, xs[j]? = some u → (w.alloc o).cell? ((⟨m, 0, none⟩ : Addr).add j) = some u := by
  intro j u hu
  rw [← h j u hu, zero_add_addr, cell_alloc_old _ _ _ _ _ hm]
theorem news_grown {w w' : World} {m : Nat} {xs : List Value} {row : Option Nat} (hg : w.grownBy w' row) (h : ∀ j u, xs[j]? = some u → w.cell? ((⟨m, 0, none⟩ : Addr).add j) = some u) (hm : m < w.heap.size) (hne : ∀ k, row = some k → k < m) : ∀ j u, xs[j]? = some u → w'.cell? ((⟨m, 0, none⟩ : Addr).add j) = some u := by
  intro j u hu
  rw [← h j u hu, zero_add_addr]
  exact hg.cell_far _ hm (fun he => by have := hne m he.symm; omega)
theorem cell_grown {w w' : World} {a : Addr} {row : Option Nat} {v : Value} {B : Nat} (hg : w.grownBy w' row) (h : w.cell? a = some v) (ho : a.block < w.heap.size) (hB : a.block < B) (hne : ∀ k, row = some k → B ≤ k) : w'.cell? a = some v := by
  rw [← h]
  exact hg.cell_far _ ho (fun he => by have := hne _ he.symm; omega)

structure HoldsC (q : Gd) (a b : Nat) (d t : Bool) (w : World) : Prop where
  spots : ∀ w, Calls Try.prog 9 #[.agg #[.int .i64 q.ox, .int .i64 q.oy, .int .i64 q.oz, .int .i64 q.rows, .int .i64 q.cols, .int .i64 q.sp]] w (RetVecs (spots q) 0 w)
  n1 : ∀ w, Calls Try.prog 18 #[.agg #[.int .i64 q.ox, .int .i64 q.oy, .int .i64 q.oz, .int .i64 q.rows, .int .i64 q.cols, .int .i64 q.sp], .int .i64 (a : Int)] w (RetInts (neigh q a) 0 w)
  n2 : ∀ w, Calls Try.prog 18 #[.agg #[.int .i64 q.ox, .int .i64 q.oy, .int .i64 q.oz, .int .i64 q.rows, .int .i64 q.cols, .int .i64 q.sp], .int .i64 (b : Int)] w (RetInts (neigh q b) 0 w)
  m1 : decide ((b : Int) ∈ neigh q a) = t
  m2 : decide ((a : Int) ∈ neigh q b) = t
  near : ∀ w, Calls Try.prog 21 #[.agg #[.int .i64 q.ox, .int .i64 q.oy, .int .i64 q.oz, .int .i64 q.rows, .int .i64 q.cols, .int .i64 q.sp], .agg #[.int .i64 (at_ (Go.Proofs.Ytoaakjkflcjkhaa.spots q) a).x, .int .i64 (at_ (Go.Proofs.Ytoaakjkflcjkhaa.spots q) a).y, .int .i64 (at_ (Go.Proofs.Ytoaakjkflcjkhaa.spots q) a).z]] w (RetB (.tuple #[.int .i64 (a : Int), .int .i64 0]) w)
  dist : ∀ w, Calls Try.prog 25 #[.agg #[.int .i64 (at_ (Go.Proofs.Ytoaakjkflcjkhaa.spots q) a).x, .int .i64 (at_ (Go.Proofs.Ytoaakjkflcjkhaa.spots q) a).y, .int .i64 (at_ (Go.Proofs.Ytoaakjkflcjkhaa.spots q) a).z], .agg #[.int .i64 (at_ (Go.Proofs.Ytoaakjkflcjkhaa.spots q) b).x, .int .i64 (at_ (Go.Proofs.Ytoaakjkflcjkhaa.spots q) b).y, .int .i64 (at_ (Go.Proofs.Ytoaakjkflcjkhaa.spots q) b).z]] w (RetB (.int .i64 (d2 (at_ (Go.Proofs.Ytoaakjkflcjkhaa.spots q) a) (at_ (Go.Proofs.Ytoaakjkflcjkhaa.spots q) b))) w)
  point : ∀ w, Calls Try.prog 27 #[.agg #[.int .i64 (at_ (Go.Proofs.Ytoaakjkflcjkhaa.spots q) a).x, .int .i64 (at_ (Go.Proofs.Ytoaakjkflcjkhaa.spots q) a).y, .int .i64 (at_ (Go.Proofs.Ytoaakjkflcjkhaa.spots q) a).z]] w (RetB (.bool true) w)
  assign : ∀ A c w, RowV w A (pts q a d q.n) → Calls Try.prog 23 #[.agg #[.int .i64 q.ox, .int .i64 q.oy, .int .i64 q.oz, .int .i64 q.rows, .int .i64 q.cols, .int .i64 q.sp], .slice A q.n c] w (RetInts (ord q a d q.n) 0 w)

set_option maxRecDepth 100000 in
set_option maxHeartbeats 6400000 in
theorem GridHolds_apart (q : Gd) (i k s : Int) (a b n : Nat) (d t : Bool) (w : World) (H : HoldsC q a b d t w) (hn0 : 0 < n) (hn : n ≤ 64) (hnq : q.n = n) (hl : (spots q).length = n) (ha : a < n) (hb : b < n) (hne : a ≠ b)
    (hi : 0 ≤ i) (hi2 : i ≤ 255) (hk : 0 ≤ k) (hk2 : k ≤ 255) (hs0 : 0 ≤ s) (hs2 : s ≤ 255) (e1 : i % (n : Int) = a) (e2 : k % (n : Int) = b) (e3 : decide (s % 2 = 1) = d)
    (s0 : 1 ≤ q.sp) (s1 : q.sp ≤ 1048576) (D : Int) (hD : d2 (at_ (spots q) a) (at_ (spots q) b) = D) (e4 : decide (D < q.sp * q.sp) = false) (e5 : (D == q.sp * q.sp) = t) :
    Calls Try.prog 7 #[.agg #[.int .i64 q.ox, .int .i64 q.oy, .int .i64 q.oz, .int .i64 q.rows, .int .i64 q.cols, .int .i64 q.sp], .int .u8 i, .int .u8 k, .int .u8 s] w (RetB (.bool true) w) := by
  have C0 := fun w => Lib.hid (H.spots w)
  have C1 := fun w => Lib.hid (H.n1 w)
  have C2 := fun w => Lib.hid (H.n2 w)
  have M1 := Lib.hid H.m1
  have M2 := Lib.hid H.m2
  have C3 := fun w => Lib.hid (H.near w)
  have C4 := fun w => Lib.hid (H.dist w)
  have C5 := fun w => Lib.hid (H.point w)
  have C6 := fun A c w h => Lib.hid (H.assign A c w h)
  have HL := Lib.hid hl
  have HQ := Lib.hid hnq
  have HE := Lib.hid e3
  have w1 : IntKind.i64.wrap (q.sp * q.sp) = q.sp * q.sp := IntWalk.i64_in _ (by
    have h1 := Int.mul_le_mul s1 s1 (by omega) (by omega)
    have h2 := Int.mul_nonneg (show 0 ≤ q.sp by omega) (show 0 ≤ q.sp by omega)
    omega)
  have w2 : IntKind.i64.wrap i = i := IntWalk.i64_in _ (by omega)
  have w3 : IntKind.i64.wrap k = k := IntWalk.i64_in _ (by omega)
  have t1 : i.tmod (n : Int) = a := by rw [Int.tmod_eq_emod_of_nonneg hi]; exact e1
  have t2 : k.tmod (n : Int) = b := by rw [Int.tmod_eq_emod_of_nonneg hk]; exact e2
  have x1 : (((spots q).length : Int) == 0) = false := by rw [hl]; simp; omega
  have x2 : decide ((64 : Int) < ((spots q).length : Int)) = false := by rw [hl]; simp; omega
  have x3 : decide (64 < (spots q).length) = false := by rw [hl]; simp; omega
  have x4 : ((a : Int) != (b : Int)) = true := by simp; omega
  obtain ⟨i0, hi0, hz0, hz1, hz2⟩ := info_parts infoInt
  obtain ⟨i1, hi1, hy0, hy1, hy2⟩ := info_parts infoVec
  have HPT := Lib.hid (show ∀ m j, j < n → sq n a d j = m → at_ (spots q) m = at_ (pts q a d n) j from fun m j hj hm => by
    rw [pts_at hj, hnq, hm, spots_at (by rw [hnq, ← hm]; exact sq_lt hn0)])
  rw [hD] at C4
  rw [hnq] at C6
  clear H hl hnq e3 hD hne
  go_enter Try.func7, Try.ntmps7
  go_wp2_with fail
  refine (C0 _).out.mono ?_
  rintro e w' ⟨A, c, rfl, hbb, hr⟩
  obtain ⟨ga, rfl⟩ := xt_of_below hbb
  generalize spots q = l at *
  obtain ⟨bl, o, rfl, hbl, hc⟩ := Row.at_ hr (by rw [HL.out]; exact hn0)
  have HC := Lib.hid fun k hk => RowV.cells hc (i := k) hk
  have HR := Lib.hid hr
  obtain ⟨ax, ay, az⟩ := HC.out a (by rw [HL.out]; exact ha)
  obtain ⟨bx, bY, bz⟩ := HC.out b (by rw [HL.out]; exact hb)
  clear hbb hr hc
  have HL2 := Lib.hid HL.out
  rw [HL.out] at x1 x2 x3
  rw [HL.out]
  generalize at_ l a = va at *
  generalize at_ l b = vb at *
  go_wp2_with (first
    | (go_at_call 25; (with_reducible refine (RetB.grown ((C4 _).out)).mono ?_); rintro e' w' ⟨rfl, g, rfl⟩)
    | (refine wp_region_xt (by kernel_rfl) (by kernel_rfl) ?_; (repeat (go_big_quiet_step (first | (go_at_call 25; (with_reducible exact RetB.quiet ((C4 _).out)))))); refine wpQuiet_nil ?_; intro g))
  refine (C1 _).out.mono ?_
  rintro e w' ⟨A1, c1, rfl, hbb, hr⟩
  obtain ⟨g1, rfl⟩ := xt_of_below hbb
  have HA := Lib.hid hr
  clear hbb hr
  go_wp2_with fail
  refine (C2 _).out.mono ?_
  rintro e w' ⟨A2, c2, rfl, hbb, hr⟩
  obtain ⟨g2, rfl⟩ := xt_of_below hbb
  have HB := Lib.hid hr
  clear hbb hr C1 C2 C0
  have K1 : ∀ w, RowI w A1 (neigh q a) → Calls Try.prog 26 #[.slice A1 (neigh q a).length c1, .int .i64 (b : Int)] w (RetB (.bool t) w) := fun w h => by
    have := has_any A1 (neigh q a).length c1 (neigh q a) b w rfl (by have := neigh_len q a; omega) h
    rwa [M1.out] at this
  have K2 : ∀ w, RowI w A2 (neigh q b) → Calls Try.prog 26 #[.slice A2 (neigh q b).length c2, .int .i64 (a : Int)] w (RetB (.bool t) w) := fun w h => by
    have := has_any A2 (neigh q b).length c2 (neigh q b) a w rfl (by have := neigh_len q b; omega) h
    rwa [M2.out] at this
  have KH1 := fun w h => Lib.hid (K1 w h)
  have KH2 := fun w h => Lib.hid (K2 w h)
  clear K1 K2
  generalize neigh q a = la at *
  generalize neigh q b = lb at *
  go_wp2_with (first
    | (go_at_call 26; (with_reducible refine (RetB.grown ((KH1 _ (by repeat (first | (with_reducible exact HA.out) | (with_reducible refine RowI.xt ?_ _) | (with_reducible refine RowI.alloc ?_ _) | (with_reducible refine RowI.drew ?_)))).out)).mono ?_); rintro e' w' ⟨rfl, g, rfl⟩)
    | (go_at_call 26; (with_reducible refine (RetB.grown ((KH2 _ (by repeat (first | (with_reducible exact HB.out) | (with_reducible refine RowI.xt ?_ _) | (with_reducible refine RowI.alloc ?_ _) | (with_reducible refine RowI.drew ?_)))).out)).mono ?_); rintro e' w' ⟨rfl, g, rfl⟩)
    | (go_at_call 25; (with_reducible refine (RetB.grown ((C4 _).out)).mono ?_); rintro e' w' ⟨rfl, g, rfl⟩)
    | (go_at_call 21; (with_reducible refine (RetB.grown ((C3 _).out)).mono ?_); rintro e' w' ⟨rfl, g, rfl⟩)
    | (go_at_call 27; (with_reducible refine (RetB.grown ((C5 _).out)).mono ?_); rintro e' w' ⟨rfl, g, rfl⟩)
    | (refine wp_region_xt (by kernel_rfl) (by kernel_rfl) ?_; (repeat (go_big_quiet_step (first | (go_at_call 26; (with_reducible exact RetB.quiet ((KH1 _ (by repeat (first | (with_reducible exact HA.out) | (with_reducible refine RowI.xt ?_ _) | (with_reducible refine RowI.alloc ?_ _) | (with_reducible refine RowI.drew ?_)))).out))) | (go_at_call 26; (with_reducible exact RetB.quiet ((KH2 _ (by repeat (first | (with_reducible exact HB.out) | (with_reducible refine RowI.xt ?_ _) | (with_reducible refine RowI.alloc ?_ _) | (with_reducible refine RowI.drew ?_)))).out))) | (go_at_call 25; (with_reducible exact RetB.quiet ((C4 _).out))) | (go_at_call 21; (with_reducible exact RetB.quiet ((C3 _).out))) | (go_at_call 27; (with_reducible exact RetB.quiet ((C5 _).out)))))); refine wpQuiet_nil ?_; intro g))
  clear x1 x2 x3 x4 e1 e2 e4 e5 t1 t2 w1 w2 w3 KH1 KH2 C3 C4 C5 HA HB ax ay az bx bY bz
  obtain ⟨W1, HW1⟩ : ∃ W1, Hid (W1 = (xt (w.alloc (.cells #[.int .i64 q.ox, .int .i64 q.oy, .int .i64 q.oz, .int .i64 q.rows, .int .i64 q.cols, .int .i64 q.sp] 25)) ga)) := ⟨_, Lib.hid rfl⟩
  have HC1 := Lib.hid (show old bl W1 ∧ ∀ k, k < n → W1.cell? ⟨bl, o + k * 3, none⟩ = some (.int .i64 (at_ l k).x) ∧ W1.cell? ⟨bl, o + k * 3 + 1, none⟩ = some (.int .i64 (at_ l k).y) ∧ W1.cell? ⟨bl, o + k * 3 + 2, none⟩ = some (.int .i64 (at_ l k).z) by
    rw [HW1.out]; exact ⟨hbl, fun k hk => HC.out k (by rw [HL.out]; exact hk)⟩)
  have HG1 := Lib.hid (show old w.heap.size W1 ∧ blk W1 w.heap.size = some (.cells #[.int .i64 q.ox, .int .i64 q.oy, .int .i64 q.oz, .int .i64 q.rows, .int .i64 q.cols, .int .i64 q.sp] 25) by
    rw [HW1.out]
    refine ⟨by rw [old_xt]; exact .inl (by rw [old_alloc]; exact .inr rfl), ?_⟩
    rw [blk_xt _ _ _ (by rw [old_alloc]; exact .inr rfl), blk_alloc _ _ _ rfl])
  have HBW := Lib.hid (show Below w.heap.size w W1 by rw [HW1.out]; exact (by repeat' (first | exact Below.refl _ _ | assumption | refine Below.xt ?_ ?_ _ | refine Below.alloc ?_ ?_ _ | refine Below.drew ?_ | refine Below.setCell ?_ ?_ _ | (simp; done) | (simp; omega))))
  go_loopw [19, 20, 21] (fun u19 u20 u21 wr => ∃ j : Nat, j ≤ n ∧ u21 = .int .i64 j ∧ Hid (Below W1.heap.size W1 wr) ∧ Hid (wr.ownsRow W1.heap.size 3 1 u19 j ((ord q a d j).map (Value.int .i64))) ∧ Hid (wr.ownsRow W1.heap.size 23 3 u20 j (flat j 3 fun i => vcell (at_ (pts q a d n) i)))) (fun _ _ u21 _ => n - (intOf u21).toNat)
  case atStart => exact ⟨0, by omega, rfl, Lib.hid (by rw [HW1.out]; exact (by repeat' (first | exact Below.refl _ _ | assumption | refine Below.xt ?_ ?_ _ | refine Below.alloc ?_ ?_ _ | refine Below.drew ?_ | refine Below.setCell ?_ ?_ _ | (simp; done) | (simp; omega)))), Lib.hid own_nil, Lib.hid own_nil⟩
  case round =>
    obtain ⟨j, hj, rfl, HW, HO, HP⟩ := hrel
    by_cases hlt : j < n
    · obtain ⟨cc, hcc⟩ : ∃ cc, cc = (a + j) % n := ⟨_, rfl⟩
      have hc1 : cc < n := by rw [hcc]; exact Nat.mod_lt _ (by omega)
      have t3 : ((a : Int) + (j : Int)) % (n : Int) = cc := by rw [hcc]; rfl
      have t4 : ((a : Int) + (j : Int)).tmod (n : Int) = cc := by rw [Int.tmod_eq_emod_of_nonneg (by omega)]; exact t3
      obtain ⟨m, hm1, HM, e7, e8⟩ : ∃ m, m < n ∧ Hid (sq n a d j = m) ∧ (d = true → (n : Int) - 1 - cc = m) ∧ (d = false → m = cc) := by
        refine ⟨sq n a d j, sq_lt hn0, Lib.hid rfl, fun h => ?_, fun h => ?_⟩
        · subst h; have : sq n a true j = n - 1 - cc := by rw [hcc]; rfl
          omega
        · subst h; rw [hcc]; rfl
      have e6 : (s % 2 == 1) = d := by rw [← HE.out]; rfl
      have HV := Lib.hid (HPT.out m j hlt HM.out)
      have HLO := Lib.hid fun k h => (HO.out.lt k h).2
      have HLP := Lib.hid fun k h => (HP.out.lt k h).2
      obtain ⟨hx, hy, hz⟩ := HC1.out.2 m hm1
      have f1 := HW.out.cell (p := ⟨bl, o + m * 3, none⟩) HC1.out.1
      have f2 := HW.out.cell (p := ⟨bl, o + m * 3 + 1, none⟩) HC1.out.1
      have f3 := HW.out.cell (p := ⟨bl, o + m * 3 + 2, none⟩) HC1.out.1
      rw [hx] at f1
      rw [hy] at f2
      rw [hz] at f3
      have hbr : old bl wr := Nat.lt_of_lt_of_le HC1.out.1 HW.out.size
      have HF := Lib.hid (show W1.cell? ⟨bl, o + m * 3, none⟩ = some (.int .i64 (at_ (pts q a d n) j).x) ∧ W1.cell? ⟨bl, o + m * 3 + 1, none⟩ = some (.int .i64 (at_ (pts q a d n) j).y) ∧ W1.cell? ⟨bl, o + m * 3 + 2, none⟩ = some (.int .i64 (at_ (pts q a d n) j).z) by rw [← HV.out]; exact ⟨hx, hy, hz⟩)
      clear hcc hx hy hz
      rw [HV.out] at f1 f2 f3
      have HVV := Lib.hid (show at_ (pts q a d n) j = at_ (pts q a d n) j from rfl)
      generalize hv : at_ (pts q a d n) j = v at f1 f2 f3 HF
      have HVX := Lib.hid hv
      clear hv
      have HMo := Lib.hid (show (ord q a d (j + 1)).map (Value.int .i64) = (ord q a d j).map (Value.int .i64) ++ [.int .i64 (m : Int)] by
        unfold ord; rw [List.range_succ, List.map_append, List.map_append, HQ.out]; simp [HM.out])
      have HMp := Lib.hid (show flat (j + 1) 3 (fun i => vcell (at_ (pts q a d n) i)) = flat j 3 (fun i => vcell (at_ (pts q a d n) i)) ++ [.int .i64 v.x, .int .i64 v.y, .int .i64 v.z] by
        rw [flat_succ (by omega), ← HVX.out]; rfl)
      rcases Bool.eq_false_or_eq_true d with hd | hd
      case' inl =>
        have e7 := e7 hd
        rw [hd] at e6
        clear e8
      case' inr =>
        obtain rfl := e8 hd
        rw [hd] at e6
        clear e7 e8
      all_goals
        have Hd := Lib.hid hd
        clear hd
        go_wp2_with fail
        go_region_law (first | (refine step_append_lies _ rfl _ _ 43 rfl W1.heap.size 3 i0 _ 1 8 Try.underlying43 hi0 hz0 hz1 hz2 rfl (by omega) u19 j ((ord q a d j).map (Value.int .i64)) rfl (by repeat (first | (with_reducible exact HO.out) | (with_reducible refine World.ownsRow.alloc ?_ _) | (with_reducible refine own_drew ?_))) _ 1 _ [.int .i64 (m : Int)] rfl rfl ?_ ?_ (by omega) (by simp only [maxLen]; omega) (by omega) ?_ _ rfl ?_; (next => (first | (refine cells_new _ _ _ _ ?_; simp; done) | (refine news_alloc (cells_new _ _ _ _ ?_) ?_ <;> first | (simp; done) | (simp; omega)) | (refine news_grown HG.out (cells_new _ _ _ _ ?_) ?_ (fun k h => Nat.lt_of_lt_of_le (HN.out k h) ?_) <;> first | (simp; done) | (simp; omega)) | (refine news_grown HG.out (news_alloc (cells_new _ _ _ _ ?_) ?_) ?_ (fun k h => Nat.lt_of_lt_of_le (HN.out k h) ?_) <;> first | (simp; done) | (simp; omega)))); (next => (intro u hu; simp only [List.mem_cons, List.not_mem_nil, or_false] at hu; rcases hu with rfl; rfl)); (next => (have := HW.out.size; simp; omega)); intro gq cq wq hown hgrow hat hlt; have HW := Lib.hid (below_step HW.out (by repeat' (first | exact Below.refl _ _ | assumption | refine Below.xt ?_ ?_ _ | refine Below.alloc ?_ ?_ _ | refine Below.drew ?_ | refine Below.setCell ?_ ?_ _ | (simp; done) | (simp; omega))) HW.out.size (own_later HO.out (by repeat' (first | exact Below.refl _ _ | assumption | refine Below.xt ?_ ?_ _ | refine Below.alloc ?_ ?_ _ | refine Below.drew ?_ | refine Below.setCell ?_ ?_ _ | (simp; done) | (simp; omega)))) hgrow); have f1 := (HW.out.cell (p := ⟨bl, o + m * 3, none⟩) HC1.out.1).trans HF.out.1; have f2 := (HW.out.cell (p := ⟨bl, o + m * 3 + 1, none⟩) HC1.out.1).trans HF.out.2.1; have f3 := (HW.out.cell (p := ⟨bl, o + m * 3 + 2, none⟩) HC1.out.1).trans HF.out.2.2; have hbr : old bl wq := Nat.lt_of_lt_of_le HC1.out.1 HW.out.size; have HG := Lib.hid hgrow; have HP := Lib.hid (own_kept (own_later HP.out (by repeat' (first | exact Below.refl _ _ | assumption | refine Below.xt ?_ ?_ _ | refine Below.alloc ?_ ?_ _ | refine Below.drew ?_ | refine Below.setCell ?_ ?_ _ | (simp; done) | (simp; omega)))) (own_later HO.out (by repeat' (first | exact Below.refl _ _ | assumption | refine Below.xt ?_ ?_ _ | refine Below.alloc ?_ ?_ _ | refine Below.drew ?_ | refine Below.setCell ?_ ?_ _ | (simp; done) | (simp; omega)))) hgrow (by decide)); have HO := Lib.hid hown; have HN := HLO; clear hown hgrow hat hlt) | (refine step_append_lies _ rfl _ _ 29 rfl W1.heap.size 23 i1 _ 3 24 Try.underlying29 hi1 hy0 hy1 hy2 rfl (by omega) u20 j (flat j 3 fun i => vcell (at_ (pts q a d n) i)) rfl (by repeat (first | (with_reducible exact HP.out) | (with_reducible refine World.ownsRow.alloc ?_ _) | (with_reducible refine own_drew ?_))) _ 1 _ [.int .i64 v.x, .int .i64 v.y, .int .i64 v.z] rfl rfl ?_ ?_ (by omega) (by simp only [maxLen]; omega) (by omega) ?_ _ rfl ?_; (next => (first | (refine cells_new _ _ _ _ ?_; simp; done) | (refine news_alloc (cells_new _ _ _ _ ?_) ?_ <;> first | (simp; done) | (simp; omega)) | (refine news_grown HG.out (cells_new _ _ _ _ ?_) ?_ (fun k h => Nat.lt_of_lt_of_le (HN.out k h) ?_) <;> first | (simp; done) | (simp; omega)) | (refine news_grown HG.out (news_alloc (cells_new _ _ _ _ ?_) ?_) ?_ (fun k h => Nat.lt_of_lt_of_le (HN.out k h) ?_) <;> first | (simp; done) | (simp; omega)))); (next => (intro u hu; simp only [List.mem_cons, List.not_mem_nil, or_false] at hu; rcases hu with rfl | rfl | rfl <;> rfl)); (next => (have := HW.out.size; simp; omega)); intro gq cq wq hown hgrow hat hlt; have HW := Lib.hid (below_step HW.out (by repeat' (first | exact Below.refl _ _ | assumption | refine Below.xt ?_ ?_ _ | refine Below.alloc ?_ ?_ _ | refine Below.drew ?_ | refine Below.setCell ?_ ?_ _ | (simp; done) | (simp; omega))) HW.out.size (own_later HP.out (by repeat' (first | exact Below.refl _ _ | assumption | refine Below.xt ?_ ?_ _ | refine Below.alloc ?_ ?_ _ | refine Below.drew ?_ | refine Below.setCell ?_ ?_ _ | (simp; done) | (simp; omega)))) hgrow); have f1 := (HW.out.cell (p := ⟨bl, o + m * 3, none⟩) HC1.out.1).trans HF.out.1; have f2 := (HW.out.cell (p := ⟨bl, o + m * 3 + 1, none⟩) HC1.out.1).trans HF.out.2.1; have f3 := (HW.out.cell (p := ⟨bl, o + m * 3 + 2, none⟩) HC1.out.1).trans HF.out.2.2; have hbr : old bl wq := Nat.lt_of_lt_of_le HC1.out.1 HW.out.size; have HG := Lib.hid hgrow; have HO := Lib.hid (own_kept (own_later HO.out (by repeat' (first | exact Below.refl _ _ | assumption | refine Below.xt ?_ ?_ _ | refine Below.alloc ?_ ?_ _ | refine Below.drew ?_ | refine Below.setCell ?_ ?_ _ | (simp; done) | (simp; omega)))) (own_later HP.out (by repeat' (first | exact Below.refl _ _ | assumption | refine Below.xt ?_ ?_ _ | refine Below.alloc ?_ ?_ _ | refine Below.drew ?_ | refine Below.setCell ?_ ?_ _ | (simp; done) | (simp; omega)))) hgrow (by decide)); have HP := Lib.hid hown; have HN := HLP; clear hown hgrow hat hlt))
        all_goals
          go_wp2_with fail
          go_roundw
          case rel => exact ⟨j + 1, by omega, by go_num, HW, Lib.hid (by rw [HMo.out]; exact HO.out), Lib.hid (by rw [HMp.out]; exact HP.out)⟩
          case measure => simp [intOf]; omega
    · obtain rfl : j = n := by omega
      have HB2 := Lib.hid (show Below w.heap.size w wr from HBW.out.trans (HW.out.mono HBW.out.size))
      have hblk : blk wr w.heap.size = some (.cells #[.int .i64 q.ox, .int .i64 q.oy, .int .i64 q.oz, .int .i64 q.rows, .int .i64 q.cols, .int .i64 q.sp] 25) := (HW.out.block _ HG1.out.1).trans HG1.out.2
      have hold : old w.heap.size wr := Nat.lt_of_lt_of_le HG1.out.1 HW.out.size
      obtain ⟨AP, cP, rfl, hrP⟩ := Row.of_own HP.out rfl
      obtain ⟨AO, cO, rfl, hrO⟩ := RowI.of_own HO.out (show j = (ord q a d j).length by simp [ord])
      have HRP := Lib.hid (show RowV wr AP (pts q a d j) by unfold RowV; rw [show (pts q a d j).length = j by simp [pts]]; exact hrP)
      have HRO := Lib.hid hrO
      clear hrP hrO
      rw [show (ord q a d j).length = j by simp [ord]]
      go_wp2_with fail
      refine (C6 _ _ _ HRP.out).out.mono ?_
      rintro e w' ⟨A5, c5, rfl, hbb, hr⟩
      obtain ⟨g5, rfl⟩ := xt_of_below hbb
      have HB3 := Lib.hid hbb
      have HA := Lib.hid hr
      clear hbb hr
      rw [show (ord q a d j).length = j by simp [ord]]
      have KL := fun w ha hb => Lib.hid (list_ok A5 AO j j c5 cO (ord q a d j) w (by simp [ord]) (by simp [ord]) (by omega) ha hb)
      clear hblk hold
      go_wp2_with fail
      refine (RetB.grown (KL _ HA.out (RowI.xt HRO.out _)).out).mono ?_
      rintro e w' ⟨rfl, g6, rfl⟩
      go_wp2_with (first
        | (go_at_call 15; refine (RetB.grown (known_any _)).mono ?_; rintro e' w' ⟨rfl, g, rfl⟩)
        | (refine wp_region_xt (by kernel_rfl) (by kernel_rfl) ?_; (repeat (go_big_quiet_step (first | (go_at_call 15; exact RetB.quiet (known_any _))))); refine wpQuiet_nil ?_; intro g))
      go_ret
      exact RetB.of rfl (HB2.out.trans (Below.mono (Below.xt (Below.xt (Below.xt (Below.refl wr.heap.size wr) (Nat.le_refl _) _) (by simp) _) (by simp; omega) _) HB2.out.size))
set_option maxRecDepth 100000 in
set_option maxHeartbeats 6400000 in
theorem GridHolds_same (q : Gd) (i k s : Int) (a b n : Nat) (d t : Bool) (w : World) (H : HoldsC q a b d t w) (hn0 : 0 < n) (hn : n ≤ 64) (hnq : q.n = n) (hl : (spots q).length = n) (ha : a < n) (hb : b < n) (hne : a = b)
    (hi : 0 ≤ i) (hi2 : i ≤ 255) (hk : 0 ≤ k) (hk2 : k ≤ 255) (hs0 : 0 ≤ s) (hs2 : s ≤ 255) (e1 : i % (n : Int) = a) (e2 : k % (n : Int) = b) (e3 : decide (s % 2 = 1) = d)
    (s0 : 1 ≤ q.sp) (s1 : q.sp ≤ 1048576) (D : Int) (hD : d2 (at_ (spots q) a) (at_ (spots q) b) = D) (e4 : decide (D < q.sp * q.sp) = true) (e5 : (D == q.sp * q.sp) = t) :
    Calls Try.prog 7 #[.agg #[.int .i64 q.ox, .int .i64 q.oy, .int .i64 q.oz, .int .i64 q.rows, .int .i64 q.cols, .int .i64 q.sp], .int .u8 i, .int .u8 k, .int .u8 s] w (RetB (.bool true) w) := by
  have C0 := fun w => Lib.hid (H.spots w)
  have C1 := fun w => Lib.hid (H.n1 w)
  have C2 := fun w => Lib.hid (H.n2 w)
  have M1 := Lib.hid H.m1
  have M2 := Lib.hid H.m2
  have C3 := fun w => Lib.hid (H.near w)
  have C4 := fun w => Lib.hid (H.dist w)
  have C5 := fun w => Lib.hid (H.point w)
  have C6 := fun A c w h => Lib.hid (H.assign A c w h)
  have HL := Lib.hid hl
  have HQ := Lib.hid hnq
  have HE := Lib.hid e3
  have w1 : IntKind.i64.wrap (q.sp * q.sp) = q.sp * q.sp := IntWalk.i64_in _ (by
    have h1 := Int.mul_le_mul s1 s1 (by omega) (by omega)
    have h2 := Int.mul_nonneg (show 0 ≤ q.sp by omega) (show 0 ≤ q.sp by omega)
    omega)
  have w2 : IntKind.i64.wrap i = i := IntWalk.i64_in _ (by omega)
  have w3 : IntKind.i64.wrap k = k := IntWalk.i64_in _ (by omega)
  have t1 : i.tmod (n : Int) = a := by rw [Int.tmod_eq_emod_of_nonneg hi]; exact e1
  have t2 : k.tmod (n : Int) = b := by rw [Int.tmod_eq_emod_of_nonneg hk]; exact e2
  have x1 : (((spots q).length : Int) == 0) = false := by rw [hl]; simp; omega
  have x2 : decide ((64 : Int) < ((spots q).length : Int)) = false := by rw [hl]; simp; omega
  have x3 : decide (64 < (spots q).length) = false := by rw [hl]; simp; omega
  have x4 : ((a : Int) != (b : Int)) = false := by simp; omega
  obtain ⟨i0, hi0, hz0, hz1, hz2⟩ := info_parts infoInt
  obtain ⟨i1, hi1, hy0, hy1, hy2⟩ := info_parts infoVec
  have HPT := Lib.hid (show ∀ m j, j < n → sq n a d j = m → at_ (spots q) m = at_ (pts q a d n) j from fun m j hj hm => by
    rw [pts_at hj, hnq, hm, spots_at (by rw [hnq, ← hm]; exact sq_lt hn0)])
  rw [hD] at C4
  rw [hnq] at C6
  clear H hl hnq e3 hD hne
  go_enter Try.func7, Try.ntmps7
  go_wp2_with fail
  refine (C0 _).out.mono ?_
  rintro e w' ⟨A, c, rfl, hbb, hr⟩
  obtain ⟨ga, rfl⟩ := xt_of_below hbb
  generalize spots q = l at *
  obtain ⟨bl, o, rfl, hbl, hc⟩ := Row.at_ hr (by rw [HL.out]; exact hn0)
  have HC := Lib.hid fun k hk => RowV.cells hc (i := k) hk
  have HR := Lib.hid hr
  obtain ⟨ax, ay, az⟩ := HC.out a (by rw [HL.out]; exact ha)
  obtain ⟨bx, bY, bz⟩ := HC.out b (by rw [HL.out]; exact hb)
  clear hbb hr hc
  have HL2 := Lib.hid HL.out
  rw [HL.out] at x1 x2 x3
  rw [HL.out]
  generalize at_ l a = va at *
  generalize at_ l b = vb at *
  go_wp2_with (first
    | (go_at_call 25; (with_reducible refine (RetB.grown ((C4 _).out)).mono ?_); rintro e' w' ⟨rfl, g, rfl⟩)
    | (refine wp_region_xt (by kernel_rfl) (by kernel_rfl) ?_; (repeat (go_big_quiet_step (first | (go_at_call 25; (with_reducible exact RetB.quiet ((C4 _).out)))))); refine wpQuiet_nil ?_; intro g))
  refine (C1 _).out.mono ?_
  rintro e w' ⟨A1, c1, rfl, hbb, hr⟩
  obtain ⟨g1, rfl⟩ := xt_of_below hbb
  have HA := Lib.hid hr
  clear hbb hr
  go_wp2_with fail
  refine (C2 _).out.mono ?_
  rintro e w' ⟨A2, c2, rfl, hbb, hr⟩
  obtain ⟨g2, rfl⟩ := xt_of_below hbb
  have HB := Lib.hid hr
  clear hbb hr C1 C2 C0
  have K1 : ∀ w, RowI w A1 (neigh q a) → Calls Try.prog 26 #[.slice A1 (neigh q a).length c1, .int .i64 (b : Int)] w (RetB (.bool t) w) := fun w h => by
    have := has_any A1 (neigh q a).length c1 (neigh q a) b w rfl (by have := neigh_len q a; omega) h
    rwa [M1.out] at this
  have K2 : ∀ w, RowI w A2 (neigh q b) → Calls Try.prog 26 #[.slice A2 (neigh q b).length c2, .int .i64 (a : Int)] w (RetB (.bool t) w) := fun w h => by
    have := has_any A2 (neigh q b).length c2 (neigh q b) a w rfl (by have := neigh_len q b; omega) h
    rwa [M2.out] at this
  have KH1 := fun w h => Lib.hid (K1 w h)
  have KH2 := fun w h => Lib.hid (K2 w h)
  clear K1 K2
  generalize neigh q a = la at *
  generalize neigh q b = lb at *
  go_wp2_with (first
    | (go_at_call 26; (with_reducible refine (RetB.grown ((KH1 _ (by repeat (first | (with_reducible exact HA.out) | (with_reducible refine RowI.xt ?_ _) | (with_reducible refine RowI.alloc ?_ _) | (with_reducible refine RowI.drew ?_)))).out)).mono ?_); rintro e' w' ⟨rfl, g, rfl⟩)
    | (go_at_call 26; (with_reducible refine (RetB.grown ((KH2 _ (by repeat (first | (with_reducible exact HB.out) | (with_reducible refine RowI.xt ?_ _) | (with_reducible refine RowI.alloc ?_ _) | (with_reducible refine RowI.drew ?_)))).out)).mono ?_); rintro e' w' ⟨rfl, g, rfl⟩)
    | (go_at_call 25; (with_reducible refine (RetB.grown ((C4 _).out)).mono ?_); rintro e' w' ⟨rfl, g, rfl⟩)
    | (go_at_call 21; (with_reducible refine (RetB.grown ((C3 _).out)).mono ?_); rintro e' w' ⟨rfl, g, rfl⟩)
    | (go_at_call 27; (with_reducible refine (RetB.grown ((C5 _).out)).mono ?_); rintro e' w' ⟨rfl, g, rfl⟩)
    | (refine wp_region_xt (by kernel_rfl) (by kernel_rfl) ?_; (repeat (go_big_quiet_step (first | (go_at_call 26; (with_reducible exact RetB.quiet ((KH1 _ (by repeat (first | (with_reducible exact HA.out) | (with_reducible refine RowI.xt ?_ _) | (with_reducible refine RowI.alloc ?_ _) | (with_reducible refine RowI.drew ?_)))).out))) | (go_at_call 26; (with_reducible exact RetB.quiet ((KH2 _ (by repeat (first | (with_reducible exact HB.out) | (with_reducible refine RowI.xt ?_ _) | (with_reducible refine RowI.alloc ?_ _) | (with_reducible refine RowI.drew ?_)))).out))) | (go_at_call 25; (with_reducible exact RetB.quiet ((C4 _).out))) | (go_at_call 21; (with_reducible exact RetB.quiet ((C3 _).out))) | (go_at_call 27; (with_reducible exact RetB.quiet ((C5 _).out)))))); refine wpQuiet_nil ?_; intro g))
  clear x1 x2 x3 x4 e1 e2 e4 e5 t1 t2 w1 w2 w3 KH1 KH2 C3 C4 C5 HA HB ax ay az bx bY bz
  obtain ⟨W1, HW1⟩ : ∃ W1, Hid (W1 = (xt (w.alloc (.cells #[.int .i64 q.ox, .int .i64 q.oy, .int .i64 q.oz, .int .i64 q.rows, .int .i64 q.cols, .int .i64 q.sp] 25)) ga)) := ⟨_, Lib.hid rfl⟩
  have HC1 := Lib.hid (show old bl W1 ∧ ∀ k, k < n → W1.cell? ⟨bl, o + k * 3, none⟩ = some (.int .i64 (at_ l k).x) ∧ W1.cell? ⟨bl, o + k * 3 + 1, none⟩ = some (.int .i64 (at_ l k).y) ∧ W1.cell? ⟨bl, o + k * 3 + 2, none⟩ = some (.int .i64 (at_ l k).z) by
    rw [HW1.out]; exact ⟨hbl, fun k hk => HC.out k (by rw [HL.out]; exact hk)⟩)
  have HG1 := Lib.hid (show old w.heap.size W1 ∧ blk W1 w.heap.size = some (.cells #[.int .i64 q.ox, .int .i64 q.oy, .int .i64 q.oz, .int .i64 q.rows, .int .i64 q.cols, .int .i64 q.sp] 25) by
    rw [HW1.out]
    refine ⟨by rw [old_xt]; exact .inl (by rw [old_alloc]; exact .inr rfl), ?_⟩
    rw [blk_xt _ _ _ (by rw [old_alloc]; exact .inr rfl), blk_alloc _ _ _ rfl])
  have HBW := Lib.hid (show Below w.heap.size w W1 by rw [HW1.out]; exact (by repeat' (first | exact Below.refl _ _ | assumption | refine Below.xt ?_ ?_ _ | refine Below.alloc ?_ ?_ _ | refine Below.drew ?_ | refine Below.setCell ?_ ?_ _ | (simp; done) | (simp; omega))))
  go_loopw [19, 20, 21] (fun u19 u20 u21 wr => ∃ j : Nat, j ≤ n ∧ u21 = .int .i64 j ∧ Hid (Below W1.heap.size W1 wr) ∧ Hid (wr.ownsRow W1.heap.size 3 1 u19 j ((ord q a d j).map (Value.int .i64))) ∧ Hid (wr.ownsRow W1.heap.size 23 3 u20 j (flat j 3 fun i => vcell (at_ (pts q a d n) i)))) (fun _ _ u21 _ => n - (intOf u21).toNat)
  case atStart => exact ⟨0, by omega, rfl, Lib.hid (by rw [HW1.out]; exact (by repeat' (first | exact Below.refl _ _ | assumption | refine Below.xt ?_ ?_ _ | refine Below.alloc ?_ ?_ _ | refine Below.drew ?_ | refine Below.setCell ?_ ?_ _ | (simp; done) | (simp; omega)))), Lib.hid own_nil, Lib.hid own_nil⟩
  case round =>
    obtain ⟨j, hj, rfl, HW, HO, HP⟩ := hrel
    by_cases hlt : j < n
    · obtain ⟨cc, hcc⟩ : ∃ cc, cc = (a + j) % n := ⟨_, rfl⟩
      have hc1 : cc < n := by rw [hcc]; exact Nat.mod_lt _ (by omega)
      have t3 : ((a : Int) + (j : Int)) % (n : Int) = cc := by rw [hcc]; rfl
      have t4 : ((a : Int) + (j : Int)).tmod (n : Int) = cc := by rw [Int.tmod_eq_emod_of_nonneg (by omega)]; exact t3
      obtain ⟨m, hm1, HM, e7, e8⟩ : ∃ m, m < n ∧ Hid (sq n a d j = m) ∧ (d = true → (n : Int) - 1 - cc = m) ∧ (d = false → m = cc) := by
        refine ⟨sq n a d j, sq_lt hn0, Lib.hid rfl, fun h => ?_, fun h => ?_⟩
        · subst h; have : sq n a true j = n - 1 - cc := by rw [hcc]; rfl
          omega
        · subst h; rw [hcc]; rfl
      have e6 : (s % 2 == 1) = d := by rw [← HE.out]; rfl
      have HV := Lib.hid (HPT.out m j hlt HM.out)
      have HLO := Lib.hid fun k h => (HO.out.lt k h).2
      have HLP := Lib.hid fun k h => (HP.out.lt k h).2
      obtain ⟨hx, hy, hz⟩ := HC1.out.2 m hm1
      have f1 := HW.out.cell (p := ⟨bl, o + m * 3, none⟩) HC1.out.1
      have f2 := HW.out.cell (p := ⟨bl, o + m * 3 + 1, none⟩) HC1.out.1
      have f3 := HW.out.cell (p := ⟨bl, o + m * 3 + 2, none⟩) HC1.out.1
      rw [hx] at f1
      rw [hy] at f2
      rw [hz] at f3
      have hbr : old bl wr := Nat.lt_of_lt_of_le HC1.out.1 HW.out.size
      have HF := Lib.hid (show W1.cell? ⟨bl, o + m * 3, none⟩ = some (.int .i64 (at_ (pts q a d n) j).x) ∧ W1.cell? ⟨bl, o + m * 3 + 1, none⟩ = some (.int .i64 (at_ (pts q a d n) j).y) ∧ W1.cell? ⟨bl, o + m * 3 + 2, none⟩ = some (.int .i64 (at_ (pts q a d n) j).z) by rw [← HV.out]; exact ⟨hx, hy, hz⟩)
      clear hcc hx hy hz
      rw [HV.out] at f1 f2 f3
      have HVV := Lib.hid (show at_ (pts q a d n) j = at_ (pts q a d n) j from rfl)
      generalize hv : at_ (pts q a d n) j = v at f1 f2 f3 HF
      have HVX := Lib.hid hv
      clear hv
      have HMo := Lib.hid (show (ord q a d (j + 1)).map (Value.int .i64) = (ord q a d j).map (Value.int .i64) ++ [.int .i64 (m : Int)] by
        unfold ord; rw [List.range_succ, List.map_append, List.map_append, HQ.out]; simp [HM.out])
      have HMp := Lib.hid (show flat (j + 1) 3 (fun i => vcell (at_ (pts q a d n) i)) = flat j 3 (fun i => vcell (at_ (pts q a d n) i)) ++ [.int .i64 v.x, .int .i64 v.y, .int .i64 v.z] by
        rw [flat_succ (by omega), ← HVX.out]; rfl)
      rcases Bool.eq_false_or_eq_true d with hd | hd
      case' inl =>
        have e7 := e7 hd
        rw [hd] at e6
        clear e8
      case' inr =>
        obtain rfl := e8 hd
        rw [hd] at e6
        clear e7 e8
      all_goals
        have Hd := Lib.hid hd
        clear hd
        go_wp2_with fail
        go_region_law (first | (refine step_append_lies _ rfl _ _ 43 rfl W1.heap.size 3 i0 _ 1 8 Try.underlying43 hi0 hz0 hz1 hz2 rfl (by omega) u19 j ((ord q a d j).map (Value.int .i64)) rfl (by repeat (first | (with_reducible exact HO.out) | (with_reducible refine World.ownsRow.alloc ?_ _) | (with_reducible refine own_drew ?_))) _ 1 _ [.int .i64 (m : Int)] rfl rfl ?_ ?_ (by omega) (by simp only [maxLen]; omega) (by omega) ?_ _ rfl ?_; (next => (first | (refine cells_new _ _ _ _ ?_; simp; done) | (refine news_alloc (cells_new _ _ _ _ ?_) ?_ <;> first | (simp; done) | (simp; omega)) | (refine news_grown HG.out (cells_new _ _ _ _ ?_) ?_ (fun k h => Nat.lt_of_lt_of_le (HN.out k h) ?_) <;> first | (simp; done) | (simp; omega)) | (refine news_grown HG.out (news_alloc (cells_new _ _ _ _ ?_) ?_) ?_ (fun k h => Nat.lt_of_lt_of_le (HN.out k h) ?_) <;> first | (simp; done) | (simp; omega)))); (next => (intro u hu; simp only [List.mem_cons, List.not_mem_nil, or_false] at hu; rcases hu with rfl; rfl)); (next => (have := HW.out.size; simp; omega)); intro gq cq wq hown hgrow hat hlt; have HW := Lib.hid (below_step HW.out (by repeat' (first | exact Below.refl _ _ | assumption | refine Below.xt ?_ ?_ _ | refine Below.alloc ?_ ?_ _ | refine Below.drew ?_ | refine Below.setCell ?_ ?_ _ | (simp; done) | (simp; omega))) HW.out.size (own_later HO.out (by repeat' (first | exact Below.refl _ _ | assumption | refine Below.xt ?_ ?_ _ | refine Below.alloc ?_ ?_ _ | refine Below.drew ?_ | refine Below.setCell ?_ ?_ _ | (simp; done) | (simp; omega)))) hgrow); have f1 := (HW.out.cell (p := ⟨bl, o + m * 3, none⟩) HC1.out.1).trans HF.out.1; have f2 := (HW.out.cell (p := ⟨bl, o + m * 3 + 1, none⟩) HC1.out.1).trans HF.out.2.1; have f3 := (HW.out.cell (p := ⟨bl, o + m * 3 + 2, none⟩) HC1.out.1).trans HF.out.2.2; have hbr : old bl wq := Nat.lt_of_lt_of_le HC1.out.1 HW.out.size; have HG := Lib.hid hgrow; have HP := Lib.hid (own_kept (own_later HP.out (by repeat' (first | exact Below.refl _ _ | assumption | refine Below.xt ?_ ?_ _ | refine Below.alloc ?_ ?_ _ | refine Below.drew ?_ | refine Below.setCell ?_ ?_ _ | (simp; done) | (simp; omega)))) (own_later HO.out (by repeat' (first | exact Below.refl _ _ | assumption | refine Below.xt ?_ ?_ _ | refine Below.alloc ?_ ?_ _ | refine Below.drew ?_ | refine Below.setCell ?_ ?_ _ | (simp; done) | (simp; omega)))) hgrow (by decide)); have HO := Lib.hid hown; have HN := HLO; clear hown hgrow hat hlt) | (refine step_append_lies _ rfl _ _ 29 rfl W1.heap.size 23 i1 _ 3 24 Try.underlying29 hi1 hy0 hy1 hy2 rfl (by omega) u20 j (flat j 3 fun i => vcell (at_ (pts q a d n) i)) rfl (by repeat (first | (with_reducible exact HP.out) | (with_reducible refine World.ownsRow.alloc ?_ _) | (with_reducible refine own_drew ?_))) _ 1 _ [.int .i64 v.x, .int .i64 v.y, .int .i64 v.z] rfl rfl ?_ ?_ (by omega) (by simp only [maxLen]; omega) (by omega) ?_ _ rfl ?_; (next => (first | (refine cells_new _ _ _ _ ?_; simp; done) | (refine news_alloc (cells_new _ _ _ _ ?_) ?_ <;> first | (simp; done) | (simp; omega)) | (refine news_grown HG.out (cells_new _ _ _ _ ?_) ?_ (fun k h => Nat.lt_of_lt_of_le (HN.out k h) ?_) <;> first | (simp; done) | (simp; omega)) | (refine news_grown HG.out (news_alloc (cells_new _ _ _ _ ?_) ?_) ?_ (fun k h => Nat.lt_of_lt_of_le (HN.out k h) ?_) <;> first | (simp; done) | (simp; omega)))); (next => (intro u hu; simp only [List.mem_cons, List.not_mem_nil, or_false] at hu; rcases hu with rfl | rfl | rfl <;> rfl)); (next => (have := HW.out.size; simp; omega)); intro gq cq wq hown hgrow hat hlt; have HW := Lib.hid (below_step HW.out (by repeat' (first | exact Below.refl _ _ | assumption | refine Below.xt ?_ ?_ _ | refine Below.alloc ?_ ?_ _ | refine Below.drew ?_ | refine Below.setCell ?_ ?_ _ | (simp; done) | (simp; omega))) HW.out.size (own_later HP.out (by repeat' (first | exact Below.refl _ _ | assumption | refine Below.xt ?_ ?_ _ | refine Below.alloc ?_ ?_ _ | refine Below.drew ?_ | refine Below.setCell ?_ ?_ _ | (simp; done) | (simp; omega)))) hgrow); have f1 := (HW.out.cell (p := ⟨bl, o + m * 3, none⟩) HC1.out.1).trans HF.out.1; have f2 := (HW.out.cell (p := ⟨bl, o + m * 3 + 1, none⟩) HC1.out.1).trans HF.out.2.1; have f3 := (HW.out.cell (p := ⟨bl, o + m * 3 + 2, none⟩) HC1.out.1).trans HF.out.2.2; have hbr : old bl wq := Nat.lt_of_lt_of_le HC1.out.1 HW.out.size; have HG := Lib.hid hgrow; have HO := Lib.hid (own_kept (own_later HO.out (by repeat' (first | exact Below.refl _ _ | assumption | refine Below.xt ?_ ?_ _ | refine Below.alloc ?_ ?_ _ | refine Below.drew ?_ | refine Below.setCell ?_ ?_ _ | (simp; done) | (simp; omega)))) (own_later HP.out (by repeat' (first | exact Below.refl _ _ | assumption | refine Below.xt ?_ ?_ _ | refine Below.alloc ?_ ?_ _ | refine Below.drew ?_ | refine Below.setCell ?_ ?_ _ | (simp; done) | (simp; omega)))) hgrow (by decide)); have HP := Lib.hid hown; have HN := HLP; clear hown hgrow hat hlt))
        all_goals
          go_wp2_with fail
          go_roundw
          case rel => exact ⟨j + 1, by omega, by go_num, HW, Lib.hid (by rw [HMo.out]; exact HO.out), Lib.hid (by rw [HMp.out]; exact HP.out)⟩
          case measure => simp [intOf]; omega
    · obtain rfl : j = n := by omega
      have HB2 := Lib.hid (show Below w.heap.size w wr from HBW.out.trans (HW.out.mono HBW.out.size))
      have hblk : blk wr w.heap.size = some (.cells #[.int .i64 q.ox, .int .i64 q.oy, .int .i64 q.oz, .int .i64 q.rows, .int .i64 q.cols, .int .i64 q.sp] 25) := (HW.out.block _ HG1.out.1).trans HG1.out.2
      have hold : old w.heap.size wr := Nat.lt_of_lt_of_le HG1.out.1 HW.out.size
      obtain ⟨AP, cP, rfl, hrP⟩ := Row.of_own HP.out rfl
      obtain ⟨AO, cO, rfl, hrO⟩ := RowI.of_own HO.out (show j = (ord q a d j).length by simp [ord])
      have HRP := Lib.hid (show RowV wr AP (pts q a d j) by unfold RowV; rw [show (pts q a d j).length = j by simp [pts]]; exact hrP)
      have HRO := Lib.hid hrO
      clear hrP hrO
      rw [show (ord q a d j).length = j by simp [ord]]
      go_wp2_with fail
      refine (C6 _ _ _ HRP.out).out.mono ?_
      rintro e w' ⟨A5, c5, rfl, hbb, hr⟩
      obtain ⟨g5, rfl⟩ := xt_of_below hbb
      have HB3 := Lib.hid hbb
      have HA := Lib.hid hr
      clear hbb hr
      rw [show (ord q a d j).length = j by simp [ord]]
      have KL := fun w ha hb => Lib.hid (list_ok A5 AO j j c5 cO (ord q a d j) w (by simp [ord]) (by simp [ord]) (by omega) ha hb)
      clear hblk hold
      go_wp2_with fail
      refine (RetB.grown (KL _ HA.out (RowI.xt HRO.out _)).out).mono ?_
      rintro e w' ⟨rfl, g6, rfl⟩
      go_wp2_with (first
        | (go_at_call 15; refine (RetB.grown (known_any _)).mono ?_; rintro e' w' ⟨rfl, g, rfl⟩)
        | (refine wp_region_xt (by kernel_rfl) (by kernel_rfl) ?_; (repeat (go_big_quiet_step (first | (go_at_call 15; exact RetB.quiet (known_any _))))); refine wpQuiet_nil ?_; intro g))
      go_ret
      exact RetB.of rfl (HB2.out.trans (Below.mono (Below.xt (Below.xt (Below.xt (Below.refl wr.heap.size wr) (Nat.le_refl _) _) (by simp) _) (by simp; omega) _) HB2.out.size))

end Go.Proofs.Ytoaakjkflcjkhaa

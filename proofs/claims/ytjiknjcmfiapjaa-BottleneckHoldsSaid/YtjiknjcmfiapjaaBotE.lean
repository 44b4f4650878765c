
/- Walks: the smallest greatest cost with its errors; a best assignment with its proof. Conditions stand in each theorem. -/
import Derived.Test.YtjiknjcmfiapjaaBotY
import Derived.Test.YtjiknjcmfiapjaaBotS
import Derived.Test.YtjiknjcmfiapjaaBotV
namespace Go.Proofs.Ytjiknjcmfiapjaa
open Go.RowKit
set_option linter.unusedVariables false
set_option linter.unusedSimpArgs false

/-- The call returns the smallest greatest cost and no error. -/
def ThrE (G : Nat → List Int) (n : Nat) (w : World) (e : Ending) (w' : World) : Prop := ∃ T, e = .returned (.tuple #[.int .i64 T, .int .i64 0]) ∧ Thr G n T ∧ Below w.heap.size w w'
theorem Threshold_no (A : Option Addr) (n cap : Nat) (G : Nat → List Int) (w : World) (hm : n ≤ 1000) (hl : ∀ i, i < n → (G i).length ≤ 1000) (hG : GRow w A n G) (hv : cvd G n = false) :
    Calls Try.prog 20 #[.slice A n cap] w (RetB (.tuple #[.int .i64 0, .int .i64 2]) w) := by
  have C := bValid_any A n cap G w hm hl hG
  rw [hv] at C
  have HC := Lib.hid C
  clear C hG hl hv
  go_enter Try.func20, Try.ntmps20
  go_wp2_with (go_at_call 17; refine HC.out.mono ?_; rintro e' w' ⟨rfl, rfl⟩)
  go_ret2
  exact ⟨rfl, Below.refl _ _⟩
theorem Threshold_any (A : Option Addr) (n cap : Nat) (G : Nat → List Int) (w : World) (hG : GRow w A n G) (hv : cvd G n = true) :
    Calls Try.prog 20 #[.slice A n cap] w (ThrE G n w) := by
  have hC := cvd_iff.1 hv
  have C := bValid_any A n cap G w (by have := hC.le; omega) (fun i hi => by have := hC.len i hi; have := hC.le; omega) hG
  rw [hv] at C
  have HC := Lib.hid C
  have HT := Lib.hid (threshold_any A n cap G w hG hC)
  clear C hG hC hv
  go_enter Try.func20, Try.ntmps20
  go_wp2_with (first | (go_at_call 17; refine HC.out.mono ?_; rintro e' w' ⟨rfl, rfl⟩) | (go_at_call 26; refine HT.out.mono ?_; rintro e' w' ⟨T, rfl, hT, hb⟩))
  go_ret2
  exact ⟨T, rfl, hT, hb⟩

/-- The call returns a best assignment with a proof. -/
def BestP (G : Nat → List Int) (n : Nat) (w : World) (e : Ending) (w' : World) : Prop :=
  ∃ A1 c1 Al cl0 Ar cr0 AU cu AV cv l T s cl cr u v, e = .returned (.tuple #[.agg #[.slice A1 l.length c1, .int .i64 T, .int .i64 s], .agg #[.slice Al cl.length cl0, .slice Ar cr.length cr0, .slice AU u.length cu, .slice AV v.length cv], .int .i64 0]) ∧
    l.length ≤ c1 ∧ Below w.heap.size w w' ∧ RowI w' A1 l ∧ RowI w' Al cl ∧ RowI w' Ar cr ∧ RowI w' AU u ∧ RowI w' AV v ∧ prvA G n l T s cl cr u v = true ∧ Thr G n T
theorem Best_no (A : Option Addr) (n cap : Nat) (G : Nat → List Int) (w : World) (hm : n ≤ 1000) (hl : ∀ i, i < n → (G i).length ≤ 1000) (hG : GRow w A n G) (hv : cvd G n = false) :
    Calls Try.prog 13 #[.slice A n cap] w (RetB (.tuple #[.agg #[.slice none 0 0, .int .i64 0, .int .i64 0], .agg #[.slice none 0 0, .slice none 0 0, .slice none 0 0, .slice none 0 0], .int .i64 2]) w) := by
  have C := fun w h => bValid_any A n cap G w hm hl h
  rw [hv] at C
  have HC := fun w h => Lib.hid (C w h)
  have HG := Lib.hid hG
  clear C hG hl hv
  go_enter Try.func13, Try.ntmps13
  go_wp2_with (go_at_call 17; refine (HC _ ((HG.out.alloc _).alloc _)).out.mono ?_; rintro e' w' ⟨rfl, rfl⟩)
  refine bodyPost_ret (v := .tuple #[.agg #[.slice none 0 0, .int .i64 0, .int .i64 0], .agg #[.slice none 0 0, .slice none 0 0, .slice none 0 0, .slice none 0 0], .int .i64 2]) (by simp [results, Try.results13, go_sem]) rfl ?_
  exact RetB.of rfl (by repeat' (first | exact Below.refl _ _ | assumption | refine Below.xt ?_ ?_ _ | refine Below.alloc ?_ ?_ _ | refine Below.drew ?_ | refine Below.setCell ?_ ?_ _ | (simp; done) | (simp; omega)))

theorem own_cap {w : World} {base n s c : Nat} {e : TypeId} {A : Option Addr} {xs : List Value} (h : w.ownsRow base e s (.slice A n c) n xs) : n ≤ c := by
  rcases h.2 with ⟨h1, h2⟩ | ⟨g, cap, cur, hv, hb, hg, hcap, _⟩
  · omega
  · injection hv with _ _ h3
    omega
theorem rowI_blk {W : World} {g n m : Nat} {f : Nat → Int} {t : TypeId} (h : Blk W g (arrI m f) t) (hn : n ≤ m) : RowI W (some ⟨g, 0, none⟩) ((List.range n).map f) :=
  ⟨fun _ => ⟨g, 0, rfl, h.lt, fun i j hi hj => by
    have hi' : i < n := by simpa using hi
    have e : 0 + i * 1 + j = i := by omega
    rw [e, h.cell (arrI_get (show i < m by omega))]
    simp [icell, List.getD, hi']⟩⟩

theorem own_drawn' {W : World} {base : Nat} {e : TypeId} {r n : Nat} {v : Value} {xs : List Value} (h : W.ownsRow base e r v n xs) : W.drew.ownsRow base e r v n xs := h
section
variable {w W6 : World} {b0 n gU gV kl kr c1 cl0 cr0 : Nat} {A1 Al Ar : Option Addr} {T s : Int} {U V : Nat → Int} {l cl cr : List Int}
/-- The world in which the results lie. -/
def endW (W6 : World) (b0 n gU gV kl kr c1 cl0 cr0 : Nat) (A1 Al Ar : Option Addr) (T s : Int) : World := (((((((W6.setCell ⟨b0, 0, none⟩ (.slice A1 n c1)).setCell ⟨b0, 1, none⟩ (.int .i64 T)).setCell ⟨b0, 2, none⟩ (.int .i64 s)).setCell ⟨b0 + 1, 0, none⟩ (.slice Al kl cl0)).setCell ⟨b0 + 1, 1, none⟩ (.slice Ar kr cr0)).setCell ⟨b0 + 1, 2, none⟩ (.slice (some ⟨gU, 0, none⟩) n n)).setCell ⟨b0 + 1, 3, none⟩ (.slice (some ⟨gV, 0, none⟩) n n)).drew
theorem endW_below (h : Below b0 w W6) : Below b0 w (endW W6 b0 n gU gV kl kr c1 cl0 cr0 A1 Al Ar T s) := by
  have h1 := h.setCell (p := ⟨b0, 0, none⟩) (Nat.le_refl _) (.slice A1 n c1)
  have h2 := h1.setCell (p := ⟨b0, 1, none⟩) (Nat.le_refl _) (.int .i64 T)
  have h3 := h2.setCell (p := ⟨b0, 2, none⟩) (Nat.le_refl _) (.int .i64 s)
  have h4 := h3.setCell (p := ⟨b0 + 1, 0, none⟩) (Nat.le_succ _) (.slice Al kl cl0)
  have h5 := h4.setCell (p := ⟨b0 + 1, 1, none⟩) (Nat.le_succ _) (.slice Ar kr cr0)
  have h6 := h5.setCell (p := ⟨b0 + 1, 2, none⟩) (Nat.le_succ _) (.slice (some ⟨gU, 0, none⟩) n n)
  have h7 := h6.setCell (p := ⟨b0 + 1, 3, none⟩) (Nat.le_succ _) (.slice (some ⟨gV, 0, none⟩) n n)
  exact Below.drew h7
theorem endW_a (h : Blk W6 b0 #[.slice none 0 0, .int .i64 0, .int .i64 0] 25) : Blk (endW W6 b0 n gU gV kl kr c1 cl0 cr0 A1 Al Ar T s) b0 #[.slice A1 n c1, .int .i64 T, .int .i64 s] 25 := by
  have h1 := h.set (k := 0) (.slice A1 n c1)
  have h2 := h1.set (k := 1) (.int .i64 T)
  have h3 := h2.set (k := 2) (.int .i64 s)
  have h4 := h3.other (a := ⟨b0 + 1, 0, none⟩) (.slice Al kl cl0) (by simp)
  have h5 := h4.other (a := ⟨b0 + 1, 1, none⟩) (.slice Ar kr cr0) (by simp)
  have h6 := h5.other (a := ⟨b0 + 1, 2, none⟩) (.slice (some ⟨gU, 0, none⟩) n n) (by simp)
  have h7 := h6.other (a := ⟨b0 + 1, 3, none⟩) (.slice (some ⟨gV, 0, none⟩) n n) (by simp)
  exact Blk.drew h7
theorem endW_p (h : Blk W6 (b0 + 1) #[.slice none 0 0, .slice none 0 0, .slice none 0 0, .slice none 0 0] 29) : Blk (endW W6 b0 n gU gV kl kr c1 cl0 cr0 A1 Al Ar T s) (b0 + 1) #[.slice Al kl cl0, .slice Ar kr cr0, .slice (some ⟨gU, 0, none⟩) n n, .slice (some ⟨gV, 0, none⟩) n n] 29 := by
  have h1 := h.other (a := ⟨b0, 0, none⟩) (.slice A1 n c1) (by simp)
  have h2 := h1.other (a := ⟨b0, 1, none⟩) (.int .i64 T) (by simp)
  have h3 := h2.other (a := ⟨b0, 2, none⟩) (.int .i64 s) (by simp)
  have h4 := h3.set (k := 0) (.slice Al kl cl0)
  have h5 := h4.set (k := 1) (.slice Ar kr cr0)
  have h6 := h5.set (k := 2) (.slice (some ⟨gU, 0, none⟩) n n)
  have h7 := h6.set (k := 3) (.slice (some ⟨gV, 0, none⟩) n n)
  exact Blk.drew h7
theorem endW_b {g m : Nat} {f : Nat → Int} (hg : b0 + 1 < g) (h : Blk W6 g (arrI m f) 3) : Blk (endW W6 b0 n gU gV kl kr c1 cl0 cr0 A1 Al Ar T s) g (arrI m f) 3 := by
  have e0 : b0 ≠ g := by omega
  have e1 : b0 + 1 ≠ g := by omega
  have h0 := h
  have h1 := h0.other (a := ⟨b0, 0, none⟩) (.slice A1 n c1) e0
  have h2 := h1.other (a := ⟨b0, 1, none⟩) (.int .i64 T) e0
  have h3 := h2.other (a := ⟨b0, 2, none⟩) (.int .i64 s) e0
  have h4 := h3.other (a := ⟨b0 + 1, 0, none⟩) (.slice Al kl cl0) e1
  have h5 := h4.other (a := ⟨b0 + 1, 1, none⟩) (.slice Ar kr cr0) e1
  have h6 := h5.other (a := ⟨b0 + 1, 2, none⟩) (.slice (some ⟨gU, 0, none⟩) n n) e1
  have h7 := h6.other (a := ⟨b0 + 1, 3, none⟩) (.slice (some ⟨gV, 0, none⟩) n n) e1
  exact Blk.drew h7
theorem endW_o {e : TypeId} {q r : Nat} {v : Value} {xs : List Value} (h : W6.ownsRow (b0 + 2) e r v q xs) : (endW W6 b0 n gU gV kl kr c1 cl0 cr0 A1 Al Ar T s).ownsRow (b0 + 2) e r v q xs := by
  have e0 : b0 < b0 + 2 := by omega
  have e1 : b0 + 1 < b0 + 2 := by omega
  have h0 := h
  have h1 := own_set h0 b0 0 (.slice A1 n c1) e0
  have h2 := own_set h1 b0 1 (.int .i64 T) e0
  have h3 := own_set h2 b0 2 (.int .i64 s) e0
  have h4 := own_set h3 (b0 + 1) 0 (.slice Al kl cl0) e1
  have h5 := own_set h4 (b0 + 1) 1 (.slice Ar kr cr0) e1
  have h6 := own_set h5 (b0 + 1) 2 (.slice (some ⟨gU, 0, none⟩) n n) e1
  have h7 := own_set h6 (b0 + 1) 3 (.slice (some ⟨gV, 0, none⟩) n n) e1
  exact own_drawn' h7
theorem endW_r {A : Option Addr} {q c : Nat} {xs : List Int} (h : W6.ownsRow (b0 + 2) 3 1 (.slice A q c) q (xs.map (Value.int .i64))) (hq : q = xs.length) : RowI (endW W6 b0 n gU gV kl kr c1 cl0 cr0 A1 Al Ar T s) A xs := by
  obtain ⟨A', c', e, hr⟩ := RowI.of_own (endW_o (n := n) (gU := gU) (gV := gV) (kl := kl) (kr := kr) (c1 := c1) (cl0 := cl0) (cr0 := cr0) (A1 := A1) (Al := Al) (Ar := Ar) (T := T) (s := s) h) hq
  injection e with e1 _ _
  subst e1
  exact hr
end
set_option maxRecDepth 100000 in
set_option maxHeartbeats 6400000 in
theorem Best_any (A : Option Addr) (n cap : Nat) (G : Nat → List Int) (w : World) (hG : GRow w A n G) (hv : cvd G n = true) : Calls Try.prog 13 #[.slice A n cap] w (BestP G n w) := by
  have hC := cvd_iff.1 hv
  have hn1 := hC.pos
  have hn2 := hC.le
  have C := fun w h => bValid_any A n cap G w (by omega) (fun i hi => by have := hC.len i hi; omega) h
  rw [hv] at C
  have C0 := fun w h => Lib.hid (C w h)
  have C1 := fun w h => Lib.hid (threshold_any A n cap G w h hC)
  have HC := Lib.hid hC
  have HG := Lib.hid hG
  clear C hG hv hC
  go_enter Try.func13, Try.ntmps13
  go_wp2_with (first | (go_at_call 17; refine (C0 _ ((HG.out.alloc _).alloc _)).out.mono ?_; rintro e' w' ⟨rfl, rfl⟩) | (go_at_call 26; refine (C1 _ ((HG.out.alloc _).alloc _)).out.mono ?_; rintro e' w1 ⟨T, rfl, hT, hb1⟩; obtain ⟨g1, rfl⟩ := xt_of_below hb1; have HT := Lib.hid hT; clear hT hb1))
  have hT := HT.out
  have hT01 : 0 ≤ T ∧ T ≤ 17592186044416 := by
    obtain ⟨r, k, hr, hk, e⟩ := hT.is
    have := HC.out.c hr hk; omega
  obtain ⟨hT0, hT1⟩ := hT01
  clear hT
  have hb0 : w.heap.size + 2 + g1.blocks.length = (xt ((w.alloc (.cells #[.slice none 0 0, .int .i64 0, .int .i64 0] 25)).alloc (.cells #[.slice none 0 0, .slice none 0 0, .slice none 0 0, .slice none 0 0] 29)) g1).heap.size := by simp
  obtain ⟨W1, hW1, HB1, HG1, HRa, HRp, HT5, hs1⟩ : ∃ W1, (xt ((w.alloc (.cells #[.slice none 0 0, .int .i64 0, .int .i64 0] 25)).alloc (.cells #[.slice none 0 0, .slice none 0 0, .slice none 0 0, .slice none 0 0] 29)) g1).alloc (.cells #[.int .i64 T] 3) = W1 ∧ Hid (Below w.heap.size w W1) ∧ Hid (GRow W1 A n G) ∧ Hid (Blk W1 w.heap.size #[.slice none 0 0, .int .i64 0, .int .i64 0] 25) ∧ Hid (Blk W1 (w.heap.size + 1) #[.slice none 0 0, .slice none 0 0, .slice none 0 0, .slice none 0 0] 29) ∧ Hid (Blk W1 (w.heap.size + 2 + g1.blocks.length) #[.int .i64 T] 3) ∧ w.heap.size + 2 + g1.blocks.length + 1 = W1.heap.size :=
    ⟨_, rfl, Lib.hid (by repeat' (first | exact Below.refl _ _ | assumption | refine Below.xt ?_ ?_ _ | refine Below.alloc ?_ ?_ _ | refine Below.drew ?_ | refine Below.setCell ?_ ?_ _ | (simp; done) | (simp; omega))), Lib.hid ((((HG.out.alloc _).alloc _).xt _).alloc _), Lib.hid ((((Blk.new _ _ _ rfl).alloc _).xt _).alloc _), Lib.hid (((Blk.new _ _ _ (by simp)).xt _).alloc _), Lib.hid (Blk.new _ _ _ (by simp)), by simp⟩
  rw [hW1]
  obtain ⟨b5, hb5⟩ : ∃ b5, w.heap.size + 2 + g1.blocks.length = b5 := ⟨_, rfl⟩
  have hb5' : w.heap.size + 1 + 1 + g1.blocks.length = b5 := by omega
  have hb5g : w.heap.size + 1 < b5 := by omega
  simp only [hb5'] at *
  clear hW1 hb0 hb5 hb5'
  refine (cheap_any W1 A cap n G T HG1.out HC.out HT.out.pm hT0 hT1).mono ?_
  rintro e' w2 ⟨gC, gU, gV, Cc, U, V, rfl, hb2, hgC, hgU, hgV, hkC, hkU, hkV, hch⟩
  have hs2 := hb2.size
  have HB2 := Lib.hid (HB1.out.trans (hb2.mono HB1.out.size))
  have HG2 := Lib.hid (HG1.out.below hb2)
  have HRa2 := Lib.hid (HRa.out.below hb2 HRa.out.lt)
  have HRp2 := Lib.hid (HRp.out.below hb2 HRp.out.lt)
  have HT2 := Lib.hid (HT5.out.below hb2 HT5.out.lt)
  have HkC := Lib.hid hkC
  have HkU := Lib.hid hkU
  have HkV := Lib.hid hkV
  have hC2 := hkC.lt
  have hU2 := hkU.lt
  have hV2 := hkV.lt
  have HCH := Lib.hid hch
  have hgU' : b5 < gU := by omega
  have hgV' : b5 < gV := by omega
  have CO : Hid (Calls Try.prog 22 #[.slice A n cap, .slice (some ⟨gC, 0, none⟩) n n] w2 (RetAs ((List.range n).map Cc) true (mstC G ((List.range n).map Cc) n) (sumC G ((List.range n).map Cc) n) w2)) := by
    have := of_any A (some ⟨gC, 0, none⟩) n cap n n G ((List.range n).map Cc) w2 HG2.out HC.out (by simp) (by simp; omega) (fun h => nomatch h) (rowI_blk HkC.out (Nat.le_refl n))
    rw [hch.cols] at this
    exact Lib.hid this
  have o2 : old b5 w2 := HT2.out.lt
  have x2 : w2.cell? ⟨b5, 0, none⟩ = some (.int .i64 T) := HT2.out.cell rfl
  clear HB1 HG1 HRa HRp HT5 hkC hkU hkV hch hb2 hgC hgU hgV
  go_wp2_with (go_at_call 22; refine CO.out.mono ?_; rintro e' w3 ⟨v, x, y, rfl, hb3, ho3, hxy⟩; obtain ⟨rfl, rfl⟩ := hxy rfl; obtain ⟨A1, c1, rfl⟩ := own_frm ho3; have HB3 := Lib.hid hb3; have HO3 := Lib.hid ho3; clear hb3 ho3 CO)
  obtain ⟨hm, hpr⟩ := best_prv HC.out HT.out HCH.out
  rw [hm]
  clear hm HCH o2 x2
  obtain ⟨l, hl⟩ : ∃ l, (List.range n).map Cc = l := ⟨_, rfl⟩
  have hll : l.length = n := by rw [← hl]; simp
  rw [hl, hll] at HO3
  rw [hl] at hpr ⊢
  have HLL := Lib.hid hll
  have HPR := Lib.hid hpr
  clear hl hll hpr
  generalize sumC G l n = s at *
  have hcap1 := own_cap HO3.out
  have hb3 := HB3.out
  have hs3 := hb3.size
  have h32 := Below.next' HB2.out HB3.out HB2.out.size
  obtain ⟨W3, hW3, HB4, HG4, HRa4, HRp4, HT4, HA4, HO4, HkU4, HkV4⟩ : ∃ W3, w3.alloc (.cells #[.slice A1 n c1, .int .i64 T, .int .i64 s] 25) = W3 ∧ Hid (Below w.heap.size w W3) ∧ Hid (GRow W3 A n G) ∧ Hid (Blk W3 w.heap.size #[.slice none 0 0, .int .i64 0, .int .i64 0] 25) ∧ Hid (Blk W3 (w.heap.size + 1) #[.slice none 0 0, .slice none 0 0, .slice none 0 0, .slice none 0 0] 29) ∧ Hid (Blk W3 b5 #[.int .i64 T] 3) ∧ Hid (Blk W3 w3.heap.size #[.slice A1 n c1, .int .i64 T, .int .i64 s] 25) ∧ Hid (W3.ownsRow w2.heap.size 3 1 (.slice A1 n c1) n (l.map (Value.int .i64))) ∧ Hid (Blk W3 gU (arrI n U) 3) ∧ Hid (Blk W3 gV (arrI (n + 1) V) 3) :=
    ⟨_, rfl, Lib.hid (h32.alloc h32.size _), Lib.hid ((HG2.out.below hb3).alloc _), Lib.hid ((HRa2.out.below hb3 HRa2.out.lt).alloc _), Lib.hid ((HRp2.out.below hb3 HRp2.out.lt).alloc _), Lib.hid ((HT2.out.below hb3 HT2.out.lt).alloc _), Lib.hid (Blk.new _ _ _ rfl), Lib.hid (HO3.out.alloc _), Lib.hid ((HkU.out.below hb3 hU2).alloc _), Lib.hid ((HkV.out.below hb3 hV2).alloc _)⟩
  rw [hW3]
  obtain ⟨b9, hb9⟩ : ∃ b, w3.heap.size = b := ⟨_, rfl⟩
  rw [hb9] at HA4 hs3 ⊢
  clear hW3 hb9 hb3 h32 HB3 HO3 HB2 HG2 HRa2 HRp2 HT2 HkC HkU HkV
  refine (graphlt A n cap b5 T G W3 hn1 hn2 HC.out.len HG4.out HT4.out.lt (HT4.out.cell rfl)).mono ?_
  rintro e' w4 ⟨A4, c4, rfl, hb4, hr4⟩
  have HB5 := Lib.hid hb4
  have CV := Lib.hid (Cover_own A4 n c4 n _ w4 hr4 (gph_vld G (fun x => decide (x < T)) (show n ≤ 200 by omega)))
  clear hb4 hr4
  go_wp2_with (go_at_call 28; refine CV.out.mono ?_; rintro e' w5 ⟨Al, cl0, Ar, cr0, rfl, hb5, hol, hor⟩; have HB6 := Lib.hid hb5; have HOL := Lib.hid hol; have HOR := Lib.hid hor; clear hb5 hol hor CV)
  have h34 : Below W3.heap.size W3 w5 := HB5.out.trans (HB6.out.mono HB5.out.size)
  have hs5 := h34.size
  have hs4 := HB5.out.size
  have hs4' := HB6.out.size
  have hw3 := HB4.out.size
  have hA9 := HA4.out.lt
  have hRp := HRp4.out.lt
  have hkU := HkU4.out.lt
  have hkV := HkV4.out.lt
  have HOl := HOL
  have HOr := HOR
  clear HOL HOR
  generalize cvL (gph G n fun x => decide (x < T)) n = cl at *
  generalize cvR (gph G n fun x => decide (x < T)) n n = cr at *
  obtain ⟨kl, hkl⟩ : ∃ k, cl.length = k := ⟨_, rfl⟩
  obtain ⟨kr, hkr⟩ : ∃ k, cr.length = k := ⟨_, rfl⟩
  rw [hkl] at HOl ⊢
  rw [hkr] at HOr ⊢
  have HKl := Lib.hid hkl
  have HKr := Lib.hid hkr
  clear hkl hkr
  have h36 := HB4.out.trans (h34.mono hw3)
  obtain ⟨W6, hW6, HB, HRa, HRp, HA, HCv, HO, HkU, HkV, HL, HR⟩ : ∃ W6, w5.alloc (.cells #[.slice Al kl cl0, .slice Ar kr cr0] 27) = W6 ∧ Hid (Below w.heap.size w W6) ∧ Hid (Blk W6 w.heap.size #[.slice none 0 0, .int .i64 0, .int .i64 0] 25) ∧ Hid (Blk W6 (w.heap.size + 1) #[.slice none 0 0, .slice none 0 0, .slice none 0 0, .slice none 0 0] 29) ∧ Hid (Blk W6 b9 #[.slice A1 n c1, .int .i64 T, .int .i64 s] 25) ∧ Hid (Blk W6 w5.heap.size #[.slice Al kl cl0, .slice Ar kr cr0] 27) ∧ Hid (W6.ownsRow (w.heap.size + 2) 3 1 (.slice A1 n c1) n (l.map (Value.int .i64))) ∧ Hid (Blk W6 gU (arrI n U) 3) ∧ Hid (Blk W6 gV (arrI (n + 1) V) 3) ∧ Hid (W6.ownsRow (w.heap.size + 2) 3 1 (.slice Al kl cl0) kl (cl.map (Value.int .i64))) ∧ Hid (W6.ownsRow (w.heap.size + 2) 3 1 (.slice Ar kr cr0) kr (cr.map (Value.int .i64))) :=
    ⟨_, rfl, Lib.hid (h36.alloc h36.size _), Lib.hid ((HRa4.out.below h34 HRa4.out.lt).alloc _), Lib.hid ((HRp4.out.below h34 HRp4.out.lt).alloc _), Lib.hid ((HA4.out.below h34 hA9).alloc _), Lib.hid (Blk.new _ _ _ rfl), Lib.hid ((own_low (own_later HO4.out h34) (by omega)).alloc _), Lib.hid ((HkU4.out.below h34 hkU).alloc _), Lib.hid ((HkV4.out.below h34 hkV).alloc _), Lib.hid ((own_low HOl.out (by omega)).alloc _), Lib.hid ((own_low HOr.out (by omega)).alloc _)⟩
  rw [hW6]
  obtain ⟨bc, hbc⟩ : ∃ b, w5.heap.size = b := ⟨_, rfl⟩
  rw [hbc] at HCv hs5 ⊢
  clear hW6 hbc h36 h34 HB4 HG4 HRa4 HRp4 HT4 HA4 HO4 HkU4 HkV4 HOl HOr HB5 HB6
  obtain ⟨a0, a1, a2, aO, aF0, aF1, aF2⟩ := HA.out.f3
  obtain ⟨r0, r1, r2, rO, rF0, rF1, rF2⟩ := HRa.out.f3
  have p0 : W6.cell? ⟨w.heap.size + 1, 0, none⟩ = some (.slice none 0 0) := HRp.out.cell rfl
  have p1 : W6.cell? ⟨w.heap.size + 1, 1, none⟩ = some (.slice none 0 0) := HRp.out.cell rfl
  have p2 : W6.cell? ⟨w.heap.size + 1, 2, none⟩ = some (.slice none 0 0) := HRp.out.cell rfl
  have p3 : W6.cell? ⟨w.heap.size + 1, 3, none⟩ = some (.slice none 0 0) := HRp.out.cell rfl
  have pF0 : W6.frozen? ⟨w.heap.size + 1, 0, none⟩ = false := HRp.out.frozen
  have pF1 : W6.frozen? ⟨w.heap.size + 1, 1, none⟩ = false := HRp.out.frozen
  have pF2 : W6.frozen? ⟨w.heap.size + 1, 2, none⟩ = false := HRp.out.frozen
  have pF3 : W6.frozen? ⟨w.heap.size + 1, 3, none⟩ = false := HRp.out.frozen
  have pO : old (w.heap.size + 1) W6 := HRp.out.lt
  have c0 : W6.cell? ⟨bc, 0, none⟩ = some (.slice Al kl cl0) := HCv.out.cell rfl
  have c1' : W6.cell? ⟨bc, 1, none⟩ = some (.slice Ar kr cr0) := HCv.out.cell rfl
  have cO : old bc W6 := HCv.out.lt
  have n1 : b9 ≠ w.heap.size := by omega
  have n2 : b9 ≠ w.heap.size + 1 := by omega
  have n3 : bc ≠ w.heap.size := by omega
  have n4 : bc ≠ w.heap.size + 1 := by omega
  have n5 := Ne.symm n1
  have n6 := Ne.symm n2
  have n7 := Ne.symm n3
  have n8 := Ne.symm n4
  go_region
  obtain ⟨W7, hW7⟩ : ∃ W7, endW W6 w.heap.size n gU gV kl kr c1 cl0 cr0 A1 Al Ar T s = W7 := ⟨_, rfl⟩
  have HB7 := Lib.hid (show Below w.heap.size w W7 by rw [← hW7]; exact endW_below HB.out)
  have HRa7 := Lib.hid (show Blk W7 w.heap.size #[.slice A1 n c1, .int .i64 T, .int .i64 s] 25 by rw [← hW7]; exact endW_a HRa.out)
  have HRp7 := Lib.hid (show Blk W7 (w.heap.size + 1) #[.slice Al kl cl0, .slice Ar kr cr0, .slice (some ⟨gU, 0, none⟩) n n, .slice (some ⟨gV, 0, none⟩) n n] 29 by rw [← hW7]; exact endW_p HRp.out)
  have HO7 := Lib.hid (show RowI W7 A1 l by rw [← hW7]; exact endW_r HO.out HLL.out.symm)
  have HL7 := Lib.hid (show RowI W7 Al cl by rw [← hW7]; exact endW_r HL.out HKl.out.symm)
  have HR7 := Lib.hid (show RowI W7 Ar cr by rw [← hW7]; exact endW_r HR.out HKr.out.symm)
  have HU7 := Lib.hid (show RowI W7 (some ⟨gU, 0, none⟩) ((List.range n).map U) by rw [← hW7]; exact rowI_blk (endW_b (by omega) HkU.out) (Nat.le_refl n))
  have HV7 := Lib.hid (show RowI W7 (some ⟨gV, 0, none⟩) ((List.range n).map V) by rw [← hW7]; exact rowI_blk (endW_b (by omega) HkV.out) (Nat.le_succ n))
  unfold endW at hW7
  rw [hW7]
  clear hW7 HB HRa HRp HO HL HR HkU HkV HA HCv a0 a1 a2 aO aF0 aF1 aF2 r0 r1 r2 rO rF0 rF1 rF2 p0 p1 p2 p3 pF0 pF1 pF2 pF3 pO c0 c1' cO
  go_wp2_with fail
  have s0 : W7.cell? ⟨w.heap.size, 0, none⟩ = some (.slice A1 n c1) := HRa7.out.cell rfl
  have s1 : W7.cell? ⟨w.heap.size, 1, none⟩ = some (.int .i64 T) := HRa7.out.cell rfl
  have s2 : W7.cell? ⟨w.heap.size, 2, none⟩ = some (.int .i64 s) := HRa7.out.cell rfl
  have t0 : W7.cell? ⟨w.heap.size + 1, 0, none⟩ = some (.slice Al kl cl0) := HRp7.out.cell rfl
  have t1 : W7.cell? ⟨w.heap.size + 1, 1, none⟩ = some (.slice Ar kr cr0) := HRp7.out.cell rfl
  have t2 : W7.cell? ⟨w.heap.size + 1, 2, none⟩ = some (.slice (some ⟨gU, 0, none⟩) n n) := HRp7.out.cell rfl
  have t3 : W7.cell? ⟨w.heap.size + 1, 3, none⟩ = some (.slice (some ⟨gV, 0, none⟩) n n) := HRp7.out.cell rfl
  refine bodyPost_ret (v := .tuple #[.agg #[.slice A1 n c1, .int .i64 T, .int .i64 s], .agg #[.slice Al kl cl0, .slice Ar kr cr0, .slice (some ⟨gU, 0, none⟩) n n, .slice (some ⟨gV, 0, none⟩) n n], .int .i64 0]) (by simp [results, Try.results13, go_sem, s0, s1, s2, t0, t1, t2, t3]) rfl ?_
  exact ⟨A1, c1, Al, cl0, Ar, cr0, some ⟨gU, 0, none⟩, n, some ⟨gV, 0, none⟩, n, l, T, s, cl, cr, (List.range n).map U, (List.range n).map V, by rw [HLL.out, HKl.out, HKr.out]; simp, by rw [HLL.out]; exact hcap1, HB7.out, HO7.out, HL7.out, HR7.out, HU7.out, HV7.out, HPR.out, HT.out⟩
end Go.Proofs.Ytjiknjcmfiapjaa


/- The walk of LightHolds. Conditions stand in each theorem. -/
import Derived.Test.YtiikejhkhdmgeaaLigH1
namespace Go.Proofs.Ytiikejhkhdmgeaa
open Go.RowKit
set_option linter.unusedVariables false
set_option linter.unusedSimpArgs false
attribute [local go_sem ↓] ldr16 ldr18

theorem news_o {w : World} {ad : Addr} {o : Ov} (h : RowO w (some ad) [o]) : ∀ j u, ([.string o.g, .int .i64 o.p, .int .i64 o.e.kind, .int .i64 o.e.fr, .int .i64 o.e.to, .int .i64 o.e.period, .int .i64 o.e.width, .int .i64 o.e.along.x, .int .i64 o.e.along.y, .int .i64 o.e.along.z, .int .i64 o.e.scale, .int .i64 o.e.seed, .int .u8 o.e.a.r, .int .u8 o.e.a.g, .int .u8 o.e.a.b, .int .u8 o.e.b.r, .int .u8 o.e.b.g, .int .u8 o.e.b.b] : List Value)[j]? = some u → w.cell? (ad.add j) = some u := by
  have e : flatO [o] = ([.string o.g, .int .i64 o.p, .int .i64 o.e.kind, .int .i64 o.e.fr, .int .i64 o.e.to, .int .i64 o.e.period, .int .i64 o.e.width, .int .i64 o.e.along.x, .int .i64 o.e.along.y, .int .i64 o.e.along.z, .int .i64 o.e.scale, .int .i64 o.e.seed, .int .u8 o.e.a.r, .int .u8 o.e.a.g, .int .u8 o.e.a.b, .int .u8 o.e.b.r, .int .u8 o.e.b.g, .int .u8 o.e.b.b] : List Value) := flatO_snoc [] o
  have h1 := row_news (f := fun i => ocell (ov [o] i)) h (by decide)
  have e1 : flat [o].length 18 (fun i => ocell (ov [o] i)) = flatO [o] := rfl
  rw [e1, e] at h1
  exact h1
theorem own_dx {w : World} {g : Gr} {base : Nat} {e : TypeId} {s n : Nat} {v : Value} {xs : List Value} (h : (xt w.drew g).ownsRow base e s v n xs) : (xt w g).ownsRow base e s v n xs := h
theorem row_own {w : World} {B n g c : Nat} {e : TypeId} {l : List Ov} (h : w.ownsRow B e 18 (.slice (some ⟨g, 0, none⟩) n c) n (flatO l)) : RowO w (some ⟨g, 0, none⟩) l :=
  ⟨fun hn => ⟨g, 0, rfl, (h.lt g rfl).2, fun i j hi hj => by
    have h1 := h.cells (g := g) rfl (i * 18 + j) _ (flat_get hi hj)
    have hadd : (⟨g, 0, none⟩ : Addr).add (i * 18 + j) = ⟨g, i * 18 + j, none⟩ := by unfold Addr.add; split <;> simp_all
    rw [hadd] at h1
    rw [show 0 + i * 18 + j = i * 18 + j by omega]
    exact h1⟩⟩
theorem heap_swap {W : World} {x y : Obj} {q : Gr} {k : Nat} (hk : W.heap.size + 1 ≤ k) : (xt (W.alloc y) q).heap[k]? = (xt (W.alloc x) q).heap[k]? := by
  simp only [xt, World.alloc]
  rw [Array.getElem?_append_right (by simp; omega), Array.getElem?_append_right (by simp; omega)]
  simp
theorem own_swap {W : World} {x y : Obj} {q : Gr} {e : TypeId} {s n : Nat} {v : Value} {xs : List Value} (h : (xt (W.alloc x) q).ownsRow (W.heap.size + 1) e s v n xs) : (xt (W.alloc y) q).ownsRow (W.heap.size + 1) e s v n xs := by
  refine ⟨h.1, ?_⟩
  rcases h.2 with h' | ⟨gb, cap, cur, hv, hbb, hg, hrest⟩
  · exact .inl h'
  · exact .inr ⟨gb, cap, cur, hv, hbb, (heap_swap hbb).trans hg, hrest⟩
theorem below_to_alloc {w w' : World} {o : Obj} (h : Below (w.heap.size + 1) (w.alloc o) w') : Below (w.alloc o).heap.size (w.alloc o) w' := by
  simpa using h
theorem rowO_one {w : World} {t : TypeId} {m : Nat} {o : Ov} (hm : m = w.heap.size) : RowO (w.alloc (.cells #[.string o.g, .int .i64 o.p, .int .i64 o.e.kind, .int .i64 o.e.fr, .int .i64 o.e.to, .int .i64 o.e.period, .int .i64 o.e.width, .int .i64 o.e.along.x, .int .i64 o.e.along.y, .int .i64 o.e.along.z, .int .i64 o.e.scale, .int .i64 o.e.seed, .int .u8 o.e.a.r, .int .u8 o.e.a.g, .int .u8 o.e.a.b, .int .u8 o.e.b.r, .int .u8 o.e.b.g, .int .u8 o.e.b.b] t)) (some ⟨m, 0, none⟩) [o] :=
  Row.made hm fun i j hi hj => by
    have : i = 0 := by simp at hi; omega
    subst i
    have : j = 0 ∨ j = 1 ∨ j = 2 ∨ j = 3 ∨ j = 4 ∨ j = 5 ∨ j = 6 ∨ j = 7 ∨ j = 8 ∨ j = 9 ∨ j = 10 ∨ j = 11 ∨ j = 12 ∨ j = 13 ∨ j = 14 ∨ j = 15 ∨ j = 16 ∨ j = 17 := by omega
    rcases this with rfl | rfl | rfl | rfl | rfl | rfl | rfl | rfl | rfl | rfl | rfl | rfl | rfl | rfl | rfl | rfl | rfl | rfl <;> rfl
/-- The box of the lights with an overlay more, in block m. -/
def MoreRel (Wb : World) (A1 : Option Addr) (n1 c1 : Nat) (A2 : Option Addr) (n2 c2 n : Nat) (l : List Ov) (m : Nat) (wx : World) : Prop :=
  ∃ A4 c4, Below Wb.heap.size Wb wx ∧ RowO wx A4 l ∧ wx.cell? ⟨m, 0, none⟩ = some (.slice A1 n1 c1) ∧ wx.cell? ⟨m, 1, none⟩ = some (.slice A2 n2 c2) ∧ wx.cell? ⟨m, 2, none⟩ = some (.slice A4 n c4)
theorem more_mk {w Wb : World} {A1 A2 A3 : Option Addr} {n1 n2 n3 c1 c2 c3 n c gg : Nat} {l : List Ov} {o : Ov} {q : Gr} {t : TypeId} (hbb : Below w.heap.size w Wb)
    (h : (xt (Wb.alloc (.cells #[.slice A1 n1 c1, .slice A2 n2 c2, .slice A3 n3 c3] t)) q).ownsRow (Wb.heap.size + 1) 55 18 (.slice (some ⟨gg, 0, none⟩) n c) n (flatO l ++ ([.string o.g, .int .i64 o.p, .int .i64 o.e.kind, .int .i64 o.e.fr, .int .i64 o.e.to, .int .i64 o.e.period, .int .i64 o.e.width, .int .i64 o.e.along.x, .int .i64 o.e.along.y, .int .i64 o.e.along.z, .int .i64 o.e.scale, .int .i64 o.e.seed, .int .u8 o.e.a.r, .int .u8 o.e.a.g, .int .u8 o.e.a.b, .int .u8 o.e.b.r, .int .u8 o.e.b.g, .int .u8 o.e.b.b] : List Value))) :
    MoreRel Wb A1 n1 c1 A2 n2 c2 n (l ++ [o]) Wb.heap.size (xt (Wb.alloc (.cells #[.slice A1 n1 c1, .slice A2 n2 c2, .slice (some ⟨gg, 0, none⟩) n c] t)) q) := by
  rw [← flatO_snoc] at h
  exact ⟨some ⟨gg, 0, none⟩, c, (by repeat' (first | exact Below.refl _ _ | assumption | refine Below.xt ?_ ?_ _ | refine Below.alloc ?_ ?_ _ | refine Below.drew ?_ | refine Below.setCell ?_ ?_ _ | (simp; done) | (simp; omega))), row_own (own_swap h), by go_simp, by go_simp, by go_simp⟩

/-- The boxes of the arguments and of the colour. -/
structure Boxes (w : World) (A1 A2 A3 : Option Addr) (c1 c2 c3 : Nat) (L : Li) (p : V3) (o : Ov) (C : Col) (mc : Nat) (Wb : World) : Prop where
  b : Below w.heap.size w Wb
  o0 : old w.heap.size Wb
  o1 : old (w.heap.size + 1) Wb
  o2 : old (w.heap.size + 1 + 1) Wb
  oc : old mc Wb
  l0 : Wb.cell? ⟨w.heap.size, 0, none⟩ = some (.slice A1 L.nG c1)
  l1 : Wb.cell? ⟨w.heap.size, 1, none⟩ = some (.slice A2 L.cs.length c2)
  l2 : Wb.cell? ⟨w.heap.size, 2, none⟩ = some (.slice A3 L.os.length c3)
  p0 : Wb.cell? ⟨w.heap.size + 1, 0, none⟩ = some (.int .i64 p.x)
  p1 : Wb.cell? ⟨w.heap.size + 1, 1, none⟩ = some (.int .i64 p.y)
  p2 : Wb.cell? ⟨w.heap.size + 1, 2, none⟩ = some (.int .i64 p.z)
  g0 : Wb.cell? ⟨w.heap.size + 1 + 1, 0, none⟩ = some (.string o.g)
  g1 : Wb.cell? ⟨w.heap.size + 1 + 1, 1, none⟩ = some (.int .i64 o.p)
  gr : row? Wb (w.heap.size + 1 + 1) 0 18 = some [.string o.g, .int .i64 o.p, .int .i64 o.e.kind, .int .i64 o.e.fr, .int .i64 o.e.to, .int .i64 o.e.period, .int .i64 o.e.width, .int .i64 o.e.along.x, .int .i64 o.e.along.y, .int .i64 o.e.along.z, .int .i64 o.e.scale, .int .i64 o.e.seed, .int .u8 o.e.a.r, .int .u8 o.e.a.g, .int .u8 o.e.a.b, .int .u8 o.e.b.r, .int .u8 o.e.b.g, .int .u8 o.e.b.b]
  k0 : Wb.cell? ⟨mc, 0, none⟩ = some (.int .u8 C.r)
  k1 : Wb.cell? ⟨mc, 1, none⟩ = some (.int .u8 C.g)
  k2 : Wb.cell? ⟨mc, 2, none⟩ = some (.int .u8 C.b)
theorem Boxes.later {w : World} {A1 A2 A3 : Option Addr} {c1 c2 c3 : Nat} {L : Li} {p : V3} {o : Ov} {C : Col} {mc : Nat} {Wb Wc : World} (h : Boxes w A1 A2 A3 c1 c2 c3 L p o C mc Wb) (hb : Below Wb.heap.size Wb Wc) : Boxes w A1 A2 A3 c1 c2 c3 L p o C mc Wc := by
  obtain ⟨hbb, o0, o1, o2, oc, l0, l1, l2, p0, p1, p2, x0, x1, xr, k0, k1, k2⟩ := h
  have hsz := hbb.size
  obtain ⟨q, rfl⟩ := xt_of_below hb
  exact ⟨(by repeat' (first | exact Below.refl _ _ | assumption | refine Below.xt ?_ ?_ _ | refine Below.alloc ?_ ?_ _ | refine Below.drew ?_ | refine Below.setCell ?_ ?_ _ | (simp; done) | (simp; omega))), by go_simp, by go_simp, by go_simp, by go_simp, by go_simp, by go_simp, by go_simp, by go_simp, by go_simp, by go_simp, by go_simp, by go_simp, by go_simp, by go_simp, by go_simp, by go_simp⟩
theorem seen_zero (g : List ByteArray) (x : ByteArray) : seenS g 0 x = false := by
  rw [Bool.eq_false_iff]; intro h; obtain ⟨j, hj, _⟩ := seenS_iff.1 h; omega
set_option maxRecDepth 100000 in
set_option maxHeartbeats 12800000 in
theorem LH_main (A1 A2 A3 : Option Addr) (c1 c2 c3 a : Nat) (L : Li) (p : V3) (t : Int) (o : Ov) (w : World) (h : LightsOk w A1 A2 A3 L.nG L.cs.length L.os.length c1 c2 c3 L) (hF : FineL L) (ho : OvOk o) (hg : o.g.size ≤ 100) (h0 : fineE L (a : Nat) t = 0) (hp : point p = true) :
    Calls Try.prog 7 #[.agg #[.slice A1 L.nG c1, .slice A2 L.cs.length c2, .slice A3 L.os.length c3], .int .i64 (a : Nat), .agg #[.int .i64 p.x, .int .i64 p.y, .int .i64 p.z], .int .i64 t, .agg #[.string o.g, .int .i64 o.p, .int .i64 o.e.kind, .int .i64 o.e.fr, .int .i64 o.e.to, .int .i64 o.e.period, .int .i64 o.e.width, .int .i64 o.e.along.x, .int .i64 o.e.along.y, .int .i64 o.e.along.z, .int .i64 o.e.scale, .int .i64 o.e.seed, .int .u8 o.e.a.r, .int .u8 o.e.a.g, .int .u8 o.e.a.b, .int .u8 o.e.b.r, .int .u8 o.e.b.g, .int .u8 o.e.b.b]] w (RetB (.bool true) w) := by
  have HR := Lib.hid h.r
  have HRO := Lib.hid h.r.o
  have SM := fun w hr => Lib.hid (h.small w hr)
  obtain ⟨hv, ⟨_, ha⟩, ht0, ht1⟩ := fine_zero.1 h0
  have ha : a < L.nG := by omega
  obtain ⟨q1, q2, q3, q4, q5⟩ := liB_iff.1 hv
  have KF := fun w h => Lib.hid (rFine_any A1 A2 A3 c1 c2 c3 L (a : Nat) t w hF h)
  rw [h0] at KF
  have KP := fun w => Lib.hid (refPoint_any p w)
  rw [hp] at KP
  have ha' : ((a : Nat) : Int).toNat = a := by omega
  have eA : atE L (a : Nat) p t = 0 := by rw [atE, if_pos hp, h0]
  have eC : atC L (a : Nat) p t = colC L a p t := by rw [atC, if_pos eA]
  have eW : whE L (a : Nat) t = wh L.os (L.G a) t L.os.length := by rw [whE, if_pos h0, ha']
  have K1 := fun w h => Lib.hid (lAt_any A1 A2 A3 c1 c2 c3 L (a : Nat) p t w hF h)
  rw [eA, eC] at K1
  have K2 := fun w h => Lib.hid (lWhich_any A1 A2 A3 c1 c2 c3 L (a : Nat) t w hF h)
  rw [eW, h0] at K2
  have hb := wh_bd L.os (L.G a) t L.os.length
  have HM := Lib.hid (fun h => wh_more (L := L) (o := o) (g := L.G a) (t := t) h)
  have HC := Lib.hid (fun h => col_more (L := L) (o := o) (a := a) (p := p) (t := t) h)
  have HF := Lib.hid hF
  have HVv := Lib.hid hv
  have H0 := Lib.hid h0
  have HP := Lib.hid hp
  have HOo := Lib.hid ho
  have HX := Lib.hid (chg_ok hv ha ht0)
  have n1 := hF.n
  have n2 := hF.cn
  have n4 := (hF.gs a ha).1
  clear h h0 hv q1 q2 q4 q5 eA eC eW hp ho hF
  obtain ⟨C, hC⟩ : ∃ C, colC L a p t = C := ⟨_, rfl⟩
  rw [hC] at K1
  have HCc := Lib.hid hC
  obtain ⟨W, hW⟩ : ∃ W, wh L.os (L.G a) t L.os.length = W := ⟨_, rfl⟩
  rw [hW] at K2 hb
  have HWw := Lib.hid hW
  clear hC hW
  go_enter Try.func7, Try.ntmps7
  go_wp2_with fail
  refine (SM _ (by repeat (first | (with_reducible exact HR.out) | (with_reducible refine RowL.alloc ?_ _) | (with_reducible refine RowL.drew ?_) | (with_reducible refine RowL.xt ?_ _)))).out.mono ?_
  rintro e' w' ⟨v, rfl, hb9, hv9⟩
  obtain ⟨g, rfl⟩ := xt_of_below hb9
  clear hb9 SM hv9
  cases v
  · skip
    go_wp2_with (first
      | (go_at_call 9; refine (RetB.grown (known_any _)).mono ?_; rintro e' w' ⟨rfl, g, rfl⟩)
      | (refine wp_region_xt (by kernel_rfl) (by kernel_rfl) ?_; (repeat (go_big_quiet_step (first | (go_at_call 9; exact RetB.quiet (known_any _))))); refine wpQuiet_nil ?_; intro g))
    go_ret
    exact RetB.of rfl (by repeat' (first | exact Below.refl _ _ | assumption | refine Below.xt ?_ ?_ _ | refine Below.alloc ?_ ?_ _ | refine Below.drew ?_ | refine Below.setCell ?_ ?_ _ | (simp; done) | (simp; omega)))
  go_wp2_with fail
  refine (RetB.grown (KF _ (by repeat (first | (with_reducible exact HR.out) | (with_reducible refine RowL.alloc ?_ _) | (with_reducible refine RowL.drew ?_) | (with_reducible refine RowL.xt ?_ _)))).out).mono ?_
  rintro e' w' ⟨rfl, g1, rfl⟩
  go_wp2_with fail
  refine (RetB.grown (KP _).out).mono ?_
  rintro e' w' ⟨rfl, g2, rfl⟩
  go_wp2_with fail
  refine (RetB.grown (K1 _ (by repeat (first | (with_reducible exact HR.out) | (with_reducible refine RowL.alloc ?_ _) | (with_reducible refine RowL.drew ?_) | (with_reducible refine RowL.xt ?_ _)))).out).mono ?_
  rintro e' w' ⟨rfl, g3, rfl⟩
  go_wp2_with fail
  refine (RetB.grown (K2 _ (by repeat (first | (with_reducible exact HR.out) | (with_reducible refine RowL.alloc ?_ _) | (with_reducible refine RowL.drew ?_) | (with_reducible refine RowL.xt ?_ _)))).out).mono ?_
  rintro e' w' ⟨rfl, g4, rfl⟩
  clear KF KP K1 K2
  go_wp2_with fail
  have HBX : Boxes w A1 A2 A3 c1 c2 c3 L p o C (w.heap.size + 1 + 1 + 1 + g.blocks.length + g1.blocks.length + g2.blocks.length + g3.blocks.length) (xt ((xt (xt (xt (xt (((w.alloc (.cells #[.slice A1 L.nG c1, .slice A2 L.cs.length c2, .slice A3 L.os.length c3] 26)).alloc (.cells #[.int .i64 p.x, .int .i64 p.y, .int .i64 p.z] 30)).alloc (.cells #[.string o.g, .int .i64 o.p, .int .i64 o.e.kind, .int .i64 o.e.fr, .int .i64 o.e.to, .int .i64 o.e.period, .int .i64 o.e.width, .int .i64 o.e.along.x, .int .i64 o.e.along.y, .int .i64 o.e.along.z, .int .i64 o.e.scale, .int .i64 o.e.seed, .int .u8 o.e.a.r, .int .u8 o.e.a.g, .int .u8 o.e.a.b, .int .u8 o.e.b.r, .int .u8 o.e.b.g, .int .u8 o.e.b.b] 55)) g) g1) g2) g3).alloc (.cells #[.int .u8 C.r, .int .u8 C.g, .int .u8 C.b] 32)) g4) := ⟨(by repeat' (first | exact Below.refl _ _ | assumption | refine Below.xt ?_ ?_ _ | refine Below.alloc ?_ ?_ _ | refine Below.drew ?_ | refine Below.setCell ?_ ?_ _ | (simp; done) | (simp; omega))), by go_simp, by go_simp, by go_simp, by go_simp, by go_simp, by go_simp, by go_simp, by go_simp, by go_simp, by go_simp, by go_simp, by go_simp, by go_simp, by go_simp, by go_simp, by go_simp⟩
  obtain ⟨Wb, hWb⟩ : ∃ x, (xt ((xt (xt (xt (xt (((w.alloc (.cells #[.slice A1 L.nG c1, .slice A2 L.cs.length c2, .slice A3 L.os.length c3] 26)).alloc (.cells #[.int .i64 p.x, .int .i64 p.y, .int .i64 p.z] 30)).alloc (.cells #[.string o.g, .int .i64 o.p, .int .i64 o.e.kind, .int .i64 o.e.fr, .int .i64 o.e.to, .int .i64 o.e.period, .int .i64 o.e.width, .int .i64 o.e.along.x, .int .i64 o.e.along.y, .int .i64 o.e.along.z, .int .i64 o.e.scale, .int .i64 o.e.seed, .int .u8 o.e.a.r, .int .u8 o.e.a.g, .int .u8 o.e.a.b, .int .u8 o.e.b.r, .int .u8 o.e.b.g, .int .u8 o.e.b.b] 55)) g) g1) g2) g3).alloc (.cells #[.int .u8 C.r, .int .u8 C.g, .int .u8 C.b] 32)) g4) = x := ⟨_, rfl⟩
  have hs : (w.heap.size + 1 + 1 + 1 + g.blocks.length + g1.blocks.length + g2.blocks.length + g3.blocks.length) + 1 + g4.blocks.length = Wb.heap.size := by rw [← hWb]; simp
  rw [hWb] at HBX
  rw [hWb, hs]
  generalize (w.heap.size + 1 + 1 + 1 + g.blocks.length + g1.blocks.length + g2.blocks.length + g3.blocks.length) = mc at *
  clear hs hWb
  obtain ⟨i0, hi0, hz0, hz1, hz2⟩ := info_parts infoOv
  have n3 := HF.out.on
  go_upto_region 8 with fail
  go_cut [] from 82 to 88 (fun wx => MoreRel Wb A1 L.nG c1 A2 L.cs.length c2 (L.os.length + 1) (L.os ++ [o]) Wb.heap.size wx)
  case first =>
    obtain ⟨hbb, o0, o1, o2, oc, l0, l1, l2, p0, p1, p2, x0, x1, xr, k0, k1, k2⟩ := HBX
    have HRB := Lib.hid (RowO.below HRO.out hbb)
    have HRO := HRB
    go_region_held3 (fun w' => old w.heap.size w' ∧ old (w.heap.size + 1 + 1) w' ∧ w'.cell? ⟨w.heap.size, 2, none⟩ = some (.slice A3 L.os.length c3) ∧ row? w' (w.heap.size + 1 + 1) 0 18 = some [.string o.g, .int .i64 o.p, .int .i64 o.e.kind, .int .i64 o.e.fr, .int .i64 o.e.to, .int .i64 o.e.period, .int .i64 o.e.width, .int .i64 o.e.along.x, .int .i64 o.e.along.y, .int .i64 o.e.along.z, .int .i64 o.e.scale, .int .i64 o.e.seed, .int .u8 o.e.a.r, .int .u8 o.e.a.g, .int .u8 o.e.a.b, .int .u8 o.e.b.r, .int .u8 o.e.b.g, .int .u8 o.e.b.b]) (go_simp)
      (first | (with_reducible refine step_copyO rfl _ _ rfl (Wb.heap.size + 1) (by (first | omega | (simp; done) | (simp; omega))) A3 L.os.length c3 L.os rfl rfl rfl (by omega) (by repeat (first | (with_reducible exact HRO.out) | (with_reducible refine RowO.alloc ?_ _) | (with_reducible refine RowO.drew ?_) | (with_reducible refine RowO.xt ?_ _))) ?_; intro A' c' w1 hO1 hb1; obtain ⟨g5, rfl⟩ := xt_of_below hb1; have HO1 := Lib.hid hO1; clear hO1 hb1) | (with_reducible refine step_append_lies _ rfl _ _ 24 rfl (Wb.heap.size + 1) 55 i0 _ 18 112 Try.underlying24 hi0 hz0 hz1 hz2 rfl (by decide) (.slice A' L.os.length c') L.os.length (flatO L.os) rfl (by repeat (first | (with_reducible exact HO1.out) | (with_reducible exact own_dx HO1.out) | (with_reducible refine World.ownsRow.alloc ?_ _) | (with_reducible refine own_drew ?_) | (with_reducible refine own_xt ?_ _))) _ 1 1 [.string o.g, .int .i64 o.p, .int .i64 o.e.kind, .int .i64 o.e.fr, .int .i64 o.e.to, .int .i64 o.e.period, .int .i64 o.e.width, .int .i64 o.e.along.x, .int .i64 o.e.along.y, .int .i64 o.e.along.z, .int .i64 o.e.scale, .int .i64 o.e.seed, .int .u8 o.e.a.r, .int .u8 o.e.a.g, .int .u8 o.e.a.b, .int .u8 o.e.b.r, .int .u8 o.e.b.g, .int .u8 o.e.b.b] rfl rfl (news_o (by repeat (first | (with_reducible exact rowO_one (by simp)) | (with_reducible refine RowO.alloc ?_ _) | (with_reducible refine RowO.drew ?_) | (with_reducible refine RowO.xt ?_ _)))) (one_o o) (by decide) (by unfold maxLen; omega) (by omega) (by (first | omega | (simp; done) | (simp; omega))) _ rfl ?_; intro gg cap w3 hown hgrow hat hlt; have hb3 : Below (Wb.heap.size + 1) (Wb.alloc (.cells #[.slice A1 L.nG c1, .slice A2 L.cs.length c2, .slice A3 L.os.length c3] 26)) w3 := Below.grown (by repeat' (first | exact Below.refl _ _ | assumption | refine Below.xt ?_ ?_ _ | refine Below.alloc ?_ ?_ _ | refine Below.drew ?_ | refine Below.setCell ?_ ?_ _ | (simp; done) | (simp; omega))) hgrow (by (first | omega | (simp; done) | (simp; omega))) (fun k e => (HO1.out.lt k e).1); have hb3 := below_to_alloc hb3; obtain ⟨g6, rfl⟩ := xt_of_below hb3; have HO3 := Lib.hid hown; clear hown hgrow hat hlt hb3) | fail)
    all_goals (go_wp2_with fail)
    all_goals (go_meet)
    all_goals (exact more_mk hbb HO3.out)
  case rest =>
    obtain ⟨A4, c4, hb4, hr4, m0, m1, m2⟩ := hcut
    have HBC := HBX.later hb4
    have o3 := old_of_cell m0
    have HR1 := Lib.hid (HR.out.below HBC.b)
    have HRm := Lib.hid (show RowL wc A1 A2 A4 (more L o) from ⟨HR1.out.g, HR1.out.u, hr4⟩)
    obtain ⟨hbw, o0, o1, o2, oc, l0, l1, l2, p0, p1, p2, x0, x1, xr, k0, k1, k2⟩ := HBC
    have hsz := hbw.size
    clear HR HRO HBX hb4 hr4
    have HR := HR1
    clear HR1
    generalize Wb.heap.size = m3 at *
    have HFm := fine_moreL HF.out HOo.out (by omega)
    have e1 : (more L o).nG = L.nG := rfl
    have e2 : (more L o).cs.length = L.cs.length := rfl
    have e3 : (more L o).os.length = L.os.length + 1 := by simp [more]
    have KV := fun w h => Lib.hid (rlValid_any A1 A2 A4 c1 c2 c4 (more L o) w HFm h)
    have KA := fun w h => Lib.hid (lAt_any A1 A2 A4 c1 c2 c4 (more L o) (a : Nat) p t w HFm h)
    have KW := fun w h => Lib.hid (lWhich_any A1 A2 A4 c1 c2 c4 (more L o) (a : Nat) t w HFm h)
    rw [e1, e2, e3] at KV KA KW
    clear e1 e2 e3 HFm
    obtain ⟨v, hv⟩ : ∃ v, liB (more L o) = v := ⟨_, rfl⟩
    have HVm := Lib.hid hv
    rw [hv] at KV
    clear hv hi0 hz0 hz1 hz2
    go_wp2_with fail
    refine (RetB.grown (KV _ (by repeat (first | (with_reducible exact HRm.out) | (with_reducible refine RowL.alloc ?_ _) | (with_reducible refine RowL.drew ?_) | (with_reducible refine RowL.xt ?_ _)))).out).mono ?_
    rintro e' w' ⟨rfl, g8, rfl⟩
    clear KV
    go_upto_if 90 with fail
    go_cut [16, 17, 18, 19, 20, 21] from 27 to 162 (fun s16 s17 s18 s19 s20 s21 wx => ∃ g, wx = xt wc g)
    case first =>
      cases v
      · go_wp2_with fail
        go_meet
        exact ⟨_, rfl⟩
      · have HV1 : Hid (liB (more L o) = true) := HVm
        have h01 := fine_more H0.out HV1.out
        have hp1 := HP.out
        have ha1 : ((a : Nat) : Int).toNat = a := by omega
        have eA : atE (more L o) (a : Nat) p t = 0 := by rw [atE, if_pos hp1, h01]
        have eC : atC (more L o) (a : Nat) p t = colC (more L o) a p t := by rw [atC, if_pos eA]
        have eW : whE (more L o) (a : Nat) t = wh (more L o).os (L.G a) t (more L o).os.length := by rw [whE, if_pos h01, ha1]; rfl
        rw [eA, eC] at KA
        rw [eW, h01] at KW
        have HC0 := HC.out
        have HM0 := HM.out
        rw [HWw.out] at HC0 HM0
        rw [HCc.out] at HC0
        have HC2 := Lib.hid HC0
        have HM2 := Lib.hid HM0
        clear HC0 HM0 eA eC eW h01 hp1 ha1 HM HC HVm HV1 HCc HWw HX H0 HP
        obtain ⟨C', hC'⟩ : ∃ C', colC (more L o) a p t = C' := ⟨_, rfl⟩
        obtain ⟨W', hW'⟩ : ∃ W', wh (more L o).os (L.G a) t (more L o).os.length = W' := ⟨_, rfl⟩
        rw [hC'] at KA HC2
        rw [hW'] at KW HM2
        clear hC' hW'
        obtain ⟨bG, oG, rfl, hbG, hcG⟩ := HR.out.g.top (by omega)
        obtain ⟨Ai, ci, y0, hrow⟩ := hcG a ha
        have HROW := Lib.hid hrow
        clear hcG hrow
        go_wp2_with fail
        go_loopw [16, 17] (fun u16 u17 wr => ∃ (k : Nat) (g : Gr), k ≤ (L.G a).length ∧ u16 = .bool (seenS (L.G a) k o.g) ∧ u17 = .int .i64 k ∧ wr = xt wc g) (fun _ u17 _ => (L.G a).length - (intOf u17).toNat)
        case atStart => exact ⟨0, g8, by omega, congrArg Value.bool (seen_zero _ _).symm, rfl, rfl⟩
        case round =>
          clear g8
          obtain ⟨k, g8, hk, rfl, rfl, rfl⟩ := hrel
          by_cases hlt : k < (L.G a).length
          · obtain ⟨bi, oi, rfl, hbi, hci⟩ := RowN.at_ HROW.out (by omega)
            have y1 := hci k hlt
            clear hci
            have HS := Lib.hid (congrFun (seenS_succ (L.G a) k) o.g)
            obtain ⟨s, hs⟩ : ∃ s, seenS (L.G a) k o.g = s := ⟨_, rfl⟩
            rw [hs] at HS
            rw [hs]
            clear hs
            generalize nm (L.G a) k = x at *
            cases s
            · obtain ⟨q, hq⟩ : ∃ q, decide (x = o.g) = q := ⟨_, rfl⟩
              have e1 : (x.toList == o.g.toList) = q := by rw [beq_str]; simpa using hq
              have HS' := Lib.hid (show seenS (L.G a) (k + 1) o.g = q by rw [HS.out, ← hq, Bool.or_false]; exact decide_eq_decide.2 eq_comm)
              clear HS hq
              go_wp2_with (first
                | (refine wp_region_xt (by kernel_rfl) (by kernel_rfl) ?_; (repeat (go_big_quiet_step (first | fail))); refine wpQuiet_nil ?_; intro g))
              go_roundw
              case rel => exact ⟨k + 1, _, by omega, congrArg Value.bool HS'.out.symm, by go_num, (Classical.choose_spec (xt_of_below (by repeat' (first | exact Below.refl _ _ | assumption | refine Below.xt ?_ ?_ _ | refine Below.alloc ?_ ?_ _ | refine Below.drew ?_ | refine Below.setCell ?_ ?_ _ | (simp; done) | (simp; omega)))))⟩
              case measure => simp [intOf]; omega
            · have HS' := Lib.hid (show seenS (L.G a) (k + 1) o.g = true by rw [HS.out, Bool.or_true])
              clear HS
              go_wp2_with (first
                | (refine wp_region_xt (by kernel_rfl) (by kernel_rfl) ?_; (repeat (go_big_quiet_step (first | fail))); refine wpQuiet_nil ?_; intro g))
              go_roundw
              case rel => exact ⟨k + 1, _, by omega, congrArg Value.bool HS'.out.symm, by go_num, (Classical.choose_spec (xt_of_below (by repeat' (first | exact Below.refl _ _ | assumption | refine Below.xt ?_ ?_ _ | refine Below.alloc ?_ ?_ _ | refine Below.drew ?_ | refine Below.setCell ?_ ?_ _ | (simp; done) | (simp; omega)))))⟩
              case measure => simp [intOf]; omega
          · have HS := Lib.hid (show seenS (L.G a) k o.g = memB (L.G a) o.g by rw [show k = (L.G a).length by omega]; rfl)
            obtain ⟨m, hm⟩ : ∃ m, memB (L.G a) o.g = m := ⟨_, rfl⟩
            rw [hm] at HC2 HM2 HS
            have hs := HS.out
            rw [hs]
            clear hm hs HS HROW
            cases m
            · skip
              have eC := HC2.out (.inl rfl)
              have eW := HM2.out (.inl rfl)
              clear HC2 HM2
              obtain rfl := eC
              obtain rfl := eW
              go_wp2_with (first
                | (refine wp_region_xt (by kernel_rfl) (by kernel_rfl) ?_; (repeat (go_big_quiet_step (first | fail))); refine wpQuiet_nil ?_; intro g))
              refine (RetB.grown (KA _ (by repeat (first | (with_reducible exact HRm.out) | (with_reducible refine RowL.alloc ?_ _) | (with_reducible refine RowL.drew ?_) | (with_reducible refine RowL.xt ?_ _)))).out).mono ?_
              rintro e' w' ⟨rfl, g10, rfl⟩
              go_wp2_with fail
              refine (RetB.grown (KW _ (by repeat (first | (with_reducible exact HRm.out) | (with_reducible refine RowL.alloc ?_ _) | (with_reducible refine RowL.drew ?_) | (with_reducible refine RowL.xt ?_ _)))).out).mono ?_
              rintro e' w' ⟨rfl, g11, rfl⟩
              go_wp2_with (first
                | (refine wp_region_xt (by kernel_rfl) (by kernel_rfl) ?_; (repeat (go_big_quiet_step (first | fail))); refine wpQuiet_nil ?_; intro g))
              go_meet
              exact ⟨_, (Classical.choose_spec (xt_of_below (by repeat' (first | exact Below.refl _ _ | assumption | refine Below.xt ?_ ?_ _ | refine Below.alloc ?_ ?_ _ | refine Below.drew ?_ | refine Below.setCell ?_ ?_ _ | (simp; done) | (simp; omega)))))⟩
            · rcases Int.lt_or_le W 0 with h | h
              · have dW : decide (0 ≤ W) = false := by simp; omega
                clear HC2 HM2
                go_wp2_with (first
                  | (refine wp_region_xt (by kernel_rfl) (by kernel_rfl) ?_; (repeat (go_big_quiet_step (first | fail))); refine wpQuiet_nil ?_; intro g))
                go_meet
                exact ⟨_, (Classical.choose_spec (xt_of_below (by repeat' (first | exact Below.refl _ _ | assumption | refine Below.xt ?_ ?_ _ | refine Below.alloc ?_ ?_ _ | refine Below.drew ?_ | refine Below.setCell ?_ ?_ _ | (simp; done) | (simp; omega)))))⟩
              · obtain ⟨n, rfl⟩ := Int.eq_ofNat_of_zero_le h
                have hn : n < L.os.length := by omega
                obtain ⟨b', o', rfl, hb', hc'⟩ := Row.at_ HR.out.o (by omega)
                have z1 : wc.cell? ⟨b', o' + n * 18 + 1, none⟩ = some (.int .i64 (ov L.os n).p) := hc' n 1 hn (by omega)
                clear hc'
                have en : ((n : Nat) : Int).toNat = n := by omega
                rw [en] at HC2 HM2
                clear en
                generalize (ov L.os n).p = pp at *
                by_cases hpp : o.p < pp
                · skip
                  have eC := HC2.out (.inr ⟨by omega, hpp⟩)
                  have eW := HM2.out (.inr ⟨by omega, hpp⟩)
                  clear HC2 HM2
                  obtain rfl := eC
                  obtain rfl := eW
                  go_wp2_with (first
                    | (refine wp_region_xt (by kernel_rfl) (by kernel_rfl) ?_; (repeat (go_big_quiet_step (first | fail))); refine wpQuiet_nil ?_; intro g))
                  refine (RetB.grown (KA _ (by repeat (first | (with_reducible exact HRm.out) | (with_reducible refine RowL.alloc ?_ _) | (with_reducible refine RowL.drew ?_) | (with_reducible refine RowL.xt ?_ _)))).out).mono ?_
                  rintro e' w' ⟨rfl, g10, rfl⟩
                  go_wp2_with fail
                  refine (RetB.grown (KW _ (by repeat (first | (with_reducible exact HRm.out) | (with_reducible refine RowL.alloc ?_ _) | (with_reducible refine RowL.drew ?_) | (with_reducible refine RowL.xt ?_ _)))).out).mono ?_
                  rintro e' w' ⟨rfl, g11, rfl⟩
                  go_wp2_with (first
                    | (refine wp_region_xt (by kernel_rfl) (by kernel_rfl) ?_; (repeat (go_big_quiet_step (first | fail))); refine wpQuiet_nil ?_; intro g))
                  go_meet
                  exact ⟨_, (Classical.choose_spec (xt_of_below (by repeat' (first | exact Below.refl _ _ | assumption | refine Below.xt ?_ ?_ _ | refine Below.alloc ?_ ?_ _ | refine Below.drew ?_ | refine Below.setCell ?_ ?_ _ | (simp; done) | (simp; omega)))))⟩
                · clear HC2 HM2
                  go_wp2_with (first
                    | (refine wp_region_xt (by kernel_rfl) (by kernel_rfl) ?_; (repeat (go_big_quiet_step (first | fail))); refine wpQuiet_nil ?_; intro g))
                  go_meet
                  exact ⟨_, (Classical.choose_spec (xt_of_below (by repeat' (first | exact Below.refl _ _ | assumption | refine Below.xt ?_ ?_ _ | refine Below.alloc ?_ ?_ _ | refine Below.drew ?_ | refine Below.setCell ?_ ?_ _ | (simp; done) | (simp; omega)))))⟩
    case rest =>
      obtain ⟨g9, rfl⟩ := hcut
      clear g8 KA KW HM HC HRm m0 m1 m2 HVm
      have hv := HVv.out
      have h00 : fineE L (a : Nat) 0 = 0 := fine_zero.2 ⟨hv, ⟨by omega, by omega⟩, by omega, by omega⟩
      have KX := fun w h => Lib.hid (lChanges_any A1 A2 A3 c1 c2 c3 L (a : Nat) w HF.out h)
      rw [if_pos h00, h00, ha'] at KX
      have hx := HX.out
      have hxl : (chg (L.G a) L.cs L.os).length ≤ _ := refO_len (L.G a) L.cs L.os L.os.length
      obtain ⟨X, hX⟩ : ∃ X, chg (L.G a) L.cs L.os = X := ⟨_, rfl⟩
      rw [hX] at KX hx hxl
      clear HX hX
      obtain ⟨xp, xf, xr, xlo, xhi, xs⟩ := hx
      have HXR := Lib.hid xr
      have hlt : fineE L (a : Nat) (lastLe X t X.length) = 0 := fine_zero.2 ⟨hv, ⟨by omega, by omega⟩, xlo, by omega⟩
      have KL := fun w h => Lib.hid (lWhich_any A1 A2 A3 c1 c2 c3 L (a : Nat) (lastLe X t X.length) w HF.out h)
      have eL : whE L (a : Nat) (lastLe X t X.length) = W := by rw [whE, if_pos hlt, ha']; exact xs.trans HWw.out
      rw [eL, hlt] at KL
      have KU := Lib.hid (show (L.G a).length = 1 → L.os.length = 0 → ∀ w, RowU w A2 L.cs → Calls Try.prog 21 #[.slice A2 L.cs.length c2, .string (nm (L.G a) 0), .int .i64 t] w (RetB (.tuple #[.agg #[.int .u8 C.r, .int .u8 C.g, .int .u8 C.b], .int .i64 0]) w) from fun g1 o0 w hu => by
        obtain ⟨q1, q2, q3, q4, q5⟩ := liB_iff.1 hv
        have := Value_ok A2 L.cs.length c2 L.cs (nm (L.G a) 0) t w rfl (cusB_iff.1 q2).2.2 HF.out.cs hu ((HF.out.gs a ha).2 0 (by omega)) q2 ((grpB_iff.1 (q4 a ha)).1 0 (by omega)) ht0 ht1
        rwa [one_group hv ha g1 o0, HCc.out] at this)
      clear hv h00 xs xr hlt eL HWw HCc H0 HP HF HVv HOo
      obtain ⟨bG, oG, rfl, hbG, hcG⟩ := HR.out.g.top (by omega)
      obtain ⟨Ai, ci, y0, hrow⟩ := hcG a ha
      have HROW := Lib.hid hrow
      clear hcG hrow
      go_wp2_with fail
      refine (KX _ (by repeat (first | (with_reducible exact HR.out) | (with_reducible refine RowL.alloc ?_ _) | (with_reducible refine RowL.drew ?_) | (with_reducible refine RowL.xt ?_ _)))).out.mono ?_
      rintro e' w' ⟨A5, c5, rfl, hb5, hr5⟩
      obtain ⟨g10, rfl⟩ := xt_of_below hb5
      obtain ⟨bX, oX, rfl, hbX, hcX⟩ := RowI.at_ hr5 xp
      have z0 := hcX 0 xp
      rw [xf, Nat.add_zero] at z0
      have HCX := Lib.hid hcX
      clear hb5 hr5 KX xf hcX
      have hxe : ((X.length : Int) == 0) = false := beq_eq_false_iff_ne.2 (by omega)
      have hxe2 : (X.length == 0) = false := beq_eq_false_iff_ne.2 (by omega)
      go_wp2_with fail
      go_loopw [23, 24] (fun u23 u24 wr => ∃ (k : Nat) (g : Gr), k ≤ X.length ∧ u23 = .int .i64 (lastLe X t k) ∧ u24 = .int .i64 k ∧ wr = xt (xt (xt wc g9) g10) g) (fun _ u24 _ => X.length - (intOf u24).toNat)
      case atStart => exact ⟨0, ⟨[], _⟩, by omega, rfl, rfl, (xt_self _).symm⟩
      case round =>
        obtain ⟨k, g11, hk, rfl, rfl, rfl⟩ := hrel
        by_cases hlt : k < X.length
        · have zk := HCX.out k hlt
          have HL := Lib.hid (show lastLe X t (k + 1) = if X.getD k 0 ≤ t then X.getD k 0 else lastLe X t k from rfl)
          rcases Nat.eq_zero_or_pos k with hk0 | hk0
          · have dk : decide (0 < (k : Int)) = false := by simp; omega
            have dk2 : decide (0 < k) = false := by simp; omega
            have HK0 := Lib.hid hk0
            clear hk0
            generalize X.getD k 0 = xk at *
            by_cases hle : xk ≤ t
            · have E := Lib.hid (show lastLe X t (k + 1) = xk by rw [HL.out, if_pos hle])
              clear HL HXR HCX
              go_wp2_with (first
                | (refine wp_region_xt (by kernel_rfl) (by kernel_rfl) ?_; (repeat (go_big_quiet_step (first | fail))); refine wpQuiet_nil ?_; intro g))
              go_roundw
              case rel => exact ⟨k + 1, _, by omega, congrArg (Value.int .i64) E.out.symm, by go_num, (Classical.choose_spec (xt_of_below (by repeat' (first | exact Below.refl _ _ | assumption | refine Below.xt ?_ ?_ _ | refine Below.alloc ?_ ?_ _ | refine Below.drew ?_ | refine Below.setCell ?_ ?_ _ | (simp; done) | (simp; omega)))))⟩
              case measure => simp [intOf]; omega
            · have E := Lib.hid (show lastLe X t (k + 1) = lastLe X t k by rw [HL.out, if_neg hle])
              clear HL HXR HCX
              go_wp2_with (first
                | (refine wp_region_xt (by kernel_rfl) (by kernel_rfl) ?_; (repeat (go_big_quiet_step (first | fail))); refine wpQuiet_nil ?_; intro g))
              go_roundw
              case rel => exact ⟨k + 1, _, by omega, congrArg (Value.int .i64) E.out.symm, by go_num, (Classical.choose_spec (xt_of_below (by repeat' (first | exact Below.refl _ _ | assumption | refine Below.xt ?_ ?_ _ | refine Below.alloc ?_ ?_ _ | refine Below.drew ?_ | refine Below.setCell ?_ ?_ _ | (simp; done) | (simp; omega)))))⟩
              case measure => simp [intOf]; omega
          · have dk : decide (0 < (k : Int)) = true := by simp; omega
            obtain ⟨j, hj⟩ : ∃ j, j = k - 1 := ⟨_, rfl⟩
            have zj := HCX.out (k - 1) (by omega)
            have hrise := HXR.out k hk0 hlt
            rw [← hj] at zj hrise
            have ej : (k : Int) - 1 = (j : Nat) := by omega
            have ew : IntKind.i64.wrap ((k : Int) - 1) = (j : Nat) := by rw [ej]; exact IntWalk.i64_in _ (by omega)
            have hjl : j < X.length := by omega
            clear hj ej
            generalize X.getD k 0 = xk at *
            generalize X.getD j 0 = xj at *
            by_cases hle : xk ≤ t
            · have E := Lib.hid (show lastLe X t (k + 1) = xk by rw [HL.out, if_pos hle])
              clear HL HXR HCX
              go_wp2_with (first
                | (refine wp_region_xt (by kernel_rfl) (by kernel_rfl) ?_; (repeat (go_big_quiet_step (first | fail))); refine wpQuiet_nil ?_; intro g))
              go_roundw
              case rel => exact ⟨k + 1, _, by omega, congrArg (Value.int .i64) E.out.symm, by go_num, (Classical.choose_spec (xt_of_below (by repeat' (first | exact Below.refl _ _ | assumption | refine Below.xt ?_ ?_ _ | refine Below.alloc ?_ ?_ _ | refine Below.drew ?_ | refine Below.setCell ?_ ?_ _ | (simp; done) | (simp; omega)))))⟩
              case measure => simp [intOf]; omega
            · have E := Lib.hid (show lastLe X t (k + 1) = lastLe X t k by rw [HL.out, if_neg hle])
              clear HL HXR HCX
              go_wp2_with (first
                | (refine wp_region_xt (by kernel_rfl) (by kernel_rfl) ?_; (repeat (go_big_quiet_step (first | fail))); refine wpQuiet_nil ?_; intro g))
              go_roundw
              case rel => exact ⟨k + 1, _, by omega, congrArg (Value.int .i64) E.out.symm, by go_num, (Classical.choose_spec (xt_of_below (by repeat' (first | exact Below.refl _ _ | assumption | refine Below.xt ?_ ?_ _ | refine Below.alloc ?_ ?_ _ | refine Below.drew ?_ | refine Below.setCell ?_ ?_ _ | (simp; done) | (simp; omega)))))⟩
              case measure => simp [intOf]; omega
        · obtain rfl : k = X.length := by omega
          clear HCX HXR
          go_wp2_with fail
          refine (RetB.grown (KL _ (by repeat (first | (with_reducible exact HR.out) | (with_reducible refine RowL.alloc ?_ _) | (with_reducible refine RowL.drew ?_) | (with_reducible refine RowL.xt ?_ _)))).out).mono ?_
          rintro e' w' ⟨rfl, g12, rfl⟩
          clear KL
          by_cases g1 : (L.G a).length = 1
          · have hg0 : 0 < (L.G a).length := by omega
            rcases Nat.eq_zero_or_pos L.os.length with hz | hz
            · have d1 : decide (0 < (L.os.length : Int)) = false := decide_eq_false (by omega)
              have d2 : decide (0 < L.os.length) = false := decide_eq_false (by omega)
              have HU := Lib.hid HR.out.u
              have KU1 := fun w h => Lib.hid (KU.out g1 hz w h)
              obtain ⟨bi, oi, rfl, hbi, hci⟩ := RowN.at_ HROW.out hg0
              have y1 := hci 0 hg0
              rw [Nat.add_zero] at y1
              clear hz hci KU HROW hk hlt
              generalize nm (L.G a) 0 = s at *
              generalize (L.G a).length = n at *
              subst g1
              go_upto_region 36 with fail
              go_region_held3 (fun w' => old w.heap.size w' ∧ old bG w' ∧ old bi w' ∧ w'.cell? ⟨w.heap.size, 0, none⟩ = some (.slice (some ⟨bG, oG, none⟩) L.nG c1) ∧ w'.cell? ⟨w.heap.size, 1, none⟩ = some (.slice A2 L.cs.length c2) ∧ w'.cell? ⟨bG, oG + a, none⟩ = some (.slice (some ⟨bi, oi, none⟩) 1 ci) ∧ w'.cell? ⟨bi, oi, none⟩ = some (.string s)) (go_simp)
                (first | (go_at_call 21; (with_reducible refine (RetB.grown (KU1 _ (by repeat (first | (with_reducible exact HU.out) | (with_reducible refine RowU.alloc ?_ _) | (with_reducible refine RowU.drew ?_) | (with_reducible refine RowU.xt ?_ _)))).out).mono ?_); rintro e' w' ⟨rfl, g13, rfl⟩) | fail)
              all_goals (go_wp2_with (first | (go_at_call 9; refine (RetB.grown (known_any _)).mono ?_; rintro e' w' ⟨rfl, g14, rfl⟩)))
              all_goals go_ret
              all_goals exact RetB.of rfl (by repeat' (first | exact Below.refl _ _ | assumption | refine Below.xt ?_ ?_ _ | refine Below.alloc ?_ ?_ _ | refine Below.drew ?_ | refine Below.setCell ?_ ?_ _ | (simp; done) | (simp; omega)))
            · have d1 : decide (0 < (L.os.length : Int)) = true := decide_eq_true (by omega)
              clear KU HROW hk hlt
              generalize (L.G a).length = n at *
              subst g1
              go_wp2_with (first
                | (go_at_call 9; refine (RetB.grown (known_any _)).mono ?_; rintro e' w' ⟨rfl, g, rfl⟩)
                | (refine wp_region_xt (by kernel_rfl) (by kernel_rfl) ?_; (repeat (go_big_quiet_step (first | (go_at_call 9; exact RetB.quiet (known_any _))))); refine wpQuiet_nil ?_; intro g))
              go_ret
              exact RetB.of rfl (by repeat' (first | exact Below.refl _ _ | assumption | refine Below.xt ?_ ?_ _ | refine Below.alloc ?_ ?_ _ | refine Below.drew ?_ | refine Below.setCell ?_ ?_ _ | (simp; done) | (simp; omega)))
          · have b1 : (((L.G a).length : Int) == 1) = false := beq_eq_false_iff_ne.2 (by omega)
            have b2 : ((L.G a).length == 1) = false := beq_eq_false_iff_ne.2 (by omega)
            have b3 : (((L.G a).length : Int) != 1) = true := by rw [bne, b1]; rfl
            have b4 : ¬ ((L.G a).length : Int) = 1 := by omega
            clear g1 KU
            go_wp2_with (first
              | (go_at_call 9; refine (RetB.grown (known_any _)).mono ?_; rintro e' w' ⟨rfl, g, rfl⟩)
              | (refine wp_region_xt (by kernel_rfl) (by kernel_rfl) ?_; (repeat (go_big_quiet_step (first | (go_at_call 9; exact RetB.quiet (known_any _))))); refine wpQuiet_nil ?_; intro g))
            go_ret
            exact RetB.of rfl (by repeat' (first | exact Below.refl _ _ | assumption | refine Below.xt ?_ ?_ _ | refine Below.alloc ?_ ?_ _ | refine Below.drew ?_ | refine Below.setCell ?_ ?_ _ | (simp; done) | (simp; omega)))

end Go.Proofs.Ytiikejhkhdmgeaa

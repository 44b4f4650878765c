/- Walk of cameras, by the reference: Scene. Conditions stand in each theorem. -/
import Derived.Test.YtjeemlnhokihoaaCamR5
import Derived.Test.YtjeemlnhokihoaaCamR6
import Derived.Laws.AppendOwnNone
import Derived.Deep.RegionHeld3
import Derived.Deep.DeepCutAuto
namespace Go.Proofs.Ytjeemlnhokihoaa
open Go.RowKit
set_option linter.unusedVariables false
set_option linter.unusedSimpArgs false
attribute [local go_sem ↓] ld16

/-- The call returns the row that the reference builds. -/
def RetRf (L : List Sp) (w : World) (e : Ending) (w' : World) : Prop := ∃ R A cp, RefL R L ∧ e = .returned (.tuple #[.slice A R.length cp, .int .i64 0]) ∧ Below w.heap.size w w' ∧ Row w' A R.length 5 fun i => scell (sfn R i)

theorem own_laterR {w w' : World} {base : Nat} {e : TypeId} {s n : Nat} {v : Value} {xs : List Value} (h : w.ownsRow base e s v n xs) (hb : Below w.heap.size w w') : w'.ownsRow base e s v n xs := by
  refine ⟨h.1, ?_⟩
  rcases h.2 with h' | ⟨gb, cap, cur, hv, hbb, hg, hrest⟩
  · exact .inl h'
  · have hlt : gb < w.heap.size := by
      rcases Nat.lt_or_ge gb w.heap.size with hlt | hge
      · exact hlt
      · rw [Array.getElem?_eq_none hge] at hg; cases hg
    exact .inr ⟨gb, cap, cur, hv, hbb, (hb.block gb hlt).trans hg, hrest⟩
theorem own_lowR {w : World} {base base' : Nat} {e : TypeId} {s n : Nat} {v : Value} {xs : List Value} (h : w.ownsRow base' e s v n xs) (hb : base ≤ base') : w.ownsRow base e s v n xs := by
  refine ⟨h.1, ?_⟩
  rcases h.2 with h' | ⟨gb, cap, cur, hv, hbb, hg, hrest⟩
  · exact .inl h'
  · exact .inr ⟨gb, cap, cur, hv, Nat.le_trans hb hbb, hg, hrest⟩
theorem below_noneR {w w' : World} (h : w.grownBy w' (Value.ownBlock (.slice none 0 0))) : Below w.heap.size w w' := (Below.refl _ _).grown h (Nat.le_refl _) (fun k e => nomatch e)
theorem grown_setR (W : World) (b k : Nat) (v : Value) : W.grownBy (W.setCell ⟨b, k, none⟩ v) (some b) :=
  ⟨rfl, rfl, rfl, by simp [World.setCell], fun j _ hne => heap_setCell_other W ⟨b, k, none⟩ j v (fun e => hne (by rw [e]))⟩
/-- A box of one spot is a row of its own. -/
theorem own_box {w : World} {B m : Nat} {T : TypeId} {v0 v1 v2 v3 v4 : Value} (hm : m = w.heap.size) (hB : B ≤ m) : (w.alloc (.cells #[v0, v1, v2, v3, v4] T)).ownsRow B T 5 (.slice (some ⟨m, 0, none⟩) 1 1) 1 [v0, v1, v2, v3, v4] := by
  subst hm
  exact ⟨rfl, .inr ⟨w.heap.size, 1, #[v0, v1, v2, v3, v4], rfl, hB, by rw [heap_alloc_new], Nat.le_refl _, by simp [maxLen], rfl, rfl⟩⟩
theorem add_at (g o j : Nat) : (⟨g, o, none⟩ : Addr).add j = ⟨g, o + j, none⟩ := by
  unfold Addr.add
  split
  · rename_i h0; rw [h0]; rfl
  · rfl
theorem news_lo {w : World} {B g cp j : Nat} {R : List Sp} (h : w.ownsRow B 35 5 (.slice (some ⟨g, 0, none⟩) R.length cp) R.length (csl R)) : ∀ q u, (csl (R.take j))[q]? = some u → w.cell? ((⟨g, 0, none⟩ : Addr).add q) = some u := by
  intro q u hu
  have h1 := (List.getElem?_eq_some_iff.1 hu).1
  rw [csl_len, List.length_take] at h1
  rw [add_at, Nat.zero_add, h.cellAt q (by omega)]
  have e : csl R = csl (R.take j) ++ csl (R.drop j) := by rw [← csl_app, List.take_append_drop]
  rw [e, List.getElem?_append_left (by rw [csl_len, List.length_take]; omega)]
  exact hu
theorem news_hi {w : World} {B g cp j : Nat} {R : List Sp} (hj : j ≤ R.length) (h : w.ownsRow B 35 5 (.slice (some ⟨g, 0, none⟩) R.length cp) R.length (csl R)) : ∀ q u, (csl (R.drop j))[q]? = some u → w.cell? ((⟨g, j * 5, none⟩ : Addr).add q) = some u := by
  intro q u hu
  have h1 := (List.getElem?_eq_some_iff.1 hu).1
  rw [csl_len, List.length_drop] at h1
  rw [add_at, h.cellAt (j * 5 + q) (by omega)]
  have e : csl R = csl (R.take j) ++ csl (R.drop j) := by rw [← csl_app, List.take_append_drop]
  have hl : (csl (R.take j)).length = j * 5 := by rw [csl_len, List.length_take, Nat.min_eq_left hj]
  rw [e, List.getElem?_append_right (by omega), hl, Nat.add_sub_cancel_left]
  exact hu

set_option maxRecDepth 100000 in
set_option maxHeartbeats 12800000 in
theorem rScene_any (c : Cam) (l : List V3) (A : Option Addr) (n cap : Nat) (ra : Int) (w : World) (hc : cval c = true) (hr : within ra 0 1000 = true) (hn : n = l.length) (hm : n ≤ 4096) (hl : RowV w A l) (hp : ∀ i, i < n → pointAt l i = true) :
    Calls Try.prog 18 #[.agg #[.int .i64 c.e.x, .int .i64 c.e.y, .int .i64 c.e.z, .int .i64 c.r.x, .int .i64 c.r.y, .int .i64 c.r.z, .int .i64 c.u.x, .int .i64 c.u.y, .int .i64 c.u.z, .int .i64 c.f.x, .int .i64 c.f.y, .int .i64 c.f.z, .int .i64 c.fo, .int .i64 c.wi, .int .i64 c.he, .int .i64 c.ne], .slice A n cap, .int .i64 ra] w (RetRf (scn c l ra n) w) := by
  have hsn : ∀ k, scn c l ra (k + 1) = scn c l ra k ++ if seen c (at_ l k) then [spt c (at_ l k) ra k] else [] := fun k => rfl
  have G := good_of hc
  have K := fun w hl => Lib.hid (rfine_yes c ra A n cap l w hc hr hm hn hl hp)
  have HL := Lib.hid hl
  have HN := Lib.hid hn
  have HP := Lib.hid hp
  have HS := Lib.hid hsn
  have HIX := Lib.hid (fun k => scn_ix (c := c) (l := l) (ra := ra) k)
  have SY := fun p w hp hs => Lib.hid (rspot_yes c p ra w G hp hr hs)
  have SN := fun p w hp hs => Lib.hid (rspot_no c p ra w G hp hr hs)
  obtain ⟨i0, hi0, hz0, hz1, hz2⟩ := info_parts infoSpot
  clear hc hr hn hl hp hsn G
  go_enter Try.func18, Try.ntmps18
  go_wp2_with fail
  refine (RetB.grown (K _ (Row.alloc HL.out _)).out).mono ?_
  rintro e w' ⟨rfl, ga, rfl⟩
  clear K
  go_wp2_with fail
  go_loopw [8, 9] (fun s i wr => ∃ (k : Nat) (g : Gr) (R : List Sp), k ≤ n ∧ i = .int .i64 k ∧ wr = xt (w.alloc (.cells #[.int .i64 c.e.x, .int .i64 c.e.y, .int .i64 c.e.z, .int .i64 c.r.x, .int .i64 c.r.y, .int .i64 c.r.z, .int .i64 c.u.x, .int .i64 c.u.y, .int .i64 c.u.z, .int .i64 c.f.x, .int .i64 c.f.y, .int .i64 c.f.z, .int .i64 c.fo, .int .i64 c.wi, .int .i64 c.he, .int .i64 c.ne] 25)) g ∧ Hid (RefL R (scn c l ra k)) ∧ Hid (R.length ≤ k) ∧ Hid ((xt (w.alloc (.cells #[.int .i64 c.e.x, .int .i64 c.e.y, .int .i64 c.e.z, .int .i64 c.r.x, .int .i64 c.r.y, .int .i64 c.r.z, .int .i64 c.u.x, .int .i64 c.u.y, .int .i64 c.u.z, .int .i64 c.f.x, .int .i64 c.f.y, .int .i64 c.f.z, .int .i64 c.fo, .int .i64 c.wi, .int .i64 c.he, .int .i64 c.ne] 25)) g).ownsRow ((w.alloc (.cells #[.int .i64 c.e.x, .int .i64 c.e.y, .int .i64 c.e.z, .int .i64 c.r.x, .int .i64 c.r.y, .int .i64 c.r.z, .int .i64 c.u.x, .int .i64 c.u.y, .int .i64 c.u.z, .int .i64 c.f.x, .int .i64 c.f.y, .int .i64 c.f.z, .int .i64 c.fo, .int .i64 c.wi, .int .i64 c.he, .int .i64 c.ne] 25))).heap.size 35 5 s R.length (csl R))) (fun _ i _ => n - (intOf i).toNat)
  case atStart => exact ⟨0, _, [], by omega, rfl, rfl, Lib.hid RefL.nil, Lib.hid (Nat.le_refl _), own_nil⟩
  case round =>
    obtain ⟨k, g, R, hk, rfl, rfl, HRL, HRN, HO⟩ := hrel
    by_cases hlt : k < n
    · skip
      --A{
      obtain ⟨b, o, rfl, hb, hcl⟩ := HL.out.at_ (HN.out ▸ (show 0 < n by omega))
      obtain ⟨hx, hy, hz⟩ := RowV.cells hcl (HN.out ▸ hlt)
      clear hcl
      have hpk : pnt (at_ l k) = true := HP.out k hlt
      have HSK := Lib.hid (HS.out k)
      generalize at_ l k = p at *
      obtain ⟨sb, hsb⟩ : ∃ b, seen c p = b := ⟨_, rfl⟩
      obtain ⟨s, hs⟩ : ∃ s : Sp, s = (if sb then spt c p ra k else ⟨k, 0, 0, 0, 0⟩) := ⟨_, rfl⟩
      have S := fun w => Lib.hid (show Calls Try.prog 38 #[.agg #[.int .i64 c.e.x, .int .i64 c.e.y, .int .i64 c.e.z, .int .i64 c.r.x, .int .i64 c.r.y, .int .i64 c.r.z, .int .i64 c.u.x, .int .i64 c.u.y, .int .i64 c.u.z, .int .i64 c.f.x, .int .i64 c.f.y, .int .i64 c.f.z, .int .i64 c.fo, .int .i64 c.wi, .int .i64 c.he, .int .i64 c.ne], .agg #[.int .i64 p.x, .int .i64 p.y, .int .i64 p.z], .int .i64 ra] w (RetB (.tuple #[.agg #[.int .i64 0, .int .i64 s.x, .int .i64 s.y, .int .i64 s.r, .int .i64 s.d], .bool sb]) w) from by
        cases sb with
        | true => rw [hs]; exact (SY p w hpk hsb).out
        | false => rw [hs]; exact (SN p w hpk hsb).out)
      have HSS := Lib.hid hs
      have HSB := Lib.hid hsb
      have hbB : b < w.heap.size := hb
      clear hs hsb hpk SY SN
      go_upto_region 7 with fail
      go_cut [10, 11] (fun bx is wx => ∃ (m : Nat) (W2 : World), W2 = wx ∧ bx = .pointer (some ⟨m, 0, none⟩) ∧ is = .bool sb ∧ Hid (Below ((w.alloc (.cells #[.int .i64 c.e.x, .int .i64 c.e.y, .int .i64 c.e.z, .int .i64 c.r.x, .int .i64 c.r.y, .int .i64 c.r.z, .int .i64 c.u.x, .int .i64 c.u.y, .int .i64 c.u.z, .int .i64 c.f.x, .int .i64 c.f.y, .int .i64 c.f.z, .int .i64 c.fo, .int .i64 c.wi, .int .i64 c.he, .int .i64 c.ne] 25))).heap.size (w.alloc (.cells #[.int .i64 c.e.x, .int .i64 c.e.y, .int .i64 c.e.z, .int .i64 c.r.x, .int .i64 c.r.y, .int .i64 c.r.z, .int .i64 c.u.x, .int .i64 c.u.y, .int .i64 c.u.z, .int .i64 c.f.x, .int .i64 c.f.y, .int .i64 c.f.z, .int .i64 c.fo, .int .i64 c.wi, .int .i64 c.he, .int .i64 c.ne] 25)) W2) ∧ Hid ((xt (w.alloc (.cells #[.int .i64 c.e.x, .int .i64 c.e.y, .int .i64 c.e.z, .int .i64 c.r.x, .int .i64 c.r.y, .int .i64 c.r.z, .int .i64 c.u.x, .int .i64 c.u.y, .int .i64 c.u.z, .int .i64 c.f.x, .int .i64 c.f.y, .int .i64 c.f.z, .int .i64 c.fo, .int .i64 c.wi, .int .i64 c.he, .int .i64 c.ne] 25)) g).heap.size ≤ m) ∧ Hid (W2.ownsRow ((w.alloc (.cells #[.int .i64 c.e.x, .int .i64 c.e.y, .int .i64 c.e.z, .int .i64 c.r.x, .int .i64 c.r.y, .int .i64 c.r.z, .int .i64 c.u.x, .int .i64 c.u.y, .int .i64 c.u.z, .int .i64 c.f.x, .int .i64 c.f.y, .int .i64 c.f.z, .int .i64 c.fo, .int .i64 c.wi, .int .i64 c.he, .int .i64 c.ne] 25))).heap.size 35 5 (.slice (some ⟨m, 0, none⟩) 1 1) 1 [.int .i64 0, .int .i64 s.x, .int .i64 s.y, .int .i64 s.r, .int .i64 s.d]) ∧ Hid (W2.ownsRow ((w.alloc (.cells #[.int .i64 c.e.x, .int .i64 c.e.y, .int .i64 c.e.z, .int .i64 c.r.x, .int .i64 c.r.y, .int .i64 c.r.z, .int .i64 c.u.x, .int .i64 c.u.y, .int .i64 c.u.z, .int .i64 c.f.x, .int .i64 c.f.y, .int .i64 c.f.z, .int .i64 c.fo, .int .i64 c.wi, .int .i64 c.he, .int .i64 c.ne] 25))).heap.size 35 5 u8 R.length (csl R)))
      case first =>
        --B{
        go_region_held3 (fun w' => blk w' w.heap.size = some (.cells #[.int .i64 c.e.x, .int .i64 c.e.y, .int .i64 c.e.z, .int .i64 c.r.x, .int .i64 c.r.y, .int .i64 c.r.z, .int .i64 c.u.x, .int .i64 c.u.y, .int .i64 c.u.z, .int .i64 c.f.x, .int .i64 c.f.y, .int .i64 c.f.z, .int .i64 c.fo, .int .i64 c.wi, .int .i64 c.he, .int .i64 c.ne] 25 (0, 0)) ∧ old w.heap.size w' ∧ old b w' ∧ w'.cell? ⟨b, o + k * 3, none⟩ = some (.int .i64 p.x) ∧ w'.cell? ⟨b, o + k * 3 + 1, none⟩ = some (.int .i64 p.y) ∧ w'.cell? ⟨b, o + k * 3 + 2, none⟩ = some (.int .i64 p.z)) (go_simp) (first | (go_at_call 38; refine (RetB.grown (S _).out).mono ?_; rintro e' w' ⟨rfl, g, rfl⟩))
        all_goals
          go_wp2_with fail
          go_meet
          exact ⟨_, _, rfl, rfl, rfl, Lib.hid (by repeat' (first | exact Below.refl _ _ | assumption | refine Below.xt ?_ ?_ _ | refine Below.alloc ?_ ?_ _ | refine Below.drew ?_ | refine Below.setCell ?_ ?_ _ | (simp; done) | (simp; omega))), Lib.hid (by simp; try omega), Lib.hid (by repeat (first | exact own_box (by simp) (by simp; try omega) | refine own_xt ?_ _)), Lib.hid (by repeat (first | (with_reducible exact HO.out) | (with_reducible exact own_drawn HO.out _) | (with_reducible refine World.ownsRow.alloc ?_ _) | (with_reducible refine own_xt ?_ _)))⟩
        --B}
      case rest =>
        --C{
        obtain ⟨m, W2, rfl, rfl, rfl, HB2, HM, HBox, HOut⟩ := hcut
        cases sb with
        | false =>
          --E{
          have HE := Lib.hid (show scn c l ra (k + 1) = scn c l ra k by rw [HSK.out, if_neg (by rw [HSB.out]; simp), List.append_nil])
          obtain ⟨g9, rfl⟩ := xt_of_below HB2.out
          have HRN2 := Lib.hid (show R.length ≤ k + 1 from by have := HRN.out; omega)
          have HRL2 := Lib.hid (show RefL R (scn c l ra (k + 1)) by rw [HE.out]; exact HRL.out)
          clear HO HBox HB2 HM
          go_wp2_with fail
          go_roundw
          case rel => exact ⟨k + 1, g9, R, by omega, by go_num, rfl, HRL2, HRN2, HOut⟩
          case measure => simp [intOf]; omega
          --E}
        | true =>
          have HE := Lib.hid (show scn c l ra (k + 1) = scn c l ra k ++ [s] by rw [HSK.out, if_pos HSB.out, HSS.out]; rfl)
          have hix : s.ix = (k : Int) := by rw [HSS.out]; rfl
          have HIX2 := Lib.hid (show ∀ x ∈ scn c l ra k, x.ix < s.ix from fun x hx => by rw [hix]; exact HIX.out k x hx)
          have HIXs := Lib.hid hix
          have hmlt : m < W2.heap.size := (HBox.out.lt m rfl).2
          have hmge : ((w.alloc (.cells #[.int .i64 c.e.x, .int .i64 c.e.y, .int .i64 c.e.z, .int .i64 c.r.x, .int .i64 c.r.y, .int .i64 c.r.z, .int .i64 c.u.x, .int .i64 c.u.y, .int .i64 c.u.z, .int .i64 c.f.x, .int .i64 c.f.y, .int .i64 c.f.z, .int .i64 c.fo, .int .i64 c.wi, .int .i64 c.he, .int .i64 c.ne] 25))).heap.size ≤ m := (HBox.out.lt m rfl).1
          have c0 : W2.cell? ⟨m, 0, none⟩ = some (.int .i64 0) := HBox.out.cellAt 0 (by omega)
          have f0 := HBox.out.frozenAt 0
          have om : old m W2 := hmlt
          obtain ⟨W3, hW3, HB3, HBox3, HOut3⟩ : ∃ W3, W2.setCell ⟨m, 0, none⟩ (.int .i64 (k : Int)) = W3 ∧ Hid (Below ((w.alloc (.cells #[.int .i64 c.e.x, .int .i64 c.e.y, .int .i64 c.e.z, .int .i64 c.r.x, .int .i64 c.r.y, .int .i64 c.r.z, .int .i64 c.u.x, .int .i64 c.u.y, .int .i64 c.u.z, .int .i64 c.f.x, .int .i64 c.f.y, .int .i64 c.f.z, .int .i64 c.fo, .int .i64 c.wi, .int .i64 c.he, .int .i64 c.ne] 25))).heap.size (w.alloc (.cells #[.int .i64 c.e.x, .int .i64 c.e.y, .int .i64 c.e.z, .int .i64 c.r.x, .int .i64 c.r.y, .int .i64 c.r.z, .int .i64 c.u.x, .int .i64 c.u.y, .int .i64 c.u.z, .int .i64 c.f.x, .int .i64 c.f.y, .int .i64 c.f.z, .int .i64 c.fo, .int .i64 c.wi, .int .i64 c.he, .int .i64 c.ne] 25)) W3) ∧ Hid (W3.ownsRow ((w.alloc (.cells #[.int .i64 c.e.x, .int .i64 c.e.y, .int .i64 c.e.z, .int .i64 c.r.x, .int .i64 c.r.y, .int .i64 c.r.z, .int .i64 c.u.x, .int .i64 c.u.y, .int .i64 c.u.z, .int .i64 c.f.x, .int .i64 c.f.y, .int .i64 c.f.z, .int .i64 c.fo, .int .i64 c.wi, .int .i64 c.he, .int .i64 c.ne] 25))).heap.size 35 5 (.slice (some ⟨m, 0, none⟩) 1 1) 1 [.int .i64 (k : Int), .int .i64 s.x, .int .i64 s.y, .int .i64 s.r, .int .i64 s.d]) ∧ Hid (W3.ownsRow ((w.alloc (.cells #[.int .i64 c.e.x, .int .i64 c.e.y, .int .i64 c.e.z, .int .i64 c.r.x, .int .i64 c.r.y, .int .i64 c.r.z, .int .i64 c.u.x, .int .i64 c.u.y, .int .i64 c.u.z, .int .i64 c.f.x, .int .i64 c.f.y, .int .i64 c.f.z, .int .i64 c.fo, .int .i64 c.wi, .int .i64 c.he, .int .i64 c.ne] 25))).heap.size 35 5 u8 R.length (csl R)) :=
            ⟨_, rfl, Lib.hid (HB2.out.setCell hmge _), Lib.hid (HBox.out.stored 0 _).1, Lib.hid (HOut.out.kept (grown_setR _ _ _ _) (by
              rcases HO.out.2 with ⟨e1, _⟩ | ⟨gb, cp, cur, e1, _⟩
              · rw [e1]; exact .inl rfl
              · right
                have h5 := HO.out
                rw [e1] at h5 ⊢
                have h6 := (h5.lt gb rfl).2
                have h7 := HM.out
                simp only [Value.ownBlock, ne_eq, Option.some.injEq]
                omega))⟩
          go_upto_region 10 with fail
          try rw [hW3]
          clear hW3 HB2 HBox HOut c0 f0 om hmlt HSK HSB HSS
          have c0 : W3.cell? ⟨m, 0, none⟩ = some (.int .i64 (k : Int)) := HBox3.out.cellAt 0 (by omega)
          have c1 : W3.cell? ⟨m, 1, none⟩ = some (.int .i64 s.x) := HBox3.out.cellAt 1 (by omega)
          have c2 : W3.cell? ⟨m, 2, none⟩ = some (.int .i64 s.y) := HBox3.out.cellAt 2 (by omega)
          have c3 : W3.cell? ⟨m, 3, none⟩ = some (.int .i64 s.r) := HBox3.out.cellAt 3 (by omega)
          have c4 : W3.cell? ⟨m, 4, none⟩ = some (.int .i64 s.d) := HBox3.out.cellAt 4 (by omega)
          have om : old m W3 := (HBox3.out.lt m rfl).2
          have HMG := Lib.hid hmge
          clear hmge
          rcases HOut3.out.2 with ⟨e1, e2⟩ | ⟨gb, cp, cur, e1, _⟩
          · obtain rfl : R = [] := List.length_eq_zero_iff.1 e2
            subst e1
            clear e2 HOut3
            --F{
            have HRL2 := Lib.hid (show RefL [s] (scn c l ra (k + 1)) by rw [HE.out]; exact HRL.out.put (j := 0) (s := s) (Nat.le_refl _) HIX2.out (fun i h1 h2 => absurd h2 (by simp)) (.inl rfl))
            go_wp2_with fail
            refine wp_loop_rounds 1 ?_
            rw [rounds_succ]
            go_wp2_with fail
            refine wp_region_xt (by kernel_rfl) (by kernel_rfl) ?_
            repeat (go_big_quiet_step (fail))
            refine wpQuiet_nil ?_
            intro g3
            obtain ⟨W4, hW4, HB4, HBox4⟩ : ∃ W4, xt W3 g3 = W4 ∧ Hid (Below ((w.alloc (.cells #[.int .i64 c.e.x, .int .i64 c.e.y, .int .i64 c.e.z, .int .i64 c.r.x, .int .i64 c.r.y, .int .i64 c.r.z, .int .i64 c.u.x, .int .i64 c.u.y, .int .i64 c.u.z, .int .i64 c.f.x, .int .i64 c.f.y, .int .i64 c.f.z, .int .i64 c.fo, .int .i64 c.wi, .int .i64 c.he, .int .i64 c.ne] 25))).heap.size (w.alloc (.cells #[.int .i64 c.e.x, .int .i64 c.e.y, .int .i64 c.e.z, .int .i64 c.r.x, .int .i64 c.r.y, .int .i64 c.r.z, .int .i64 c.u.x, .int .i64 c.u.y, .int .i64 c.u.z, .int .i64 c.f.x, .int .i64 c.f.y, .int .i64 c.f.z, .int .i64 c.fo, .int .i64 c.wi, .int .i64 c.he, .int .i64 c.ne] 25)) W4) ∧ Hid (W4.ownsRow ((w.alloc (.cells #[.int .i64 c.e.x, .int .i64 c.e.y, .int .i64 c.e.z, .int .i64 c.r.x, .int .i64 c.r.y, .int .i64 c.r.z, .int .i64 c.u.x, .int .i64 c.u.y, .int .i64 c.u.z, .int .i64 c.f.x, .int .i64 c.f.y, .int .i64 c.f.z, .int .i64 c.fo, .int .i64 c.wi, .int .i64 c.he, .int .i64 c.ne] 25))).heap.size 35 5 (.slice (some ⟨m, 0, none⟩) 1 1) 1 [.int .i64 (k : Int), .int .i64 s.x, .int .i64 s.y, .int .i64 s.r, .int .i64 s.d]) :=
              ⟨_, rfl, Lib.hid (Below.xt HB3.out HB3.out.size _), Lib.hid (own_xt HBox3.out _)⟩
            rw [hW4]
            clear hW4 HB3 HBox3 c0 c1 c2 c3 c4 om HRL HE HIX2
            have c0 : W4.cell? ⟨m, 0, none⟩ = some (.int .i64 (k : Int)) := HBox4.out.cellAt 0 (by omega)
            have c1 : W4.cell? ⟨m, 1, none⟩ = some (.int .i64 s.x) := HBox4.out.cellAt 1 (by omega)
            have c2 : W4.cell? ⟨m, 2, none⟩ = some (.int .i64 s.y) := HBox4.out.cellAt 2 (by omega)
            have c3 : W4.cell? ⟨m, 3, none⟩ = some (.int .i64 s.r) := HBox4.out.cellAt 3 (by omega)
            have c4 : W4.cell? ⟨m, 4, none⟩ = some (.int .i64 s.d) := HBox4.out.cellAt 4 (by omega)
            have om : old m W4 := (HBox4.out.lt m rfl).2
            go_upto_region 14 with fail
            go_wp2_with (at_builtin; go_must (refine wpList_append_own _ rfl _ _ 42 rfl W4.heap.size 35 i0 _ 5 40 Try.underlying42 hi0 hz0 hz1 hz2 rfl (by omega) (.slice none 0 0) 0 [] rfl own_nil _ 1 _ [.int .i64 k, .int .i64 s.x, .int .i64 s.y, .int .i64 s.r, .int .i64 s.d] rfl rfl ?_ ?_ ?_ ?_ ?_ ?_))
            · exact cells_new _ _ _ _ (by simp)
            · intro u hu; simp only [List.mem_cons, List.not_mem_nil, or_false] at hu; rcases hu with rfl | rfl | rfl | rfl | rfl <;> rfl
            · simp [maxLen]
            · omega
            · simp
            intro v1 w1 hown1 hgr1 _
            have HB5 := Lib.hid (show Below W4.heap.size W4 w1 from below_grown (n := 0) (v := .slice none 0 0) (xs := []) (e := 35) (s := 5) ((Below.refl _ _).alloc (Nat.le_refl _) (.cells #[.int .i64 k, .int .i64 s.x, .int .i64 s.y, .int .i64 s.r, .int .i64 s.d] 35)) (by simp) own_nil hgr1)
            have HO1 := Lib.hid (show w1.ownsRow W4.heap.size 35 5 v1 1 (csl [s]) by simp only [csl, cs5, List.flatMap_cons, List.flatMap_nil, List.append_nil]; rw [HIXs.out]; exact hown1)
            clear hown1 hgr1 c0 c1 c2 c3 c4 om HBox4
            go_wp2_with (at_builtin; go_must (refine wpList_append_own_none rfl (.tmp 64) (.tmp 67) 42 rfl W4.heap.size 35 i0 5 Try.underlying42 hi0 v1 1 (csl [s]) rfl HO1.out rfl ?_))
            obtain ⟨g9, hg9⟩ := xt_of_below (Below.next HB4.out HB5.out HB4.out.size)
            subst hg9
            exact ⟨⟨k + 1, g9, [s], by omega, by go_num, rfl, HRL2, Lib.hid (by simp), Lib.hid (own_lowR HO1.out HB4.out.size)⟩, by simp [intOf]; omega⟩
            --F}
          · subst e1
            --G{
            go_wp2_with fail
            go_loopw [12] (fun i wr => ∃ (j : Nat) (g3 : Gr), j ≤ R.length ∧ i = .int .i64 j ∧ wr = xt W3 g3 ∧ Hid (∀ i, j ≤ i → i < R.length → (sfn R i).d < s.d)) (fun i _ => (intOf i).toNat)
            case atStart => exact ⟨R.length, ⟨[], _⟩, Nat.le_refl _, rfl, (xt_self _).symm, Lib.hid (fun i h1 h2 => absurd h2 (by omega))⟩
            case round =>
              obtain ⟨j, g3, hj, rfl, rfl, HD⟩ := hrel
              obtain ⟨cnd, hcnd⟩ : ∃ b, decide (0 < j ∧ (sfn R (j - 1)).d < s.d) = b := ⟨_, rfl⟩
              go_upto_region 11 with fail
              go_cut [53] (fun t wx => t = .bool cnd ∧ ∃ g3, wx = xt W3 g3)
              case first =>
                --H{
                by_cases hj0 : 0 < j
                · have d20 : decide ((0 : Int) < (j : Int)) = true := by simp; omega
                  have d20' : decide (0 < j) = true := by simp; omega
                  obtain ⟨q, hq⟩ : ∃ q, j - 1 = q := ⟨_, rfl⟩
                  have w3 : IntKind.i64.wrap ((j : Int) - 1) = (q : Int) := by rw [show (q : Int) = (j : Int) - 1 by omega]; have := HRN.out; exact IntWalk.i64_in _ (by omega)
                  have hqR : q < R.length := by omega
                  have q1 : (0 : Int) ≤ (q : Int) := by omega
                  have q2 : (q : Int) < (R.length : Int) := by omega
                  obtain ⟨_, _, _, _, y4⟩ := own_cells (f := sfn R) (by rw [row_csl R.length R rfl]; exact HOut3.out) hqR
                  have ogb : old gb W3 := own_old HOut3.out
                  rw [hq] at hcnd
                  obtain ⟨rd, hrd⟩ : ∃ x, (sfn R q).d = x := ⟨_, rfl⟩
                  rw [hrd] at y4 hcnd
                  clear hrd hq
                  by_cases hlt2 : rd < s.d
                  · have e1 : decide (rd < s.d) = true := by simpa using hlt2
                    obtain rfl : cnd = true := by rw [← hcnd]; simp [hj0, hlt2]
                    clear hcnd
                    go_wp2_with fail
                    refine wp_region_xt (by kernel_rfl) (by kernel_rfl) ?_
                    repeat (go_big_quiet_step (fail))
                    refine wpQuiet_nil ?_
                    intro g5
                    go_wp2_with fail
                    go_meet
                    exact ⟨rfl, _, xt_xt _ _ _⟩
                  · have e1 : decide (rd < s.d) = false := by simpa using hlt2
                    obtain rfl : cnd = false := by rw [← hcnd]; simp [hlt2]
                    clear hcnd
                    go_wp2_with fail
                    refine wp_region_xt (by kernel_rfl) (by kernel_rfl) ?_
                    repeat (go_big_quiet_step (fail))
                    refine wpQuiet_nil ?_
                    intro g5
                    go_wp2_with fail
                    go_meet
                    exact ⟨rfl, _, xt_xt _ _ _⟩
                · have d20 : decide ((0 : Int) < (j : Int)) = false := by simp; omega
                  have d20' : decide (0 < j) = false := by simp; omega
                  obtain rfl : cnd = false := by rw [← hcnd]; simp [hj0]
                  clear hcnd
                  go_wp2_with fail
                  refine wp_region_xt (by kernel_rfl) (by kernel_rfl) ?_
                  repeat (go_big_quiet_step (fail))
                  refine wpQuiet_nil ?_
                  intro g5
                  go_wp2_with fail
                  go_meet
                  exact ⟨rfl, _, xt_xt _ _ _⟩
                --H}
              case rest =>
                obtain ⟨rfl, g4, rfl⟩ := hcut
                cases cnd with
                | true =>
                  --I{
                  obtain ⟨j1, j2⟩ := of_decide_eq_true hcnd
                  obtain ⟨q, hq⟩ : ∃ q, j - 1 = q := ⟨_, rfl⟩
                  have w3 : IntKind.i64.wrap ((j : Int) - 1) = (q : Int) := by rw [show (q : Int) = (j : Int) - 1 by omega]; have := HRN.out; exact IntWalk.i64_in _ (by omega)
                  have HD2 := Lib.hid (show ∀ i, q ≤ i → i < R.length → (sfn R i).d < s.d from fun i h1 h2 => by
                    by_cases e : i = j - 1
                    · rw [e]; exact j2
                    · exact HD.out i (by omega) h2)
                  have HQ := Lib.hid (show q ≤ R.length ∧ q < j by omega)
                  clear hcnd j1 j2 hq
                  go_wp2_with fail
                  go_roundw
                  case rel => exact ⟨q, _, HQ.out.1, rfl, rfl, HD2⟩
                  case measure => have := HQ.out; simp [intOf]; omega
                  --I}
                | false =>
                  --J{
                  have hlo : j = 0 ∨ s.d ≤ (sfn R (j - 1)).d := by have := of_decide_eq_false hcnd; omega
                  have HRL2 := Lib.hid (show RefL (insAt R j s) (scn c l ra (k + 1)) by rw [HE.out]; exact HRL.out.put hj HIX2.out HD.out hlo)
                  obtain ⟨W4, hW4, HB4, HBox4, HOut4⟩ : ∃ W4, xt W3 g4 = W4 ∧ Hid (Below ((w.alloc (.cells #[.int .i64 c.e.x, .int .i64 c.e.y, .int .i64 c.e.z, .int .i64 c.r.x, .int .i64 c.r.y, .int .i64 c.r.z, .int .i64 c.u.x, .int .i64 c.u.y, .int .i64 c.u.z, .int .i64 c.f.x, .int .i64 c.f.y, .int .i64 c.f.z, .int .i64 c.fo, .int .i64 c.wi, .int .i64 c.he, .int .i64 c.ne] 25))).heap.size (w.alloc (.cells #[.int .i64 c.e.x, .int .i64 c.e.y, .int .i64 c.e.z, .int .i64 c.r.x, .int .i64 c.r.y, .int .i64 c.r.z, .int .i64 c.u.x, .int .i64 c.u.y, .int .i64 c.u.z, .int .i64 c.f.x, .int .i64 c.f.y, .int .i64 c.f.z, .int .i64 c.fo, .int .i64 c.wi, .int .i64 c.he, .int .i64 c.ne] 25)) W4) ∧ Hid (W4.ownsRow ((w.alloc (.cells #[.int .i64 c.e.x, .int .i64 c.e.y, .int .i64 c.e.z, .int .i64 c.r.x, .int .i64 c.r.y, .int .i64 c.r.z, .int .i64 c.u.x, .int .i64 c.u.y, .int .i64 c.u.z, .int .i64 c.f.x, .int .i64 c.f.y, .int .i64 c.f.z, .int .i64 c.fo, .int .i64 c.wi, .int .i64 c.he, .int .i64 c.ne] 25))).heap.size 35 5 (.slice (some ⟨m, 0, none⟩) 1 1) 1 [.int .i64 (k : Int), .int .i64 s.x, .int .i64 s.y, .int .i64 s.r, .int .i64 s.d]) ∧ Hid (W4.ownsRow ((w.alloc (.cells #[.int .i64 c.e.x, .int .i64 c.e.y, .int .i64 c.e.z, .int .i64 c.r.x, .int .i64 c.r.y, .int .i64 c.r.z, .int .i64 c.u.x, .int .i64 c.u.y, .int .i64 c.u.z, .int .i64 c.f.x, .int .i64 c.f.y, .int .i64 c.f.z, .int .i64 c.fo, .int .i64 c.wi, .int .i64 c.he, .int .i64 c.ne] 25))).heap.size 35 5 (.slice (some ⟨gb, 0, none⟩) R.length cp) R.length (csl R)) :=
                    ⟨_, rfl, Lib.hid (Below.xt HB3.out HB3.out.size _), Lib.hid (own_xt HBox3.out _), Lib.hid (own_xt HOut3.out _)⟩
                  rw [hW4]
                  clear hW4 hcnd hlo HB3 HBox3 HOut3 c0 c1 c2 c3 c4 om HRL HD HE HIX2
                  have hRN := HRN.out
                  have ogb : old gb W4 := own_old HOut4.out
                  have hjcp : R.length ≤ cp := by
                    rcases HOut4.out.2 with ⟨e1, _⟩ | ⟨g8, cap8, cur8, e1, _, _, e2, _⟩
                    · cases e1
                    · injection e1 with _ _ e3
                      omega
                  have j3 : (0 : Int) ≤ (j : Int) := by omega
                  have j4 : (j : Int) ≤ (cp : Int) := by omega
                  have j5 : (j : Int) ≤ (R.length : Int) := by omega
                  go_wp2_with (at_builtin; go_must (refine wpList_append_own _ rfl _ _ 42 rfl W4.heap.size 35 i0 _ 5 40 Try.underlying42 hi0 hz0 hz1 hz2 rfl (by omega) (.slice none 0 0) 0 [] rfl own_nil ⟨gb, 0, none⟩ j _ (csl (R.take j)) rfl (by rw [csl_len, List.length_take]; omega) (news_lo HOut4.out) (csl_one _) ?_ ?_ ?_ ?_))
                  · simp only [maxLen]; omega
                  · omega
                  · exact Nat.le_refl _
                  intro v1 w1 hown1 hgr1 _
                  try simp only [Nat.zero_add, List.nil_append] at hown1
                  have HB5 := Lib.hid (show Below W4.heap.size W4 w1 from below_noneR hgr1)
                  have HO1 := Lib.hid (show w1.ownsRow W4.heap.size 35 5 v1 j (csl (R.take j)) from hown1)
                  have HBox5 := Lib.hid (own_laterR HBox4.out HB5.out)
                  clear hown1 hgr1 HBox4 ogb
                  have c0 : w1.cell? ⟨m, 0, none⟩ = some (.int .i64 (k : Int)) := HBox5.out.cellAt 0 (by omega)
                  have c1 : w1.cell? ⟨m, 1, none⟩ = some (.int .i64 s.x) := HBox5.out.cellAt 1 (by omega)
                  have c2 : w1.cell? ⟨m, 2, none⟩ = some (.int .i64 s.y) := HBox5.out.cellAt 2 (by omega)
                  have c3 : w1.cell? ⟨m, 3, none⟩ = some (.int .i64 s.r) := HBox5.out.cellAt 3 (by omega)
                  have c4 : w1.cell? ⟨m, 4, none⟩ = some (.int .i64 s.d) := HBox5.out.cellAt 4 (by omega)
                  have om : old m w1 := (HBox5.out.lt m rfl).2
                  go_upto_region 14 with fail
                  go_wp2_with (at_builtin; go_must (refine wpList_append_own _ rfl _ _ 42 rfl W4.heap.size 35 i0 _ 5 40 Try.underlying42 hi0 hz0 hz1 hz2 rfl (by omega) v1 j (csl (R.take j)) rfl (HO1.out.alloc _) _ 1 _ [.int .i64 k, .int .i64 s.x, .int .i64 s.y, .int .i64 s.r, .int .i64 s.d] rfl rfl ?_ ?_ ?_ ?_ ?_ ?_))
                  · exact cells_new _ _ _ _ (by simp)
                  · intro u hu; simp only [List.mem_cons, List.not_mem_nil, or_false] at hu; rcases hu with rfl | rfl | rfl | rfl | rfl <;> rfl
                  · simp only [maxLen]; omega
                  · omega
                  · have := HB5.out.size; simp; omega
                  intro v2 w2 hown2 hgr2 _
                  have HB6 := Lib.hid (show Below W4.heap.size W4 w2 from below_grown (n := j) (v := v1) (xs := csl (R.take j)) (e := 35) (s := 5) (HB5.out.alloc HB5.out.size (.cells #[.int .i64 k, .int .i64 s.x, .int .i64 s.y, .int .i64 s.r, .int .i64 s.d] 35)) (by have := HB5.out.size; simp; omega) (HO1.out.alloc _) hgr2)
                  have HO2 := Lib.hid (show w2.ownsRow W4.heap.size 35 5 v2 (j + 1) (csl (R.take j ++ [s])) by rw [csl_app]; simp only [csl, cs5, List.flatMap_cons, List.flatMap_nil, List.append_nil]; rw [HIXs.out]; exact hown2)
                  have HOut6 := Lib.hid (own_laterR HOut4.out HB6.out)
                  clear hown2 hgr2 HO1 HB5 HBox5 c0 c1 c2 c3 c4 om
                  have ogb : old gb w2 := own_old HOut6.out
                  rcases Nat.lt_or_ge j cp with hcj | hcj
                  · have ncj : ¬ cp = j := by omega
                    go_upto_region 15 with fail
                    go_wp2_with (at_builtin; go_must (refine wpList_append_own _ rfl _ _ 42 rfl W4.heap.size 35 i0 _ 5 40 Try.underlying42 hi0 hz0 hz1 hz2 rfl (by omega) v2 (j + 1) (csl (R.take j ++ [s])) rfl HO2.out ⟨gb, j * 5, none⟩ (R.length - j) _ (csl (R.drop j)) rfl (by rw [csl_len, List.length_drop]) (news_hi hj HOut6.out) (csl_one _) ?_ ?_ ?_ ?_))
                    · simp only [maxLen]; omega
                    · omega
                    · exact HB6.out.size
                    intro v3 w3 hown3 hgr3 _
                    have HB7 := Lib.hid (show Below W4.heap.size W4 w3 from below_grown (n := j + 1) (v := v2) (xs := csl (R.take j ++ [s])) (e := 35) (s := 5) HB6.out HB6.out.size HO2.out hgr3)
                    have HO3 := Lib.hid (show w3.ownsRow W4.heap.size 35 5 v3 (insAt R j s).length (csl (insAt R j s)) from by
                      rw [insAt_len, show insAt R j s = (R.take j ++ [s]) ++ R.drop j by simp [insAt], csl_app, show R.length + 1 = j + 1 + (R.length - j) by omega]
                      exact hown3)
                    have HRN2 := Lib.hid (show (insAt R j s).length ≤ k + 1 by rw [insAt_len]; omega)
                    obtain ⟨g9, hg9⟩ := xt_of_below (Below.next HB4.out HB7.out HB4.out.size)
                    subst hg9
                    clear hown3 hgr3 HB6 HO2 HOut6 HOut4 HB7
                    go_wp2_with fail
                    exact ⟨⟨k + 1, g9, insAt R j s, by omega, by go_num, rfl, HRL2, HRN2, Lib.hid (own_lowR HO3.out HB4.out.size)⟩, by simp [intOf]; omega⟩
                  · obtain rfl : j = cp := by omega
                    have hRj : R.length - j = 0 := by omega
                    clear hRj
                    go_upto_region 15 with fail
                    go_wp2_with (at_builtin; go_must (refine wpList_append_own _ rfl _ _ 42 rfl W4.heap.size 35 i0 _ 5 40 Try.underlying42 hi0 hz0 hz1 hz2 rfl (by omega) v2 (j + 1) (csl (R.take j ++ [s])) rfl HO2.out ⟨gb, 0, none⟩ 0 0 [] rfl rfl (fun q u h => nomatch h) (fun u h => nomatch h) ?_ ?_ ?_ ?_))
                    · simp only [maxLen]; omega
                    · omega
                    · exact HB6.out.size
                    intro v3 w3 hown3 hgr3 _
                    have HB7 := Lib.hid (show Below W4.heap.size W4 w3 from below_grown (n := j + 1) (v := v2) (xs := csl (R.take j ++ [s])) (e := 35) (s := 5) HB6.out HB6.out.size HO2.out hgr3)
                    have HO3 := Lib.hid (show w3.ownsRow W4.heap.size 35 5 v3 (insAt R j s).length (csl (insAt R j s)) from by
                      rw [insAt_len, show insAt R j s = R.take j ++ [s] by rw [insAt, List.drop_eq_nil_of_le (by omega)], show R.length + 1 = j + 1 by omega]
                      first | exact hown3 | simpa using hown3)
                    have HRN2 := Lib.hid (show (insAt R j s).length ≤ k + 1 by rw [insAt_len]; omega)
                    obtain ⟨g9, hg9⟩ := xt_of_below (Below.next HB4.out HB7.out HB4.out.size)
                    subst hg9
                    clear hown3 hgr3 HB6 HO2 HOut6 HOut4 HB7
                    go_wp2_with fail
                    exact ⟨⟨k + 1, g9, insAt R j s, by omega, by go_num, rfl, HRL2, HRN2, Lib.hid (own_lowR HO3.out HB4.out.size)⟩, by simp [intOf]; omega⟩
                  --J}
            --G}
        --C}
      --A}
    · skip
      --D{
      have e1 : k = n := by omega
      subst e1
      have HRw := Lib.hid (Row.of_own (f := fun i => scell (sfn R i)) (show (xt (w.alloc (.cells #[.int .i64 c.e.x, .int .i64 c.e.y, .int .i64 c.e.z, .int .i64 c.r.x, .int .i64 c.r.y, .int .i64 c.r.z, .int .i64 c.u.x, .int .i64 c.u.y, .int .i64 c.u.z, .int .i64 c.f.x, .int .i64 c.f.y, .int .i64 c.f.z, .int .i64 c.fo, .int .i64 c.wi, .int .i64 c.he, .int .i64 c.ne] 25)) g).ownsRow ((w.alloc (.cells #[.int .i64 c.e.x, .int .i64 c.e.y, .int .i64 c.e.z, .int .i64 c.r.x, .int .i64 c.r.y, .int .i64 c.r.z, .int .i64 c.u.x, .int .i64 c.u.y, .int .i64 c.u.z, .int .i64 c.f.x, .int .i64 c.f.y, .int .i64 c.f.z, .int .i64 c.fo, .int .i64 c.wi, .int .i64 c.he, .int .i64 c.ne] 25))).heap.size 35 5 u8 R.length (flat R.length 5 fun i => scell (sfn R i)) from by have := HO.out; rwa [← row_csl R.length R rfl] at this) rfl)
      obtain ⟨A2, c2, hu, HRow⟩ := HRw.out
      subst hu
      clear HRw HO
      go_wp2_with fail
      go_ret2
      exact ⟨R, A2, c2, HRL.out, rfl, (by repeat' (first | exact Below.refl _ _ | assumption | refine Below.xt ?_ ?_ _ | refine Below.alloc ?_ ?_ _ | refine Below.drew ?_ | refine Below.setCell ?_ ?_ _ | (simp; done) | (simp; omega))), HRow⟩
      --D}

end Go.Proofs.Ytjeemlnhokihoaa

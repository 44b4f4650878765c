/- Walks of the library's stable sort of spots: a merge, whatever the sides. Conditions stand in each theorem. -/
import Derived.Test.YtjeemlnhokihoaaCamT5
import Derived.Deep.DeepCutAuto
namespace Go.Proofs.Ytjeemlnhokihoaa
open Go.RowKit
set_option linter.unusedVariables false
set_option linter.unusedSimpArgs false

theorem cutd_of' {f : Nat → Sp} {a m b s s0 r0 mid N : Nat} (hmid : (a + b) / 2 = mid) (hN : mid + m = N) (ha : SrtD f a m) (hb : SrtD f m b) (hc : Crs f a m b) (h1 : a < m) (h2 : m < b) (hv : (mid < m ∧ s0 = N - b ∧ r0 = mid) ∨ (m ≤ mid ∧ s0 = a ∧ r0 = m)) (h3 : s0 ≤ s) (h4 : s ≤ r0)
    (lo : s = s0 ∨ (f (N - s)).d ≤ (f (s - 1)).d) (hi : s = r0 ∨ (f s).d < (f (N - 1 - s)).d) : Cutd f a m b s (rot f s m (N - s)) := by
  have he : (a + b) / 2 + m - s = N - s := by omega
  rw [← he]
  refine cutd_of ha hb hc (by omega) (by omega) (by omega) (by omega) (by omega) (by omega) (fun i j h5 h6 h7 h8 => ?_) (fun i j h5 h6 h7 h8 => ?_)
  · rcases lo with e | lo
    · omega
    · refine (lt_of_cross hc h5 (by omega) (by omega) h8).1 ?_
      have A : (f (s - 1)).d ≤ (f i).d := by
        by_cases e : i = s - 1
        · rw [e]; omega
        · have := ha i (s - 1) h5 (by omega) (by omega); unfold lts at this; omega
      have B : (f j).d ≤ (f (N - s)).d := by
        by_cases e : j = N - s
        · rw [e]; omega
        · have := hb (N - s) j (by omega) (by omega) h8; unfold lts at this; omega
      omega
  · rcases hi with e | hi
    · omega
    · refine (lt_of_cross hc (by omega) h6 h7 (by omega)).2 ?_
      have A : (f i).d ≤ (f s).d := by
        by_cases e : i = s
        · rw [e]; omega
        · have := ha s i (by omega) (by omega) h6; unfold lts at this; omega
      have B : (f (N - 1 - s)).d ≤ (f j).d := by
        by_cases e : j = N - 1 - s
        · rw [e]; omega
        · have := hb j (N - 1 - s) h7 (by omega) (by omega); unfold lts at this; omega
      omega

/-- What the call does for ranges of this length or less. -/
def SymTo (g n cap base K : Nat) : Prop := ∀ (f : Nat → Sp) (a m b : Nat) (w : World), b - a ≤ K → w.ownsRow base 35 5 (.slice (some ⟨g, 0, none⟩) n cap) n (rowS f n) → (∀ i, (f i).ok) → a < m → m < b → b ≤ n → SrtD f a m → SrtD f m b → Crs f a m b →
    Calls Try.prog 52 #[.slice (some ⟨g, 0, none⟩) n cap, .int .i64 (a : Int), .int .i64 (m : Int), .int .i64 (b : Int), .func (.func 40) #[] #[]] w (Merges g n cap base f a b w)

set_option maxRecDepth 100000 in
set_option maxHeartbeats 6400000 in
theorem symM1_any (g n cap base K : Nat) (f : Nat → Sp) (a m b mid : Nat) (w : World) (IH : SymTo g n cap base K) (hK : b - a ≤ K + 1) (hown : w.ownsRow base 35 5 (.slice (some ⟨g, 0, none⟩) n cap) n (rowS f n)) (hok : ∀ i, (f i).ok) (h1 : a + 2 ≤ m) (h2 : m + 2 ≤ b) (h3 : b ≤ n) (hn : n ≤ 4294967296) (ha : SrtD f a m) (hb : SrtD f m b) (hc : Crs f a m b) (hmid : (a + b) / 2 = mid) (hv : mid < m) :
    Calls Try.prog 52 #[.slice (some ⟨g, 0, none⟩) n cap, .int .i64 (a : Int), .int .i64 (m : Int), .int .i64 (b : Int), .func (.func 40) #[] #[]] w (Merges g n cap base f a b w) := by
  have hk1 : a ≤ n := by omega
  have hk2 : m ≤ n := by omega
  have HI := Lib.hid IH
  have HO := Lib.hid hown
  have HF := Lib.hid hok
  obtain ⟨am, ham⟩ : ∃ x, m - a = x := ⟨_, rfl⟩
  obtain ⟨bm, hbm⟩ : ∃ x, b - m = x := ⟨_, rfl⟩
  obtain ⟨N, hN⟩ : ∃ x, mid + m = x := ⟨_, rfl⟩
  obtain ⟨p0, hp0⟩ : ∃ x, N - 1 = x := ⟨_, rfl⟩
  have w0 : IntKind.i64.wrap ((m : Int) - (a : Int)) = (am : Int) := by rw [show (am : Int) = (m : Int) - (a : Int) by omega]; exact IntWalk.i64_in _ (by omega)
  have w1 : IntKind.i64.wrap ((b : Int) - (m : Int)) = (bm : Int) := by rw [show (bm : Int) = (b : Int) - (m : Int) by omega]; exact IntWalk.i64_in _ (by omega)
  have w2 : IntKind.i64.wrap ((mid : Int) + (m : Int)) = (N : Int) := by rw [show (N : Int) = (mid : Int) + (m : Int) by omega]; exact IntWalk.i64_in _ (by omega)
  have w4 : IntKind.i64.wrap ((N : Int) - 1) = (p0 : Int) := by rw [show (p0 : Int) = (N : Int) - 1 by omega]; exact IntWalk.i64_in _ (by omega)
  have d0 : ((am : Int) == 1) = false := by simp; omega
  have d0' : (am == 1) = false := by simp; omega
  have d1 : ((bm : Int) == 1) = false := by simp; omega
  have d1' : (bm == 1) = false := by simp; omega
  have hmi : ((a : Int) + (b : Int)) / 2 = (mid : Int) := by omega
  have d2 : decide ((mid : Int) < (m : Int)) = true := by simp; omega
  have d2' : decide (mid < m) = true := by simp; omega
  obtain ⟨s0, hs0⟩ : ∃ x, N - b = x := ⟨_, rfl⟩
  have w3 : IntKind.i64.wrap ((N : Int) - (b : Int)) = (s0 : Int) := by rw [show (s0 : Int) = (N : Int) - (b : Int) by omega]; exact IntWalk.i64_in _ (by omega)
  have HV := Lib.hid (show (mid < m ∧ s0 = N - b ∧ mid = mid) ∨ (m ≤ mid ∧ s0 = a ∧ mid = m) from .inl ⟨hv, hs0.symm, rfl⟩)
  have HB0 := Lib.hid (show s0 ≤ mid by omega)
  have hb0 : mid ≤ m ∧ mid ≤ mid ∧ mid < n ∧ mid ≤ b ∧ a ≤ mid ∧ N ≤ s0 + b ∧ p0 + 1 = N ∧ mid + m = N := by omega
  have HX := Lib.hid hb0
  have HMID := Lib.hid hmid
  have HA := Lib.hid ha
  have HBB := Lib.hid hb
  have HC := Lib.hid hc
  have HK := Lib.hid hK
  clear IH hown hok ham hbm hN hp0 hb0 hs0 hmid ha hb hc hK
  have h1' := Lib.hid h1
  have h2' := Lib.hid h2
  clear h1 h2
  go_enter Try.func52, Try.ntmps52
  go_wp2_with fail
  clear w0 w1 w2 w4 d0 d0' d1 d1' hmi d2 d2' w3
  go_loopw [20, 21] (fun i j wr => ∃ p q : Nat, Hid (s0 ≤ p ∧ p ≤ q ∧ q ≤ mid) ∧ i = .int .i64 p ∧ j = .int .i64 q ∧ Hid ((p = s0 ∨ (f (N - p)).d ≤ (f (p - 1)).d) ∧ (q = mid ∨ (f q).d < (f (N - 1 - q)).d)) ∧ Hid (w.grownBy wr (some g)) ∧ Hid (wr.ownsRow base 35 5 (.slice (some ⟨g, 0, none⟩) n cap) n (rowS f n))) (fun i j _ => (intOf j).toNat - (intOf i).toNat)
  case atStart => exact ⟨s0, mid, Lib.hid ⟨Nat.le_refl _, HB0.out, Nat.le_refl _⟩, rfl, rfl, Lib.hid ⟨.inl rfl, .inl rfl⟩, Lib.hid (World.grownBy.refl _ _), HO⟩
  case round =>
    clear HO
    obtain ⟨p, q, HB, rfl, rfl, HQ, HG, HR⟩ := hrel
    obtain ⟨b1, b2, b3⟩ := HB.out
    obtain ⟨r1, r2, r3, r4, r5, r6, r7, r8⟩ := HX.out
    by_cases hlt : p < q
    · skip
      as_aux_lemma =>
        --A{
        obtain ⟨h, hh⟩ : ∃ h, (p + q) / 2 = h := ⟨_, rfl⟩
        have hmid : ((p : Int) + (q : Int)) / 2 = (h : Int) := by omega
        have hl1 : p ≤ h := by omega
        have hl2 : h < q := by omega
        have hl3 : h < n := by omega
        obtain ⟨z, hz⟩ : ∃ z, N - 1 - h = z := ⟨_, rfl⟩
        have w5 : IntKind.i64.wrap ((p0 : Int) - (h : Int)) = (z : Int) := by rw [show (z : Int) = (p0 : Int) - (h : Int) by omega]; exact IntWalk.i64_in _ (by omega)
        have hl4 : z < n := by omega
        obtain ⟨x0, x1, x2, x3, x4⟩ := own_cells HR.out hl4
        obtain ⟨y0, y1, y2, y3, y4⟩ := own_cells HR.out hl3
        have hog := own_old HR.out
        have CM := fun w => Lib.hid (cmp_any (f z) (f h) w (HF.out _) (HF.out _))
        obtain ⟨p1, p2⟩ := HF.out h
        obtain ⟨p3, p4⟩ := HF.out z
        obtain ⟨sA, hsA⟩ : ∃ s, f z = s := ⟨_, rfl⟩
        rw [hsA] at x0 x1 x2 x3 x4 p3 p4 CM
        have HSA := Lib.hid hsA
        obtain ⟨sB, hsB⟩ : ∃ s, f h = s := ⟨_, rfl⟩
        rw [hsB] at y0 y1 y2 y3 y4 p1 p2 CM
        have HSB := Lib.hid hsB
        clear hsB hsA
        have hh1 : (0 : Int) ≤ (h : Int) := by omega
        have hh2 : (h : Int) < (n : Int) := by omega
        have hh3 : (0 : Int) ≤ (z : Int) := by omega
        have hh4 : (z : Int) < (n : Int) := by omega
        have HL := Lib.hid hl1
        have HL2 := Lib.hid hl2
        have HZ := Lib.hid (show N - 1 - h = z ∧ N - (h + 1) = z by omega)
        clear hh hz r1 r2 r3 r4 r5 r6 r7 r8
        by_cases hlt2 : sB.d < sA.d
        · have e1 : decide (sB.d - sA.d < 0) = true := by simp; omega
          (go_wp2_with fail; refine wp_region_xt (by kernel_rfl) (by kernel_rfl) ?_; (repeat (go_big_quiet_step (first | (go_at_call 40; exact RetB.quiet (CM _).out)))); refine wpQuiet_nil ?_; intro g1; go_wp2_with fail)
          go_roundw
          case rel => exact ⟨p, h, Lib.hid ⟨b1, HL.out, by have := HL2.out; omega⟩, rfl, by go_num, Lib.hid ⟨HQ.out.1, .inr (by rw [HZ.out.1, HSA.out, HSB.out]; omega)⟩, Lib.hid (grown_below HG.out (by repeat' (first | exact Below.refl _ _ | assumption | refine Below.xt ?_ ?_ _ | refine Below.alloc ?_ ?_ _ | refine Below.drew ?_ | refine Below.setCell ?_ ?_ _ | (simp; done) | (simp; omega)))), Lib.hid (own_xt HR.out _)⟩
          case measure => have := HL.out; have := HL2.out; simp [intOf]; omega
        · have e1 : decide (sB.d - sA.d < 0) = false := by simp; omega
          (go_wp2_with fail; refine wp_region_xt (by kernel_rfl) (by kernel_rfl) ?_; (repeat (go_big_quiet_step (first | (go_at_call 40; exact RetB.quiet (CM _).out)))); refine wpQuiet_nil ?_; intro g1; go_wp2_with fail)
          go_roundw
          case rel => exact ⟨h + 1, q, Lib.hid ⟨by have := HL.out; omega, by have := HL2.out; omega, b3⟩, by go_num, rfl, Lib.hid ⟨.inr (by rw [Nat.add_sub_cancel, HZ.out.2, HSA.out, HSB.out]; omega), HQ.out.2⟩, Lib.hid (grown_below HG.out (by repeat' (first | exact Below.refl _ _ | assumption | refine Below.xt ?_ ?_ _ | refine Below.alloc ?_ ?_ _ | refine Below.drew ?_ | refine Below.setCell ?_ ?_ _ | (simp; done) | (simp; omega)))), Lib.hid (own_xt HR.out _)⟩
          case measure => have := HL.out; have := HL2.out; simp [intOf]; omega
        --A}
    · skip
      --B{
      obtain rfl : p = q := by omega
      have HE := Lib.hid (show Cutd f a m b p (rot f p m (N - p)) from cutd_of' HMID.out r8 HA.out HBB.out HC.out (by have := h1'.out; omega) (by have := h2'.out; omega) (by simpa using HV.out) b1 b3 HQ.out.1 HQ.out.2)
      obtain ⟨e, he⟩ : ∃ e, N - p = e := ⟨_, rfl⟩
      have w5 : IntKind.i64.wrap ((N : Int) - (p : Int)) = (e : Int) := by rw [show (e : Int) = (N : Int) - (p : Int) by omega]; exact IntWalk.i64_in _ (by omega)
      rw [he] at HE
      have hem : m ≤ e := by omega
      have hen : e ≤ b := by omega
      have hpm : p ≤ m := by omega
      have HMe := Lib.hid (show (a + b) / 2 + m - p = e by have := HMID.out; omega)
      have hap : a ≤ p := by rcases HV.out with ⟨x1, x2, x3⟩ | ⟨x1, x2, x3⟩ <;> (have := HMID.out; have := h1'.out; omega)
      have HLen := Lib.hid (show p ≤ mid ∧ mid ≤ e ∧ mid - a ≤ K ∧ b - mid ≤ K ∧ a < mid ∧ mid < b by have := HK.out; have := HMID.out; have := h1'.out; have := h2'.out; omega)
      obtain ⟨R, hR⟩ : ∃ R, rot f p m e = R := ⟨_, rfl⟩
      have HRot := Lib.hid hR
      rw [hR] at HE
      have HFR := Lib.hid (show ∀ i, (R i).ok by rw [← hR]; exact (same_rot f hpm hem).all HF.out)
      have CR := fun w ho q1 q2 => Lib.hid (rotate_any g n cap base f p m e w ho q1 q2 (by omega) hn)
      rw [hR] at CR
      obtain ⟨W1, hW1⟩ : ∃ W1 : World, W1 = wr := ⟨_, rfl⟩
      subst hW1
      clear HQ hlt hR he r1 r2 r6 r7 r8 b1 b3 HV HA HBB HC HB0 HX HF HK
      obtain ⟨xb, hxb⟩ : ∃ b, decide (p < m ∧ m < e) = b := ⟨_, rfl⟩
      go_upto_region 39 with fail
      go_cut [185] (fun sx wx => sx = .bool xb ∧ wx = W1)
      case first =>
        as_aux_lemma =>
          by_cases y1 : p < m
          · have f1 : decide ((p : Int) < (m : Int)) = true := by simp; omega
            have f1' : decide (p < m) = true := by simp; omega
            by_cases y2 : m < e
            · have f2 : decide ((m : Int) < (e : Int)) = true := by simp; omega
              have f2' : decide (m < e) = true := by simp; omega
              obtain rfl : xb = true := by rw [← hxb]; simp [y1, y2]
              go_wp2_with fail
              go_meet
              exact ⟨rfl, rfl⟩
            · have f2 : decide ((m : Int) < (e : Int)) = false := by simp; omega
              have f2' : decide (m < e) = false := by simp; omega
              obtain rfl : xb = false := by rw [← hxb]; simp [y2]
              go_wp2_with fail
              go_meet
              exact ⟨rfl, rfl⟩
          · have f1 : decide ((p : Int) < (m : Int)) = false := by simp; omega
            have f1' : decide (p < m) = false := by simp; omega
            obtain rfl : xb = false := by rw [← hxb]; simp [y1]
            go_wp2_with fail
            go_meet
            exact ⟨rfl, rfl⟩
      case rest =>
        obtain ⟨rfl, rfl⟩ := hcut
        have HXB := Lib.hid hxb
        clear hxb
        go_upto_if 185 with fail
        go_cut [] (fun wx => ∃ W2, W2 = wx ∧ Hid (w.grownBy W2 (some g)) ∧ Hid (W2.ownsRow base 35 5 (.slice (some ⟨g, 0, none⟩) n cap) n (rowS R n)))
        case first =>
          as_aux_lemma =>
            --C{
            cases xb with
            | true =>
              obtain ⟨y1, y2⟩ := of_decide_eq_true HXB.out
              go_wp2_with fail
              refine (CR _ HR.out y1 y2).out.mono ?_
              rintro e' w' ⟨rfl, hg, ho⟩
              have HG2 := Lib.hid (grown_two HG.out hg)
              have HO2 := Lib.hid ho
              clear hg ho
              go_wp2_with fail
              go_meet
              exact ⟨_, rfl, HG2, HO2⟩
            | false =>
              have HRR := Lib.hid (show World.ownsRow _ base 35 5 (.slice (some ⟨g, 0, none⟩) n cap) n (rowS R n) by have := of_decide_eq_false HXB.out; rw [← HRot.out, rot_id hpm hem (by omega)]; exact HR.out)
              go_wp2_with fail
              go_meet
              exact ⟨_, rfl, HG, HRR⟩
            --C}
        case rest =>
          clear HG HR CR HRot HXB
          clear xb
          obtain ⟨W2, rfl, HG, HR⟩ := hcut
          obtain ⟨xb, hxb⟩ : ∃ b, decide (a < p ∧ p < mid) = b := ⟨_, rfl⟩
          go_upto_region 41 with fail
          go_cut [199] (fun sx wx => sx = .bool xb ∧ wx = W2)
          case first =>
            as_aux_lemma =>
              by_cases y1 : a < p
              · have f1 : decide ((a : Int) < (p : Int)) = true := by simp; omega
                have f1' : decide (a < p) = true := by simp; omega
                by_cases y2 : p < mid
                · have f2 : decide ((p : Int) < (mid : Int)) = true := by simp; omega
                  have f2' : decide (p < mid) = true := by simp; omega
                  obtain rfl : xb = true := by rw [← hxb]; simp [y1, y2]
                  go_wp2_with fail
                  go_meet
                  exact ⟨rfl, rfl⟩
                · have f2 : decide ((p : Int) < (mid : Int)) = false := by simp; omega
                  have f2' : decide (p < mid) = false := by simp; omega
                  obtain rfl : xb = false := by rw [← hxb]; simp [y2]
                  go_wp2_with fail
                  go_meet
                  exact ⟨rfl, rfl⟩
              · have f1 : decide ((a : Int) < (p : Int)) = false := by simp; omega
                have f1' : decide (a < p) = false := by simp; omega
                obtain rfl : xb = false := by rw [← hxb]; simp [y1]
                go_wp2_with fail
                go_meet
                exact ⟨rfl, rfl⟩
          case rest =>
            obtain ⟨rfl, rfl⟩ := hcut
            have HXB := Lib.hid hxb
            clear hxb
            go_upto_if 199 with fail
            go_cut [] (fun wx => ∃ f2, Hid (Mrg R a mid f2) ∧ Hid (w.grownBy wx (some g)) ∧ Hid (wx.ownsRow base 35 5 (.slice (some ⟨g, 0, none⟩) n cap) n (rowS f2 n)))
            case first =>
              as_aux_lemma =>
                --D{
                have hE1 := HE.out.s1
                have hE2 := HE.out.s2
                have hE3 := HE.out.c1
                rw [HMID.out] at hE2 hE3
                cases xb with
                | true =>
                  obtain ⟨y1, y2⟩ := of_decide_eq_true HXB.out
                  have C := fun w ho => Lib.hid (HI.out R a p mid w HLen.out.2.2.1 ho HFR.out y1 y2 (by omega) hE1 hE2 hE3)
                  clear hE1 hE2 hE3
                  go_wp2_with fail
                  refine (C _ HR.out).out.mono ?_
                  rintro e' w' ⟨f2, hm, rfl, hg, ho⟩
                  have HG2 := Lib.hid (grown_two HG.out hg)
                  have HO2 := Lib.hid ho
                  have HM2 := Lib.hid hm
                  clear hg ho hm
                  go_wp2_with fail
                  go_meet
                  exact ⟨f2, HM2, HG2, HO2⟩
                | false =>
                  have HM2 := Lib.hid (mrg_triv hE1 hE2 (by have := of_decide_eq_false HXB.out; omega))
                  clear hE1 hE2 hE3
                  go_wp2_with fail
                  go_meet
                  exact ⟨R, HM2, HG, HR⟩
                --D}
            case rest =>
              clear HXB
              clear xb
              as_aux_lemma =>
                --E{
                clear HG HR
                obtain ⟨f2, HM2, HG, HR⟩ := hcut
                obtain ⟨hE1, hE2, hE3⟩ := HE.out.again (by rw [HMID.out]; exact HM2.out)
                rw [HMID.out, show mid + m - p = e by have := HMe.out; rw [HMID.out] at this; exact this] at hE1 hE2 hE3
                have HF2 := Lib.hid (HM2.out.same.all HFR.out)
                have hend := fun f3 (h : Mrg f2 mid b f3) => HE.out.mrg (by omega) (show Mrg R a ((a + b) / 2) f2 by rw [HMID.out]; exact HM2.out) (show Mrg f2 ((a + b) / 2) b f3 by rw [HMID.out]; exact h)
                have HEnd := Lib.hid hend
                clear hend
                by_cases y1 : mid < e
                · have f1 : decide ((mid : Int) < (e : Int)) = true := by simp; omega
                  have f1' : decide (mid < e) = true := by simp; omega
                  by_cases y2 : e < b
                  · have f2' : decide ((e : Int) < (b : Int)) = true := by simp; omega
                    have f2'' : decide (e < b) = true := by simp; omega
                    have C := fun w ho => Lib.hid (HI.out f2 mid e b w HLen.out.2.2.2.1 ho HF2.out y1 y2 h3 hE1 hE2 hE3)
                    clear hE1 hE2 hE3
                    go_wp2_with fail
                    refine (C _ HR.out).out.mono ?_
                    rintro e' w' ⟨f3, hm, rfl, hg, ho⟩
                    have HG2 := Lib.hid (grown_two HG.out hg)
                    have HO2 := Lib.hid ho
                    have HM3 := Lib.hid hm
                    clear hg ho hm
                    go_wp2_with fail
                    go_end0
                    exact ⟨f3, HEnd.out _ HM3.out, rfl, HG2.out, HO2.out⟩
                  · have f2' : decide ((e : Int) < (b : Int)) = false := by simp; omega
                    have f2'' : decide (e < b) = false := by simp; omega
                    have HM3 := Lib.hid (mrg_triv hE1 hE2 (.inr (by omega)))
                    clear hE1 hE2 hE3
                    go_wp2_with fail
                    go_end0
                    exact ⟨f2, HEnd.out _ HM3.out, rfl, HG.out, HR.out⟩
                · have f1 : decide ((mid : Int) < (e : Int)) = false := by simp; omega
                  have f1' : decide (mid < e) = false := by simp; omega
                  have HM3 := Lib.hid (mrg_triv hE1 hE2 (.inl (by omega)))
                  clear hE1 hE2 hE3
                  go_wp2_with fail
                  go_end0
                  exact ⟨f2, HEnd.out _ HM3.out, rfl, HG.out, HR.out⟩
                --E}
      --B}

set_option maxRecDepth 100000 in
set_option maxHeartbeats 6400000 in
theorem symM2_any (g n cap base K : Nat) (f : Nat → Sp) (a m b mid : Nat) (w : World) (IH : SymTo g n cap base K) (hK : b - a ≤ K + 1) (hown : w.ownsRow base 35 5 (.slice (some ⟨g, 0, none⟩) n cap) n (rowS f n)) (hok : ∀ i, (f i).ok) (h1 : a + 2 ≤ m) (h2 : m + 2 ≤ b) (h3 : b ≤ n) (hn : n ≤ 4294967296) (ha : SrtD f a m) (hb : SrtD f m b) (hc : Crs f a m b) (hmid : (a + b) / 2 = mid) (hv : m ≤ mid) :
    Calls Try.prog 52 #[.slice (some ⟨g, 0, none⟩) n cap, .int .i64 (a : Int), .int .i64 (m : Int), .int .i64 (b : Int), .func (.func 40) #[] #[]] w (Merges g n cap base f a b w) := by
  have hk1 : a ≤ n := by omega
  have hk2 : m ≤ n := by omega
  have HI := Lib.hid IH
  have HO := Lib.hid hown
  have HF := Lib.hid hok
  obtain ⟨am, ham⟩ : ∃ x, m - a = x := ⟨_, rfl⟩
  obtain ⟨bm, hbm⟩ : ∃ x, b - m = x := ⟨_, rfl⟩
  obtain ⟨N, hN⟩ : ∃ x, mid + m = x := ⟨_, rfl⟩
  obtain ⟨p0, hp0⟩ : ∃ x, N - 1 = x := ⟨_, rfl⟩
  have w0 : IntKind.i64.wrap ((m : Int) - (a : Int)) = (am : Int) := by rw [show (am : Int) = (m : Int) - (a : Int) by omega]; exact IntWalk.i64_in _ (by omega)
  have w1 : IntKind.i64.wrap ((b : Int) - (m : Int)) = (bm : Int) := by rw [show (bm : Int) = (b : Int) - (m : Int) by omega]; exact IntWalk.i64_in _ (by omega)
  have w2 : IntKind.i64.wrap ((mid : Int) + (m : Int)) = (N : Int) := by rw [show (N : Int) = (mid : Int) + (m : Int) by omega]; exact IntWalk.i64_in _ (by omega)
  have w4 : IntKind.i64.wrap ((N : Int) - 1) = (p0 : Int) := by rw [show (p0 : Int) = (N : Int) - 1 by omega]; exact IntWalk.i64_in _ (by omega)
  have d0 : ((am : Int) == 1) = false := by simp; omega
  have d0' : (am == 1) = false := by simp; omega
  have d1 : ((bm : Int) == 1) = false := by simp; omega
  have d1' : (bm == 1) = false := by simp; omega
  have hmi : ((a : Int) + (b : Int)) / 2 = (mid : Int) := by omega
  have d2 : decide ((mid : Int) < (m : Int)) = false := by simp; omega
  have d2' : decide (mid < m) = false := by simp; omega

  have HV := Lib.hid (show (mid < m ∧ a = N - b ∧ m = mid) ∨ (m ≤ mid ∧ a = a ∧ m = m) from .inr ⟨hv, rfl, rfl⟩)
  have HB0 := Lib.hid (show a ≤ m by omega)
  have hb0 : m ≤ m ∧ m ≤ mid ∧ mid < n ∧ mid ≤ b ∧ a ≤ mid ∧ N ≤ a + b ∧ p0 + 1 = N ∧ mid + m = N := by omega
  have HX := Lib.hid hb0
  have HMID := Lib.hid hmid
  have HA := Lib.hid ha
  have HBB := Lib.hid hb
  have HC := Lib.hid hc
  have HK := Lib.hid hK
  clear IH hown hok ham hbm hN hp0 hb0 hmid ha hb hc hK
  have h1' := Lib.hid h1
  have h2' := Lib.hid h2
  clear h1 h2
  go_enter Try.func52, Try.ntmps52
  go_wp2_with fail
  clear w0 w1 w2 w4 d0 d0' d1 d1' hmi d2 d2' 
  go_loopw [20, 21] (fun i j wr => ∃ p q : Nat, Hid (a ≤ p ∧ p ≤ q ∧ q ≤ m) ∧ i = .int .i64 p ∧ j = .int .i64 q ∧ Hid ((p = a ∨ (f (N - p)).d ≤ (f (p - 1)).d) ∧ (q = m ∨ (f q).d < (f (N - 1 - q)).d)) ∧ Hid (w.grownBy wr (some g)) ∧ Hid (wr.ownsRow base 35 5 (.slice (some ⟨g, 0, none⟩) n cap) n (rowS f n))) (fun i j _ => (intOf j).toNat - (intOf i).toNat)
  case atStart => exact ⟨a, m, Lib.hid ⟨Nat.le_refl _, HB0.out, Nat.le_refl _⟩, rfl, rfl, Lib.hid ⟨.inl rfl, .inl rfl⟩, Lib.hid (World.grownBy.refl _ _), HO⟩
  case round =>
    clear HO
    obtain ⟨p, q, HB, rfl, rfl, HQ, HG, HR⟩ := hrel
    obtain ⟨b1, b2, b3⟩ := HB.out
    obtain ⟨r1, r2, r3, r4, r5, r6, r7, r8⟩ := HX.out
    by_cases hlt : p < q
    · skip
      as_aux_lemma =>
        --A{
        obtain ⟨h, hh⟩ : ∃ h, (p + q) / 2 = h := ⟨_, rfl⟩
        have hmid : ((p : Int) + (q : Int)) / 2 = (h : Int) := by omega
        have hl1 : p ≤ h := by omega
        have hl2 : h < q := by omega
        have hl3 : h < n := by omega
        obtain ⟨z, hz⟩ : ∃ z, N - 1 - h = z := ⟨_, rfl⟩
        have w5 : IntKind.i64.wrap ((p0 : Int) - (h : Int)) = (z : Int) := by rw [show (z : Int) = (p0 : Int) - (h : Int) by omega]; exact IntWalk.i64_in _ (by omega)
        have hl4 : z < n := by omega
        obtain ⟨x0, x1, x2, x3, x4⟩ := own_cells HR.out hl4
        obtain ⟨y0, y1, y2, y3, y4⟩ := own_cells HR.out hl3
        have hog := own_old HR.out
        have CM := fun w => Lib.hid (cmp_any (f z) (f h) w (HF.out _) (HF.out _))
        obtain ⟨p1, p2⟩ := HF.out h
        obtain ⟨p3, p4⟩ := HF.out z
        obtain ⟨sA, hsA⟩ : ∃ s, f z = s := ⟨_, rfl⟩
        rw [hsA] at x0 x1 x2 x3 x4 p3 p4 CM
        have HSA := Lib.hid hsA
        obtain ⟨sB, hsB⟩ : ∃ s, f h = s := ⟨_, rfl⟩
        rw [hsB] at y0 y1 y2 y3 y4 p1 p2 CM
        have HSB := Lib.hid hsB
        clear hsB hsA
        have hh1 : (0 : Int) ≤ (h : Int) := by omega
        have hh2 : (h : Int) < (n : Int) := by omega
        have hh3 : (0 : Int) ≤ (z : Int) := by omega
        have hh4 : (z : Int) < (n : Int) := by omega
        have HL := Lib.hid hl1
        have HL2 := Lib.hid hl2
        have HZ := Lib.hid (show N - 1 - h = z ∧ N - (h + 1) = z by omega)
        clear hh hz r1 r2 r3 r4 r5 r6 r7 r8
        by_cases hlt2 : sB.d < sA.d
        · have e1 : decide (sB.d - sA.d < 0) = true := by simp; omega
          (go_wp2_with fail; refine wp_region_xt (by kernel_rfl) (by kernel_rfl) ?_; (repeat (go_big_quiet_step (first | (go_at_call 40; exact RetB.quiet (CM _).out)))); refine wpQuiet_nil ?_; intro g1; go_wp2_with fail)
          go_roundw
          case rel => exact ⟨p, h, Lib.hid ⟨b1, HL.out, by have := HL2.out; omega⟩, rfl, by go_num, Lib.hid ⟨HQ.out.1, .inr (by rw [HZ.out.1, HSA.out, HSB.out]; omega)⟩, Lib.hid (grown_below HG.out (by repeat' (first | exact Below.refl _ _ | assumption | refine Below.xt ?_ ?_ _ | refine Below.alloc ?_ ?_ _ | refine Below.drew ?_ | refine Below.setCell ?_ ?_ _ | (simp; done) | (simp; omega)))), Lib.hid (own_xt HR.out _)⟩
          case measure => have := HL.out; have := HL2.out; simp [intOf]; omega
        · have e1 : decide (sB.d - sA.d < 0) = false := by simp; omega
          (go_wp2_with fail; refine wp_region_xt (by kernel_rfl) (by kernel_rfl) ?_; (repeat (go_big_quiet_step (first | (go_at_call 40; exact RetB.quiet (CM _).out)))); refine wpQuiet_nil ?_; intro g1; go_wp2_with fail)
          go_roundw
          case rel => exact ⟨h + 1, q, Lib.hid ⟨by have := HL.out; omega, by have := HL2.out; omega, b3⟩, by go_num, rfl, Lib.hid ⟨.inr (by rw [Nat.add_sub_cancel, HZ.out.2, HSA.out, HSB.out]; omega), HQ.out.2⟩, Lib.hid (grown_below HG.out (by repeat' (first | exact Below.refl _ _ | assumption | refine Below.xt ?_ ?_ _ | refine Below.alloc ?_ ?_ _ | refine Below.drew ?_ | refine Below.setCell ?_ ?_ _ | (simp; done) | (simp; omega)))), Lib.hid (own_xt HR.out _)⟩
          case measure => have := HL.out; have := HL2.out; simp [intOf]; omega
        --A}
    · skip
      --B{
      obtain rfl : p = q := by omega
      have HE := Lib.hid (show Cutd f a m b p (rot f p m (N - p)) from cutd_of' HMID.out r8 HA.out HBB.out HC.out (by have := h1'.out; omega) (by have := h2'.out; omega) (by simpa using HV.out) b1 b3 HQ.out.1 HQ.out.2)
      obtain ⟨e, he⟩ : ∃ e, N - p = e := ⟨_, rfl⟩
      have w5 : IntKind.i64.wrap ((N : Int) - (p : Int)) = (e : Int) := by rw [show (e : Int) = (N : Int) - (p : Int) by omega]; exact IntWalk.i64_in _ (by omega)
      rw [he] at HE
      have hem : m ≤ e := by omega
      have hen : e ≤ b := by omega
      have hpm : p ≤ m := by omega
      have HMe := Lib.hid (show (a + b) / 2 + m - p = e by have := HMID.out; omega)
      have hap : a ≤ p := by rcases HV.out with ⟨x1, x2, x3⟩ | ⟨x1, x2, x3⟩ <;> (have := HMID.out; have := h1'.out; omega)
      have HLen := Lib.hid (show p ≤ mid ∧ mid ≤ e ∧ mid - a ≤ K ∧ b - mid ≤ K ∧ a < mid ∧ mid < b by have := HK.out; have := HMID.out; have := h1'.out; have := h2'.out; omega)
      obtain ⟨R, hR⟩ : ∃ R, rot f p m e = R := ⟨_, rfl⟩
      have HRot := Lib.hid hR
      rw [hR] at HE
      have HFR := Lib.hid (show ∀ i, (R i).ok by rw [← hR]; exact (same_rot f hpm hem).all HF.out)
      have CR := fun w ho q1 q2 => Lib.hid (rotate_any g n cap base f p m e w ho q1 q2 (by omega) hn)
      rw [hR] at CR
      obtain ⟨W1, hW1⟩ : ∃ W1 : World, W1 = wr := ⟨_, rfl⟩
      subst hW1
      clear HQ hlt hR he r1 r2 r6 r7 r8 b1 b3 HV HA HBB HC HB0 HX HF HK
      obtain ⟨xb, hxb⟩ : ∃ b, decide (p < m ∧ m < e) = b := ⟨_, rfl⟩
      go_upto_region 39 with fail
      go_cut [185] (fun sx wx => sx = .bool xb ∧ wx = W1)
      case first =>
        as_aux_lemma =>
          by_cases y1 : p < m
          · have f1 : decide ((p : Int) < (m : Int)) = true := by simp; omega
            have f1' : decide (p < m) = true := by simp; omega
            by_cases y2 : m < e
            · have f2 : decide ((m : Int) < (e : Int)) = true := by simp; omega
              have f2' : decide (m < e) = true := by simp; omega
              obtain rfl : xb = true := by rw [← hxb]; simp [y1, y2]
              go_wp2_with fail
              go_meet
              exact ⟨rfl, rfl⟩
            · have f2 : decide ((m : Int) < (e : Int)) = false := by simp; omega
              have f2' : decide (m < e) = false := by simp; omega
              obtain rfl : xb = false := by rw [← hxb]; simp [y2]
              go_wp2_with fail
              go_meet
              exact ⟨rfl, rfl⟩
          · have f1 : decide ((p : Int) < (m : Int)) = false := by simp; omega
            have f1' : decide (p < m) = false := by simp; omega
            obtain rfl : xb = false := by rw [← hxb]; simp [y1]
            go_wp2_with fail
            go_meet
            exact ⟨rfl, rfl⟩
      case rest =>
        obtain ⟨rfl, rfl⟩ := hcut
        have HXB := Lib.hid hxb
        clear hxb
        go_upto_if 185 with fail
        go_cut [] (fun wx => ∃ W2, W2 = wx ∧ Hid (w.grownBy W2 (some g)) ∧ Hid (W2.ownsRow base 35 5 (.slice (some ⟨g, 0, none⟩) n cap) n (rowS R n)))
        case first =>
          as_aux_lemma =>
            --C{
            cases xb with
            | true =>
              obtain ⟨y1, y2⟩ := of_decide_eq_true HXB.out
              go_wp2_with fail
              refine (CR _ HR.out y1 y2).out.mono ?_
              rintro e' w' ⟨rfl, hg, ho⟩
              have HG2 := Lib.hid (grown_two HG.out hg)
              have HO2 := Lib.hid ho
              clear hg ho
              go_wp2_with fail
              go_meet
              exact ⟨_, rfl, HG2, HO2⟩
            | false =>
              have HRR := Lib.hid (show World.ownsRow _ base 35 5 (.slice (some ⟨g, 0, none⟩) n cap) n (rowS R n) by have := of_decide_eq_false HXB.out; rw [← HRot.out, rot_id hpm hem (by omega)]; exact HR.out)
              go_wp2_with fail
              go_meet
              exact ⟨_, rfl, HG, HRR⟩
            --C}
        case rest =>
          clear HG HR CR HRot HXB
          clear xb
          obtain ⟨W2, rfl, HG, HR⟩ := hcut
          obtain ⟨xb, hxb⟩ : ∃ b, decide (a < p ∧ p < mid) = b := ⟨_, rfl⟩
          go_upto_region 41 with fail
          go_cut [199] (fun sx wx => sx = .bool xb ∧ wx = W2)
          case first =>
            as_aux_lemma =>
              by_cases y1 : a < p
              · have f1 : decide ((a : Int) < (p : Int)) = true := by simp; omega
                have f1' : decide (a < p) = true := by simp; omega
                by_cases y2 : p < mid
                · have f2 : decide ((p : Int) < (mid : Int)) = true := by simp; omega
                  have f2' : decide (p < mid) = true := by simp; omega
                  obtain rfl : xb = true := by rw [← hxb]; simp [y1, y2]
                  go_wp2_with fail
                  go_meet
                  exact ⟨rfl, rfl⟩
                · have f2 : decide ((p : Int) < (mid : Int)) = false := by simp; omega
                  have f2' : decide (p < mid) = false := by simp; omega
                  obtain rfl : xb = false := by rw [← hxb]; simp [y2]
                  go_wp2_with fail
                  go_meet
                  exact ⟨rfl, rfl⟩
              · have f1 : decide ((a : Int) < (p : Int)) = false := by simp; omega
                have f1' : decide (a < p) = false := by simp; omega
                obtain rfl : xb = false := by rw [← hxb]; simp [y1]
                go_wp2_with fail
                go_meet
                exact ⟨rfl, rfl⟩
          case rest =>
            obtain ⟨rfl, rfl⟩ := hcut
            have HXB := Lib.hid hxb
            clear hxb
            go_upto_if 199 with fail
            go_cut [] (fun wx => ∃ f2, Hid (Mrg R a mid f2) ∧ Hid (w.grownBy wx (some g)) ∧ Hid (wx.ownsRow base 35 5 (.slice (some ⟨g, 0, none⟩) n cap) n (rowS f2 n)))
            case first =>
              as_aux_lemma =>
                --D{
                have hE1 := HE.out.s1
                have hE2 := HE.out.s2
                have hE3 := HE.out.c1
                rw [HMID.out] at hE2 hE3
                cases xb with
                | true =>
                  obtain ⟨y1, y2⟩ := of_decide_eq_true HXB.out
                  have C := fun w ho => Lib.hid (HI.out R a p mid w HLen.out.2.2.1 ho HFR.out y1 y2 (by omega) hE1 hE2 hE3)
                  clear hE1 hE2 hE3
                  go_wp2_with fail
                  refine (C _ HR.out).out.mono ?_
                  rintro e' w' ⟨f2, hm, rfl, hg, ho⟩
                  have HG2 := Lib.hid (grown_two HG.out hg)
                  have HO2 := Lib.hid ho
                  have HM2 := Lib.hid hm
                  clear hg ho hm
                  go_wp2_with fail
                  go_meet
                  exact ⟨f2, HM2, HG2, HO2⟩
                | false =>
                  have HM2 := Lib.hid (mrg_triv hE1 hE2 (by have := of_decide_eq_false HXB.out; omega))
                  clear hE1 hE2 hE3
                  go_wp2_with fail
                  go_meet
                  exact ⟨R, HM2, HG, HR⟩
                --D}
            case rest =>
              clear HXB
              clear xb
              as_aux_lemma =>
                --E{
                clear HG HR
                obtain ⟨f2, HM2, HG, HR⟩ := hcut
                obtain ⟨hE1, hE2, hE3⟩ := HE.out.again (by rw [HMID.out]; exact HM2.out)
                rw [HMID.out, show mid + m - p = e by have := HMe.out; rw [HMID.out] at this; exact this] at hE1 hE2 hE3
                have HF2 := Lib.hid (HM2.out.same.all HFR.out)
                have hend := fun f3 (h : Mrg f2 mid b f3) => HE.out.mrg (by omega) (show Mrg R a ((a + b) / 2) f2 by rw [HMID.out]; exact HM2.out) (show Mrg f2 ((a + b) / 2) b f3 by rw [HMID.out]; exact h)
                have HEnd := Lib.hid hend
                clear hend
                by_cases y1 : mid < e
                · have f1 : decide ((mid : Int) < (e : Int)) = true := by simp; omega
                  have f1' : decide (mid < e) = true := by simp; omega
                  by_cases y2 : e < b
                  · have f2' : decide ((e : Int) < (b : Int)) = true := by simp; omega
                    have f2'' : decide (e < b) = true := by simp; omega
                    have C := fun w ho => Lib.hid (HI.out f2 mid e b w HLen.out.2.2.2.1 ho HF2.out y1 y2 h3 hE1 hE2 hE3)
                    clear hE1 hE2 hE3
                    go_wp2_with fail
                    refine (C _ HR.out).out.mono ?_
                    rintro e' w' ⟨f3, hm, rfl, hg, ho⟩
                    have HG2 := Lib.hid (grown_two HG.out hg)
                    have HO2 := Lib.hid ho
                    have HM3 := Lib.hid hm
                    clear hg ho hm
                    go_wp2_with fail
                    go_end0
                    exact ⟨f3, HEnd.out _ HM3.out, rfl, HG2.out, HO2.out⟩
                  · have f2' : decide ((e : Int) < (b : Int)) = false := by simp; omega
                    have f2'' : decide (e < b) = false := by simp; omega
                    have HM3 := Lib.hid (mrg_triv hE1 hE2 (.inr (by omega)))
                    clear hE1 hE2 hE3
                    go_wp2_with fail
                    go_end0
                    exact ⟨f2, HEnd.out _ HM3.out, rfl, HG.out, HR.out⟩
                · have f1 : decide ((mid : Int) < (e : Int)) = false := by simp; omega
                  have f1' : decide (mid < e) = false := by simp; omega
                  have HM3 := Lib.hid (mrg_triv hE1 hE2 (.inl (by omega)))
                  clear hE1 hE2 hE3
                  go_wp2_with fail
                  go_end0
                  exact ⟨f2, HEnd.out _ HM3.out, rfl, HG.out, HR.out⟩
                --E}
      --B}

theorem sym_any (g n cap base : Nat) (hn : n ≤ 4294967296) : ∀ K, SymTo g n cap base K
  | 0 => fun f a m b w hK ho hok h1 h2 => by omega
  | K + 1 => fun f a m b w hK ho hok h1 h2 h3 ha hb hc => by
    by_cases e1 : m = a + 1
    · exact symL_any g n cap base f a m b w ho hok e1 (by omega) h3 hn hb hc
    · by_cases e2 : b = m + 1
      · exact symR_any g n cap base f a m b w ho hok e2 (by omega) h3 hn ha hc
      · by_cases e3 : (a + b) / 2 < m
        · exact symM1_any g n cap base K f a m b _ w (sym_any g n cap base hn K) hK ho hok (by omega) (by omega) h3 hn ha hb hc rfl e3
        · exact symM2_any g n cap base K f a m b _ w (sym_any g n cap base hn K) hK ho hok (by omega) (by omega) h3 hn ha hb hc rfl (by omega)

end Go.Proofs.Ytjeemlnhokihoaa

/- Walks of the library's stable sort of spots: the whole of it. Conditions stand in each theorem. -/
import Derived.Test.YtjeemlnhokihoaaCamT7
namespace Go.Proofs.Ytjeemlnhokihoaa
open Go.RowKit
set_option linter.unusedVariables false
set_option linter.unusedSimpArgs false

/-- The blocks of 20 ahead of p are sorted. -/
structure Ins1 (f f1 : Nat → Sp) (n p : Nat) : Prop where
  same : Same f f1 0 p
  srt : ∀ k b, b ≤ (k + 1) * 20 → b ≤ p → SrtD f1 (k * 20) b
  cut : ∀ k, Crs f1 0 (k * 20) n
theorem Ins1.start {f : Nat → Sp} {n : Nat} (h : Ris f 0 n) : Ins1 f f n 0 :=
  ⟨Same.refl _ _ _, fun k b _ hb i j _ _ hj => by omega, fun k i j _ h1 h2 h3 => h i j (Nat.zero_le _) (by omega) h3⟩
theorem Ins1.ris {f f1 : Nat → Sp} {n p e : Nat} (H : Ins1 f f1 n p) (h : Ris f 0 n) (he : e ≤ n) : Ris f1 p e := fun i j h1 h2 h3 => by
  rw [H.same.out i (.inr h1), H.same.out j (.inr (by omega))]; exact h i j (Nat.zero_le _) h2 (by omega)
theorem Ins1.next {f f1 f2 : Nat → Sp} {n k p e : Nat} (H : Ins1 f f1 n p) (hp : p = 20 * k) (hpe : p ≤ e) (he : e ≤ n) (he2 : e ≤ p + 20) (M : Mrg f1 p e f2) : Ins1 f f2 n e := by
  refine ⟨(H.same.wide (Nat.le_refl _) hpe).trans (M.same.wide (Nat.zero_le _) (Nat.le_refl _)), fun i b hb hbe => ?_, fun i => ?_⟩
  · by_cases h1 : b ≤ p
    · exact (H.srt i b hb h1).same M.same (.inl h1)
    · by_cases h2 : i = k
      · exact M.srt.sub (by omega) hbe
      · exact fun x y _ _ _ => by omega
  · by_cases h1 : i ≤ k
    · exact (H.cut i).same M.same he (.inl (by omega))
    · exact (H.cut i).same M.same he (.inr (by omega))
theorem Ins1.done {f f1 : Nat → Sp} {n : Nat} (H : Ins1 f f1 n n) : Bks f1 n 20 := ⟨H.srt, H.cut⟩
theorem Bks.end_ {f : Nat → Sp} {n bs : Nat} (H : Bks f n bs) (h : n ≤ bs) : SrtD f 0 n := by
  have := H.srt 0 n (by omega) (Nat.le_refl _)
  rwa [Nat.zero_mul] at this

set_option maxRecDepth 100000 in
set_option maxHeartbeats 6400000 in
theorem stableR_any (g n cap base : Nat) (f : Nat → Sp) (w : World) (hown : w.ownsRow base 35 5 (.slice (some ⟨g, 0, none⟩) n cap) n (rowS f n)) (hok : ∀ i, (f i).ok) (hn : n ≤ 4096) (hr : Ris f 0 n) :
    Calls Try.prog 49 #[.slice (some ⟨g, 0, none⟩) n cap, .int .i64 (n : Int), .func (.func 40) #[] #[]] w (Merges g n cap base f 0 n w) := by
  have HO := Lib.hid hown
  have HF := Lib.hid hok
  have HRI := Lib.hid hr
  have INS := fun f a b w h1 h2 h3 h4 h5 => Lib.hid (insR_any g n cap base f a b w h1 h2 h3 h4 (by omega) h5)
  have SYM := Lib.hid (sym_any g n cap base (by omega) n)
  clear hown hok hr
  go_enter Try.func49, Try.ntmps49
  go_wp2_with fail
  go_loopw [7, 8] (fun i j wr => ∃ (k p q : Nat) (f1 : Nat → Sp), Hid (p = 20 * k ∧ q = p + 20) ∧ Hid (p ≤ n) ∧ i = .int .i64 p ∧ j = .int .i64 q ∧ Hid (Ins1 f f1 n p) ∧ Hid (w.grownBy wr (some g)) ∧ Hid (wr.ownsRow base 35 5 (.slice (some ⟨g, 0, none⟩) n cap) n (rowS f1 n))) (fun _ j _ => n + 1 - (intOf j).toNat)
  case atStart => exact ⟨0, 0, 20, f, Lib.hid ⟨rfl, rfl⟩, Lib.hid (Nat.zero_le _), rfl, rfl, Lib.hid (Ins1.start HRI.out), Lib.hid (World.grownBy.refl _ _), HO⟩
  case round =>
    clear HO
    obtain ⟨k, p, q, f1, HP, HPN, rfl, rfl, HI, HG, HR⟩ := hrel
    have hpn := HPN.out
    have hq := HP.out.2
    have HF1 := Lib.hid (HI.out.same.all HF.out)
    obtain ⟨W1, hW1⟩ : ∃ W1 : World, W1 = wr := ⟨_, rfl⟩
    subst hW1
    by_cases hlt : q ≤ n
    · skip
      --A{
      have d1 : decide ((q : Int) ≤ (n : Int)) = true := by simp; omega
      have d1' : decide (q ≤ n) = true := by simp; omega
      obtain ⟨q2, hq2⟩ : ∃ x, q + 20 = x := ⟨_, rfl⟩
      have w1 : IntKind.i64.wrap ((q : Int) + 20) = (q2 : Int) := by rw [show (q2 : Int) = (q : Int) + 20 by omega]; exact IntWalk.i64_in _ (by omega)
      have C := Lib.hid (INS f1 p q _ HR.out HF1.out (by omega) hlt (HI.out.ris HRI.out hlt)).out
      have HP2 := Lib.hid (show q = 20 * (k + 1) ∧ q2 = q + 20 by have := HP.out; omega)
      have HLT := Lib.hid hlt
      have hMM := fun f2 M => HI.out.next HP.out.1 (show p ≤ q by omega) hlt (show q ≤ p + 20 by omega) (f2 := f2) M
      have HMM := Lib.hid hMM
      clear hMM hq hq2 hpn hlt
      go_wp2_with fail
      refine C.out.mono ?_
      rintro e' w' ⟨f2, hm, rfl, hg, ho⟩
      have HG2 := Lib.hid (grown_two HG.out hg)
      have HO2 := Lib.hid ho
      have HM2 := Lib.hid (HMM.out f2 hm)
      clear hg ho hm C HMM
      go_wp2_with fail
      go_roundw
      case rel => exact ⟨k + 1, q, q2, f2, HP2, HLT, rfl, rfl, HM2, HG2, HO2⟩
      case measure => have := HP2.out; have := HLT.out; simp [intOf]; omega
      --A}
    · skip
      --B{
      have d1 : decide ((q : Int) ≤ (n : Int)) = false := by simp; omega
      have d1' : decide (q ≤ n) = false := by simp; omega
      have C := Lib.hid (INS f1 p n _ HR.out HF1.out hpn (Nat.le_refl _) (HI.out.ris HRI.out (Nat.le_refl _))).out
      have hMM := fun f2 M => HI.out.next HP.out.1 hpn (Nat.le_refl n) (show n ≤ p + 20 by omega) (f2 := f2) M
      have HMM := Lib.hid hMM
      clear hMM
      go_wp2_with fail
      refine C.out.mono ?_
      rintro e' w' ⟨f2, hm, rfl, hg, ho⟩
      have HG2 := Lib.hid (grown_two HG.out hg)
      have HO2 := Lib.hid ho
      have HM2 := Lib.hid (HMM.out f2 hm)
      have HB2 := Lib.hid HM2.out.done
      have HS2 := Lib.hid HM2.out.same
      clear hg ho hm C HMM HM2 HG HR HI d1 d1' HP HPN hpn hq hlt HF1
      go_wp2_with fail
      go_loopw [6] (fun i wr => ∃ (bs : Nat) (f1 : Nat → Sp), Hid (1 ≤ bs ∧ bs ≤ 8192) ∧ i = .int .i64 bs ∧ Hid (Bks f1 n bs) ∧ Hid (Same f f1 0 n) ∧ Hid (w.grownBy wr (some g)) ∧ Hid (wr.ownsRow base 35 5 (.slice (some ⟨g, 0, none⟩) n cap) n (rowS f1 n))) (fun i _ => n - (intOf i).toNat)
      case atStart => exact ⟨20, f2, Lib.hid ⟨by omega, by omega⟩, rfl, HB2, HS2, HG2, HO2⟩
      case round =>
        clear HB2 HS2 HG2 HO2
        obtain ⟨bs, f1, HBS, rfl, HB, HS, HG, HR⟩ := hrel
        obtain ⟨b1, b2⟩ := HBS.out
        obtain ⟨W2, hW2⟩ : ∃ W2 : World, W2 = wr := ⟨_, rfl⟩
        subst hW2
        by_cases hlt : bs < n
        · skip
          --C{
          have d1 : decide ((bs : Int) < (n : Int)) = true := by simp; omega
          have d1' : decide (bs < n) = true := by simp; omega
          obtain ⟨c, hc⟩ : ∃ x, 2 * bs = x := ⟨_, rfl⟩
          have w1 : IntKind.i64.wrap (2 * (bs : Int)) = (c : Int) := by rw [show (c : Int) = 2 * (bs : Int) by omega]; exact IntWalk.i64_in _ (by omega)
          have w2 : IntKind.i64.wrap ((bs : Int) * 2) = (c : Int) := by rw [show (c : Int) = (bs : Int) * 2 by omega]; exact IntWalk.i64_in _ (by omega)
          have HCc := Lib.hid hc
          have HS0 := Lib.hid HB.out.start
          have hcb : c ≤ 16384 := by omega
          clear hc
          go_wp2_with fail
          go_loopw [7, 8] (fun i j wr => ∃ (k p q : Nat) (f2 : Nat → Sp), Hid (p = k * (2 * bs) ∧ q = (k + 1) * (2 * bs)) ∧ Hid (p ≤ n ∧ q = p + c) ∧ i = .int .i64 p ∧ j = .int .i64 q ∧ Hid (Bk2 f2 n bs k) ∧ Hid (Same f f2 0 n) ∧ Hid (w.grownBy wr (some g)) ∧ Hid (wr.ownsRow base 35 5 (.slice (some ⟨g, 0, none⟩) n cap) n (rowS f2 n))) (fun _ j _ => n + 1 - (intOf j).toNat)
          case atStart => exact ⟨0, 0, c, f1, Lib.hid ⟨by omega, by have := HCc.out; omega⟩, Lib.hid ⟨Nat.zero_le _, by omega⟩, rfl, rfl, HS0, HS, HG, HR⟩
          case round =>
            clear HS0 HS HG HR HB
            obtain ⟨k, p, q, f2, HP, HPN, rfl, rfl, HI, HS, HG, HR⟩ := hrel
            obtain ⟨hpn, hqp⟩ := HPN.out
            obtain ⟨m, hm⟩ : ∃ m, p + bs = m := ⟨_, rfl⟩
            have w3 : IntKind.i64.wrap ((p : Int) + (bs : Int)) = (m : Int) := by rw [show (m : Int) = (p : Int) + (bs : Int) by omega]; exact IntWalk.i64_in _ (by omega)
            have HF2 := Lib.hid (HS.out.all HF.out)
            obtain ⟨W3, hW3⟩ : ∃ W3 : World, W3 = wr := ⟨_, rfl⟩
            subst hW3
            by_cases hlt3 : q ≤ n
            · skip
              --D{
              have f1 : decide ((q : Int) ≤ (n : Int)) = true := by simp; omega
              have f1' : decide (q ≤ n) = true := by simp; omega
              obtain ⟨q2, hq2⟩ : ∃ x, q + c = x := ⟨_, rfl⟩
              have w4 : IntKind.i64.wrap ((q : Int) + (c : Int)) = (q2 : Int) := by rw [show (q2 : Int) = (q : Int) + (c : Int) by omega]; exact IntWalk.i64_in _ (by omega)
              have hpre := HI.out.pre hlt3 (by rw [← HP.out.2]; exact Nat.le_refl _)
              rw [← HP.out.1, hm, show min m n = m by have := HCc.out; omega] at hpre
              obtain ⟨e1, e2, e3⟩ := hpre
              have C := Lib.hid (SYM.out f2 p m q _ (by omega) HR.out HF2.out (by omega) (by have := HCc.out; omega) hlt3 e1 e2 e3)
              have HP2 := Lib.hid (show q = (k + 1) * (2 * bs) ∧ q2 = (k + 1 + 1) * (2 * bs) from ⟨HP.out.2, by rw [Nat.succ_mul (k + 1), ← HP.out.2, HCc.out]; exact hq2.symm⟩)
              have HPN2 := Lib.hid (show q ≤ n ∧ q2 = q + c by omega)
              have hMM := fun f3 (M : Mrg f2 p q f3) => HI.out.next (g := f3) b1 hlt3 (by rw [← HP.out.2]; exact Nat.le_refl _) (by rw [← HP.out.1]; omega) (.inr HP.out.2) (by rw [← HP.out.1]; exact M)
              have HMM := Lib.hid hMM
              have HC1 := Lib.hid (show 1 ≤ c by have := HCc.out; omega)
              clear hMM e1 e2 e3 hq2 hm hqp
              go_wp2_with fail
              refine C.out.mono ?_
              rintro e' w' ⟨f3, hm, rfl, hg, ho⟩
              have HG2 := Lib.hid (grown_two HG.out hg)
              have HO2 := Lib.hid ho
              have HM2 := Lib.hid (HMM.out f3 hm)
              have HS3 := Lib.hid (HS.out.trans (hm.same.wide (Nat.zero_le _) hlt3))
              clear hg ho hm C HMM
              go_wp2_with fail
              go_roundw
              case rel => exact ⟨k + 1, q, q2, f3, HP2, HPN2, rfl, rfl, HM2, HS3, HG2, HO2⟩
              case measure => have := HPN2.out; have := HC1.out; simp [intOf]; omega
              --D}
            · skip
              --E{
              have f1 : decide ((q : Int) ≤ (n : Int)) = false := by simp; omega
              have f1' : decide (q ≤ n) = false := by simp; omega
              have HBS2 := Lib.hid (show 1 ≤ c ∧ c ≤ 8192 by have := HCc.out; omega)
              have HMe := Lib.hid (show bs < c by have := HCc.out; omega)
              by_cases hlt4 : m < n
              · have f2' : decide ((m : Int) < (n : Int)) = true := by simp; omega
                have f2'' : decide (m < n) = true := by simp; omega
                have hpre := HI.out.pre (Nat.le_refl n) (by rw [← HP.out.2]; omega)
                rw [← HP.out.1, hm, show min m n = m by omega] at hpre
                obtain ⟨e1, e2, e3⟩ := hpre
                have C := Lib.hid (SYM.out f2 p m n _ (by omega) HR.out HF2.out (by omega) hlt4 (Nat.le_refl _) e1 e2 e3)
                have hMM := fun f3 (M : Mrg f2 p n f3) => (HI.out.next (g := f3) b1 (Nat.le_refl _) (by rw [← HP.out.2]; omega) (by rw [← HP.out.1]; omega) (.inl rfl) (by rw [← HP.out.1]; exact M)).done (by rw [← HP.out.2]; omega)
                have HMM := Lib.hid hMM
                clear hMM e1 e2 e3 hm hqp
                go_wp2_with fail
                refine C.out.mono ?_
                rintro e' w' ⟨f3, hm, rfl, hg, ho⟩
                have HG2 := Lib.hid (grown_two HG.out hg)
                have HO2 := Lib.hid ho
                have hm2 := HMM.out f3 hm
                rw [HCc.out] at hm2
                have HM2 := Lib.hid hm2
                have HS3 := Lib.hid (HS.out.trans (hm.same.wide (Nat.zero_le _) (Nat.le_refl _)))
                clear hg ho hm hm2 C HMM
                go_wp2_with fail
                go_roundw
                case rel => exact ⟨c, f3, HBS2, rfl, HM2, HS3, HG2, HO2⟩
                case measure => have := HMe.out; simp [intOf]; omega
              · have f2' : decide ((m : Int) < (n : Int)) = false := by simp; omega
                have f2'' : decide (m < n) = false := by simp; omega
                have hm2 := HI.out.done (by rw [← HP.out.1]; omega)
                rw [HCc.out] at hm2
                have HM2 := Lib.hid hm2
                clear hm2 hm hqp
                go_wp2_with fail
                go_roundw
                case rel => exact ⟨c, f2, HBS2, rfl, HM2, HS, HG, HR⟩
                case measure => have := HMe.out; simp [intOf]; omega
              --E}
          --C}
        · skip
          --F{
          have d1 : decide ((bs : Int) < (n : Int)) = false := by simp; omega
          have d1' : decide (bs < n) = false := by simp; omega
          have HE := Lib.hid (show Mrg f 0 n f1 from ⟨HS.out, HB.out.end_ (by omega)⟩)
          go_wp2_with fail
          go_end0
          exact ⟨_, HE.out, rfl, HG.out, HR.out⟩
          --F}
      --B}

set_option maxHeartbeats 800000 in
theorem sortR_any (g n cap base : Nat) (f : Nat → Sp) (w : World) (hown : w.ownsRow base 35 5 (.slice (some ⟨g, 0, none⟩) n cap) n (rowS f n)) (hok : ∀ i, (f i).ok) (hn : n ≤ 4096) (hr : Ris f 0 n) :
    Calls Try.prog 39 #[.slice (some ⟨g, 0, none⟩) n cap, .func (.func 40) #[] #[]] w (Merges g n cap base f 0 n w) := by
  have C := Lib.hid (stableR_any g n cap base f w hown hok hn hr)
  clear hown hok hr
  go_enter Try.func39, Try.ntmps39
  go_wp2_with fail
  refine C.out.mono ?_
  rintro e w' ⟨f2, hm, rfl, hg, ho⟩
  have HG := Lib.hid hg
  have HO := Lib.hid ho
  have HM := Lib.hid hm
  clear hg ho hm
  go_wp2_with fail
  go_end0
  exact ⟨_, HM.out, rfl, HG.out, HO.out⟩

end Go.Proofs.Ytjeemlnhokihoaa


/- Walk: a way that changes the matching. Conditions stand in each theorem. -/
import Derived.Test.YtjiknjcmfiapjaaMatM
import Derived.Deep.LoopGhost
import Derived.BigRegion
namespace Go.Proofs.Ytjiknjcmfiapjaa
open Go.RowKit
set_option linter.unusedVariables false
set_option linter.unusedSimpArgs false

/-- The call returns the answer; the state has changed. -/
def AugP (w0 : World) (A : Option Addr) (cA nL R : Nat) (G : Nat → List Int) (bS bM bB bV : Nat) (t : St) (r : Bool) (e : Ending) (W' : World) : Prop :=
  e = .returned (.bool r) ∧ SMem w0 W' A cA nL R G bS bM bB bV t
/-- The numbers of a state keep to their bounds. -/
structure Bnd (nL : Nat) (s : St) : Prop where
  B : ∀ n, -1 ≤ s.B n ∧ s.B n < (nL : Int)
  V : ∀ k, -1 ≤ s.V k ∧ s.V k ≤ 1000
theorem Bnd.setV {nL : Nat} {s : St} (h : Bnd nL s) (i : Nat) : Bnd nL ⟨s.M, s.B, up s.V i (-1)⟩ :=
  ⟨h.B, fun k => by
    dsimp only
    by_cases e : k = i
    · subst e; rw [up_self]; omega
    · rw [up_ne e]; exact h.V k⟩
theorem Bnd.set {nL : Nat} {s : St} (h : Bnd nL s) {i : Nat} (hi : i < nL) (m : Nat) (n : Int) : Bnd nL ⟨up s.M i n, up s.B m i, s.V⟩ :=
  ⟨fun k => by
    dsimp only
    by_cases e : k = m
    · subst e; rw [up_self]; omega
    · rw [up_ne e]; exact h.B k, h.V⟩
theorem augL_bnd {nL : Nat} {au : St → Nat → Option (St × Bool)} (hau : ∀ s k t b, k < nL → Bnd nL s → au s k = some (t, b) → Bnd nL t) {i : Nat} (hi : i < nL) {lev : Int} : ∀ (ns : List Int) (s t : St) (b : Bool), Bnd nL s → augL au i lev ns s = some (t, b) → Bnd nL t
  | [], s, t, b, hs, h => by simp [augL] at h; rw [← h.1]; exact hs
  | n :: ns, s, t, b, hs, h => by
    rw [augL] at h
    by_cases h1 : s.B n.toNat < 0
    · rw [if_pos h1] at h; simp at h; rw [← h.1]; exact hs.set hi _ _
    · rw [if_neg h1] at h
      have hB := hs.B n.toNat
      by_cases h2 : s.V (s.B n.toNat).toNat = lev + 1
      · rw [if_pos h2] at h
        cases ha : au s (s.B n.toNat).toNat with
        | none => rw [ha] at h; simp at h
        | some x =>
          obtain ⟨u, c⟩ := x
          have hu := hau s _ u c (by omega) hs ha
          rw [ha] at h
          cases c with
          | true => simp at h; rw [← h.1]; exact hu.set hi _ _
          | false => exact augL_bnd hau hi ns u t b hu (by simpa using h)
      · rw [if_neg h2] at h
        exact augL_bnd hau hi ns s t b hs h
theorem aug_bnd {nL : Nat} {G : Nat → List Int} : ∀ (f : Nat) (s : St) (i : Nat) (t : St) (b : Bool), i < nL → Bnd nL s → aug G f s i = some (t, b) → Bnd nL t
  | 0, _, _, _, _, _, _, h => by simp [aug] at h
  | f + 1, s, i, t, b, hi, hs, h => by
    rw [aug] at h
    exact augL_bnd (fun s k t b hk hs h => aug_bnd f s k t b hk hs h) hi (G i) _ t b (hs.setV i) h
section
variable {au : St → Nat → Option (St × Bool)} {i m kk : Nat} {lev : Int} {ns : List Int} {s : St}
theorem augL_free (h : s.B m < 0) : augL au i lev ((m : Int) :: ns) s = some (⟨up s.M i m, up s.B m i, s.V⟩, true) := by
  rw [augL, if_pos (by simpa using h)]; rfl
theorem augL_none (h : s.B m = (kk : Int)) (hV : s.V kk = lev + 1) (ha : au s kk = none) : augL au i lev ((m : Int) :: ns) s = none := by
  rw [augL, if_neg (by simp [h]), if_pos (by simpa [h] using hV), show (s.B ((m : Int)).toNat).toNat = kk by simp [h], ha]
theorem augL_yes {t : St} (h : s.B m = (kk : Int)) (hV : s.V kk = lev + 1) (ha : au s kk = some (t, true)) : augL au i lev ((m : Int) :: ns) s = some (⟨up t.M i m, up t.B m i, t.V⟩, true) := by
  rw [augL, if_neg (by simp [h]), if_pos (by simpa [h] using hV), show (s.B ((m : Int)).toNat).toNat = kk by simp [h], ha]; rfl
theorem augL_no {t : St} (h : s.B m = (kk : Int)) (hV : s.V kk = lev + 1) (ha : au s kk = some (t, false)) : augL au i lev ((m : Int) :: ns) s = augL au i lev ns t := by
  rw [augL, if_neg (by simp [h]), if_pos (by simpa [h] using hV), show (s.B ((m : Int)).toNat).toNat = kk by simp [h], ha]
theorem augL_skip (h : s.B m = (kk : Int)) (hV : ¬ s.V kk = lev + 1) : augL au i lev ((m : Int) :: ns) s = augL au i lev ns s := by
  rw [augL, if_neg (by simp [h]), if_neg (by simpa [h] using hV)]
end

set_option maxRecDepth 100000 in
set_option maxHeartbeats 3200000 in
theorem augment_any (w0 : World) (A : Option Addr) (cA nL R : Nat) (G : Nat → List Int) (bS bM bB bV : Nat) (hF : Fit nL R G) : ∀ (f : Nat) (W : World) (s : St) (i : Nat) (t : St) (r : Bool), i < nL → Bnd nL s → SMem w0 W A cA nL R G bS bM bB bV s → aug G f s i = some (t, r) →
    Calls Try.prog 57 #[.pointer (some ⟨bS, 0, none⟩), .int .i64 (i : Int)] W (AugP w0 A cA nL R G bS bM bB bV t r)
  | 0, _, _, _, _, _, _, _, _, h => by simp [aug] at h
  | f + 1, W, s, i, t, r, hi, hb, hS, ha => by
    have IH := Lib.hid (augment_any w0 A cA nL R G bS bM bB bV hF f)
    rw [aug] at ha
    obtain ⟨n1, n2, n3, n4, n5, n6⟩ : bS ≠ bM ∧ bS ≠ bB ∧ bS ≠ bV ∧ bM ≠ bB ∧ bM ≠ bV ∧ bB ≠ bV := ⟨hS.nSM, hS.nSB, hS.nSV, hS.nMB, hS.nMV, hS.nBV⟩
    obtain ⟨c0, c2, c3, c4, o0, o1, o2, o3⟩ := hS.f
    obtain ⟨v1, v2⟩ := hS.v hi
    obtain ⟨gb, go, rfl, hgo, hgc⟩ := hS.G.top (by omega)
    obtain ⟨Ai, ci, hgi0, hrow⟩ := hgc i hi
    have hgi := (hS.below.cell (p := ⟨gb, go + i, none⟩) hgo).trans hgi0
    have hgV : gb ≠ bV := fun e => by have h1 : gb < w0.heap.size := hgo; have := hS.geV; omega
    have hgo : old gb W := Nat.lt_of_lt_of_le hgo hS.below.size
    have HR := Lib.hid hrow
    have HF := Lib.hid hF
    have HN := Lib.hid (hF.g i hi)
    have hlen := hF.len i hi
    have hL200 := hF.hL
    have HV := hb.V i
    have HS := Lib.hid (hS.setV i (-1))
    have HB := Lib.hid (hb.setV i)
    have HA := Lib.hid ha
    obtain ⟨lev, hlev⟩ : ∃ lev, s.V i = lev := ⟨_, rfl⟩
    rw [hlev] at v1 HV HA
    clear hlev hgi0 hgc hrow hF hS hb ha
    go_enter Try.func57, Try.ntmps57
    go_wp2_with fail
    go_loopg [31] ((G i).length) (fun gk jj wr => ∃ (j : Nat) (u : St), j + gk = (G i).length ∧ jj = .int .i64 j ∧ Hid (SMem w0 wr (some ⟨gb, go, none⟩) cA nL R G bS bM bB bV u) ∧ Hid (Bnd nL u) ∧ Hid (augL (aug G f) i lev ((G i).drop j) u = some (t, r)))
    case atStart => exact ⟨0, _, by omega, rfl, HS, HB, HA⟩
    case round =>
      clear HS HB HA c0 c2 c3 c4 o0 o1 o2 o3 v1 v2 hgi hgo
      obtain ⟨j, u, hj, rfl, HU, HB, HA⟩ := hrel
      by_cases hlt : j < (G i).length
      · obtain ⟨qb, qo, rfl, hqo, hqc⟩ := RowI.at_ (HR.out.below HU.out.below) (by omega)
        have hn := hqc j hlt
        have hmem : (G i).getD j 0 ∈ G i := getD_mem hlt
        have hdrop : (G i).drop j = (G i).getD j 0 :: (G i).drop (j + 1) := drop_at hlt
        have hN := HN.out _ hmem
        obtain ⟨m, hm⟩ : ∃ m : Nat, (G i).getD j 0 = (m : Int) := ⟨((G i).getD j 0).toNat, by omega⟩
        rw [hm] at hn hN hdrop
        have hmR : m < R := by omega
        rw [hdrop] at HA
        have HD := Lib.hid hdrop
        obtain ⟨e0, e2, e3, e4, p0, p1, p2, p3⟩ := HU.out.f
        obtain ⟨b1, b2⟩ := HU.out.b hmR
        obtain ⟨m1, m2⟩ := HU.out.m hi
        have hBm := HB.out.B m
        clear hm hN hdrop hqc hmem
        generalize (G i).drop (j + 1) = ns at *
        by_cases hB0 : u.B m < 0
        · rw [augL_free hB0] at HA
          have HE := Lib.hid (show (⟨up u.M i m, up u.B m i, u.V⟩ : St) = t ∧ r = true by have h := HA.out; simp at h; exact h)
          clear HA HD
          go_wp2_with fail
          go_region
          go_wp2_with fail
          go_ret
          obtain ⟨rfl, rfl⟩ := HE.out
          exact ⟨rfl, ((HU.out.setM i m).setB m i).drew⟩
        · obtain ⟨kk, hkk⟩ : ∃ kk : Nat, u.B m = (kk : Int) := ⟨(u.B m).toNat, by omega⟩
          rw [hkk] at b1 hBm
          have hkL : kk < nL := by omega
          obtain ⟨w1, w2⟩ := HU.out.v hkL
          have hVk := HB.out.V kk
          by_cases hU0 : u.V kk = lev + 1
          · cases hau : aug G f u kk with
            | none => rw [augL_none hkk hU0 hau] at HA; cases HA.out
            | some x =>
              obtain ⟨t1, b1'⟩ := x
              have C := fun W h => Lib.hid (IH.out W u kk t1 b1' hkL HB.out h hau)
              have HB1 := Lib.hid (aug_bnd f u kk t1 b1' hkL HB.out hau)
              rw [hU0] at w1
              cases b1' with
              | true =>
                rw [augL_yes hkk hU0 hau] at HA
                have HE := Lib.hid (show (⟨up t1.M i m, up t1.B m i, t1.V⟩ : St) = t ∧ r = true by have h := HA.out; simp at h; exact h)
                clear hkk hU0 hau hB0 HA
                go_wp2_with fail
                refine (C _ HU.out).out.mono ?_
                rintro e W1 ⟨rfl, hS1⟩
                obtain ⟨f0, f2, f3, f4, g0, g1, g2, g3⟩ := hS1.f
                obtain ⟨x1, x2⟩ := hS1.b hmR
                obtain ⟨y1, y2⟩ := hS1.m hi
                have HS1 := Lib.hid hS1
                clear hS1 C HU
                go_wp2_with fail
                go_region
                go_wp2_with fail
                go_ret
                obtain ⟨rfl, rfl⟩ := HE.out
                exact ⟨rfl, ((HS1.out.setM i m).setB m i).drew⟩
              | false =>
                rw [augL_no hkk hU0 hau] at HA
                clear hkk hU0 hau hB0
                go_wp2_with fail
                refine (C _ HU.out).out.mono ?_
                rintro e W1 ⟨rfl, hS1⟩
                have HS1 := Lib.hid hS1
                clear hS1 C HU
                go_wp2_with fail
                go_roundg (gk - 1)
                case measure => omega
                case rel => exact ⟨j + 1, t1, by omega, by go_num, HS1, HB1, by rw [drop_tail HD.out]; exact HA⟩
          · rw [augL_skip hkk hU0] at HA
            clear hkk hB0
            go_wp2_with fail
            go_roundg (gk - 1)
            case measure => omega
            case rel => exact ⟨j + 1, u, by omega, by go_num, HU, HB, by rw [drop_tail HD.out]; exact HA⟩
      · obtain rfl : j = (G i).length := by omega
        rw [List.drop_of_length_le (Nat.le_refl _)] at HA
        have HE := Lib.hid (show u = t ∧ r = false by have h := HA.out; simp [augL] at h; exact h)
        clear HA
        go_wp2_with fail
        go_ret
        obtain ⟨rfl, rfl⟩ := HE.out
        exact ⟨rfl, HU.out⟩

end Go.Proofs.Ytjiknjcmfiapjaa

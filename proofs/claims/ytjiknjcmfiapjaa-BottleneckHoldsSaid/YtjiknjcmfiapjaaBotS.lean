
/- Walk: the search for cheapest columns. Conditions stand in each theorem. -/
import Derived.Test.YtjiknjcmfiapjaaBotM
import Derived.Test.YtjiknjcmfiapjaaMatW4
import Derived.Deep.DeepCutAuto
import Derived.Deep.RegionHeld3
import Derived.BigRegion
namespace Go.Proofs.Ytjiknjcmfiapjaa
open Go.RowKit
set_option linter.unusedVariables false
set_option linter.unusedSimpArgs false

/-- The call returns columns and potentials, in blocks of their own. -/
def ChpP (G : Nat → List Int) (n : Nat) (M : Int) (w : World) (e : Ending) (w' : World) : Prop :=
  ∃ gC gU gV C U V, e = .returned (.tuple #[.slice (some ⟨gC, 0, none⟩) n n, .slice (some ⟨gU, 0, none⟩) n n, .slice (some ⟨gV, 0, none⟩) n n]) ∧ Below w.heap.size w w' ∧ w.heap.size ≤ gC ∧ w.heap.size ≤ gU ∧ w.heap.size ≤ gV ∧
    Blk w' gC (arrI n C) 3 ∧ Blk w' gU (arrI n U) 3 ∧ Blk w' gV (arrI (n + 1) V) 3 ∧ Chp G n M ((List.range n).map C) U V
/-- Two slices of zeros, in blocks of their own. -/
def UVz (w : World) (n : Nat) (s5 s6 : Value) (wx : World) : Prop :=
  ∃ bU bV, s5 = .slice (some ⟨bU, 0, none⟩) n n ∧ s6 = .slice (some ⟨bV, 0, none⟩) (n + 1) (n + 1) ∧ Below w.heap.size w wx ∧ w.heap.size ≤ bU ∧ w.heap.size ≤ bV ∧ bU ≠ bV ∧ Blk wx bU (arrI n (fun _ => 0)) 3 ∧ Blk wx bV (arrI (n + 1) (fun _ => 0)) 3
/-- Distances, ways and marks, in blocks of their own. -/
def DFNz (w : World) (n bU bV bR : Nat) (U V R : Nat → Int) (s11 s12 s13 : Value) (wx : World) : Prop :=
  ∃ bD bF bN, s11 = .slice (some ⟨bD, 0, none⟩) n n ∧ s12 = .slice (some ⟨bF, 0, none⟩) n n ∧ s13 = .slice (some ⟨bN, 0, none⟩) (n + 1) (n + 1) ∧ LM w wx n bU bV bR bD bF bN U V R (fun _ => far) (fun _ => 0) (fun _ => false)
theorem cntp_all : ∀ n, cntp (fun j => !(fun _ : Nat => false) j) n = n
  | 0 => rfl
  | n + 1 => by rw [cntp, cntp_all n]; simp
theorem DFNz.of {w W0 wx : World} {n bU bV bR bD bF bN : Nat} {U V R : Nat → Int} (hk : KM w W0 n bU bV bR U V R) (hb : Below W0.heap.size W0 wx) (hD : W0.heap.size ≤ bD) (hF : W0.heap.size ≤ bF) (hN : W0.heap.size ≤ bN) (nDF : bD ≠ bF) (nDN : bD ≠ bN) (nFN : bF ≠ bN)
    (kD : Blk wx bD (arrI n (fun _ => far)) 3) (kF : Blk wx bF (arrI n (fun _ => 0)) 3) (kN : Blk wx bN (arrB (n + 1) (fun _ => false)) 4) :
    DFNz w n bU bV bR U V R (.slice (some ⟨bD, 0, none⟩) n n) (.slice (some ⟨bF, 0, none⟩) n n) (.slice (some ⟨bN, 0, none⟩) (n + 1) (n + 1)) wx := by
  have h0 := hk.below.size
  have hU := hk.cU.lt
  have hV := hk.cV.lt
  have hR := hk.cR.lt
  exact ⟨bD, bF, bN, rfl, rfl, rfl, ⟨hk.below.trans (hb.mono h0), hk.geU, hk.geV, hk.geR, by omega, by omega, by omega, hk.nUV, hk.nUR, by omega, by omega, by omega, hk.nVR, by omega, by omega, by omega, by omega, by omega, by omega, nDF, nDN, nFN,
    hk.cU.below hb hU, hk.cV.below hb hV, hk.cR.below hb hR, kD, kF, kN⟩⟩
theorem Rws.congr {n i : Nat} {R R' : Nat → Int} (h : Rws n i R) (e : ∀ k, k < n → R' k = R k) : Rws n i R' :=
  ⟨fun k hk => by rw [e k hk]; exact h.lt k hk, fun a ha b hb => by rw [e a ha, e b hb]; exact h.inj a ha b hb, by rw [← h.cnt]; exact cntp_congr n fun k hk => by rw [e k hk]⟩
theorem Tgt.congr {G : Nat → List Int} {n : Nat} {M : Int} {R R' U V : Nat → Int} (h : Tgt G n M R U V) (e : ∀ k, k < n → R' k = R k) : Tgt G n M R' U V :=
  fun k hk h0 => by rw [e k hk] at h0 ⊢; exact h k hk h0

section
variable {G : Nat → List Int} {M : Int} {U V D F D1 F1 : Nat → Int} {N : Nat → Bool} {c r k : Nat} {x y : Int}
theorem scan_keep (h : Scan G M U V N c r D F k D1 F1 x y) (hk : N k = false) (hy : cst G r k ≤ M → D1 k ≤ cst G r k - U r - V k) (x' y' : Int) (hl : (D1 k < y ∧ x' = k ∧ y' = D1 k) ∨ (y ≤ D1 k ∧ x' = x ∧ y' = y)) :
    Scan G M U V N c r D F (k + 1) D1 F1 x' y' := by
  have := h.next hk (y := D1 k) (b := F1 k) (.inr ⟨hy, rfl, rfl⟩) hl
  rwa [up_same, up_same] at this
theorem scan_put (h : Scan G M U V N c r D F k D1 F1 x y) (hk : N k = false) (z : Int) (hM : cst G r k ≤ M) (hz : cst G r k - U r - V k = z) (hlt : z < D1 k) (x' y' : Int) (hl : (z < y ∧ x' = k ∧ y' = z) ∨ (y ≤ z ∧ x' = x ∧ y' = y)) :
    Scan G M U V N c r D F (k + 1) (up D1 k z) (up F1 k c) x' y' :=
  h.next hk (.inl ⟨hM, by omega, hz.symm, rfl⟩) hl
end
set_option maxRecDepth 100000 in
set_option maxHeartbeats 6400000 in
theorem cheap_any (w : World) (A : Option Addr) (cA n : Nat) (G : Nat → List Int) (M : Int) (hG : GRow w A n G) (hC : Cst G n) (hM : PM G n M) (hM0 : 0 ≤ M) (hM1 : M ≤ 17592186044416) :
    Calls Try.prog 27 #[.slice A n cA, .int .i64 M] w (ChpP G n M w) := by
  have hn1 := hC.pos
  have hn2 := hC.le
  have HG := Lib.hid hG
  have HC := Lib.hid hC
  have HM := Lib.hid hM
  have hmk := fun W => mk_ints n (by omega) W
  have hmk1 : ∀ W : World, (Instr.makeSlice 23 (.int .i64 ((n : Int) + 1)) (.int .i64 ((n : Int) + 1))).run Try.prog W = .ok (.slice (some ⟨W.heap.size, 0, none⟩) (n + 1) (n + 1)) (W.alloc (.cells (arrI (n + 1) (fun _ => 0)) 3)) := fun W => mk_ints (n + 1) (by omega) W
  have hmkb : ∀ W : World, (Instr.makeSlice 64 (.int .i64 ((n : Int) + 1)) (.int .i64 ((n : Int) + 1))).run Try.prog W = .ok (.slice (some ⟨W.heap.size, 0, none⟩) (n + 1) (n + 1)) (W.alloc (.cells (arrB (n + 1) (fun _ => false)) 4)) := fun W => mk_bools (n + 1) (by omega) W
  have C1 : ∀ b w, old b w → w.cell? ⟨b, 0, none⟩ = some (.int .i64 (-1)) → Hid (Calls Try.prog 44 #[.slice (some ⟨b, 0, none⟩) 1 1, .int .i64 ((n : Int) + 1)] w (RepP (n + 1) w)) := fun b w hb hc => Lib.hid (repeat_any b (n + 1) (by omega) w hb hc)
  have C2 : ∀ b w, old b w → w.cell? ⟨b, 0, none⟩ = some (.int .i64 1152921504606846976) → Hid (Calls Try.prog 44 #[.slice (some ⟨b, 0, none⟩) 1 1, .int .i64 (n : Int)] w (RepX far n w)) := fun b w hb hc => Lib.hid (repeatx_any far b n (by omega) w hb hc)
  have hw1 : IntKind.i64.wrap ((n : Int) + 1) = (n : Int) + 1 := IntWalk.i64_in _ (by omega)
  obtain ⟨gb, go, rfl, hgo, hgc⟩ := hG.top (by omega)
  have HGC := Lib.hid hgc
  clear hG hC hM hgc
  go_enter Try.func27, Try.ntmps27
  go_upto_region 2 with (fail)
  go_cut [5, 6] from 24 to 28 (fun s5 s6 wx => UVz w n s5 s6 wx)
  case first =>
    go_region
    all_goals
      go_wp2_with fail
      go_meet
      refine ⟨_, _, rfl, rfl, (by repeat' (first | exact Below.refl _ _ | assumption | refine Below.xt ?_ ?_ _ | refine Below.alloc ?_ ?_ _ | refine Below.drew ?_ | refine Below.setCell ?_ ?_ _ | (simp; done) | (simp; omega))), ?_, ?_, ?_, ?_, ?_⟩
      all_goals (first
        | omega
        | (simp; done)
        | (simp; omega)
        | (repeat (first | (with_reducible refine Blk.new _ _ _ ?_) | (with_reducible refine Blk.alloc ?_ _) | (with_reducible refine Blk.drew ?_))
           all_goals (first | (simp; done) | (simp; omega))))
  case rest =>
    obtain ⟨bU, bV, rfl, rfl, hbl, hgU, hgV, hne, hkU, hkV⟩ := hcut
    have HU := Lib.hid hkU
    have HV := Lib.hid hkV
    have HB := Lib.hid hbl
    clear hkU hkV hbl hw1
    go_wp2_with (go_at_call 44; refine (C1 _ _ ?_ ?_).out.mono ?_; (next => (unfold old; simp <;> omega)); (next => go_simp); rintro e' w1 ⟨bR, rfl, hgR, hb1, hkR⟩)
    have HK := Lib.hid (show KM w w1 n bU bV bR (fun _ => 0) (fun _ => 0) (fun _ => -1) from by
      have hs := hb1.size
      have hs2 := HU.out.lt
      have hs3 := HV.out.lt
      have hs4 := HB.out.size
      simp only [World.size_alloc] at hs hgR
      exact ⟨HB.out.trans (Below.mono ((Below.alloc (Below.refl _ _) (Nat.le_refl _) _).trans (Below.mono hb1 (by simp))) (by omega)), hgU, hgV, by omega, hne, by omega, by omega, Blk.below (HU.out.alloc _) hb1 (by simp; omega), Blk.below (HV.out.alloc _) hb1 (by simp; omega), hkR⟩)
    have HP := Lib.hid (Pot.start (M := M) HC.out)
    have HT := Lib.hid (show Tgt G n M (fun _ => -1) (fun _ => 0) (fun _ => 0) from fun k _ h => by dsimp only at h; omega)
    have HR := Lib.hid (Rws.start n)
    clear HU HV HB hb1 hgR hkR C1 hmk1
    go_loopg [34] (n) (fun gk i wr => ∃ (k : Nat) (U V R : Nat → Int), k + gk = n ∧ i = .int .i64 k ∧ Hid (KM w wr n bU bV bR U V R) ∧ Hid (Pot G n M U V) ∧ Hid (Tgt G n M R U V) ∧ Hid (Rws n k R))
    case atStart => exact ⟨0, _, _, _, by omega, rfl, HK, HP, HT, HR⟩
    case round =>
      clear HK HP HT HR
      obtain ⟨i, U, V, R, hi, rfl, HK, HP, HT, HR⟩ := hrel
      by_cases hlt : i < n
      · obtain ⟨oU, oV, oR⟩ := HK.out.o
        obtain ⟨r1, r2⟩ := HK.out.rR (k := n) (by omega)
        obtain ⟨R1, hR1⟩ : ∃ R1, up R n (i : Int) = R1 := ⟨_, rfl⟩
        have HN := Lib.hid (show R1 n = (i : Int) by rw [← hR1, up_self])
        have HK1 := Lib.hid (show KM w (wr.setCell ⟨bR, n, none⟩ (.int .i64 (i : Int))) n bU bV bR U V R1 by rw [← hR1]; exact HK.out.setR n i)
        have HT1 := Lib.hid (show Tgt G n M R1 U V by rw [← hR1]; exact HT.out.congr fun k hk => up_ne (by omega))
        have HR1 := Lib.hid (show Rws n i R1 by rw [← hR1]; exact HR.out.congr fun k hk => up_ne (by omega))
        clear HK HT HR hR1
        go_wp2_with fail
        go_step3
        go_upto_region 9 with (fail)
        generalize wr.setCell ⟨bR, n, none⟩ (.int .i64 (i : Int)) = W0 at *
        have hw1 : IntKind.i64.wrap ((n : Int) + 1) = (n : Int) + 1 := IntWalk.i64_in _ (by omega)
        obtain ⟨oU1, oV1, oR1⟩ := HK1.out.o
        go_cut [11, 12, 13] from 42 to 49 (fun s11 s12 s13 wx => DFNz w n bU bV bR U V R1 s11 s12 s13 wx)
        case first =>
          --A{
          go_region_held3 (fun w' => True) (go_simp) (first | (go_at_call 44; refine (C2 _ _ ?_ ?_).out.mono ?_; (next => (unfold old; simp <;> omega)); (next => go_simp); rintro e' w1 ⟨bD, rfl, hgD, hb1, hkD⟩; obtain ⟨gD, rfl⟩ := xt_of_below hb1; (try simp only [xt_of_drew] at hkD); have HKD := Lib.hid hkD; have HGD := Lib.hid hgD; clear hb1 hkD hgD) | fail)
          all_goals
            go_wp2_with fail
            go_meet
            have hM1 := HGD.out
            have hM2 := HKD.out.lt
            simp only [World.size_alloc, xt_size, World.size_drew] at hM1 hM2
            refine DFNz.of HK1.out (by repeat' (first | exact Below.refl _ _ | assumption | refine Below.xt ?_ ?_ _ | refine Below.alloc ?_ ?_ _ | refine Below.drew ?_ | refine Below.setCell ?_ ?_ _ | (simp; done) | (simp; omega))) ?_ ?_ ?_ ?_ ?_ ?_ ?_ ?_ ?_
            all_goals (first
              | omega
              | (simp; done)
              | (simp; omega)
              | (repeat (first | (with_reducible exact HKD.out) | (with_reducible exact Blk.drawn HKD.out _) | (with_reducible refine Blk.new _ _ _ ?_) | (with_reducible refine Blk.alloc ?_ _) | (with_reducible refine Blk.xt ?_ _) | (with_reducible refine Blk.drew ?_))
                 all_goals (first | (simp; done) | (simp; omega))))
          --A}
        case rest =>
          obtain ⟨bD, bF, bN, rfl, rfl, rfl, hL⟩ := hcut
          have HL := Lib.hid hL
          have HW := Lib.hid (Way.start (i := i) (Bf := fun _ => 0) HP.out HT1.out)
          have hcn0 : cntp (fun j => !(fun _ : Nat => false) j) (n + 1) = n + 1 := cntp_all _
          have h0n : 0 ≤ R1 n := by rw [HN.out]; omega
          obtain ⟨g0, rfl⟩ : ∃ g0 : Nat, g0 = gk := ⟨_, rfl⟩
          clear hL HK1 HP HT1 hw1 r1 r2 oU oV oR oU1 oV1 oR1
          go_wp2_with fail
          go_step3
          go_wp2_with fail
          go_loopg [10] (n + 1) (fun gk c wx => ∃ (k : Nat) (U V D F : Nat → Int) (N : Nat → Bool) (od : Nat → Nat) (t : Nat), c = .int .i64 k ∧ 0 ≤ R1 k ∧ cntp (fun j => !N j) (n + 1) = gk ∧ Hid (LM w wx n bU bV bR bD bF bN U V R1 D F N) ∧ Hid (Way G n M R1 U V D F N od t k))
          case atStart => exact ⟨n, _, _, _, _, _, _, _, rfl, h0n, hcn0, HL, HW⟩
          case round =>
            clear HL HW hcn0 h0n
            obtain ⟨c, U, V, D, F, N, od, t, rfl, hc0, hcn, HL, HW⟩ := hrel
            have hcle := HW.out.cn
            obtain ⟨oU, oV, oR, oD, oF, oN⟩ := HL.out.o
            obtain ⟨r, hr⟩ : ∃ r : Nat, R1 c = (r : Int) := ⟨(R1 c).toNat, by omega⟩
            have hrr : (R1 c).toNat = r := by omega
            have hrn : r < n := by have := row_lt HR1.out hlt HN.out hcle hc0; omega
            obtain ⟨x1, x2⟩ := HL.out.rN (k := c) (by omega)
            have HL1 := Lib.hid (HL.out.setN c true)
            have HRR := Lib.hid hrr
            have hcN : Hid (cntp (fun j => !N j) (n + 1) = cntp (fun j => !(upb N c true) j) (n + 1) + 1) := Lib.hid (cntp_one (p := fun j => !(upb N c true) j) (q := fun j => !N j) (n + 1) c (by omega) (by simp [upb_self]) (by simp [HW.out.cd]) fun j _ hj => by simp [upb_ne hj])
            have HCN := Lib.hid hcn
            have HHR := Lib.hid hr
            clear hr hrr hcn
            go_upto_region 11 with fail
            generalize wr.setCell ⟨bN, c, none⟩ (.bool true) = W1 at *
            obtain ⟨N1, hN1⟩ : ∃ N1, upb N c true = N1 := ⟨_, rfl⟩
            rw [hN1] at HL1 hcN
            have HN1 := Lib.hid hN1
            obtain ⟨y1, y2⟩ := HL1.out.rR (k := c) (by omega)
            rw [HHR.out] at y1
            have HS := Lib.hid (Scan.start (G := G) (M := M) (U := U) (V := V) (Dn := N1) (c := c) (r := r) (Ds := D) (Bf := F))
            obtain ⟨g1, rfl⟩ : ∃ g1 : Nat, g1 = gk := ⟨_, rfl⟩
            clear hN1 HL x1 x2 oU oV oR oD oF oN
            go_wp2_with fail
            clear y1 y2
            go_loopg [15, 16, 58] (n) (fun gk nx ls kk wx => ∃ (k : Nat) (D1 F1 : Nat → Int) (x y : Int), k + gk = n ∧ kk = .int .i64 k ∧ nx = .int .i64 x ∧ ls = .int .i64 y ∧ Hid (LM w wx n bU bV bR bD bF bN U V R1 D1 F1 N1) ∧ Hid (Scan G M U V N1 c r D F k D1 F1 x y))
            case atStart => exact ⟨0, D, F, -1, far, by omega, rfl, rfl, rfl, HL1, HS⟩
            case round =>
              clear HL1 HS
              obtain ⟨k, D1, F1, x, y, hk, rfl, rfl, rfl, HL, HS⟩ := hrel
              by_cases hkn : k < n
              · obtain ⟨n1, n2⟩ := HL.out.rN (k := k) (by omega)
                --B{
                cases hd : N1 k with
                | true =>
                  rw [hd] at n1
                  have HS1 := Lib.hid (HS.out.skip hd)
                  clear HS hd
                  go_wp2_with fail
                  go_roundg (gk - 1)
                  case measure => omega
                  case rel => exact ⟨k + 1, D1, F1, x, y, by omega, by go_num, rfl, rfl, HL, HS1⟩
                | false =>
                  rw [hd] at n1
                  obtain ⟨Ai, ci, hgi0, hrow⟩ := HGC.out r hrn
                  have hlr := HC.out.len r hrn
                  rw [hlr] at hgi0
                  obtain ⟨qb, qo, rfl, hqo, hqc⟩ := RowI.at_ (hrow.below HL.out.below) (by omega)
                  have hx := hqc k (by omega)
                  have hgi := (HL.out.below.cell (p := ⟨gb, go + r, none⟩) hgo).trans hgi0
                  have hgo2 : old gb wr := Nat.lt_of_lt_of_le hgo HL.out.below.size
                  obtain ⟨u1, u2⟩ := HL.out.rU hrn
                  obtain ⟨v1, v2⟩ := HL.out.rV (k := k) (by omega)
                  obtain ⟨d1, d2⟩ := HL.out.rD hkn
                  obtain ⟨f1, f2⟩ := HL.out.rF hkn
                  obtain ⟨oU, oV, oR, oD, oF, oN⟩ := HL.out.o
                  have bu := HW.out.pot.u r hrn
                  have bv := HW.out.pot.v k (by omega)
                  have bn := HW.out.pot.bd HC.out HM.out
                  have bx := HC.out.rng r hrn k hkn
                  obtain ⟨z, hz⟩ : ∃ z, (G r).getD k 0 = z := ⟨_, rfl⟩
                  obtain ⟨a, ha⟩ : ∃ a, U r = a := ⟨_, rfl⟩
                  obtain ⟨b, hb⟩ : ∃ b, V k = b := ⟨_, rfl⟩
                  obtain ⟨d, hdd⟩ : ∃ d, D1 k = d := ⟨_, rfl⟩
                  rw [hz] at hx bx
                  rw [ha] at u1 bu
                  rw [hb] at v1 bv
                  rw [hdd] at d1
                  have ba : 0 ≤ a ∧ a ≤ 1125899906842624 := by omega
                  have bb : -1125899906842624 ≤ b ∧ b ≤ 0 := by omega
                  have HE := Lib.hid (show cst G r k = z ∧ U r = a ∧ V k = b ∧ D1 k = d ∧ N1 k = false from ⟨hz, ha, hb, hdd, hd⟩)
                  clear hz ha hb hdd hd bu bv bn hlr hgi0 hrow hqc
                  obtain ⟨ba1, ba2⟩ := ba
                  obtain ⟨bb1, bb2⟩ := bb
                  obtain ⟨bx1, bx2⟩ := bx
                  by_cases hzM : z ≤ M
                  · have e1 : decide (z ≤ M) = true := by simpa using hzM
                    by_cases hs : z - a - b < d
                    · have e2 : decide (z - a - b < d) = true := by simpa using hs
                      have hn1' := HL.out.nDF
                      have hn2' := Ne.symm hn1'
                      have hk1' : (k : Int) < (n : Int) + 1 := by omega
                      have hk2' : (k : Int) < (n : Int) := by omega
                      have hr2' : (r : Int) < (n : Int) := by omega
                      go_upto_region 18 with (refine wp_region_xt (by kernel_rfl) (by kernel_rfl) ?_; (repeat (go_big_quiet_step (fail))); refine wpQuiet_nil ?_; intro g)
                      go_region
                      go_outline
                      by_cases hl : z - a - b < y
                      · have e3 : decide (z - a - b < y) = true := by simpa using hl
                        have HS1 := Lib.hid (scan_put HS.out HE.out.2.2.2.2 (z - a - b) (by obtain ⟨h1, h2, h3, h4, _⟩ := HE.out; rw [h1]; exact hzM) (by obtain ⟨h1, h2, h3, h4, _⟩ := HE.out; rw [h1, h2, h3]) (by obtain ⟨h1, h2, h3, h4, _⟩ := HE.out; rw [h4]; exact hs) k (z - a - b) (.inl ⟨hl, rfl, rfl⟩))
                        go_wp2_with (first
                          | (refine wp_region_xt (by kernel_rfl) (by kernel_rfl) ?_; (repeat (go_big_quiet_step (first | fail))); refine wpQuiet_nil ?_; intro g))
                        go_roundg (gk - 1)
                        case measure => omega
                        case rel => exact ⟨k + 1, up D1 k (z - a - b), up F1 k c, _, _, by omega, by go_num, rfl, rfl, Lib.hid (by repeat (first | (with_reducible exact HL.out) | (with_reducible refine LM.xt ?_ _) | (with_reducible refine LM.drew ?_) | (with_reducible refine LM.setF ?_ _ _) | (with_reducible refine LM.setD ?_ _ _))), HS1⟩
                      · have e3 : decide (z - a - b < y) = false := by simpa using hl
                        have HS1 := Lib.hid (scan_put HS.out HE.out.2.2.2.2 (z - a - b) (by obtain ⟨h1, h2, h3, h4, _⟩ := HE.out; rw [h1]; exact hzM) (by obtain ⟨h1, h2, h3, h4, _⟩ := HE.out; rw [h1, h2, h3]) (by obtain ⟨h1, h2, h3, h4, _⟩ := HE.out; rw [h4]; exact hs) x y (.inr ⟨by omega, rfl, rfl⟩))
                        go_wp2_with (first
                          | (refine wp_region_xt (by kernel_rfl) (by kernel_rfl) ?_; (repeat (go_big_quiet_step (first | fail))); refine wpQuiet_nil ?_; intro g))
                        go_roundg (gk - 1)
                        case measure => omega
                        case rel => exact ⟨k + 1, up D1 k (z - a - b), up F1 k c, _, _, by omega, by go_num, rfl, rfl, Lib.hid (by repeat (first | (with_reducible exact HL.out) | (with_reducible refine LM.xt ?_ _) | (with_reducible refine LM.drew ?_) | (with_reducible refine LM.setF ?_ _ _) | (with_reducible refine LM.setD ?_ _ _))), HS1⟩
                    · have e2 : decide (z - a - b < d) = false := by simpa using hs
                      have HK := Lib.hid (scan_keep HS.out HE.out.2.2.2.2 (by obtain ⟨h1, h2, h3, h4, _⟩ := HE.out; rw [h1, h2, h3, h4]; omega))
                      clear HS
                      by_cases hl : d < y
                      · have e3 : decide (d < y) = true := by simpa using hl
                        have HS1 := Lib.hid (HK.out k d (.inl ⟨by rw [HE.out.2.2.2.1]; exact hl, rfl, by rw [HE.out.2.2.2.1]⟩))
                        go_wp2_with (first
                          | (refine wp_region_xt (by kernel_rfl) (by kernel_rfl) ?_; (repeat (go_big_quiet_step (first | fail))); refine wpQuiet_nil ?_; intro g))
                        go_roundg (gk - 1)
                        case measure => omega
                        case rel => exact ⟨k + 1, D1, F1, _, _, by omega, by go_num, rfl, rfl, Lib.hid (by repeat (first | (with_reducible exact HL.out) | (with_reducible refine LM.xt ?_ _))), HS1⟩
                      · have e3 : decide (d < y) = false := by simpa using hl
                        have HS1 := Lib.hid (HK.out x y (.inr ⟨by rw [HE.out.2.2.2.1]; omega, rfl, rfl⟩))
                        go_wp2_with (first
                          | (refine wp_region_xt (by kernel_rfl) (by kernel_rfl) ?_; (repeat (go_big_quiet_step (first | fail))); refine wpQuiet_nil ?_; intro g))
                        go_roundg (gk - 1)
                        case measure => omega
                        case rel => exact ⟨k + 1, D1, F1, _, _, by omega, by go_num, rfl, rfl, Lib.hid (by repeat (first | (with_reducible exact HL.out) | (with_reducible refine LM.xt ?_ _))), HS1⟩
                  · have e1 : decide (z ≤ M) = false := by simpa using hzM
                    have HK := Lib.hid (scan_keep HS.out HE.out.2.2.2.2 (by obtain ⟨h1, h2, h3, h4, _⟩ := HE.out; rw [h1]; intro h; exact absurd h hzM))
                    clear HS
                    by_cases hl : d < y
                    · have e3 : decide (d < y) = true := by simpa using hl
                      have HS1 := Lib.hid (HK.out k d (.inl ⟨by rw [HE.out.2.2.2.1]; exact hl, rfl, by rw [HE.out.2.2.2.1]⟩))
                      go_wp2_with (first
                        | (refine wp_region_xt (by kernel_rfl) (by kernel_rfl) ?_; (repeat (go_big_quiet_step (first | fail))); refine wpQuiet_nil ?_; intro g))
                      go_roundg (gk - 1)
                      case measure => omega
                      case rel => exact ⟨k + 1, D1, F1, _, _, by omega, by go_num, rfl, rfl, Lib.hid (by repeat (first | (with_reducible exact HL.out) | (with_reducible refine LM.xt ?_ _))), HS1⟩
                    · have e3 : decide (d < y) = false := by simpa using hl
                      have HS1 := Lib.hid (HK.out x y (.inr ⟨by rw [HE.out.2.2.2.1]; omega, rfl, rfl⟩))
                      go_wp2_with (first
                        | (refine wp_region_xt (by kernel_rfl) (by kernel_rfl) ?_; (repeat (go_big_quiet_step (first | fail))); refine wpQuiet_nil ?_; intro g))
                      go_roundg (gk - 1)
                      case measure => omega
                      case rel => exact ⟨k + 1, D1, F1, _, _, by omega, by go_num, rfl, rfl, Lib.hid (by repeat (first | (with_reducible exact HL.out) | (with_reducible refine LM.xt ?_ _))), HS1⟩
                --B}
              · obtain rfl : n = k := by omega
                obtain ⟨xn, hxn, rfl, hxd, hxl, hy0, hy1, hyall⟩ := scan_found HC.out HM.out HW.out hc0 HR1.out hlt HN.out (show Scan G M U V (upb N c true) c (R1 c).toNat D F n D1 F1 x y by rw [HN1.out, HRR.out]; exact HS.out)
                rw [HN1.out] at hxd hyall
                have HYA := Lib.hid hyall
                have HXD := Lib.hid hxd
                have HDR := Lib.hid (show ∀ d, d ≤ n → N1 d = true → 0 ≤ R1 d by have h := dn_row HW.out hc0; rw [HN1.out] at h; exact h)
                have HDN := Lib.hid (show N1 n = true by have h := dn_n HW.out; rw [HN1.out] at h; exact h)
                have HU := Lib.hid (Upd.start (n := n) (R := R1) (Dn := N1) (ls := y) (U := U) (V := V) (Ds := D1))
                clear hyall hxd hxl hk
                go_wp2_with fail
                go_loopg [125] (n + 1) (fun gk kk wx => ∃ (k : Nat) (U1 V1 D2 : Nat → Int), k + gk = n + 1 ∧ kk = .int .i64 k ∧ Hid (LM w wx n bU bV bR bD bF bN U1 V1 R1 D2 F1 N1) ∧ Hid (Upd n R1 N1 y U V D1 k U1 V1 D2))
                case atStart => exact ⟨0, U, V, D1, by omega, rfl, HL, HU⟩
                case round =>
                  clear HL HU
                  obtain ⟨k, U1, V1, D2, hk, rfl, HL, HU⟩ := hrel
                  by_cases hkn : k < n + 1
                  · skip
                    --C{
                    obtain ⟨n1, n2⟩ := HL.out.rN hkn
                    have hcur := HU.out.cur HR1.out hlt HN.out HDR.out (show k ≤ n by omega)
                    have bv := HW.out.pot.v k (by omega)
                    have bn := HW.out.pot.bd HC.out HM.out
                    obtain ⟨oU, oV, oR, oD, oF, oN⟩ := HL.out.o
                    cases hd : N1 k with
                    | true =>
                      rw [hd] at n1
                      have hk0 := HDR.out k (by omega) hd
                      obtain ⟨q, hq⟩ : ∃ q : Nat, R1 k = (q : Int) := ⟨(R1 k).toNat, by omega⟩
                      have hqq : (R1 k).toNat = q := by omega
                      have hqn : q < n := by have := row_lt HR1.out hlt HN.out (show k ≤ n by omega) hk0; omega
                      have hcu := hcur.2.2 hd
                      rw [hqq] at hcu
                      obtain ⟨y1, y2⟩ := HL.out.rR hkn
                      rw [hq] at y1
                      obtain ⟨u1, u2⟩ := HL.out.rU hqn
                      obtain ⟨v1, v2⟩ := HL.out.rV hkn
                      rw [hcu] at u1
                      rw [hcur.1] at v1
                      have bu := HW.out.pot.u q hqn
                      have HU1 := HU.out.done HR1.out hlt HN.out HDR.out (show k ≤ n by omega) hd
                      rw [hqq] at HU1
                      have HU2 := Lib.hid HU1
                      have ne1 := HL.out.nUV
                      have ne2 := HL.out.nUR
                      have ne3 := HL.out.nVR
                      obtain ⟨a, ha⟩ : ∃ a, U q = a := ⟨_, rfl⟩
                      obtain ⟨b, hb⟩ : ∃ b, V k = b := ⟨_, rfl⟩
                      rw [ha] at u1 bu HU2
                      rw [hb] at v1 bv HU2
                      have ba1 : 0 ≤ a := by omega
                      have ba2 : a ≤ 1125899906842624 := by omega
                      have bb1 : -1125899906842624 ≤ b := by omega
                      have bb2 : b ≤ 0 := by omega
                      clear HU1 HU hcur hcu hqq hq ha hb hd bu bv bn
                      go_wp2_with fail
                      go_roundg (gk - 1)
                      case measure => omega
                      case rel => exact ⟨k + 1, _, _, D2, by omega, by go_num, Lib.hid ((HL.out.setU q (a + y)).setV k (b - y)), HU2⟩
                    | false =>
                      rw [hd] at n1
                      have hkn' : k < n := by
                        rcases Nat.lt_or_ge k n with h | h
                        · exact h
                        · obtain rfl : n = k := by omega
                          rw [HDN.out] at hd; cases hd
                      obtain ⟨d1, d2⟩ := HL.out.rD hkn'
                      rw [hcur.2.1] at d1
                      have hyd := HYA.out k hkn' hd
                      obtain ⟨d, hdd⟩ : ∃ d, D1 k = d := ⟨_, rfl⟩
                      by_cases hf : d < 1152921504606846976
                      · have e1 : decide (d < 1152921504606846976) = true := by simpa using hf
                        have HU2 := Lib.hid (HU.out.near hd (show D1 k < far by rw [hdd]; exact hf))
                        rw [hdd] at d1 HU2 hyd
                        clear HU hcur hdd hd bv bn
                        go_wp2_with fail
                        go_roundg (gk - 1)
                        case measure => omega
                        case rel => exact ⟨k + 1, U1, V1, _, by omega, by go_num, Lib.hid (HL.out.setD k (d - y)), HU2⟩
                      · have e1 : decide (d < 1152921504606846976) = false := by simpa using hf
                        have HU2 := Lib.hid (HU.out.wide hd (show far ≤ D1 k by rw [hdd]; unfold far; omega))
                        rw [hdd] at d1 hyd
                        clear HU hcur hdd hd bv bn
                        go_wp2_with fail
                        go_roundg (gk - 1)
                        case measure => omega
                        case rel => exact ⟨k + 1, U1, V1, D2, by omega, by go_num, HL, HU2⟩
                    --C}
                  · obtain rfl : k = n + 1 := by omega
                    have HW2 := Lib.hid (way_next HC.out HM.out HW.out hc0 HR1.out hlt HN.out (show Scan G M U V (upb N c true) c (R1 c).toNat D F n D1 F1 xn y by rw [HN1.out, HRR.out]; exact HS.out) (show Upd n R1 (upb N c true) y U V D1 (n + 1) U1 V1 D2 by rw [HN1.out]; exact HU.out) rfl)
                    rw [HN1.out] at HW2
                    obtain ⟨od1, hod1⟩ : ∃ o, (fun k => if k = xn then t + 1 else od k) = o := ⟨_, rfl⟩
                    rw [hod1] at HW2
                    obtain ⟨z1, z2⟩ := HL.out.rR (k := xn) (by omega)
                    clear hod1 HU HS hk hkn HYA
                    by_cases hx0 : R1 xn < 0
                    · have e1 : decide (R1 xn < 0) = true := by simpa using hx0
                      have HA := Lib.hid (Aug.start HW2.out HR1.out hlt HN.out hx0)
                      clear hx0
                      generalize R1 xn = rx at z1 e1
                      go_wp2_with fail
                      clear z1 z2 e1
                      go_loopg [10] (od1 xn) (fun gk c wx => ∃ (k : Nat) (R2 : Nat → Int), c = .int .i64 k ∧ od1 k = gk ∧ Hid (LM w wx n bU bV bR bD bF bN U1 V1 R2 D2 F1 N1) ∧ Hid (Aug G n M i R1 U1 V1 N1 od1 xn R2 k))
                      case atStart => exact ⟨xn, R1, rfl, rfl, HL, HA⟩
                      case round =>
                        clear HL HA
                        obtain ⟨k, R2, rfl, hgk, HL, HA⟩ := hrel
                        by_cases hkn : k = n
                        · obtain rfl : n = k := hkn.symm
                          have HF1 := Lib.hid HA.out.fin.1
                          have HF2 := Lib.hid HA.out.fin.2
                          clear HA hkn hgk
                          go_wp2_with fail
                          rw [Exit.noGoto_normal]
                          go_wp2_with fail
                          go_roundg (g0 - 1)
                          case measure => omega
                          case rel => exact ⟨i + 1, U1, V1, R2, by omega, by go_num, Lib.hid HL.out.k, Lib.hid HW2.out.pot, HF2, HF1⟩
                        · obtain ⟨b, b1, b2, b3, b4, b5, b6, hA1⟩ := HA.out.next HW2.out hkn
                          have hkle := HA.out.cn
                          have HA1 := Lib.hid hA1
                          obtain ⟨f1, f2⟩ := HL.out.rF (k := k) (by omega)
                          obtain ⟨y1, y2⟩ := HL.out.rR (k := b) (by omega)
                          obtain ⟨z1, z2⟩ := HL.out.rR (k := k) (by omega)
                          obtain ⟨oU, oV, oR, oD, oF, oN⟩ := HL.out.o
                          rw [b1] at f1
                          have ne1 := HL.out.nRF
                          have e1 : ((k : Int) != (n : Int)) = true := by simpa using by omega
                          have HO := Lib.hid (show od1 b < gk by omega)
                          have HLn := Lib.hid (HL.out.setR k (R2 b))
                          clear HA HL hA1 b1 b4 b5 b6 hgk
                          generalize hrb : R2 b = rb at *
                          go_wp2_with fail
                          go_roundg (od1 b)
                          case measure => exact HO.out
                          case rel => exact ⟨b, _, rfl, rfl, HLn, HA1⟩
                    · have e1 : decide (R1 xn < 0) = false := by simpa using hx0
                      have hx1 : 0 ≤ R1 xn := by omega
                      have HX1 := Lib.hid hx1
                      have hg1 : cntp (fun j => !N1 j) (n + 1) = g1 - 1 ∧ 0 < g1 := by have h1 := hcN.out; have h2 := HCN.out; omega
                      have HG1 := Lib.hid hg1
                      clear hx0 hx1 hg1
                      generalize R1 xn = rx at z1 e1
                      go_wp2_with fail
                      go_roundg (g1 - 1)
                      case measure => have := HG1.out.2; omega
                      case rel => exact ⟨xn, U1, V1, D2, F1, N1, od1, t + 1, rfl, HX1.out, HG1.out.1, HL, HW2⟩
      · obtain rfl : n = i := by omega
        obtain ⟨oU, oV, oR⟩ := HK.out.o
        have hm := hmk wr
        go_wp2_with fail
        obtain ⟨W1, hW1⟩ : ∃ W1, wr.alloc (.cells (arrI n (fun _ => 0)) 3) = W1 := ⟨_, rfl⟩
        have HK1 := Lib.hid (show KM w W1 n bU bV bR U V R by rw [← hW1]; exact HK.out.alloc _)
        have HC1 := Lib.hid (show Blk W1 wr.heap.size (arrI n (fun _ => 0)) 3 by rw [← hW1]; exact Blk.new _ _ _ rfl)
        have hgC : w.heap.size ≤ wr.heap.size := HK.out.below.size
        have hs := hmk
        rw [hW1]
        have HCo := Lib.hid (show Colm R 0 (fun _ => 0) from fun j h => absurd h (by omega))
        have hnC1 : bU < wr.heap.size := oU
        have hnC2 : bV < wr.heap.size := oV
        have hnC3 : bR < wr.heap.size := oR
        clear hW1 hm hs HK oU oV oR
        generalize wr.heap.size = bC at *
        go_loopg [194] (n) (fun gk kk wx => ∃ (k : Nat) (C : Nat → Int), k + gk = n ∧ kk = .int .i64 k ∧ Hid (KM w wx n bU bV bR U V R) ∧ Hid (Blk wx bC (arrI n C) 3) ∧ Hid (Colm R k C))
        case atStart => exact ⟨0, _, by omega, rfl, HK1, HC1, HCo⟩
        case round =>
          clear HK1 HC1 HCo
          obtain ⟨k, C, hk, rfl, HK, HC1, HCo⟩ := hrel
          by_cases hkn : k < n
          · have hr0 := rws_all HR.out k hkn
            obtain ⟨q, hq⟩ : ∃ q : Nat, R k = (q : Int) := ⟨(R k).toNat, by omega⟩
            have hqq : (R k).toNat = q := by omega
            have hqn : q < n := by have := HR.out.lt k hkn; omega
            obtain ⟨y1, y2⟩ := HK.out.rR (k := k) (by omega)
            rw [hq] at y1
            have c1 := HC1.out.cell (arrI_get hqn)
            have c2 : wr.frozen? ⟨bC, q, none⟩ = false := HC1.out.frozen
            obtain ⟨oU, oV, oR⟩ := HK.out.o
            have oC : old bC wr := HC1.out.lt
            have HC2 := Lib.hid (show Blk (wr.setCell ⟨bC, q, none⟩ (.int .i64 (k : Int))) bC (arrI n (up C q k)) 3 by rw [← arrI_set]; exact HC1.out.set _)
            have HCo2 := HCo.out.next HR.out hkn
            rw [hqq] at HCo2
            have HCo3 := Lib.hid HCo2
            have HK2 := Lib.hid (show KM w (wr.setCell ⟨bC, q, none⟩ (.int .i64 (k : Int))) n bU bV bR U V R from
              ⟨HK.out.below.setCell hgC _, HK.out.geU, HK.out.geV, HK.out.geR, HK.out.nUV, HK.out.nUR, HK.out.nVR, HK.out.cU.other _ (by simp; omega), HK.out.cV.other _ (by simp; omega), HK.out.cR.other _ (by simp; omega)⟩)
            clear HK HC1 HCo HCo2 hqq hq
            go_wp2_with fail
            go_roundg (gk - 1)
            case measure => omega
            case rel => exact ⟨k + 1, _, by omega, by go_num, HK2, HC2, HCo3⟩
          · obtain rfl : n = k := by omega
            have HCH := Lib.hid (chp_of HC.out HM.out HR.out HP.out HT.out HCo.out)
            clear HR HP HT HCo
            go_wp2_with (first
              | (refine wp_region_xt (by kernel_rfl) (by kernel_rfl) ?_; (repeat (go_big_quiet_step (first | fail))); refine wpQuiet_nil ?_; intro g))
            go_ret3
            exact ⟨bC, bU, bV, C, U, V, rfl, Below.xt HK.out.below HK.out.below.size _, hgC, HK.out.geU, HK.out.geV, HC1.out.xt _, HK.out.cU.xt _, HK.out.cV.xt _, HCH.out⟩
end Go.Proofs.Ytjiknjcmfiapjaa

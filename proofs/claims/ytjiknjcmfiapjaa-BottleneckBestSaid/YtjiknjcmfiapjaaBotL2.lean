
/- The law on best assignments: its walk. Conditions stand in each theorem. -/
import Derived.Test.YtjiknjcmfiapjaaBotKn
import Derived.Test.YtjiknjcmfiapjaaBotO
import Derived.Test.YtjiknjcmfiapjaaBotF
namespace Go.Proofs.Ytjiknjcmfiapjaa
open Go.RowKit
set_option linter.unusedVariables false
set_option linter.unusedSimpArgs false
set_option maxRecDepth 100000 in
set_option maxHeartbeats 12800000 in
theorem BottleneckBest_walk (cA : Option Addr) (cN cC : Nat) (W : World) (oc : CostsOk W cA cN cC) : Calls Try.prog 6 #[.slice cA cN cC] W (RetB (.bool true) W) := by
  obtain ⟨i0, hi0, hz0, hz1, hz2⟩ := info_parts infoInt
  obtain ⟨i1, hi1, hy0, hy1, hy2⟩ := info_parts infoRow
  obtain ⟨G, hcm, hcl, hcg, _⟩ := oc
  have HG := Lib.hid hcg
  obtain ⟨sb, hsb⟩ : ∃ b, smB G cN 6 = b := ⟨_, rfl⟩
  have C0 := Lib.hid (show Calls Try.prog 8 #[.slice cA cN cC, .int .i64 6] W (Ret (.bool sb) W) by rw [← hsb]; exact bsmall_any cA cN cC 6 G _ hcm (fun i hi => (hcl i hi).1) hcg)
  have HSB := Lib.hid hsb
  have hmx : cN ≤ 9223372036854775807 := by unfold maxLen at hcm; omega
  clear hcg hcl hsb hcm
  cases sb with
  | false =>
    go_enter Try.func6, Try.ntmps6
    go_wp2_with (first | (go_at_call 8; refine C0.out.mono ?_; rintro e' w' ⟨rfl, rfl⟩) | (go_at_call 9; refine (RetB.grown (known_any _)).mono ?_; rintro e' w' ⟨rfl, gk1, rfl⟩))
    go_ret
    exact ⟨rfl, (by repeat' (first | exact Below.refl _ _ | assumption | refine Below.xt ?_ ?_ _ | refine Below.alloc ?_ ?_ _ | refine Below.drew ?_ | refine Below.setCell ?_ ?_ _ | (simp; done) | (simp; omega)))⟩
  | true =>
    have hsm := smB_iff.1 HSB.out
    have hcN := hsm.2
    have HSM := Lib.hid hsm.1
    clear hsm
    go_enter Try.func6, Try.ntmps6
    go_wp2_with (first | (go_at_call 8; refine C0.out.mono ?_; rintro e' w' ⟨rfl, rfl⟩) | (go_at_call 9; refine (RetB.grown (known_any _)).mono ?_; rintro e' w' ⟨rfl, gk1, rfl⟩))
    go_loopg [3, 22] (cN) (fun gk v i wr => ∃ k : Nat, k + gk = cN ∧ i = .int .i64 k ∧ Hid (Below W.heap.size W wr) ∧ Hid (GOwn wr W.heap.size v k G))
    case atStart => exact ⟨0, by omega, rfl, Lib.hid (Below.refl _ _), Lib.hid GOwn.nil⟩
    case round =>
      obtain ⟨k, hk, rfl, HB, HO⟩ := hrel
      by_cases hlt : k < cN
      · obtain ⟨ga, go, rfl, hga, hgc⟩ := (HG.out.below HB.out).top (by omega)
        obtain ⟨Ai, ci, hgi, hri⟩ := hgc k hlt
        have hqs := HSM.out k hlt
        have HRi := Lib.hid hri
        obtain ⟨q, hq⟩ : ∃ q, (G k).length = q := ⟨_, rfl⟩
        rw [hq] at hgi hqs
        have HQ := Lib.hid hq
        obtain ⟨xs, hx, hi⟩ := HO.out
        have HX0 := Lib.hid hx
        have HI0 := Lib.hid hi
        clear hgc hri hq hx hi HO
        go_wp2_with (at_builtin; go_must (refine wpList_copyI rfl (.const (.slice none 0 0)) (.tmp 27) rfl W.heap.size HB.out.size Ai q ci (G k) rfl rfl HQ.out.symm (by rw [HQ.out]; omega) HRi.out ?_))
        intro A2 c2 w2 ho2 hb2
        rw [HQ.out] at ho2 ⊢
        have HO2 := Lib.hid ho2
        have HB2 := Lib.hid (HB.out.trans (hb2.mono HB.out.size))
        have HX := Lib.hid (own_later HX0.out hb2)
        have HI := Lib.hid (show ∀ i, i < k → ∃ u, xs[i]? = some u ∧ w2.ownsRow W.heap.size 3 1 u (G i).length ((G i).map (Value.int .i64)) from fun i hlt => by obtain ⟨u, e, ho⟩ := HI0.out i hlt; exact ⟨u, e, own_later ho hb2⟩)
        clear ho2 hb2 HX0 HI0 HB
        go_wp2_with (at_builtin; go_must (refine wpList_append_own _ rfl (.tmp 26) (.tmp 29) 22 rfl W.heap.size 23 i1 _ 1 24 Try.underlying22 hi1 hy0 hy1 hy2 rfl (by omega) u3 k xs rfl (HX.out.alloc _) _ 1 _ [.slice A2 q c2] rfl rfl ?_ ?_ ?_ ?_ ?_ ?_))
        · exact cells_new _ _ _ _ (by simp)
        · intro u hu; simp only [List.mem_cons, List.not_mem_nil, or_false] at hu; subst hu; rfl
        · simp only [maxLen]; omega
        · omega
        · have := HB2.out.size; simp; omega
        intro v3 w3 hown3 hgrow3 _
        have hsx := HB2.out.size
        have HO3 := Lib.hid (show w2.ownsRow W.heap.size 3 1 (.slice A2 q c2) (G k).length ((G k).map (Value.int .i64)) by rw [HQ.out]; exact HO2.out)
        have HGO := Lib.hid (gown_push (w := w2.alloc (.cells #[.slice A2 q c2] 23)) (n := k) (G := G) (HX.out.alloc _) (fun i hlt => by obtain ⟨u, e, ho⟩ := HI.out i hlt; exact ⟨u, e, ho.alloc _⟩) (HO3.out.alloc _) hown3 hgrow3)
        have HB3 := Lib.hid (below_grown (e := 23) (s := 1) (n := k) (v := u3) (xs := xs) (HB2.out.alloc hsx (.cells #[.slice A2 q c2] 23)) (by simp; omega) (HX.out.alloc _) hgrow3)
        clear hown3 hgrow3 HX HI HO2 HO3 HB2
        go_wp2_with fail
        go_roundg (gk - 1)
        case measure => omega
        case rel => exact ⟨k + 1, by omega, by go_num, HB3, HGO⟩
      · obtain rfl : cN = k := by omega
        obtain ⟨A2, c2, rfl, hgo⟩ := HO.out.row
        have HGo := Lib.hid hgo
        have HGc0 := Lib.hid (HG.out.below HB.out)
        clear hgo HO
        have hb := HB.out
        cases hv : cvd G cN with
        | false =>
          have C1 := Lib.hid (Threshold_no A2 cN c2 G wr (by omega) (fun i hi => by have := HSM.out i hi; omega) HGo.out hv)
          have C2 := Lib.hid (show ∀ g, Calls Try.prog 13 #[.slice A2 cN c2] (xt wr g) (RetB (.tuple #[.agg #[.slice none 0 0, .int .i64 0, .int .i64 0], .agg #[.slice none 0 0, .slice none 0 0, .slice none 0 0, .slice none 0 0], .int .i64 2]) (xt wr g)) from fun g => Best_no A2 cN c2 G _ (by omega) (fun i hi => by have := HSM.out i hi; omega) (HGo.out.xt g) hv)
          have HV := Lib.hid hv
          clear hv
          go_wp2_with (first | (go_at_call 20; refine (RetB.grown C1.out).mono ?_; rintro e' w' ⟨rfl, g1, rfl⟩) | (go_at_call 13; refine (RetB.grown (C2.out _)).mono ?_; rintro e' w' ⟨rfl, g2, rfl⟩))
          obtain ⟨W9, hW9, HB9, HGc, HGo2, HAs, HPr⟩ : ∃ W9, ((xt (xt wr g1) g2).alloc (.cells #[.slice none 0 0, .int .i64 0, .int .i64 0] 25)).alloc (.cells #[.slice none 0 0, .slice none 0 0, .slice none 0 0, .slice none 0 0] 29) = W9 ∧ Hid (Below W.heap.size W W9) ∧ Hid (GRow W9 cA cN G) ∧ Hid (GRow W9 A2 cN G) ∧ Hid (Blk W9 (wr.heap.size + g1.blocks.length + g2.blocks.length) #[.slice none 0 0, .int .i64 0, .int .i64 0] 25) ∧ Hid (Blk W9 (wr.heap.size + g1.blocks.length + g2.blocks.length + 1) #[.slice none 0 0, .slice none 0 0, .slice none 0 0, .slice none 0 0] 29) :=
            ⟨_, rfl, Lib.hid (by have hs := hb.size; exact (by repeat' (first | exact Below.refl _ _ | assumption | refine Below.xt ?_ ?_ _ | refine Below.alloc ?_ ?_ _ | refine Below.drew ?_ | refine Below.setCell ?_ ?_ _ | (simp; done) | (simp; omega)))), Lib.hid ((((HGc0.out.xt _).xt _).alloc _).alloc _), Lib.hid ((((HGo.out.xt _).xt _).alloc _).alloc _), Lib.hid ((Blk.new _ _ _ (by simp)).alloc _), Lib.hid (Blk.new _ _ _ (by simp))⟩
          rw [hW9]
          obtain ⟨b8, hb8⟩ : ∃ b, wr.heap.size + g1.blocks.length + g2.blocks.length = b := ⟨_, rfl⟩
          simp only [hb8] at HAs HPr ⊢
          clear hW9 hb8 C1 C2 HGo HGc0 hb
          go_loopw [45] (fun i wr => ∃ (k : Nat) (g' : Gr), k ≤ cN ∧ i = .int .i64 k ∧ wr = xt W9 g') (fun i _ => cN - (intOf i).toNat)
          case atStart => exact ⟨0, _, by omega, rfl, (xt_self _).symm⟩
          case round =>
            obtain ⟨i, g5, hi2, rfl, rfl⟩ := hrel
            by_cases hlt4 : i < cN
            · obtain ⟨ga, go, rfl, hga, hgc⟩ := HGc.out.top (by omega)
              obtain ⟨gb, gp, rfl, hgb, hgd⟩ := HGo2.out.top (by omega)
              obtain ⟨Ai, ci, hgi, hri⟩ := hgc i hlt4
              obtain ⟨Bi, di, hgj, hrj⟩ := hgd i hlt4
              have hqs := HSM.out i hlt4
              have HRi := Lib.hid hri
              have HRj := Lib.hid hrj
              obtain ⟨q, hq⟩ : ∃ q, (G i).length = q := ⟨_, rfl⟩
              rw [hq] at hgi hgj hqs
              have HQ := Lib.hid hq
              clear hgc hgd hri hrj hq
              go_wp2_with fail
              go_loopw [52] (fun j wr => ∃ (k : Nat) (g' : Gr), k ≤ q ∧ j = .int .i64 k ∧ wr = xt W9 g') (fun j _ => q - (intOf j).toNat)
              case atStart => exact ⟨0, _, by omega, rfl, rfl⟩
              case round =>
                obtain ⟨k, g6, hk3, rfl, rfl⟩ := hrel
                by_cases hlt5 : k < q
                · obtain ⟨qa, qo, rfl, hqa, hqc⟩ := RowI.at_ HRi.out (by rw [HQ.out]; omega)
                  obtain ⟨ra, ro, rfl, hra, hrc⟩ := RowI.at_ HRj.out (by rw [HQ.out]; omega)
                  have e1 := hqc k (by rw [HQ.out]; exact hlt5)
                  have e2 := hrc k (by rw [HQ.out]; exact hlt5)
                  generalize (G i).getD k 0 = x at e1 e2
                  clear hqc hrc
                  go_wp2_with (first
                    | (refine wp_region_xt (by kernel_rfl) (by kernel_rfl) ?_; (repeat (go_big_quiet_step (first | fail))); refine wpQuiet_nil ?_; intro g))
                  go_roundw
                  case rel => exact ⟨k + 1, _, by omega, by go_num, by (repeat rw [xt_xt])⟩
                  case measure => simp [intOf]; omega
                · obtain rfl : q = k := by omega
                  go_wp2_with fail
                  go_roundw
                  case rel => exact ⟨i + 1, _, by omega, by go_num, rfl⟩
                  case measure => simp [intOf]; omega
            · obtain rfl : cN = i := by omega
              have C3 := Lib.hid (show ∀ g, Calls Try.prog 11 #[.slice cA cN cC] (xt W9 g) (Ret (.bool false) (xt W9 g)) from fun g => by rw [← HV.out]; exact rValid_any cA cN cC G _ (by omega) (fun i hi => by have := HSM.out i hi; omega) (HGc.out.xt g))
              obtain ⟨a0, a1, a2, _, _, _, aO⟩ := HAs.out.f3
              have p0 : W9.cell? ⟨b8 + 1, 0, none⟩ = some (.slice none 0 0) := HPr.out.cell rfl
              have p1 : W9.cell? ⟨b8 + 1, 1, none⟩ = some (.slice none 0 0) := HPr.out.cell rfl
              have p2 : W9.cell? ⟨b8 + 1, 2, none⟩ = some (.slice none 0 0) := HPr.out.cell rfl
              have p3 : W9.cell? ⟨b8 + 1, 3, none⟩ = some (.slice none 0 0) := HPr.out.cell rfl
              have pO : old (b8 + 1) W9 := HPr.out.lt
              have HX9 := Lib.hid (show ∀ g, Below W.heap.size W (xt W9 g) from fun g => Below.xt HB9.out HB9.out.size g)
              go_wp2_with (first | (go_at_call 9; refine (RetB.grown (known_any _)).mono ?_; rintro e' w' ⟨rfl, gk1, rfl⟩) | (go_at_call 11; refine (C3.out _).mono ?_; rintro e' w' ⟨rfl, rfl⟩))
              go_ret
              exact ⟨rfl, by (repeat rw [xt_xt]); exact HX9.out _⟩
        | true =>
          have C1 := Lib.hid (Threshold_any A2 cN c2 G wr HGo.out hv)
          have C2 := Lib.hid (show ∀ g, Calls Try.prog 13 #[.slice A2 cN c2] (xt wr g) (BestP G cN (xt wr g)) from fun g => Best_any A2 cN c2 G _ (HGo.out.xt g) hv)
          have HV := Lib.hid hv
          have HC := Lib.hid (cvd_iff.1 hv)
          clear hv
          go_wp2_with (first | (go_at_call 20; refine C1.out.mono ?_; rintro e' w' ⟨T, rfl, hT, hb1⟩; obtain ⟨g1, rfl⟩ := xt_of_below hb1; have HT := Lib.hid hT; clear hT hb1) | (go_at_call 13; refine (C2.out _).mono ?_; rintro e' w' ⟨A1, c1, Al, cl0, Ar, cr0, AU, cu, AV, cv, l, T2, s, cl, cr, u, v, rfl, hc1, hb2, hr1, hrl, hrr, hru, hrv, hp, hT2⟩; obtain ⟨g2, rfl⟩ := xt_of_below hb2; have HT2 := Lib.hid hT2; have HRs := Lib.hid (show RowI (xt (xt wr g1) g2) A1 l ∧ RowI (xt (xt wr g1) g2) Al cl ∧ RowI (xt (xt wr g1) g2) Ar cr ∧ RowI (xt (xt wr g1) g2) AU u ∧ RowI (xt (xt wr g1) g2) AV v from ⟨hr1, hrl, hrr, hru, hrv⟩); have HP := Lib.hid hp; have HC1 := Lib.hid hc1; clear hT2 hr1 hrl hrr hru hrv hp hc1 hb2))
          obtain rfl := HT.out.uniq HT2.out
          have hp := HP.out
          simp only [prvA, pr1, pr2, pr3, Bool.and_eq_true, decide_eq_true_eq] at hp
          obtain ⟨⟨⟨⟨⟨hcb, hpu⟩, hpv⟩, _⟩, ⟨_, hpc⟩⟩, _⟩ := hp
          have hpl := (colsB_iff.1 hcb).2
          have HLN := Lib.hid (show l.length = cN ∧ u.length = cN ∧ v.length = cN ∧ cl.length + cr.length < cN from ⟨hpl, hpu, hpv, hpc⟩)
          have hcap := HC1.out
          rw [hpl] at hcap ⊢
          rw [hpu, hpv]
          obtain ⟨kl, hkl⟩ : ∃ k, cl.length = k := ⟨_, rfl⟩
          obtain ⟨kr, hkr⟩ : ∃ k, cr.length = k := ⟨_, rfl⟩
          rw [hkl, hkr]
          have HKL := Lib.hid (show cl.length = kl ∧ cr.length = kr from ⟨hkl, hkr⟩)
          have HCAP := Lib.hid hcap
          clear hcb hpu hpv hpl hpc hkl hkr hcap
          obtain ⟨W9, hW9, HB9, HGc, HGo2, HAs, HPr, HAP⟩ : ∃ W9, ((xt (xt wr g1) g2).alloc (.cells #[.slice A1 cN c1, .int .i64 T, .int .i64 s] 25)).alloc (.cells #[.slice Al kl cl0, .slice Ar kr cr0, .slice AU cN cu, .slice AV cN cv] 29) = W9 ∧ Hid (Below W.heap.size W W9) ∧ Hid (GRow W9 cA cN G) ∧ Hid (GRow W9 A2 cN G) ∧ Hid (Blk W9 (wr.heap.size + g1.blocks.length + g2.blocks.length) #[.slice A1 cN c1, .int .i64 T, .int .i64 s] 25) ∧ Hid (Blk W9 (wr.heap.size + g1.blocks.length + g2.blocks.length + 1) #[.slice Al kl cl0, .slice Ar kr cr0, .slice AU cN cu, .slice AV cN cv] 29) ∧ Hid (AP W9 A1 Al Ar AU AV cN c1 kl kr cN cN l cl cr u v) :=
            ⟨_, rfl, Lib.hid (by have hs := hb.size; exact (by repeat' (first | exact Below.refl _ _ | assumption | refine Below.xt ?_ ?_ _ | refine Below.alloc ?_ ?_ _ | refine Below.drew ?_ | refine Below.setCell ?_ ?_ _ | (simp; done) | (simp; omega)))), Lib.hid ((((HGc0.out.xt _).xt _).alloc _).alloc _), Lib.hid ((((HGo.out.xt _).xt _).alloc _).alloc _), Lib.hid ((Blk.new _ _ _ (by simp)).alloc _), Lib.hid (Blk.new _ _ _ (by simp)),
              Lib.hid ⟨HLN.out.1.symm, HKL.out.1.symm, HKL.out.2.symm, HLN.out.2.1.symm, HLN.out.2.2.1.symm, by have := HLN.out; omega, by have := HLN.out; omega, by have := HLN.out; omega, by have := HLN.out; omega, by have := HLN.out; omega, HCAP.out, (HRs.out.1.alloc _).alloc _, (HRs.out.2.1.alloc _).alloc _, (HRs.out.2.2.1.alloc _).alloc _, (HRs.out.2.2.2.1.alloc _).alloc _, (HRs.out.2.2.2.2.alloc _).alloc _⟩⟩
          rw [hW9]
          obtain ⟨b8, hb8⟩ : ∃ b, wr.heap.size + g1.blocks.length + g2.blocks.length = b := ⟨_, rfl⟩
          simp only [hb8] at HAs HPr ⊢
          clear hW9 hb8 C1 C2 HGo HGc0 hb HRs HT2
          go_loopw [45] (fun i wr => ∃ (k : Nat) (g' : Gr), k ≤ cN ∧ i = .int .i64 k ∧ wr = xt W9 g') (fun i _ => cN - (intOf i).toNat)
          case atStart => exact ⟨0, _, by omega, rfl, (xt_self _).symm⟩
          case round =>
            obtain ⟨i, g5, hi2, rfl, rfl⟩ := hrel
            by_cases hlt4 : i < cN
            · obtain ⟨ga, go, rfl, hga, hgc⟩ := HGc.out.top (by omega)
              obtain ⟨gb, gp, rfl, hgb, hgd⟩ := HGo2.out.top (by omega)
              obtain ⟨Ai, ci, hgi, hri⟩ := hgc i hlt4
              obtain ⟨Bi, di, hgj, hrj⟩ := hgd i hlt4
              have hqs := HSM.out i hlt4
              have HRi := Lib.hid hri
              have HRj := Lib.hid hrj
              obtain ⟨q, hq⟩ : ∃ q, (G i).length = q := ⟨_, rfl⟩
              rw [hq] at hgi hgj hqs
              have HQ := Lib.hid hq
              clear hgc hgd hri hrj hq
              go_wp2_with fail
              go_loopw [52] (fun j wr => ∃ (k : Nat) (g' : Gr), k ≤ q ∧ j = .int .i64 k ∧ wr = xt W9 g') (fun j _ => q - (intOf j).toNat)
              case atStart => exact ⟨0, _, by omega, rfl, rfl⟩
              case round =>
                obtain ⟨k, g6, hk3, rfl, rfl⟩ := hrel
                by_cases hlt5 : k < q
                · obtain ⟨qa, qo, rfl, hqa, hqc⟩ := RowI.at_ HRi.out (by rw [HQ.out]; omega)
                  obtain ⟨ra, ro, rfl, hra, hrc⟩ := RowI.at_ HRj.out (by rw [HQ.out]; omega)
                  have e1 := hqc k (by rw [HQ.out]; exact hlt5)
                  have e2 := hrc k (by rw [HQ.out]; exact hlt5)
                  generalize (G i).getD k 0 = x at e1 e2
                  clear hqc hrc
                  go_wp2_with (first
                    | (refine wp_region_xt (by kernel_rfl) (by kernel_rfl) ?_; (repeat (go_big_quiet_step (first | fail))); refine wpQuiet_nil ?_; intro g))
                  go_roundw
                  case rel => exact ⟨k + 1, _, by omega, by go_num, by (repeat rw [xt_xt])⟩
                  case measure => simp [intOf]; omega
                · obtain rfl : q = k := by omega
                  go_wp2_with fail
                  go_roundw
                  case rel => exact ⟨i + 1, _, by omega, by go_num, rfl⟩
                  case measure => simp [intOf]; omega
            · obtain rfl : cN = i := by omega
              have C3 := Lib.hid (show ∀ g, Calls Try.prog 11 #[.slice cA cN cC] (xt W9 g) (Ret (.bool true) (xt W9 g)) from fun g => by rw [← HV.out]; exact rValid_any cA cN cC G _ (by omega) (fun i hi => by have := HSM.out i hi; omega) (HGc.out.xt g))
              have C4 := Lib.hid (show ∀ g, Calls Try.prog 21 #[.slice cA cN cC] (xt W9 g) (RetB (.tuple #[.int .i64 T, .int .i64 s]) (xt W9 g)) from fun g => (rBest_any cA cN cC G _ HC.out (HGc.out.xt g)).mono fun e w' ⟨a, b, he, ho, hb⟩ => by
                obtain ⟨rfl, rfl⟩ := ho.uniq (prvA_opt (by omega) HP.out)
                exact ⟨he, hb⟩)
              have C5 := Lib.hid (show ∀ g g', Calls Try.prog 12 #[.slice cA cN cC, .agg #[.slice A1 cN c1, .int .i64 T, .int .i64 s], .agg #[.slice Al kl cl0, .slice Ar kr cr0, .slice AU cN cu, .slice AV cN cv]] (xt (xt W9 g) g') (RetB (.bool true) (xt (xt W9 g) g')) from fun g g' => by rw [← HP.out]; exact rProves_any cA A1 Al Ar AU AV cN cC cN c1 kl cl0 kr cr0 cN cu cN cv G l cl cr u v T s _ ((HGc.out.xt g).xt g') HC.out ((HAP.out.below (below_xt _ g)).below (below_xt _ g')))
              obtain ⟨a0, a1, a2, _, _, _, aO⟩ := HAs.out.f3
              have p0 : W9.cell? ⟨b8 + 1, 0, none⟩ = some (.slice Al kl cl0) := HPr.out.cell rfl
              have p1 : W9.cell? ⟨b8 + 1, 1, none⟩ = some (.slice Ar kr cr0) := HPr.out.cell rfl
              have p2 : W9.cell? ⟨b8 + 1, 2, none⟩ = some (.slice AU cN cu) := HPr.out.cell rfl
              have p3 : W9.cell? ⟨b8 + 1, 3, none⟩ = some (.slice AV cN cv) := HPr.out.cell rfl
              have pO : old (b8 + 1) W9 := HPr.out.lt
              have HX9 := Lib.hid (show ∀ g, Below W.heap.size W (xt W9 g) from fun g => Below.xt HB9.out HB9.out.size g)
              go_wp2_with (first | (go_at_call 9; refine (RetB.grown (known_any _)).mono ?_; rintro e' w' ⟨rfl, gk1, rfl⟩) | (go_at_call 11; refine (C3.out _).mono ?_; rintro e' w' ⟨rfl, rfl⟩) | (go_at_call 21; refine (RetB.grown (C4.out _)).mono ?_; rintro e' w' ⟨rfl, g7, rfl⟩) | (go_at_call 12; refine (RetB.grown (C5.out _ _)).mono ?_; rintro e' w' ⟨rfl, g8, rfl⟩))
              go_ret
              exact ⟨rfl, by (repeat rw [xt_xt]); exact HX9.out _⟩
end Go.Proofs.Ytjiknjcmfiapjaa

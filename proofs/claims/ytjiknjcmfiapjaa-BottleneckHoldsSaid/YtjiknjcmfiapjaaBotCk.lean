
/- Walk: whether a proof proves that an assignment is best, by the program. Conditions stand in each theorem. -/
import Derived.Test.YtjiknjcmfiapjaaBotU
namespace Go.Proofs.Ytjiknjcmfiapjaa
open Go.RowKit
set_option linter.unusedVariables false
set_option linter.unusedSimpArgs false

/-- The greatest of four. -/
def mx4 (x y z t : Int) : Int := if t > (if z > (if y > x then y else x) then z else (if y > x then y else x)) then t else (if z > (if y > x then y else x) then z else (if y > x then y else x))
@[go_sem] theorem run_max_int4 {P : Program} (w : World) (ts : Array TypeId) (ty : TypeId) (k k' k'' k3 : IntKind) (x y z t : Int) : (Builtin.max_ ts ty #[.int k x, .int k' y, .int k'' z, .int k3 t]).run P w = .ok (.int k (mx4 x y z t)) w := by
  simp [Builtin.max_, Builtin.max2, mx4]
theorem mx4_le {x y z t b : Int} : mx4 x y z t ≤ b ↔ x ≤ b ∧ y ≤ b ∧ z ≤ b ∧ t ≤ b := by
  unfold mx4
  constructor
  · intro h
    split at h <;> split at h <;> split at h <;> omega
  · rintro ⟨h1, h2, h3, h4⟩
    split <;> split <;> split <;> omega
/-- The error's number. -/
def ckE (b : Bool) : Int := if b then 0 else 10
set_option maxRecDepth 100000 in
set_option maxHeartbeats 1600000 in
theorem Check_no (A Lo Al Ar Au Av : Option Addr) (n cap no co kl cl0 kr cr0 ku cu kv cv : Nat) (G : Nat → List Int) (g s : Int) (w : World) (hm : n ≤ 1000) (hl : ∀ i, i < n → (G i).length ≤ 1000) (hG : GRow w A n G) (hv : cvd G n = false) :
    Calls Try.prog 10 #[.slice A n cap, .agg #[.slice Lo no co, .int .i64 g, .int .i64 s], .agg #[.slice Al kl cl0, .slice Ar kr cr0, .slice Au ku cu, .slice Av kv cv]] w (RetB (.int .i64 2) w) := by
  have C := fun w h => bValid_any A n cap G w hm hl h
  rw [hv] at C
  have HC := fun w h => Lib.hid (C w h)
  have HG := Lib.hid hG
  clear C hG hl hv
  go_enter Try.func10, Try.ntmps10
  go_wp2_with (go_at_call 17; refine (HC _ ((HG.out.alloc _).alloc _)).out.mono ?_; rintro e' w' ⟨rfl, rfl⟩)
  go_ret
  exact RetB.of rfl (by repeat' (first | exact Below.refl _ _ | assumption | refine Below.xt ?_ ?_ _ | refine Below.alloc ?_ ?_ _ | refine Below.drew ?_ | refine Below.setCell ?_ ?_ _ | (simp; done) | (simp; omega)))

set_option maxRecDepth 100000 in
set_option maxHeartbeats 12800000 in
theorem Check_any (A Lo Al Ar Au Av : Option Addr) (n cap no co kl cl0 kr cr0 ku cu kv cv : Nat) (G : Nat → List Int) (of cl cr u v : List Int) (g s : Int) (w : World) (hG : GRow w A n G) (hv : cvd G n = true) (hA : AP w Lo Al Ar Au Av no co kl kr ku kv of cl cr u v) (hN : Lo = none → of.length = 0 ∧ co = 0) (hu : ∀ x ∈ u, I64 x) (hv' : ∀ x ∈ v, I64 x) :
    Calls Try.prog 10 #[.slice A n cap, .agg #[.slice Lo no co, .int .i64 g, .int .i64 s], .agg #[.slice Al kl cl0, .slice Ar kr cr0, .slice Au ku cu, .slice Av kv cv]] w (RetB (.int .i64 (ckE (prvA G n of g s cl cr u v))) w) := by
  have hC := cvd_iff.1 hv
  have hn1 := hC.pos
  have hn2 := hC.le
  have C := fun w h => bValid_any A n cap G w (by omega) (fun i hi => by have := hC.len i hi; omega) h
  rw [hv] at C
  have C0 := fun w h => Lib.hid (C w h)
  obtain ⟨bb, hbb⟩ : ∃ bb, colsB of n = bb := ⟨_, rfl⟩
  have CO := fun w' (h : GRow w' A n G) (h' : RowI w' Lo of) => Lib.hid (show Calls Try.prog 22 #[.slice A n cap, .slice Lo no co] w' (RetAs of bb (mstC G of n) (sumC G of n) w') by rw [← hbb]; exact of_any A Lo n cap no co G of w' h hC hA.eno hA.lo hN h')
  have HC := Lib.hid hC
  have HG := Lib.hid hG
  have HA := Lib.hid hA
  have HBB := Lib.hid hbb
  have HUi := Lib.hid hu
  have HVi := Lib.hid hv'
  clear C hG hv hC hA hN hu hv' hbb
  go_enter Try.func10, Try.ntmps10
  go_upto_region 5 with (first | (go_at_call 17; refine (C0 _ ((HG.out.alloc _).alloc _)).out.mono ?_; rintro e' w' ⟨rfl, rfl⟩) | (go_at_call 22; refine (CO _ ((HG.out.alloc _).alloc _) ((HA.out.ro.alloc _).alloc _)).out.mono ?_; rintro e' w' ⟨vo, xo, yo, rfl, hb1, ho1, hxy⟩; obtain ⟨g1, rfl⟩ := xt_of_below hb1; have HXY := Lib.hid hxy; obtain ⟨A1, c1, rfl⟩ := own_frm ho1; clear hb1 ho1 hxy))
  obtain ⟨W3, hW3, HB3, HP3, HQ3, HO3, hs3⟩ : ∃ W3, (xt ((w.alloc (.cells #[.slice Lo no co, .int .i64 g, .int .i64 s] 25)).alloc (.cells #[.slice Al kl cl0, .slice Ar kr cr0, .slice Au ku cu, .slice Av kv cv] 29)) g1).alloc (.cells #[.slice A1 of.length c1, .int .i64 xo, .int .i64 yo] 25) = W3 ∧ Hid (Below w.heap.size w W3) ∧ Hid (Blk W3 w.heap.size #[.slice Lo no co, .int .i64 g, .int .i64 s] 25) ∧ Hid (Blk W3 (w.heap.size + 1) #[.slice Al kl cl0, .slice Ar kr cr0, .slice Au ku cu, .slice Av kv cv] 29) ∧ Hid (Blk W3 (w.heap.size + 1 + 1 + g1.blocks.length) #[.slice A1 of.length c1, .int .i64 xo, .int .i64 yo] 25) ∧ True :=
    ⟨_, rfl, Lib.hid (by repeat' (first | exact Below.refl _ _ | assumption | refine Below.xt ?_ ?_ _ | refine Below.alloc ?_ ?_ _ | refine Below.drew ?_ | refine Below.setCell ?_ ?_ _ | (simp; done) | (simp; omega))), Lib.hid ((((Blk.new _ _ _ rfl).alloc _).xt _).alloc _), Lib.hid (((Blk.new _ _ _ (by simp)).xt _).alloc _), Lib.hid (Blk.new _ _ _ (by simp)), trivial⟩
  rw [hW3]
  obtain ⟨b8, hb8⟩ : ∃ b, w.heap.size + 1 + 1 + g1.blocks.length = b := ⟨_, rfl⟩
  simp only [hb8] at HO3 ⊢
  clear hW3 hb8 hs3 C0 CO
  have HA3 := Lib.hid (HA.out.below HB3.out)
  have HG3 := Lib.hid (HG.out.below HB3.out)
  have HX := Lib.hid (show ∀ g, Below w.heap.size w (xt W3 g) from fun g => Below.xt HB3.out HB3.out.size g)
  obtain ⟨a0, a1, a2, _, _, _, aO⟩ := HP3.out.f3
  obtain ⟨e0, e1, e2, _, _, _, eO⟩ := HO3.out.f3
  have p0 : W3.cell? ⟨w.heap.size + 1, 0, none⟩ = some (.slice Al kl cl0) := HQ3.out.cell rfl
  have p1 : W3.cell? ⟨w.heap.size + 1, 1, none⟩ = some (.slice Ar kr cr0) := HQ3.out.cell rfl
  have p2 : W3.cell? ⟨w.heap.size + 1, 2, none⟩ = some (.slice Au ku cu) := HQ3.out.cell rfl
  have p3 : W3.cell? ⟨w.heap.size + 1, 3, none⟩ = some (.slice Av kv cv) := HQ3.out.cell rfl
  have pO : old (w.heap.size + 1) W3 := HQ3.out.lt
  clear HP3 HQ3 HO3 e0
  obtain ⟨cL, hcL⟩ : ∃ b, inc cl (n : Int) = b := ⟨_, rfl⟩
  obtain ⟨cR, hcR⟩ : ∃ b, inc cr (n : Int) = b := ⟨_, rfl⟩
  have C3 := Lib.hid (show Calls Try.prog 23 #[.slice Al kl cl0, .int .i64 (n : Int)] W3 (Ret (.bool cL) W3) by rw [← hcL]; exact brising_any Al kl cl0 cl n W3 HA3.out.ekl HA3.out.ll HA3.out.rl)
  have C4 := Lib.hid (show Calls Try.prog 23 #[.slice Ar kr cr0, .int .i64 (n : Int)] W3 (Ret (.bool cR) W3) by rw [← hcR]; exact brising_any Ar kr cr0 cr n W3 HA3.out.ekr HA3.out.lr HA3.out.rr)
  have HCL := Lib.hid hcL
  have HCR := Lib.hid hcR
  have heu := HA3.out.eku
  have hev := HA3.out.ekv
  have hel := HA3.out.ekl
  have her := HA3.out.ekr
  have hlu := HA3.out.lu
  have hlv := HA3.out.lv
  have hll := HA3.out.ll
  have hlr := HA3.out.lr
  rw [← heu] at hlu
  rw [← hev] at hlv
  rw [← hel] at hll
  rw [← her] at hlr
  have HEL := Lib.hid (show ku = u.length ∧ kv = v.length ∧ kl = cl.length ∧ kr = cr.length from ⟨heu, hev, hel, her⟩)
  clear hcL hcR heu hev hel her
  cases bb with
  | false =>
    have HE := Lib.hid (prv_no (G := G) (n := n) (of := of) (cl := cl) (cr := cr) (u := u) (v := v) (g := g) (s := s) (fun h => by have h1 := h.1; rw [HBB.out] at h1; cases h1))
    go_wp2_with fail
    go_ret
    exact ⟨by rw [HE.out]; rfl, HB3.out⟩
  | true =>
    obtain ⟨rfl, rfl⟩ := HXY.out rfl
    clear HXY
    obtain ⟨mo, hmo⟩ : ∃ x, mstC G of n = x := ⟨_, rfl⟩
    obtain ⟨so, hso⟩ : ∃ x, sumC G of n = x := ⟨_, rfl⟩
    rw [hmo] at e1
    rw [hso] at e2
    have HMO := Lib.hid hmo
    have HSO := Lib.hid hso
    simp only [hmo, hso]
    clear hmo hso
    by_cases h2 : mo = g
    · have d2 : (mo != g) = false := by simpa using h2
      by_cases h3 : so = s
      · have d3 : (so != s) = false := by simpa using h3
        by_cases h4 : ku = n
        · have d4 : ((ku : Int) != (n : Int)) = false := by simpa using by omega
          by_cases h5 : kv = n
          · have d5 : ((kv : Int) != (n : Int)) = false := by simpa using by omega
            cases cL with
            | true =>
              cases cR with
              | true =>
                by_cases h8 : kl + kr < n
                · have d8 : decide ((n : Int) ≤ (kl : Int) + (kr : Int)) = false := by simpa using by omega
                  have H2 := Lib.hid h2
                  have H3 := Lib.hid h3
                  have H4 := Lib.hid h4
                  have H5 := Lib.hid h5
                  clear h2 h3 h4 h5
                  go_wp2_with (first | (go_at_call 23; (with_reducible refine C3.out.mono ?_); rintro e' w' ⟨rfl, rfl⟩) | (go_at_call 23; (with_reducible refine C4.out.mono ?_); rintro e' w' ⟨rfl, rfl⟩))
                  obtain ⟨ub, uo, rfl, hub, huc⟩ := RowI.at_ HA3.out.ru (by rw [← HEL.out.1, H4.out]; omega)
                  obtain ⟨vb, vo, rfl, hvb, hvc⟩ := RowI.at_ HA3.out.rv (by rw [← HEL.out.2.1, H5.out]; omega)
                  rw [← HEL.out.1, H4.out] at huc
                  rw [← HEL.out.2.1, H5.out] at hvc
                  have HUC := Lib.hid huc
                  have HVC := Lib.hid hvc
                  have hkn : n = ku := H4.out.symm
                  have hkv : n = kv := H5.out.symm
                  have HKu := Lib.hid hkn
                  have HKv := Lib.hid hkv
                  clear huc hvc
                  subst hkn
                  subst hkv
                  go_loopw [10, 88] (fun z i wr => ∃ (k : Nat) (g : Gr), k ≤ n ∧ i = .int .i64 k ∧ z = .int .i64 (smU u v k) ∧ wr = xt W3 g ∧ Hid (∀ j, j < k → ptB u v j = true)) (fun _ i _ => n - (intOf i).toNat)
                  case atStart => exact ⟨0, _, by omega, rfl, by simp [smU, sm], (xt_self _).symm, Lib.hid (fun j h => absurd h (by omega))⟩
                  case round =>
                    obtain ⟨k, g1, hk2, rfl, rfl, rfl, HK⟩ := hrel
                    have hsb := smU_bd k HK.out
                    by_cases hlt3 : k < n
                    · have c1 := HUC.out k hlt3
                      have c2 := HVC.out k hlt3
                      have HSm := Lib.hid (show smU u v (k + 1) = smU u v k + (u.getD k 0 + v.getD k 0) from rfl)
                      have HPt := Lib.hid (ptB_iff (u := u) (v := v) (i := k))
                      have HIx := Lib.hid (show I64 (u.getD k 0) ∧ I64 (v.getD k 0) from ⟨HUi.out _ (getD_in (by rw [← HEL.out.1]; exact hlt3)), HVi.out _ (getD_in (by rw [← HEL.out.2.1]; exact hlt3))⟩)
                      obtain ⟨z, hz⟩ : ∃ z, smU u v k = z := ⟨_, rfl⟩
                      have hz1 : -2305843009213693952 ≤ z := by omega
                      have hz2 : z ≤ 2305843009213693952 := by omega
                      rw [hz] at HSm ⊢
                      generalize u.getD k 0 = x at c1 HSm HPt HIx
                      generalize v.getD k 0 = y at c2 HSm HPt HIx
                      clear hsb hz
                      obtain ⟨nx, hnx⟩ : ∃ nx, IntKind.i64.wrap (-x) = nx := ⟨_, rfl⟩
                      obtain ⟨ny, hny⟩ : ∃ ny, IntKind.i64.wrap (-y) = ny := ⟨_, rfl⟩
                      by_cases hpt : ptB u v k = true
                      · have hb := HPt.out.1 hpt
                        have hnx' : nx = -x := by rw [← hnx]; exact IntWalk.i64_in _ (by omega)
                        have hny' : ny = -y := by rw [← hny]; exact IntWalk.i64_in _ (by omega)
                        have d1 : decide (9007199254740992 < mx4 x nx y ny) = false := by
                          have := (mx4_le (x := x) (y := nx) (z := y) (t := ny) (b := 9007199254740992)).2 (by omega)
                          simpa using this
                        have d2 : decide (min x y < -9007199254740992) = false := by simpa using by omega
                        have HB := Lib.hid hb
                        have HK2 := Lib.hid (all_next HK.out hpt)
                        clear HPt HK hpt hb hnx' hny'
                        go_upto_if 128 with (refine wp_region_xt (by kernel_rfl) (by kernel_rfl) ?_; (repeat (go_big_quiet_step (fail))); refine wpQuiet_nil ?_; intro g)
                        obtain ⟨b1, b2, b3, b4⟩ := HB.out
                        clear hnx hny
                        go_wp2_with (first
                          | (refine wp_region_xt (by kernel_rfl) (by kernel_rfl) ?_; (repeat (go_big_quiet_step (first | fail))); refine wpQuiet_nil ?_; intro g))
                        go_roundw
                        case rel => exact ⟨k + 1, _, by omega, by go_num, by rw [HSm.out], by (repeat rw [xt_xt]), HK2⟩
                        case measure => simp [intOf]; omega
                      · have HE := Lib.hid (prv_pt (G := G) (of := of) (cl := cl) (cr := cr) (g := g) (s := s) hlt3 (show ptB u v k = false by simpa using hpt))
                        by_cases h1 : 9007199254740992 < mx4 x nx y ny
                        · have d1 : decide (9007199254740992 < mx4 x nx y ny) = true := by simpa using h1
                          clear HPt HK hpt HSm h1
                          go_upto_if 128 with (refine wp_region_xt (by kernel_rfl) (by kernel_rfl) ?_; (repeat (go_big_quiet_step (fail))); refine wpQuiet_nil ?_; intro g)
                          go_wp2_with fail
                          go_ret
                          exact ⟨by rw [HE.out]; rfl, by (repeat rw [xt_xt]); exact HX.out _⟩
                        · have d1 : decide (9007199254740992 < mx4 x nx y ny) = false := by simpa using h1
                          have hle := (mx4_le (x := x) (y := nx) (z := y) (t := ny) (b := 9007199254740992)).1 (by omega)
                          have hpt2 : x < -9007199254740992 ∨ y < -9007199254740992 := by
                            rw [HPt.out] at hpt; omega
                          have d2 : decide (min x y < -9007199254740992) = true := by simpa using by omega
                          clear HPt HK hpt HSm h1 hle hpt2
                          go_upto_if 128 with (refine wp_region_xt (by kernel_rfl) (by kernel_rfl) ?_; (repeat (go_big_quiet_step (fail))); refine wpQuiet_nil ?_; intro g)
                          go_wp2_with fail
                          go_ret
                          exact ⟨by rw [HE.out]; rfl, by (repeat rw [xt_xt]); exact HX.out _⟩
                    · obtain rfl : n = k := by omega
                      have HKall := HK
                      obtain ⟨z, hz⟩ : ∃ z, smU u v n = z := ⟨_, rfl⟩
                      have HZ := Lib.hid hz
                      rw [hz]
                      clear HK hsb hz
                      by_cases hzs : z = s
                      · have d1 : (z != s) = false := by simpa using hzs
                        have HZS := Lib.hid hzs
                        clear hzs
                        have HIN := Lib.hid (show ∀ (x : Int) (g g' : Gr), Calls Try.prog 24 #[.slice Al kl cl0, .int .i64 x] (xt (xt W3 g) g') (Ret (.bool (hs cl x)) (xt (xt W3 g) g')) from fun x g g' => in_any Al kl cl0 cl n x _ HA3.out.ekl HA3.out.ll HCL.out ((HA3.out.rl.xt g).xt g'))
                        have HIR := Lib.hid (show ∀ (x : Int) (g g' : Gr), Calls Try.prog 24 #[.slice Ar kr cr0, .int .i64 x] (xt (xt W3 g) g') (Ret (.bool (hs cr x)) (xt (xt W3 g) g')) from fun x g g' => in_any Ar kr cr0 cr n x _ HA3.out.ekr HA3.out.lr HCR.out ((HA3.out.rr.xt g).xt g'))
                        have HUV := Lib.hid (show ∀ j, j < n → -9007199254740992 ≤ u.getD j 0 ∧ u.getD j 0 ≤ 9007199254740992 ∧ -9007199254740992 ≤ v.getD j 0 ∧ v.getD j 0 ≤ 9007199254740992 from fun j hj => ptB_iff.1 (HKall.out j hj))
                        obtain ⟨ga, go, rfl, hga, hgc⟩ := HG3.out.top (by omega)
                        have HGC := Lib.hid hgc
                        clear hgc
                        go_wp2_with fail
                        go_loopw [149] (fun i wr => ∃ (k : Nat) (g' : Gr), k ≤ n ∧ i = .int .i64 k ∧ wr = xt W3 g' ∧ Hid (∀ i, i < k → ∀ j, j < n → cvA G g cl cr i j = true ∧ feA G g u v i j = true)) (fun i _ => n - (intOf i).toNat)
                        case atStart => exact ⟨0, _, by omega, rfl, rfl, Lib.hid (fun j h => absurd h (by omega))⟩
                        case round =>
                          obtain ⟨i, g2, hi2, rfl, rfl, HI⟩ := hrel
                          by_cases hlt4 : i < n
                          · obtain ⟨Ai, ci, hgi, hrow⟩ := HGC.out i hlt4
                            have hlr2 := HC.out.len i hlt4
                            obtain ⟨qb, qo, rfl, hqo, hqc⟩ := RowI.at_ hrow (by omega)
                            rw [hlr2] at hgi hqc
                            have c1 := HUC.out i hlt4
                            obtain ⟨x, hx⟩ : ∃ x, u.getD i 0 = x := ⟨_, rfl⟩
                            have bx := HUV.out i hlt4
                            rw [hx] at c1 bx
                            have HXx := Lib.hid hx
                            have HQC := Lib.hid hqc
                            obtain ⟨bx1, bx2, _, _⟩ := bx
                            clear hx hqc hrow hlr2
                            go_wp2_with fail
                            go_loopw [156] (fun j wr => ∃ (k : Nat) (g' : Gr), k ≤ n ∧ j = .int .i64 k ∧ wr = xt W3 g' ∧ Hid (∀ j, j < k → (cvA G g cl cr i j = true ∧ feA G g u v i j = true))) (fun j _ => n - (intOf j).toNat)
                            case atStart => exact ⟨0, _, by omega, rfl, rfl, Lib.hid (fun j h => absurd h (by omega))⟩
                            case round =>
                              obtain ⟨k, g3, hk3, rfl, rfl, HJ⟩ := hrel
                              by_cases hlt5 : k < n
                              · have c2 := HVC.out k hlt5
                                have c3 := HQC.out k hlt5
                                have by_ := HUV.out k hlt5
                                have bc := HC.out.c hlt4 hlt5
                                have HFe := Lib.hid (show feA G g u v i k = (!decide (cst G i k ≤ g) || decide (u.getD i 0 + v.getD k 0 ≤ cst G i k)) from rfl)
                                have HCv := Lib.hid (show cvA G g cl cr i k = (!decide (cst G i k < g) || (hs cl (i : Int) || hs cr (k : Int))) from rfl)
                                have HJn := Lib.hid (show (cvA G g cl cr i k = true ∧ feA G g u v i k = true) → ∀ j, j < k + 1 → (cvA G g cl cr i j = true ∧ feA G g u v i j = true) from fun h j hj => by
                                  by_cases e : j = k
                                  · rw [e]; exact h
                                  · exact HJ.out j (by omega))
                                rw [HXx.out] at HFe
                                unfold cst at HFe HCv bc
                                generalize v.getD k 0 = y at *
                                generalize (G i).getD k 0 = c at *
                                obtain ⟨_, _, by1, by2⟩ := by_
                                have CI := HIN.out (i : Int) g3
                                have CR := HIR.out (k : Int) g3
                                obtain ⟨pl, hpl⟩ : ∃ b, hs cl (i : Int) = b := ⟨_, rfl⟩
                                obtain ⟨pr, hpr⟩ : ∃ b, hs cr (k : Int) = b := ⟨_, rfl⟩
                                rw [hpl] at CI HCv
                                rw [hpr] at CR HCv
                                have HCI := Lib.hid CI
                                have HCR2 := Lib.hid CR
                                clear hpl hpr CI CR HJ
                                by_cases h1 : c < g
                                · have d1 : decide (c < g) = true := by simpa using h1
                                  have d1' : decide (c ≤ g) = true := by simpa using by omega
                                  cases pl with
                                  | true =>
                                    by_cases h2 : c < x + y
                                    · have d2 : decide (c < x + y) = true := by simpa using h2
                                      have HE := Lib.hid (prv_fe (of := of) (cl := cl) (cr := cr) (s := s) hlt4 hlt5 (show feA G g u v i k = false by rw [HFe.out, d1']; simp; omega))
                                      clear HFe HCv HJn
                                      go_upto_if 201 with (refine wp_region_xt (by kernel_rfl) (by kernel_rfl) ?_; (repeat (go_big_quiet_step (first | (go_at_call 24; (with_reducible exact Ret.quiet (HCI.out _))) | (go_at_call 24; (with_reducible exact Ret.quiet (HCR2.out _)))))); refine wpQuiet_nil ?_; intro g)
                                      go_wp2_with fail
                                      go_ret
                                      exact ⟨by rw [HE.out]; rfl, by (repeat rw [xt_xt]); exact HX.out _⟩
                                    · have d2 : decide (c < x + y) = false := by simpa using h2
                                      have HJ2 := Lib.hid (HJn.out ⟨by rw [HCv.out]; simp [d1], by rw [HFe.out, d1']; simp; omega⟩)
                                      clear HFe HCv HJn
                                      go_upto_if 201 with (refine wp_region_xt (by kernel_rfl) (by kernel_rfl) ?_; (repeat (go_big_quiet_step (first | (go_at_call 24; (with_reducible exact Ret.quiet (HCI.out _))) | (go_at_call 24; (with_reducible exact Ret.quiet (HCR2.out _)))))); refine wpQuiet_nil ?_; intro g)
                                      go_wp2_with fail
                                      go_roundw
                                      case rel => exact ⟨k + 1, _, by omega, by go_num, by (repeat rw [xt_xt]), HJ2⟩
                                      case measure => simp [intOf]; omega
                                  | false =>
                                    cases pr with
                                    | true =>
                                      by_cases h2 : c < x + y
                                      · have d2 : decide (c < x + y) = true := by simpa using h2
                                        have HE := Lib.hid (prv_fe (of := of) (cl := cl) (cr := cr) (s := s) hlt4 hlt5 (show feA G g u v i k = false by rw [HFe.out, d1']; simp; omega))
                                        clear HFe HCv HJn
                                        go_upto_if 201 with (refine wp_region_xt (by kernel_rfl) (by kernel_rfl) ?_; (repeat (go_big_quiet_step (first | (go_at_call 24; (with_reducible exact Ret.quiet (HCI.out _))) | (go_at_call 24; (with_reducible exact Ret.quiet (HCR2.out _)))))); refine wpQuiet_nil ?_; intro g)
                                        go_wp2_with fail
                                        go_ret
                                        exact ⟨by rw [HE.out]; rfl, by (repeat rw [xt_xt]); exact HX.out _⟩
                                      · have d2 : decide (c < x + y) = false := by simpa using h2
                                        have HJ2 := Lib.hid (HJn.out ⟨by rw [HCv.out]; simp [d1], by rw [HFe.out, d1']; simp; omega⟩)
                                        clear HFe HCv HJn
                                        go_upto_if 201 with (refine wp_region_xt (by kernel_rfl) (by kernel_rfl) ?_; (repeat (go_big_quiet_step (first | (go_at_call 24; (with_reducible exact Ret.quiet (HCI.out _))) | (go_at_call 24; (with_reducible exact Ret.quiet (HCR2.out _)))))); refine wpQuiet_nil ?_; intro g)
                                        go_wp2_with fail
                                        go_roundw
                                        case rel => exact ⟨k + 1, _, by omega, by go_num, by (repeat rw [xt_xt]), HJ2⟩
                                        case measure => simp [intOf]; omega
                                    | false =>
                                      have HE := Lib.hid (prv_cv (of := of) (u := u) (v := v) (s := s) hlt4 hlt5 (show cvA G g cl cr i k = false by rw [HCv.out]; simp [d1]))
                                      clear HFe HCv HJn
                                      go_upto_if 201 with (refine wp_region_xt (by kernel_rfl) (by kernel_rfl) ?_; (repeat (go_big_quiet_step (first | (go_at_call 24; (with_reducible exact Ret.quiet (HCI.out _))) | (go_at_call 24; (with_reducible exact Ret.quiet (HCR2.out _)))))); refine wpQuiet_nil ?_; intro g)
                                      go_wp2_with fail
                                      go_ret
                                      exact ⟨by rw [HE.out]; rfl, by (repeat rw [xt_xt]); exact HX.out _⟩
                                · have d1 : decide (c < g) = false := by simpa using h1
                                  by_cases h1' : c ≤ g
                                  · have d1' : decide (c ≤ g) = true := by simpa using h1'
                                    by_cases h2 : c < x + y
                                    · have d2 : decide (c < x + y) = true := by simpa using h2
                                      have HE := Lib.hid (prv_fe (of := of) (cl := cl) (cr := cr) (s := s) hlt4 hlt5 (show feA G g u v i k = false by rw [HFe.out, d1']; simp; omega))
                                      clear HFe HCv HJn
                                      go_upto_if 201 with (refine wp_region_xt (by kernel_rfl) (by kernel_rfl) ?_; (repeat (go_big_quiet_step (first | (go_at_call 24; (with_reducible exact Ret.quiet (HCI.out _))) | (go_at_call 24; (with_reducible exact Ret.quiet (HCR2.out _)))))); refine wpQuiet_nil ?_; intro g)
                                      go_wp2_with fail
                                      go_ret
                                      exact ⟨by rw [HE.out]; rfl, by (repeat rw [xt_xt]); exact HX.out _⟩
                                    · have d2 : decide (c < x + y) = false := by simpa using h2
                                      have HJ2 := Lib.hid (HJn.out ⟨by rw [HCv.out]; simp [d1], by rw [HFe.out, d1']; simp; omega⟩)
                                      clear HFe HCv HJn
                                      go_upto_if 201 with (refine wp_region_xt (by kernel_rfl) (by kernel_rfl) ?_; (repeat (go_big_quiet_step (first | (go_at_call 24; (with_reducible exact Ret.quiet (HCI.out _))) | (go_at_call 24; (with_reducible exact Ret.quiet (HCR2.out _)))))); refine wpQuiet_nil ?_; intro g)
                                      go_wp2_with fail
                                      go_roundw
                                      case rel => exact ⟨k + 1, _, by omega, by go_num, by (repeat rw [xt_xt]), HJ2⟩
                                      case measure => simp [intOf]; omega
                                  · have d1' : decide (c ≤ g) = false := by simpa using h1'
                                    have HJ2 := Lib.hid (HJn.out ⟨by rw [HCv.out, d1]; rfl, by rw [HFe.out, d1']; rfl⟩)
                                    clear HFe HCv HJn
                                    go_wp2_with (first
                                      | (refine wp_region_xt (by kernel_rfl) (by kernel_rfl) ?_; (repeat (go_big_quiet_step (first | fail))); refine wpQuiet_nil ?_; intro g))
                                    go_roundw
                                    case rel => exact ⟨k + 1, _, by omega, by go_num, by (repeat rw [xt_xt]), HJ2⟩
                                    case measure => simp [intOf]; omega
                              · obtain rfl : n = k := by omega
                                have HI2 := Lib.hid (show ∀ i', i' < i + 1 → ∀ j, j < n → (cvA G g cl cr i' j = true ∧ feA G g u v i' j = true) from fun i' hi' => by
                                  by_cases e : i' = i
                                  · rw [e]; exact HJ.out
                                  · exact HI.out i' (by omega))
                                clear HI HJ
                                go_wp2_with fail
                                go_roundw
                                case rel => exact ⟨i + 1, _, by omega, by go_num, rfl, HI2⟩
                                case measure => simp [intOf]; omega
                          · obtain rfl : n = i := by omega
                            have HE := Lib.hid (prv_yes HBB.out (HMO.out.trans H2.out) (HSO.out.trans H3.out) HEL.out.1.symm HEL.out.2.1.symm HCL.out HCR.out (by rw [← HEL.out.2.2.1, ← HEL.out.2.2.2]; exact h8) HKall.out (HZ.out.trans HZS.out) HI.out)
                            clear HI
                            go_wp2_with fail
                            go_ret
                            exact ⟨by rw [HE.out]; rfl, by (repeat rw [xt_xt]); exact HX.out _⟩
                      · have d1 : (z != s) = true := by simpa using hzs
                        have HE := Lib.hid (prv_sm (G := G) (n := n) (of := of) (cl := cl) (cr := cr) (u := u) (v := v) (g := g) (s := s) (by rw [HZ.out]; exact hzs))
                        clear hzs
                        go_wp2_with fail
                        go_ret
                        exact ⟨by rw [HE.out]; rfl, by (repeat rw [xt_xt]); exact HX.out _⟩
                · have d8 : decide ((n : Int) ≤ (kl : Int) + (kr : Int)) = true := by simpa using by omega
                  have HE := Lib.hid (prv_no (G := G) (n := n) (of := of) (cl := cl) (cr := cr) (u := u) (v := v) (g := g) (s := s) (fun h => by have h1 := h.2.2.2.2.2.2.2; rw [← HEL.out.2.2.1, ← HEL.out.2.2.2] at h1; exact h8 h1))
                  clear h2 h3 h4 h5
                  go_wp2_with (first | (go_at_call 23; (with_reducible refine C3.out.mono ?_); rintro e' w' ⟨rfl, rfl⟩) | (go_at_call 23; (with_reducible refine C4.out.mono ?_); rintro e' w' ⟨rfl, rfl⟩))
                  go_ret
                  exact ⟨by rw [HE.out]; rfl, HB3.out⟩
              | false =>
                have HE := Lib.hid (prv_no (G := G) (n := n) (of := of) (cl := cl) (cr := cr) (u := u) (v := v) (g := g) (s := s) (fun h => by have h1 := h.2.2.2.2.2.2.1; rw [HCR.out] at h1; cases h1))
                clear h2 h3 h4 h5
                go_wp2_with (first | (go_at_call 23; (with_reducible refine C3.out.mono ?_); rintro e' w' ⟨rfl, rfl⟩) | (go_at_call 23; (with_reducible refine C4.out.mono ?_); rintro e' w' ⟨rfl, rfl⟩))
                go_ret
                exact ⟨by rw [HE.out]; rfl, HB3.out⟩
            | false =>
              have HE := Lib.hid (prv_no (G := G) (n := n) (of := of) (cl := cl) (cr := cr) (u := u) (v := v) (g := g) (s := s) (fun h => by have h1 := h.2.2.2.2.2.1; rw [HCL.out] at h1; cases h1))
              clear h2 h3 h4 h5
              go_wp2_with (first | (go_at_call 23; (with_reducible refine C3.out.mono ?_); rintro e' w' ⟨rfl, rfl⟩) | (go_at_call 23; (with_reducible refine C4.out.mono ?_); rintro e' w' ⟨rfl, rfl⟩))
              go_ret
              exact ⟨by rw [HE.out]; rfl, HB3.out⟩
          · have d5 : ((kv : Int) != (n : Int)) = true := by simpa using by omega
            have HE := Lib.hid (prv_no (G := G) (n := n) (of := of) (cl := cl) (cr := cr) (u := u) (v := v) (g := g) (s := s) (fun h => h5 (HEL.out.2.1.trans h.2.2.2.2.1)))
            clear h2 h3 h4 h5
            go_wp2_with fail
            go_ret
            exact ⟨by rw [HE.out]; rfl, HB3.out⟩
        · have d4 : ((ku : Int) != (n : Int)) = true := by simpa using by omega
          have HE := Lib.hid (prv_no (G := G) (n := n) (of := of) (cl := cl) (cr := cr) (u := u) (v := v) (g := g) (s := s) (fun h => h4 (HEL.out.1.trans h.2.2.2.1)))
          clear h2 h3 h4
          go_wp2_with fail
          go_ret
          exact ⟨by rw [HE.out]; rfl, HB3.out⟩
      · have d3 : (so != s) = true := by simpa using h3
        have HE := Lib.hid (prv_no (G := G) (n := n) (of := of) (cl := cl) (cr := cr) (u := u) (v := v) (g := g) (s := s) (fun h => h3 (HSO.out.symm.trans h.2.2.1)))
        clear h2 h3
        go_wp2_with fail
        go_ret
        exact ⟨by rw [HE.out]; rfl, HB3.out⟩
    · have d2 : (mo != g) = true := by simpa using h2
      have HE := Lib.hid (prv_no (G := G) (n := n) (of := of) (cl := cl) (cr := cr) (u := u) (v := v) (g := g) (s := s) (fun h => h2 (HMO.out.symm.trans h.2.1)))
      clear h2
      go_wp2_with fail
      go_ret
      exact ⟨by rw [HE.out]; rfl, HB3.out⟩
end Go.Proofs.Ytjiknjcmfiapjaa

/- Walk of the law MatchingGreatest. Conditions stand in each theorem. -/
import Derived.Test.YtkabknmhbjmmcaaMatL3
import Derived.Test.YtkabknmhbjmmcaaMatC2
import Derived.Deep.LoopGhost
import Derived.Deep.RegionLaw
namespace Go.Proofs.Ytkabknmhbjmmcaa
open Go.RowKit
set_option linter.unusedVariables false
set_option linter.unusedSimpArgs false

theorem own_low {w : World} {base base' : Nat} {e : TypeId} {s n : Nat} {v : Value} {xs : List Value} (h : w.ownsRow base' e s v n xs) (hb : base ≤ base') : w.ownsRow base e s v n xs := by
  refine ⟨h.1, ?_⟩
  rcases h.2 with h' | ⟨gb, cap, cur, hv, hbb, hg, hrest⟩
  · exact .inl h'
  · exact .inr ⟨gb, cap, cur, hv, Nat.le_trans hb hbb, hg, hrest⟩
def gl (G : Nat → List Int) (nL : Nat) (R : Int) : List Int := if vld G nL R then grt G nL else []
theorem gl_len (G : Nat → List Int) (nL : Nat) (R : Int) : (gl G nL R).length ≤ nL := by
  unfold gl
  split
  · rw [grt_len]; exact Nat.le_refl _
  · exact Nat.zero_le _
theorem Greatest_any (A : Option Addr) (nL cap : Nat) (R : Int) (G : Nat → List Int) (w : World) (hm : nL ≤ 1000) (hl : ∀ i, i < nL → (G i).length ≤ 1000) (hG : GRow w A nL G) :
    Calls Try.prog 17 #[.agg #[.slice A nL cap, .int .i64 R]] w (RetL (gl G nL R) (erV G nL R) w) := by
  unfold gl erV
  rcases Bool.eq_false_or_eq_true (vld G nL R) with hv | hv
  · have V := (vld_iff G).1 hv
    have := V.h0
    obtain ⟨r, rfl⟩ : ∃ r : Nat, R = (r : Int) := ⟨R.toNat, by omega⟩
    rw [if_pos hv, if_pos hv]
    exact Greatest_ok A nL cap r G w hG hv
  · rw [if_neg (by rw [hv]; decide), if_neg (by rw [hv]; decide)]
    exact (Greatest_no A nL cap R G w hm hl hG hv).mono fun e w' ⟨he, hb⟩ => ⟨none, 0, he, Nat.le_refl _, hb, RowI.nil _ _⟩
set_option maxRecDepth 100000 in
set_option maxHeartbeats 6400000 in
theorem MatchingGreatest_walk (A : Option Addr) (nL cap : Nat) (R : Int) (W : World) (og : GraphOk W A nL cap R) :
    Calls Try.prog 5 #[.agg #[.slice A nL cap, .int .i64 R]] W (RetB (.bool true) W) := by
  obtain ⟨G, g1, g2, g3, g4, g5⟩ := og
  obtain ⟨i1, hi1, hy0, hy1, hy2⟩ := info_parts infoRow
  have CS := fun w h => small_any A nL cap 7 R G w g1 (fun i hi => (g2 i hi).1) h
  have HG := Lib.hid g3
  clear g3
  rcases Bool.eq_false_or_eq_true (smB G nL 7) with s1 | s1
  · obtain ⟨b1, b2⟩ := smB_len s1 (by omega)
    have hn7 : nL ≤ 7 := (smB_iff.1 s1).2
    rw [s1] at CS
    have HS := fun w h => Lib.hid (CS w h)
    have C1 := fun w h => refValid_any A nL cap R G w b1 b2 h
    have HLn := Lib.hid b2
    clear CS g2 s1
    go_enter Try.func5, Try.ntmps5
    go_wp2_with (go_at_call 9; refine (RetB.grown (HS _ (by repeat (first | exact HG.out | refine GRow.xt ?_ _ | refine GRow.alloc ?_ _ | refine GRow.drew ?_))).out).mono ?_; rintro e' w' ⟨rfl, ga, rfl⟩)
    obtain ⟨W1, hW1, HB1, HG1, f0, f1, o0, hs1⟩ : ∃ W1, xt (W.alloc (.cells #[.slice A nL cap, .int .i64 R] 24)) ga = W1 ∧ Hid (Below W.heap.size W W1) ∧ Hid (GRow W1 A nL G) ∧ W1.cell? ⟨W.heap.size, 0, none⟩ = some (.slice A nL cap) ∧ W1.cell? ⟨W.heap.size, 1, none⟩ = some (.int .i64 R) ∧ old W.heap.size W1 ∧ W.heap.size + 1 + ga.blocks.length = W1.heap.size :=
      ⟨_, rfl, Lib.hid (by repeat' (first | exact Below.refl _ _ | assumption | refine Below.xt ?_ ?_ _ | refine Below.alloc ?_ ?_ _ | refine Below.drew ?_ | refine Below.setCell ?_ ?_ _ | (simp; done) | (simp; omega))), Lib.hid ((HG.out.alloc _).xt _), by go_simp, by go_simp, by unfold old; simp; omega, by simp⟩
    rw [hW1, hs1]
    clear hW1 hs1 HS
    have HC := Lib.hid (show Blk (W1.alloc (.cells #[.slice none 0 0, .int .i64 R] 24)) W1.heap.size #[.slice none 0 0, .int .i64 R] 24 from Blk.new _ _ _ rfl)
    have HB2 := Lib.hid (show Below W1.heap.size W1 (W1.alloc (.cells #[.slice none 0 0, .int .i64 R] 24)) from (by repeat' (first | exact Below.refl _ _ | assumption | refine Below.xt ?_ ?_ _ | refine Below.alloc ?_ ?_ _ | refine Below.drew ?_ | refine Below.setCell ?_ ?_ _ | (simp; done) | (simp; omega))))
    go_loopg [24] (nL) (fun gk i wr => ∃ (k : Nat) (vL : Value), k + gk = nL ∧ i = .int .i64 k ∧ Hid (Below W1.heap.size W1 wr) ∧ Hid (Blk wr W1.heap.size #[vL, .int .i64 R] 24) ∧ Hid (GOwn wr (W1.heap.size + 1) vL k G))
    case atStart => exact ⟨0, _, by omega, rfl, HB2, HC, Lib.hid GOwn.nil⟩
    case round =>
      clear HC HB2
      obtain ⟨k, vL, hk, rfl, HB2, HC, HO⟩ := hrel
      have e0 : wr.cell? ⟨W.heap.size, 0, none⟩ = some (.slice A nL cap) := (HB2.out.cell (p := ⟨W.heap.size, 0, none⟩) o0).trans f0
      have e1 : wr.cell? ⟨W.heap.size, 1, none⟩ = some (.int .i64 R) := (HB2.out.cell (p := ⟨W.heap.size, 1, none⟩) o0).trans f1
      have o1 : old W.heap.size wr := Nat.lt_of_lt_of_le o0 HB2.out.size
      have x1 : wr.cell? ⟨W1.heap.size, 0, none⟩ = some vL := HC.out.cell rfl
      have x2 : wr.cell? ⟨W1.heap.size, 1, none⟩ = some (.int .i64 R) := HC.out.cell rfl
      have x3 : wr.frozen? ⟨W1.heap.size, 0, none⟩ = false := HC.out.frozen
      have x4 : old W1.heap.size wr := HC.out.lt
      by_cases hlt : k < nL
      · obtain ⟨gb, go, rfl, hgo0, hgc⟩ := (HG1.out.below HB2.out).top (by omega)
        obtain ⟨Ai, ci, hgi, hrow⟩ := hgc k hlt
        have HR := Lib.hid hrow
        obtain ⟨xs, hx, hi⟩ := HO.out
        have HX := Lib.hid hx
        have HI := Lib.hid hi
        have hlk := HLn.out k hlt
        clear hgc hrow hx hi HO
        go_wp2_with fail
        go_region_law (first
          | (refine step_copy rfl _ _ rfl (W1.heap.size + 1) ?_ Ai (G k).length ci (G k) rfl rfl rfl hlk ?_ ?_; (next => (exact x4)); (next => exact (by repeat (first | (with_reducible exact HR.out) | (with_reducible refine RowI.drew ?_)))); intro A2 c2 w2 hown2 hb2; obtain ⟨gA, rfl⟩ := xt_of_below hb2; (try simp only [xt_of_drew] at hown2); have HO2 := Lib.hid hown2; clear hown2 hb2)
          | (refine step_append_lies _ rfl _ _ 22 rfl (W1.heap.size + 1) 25 i1 _ 1 24 Try.underlying22 hi1 hy0 hy1 hy2 rfl (by omega) vL k xs rfl (by repeat (first | (with_reducible exact HX.out) | (with_reducible refine World.ownsRow.alloc ?_ _) | (with_reducible refine own_xt ?_ _) | (with_reducible refine own_drew ?_))) _ 1 _ [.slice A2 (G k).length c2] rfl rfl ?_ ?_ (by omega) (by simp only [maxLen]; omega) (by omega) ?_ _ rfl ?_; (next => (refine cells_new _ _ _ _ ?_; simp; done)); (next => (intro u hu; simp only [List.mem_cons, List.not_mem_nil, or_false] at hu; subst hu; rfl)); (next => (have := HC.out.lt; simp; omega)); intro g3 cap3 w3 hown3 hgrow3 hat3 hlt3;
              have hB3 := (((HC.out.xt gA).alloc (.cells #[.slice A2 (G k).length c2] 25)).kept hgrow3 (fun e => by have := (HX.out.lt _ e.symm).1; omega));
              have HS3 : old W1.heap.size w3 ∧ w3.frozen? ⟨W1.heap.size, 0, none⟩ = false := ⟨hB3.lt, hB3.frozen⟩; have ht3 : w3.cell? ⟨W1.heap.size, 0, none⟩ = some vL := hB3.cell rfl;
              have HGO := Lib.hid ((gown_push (w := (xt wr gA).alloc (.cells #[.slice A2 (G k).length c2] 25)) (n := k) (G := G) (by repeat (first | (with_reducible exact HX.out) | (with_reducible refine World.ownsRow.alloc ?_ _) | (with_reducible refine own_xt ?_ _) | (with_reducible refine own_drew ?_))) (fun i hlt => by obtain ⟨u, e, ho⟩ := HI.out i hlt; exact ⟨u, e, own_later ho (by repeat' (first | exact Below.refl _ _ | refine Below.xt ?_ ?_ _ | refine Below.alloc ?_ ?_ _ | refine Below.drew ?_ | (simp; done) | (simp; omega)))⟩) (HO2.out.alloc _) hown3 hgrow3).set W1.heap.size 0 (.slice (some ⟨g3, 0, none⟩) (k + 1) cap3) (by omega));
              have HC3 := Lib.hid (hB3.set (k := 0) (.slice (some ⟨g3, 0, none⟩) (k + 1) cap3));
              have HB3 := Lib.hid (show Below W1.heap.size W1 (w3.setCell ⟨W1.heap.size, 0, none⟩ (.slice (some ⟨g3, 0, none⟩) (k + 1) cap3)) from Below.setCell (below_grown (B := W1.heap.size) (w0 := W1) (w := (xt wr gA).alloc (.cells #[.slice A2 (G k).length c2] 25)) (e := 25) (s := 1) (n := k) (v := vL) (xs := xs) (HB2.out.trans (by have hlt9 := HC.out.lt; repeat' (first | exact Below.refl _ _ | refine Below.xt ?_ ?_ _ | refine Below.alloc ?_ ?_ _ | refine Below.drew ?_ | (simp; done) | omega | (simp; omega)))) (by have := HC.out.lt; simp; omega) (own_low (base' := W1.heap.size + 1) (by repeat (first | (with_reducible exact HX.out) | (with_reducible refine World.ownsRow.alloc ?_ _) | (with_reducible refine own_xt ?_ _) | (with_reducible refine own_drew ?_))) (by omega)) hgrow3) (Nat.le_refl _) _);
              clear hown3 hgrow3 hat3 hlt3 hB3))
        all_goals
          go_wp2_with fail
          go_roundg (gk - 1)
          case measure => omega
          case rel => exact ⟨k + 1, _, by omega, by go_num, HB3, HC3, HGO⟩
      · obtain rfl : k = nL := by omega
        obtain ⟨A2, c2, rfl, hrow⟩ := HO.out.row
        have HG2 := Lib.hid hrow
        have HG3 := Lib.hid (HG1.out.below HB2.out)
        have HB3 := Lib.hid (Below.next' HB1.out HB2.out HB1.out.size)
        have CG := fun w h => Lib.hid (Greatest_any A2 k c2 R G w b1 HLn.out h)
        have CZ := fun w h => Lib.hid (Size_any A2 k c2 R G w b1 HLn.out h)
        have CB := fun w h => refSize_any G A k cap R w (by omega) HLn.out h
        have hgl : (gl G k R).length ≤ 1000 := by have := gl_len G k R; omega
        have CM := fun M c0 w h hc hr => refMatching_any A M k cap (gl G k R).length c0 R G (gl G k R) w b1 HLn.out h rfl hgl hc hr
        have CC := fun M c0 w hr => retB (Count_any M c0 (gl G k R) w hgl hr)
        have CR := fun w h => Lib.hid (C1 w h)
        have hEr : erV G k R = if vld G k R then 0 else 2 := rfl
        have hSz : szN G k R = if vld G k R then (sizeV G k : Int) else 0 := rfl
        have hGl : gl G k R = if vld G k R then grt G k else [] := rfl
        clear hrow HO HG HC HB2 HG1 HB1
        generalize gl G k R = l at *
        generalize erV G k R = d at *
        generalize szN G k R = n at *
        have HEr := Lib.hid hEr
        have HSz := Lib.hid hSz
        have HGl := Lib.hid hGl
        clear hEr hSz hGl
        go_wp2_with fail
        refine (CG _ HG2.out).out.mono ?_
        rintro e' w' ⟨M, cM, rfl, hcM, hbel, hrM⟩
        obtain ⟨gx, rfl⟩ := xt_of_below hbel
        have HM := Lib.hid hrM
        clear hbel hrM CG
        go_wp2_with (go_at_call 18; refine (RetB.grown (CZ _ (HG2.out.xt _)).out).mono ?_; rintro e' w' ⟨rfl, gy, rfl⟩)
        clear CZ
        obtain ⟨W5, hW5, HB5, HG5, HO5, HM5, f0', f1', f2', o0', o2'⟩ : ∃ W5, xt (xt wr gx) gy = W5 ∧ Hid (Below W.heap.size W W5) ∧ Hid (GRow W5 A k G) ∧ Hid (GRow W5 A2 k G) ∧ Hid (RowI W5 M l) ∧ W5.cell? ⟨W.heap.size, 0, none⟩ = some (.slice A k cap) ∧ W5.cell? ⟨W.heap.size, 1, none⟩ = some (.int .i64 R) ∧ W5.cell? ⟨W1.heap.size, 0, none⟩ = some (.slice A2 k c2) ∧ old W.heap.size W5 ∧ old W1.heap.size W5 :=
          ⟨_, rfl, Lib.hid (have := HB3.out; have := HB3.out.size; (by repeat' (first | exact Below.refl _ _ | assumption | refine Below.xt ?_ ?_ _ | refine Below.alloc ?_ ?_ _ | refine Below.drew ?_ | refine Below.setCell ?_ ?_ _ | (simp; done) | (simp; omega)))), Lib.hid ((HG3.out.xt _).xt _), Lib.hid ((HG2.out.xt _).xt _), Lib.hid (HM.out.xt _), by go_simp, by go_simp, by go_simp, by rw [old_xt, old_xt]; exact .inl (.inl o1), by rw [old_xt, old_xt]; exact .inl (.inl x4)⟩
        rw [hW5]
        clear hW5 HG3 HG2 HM HB3 e0 e1 x1 x2 x3 x4 o1 o0 f0 f1
        go_loopg [49] (k) (fun gk i wr => ∃ (k2 : Nat) (g : Gr), k2 + gk = k ∧ i = .int .i64 k2 ∧ wr = xt W5 g)
        case atStart => exact ⟨0, _, by omega, rfl, (xt_self _).symm⟩
        case round =>
          obtain ⟨k2, g, hk2, rfl, rfl⟩ := hrel
          by_cases hlt2 : k2 < k
          · obtain ⟨gf, rfl⟩ : ∃ gf, gk = gf + 1 := ⟨gk - 1, by omega⟩
            obtain ⟨ga, ao, rfl, hao, hac⟩ := HG5.out.top (by omega)
            obtain ⟨Ai, ci, hai, harow⟩ := hac k2 hlt2
            obtain ⟨gb, bo, rfl, hbo, hbc⟩ := HO5.out.top (by omega)
            obtain ⟨Bi, di, hbi, hbrow⟩ := hbc k2 hlt2
            have HRa := Lib.hid harow
            have HRb := Lib.hid hbrow
            have hlk := HLn.out k2 hlt2
            clear hac hbc harow hbrow
            go_wp2_with fail
            go_loopg [65] ((G k2).length) (fun gk i wr => ∃ (k3 : Nat) (g : Gr), k3 + gk = (G k2).length ∧ i = .int .i64 k3 ∧ wr = xt W5 g)
            case atStart => exact ⟨0, _, by omega, rfl, rfl⟩
            case round =>
              obtain ⟨k3, g4, hk3, rfl, rfl⟩ := hrel
              by_cases hlt3 : k3 < (G k2).length
              · obtain ⟨qa, oa, rfl, hqa, hca⟩ := HRa.out.at_ (by omega)
                obtain ⟨qb, ob, rfl, hqb, hcb⟩ := HRb.out.at_ (by omega)
                have ca1 := hca k3 hlt3
                have cb1 := hcb k3 hlt3
                obtain ⟨x, hx⟩ : ∃ x, (G k2).getD k3 0 = x := ⟨_, rfl⟩
                rw [hx] at ca1 cb1
                clear hca hcb hx
                go_wp2_with (first
                  | (refine wp_region_xt (by kernel_rfl) (by kernel_rfl) ?_; (repeat (go_big_quiet_step (first | fail))); refine wpQuiet_nil ?_; intro g))
                go_roundg (gk - 1)
                case measure => omega
                case rel => exact ⟨k3 + 1, _, by omega, by go_num, xt_xt _ _ _⟩
              · obtain rfl : k3 = (G k2).length := by omega
                go_wp2_with fail
                go_roundg gf
                case measure => omega
                case rel => exact ⟨k2 + 1, _, by omega, by go_num, rfl⟩
          · obtain rfl : k2 = k := by omega
            have HB5' := HB5.out
            have HB6 := HB5.out.size
            rcases Bool.eq_false_or_eq_true (vld G k2 R) with hv | hv
            · have e1 := HEr.out
              have e2 := HSz.out
              have e3 := HGl.out
              rw [if_pos hv] at e1 e2 e3
              have V := (vld_iff G).1 hv
              have := V.h0
              obtain ⟨r, rfl⟩ : ∃ r : Nat, R = (r : Int) := ⟨R.toNat, by omega⟩
              have CM1 := fun w h => CM M cM w h hcM
              have hmt := grt_ok G hv
              have hct := grt_cnt G k2
              rw [← e3] at hmt hct
              rw [hmt] at CM1
              rw [hct, ← e2] at CC
              rw [bst_size G hv, ← e2] at CB
              have CR1 := fun w h => C1 w h
              rw [hv] at CR1
              have K1 := fun w h hr => Lib.hid (CM1 w h hr)
              have K2 := fun w h => Lib.hid (CC M cM w h)
              have K3 := fun w h => Lib.hid (CB w h)
              have K4 := fun w h => Lib.hid (CR1 w h)
              subst e1
              clear e2 e3 CM CM1 CC CB CR CR1 C1 hmt hct hv V HEr HSz HGl
              go_wp2_with (first
                | (go_at_call 11; refine (RetB.grown (K4 _ (HG5.out.xt _)).out).mono ?_; rintro e' w' ⟨rfl, g7, rfl⟩)
                | (go_at_call 19; refine (RetB.grown (K3 _ ((HG5.out.xt _).xt _)).out).mono ?_; rintro e' w' ⟨rfl, g8, rfl⟩)
                | (go_at_call 14; refine (RetB.grown (K1 _ (((HG5.out.xt _).xt _).xt _) (((HM5.out.xt _).xt _).xt _)).out).mono ?_; rintro e' w' ⟨rfl, g9, rfl⟩)
                | (go_at_call 20; refine (RetB.grown (K2 _ ((((HM5.out.xt _).xt _).xt _).xt _)).out).mono ?_; rintro e' w' ⟨rfl, g9, rfl⟩)
                | (go_at_call 10; refine (RetB.grown (known_any _)).mono ?_; rintro e' w' ⟨rfl, g9, rfl⟩))
              go_ret
              exact RetB.of rfl (by repeat' (first | exact Below.refl _ _ | assumption | refine Below.xt ?_ ?_ _ | refine Below.alloc ?_ ?_ _ | refine Below.drew ?_ | refine Below.setCell ?_ ?_ _ | (simp; done) | (simp; omega)))
            · have e1 := HEr.out
              have e2 := HSz.out
              have e3 := HGl.out
              rw [if_neg (by rw [hv]; decide)] at e1 e2 e3
              have CR1 := fun w h => C1 w h
              rw [hv] at CR1
              have K4 := fun w h => Lib.hid (CR1 w h)
              subst e1 e2 e3
              clear CM CC CB CR CR1 C1 hv HEr HSz HGl
              go_wp2_with (first
                | (go_at_call 11; refine (RetB.grown (K4 _ (HG5.out.xt _)).out).mono ?_; rintro e' w' ⟨rfl, g7, rfl⟩)
                | (go_at_call 10; refine (RetB.grown (known_any _)).mono ?_; rintro e' w' ⟨rfl, g9, rfl⟩))
              go_ret
              exact RetB.of rfl (by repeat' (first | exact Below.refl _ _ | assumption | refine Below.xt ?_ ?_ _ | refine Below.alloc ?_ ?_ _ | refine Below.drew ?_ | refine Below.setCell ?_ ?_ _ | (simp; done) | (simp; omega)))
  · rw [s1] at CS
    have HS := fun w h => Lib.hid (CS w h)
    clear CS g2 s1
    go_enter Try.func5, Try.ntmps5
    go_wp2_with (first | (go_at_call 9; refine (RetB.grown (HS _ (by repeat (first | exact HG.out | refine GRow.xt ?_ _ | refine GRow.alloc ?_ _ | refine GRow.drew ?_))).out).mono ?_; rintro e' w' ⟨rfl, g, rfl⟩) | (go_at_call 10; refine (RetB.grown (known_any _)).mono ?_; rintro e' w' ⟨rfl, g, rfl⟩))
    go_ret
    exact RetB.of rfl (by repeat' (first | exact Below.refl _ _ | assumption | refine Below.xt ?_ ?_ _ | refine Below.alloc ?_ ?_ _ | refine Below.drew ?_ | refine Below.setCell ?_ ?_ _ | (simp; done) | (simp; omega)))
end Go.Proofs.Ytkabknmhbjmmcaa

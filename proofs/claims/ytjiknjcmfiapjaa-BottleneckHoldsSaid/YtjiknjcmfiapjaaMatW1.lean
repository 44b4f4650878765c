
/- Walk: the levels of the search. Conditions stand in each theorem. -/
import Derived.Test.YtjiknjcmfiapjaaMatM
import Derived.Deep.LoopGhost
import Derived.BigRegion
namespace Go.Proofs.Ytjiknjcmfiapjaa
open Go.RowKit
set_option linter.unusedVariables false
set_option linter.unusedSimpArgs false

/-- The call returns the answer; the levels have changed. -/
def LevelsP (w0 : World) (A : Option Addr) (cA nL R : Nat) (G : Nat → List Int) (bS bM bB bV : Nat) (M B V' : Nat → Int) (r : Bool) (e : Ending) (W' : World) : Prop :=
  e = .returned (.bool r) ∧ SMem w0 W' A cA nL R G bS bM bB bV ⟨M, B, V'⟩
def qv (q : List Nat) : List Value := q.map fun k : Nat => Value.int .i64 (k : Int)
theorem qv_app (q : List Nat) (k : Nat) : qv (q ++ [k]) = qv q ++ [.int .i64 (k : Int)] := by simp [qv]

set_option maxRecDepth 100000 in
set_option maxHeartbeats 3200000 in
theorem levels_any (w0 W : World) (A : Option Addr) (cA nL R : Nat) (G : Nat → List Int) (bS bM bB bV : Nat) (s : St) (hS : SMem w0 W A cA nL R G bS bM bB bV s) (hF : Fit nL R G) (hB : ∀ n, -1 ≤ s.B n ∧ s.B n < (nL : Int)) (V' : Nat → Int) (r : Bool)
    (hb : bfs G s.B nL (lv0 s.M) (q0 s.M nL) false = some (V', r)) :
    Calls Try.prog 56 #[.pointer (some ⟨bS, 0, none⟩)] W (LevelsP w0 A cA nL R G bS bM bB bV s.M s.B V' r) := by
  obtain ⟨i0, hi0, hz0, hz1, hz2⟩ := info_parts infoInt
  obtain ⟨M, B, V⟩ := s
  have hL200 := hF.hL
  have hbS := hS.S.lt
  have hbM := hS.M.lt
  have hbB := hS.B.lt
  have hbV := hS.V.lt
  obtain ⟨n1, n2, n3, n4, n5, n6⟩ : bS ≠ bM ∧ bS ≠ bB ∧ bS ≠ bV ∧ bM ≠ bB ∧ bM ≠ bV ∧ bB ≠ bV := ⟨hS.nSM, hS.nSB, hS.nSV, hS.nMB, hS.nMV, hS.nBV⟩
  obtain ⟨c0, c2, c3, c4, o0, o1, o2, o3⟩ := hS.f
  have HS := Lib.hid hS
  have HF := Lib.hid hF
  have HB := Lib.hid hB
  have Hb := Lib.hid hb
  clear hS hF hB hb
  dsimp only at *
  go_enter Try.func56, Try.ntmps56
  go_wp2_with fail
  go_loopg [3, 16] (nL) (fun gk q i wr => ∃ (k : Nat) (U : Nat → Int), k + gk = nL ∧ W.heap.size ≤ wr.heap.size ∧ i = .int .i64 k ∧ Hid (SMem w0 wr A cA nL R G bS bM bB bV ⟨M, B, U⟩) ∧ Hid (∀ j, j < k → U j = lv0 M j) ∧ Hid (ownsQ wr W.heap.size 3 q (q0 M k).length (qv (q0 M k))))
  case atStart => exact ⟨0, V, by omega, Nat.le_refl _, rfl, HS, Lib.hid (fun j h => absurd h (by omega)), Lib.hid ⟨rfl, .inl ⟨rfl, rfl⟩⟩⟩
  case round =>
    obtain ⟨k, U, hk, hsz, rfl, HU, HU0, HQ⟩ := hrel
    by_cases hlt : k < nL
    · obtain ⟨e0, e2, e3, e4, p0, p1, p2, p3⟩ := HU.out.f
      obtain ⟨m1, m2⟩ := HU.out.m hlt
      obtain ⟨v1, v2⟩ := HU.out.v hlt
      dsimp only at m1 v1
      by_cases hM : M k < 0
      · have hlen : (q0 M k).length ≤ 200 := by rw [q0_len]; have := cntp_le (free M) k; omega
        have hsn : q0 M (k + 1) = q0 M k ++ [k] := by rw [q0_snoc, if_pos hM]
        have HSN := Lib.hid hsn
        clear hsn
        generalize q0 M k = q at *
        go_wp2_with (at_builtin; go_must (refine wpList_append_ownsQ rfl _ _ 23 rfl W.heap.size 3 i0 _ 8 Try.underlying23 hi0 hz0 hz1 hz2 rfl u3 q.length (qv q) rfl ?_ _ _ (.int .i64 (k : Int)) rfl ?_ rfl ?_ ?_ ?_ ?_))
        · exact ((HQ.out.set _ _ _ hbV).set _ _ _ hbV).alloc _
        · rw [zero_add_addr]; go_simp
        · simp only [maxLen]; omega
        · omega
        · simp; omega
        intro v1 w1 hq1 hg1
        have HU1 := Lib.hid ((((HU.out.setV k (-1)).setV k 0).alloc (.cells #[.int .i64 (k : Int)] 3)).grown hg1 (fun j e => (HQ.out.lt j e).1) hbS hbM hbB hbV)
        have hs1 : W.heap.size ≤ w1.heap.size := by have := hg1.size; simp at this; omega
        have HQ1 := Lib.hid (show ownsQ w1 W.heap.size 3 v1 (q0 M (k + 1)).length (qv (q0 M (k + 1))) by rw [HSN.out, qv_app, List.length_append]; exact hq1)
        have HU2 := Lib.hid (show ∀ j, j < k + 1 → up (up U k (-1)) k 0 j = lv0 M j from fun j hj => by
          by_cases e : j = k
          · subst e; rw [up_self, lv0, if_pos hM]
          · rw [up_ne e, up_ne e]; exact HU0.out j (by omega))
        clear hq1 hg1 HQ HU HU0 HSN
        go_wp2_with fail
        go_roundg (gk - 1)
        case measure => omega
        case rel => exact ⟨k + 1, _, by omega, hs1, by go_num, HU1, HU2, HQ1⟩
      · have HSN := Lib.hid (show q0 M (k + 1) = q0 M k by rw [q0_snoc, if_neg hM])
        go_wp2_with fail
        go_roundg (gk - 1)
        case measure => omega
        case rel =>
          refine ⟨k + 1, _, by omega, by simpa using hsz, by go_num, Lib.hid (HU.out.setV k (-1)), Lib.hid (fun j hj => ?_), ?_⟩
          · by_cases e : j = k
            · subst e; rw [up_self, lv0, if_neg (by omega)]
            · rw [up_ne e]; exact HU0.out j (by omega)
          · rw [HSN.out]; exact Lib.hid (HQ.out.set _ _ _ hbV)
    · obtain rfl : k = nL := by omega
      have HU1 := Lib.hid (HU.out.congrV HU0.out)
      have HL := Lib.hid (LvI.start k M)
      have hl0 : (q0 M k).length ≤ k := by have := HL.out.cnt; omega
      clear HU HU0 HS c0 c2 c3 c4
      go_wp2_with fail
      have HQ0 := Lib.hid (show ∀ x ∈ q0 M k, 0 ≤ lv0 M x from fun x hx => by
        simp only [q0, List.mem_filter, decide_eq_true_eq] at hx
        rw [lv0, if_pos hx.2]; omega)
      generalize lv0 M = U at *
      generalize q0 M k = q at *
      go_loopg [3, 6] (k) (fun gk qq rr wr => ∃ (U : Nat → Int) (q : List Nat) (b : Bool), W.heap.size ≤ wr.heap.size ∧ rr = .bool b ∧ Hid (SMem w0 wr A cA k R G bS bM bB bV ⟨M, B, U⟩) ∧ Hid (LvI k U q) ∧ Hid (∀ x ∈ q, 0 ≤ U x) ∧ q.length ≤ 200 ∧ Hid (ownsQ wr W.heap.size 3 qq q.length (qv q)) ∧ Hid (bfs G B gk U q b = some (V', r)))
      case atStart => exact ⟨U, q, false, hsz, rfl, HU1, HL, HQ0, by omega, HQ, Hb⟩
      case round =>
        clear HU1 HL HQ Hb hsz hl0
        obtain ⟨U, q, b, hsz, rfl, HU, HL, hUi, hql, HQ, Hb⟩ := hrel
        cases q with
        | nil =>
          have hbb : U = V' ∧ b = r := by
            have h := Hb.out
            cases gk <;> simp [bfs] at h <;> exact h
          obtain ⟨rfl, rfl⟩ := hbb
          have hsh : ∃ a c, u3 = .slice a 0 c := by
            rcases HQ.out.2 with ⟨h, _⟩ | ⟨g, off, cap, cur, h, _⟩
            · exact ⟨_, _, h⟩
            · exact ⟨_, _, h⟩
          obtain ⟨a, c, rfl⟩ := hsh
          clear HQ Hb HL
          go_wp2_with fail
          go_ret
          exact ⟨rfl, HU.out⟩
        | cons i q =>
          obtain ⟨f, rfl⟩ : ∃ f, gk = f + 1 := by
            cases gk with
            | zero => have h := Hb.out; simp [bfs] at h
            | succ f => exact ⟨f, rfl⟩
          have hik := HL.out.q i (List.mem_cons_self ..)
          have HL1 := Lib.hid HL.out.pop
          have HQn := Lib.hid (show ∀ x ∈ q, 0 ≤ U x from fun x hx => hUi.out x (List.mem_cons_of_mem _ hx))
          have HUi := Lib.hid (show 0 ≤ U i from hUi.out i (List.mem_cons_self ..))
          obtain ⟨g, off, cap, rfl, hq1, hq2, hq3, hq4⟩ := HQ.out.shape (by simp)
          obtain ⟨c, rfl⟩ : ∃ c, cap = c + 1 := ⟨cap - 1, by simp at hq1; omega⟩
          have hqc : wr.cell? ⟨g, off, none⟩ = some (.int .i64 (i : Int)) := HQ.out.cells 0 (.int .i64 (i : Int)) rfl
          have HQ1 := Lib.hid fun o h => HQ.out.tail (n := q.length) (xs := qv q) (cap := c) (x := .int .i64 (i : Int)) o h
          obtain ⟨e0, e2, e3, e4, p0, p1, p2, p3⟩ := HU.out.f
          obtain ⟨gb, go, rfl, hgo, hgc⟩ := HU.out.G.top (by omega)
          obtain ⟨Ai, ci, hgi0, hrow⟩ := hgc i hik
          have hgi := (HU.out.below.cell (p := ⟨gb, go + i, none⟩) hgo).trans hgi0
          have hgo : old gb wr := Nat.lt_of_lt_of_le hgo HU.out.below.size
          clear hgi0
          have HR := Lib.hid hrow
          have hbfs : Hid (bfs G B f (visit B i (G i) U q b).1 (visit B i (G i) U q b).2.1 (visit B i (G i) U q b).2.2 = some (V', r)) := Hb.out
          clear Hb HQ hgc hrow HL
          simp only [List.length_cons] at hql hqc ⊢
          have hcc : c = 0 ∨ 0 < c := by omega
          have HN := Lib.hid (show ∀ n ∈ G i, 0 ≤ n ∧ n < (R : Int) from HF.out.g i hik)
          have hlen := HF.out.len i hik
          rcases hcc with hcc | hcc
          · subst hcc
            go_wp2_with fail
            have HQ2 := Lib.hid (HQ1.out off (by simp))
            clear HQ1
            go_loopg [3, 6, 57] ((G i).length) (fun gk qq rr jj wr => ∃ (j : Nat) (U : Nat → Int) (q : List Nat) (b : Bool), j + gk = (G i).length ∧ jj = .int .i64 j ∧ W.heap.size ≤ wr.heap.size ∧ rr = .bool b ∧ Hid (SMem w0 wr (some ⟨gb, go, none⟩) cA k R G bS bM bB bV ⟨M, B, U⟩) ∧ Hid (LvI k U q) ∧ Hid (∀ x ∈ q, 0 ≤ U x) ∧ Hid (0 ≤ U i) ∧ Hid (ownsQ wr W.heap.size 3 qq q.length (qv q)) ∧ Hid (bfs G B f (visit B i ((G i).drop j) U q b).1 (visit B i ((G i).drop j) U q b).2.1 (visit B i ((G i).drop j) U q b).2.2 = some (V', r)))
            case atStart => exact ⟨0, U, q, b, by omega, rfl, hsz, rfl, HU, HL1, HQn, HUi, HQ2, hbfs⟩
            case round =>
              clear HU HL1 HQn HUi HQ2 hbfs hsz e0 e2 e3 e4 p0 p1 p2 p3 hgi hgo hqc hq1 hq2 hq3 hq4
              obtain ⟨j, U, q, b, hj, rfl, hsz, rfl, HU, HL, HQn, HUi, HQ, Hb⟩ := hrel
              by_cases hlt3 : j < (G i).length
              · obtain ⟨qb, qo, rfl, hqo, hqc⟩ := RowI.at_ (HR.out.below HU.out.below) (by omega)
                have hn := hqc j hlt3
                have hmem : (G i).getD j 0 ∈ G i := getD_mem hlt3
                have hdrop : (G i).drop j = (G i).getD j 0 :: (G i).drop (j + 1) := drop_at hlt3
                have hN := HN.out _ hmem
                obtain ⟨m, hm⟩ : ∃ m : Nat, (G i).getD j 0 = (m : Int) := ⟨((G i).getD j 0).toNat, by omega⟩
                rw [hm] at hn hN hdrop
                have hmR : m < R := by omega
                rw [hdrop] at Hb
                have HD := Lib.hid hdrop
                have hql : q.length ≤ 200 := by have := HL.out.cnt; omega
                obtain ⟨e0, e2, e3, e4, p0, p1, p2, p3⟩ := HU.out.f
                obtain ⟨b1, b2⟩ := HU.out.b hmR
                obtain ⟨v1, v2⟩ := HU.out.v hik
                have hBm := HB.out m
                dsimp only at b1 v1
                clear hm hN hdrop hqc hmem
                generalize (G i).drop (j + 1) = ns at *
                by_cases hB0 : B m < 0
                · rw [visit_free hB0] at Hb
                  have HD' := HD
                  clear HD
                  go_wp2_with fail
                  go_roundg (gk - 1)
                  case measure => omega
                  case rel => exact ⟨j + 1, U, q, true, by omega, by go_num, hsz, rfl, HU, HL, HQn, HUi, HQ, by rw [drop_tail HD'.out]; exact Hb⟩
                · obtain ⟨kk, hkk⟩ : ∃ kk : Nat, B m = (kk : Int) := ⟨(B m).toNat, by omega⟩
                  rw [hkk] at b1 hBm
                  have hkL : kk < k := by omega
                  obtain ⟨w1, w2⟩ := HU.out.v hkL
                  dsimp only at w1
                  by_cases hU0 : U kk < 0
                  · rw [visit_new hkk hU0] at Hb
                    have HL2 := Lib.hid (HL.out.push hkL HUi.out hU0)
                    have u1 := HL.out.high i
                    have u2 := HUi.out
                    have hki : kk ≠ i := fun e => by subst e; omega
                    clear hkk hB0 hBm
                    go_wp2_with fail
                    have HQ0 := Lib.hid (show ∀ x ∈ q ++ [kk], 0 ≤ up U kk (U i + 1) x from fun x hx => by
                      by_cases e : x = kk
                      · subst e; rw [up_self]; omega
                      · rw [up_ne e]
                        rcases List.mem_append.1 hx with hx | hx
                        · exact HQn.out x hx
                        · simp at hx; exact absurd hx e)
                    have HUi' := Lib.hid (show 0 ≤ up U kk (U i + 1) i by rw [up_ne (Ne.symm hki)]; exact u2)
                    go_region
                    go_wp2_with (at_builtin; go_must (refine wpList_append_ownsQ rfl _ _ 23 rfl W.heap.size 3 i0 _ 8 Try.underlying23 hi0 hz0 hz1 hz2 rfl u3 q.length (qv q) rfl ?_ _ _ (.int .i64 (kk : Int)) rfl ?_ rfl ?_ ?_ ?_ ?_))
                    · repeat (first | (with_reducible exact HQ.out) | (with_reducible refine ownsQ.drew ?_) | (with_reducible refine ownsQ.alloc ?_ _) | (with_reducible refine ownsQ.set ?_ _ _ _ hbV))
                    · rw [zero_add_addr]; go_simp
                    · simp only [maxLen]; omega
                    · omega
                    · simp; omega
                    intro y1 w1 hq1 hg1
                    have HU1 := Lib.hid ((((HU.out.setV kk (U i + 1)).alloc (.cells #[.int .i64 (kk : Int)] 3)).drew).grown hg1 (fun j e => (HQ.out.lt j e).1) hbS hbM hbB hbV)
                    have hs1 : W.heap.size ≤ w1.heap.size := by have := hg1.size; simp at this; omega
                    have HQ1 := Lib.hid (show ownsQ w1 W.heap.size 3 y1 (q ++ [kk]).length (qv (q ++ [kk])) by rw [qv_app, List.length_append]; exact hq1)
                    have HD' := HD
                    clear hq1 hg1 HQ HU HL
                    go_wp2_with fail
                    go_roundg (gk - 1)
                    case measure => omega
                    case rel => exact ⟨j + 1, _, _, b, by omega, by go_num, hs1, rfl, HU1, HL2, HQ0, HUi', HQ1, by rw [drop_tail HD'.out]; exact Hb⟩
                  · rw [visit_old hkk hU0] at Hb
                    have HD' := HD
                    clear HD hkk hB0 hBm
                    go_wp2_with fail
                    go_roundg (gk - 1)
                    case measure => omega
                    case rel => exact ⟨j + 1, U, q, b, by omega, by go_num, hsz, rfl, HU, HL, HQn, HUi, HQ, by rw [drop_tail HD'.out]; exact Hb⟩
              · obtain rfl : j = (G i).length := by omega
                rw [List.drop_of_length_le (Nat.le_refl _)] at Hb
                have hql : q.length ≤ 200 := by have := HL.out.cnt; omega
                go_wp2_with fail
                go_roundg f
                case measure => omega
                case rel => exact ⟨U, q, b, hsz, rfl, HU, HL, HQn, hql, HQ, Hb⟩
          · have _ := hcc
            go_wp2_with fail
            have HQ2 := Lib.hid (HQ1.out (off + 1) (by simp))
            clear HQ1
            go_loopg [3, 6, 57] ((G i).length) (fun gk qq rr jj wr => ∃ (j : Nat) (U : Nat → Int) (q : List Nat) (b : Bool), j + gk = (G i).length ∧ jj = .int .i64 j ∧ W.heap.size ≤ wr.heap.size ∧ rr = .bool b ∧ Hid (SMem w0 wr (some ⟨gb, go, none⟩) cA k R G bS bM bB bV ⟨M, B, U⟩) ∧ Hid (LvI k U q) ∧ Hid (∀ x ∈ q, 0 ≤ U x) ∧ Hid (0 ≤ U i) ∧ Hid (ownsQ wr W.heap.size 3 qq q.length (qv q)) ∧ Hid (bfs G B f (visit B i ((G i).drop j) U q b).1 (visit B i ((G i).drop j) U q b).2.1 (visit B i ((G i).drop j) U q b).2.2 = some (V', r)))
            case atStart => exact ⟨0, U, q, b, by omega, rfl, hsz, rfl, HU, HL1, HQn, HUi, HQ2, hbfs⟩
            case round =>
              clear HU HL1 HQn HUi HQ2 hbfs hsz e0 e2 e3 e4 p0 p1 p2 p3 hgi hgo hqc hq1 hq2 hq3 hq4
              obtain ⟨j, U, q, b, hj, rfl, hsz, rfl, HU, HL, HQn, HUi, HQ, Hb⟩ := hrel
              by_cases hlt3 : j < (G i).length
              · obtain ⟨qb, qo, rfl, hqo, hqc⟩ := RowI.at_ (HR.out.below HU.out.below) (by omega)
                have hn := hqc j hlt3
                have hmem : (G i).getD j 0 ∈ G i := getD_mem hlt3
                have hdrop : (G i).drop j = (G i).getD j 0 :: (G i).drop (j + 1) := drop_at hlt3
                have hN := HN.out _ hmem
                obtain ⟨m, hm⟩ : ∃ m : Nat, (G i).getD j 0 = (m : Int) := ⟨((G i).getD j 0).toNat, by omega⟩
                rw [hm] at hn hN hdrop
                have hmR : m < R := by omega
                rw [hdrop] at Hb
                have HD := Lib.hid hdrop
                have hql : q.length ≤ 200 := by have := HL.out.cnt; omega
                obtain ⟨e0, e2, e3, e4, p0, p1, p2, p3⟩ := HU.out.f
                obtain ⟨b1, b2⟩ := HU.out.b hmR
                obtain ⟨v1, v2⟩ := HU.out.v hik
                have hBm := HB.out m
                dsimp only at b1 v1
                clear hm hN hdrop hqc hmem
                generalize (G i).drop (j + 1) = ns at *
                by_cases hB0 : B m < 0
                · rw [visit_free hB0] at Hb
                  have HD' := HD
                  clear HD
                  go_wp2_with fail
                  go_roundg (gk - 1)
                  case measure => omega
                  case rel => exact ⟨j + 1, U, q, true, by omega, by go_num, hsz, rfl, HU, HL, HQn, HUi, HQ, by rw [drop_tail HD'.out]; exact Hb⟩
                · obtain ⟨kk, hkk⟩ : ∃ kk : Nat, B m = (kk : Int) := ⟨(B m).toNat, by omega⟩
                  rw [hkk] at b1 hBm
                  have hkL : kk < k := by omega
                  obtain ⟨w1, w2⟩ := HU.out.v hkL
                  dsimp only at w1
                  by_cases hU0 : U kk < 0
                  · rw [visit_new hkk hU0] at Hb
                    have HL2 := Lib.hid (HL.out.push hkL HUi.out hU0)
                    have u1 := HL.out.high i
                    have u2 := HUi.out
                    have hki : kk ≠ i := fun e => by subst e; omega
                    clear hkk hB0 hBm
                    go_wp2_with fail
                    have HQ0 := Lib.hid (show ∀ x ∈ q ++ [kk], 0 ≤ up U kk (U i + 1) x from fun x hx => by
                      by_cases e : x = kk
                      · subst e; rw [up_self]; omega
                      · rw [up_ne e]
                        rcases List.mem_append.1 hx with hx | hx
                        · exact HQn.out x hx
                        · simp at hx; exact absurd hx e)
                    have HUi' := Lib.hid (show 0 ≤ up U kk (U i + 1) i by rw [up_ne (Ne.symm hki)]; exact u2)
                    go_region
                    go_wp2_with (at_builtin; go_must (refine wpList_append_ownsQ rfl _ _ 23 rfl W.heap.size 3 i0 _ 8 Try.underlying23 hi0 hz0 hz1 hz2 rfl u3 q.length (qv q) rfl ?_ _ _ (.int .i64 (kk : Int)) rfl ?_ rfl ?_ ?_ ?_ ?_))
                    · repeat (first | (with_reducible exact HQ.out) | (with_reducible refine ownsQ.drew ?_) | (with_reducible refine ownsQ.alloc ?_ _) | (with_reducible refine ownsQ.set ?_ _ _ _ hbV))
                    · rw [zero_add_addr]; go_simp
                    · simp only [maxLen]; omega
                    · omega
                    · simp; omega
                    intro y1 w1 hq1 hg1
                    have HU1 := Lib.hid ((((HU.out.setV kk (U i + 1)).alloc (.cells #[.int .i64 (kk : Int)] 3)).drew).grown hg1 (fun j e => (HQ.out.lt j e).1) hbS hbM hbB hbV)
                    have hs1 : W.heap.size ≤ w1.heap.size := by have := hg1.size; simp at this; omega
                    have HQ1 := Lib.hid (show ownsQ w1 W.heap.size 3 y1 (q ++ [kk]).length (qv (q ++ [kk])) by rw [qv_app, List.length_append]; exact hq1)
                    have HD' := HD
                    clear hq1 hg1 HQ HU HL
                    go_wp2_with fail
                    go_roundg (gk - 1)
                    case measure => omega
                    case rel => exact ⟨j + 1, _, _, b, by omega, by go_num, hs1, rfl, HU1, HL2, HQ0, HUi', HQ1, by rw [drop_tail HD'.out]; exact Hb⟩
                  · rw [visit_old hkk hU0] at Hb
                    have HD' := HD
                    clear HD hkk hB0 hBm
                    go_wp2_with fail
                    go_roundg (gk - 1)
                    case measure => omega
                    case rel => exact ⟨j + 1, U, q, b, by omega, by go_num, hsz, rfl, HU, HL, HQn, HUi, HQ, by rw [drop_tail HD'.out]; exact Hb⟩
              · obtain rfl : j = (G i).length := by omega
                rw [List.drop_of_length_le (Nat.le_refl _)] at Hb
                have hql : q.length ≤ 200 := by have := HL.out.cnt; omega
                go_wp2_with fail
                go_roundg f
                case measure => omega
                case rel => exact ⟨U, q, b, hsz, rfl, HU, HL, HQn, hql, HQ, Hb⟩

end Go.Proofs.Ytjiknjcmfiapjaa

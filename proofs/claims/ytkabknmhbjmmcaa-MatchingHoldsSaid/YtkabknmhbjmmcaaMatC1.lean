/- Walks: the greatest number of edges by trying all, by the reference. Conditions stand in each theorem. -/
import Derived.Test.YtkabknmhbjmmcaaMatB5
import Derived.Deep.LoopGhost
import Derived.Deep.RegionHeld3
import Derived.Deep.AppendLies
import Derived.Laws.OwnMore
import Derived.IntWalk
namespace Go.Proofs.Ytkabknmhbjmmcaa
open Go.RowKit
set_option linter.unusedVariables false
set_option linter.unusedSimpArgs false

theorem news_xt {w : World} {m : Nat} {xs : List Value} (h : ∀ j u, xs[j]? = some u → w.cell? ((⟨m, 0, none⟩ : Addr).add j) = some u) (hm : m < w.heap.size) (g : Gr) : ∀ j u, xs[j]? = some u → (Go.Proofs.Ytkabknmhbjmmcaa.xt w g).cell? ((⟨m, 0, none⟩ : Addr).add j) = some u := fun j u hu => by
  rw [← h j u hu, zero_add_addr, xt_cell _ _ _ _ _ hm]
theorem own_xtd {w : World} {g : Gr} {base : Nat} {e : TypeId} {s n : Nat} {v : Value} {xs : List Value} (h : (Go.Proofs.Ytkabknmhbjmmcaa.xt w g).ownsRow base e s v n xs) : (Go.Proofs.Ytkabknmhbjmmcaa.xt w.drew g).ownsRow base e s v n xs := h
theorem below_none {w w' : World} (h : w.grownBy w' (Value.ownBlock (.slice none 0 0))) : Below w.heap.size w w' := (Below.refl _ _).grown h (Nat.le_refl _) (fun k e => nomatch e)
theorem RowI.news {w : World} {ad : Addr} {l : List Int} (h : RowI w (some ad) l) : ∀ j u, (l.map (Value.int .i64))[j]? = some u → w.cell? (ad.add j) = some u := by
  rw [← flat_ints]; exact row_news h (by omega)
theorem step_append_nil {P : Program} {w : World} {ops : Array Oper} {o : Oper} {a : Act} {K : Act → World → Prop} {Q : Exit → Act → World → Prop} {E : Prop} (hgd : o.guard = none) (s x : Operand) (t : TypeId)
    (ho : o.op = .call { callee := .builtin .append, args := #[s, x], argTypes := #[t, t] })
    (e : TypeId) (i : TypeInfo) (ht : P.underlying t = some (.slice e)) (hi : P.info? e = some i)
    (hs : a.eval s = .slice none 0 0) (hx : a.eval x = .slice none 0 0) (h : K (a.put o.dst (.slice none 0 0)) w) :
    if Region.wanted o (yielded ops a.tmps) = true then Oper.wp P o a w K Q else E := by
  have hw : Region.wanted o (yielded ops a.tmps) = true := by simp [Region.wanted, hgd]
  rw [if_pos hw]
  have hrun := run_append_owned_none (P := P) (w := w) w.heap.size t o.type e i 1 ht hi (.slice none 0 0) 0 [] own_nil
  unfold Oper.wp
  simp [execOp, ho, resolve, invoke, builtin, hs, hx, hrun, Result.andThen]
  exact h

variable (G : Nat → List Int)
theorem bst_bd (nL : Nat) : ∀ (k : Nat) (us : List Int), bst G nL k us ≤ k
  | 0, us => Nat.le_refl 0
  | k + 1, us => by
    rw [bst]
    rcases foldl_is (f := fun x => 1 + bst G nL k (us ++ [x])) (p := fun x => us.contains x) (G (nL - (k + 1))) (bst G nL k us) with h | ⟨x, hx, hp, h⟩
    · rw [h]; have := bst_bd nL k us; omega
    · rw [h]; have := bst_bd nL k (us ++ [x]); omega
def bstP (nL k : Nat) (us : List Int) (l : List Int) : Nat := l.foldl (fun n x => if us.contains x then n else max n (1 + bst G nL k (us ++ [x]))) (bst G nL k us)
theorem bstP_bd (nL k : Nat) (us l : List Int) : bstP G nL k us l ≤ k + 1 := by
  unfold bstP
  rcases foldl_is (f := fun x => 1 + bst G nL k (us ++ [x])) (p := fun x => us.contains x) l (bst G nL k us) with h | ⟨x, hx, hp, h⟩
  · rw [h]; have := bst_bd G nL k us; omega
  · rw [h]; have := bst_bd G nL k (us ++ [x]); omega
theorem take_next {l : List Int} {j : Nat} (h : j < l.length) : l.take (j + 1) = l.take j ++ [l.getD j 0] := by
  rw [List.take_succ_eq_append_getElem h]; simp [List.getD, h]
theorem bstP_skip {nL k j : Nat} {us l : List Int} (h : j < l.length) (hc : hs us (l.getD j 0) = true) : bstP G nL k us (l.take (j + 1)) = bstP G nL k us (l.take j) := by
  unfold bstP
  rw [take_next h, List.foldl_append]
  simp only [List.foldl_cons, List.foldl_nil]
  unfold hs at hc
  rw [if_pos hc]
theorem bstP_step {nL k j : Nat} {us l : List Int} (h : j < l.length) (hc : hs us (l.getD j 0) = false) : bstP G nL k us (l.take (j + 1)) = max (bstP G nL k us (l.take j)) (1 + bst G nL k (us ++ [l.getD j 0])) := by
  unfold bstP
  rw [take_next h, List.foldl_append]
  simp only [List.foldl_cons, List.foldl_nil]
  rw [if_neg (by unfold hs at hc; rw [hc]; decide)]
theorem bst_succ (nL k : Nat) (us : List Int) : bst G nL (k + 1) us = bstP G nL k us (G (nL - (k + 1))) := rfl

/-- The used ones: none at all, or a list in memory. -/
def UsOk (w : World) (A : Option Addr) (c : Nat) (us : List Int) : Prop := (A = none ∧ c = 0 ∧ us = []) ∨ (∃ q o, A = some ⟨q, o, none⟩ ∧ 0 < us.length ∧ RowI w A us)
theorem UsOk.row {w : World} {A : Option Addr} {c : Nat} {us : List Int} (h : UsOk w A c us) : RowI w A us := by
  rcases h with ⟨rfl, _, rfl⟩ | ⟨q, o, rfl, _, h⟩
  · exact RowI.nil _ _
  · exact h
theorem UsOk.below {w w' : World} {A : Option Addr} {c : Nat} {us : List Int} (h : UsOk w A c us) (hb : Below w.heap.size w w') : UsOk w' A c us := by
  rcases h with ⟨h1, h2, h3⟩ | ⟨q, o, h1, h2, h3⟩
  · exact .inl ⟨h1, h2, h3⟩
  · exact .inr ⟨q, o, h1, h2, h3.below hb⟩

theorem usok_of {w : World} {base g c : Nat} {us : List Int} {x : Int} (h : w.ownsRow base 3 1 (.slice (some ⟨g, 0, none⟩) (us.length + 1) c) (us.length + 1) (us.map (Value.int .i64) ++ [.int .i64 x])) : UsOk w (some ⟨g, 0, none⟩) c (us ++ [x]) := by
  refine .inr ⟨g, 0, rfl, by simp, ?_⟩
  rw [← ints_snoc] at h
  obtain ⟨A, c', e, hr⟩ := RowI.of_own h (by simp)
  injection e with e _ _
  subst e
  exact hr
set_option maxRecDepth 100000 in
set_option maxHeartbeats 6400000 in
theorem best_any (A : Option Addr) (nL cap : Nat) (R : Int) (hm : nL ≤ 1000) (hl : ∀ i, i < nL → (G i).length ≤ 1000) :
    ∀ (k : Nat) (us : List Int) (from_ : Nat) (UA : Option Addr) (uc : Nat) (w : World), k ≤ nL → from_ = nL - k → us.length + k ≤ 1000 → UsOk w UA uc us → GRow w A nL G →
    Calls Try.prog 30 #[.agg #[.slice A nL cap, .int .i64 R], .int .i64 (from_ : Int), .slice UA us.length uc] w (RetB (.int .i64 (bst G nL k us : Nat)) w)
  | 0, us, from_, UA, uc, w, hk, hf, _, hu, hG => by
    obtain rfl : from_ = nL := by omega
    have e : bst G from_ 0 us = 0 := rfl
    rw [e]
    clear e hu hG hf hl
    go_enter Try.func30, Try.ntmps30
    go_wp2_with fail
    go_ret
    exact RetB.of rfl (by repeat' (first | exact Below.refl _ _ | assumption | refine Below.xt ?_ ?_ _ | refine Below.alloc ?_ ?_ _ | refine Below.drew ?_ | refine Below.setCell ?_ ?_ _ | (simp; done) | (simp; omega)))
  | k + 1, us, from_, UA, uc, w, hk, hf, hlen, hu, hG => by
    have IH := Lib.hid (best_any A nL cap R hm hl k)
    obtain ⟨i0, hi0, hz0, hz1, hz2⟩ := info_parts infoInt
    have hlt : from_ < nL := by omega
    have HFr := Lib.hid (show from_ + 1 = nL - k from by omega)
    have d0 : ((from_ : Int) == (nL : Int)) = false := by rw [beq_eq_false_iff_ne]; omega
    have HGG := Lib.hid hG
    have HUU := Lib.hid hu
    have HLn := Lib.hid hl
    have hbs := bst_bd G nL k us
    have hpb := Lib.hid (bstP_bd G nL k us)
    have C1 := fun w h1 h2 => Lib.hid (IH.out us (from_ + 1) UA uc w (by omega) (by omega) (by omega) h1 h2)
    have HE := Lib.hid (bst_succ G nL k us)
    rw [show nL - (k + 1) = from_ by omega] at HE
    rw [HE.out]
    have hS := Lib.hid (show bstP G nL k us ((G from_).take 0) = bst G nL k us from rfl)
    obtain ⟨b0, hb0⟩ : ∃ b0, bst G nL k us = b0 := ⟨_, rfl⟩
    rw [hb0] at C1 hS hbs
    clear hu hG hl hf hb0
    go_enter Try.func30, Try.ntmps30
    go_wp2_with (go_at_call 30; refine (RetB.grown (C1 _ (HUU.out.below ((Below.refl _ _).alloc (Nat.le_refl _) _)) (HGG.out.alloc _)).out).mono ?_; rintro e' w' ⟨rfl, ga, rfl⟩)
    obtain ⟨W1, hW1, HB1, HU1, HG1, f0, f1, o0⟩ : ∃ W1, xt (w.alloc (.cells #[.slice A nL cap, .int .i64 R] 24)) ga = W1 ∧ Hid (Below w.heap.size w W1) ∧ Hid (UsOk W1 UA uc us) ∧ Hid (GRow W1 A nL G) ∧ W1.cell? ⟨w.heap.size, 0, none⟩ = some (.slice A nL cap) ∧ W1.cell? ⟨w.heap.size, 1, none⟩ = some (.int .i64 R) ∧ old w.heap.size W1 :=
      ⟨_, rfl, Lib.hid (by repeat' (first | exact Below.refl _ _ | assumption | refine Below.xt ?_ ?_ _ | refine Below.alloc ?_ ?_ _ | refine Below.drew ?_ | refine Below.setCell ?_ ?_ _ | (simp; done) | (simp; omega))), Lib.hid (HUU.out.below (by repeat' (first | exact Below.refl _ _ | assumption | refine Below.xt ?_ ?_ _ | refine Below.alloc ?_ ?_ _ | refine Below.drew ?_ | refine Below.setCell ?_ ?_ _ | (simp; done) | (simp; omega)))), Lib.hid ((HGG.out.alloc _).xt _), by go_simp, by go_simp, by unfold old; simp; omega⟩
    rw [hW1]
    clear hW1 HUU HGG C1
    have hsz : (G from_).length ≤ 1000 := HLn.out from_ hlt
    go_loopg [7, 8] ((G from_).length) (fun gk n j wr => ∃ (j0 b : Nat), j0 + gk = (G from_).length ∧ j = .int .i64 j0 ∧ n = .int .i64 b ∧ b ≤ k + 1 ∧ Hid (Below W1.heap.size W1 wr) ∧ Hid (bstP G nL k us ((G from_).take j0) = b))
    case atStart => exact ⟨0, b0, by omega, rfl, rfl, by omega, Lib.hid (Below.refl _ _), hS⟩
    case round =>
      clear hS
      obtain ⟨j0, b, hj, rfl, rfl, hb, HB, HP⟩ := hrel
      have e0 : wr.cell? ⟨w.heap.size, 0, none⟩ = some (.slice A nL cap) := (HB.out.cell (p := ⟨w.heap.size, 0, none⟩) o0).trans f0
      have e1 : wr.cell? ⟨w.heap.size, 1, none⟩ = some (.int .i64 R) := (HB.out.cell (p := ⟨w.heap.size, 1, none⟩) o0).trans f1
      have o1 : old w.heap.size wr := Nat.lt_of_lt_of_le o0 HB.out.size
      have HGr := Lib.hid (HG1.out.below HB.out)
      have HUr := Lib.hid (HU1.out.below HB.out)
      obtain ⟨gb, go, rfl, hgo, hgc⟩ := HGr.out.top (by omega)
      obtain ⟨Ai, ci, hgi, hrow⟩ := hgc from_ hlt
      by_cases hjl : j0 < (G from_).length
      · obtain ⟨qq, oo, rfl, hqq, hqc⟩ := hrow.at_ (by omega)
        have c1 := hqc j0 hjl
        have HSk := Lib.hid (bstP_skip (nL := nL) (k := k) (us := us) G hjl)
        have HSt := Lib.hid (bstP_step (nL := nL) (k := k) (us := us) G hjl)
        obtain ⟨x, hx⟩ : ∃ x, (G from_).getD j0 0 = x := ⟨_, rfl⟩
        rw [hx] at c1 HSk HSt
        have CH := Has_any UA us.length uc us x wr rfl (by omega) HUr.out.row
        clear hgc hrow hqc hx
        rcases Bool.eq_false_or_eq_true (hs us x) with h1 | h1
        · rw [h1] at CH
          have HCH := Lib.hid CH
          have HP2 := Lib.hid ((HSk.out h1).trans HP.out)
          clear CH h1 HSk HSt
          go_wp2_with (go_at_call 24; refine HCH.out.mono ?_; rintro e' w' ⟨rfl, rfl⟩)
          go_roundg (gk - 1)
          case measure => omega
          case rel => exact ⟨j0 + 1, b, by omega, by go_num, rfl, hb, HB, HP2⟩
        · rw [h1] at CH
          have HCH := Lib.hid CH
          have hst := HSt.out h1
          have hbb := bst_bd G nL k (us ++ [x])
          have C2 := fun g2 cap2 w h1 h2 => Lib.hid (show Calls Try.prog 30 #[.agg #[.slice (some ⟨gb, go, none⟩) nL cap, .int .i64 R], .int .i64 ((from_ : Int) + 1), .slice (some ⟨g2, 0, none⟩) (us.length + 1) cap2] w (RetB (.int .i64 (bst G nL k (us ++ [x]) : Nat)) w) by
            have := IH.out (us ++ [x]) (from_ + 1) (some ⟨g2, 0, none⟩) cap2 w (by omega) HFr.out (by simp; omega) h1 h2
            rw [show ((from_ + 1 : Nat) : Int) = (from_ : Int) + 1 by omega, List.length_append] at this
            exact this)
          rw [HP.out] at hst
          have hpl := hpb.out ((G from_).take (j0 + 1))
          rw [hst] at hpl
          have HP2 := Lib.hid hst
          generalize bst G nL k (us ++ [x]) = v at *
          clear CH h1 HSk HSt hst HP
          rcases HUr.out with ⟨rfl, rfl, rfl⟩ | ⟨q, o, rfl, hup, hur⟩
          · have C2' := fun g2 cap2 (w : World) (B : Nat) (h : w.ownsRow B 3 1 (.slice (some ⟨g2, 0, none⟩) 1 cap2) 1 [.int .i64 x]) h2 => Lib.hid (show Calls Try.prog 30 #[.agg #[.slice (some ⟨gb, go, none⟩) nL cap, .int .i64 R], .int .i64 ((from_ : Int) + 1), .slice (some ⟨g2, 0, none⟩) 1 cap2] w (RetB (.int .i64 (v : Int)) w) from (C2 g2 cap2 w (usok_of (us := []) h) h2).out)
            go_wp2_with (go_at_call 24; refine HCH.out.mono ?_; rintro e' w' ⟨rfl, rfl⟩)
            clear HCH
            have hw1 : IntKind.i64.wrap ((from_ : Int) + 1) = (from_ : Int) + 1 := IntWalk.i64_in _ (by omega)
            have hw2 : IntKind.i64.wrap (1 + (v : Int)) = 1 + (v : Int) := IntWalk.i64_in _ (by omega)
            go_region_held3 (fun w' => old w.heap.size w' ∧ w'.cell? ⟨w.heap.size, 0, none⟩ = some (.slice (some ⟨gb, go, none⟩) nL cap) ∧ w'.cell? ⟨w.heap.size, 1, none⟩ = some (.int .i64 R)) (go_simp) (first
              | (refine step_append_nil rfl _ _ 25 rfl 3 i0 Try.underlying25 hi0 rfl rfl ?_)
              | (refine step_append_lies _ rfl _ _ 25 rfl wr.heap.size 3 i0 _ 1 8 Try.underlying25 hi0 hz0 hz1 hz2 rfl (by omega) (.slice none 0 0) 0 [] rfl own_nil _ 1 _ [.int .i64 x] rfl rfl ?_ ?_ (by omega) (by simp only [maxLen]; omega) (by omega) ?_ _ rfl ?_; (next => (first | (refine cells_new _ _ _ _ ?_; simp; done) | (refine news_xt (cells_new _ _ _ _ ?_) ?_ _ <;> first | (simp; done) | (simp; omega)))); (next => (intro u hu; simp only [List.mem_cons, List.not_mem_nil, or_false] at hu; subst hu; rfl)); (next => (simp; done)); intro g2 cap2 w2 hown2 hgrow2 hat2 hlt2; simp only [Nat.zero_add, List.nil_append] at hown2 ⊢; obtain ⟨gB, rfl⟩ := xt_of_below (show Below wr.heap.size wr w2 from below_grown (e := 3) (s := 1) (n := 0) (v := .slice none 0 0) (xs := []) (by repeat' (first | exact Below.refl _ _ | assumption | refine Below.xt ?_ ?_ _ | refine Below.alloc ?_ ?_ _ | refine Below.drew ?_ | refine Below.setCell ?_ ?_ _ | (simp; done) | (simp; omega))) (by simp) own_nil hgrow2); have HO2 := Lib.hid hown2; clear hown2 hgrow2 hat2 hlt2)
              | (go_at_call 30; (with_reducible refine (RetB.grown (C2' _ _ _ _ HO2.out ((HGr.out.xt _))).out).mono ?_); rintro e' w' ⟨rfl, gC, rfl⟩))
            all_goals
              clear hw1 hw2
              by_cases hmx : b < 1 + v
              · have HP3 := Lib.hid (show bstP G nL k [] ((G from_).take (j0 + 1)) = 1 + v by rw [HP2.out]; omega)
                have dm : decide ((b : Int) < 1 + (v : Int)) = true := by simp; omega
                go_wp2_with fail
                go_roundg (gk - 1)
                case measure => omega
                case rel => exact ⟨j0 + 1, 1 + v, by omega, by go_num, by go_num, by omega, Lib.hid (show Below W1.heap.size W1 _ from HB.out.trans (by have hsz1 := HB.out.size; repeat' (first | exact Below.refl _ _ | assumption | refine Below.xt ?_ ?_ _ | refine Below.alloc ?_ ?_ _ | refine Below.drew ?_ | (simp; done) | (simp; omega)))), HP3⟩
              · have HP3 := Lib.hid (show bstP G nL k [] ((G from_).take (j0 + 1)) = b by rw [HP2.out]; omega)
                have dm : decide ((b : Int) < 1 + (v : Int)) = false := by simp; omega
                go_wp2_with fail
                go_roundg (gk - 1)
                case measure => omega
                case rel => exact ⟨j0 + 1, b, by omega, by go_num, rfl, by omega, Lib.hid (show Below W1.heap.size W1 _ from HB.out.trans (by have hsz1 := HB.out.size; repeat' (first | exact Below.refl _ _ | assumption | refine Below.xt ?_ ?_ _ | refine Below.alloc ?_ ?_ _ | refine Below.drew ?_ | (simp; done) | (simp; omega)))), HP3⟩
          · have HU := Lib.hid hur
            clear hur
            go_wp2_with (go_at_call 24; refine HCH.out.mono ?_; rintro e' w' ⟨rfl, rfl⟩)
            clear HCH
            have hw1 : IntKind.i64.wrap ((from_ : Int) + 1) = (from_ : Int) + 1 := IntWalk.i64_in _ (by omega)
            have hw2 : IntKind.i64.wrap (1 + (v : Int)) = 1 + (v : Int) := IntWalk.i64_in _ (by omega)
            go_region_held3 (fun w' => old w.heap.size w' ∧ w'.cell? ⟨w.heap.size, 0, none⟩ = some (.slice (some ⟨gb, go, none⟩) nL cap) ∧ w'.cell? ⟨w.heap.size, 1, none⟩ = some (.int .i64 R)) (go_simp) (first
              | (refine step_append_lies _ rfl _ _ 25 rfl wr.heap.size 3 i0 _ 1 8 Try.underlying25 hi0 hz0 hz1 hz2 rfl (by omega) (.slice none 0 0) 0 [] rfl own_nil ⟨q, o, none⟩ us.length uc (us.map (Value.int .i64)) rfl (by simp) ?_ (one_ints us) hup (by simp only [maxLen]; omega) (by omega) ?_ _ rfl ?_; (next => exact RowI.news (by repeat (first | (with_reducible exact HU.out) | (with_reducible refine RowI.xt ?_ _) | (with_reducible refine RowI.alloc ?_ _) | (with_reducible refine RowI.drew ?_)))); (next => (simp; done)); intro g1 cap1 w1 hown1 hgrow1 hat1 hlt1; simp only [Nat.zero_add, List.nil_append] at hown1 ⊢; obtain ⟨gA, rfl⟩ := xt_of_below (below_none hgrow1); (try simp only [xt_of_drew] at hown1); have HO1 := Lib.hid hown1; clear hown1 hgrow1 hat1 hlt1)
              | (refine step_append_lies _ rfl _ _ 25 rfl wr.heap.size 3 i0 _ 1 8 Try.underlying25 hi0 hz0 hz1 hz2 rfl (by omega) (.slice (some ⟨g1, 0, none⟩) us.length cap1) us.length (us.map (Value.int .i64)) rfl (by repeat (first | (with_reducible exact HO1.out) | (with_reducible exact own_drawn HO1.out _) | (with_reducible exact own_xtd HO1.out) | (with_reducible refine World.ownsRow.alloc ?_ _) | (with_reducible refine own_xt ?_ _) | (with_reducible refine own_drew ?_))) _ 1 _ [.int .i64 x] rfl rfl ?_ ?_ (by omega) (by simp only [maxLen]; omega) (by omega) ?_ _ rfl ?_; (next => (first | (refine cells_new _ _ _ _ ?_; simp; done) | (refine news_xt (cells_new _ _ _ _ ?_) ?_ _ <;> first | (simp; done) | (simp; omega)))); (next => (intro u hu; simp only [List.mem_cons, List.not_mem_nil, or_false] at hu; subst hu; rfl)); (next => (simp; omega)); intro g2 cap2 w2 hown2 hgrow2 hat2 hlt2; obtain ⟨gB, rfl⟩ := xt_of_below (show Below wr.heap.size wr w2 from below_grown (e := 3) (s := 1) (n := us.length) (v := .slice (some ⟨g1, 0, none⟩) us.length cap1) (xs := us.map (Value.int .i64)) (by repeat' (first | exact Below.refl _ _ | assumption | refine Below.xt ?_ ?_ _ | refine Below.alloc ?_ ?_ _ | refine Below.drew ?_ | refine Below.setCell ?_ ?_ _ | (simp; done) | (simp; omega))) (by simp; omega) (by repeat (first | (with_reducible exact HO1.out) | (with_reducible exact own_drawn HO1.out _) | (with_reducible exact own_xtd HO1.out) | (with_reducible refine World.ownsRow.alloc ?_ _) | (with_reducible refine own_xt ?_ _) | (with_reducible refine own_drew ?_))) hgrow2); have HO2 := Lib.hid hown2; clear hown2 hgrow2 hat2 hlt2)
              | (go_at_call 30; (with_reducible refine (RetB.grown (C2 _ _ _ (usok_of HO2.out) ((HGr.out.xt _))).out).mono ?_); rintro e' w' ⟨rfl, gC, rfl⟩))
            all_goals
              clear hw1 hw2
              by_cases hmx : b < 1 + v
              · have HP3 := Lib.hid (show bstP G nL k us ((G from_).take (j0 + 1)) = 1 + v by rw [HP2.out]; omega)
                have dm : decide ((b : Int) < 1 + (v : Int)) = true := by simp; omega
                go_wp2_with fail
                go_roundg (gk - 1)
                case measure => omega
                case rel => exact ⟨j0 + 1, 1 + v, by omega, by go_num, by go_num, by omega, Lib.hid (show Below W1.heap.size W1 _ from HB.out.trans (by have hsz1 := HB.out.size; repeat' (first | exact Below.refl _ _ | assumption | refine Below.xt ?_ ?_ _ | refine Below.alloc ?_ ?_ _ | refine Below.drew ?_ | (simp; done) | (simp; omega)))), HP3⟩
              · have HP3 := Lib.hid (show bstP G nL k us ((G from_).take (j0 + 1)) = b by rw [HP2.out]; omega)
                have dm : decide ((b : Int) < 1 + (v : Int)) = false := by simp; omega
                go_wp2_with fail
                go_roundg (gk - 1)
                case measure => omega
                case rel => exact ⟨j0 + 1, b, by omega, by go_num, rfl, by omega, Lib.hid (show Below W1.heap.size W1 _ from HB.out.trans (by have hsz1 := HB.out.size; repeat' (first | exact Below.refl _ _ | assumption | refine Below.xt ?_ ?_ _ | refine Below.alloc ?_ ?_ _ | refine Below.drew ?_ | (simp; done) | (simp; omega)))), HP3⟩
      · obtain rfl : j0 = (G from_).length := by omega
        have HP2 := Lib.hid (show bstP G nL k us (G from_) = b by have h := HP.out; rwa [List.take_length] at h)
        clear hgc hrow HP
        go_wp2_with fail
        go_ret
        exact RetB.of (by rw [HP2.out]; rfl) (Below.next' HB1.out HB.out HB1.out.size)
theorem refSize_any (A : Option Addr) (nL cap : Nat) (R : Int) (w : World) (hm : nL ≤ 900) (hl : ∀ i, i < nL → (G i).length ≤ 1000) (hG : GRow w A nL G) :
    Calls Try.prog 19 #[.agg #[.slice A nL cap, .int .i64 R]] w (RetB (.int .i64 (bst G nL nL [] : Nat)) w) := by
  have C := fun w h => Lib.hid (best_any G A nL cap R (by omega) hl nL [] 0 none 0 w (Nat.le_refl _) (by omega) (by simp; omega) (.inl ⟨rfl, rfl, rfl⟩) h)
  have HG := Lib.hid hG
  clear hl hG
  generalize bst G nL nL [] = v at *
  go_enter Try.func19, Try.ntmps19
  go_wp2_with (go_at_call 30; refine (RetB.grown (C _ (HG.out.alloc _)).out).mono ?_; rintro e' w' ⟨rfl, ga, rfl⟩)
  go_ret
  exact RetB.of rfl (by repeat' (first | exact Below.refl _ _ | assumption | refine Below.xt ?_ ?_ _ | refine Below.alloc ?_ ?_ _ | refine Below.drew ?_ | refine Below.setCell ?_ ?_ _ | (simp; done) | (simp; omega)))

end Go.Proofs.Ytkabknmhbjmmcaa

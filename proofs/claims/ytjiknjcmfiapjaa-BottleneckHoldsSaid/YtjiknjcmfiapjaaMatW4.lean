
/- Walk: the search as a whole. Conditions stand in each theorem. -/
import Derived.Test.YtjiknjcmfiapjaaMatW1
import Derived.Test.YtjiknjcmfiapjaaMatW2
import Derived.Test.YtjiknjcmfiapjaaMatW3
import Derived.Deep.DeepCutAuto
import Derived.Deep.RegionHeld3
namespace Go.Proofs.Ytjiknjcmfiapjaa
open Go.RowKit
set_option linter.unusedVariables false
set_option linter.unusedSimpArgs false

theorem Blk.drawn {W : World} {g : Gr} {B : Nat} {cs : Array Value} {t : TypeId} (h : Blk (Go.Proofs.Ytjiknjcmfiapjaa.xt W g) B cs t) (d : Nat) : Blk (Go.Proofs.Ytjiknjcmfiapjaa.xt W ⟨g.blocks, d⟩) B cs t := h
def RunS (w : World) (A : Option Addr) (cA nL R : Nat) (G : Nat → List Int) (v : Value) (wx : World) : Prop :=
  ∃ bS bM bB bV, v = .pointer (some ⟨bS, 0, none⟩) ∧ SMem w wx A cA nL R G bS bM bB bV ⟨fun _ => -1, fun _ => -1, fun _ => 0⟩

/-- The call returns the search at its end. -/
def RunP (w : World) (A : Option Addr) (cA nL R : Nat) (G : Nat → List Int) (t : St) (e : Ending) (wx : World) : Prop :=
  ∃ bS bM bB bV, e = .returned (.pointer (some ⟨bS, 0, none⟩)) ∧ SMem w wx A cA nL R G bS bM bB bV t
theorem runM_step {G : Nat → List Int} {nL f : Nat} {s t : St} (h : runM G nL (f + 1) s = some t) : ∃ V, (bfs G s.B nL (lv0 s.M) (q0 s.M nL) false = some (V, false) ∧ t = ⟨s.M, s.B, V⟩) ∨
    (bfs G s.B nL (lv0 s.M) (q0 s.M nL) false = some (V, true) ∧ ∃ u, phase G (nL + 1) (List.range nL) ⟨s.M, s.B, V⟩ = some u ∧ runM G nL f u = some t) := by
  rw [runM] at h
  cases hb : bfs G s.B nL (lv0 s.M) (q0 s.M nL) false with
  | none => rw [hb] at h; simp at h
  | some x =>
    obtain ⟨V, r⟩ := x
    rw [hb] at h
    cases r with
    | false => exact ⟨V, .inl ⟨rfl, by simpa using h.symm⟩⟩
    | true =>
      dsimp only at h
      cases hp : phase G (nL + 1) (List.range nL) ⟨s.M, s.B, V⟩ with
      | none => rw [hp] at h; simp at h
      | some u => rw [hp] at h; exact ⟨V, .inr ⟨rfl, u, hp, h⟩⟩
theorem visit_lv {B : Nat → Int} {nL i : Nat} (hB : ∀ n, B n < (nL : Int)) : ∀ (ns : List Int) (V : Nat → Int) (q : List Nat) (r : Bool), LvI nL V q → 0 ≤ V i → (∀ x ∈ q, 0 ≤ V x) →
    LvI nL (visit B i ns V q r).1 (visit B i ns V q r).2.1 ∧ ∀ x ∈ (visit B i ns V q r).2.1, 0 ≤ (visit B i ns V q r).1 x
  | [], V, q, r, h, hi, hq => ⟨h, hq⟩
  | n :: ns, V, q, r, h, hi, hq => by
    rw [visit]
    by_cases h1 : B n.toNat < 0
    · rw [if_pos h1]; exact visit_lv hB ns V q true h hi hq
    · rw [if_neg h1]
      by_cases h2 : V (B n.toNat).toNat < 0
      · rw [if_pos h2]
        have hlt : (B n.toNat).toNat < nL := by have := hB n.toNat; omega
        have hne : i ≠ (B n.toNat).toNat := fun e => by rw [← e] at h2; omega
        refine visit_lv hB ns _ _ r (h.push hlt hi h2) (by rw [up_ne hne]; exact hi) fun x hx => ?_
        by_cases e : x = (B n.toNat).toNat
        · rw [e, up_self]; omega
        · rw [up_ne e]
          rcases List.mem_append.1 hx with hx | hx
          · exact hq x hx
          · simp only [List.mem_cons, List.not_mem_nil, or_false] at hx; exact absurd hx e
      · rw [if_neg h2]; exact visit_lv hB ns V q r h hi hq
theorem bfs_lv {G : Nat → List Int} {B : Nat → Int} {nL : Nat} (hB : ∀ n, B n < (nL : Int)) : ∀ (f : Nat) (V : Nat → Int) (q : List Nat) (r : Bool) (V' : Nat → Int) (r' : Bool), LvI nL V q → (∀ x ∈ q, 0 ≤ V x) → bfs G B f V q r = some (V', r') → ∀ k, -1 ≤ V' k ∧ V' k ≤ (nL : Int)
  | f, V, [], r, V', r', h, _, e => by
    have e2 : V = V' := by cases f <;> simp [bfs] at e <;> exact e.1
    rw [← e2]
    exact fun k => ⟨h.low k, by have := h.high k; omega⟩
  | 0, V, i :: q, r, V', r', _, _, e => by simp [bfs] at e
  | f + 1, V, i :: q, r, V', r', h, hq, e => by
    rw [bfs] at e
    have H := visit_lv hB (G i) V q r h.pop (hq i (List.mem_cons_self ..)) fun x hx => hq x (List.mem_cons_of_mem _ hx)
    exact bfs_lv hB f _ _ _ V' r' H.1 H.2 e
theorem drop_range {n k : Nat} (h : k < n) : (List.range n).drop k = k :: (List.range n).drop (k + 1) := by
  rw [List.drop_eq_getElem_cons (by simpa using h)]; simp
theorem phase_step {G : Nat → List Int} {F i : Nat} {is : List Nat} {s u : St} (h : phase G F (i :: is) s = some u) (hM : s.M i < 0) : ∃ t b, aug G F s i = some (t, b) ∧ phase G F is t = some u := by
  rw [phase, if_pos hM] at h
  cases ha : aug G F s i with
  | none => rw [ha] at h; simp at h
  | some x => obtain ⟨t, b⟩ := x; rw [ha] at h; exact ⟨t, b, rfl, h⟩
theorem phase_skip {G : Nat → List Int} {F i : Nat} {is : List Nat} {s u : St} (h : phase G F (i :: is) s = some u) (hM : ¬ s.M i < 0) : phase G F is s = some u := by
  rw [phase, if_neg hM] at h; exact h
theorem lv0_q (M : Nat → Int) (n : Nat) : ∀ x ∈ q0 M n, 0 ≤ lv0 M x := fun x hx => by
  simp only [q0, List.mem_filter, decide_eq_true_eq] at hx
  rw [lv0, if_pos hx.2]; omega

set_option maxRecDepth 100000 in
set_option maxHeartbeats 3200000 in
theorem run_any (w : World) (A : Option Addr) (cA nL R : Nat) (G : Nat → List Int) (t : St) (hG : GRow w A nL G) (hF : Fit nL R G) (ht : runM G nL (nL + 1) ⟨fun _ => -1, fun _ => -1, fun _ => 0⟩ = some t) :
    Calls Try.prog 46 #[.agg #[.slice A nL cA, .int .i64 (R : Int)]] w (RunP w A cA nL R G t) := by
  have hL := hF.hL
  have hR := hF.hR
  have HG := Lib.hid hG
  have HF := Lib.hid hF
  have Ht := Lib.hid ht
  have hmk := fun W => mk_ints nL (by omega) W
  clear hG hF ht
  go_enter Try.func46, Try.ntmps46
  go_upto_region 1 with (fail)
  go_cut [3] from 5 to 43 (fun s3 wx => RunS w A cA nL R G s3 wx)
  case first =>
    go_region_held3 (fun w' => old w.heap.size w' ∧ w'.cell? ⟨w.heap.size, 0, none⟩ = some (.slice A nL cA) ∧ w'.cell? ⟨w.heap.size, 1, none⟩ = some (.int .i64 (R : Int))) (go_simp) (first
      | (go_at_call 44; (with_reducible refine (repeat_any _ nL (by omega) _ ?_ ?_).mono ?_); (next => (unfold old; simp <;> omega)); (next => go_simp); rintro e' w' ⟨bM, rfl, hleM, hbM, hkM⟩; obtain ⟨gM, rfl⟩ := xt_of_below hbM; (try simp only [xt_of_drew] at hkM); have HKM := Lib.hid hkM; have HLM := Lib.hid hleM; clear hbM hkM hleM)
      | (go_at_call 44; (with_reducible refine (repeat_any _ R (by omega) _ ?_ ?_).mono ?_); (next => (unfold old; simp <;> omega)); (next => go_simp); rintro e' w' ⟨bB, rfl, hleB, hbB, hkB⟩; obtain ⟨gB, rfl⟩ := xt_of_below hbB; (try simp only [xt_of_drew] at hkB); have HKB := Lib.hid hkB; have HLB := Lib.hid hleB; clear hbB hkB hleB))
    all_goals
      have hM1 := HLM.out
      have hM2 := HKM.out.lt
      have hB1 := HLB.out
      have hB2 := HKB.out.lt
      simp only [World.size_alloc, xt_size, World.size_drew] at hM1 hM2 hB1 hB2
      go_wp2_with fail
      go_meet
      refine ⟨_, _, _, _, rfl, ⟨(by repeat' (first | exact Below.refl _ _ | assumption | refine Below.xt ?_ ?_ _ | refine Below.alloc ?_ ?_ _ | refine Below.drew ?_ | refine Below.setCell ?_ ?_ _ | (simp; done) | (simp; omega))), ?_, ?_, ?_, ?_, ?_, ?_, ?_, ?_, ?_, ?_, Blk.new _ _ _ ?_, ?_, ?_, ?_, HG.out⟩⟩
      all_goals (first
        | omega
        | (simp; done)
        | (simp; omega)
        | ((try dsimp only); repeat (first | (with_reducible exact HKM.out) | (with_reducible exact HKB.out) | (with_reducible exact Blk.drawn HKM.out _) | (with_reducible exact Blk.drawn HKB.out _) | (with_reducible refine Blk.new _ _ _ ?_) | (with_reducible refine Blk.alloc ?_ _) | (with_reducible refine Blk.xt ?_ _) | (with_reducible refine Blk.drew ?_))
           all_goals (first | (simp; done) | (simp; omega))))
  case rest =>
    obtain ⟨bS, bM, bB, bV, rfl, hS⟩ := hcut
    have HS := Lib.hid hS
    have HBn := Lib.hid (show ∀ n, -1 ≤ (fun _ : Nat => (-1 : Int)) n ∧ (fun _ : Nat => (-1 : Int)) n < (nL : Int) from fun n => by dsimp only; omega)
    clear hS hmk
    go_wp2_with fail
    go_loopg [] (nL + 1) (fun gk wr => ∃ s, Hid (SMem w wr A cA nL R G bS bM bB bV s) ∧ Hid (∀ n, -1 ≤ s.B n ∧ s.B n < (nL : Int)) ∧ Hid (runM G nL gk s = some t))
    case atStart => exact ⟨_, HS, HBn, Ht⟩
    case round =>
      clear HS HBn Ht
      obtain ⟨s, HS, HBn, Ht⟩ := hrel
      obtain ⟨f, rfl⟩ : ∃ f, gk = f + 1 := by
        cases gk with
        | zero => have h := Ht.out; simp [runM] at h
        | succ f => exact ⟨f, rfl⟩
      obtain ⟨V, hst⟩ := runM_step Ht.out
      rcases hst with ⟨hb, ht⟩ | ⟨hb, u, hp, hr⟩
      · have C := fun W h => Lib.hid (levels_any w W A cA nL R G bS bM bB bV s h HF.out HBn.out V false hb)
        have HT := Lib.hid ht
        clear hb ht Ht
        go_wp2_with (go_at_call 56; refine (C _ HS.out).out.mono ?_; rintro e1 w1 ⟨rfl, hS1⟩)
        go_ret
        exact ⟨bS, bM, bB, bV, rfl, by rw [HT.out]; exact hS1⟩
      · have C := fun W h => Lib.hid (levels_any w W A cA nL R G bS bM bB bV s h HF.out HBn.out V true hb)
        have HV := Lib.hid (bfs_lv (G := G) (fun n => (HBn.out n).2) nL _ _ _ V true (LvI.start nL s.M) (lv0_q s.M nL) hb)
        have HB2 := Lib.hid (show Bnd nL ⟨s.M, s.B, V⟩ from ⟨HBn.out, fun k => by have := HV.out k; dsimp only; omega⟩)
        have HP := Lib.hid hp
        have HR := Lib.hid hr
        clear hb hp hr Ht HV
        go_wp2_with (go_at_call 56; refine (C _ HS.out).out.mono ?_; rintro e1 w1 ⟨rfl, hS1⟩; obtain ⟨c0, c2, c3, c4, o0, o1, o2, o3⟩ := hS1.f; have HS1 := Lib.hid hS1; clear hS1 HS C HBn)
        go_loopg [28] (nL) (fun gk i wr => ∃ (k : Nat) (v : St), k + gk = nL ∧ i = .int .i64 k ∧ Hid (SMem w wr A cA nL R G bS bM bB bV v) ∧ Hid (Bnd nL v) ∧ Hid (phase G (nL + 1) ((List.range nL).drop k) v = some u))
        case atStart => exact ⟨0, _, by omega, rfl, HS1, HB2, HP⟩
        case round =>
          clear HS1 HB2 HP c0 c2 c3 c4 o0 o1 o2 o3
          obtain ⟨k, v, hk, rfl, HS, HB, HP⟩ := hrel
          obtain ⟨c0, c2, c3, c4, o0, o1, o2, o3⟩ := HS.out.f
          by_cases hlt : k < nL
          · obtain ⟨m1, m2⟩ := HS.out.m hlt
            have HD := Lib.hid (drop_range hlt)
            by_cases hM : v.M k < 0
            · obtain ⟨v', b, ha, hp'⟩ := phase_step (by have h := HP.out; rw [HD.out] at h; exact h) hM
              have C := fun W h => Lib.hid (augment_any w A cA nL R G bS bM bB bV HF.out (nL + 1) W v k v' b hlt HB.out h ha)
              have HB' := Lib.hid (aug_bnd (nL + 1) v k v' b hlt HB.out ha)
              have HP' := Lib.hid hp'
              clear ha hp' HP HD
              go_wp2_with (go_at_call 57; refine (C _ HS.out).out.mono ?_; rintro e1 w1 ⟨rfl, hS1⟩; have HS1 := Lib.hid hS1; clear hS1 HS C)
              go_roundg (gk - 1)
              case measure => omega
              case rel => exact ⟨k + 1, v', by omega, by go_num, HS1, HB', HP'⟩
            · have HP' := Lib.hid (phase_skip (by have h := HP.out; rw [HD.out] at h; exact h) hM)
              clear HP HD
              go_wp2_with fail
              go_roundg (gk - 1)
              case measure => omega
              case rel => exact ⟨k + 1, v, by omega, by go_num, HS, HB, HP'⟩
          · obtain rfl : k = nL := by omega
            have HE := Lib.hid (show v = u by have h := HP.out; rw [List.drop_of_length_le (by simp), phase] at h; exact Option.some.inj h)
            clear HP
            go_wp2_with fail
            go_roundg f
            case measure => omega
            case rel => exact ⟨v, HS, Lib.hid HB.out.B, by rw [HE.out]; exact HR⟩

end Go.Proofs.Ytjiknjcmfiapjaa

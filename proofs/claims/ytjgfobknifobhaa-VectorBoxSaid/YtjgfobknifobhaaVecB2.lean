/- Walk: the smallest and the greatest parts of some vectors, by the reference. Conditions stand in each theorem. -/
import Derived.Test.YtjgfobknifobhaaVecB
import Derived.Test.YtjgfobknifobhaaHeldL
namespace Go.Proofs.Ytjgfobknifobhaa
open Go.RowKit
set_option linter.unusedVariables false
set_option linter.unusedSimpArgs false

theorem getD_skip (listed : Array Bool) {i j : Nat} (h : i ≠ j) : (listed.setIfInBounds i true).getD j false = listed.getD j false := by
  simp [h]
theorem not_yet {md : Region.Mode} {ops : Array Oper} {listed : Array Bool} {i j : Nat} (hw : Region.waitsFor md ops j i = true) (hcl : Closed md ops listed) (hun : listed.getD i true = false) : listed.getD j false = false := by
  obtain ⟨oj, hj, e, he, hb, hei⟩ := Region.waitsFor_spec hw
  cases hl : listed.getD j false
  · rfl
  · have h1 := hcl j oj hj hl e he hb
    rw [hei, getD_both hun] at h1
    cases h1

theorem lo_succ (f : V3 → Int) (l : List V3) (k : Nat) : lo f l (k + 1) = if f (at_ l k) < lo f l k then f (at_ l k) else lo f l k := by
  show min _ _ = _
  split <;> omega
theorem hi_succ (f : V3 → Int) (l : List V3) (k : Nat) : hi f l (k + 1) = if hi f l k < f (at_ l k) then f (at_ l k) else hi f l k := by
  show max _ _ = _
  split <;> omega
theorem wpOp_skip {P : Program} {ops : Array Oper} {Q : Exit → Act → World → Prop} {i : Nat} {o : Oper} {a : Act} {w w' : World} {K : Act → World → Prop} (hi : ops[i]? = some o) (hg : o.guard = none) (hd : o.dst = none)
    (hrun : (execOp a.eval o).run P w = .ok .skip w') (hK : K a w') : wpOp P ops Q i K a w := by
  have hw : Region.wanted o (yielded ops a.tmps) = true := by simp [Region.wanted, hg]
  unfold wpOp
  simp only [hi, hw, if_true, Oper.wp, hrun, Oper.upon, hd, Act.put]
  exact .inl hK
theorem wpAnyL_takeD {P : Program} {ops : Array Oper} {Q : Exit → Act → World → Prop} {md : Region.Mode} {SL : Array Bool → World → Prop} (i : Nat) (d : Option Tmp) {oi : Oper} (v : Value) (Si : World → Prop) {fuel : Nat} {listed : Array Bool} {a : Act} {w : World} (hi : ops[i]? = some oi) (hd : oi.dst = d)
    (hs : Region.noSelect ops = true) (hf : Region.free md ops listed i = true) (hr : (Region.ready md ops listed).contains i = true)
    (hQ : ∀ c a w, Q (.panic c) (a.put d v) w → Q (.panic c) a w) (hind : ∀ listed w, SL (listed.setIfInBounds i true) w ↔ SL listed w)
    (hcl : Closed md ops listed) (hS : SL listed w) (hSi : ∀ listed w, Closed md ops listed → listed.getD i true = false → SL listed w → Si w)
    (hy : YieldsIf P ops Si oi v a) (h : Closed md ops (listed.setIfInBounds i true) → SL (listed.setIfInBounds i true) w → wpAnyL P md ops Q SL fuel (listed.setIfInBounds i true) (a.put d v) w) : wpAnyL P md ops Q SL (fuel + 1) listed a w := by
  subst hd
  exact wpAnyL_take i v Si hi hs hf hr hQ hind hcl hS hSi hy h

set_option maxRecDepth 100000 in
set_option maxHeartbeats 40000000 in
theorem refBox_ok (b o n cap : Nat) (l : List V3) (w : World) (hn : n = l.length) (h0 : 0 < n) (hm : n ≤ 4294967296) (hr : Row3 w b o l) :
    Calls Try.prog 31 #[.slice (some ⟨b, o, none⟩) n cap] w (RetB (.tuple #[.agg #[.int .i64 (lo V3.x l n), .int .i64 (lo V3.y l n), .int .i64 (lo V3.z l n)], .agg #[.int .i64 (hi V3.x l n), .int .i64 (hi V3.y l n), .int .i64 (hi V3.z l n)]]) w) := by
  have HN := Lib.hid hn
  have HR := Lib.hid hr
  have hb := hr.old
  have x0 := hr.x 0 (by omega)
  have y0 := hr.y 0 (by omega)
  have z0 := hr.z 0 (by omega)
  simp only [Nat.zero_mul, Nat.add_zero] at x0 y0 z0
  clear hn hr
  go_enter Try.func31, Try.ntmps31
  go_wp2_with fail
  go_region
  all_goals clear x0 y0 z0
  · go_wp2_with fail
    go_loopw [6] (fun i wr => ∃ (k : Nat) (g : Gr), k ≤ n ∧ i = .int .i64 k ∧ wr = xt ((((w.alloc (.cells #[.int .i64 0, .int .i64 0, .int .i64 0] 23)).alloc (.cells #[.int .i64 0, .int .i64 0, .int .i64 0] 23)).alloc (.cells #[.int .i64 (lo V3.x l k), .int .i64 (lo V3.y l k), .int .i64 (lo V3.z l k)] 23)).alloc (.cells #[.int .i64 (hi V3.x l k), .int .i64 (hi V3.y l k), .int .i64 (hi V3.z l k)] 23)) g) (fun i _ => n - (intOf i).toNat)
    case atStart => exact ⟨0, ⟨[], _⟩, by omega, rfl, (xt_self _).symm⟩
    case round =>
      obtain ⟨k, g, hk, rfl, rfl⟩ := hrel
      by_cases hlt : k < n
      · have hx := HR.out.x k (HN.out ▸ hlt)
        have hy := HR.out.y k (HN.out ▸ hlt)
        have hz := HR.out.z k (HN.out ▸ hlt)
        obtain ⟨nx0, HN0⟩ : ∃ v, Hid ((if (at_ l k).x < lo V3.x l k then (at_ l k).x else lo V3.x l k) = v) := ⟨_, Lib.hid rfl⟩
        obtain ⟨nx1, HN1⟩ : ∃ v, Hid ((if (at_ l k).y < lo V3.y l k then (at_ l k).y else lo V3.y l k) = v) := ⟨_, Lib.hid rfl⟩
        obtain ⟨nx2, HN2⟩ : ∃ v, Hid ((if (at_ l k).z < lo V3.z l k then (at_ l k).z else lo V3.z l k) = v) := ⟨_, Lib.hid rfl⟩
        obtain ⟨mx0, HM0⟩ : ∃ v, Hid ((if hi V3.x l k < (at_ l k).x then (at_ l k).x else hi V3.x l k) = v) := ⟨_, Lib.hid rfl⟩
        obtain ⟨mx1, HM1⟩ : ∃ v, Hid ((if hi V3.y l k < (at_ l k).y then (at_ l k).y else hi V3.y l k) = v) := ⟨_, Lib.hid rfl⟩
        obtain ⟨mx2, HM2⟩ : ∃ v, Hid ((if hi V3.z l k < (at_ l k).z then (at_ l k).z else hi V3.z l k) = v) := ⟨_, Lib.hid rfl⟩
        go_wp2_with fail
        refine wp_region_L (fun listed w' => w' = xt ((((w.alloc (.cells #[.int .i64 0, .int .i64 0, .int .i64 0] 23)).alloc (.cells #[.int .i64 0, .int .i64 0, .int .i64 0] 23)).alloc (.cells #[.int .i64 (if listed.getD 25 false = true then nx0 else lo V3.x l k), .int .i64 (if listed.getD 27 false = true then nx1 else lo V3.y l k), .int .i64 (if listed.getD 29 false = true then nx2 else lo V3.z l k)] 23)).alloc (.cells #[.int .i64 (hi V3.x l k), .int .i64 (hi V3.y l k), .int .i64 (hi V3.z l k)] 23)) ⟨g.blocks, g.drawn + 1⟩) (by kernel_rfl) (fun hcl => ?_)
        have hS : xt ((((w.alloc (.cells #[.int .i64 0, .int .i64 0, .int .i64 0] 23)).alloc (.cells #[.int .i64 0, .int .i64 0, .int .i64 0] 23)).alloc (.cells #[.int .i64 (lo V3.x l k), .int .i64 (lo V3.y l k), .int .i64 (lo V3.z l k)] 23)).alloc (.cells #[.int .i64 (hi V3.x l k), .int .i64 (hi V3.y l k), .int .i64 (hi V3.z l k)] 23)) ⟨g.blocks, g.drawn + 1⟩ = xt ((((w.alloc (.cells #[.int .i64 0, .int .i64 0, .int .i64 0] 23)).alloc (.cells #[.int .i64 0, .int .i64 0, .int .i64 0] 23)).alloc (.cells #[.int .i64 (lo V3.x l k), .int .i64 (lo V3.y l k), .int .i64 (lo V3.z l k)] 23)).alloc (.cells #[.int .i64 (hi V3.x l k), .int .i64 (hi V3.y l k), .int .i64 (hi V3.z l k)] 23)) ⟨g.blocks, g.drawn + 1⟩ := rfl
        change wpAnyL _ _ _ _ _ 30 (Array.replicate 30 false) _ _
        refine wpAnyL_takeD 0 (some 19) (.pointer (some ⟨w.heap.size + 1 + 1, 0, none⟩)) (fun _ => True) rfl rfl (by kernel_rfl) (by kernel_rfl) (by kernel_rfl) (fun _ _ _ h => h) (fun listed w' => by simp only [getD_skip listed (show 0 ≠ 25 by decide), getD_skip listed (show 0 ≠ 27 by decide), getD_skip listed (show 0 ≠ 29 by decide)]) hcl hS (fun _ _ _ _ _ => trivial) (.inl ⟨rfl, fun w' hSi => ?_⟩) (fun hcl' hS' => ?_)
        · go_simp
        clear hcl hS
        have hcl := hcl'; have hS := hS'; clear hcl' hS'
        simp only [Act.put, List.setIfInBounds_toArray, List.set_cons_zero, List.set_cons_succ]
        refine wpAnyL_takeD 1 (some 20) (.int .i64 (lo V3.x l k)) (fun w' => w'.cell? ⟨w.heap.size + 1 + 1, 0, none⟩ = some (.int .i64 (lo V3.x l k))) rfl rfl (by kernel_rfl) (by kernel_rfl) (by kernel_rfl) (fun _ _ _ h => h) (fun listed w' => by simp only [getD_skip listed (show 1 ≠ 25 by decide), getD_skip listed (show 1 ≠ 27 by decide), getD_skip listed (show 1 ≠ 29 by decide)]) hcl hS (fun listed w' hcl hun hS => by have hz := not_yet (j := 25) (by kernel_rfl) hcl hun; rw [hS, hz]; go_simp) (.inl ⟨rfl, fun w' hSi => ?_⟩) (fun hcl' hS' => ?_)
        · go_simp
        clear hcl hS
        have hcl := hcl'; have hS := hS'; clear hcl' hS'
        simp only [Act.put, List.setIfInBounds_toArray, List.set_cons_zero, List.set_cons_succ]
        refine wpAnyL_takeD 2 (some 21) (.slice (some ⟨b, o, none⟩) n cap) (fun _ => True) rfl rfl (by kernel_rfl) (by kernel_rfl) (by kernel_rfl) (fun _ _ _ h => h) (fun listed w' => by simp only [getD_skip listed (show 2 ≠ 25 by decide), getD_skip listed (show 2 ≠ 27 by decide), getD_skip listed (show 2 ≠ 29 by decide)]) hcl hS (fun _ _ _ _ _ => trivial) (.inl ⟨rfl, fun w' hSi => ?_⟩) (fun hcl' hS' => ?_)
        · go_simp
        clear hcl hS
        have hcl := hcl'; have hS := hS'; clear hcl' hS'
        simp only [Act.put, List.setIfInBounds_toArray, List.set_cons_zero, List.set_cons_succ]
        refine wpAnyL_takeD 3 (some 22) (.int .i64 (k : Int)) (fun _ => True) rfl rfl (by kernel_rfl) (by kernel_rfl) (by kernel_rfl) (fun _ _ _ h => h) (fun listed w' => by simp only [getD_skip listed (show 3 ≠ 25 by decide), getD_skip listed (show 3 ≠ 27 by decide), getD_skip listed (show 3 ≠ 29 by decide)]) hcl hS (fun _ _ _ _ _ => trivial) (.inl ⟨rfl, fun w' hSi => ?_⟩) (fun hcl' hS' => ?_)
        · go_simp
        clear hcl hS
        have hcl := hcl'; have hS := hS'; clear hcl' hS'
        simp only [Act.put, List.setIfInBounds_toArray, List.set_cons_zero, List.set_cons_succ]
        refine wpAnyL_takeD 4 (some 23) (.pointer (some ⟨b, o + k * 3, none⟩)) (fun _ => True) rfl rfl (by kernel_rfl) (by kernel_rfl) (by kernel_rfl) (fun _ _ _ h => h) (fun listed w' => by simp only [getD_skip listed (show 4 ≠ 25 by decide), getD_skip listed (show 4 ≠ 27 by decide), getD_skip listed (show 4 ≠ 29 by decide)]) hcl hS (fun _ _ _ _ _ => trivial) (.inl ⟨rfl, fun w' hSi => ?_⟩) (fun hcl' hS' => ?_)
        · go_simp
        clear hcl hS
        have hcl := hcl'; have hS := hS'; clear hcl' hS'
        simp only [Act.put, List.setIfInBounds_toArray, List.set_cons_zero, List.set_cons_succ]
        refine wpAnyL_takeD 5 (some 24) (.pointer (some ⟨b, o + k * 3, none⟩)) (fun _ => True) rfl rfl (by kernel_rfl) (by kernel_rfl) (by kernel_rfl) (fun _ _ _ h => h) (fun listed w' => by simp only [getD_skip listed (show 5 ≠ 25 by decide), getD_skip listed (show 5 ≠ 27 by decide), getD_skip listed (show 5 ≠ 29 by decide)]) hcl hS (fun _ _ _ _ _ => trivial) (.inl ⟨rfl, fun w' hSi => ?_⟩) (fun hcl' hS' => ?_)
        · go_simp
        clear hcl hS
        have hcl := hcl'; have hS := hS'; clear hcl' hS'
        simp only [Act.put, List.setIfInBounds_toArray, List.set_cons_zero, List.set_cons_succ]
        refine wpAnyL_takeD 6 (some 25) (.int .i64 (at_ l k).x) (fun w' => w'.cell? ⟨b, o + k * 3, none⟩ = some (.int .i64 (at_ l k).x) ∧ w'.cell? ⟨b, o + k * 3 + 1, none⟩ = some (.int .i64 (at_ l k).y) ∧ w'.cell? ⟨b, o + k * 3 + 2, none⟩ = some (.int .i64 (at_ l k).z)) rfl rfl (by kernel_rfl) (by kernel_rfl) (by kernel_rfl) (fun _ _ _ h => h) (fun listed w' => by simp only [getD_skip listed (show 6 ≠ 25 by decide), getD_skip listed (show 6 ≠ 27 by decide), getD_skip listed (show 6 ≠ 29 by decide)]) hcl hS (fun listed w' _ _ hS => by rw [hS]; go_simp) (.inl ⟨rfl, fun w' hSi => ?_⟩) (fun hcl' hS' => ?_)
        · go_simp
        clear hcl hS
        have hcl := hcl'; have hS := hS'; clear hcl' hS'
        simp only [Act.put, List.setIfInBounds_toArray, List.set_cons_zero, List.set_cons_succ]
        refine wpAnyL_takeD 7 (some 26) (.int .i64 (nx0)) (fun _ => True) rfl rfl (by kernel_rfl) (by kernel_rfl) (by kernel_rfl) (fun _ _ _ h => h) (fun listed w' => by simp only [getD_skip listed (show 7 ≠ 25 by decide), getD_skip listed (show 7 ≠ 27 by decide), getD_skip listed (show 7 ≠ 29 by decide)]) hcl hS (fun _ _ _ _ _ => trivial) (.inl ⟨rfl, fun w' hSi => ?_⟩) (fun hcl' hS' => ?_)
        · go_simp; exact HN0.out
        clear hcl hS
        have hcl := hcl'; have hS := hS'; clear hcl' hS'
        simp only [Act.put, List.setIfInBounds_toArray, List.set_cons_zero, List.set_cons_succ]
        refine wpAnyL_takeD 8 (some 27) (.pointer (some ⟨w.heap.size + 1 + 1, 1, none⟩)) (fun _ => True) rfl rfl (by kernel_rfl) (by kernel_rfl) (by kernel_rfl) (fun _ _ _ h => h) (fun listed w' => by simp only [getD_skip listed (show 8 ≠ 25 by decide), getD_skip listed (show 8 ≠ 27 by decide), getD_skip listed (show 8 ≠ 29 by decide)]) hcl hS (fun _ _ _ _ _ => trivial) (.inl ⟨rfl, fun w' hSi => ?_⟩) (fun hcl' hS' => ?_)
        · go_simp
        clear hcl hS
        have hcl := hcl'; have hS := hS'; clear hcl' hS'
        simp only [Act.put, List.setIfInBounds_toArray, List.set_cons_zero, List.set_cons_succ]
        refine wpAnyL_takeD 9 (some 28) (.int .i64 (lo V3.y l k)) (fun w' => w'.cell? ⟨w.heap.size + 1 + 1, 1, none⟩ = some (.int .i64 (lo V3.y l k))) rfl rfl (by kernel_rfl) (by kernel_rfl) (by kernel_rfl) (fun _ _ _ h => h) (fun listed w' => by simp only [getD_skip listed (show 9 ≠ 25 by decide), getD_skip listed (show 9 ≠ 27 by decide), getD_skip listed (show 9 ≠ 29 by decide)]) hcl hS (fun listed w' hcl hun hS => by have hz := not_yet (j := 27) (by kernel_rfl) hcl hun; rw [hS, hz]; go_simp) (.inl ⟨rfl, fun w' hSi => ?_⟩) (fun hcl' hS' => ?_)
        · go_simp
        clear hcl hS
        have hcl := hcl'; have hS := hS'; clear hcl' hS'
        simp only [Act.put, List.setIfInBounds_toArray, List.set_cons_zero, List.set_cons_succ]
        refine wpAnyL_takeD 10 (some 29) (.slice (some ⟨b, o, none⟩) n cap) (fun _ => True) rfl rfl (by kernel_rfl) (by kernel_rfl) (by kernel_rfl) (fun _ _ _ h => h) (fun listed w' => by simp only [getD_skip listed (show 10 ≠ 25 by decide), getD_skip listed (show 10 ≠ 27 by decide), getD_skip listed (show 10 ≠ 29 by decide)]) hcl hS (fun _ _ _ _ _ => trivial) (.inl ⟨rfl, fun w' hSi => ?_⟩) (fun hcl' hS' => ?_)
        · go_simp
        clear hcl hS
        have hcl := hcl'; have hS := hS'; clear hcl' hS'
        simp only [Act.put, List.setIfInBounds_toArray, List.set_cons_zero, List.set_cons_succ]
        refine wpAnyL_takeD 11 (some 30) (.int .i64 (k : Int)) (fun _ => True) rfl rfl (by kernel_rfl) (by kernel_rfl) (by kernel_rfl) (fun _ _ _ h => h) (fun listed w' => by simp only [getD_skip listed (show 11 ≠ 25 by decide), getD_skip listed (show 11 ≠ 27 by decide), getD_skip listed (show 11 ≠ 29 by decide)]) hcl hS (fun _ _ _ _ _ => trivial) (.inl ⟨rfl, fun w' hSi => ?_⟩) (fun hcl' hS' => ?_)
        · go_simp
        clear hcl hS
        have hcl := hcl'; have hS := hS'; clear hcl' hS'
        simp only [Act.put, List.setIfInBounds_toArray, List.set_cons_zero, List.set_cons_succ]
        refine wpAnyL_takeD 12 (some 31) (.pointer (some ⟨b, o + k * 3, none⟩)) (fun _ => True) rfl rfl (by kernel_rfl) (by kernel_rfl) (by kernel_rfl) (fun _ _ _ h => h) (fun listed w' => by simp only [getD_skip listed (show 12 ≠ 25 by decide), getD_skip listed (show 12 ≠ 27 by decide), getD_skip listed (show 12 ≠ 29 by decide)]) hcl hS (fun _ _ _ _ _ => trivial) (.inl ⟨rfl, fun w' hSi => ?_⟩) (fun hcl' hS' => ?_)
        · go_simp
        clear hcl hS
        have hcl := hcl'; have hS := hS'; clear hcl' hS'
        simp only [Act.put, List.setIfInBounds_toArray, List.set_cons_zero, List.set_cons_succ]
        refine wpAnyL_takeD 13 (some 32) (.pointer (some ⟨b, o + k * 3 + 1, none⟩)) (fun _ => True) rfl rfl (by kernel_rfl) (by kernel_rfl) (by kernel_rfl) (fun _ _ _ h => h) (fun listed w' => by simp only [getD_skip listed (show 13 ≠ 25 by decide), getD_skip listed (show 13 ≠ 27 by decide), getD_skip listed (show 13 ≠ 29 by decide)]) hcl hS (fun _ _ _ _ _ => trivial) (.inl ⟨rfl, fun w' hSi => ?_⟩) (fun hcl' hS' => ?_)
        · go_simp
        clear hcl hS
        have hcl := hcl'; have hS := hS'; clear hcl' hS'
        simp only [Act.put, List.setIfInBounds_toArray, List.set_cons_zero, List.set_cons_succ]
        refine wpAnyL_takeD 14 (some 33) (.int .i64 (at_ l k).y) (fun w' => w'.cell? ⟨b, o + k * 3, none⟩ = some (.int .i64 (at_ l k).x) ∧ w'.cell? ⟨b, o + k * 3 + 1, none⟩ = some (.int .i64 (at_ l k).y) ∧ w'.cell? ⟨b, o + k * 3 + 2, none⟩ = some (.int .i64 (at_ l k).z)) rfl rfl (by kernel_rfl) (by kernel_rfl) (by kernel_rfl) (fun _ _ _ h => h) (fun listed w' => by simp only [getD_skip listed (show 14 ≠ 25 by decide), getD_skip listed (show 14 ≠ 27 by decide), getD_skip listed (show 14 ≠ 29 by decide)]) hcl hS (fun listed w' _ _ hS => by rw [hS]; go_simp) (.inl ⟨rfl, fun w' hSi => ?_⟩) (fun hcl' hS' => ?_)
        · go_simp
        clear hcl hS
        have hcl := hcl'; have hS := hS'; clear hcl' hS'
        simp only [Act.put, List.setIfInBounds_toArray, List.set_cons_zero, List.set_cons_succ]
        refine wpAnyL_takeD 15 (some 34) (.int .i64 (nx1)) (fun _ => True) rfl rfl (by kernel_rfl) (by kernel_rfl) (by kernel_rfl) (fun _ _ _ h => h) (fun listed w' => by simp only [getD_skip listed (show 15 ≠ 25 by decide), getD_skip listed (show 15 ≠ 27 by decide), getD_skip listed (show 15 ≠ 29 by decide)]) hcl hS (fun _ _ _ _ _ => trivial) (.inl ⟨rfl, fun w' hSi => ?_⟩) (fun hcl' hS' => ?_)
        · go_simp; exact HN1.out
        clear hcl hS
        have hcl := hcl'; have hS := hS'; clear hcl' hS'
        simp only [Act.put, List.setIfInBounds_toArray, List.set_cons_zero, List.set_cons_succ]
        refine wpAnyL_takeD 16 (some 35) (.pointer (some ⟨w.heap.size + 1 + 1, 2, none⟩)) (fun _ => True) rfl rfl (by kernel_rfl) (by kernel_rfl) (by kernel_rfl) (fun _ _ _ h => h) (fun listed w' => by simp only [getD_skip listed (show 16 ≠ 25 by decide), getD_skip listed (show 16 ≠ 27 by decide), getD_skip listed (show 16 ≠ 29 by decide)]) hcl hS (fun _ _ _ _ _ => trivial) (.inl ⟨rfl, fun w' hSi => ?_⟩) (fun hcl' hS' => ?_)
        · go_simp
        clear hcl hS
        have hcl := hcl'; have hS := hS'; clear hcl' hS'
        simp only [Act.put, List.setIfInBounds_toArray, List.set_cons_zero, List.set_cons_succ]
        refine wpAnyL_takeD 17 (some 36) (.int .i64 (lo V3.z l k)) (fun w' => w'.cell? ⟨w.heap.size + 1 + 1, 2, none⟩ = some (.int .i64 (lo V3.z l k))) rfl rfl (by kernel_rfl) (by kernel_rfl) (by kernel_rfl) (fun _ _ _ h => h) (fun listed w' => by simp only [getD_skip listed (show 17 ≠ 25 by decide), getD_skip listed (show 17 ≠ 27 by decide), getD_skip listed (show 17 ≠ 29 by decide)]) hcl hS (fun listed w' hcl hun hS => by have hz := not_yet (j := 29) (by kernel_rfl) hcl hun; rw [hS, hz]; go_simp) (.inl ⟨rfl, fun w' hSi => ?_⟩) (fun hcl' hS' => ?_)
        · go_simp
        clear hcl hS
        have hcl := hcl'; have hS := hS'; clear hcl' hS'
        simp only [Act.put, List.setIfInBounds_toArray, List.set_cons_zero, List.set_cons_succ]
        refine wpAnyL_takeD 18 (some 37) (.slice (some ⟨b, o, none⟩) n cap) (fun _ => True) rfl rfl (by kernel_rfl) (by kernel_rfl) (by kernel_rfl) (fun _ _ _ h => h) (fun listed w' => by simp only [getD_skip listed (show 18 ≠ 25 by decide), getD_skip listed (show 18 ≠ 27 by decide), getD_skip listed (show 18 ≠ 29 by decide)]) hcl hS (fun _ _ _ _ _ => trivial) (.inl ⟨rfl, fun w' hSi => ?_⟩) (fun hcl' hS' => ?_)
        · go_simp
        clear hcl hS
        have hcl := hcl'; have hS := hS'; clear hcl' hS'
        simp only [Act.put, List.setIfInBounds_toArray, List.set_cons_zero, List.set_cons_succ]
        refine wpAnyL_takeD 19 (some 38) (.int .i64 (k : Int)) (fun _ => True) rfl rfl (by kernel_rfl) (by kernel_rfl) (by kernel_rfl) (fun _ _ _ h => h) (fun listed w' => by simp only [getD_skip listed (show 19 ≠ 25 by decide), getD_skip listed (show 19 ≠ 27 by decide), getD_skip listed (show 19 ≠ 29 by decide)]) hcl hS (fun _ _ _ _ _ => trivial) (.inl ⟨rfl, fun w' hSi => ?_⟩) (fun hcl' hS' => ?_)
        · go_simp
        clear hcl hS
        have hcl := hcl'; have hS := hS'; clear hcl' hS'
        simp only [Act.put, List.setIfInBounds_toArray, List.set_cons_zero, List.set_cons_succ]
        refine wpAnyL_takeD 20 (some 39) (.pointer (some ⟨b, o + k * 3, none⟩)) (fun _ => True) rfl rfl (by kernel_rfl) (by kernel_rfl) (by kernel_rfl) (fun _ _ _ h => h) (fun listed w' => by simp only [getD_skip listed (show 20 ≠ 25 by decide), getD_skip listed (show 20 ≠ 27 by decide), getD_skip listed (show 20 ≠ 29 by decide)]) hcl hS (fun _ _ _ _ _ => trivial) (.inl ⟨rfl, fun w' hSi => ?_⟩) (fun hcl' hS' => ?_)
        · go_simp
        clear hcl hS
        have hcl := hcl'; have hS := hS'; clear hcl' hS'
        simp only [Act.put, List.setIfInBounds_toArray, List.set_cons_zero, List.set_cons_succ]
        refine wpAnyL_takeD 21 (some 40) (.pointer (some ⟨b, o + k * 3 + 2, none⟩)) (fun _ => True) rfl rfl (by kernel_rfl) (by kernel_rfl) (by kernel_rfl) (fun _ _ _ h => h) (fun listed w' => by simp only [getD_skip listed (show 21 ≠ 25 by decide), getD_skip listed (show 21 ≠ 27 by decide), getD_skip listed (show 21 ≠ 29 by decide)]) hcl hS (fun _ _ _ _ _ => trivial) (.inl ⟨rfl, fun w' hSi => ?_⟩) (fun hcl' hS' => ?_)
        · go_simp
        clear hcl hS
        have hcl := hcl'; have hS := hS'; clear hcl' hS'
        simp only [Act.put, List.setIfInBounds_toArray, List.set_cons_zero, List.set_cons_succ]
        refine wpAnyL_takeD 22 (some 41) (.int .i64 (at_ l k).z) (fun w' => w'.cell? ⟨b, o + k * 3, none⟩ = some (.int .i64 (at_ l k).x) ∧ w'.cell? ⟨b, o + k * 3 + 1, none⟩ = some (.int .i64 (at_ l k).y) ∧ w'.cell? ⟨b, o + k * 3 + 2, none⟩ = some (.int .i64 (at_ l k).z)) rfl rfl (by kernel_rfl) (by kernel_rfl) (by kernel_rfl) (fun _ _ _ h => h) (fun listed w' => by simp only [getD_skip listed (show 22 ≠ 25 by decide), getD_skip listed (show 22 ≠ 27 by decide), getD_skip listed (show 22 ≠ 29 by decide)]) hcl hS (fun listed w' _ _ hS => by rw [hS]; go_simp) (.inl ⟨rfl, fun w' hSi => ?_⟩) (fun hcl' hS' => ?_)
        · go_simp
        clear hcl hS
        have hcl := hcl'; have hS := hS'; clear hcl' hS'
        simp only [Act.put, List.setIfInBounds_toArray, List.set_cons_zero, List.set_cons_succ]
        refine wpAnyL_takeD 23 (some 42) (.int .i64 (nx2)) (fun _ => True) rfl rfl (by kernel_rfl) (by kernel_rfl) (by kernel_rfl) (fun _ _ _ h => h) (fun listed w' => by simp only [getD_skip listed (show 23 ≠ 25 by decide), getD_skip listed (show 23 ≠ 27 by decide), getD_skip listed (show 23 ≠ 29 by decide)]) hcl hS (fun _ _ _ _ _ => trivial) (.inl ⟨rfl, fun w' hSi => ?_⟩) (fun hcl' hS' => ?_)
        · go_simp; exact HN2.out
        clear hcl hS
        have hcl := hcl'; have hS := hS'; clear hcl' hS'
        simp only [Act.put, List.setIfInBounds_toArray, List.set_cons_zero, List.set_cons_succ]
        refine wpAnyL_takeD 24 (some 43) (.pointer (some ⟨w.heap.size + 1 + 1, 0, none⟩)) (fun _ => True) rfl rfl (by kernel_rfl) (by kernel_rfl) (by kernel_rfl) (fun _ _ _ h => h) (fun listed w' => by simp only [getD_skip listed (show 24 ≠ 25 by decide), getD_skip listed (show 24 ≠ 27 by decide), getD_skip listed (show 24 ≠ 29 by decide)]) hcl hS (fun _ _ _ _ _ => trivial) (.inl ⟨rfl, fun w' hSi => ?_⟩) (fun hcl' hS' => ?_)
        · go_simp
        clear hcl hS
        have hcl := hcl'; have hS := hS'; clear hcl' hS'
        simp only [Act.put, List.setIfInBounds_toArray, List.set_cons_zero, List.set_cons_succ]
        refine wpAnyL_one 25 (by kernel_rfl) hcl ?_
        refine wpOp_skip (w' := xt ((((w.alloc (.cells #[.int .i64 0, .int .i64 0, .int .i64 0] 23)).alloc (.cells #[.int .i64 0, .int .i64 0, .int .i64 0] 23)).alloc (.cells #[.int .i64 (nx0), .int .i64 (lo V3.y l k), .int .i64 (lo V3.z l k)] 23)).alloc (.cells #[.int .i64 (hi V3.x l k), .int .i64 (hi V3.y l k), .int .i64 (hi V3.z l k)] 23)) ⟨g.blocks, g.drawn + 1⟩) rfl rfl rfl ?_ ⟨by kernel_rfl, fun hcl' hS' => ?_⟩
        · go_simp
        clear hcl hS
        have hcl := hcl'; have hS := hS'; clear hcl' hS'
        refine wpAnyL_takeD 26 (some 44) (.pointer (some ⟨w.heap.size + 1 + 1, 1, none⟩)) (fun _ => True) rfl rfl (by kernel_rfl) (by kernel_rfl) (by kernel_rfl) (fun _ _ _ h => h) (fun listed w' => by simp only [getD_skip listed (show 26 ≠ 25 by decide), getD_skip listed (show 26 ≠ 27 by decide), getD_skip listed (show 26 ≠ 29 by decide)]) hcl hS (fun _ _ _ _ _ => trivial) (.inl ⟨rfl, fun w' hSi => ?_⟩) (fun hcl' hS' => ?_)
        · go_simp
        clear hcl hS
        have hcl := hcl'; have hS := hS'; clear hcl' hS'
        simp only [Act.put, List.setIfInBounds_toArray, List.set_cons_zero, List.set_cons_succ]
        refine wpAnyL_one 27 (by kernel_rfl) hcl ?_
        refine wpOp_skip (w' := xt ((((w.alloc (.cells #[.int .i64 0, .int .i64 0, .int .i64 0] 23)).alloc (.cells #[.int .i64 0, .int .i64 0, .int .i64 0] 23)).alloc (.cells #[.int .i64 (nx0), .int .i64 (nx1), .int .i64 (lo V3.z l k)] 23)).alloc (.cells #[.int .i64 (hi V3.x l k), .int .i64 (hi V3.y l k), .int .i64 (hi V3.z l k)] 23)) ⟨g.blocks, g.drawn + 1⟩) rfl rfl rfl ?_ ⟨by kernel_rfl, fun hcl' hS' => ?_⟩
        · go_simp
        clear hcl hS
        have hcl := hcl'; have hS := hS'; clear hcl' hS'
        refine wpAnyL_takeD 28 (some 45) (.pointer (some ⟨w.heap.size + 1 + 1, 2, none⟩)) (fun _ => True) rfl rfl (by kernel_rfl) (by kernel_rfl) (by kernel_rfl) (fun _ _ _ h => h) (fun listed w' => by simp only [getD_skip listed (show 28 ≠ 25 by decide), getD_skip listed (show 28 ≠ 27 by decide), getD_skip listed (show 28 ≠ 29 by decide)]) hcl hS (fun _ _ _ _ _ => trivial) (.inl ⟨rfl, fun w' hSi => ?_⟩) (fun hcl' hS' => ?_)
        · go_simp
        clear hcl hS
        have hcl := hcl'; have hS := hS'; clear hcl' hS'
        simp only [Act.put, List.setIfInBounds_toArray, List.set_cons_zero, List.set_cons_succ]
        refine wpAnyL_one 29 (by kernel_rfl) hcl ?_
        refine wpOp_skip (w' := xt ((((w.alloc (.cells #[.int .i64 0, .int .i64 0, .int .i64 0] 23)).alloc (.cells #[.int .i64 0, .int .i64 0, .int .i64 0] 23)).alloc (.cells #[.int .i64 (nx0), .int .i64 (nx1), .int .i64 (nx2)] 23)).alloc (.cells #[.int .i64 (hi V3.x l k), .int .i64 (hi V3.y l k), .int .i64 (hi V3.z l k)] 23)) ⟨g.blocks, g.drawn + 1⟩) rfl rfl rfl ?_ ⟨by kernel_rfl, fun hcl' hS' => ?_⟩
        · go_simp
        clear hcl hS
        have hcl := hcl'; have hS := hS'; clear hcl' hS'
        refine wpAnyL_done (by kernel_rfl) ?_ _
        clear hcl hS
        go_wp2_with fail
        refine wp_region_L (fun listed w' => w' = xt ((((w.alloc (.cells #[.int .i64 0, .int .i64 0, .int .i64 0] 23)).alloc (.cells #[.int .i64 0, .int .i64 0, .int .i64 0] 23)).alloc (.cells #[.int .i64 (nx0), .int .i64 (nx1), .int .i64 (nx2)] 23)).alloc (.cells #[.int .i64 (if listed.getD 25 false = true then mx0 else hi V3.x l k), .int .i64 (if listed.getD 27 false = true then mx1 else hi V3.y l k), .int .i64 (if listed.getD 29 false = true then mx2 else hi V3.z l k)] 23)) ⟨g.blocks, (g.drawn + 1) + 1⟩) (by kernel_rfl) (fun hcl => ?_)
        have hS : xt ((((w.alloc (.cells #[.int .i64 0, .int .i64 0, .int .i64 0] 23)).alloc (.cells #[.int .i64 0, .int .i64 0, .int .i64 0] 23)).alloc (.cells #[.int .i64 (nx0), .int .i64 (nx1), .int .i64 (nx2)] 23)).alloc (.cells #[.int .i64 (hi V3.x l k), .int .i64 (hi V3.y l k), .int .i64 (hi V3.z l k)] 23)) ⟨g.blocks, (g.drawn + 1) + 1⟩ = xt ((((w.alloc (.cells #[.int .i64 0, .int .i64 0, .int .i64 0] 23)).alloc (.cells #[.int .i64 0, .int .i64 0, .int .i64 0] 23)).alloc (.cells #[.int .i64 (nx0), .int .i64 (nx1), .int .i64 (nx2)] 23)).alloc (.cells #[.int .i64 (hi V3.x l k), .int .i64 (hi V3.y l k), .int .i64 (hi V3.z l k)] 23)) ⟨g.blocks, (g.drawn + 1) + 1⟩ := rfl
        change wpAnyL _ _ _ _ _ 30 (Array.replicate 30 false) _ _
        refine wpAnyL_takeD 0 (some 46) (.pointer (some ⟨w.heap.size + 1 + 1 + 1, 0, none⟩)) (fun _ => True) rfl rfl (by kernel_rfl) (by kernel_rfl) (by kernel_rfl) (fun _ _ _ h => h) (fun listed w' => by simp only [getD_skip listed (show 0 ≠ 25 by decide), getD_skip listed (show 0 ≠ 27 by decide), getD_skip listed (show 0 ≠ 29 by decide)]) hcl hS (fun _ _ _ _ _ => trivial) (.inl ⟨rfl, fun w' hSi => ?_⟩) (fun hcl' hS' => ?_)
        · go_simp
        clear hcl hS
        have hcl := hcl'; have hS := hS'; clear hcl' hS'
        simp only [Act.put, List.setIfInBounds_toArray, List.set_cons_zero, List.set_cons_succ]
        refine wpAnyL_takeD 1 (some 47) (.int .i64 (hi V3.x l k)) (fun w' => w'.cell? ⟨w.heap.size + 1 + 1 + 1, 0, none⟩ = some (.int .i64 (hi V3.x l k))) rfl rfl (by kernel_rfl) (by kernel_rfl) (by kernel_rfl) (fun _ _ _ h => h) (fun listed w' => by simp only [getD_skip listed (show 1 ≠ 25 by decide), getD_skip listed (show 1 ≠ 27 by decide), getD_skip listed (show 1 ≠ 29 by decide)]) hcl hS (fun listed w' hcl hun hS => by have hz := not_yet (j := 25) (by kernel_rfl) hcl hun; rw [hS, hz]; go_simp) (.inl ⟨rfl, fun w' hSi => ?_⟩) (fun hcl' hS' => ?_)
        · go_simp
        clear hcl hS
        have hcl := hcl'; have hS := hS'; clear hcl' hS'
        simp only [Act.put, List.setIfInBounds_toArray, List.set_cons_zero, List.set_cons_succ]
        refine wpAnyL_takeD 2 (some 48) (.slice (some ⟨b, o, none⟩) n cap) (fun _ => True) rfl rfl (by kernel_rfl) (by kernel_rfl) (by kernel_rfl) (fun _ _ _ h => h) (fun listed w' => by simp only [getD_skip listed (show 2 ≠ 25 by decide), getD_skip listed (show 2 ≠ 27 by decide), getD_skip listed (show 2 ≠ 29 by decide)]) hcl hS (fun _ _ _ _ _ => trivial) (.inl ⟨rfl, fun w' hSi => ?_⟩) (fun hcl' hS' => ?_)
        · go_simp
        clear hcl hS
        have hcl := hcl'; have hS := hS'; clear hcl' hS'
        simp only [Act.put, List.setIfInBounds_toArray, List.set_cons_zero, List.set_cons_succ]
        refine wpAnyL_takeD 3 (some 49) (.int .i64 (k : Int)) (fun _ => True) rfl rfl (by kernel_rfl) (by kernel_rfl) (by kernel_rfl) (fun _ _ _ h => h) (fun listed w' => by simp only [getD_skip listed (show 3 ≠ 25 by decide), getD_skip listed (show 3 ≠ 27 by decide), getD_skip listed (show 3 ≠ 29 by decide)]) hcl hS (fun _ _ _ _ _ => trivial) (.inl ⟨rfl, fun w' hSi => ?_⟩) (fun hcl' hS' => ?_)
        · go_simp
        clear hcl hS
        have hcl := hcl'; have hS := hS'; clear hcl' hS'
        simp only [Act.put, List.setIfInBounds_toArray, List.set_cons_zero, List.set_cons_succ]
        refine wpAnyL_takeD 4 (some 50) (.pointer (some ⟨b, o + k * 3, none⟩)) (fun _ => True) rfl rfl (by kernel_rfl) (by kernel_rfl) (by kernel_rfl) (fun _ _ _ h => h) (fun listed w' => by simp only [getD_skip listed (show 4 ≠ 25 by decide), getD_skip listed (show 4 ≠ 27 by decide), getD_skip listed (show 4 ≠ 29 by decide)]) hcl hS (fun _ _ _ _ _ => trivial) (.inl ⟨rfl, fun w' hSi => ?_⟩) (fun hcl' hS' => ?_)
        · go_simp
        clear hcl hS
        have hcl := hcl'; have hS := hS'; clear hcl' hS'
        simp only [Act.put, List.setIfInBounds_toArray, List.set_cons_zero, List.set_cons_succ]
        refine wpAnyL_takeD 5 (some 51) (.pointer (some ⟨b, o + k * 3, none⟩)) (fun _ => True) rfl rfl (by kernel_rfl) (by kernel_rfl) (by kernel_rfl) (fun _ _ _ h => h) (fun listed w' => by simp only [getD_skip listed (show 5 ≠ 25 by decide), getD_skip listed (show 5 ≠ 27 by decide), getD_skip listed (show 5 ≠ 29 by decide)]) hcl hS (fun _ _ _ _ _ => trivial) (.inl ⟨rfl, fun w' hSi => ?_⟩) (fun hcl' hS' => ?_)
        · go_simp
        clear hcl hS
        have hcl := hcl'; have hS := hS'; clear hcl' hS'
        simp only [Act.put, List.setIfInBounds_toArray, List.set_cons_zero, List.set_cons_succ]
        refine wpAnyL_takeD 6 (some 52) (.int .i64 (at_ l k).x) (fun w' => w'.cell? ⟨b, o + k * 3, none⟩ = some (.int .i64 (at_ l k).x) ∧ w'.cell? ⟨b, o + k * 3 + 1, none⟩ = some (.int .i64 (at_ l k).y) ∧ w'.cell? ⟨b, o + k * 3 + 2, none⟩ = some (.int .i64 (at_ l k).z)) rfl rfl (by kernel_rfl) (by kernel_rfl) (by kernel_rfl) (fun _ _ _ h => h) (fun listed w' => by simp only [getD_skip listed (show 6 ≠ 25 by decide), getD_skip listed (show 6 ≠ 27 by decide), getD_skip listed (show 6 ≠ 29 by decide)]) hcl hS (fun listed w' _ _ hS => by rw [hS]; go_simp) (.inl ⟨rfl, fun w' hSi => ?_⟩) (fun hcl' hS' => ?_)
        · go_simp
        clear hcl hS
        have hcl := hcl'; have hS := hS'; clear hcl' hS'
        simp only [Act.put, List.setIfInBounds_toArray, List.set_cons_zero, List.set_cons_succ]
        refine wpAnyL_takeD 7 (some 53) (.int .i64 (mx0)) (fun _ => True) rfl rfl (by kernel_rfl) (by kernel_rfl) (by kernel_rfl) (fun _ _ _ h => h) (fun listed w' => by simp only [getD_skip listed (show 7 ≠ 25 by decide), getD_skip listed (show 7 ≠ 27 by decide), getD_skip listed (show 7 ≠ 29 by decide)]) hcl hS (fun _ _ _ _ _ => trivial) (.inl ⟨rfl, fun w' hSi => ?_⟩) (fun hcl' hS' => ?_)
        · go_simp; exact HM0.out
        clear hcl hS
        have hcl := hcl'; have hS := hS'; clear hcl' hS'
        simp only [Act.put, List.setIfInBounds_toArray, List.set_cons_zero, List.set_cons_succ]
        refine wpAnyL_takeD 8 (some 54) (.pointer (some ⟨w.heap.size + 1 + 1 + 1, 1, none⟩)) (fun _ => True) rfl rfl (by kernel_rfl) (by kernel_rfl) (by kernel_rfl) (fun _ _ _ h => h) (fun listed w' => by simp only [getD_skip listed (show 8 ≠ 25 by decide), getD_skip listed (show 8 ≠ 27 by decide), getD_skip listed (show 8 ≠ 29 by decide)]) hcl hS (fun _ _ _ _ _ => trivial) (.inl ⟨rfl, fun w' hSi => ?_⟩) (fun hcl' hS' => ?_)
        · go_simp
        clear hcl hS
        have hcl := hcl'; have hS := hS'; clear hcl' hS'
        simp only [Act.put, List.setIfInBounds_toArray, List.set_cons_zero, List.set_cons_succ]
        refine wpAnyL_takeD 9 (some 55) (.int .i64 (hi V3.y l k)) (fun w' => w'.cell? ⟨w.heap.size + 1 + 1 + 1, 1, none⟩ = some (.int .i64 (hi V3.y l k))) rfl rfl (by kernel_rfl) (by kernel_rfl) (by kernel_rfl) (fun _ _ _ h => h) (fun listed w' => by simp only [getD_skip listed (show 9 ≠ 25 by decide), getD_skip listed (show 9 ≠ 27 by decide), getD_skip listed (show 9 ≠ 29 by decide)]) hcl hS (fun listed w' hcl hun hS => by have hz := not_yet (j := 27) (by kernel_rfl) hcl hun; rw [hS, hz]; go_simp) (.inl ⟨rfl, fun w' hSi => ?_⟩) (fun hcl' hS' => ?_)
        · go_simp
        clear hcl hS
        have hcl := hcl'; have hS := hS'; clear hcl' hS'
        simp only [Act.put, List.setIfInBounds_toArray, List.set_cons_zero, List.set_cons_succ]
        refine wpAnyL_takeD 10 (some 56) (.slice (some ⟨b, o, none⟩) n cap) (fun _ => True) rfl rfl (by kernel_rfl) (by kernel_rfl) (by kernel_rfl) (fun _ _ _ h => h) (fun listed w' => by simp only [getD_skip listed (show 10 ≠ 25 by decide), getD_skip listed (show 10 ≠ 27 by decide), getD_skip listed (show 10 ≠ 29 by decide)]) hcl hS (fun _ _ _ _ _ => trivial) (.inl ⟨rfl, fun w' hSi => ?_⟩) (fun hcl' hS' => ?_)
        · go_simp
        clear hcl hS
        have hcl := hcl'; have hS := hS'; clear hcl' hS'
        simp only [Act.put, List.setIfInBounds_toArray, List.set_cons_zero, List.set_cons_succ]
        refine wpAnyL_takeD 11 (some 57) (.int .i64 (k : Int)) (fun _ => True) rfl rfl (by kernel_rfl) (by kernel_rfl) (by kernel_rfl) (fun _ _ _ h => h) (fun listed w' => by simp only [getD_skip listed (show 11 ≠ 25 by decide), getD_skip listed (show 11 ≠ 27 by decide), getD_skip listed (show 11 ≠ 29 by decide)]) hcl hS (fun _ _ _ _ _ => trivial) (.inl ⟨rfl, fun w' hSi => ?_⟩) (fun hcl' hS' => ?_)
        · go_simp
        clear hcl hS
        have hcl := hcl'; have hS := hS'; clear hcl' hS'
        simp only [Act.put, List.setIfInBounds_toArray, List.set_cons_zero, List.set_cons_succ]
        refine wpAnyL_takeD 12 (some 58) (.pointer (some ⟨b, o + k * 3, none⟩)) (fun _ => True) rfl rfl (by kernel_rfl) (by kernel_rfl) (by kernel_rfl) (fun _ _ _ h => h) (fun listed w' => by simp only [getD_skip listed (show 12 ≠ 25 by decide), getD_skip listed (show 12 ≠ 27 by decide), getD_skip listed (show 12 ≠ 29 by decide)]) hcl hS (fun _ _ _ _ _ => trivial) (.inl ⟨rfl, fun w' hSi => ?_⟩) (fun hcl' hS' => ?_)
        · go_simp
        clear hcl hS
        have hcl := hcl'; have hS := hS'; clear hcl' hS'
        simp only [Act.put, List.setIfInBounds_toArray, List.set_cons_zero, List.set_cons_succ]
        refine wpAnyL_takeD 13 (some 59) (.pointer (some ⟨b, o + k * 3 + 1, none⟩)) (fun _ => True) rfl rfl (by kernel_rfl) (by kernel_rfl) (by kernel_rfl) (fun _ _ _ h => h) (fun listed w' => by simp only [getD_skip listed (show 13 ≠ 25 by decide), getD_skip listed (show 13 ≠ 27 by decide), getD_skip listed (show 13 ≠ 29 by decide)]) hcl hS (fun _ _ _ _ _ => trivial) (.inl ⟨rfl, fun w' hSi => ?_⟩) (fun hcl' hS' => ?_)
        · go_simp
        clear hcl hS
        have hcl := hcl'; have hS := hS'; clear hcl' hS'
        simp only [Act.put, List.setIfInBounds_toArray, List.set_cons_zero, List.set_cons_succ]
        refine wpAnyL_takeD 14 (some 60) (.int .i64 (at_ l k).y) (fun w' => w'.cell? ⟨b, o + k * 3, none⟩ = some (.int .i64 (at_ l k).x) ∧ w'.cell? ⟨b, o + k * 3 + 1, none⟩ = some (.int .i64 (at_ l k).y) ∧ w'.cell? ⟨b, o + k * 3 + 2, none⟩ = some (.int .i64 (at_ l k).z)) rfl rfl (by kernel_rfl) (by kernel_rfl) (by kernel_rfl) (fun _ _ _ h => h) (fun listed w' => by simp only [getD_skip listed (show 14 ≠ 25 by decide), getD_skip listed (show 14 ≠ 27 by decide), getD_skip listed (show 14 ≠ 29 by decide)]) hcl hS (fun listed w' _ _ hS => by rw [hS]; go_simp) (.inl ⟨rfl, fun w' hSi => ?_⟩) (fun hcl' hS' => ?_)
        · go_simp
        clear hcl hS
        have hcl := hcl'; have hS := hS'; clear hcl' hS'
        simp only [Act.put, List.setIfInBounds_toArray, List.set_cons_zero, List.set_cons_succ]
        refine wpAnyL_takeD 15 (some 61) (.int .i64 (mx1)) (fun _ => True) rfl rfl (by kernel_rfl) (by kernel_rfl) (by kernel_rfl) (fun _ _ _ h => h) (fun listed w' => by simp only [getD_skip listed (show 15 ≠ 25 by decide), getD_skip listed (show 15 ≠ 27 by decide), getD_skip listed (show 15 ≠ 29 by decide)]) hcl hS (fun _ _ _ _ _ => trivial) (.inl ⟨rfl, fun w' hSi => ?_⟩) (fun hcl' hS' => ?_)
        · go_simp; exact HM1.out
        clear hcl hS
        have hcl := hcl'; have hS := hS'; clear hcl' hS'
        simp only [Act.put, List.setIfInBounds_toArray, List.set_cons_zero, List.set_cons_succ]
        refine wpAnyL_takeD 16 (some 62) (.pointer (some ⟨w.heap.size + 1 + 1 + 1, 2, none⟩)) (fun _ => True) rfl rfl (by kernel_rfl) (by kernel_rfl) (by kernel_rfl) (fun _ _ _ h => h) (fun listed w' => by simp only [getD_skip listed (show 16 ≠ 25 by decide), getD_skip listed (show 16 ≠ 27 by decide), getD_skip listed (show 16 ≠ 29 by decide)]) hcl hS (fun _ _ _ _ _ => trivial) (.inl ⟨rfl, fun w' hSi => ?_⟩) (fun hcl' hS' => ?_)
        · go_simp
        clear hcl hS
        have hcl := hcl'; have hS := hS'; clear hcl' hS'
        simp only [Act.put, List.setIfInBounds_toArray, List.set_cons_zero, List.set_cons_succ]
        refine wpAnyL_takeD 17 (some 63) (.int .i64 (hi V3.z l k)) (fun w' => w'.cell? ⟨w.heap.size + 1 + 1 + 1, 2, none⟩ = some (.int .i64 (hi V3.z l k))) rfl rfl (by kernel_rfl) (by kernel_rfl) (by kernel_rfl) (fun _ _ _ h => h) (fun listed w' => by simp only [getD_skip listed (show 17 ≠ 25 by decide), getD_skip listed (show 17 ≠ 27 by decide), getD_skip listed (show 17 ≠ 29 by decide)]) hcl hS (fun listed w' hcl hun hS => by have hz := not_yet (j := 29) (by kernel_rfl) hcl hun; rw [hS, hz]; go_simp) (.inl ⟨rfl, fun w' hSi => ?_⟩) (fun hcl' hS' => ?_)
        · go_simp
        clear hcl hS
        have hcl := hcl'; have hS := hS'; clear hcl' hS'
        simp only [Act.put, List.setIfInBounds_toArray, List.set_cons_zero, List.set_cons_succ]
        refine wpAnyL_takeD 18 (some 64) (.slice (some ⟨b, o, none⟩) n cap) (fun _ => True) rfl rfl (by kernel_rfl) (by kernel_rfl) (by kernel_rfl) (fun _ _ _ h => h) (fun listed w' => by simp only [getD_skip listed (show 18 ≠ 25 by decide), getD_skip listed (show 18 ≠ 27 by decide), getD_skip listed (show 18 ≠ 29 by decide)]) hcl hS (fun _ _ _ _ _ => trivial) (.inl ⟨rfl, fun w' hSi => ?_⟩) (fun hcl' hS' => ?_)
        · go_simp
        clear hcl hS
        have hcl := hcl'; have hS := hS'; clear hcl' hS'
        simp only [Act.put, List.setIfInBounds_toArray, List.set_cons_zero, List.set_cons_succ]
        refine wpAnyL_takeD 19 (some 65) (.int .i64 (k : Int)) (fun _ => True) rfl rfl (by kernel_rfl) (by kernel_rfl) (by kernel_rfl) (fun _ _ _ h => h) (fun listed w' => by simp only [getD_skip listed (show 19 ≠ 25 by decide), getD_skip listed (show 19 ≠ 27 by decide), getD_skip listed (show 19 ≠ 29 by decide)]) hcl hS (fun _ _ _ _ _ => trivial) (.inl ⟨rfl, fun w' hSi => ?_⟩) (fun hcl' hS' => ?_)
        · go_simp
        clear hcl hS
        have hcl := hcl'; have hS := hS'; clear hcl' hS'
        simp only [Act.put, List.setIfInBounds_toArray, List.set_cons_zero, List.set_cons_succ]
        refine wpAnyL_takeD 20 (some 66) (.pointer (some ⟨b, o + k * 3, none⟩)) (fun _ => True) rfl rfl (by kernel_rfl) (by kernel_rfl) (by kernel_rfl) (fun _ _ _ h => h) (fun listed w' => by simp only [getD_skip listed (show 20 ≠ 25 by decide), getD_skip listed (show 20 ≠ 27 by decide), getD_skip listed (show 20 ≠ 29 by decide)]) hcl hS (fun _ _ _ _ _ => trivial) (.inl ⟨rfl, fun w' hSi => ?_⟩) (fun hcl' hS' => ?_)
        · go_simp
        clear hcl hS
        have hcl := hcl'; have hS := hS'; clear hcl' hS'
        simp only [Act.put, List.setIfInBounds_toArray, List.set_cons_zero, List.set_cons_succ]
        refine wpAnyL_takeD 21 (some 67) (.pointer (some ⟨b, o + k * 3 + 2, none⟩)) (fun _ => True) rfl rfl (by kernel_rfl) (by kernel_rfl) (by kernel_rfl) (fun _ _ _ h => h) (fun listed w' => by simp only [getD_skip listed (show 21 ≠ 25 by decide), getD_skip listed (show 21 ≠ 27 by decide), getD_skip listed (show 21 ≠ 29 by decide)]) hcl hS (fun _ _ _ _ _ => trivial) (.inl ⟨rfl, fun w' hSi => ?_⟩) (fun hcl' hS' => ?_)
        · go_simp
        clear hcl hS
        have hcl := hcl'; have hS := hS'; clear hcl' hS'
        simp only [Act.put, List.setIfInBounds_toArray, List.set_cons_zero, List.set_cons_succ]
        refine wpAnyL_takeD 22 (some 68) (.int .i64 (at_ l k).z) (fun w' => w'.cell? ⟨b, o + k * 3, none⟩ = some (.int .i64 (at_ l k).x) ∧ w'.cell? ⟨b, o + k * 3 + 1, none⟩ = some (.int .i64 (at_ l k).y) ∧ w'.cell? ⟨b, o + k * 3 + 2, none⟩ = some (.int .i64 (at_ l k).z)) rfl rfl (by kernel_rfl) (by kernel_rfl) (by kernel_rfl) (fun _ _ _ h => h) (fun listed w' => by simp only [getD_skip listed (show 22 ≠ 25 by decide), getD_skip listed (show 22 ≠ 27 by decide), getD_skip listed (show 22 ≠ 29 by decide)]) hcl hS (fun listed w' _ _ hS => by rw [hS]; go_simp) (.inl ⟨rfl, fun w' hSi => ?_⟩) (fun hcl' hS' => ?_)
        · go_simp
        clear hcl hS
        have hcl := hcl'; have hS := hS'; clear hcl' hS'
        simp only [Act.put, List.setIfInBounds_toArray, List.set_cons_zero, List.set_cons_succ]
        refine wpAnyL_takeD 23 (some 69) (.int .i64 (mx2)) (fun _ => True) rfl rfl (by kernel_rfl) (by kernel_rfl) (by kernel_rfl) (fun _ _ _ h => h) (fun listed w' => by simp only [getD_skip listed (show 23 ≠ 25 by decide), getD_skip listed (show 23 ≠ 27 by decide), getD_skip listed (show 23 ≠ 29 by decide)]) hcl hS (fun _ _ _ _ _ => trivial) (.inl ⟨rfl, fun w' hSi => ?_⟩) (fun hcl' hS' => ?_)
        · go_simp; exact HM2.out
        clear hcl hS
        have hcl := hcl'; have hS := hS'; clear hcl' hS'
        simp only [Act.put, List.setIfInBounds_toArray, List.set_cons_zero, List.set_cons_succ]
        refine wpAnyL_takeD 24 (some 70) (.pointer (some ⟨w.heap.size + 1 + 1 + 1, 0, none⟩)) (fun _ => True) rfl rfl (by kernel_rfl) (by kernel_rfl) (by kernel_rfl) (fun _ _ _ h => h) (fun listed w' => by simp only [getD_skip listed (show 24 ≠ 25 by decide), getD_skip listed (show 24 ≠ 27 by decide), getD_skip listed (show 24 ≠ 29 by decide)]) hcl hS (fun _ _ _ _ _ => trivial) (.inl ⟨rfl, fun w' hSi => ?_⟩) (fun hcl' hS' => ?_)
        · go_simp
        clear hcl hS
        have hcl := hcl'; have hS := hS'; clear hcl' hS'
        simp only [Act.put, List.setIfInBounds_toArray, List.set_cons_zero, List.set_cons_succ]
        refine wpAnyL_one 25 (by kernel_rfl) hcl ?_
        refine wpOp_skip (w' := xt ((((w.alloc (.cells #[.int .i64 0, .int .i64 0, .int .i64 0] 23)).alloc (.cells #[.int .i64 0, .int .i64 0, .int .i64 0] 23)).alloc (.cells #[.int .i64 (nx0), .int .i64 (nx1), .int .i64 (nx2)] 23)).alloc (.cells #[.int .i64 (mx0), .int .i64 (hi V3.y l k), .int .i64 (hi V3.z l k)] 23)) ⟨g.blocks, (g.drawn + 1) + 1⟩) rfl rfl rfl ?_ ⟨by kernel_rfl, fun hcl' hS' => ?_⟩
        · go_simp
        clear hcl hS
        have hcl := hcl'; have hS := hS'; clear hcl' hS'
        refine wpAnyL_takeD 26 (some 71) (.pointer (some ⟨w.heap.size + 1 + 1 + 1, 1, none⟩)) (fun _ => True) rfl rfl (by kernel_rfl) (by kernel_rfl) (by kernel_rfl) (fun _ _ _ h => h) (fun listed w' => by simp only [getD_skip listed (show 26 ≠ 25 by decide), getD_skip listed (show 26 ≠ 27 by decide), getD_skip listed (show 26 ≠ 29 by decide)]) hcl hS (fun _ _ _ _ _ => trivial) (.inl ⟨rfl, fun w' hSi => ?_⟩) (fun hcl' hS' => ?_)
        · go_simp
        clear hcl hS
        have hcl := hcl'; have hS := hS'; clear hcl' hS'
        simp only [Act.put, List.setIfInBounds_toArray, List.set_cons_zero, List.set_cons_succ]
        refine wpAnyL_one 27 (by kernel_rfl) hcl ?_
        refine wpOp_skip (w' := xt ((((w.alloc (.cells #[.int .i64 0, .int .i64 0, .int .i64 0] 23)).alloc (.cells #[.int .i64 0, .int .i64 0, .int .i64 0] 23)).alloc (.cells #[.int .i64 (nx0), .int .i64 (nx1), .int .i64 (nx2)] 23)).alloc (.cells #[.int .i64 (mx0), .int .i64 (mx1), .int .i64 (hi V3.z l k)] 23)) ⟨g.blocks, (g.drawn + 1) + 1⟩) rfl rfl rfl ?_ ⟨by kernel_rfl, fun hcl' hS' => ?_⟩
        · go_simp
        clear hcl hS
        have hcl := hcl'; have hS := hS'; clear hcl' hS'
        refine wpAnyL_takeD 28 (some 72) (.pointer (some ⟨w.heap.size + 1 + 1 + 1, 2, none⟩)) (fun _ => True) rfl rfl (by kernel_rfl) (by kernel_rfl) (by kernel_rfl) (fun _ _ _ h => h) (fun listed w' => by simp only [getD_skip listed (show 28 ≠ 25 by decide), getD_skip listed (show 28 ≠ 27 by decide), getD_skip listed (show 28 ≠ 29 by decide)]) hcl hS (fun _ _ _ _ _ => trivial) (.inl ⟨rfl, fun w' hSi => ?_⟩) (fun hcl' hS' => ?_)
        · go_simp
        clear hcl hS
        have hcl := hcl'; have hS := hS'; clear hcl' hS'
        simp only [Act.put, List.setIfInBounds_toArray, List.set_cons_zero, List.set_cons_succ]
        refine wpAnyL_one 29 (by kernel_rfl) hcl ?_
        refine wpOp_skip (w' := xt ((((w.alloc (.cells #[.int .i64 0, .int .i64 0, .int .i64 0] 23)).alloc (.cells #[.int .i64 0, .int .i64 0, .int .i64 0] 23)).alloc (.cells #[.int .i64 (nx0), .int .i64 (nx1), .int .i64 (nx2)] 23)).alloc (.cells #[.int .i64 (mx0), .int .i64 (mx1), .int .i64 (mx2)] 23)) ⟨g.blocks, (g.drawn + 1) + 1⟩) rfl rfl rfl ?_ ⟨by kernel_rfl, fun hcl' hS' => ?_⟩
        · go_simp
        clear hcl hS
        have hcl := hcl'; have hS := hS'; clear hcl' hS'
        refine wpAnyL_done (by kernel_rfl) ?_ _
        clear hcl hS
        go_wp2_with fail
        go_roundw
        case rel =>
          refine ⟨k + 1, ?_⟩
          rw [lo_succ V3.x l k, lo_succ V3.y l k, lo_succ V3.z l k, hi_succ V3.x l k, hi_succ V3.y l k, hi_succ V3.z l k, HN0.out, HN1.out, HN2.out, HM0.out, HM1.out, HM2.out]
          exact ⟨_, by omega, by go_num, (Classical.choose_spec (xt_of_below (by repeat' (first | exact Below.refl _ _ | assumption | refine Below.xt ?_ ?_ _ | refine Below.alloc ?_ ?_ _ | refine Below.drew ?_ | refine Below.setCell ?_ ?_ _ | (simp; done) | (simp; omega)))))⟩
        case measure => simp [intOf]; omega
      · have e : k = n := by omega
        subst e
        go_wp2_with fail
        go_region
        go_wp2_with fail
        refine bodyPost_ret (v := .tuple #[.agg #[.int .i64 (lo V3.x l k), .int .i64 (lo V3.y l k), .int .i64 (lo V3.z l k)], .agg #[.int .i64 (hi V3.x l k), .int .i64 (hi V3.y l k), .int .i64 (hi V3.z l k)]]) (by simp [results, Try.results31, go_sem]) rfl ?_
        exact RetB.of rfl (by repeat' (first | exact Below.refl _ _ | assumption | refine Below.xt ?_ ?_ _ | refine Below.alloc ?_ ?_ _ | refine Below.drew ?_ | refine Below.setCell ?_ ?_ _ | (simp; done) | (simp; omega)))
  · go_wp2_with fail
    go_loopw [6] (fun i wr => ∃ (k : Nat) (g : Gr), k ≤ n ∧ i = .int .i64 k ∧ wr = xt ((((w.alloc (.cells #[.int .i64 0, .int .i64 0, .int .i64 0] 23)).alloc (.cells #[.int .i64 0, .int .i64 0, .int .i64 0] 23)).alloc (.cells #[.int .i64 (hi V3.x l k), .int .i64 (hi V3.y l k), .int .i64 (hi V3.z l k)] 23)).alloc (.cells #[.int .i64 (lo V3.x l k), .int .i64 (lo V3.y l k), .int .i64 (lo V3.z l k)] 23)) g) (fun i _ => n - (intOf i).toNat)
    case atStart => exact ⟨0, ⟨[], _⟩, by omega, rfl, (xt_self _).symm⟩
    case round =>
      obtain ⟨k, g, hk, rfl, rfl⟩ := hrel
      by_cases hlt : k < n
      · have hx := HR.out.x k (HN.out ▸ hlt)
        have hy := HR.out.y k (HN.out ▸ hlt)
        have hz := HR.out.z k (HN.out ▸ hlt)
        obtain ⟨nx0, HN0⟩ : ∃ v, Hid ((if (at_ l k).x < lo V3.x l k then (at_ l k).x else lo V3.x l k) = v) := ⟨_, Lib.hid rfl⟩
        obtain ⟨nx1, HN1⟩ : ∃ v, Hid ((if (at_ l k).y < lo V3.y l k then (at_ l k).y else lo V3.y l k) = v) := ⟨_, Lib.hid rfl⟩
        obtain ⟨nx2, HN2⟩ : ∃ v, Hid ((if (at_ l k).z < lo V3.z l k then (at_ l k).z else lo V3.z l k) = v) := ⟨_, Lib.hid rfl⟩
        obtain ⟨mx0, HM0⟩ : ∃ v, Hid ((if hi V3.x l k < (at_ l k).x then (at_ l k).x else hi V3.x l k) = v) := ⟨_, Lib.hid rfl⟩
        obtain ⟨mx1, HM1⟩ : ∃ v, Hid ((if hi V3.y l k < (at_ l k).y then (at_ l k).y else hi V3.y l k) = v) := ⟨_, Lib.hid rfl⟩
        obtain ⟨mx2, HM2⟩ : ∃ v, Hid ((if hi V3.z l k < (at_ l k).z then (at_ l k).z else hi V3.z l k) = v) := ⟨_, Lib.hid rfl⟩
        go_wp2_with fail
        refine wp_region_L (fun listed w' => w' = xt ((((w.alloc (.cells #[.int .i64 0, .int .i64 0, .int .i64 0] 23)).alloc (.cells #[.int .i64 0, .int .i64 0, .int .i64 0] 23)).alloc (.cells #[.int .i64 (hi V3.x l k), .int .i64 (hi V3.y l k), .int .i64 (hi V3.z l k)] 23)).alloc (.cells #[.int .i64 (if listed.getD 25 false = true then nx0 else lo V3.x l k), .int .i64 (if listed.getD 27 false = true then nx1 else lo V3.y l k), .int .i64 (if listed.getD 29 false = true then nx2 else lo V3.z l k)] 23)) ⟨g.blocks, g.drawn + 1⟩) (by kernel_rfl) (fun hcl => ?_)
        have hS : xt ((((w.alloc (.cells #[.int .i64 0, .int .i64 0, .int .i64 0] 23)).alloc (.cells #[.int .i64 0, .int .i64 0, .int .i64 0] 23)).alloc (.cells #[.int .i64 (hi V3.x l k), .int .i64 (hi V3.y l k), .int .i64 (hi V3.z l k)] 23)).alloc (.cells #[.int .i64 (lo V3.x l k), .int .i64 (lo V3.y l k), .int .i64 (lo V3.z l k)] 23)) ⟨g.blocks, g.drawn + 1⟩ = xt ((((w.alloc (.cells #[.int .i64 0, .int .i64 0, .int .i64 0] 23)).alloc (.cells #[.int .i64 0, .int .i64 0, .int .i64 0] 23)).alloc (.cells #[.int .i64 (hi V3.x l k), .int .i64 (hi V3.y l k), .int .i64 (hi V3.z l k)] 23)).alloc (.cells #[.int .i64 (lo V3.x l k), .int .i64 (lo V3.y l k), .int .i64 (lo V3.z l k)] 23)) ⟨g.blocks, g.drawn + 1⟩ := rfl
        change wpAnyL _ _ _ _ _ 30 (Array.replicate 30 false) _ _
        refine wpAnyL_takeD 0 (some 19) (.pointer (some ⟨w.heap.size + 1 + 1 + 1, 0, none⟩)) (fun _ => True) rfl rfl (by kernel_rfl) (by kernel_rfl) (by kernel_rfl) (fun _ _ _ h => h) (fun listed w' => by simp only [getD_skip listed (show 0 ≠ 25 by decide), getD_skip listed (show 0 ≠ 27 by decide), getD_skip listed (show 0 ≠ 29 by decide)]) hcl hS (fun _ _ _ _ _ => trivial) (.inl ⟨rfl, fun w' hSi => ?_⟩) (fun hcl' hS' => ?_)
        · go_simp
        clear hcl hS
        have hcl := hcl'; have hS := hS'; clear hcl' hS'
        simp only [Act.put, List.setIfInBounds_toArray, List.set_cons_zero, List.set_cons_succ]
        refine wpAnyL_takeD 1 (some 20) (.int .i64 (lo V3.x l k)) (fun w' => w'.cell? ⟨w.heap.size + 1 + 1 + 1, 0, none⟩ = some (.int .i64 (lo V3.x l k))) rfl rfl (by kernel_rfl) (by kernel_rfl) (by kernel_rfl) (fun _ _ _ h => h) (fun listed w' => by simp only [getD_skip listed (show 1 ≠ 25 by decide), getD_skip listed (show 1 ≠ 27 by decide), getD_skip listed (show 1 ≠ 29 by decide)]) hcl hS (fun listed w' hcl hun hS => by have hz := not_yet (j := 25) (by kernel_rfl) hcl hun; rw [hS, hz]; go_simp) (.inl ⟨rfl, fun w' hSi => ?_⟩) (fun hcl' hS' => ?_)
        · go_simp
        clear hcl hS
        have hcl := hcl'; have hS := hS'; clear hcl' hS'
        simp only [Act.put, List.setIfInBounds_toArray, List.set_cons_zero, List.set_cons_succ]
        refine wpAnyL_takeD 2 (some 21) (.slice (some ⟨b, o, none⟩) n cap) (fun _ => True) rfl rfl (by kernel_rfl) (by kernel_rfl) (by kernel_rfl) (fun _ _ _ h => h) (fun listed w' => by simp only [getD_skip listed (show 2 ≠ 25 by decide), getD_skip listed (show 2 ≠ 27 by decide), getD_skip listed (show 2 ≠ 29 by decide)]) hcl hS (fun _ _ _ _ _ => trivial) (.inl ⟨rfl, fun w' hSi => ?_⟩) (fun hcl' hS' => ?_)
        · go_simp
        clear hcl hS
        have hcl := hcl'; have hS := hS'; clear hcl' hS'
        simp only [Act.put, List.setIfInBounds_toArray, List.set_cons_zero, List.set_cons_succ]
        refine wpAnyL_takeD 3 (some 22) (.int .i64 (k : Int)) (fun _ => True) rfl rfl (by kernel_rfl) (by kernel_rfl) (by kernel_rfl) (fun _ _ _ h => h) (fun listed w' => by simp only [getD_skip listed (show 3 ≠ 25 by decide), getD_skip listed (show 3 ≠ 27 by decide), getD_skip listed (show 3 ≠ 29 by decide)]) hcl hS (fun _ _ _ _ _ => trivial) (.inl ⟨rfl, fun w' hSi => ?_⟩) (fun hcl' hS' => ?_)
        · go_simp
        clear hcl hS
        have hcl := hcl'; have hS := hS'; clear hcl' hS'
        simp only [Act.put, List.setIfInBounds_toArray, List.set_cons_zero, List.set_cons_succ]
        refine wpAnyL_takeD 4 (some 23) (.pointer (some ⟨b, o + k * 3, none⟩)) (fun _ => True) rfl rfl (by kernel_rfl) (by kernel_rfl) (by kernel_rfl) (fun _ _ _ h => h) (fun listed w' => by simp only [getD_skip listed (show 4 ≠ 25 by decide), getD_skip listed (show 4 ≠ 27 by decide), getD_skip listed (show 4 ≠ 29 by decide)]) hcl hS (fun _ _ _ _ _ => trivial) (.inl ⟨rfl, fun w' hSi => ?_⟩) (fun hcl' hS' => ?_)
        · go_simp
        clear hcl hS
        have hcl := hcl'; have hS := hS'; clear hcl' hS'
        simp only [Act.put, List.setIfInBounds_toArray, List.set_cons_zero, List.set_cons_succ]
        refine wpAnyL_takeD 5 (some 24) (.pointer (some ⟨b, o + k * 3, none⟩)) (fun _ => True) rfl rfl (by kernel_rfl) (by kernel_rfl) (by kernel_rfl) (fun _ _ _ h => h) (fun listed w' => by simp only [getD_skip listed (show 5 ≠ 25 by decide), getD_skip listed (show 5 ≠ 27 by decide), getD_skip listed (show 5 ≠ 29 by decide)]) hcl hS (fun _ _ _ _ _ => trivial) (.inl ⟨rfl, fun w' hSi => ?_⟩) (fun hcl' hS' => ?_)
        · go_simp
        clear hcl hS
        have hcl := hcl'; have hS := hS'; clear hcl' hS'
        simp only [Act.put, List.setIfInBounds_toArray, List.set_cons_zero, List.set_cons_succ]
        refine wpAnyL_takeD 6 (some 25) (.int .i64 (at_ l k).x) (fun w' => w'.cell? ⟨b, o + k * 3, none⟩ = some (.int .i64 (at_ l k).x) ∧ w'.cell? ⟨b, o + k * 3 + 1, none⟩ = some (.int .i64 (at_ l k).y) ∧ w'.cell? ⟨b, o + k * 3 + 2, none⟩ = some (.int .i64 (at_ l k).z)) rfl rfl (by kernel_rfl) (by kernel_rfl) (by kernel_rfl) (fun _ _ _ h => h) (fun listed w' => by simp only [getD_skip listed (show 6 ≠ 25 by decide), getD_skip listed (show 6 ≠ 27 by decide), getD_skip listed (show 6 ≠ 29 by decide)]) hcl hS (fun listed w' _ _ hS => by rw [hS]; go_simp) (.inl ⟨rfl, fun w' hSi => ?_⟩) (fun hcl' hS' => ?_)
        · go_simp
        clear hcl hS
        have hcl := hcl'; have hS := hS'; clear hcl' hS'
        simp only [Act.put, List.setIfInBounds_toArray, List.set_cons_zero, List.set_cons_succ]
        refine wpAnyL_takeD 7 (some 26) (.int .i64 (nx0)) (fun _ => True) rfl rfl (by kernel_rfl) (by kernel_rfl) (by kernel_rfl) (fun _ _ _ h => h) (fun listed w' => by simp only [getD_skip listed (show 7 ≠ 25 by decide), getD_skip listed (show 7 ≠ 27 by decide), getD_skip listed (show 7 ≠ 29 by decide)]) hcl hS (fun _ _ _ _ _ => trivial) (.inl ⟨rfl, fun w' hSi => ?_⟩) (fun hcl' hS' => ?_)
        · go_simp; exact HN0.out
        clear hcl hS
        have hcl := hcl'; have hS := hS'; clear hcl' hS'
        simp only [Act.put, List.setIfInBounds_toArray, List.set_cons_zero, List.set_cons_succ]
        refine wpAnyL_takeD 8 (some 27) (.pointer (some ⟨w.heap.size + 1 + 1 + 1, 1, none⟩)) (fun _ => True) rfl rfl (by kernel_rfl) (by kernel_rfl) (by kernel_rfl) (fun _ _ _ h => h) (fun listed w' => by simp only [getD_skip listed (show 8 ≠ 25 by decide), getD_skip listed (show 8 ≠ 27 by decide), getD_skip listed (show 8 ≠ 29 by decide)]) hcl hS (fun _ _ _ _ _ => trivial) (.inl ⟨rfl, fun w' hSi => ?_⟩) (fun hcl' hS' => ?_)
        · go_simp
        clear hcl hS
        have hcl := hcl'; have hS := hS'; clear hcl' hS'
        simp only [Act.put, List.setIfInBounds_toArray, List.set_cons_zero, List.set_cons_succ]
        refine wpAnyL_takeD 9 (some 28) (.int .i64 (lo V3.y l k)) (fun w' => w'.cell? ⟨w.heap.size + 1 + 1 + 1, 1, none⟩ = some (.int .i64 (lo V3.y l k))) rfl rfl (by kernel_rfl) (by kernel_rfl) (by kernel_rfl) (fun _ _ _ h => h) (fun listed w' => by simp only [getD_skip listed (show 9 ≠ 25 by decide), getD_skip listed (show 9 ≠ 27 by decide), getD_skip listed (show 9 ≠ 29 by decide)]) hcl hS (fun listed w' hcl hun hS => by have hz := not_yet (j := 27) (by kernel_rfl) hcl hun; rw [hS, hz]; go_simp) (.inl ⟨rfl, fun w' hSi => ?_⟩) (fun hcl' hS' => ?_)
        · go_simp
        clear hcl hS
        have hcl := hcl'; have hS := hS'; clear hcl' hS'
        simp only [Act.put, List.setIfInBounds_toArray, List.set_cons_zero, List.set_cons_succ]
        refine wpAnyL_takeD 10 (some 29) (.slice (some ⟨b, o, none⟩) n cap) (fun _ => True) rfl rfl (by kernel_rfl) (by kernel_rfl) (by kernel_rfl) (fun _ _ _ h => h) (fun listed w' => by simp only [getD_skip listed (show 10 ≠ 25 by decide), getD_skip listed (show 10 ≠ 27 by decide), getD_skip listed (show 10 ≠ 29 by decide)]) hcl hS (fun _ _ _ _ _ => trivial) (.inl ⟨rfl, fun w' hSi => ?_⟩) (fun hcl' hS' => ?_)
        · go_simp
        clear hcl hS
        have hcl := hcl'; have hS := hS'; clear hcl' hS'
        simp only [Act.put, List.setIfInBounds_toArray, List.set_cons_zero, List.set_cons_succ]
        refine wpAnyL_takeD 11 (some 30) (.int .i64 (k : Int)) (fun _ => True) rfl rfl (by kernel_rfl) (by kernel_rfl) (by kernel_rfl) (fun _ _ _ h => h) (fun listed w' => by simp only [getD_skip listed (show 11 ≠ 25 by decide), getD_skip listed (show 11 ≠ 27 by decide), getD_skip listed (show 11 ≠ 29 by decide)]) hcl hS (fun _ _ _ _ _ => trivial) (.inl ⟨rfl, fun w' hSi => ?_⟩) (fun hcl' hS' => ?_)
        · go_simp
        clear hcl hS
        have hcl := hcl'; have hS := hS'; clear hcl' hS'
        simp only [Act.put, List.setIfInBounds_toArray, List.set_cons_zero, List.set_cons_succ]
        refine wpAnyL_takeD 12 (some 31) (.pointer (some ⟨b, o + k * 3, none⟩)) (fun _ => True) rfl rfl (by kernel_rfl) (by kernel_rfl) (by kernel_rfl) (fun _ _ _ h => h) (fun listed w' => by simp only [getD_skip listed (show 12 ≠ 25 by decide), getD_skip listed (show 12 ≠ 27 by decide), getD_skip listed (show 12 ≠ 29 by decide)]) hcl hS (fun _ _ _ _ _ => trivial) (.inl ⟨rfl, fun w' hSi => ?_⟩) (fun hcl' hS' => ?_)
        · go_simp
        clear hcl hS
        have hcl := hcl'; have hS := hS'; clear hcl' hS'
        simp only [Act.put, List.setIfInBounds_toArray, List.set_cons_zero, List.set_cons_succ]
        refine wpAnyL_takeD 13 (some 32) (.pointer (some ⟨b, o + k * 3 + 1, none⟩)) (fun _ => True) rfl rfl (by kernel_rfl) (by kernel_rfl) (by kernel_rfl) (fun _ _ _ h => h) (fun listed w' => by simp only [getD_skip listed (show 13 ≠ 25 by decide), getD_skip listed (show 13 ≠ 27 by decide), getD_skip listed (show 13 ≠ 29 by decide)]) hcl hS (fun _ _ _ _ _ => trivial) (.inl ⟨rfl, fun w' hSi => ?_⟩) (fun hcl' hS' => ?_)
        · go_simp
        clear hcl hS
        have hcl := hcl'; have hS := hS'; clear hcl' hS'
        simp only [Act.put, List.setIfInBounds_toArray, List.set_cons_zero, List.set_cons_succ]
        refine wpAnyL_takeD 14 (some 33) (.int .i64 (at_ l k).y) (fun w' => w'.cell? ⟨b, o + k * 3, none⟩ = some (.int .i64 (at_ l k).x) ∧ w'.cell? ⟨b, o + k * 3 + 1, none⟩ = some (.int .i64 (at_ l k).y) ∧ w'.cell? ⟨b, o + k * 3 + 2, none⟩ = some (.int .i64 (at_ l k).z)) rfl rfl (by kernel_rfl) (by kernel_rfl) (by kernel_rfl) (fun _ _ _ h => h) (fun listed w' => by simp only [getD_skip listed (show 14 ≠ 25 by decide), getD_skip listed (show 14 ≠ 27 by decide), getD_skip listed (show 14 ≠ 29 by decide)]) hcl hS (fun listed w' _ _ hS => by rw [hS]; go_simp) (.inl ⟨rfl, fun w' hSi => ?_⟩) (fun hcl' hS' => ?_)
        · go_simp
        clear hcl hS
        have hcl := hcl'; have hS := hS'; clear hcl' hS'
        simp only [Act.put, List.setIfInBounds_toArray, List.set_cons_zero, List.set_cons_succ]
        refine wpAnyL_takeD 15 (some 34) (.int .i64 (nx1)) (fun _ => True) rfl rfl (by kernel_rfl) (by kernel_rfl) (by kernel_rfl) (fun _ _ _ h => h) (fun listed w' => by simp only [getD_skip listed (show 15 ≠ 25 by decide), getD_skip listed (show 15 ≠ 27 by decide), getD_skip listed (show 15 ≠ 29 by decide)]) hcl hS (fun _ _ _ _ _ => trivial) (.inl ⟨rfl, fun w' hSi => ?_⟩) (fun hcl' hS' => ?_)
        · go_simp; exact HN1.out
        clear hcl hS
        have hcl := hcl'; have hS := hS'; clear hcl' hS'
        simp only [Act.put, List.setIfInBounds_toArray, List.set_cons_zero, List.set_cons_succ]
        refine wpAnyL_takeD 16 (some 35) (.pointer (some ⟨w.heap.size + 1 + 1 + 1, 2, none⟩)) (fun _ => True) rfl rfl (by kernel_rfl) (by kernel_rfl) (by kernel_rfl) (fun _ _ _ h => h) (fun listed w' => by simp only [getD_skip listed (show 16 ≠ 25 by decide), getD_skip listed (show 16 ≠ 27 by decide), getD_skip listed (show 16 ≠ 29 by decide)]) hcl hS (fun _ _ _ _ _ => trivial) (.inl ⟨rfl, fun w' hSi => ?_⟩) (fun hcl' hS' => ?_)
        · go_simp
        clear hcl hS
        have hcl := hcl'; have hS := hS'; clear hcl' hS'
        simp only [Act.put, List.setIfInBounds_toArray, List.set_cons_zero, List.set_cons_succ]
        refine wpAnyL_takeD 17 (some 36) (.int .i64 (lo V3.z l k)) (fun w' => w'.cell? ⟨w.heap.size + 1 + 1 + 1, 2, none⟩ = some (.int .i64 (lo V3.z l k))) rfl rfl (by kernel_rfl) (by kernel_rfl) (by kernel_rfl) (fun _ _ _ h => h) (fun listed w' => by simp only [getD_skip listed (show 17 ≠ 25 by decide), getD_skip listed (show 17 ≠ 27 by decide), getD_skip listed (show 17 ≠ 29 by decide)]) hcl hS (fun listed w' hcl hun hS => by have hz := not_yet (j := 29) (by kernel_rfl) hcl hun; rw [hS, hz]; go_simp) (.inl ⟨rfl, fun w' hSi => ?_⟩) (fun hcl' hS' => ?_)
        · go_simp
        clear hcl hS
        have hcl := hcl'; have hS := hS'; clear hcl' hS'
        simp only [Act.put, List.setIfInBounds_toArray, List.set_cons_zero, List.set_cons_succ]
        refine wpAnyL_takeD 18 (some 37) (.slice (some ⟨b, o, none⟩) n cap) (fun _ => True) rfl rfl (by kernel_rfl) (by kernel_rfl) (by kernel_rfl) (fun _ _ _ h => h) (fun listed w' => by simp only [getD_skip listed (show 18 ≠ 25 by decide), getD_skip listed (show 18 ≠ 27 by decide), getD_skip listed (show 18 ≠ 29 by decide)]) hcl hS (fun _ _ _ _ _ => trivial) (.inl ⟨rfl, fun w' hSi => ?_⟩) (fun hcl' hS' => ?_)
        · go_simp
        clear hcl hS
        have hcl := hcl'; have hS := hS'; clear hcl' hS'
        simp only [Act.put, List.setIfInBounds_toArray, List.set_cons_zero, List.set_cons_succ]
        refine wpAnyL_takeD 19 (some 38) (.int .i64 (k : Int)) (fun _ => True) rfl rfl (by kernel_rfl) (by kernel_rfl) (by kernel_rfl) (fun _ _ _ h => h) (fun listed w' => by simp only [getD_skip listed (show 19 ≠ 25 by decide), getD_skip listed (show 19 ≠ 27 by decide), getD_skip listed (show 19 ≠ 29 by decide)]) hcl hS (fun _ _ _ _ _ => trivial) (.inl ⟨rfl, fun w' hSi => ?_⟩) (fun hcl' hS' => ?_)
        · go_simp
        clear hcl hS
        have hcl := hcl'; have hS := hS'; clear hcl' hS'
        simp only [Act.put, List.setIfInBounds_toArray, List.set_cons_zero, List.set_cons_succ]
        refine wpAnyL_takeD 20 (some 39) (.pointer (some ⟨b, o + k * 3, none⟩)) (fun _ => True) rfl rfl (by kernel_rfl) (by kernel_rfl) (by kernel_rfl) (fun _ _ _ h => h) (fun listed w' => by simp only [getD_skip listed (show 20 ≠ 25 by decide), getD_skip listed (show 20 ≠ 27 by decide), getD_skip listed (show 20 ≠ 29 by decide)]) hcl hS (fun _ _ _ _ _ => trivial) (.inl ⟨rfl, fun w' hSi => ?_⟩) (fun hcl' hS' => ?_)
        · go_simp
        clear hcl hS
        have hcl := hcl'; have hS := hS'; clear hcl' hS'
        simp only [Act.put, List.setIfInBounds_toArray, List.set_cons_zero, List.set_cons_succ]
        refine wpAnyL_takeD 21 (some 40) (.pointer (some ⟨b, o + k * 3 + 2, none⟩)) (fun _ => True) rfl rfl (by kernel_rfl) (by kernel_rfl) (by kernel_rfl) (fun _ _ _ h => h) (fun listed w' => by simp only [getD_skip listed (show 21 ≠ 25 by decide), getD_skip listed (show 21 ≠ 27 by decide), getD_skip listed (show 21 ≠ 29 by decide)]) hcl hS (fun _ _ _ _ _ => trivial) (.inl ⟨rfl, fun w' hSi => ?_⟩) (fun hcl' hS' => ?_)
        · go_simp
        clear hcl hS
        have hcl := hcl'; have hS := hS'; clear hcl' hS'
        simp only [Act.put, List.setIfInBounds_toArray, List.set_cons_zero, List.set_cons_succ]
        refine wpAnyL_takeD 22 (some 41) (.int .i64 (at_ l k).z) (fun w' => w'.cell? ⟨b, o + k * 3, none⟩ = some (.int .i64 (at_ l k).x) ∧ w'.cell? ⟨b, o + k * 3 + 1, none⟩ = some (.int .i64 (at_ l k).y) ∧ w'.cell? ⟨b, o + k * 3 + 2, none⟩ = some (.int .i64 (at_ l k).z)) rfl rfl (by kernel_rfl) (by kernel_rfl) (by kernel_rfl) (fun _ _ _ h => h) (fun listed w' => by simp only [getD_skip listed (show 22 ≠ 25 by decide), getD_skip listed (show 22 ≠ 27 by decide), getD_skip listed (show 22 ≠ 29 by decide)]) hcl hS (fun listed w' _ _ hS => by rw [hS]; go_simp) (.inl ⟨rfl, fun w' hSi => ?_⟩) (fun hcl' hS' => ?_)
        · go_simp
        clear hcl hS
        have hcl := hcl'; have hS := hS'; clear hcl' hS'
        simp only [Act.put, List.setIfInBounds_toArray, List.set_cons_zero, List.set_cons_succ]
        refine wpAnyL_takeD 23 (some 42) (.int .i64 (nx2)) (fun _ => True) rfl rfl (by kernel_rfl) (by kernel_rfl) (by kernel_rfl) (fun _ _ _ h => h) (fun listed w' => by simp only [getD_skip listed (show 23 ≠ 25 by decide), getD_skip listed (show 23 ≠ 27 by decide), getD_skip listed (show 23 ≠ 29 by decide)]) hcl hS (fun _ _ _ _ _ => trivial) (.inl ⟨rfl, fun w' hSi => ?_⟩) (fun hcl' hS' => ?_)
        · go_simp; exact HN2.out
        clear hcl hS
        have hcl := hcl'; have hS := hS'; clear hcl' hS'
        simp only [Act.put, List.setIfInBounds_toArray, List.set_cons_zero, List.set_cons_succ]
        refine wpAnyL_takeD 24 (some 43) (.pointer (some ⟨w.heap.size + 1 + 1 + 1, 0, none⟩)) (fun _ => True) rfl rfl (by kernel_rfl) (by kernel_rfl) (by kernel_rfl) (fun _ _ _ h => h) (fun listed w' => by simp only [getD_skip listed (show 24 ≠ 25 by decide), getD_skip listed (show 24 ≠ 27 by decide), getD_skip listed (show 24 ≠ 29 by decide)]) hcl hS (fun _ _ _ _ _ => trivial) (.inl ⟨rfl, fun w' hSi => ?_⟩) (fun hcl' hS' => ?_)
        · go_simp
        clear hcl hS
        have hcl := hcl'; have hS := hS'; clear hcl' hS'
        simp only [Act.put, List.setIfInBounds_toArray, List.set_cons_zero, List.set_cons_succ]
        refine wpAnyL_one 25 (by kernel_rfl) hcl ?_
        refine wpOp_skip (w' := xt ((((w.alloc (.cells #[.int .i64 0, .int .i64 0, .int .i64 0] 23)).alloc (.cells #[.int .i64 0, .int .i64 0, .int .i64 0] 23)).alloc (.cells #[.int .i64 (hi V3.x l k), .int .i64 (hi V3.y l k), .int .i64 (hi V3.z l k)] 23)).alloc (.cells #[.int .i64 (nx0), .int .i64 (lo V3.y l k), .int .i64 (lo V3.z l k)] 23)) ⟨g.blocks, g.drawn + 1⟩) rfl rfl rfl ?_ ⟨by kernel_rfl, fun hcl' hS' => ?_⟩
        · go_simp
        clear hcl hS
        have hcl := hcl'; have hS := hS'; clear hcl' hS'
        refine wpAnyL_takeD 26 (some 44) (.pointer (some ⟨w.heap.size + 1 + 1 + 1, 1, none⟩)) (fun _ => True) rfl rfl (by kernel_rfl) (by kernel_rfl) (by kernel_rfl) (fun _ _ _ h => h) (fun listed w' => by simp only [getD_skip listed (show 26 ≠ 25 by decide), getD_skip listed (show 26 ≠ 27 by decide), getD_skip listed (show 26 ≠ 29 by decide)]) hcl hS (fun _ _ _ _ _ => trivial) (.inl ⟨rfl, fun w' hSi => ?_⟩) (fun hcl' hS' => ?_)
        · go_simp
        clear hcl hS
        have hcl := hcl'; have hS := hS'; clear hcl' hS'
        simp only [Act.put, List.setIfInBounds_toArray, List.set_cons_zero, List.set_cons_succ]
        refine wpAnyL_one 27 (by kernel_rfl) hcl ?_
        refine wpOp_skip (w' := xt ((((w.alloc (.cells #[.int .i64 0, .int .i64 0, .int .i64 0] 23)).alloc (.cells #[.int .i64 0, .int .i64 0, .int .i64 0] 23)).alloc (.cells #[.int .i64 (hi V3.x l k), .int .i64 (hi V3.y l k), .int .i64 (hi V3.z l k)] 23)).alloc (.cells #[.int .i64 (nx0), .int .i64 (nx1), .int .i64 (lo V3.z l k)] 23)) ⟨g.blocks, g.drawn + 1⟩) rfl rfl rfl ?_ ⟨by kernel_rfl, fun hcl' hS' => ?_⟩
        · go_simp
        clear hcl hS
        have hcl := hcl'; have hS := hS'; clear hcl' hS'
        refine wpAnyL_takeD 28 (some 45) (.pointer (some ⟨w.heap.size + 1 + 1 + 1, 2, none⟩)) (fun _ => True) rfl rfl (by kernel_rfl) (by kernel_rfl) (by kernel_rfl) (fun _ _ _ h => h) (fun listed w' => by simp only [getD_skip listed (show 28 ≠ 25 by decide), getD_skip listed (show 28 ≠ 27 by decide), getD_skip listed (show 28 ≠ 29 by decide)]) hcl hS (fun _ _ _ _ _ => trivial) (.inl ⟨rfl, fun w' hSi => ?_⟩) (fun hcl' hS' => ?_)
        · go_simp
        clear hcl hS
        have hcl := hcl'; have hS := hS'; clear hcl' hS'
        simp only [Act.put, List.setIfInBounds_toArray, List.set_cons_zero, List.set_cons_succ]
        refine wpAnyL_one 29 (by kernel_rfl) hcl ?_
        refine wpOp_skip (w' := xt ((((w.alloc (.cells #[.int .i64 0, .int .i64 0, .int .i64 0] 23)).alloc (.cells #[.int .i64 0, .int .i64 0, .int .i64 0] 23)).alloc (.cells #[.int .i64 (hi V3.x l k), .int .i64 (hi V3.y l k), .int .i64 (hi V3.z l k)] 23)).alloc (.cells #[.int .i64 (nx0), .int .i64 (nx1), .int .i64 (nx2)] 23)) ⟨g.blocks, g.drawn + 1⟩) rfl rfl rfl ?_ ⟨by kernel_rfl, fun hcl' hS' => ?_⟩
        · go_simp
        clear hcl hS
        have hcl := hcl'; have hS := hS'; clear hcl' hS'
        refine wpAnyL_done (by kernel_rfl) ?_ _
        clear hcl hS
        go_wp2_with fail
        refine wp_region_L (fun listed w' => w' = xt ((((w.alloc (.cells #[.int .i64 0, .int .i64 0, .int .i64 0] 23)).alloc (.cells #[.int .i64 0, .int .i64 0, .int .i64 0] 23)).alloc (.cells #[.int .i64 (if listed.getD 25 false = true then mx0 else hi V3.x l k), .int .i64 (if listed.getD 27 false = true then mx1 else hi V3.y l k), .int .i64 (if listed.getD 29 false = true then mx2 else hi V3.z l k)] 23)).alloc (.cells #[.int .i64 (nx0), .int .i64 (nx1), .int .i64 (nx2)] 23)) ⟨g.blocks, (g.drawn + 1) + 1⟩) (by kernel_rfl) (fun hcl => ?_)
        have hS : xt ((((w.alloc (.cells #[.int .i64 0, .int .i64 0, .int .i64 0] 23)).alloc (.cells #[.int .i64 0, .int .i64 0, .int .i64 0] 23)).alloc (.cells #[.int .i64 (hi V3.x l k), .int .i64 (hi V3.y l k), .int .i64 (hi V3.z l k)] 23)).alloc (.cells #[.int .i64 (nx0), .int .i64 (nx1), .int .i64 (nx2)] 23)) ⟨g.blocks, (g.drawn + 1) + 1⟩ = xt ((((w.alloc (.cells #[.int .i64 0, .int .i64 0, .int .i64 0] 23)).alloc (.cells #[.int .i64 0, .int .i64 0, .int .i64 0] 23)).alloc (.cells #[.int .i64 (hi V3.x l k), .int .i64 (hi V3.y l k), .int .i64 (hi V3.z l k)] 23)).alloc (.cells #[.int .i64 (nx0), .int .i64 (nx1), .int .i64 (nx2)] 23)) ⟨g.blocks, (g.drawn + 1) + 1⟩ := rfl
        change wpAnyL _ _ _ _ _ 30 (Array.replicate 30 false) _ _
        refine wpAnyL_takeD 0 (some 46) (.pointer (some ⟨w.heap.size + 1 + 1, 0, none⟩)) (fun _ => True) rfl rfl (by kernel_rfl) (by kernel_rfl) (by kernel_rfl) (fun _ _ _ h => h) (fun listed w' => by simp only [getD_skip listed (show 0 ≠ 25 by decide), getD_skip listed (show 0 ≠ 27 by decide), getD_skip listed (show 0 ≠ 29 by decide)]) hcl hS (fun _ _ _ _ _ => trivial) (.inl ⟨rfl, fun w' hSi => ?_⟩) (fun hcl' hS' => ?_)
        · go_simp
        clear hcl hS
        have hcl := hcl'; have hS := hS'; clear hcl' hS'
        simp only [Act.put, List.setIfInBounds_toArray, List.set_cons_zero, List.set_cons_succ]
        refine wpAnyL_takeD 1 (some 47) (.int .i64 (hi V3.x l k)) (fun w' => w'.cell? ⟨w.heap.size + 1 + 1, 0, none⟩ = some (.int .i64 (hi V3.x l k))) rfl rfl (by kernel_rfl) (by kernel_rfl) (by kernel_rfl) (fun _ _ _ h => h) (fun listed w' => by simp only [getD_skip listed (show 1 ≠ 25 by decide), getD_skip listed (show 1 ≠ 27 by decide), getD_skip listed (show 1 ≠ 29 by decide)]) hcl hS (fun listed w' hcl hun hS => by have hz := not_yet (j := 25) (by kernel_rfl) hcl hun; rw [hS, hz]; go_simp) (.inl ⟨rfl, fun w' hSi => ?_⟩) (fun hcl' hS' => ?_)
        · go_simp
        clear hcl hS
        have hcl := hcl'; have hS := hS'; clear hcl' hS'
        simp only [Act.put, List.setIfInBounds_toArray, List.set_cons_zero, List.set_cons_succ]
        refine wpAnyL_takeD 2 (some 48) (.slice (some ⟨b, o, none⟩) n cap) (fun _ => True) rfl rfl (by kernel_rfl) (by kernel_rfl) (by kernel_rfl) (fun _ _ _ h => h) (fun listed w' => by simp only [getD_skip listed (show 2 ≠ 25 by decide), getD_skip listed (show 2 ≠ 27 by decide), getD_skip listed (show 2 ≠ 29 by decide)]) hcl hS (fun _ _ _ _ _ => trivial) (.inl ⟨rfl, fun w' hSi => ?_⟩) (fun hcl' hS' => ?_)
        · go_simp
        clear hcl hS
        have hcl := hcl'; have hS := hS'; clear hcl' hS'
        simp only [Act.put, List.setIfInBounds_toArray, List.set_cons_zero, List.set_cons_succ]
        refine wpAnyL_takeD 3 (some 49) (.int .i64 (k : Int)) (fun _ => True) rfl rfl (by kernel_rfl) (by kernel_rfl) (by kernel_rfl) (fun _ _ _ h => h) (fun listed w' => by simp only [getD_skip listed (show 3 ≠ 25 by decide), getD_skip listed (show 3 ≠ 27 by decide), getD_skip listed (show 3 ≠ 29 by decide)]) hcl hS (fun _ _ _ _ _ => trivial) (.inl ⟨rfl, fun w' hSi => ?_⟩) (fun hcl' hS' => ?_)
        · go_simp
        clear hcl hS
        have hcl := hcl'; have hS := hS'; clear hcl' hS'
        simp only [Act.put, List.setIfInBounds_toArray, List.set_cons_zero, List.set_cons_succ]
        refine wpAnyL_takeD 4 (some 50) (.pointer (some ⟨b, o + k * 3, none⟩)) (fun _ => True) rfl rfl (by kernel_rfl) (by kernel_rfl) (by kernel_rfl) (fun _ _ _ h => h) (fun listed w' => by simp only [getD_skip listed (show 4 ≠ 25 by decide), getD_skip listed (show 4 ≠ 27 by decide), getD_skip listed (show 4 ≠ 29 by decide)]) hcl hS (fun _ _ _ _ _ => trivial) (.inl ⟨rfl, fun w' hSi => ?_⟩) (fun hcl' hS' => ?_)
        · go_simp
        clear hcl hS
        have hcl := hcl'; have hS := hS'; clear hcl' hS'
        simp only [Act.put, List.setIfInBounds_toArray, List.set_cons_zero, List.set_cons_succ]
        refine wpAnyL_takeD 5 (some 51) (.pointer (some ⟨b, o + k * 3, none⟩)) (fun _ => True) rfl rfl (by kernel_rfl) (by kernel_rfl) (by kernel_rfl) (fun _ _ _ h => h) (fun listed w' => by simp only [getD_skip listed (show 5 ≠ 25 by decide), getD_skip listed (show 5 ≠ 27 by decide), getD_skip listed (show 5 ≠ 29 by decide)]) hcl hS (fun _ _ _ _ _ => trivial) (.inl ⟨rfl, fun w' hSi => ?_⟩) (fun hcl' hS' => ?_)
        · go_simp
        clear hcl hS
        have hcl := hcl'; have hS := hS'; clear hcl' hS'
        simp only [Act.put, List.setIfInBounds_toArray, List.set_cons_zero, List.set_cons_succ]
        refine wpAnyL_takeD 6 (some 52) (.int .i64 (at_ l k).x) (fun w' => w'.cell? ⟨b, o + k * 3, none⟩ = some (.int .i64 (at_ l k).x) ∧ w'.cell? ⟨b, o + k * 3 + 1, none⟩ = some (.int .i64 (at_ l k).y) ∧ w'.cell? ⟨b, o + k * 3 + 2, none⟩ = some (.int .i64 (at_ l k).z)) rfl rfl (by kernel_rfl) (by kernel_rfl) (by kernel_rfl) (fun _ _ _ h => h) (fun listed w' => by simp only [getD_skip listed (show 6 ≠ 25 by decide), getD_skip listed (show 6 ≠ 27 by decide), getD_skip listed (show 6 ≠ 29 by decide)]) hcl hS (fun listed w' _ _ hS => by rw [hS]; go_simp) (.inl ⟨rfl, fun w' hSi => ?_⟩) (fun hcl' hS' => ?_)
        · go_simp
        clear hcl hS
        have hcl := hcl'; have hS := hS'; clear hcl' hS'
        simp only [Act.put, List.setIfInBounds_toArray, List.set_cons_zero, List.set_cons_succ]
        refine wpAnyL_takeD 7 (some 53) (.int .i64 (mx0)) (fun _ => True) rfl rfl (by kernel_rfl) (by kernel_rfl) (by kernel_rfl) (fun _ _ _ h => h) (fun listed w' => by simp only [getD_skip listed (show 7 ≠ 25 by decide), getD_skip listed (show 7 ≠ 27 by decide), getD_skip listed (show 7 ≠ 29 by decide)]) hcl hS (fun _ _ _ _ _ => trivial) (.inl ⟨rfl, fun w' hSi => ?_⟩) (fun hcl' hS' => ?_)
        · go_simp; exact HM0.out
        clear hcl hS
        have hcl := hcl'; have hS := hS'; clear hcl' hS'
        simp only [Act.put, List.setIfInBounds_toArray, List.set_cons_zero, List.set_cons_succ]
        refine wpAnyL_takeD 8 (some 54) (.pointer (some ⟨w.heap.size + 1 + 1, 1, none⟩)) (fun _ => True) rfl rfl (by kernel_rfl) (by kernel_rfl) (by kernel_rfl) (fun _ _ _ h => h) (fun listed w' => by simp only [getD_skip listed (show 8 ≠ 25 by decide), getD_skip listed (show 8 ≠ 27 by decide), getD_skip listed (show 8 ≠ 29 by decide)]) hcl hS (fun _ _ _ _ _ => trivial) (.inl ⟨rfl, fun w' hSi => ?_⟩) (fun hcl' hS' => ?_)
        · go_simp
        clear hcl hS
        have hcl := hcl'; have hS := hS'; clear hcl' hS'
        simp only [Act.put, List.setIfInBounds_toArray, List.set_cons_zero, List.set_cons_succ]
        refine wpAnyL_takeD 9 (some 55) (.int .i64 (hi V3.y l k)) (fun w' => w'.cell? ⟨w.heap.size + 1 + 1, 1, none⟩ = some (.int .i64 (hi V3.y l k))) rfl rfl (by kernel_rfl) (by kernel_rfl) (by kernel_rfl) (fun _ _ _ h => h) (fun listed w' => by simp only [getD_skip listed (show 9 ≠ 25 by decide), getD_skip listed (show 9 ≠ 27 by decide), getD_skip listed (show 9 ≠ 29 by decide)]) hcl hS (fun listed w' hcl hun hS => by have hz := not_yet (j := 27) (by kernel_rfl) hcl hun; rw [hS, hz]; go_simp) (.inl ⟨rfl, fun w' hSi => ?_⟩) (fun hcl' hS' => ?_)
        · go_simp
        clear hcl hS
        have hcl := hcl'; have hS := hS'; clear hcl' hS'
        simp only [Act.put, List.setIfInBounds_toArray, List.set_cons_zero, List.set_cons_succ]
        refine wpAnyL_takeD 10 (some 56) (.slice (some ⟨b, o, none⟩) n cap) (fun _ => True) rfl rfl (by kernel_rfl) (by kernel_rfl) (by kernel_rfl) (fun _ _ _ h => h) (fun listed w' => by simp only [getD_skip listed (show 10 ≠ 25 by decide), getD_skip listed (show 10 ≠ 27 by decide), getD_skip listed (show 10 ≠ 29 by decide)]) hcl hS (fun _ _ _ _ _ => trivial) (.inl ⟨rfl, fun w' hSi => ?_⟩) (fun hcl' hS' => ?_)
        · go_simp
        clear hcl hS
        have hcl := hcl'; have hS := hS'; clear hcl' hS'
        simp only [Act.put, List.setIfInBounds_toArray, List.set_cons_zero, List.set_cons_succ]
        refine wpAnyL_takeD 11 (some 57) (.int .i64 (k : Int)) (fun _ => True) rfl rfl (by kernel_rfl) (by kernel_rfl) (by kernel_rfl) (fun _ _ _ h => h) (fun listed w' => by simp only [getD_skip listed (show 11 ≠ 25 by decide), getD_skip listed (show 11 ≠ 27 by decide), getD_skip listed (show 11 ≠ 29 by decide)]) hcl hS (fun _ _ _ _ _ => trivial) (.inl ⟨rfl, fun w' hSi => ?_⟩) (fun hcl' hS' => ?_)
        · go_simp
        clear hcl hS
        have hcl := hcl'; have hS := hS'; clear hcl' hS'
        simp only [Act.put, List.setIfInBounds_toArray, List.set_cons_zero, List.set_cons_succ]
        refine wpAnyL_takeD 12 (some 58) (.pointer (some ⟨b, o + k * 3, none⟩)) (fun _ => True) rfl rfl (by kernel_rfl) (by kernel_rfl) (by kernel_rfl) (fun _ _ _ h => h) (fun listed w' => by simp only [getD_skip listed (show 12 ≠ 25 by decide), getD_skip listed (show 12 ≠ 27 by decide), getD_skip listed (show 12 ≠ 29 by decide)]) hcl hS (fun _ _ _ _ _ => trivial) (.inl ⟨rfl, fun w' hSi => ?_⟩) (fun hcl' hS' => ?_)
        · go_simp
        clear hcl hS
        have hcl := hcl'; have hS := hS'; clear hcl' hS'
        simp only [Act.put, List.setIfInBounds_toArray, List.set_cons_zero, List.set_cons_succ]
        refine wpAnyL_takeD 13 (some 59) (.pointer (some ⟨b, o + k * 3 + 1, none⟩)) (fun _ => True) rfl rfl (by kernel_rfl) (by kernel_rfl) (by kernel_rfl) (fun _ _ _ h => h) (fun listed w' => by simp only [getD_skip listed (show 13 ≠ 25 by decide), getD_skip listed (show 13 ≠ 27 by decide), getD_skip listed (show 13 ≠ 29 by decide)]) hcl hS (fun _ _ _ _ _ => trivial) (.inl ⟨rfl, fun w' hSi => ?_⟩) (fun hcl' hS' => ?_)
        · go_simp
        clear hcl hS
        have hcl := hcl'; have hS := hS'; clear hcl' hS'
        simp only [Act.put, List.setIfInBounds_toArray, List.set_cons_zero, List.set_cons_succ]
        refine wpAnyL_takeD 14 (some 60) (.int .i64 (at_ l k).y) (fun w' => w'.cell? ⟨b, o + k * 3, none⟩ = some (.int .i64 (at_ l k).x) ∧ w'.cell? ⟨b, o + k * 3 + 1, none⟩ = some (.int .i64 (at_ l k).y) ∧ w'.cell? ⟨b, o + k * 3 + 2, none⟩ = some (.int .i64 (at_ l k).z)) rfl rfl (by kernel_rfl) (by kernel_rfl) (by kernel_rfl) (fun _ _ _ h => h) (fun listed w' => by simp only [getD_skip listed (show 14 ≠ 25 by decide), getD_skip listed (show 14 ≠ 27 by decide), getD_skip listed (show 14 ≠ 29 by decide)]) hcl hS (fun listed w' _ _ hS => by rw [hS]; go_simp) (.inl ⟨rfl, fun w' hSi => ?_⟩) (fun hcl' hS' => ?_)
        · go_simp
        clear hcl hS
        have hcl := hcl'; have hS := hS'; clear hcl' hS'
        simp only [Act.put, List.setIfInBounds_toArray, List.set_cons_zero, List.set_cons_succ]
        refine wpAnyL_takeD 15 (some 61) (.int .i64 (mx1)) (fun _ => True) rfl rfl (by kernel_rfl) (by kernel_rfl) (by kernel_rfl) (fun _ _ _ h => h) (fun listed w' => by simp only [getD_skip listed (show 15 ≠ 25 by decide), getD_skip listed (show 15 ≠ 27 by decide), getD_skip listed (show 15 ≠ 29 by decide)]) hcl hS (fun _ _ _ _ _ => trivial) (.inl ⟨rfl, fun w' hSi => ?_⟩) (fun hcl' hS' => ?_)
        · go_simp; exact HM1.out
        clear hcl hS
        have hcl := hcl'; have hS := hS'; clear hcl' hS'
        simp only [Act.put, List.setIfInBounds_toArray, List.set_cons_zero, List.set_cons_succ]
        refine wpAnyL_takeD 16 (some 62) (.pointer (some ⟨w.heap.size + 1 + 1, 2, none⟩)) (fun _ => True) rfl rfl (by kernel_rfl) (by kernel_rfl) (by kernel_rfl) (fun _ _ _ h => h) (fun listed w' => by simp only [getD_skip listed (show 16 ≠ 25 by decide), getD_skip listed (show 16 ≠ 27 by decide), getD_skip listed (show 16 ≠ 29 by decide)]) hcl hS (fun _ _ _ _ _ => trivial) (.inl ⟨rfl, fun w' hSi => ?_⟩) (fun hcl' hS' => ?_)
        · go_simp
        clear hcl hS
        have hcl := hcl'; have hS := hS'; clear hcl' hS'
        simp only [Act.put, List.setIfInBounds_toArray, List.set_cons_zero, List.set_cons_succ]
        refine wpAnyL_takeD 17 (some 63) (.int .i64 (hi V3.z l k)) (fun w' => w'.cell? ⟨w.heap.size + 1 + 1, 2, none⟩ = some (.int .i64 (hi V3.z l k))) rfl rfl (by kernel_rfl) (by kernel_rfl) (by kernel_rfl) (fun _ _ _ h => h) (fun listed w' => by simp only [getD_skip listed (show 17 ≠ 25 by decide), getD_skip listed (show 17 ≠ 27 by decide), getD_skip listed (show 17 ≠ 29 by decide)]) hcl hS (fun listed w' hcl hun hS => by have hz := not_yet (j := 29) (by kernel_rfl) hcl hun; rw [hS, hz]; go_simp) (.inl ⟨rfl, fun w' hSi => ?_⟩) (fun hcl' hS' => ?_)
        · go_simp
        clear hcl hS
        have hcl := hcl'; have hS := hS'; clear hcl' hS'
        simp only [Act.put, List.setIfInBounds_toArray, List.set_cons_zero, List.set_cons_succ]
        refine wpAnyL_takeD 18 (some 64) (.slice (some ⟨b, o, none⟩) n cap) (fun _ => True) rfl rfl (by kernel_rfl) (by kernel_rfl) (by kernel_rfl) (fun _ _ _ h => h) (fun listed w' => by simp only [getD_skip listed (show 18 ≠ 25 by decide), getD_skip listed (show 18 ≠ 27 by decide), getD_skip listed (show 18 ≠ 29 by decide)]) hcl hS (fun _ _ _ _ _ => trivial) (.inl ⟨rfl, fun w' hSi => ?_⟩) (fun hcl' hS' => ?_)
        · go_simp
        clear hcl hS
        have hcl := hcl'; have hS := hS'; clear hcl' hS'
        simp only [Act.put, List.setIfInBounds_toArray, List.set_cons_zero, List.set_cons_succ]
        refine wpAnyL_takeD 19 (some 65) (.int .i64 (k : Int)) (fun _ => True) rfl rfl (by kernel_rfl) (by kernel_rfl) (by kernel_rfl) (fun _ _ _ h => h) (fun listed w' => by simp only [getD_skip listed (show 19 ≠ 25 by decide), getD_skip listed (show 19 ≠ 27 by decide), getD_skip listed (show 19 ≠ 29 by decide)]) hcl hS (fun _ _ _ _ _ => trivial) (.inl ⟨rfl, fun w' hSi => ?_⟩) (fun hcl' hS' => ?_)
        · go_simp
        clear hcl hS
        have hcl := hcl'; have hS := hS'; clear hcl' hS'
        simp only [Act.put, List.setIfInBounds_toArray, List.set_cons_zero, List.set_cons_succ]
        refine wpAnyL_takeD 20 (some 66) (.pointer (some ⟨b, o + k * 3, none⟩)) (fun _ => True) rfl rfl (by kernel_rfl) (by kernel_rfl) (by kernel_rfl) (fun _ _ _ h => h) (fun listed w' => by simp only [getD_skip listed (show 20 ≠ 25 by decide), getD_skip listed (show 20 ≠ 27 by decide), getD_skip listed (show 20 ≠ 29 by decide)]) hcl hS (fun _ _ _ _ _ => trivial) (.inl ⟨rfl, fun w' hSi => ?_⟩) (fun hcl' hS' => ?_)
        · go_simp
        clear hcl hS
        have hcl := hcl'; have hS := hS'; clear hcl' hS'
        simp only [Act.put, List.setIfInBounds_toArray, List.set_cons_zero, List.set_cons_succ]
        refine wpAnyL_takeD 21 (some 67) (.pointer (some ⟨b, o + k * 3 + 2, none⟩)) (fun _ => True) rfl rfl (by kernel_rfl) (by kernel_rfl) (by kernel_rfl) (fun _ _ _ h => h) (fun listed w' => by simp only [getD_skip listed (show 21 ≠ 25 by decide), getD_skip listed (show 21 ≠ 27 by decide), getD_skip listed (show 21 ≠ 29 by decide)]) hcl hS (fun _ _ _ _ _ => trivial) (.inl ⟨rfl, fun w' hSi => ?_⟩) (fun hcl' hS' => ?_)
        · go_simp
        clear hcl hS
        have hcl := hcl'; have hS := hS'; clear hcl' hS'
        simp only [Act.put, List.setIfInBounds_toArray, List.set_cons_zero, List.set_cons_succ]
        refine wpAnyL_takeD 22 (some 68) (.int .i64 (at_ l k).z) (fun w' => w'.cell? ⟨b, o + k * 3, none⟩ = some (.int .i64 (at_ l k).x) ∧ w'.cell? ⟨b, o + k * 3 + 1, none⟩ = some (.int .i64 (at_ l k).y) ∧ w'.cell? ⟨b, o + k * 3 + 2, none⟩ = some (.int .i64 (at_ l k).z)) rfl rfl (by kernel_rfl) (by kernel_rfl) (by kernel_rfl) (fun _ _ _ h => h) (fun listed w' => by simp only [getD_skip listed (show 22 ≠ 25 by decide), getD_skip listed (show 22 ≠ 27 by decide), getD_skip listed (show 22 ≠ 29 by decide)]) hcl hS (fun listed w' _ _ hS => by rw [hS]; go_simp) (.inl ⟨rfl, fun w' hSi => ?_⟩) (fun hcl' hS' => ?_)
        · go_simp
        clear hcl hS
        have hcl := hcl'; have hS := hS'; clear hcl' hS'
        simp only [Act.put, List.setIfInBounds_toArray, List.set_cons_zero, List.set_cons_succ]
        refine wpAnyL_takeD 23 (some 69) (.int .i64 (mx2)) (fun _ => True) rfl rfl (by kernel_rfl) (by kernel_rfl) (by kernel_rfl) (fun _ _ _ h => h) (fun listed w' => by simp only [getD_skip listed (show 23 ≠ 25 by decide), getD_skip listed (show 23 ≠ 27 by decide), getD_skip listed (show 23 ≠ 29 by decide)]) hcl hS (fun _ _ _ _ _ => trivial) (.inl ⟨rfl, fun w' hSi => ?_⟩) (fun hcl' hS' => ?_)
        · go_simp; exact HM2.out
        clear hcl hS
        have hcl := hcl'; have hS := hS'; clear hcl' hS'
        simp only [Act.put, List.setIfInBounds_toArray, List.set_cons_zero, List.set_cons_succ]
        refine wpAnyL_takeD 24 (some 70) (.pointer (some ⟨w.heap.size + 1 + 1, 0, none⟩)) (fun _ => True) rfl rfl (by kernel_rfl) (by kernel_rfl) (by kernel_rfl) (fun _ _ _ h => h) (fun listed w' => by simp only [getD_skip listed (show 24 ≠ 25 by decide), getD_skip listed (show 24 ≠ 27 by decide), getD_skip listed (show 24 ≠ 29 by decide)]) hcl hS (fun _ _ _ _ _ => trivial) (.inl ⟨rfl, fun w' hSi => ?_⟩) (fun hcl' hS' => ?_)
        · go_simp
        clear hcl hS
        have hcl := hcl'; have hS := hS'; clear hcl' hS'
        simp only [Act.put, List.setIfInBounds_toArray, List.set_cons_zero, List.set_cons_succ]
        refine wpAnyL_one 25 (by kernel_rfl) hcl ?_
        refine wpOp_skip (w' := xt ((((w.alloc (.cells #[.int .i64 0, .int .i64 0, .int .i64 0] 23)).alloc (.cells #[.int .i64 0, .int .i64 0, .int .i64 0] 23)).alloc (.cells #[.int .i64 (mx0), .int .i64 (hi V3.y l k), .int .i64 (hi V3.z l k)] 23)).alloc (.cells #[.int .i64 (nx0), .int .i64 (nx1), .int .i64 (nx2)] 23)) ⟨g.blocks, (g.drawn + 1) + 1⟩) rfl rfl rfl ?_ ⟨by kernel_rfl, fun hcl' hS' => ?_⟩
        · go_simp
        clear hcl hS
        have hcl := hcl'; have hS := hS'; clear hcl' hS'
        refine wpAnyL_takeD 26 (some 71) (.pointer (some ⟨w.heap.size + 1 + 1, 1, none⟩)) (fun _ => True) rfl rfl (by kernel_rfl) (by kernel_rfl) (by kernel_rfl) (fun _ _ _ h => h) (fun listed w' => by simp only [getD_skip listed (show 26 ≠ 25 by decide), getD_skip listed (show 26 ≠ 27 by decide), getD_skip listed (show 26 ≠ 29 by decide)]) hcl hS (fun _ _ _ _ _ => trivial) (.inl ⟨rfl, fun w' hSi => ?_⟩) (fun hcl' hS' => ?_)
        · go_simp
        clear hcl hS
        have hcl := hcl'; have hS := hS'; clear hcl' hS'
        simp only [Act.put, List.setIfInBounds_toArray, List.set_cons_zero, List.set_cons_succ]
        refine wpAnyL_one 27 (by kernel_rfl) hcl ?_
        refine wpOp_skip (w' := xt ((((w.alloc (.cells #[.int .i64 0, .int .i64 0, .int .i64 0] 23)).alloc (.cells #[.int .i64 0, .int .i64 0, .int .i64 0] 23)).alloc (.cells #[.int .i64 (mx0), .int .i64 (mx1), .int .i64 (hi V3.z l k)] 23)).alloc (.cells #[.int .i64 (nx0), .int .i64 (nx1), .int .i64 (nx2)] 23)) ⟨g.blocks, (g.drawn + 1) + 1⟩) rfl rfl rfl ?_ ⟨by kernel_rfl, fun hcl' hS' => ?_⟩
        · go_simp
        clear hcl hS
        have hcl := hcl'; have hS := hS'; clear hcl' hS'
        refine wpAnyL_takeD 28 (some 72) (.pointer (some ⟨w.heap.size + 1 + 1, 2, none⟩)) (fun _ => True) rfl rfl (by kernel_rfl) (by kernel_rfl) (by kernel_rfl) (fun _ _ _ h => h) (fun listed w' => by simp only [getD_skip listed (show 28 ≠ 25 by decide), getD_skip listed (show 28 ≠ 27 by decide), getD_skip listed (show 28 ≠ 29 by decide)]) hcl hS (fun _ _ _ _ _ => trivial) (.inl ⟨rfl, fun w' hSi => ?_⟩) (fun hcl' hS' => ?_)
        · go_simp
        clear hcl hS
        have hcl := hcl'; have hS := hS'; clear hcl' hS'
        simp only [Act.put, List.setIfInBounds_toArray, List.set_cons_zero, List.set_cons_succ]
        refine wpAnyL_one 29 (by kernel_rfl) hcl ?_
        refine wpOp_skip (w' := xt ((((w.alloc (.cells #[.int .i64 0, .int .i64 0, .int .i64 0] 23)).alloc (.cells #[.int .i64 0, .int .i64 0, .int .i64 0] 23)).alloc (.cells #[.int .i64 (mx0), .int .i64 (mx1), .int .i64 (mx2)] 23)).alloc (.cells #[.int .i64 (nx0), .int .i64 (nx1), .int .i64 (nx2)] 23)) ⟨g.blocks, (g.drawn + 1) + 1⟩) rfl rfl rfl ?_ ⟨by kernel_rfl, fun hcl' hS' => ?_⟩
        · go_simp
        clear hcl hS
        have hcl := hcl'; have hS := hS'; clear hcl' hS'
        refine wpAnyL_done (by kernel_rfl) ?_ _
        clear hcl hS
        go_wp2_with fail
        go_roundw
        case rel =>
          refine ⟨k + 1, ?_⟩
          rw [lo_succ V3.x l k, lo_succ V3.y l k, lo_succ V3.z l k, hi_succ V3.x l k, hi_succ V3.y l k, hi_succ V3.z l k, HN0.out, HN1.out, HN2.out, HM0.out, HM1.out, HM2.out]
          exact ⟨_, by omega, by go_num, (Classical.choose_spec (xt_of_below (by repeat' (first | exact Below.refl _ _ | assumption | refine Below.xt ?_ ?_ _ | refine Below.alloc ?_ ?_ _ | refine Below.drew ?_ | refine Below.setCell ?_ ?_ _ | (simp; done) | (simp; omega)))))⟩
        case measure => simp [intOf]; omega
      · have e : k = n := by omega
        subst e
        go_wp2_with fail
        go_region
        go_wp2_with fail
        refine bodyPost_ret (v := .tuple #[.agg #[.int .i64 (lo V3.x l k), .int .i64 (lo V3.y l k), .int .i64 (lo V3.z l k)], .agg #[.int .i64 (hi V3.x l k), .int .i64 (hi V3.y l k), .int .i64 (hi V3.z l k)]]) (by simp [results, Try.results31, go_sem]) rfl ?_
        exact RetB.of rfl (by repeat' (first | exact Below.refl _ _ | assumption | refine Below.xt ?_ ?_ _ | refine Below.alloc ?_ ?_ _ | refine Below.drew ?_ | refine Below.setCell ?_ ?_ _ | (simp; done) | (simp; omega)))

end Go.Proofs.Ytjgfobknifobhaa


/- Walks: the colours of all aircraft at some points, by the reference; equal lists of colours. Conditions stand in each theorem. -/
import Derived.Test.YtiikejhkhdmgeaaGreatLigA2
import Derived.Test.YtiikejhkhdmgeaaGreatLigR4
namespace Go.Proofs.YtiikejhkhdmgeaaGreat
open Go.RowKit
set_option linter.unusedVariables false
set_option linter.unusedSimpArgs false
attribute [local go_sem ↓] ldr16 ldr18

set_option maxRecDepth 100000 in
set_option maxHeartbeats 1600000 in
theorem rAll_head (A1 A2 A3 A : Option Addr) (c1 c2 c3 n cap : Nat) (L : Li) (t : Int) (w : World) (hF : FineL L) (hr : RowL w A1 A2 A3 L) (hn : n ≤ 4294967296) (h : liB L = false ∨ n ≠ L.nG) :
    Calls Tryz.prog 7 #[.agg #[.slice A1 L.nG c1, .slice A2 L.cs.length c2, .slice A3 L.os.length c3], .slice A n cap, .int .i64 t] w (RetB (.tuple #[.slice none 0 0, .int .i64 2]) w) := by
  have K := fun w h => Lib.hid (rlValid_any A1 A2 A3 c1 c2 c3 L w hF h)
  have HR := Lib.hid hr
  have n1 := hF.n
  cases hv : liB L
  · rw [hv] at K
    clear hr hF h hv
    go_enter Tryz.func7, Tryz.ntmps7
    go_wp2_with fail
    refine (RetB.grown (K _ (by repeat (first | (with_reducible exact HR.out) | (with_reducible refine RowL.alloc ?_ _) | (with_reducible refine RowL.drew ?_) | (with_reducible refine RowL.xt ?_ _)))).out).mono ?_
    rintro e' w' ⟨rfl, g1, rfl⟩
    go_wp2_with fail
    go_ret2
    exact RetB.of rfl (by repeat' (first | exact Below.refl _ _ | assumption | refine Below.xt ?_ ?_ _ | refine Below.alloc ?_ ?_ _ | refine Below.drew ?_ | refine Below.setCell ?_ ?_ _ | (simp; done) | (simp; omega)))
  · have hne : n ≠ L.nG := by
      rcases h with h | h
      · rw [hv] at h; cases h
      · exact h
    rw [hv] at K
    have b1 : ((n : Int) == (L.nG : Int)) = false := beq_eq_false_iff_ne.2 (by omega)
    have b2 : (n == L.nG) = false := beq_eq_false_iff_ne.2 hne
    have b3 : ¬ (n : Int) = (L.nG : Int) := by omega
    clear hr hF h hv
    go_enter Tryz.func7, Tryz.ntmps7
    go_wp2_with fail
    refine (RetB.grown (K _ (by repeat (first | (with_reducible exact HR.out) | (with_reducible refine RowL.alloc ?_ _) | (with_reducible refine RowL.drew ?_) | (with_reducible refine RowL.xt ?_ _)))).out).mono ?_
    rintro e' w' ⟨rfl, g1, rfl⟩
    go_wp2_with fail
    go_ret2
    exact RetB.of rfl (by repeat' (first | exact Below.refl _ _ | assumption | refine Below.xt ?_ ?_ _ | refine Below.alloc ?_ ?_ _ | refine Below.drew ?_ | refine Below.setCell ?_ ?_ _ | (simp; done) | (simp; omega)))

set_option maxRecDepth 100000 in
set_option maxHeartbeats 1600000 in
theorem rAll_bad (A1 A2 A3 : Option Addr) (c1 c2 c3 b o cap : Nat) (L : Li) (l : List V3) (t : Int) (w : World) (hF : FineL L) (hr : RowL w A1 A2 A3 L) (hl : liB L = true) (hn : L.nG = l.length) (hv : RowV w (some ⟨b, o, none⟩) l) (hp : ∃ i, i < L.nG ∧ pointAt l i = false) :
    Calls Tryz.prog 7 #[.agg #[.slice A1 L.nG c1, .slice A2 L.cs.length c2, .slice A3 L.os.length c3], .slice (some ⟨b, o, none⟩) L.nG cap, .int .i64 t] w (RetB (.tuple #[.slice none 0 0, .int .i64 2]) w) := by
  have K := fun w h => Lib.hid (rlValid_any A1 A2 A3 c1 c2 c3 L w hF h)
  rw [hl] at K
  have h0 : 0 < L.nG := by obtain ⟨i, hi, _⟩ := hp; omega
  obtain ⟨b', o', ea, hb, hc⟩ := hv.at_ (by omega)
  injection ea with ea
  injection ea with e1 e2
  subst e1 e2
  have HR := Lib.hid hr
  have HN := Lib.hid hn
  have HC := Lib.hid hc
  have HP := Lib.hid hp
  have n1 := hF.n
  clear hn hr hp hc hF hl hv
  go_enter Tryz.func7, Tryz.ntmps7
  go_wp2_with fail
  refine (RetB.grown (K _ (by repeat (first | (with_reducible exact HR.out) | (with_reducible refine RowL.alloc ?_ _) | (with_reducible refine RowL.drew ?_) | (with_reducible refine RowL.xt ?_ _)))).out).mono ?_
  rintro e' w' ⟨rfl, g1, rfl⟩
  go_wp2_with fail
  go_loopw [8] (fun i wr => ∃ (k : Nat) (g : Gr), k ≤ L.nG ∧ Hid (∀ j, j < k → pointAt l j = true) ∧ i = .int .i64 k ∧ wr = xt (w.alloc (.cells #[.slice A1 L.nG c1, .slice A2 L.cs.length c2, .slice A3 L.os.length c3] 26)) g) (fun i _ => L.nG - (intOf i).toNat)
  case atStart => exact ⟨0, _, by omega, fun j hj => absurd hj (by omega), rfl, rfl⟩
  case round =>
    obtain ⟨k, g, hk, HK, rfl, rfl⟩ := hrel
    by_cases hlt : k < L.nG
    · obtain ⟨hx, hy, hz⟩ := RowV.cells HC.out (HN.out ▸ hlt)
      have hs := fun (j : Nat) (hj : j < k + 1) (h : pointAt l k = true) => show pointAt l j = true from if e : j = k then e ▸ h else HK.out j (by omega)
      have HS := Lib.hid hs
      clear hs
      have hpa : pointAt l k = point (at_ l k) := rfl
      rw [hpa] at HS
      clear hpa
      generalize at_ l k = v at *
      by_cases hok : point v = true
      · have HO := Lib.hid hok
        go_wp2_with (first
          | (go_at_call 21; refine (RetB.grown (refPoint_any v _)).mono ?_; rintro e' w' ⟨rfl, g, rfl⟩)
          | (refine wp_region_xt (by kernel_rfl) (by kernel_rfl) ?_; (repeat (go_big_quiet_step (first | (go_at_call 21; exact RetB.quiet (refPoint_any v _))))); refine wpQuiet_nil ?_; intro g))
        go_roundw
        case rel => exact ⟨k + 1, _, by omega, fun j hj => HS.out j hj HO.out, by go_num, (Classical.choose_spec (xt_of_below (by repeat' (first | exact Below.refl _ _ | assumption | refine Below.xt ?_ ?_ _ | refine Below.alloc ?_ ?_ _ | refine Below.drew ?_ | refine Below.setCell ?_ ?_ _ | (simp; done) | (simp; omega)))))⟩
        case measure => simp [intOf]; omega
      · have hok' : point v = false := by simpa using hok
        clear hok
        go_wp2_with (first
          | (go_at_call 21; refine (RetB.grown (refPoint_any v _)).mono ?_; rintro e' w' ⟨rfl, g, rfl⟩)
          | (refine wp_region_xt (by kernel_rfl) (by kernel_rfl) ?_; (repeat (go_big_quiet_step (first | (go_at_call 21; exact RetB.quiet (refPoint_any v _))))); refine wpQuiet_nil ?_; intro g))
        go_ret2
        exact RetB.of rfl (by repeat' (first | exact Below.refl _ _ | assumption | refine Below.xt ?_ ?_ _ | refine Below.alloc ?_ ?_ _ | refine Below.drew ?_ | refine Below.setCell ?_ ?_ _ | (simp; done) | (simp; omega)))
    · exfalso
      obtain ⟨j, hj, hf⟩ := HP.out
      have := HK.out j (by omega)
      rw [hf] at this
      cases this

set_option maxRecDepth 100000 in
set_option maxHeartbeats 3200000 in
theorem rAll_range (A1 A2 A3 : Option Addr) (c1 c2 c3 b o cap : Nat) (L : Li) (l : List V3) (t : Int) (w : World) (hF : FineL L) (hr : RowL w A1 A2 A3 L) (hl : liB L = true) (hn : L.nG = l.length) (hv : RowV w (some ⟨b, o, none⟩) l) (hp : ∀ i, i < L.nG → pointAt l i = true) (ht : ¬ (0 ≤ t ∧ t ≤ 3600000)) :
    Calls Tryz.prog 7 #[.agg #[.slice A1 L.nG c1, .slice A2 L.cs.length c2, .slice A3 L.os.length c3], .slice (some ⟨b, o, none⟩) L.nG cap, .int .i64 t] w (RetB (.tuple #[.slice none 0 0, .int .i64 3]) w) := by
  have K := fun w h => Lib.hid (rlValid_any A1 A2 A3 c1 c2 c3 L w hF h)
  rw [hl] at K
  have h0 := (liB_iff.1 hl).1.1
  obtain ⟨b', o', ea, hb, hc⟩ := hv.at_ (by omega)
  injection ea with ea
  injection ea with e1 e2
  subst e1 e2
  have HR := Lib.hid hr
  have HN := Lib.hid hn
  have HC := Lib.hid hc
  have HP := Lib.hid hp
  have n1 := hF.n
  clear hn hr hp hc hF hl hv
  go_enter Tryz.func7, Tryz.ntmps7
  go_wp2_with fail
  refine (RetB.grown (K _ (by repeat (first | (with_reducible exact HR.out) | (with_reducible refine RowL.alloc ?_ _) | (with_reducible refine RowL.drew ?_) | (with_reducible refine RowL.xt ?_ _)))).out).mono ?_
  rintro e' w' ⟨rfl, g1, rfl⟩
  go_wp2_with fail
  go_loopw [8] (fun i wr => ∃ (k : Nat) (g : Gr), k ≤ L.nG ∧ i = .int .i64 k ∧ wr = xt (w.alloc (.cells #[.slice A1 L.nG c1, .slice A2 L.cs.length c2, .slice A3 L.os.length c3] 26)) g) (fun i _ => L.nG - (intOf i).toNat)
  case atStart => exact ⟨0, _, by omega, rfl, rfl⟩
  case round =>
    obtain ⟨k, g, hk, rfl, rfl⟩ := hrel
    by_cases hlt : k < L.nG
    · obtain ⟨hx, hy, hz⟩ := RowV.cells HC.out (HN.out ▸ hlt)
      have hv := HP.out k hlt
      unfold pointAt at hv
      generalize at_ l k = v at *
      go_wp2_with (first
        | (go_at_call 21; refine (RetB.grown (refPoint_any v _)).mono ?_; rintro e' w' ⟨rfl, g, rfl⟩)
        | (refine wp_region_xt (by kernel_rfl) (by kernel_rfl) ?_; (repeat (go_big_quiet_step (first | (go_at_call 21; exact RetB.quiet (refPoint_any v _))))); refine wpQuiet_nil ?_; intro g))
      go_roundw
      case rel => exact ⟨k + 1, _, by omega, by go_num, (Classical.choose_spec (xt_of_below (by repeat' (first | exact Below.refl _ _ | assumption | refine Below.xt ?_ ?_ _ | refine Below.alloc ?_ ?_ _ | refine Below.drew ?_ | refine Below.setCell ?_ ?_ _ | (simp; done) | (simp; omega)))))⟩
      case measure => simp [intOf]; omega
    · go_wp2_with fail
      all_goals first | (exfalso; omega) | skip
      all_goals go_ret2
      all_goals exact RetB.of rfl (by repeat' (first | exact Below.refl _ _ | assumption | refine Below.xt ?_ ?_ _ | refine Below.alloc ?_ ?_ _ | refine Below.drew ?_ | refine Below.setCell ?_ ?_ _ | (simp; done) | (simp; omega)))

set_option maxRecDepth 100000 in
set_option maxHeartbeats 3200000 in
theorem rAll_ok (A1 A2 A3 : Option Addr) (c1 c2 c3 b o cap : Nat) (L : Li) (l : List V3) (t : Int) (w : World) (hF : FineL L) (hr : RowL w A1 A2 A3 L) (hn : L.nG = l.length) (hv : RowV w (some ⟨b, o, none⟩) l) (hp : ∀ i, i < L.nG → pointAt l i = true) (hE : fineE L 0 t = 0) :
    Calls Tryz.prog 7 #[.agg #[.slice A1 L.nG c1, .slice A2 L.cs.length c2, .slice A3 L.os.length c3], .slice (some ⟨b, o, none⟩) L.nG cap, .int .i64 t] w (RetRow L.nG 3 (fun i => ccell (allC L l t i)) w) := by
  obtain ⟨hl, ⟨_, ha0⟩, ht0, ht1⟩ := fine_zero.1 hE
  have K := fun w h => Lib.hid (rlValid_any A1 A2 A3 c1 c2 c3 L w hF h)
  rw [hl] at K
  have C2 := fun (k : Nat) v (w : World) (hk : k < L.nG) (hv : at_ l k = v) (h : RowL w A1 A2 A3 L) => Lib.hid (by
    have hpk : point v = true := by have := hp k hk; rw [pointAt, hv] at this; exact this
    have hk0 : fineE L (k : Nat) t = 0 := fine_zero.2 ⟨hl, ⟨by omega, by omega⟩, ht0, ht1⟩
    have c := rlAt_any A1 A2 A3 c1 c2 c3 L (k : Nat) v t w hF h
    have eA : atE L (k : Nat) v t = 0 := by rw [atE, if_pos hpk, hk0]
    have eC : atC L (k : Nat) v t = allC L l t k := by rw [atC, if_pos eA]; unfold allC; rw [hv]
    rw [eA, eC] at c
    exact c)
  have h0 := (liB_iff.1 hl).1.1
  have h64 := (liB_iff.1 hl).1.2
  obtain ⟨b', o', ea, hb, hc⟩ := hv.at_ (by omega)
  injection ea with ea
  injection ea with e1 e2
  subst e1 e2
  have HR := Lib.hid hr
  have HN := Lib.hid hn
  have HC := Lib.hid hc
  have HP := Lib.hid hp
  clear hn hr hp hc hF hl hv hE
  go_enter Tryz.func7, Tryz.ntmps7
  go_wp2_with fail
  refine (RetB.grown (K _ (by repeat (first | (with_reducible exact HR.out) | (with_reducible refine RowL.alloc ?_ _) | (with_reducible refine RowL.drew ?_) | (with_reducible refine RowL.xt ?_ _)))).out).mono ?_
  rintro e' w' ⟨rfl, g1, rfl⟩
  go_wp2_with fail
  go_loopw [8] (fun i wr => ∃ (k : Nat) (g : Gr), k ≤ L.nG ∧ i = .int .i64 k ∧ wr = xt (w.alloc (.cells #[.slice A1 L.nG c1, .slice A2 L.cs.length c2, .slice A3 L.os.length c3] 26)) g) (fun i _ => L.nG - (intOf i).toNat)
  case atStart => exact ⟨0, _, by omega, rfl, rfl⟩
  case round =>
    obtain ⟨k, g, hk, rfl, rfl⟩ := hrel
    by_cases hlt : k < L.nG
    · obtain ⟨hx, hy, hz⟩ := RowV.cells HC.out (HN.out ▸ hlt)
      have hv := HP.out k hlt
      unfold pointAt at hv
      clear C2
      generalize at_ l k = v at *
      go_wp2_with (first
        | (go_at_call 21; refine (RetB.grown (refPoint_any v _)).mono ?_; rintro e' w' ⟨rfl, g, rfl⟩)
        | (refine wp_region_xt (by kernel_rfl) (by kernel_rfl) ?_; (repeat (go_big_quiet_step (first | (go_at_call 21; exact RetB.quiet (refPoint_any v _))))); refine wpQuiet_nil ?_; intro g))
      go_roundw
      case rel => exact ⟨k + 1, _, by omega, by go_num, (Classical.choose_spec (xt_of_below (by repeat' (first | exact Below.refl _ _ | assumption | refine Below.xt ?_ ?_ _ | refine Below.alloc ?_ ?_ _ | refine Below.drew ?_ | refine Below.setCell ?_ ?_ _ | (simp; done) | (simp; omega)))))⟩
      case measure => simp [intOf]; omega
    · go_wp2_with fail
      clear hlt hk HP
      obtain ⟨i0, hi0, hz0, hz1, hz2⟩ := info_parts infoCol
      go_loopw [9, 10] (fun s i wr => ∃ (k : Nat) (g : Gr), k ≤ L.nG ∧ i = .int .i64 k ∧ wr = xt (w.alloc (.cells #[.slice A1 L.nG c1, .slice A2 L.cs.length c2, .slice A3 L.os.length c3] 26)) g ∧ Hid ((xt (w.alloc (.cells #[.slice A1 L.nG c1, .slice A2 L.cs.length c2, .slice A3 L.os.length c3] 26)) g).ownsRow ((w.alloc (.cells #[.slice A1 L.nG c1, .slice A2 L.cs.length c2, .slice A3 L.os.length c3] 26))).heap.size 42 3 s k (flat k 3 fun i => ccell (allC L l t i)))) (fun _ i _ => L.nG - (intOf i).toNat)
      case atStart => exact ⟨0, _, by omega, rfl, rfl, own_nil⟩
      case round =>
        obtain ⟨k, g, hk, rfl, rfl, HO⟩ := hrel
        by_cases hlt : k < L.nG
        · obtain ⟨hx, hy, hz⟩ := RowV.cells HC.out (HN.out ▸ hlt)
          have K2 := fun v w hv => C2 k v w hlt hv
          generalize hv : at_ l k = v at *
          have K3 := fun w => K2 v w rfl
          clear hv K2 C2
          go_wp2_with fail
          go_region_held3 (fun w' => w'.cell? ⟨w.heap.size, 0, none⟩ = some (.slice A1 L.nG c1) ∧ w'.cell? ⟨w.heap.size, 1, none⟩ = some (.slice A2 L.cs.length c2) ∧ w'.cell? ⟨w.heap.size, 2, none⟩ = some (.slice A3 L.os.length c3) ∧ old w.heap.size w' ∧ old b w' ∧ w'.cell? ⟨b, o + k * 3, none⟩ = some (.int .i64 v.x) ∧ w'.cell? ⟨b, o + k * 3 + 1, none⟩ = some (.int .i64 v.y) ∧ w'.cell? ⟨b, o + k * 3 + 2, none⟩ = some (.int .i64 v.z)) (go_simp) (first | (go_at_call 22; (with_reducible refine (RetB.grown (K3 _ (by repeat (first | (with_reducible exact HR.out) | (with_reducible refine RowL.alloc ?_ _) | (with_reducible refine RowL.drew ?_) | (with_reducible refine RowL.xt ?_ _)))).out).mono ?_); rintro e' w' ⟨rfl, g, rfl⟩) | fail)
          all_goals go_wp2_with (at_builtin; go_must (refine wpList_append_own _ rfl _ _ 30 rfl ((w.alloc (.cells #[.slice A1 L.nG c1, .slice A2 L.cs.length c2, .slice A3 L.os.length c3] 26))).heap.size 42 i0 _ 3 3 Tryz.underlying30 hi0 hz0 hz1 hz2 rfl (by omega) u9 k (flat k 3 fun i => ccell (allC L l t i)) rfl (by repeat (first | (with_reducible exact HO.out) | (with_reducible exact own_drawn HO.out _) | (with_reducible refine World.ownsRow.alloc ?_ _) | (with_reducible refine own_xt ?_ _))) _ 1 _ [.int .u8 (allC L l t k).r, .int .u8 (allC L l t k).g, .int .u8 (allC L l t k).b] rfl rfl ?_ ?_ ?_ ?_ ?_ ?_))
          all_goals first
            | exact cells_new _ _ _ _ (by simp)
            | (intro u hu; simp only [List.mem_cons, List.not_mem_nil, or_false] at hu; rcases hu with rfl | rfl | rfl <;> rfl)
            | (simp only [maxLen]; omega)
            | omega
            | (simp; omega)
            | skip
          all_goals
            intro v1 w1 hown1 hgr1 _
            have hb1 : Below ((w.alloc (.cells #[.slice A1 L.nG c1, .slice A2 L.cs.length c2, .slice A3 L.os.length c3] 26))).heap.size (w.alloc (.cells #[.slice A1 L.nG c1, .slice A2 L.cs.length c2, .slice A3 L.os.length c3] 26)) w1 := below_grown (n := k) (v := u9) (xs := flat k 3 fun i => ccell (allC L l t i)) (e := 42) (s := 3) (by repeat' (first | exact Below.refl _ _ | assumption | refine Below.xt ?_ ?_ _ | refine Below.alloc ?_ ?_ _ | refine Below.drew ?_ | refine Below.setCell ?_ ?_ _ | (simp; done) | (simp; omega))) (by simp; omega) (by repeat (first | (with_reducible exact HO.out) | (with_reducible exact own_drawn HO.out _) | (with_reducible refine World.ownsRow.alloc ?_ _) | (with_reducible refine own_xt ?_ _))) hgr1
            obtain ⟨g9, rfl⟩ := xt_of_below hb1
            have HO1 := Lib.hid (show (xt (w.alloc (.cells #[.slice A1 L.nG c1, .slice A2 L.cs.length c2, .slice A3 L.os.length c3] 26)) g9).ownsRow ((w.alloc (.cells #[.slice A1 L.nG c1, .slice A2 L.cs.length c2, .slice A3 L.os.length c3] 26))).heap.size 42 3 v1 (k + 1) (flat (k + 1) 3 fun i => ccell (allC L l t i)) by rw [flat_succ (by omega)]; simp only [World.size_alloc]; exact hown1)
            clear hown1 hgr1 hb1 HO
            go_wp2_with fail
            go_roundw
            case rel => exact ⟨k + 1, g9, by omega, by go_num, rfl, HO1⟩
            case measure => simp [intOf]; omega
        · have e1 : k = L.nG := by omega
          subst e1
          go_wp2_with fail
          obtain ⟨A', c', rfl, hrow⟩ := Row.of_own HO.out rfl
          go_ret2
          exact ⟨_, _, rfl, (by repeat' (first | exact Below.refl _ _ | assumption | refine Below.xt ?_ ?_ _ | refine Below.alloc ?_ ?_ _ | refine Below.drew ?_ | refine Below.setCell ?_ ?_ _ | (simp; done) | (simp; omega))), hrow⟩

set_option maxHeartbeats 800000 in
theorem same_col (A B : Option Addr) (n c d : Nat) (F : Nat → Col) (w : World) (hm : n ≤ 4294967296) (ha : Row w A n 3 fun i => ccell (F i)) (hb : Row w B n 3 fun i => ccell (F i)) :
    Calls Tryz.prog 8 #[.slice A n c, .slice B n d] w (RetB (.bool true) w) := by
  rcases Nat.eq_zero_or_pos n with h0 | h0
  · subst h0
    clear ha hb
    go_enter Tryz.func8, Tryz.ntmps8
    go_wp2_with fail
    go_rounds 1
    go_ret
    exact RetB.of rfl (by repeat' (first | exact Below.refl _ _ | assumption | refine Below.xt ?_ ?_ _ | refine Below.alloc ?_ ?_ _ | refine Below.drew ?_ | refine Below.setCell ?_ ?_ _ | (simp; done) | (simp; omega)))
  · obtain ⟨a, o, rfl, ho, hc⟩ := ha.at_ h0
    obtain ⟨b, q, rfl, hq, hd⟩ := hb.at_ h0
    have HC := Lib.hid hc
    have HD := Lib.hid hd
    clear hc hd ha hb
    go_enter Tryz.func8, Tryz.ntmps8
    go_wp2_with fail
    go_loopw [5] (fun i wr => ∃ (k : Nat) (g : Gr), k ≤ n ∧ i = .int .i64 k ∧ wr = xt w g) (fun i _ => n - (intOf i).toNat)
    case atStart => exact ⟨0, ⟨[], _⟩, by omega, rfl, (xt_self _).symm⟩
    case round =>
      obtain ⟨k, g, hk, rfl, rfl⟩ := hrel
      by_cases hlt : k < n
      · have hx := HC.out k 0 hlt (by omega)
        have hy := HC.out k 1 hlt (by omega)
        have hz := HC.out k 2 hlt (by omega)
        have gx := HD.out k 0 hlt (by omega)
        have gy := HD.out k 1 hlt (by omega)
        have gz := HD.out k 2 hlt (by omega)
        simp only [Nat.add_zero, ccell] at hx hy hz gx gy gz
        generalize F k = v at *
        go_wp2_with (first
          | (refine wp_region_xt (by kernel_rfl) (by kernel_rfl) ?_; (repeat (go_big_quiet_step (first | fail))); refine wpQuiet_nil ?_; intro g))
        go_roundw
        case rel => exact ⟨k + 1, _, by omega, by go_num, (Classical.choose_spec (xt_of_below (by repeat' (first | exact Below.refl _ _ | assumption | refine Below.xt ?_ ?_ _ | refine Below.alloc ?_ ?_ _ | refine Below.drew ?_ | refine Below.setCell ?_ ?_ _ | (simp; done) | (simp; omega)))))⟩
        case measure => simp [intOf]; omega
      · go_wp2_with fail
        go_ret
        exact RetB.of rfl (by repeat' (first | exact Below.refl _ _ | assumption | refine Below.xt ?_ ?_ _ | refine Below.alloc ?_ ?_ _ | refine Below.drew ?_ | refine Below.setCell ?_ ?_ _ | (simp; done) | (simp; omega)))

end Go.Proofs.YtiikejhkhdmgeaaGreat

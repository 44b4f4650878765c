/- Walks: the colours of all aircraft at some points, by the reference; equal lists of colours. Conditions stand in each theorem. -/
import Derived.Test.YtjnajibflalmbaaEffA2
import Derived.Deep.RegionHeld3
namespace Go.Proofs.Ytjnajibflalmbaa
open Go.RowKit
set_option linter.unusedVariables false
attribute [local go_sem ↓] ld16

theorem own_xt {w : World} {base : Nat} {e : TypeId} {s n : Nat} {v : Value} {xs : List Value} (h : w.ownsRow base e s v n xs) (g : Gr) : (xt w g).ownsRow base e s v n xs := by
  refine ⟨h.1, ?_⟩
  rcases h.2 with h' | ⟨gb, cap, cur, hv, hb, hg, hrest⟩
  · exact .inl h'
  · have hlt : gb < w.heap.size := by
      rcases Nat.lt_or_ge gb w.heap.size with hlt | hge
      · exact hlt
      · rw [Array.getElem?_eq_none hge] at hg; cases hg
    exact .inr ⟨gb, cap, cur, hv, hb, (xt_block w g gb hlt).trans hg, hrest⟩
theorem own_drawn {w : World} {g : Gr} {base : Nat} {e : TypeId} {s n : Nat} {v : Value} {xs : List Value} (h : (xt w g).ownsRow base e s v n xs) (d : Nat) : (xt w ⟨g.blocks, d⟩).ownsRow base e s v n xs := h
theorem cells_new (w : World) (cs : Array Value) (t : TypeId) (m : Nat) (hm : m = w.heap.size) : ∀ j u, cs.toList[j]? = some u → (w.alloc (.cells cs t)).cell? ((⟨m, 0, none⟩ : Addr).add j) = some u := by
  intro j u hu
  rw [zero_add_addr, World.cell?_alloc_at _ _ _ _ hm]
  simpa using hu
theorem own_nil {w : World} {base : Nat} {e : TypeId} {s : Nat} : w.ownsRow base e s (.slice none 0 0) 0 [] := ⟨by simp, .inl ⟨rfl, rfl⟩⟩
/-- What an append leaves, seen from the world in which the call began. -/
theorem below_grown {B : Nat} {w0 w w' : World} {e : TypeId} {s n : Nat} {v : Value} {xs : List Value} (hb : Below B w0 w) (hB : B ≤ w.heap.size) (h : w.ownsRow B e s v n xs) (hg : w.grownBy w' v.ownBlock) : Below B w0 w' := by
  refine hb.grown hg hB fun k hk => ?_
  rcases h.2 with ⟨rfl, _⟩ | ⟨g, cap, cur, rfl, hb, _⟩
  · simp [Value.ownBlock] at hk
  · simp [Value.ownBlock] at hk
    omega

set_option maxHeartbeats 1600000 in
theorem refAll_head (e : Eff) (A : Option Addr) (n cap : Nat) (t : Int) (w : World) (h : effValid e = false ∨ 64 < n) (hm : n ≤ 4294967296) :
    Calls Try.prog 20 #[.agg #[.int .i64 e.kind, .int .i64 e.fr, .int .i64 e.to, .int .i64 e.period, .int .i64 e.width, .int .i64 e.along.x, .int .i64 e.along.y, .int .i64 e.along.z, .int .i64 e.scale, .int .i64 e.seed, .int .u8 e.a.r, .int .u8 e.a.g, .int .u8 e.a.b, .int .u8 e.b.r, .int .u8 e.b.g, .int .u8 e.b.b], .slice A n cap, .int .i64 t] w (RetB (.tuple #[.slice none 0 0, .int .i64 2]) w) := by
  by_cases hv : effValid e = true
  · have h64 : 64 < n := by
      rcases h with h | h
      · rw [hv] at h; cases h
      · exact h
    clear h
    go_enter Try.func20, Try.ntmps20
    go_wp2_with (first
      | (go_at_call 10; refine (RetB.grown (refValid_any e _)).mono ?_; rintro e' w' ⟨rfl, g, rfl⟩)
      | (refine wp_region_xt (by kernel_rfl) (by kernel_rfl) ?_; (repeat (go_big_quiet_step (first | (go_at_call 10; exact RetB.quiet (refValid_any e _))))); refine wpQuiet_nil ?_; intro g))
    go_ret2
    exact RetB.of rfl (by repeat' (first | exact Below.refl _ _ | assumption | refine Below.xt ?_ ?_ _ | refine Below.alloc ?_ ?_ _ | refine Below.drew ?_ | refine Below.setCell ?_ ?_ _ | (simp; done) | (simp; omega)))
  · have hv' : effValid e = false := by simpa using hv
    clear h hv
    go_enter Try.func20, Try.ntmps20
    go_wp2_with (first
      | (go_at_call 10; refine (RetB.grown (refValid_any e _)).mono ?_; rintro e' w' ⟨rfl, g, rfl⟩)
      | (refine wp_region_xt (by kernel_rfl) (by kernel_rfl) ?_; (repeat (go_big_quiet_step (first | (go_at_call 10; exact RetB.quiet (refValid_any e _))))); refine wpQuiet_nil ?_; intro g))
    go_ret2
    exact RetB.of rfl (by repeat' (first | exact Below.refl _ _ | assumption | refine Below.xt ?_ ?_ _ | refine Below.alloc ?_ ?_ _ | refine Below.drew ?_ | refine Below.setCell ?_ ?_ _ | (simp; done) | (simp; omega)))

set_option maxRecDepth 100000 in
set_option maxHeartbeats 1600000 in
theorem refAll_bad (e : Eff) (b o n cap : Nat) (l : List V3) (t : Int) (w : World) (hn : n = l.length) (hm : n ≤ 64) (hr : RowV w (some ⟨b, o, none⟩) l) (hv : effValid e = true) (hp : ∃ i, i < n ∧ pointAt l i = false) :
    Calls Try.prog 20 #[.agg #[.int .i64 e.kind, .int .i64 e.fr, .int .i64 e.to, .int .i64 e.period, .int .i64 e.width, .int .i64 e.along.x, .int .i64 e.along.y, .int .i64 e.along.z, .int .i64 e.scale, .int .i64 e.seed, .int .u8 e.a.r, .int .u8 e.a.g, .int .u8 e.a.b, .int .u8 e.b.r, .int .u8 e.b.g, .int .u8 e.b.b], .slice (some ⟨b, o, none⟩) n cap, .int .i64 t] w (RetB (.tuple #[.slice none 0 0, .int .i64 2]) w) := by
  have h0 : 0 < n := by obtain ⟨i, hi, _⟩ := hp; omega
  obtain ⟨b', o', ea, hb, hc⟩ := hr.at_ (by omega)
  injection ea with ea
  injection ea with e1 e2
  subst e1 e2
  have HN := Lib.hid hn
  have HC := Lib.hid hc
  have HP := Lib.hid hp
  clear hn hr hp hc
  go_enter Try.func20, Try.ntmps20
  go_wp2_with fail
  refine (RetB.grown (refValid_any e _)).mono ?_
  rintro e' w' ⟨rfl, g1, rfl⟩
  go_wp2_with fail
  go_loopw [8] (fun i wr => ∃ (k : Nat) (g : Gr), k ≤ n ∧ Hid (∀ j, j < k → pointAt l j = true) ∧ i = .int .i64 k ∧ wr = xt (w.alloc (.cells #[.int .i64 e.kind, .int .i64 e.fr, .int .i64 e.to, .int .i64 e.period, .int .i64 e.width, .int .i64 e.along.x, .int .i64 e.along.y, .int .i64 e.along.z, .int .i64 e.scale, .int .i64 e.seed, .int .u8 e.a.r, .int .u8 e.a.g, .int .u8 e.a.b, .int .u8 e.b.r, .int .u8 e.b.g, .int .u8 e.b.b] 28)) g) (fun i _ => n - (intOf i).toNat)
  case atStart => exact ⟨0, _, by omega, fun j hj => absurd hj (by omega), rfl, rfl⟩
  case round =>
    obtain ⟨k, g, hk, HK, rfl, rfl⟩ := hrel
    by_cases hlt : k < n
    · obtain ⟨hx, hy, hz⟩ := RowV.cells HC.out (HN.out ▸ hlt)
      have hs := fun (j : Nat) (hj : j < k + 1) (h : pointAt l k = true) => show pointAt l j = true from if e : j = k then e ▸ h else HK.out j (by omega)
      have HS := Lib.hid hs
      clear hs
      have hpa : pointAt l k = point (at_ l k) := rfl
      rw [hpa] at HS
      clear hpa
      generalize at_ l k = v at *
      by_cases hok : point v = true
      · have HO := Lib.hid hok
        go_wp2_with (first
          | (go_at_call 18; refine (RetB.grown (refPoint_any v _)).mono ?_; rintro e' w' ⟨rfl, g, rfl⟩)
          | (refine wp_region_xt (by kernel_rfl) (by kernel_rfl) ?_; (repeat (go_big_quiet_step (first | (go_at_call 18; exact RetB.quiet (refPoint_any v _))))); refine wpQuiet_nil ?_; intro g))
        go_roundw
        case rel => exact ⟨k + 1, _, by omega, fun j hj => HS.out j hj HO.out, by go_num, (Classical.choose_spec (xt_of_below (by repeat' (first | exact Below.refl _ _ | assumption | refine Below.xt ?_ ?_ _ | refine Below.alloc ?_ ?_ _ | refine Below.drew ?_ | refine Below.setCell ?_ ?_ _ | (simp; done) | (simp; omega)))))⟩
        case measure => simp [intOf]; omega
      · have hok' : point v = false := by simpa using hok
        clear hok
        go_wp2_with (first
          | (go_at_call 18; refine (RetB.grown (refPoint_any v _)).mono ?_; rintro e' w' ⟨rfl, g, rfl⟩)
          | (refine wp_region_xt (by kernel_rfl) (by kernel_rfl) ?_; (repeat (go_big_quiet_step (first | (go_at_call 18; exact RetB.quiet (refPoint_any v _))))); refine wpQuiet_nil ?_; intro g))
        go_ret2
        exact RetB.of rfl (by repeat' (first | exact Below.refl _ _ | assumption | refine Below.xt ?_ ?_ _ | refine Below.alloc ?_ ?_ _ | refine Below.drew ?_ | refine Below.setCell ?_ ?_ _ | (simp; done) | (simp; omega)))
    · exfalso
      obtain ⟨j, hj, hf⟩ := HP.out
      have := HK.out j (by omega)
      rw [hf] at this
      cases this

set_option maxRecDepth 100000 in
set_option maxHeartbeats 3200000 in
theorem refAll_range (e : Eff) (A : Option Addr) (n cap : Nat) (l : List V3) (t : Int) (w : World) (hn : n = l.length) (hm : n ≤ 64) (hr : RowV w A l) (hv : effValid e = true) (hp : ∀ i, i < n → pointAt l i = true) (h' : ¬ (e.fr ≤ t ∧ t < e.to)) :
    Calls Try.prog 20 #[.agg #[.int .i64 e.kind, .int .i64 e.fr, .int .i64 e.to, .int .i64 e.period, .int .i64 e.width, .int .i64 e.along.x, .int .i64 e.along.y, .int .i64 e.along.z, .int .i64 e.scale, .int .i64 e.seed, .int .u8 e.a.r, .int .u8 e.a.g, .int .u8 e.a.b, .int .u8 e.b.r, .int .u8 e.b.g, .int .u8 e.b.b], .slice A n cap, .int .i64 t] w (RetB (.tuple #[.slice none 0 0, .int .i64 3]) w) := by
  have HN := Lib.hid hn
  have HP := Lib.hid hp
  clear hn hp
  rcases Nat.eq_zero_or_pos n with h0 | h0
  · subst h0
    clear hr
    go_enter Try.func20, Try.ntmps20
    go_wp2_with fail
    refine (RetB.grown (refValid_any e _)).mono ?_
    rintro e' w' ⟨rfl, g1, rfl⟩
    go_wp2_with fail
    go_rounds 1
    all_goals first | (exfalso; omega) | skip
    all_goals go_ret2
    all_goals exact RetB.of rfl (by repeat' (first | exact Below.refl _ _ | assumption | refine Below.xt ?_ ?_ _ | refine Below.alloc ?_ ?_ _ | refine Below.drew ?_ | refine Below.setCell ?_ ?_ _ | (simp; done) | (simp; omega)))
  · obtain ⟨b, o, rfl, hb, hc⟩ := hr.at_ (HN.out ▸ h0)
    have HC := Lib.hid hc
    clear hc hr
    go_enter Try.func20, Try.ntmps20
    go_wp2_with fail
    refine (RetB.grown (refValid_any e _)).mono ?_
    rintro e' w' ⟨rfl, g1, rfl⟩
    go_wp2_with fail
    go_loopw [8] (fun i wr => ∃ (k : Nat) (g : Gr), k ≤ n ∧ i = .int .i64 k ∧ wr = xt (w.alloc (.cells #[.int .i64 e.kind, .int .i64 e.fr, .int .i64 e.to, .int .i64 e.period, .int .i64 e.width, .int .i64 e.along.x, .int .i64 e.along.y, .int .i64 e.along.z, .int .i64 e.scale, .int .i64 e.seed, .int .u8 e.a.r, .int .u8 e.a.g, .int .u8 e.a.b, .int .u8 e.b.r, .int .u8 e.b.g, .int .u8 e.b.b] 28)) g) (fun i _ => n - (intOf i).toNat)
    case atStart => exact ⟨0, _, by omega, rfl, rfl⟩
    case round =>
      obtain ⟨k, g, hk, rfl, rfl⟩ := hrel
      by_cases hlt : k < n
      · obtain ⟨hx, hy, hz⟩ := RowV.cells HC.out (HN.out ▸ hlt)
        have hv := HP.out k hlt
        unfold pointAt at hv
        generalize at_ l k = v at *
        go_wp2_with (first
          | (go_at_call 18; refine (RetB.grown (refPoint_any v _)).mono ?_; rintro e' w' ⟨rfl, g, rfl⟩)
          | (refine wp_region_xt (by kernel_rfl) (by kernel_rfl) ?_; (repeat (go_big_quiet_step (first | (go_at_call 18; exact RetB.quiet (refPoint_any v _))))); refine wpQuiet_nil ?_; intro g))
        go_roundw
        case rel => exact ⟨k + 1, _, by omega, by go_num, (Classical.choose_spec (xt_of_below (by repeat' (first | exact Below.refl _ _ | assumption | refine Below.xt ?_ ?_ _ | refine Below.alloc ?_ ?_ _ | refine Below.drew ?_ | refine Below.setCell ?_ ?_ _ | (simp; done) | (simp; omega)))))⟩
        case measure => simp [intOf]; omega
      · go_wp2_with fail
        all_goals first | (exfalso; omega) | skip
        all_goals go_ret2
        all_goals exact RetB.of rfl (by repeat' (first | exact Below.refl _ _ | assumption | refine Below.xt ?_ ?_ _ | refine Below.alloc ?_ ?_ _ | refine Below.drew ?_ | refine Below.setCell ?_ ?_ _ | (simp; done) | (simp; omega)))
set_option maxRecDepth 100000 in
set_option maxHeartbeats 3200000 in
theorem refAll_ok (e : Eff) (A : Option Addr) (n cap : Nat) (l : List V3) (t : Int) (w : World) (hn : n = l.length) (hm : n ≤ 64) (hr : RowV w A l) (hv : effValid e = true) (hp : ∀ i, i < n → pointAt l i = true) (ha : e.a.ok) (hb : e.b.ok) (h1 : e.fr ≤ t) (h2 : t < e.to) :
    Calls Try.prog 20 #[.agg #[.int .i64 e.kind, .int .i64 e.fr, .int .i64 e.to, .int .i64 e.period, .int .i64 e.width, .int .i64 e.along.x, .int .i64 e.along.y, .int .i64 e.along.z, .int .i64 e.scale, .int .i64 e.seed, .int .u8 e.a.r, .int .u8 e.a.g, .int .u8 e.a.b, .int .u8 e.b.r, .int .u8 e.b.g, .int .u8 e.b.b], .slice A n cap, .int .i64 t] w (RetRow n 3 (fun i => ccell (colAt e l t i)) w) := by
  have C2 := fun (k : Nat) v w (hk : k < 64) (hv : at_ l k = v) => Lib.hid (by
    have c := refAt_any e k v t w ha hb (by unfold I64; omega)
    have e1 : atErr e k v t = atErr e k v t := rfl
    have e2 : atCol e k v t = colAt e l t k := by unfold colAt; rw [hv]
    rw [e2] at c
    exact c)
  clear ha hb
  have HN := Lib.hid hn
  have HP := Lib.hid hp
  clear hn hp
  rcases Nat.eq_zero_or_pos n with h0 | h0
  · subst h0
    clear hr
    go_enter Try.func20, Try.ntmps20
    go_wp2_with fail
    refine (RetB.grown (refValid_any e _)).mono ?_
    rintro e' w' ⟨rfl, g1, rfl⟩
    go_wp2_with fail
    go_rounds 1
    all_goals first | (exfalso; omega) | skip
    go_rounds 1
    go_ret2
    exact ⟨none, 0, rfl, (by repeat' (first | exact Below.refl _ _ | assumption | refine Below.xt ?_ ?_ _ | refine Below.alloc ?_ ?_ _ | refine Below.drew ?_ | refine Below.setCell ?_ ?_ _ | (simp; done) | (simp; omega))), Row.none_⟩
  · obtain ⟨b, o, rfl, hb, hc⟩ := hr.at_ (HN.out ▸ h0)
    have HC := Lib.hid hc
    clear hc hr
    go_enter Try.func20, Try.ntmps20
    go_wp2_with fail
    refine (RetB.grown (refValid_any e _)).mono ?_
    rintro e' w' ⟨rfl, g1, rfl⟩
    go_wp2_with fail
    go_loopw [8] (fun i wr => ∃ (k : Nat) (g : Gr), k ≤ n ∧ i = .int .i64 k ∧ wr = xt (w.alloc (.cells #[.int .i64 e.kind, .int .i64 e.fr, .int .i64 e.to, .int .i64 e.period, .int .i64 e.width, .int .i64 e.along.x, .int .i64 e.along.y, .int .i64 e.along.z, .int .i64 e.scale, .int .i64 e.seed, .int .u8 e.a.r, .int .u8 e.a.g, .int .u8 e.a.b, .int .u8 e.b.r, .int .u8 e.b.g, .int .u8 e.b.b] 28)) g) (fun i _ => n - (intOf i).toNat)
    case atStart => exact ⟨0, _, by omega, rfl, rfl⟩
    case round =>
      obtain ⟨k, g, hk, rfl, rfl⟩ := hrel
      by_cases hlt : k < n
      · obtain ⟨hx, hy, hz⟩ := RowV.cells HC.out (HN.out ▸ hlt)
        have hv := HP.out k hlt
        unfold pointAt at hv
        generalize at_ l k = v at *
        go_wp2_with (first
          | (go_at_call 18; refine (RetB.grown (refPoint_any v _)).mono ?_; rintro e' w' ⟨rfl, g, rfl⟩)
          | (refine wp_region_xt (by kernel_rfl) (by kernel_rfl) ?_; (repeat (go_big_quiet_step (first | (go_at_call 18; exact RetB.quiet (refPoint_any v _))))); refine wpQuiet_nil ?_; intro g))
        go_roundw
        case rel => exact ⟨k + 1, _, by omega, by go_num, (Classical.choose_spec (xt_of_below (by repeat' (first | exact Below.refl _ _ | assumption | refine Below.xt ?_ ?_ _ | refine Below.alloc ?_ ?_ _ | refine Below.drew ?_ | refine Below.setCell ?_ ?_ _ | (simp; done) | (simp; omega)))))⟩
        case measure => simp [intOf]; omega
      · go_wp2_with fail
        clear hlt hk HP
        obtain ⟨i0, hi0, hz0, hz1, hz2⟩ := info_parts infoCol
        go_loopw [9, 10] (fun s i wr => ∃ (k : Nat) (g : Gr), k ≤ n ∧ i = .int .i64 k ∧ wr = xt (w.alloc (.cells #[.int .i64 e.kind, .int .i64 e.fr, .int .i64 e.to, .int .i64 e.period, .int .i64 e.width, .int .i64 e.along.x, .int .i64 e.along.y, .int .i64 e.along.z, .int .i64 e.scale, .int .i64 e.seed, .int .u8 e.a.r, .int .u8 e.a.g, .int .u8 e.a.b, .int .u8 e.b.r, .int .u8 e.b.g, .int .u8 e.b.b] 28)) g ∧ Hid ((xt (w.alloc (.cells #[.int .i64 e.kind, .int .i64 e.fr, .int .i64 e.to, .int .i64 e.period, .int .i64 e.width, .int .i64 e.along.x, .int .i64 e.along.y, .int .i64 e.along.z, .int .i64 e.scale, .int .i64 e.seed, .int .u8 e.a.r, .int .u8 e.a.g, .int .u8 e.a.b, .int .u8 e.b.r, .int .u8 e.b.g, .int .u8 e.b.b] 28)) g).ownsRow (w.alloc (.cells #[.int .i64 e.kind, .int .i64 e.fr, .int .i64 e.to, .int .i64 e.period, .int .i64 e.width, .int .i64 e.along.x, .int .i64 e.along.y, .int .i64 e.along.z, .int .i64 e.scale, .int .i64 e.seed, .int .u8 e.a.r, .int .u8 e.a.g, .int .u8 e.a.b, .int .u8 e.b.r, .int .u8 e.b.g, .int .u8 e.b.b] 28)).heap.size 26 3 s k (flat k 3 fun i => ccell (colAt e l t i)))) (fun _ i _ => n - (intOf i).toNat)
        case atStart => exact ⟨0, _, by omega, rfl, rfl, own_nil⟩
        case round =>
          obtain ⟨k, g, hk, rfl, rfl, HO⟩ := hrel
          by_cases hlt : k < n
          · obtain ⟨hx, hy, hz⟩ := RowV.cells HC.out (HN.out ▸ hlt)
            have K2 := fun v w hv => C2 k v w (by omega) hv
            generalize hv : at_ l k = v at *
            have K3 := fun w => K2 v w rfl
            clear hv K2 C2
            go_wp2_with fail
            go_region_held3 (fun w' => blk w' w.heap.size = some (.cells #[.int .i64 e.kind, .int .i64 e.fr, .int .i64 e.to, .int .i64 e.period, .int .i64 e.width, .int .i64 e.along.x, .int .i64 e.along.y, .int .i64 e.along.z, .int .i64 e.scale, .int .i64 e.seed, .int .u8 e.a.r, .int .u8 e.a.g, .int .u8 e.a.b, .int .u8 e.b.r, .int .u8 e.b.g, .int .u8 e.b.b] 28 (0, 0)) ∧ old w.heap.size w' ∧ old b w' ∧ w'.cell? ⟨b, o + k * 3, none⟩ = some (.int .i64 v.x) ∧ w'.cell? ⟨b, o + k * 3 + 1, none⟩ = some (.int .i64 v.y) ∧ w'.cell? ⟨b, o + k * 3 + 2, none⟩ = some (.int .i64 v.z)) (go_simp) (first | (go_at_call 15; refine (RetB.grown (K3 _).out).mono ?_; rintro e' w' ⟨rfl, g, rfl⟩))
            all_goals go_wp2_with (at_builtin; go_must (refine wpList_append_own _ rfl _ _ 48 rfl (w.alloc (.cells #[.int .i64 e.kind, .int .i64 e.fr, .int .i64 e.to, .int .i64 e.period, .int .i64 e.width, .int .i64 e.along.x, .int .i64 e.along.y, .int .i64 e.along.z, .int .i64 e.scale, .int .i64 e.seed, .int .u8 e.a.r, .int .u8 e.a.g, .int .u8 e.a.b, .int .u8 e.b.r, .int .u8 e.b.g, .int .u8 e.b.b] 28)).heap.size 26 i0 _ 3 3 Try.underlying48 hi0 hz0 hz1 hz2 rfl (by omega) u9 k (flat k 3 fun i => ccell (colAt e l t i)) rfl (by repeat (first | (with_reducible exact HO.out) | (with_reducible exact own_drawn HO.out _) | (with_reducible refine World.ownsRow.alloc ?_ _) | (with_reducible refine own_xt ?_ _))) _ 1 _ [.int .u8 (colAt e l t k).r, .int .u8 (colAt e l t k).g, .int .u8 (colAt e l t k).b] rfl rfl ?_ ?_ ?_ ?_ ?_ ?_))
            all_goals first
              | exact cells_new _ _ _ _ (by simp)
              | (intro u hu; simp only [List.mem_cons, List.not_mem_nil, or_false] at hu; rcases hu with rfl | rfl | rfl <;> rfl)
              | (simp only [maxLen]; omega)
              | omega
              | (simp; omega)
              | skip
            all_goals
              intro v1 w1 hown1 hgr1 _
              have hb1 : Below (w.alloc (.cells #[.int .i64 e.kind, .int .i64 e.fr, .int .i64 e.to, .int .i64 e.period, .int .i64 e.width, .int .i64 e.along.x, .int .i64 e.along.y, .int .i64 e.along.z, .int .i64 e.scale, .int .i64 e.seed, .int .u8 e.a.r, .int .u8 e.a.g, .int .u8 e.a.b, .int .u8 e.b.r, .int .u8 e.b.g, .int .u8 e.b.b] 28)).heap.size (w.alloc (.cells #[.int .i64 e.kind, .int .i64 e.fr, .int .i64 e.to, .int .i64 e.period, .int .i64 e.width, .int .i64 e.along.x, .int .i64 e.along.y, .int .i64 e.along.z, .int .i64 e.scale, .int .i64 e.seed, .int .u8 e.a.r, .int .u8 e.a.g, .int .u8 e.a.b, .int .u8 e.b.r, .int .u8 e.b.g, .int .u8 e.b.b] 28)) w1 := below_grown (n := k) (v := u9) (xs := flat k 3 fun i => ccell (colAt e l t i)) (e := 26) (s := 3) (by repeat' (first | exact Below.refl _ _ | assumption | refine Below.xt ?_ ?_ _ | refine Below.alloc ?_ ?_ _ | refine Below.drew ?_ | refine Below.setCell ?_ ?_ _ | (simp; done) | (simp; omega))) (by simp; omega) (by repeat (first | (with_reducible exact HO.out) | (with_reducible exact own_drawn HO.out _) | (with_reducible refine World.ownsRow.alloc ?_ _) | (with_reducible refine own_xt ?_ _))) hgr1
              obtain ⟨g9, rfl⟩ := xt_of_below hb1
              have HO1 := Lib.hid (show (xt (w.alloc (.cells #[.int .i64 e.kind, .int .i64 e.fr, .int .i64 e.to, .int .i64 e.period, .int .i64 e.width, .int .i64 e.along.x, .int .i64 e.along.y, .int .i64 e.along.z, .int .i64 e.scale, .int .i64 e.seed, .int .u8 e.a.r, .int .u8 e.a.g, .int .u8 e.a.b, .int .u8 e.b.r, .int .u8 e.b.g, .int .u8 e.b.b] 28)) g9).ownsRow (w.alloc (.cells #[.int .i64 e.kind, .int .i64 e.fr, .int .i64 e.to, .int .i64 e.period, .int .i64 e.width, .int .i64 e.along.x, .int .i64 e.along.y, .int .i64 e.along.z, .int .i64 e.scale, .int .i64 e.seed, .int .u8 e.a.r, .int .u8 e.a.g, .int .u8 e.a.b, .int .u8 e.b.r, .int .u8 e.b.g, .int .u8 e.b.b] 28)).heap.size 26 3 v1 (k + 1) (flat (k + 1) 3 fun i => ccell (colAt e l t i)) by rw [flat_succ (by omega)]; simp only [World.size_alloc]; exact hown1)
              clear hown1 hgr1 hb1 HO
              go_wp2_with fail
              go_roundw
              case rel => exact ⟨k + 1, g9, by omega, by go_num, rfl, HO1⟩
              case measure => simp [intOf]; omega
          · have e1 : k = n := by omega
            subst e1
            go_wp2_with fail
            obtain ⟨A', c', rfl, hrow⟩ := Row.of_own HO.out rfl
            go_ret2
            exact ⟨_, _, rfl, (by repeat' (first | exact Below.refl _ _ | assumption | refine Below.xt ?_ ?_ _ | refine Below.alloc ?_ ?_ _ | refine Below.drew ?_ | refine Below.setCell ?_ ?_ _ | (simp; done) | (simp; omega))), hrow⟩

set_option maxHeartbeats 800000 in
theorem same_any (A B : Option Addr) (n c d : Nat) (F : Nat → Col) (w : World) (hm : n ≤ 4294967296) (ha : Row w A n 3 fun i => ccell (F i)) (hb : Row w B n 3 fun i => ccell (F i)) :
    Calls Try.prog 21 #[.slice A n c, .slice B n d] w (RetB (.bool true) w) := by
  rcases Nat.eq_zero_or_pos n with h0 | h0
  · subst h0
    clear ha hb
    go_enter Try.func21, Try.ntmps21
    go_wp2_with fail
    go_rounds 1
    go_ret
    exact RetB.of rfl (by repeat' (first | exact Below.refl _ _ | assumption | refine Below.xt ?_ ?_ _ | refine Below.alloc ?_ ?_ _ | refine Below.drew ?_ | refine Below.setCell ?_ ?_ _ | (simp; done) | (simp; omega)))
  · obtain ⟨a, o, rfl, ho, hc⟩ := ha.at_ h0
    obtain ⟨b, q, rfl, hq, hd⟩ := hb.at_ h0
    have HC := Lib.hid hc
    have HD := Lib.hid hd
    clear hc hd ha hb
    go_enter Try.func21, Try.ntmps21
    go_wp2_with fail
    go_loopw [5] (fun i wr => ∃ (k : Nat) (g : Gr), k ≤ n ∧ i = .int .i64 k ∧ wr = xt w g) (fun i _ => n - (intOf i).toNat)
    case atStart => exact ⟨0, ⟨[], _⟩, by omega, rfl, (xt_self _).symm⟩
    case round =>
      obtain ⟨k, g, hk, rfl, rfl⟩ := hrel
      by_cases hlt : k < n
      · have hx := HC.out k 0 hlt (by omega)
        have hy := HC.out k 1 hlt (by omega)
        have hz := HC.out k 2 hlt (by omega)
        have gx := HD.out k 0 hlt (by omega)
        have gy := HD.out k 1 hlt (by omega)
        have gz := HD.out k 2 hlt (by omega)
        simp only [Nat.add_zero, ccell] at hx hy hz gx gy gz
        generalize F k = v at *
        go_wp2_with (first
          | (refine wp_region_xt (by kernel_rfl) (by kernel_rfl) ?_; (repeat (go_big_quiet_step (first | fail))); refine wpQuiet_nil ?_; intro g))
        go_roundw
        case rel => exact ⟨k + 1, _, by omega, by go_num, (Classical.choose_spec (xt_of_below (by repeat' (first | exact Below.refl _ _ | assumption | refine Below.xt ?_ ?_ _ | refine Below.alloc ?_ ?_ _ | refine Below.drew ?_ | refine Below.setCell ?_ ?_ _ | (simp; done) | (simp; omega)))))⟩
        case measure => simp [intOf]; omega
      · go_wp2_with fail
        go_ret
        exact RetB.of rfl (by repeat' (first | exact Below.refl _ _ | assumption | refine Below.xt ?_ ?_ _ | refine Below.alloc ?_ ?_ _ | refine Below.drew ?_ | refine Below.setCell ?_ ?_ _ | (simp; done) | (simp; omega)))

end Go.Proofs.Ytjnajibflalmbaa

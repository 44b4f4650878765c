
/- All by cases, and LightAlls' walk. Conditions stand in each theorem. -/
import Derived.Test.YtiikejhkhdmgeaaGreatLigA3
import Derived.Test.YtiikejhkhdmgeaaGreatLigK3
import Derived.Test.YtiikejhkhdmgeaaGreatLigO2
import Derived.Deep.Strs
import Derived.OpenShut
namespace Go.Proofs.YtiikejhkhdmgeaaGreat
open Go.RowKit Go.WideShapes Go.ChangeShapes
set_option linter.unusedVariables false
set_option linter.unusedSimpArgs false
attribute [local go_sem ↓] ldr16 ldr18

section
variable {H : Type} {enc : TypeId × Value → H} {W : World}

theorem cells_SV {b : Nat} {sp : Nat → Bool} {held : Bool} {A : Option Addr} {n c : Nat} {d : DataW H} {p : List MemPlace} (h : DataW.Trod enc Tryz.prog W b sp held 27 (.slice A n c) d p) :
    (A = none ∧ n = 0 ∧ c = 0) ∨ ∃ ad, A = some ad ∧ n ≤ c ∧ c ≤ maxLen ∧ ∀ i, i < n → ∃ x y z, W.cell? (ad.add (i * 3)) = some (.int .i64 x) ∧ W.cell? (ad.add (i * 3 + 1)) = some (.int .i64 y) ∧ W.cell? (ad.add (i * 3 + 2)) = some (.int .i64 z) := by
  obtain ⟨fuel, hf⟩ := h
  rcases Go.Deep.open_slice Tryz.underlying27 hf with ⟨hcs, _⟩ | ⟨a, len, cap, m, k, D, Pl, hcs, _, hl, hm, hmm, _, hi⟩
  · simp [Value.cells] at hcs
    exact .inl ⟨hcs.1, hcs.2.1, hcs.2.2⟩
  · simp [Value.cells] at hcs
    obtain ⟨rfl, rfl, rfl⟩ := hcs
    refine .inr ⟨a, rfl, hl, hm, fun i hin => ?_⟩
    have him : i < m := by rw [hmm]; split <;> omega
    obtain ⟨cs', hc, ht'⟩ := hi i him
    have hC : Tryz.prog.cellsOf 37 = 3 := by kernel_rfl
    rw [hC] at hc
    obtain ⟨_, hcl, hat⟩ := World.cells?_some hc
    match cs', hcl with
    | [u0, u1, u2], _ =>
      obtain ⟨y0, y1, y2, k', _, _, g0, g1, g2⟩ := Go.Deep.trod_struct3 Tryz.underlying37 ht'
      have hI : Tryz.prog.cellsOf 3 = 1 := by kernel_rfl
      dsimp only at g0 g1 g2
      rw [hI] at g0 g1 g2
      obtain ⟨x, e0, _⟩ := DataW.trod_int Tryz.underlying3 g0
      obtain ⟨y, e1, _⟩ := DataW.trod_int Tryz.underlying3 g1
      obtain ⟨z, e2, _⟩ := DataW.trod_int Tryz.underlying3 g2
      simp at e0 e1 e2
      subst e0 e1 e2
      have h0 := hat 0 (by omega)
      have h1 := hat 1 (by omega)
      have h2 := hat 2 (by omega)
      rw [Go.Deep.add_add] at h0 h1 h2
      exact ⟨x, y, z, by simpa using h0, by simpa using h1, by simpa using h2⟩

/-- A slice of vectors: nil, or so many vectors in memory. -/
theorem open_SV {b : Nat} {sp : Nat → Bool} {held : Bool} {A : Option Addr} {n c : Nat} {d : DataW H} {p : List MemPlace} (h : DataW.Trod enc Tryz.prog W b sp held 27 (.slice A n c) d p) :
    (A = none ∧ n = 0 ∧ c = 0) ∨ ∃ ad l, A = some ad ∧ n = l.length ∧ n ≤ maxLen ∧ RowV W (some ad) l := by
  rcases cells_SV h with h | ⟨ad, rfl, hl, hm, hc⟩
  · exact .inl h
  · have hex : ∀ i, ∃ v : V3, i < n → W.cell? (ad.add (i * 3)) = some (.int .i64 v.x) ∧ W.cell? (ad.add (i * 3 + 1)) = some (.int .i64 v.y) ∧ W.cell? (ad.add (i * 3 + 2)) = some (.int .i64 v.z) := fun i => by
      by_cases hi : i < n
      · obtain ⟨x, y, z, h⟩ := hc i hi
        exact ⟨⟨x, y, z⟩, fun _ => h⟩
      · exact ⟨⟨0, 0, 0⟩, fun h => absurd h hi⟩
    obtain ⟨f, hf⟩ := Classical.axiomOfChoice hex
    refine .inr ⟨ad, (List.range n).map f, rfl, by simp, by omega, ⟨fun hn => ?_⟩⟩
    simp only [List.length_map, List.length_range] at hn ⊢
    obtain ⟨q, o, spot⟩ := ad
    have hspot : spot = none := by simpa [Addr.add] using World.cell?_spot (hf 0 hn).1
    subst hspot
    have hadd : ∀ k, (⟨q, o, none⟩ : Addr).add k = ⟨q, o + k, none⟩ := fun k => by
      unfold Addr.add
      split
      · rename_i h0; rw [h0]; rfl
      · rfl
    simp only [hadd] at hf
    have hold : old q W := by
      have h0 := (hf 0 hn).1
      rcases Nat.lt_or_ge q W.heap.size with hlt | hge
      · exact hlt
      · simp [World.cell?, Array.getElem?_eq_none hge] at h0
    refine ⟨q, o, rfl, hold, fun i j hi hj => ?_⟩
    have hat : at_ ((List.range n).map f) i = f i := by simp [at_, List.getD, hi]
    rw [hat]
    obtain ⟨h0, h1, h2⟩ := hf i hi
    rw [← Nat.add_assoc] at h1 h2
    have : j = 0 ∨ j = 1 ∨ j = 2 := by omega
    rcases this with rfl | rfl | rfl
    · exact h0
    · exact h1
    · exact h2
end


theorem allE_bad {L : Li} {l : List V3} {t : Int} (h : ¬ (l.length = L.nG ∧ ∀ i, i < l.length → pointAt l i = true)) : allE L l t = 2 := if_neg h
theorem lAll_e (A1 A2 A3 A : Option Addr) (c1 c2 c3 n cap : Nat) (L : Li) (l : List V3) (t : Int) (w : World) (hF : FineL L) (hr : RowL w A1 A2 A3 L) (hn : n = l.length) (hm : n ≤ 4294967296) (hv : RowV w A l) (h : allE L l t ≠ 0) :
    Calls Tryz.prog 6 #[.agg #[.slice A1 L.nG c1, .slice A2 L.cs.length c2, .slice A3 L.os.length c3], .slice A n cap, .int .i64 t] w (RetB (.tuple #[.slice none 0 0, .int .i64 (allE L l t)]) w) := by
  by_cases h1 : l.length = L.nG
  · by_cases h2 : ∀ i, i < l.length → pointAt l i = true
    · have e : allE L l t = fineE L 0 t := if_pos ⟨h1, h2⟩
      rw [e] at h ⊢
      rw [hn, h1]
      exact lAll_fine A1 A2 A3 A c1 c2 c3 cap L l t w hF hr h1.symm hv (fun i hi => h2 i (by omega)) h
    · rw [allE_bad fun x => h2 x.2, hn, h1]
      obtain ⟨i, hi⟩ := Classical.not_forall.1 h2
      obtain ⟨hil, hib⟩ := Classical.not_imp.1 hi
      obtain ⟨b, o, rfl, _, _⟩ := hv.at_ (by omega)
      exact lAll_point A1 A2 A3 c1 c2 c3 b o cap L l t w hF hr h1.symm hv ⟨i, by omega, by simpa using hib⟩
  · rw [allE_bad fun x => h1 x.1]
    exact lAll_len A1 A2 A3 A c1 c2 c3 n cap L t w hF hr hm (by omega)
theorem rAll_e (A1 A2 A3 A : Option Addr) (c1 c2 c3 n cap : Nat) (L : Li) (l : List V3) (t : Int) (w : World) (hF : FineL L) (hr : RowL w A1 A2 A3 L) (hn : n = l.length) (hm : n ≤ 4294967296) (hv : RowV w A l) (h : allE L l t ≠ 0) :
    Calls Tryz.prog 7 #[.agg #[.slice A1 L.nG c1, .slice A2 L.cs.length c2, .slice A3 L.os.length c3], .slice A n cap, .int .i64 t] w (RetB (.tuple #[.slice none 0 0, .int .i64 (allE L l t)]) w) := by
  by_cases h1 : l.length = L.nG
  · cases hl : liB L
    · have e : allE L l t = 2 := by
        rw [allE]; split
        · rw [fineE, if_neg (by rw [hl]; rintro ⟨h, _⟩; cases h)]
        · rfl
      rw [e]
      exact rAll_head A1 A2 A3 A c1 c2 c3 n cap L t w hF hr hm (.inl hl)
    · have h0 := (liB_iff.1 hl).1.1
      obtain ⟨b, o, rfl, _, _⟩ := hv.at_ (by omega)
      by_cases h2 : ∀ i, i < l.length → pointAt l i = true
      · have e : allE L l t = fineE L 0 t := if_pos ⟨h1, h2⟩
        rw [e] at h ⊢
        have ht : ¬ (0 ≤ t ∧ t ≤ 3600000) := fun ht => h (fine_zero.2 ⟨hl, ⟨by omega, by omega⟩, ht.1, ht.2⟩)
        rw [fineE, if_pos ⟨hl, by omega, by omega⟩, if_neg ht, hn, h1]
        exact rAll_range A1 A2 A3 c1 c2 c3 b o cap L l t w hF hr hl h1.symm hv (fun i hi => h2 i (by omega)) ht
      · rw [allE_bad fun x => h2 x.2, hn, h1]
        obtain ⟨i, hi⟩ := Classical.not_forall.1 h2
        obtain ⟨hil, hib⟩ := Classical.not_imp.1 hi
        exact rAll_bad A1 A2 A3 c1 c2 c3 b o cap L l t w hF hr hl h1.symm hv ⟨i, by omega, by simpa using hib⟩
  · rw [allE_bad fun x => h1 x.1]
    exact rAll_head A1 A2 A3 A c1 c2 c3 n cap L t w hF hr hm (.inr (by omega))
theorem allE_zero {L : Li} {l : List V3} {t : Int} (h : allE L l t = 0) : l.length = L.nG ∧ (∀ i, i < l.length → pointAt l i = true) ∧ fineE L 0 t = 0 := by
  rw [allE] at h
  split at h
  · rename_i h1; exact ⟨h1.1, h1.2, h⟩
  · cases h

end Go.Proofs.YtiikejhkhdmgeaaGreat

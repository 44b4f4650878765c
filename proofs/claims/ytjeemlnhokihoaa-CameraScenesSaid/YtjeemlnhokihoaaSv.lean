/- Slices of vectors and of numbers: arguments, rows of the call's own, appends. No condition. -/
import Derived.Test.YtjeemlnhokihoaaProg
import Derived.Test.YtjeemlnhokihoaaVecP
import Derived.Test.YtjeemlnhokihoaaSl
import Derived.Deep.Strs
import Derived.OpenShut
import Derived.Laws.AppendOwnNone
namespace Go.Proofs.Ytjeemlnhokihoaa
open Go.RowKit Go.WideShapes Go.ChangeShapes
set_option linter.unusedVariables false

instance : Inhabited V3 := ⟨⟨0, 0, 0⟩⟩
def at_ (l : List V3) (i : Nat) : V3 := l.getD i default
def vcell (v : V3) (j : Nat) : Value := if j = 0 then .int .i64 v.x else if j = 1 then .int .i64 v.y else .int .i64 v.z
/-- The slice at A, n holds these vectors. -/
def RowV (w : World) (A : Option Addr) (l : List V3) : Prop := Row w A l.length 3 fun i => vcell (at_ l i)
theorem RowV.cells {w : World} {b o : Nat} {l : List V3} {i : Nat} (h : ∀ i j, i < l.length → j < 3 → w.cell? ⟨b, o + i * 3 + j, none⟩ = some (vcell (at_ l i) j)) (hi : i < l.length) :
    w.cell? ⟨b, o + i * 3, none⟩ = some (.int .i64 (at_ l i).x) ∧ w.cell? ⟨b, o + i * 3 + 1, none⟩ = some (.int .i64 (at_ l i).y) ∧ w.cell? ⟨b, o + i * 3 + 2, none⟩ = some (.int .i64 (at_ l i).z) :=
  ⟨h i 0 hi (by omega), h i 1 hi (by omega), h i 2 hi (by omega)⟩

theorem own_xt {w : World} {base : Nat} {e : TypeId} {s n : Nat} {v : Value} {xs : List Value} (h : w.ownsRow base e s v n xs) (g : Gr) : (xt w g).ownsRow base e s v n xs := by
  refine ⟨h.1, ?_⟩
  rcases h.2 with h' | ⟨gb, cap, cur, hv, hb, hg, hrest⟩
  · exact .inl h'
  · have hlt : gb < w.heap.size := by
      rcases Nat.lt_or_ge gb w.heap.size with hlt | hge
      · exact hlt
      · rw [Array.getElem?_eq_none hge] at hg; cases hg
    exact .inr ⟨gb, cap, cur, hv, hb, (xt_block w g gb hlt).trans hg, hrest⟩
theorem own_drawn {w : World} {g : Gr} {base : Nat} {e : TypeId} {s n : Nat} {v : Value} {xs : List Value} (h : (xt w g).ownsRow base e s v n xs) (d : Nat) : (xt w ⟨g.blocks, d⟩).ownsRow base e s v n xs := h
theorem cells_new (w : World) (cs : Array Value) (t : TypeId) (m : Nat) (hm : m = w.heap.size) : ∀ j u, cs.toList[j]? = some u → (w.alloc (.cells cs t)).cell? ((⟨m, 0, none⟩ : Addr).add j) = some u := by
  intro j u hu
  rw [zero_add_addr, World.cell?_alloc_at _ _ _ _ hm]
  simpa using hu
theorem own_nil {w : World} {base : Nat} {e : TypeId} {s : Nat} : w.ownsRow base e s (.slice none 0 0) 0 [] := ⟨by simp, .inl ⟨rfl, rfl⟩⟩
/-- What an append leaves, seen from the world in which the call began. -/
theorem below_grown {B : Nat} {w0 w w' : World} {e : TypeId} {s n : Nat} {v : Value} {xs : List Value} (hb : Below B w0 w) (hB : B ≤ w.heap.size) (h : w.ownsRow B e s v n xs) (hg : w.grownBy w' v.ownBlock) : Below B w0 w' := by
  refine hb.grown hg hB fun k hk => ?_
  rcases h.2 with ⟨rfl, _⟩ | ⟨g, cap, cur, rfl, hb, _⟩
  · simp [Value.ownBlock] at hk
  · simp [Value.ownBlock] at hk
    omega

theorem infoVec : (Try.prog.info? 23).map (fun i => (i.zero, i.size, i.bytes)) = some (some (.agg #[.int .i64 0, .int .i64 0, .int .i64 0]), 3, 24) := by kernel_rfl

theorem row_news {w : World} {ad : Addr} {n s : Nat} {f : Nat → Nat → Value} (h : Row w (some ad) n s f) (hs : 0 < s) : ∀ j u, (flat n s f)[j]? = some u → w.cell? (ad.add j) = some u := by
  intro j u hu
  have hj : j < n * s := by
    have := (List.getElem?_eq_some_iff.1 hu).1
    rwa [flat_length] at this
  have hn : 0 < n := by
    rcases Nat.eq_zero_or_pos n with h0 | h0
    · subst h0; rw [Nat.zero_mul] at hj; omega
    · exact h0
  obtain ⟨b, o, e, _, hc⟩ := h.at_ hn
  injection e with e
  subst e
  have hq : j / s < n := (Nat.div_lt_iff_lt_mul hs).2 hj
  have hr : j % s < s := Nat.mod_lt _ hs
  have e1 : j = j / s * s + j % s := by rw [Nat.mul_comm]; exact (Nat.div_add_mod j s).symm
  have h1 := hc _ _ hq hr
  have h2 := flat_get (f := f) hq hr
  rw [← e1, hu] at h2
  injection h2 with h2
  have hadd : (⟨b, o, none⟩ : Addr).add j = ⟨b, o + j / s * s + j % s, none⟩ := by
    have e2 : o + j / s * s + j % s = o + j := by omega
    rw [e2]
    unfold Addr.add
    split
    · rename_i h0; rw [h0]; rfl
    · rfl
  rw [hadd, h1, h2]

theorem one_cells {n : Nat} {l : List V3} : ∀ u ∈ flat n 3 (fun i => vcell (at_ l i)), u.oneCell' = true := by
  intro u hu
  unfold flat at hu
  obtain ⟨k, _, rfl⟩ := List.mem_map.1 hu
  show (vcell (at_ l (k / 3)) (k % 3)).oneCell' = true
  unfold vcell
  split
  · rfl
  · split <;> rfl

section
variable {H : Type} {enc : TypeId × Value → H} {W : World}

theorem cells_SV {b : Nat} {sp : Nat → Bool} {held : Bool} {A : Option Addr} {n c : Nat} {d : DataW H} {p : List MemPlace} (h : DataW.Trod enc Try.prog W b sp held 41 (.slice A n c) d p) :
    (A = none ∧ n = 0 ∧ c = 0) ∨ ∃ ad, A = some ad ∧ n ≤ c ∧ c ≤ maxLen ∧ ∀ i, i < n → ∃ x y z, W.cell? (ad.add (i * 3)) = some (.int .i64 x) ∧ W.cell? (ad.add (i * 3 + 1)) = some (.int .i64 y) ∧ W.cell? (ad.add (i * 3 + 2)) = some (.int .i64 z) := by
  obtain ⟨fuel, hf⟩ := h
  rcases Go.Deep.open_slice Try.underlying41 hf with ⟨hcs, _⟩ | ⟨a, len, cap, m, k, D, Pl, hcs, _, hl, hm, hmm, _, hi⟩
  · simp [Value.cells] at hcs
    exact .inl ⟨hcs.1, hcs.2.1, hcs.2.2⟩
  · simp [Value.cells] at hcs
    obtain ⟨rfl, rfl, rfl⟩ := hcs
    refine .inr ⟨a, rfl, hl, hm, fun i hin => ?_⟩
    have him : i < m := by rw [hmm]; split <;> omega
    obtain ⟨cs', hc, ht'⟩ := hi i him
    have hC : Try.prog.cellsOf 23 = 3 := by kernel_rfl
    rw [hC] at hc
    obtain ⟨_, hcl, hat⟩ := World.cells?_some hc
    match cs', hcl with
    | [u0, u1, u2], _ =>
      obtain ⟨y0, y1, y2, k', _, _, g0, g1, g2⟩ := Go.Deep.trod_struct3 Try.underlying23 ht'
      have hI : Try.prog.cellsOf 3 = 1 := by kernel_rfl
      dsimp only at g0 g1 g2
      rw [hI] at g0 g1 g2
      obtain ⟨x, e0, _⟩ := DataW.trod_int Try.underlying3 g0
      obtain ⟨y, e1, _⟩ := DataW.trod_int Try.underlying3 g1
      obtain ⟨z, e2, _⟩ := DataW.trod_int Try.underlying3 g2
      simp at e0 e1 e2
      subst e0 e1 e2
      have h0 := hat 0 (by omega)
      have h1 := hat 1 (by omega)
      have h2 := hat 2 (by omega)
      rw [Go.Deep.add_add] at h0 h1 h2
      exact ⟨x, y, z, by simpa using h0, by simpa using h1, by simpa using h2⟩

/-- A slice of vectors: nil, or so many vectors in memory. -/
theorem open_SV {b : Nat} {sp : Nat → Bool} {held : Bool} {A : Option Addr} {n c : Nat} {d : DataW H} {p : List MemPlace} (h : DataW.Trod enc Try.prog W b sp held 41 (.slice A n c) d p) :
    (A = none ∧ n = 0 ∧ c = 0) ∨ ∃ ad l, A = some ad ∧ n = l.length ∧ n ≤ maxLen ∧ RowV W (some ad) l := by
  rcases cells_SV h with h | ⟨ad, rfl, hl, hm, hc⟩
  · exact .inl h
  · have hex : ∀ i, ∃ v : V3, i < n → W.cell? (ad.add (i * 3)) = some (.int .i64 v.x) ∧ W.cell? (ad.add (i * 3 + 1)) = some (.int .i64 v.y) ∧ W.cell? (ad.add (i * 3 + 2)) = some (.int .i64 v.z) := fun i => by
      by_cases hi : i < n
      · obtain ⟨x, y, z, h⟩ := hc i hi
        exact ⟨⟨x, y, z⟩, fun _ => h⟩
      · exact ⟨⟨0, 0, 0⟩, fun h => absurd h hi⟩
    obtain ⟨f, hf⟩ := Classical.axiomOfChoice hex
    refine .inr ⟨ad, (List.range n).map f, rfl, by simp, by omega, ⟨fun hn => ?_⟩⟩
    simp only [List.length_map, List.length_range] at hn ⊢
    obtain ⟨q, o, spot⟩ := ad
    have hspot : spot = none := by simpa [Addr.add] using World.cell?_spot (hf 0 hn).1
    subst hspot
    have hadd : ∀ k, (⟨q, o, none⟩ : Addr).add k = ⟨q, o + k, none⟩ := fun k => by
      unfold Addr.add
      split
      · rename_i h0; rw [h0]; rfl
      · rfl
    simp only [hadd] at hf
    have hold : old q W := by
      have h0 := (hf 0 hn).1
      rcases Nat.lt_or_ge q W.heap.size with hlt | hge
      · exact hlt
      · simp [World.cell?, Array.getElem?_eq_none hge] at h0
    refine ⟨q, o, rfl, hold, fun i j hi hj => ?_⟩
    have hat : at_ ((List.range n).map f) i = f i := by simp [at_, List.getD, hi]
    rw [hat]
    obtain ⟨h0, h1, h2⟩ := hf i hi
    rw [← Nat.add_assoc] at h1 h2
    have : j = 0 ∨ j = 1 ∨ j = 2 := by omega
    rcases this with rfl | rfl | rfl
    · exact h0
    · exact h1
    · exact h2
end


/-! ### Numbers -/
def icell (l : List Int) (i : Nat) (j : Nat) : Value := .int .i64 (l.getD i 0)
/-- The slice at A holds these numbers. -/
def RowI (w : World) (A : Option Addr) (l : List Int) : Prop := Row w A l.length 1 (icell l)
theorem flat_ints (l : List Int) : flat l.length 1 (icell l) = l.map (Value.int .i64) := by
  apply List.ext_getElem?
  intro i
  rcases Nat.lt_or_ge i l.length with hi | hi
  · have h := flat_get (n := l.length) (s := 1) (f := icell l) hi (show 0 < 1 by omega)
    simp only [Nat.mul_one, Nat.add_zero] at h
    rw [h]
    simp [icell, hi, List.getD]
  · rw [List.getElem?_eq_none (by rw [flat_length]; omega), List.getElem?_eq_none (by simpa using hi)]
theorem infoInt : (Try.prog.info? 3).map (fun i => (i.zero, i.size, i.bytes)) = some (some (.int .i64 0), 1, 8) := by kernel_rfl
theorem one_ints (l : List Int) : ∀ u ∈ l.map (Value.int .i64), u.oneCell' = true := by
  intro u hu
  obtain ⟨k, _, rfl⟩ := List.mem_map.1 hu
  rfl
theorem RowI.at_ {w : World} {A : Option Addr} {l : List Int} (h : RowI w A l) (h0 : 0 < l.length) : ∃ b o, A = some ⟨b, o, none⟩ ∧ old b w ∧ ∀ i, i < l.length → w.cell? ⟨b, o + i, none⟩ = some (.int .i64 (l.getD i 0)) := by
  obtain ⟨b, o, e, hb, hc⟩ := Row.at_ h h0
  refine ⟨b, o, e, hb, fun i hi => ?_⟩
  have := hc i 0 hi (by omega)
  simpa [icell] using this
theorem RowI.of_own {w : World} {base : Nat} {e : TypeId} {n : Nat} {v : Value} {l : List Int} (h : w.ownsRow base e 1 v n (l.map (Value.int .i64))) (hn : n = l.length) : ∃ A c, v = .slice A l.length c ∧ RowI w A l := by
  subst hn
  exact Row.of_own h (flat_ints l).symm
theorem RowI.xt {w : World} {A : Option Addr} {l : List Int} (h : RowI w A l) (g : Gr) : RowI (xt w g) A l := Row.xt h g
theorem RowI.alloc {w : World} {A : Option Addr} {l : List Int} (h : RowI w A l) (o : Obj) : RowI (w.alloc o) A l := Row.alloc h o
theorem RowI.drew {w : World} {A : Option Addr} {l : List Int} (h : RowI w A l) : RowI w.drew A l := Row.drew h
theorem RowV.xt {w : World} {A : Option Addr} {l : List V3} (h : RowV w A l) (g : Gr) : RowV (xt w g) A l := Row.xt h g
theorem RowV.alloc {w : World} {A : Option Addr} {l : List V3} (h : RowV w A l) (o : Obj) : RowV (w.alloc o) A l := Row.alloc h o
theorem RowV.drew {w : World} {A : Option Addr} {l : List V3} (h : RowV w A l) : RowV w.drew A l := Row.drew h
/-- The call returns these numbers and an error's number; what was there is as it was. -/
def RetInts (l : List Int) (d : Int) (w : World) (e : Ending) (w' : World) : Prop := ∃ A c, e = .returned (.tuple #[.slice A l.length c, .int .i64 d]) ∧ Below w.heap.size w w' ∧ RowI w' A l
def RetVecs (l : List V3) (d : Int) (w : World) (e : Ending) (w' : World) : Prop := ∃ A c, e = .returned (.tuple #[.slice A l.length c, .int .i64 d]) ∧ Below w.heap.size w w' ∧ RowV w' A l

end Go.Proofs.Ytjeemlnhokihoaa

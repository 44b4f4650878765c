/- Walks of cameras, by the program: the spots of fewer than 20 points. Conditions stand in each theorem. -/
import Derived.Test.YtjeemlnhokihoaaCamS2
import Derived.Test.YtjeemlnhokihoaaCamW6
namespace Go.Proofs.Ytjeemlnhokihoaa
open Go.RowKit
set_option linter.unusedVariables false
attribute [local go_sem ↓] ld16

instance : Inhabited Sp := ⟨⟨0, 0, 0, 0, 0⟩⟩
def sfn (L : List Sp) : Nat → Sp := fun i => L.getD i default
theorem rowS_snoc (L : List Sp) (s : Sp) : rowS (sfn (L ++ [s])) (L.length + 1) = rowS (sfn L) L.length ++ [.int .i64 s.ix, .int .i64 s.x, .int .i64 s.y, .int .i64 s.r, .int .i64 s.d] := by
  unfold rowS
  rw [flat_succ (by omega)]
  congr 1
  · unfold flat
    apply List.map_congr_left
    intro k hk
    have hk := List.mem_range.1 hk
    have : sfn (L ++ [s]) (k / 5) = sfn L (k / 5) := by
      have : k / 5 < L.length := by omega
      simp [sfn, List.getD, List.getElem?_append_left this]
    show scell (sfn (L ++ [s]) (k / 5)) (k % 5) = scell (sfn L (k / 5)) (k % 5)
    rw [this]
  · have : sfn (L ++ [s]) L.length = s := by simp [sfn, List.getD]
    rw [this]
    rfl
def spt (c : Cam) (p : V3) (ra i : Int) : Sp := ⟨i, xx c p, yy c p, rr c p ra, zz c p⟩
/-- The spots of the first k points, those that are seen. -/
def scn (c : Cam) (l : List V3) (ra : Int) : Nat → List Sp
  | 0 => []
  | k + 1 => scn c l ra k ++ if seen c (at_ l k) then [spt c (at_ l k) ra k] else []
theorem scn_len (c : Cam) (l : List V3) (ra : Int) : ∀ k, (scn c l ra k).length ≤ k
  | 0 => Nat.le_refl 0
  | k + 1 => by
    have := scn_len c l ra k
    rw [scn, List.length_append]; split <;> simp <;> omega
theorem spt_ok {c : Cam} {p : V3} (hc : Good c) (hp : pnt p = true) (ra i : Int) : (spt c p ra i).ok := by
  have B := spotB hc hp
  have := B.f1
  have := B.f2
  simp only [Sp.ok, spt]; omega
theorem scn_ok {c : Cam} {l : List V3} {ra : Int} (hc : Good c) : ∀ n, (∀ i, i < n → pointAt l i = true) → ∀ s ∈ scn c l ra n, s.ok
  | 0, _, s, hs => by cases hs
  | n + 1, h, s, hs => by
    rw [scn, List.mem_append] at hs
    rcases hs with hs | hs
    · exact scn_ok hc n (fun i hi => h i (by omega)) s hs
    · split at hs <;> simp at hs
      subst hs
      exact spt_ok hc (h n (by omega)) _ _
theorem sfn_ok {L : List Sp} (h : ∀ s ∈ L, s.ok) : ∀ i, (sfn L i).ok := by
  intro i
  unfold sfn
  rcases Nat.lt_or_ge i L.length with hi | hi
  · have e : L.getD i default = L[i] := by simp [List.getD, hi]
    rw [e]; exact h _ (List.getElem_mem hi)
  · have e : L.getD i default = (default : Sp) := by simp [List.getD, hi]
    rw [e]; unfold Sp.ok; decide
theorem infoSpot : (Try.prog.info? 35).map (fun i => (i.zero, i.size, i.bytes)) = some (some (.agg #[.int .i64 0, .int .i64 0, .int .i64 0, .int .i64 0, .int .i64 0]), 5, 40) := by kernel_rfl

/-- The call returns a row of spots and an error's number. -/
def RetSpots (f : Nat → Sp) (n : Nat) (d : Int) (w : World) (e : Ending) (w' : World) : Prop := ∃ A cp, e = .returned (.tuple #[.slice A n cp, .int .i64 d]) ∧ Below w.heap.size w w' ∧ Row w' A n 5 fun i => scell (f i)

set_option maxRecDepth 100000 in
set_option maxHeartbeats 6400000 in
theorem Scene_some (c : Cam) (l : List V3) (A : Option Addr) (n cap : Nat) (ra : Int) (w : World) (hc : cval c = true) (hr : within ra 0 1000 = true) (hn : n = l.length) (hm : n < 20) (hl : RowV w A l) (hp : ∀ i, i < n → pointAt l i = true) (hsome : 0 < (scn c l ra n).length) :
    Calls Try.prog 17 #[.agg #[.int .i64 c.e.x, .int .i64 c.e.y, .int .i64 c.e.z, .int .i64 c.r.x, .int .i64 c.r.y, .int .i64 c.r.z, .int .i64 c.u.x, .int .i64 c.u.y, .int .i64 c.u.z, .int .i64 c.f.x, .int .i64 c.f.y, .int .i64 c.f.z, .int .i64 c.fo, .int .i64 c.wi, .int .i64 c.he, .int .i64 c.ne], .slice A n cap, .int .i64 ra] w (RetSpots (srt (sfn (scn c l ra n)) (scn c l ra n).length) (scn c l ra n).length 0 w) := by
  have hsn : ∀ k, scn c l ra (k + 1) = scn c l ra k ++ if seen c (at_ l k) then [spt c (at_ l k) ra k] else [] := fun k => rfl
  have G := good_of hc
  have hlen := scn_len c l ra
  have HOK := Lib.hid (sfn_ok (scn_ok (c := c) (l := l) (ra := ra) G n hp))
  have K := fun w hl => Lib.hid (fine_yes c ra A n cap l w hc hr (by omega) hn hl hp)
  have n0 : 0 < n := by have := hlen n; omega
  obtain ⟨b, o, rfl, hb, hcl⟩ := hl.at_ (hn ▸ n0)
  have HL := Lib.hid hl
  have HN := Lib.hid hn
  have HC := Lib.hid hcl
  have HP := Lib.hid hp
  have HLen := Lib.hid hlen
  have HS := Lib.hid hsn
  have SY := fun p w hp hs => Lib.hid (spot_yes c p ra w G hp hr hs)
  have SN := fun p w hp hs => Lib.hid (spot_no c p ra w G hp hs)
  obtain ⟨i0, hi0, hz0, hz1, hz2⟩ := info_parts infoSpot
  clear hc hr hn hl hp hcl hlen hsn G
  go_enter Try.func17, Try.ntmps17
  go_wp2_with fail
  refine (RetB.grown (K _ (Row.alloc HL.out _)).out).mono ?_
  rintro e w' ⟨rfl, ga, rfl⟩
  clear K
  go_wp2_with fail
  go_loopw [8, 20] (fun s i wr => ∃ (k : Nat) (g : Gr), k ≤ n ∧ i = .int .i64 k ∧ wr = xt (w.alloc (.cells #[.int .i64 c.e.x, .int .i64 c.e.y, .int .i64 c.e.z, .int .i64 c.r.x, .int .i64 c.r.y, .int .i64 c.r.z, .int .i64 c.u.x, .int .i64 c.u.y, .int .i64 c.u.z, .int .i64 c.f.x, .int .i64 c.f.y, .int .i64 c.f.z, .int .i64 c.fo, .int .i64 c.wi, .int .i64 c.he, .int .i64 c.ne] 25)) g ∧ Hid ((xt (w.alloc (.cells #[.int .i64 c.e.x, .int .i64 c.e.y, .int .i64 c.e.z, .int .i64 c.r.x, .int .i64 c.r.y, .int .i64 c.r.z, .int .i64 c.u.x, .int .i64 c.u.y, .int .i64 c.u.z, .int .i64 c.f.x, .int .i64 c.f.y, .int .i64 c.f.z, .int .i64 c.fo, .int .i64 c.wi, .int .i64 c.he, .int .i64 c.ne] 25)) g).ownsRow ((w.alloc (.cells #[.int .i64 c.e.x, .int .i64 c.e.y, .int .i64 c.e.z, .int .i64 c.r.x, .int .i64 c.r.y, .int .i64 c.r.z, .int .i64 c.u.x, .int .i64 c.u.y, .int .i64 c.u.z, .int .i64 c.f.x, .int .i64 c.f.y, .int .i64 c.f.z, .int .i64 c.fo, .int .i64 c.wi, .int .i64 c.he, .int .i64 c.ne] 25))).heap.size 35 5 s (scn c l ra k).length (rowS (sfn (scn c l ra k)) (scn c l ra k).length))) (fun _ i _ => n - (intOf i).toNat)
  case atStart => exact ⟨0, _, by omega, rfl, rfl, own_nil⟩
  case round =>
    obtain ⟨k, g, hk, rfl, rfl, HO⟩ := hrel
    by_cases hlt : k < n
    · obtain ⟨hx, hy, hz⟩ := RowV.cells HC.out (HN.out ▸ hlt)
      have hpk : pnt (at_ l k) = true := HP.out k hlt
      have hsk := HS.out k
      have hlk := HLen.out k
      obtain ⟨L, hL⟩ : ∃ L, scn c l ra k = L := ⟨_, rfl⟩
      rw [hL] at hsk hlk HO
      clear hL
      generalize at_ l k = p at *
      have HSK := Lib.hid hsk
      clear hsk
      by_cases hs : seen c p = true
      · have S := fun w => SY p w hpk hs
        have HE := Lib.hid (show scn c l ra (k + 1) = L ++ [spt c p ra k] by rw [HSK.out, if_pos hs])
        rw [show spt c p ra k = ⟨k, xx c p, yy c p, rr c p ra, zz c p⟩ from rfl] at HE
        clear SY SN HSK hs hpk
        generalize xx c p = x at *
        generalize yy c p = y at *
        generalize rr c p ra = r at *
        generalize zz c p = z at *
        go_wp2_with (first
          | (go_at_call 36; refine (RetB.grown ((S _).out)).mono ?_; rintro e' w' ⟨rfl, g, rfl⟩)
          | (at_builtin; go_must (refine wpList_append_own _ rfl _ _ 42 rfl ((w.alloc (.cells #[.int .i64 c.e.x, .int .i64 c.e.y, .int .i64 c.e.z, .int .i64 c.r.x, .int .i64 c.r.y, .int .i64 c.r.z, .int .i64 c.u.x, .int .i64 c.u.y, .int .i64 c.u.z, .int .i64 c.f.x, .int .i64 c.f.y, .int .i64 c.f.z, .int .i64 c.fo, .int .i64 c.wi, .int .i64 c.he, .int .i64 c.ne] 25))).heap.size 35 i0 _ 5 40 Try.underlying42 hi0 hz0 hz1 hz2 rfl (by omega) u8 L.length (rowS (sfn L) L.length) rfl (by repeat (first | (with_reducible exact HO.out) | (with_reducible exact own_drawn HO.out _) | (with_reducible refine World.ownsRow.alloc ?_ _) | (with_reducible refine own_xt ?_ _))) _ 1 _ [.int .i64 k, .int .i64 x, .int .i64 y, .int .i64 r, .int .i64 z] rfl rfl ?_ ?_ ?_ ?_ ?_ ?_))
          | (refine wp_region_xt (by kernel_rfl) (by kernel_rfl) ?_; (repeat (go_big_quiet_step (first | (go_at_call 36; exact RetB.quiet ((S _).out))))); refine wpQuiet_nil ?_; intro g))
        · exact cells_new _ _ _ _ (by simp)
        · intro u hu; simp only [List.mem_cons, List.not_mem_nil, or_false] at hu; rcases hu with rfl | rfl | rfl | rfl | rfl <;> rfl
        · simp only [maxLen]; omega
        · omega
        · simp; omega
        intro v1 w1 hown1 hgr1 _
        have hb1 : Below ((w.alloc (.cells #[.int .i64 c.e.x, .int .i64 c.e.y, .int .i64 c.e.z, .int .i64 c.r.x, .int .i64 c.r.y, .int .i64 c.r.z, .int .i64 c.u.x, .int .i64 c.u.y, .int .i64 c.u.z, .int .i64 c.f.x, .int .i64 c.f.y, .int .i64 c.f.z, .int .i64 c.fo, .int .i64 c.wi, .int .i64 c.he, .int .i64 c.ne] 25))).heap.size ((w.alloc (.cells #[.int .i64 c.e.x, .int .i64 c.e.y, .int .i64 c.e.z, .int .i64 c.r.x, .int .i64 c.r.y, .int .i64 c.r.z, .int .i64 c.u.x, .int .i64 c.u.y, .int .i64 c.u.z, .int .i64 c.f.x, .int .i64 c.f.y, .int .i64 c.f.z, .int .i64 c.fo, .int .i64 c.wi, .int .i64 c.he, .int .i64 c.ne] 25))) w1 := below_grown (n := L.length) (v := u8) (xs := rowS (sfn L) L.length) (e := 35) (s := 5) (by repeat' (first | exact Below.refl _ _ | assumption | refine Below.xt ?_ ?_ _ | refine Below.alloc ?_ ?_ _ | refine Below.drew ?_ | refine Below.setCell ?_ ?_ _ | (simp; done) | (simp; omega))) (by simp; omega) (by repeat (first | (with_reducible exact HO.out) | (with_reducible exact own_drawn HO.out _) | (with_reducible refine World.ownsRow.alloc ?_ _) | (with_reducible refine own_xt ?_ _))) hgr1
        obtain ⟨g9, rfl⟩ := xt_of_below hb1
        have HO1 := Lib.hid (show (xt (w.alloc (.cells #[.int .i64 c.e.x, .int .i64 c.e.y, .int .i64 c.e.z, .int .i64 c.r.x, .int .i64 c.r.y, .int .i64 c.r.z, .int .i64 c.u.x, .int .i64 c.u.y, .int .i64 c.u.z, .int .i64 c.f.x, .int .i64 c.f.y, .int .i64 c.f.z, .int .i64 c.fo, .int .i64 c.wi, .int .i64 c.he, .int .i64 c.ne] 25)) g9).ownsRow ((w.alloc (.cells #[.int .i64 c.e.x, .int .i64 c.e.y, .int .i64 c.e.z, .int .i64 c.r.x, .int .i64 c.r.y, .int .i64 c.r.z, .int .i64 c.u.x, .int .i64 c.u.y, .int .i64 c.u.z, .int .i64 c.f.x, .int .i64 c.f.y, .int .i64 c.f.z, .int .i64 c.fo, .int .i64 c.wi, .int .i64 c.he, .int .i64 c.ne] 25))).heap.size 35 5 v1 (scn c l ra (k + 1)).length (rowS (sfn (scn c l ra (k + 1))) (scn c l ra (k + 1)).length) by rw [HE.out, List.length_append]; simp only [List.length_cons, List.length_nil, Nat.zero_add]; rw [rowS_snoc]; simp only [World.size_alloc]; exact hown1)
        clear hown1 hgr1 hb1 HO
        go_wp2_with fail
        go_roundw
        case rel => exact ⟨k + 1, g9, by omega, by go_num, rfl, HO1⟩
        case measure => simp [intOf]; omega
      · have hs' : seen c p = false := by simpa using hs
        have S := fun w => SN p w hpk hs'
        have HE := Lib.hid (show scn c l ra (k + 1) = L by rw [HSK.out, if_neg hs, List.append_nil])
        clear SY SN HSK hs hs' hpk
        go_wp2_with (first
          | (go_at_call 36; refine (RetB.grown ((S _).out)).mono ?_; rintro e' w' ⟨rfl, g, rfl⟩)
          | (refine wp_region_xt (by kernel_rfl) (by kernel_rfl) ?_; (repeat (go_big_quiet_step (first | (go_at_call 36; exact RetB.quiet ((S _).out))))); refine wpQuiet_nil ?_; intro g))
        go_roundw
        case rel =>
          refine ⟨k + 1, ?_⟩
          rw [HE.out]
          refine ⟨_, by omega, by go_num, (Classical.choose_spec (xt_of_below (by repeat' (first | exact Below.refl _ _ | assumption | refine Below.xt ?_ ?_ _ | refine Below.alloc ?_ ?_ _ | refine Below.drew ?_ | refine Below.setCell ?_ ?_ _ | (simp; done) | (simp; omega))))), ?_⟩
          rw [← Classical.choose_spec (xt_of_below (by repeat' (first | exact Below.refl _ _ | assumption | refine Below.xt ?_ ?_ _ | refine Below.alloc ?_ ?_ _ | refine Below.drew ?_ | refine Below.setCell ?_ ?_ _ | (simp; done) | (simp; omega))))]
          refine Lib.hid ?_
          exact (by repeat (first | (with_reducible exact HO.out) | (with_reducible exact own_drawn HO.out _) | (with_reducible refine World.ownsRow.alloc ?_ _) | (with_reducible refine own_xt ?_ _)))
        case measure => simp [intOf]; omega
    · have e1 : k = n := by omega
      subst e1
      have hlk := HLen.out k
      obtain ⟨L, hL⟩ : ∃ L, scn c l ra k = L := ⟨_, rfl⟩
      rw [hL] at hlk HO HOK hsome
      have HLe := Lib.hid hL
      clear hL HS HLen SY SN
      obtain ⟨gb, cp, e5⟩ : ∃ gb cp, u8 = .slice (some ⟨gb, 0, none⟩) L.length cp := by
        rcases HO.out.2 with ⟨h1, h2⟩ | ⟨gb, cp, cur, h1, _⟩
        · exfalso
          have := HO.out.1
          rw [h2] at this
          simp at this; omega
        · exact ⟨gb, cp, h1⟩
      subst e5
      go_wp2_with fail
      refine (sort_any gb L.length cp _ (sfn L) _ HO.out HOK.out (by omega)).mono ?_
      rintro e w' ⟨rfl, hg, ho⟩
      have hgb := (HO.out.lt gb rfl).1
      have hbel : Below w.heap.size w w' := Below.grown (show Below w.heap.size w (xt (w.alloc (.cells #[.int .i64 c.e.x, .int .i64 c.e.y, .int .i64 c.e.z, .int .i64 c.r.x, .int .i64 c.r.y, .int .i64 c.r.z, .int .i64 c.u.x, .int .i64 c.u.y, .int .i64 c.u.z, .int .i64 c.f.x, .int .i64 c.f.y, .int .i64 c.f.z, .int .i64 c.fo, .int .i64 c.wi, .int .i64 c.he, .int .i64 c.ne] 25)) g) from (by repeat' (first | exact Below.refl _ _ | assumption | refine Below.xt ?_ ?_ _ | refine Below.alloc ?_ ?_ _ | refine Below.drew ?_ | refine Below.setCell ?_ ?_ _ | (simp; done) | (simp; omega)))) hg (by simp; omega) (fun q hq => by injection hq with hq; simp at hgb; omega)
      have HF := Lib.hid ho
      clear hg ho
      go_wp2_with fail
      obtain ⟨A', c', e6, hrow⟩ := Row.of_own (f := fun i => scell (srt (sfn L) L.length i)) HF.out rfl
      injection e6 with e6 e7 e8
      subst e6 e8
      go_ret2
      exact ⟨_, _, by rw [HLe.out]; rfl, hbel, by rw [HLe.out]; exact hrow⟩

end Go.Proofs.Ytjeemlnhokihoaa

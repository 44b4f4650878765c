/- Walks of cameras, by the program: the spots of as many points as may be. Conditions stand in each theorem. -/
import Derived.Test.YtjeemlnhokihoaaCamH2
import Derived.Test.YtjeemlnhokihoaaCamT8
namespace Go.Proofs.Ytjeemlnhokihoaa
open Go.RowKit
set_option linter.unusedVariables false
attribute [local go_sem ↓] ld16

/-! ### The list in its order -/
theorem scn_ix {c : Cam} {l : List V3} {ra : Int} : ∀ n, ∀ s ∈ scn c l ra n, s.ix < (n : Int)
  | 0, s, h => by simp [scn] at h
  | n + 1, s, h => by
    rw [scn, List.mem_append] at h
    rcases h with h | h
    · have := scn_ix n s h; omega
    · split at h <;> simp at h
      subst h; simp [spt]; omega
theorem scn_rise {c : Cam} {l : List V3} {ra : Int} : ∀ n, (scn c l ra n).Pairwise fun x y => x.ix < y.ix
  | 0 => by simp [scn]
  | n + 1 => by
    rw [scn, List.pairwise_append]
    refine ⟨scn_rise n, ?_, fun x hx y hy => ?_⟩
    · split <;> simp
    · have := scn_ix n x hx
      split at hy <;> simp at hy
      subst hy; simpa [spt] using this
theorem sfn_at {L : List Sp} {i : Nat} (h : i < L.length) : sfn L i = L[i] := by simp [sfn, List.getD, h]
theorem ris_of {L : List Sp} (h : L.Pairwise fun x y => x.ix < y.ix) : Ris (sfn L) 0 L.length := fun i j _ h1 h2 => by
  rw [sfn_at (by omega), sfn_at h2]
  exact List.pairwise_iff_getElem.1 h i j (by omega) h2 h1
/-- The elements of a row. -/
def els (f : Nat → Sp) (n : Nat) : List Sp := (List.range n).map f
theorem els_len (f : Nat → Sp) (n : Nat) : (els f n).length = n := by simp [els]
theorem els_srt {f : Nat → Sp} {n : Nat} (h : SrtD f 0 n) : (els f n).Pairwise lts := by
  rw [List.pairwise_iff_getElem]
  intro i j hi hj hij
  rw [els_len] at hi hj
  simp only [els, List.getElem_map, List.getElem_range]
  exact h i j (Nat.zero_le _) hij hj
theorem els_mem {f : Nat → Sp} {n : Nat} {x : Sp} : x ∈ els f n ↔ ∃ i, i < n ∧ f i = x := by simp [els]
/-- What the program has sorted is the one sorted list of these members. -/
theorem els_is {L R : List Sp} {f : Nat → Sp} (M : Mrg (sfn L) 0 L.length f) (hs : R.Pairwise lts) (hm : ∀ x, x ∈ R ↔ x ∈ L) : els f L.length = R := by
  refine sorted_uniq (els_srt M.srt) hs fun x => ?_
  rw [hm, els_mem]
  constructor
  · rintro ⟨i, hi, e⟩
    obtain ⟨j, _, hj, e2⟩ := M.same.fro i (Nat.zero_le _) hi
    rw [← e, e2, sfn_at hj]
    exact List.getElem_mem hj
  · intro hx
    obtain ⟨i, hi, e⟩ := List.mem_iff_getElem.1 hx
    obtain ⟨j, _, hj, e2⟩ := M.same.to i (Nat.zero_le _) hi
    exact ⟨j, hj, by rw [← e2, sfn_at hi, e]⟩

/-- The call returns the row sorted; it lies in blocks of its own. -/
def RetSr (L : List Sp) (w : World) (e : Ending) (w' : World) : Prop := ∃ f A cp, Mrg (sfn L) 0 L.length f ∧ e = .returned (.tuple #[.slice A L.length cp, .int .i64 0]) ∧ Below w.heap.size w w' ∧ Row w' A L.length 5 fun i => scell (f i)
set_option maxRecDepth 100000 in
set_option maxHeartbeats 6400000 in
theorem Scene_any (c : Cam) (l : List V3) (A : Option Addr) (n cap : Nat) (ra : Int) (w : World) (hc : cval c = true) (hr : within ra 0 1000 = true) (hn : n = l.length) (hm : n ≤ 4096) (hl : RowV w A l) (hp : ∀ i, i < n → pointAt l i = true) :
    Calls Try.prog 17 #[.agg #[.int .i64 c.e.x, .int .i64 c.e.y, .int .i64 c.e.z, .int .i64 c.r.x, .int .i64 c.r.y, .int .i64 c.r.z, .int .i64 c.u.x, .int .i64 c.u.y, .int .i64 c.u.z, .int .i64 c.f.x, .int .i64 c.f.y, .int .i64 c.f.z, .int .i64 c.fo, .int .i64 c.wi, .int .i64 c.he, .int .i64 c.ne], .slice A n cap, .int .i64 ra] w (RetSr (scn c l ra n) w) := by
  have hsn : ∀ k, scn c l ra (k + 1) = scn c l ra k ++ if seen c (at_ l k) then [spt c (at_ l k) ra k] else [] := fun k => rfl
  have G := good_of hc
  have hlen := scn_len c l ra
  have HOK := Lib.hid (sfn_ok (scn_ok (c := c) (l := l) (ra := ra) G n hp))
  have HRis := Lib.hid (ris_of (scn_rise (c := c) (l := l) (ra := ra) n))
  have K := fun w hl => Lib.hid (fine_yes c ra A n cap l w hc hr (by omega) hn hl hp)
  have HL := Lib.hid hl
  have HN := Lib.hid hn
  have HP := Lib.hid hp
  have HLen := Lib.hid hlen
  have HS := Lib.hid hsn
  have SY := fun p w hp hs => Lib.hid (spot_yes c p ra w G hp hr hs)
  have SN := fun p w hp hs => Lib.hid (spot_no c p ra w G hp hs)
  obtain ⟨i0, hi0, hz0, hz1, hz2⟩ := info_parts infoSpot
  clear hc hr hn hl hp hlen hsn G
  go_enter Try.func17, Try.ntmps17
  go_wp2_with fail
  refine (RetB.grown (K _ (Row.alloc HL.out _)).out).mono ?_
  rintro e w' ⟨rfl, ga, rfl⟩
  clear K
  go_wp2_with fail
  go_loopw [8, 20] (fun s i wr => ∃ (k : Nat) (g : Gr), k ≤ n ∧ i = .int .i64 k ∧ wr = xt (w.alloc (.cells #[.int .i64 c.e.x, .int .i64 c.e.y, .int .i64 c.e.z, .int .i64 c.r.x, .int .i64 c.r.y, .int .i64 c.r.z, .int .i64 c.u.x, .int .i64 c.u.y, .int .i64 c.u.z, .int .i64 c.f.x, .int .i64 c.f.y, .int .i64 c.f.z, .int .i64 c.fo, .int .i64 c.wi, .int .i64 c.he, .int .i64 c.ne] 25)) g ∧ Hid ((xt (w.alloc (.cells #[.int .i64 c.e.x, .int .i64 c.e.y, .int .i64 c.e.z, .int .i64 c.r.x, .int .i64 c.r.y, .int .i64 c.r.z, .int .i64 c.u.x, .int .i64 c.u.y, .int .i64 c.u.z, .int .i64 c.f.x, .int .i64 c.f.y, .int .i64 c.f.z, .int .i64 c.fo, .int .i64 c.wi, .int .i64 c.he, .int .i64 c.ne] 25)) g).ownsRow ((w.alloc (.cells #[.int .i64 c.e.x, .int .i64 c.e.y, .int .i64 c.e.z, .int .i64 c.r.x, .int .i64 c.r.y, .int .i64 c.r.z, .int .i64 c.u.x, .int .i64 c.u.y, .int .i64 c.u.z, .int .i64 c.f.x, .int .i64 c.f.y, .int .i64 c.f.z, .int .i64 c.fo, .int .i64 c.wi, .int .i64 c.he, .int .i64 c.ne] 25))).heap.size 35 5 s (scn c l ra k).length (rowS (sfn (scn c l ra k)) (scn c l ra k).length))) (fun _ i _ => n - (intOf i).toNat)
  case atStart => exact ⟨0, _, by omega, rfl, rfl, own_nil⟩
  case round =>
    obtain ⟨k, g, hk, rfl, rfl, HO⟩ := hrel
    by_cases hlt : k < n
    · obtain ⟨b, o, rfl, hb, hcl⟩ := HL.out.at_ (HN.out ▸ (show 0 < n by omega))
      obtain ⟨hx, hy, hz⟩ := RowV.cells hcl (HN.out ▸ hlt)
      clear hcl
      have hpk : pnt (at_ l k) = true := HP.out k hlt
      have hsk := HS.out k
      have hlk := HLen.out k
      obtain ⟨L, hL⟩ : ∃ L, scn c l ra k = L := ⟨_, rfl⟩
      rw [hL] at hsk hlk HO
      clear hL
      generalize at_ l k = p at *
      have HSK := Lib.hid hsk
      clear hsk
      by_cases hs : seen c p = true
      · have S := fun w => SY p w hpk hs
        have HE := Lib.hid (show scn c l ra (k + 1) = L ++ [spt c p ra k] by rw [HSK.out, if_pos hs])
        rw [show spt c p ra k = ⟨k, xx c p, yy c p, rr c p ra, zz c p⟩ from rfl] at HE
        clear SY SN HSK hs hpk
        generalize xx c p = x at *
        generalize yy c p = y at *
        generalize rr c p ra = r at *
        generalize zz c p = z at *
        go_wp2_with (first
          | (go_at_call 36; refine (RetB.grown ((S _).out)).mono ?_; rintro e' w' ⟨rfl, g, rfl⟩)
          | (at_builtin; go_must (refine wpList_append_own _ rfl _ _ 42 rfl ((w.alloc (.cells #[.int .i64 c.e.x, .int .i64 c.e.y, .int .i64 c.e.z, .int .i64 c.r.x, .int .i64 c.r.y, .int .i64 c.r.z, .int .i64 c.u.x, .int .i64 c.u.y, .int .i64 c.u.z, .int .i64 c.f.x, .int .i64 c.f.y, .int .i64 c.f.z, .int .i64 c.fo, .int .i64 c.wi, .int .i64 c.he, .int .i64 c.ne] 25))).heap.size 35 i0 _ 5 40 Try.underlying42 hi0 hz0 hz1 hz2 rfl (by omega) u8 L.length (rowS (sfn L) L.length) rfl (by repeat (first | (with_reducible exact HO.out) | (with_reducible exact own_drawn HO.out _) | (with_reducible refine World.ownsRow.alloc ?_ _) | (with_reducible refine own_xt ?_ _))) _ 1 _ [.int .i64 k, .int .i64 x, .int .i64 y, .int .i64 r, .int .i64 z] rfl rfl ?_ ?_ ?_ ?_ ?_ ?_))
          | (refine wp_region_xt (by kernel_rfl) (by kernel_rfl) ?_; (repeat (go_big_quiet_step (first | (go_at_call 36; exact RetB.quiet ((S _).out))))); refine wpQuiet_nil ?_; intro g))
        · exact cells_new _ _ _ _ (by simp)
        · intro u hu; simp only [List.mem_cons, List.not_mem_nil, or_false] at hu; rcases hu with rfl | rfl | rfl | rfl | rfl <;> rfl
        · simp only [maxLen]; omega
        · omega
        · simp; omega
        intro v1 w1 hown1 hgr1 _
        have hb1 : Below ((w.alloc (.cells #[.int .i64 c.e.x, .int .i64 c.e.y, .int .i64 c.e.z, .int .i64 c.r.x, .int .i64 c.r.y, .int .i64 c.r.z, .int .i64 c.u.x, .int .i64 c.u.y, .int .i64 c.u.z, .int .i64 c.f.x, .int .i64 c.f.y, .int .i64 c.f.z, .int .i64 c.fo, .int .i64 c.wi, .int .i64 c.he, .int .i64 c.ne] 25))).heap.size ((w.alloc (.cells #[.int .i64 c.e.x, .int .i64 c.e.y, .int .i64 c.e.z, .int .i64 c.r.x, .int .i64 c.r.y, .int .i64 c.r.z, .int .i64 c.u.x, .int .i64 c.u.y, .int .i64 c.u.z, .int .i64 c.f.x, .int .i64 c.f.y, .int .i64 c.f.z, .int .i64 c.fo, .int .i64 c.wi, .int .i64 c.he, .int .i64 c.ne] 25))) w1 := below_grown (n := L.length) (v := u8) (xs := rowS (sfn L) L.length) (e := 35) (s := 5) (by repeat' (first | exact Below.refl _ _ | assumption | refine Below.xt ?_ ?_ _ | refine Below.alloc ?_ ?_ _ | refine Below.drew ?_ | refine Below.setCell ?_ ?_ _ | (simp; done) | (simp; omega))) (by simp; omega) (by repeat (first | (with_reducible exact HO.out) | (with_reducible exact own_drawn HO.out _) | (with_reducible refine World.ownsRow.alloc ?_ _) | (with_reducible refine own_xt ?_ _))) hgr1
        obtain ⟨g9, rfl⟩ := xt_of_below hb1
        have HO1 := Lib.hid (show (xt (w.alloc (.cells #[.int .i64 c.e.x, .int .i64 c.e.y, .int .i64 c.e.z, .int .i64 c.r.x, .int .i64 c.r.y, .int .i64 c.r.z, .int .i64 c.u.x, .int .i64 c.u.y, .int .i64 c.u.z, .int .i64 c.f.x, .int .i64 c.f.y, .int .i64 c.f.z, .int .i64 c.fo, .int .i64 c.wi, .int .i64 c.he, .int .i64 c.ne] 25)) g9).ownsRow ((w.alloc (.cells #[.int .i64 c.e.x, .int .i64 c.e.y, .int .i64 c.e.z, .int .i64 c.r.x, .int .i64 c.r.y, .int .i64 c.r.z, .int .i64 c.u.x, .int .i64 c.u.y, .int .i64 c.u.z, .int .i64 c.f.x, .int .i64 c.f.y, .int .i64 c.f.z, .int .i64 c.fo, .int .i64 c.wi, .int .i64 c.he, .int .i64 c.ne] 25))).heap.size 35 5 v1 (scn c l ra (k + 1)).length (rowS (sfn (scn c l ra (k + 1))) (scn c l ra (k + 1)).length) by rw [HE.out, List.length_append]; simp only [List.length_cons, List.length_nil, Nat.zero_add]; rw [rowS_snoc]; simp only [World.size_alloc]; exact hown1)
        clear hown1 hgr1 hb1 HO
        go_wp2_with fail
        go_roundw
        case rel => exact ⟨k + 1, g9, by omega, by go_num, rfl, HO1⟩
        case measure => simp [intOf]; omega
      · have hs' : seen c p = false := by simpa using hs
        have S := fun w => SN p w hpk hs'
        have HE := Lib.hid (show scn c l ra (k + 1) = L by rw [HSK.out, if_neg hs, List.append_nil])
        clear SY SN HSK hs hs' hpk
        go_wp2_with (first
          | (go_at_call 36; refine (RetB.grown ((S _).out)).mono ?_; rintro e' w' ⟨rfl, g, rfl⟩)
          | (refine wp_region_xt (by kernel_rfl) (by kernel_rfl) ?_; (repeat (go_big_quiet_step (first | (go_at_call 36; exact RetB.quiet ((S _).out))))); refine wpQuiet_nil ?_; intro g))
        go_roundw
        case rel =>
          refine ⟨k + 1, ?_⟩
          rw [HE.out]
          refine ⟨_, by omega, by go_num, (Classical.choose_spec (xt_of_below (by repeat' (first | exact Below.refl _ _ | assumption | refine Below.xt ?_ ?_ _ | refine Below.alloc ?_ ?_ _ | refine Below.drew ?_ | refine Below.setCell ?_ ?_ _ | (simp; done) | (simp; omega))))), ?_⟩
          rw [← Classical.choose_spec (xt_of_below (by repeat' (first | exact Below.refl _ _ | assumption | refine Below.xt ?_ ?_ _ | refine Below.alloc ?_ ?_ _ | refine Below.drew ?_ | refine Below.setCell ?_ ?_ _ | (simp; done) | (simp; omega))))]
          refine Lib.hid ?_
          exact (by repeat (first | (with_reducible exact HO.out) | (with_reducible exact own_drawn HO.out _) | (with_reducible refine World.ownsRow.alloc ?_ _) | (with_reducible refine own_xt ?_ _)))
        case measure => simp [intOf]; omega
    · have e1 : k = n := by omega
      subst e1
      have hlk := HLen.out k
      obtain ⟨L, hL⟩ : ∃ L, scn c l ra k = L := ⟨_, rfl⟩
      rw [hL] at hlk HO HOK HRis
      have HLe := Lib.hid hL
      clear hL HS HLen SY SN
      rcases (show (u8 = .slice none 0 0 ∧ L.length = 0) ∨ ∃ gb cp, u8 = .slice (some ⟨gb, 0, none⟩) L.length cp from HO.out.2.imp id fun ⟨gb, cp, cur, h1, _⟩ => ⟨gb, cp, h1⟩) with ⟨e5, h0⟩ | ⟨gb, cp, e5⟩
      · subst e5
        have H0 := Lib.hid h0
        clear h0
        go_wp2_with fail
        refine (sort_0 _).mono ?_
        rintro e w' ⟨rfl, rfl⟩
        go_wp2_with fail
        go_ret2
        rw [HLe.out]
        exact ⟨sfn L, none, 0, ⟨Same.refl _ _ _, SrtD.one (by have := H0.out; omega)⟩, by rw [H0.out]; rfl, (by repeat' (first | exact Below.refl _ _ | assumption | refine Below.xt ?_ ?_ _ | refine Below.alloc ?_ ?_ _ | refine Below.drew ?_ | refine Below.setCell ?_ ?_ _ | (simp; done) | (simp; omega))), by rw [H0.out]; exact Row.none_⟩
      subst e5
      go_wp2_with fail
      refine (sortR_any gb L.length cp _ (sfn L) _ HO.out HOK.out (by omega) HRis.out).mono ?_
      rintro e w' ⟨f2, hm2, rfl, hg, ho⟩
      have hgb := (HO.out.lt gb rfl).1
      have hbel : Below w.heap.size w w' := Below.grown (show Below w.heap.size w (xt (w.alloc (.cells #[.int .i64 c.e.x, .int .i64 c.e.y, .int .i64 c.e.z, .int .i64 c.r.x, .int .i64 c.r.y, .int .i64 c.r.z, .int .i64 c.u.x, .int .i64 c.u.y, .int .i64 c.u.z, .int .i64 c.f.x, .int .i64 c.f.y, .int .i64 c.f.z, .int .i64 c.fo, .int .i64 c.wi, .int .i64 c.he, .int .i64 c.ne] 25)) g) from (by repeat' (first | exact Below.refl _ _ | assumption | refine Below.xt ?_ ?_ _ | refine Below.alloc ?_ ?_ _ | refine Below.drew ?_ | refine Below.setCell ?_ ?_ _ | (simp; done) | (simp; omega)))) hg (by simp; omega) (fun q hq => by injection hq with hq; simp at hgb; omega)
      have HF := Lib.hid ho
      have HM2 := Lib.hid hm2
      clear hg ho hm2
      go_wp2_with fail
      obtain ⟨A', c', e6, hrow⟩ := Row.of_own (f := fun i => scell (f2 i)) HF.out rfl
      injection e6 with e6 e7 e8
      subst e6 e8
      go_ret2
      rw [HLe.out]
      exact ⟨f2, _, _, HM2.out, rfl, hbel, hrow⟩

end Go.Proofs.Ytjeemlnhokihoaa

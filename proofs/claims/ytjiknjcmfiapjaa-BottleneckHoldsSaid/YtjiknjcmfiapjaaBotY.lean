
/- Walks: the keys of a map in order; the smallest greatest cost. Conditions stand in each theorem. -/
import Derived.Test.YtjiknjcmfiapjaaBotL
import Derived.Test.YtjiknjcmfiapjaaBotZ
import Derived.Maps.OwnOps
import Derived.Lib.SlKeysI
namespace Go.Proofs.Ytjiknjcmfiapjaa
open Go.RowKit Go.Maps Go.Sort Go.Shelf
set_option linter.unusedVariables false
set_option linter.unusedSimpArgs false

theorem sortsA (m : Nat) : AnyZI.SortsIn Try.prog Try.sortedA_ren Fence.wide m :=
  ⟨fun blk off cap ss W hH hblk hsz => callsIn_wide.2 (AnyM.slices_Sort_int Try.sortA blk off cap ss W hH hblk hsz),
   fun p cap W => callsIn_wide.2 (AnyM.slices_Sort_int_none Try.sortA p cap W)⟩
theorem keys_any (mb : Option Nat) (W : World) : Calls Try.prog 39 #[.map mb] W fun e w' => e = .returned (.func (.func 52) #[] #[.pointer (some ⟨W.heap.size, 0, none⟩)]) ∧ w' = W.alloc (.cells #[.map mb] 68) :=
  (callsIn_wide (n := 5)).1 (AnyZI.keys_in Try.keysA Fence.wide 5 trivial rfl mb W)
/-- The numbers of a map, in order, in a slice of the call's own. -/
def SortP (L : List Int → Prop) (w : World) (e : Ending) (w' : World) : Prop := ∃ v ss, e = .returned v ∧ L ss ∧ w'.ownsRow w.heap.size 3 1 v ss.length ((ss.mergeSort (fun x y => decide (x ≤ y))).map encZ) ∧ Below w.heap.size w w'
set_option maxHeartbeats 1000000 in
theorem sorted_any {H : Type} (b nn bb : Nat) (D0 : DataW H) (R : Value → Option (DataW H × List MemPlace)) (w : World) (hc : w.cell? ⟨bb, 0, none⟩ = some (.map (some b))) (hbb : bb < w.heap.size) (hown : w.ownsMap Try.prog 3 R b nn D0) (hmax : Maps.size D0 ≤ maxLen) (hbytes : Maps.size D0 * 8 ≤ 140737488355328) :
    Calls Try.prog 38 #[.func (.func 52) #[] #[.pointer (some ⟨bb, 0, none⟩)]] w (SortP (fun ss => ss.Perm (intKeys D0)) w) := by
  refine (callsIn_wide (n := 5)).1 ?_
  have hseq : SeqGives Fence.wide 2 Try.prog 52 #[.pointer (some ⟨bb, 0, none⟩)] encZ (fun ss => ss.Perm (intKeys D0)) (Maps.size D0) w :=
    AnyZI.keys_gives (ρ := Try.keysA_ren) { Try.keysA with } Fence.wide _ trivial rfl (by omega) bb b nn D0 _ hbb hc hown
  have cS := AnyZI.sorted_in Try.sortedA Fence.wide 5 trivial trivial trivial trivial rfl (by omega) (sortsA _) (enters_of Try.func51 (by kernel_rfl) rfl) 52 #[.pointer (some ⟨bb, 0, none⟩)] trivial (enters_of Try.func52 (by kernel_rfl) rfl) _ _ hmax hbytes _ hseq
  change CallsIn _ _ Try.prog 38 _ _ _ at cS
  exact cS.mono fun e w' ⟨v, ss, h1, h2, h3, h4, h5⟩ => ⟨v, ss, h1, h2, h3, h5⟩

/-- Block b of w is a map of at most n numbers: those that S says. -/
def SetM (w : World) (b n : Nat) (S : Int → Prop) : Prop :=
  ∃ D : DataW Unit, w.ownsMap Try.prog 3 (plainElem Try.prog 4) b n D ∧ Maps.IsMap D ∧ ∀ i : Int, Maps.has D (.int .i64 i) = true ↔ S i
section
variable {w w' : World} {b n : Nat} {S S' : Int → Prop}
theorem SetM.made (w : World) : SetM (w.alloc (.map #[] 0)) w.heap.size 0 (fun _ => False) :=
  ⟨.map [], World.ownsMap_made w Try.prog 3 _, (World.ownsMap_made w Try.prog 3 (plainElem (H := Unit) Try.prog 4)).isMap, fun i => by simp [Maps.has]⟩
theorem SetM.mono (h : SetM w b n S) {m : Nat} (hm : n ≤ m) : SetM w b m S := by
  obtain ⟨D, h1, h2⟩ := h
  exact ⟨D, h1.mono hm, h2⟩
theorem SetM.congr (h : SetM w b n S) (e : ∀ i, S i ↔ S' i) : SetM w b n S' := by
  obtain ⟨D, h1, h2, h3⟩ := h
  exact ⟨D, h1, h2, fun i => (h3 i).trans (e i)⟩
theorem SetM.lt (h : SetM w b n S) : b < w.heap.size := by
  obtain ⟨D, h1, h2⟩ := h
  exact h1.lt
end
theorem wpList_store_set (w : World) {ops : Array Oper} {rest : List Oper} {o : Oper} {a : Act} {Q : Exit → Act → World → Prop}
    (hg : o.guard = none) (m x v : Operand) (t : TypeId) (hop : o.op = Op.mapUpdate t m x v) (ht : Try.prog.underlying t = some (.map 3 4)) (b n : Nat) (S : Int → Prop)
    (hm : a.eval m = .map (some b)) (hown : SetM w b n S) (hn : n < maxLen) (i : Int) (y : Bool) (hx : a.eval x = .int .i64 i) (hv : a.eval v = .bool y) (hi : (Lit.int .i64 i).wf = true)
    (hK : ∀ w', SetM w' b (n + 1) (fun j => S j ∨ j = i) → w.grownBy w' (some b) → wpList Try.prog ops Q rest (a.put o.dst undef) w') :
    wpList Try.prog ops Q (o :: rest) a w := by
  obtain ⟨D, h1, h0, h2⟩ := hown
  refine wpList_mapUpdate_own w hg m x v t hop 3 4 (Maps.int_keyed Try.underlying3) ht (plainElem Try.prog 4) b n D hm h1 hn (.int .i64 i) (.bool y) (.int .i64 i) hx hv (Maps.keyOf_int_mk Try.underlying3 hi) (.lit (.bool y)) [] (plainElem_bool Try.underlying4 y) ?_
  intro w' hw hgr
  refine hK w' ⟨_, hw, hw.isMap, fun j => ?_⟩ hgr
  by_cases hij : j = i
  · subst hij
    rw [Maps.has_put_same h0 ((Maps.int_keyed Try.underlying3).key (Maps.keyOf_int_mk Try.underlying3 hi))]
    simp
  · rw [Maps.has_put_other (by intro q; injection q with _ q; exact hij q), h2 j]
    simp [hij]
theorem ins_len {H : Type} (x : Lit × DataW H) : ∀ l : List (Lit × DataW H), (DataW.insert x l).length = l.length + 1
  | [] => rfl
  | y :: l => by
    rw [DataW.insert]
    split
    · simp
    · simp [ins_len x l]
theorem SetM.data {w : World} {b n : Nat} {S : Int → Prop} (h : SetM w b n S) : ∃ D : DataW Unit, w.ownsMap Try.prog 3 (plainElem Try.prog 4) b n D ∧ Maps.size D ≤ n ∧ ∀ i, i ∈ intKeys D ↔ S i := by
  obtain ⟨D, h1, h2, h3⟩ := h
  refine ⟨D, h1, ?_, fun i => ?_⟩
  · obtain ⟨es, clock, _, _, hs, rfl⟩ := h1
    rw [Maps.size_eq]
    have : ∀ l : List (Lit × DataW Unit), (l.foldr DataW.insert []).length = l.length := fun l => by
      induction l with
      | nil => rfl
      | cons a l ih => rw [List.foldr_cons, ins_len, ih]; rfl
    rw [this]
    simp; omega
  · rw [← h3 i]
    obtain ⟨es, hD, hko⟩ := h1.keysOf
    subst hD
    rw [Maps.has_eq, List.any_eq_true]
    show i ∈ es.map (fun p => Go.intOf p.1) ↔ _
    rw [List.mem_map]
    have hk : ∀ p ∈ es, ∃ x, p.1 = .int .i64 x := fun p hp => by
      obtain ⟨v, hv⟩ := hko p hp
      obtain ⟨x, _, hx, _⟩ := Maps.keyOf_i64 Try.underlying3 hv
      exact ⟨x, hx⟩
    constructor
    · rintro ⟨p, hp', rfl⟩
      obtain ⟨a, ha⟩ := hk p hp'
      exact ⟨p, hp', by rw [ha]; simp [Lit.sameKey, Go.intOf]⟩
    · rintro ⟨p, hp', hs⟩
      obtain ⟨a, ha⟩ := hk p hp'
      rw [ha] at hs
      exact ⟨p, hp', by rw [ha]; simpa [Lit.sameKey, Go.intOf] using hs⟩

/-- The call returns the smallest greatest cost. -/
def ThrP (G : Nat → List Int) (n : Nat) (w : World) (e : Ending) (w' : World) : Prop := ∃ T, e = .returned (.int .i64 T) ∧ Thr G n T ∧ Below w.heap.size w w'
/-- The costs of the rows before i, and of row i those before k. -/
def seen (G : Nat → List Int) (n i k : Nat) (x : Int) : Prop := (∃ r j, r < i ∧ j < n ∧ cst G r j = x) ∨ ∃ j, j < k ∧ cst G i j = x
theorem seen_next (G : Nat → List Int) (n i k : Nat) (x : Int) : (seen G n i k x ∨ x = cst G i k) ↔ seen G n i (k + 1) x := by
  unfold seen
  constructor
  · rintro ((h | ⟨j, hj, e⟩) | e)
    · exact .inl h
    · exact .inr ⟨j, by omega, e⟩
    · exact .inr ⟨k, by omega, e.symm⟩
  · rintro (h | ⟨j, hj, e⟩)
    · exact .inl (.inl h)
    · rcases Nat.lt_or_ge j k with h | h
      · exact .inl (.inr ⟨j, h, e⟩)
      · obtain rfl : j = k := by omega
        exact .inr e.symm
theorem seen_row (G : Nat → List Int) (n i : Nat) (x : Int) : seen G n i n x ↔ seen G n (i + 1) 0 x := by
  unfold seen
  constructor
  · rintro (⟨r, j, hr, hj, e⟩ | ⟨j, hj, e⟩)
    · exact .inl ⟨r, j, by omega, hj, e⟩
    · exact .inl ⟨i, j, by omega, hj, e⟩
  · rintro (⟨r, j, hr, hj, e⟩ | ⟨j, hj, e⟩)
    · rcases Nat.lt_or_ge r i with h | h
      · exact .inl ⟨r, j, h, hj, e⟩
      · obtain rfl : r = i := by omega
        exact .inr ⟨j, hj, e⟩
    · omega

set_option maxRecDepth 100000 in
set_option maxHeartbeats 6400000 in
theorem threshold_any (A : Option Addr) (n cap : Nat) (G : Nat → List Int) (w : World) (hG : GRow w A n G) (hC : Cst G n) : Calls Try.prog 26 #[.slice A n cap] w (ThrP G n w) := by
  have hn1 := hC.pos
  have hn2 := hC.le
  obtain ⟨ga, go, rfl, hgo, hgc⟩ := hG.top (by omega)
  have HG := Lib.hid hG
  have HGC := Lib.hid hgc
  have HC := Lib.hid hC
  have hmm := @run_makeMap Try.prog
  clear hG hC hgc
  go_enter Try.func26, Try.ntmps26
  go_wp2_with fail
  clear hmm
  obtain ⟨W1, hW1, HB1, hs1, o1⟩ : ∃ W1, w.alloc (.cells #[.slice (some ⟨ga, go, none⟩) n cap] 22) = W1 ∧ Hid (Below w.heap.size w W1) ∧ w.heap.size + 1 = W1.heap.size ∧ old w.heap.size W1 := ⟨_, rfl, Lib.hid (by repeat' (first | exact Below.refl _ _ | assumption | refine Below.xt ?_ ?_ _ | refine Below.alloc ?_ ?_ _ | refine Below.drew ?_ | refine Below.setCell ?_ ?_ _ | (simp; done) | (simp; omega))), by simp, by unfold old; simp⟩
  have HX := Lib.hid (show Blk (W1.alloc (.map #[] 0)) w.heap.size #[.slice (some ⟨ga, go, none⟩) n cap] 22 by rw [← hW1]; exact (Blk.new _ _ _ rfl).alloc _)
  rw [hW1, hs1]
  clear hW1 hs1
  have HM := Lib.hid (show SetM (W1.alloc (.map #[] 0)) W1.heap.size (64 * 0) (seen G n 0 0) from (SetM.made W1).congr fun i => by unfold seen; simp)
  have HB2 := Lib.hid (show Below W1.heap.size W1 (W1.alloc (.map #[] 0)) from (by repeat' (first | exact Below.refl _ _ | assumption | refine Below.xt ?_ ?_ _ | refine Below.alloc ?_ ?_ _ | refine Below.drew ?_ | refine Below.setCell ?_ ?_ _ | (simp; done) | (simp; omega))))
  go_loopg [14] (n) (fun gk i wr => ∃ k : Nat, k + gk = n ∧ i = .int .i64 k ∧ Hid (Below W1.heap.size W1 wr) ∧ Hid (Blk wr w.heap.size #[.slice (some ⟨ga, go, none⟩) n cap] 22) ∧ Hid (SetM wr W1.heap.size (64 * k) (seen G n k 0)))
  case atStart => exact ⟨0, by omega, rfl, HB2, HX, HM⟩
  case round =>
    clear HM HB2 HX
    obtain ⟨i, hi, rfl, HB2, HX, HM⟩ := hrel
    have HW := Lib.hid (show Below w.heap.size w wr from Below.next' HB1.out HB2.out HB1.out.size)
    by_cases hlt : i < n
    · obtain ⟨gf, rfl⟩ : ∃ gf, gk = gf + 1 := ⟨gk - 1, by omega⟩
      obtain ⟨Ai, ci, hgi0, hrow⟩ := HGC.out i hlt
      have hlr := HC.out.len i hlt
      rw [hlr] at hgi0
      have hgi := (HW.out.cell (p := ⟨ga, go + i, none⟩) hgo).trans hgi0
      have hga : old ga wr := Nat.lt_of_lt_of_le hgo HW.out.size
      have HRow := Lib.hid hrow
      have HLr := Lib.hid hlr
      obtain ⟨Wo, rfl⟩ : ∃ Wo : World, Wo = wr := ⟨_, rfl⟩
      clear hrow hgi0 hlr
      go_wp2_with fail
      clear hgi hga
      have HM2 := Lib.hid (show SetM Wo W1.heap.size (64 * i + 0) (seen G n i 0) from HM.out)
      go_loopg [20] (n) (fun gk j wr => ∃ k : Nat, k + gk = n ∧ j = .int .i64 k ∧ Hid (Below W1.heap.size W1 wr) ∧ Hid (Blk wr w.heap.size #[.slice (some ⟨ga, go, none⟩) n cap] 22) ∧ Hid (SetM wr W1.heap.size (64 * i + k) (seen G n i k)))
      case atStart => exact ⟨0, by omega, rfl, HB2, HX, HM2⟩
      case round =>
        clear HM2 HB2 HX HM HW
        obtain ⟨k, hk, rfl, HB2, HX, HM⟩ := hrel
        by_cases hkn : k < n
        · have HW := Lib.hid (show Below w.heap.size w wr from Below.next' HB1.out HB2.out HB1.out.size)
          obtain ⟨qb, qo, rfl, hqo, hqc⟩ := RowI.at_ (HRow.out.below HW.out) (by rw [HLr.out]; omega)
          have hx := hqc k (by rw [HLr.out]; exact hkn)
          obtain ⟨x, hxx⟩ : ∃ x, (G i).getD k 0 = x := ⟨_, rfl⟩
          have hb := HC.out.c hlt hkn
          rw [show cst G i k = x from hxx] at hb
          rw [hxx] at hx
          have HXX := Lib.hid (show cst G i k = x from hxx)
          have hw64 : (Lit.int .i64 x).wf = true := WalkArith.wf_i64 (by omega)
          obtain ⟨hb1, hb2⟩ := hb
          clear hqc hxx
          go_wp2_with (at_mapUpdate; go_must (refine wpList_store_set _ rfl _ _ _ 68 rfl Try.underlying68 W1.heap.size (64 * i + k) (seen G n i k) rfl HM.out (by simp only [maxLen]; omega) x true rfl rfl hw64 ?_))
          intro w1 hm1 hg1
          have HM1 := Lib.hid (show SetM w1 W1.heap.size (64 * i + (k + 1)) (seen G n i (k + 1)) from hm1.congr fun y => by rw [← HXX.out]; exact seen_next G n i k y)
          have HX1 := Lib.hid (HX.out.kept hg1 (fun e => by have h := o1; injection e with e; unfold old at h; omega))
          have HB3 := Lib.hid (show Below W1.heap.size W1 w1 from HB2.out.grown hg1 HB2.out.size (fun k e => by injection e with e; omega))
          clear hm1 hg1 HM HX HB2 HW
          go_wp2_with fail
          go_roundg (gk - 1)
          case measure => omega
          case rel => exact ⟨k + 1, by omega, by go_num, HB3, HX1, HM1⟩
        · obtain rfl : n = k := by omega
          have HM1 := Lib.hid ((HM.out.congr (seen_row G n i)).mono (show 64 * i + n ≤ 64 * (i + 1) by omega))
          clear HM
          go_wp2_with fail
          go_roundg gf
          case measure => omega
          case rel => exact ⟨i + 1, by omega, by go_num, HB2, HX, HM1⟩
    · obtain rfl : n = i := by omega
      obtain ⟨D, hD, hsz, hmem⟩ := HM.out.data
      have HD := Lib.hid hD
      have HS := Lib.hid hsz
      have HMem := Lib.hid (show ∀ x, x ∈ intKeys D ↔ ∃ r k, r < n ∧ k < n ∧ cst G r k = x from fun x => (hmem x).trans (by unfold seen; simp))
      have CS := fun w' bb (h1 : w'.cell? ⟨bb, 0, none⟩ = some (.map (some W1.heap.size))) (h2 : bb < w'.heap.size) (h3 : w'.ownsMap Try.prog 3 (plainElem Try.prog 4) W1.heap.size (64 * n) D) => Lib.hid (sorted_any W1.heap.size (64 * n) bb D _ w' h1 h2 h3 (by simp only [maxLen]; omega) (by omega))
      have oX := HX.out.lt
      have HM2 := HM
      clear hD hsz hmem HM
      go_wp2_with (first
        | (go_at_call 39; refine (keys_any _ _).mono ?_; rintro e' w' ⟨rfl, rfl⟩)
        | (go_at_call 38; refine (CS _ _ ?_ ?_ ?_).out.mono ?_; (next => go_simp); (next => simp); (next => exact HD.out.alloc _); rintro e' w2 ⟨v, ss, rfl, hp, ho, hb⟩; obtain ⟨A2, c2, rfl, hr⟩ := RowI.of_own ho (by rw [List.length_mergeSort]); have HP := Lib.hid hp; have HB3 := Lib.hid hb; have HR := Lib.hid hr; clear hp ho hb hr))
      obtain ⟨L, hL⟩ : ∃ L, ss.mergeSort (fun x y => decide (x ≤ y)) = L := ⟨_, rfl⟩
      have hls : ss.length = L.length := by rw [← hL, List.length_mergeSort]
      rw [hL] at HR
      rw [hls]
      clear hls
      have HLm := Lib.hid (show ∀ x, x ∈ L ↔ ∃ r k, r < n ∧ k < n ∧ cst G r k = x from fun x => by
        rw [← HMem.out x, ← hL, List.mem_mergeSort]; exact HP.out.mem_iff)
      have HLs := Lib.hid (show ∀ i j, i < j → j < L.length → L.getD i 0 ≤ L.getD j 0 from fun i j hij hj => by
        have hs := List.pairwise_mergeSort (le := fun x y : Int => decide (x ≤ y)) (fun a b c h1 h2 => by simp only [decide_eq_true_eq] at *; omega) (fun a b => by simp only [Bool.or_eq_true, decide_eq_true_eq]; omega) ss
        rw [hL] at hs
        have := List.pairwise_iff_getElem.1 hs i j (by omega) hj hij
        simpa [List.getD, hj, show i < L.length by omega] using this)
      have HLl := Lib.hid (show L.length ≤ 1000000 by
        rw [← hL, List.length_mergeSort, HP.out.length_eq]
        have h : (intKeys D).length = Maps.size D := by
          obtain ⟨es, hes, _⟩ := HD.out.keysOf
          subst hes
          simp [intKeys, Maps.size]
        rw [h]
        have := HS.out
        omega)
      clear hL HP HMem HS CS HD
      have hsz := HB3.out.size
      have hb2 := HB3.out
      obtain ⟨g2, hg2⟩ := xt_of_below hb2
      subst hg2
      have HGx := Lib.hid (show ∀ g, GRow (xt (xt (wr.alloc (.cells #[.map (some W1.heap.size)] 68)) g2) g) (some ⟨ga, go, none⟩) n G from fun g => ((((HG.out.below HW.out).alloc _).xt g2).xt g))
      have HCx := Lib.hid (show ∀ g, Blk (xt (xt (wr.alloc (.cells #[.map (some W1.heap.size)] 68)) g2) g) w.heap.size #[.slice (some ⟨ga, go, none⟩) n cap] 22 from fun g => (((HX.out.alloc _).xt g2).xt g))
      have HQ := Lib.hid (show ∀ (x : Int) (g : Gr), x ∈ L → Calls Try.prog 41 #[.int .i64 x, .bool true, .pointer (some ⟨w.heap.size, 0, none⟩)] (xt (xt (wr.alloc (.cells #[.map (some W1.heap.size)] 68)) g2) g) (RetB (.int .i64 (ans (enB G n x))) (xt (xt (wr.alloc (.cells #[.map (some W1.heap.size)] 68)) g2) g)) from fun x g hx => by
        obtain ⟨r, k, hr, hk, e⟩ := (HLm.out x).1 hx
        have := HC.out.c hr hk
        exact most_any x (some ⟨ga, go, none⟩) n cap w.heap.size G _ (HGx.out g) HC.out (HCx.out g).lt ((HCx.out g).cell rfl) (by unfold I64; omega))
      have hmono : ∀ i j, i < j → j < L.length → enB G n (L.getD i 0) = true → enB G n (L.getD j 0) = true := fun i j hij hj h => by
        rw [enB_iff (by omega)] at h ⊢
        exact h.mono (HLs.out i j hij hj)
      have HB4 := Lib.hid (show Below w.heap.size w (xt (wr.alloc (.cells #[.map (some W1.heap.size)] 68)) g2) from by
        have h0 := HW.out
        have := h0.size
        exact Below.xt (h0.alloc h0.size _) (by simp; omega) g2)
      refine (bsf_any A2 c2 w.heap.size L (enB G n) _ HLl.out HR.out hmono HQ.out).mono ?_
      rintro e' w3 ⟨p, hp, rfl, hq0, hq1, hb3⟩
      obtain ⟨hpl, hT⟩ := thr_of HC.out HLs.out HLm.out hq0 hq1 hp
      obtain ⟨b2, o2, rfl, hb2', hc2⟩ := RowI.at_ (HR.out.below hb3) (by omega)
      have hcp := hc2 p hpl
      have HT := Lib.hid hT
      have HB5 := Lib.hid hb3
      obtain ⟨T, hTT⟩ : ∃ T, L.getD p 0 = T := ⟨_, rfl⟩
      rw [hTT] at hcp HT
      obtain ⟨m, hm⟩ : ∃ m, L.length = m := ⟨_, rfl⟩
      rw [hm] at hpl
      have HLL := HLl.out
      rw [hm] at HLL ⊢
      clear hq0 hq1 hT hb3 hc2 hmono hTT hm hp hsz hb2
      go_wp2_with fail
      go_ret
      exact ⟨T, rfl, HT.out, HB4.out.trans (HB5.out.mono HB4.out.size)⟩
end Go.Proofs.Ytjiknjcmfiapjaa

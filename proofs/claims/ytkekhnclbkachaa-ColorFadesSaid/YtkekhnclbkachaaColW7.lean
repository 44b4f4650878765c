/- Walks: the colour with a text, by the reference. Conditions stand in each theorem. -/
import Derived.Test.YtkekhnclbkachaaColW6
namespace Go.Proofs.Ytkekhnclbkachaa
open Go.RowKit
set_option linter.unusedVariables false
set_option linter.unusedSimpArgs false

theorem retB {P : Program} {f : FuncId} {args : Array Value} {v : Value} {w : World} (h : Calls P f args w (Ret v w)) : Calls P f args w (RetB v w) :=
  h.mono fun _ _ ⟨he, hw⟩ => ⟨he, hw ▸ Below.refl _ _⟩
set_option maxHeartbeats 800000 in
theorem refParse_size (s : ByteArray) (w : World) (hs : s.size ≠ 7) : Calls Try.prog 18 #[.string s] w (RetB (.tuple #[.agg #[.int .u8 (parseC s).r, .int .u8 (parseC s).g, .int .u8 (parseC s).b], .int .i64 (parseE s)]) w) := by
  have e : parseOk s = false := by simp [parseOk, hs]
  have HV := Lib.hid (show Value.tuple #[.agg #[.int .u8 0, .int .u8 0, .int .u8 0], .int .i64 6] = .tuple #[.agg #[.int .u8 (parseC s).r, .int .u8 (parseC s).g, .int .u8 (parseC s).b], .int .i64 (parseE s)] by rw [parseC, parseE, e]; rfl)
  generalize Value.tuple #[.agg #[.int .u8 (parseC s).r, .int .u8 (parseC s).g, .int .u8 (parseC s).b], .int .i64 (parseE s)] = V at *
  have h1 : ((s.size : Int) != 7) = true := by simp; omega
  clear e
  go_enter Try.func18, Try.ntmps18
  go_wp2
  refine bodyPost_ret (v := .tuple #[.agg #[.int .u8 0, .int .u8 0, .int .u8 0], .int .i64 6]) (by simp [results, Try.results18, go_sem]) rfl ?_
  exact RetB.of HV.out (by repeat' (first | exact Below.refl _ _ | assumption | refine Below.xt ?_ ?_ _ | refine Below.alloc ?_ ?_ _ | refine Below.drew ?_ | refine Below.setCell ?_ ?_ _ | (simp; done) | (simp; omega)))
set_option maxHeartbeats 800000 in
theorem refParse_mark (s : ByteArray) (w : World) (hs : s.size = 7) (h0 : bt s 0 ≠ 35) : Calls Try.prog 18 #[.string s] w (RetB (.tuple #[.agg #[.int .u8 (parseC s).r, .int .u8 (parseC s).g, .int .u8 (parseC s).b], .int .i64 (parseE s)]) w) := by
  have e : parseOk s = false := by simp [parseOk, h0]
  have HV := Lib.hid (show Value.tuple #[.agg #[.int .u8 0, .int .u8 0, .int .u8 0], .int .i64 6] = .tuple #[.agg #[.int .u8 (parseC s).r, .int .u8 (parseC s).g, .int .u8 (parseC s).b], .int .i64 (parseE s)] by rw [parseC, parseE, e]; rfl)
  generalize Value.tuple #[.agg #[.int .u8 (parseC s).r, .int .u8 (parseC s).g, .int .u8 (parseC s).b], .int .i64 (parseE s)] = V at *
  have b0 := bt_at (s := s) (i := 0) (by omega)
  have h1 : (bt s 0 != 35) = true := by simpa using h0
  clear e h0
  go_enter Try.func18, Try.ntmps18
  go_wp2
  refine bodyPost_ret (v := .tuple #[.agg #[.int .u8 0, .int .u8 0, .int .u8 0], .int .i64 6]) (by simp [results, Try.results18, go_sem]) rfl ?_
  exact RetB.of HV.out (by repeat' (first | exact Below.refl _ _ | assumption | refine Below.xt ?_ ?_ _ | refine Below.alloc ?_ ?_ _ | refine Below.drew ?_ | refine Below.setCell ?_ ?_ _ | (simp; done) | (simp; omega)))
set_option maxHeartbeats 3200000 in
theorem refParse_seven (s : ByteArray) (w : World) (hs : s.size = 7) (h0 : bt s 0 = 35) : Calls Try.prog 18 #[.string s] w (RetB (.tuple #[.agg #[.int .u8 (parseC s).r, .int .u8 (parseC s).g, .int .u8 (parseC s).b], .int .i64 (parseE s)]) w) := by
  obtain ⟨V, hV⟩ : ∃ V : Value, .tuple #[.agg #[.int .u8 (parseC s).r, .int .u8 (parseC s).g, .int .u8 (parseC s).b], .int .i64 (parseE s)] = V := ⟨_, rfl⟩
  rw [hV]
  have HB := Lib.hid (show hexAll s = false → .tuple #[.agg #[.int .u8 0, .int .u8 0, .int .u8 0], .int .i64 6] = V from fun h => by
    rw [← hV, parseC, parseE, parseOk, h, Bool.and_false]; rfl)
  have HG := Lib.hid (show hexAll s = true → .tuple #[.agg #[.int .u8 (parseRaw s).r, .int .u8 (parseRaw s).g, .int .u8 (parseRaw s).b], .int .i64 0] = V from fun h => by
    rw [← hV, parseC, parseE, parseOk, h, decide_eq_true hs, decide_eq_true h0]; rfl)
  clear hV
  have HA := Lib.hid (hexAll_iff (s := s))
  have HR := Lib.hid (show parseRaw s = ⟨dig (bt s 1) * 16 + dig (bt s 2), dig (bt s 3) * 16 + dig (bt s 4), dig (bt s 5) * 16 + dig (bt s 6)⟩ from rfl)
  obtain ⟨A, hA⟩ : ∃ A, hexAll s = A := ⟨_, rfl⟩
  rw [hA] at HB HG HA
  clear hA
  generalize parseRaw s = P at *
  have b0 := bt_at (s := s) (i := 0) (by omega)
  have h1 : (bt s 0 != 35) = false := by simpa using h0
  clear h0
  have b1 := bt_at (s := s) (i := 1) (by omega)
  obtain ⟨l1, u1⟩ := dig_le (bt s 1)
  have C1 := fun w => Lib.hid (retB (digit_any (bt s 1) w))
  generalize dig (bt s 1) = d1 at *
  generalize bt s 1 = x1 at *
  have b2 := bt_at (s := s) (i := 2) (by omega)
  obtain ⟨l2, u2⟩ := dig_le (bt s 2)
  have C2 := fun w => Lib.hid (retB (digit_any (bt s 2) w))
  generalize dig (bt s 2) = d2 at *
  generalize bt s 2 = x2 at *
  have b3 := bt_at (s := s) (i := 3) (by omega)
  obtain ⟨l3, u3⟩ := dig_le (bt s 3)
  have C3 := fun w => Lib.hid (retB (digit_any (bt s 3) w))
  generalize dig (bt s 3) = d3 at *
  generalize bt s 3 = x3 at *
  have b4 := bt_at (s := s) (i := 4) (by omega)
  obtain ⟨l4, u4⟩ := dig_le (bt s 4)
  have C4 := fun w => Lib.hid (retB (digit_any (bt s 4) w))
  generalize dig (bt s 4) = d4 at *
  generalize bt s 4 = x4 at *
  have b5 := bt_at (s := s) (i := 5) (by omega)
  obtain ⟨l5, u5⟩ := dig_le (bt s 5)
  have C5 := fun w => Lib.hid (retB (digit_any (bt s 5) w))
  generalize dig (bt s 5) = d5 at *
  generalize bt s 5 = x5 at *
  have b6 := bt_at (s := s) (i := 6) (by omega)
  obtain ⟨l6, u6⟩ := dig_le (bt s 6)
  have C6 := fun w => Lib.hid (retB (digit_any (bt s 6) w))
  generalize dig (bt s 6) = d6 at *
  generalize bt s 6 = x6 at *
  go_enter Try.func18, Try.ntmps18
  go_wp2
  refine wp_loop_rounds 4 ?_
  repeat any_goals (rw [rounds_succ]; go_wp2_with (first
    | (go_at_call 37; (with_reducible refine (RetB.grown ((C1 _).out)).mono ?_); rintro e' w' ⟨rfl, g, rfl⟩)
    | (go_at_call 37; (with_reducible refine (RetB.grown ((C2 _).out)).mono ?_); rintro e' w' ⟨rfl, g, rfl⟩)
    | (go_at_call 37; (with_reducible refine (RetB.grown ((C3 _).out)).mono ?_); rintro e' w' ⟨rfl, g, rfl⟩)
    | (go_at_call 37; (with_reducible refine (RetB.grown ((C4 _).out)).mono ?_); rintro e' w' ⟨rfl, g, rfl⟩)
    | (go_at_call 37; (with_reducible refine (RetB.grown ((C5 _).out)).mono ?_); rintro e' w' ⟨rfl, g, rfl⟩)
    | (go_at_call 37; (with_reducible refine (RetB.grown ((C6 _).out)).mono ?_); rintro e' w' ⟨rfl, g, rfl⟩)
    | (refine wp_region_xt (by kernel_rfl) (by kernel_rfl) ?_; (repeat (go_big_quiet_step (first | (go_at_call 37; (with_reducible exact RetB.quiet ((C1 _).out))) | (go_at_call 37; (with_reducible exact RetB.quiet ((C2 _).out))) | (go_at_call 37; (with_reducible exact RetB.quiet ((C3 _).out))) | (go_at_call 37; (with_reducible exact RetB.quiet ((C4 _).out))) | (go_at_call 37; (with_reducible exact RetB.quiet ((C5 _).out))) | (go_at_call 37; (with_reducible exact RetB.quiet ((C6 _).out)))))); refine wpQuiet_nil ?_; intro g)))
  all_goals first
    | (have hA : A = true := HA.out.2 (by omega)
       have HG2 := HG.out hA
       rw [HR.out] at HG2
       clear hA
       refine bodyPost_ret (v := .tuple #[.agg #[.int .u8 (16 * d1 + d2), .int .u8 (16 * d3 + d4), .int .u8 (16 * d5 + d6)], .int .i64 0]) (by simp [results, Try.results18, go_sem]) rfl ?_
       exact RetB.of (by rw [← HG2, Int.mul_comm 16 d1, Int.mul_comm 16 d3, Int.mul_comm 16 d5]) (by repeat' (first | exact Below.refl _ _ | assumption | refine Below.xt ?_ ?_ _ | refine Below.alloc ?_ ?_ _ | refine Below.drew ?_ | refine Below.setCell ?_ ?_ _ | (simp; done) | (simp; omega))))
    | (have hA : A = false := by
         cases hA : A
         · rfl
         · have := HA.out.1 hA
           omega
       have HB2 := HB.out hA
       clear hA
       refine bodyPost_ret (v := .tuple #[.agg #[.int .u8 0, .int .u8 0, .int .u8 0], .int .i64 6]) (by simp [results, Try.results18, go_sem]) rfl ?_
       exact RetB.of HB2 (by repeat' (first | exact Below.refl _ _ | assumption | refine Below.xt ?_ ?_ _ | refine Below.alloc ?_ ?_ _ | refine Below.drew ?_ | refine Below.setCell ?_ ?_ _ | (simp; done) | (simp; omega))))
theorem refParse_any (s : ByteArray) (w : World) : Calls Try.prog 18 #[.string s] w (RetB (.tuple #[.agg #[.int .u8 (parseC s).r, .int .u8 (parseC s).g, .int .u8 (parseC s).b], .int .i64 (parseE s)]) w) := by
  by_cases h : s.size = 7
  · by_cases h0 : bt s 0 = 35
    · exact refParse_seven s w h h0
    · exact refParse_mark s w h h0
  · exact refParse_size s w h

end Go.Proofs.Ytkekhnclbkachaa

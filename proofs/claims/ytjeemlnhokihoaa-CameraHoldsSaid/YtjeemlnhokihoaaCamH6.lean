/- The walk of the law CameraHolds, whatever its arguments. No condition. -/
import Derived.Test.YtjeemlnhokihoaaCamH5
import Derived.Test.YtjeemlnhokihoaaCamO
namespace Go.Proofs.Ytjeemlnhokihoaa
open Go.RowKit
set_option linter.unusedVariables false

theorem CameraHolds_any (c : Cam) (l : List V3) (A : Option Addr) (n cap : Nat) (ra : Int) (d : V3) (hd q : Int) (w : World) (hnl : n = l.length) (hl : RowV w A l) (ohd : I64 hd) (oq : I64 q) :
    Calls Try.prog 9 #[.agg #[.int .i64 c.e.x, .int .i64 c.e.y, .int .i64 c.e.z, .int .i64 c.r.x, .int .i64 c.r.y, .int .i64 c.r.z, .int .i64 c.u.x, .int .i64 c.u.y, .int .i64 c.u.z, .int .i64 c.f.x, .int .i64 c.f.y, .int .i64 c.f.z, .int .i64 c.fo, .int .i64 c.wi, .int .i64 c.he, .int .i64 c.ne], .slice A n cap, .int .i64 ra, .agg #[.int .i64 d.x, .int .i64 d.y, .int .i64 d.z], .int .i64 hd, .int .i64 q] w (RetB (.bool true) w) := by
  by_cases hn : n ≤ 20
  · rcases Bool.eq_false_or_eq_true (cval c) with hc | hc
    · rcases Bool.eq_false_or_eq_true (pnt d) with hp | hp
      · exact CH_main c l A n cap ra hd q d w hn hc hp hnl hl ohd oq
      · exact CH_by c A n cap ra hd q d w hn hc hp
    · exact CH_bad c A n cap ra hd q d w hn hc
  · exact CH_many c A n cap ra hd q d w (by omega)
theorem CameraHolds_walk (c : Cam) (A : Option Addr) (n cap : Nat) (ra : Int) (d : V3) (hd q : Int) (w : World) (oc : c.ok)
    (ol : (A = none ∧ n = 0 ∧ cap = 0) ∨ ∃ ad l, A = some ad ∧ n = l.length ∧ n ≤ maxLen ∧ RowV w (some ad) l) (ora : I64 ra) (od : d.ok) (ohd : I64 hd) (oq : I64 q) :
    Calls Try.prog 9 #[.agg #[.int .i64 c.e.x, .int .i64 c.e.y, .int .i64 c.e.z, .int .i64 c.r.x, .int .i64 c.r.y, .int .i64 c.r.z, .int .i64 c.u.x, .int .i64 c.u.y, .int .i64 c.u.z, .int .i64 c.f.x, .int .i64 c.f.y, .int .i64 c.f.z, .int .i64 c.fo, .int .i64 c.wi, .int .i64 c.he, .int .i64 c.ne], .slice A n cap, .int .i64 ra, .agg #[.int .i64 d.x, .int .i64 d.y, .int .i64 d.z], .int .i64 hd, .int .i64 q] w (RetB (.bool true) w) := by
  rcases ol with ⟨rfl, rfl, rfl⟩ | ⟨ad, l, rfl, hn, _, hl⟩
  · exact CameraHolds_any c [] none 0 0 ra d hd q w rfl Row.none_ ohd oq
  · exact CameraHolds_any c l (some ad) n cap ra d hd q w hn hl ohd oq
end Go.Proofs.Ytjeemlnhokihoaa

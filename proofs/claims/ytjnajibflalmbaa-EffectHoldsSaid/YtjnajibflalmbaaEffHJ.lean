/- The walk of the theorem of stage 29, joined by cases. No condition but that the numbers fit their kinds. -/
import Derived.Test.YtjnajibflalmbaaEffHW0
import Derived.Test.YtjnajibflalmbaaEffHW1
import Derived.Test.YtjnajibflalmbaaEffHW2
import Derived.Test.YtjnajibflalmbaaEffHW3
import Derived.Test.YtjnajibflalmbaaEffHW4
import Derived.Test.YtjnajibflalmbaaEffHW5
import Derived.Test.YtjnajibflalmbaaEffHW6
namespace Go.Proofs.Ytjnajibflalmbaa
open Go.RowKit

theorem EffectHolds_walk (e : Eff) (index : Int) (p : V3) (time periods : Int) (q : V3) (o : e.ok) (oi : I64 index) (_op : p.ok) (_ot : I64 time) (_on : I64 periods) (_oq : q.ok) (w : World) :
    Calls Try.prog 7 #[.agg #[.int .i64 e.kind, .int .i64 e.fr, .int .i64 e.to, .int .i64 e.period, .int .i64 e.width, .int .i64 e.along.x, .int .i64 e.along.y, .int .i64 e.along.z, .int .i64 e.scale, .int .i64 e.seed, .int .u8 e.a.r, .int .u8 e.a.g, .int .u8 e.a.b, .int .u8 e.b.r, .int .u8 e.b.g, .int .u8 e.b.b], .int .i64 index, .agg #[.int .i64 p.x, .int .i64 p.y, .int .i64 p.z], .int .i64 time, .int .i64 periods, .agg #[.int .i64 q.x, .int .i64 q.y, .int .i64 q.z]] w (RetB (.bool true) w) := by
  by_cases hv : effValid e = true
  case neg => exact holds_not e index p time periods q w (.inl (by simpa using hv))
  by_cases hp : point p = true
  case neg => exact holds_not e index p time periods q w (.inr (.inl (by simpa using hp)))
  by_cases hi : 0 ≤ index
  case neg => exact holds_not e index p time periods q w (.inr (.inr (.inl (by omega))))
  by_cases h1 : e.fr ≤ time
  case neg => exact holds_not e index p time periods q w (.inr (.inr (.inr (.inl (by omega)))))
  by_cases h2 : time < e.to
  case neg => exact holds_not e index p time periods q w (.inr (.inr (.inr (.inr (by omega)))))
  by_cases hk1 : e.kind = 1
  · by_cases hq : point q = true
    · by_cases hs : point (vplus p q) = true
      · by_cases hd : dot3 e.along q = 0
        · by_cases n0 : 0 ≤ periods
          · by_cases n1 : periods ≤ (e.to - 1 - time) / e.period
            · by_cases hz : (time - e.fr + phase e p) % e.period = 0
              · exact wave0_same_y e index p time periods q w o.a o.b oi hv hp hi h1 h2 hk1 hz n0 n1 hq hs hd
              · exact wave1_same_y e index p time periods q w o.a o.b oi hv hp hi h1 h2 hk1 hz n0 n1 hq hs hd
            · by_cases hz : (time - e.fr + phase e p) % e.period = 0
              · exact wave0_same_b e index p time periods q w o.a o.b oi hv hp hi h1 h2 hk1 hz n0 (by omega) hq hs hd
              · exact wave1_same_b e index p time periods q w o.a o.b oi hv hp hi h1 h2 hk1 hz n0 (by omega) hq hs hd
          · by_cases hz : (time - e.fr + phase e p) % e.period = 0
            · exact wave0_same_m e index p time periods q w o.a o.b oi hv hp hi h1 h2 hk1 hz (by omega) hq hs hd
            · exact wave1_same_m e index p time periods q w o.a o.b oi hv hp hi h1 h2 hk1 hz (by omega) hq hs hd
        · by_cases n0 : 0 ≤ periods
          · by_cases n1 : periods ≤ (e.to - 1 - time) / e.period
            · by_cases hz : (time - e.fr + phase e p) % e.period = 0
              · exact wave0_odd_y e index p time periods q w o.a o.b oi hv hp hi h1 h2 hk1 hz n0 n1 hq hs hd
              · exact wave1_odd_y e index p time periods q w o.a o.b oi hv hp hi h1 h2 hk1 hz n0 n1 hq hs hd
            · by_cases hz : (time - e.fr + phase e p) % e.period = 0
              · exact wave0_odd_b e index p time periods q w o.a o.b oi hv hp hi h1 h2 hk1 hz n0 (by omega) hq hs hd
              · exact wave1_odd_b e index p time periods q w o.a o.b oi hv hp hi h1 h2 hk1 hz n0 (by omega) hq hs hd
          · by_cases hz : (time - e.fr + phase e p) % e.period = 0
            · exact wave0_odd_m e index p time periods q w o.a o.b oi hv hp hi h1 h2 hk1 hz (by omega) hq hs hd
            · exact wave1_odd_m e index p time periods q w o.a o.b oi hv hp hi h1 h2 hk1 hz (by omega) hq hs hd
      · have hs' : point (vplus p q) = false := by simpa using hs
        by_cases n0 : 0 ≤ periods
        · by_cases n1 : periods ≤ (e.to - 1 - time) / e.period
          · by_cases hz : (time - e.fr + phase e p) % e.period = 0
            · exact wave0_out_y e index p time periods q w o.a o.b oi hv hp hi h1 h2 hk1 hz n0 n1 hq hs'
            · exact wave1_out_y e index p time periods q w o.a o.b oi hv hp hi h1 h2 hk1 hz n0 n1 hq hs'
          · by_cases hz : (time - e.fr + phase e p) % e.period = 0
            · exact wave0_out_b e index p time periods q w o.a o.b oi hv hp hi h1 h2 hk1 hz n0 (by omega) hq hs'
            · exact wave1_out_b e index p time periods q w o.a o.b oi hv hp hi h1 h2 hk1 hz n0 (by omega) hq hs'
        · by_cases hz : (time - e.fr + phase e p) % e.period = 0
          · exact wave0_out_m e index p time periods q w o.a o.b oi hv hp hi h1 h2 hk1 hz (by omega) hq hs'
          · exact wave1_out_m e index p time periods q w o.a o.b oi hv hp hi h1 h2 hk1 hz (by omega) hq hs'
    · have hq' : point q = false := by simpa using hq
      by_cases n0 : 0 ≤ periods
      · by_cases n1 : periods ≤ (e.to - 1 - time) / e.period
        · by_cases hz : (time - e.fr + phase e p) % e.period = 0
          · exact wave0_far_y e index p time periods q w o.a o.b oi hv hp hi h1 h2 hk1 hz n0 n1 hq'
          · exact wave1_far_y e index p time periods q w o.a o.b oi hv hp hi h1 h2 hk1 hz n0 n1 hq'
        · by_cases hz : (time - e.fr + phase e p) % e.period = 0
          · exact wave0_far_b e index p time periods q w o.a o.b oi hv hp hi h1 h2 hk1 hz n0 (by omega) hq'
          · exact wave1_far_b e index p time periods q w o.a o.b oi hv hp hi h1 h2 hk1 hz n0 (by omega) hq'
      · by_cases hz : (time - e.fr + phase e p) % e.period = 0
        · exact wave0_far_m e index p time periods q w o.a o.b oi hv hp hi h1 h2 hk1 hz (by omega) hq'
        · exact wave1_far_m e index p time periods q w o.a o.b oi hv hp hi h1 h2 hk1 hz (by omega) hq'
  by_cases hk2 : e.kind = 2
  · by_cases hq : point q = true
    · by_cases hs : point (vplus p q) = true
      · by_cases hd : dot3 e.along q = 0
        · by_cases n0 : 0 ≤ periods
          · by_cases n1 : periods ≤ (e.to - 1 - time) / e.period
            · by_cases h0 : e.width = 0
              · exact chase0_same_y e index p time periods q w o.a o.b oi hv hp hi h1 h2 hk2 h0 n0 n1 hq hs hd
              · by_cases h3 : e.width = e.period
                · exact chase1_same_y e index p time periods q w o.a o.b oi hv hp hi h1 h2 hk2 h3 n0 n1 hq hs hd
                · exact chase2_same_y e index p time periods q w o.a o.b oi hv hp hi h1 h2 hk2 h0 h3 n0 n1 hq hs hd
            · by_cases h0 : e.width = 0
              · exact chase0_same_b e index p time periods q w o.a o.b oi hv hp hi h1 h2 hk2 h0 n0 (by omega) hq hs hd
              · by_cases h3 : e.width = e.period
                · exact chase1_same_b e index p time periods q w o.a o.b oi hv hp hi h1 h2 hk2 h3 n0 (by omega) hq hs hd
                · exact chase2_same_b e index p time periods q w o.a o.b oi hv hp hi h1 h2 hk2 h0 h3 n0 (by omega) hq hs hd
          · by_cases h0 : e.width = 0
            · exact chase0_same_m e index p time periods q w o.a o.b oi hv hp hi h1 h2 hk2 h0 (by omega) hq hs hd
            · by_cases h3 : e.width = e.period
              · exact chase1_same_m e index p time periods q w o.a o.b oi hv hp hi h1 h2 hk2 h3 (by omega) hq hs hd
              · exact chase2_same_m e index p time periods q w o.a o.b oi hv hp hi h1 h2 hk2 h0 h3 (by omega) hq hs hd
        · by_cases n0 : 0 ≤ periods
          · by_cases n1 : periods ≤ (e.to - 1 - time) / e.period
            · by_cases h0 : e.width = 0
              · exact chase0_odd_y e index p time periods q w o.a o.b oi hv hp hi h1 h2 hk2 h0 n0 n1 hq hs hd
              · by_cases h3 : e.width = e.period
                · exact chase1_odd_y e index p time periods q w o.a o.b oi hv hp hi h1 h2 hk2 h3 n0 n1 hq hs hd
                · exact chase2_odd_y e index p time periods q w o.a o.b oi hv hp hi h1 h2 hk2 h0 h3 n0 n1 hq hs hd
            · by_cases h0 : e.width = 0
              · exact chase0_odd_b e index p time periods q w o.a o.b oi hv hp hi h1 h2 hk2 h0 n0 (by omega) hq hs hd
              · by_cases h3 : e.width = e.period
                · exact chase1_odd_b e index p time periods q w o.a o.b oi hv hp hi h1 h2 hk2 h3 n0 (by omega) hq hs hd
                · exact chase2_odd_b e index p time periods q w o.a o.b oi hv hp hi h1 h2 hk2 h0 h3 n0 (by omega) hq hs hd
          · by_cases h0 : e.width = 0
            · exact chase0_odd_m e index p time periods q w o.a o.b oi hv hp hi h1 h2 hk2 h0 (by omega) hq hs hd
            · by_cases h3 : e.width = e.period
              · exact chase1_odd_m e index p time periods q w o.a o.b oi hv hp hi h1 h2 hk2 h3 (by omega) hq hs hd
              · exact chase2_odd_m e index p time periods q w o.a o.b oi hv hp hi h1 h2 hk2 h0 h3 (by omega) hq hs hd
      · have hs' : point (vplus p q) = false := by simpa using hs
        by_cases n0 : 0 ≤ periods
        · by_cases n1 : periods ≤ (e.to - 1 - time) / e.period
          · by_cases h0 : e.width = 0
            · exact chase0_out_y e index p time periods q w o.a o.b oi hv hp hi h1 h2 hk2 h0 n0 n1 hq hs'
            · by_cases h3 : e.width = e.period
              · exact chase1_out_y e index p time periods q w o.a o.b oi hv hp hi h1 h2 hk2 h3 n0 n1 hq hs'
              · exact chase2_out_y e index p time periods q w o.a o.b oi hv hp hi h1 h2 hk2 h0 h3 n0 n1 hq hs'
          · by_cases h0 : e.width = 0
            · exact chase0_out_b e index p time periods q w o.a o.b oi hv hp hi h1 h2 hk2 h0 n0 (by omega) hq hs'
            · by_cases h3 : e.width = e.period
              · exact chase1_out_b e index p time periods q w o.a o.b oi hv hp hi h1 h2 hk2 h3 n0 (by omega) hq hs'
              · exact chase2_out_b e index p time periods q w o.a o.b oi hv hp hi h1 h2 hk2 h0 h3 n0 (by omega) hq hs'
        · by_cases h0 : e.width = 0
          · exact chase0_out_m e index p time periods q w o.a o.b oi hv hp hi h1 h2 hk2 h0 (by omega) hq hs'
          · by_cases h3 : e.width = e.period
            · exact chase1_out_m e index p time periods q w o.a o.b oi hv hp hi h1 h2 hk2 h3 (by omega) hq hs'
            · exact chase2_out_m e index p time periods q w o.a o.b oi hv hp hi h1 h2 hk2 h0 h3 (by omega) hq hs'
    · have hq' : point q = false := by simpa using hq
      by_cases n0 : 0 ≤ periods
      · by_cases n1 : periods ≤ (e.to - 1 - time) / e.period
        · by_cases h0 : e.width = 0
          · exact chase0_far_y e index p time periods q w o.a o.b oi hv hp hi h1 h2 hk2 h0 n0 n1 hq'
          · by_cases h3 : e.width = e.period
            · exact chase1_far_y e index p time periods q w o.a o.b oi hv hp hi h1 h2 hk2 h3 n0 n1 hq'
            · exact chase2_far_y e index p time periods q w o.a o.b oi hv hp hi h1 h2 hk2 h0 h3 n0 n1 hq'
        · by_cases h0 : e.width = 0
          · exact chase0_far_b e index p time periods q w o.a o.b oi hv hp hi h1 h2 hk2 h0 n0 (by omega) hq'
          · by_cases h3 : e.width = e.period
            · exact chase1_far_b e index p time periods q w o.a o.b oi hv hp hi h1 h2 hk2 h3 n0 (by omega) hq'
            · exact chase2_far_b e index p time periods q w o.a o.b oi hv hp hi h1 h2 hk2 h0 h3 n0 (by omega) hq'
      · by_cases h0 : e.width = 0
        · exact chase0_far_m e index p time periods q w o.a o.b oi hv hp hi h1 h2 hk2 h0 (by omega) hq'
        · by_cases h3 : e.width = e.period
          · exact chase1_far_m e index p time periods q w o.a o.b oi hv hp hi h1 h2 hk2 h3 (by omega) hq'
          · exact chase2_far_m e index p time periods q w o.a o.b oi hv hp hi h1 h2 hk2 h0 h3 (by omega) hq'
  have hk : e.kind = 3 := by rcases kind_of hv with h | h | h <;> omega
  by_cases hq : point q = true
  · by_cases h0 : e.width = 0
    · exact spark_none_q e index p time periods q w o.a o.b oi hv hp hi h1 h2 hk h0 hq
    · by_cases h3 : e.width = 1000
      · exact spark_all_q e index p time periods q w o.a o.b oi hv hp hi h1 h2 hk h3 hq
      · exact spark_some_q e index p time periods q w o.a o.b oi hv hp hi h1 h2 hk h0 h3 hq
  · have hq' : point q = false := by simpa using hq
    by_cases h0 : e.width = 0
    · exact spark_none_p e index p time periods q w o.a o.b oi hv hp hi h1 h2 hk h0 hq'
    · by_cases h3 : e.width = 1000
      · exact spark_all_p e index p time periods q w o.a o.b oi hv hp hi h1 h2 hk h3 hq'
      · exact spark_some_p e index p time periods q w o.a o.b oi hv hp hi h1 h2 hk h0 h3 hq'

end Go.Proofs.Ytjnajibflalmbaa

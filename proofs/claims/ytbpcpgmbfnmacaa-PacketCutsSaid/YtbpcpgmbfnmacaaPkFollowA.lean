/- Layer 25: Follow for every track. -/
import Derived.Test.YtbpcpgmbfnmacaaPkFollow
import Derived.Test.YtbpcpgmbfnmacaaPkRFollow
namespace Go.Proofs.Ytbpcpgmbfnmacaa
open Go.RowKit
set_option linter.unusedVariables false
set_option linter.unusedSimpArgs false
attribute [local go_sem ↓] run_min_plain run_max_plain
attribute [local go_sem] setCell_drewN alloc_drewN
section
variable (on : Bool) (high jump q : Int) (w : World)
theorem Follow_any (q0 : 0 ≤ q) (q1 : q ≤ 65535) (b0 : -9223372036854775808 ≤ high) (b1 : high ≤ 9223372036854775807) (c0 : -9223372036854775808 ≤ jump) (c1 : jump ≤ 9223372036854775807) : Calls Try.prog 18 #[.agg #[.bool on, .int .i64 high, .int .i64 jump], .int .u16 q] w fun e w' => e = .returned (.tuple #[.agg (Pk.follow ⟨on, high, jump⟩ q).1.row.toArray, .int .i64 (Pk.follow ⟨on, high, jump⟩ q).2.1, .bool (Pk.follow ⟨on, high, jump⟩ q).2.2]) ∧ Bel w w' := by
  unfold Pk.follow
  by_cases hok : Pk.Tr.ok ⟨on, high, jump⟩
  rotate_left
  · rw [if_pos hok]
    have hn : ¬(0 ≤ high ∧ high ≤ 281474976710656 ∧ -1 ≤ jump ∧ jump ≤ 65535) := hok
    by_cases h1 : high < 0
    · exact Follow_bad0 high jump q w q0 q1 b0 b1 c0 c1 on h1
    by_cases h2 : 281474976710656 < high
    · exact Follow_bad1 high jump q w q0 q1 b0 b1 c0 c1 on (by omega) h2
    by_cases h3 : jump < -1
    · exact Follow_bad2 high jump q w q0 q1 b0 b1 c0 c1 on (by omega) (by omega) h3
    · exact Follow_bad3 high jump q w q0 q1 b0 b1 c0 c1 on (by omega) (by omega) (by omega) (by omega)
  rw [if_neg (fun h => h hok)]
  obtain ⟨g, g2, g3, g4⟩ : 0 ≤ high ∧ high ≤ 281474976710656 ∧ -1 ≤ jump ∧ jump ≤ 65535 := hok
  cases on
  · rw [if_pos rfl]
    exact Follow_off high jump q w q0 q1 b0 b1 c0 c1 g g2 g3 g4
  rw [if_neg (by simp)]
  by_cases hin : 0 ≤ Pk.near high q 65536 ∧ Pk.near high q 65536 ≤ high + 3000 ∧ high - 100 ≤ Pk.near high q 65536
  · rw [if_pos hin]
    exact Follow_in high jump q w q0 q1 b0 b1 c0 c1 g g2 g3 g4 hin.1 hin.2.1 hin.2.2
  rw [if_neg hin]
  by_cases hj : q = jump ∧ high < 140737488355328
  · rw [if_pos hj]
    by_cases h1 : 0 ≤ Pk.near high q 65536
    · by_cases h2 : Pk.near high q 65536 ≤ high + 3000
      · by_cases hz : (q - high) % 65536 = 0
        · rw [show Pk.gap high q = 65536 by unfold Pk.gap; rw [if_pos hz]]
          exact Follow_jump2z high jump q w q0 q1 b0 b1 c0 c1 g g2 g3 g4 h1 h2 (by omega) hj.1 hj.2 hz
        · rw [show Pk.gap high q = (q - high) % 65536 by unfold Pk.gap; rw [if_neg hz]]
          exact Follow_jump2g high jump q w q0 q1 b0 b1 c0 c1 g g2 g3 g4 h1 h2 (by omega) hj.1 hj.2 hz
      · by_cases hz : (q - high) % 65536 = 0
        · rw [show Pk.gap high q = 65536 by unfold Pk.gap; rw [if_pos hz]]
          exact Follow_jump1z high jump q w q0 q1 b0 b1 c0 c1 g g2 g3 g4 h1 (by omega) hj.1 hj.2 hz
        · rw [show Pk.gap high q = (q - high) % 65536 by unfold Pk.gap; rw [if_neg hz]]
          exact Follow_jump1g high jump q w q0 q1 b0 b1 c0 c1 g g2 g3 g4 h1 (by omega) hj.1 hj.2 hz
    · by_cases hz : (q - high) % 65536 = 0
      · rw [show Pk.gap high q = 65536 by unfold Pk.gap; rw [if_pos hz]]
        exact Follow_jump0z high jump q w q0 q1 b0 b1 c0 c1 g g2 g3 g4 (by omega) hj.1 hj.2 hz
      · rw [show Pk.gap high q = (q - high) % 65536 by unfold Pk.gap; rw [if_neg hz]]
        exact Follow_jump0g high jump q w q0 q1 b0 b1 c0 c1 g g2 g3 g4 (by omega) hj.1 hj.2 hz
  · rw [if_neg hj]
    by_cases hq : q = jump
    · have hh : 140737488355328 ≤ high := by omega
      by_cases h1 : 0 ≤ Pk.near high q 65536
      · by_cases h2 : Pk.near high q 65536 ≤ high + 3000
        · exact Follow_no2h high jump q w q0 q1 b0 b1 c0 c1 g g2 g3 g4 h1 h2 (by omega) hq hh
        · exact Follow_no1h high jump q w q0 q1 b0 b1 c0 c1 g g2 g3 g4 h1 (by omega) hq hh
      · exact Follow_no0h high jump q w q0 q1 b0 b1 c0 c1 g g2 g3 g4 (by omega) hq hh
    · by_cases h1 : 0 ≤ Pk.near high q 65536
      · by_cases h2 : Pk.near high q 65536 ≤ high + 3000
        · exact Follow_no2n high jump q w q0 q1 b0 b1 c0 c1 g g2 g3 g4 h1 h2 (by omega) hq
        · exact Follow_no1n high jump q w q0 q1 b0 b1 c0 c1 g g2 g3 g4 h1 (by omega) hq
      · exact Follow_no0n high jump q w q0 q1 b0 b1 c0 c1 g g2 g3 g4 (by omega) hq
theorem rFollow_any (q0 : 0 ≤ q) (q1 : q ≤ 65535) (b0 : -9223372036854775808 ≤ high) (b1 : high ≤ 9223372036854775807) (c0 : -9223372036854775808 ≤ jump) (c1 : jump ≤ 9223372036854775807) : Calls Try.prog 19 #[.agg #[.bool on, .int .i64 high, .int .i64 jump], .int .u16 q] w fun e w' => e = .returned (.tuple #[.agg (Pk.follow ⟨on, high, jump⟩ q).1.row.toArray, .int .i64 (Pk.follow ⟨on, high, jump⟩ q).2.1, .bool (Pk.follow ⟨on, high, jump⟩ q).2.2]) ∧ Bel w w' := by
  unfold Pk.follow
  by_cases hok : Pk.Tr.ok ⟨on, high, jump⟩
  rotate_left
  · rw [if_pos hok]
    exact rFollow_bad high jump q w q0 q1 b0 b1 c0 c1 on hok
  rw [if_neg (fun h => h hok)]
  obtain ⟨g, g2, g3, g4⟩ : 0 ≤ high ∧ high ≤ 281474976710656 ∧ -1 ≤ jump ∧ jump ≤ 65535 := hok
  cases on
  · rw [if_pos rfl]
    exact rFollow_off high jump q w q0 q1 b0 b1 c0 c1 g g2 g3 g4
  rw [if_neg (by simp)]
  by_cases hin : 0 ≤ Pk.near high q 65536 ∧ Pk.near high q 65536 ≤ high + 3000 ∧ high - 100 ≤ Pk.near high q 65536
  · rw [if_pos hin]
    exact rFollow_in high jump q w q0 q1 b0 b1 c0 c1 g g2 g3 g4 hin.1 hin.2.1 hin.2.2
  rw [if_neg hin]
  by_cases hj : q = jump ∧ high < 140737488355328
  · rw [if_pos hj]
    by_cases h1 : 0 ≤ Pk.near high q 65536
    · by_cases h2 : Pk.near high q 65536 ≤ high + 3000
      · exact rFollow_jump2 high jump q w q0 q1 b0 b1 c0 c1 g g2 g3 g4 h1 h2 (by omega) hj.1 hj.2
      · exact rFollow_jump1 high jump q w q0 q1 b0 b1 c0 c1 g g2 g3 g4 h1 (by omega) hj.1 hj.2
    · exact rFollow_jump0 high jump q w q0 q1 b0 b1 c0 c1 g g2 g3 g4 (by omega) hj.1 hj.2
  · rw [if_neg hj]
    by_cases hq : q = jump
    · have hh : 140737488355328 ≤ high := by omega
      by_cases h1 : 0 ≤ Pk.near high q 65536
      · by_cases h2 : Pk.near high q 65536 ≤ high + 3000
        · exact rFollow_no2h high jump q w q0 q1 b0 b1 c0 c1 g g2 g3 g4 h1 h2 (by omega) hq hh
        · exact rFollow_no1h high jump q w q0 q1 b0 b1 c0 c1 g g2 g3 g4 h1 (by omega) hq hh
      · exact rFollow_no0h high jump q w q0 q1 b0 b1 c0 c1 g g2 g3 g4 (by omega) hq hh
    · by_cases h1 : 0 ≤ Pk.near high q 65536
      · by_cases h2 : Pk.near high q 65536 ≤ high + 3000
        · exact rFollow_no2n high jump q w q0 q1 b0 b1 c0 c1 g g2 g3 g4 h1 h2 (by omega) hq
        · exact rFollow_no1n high jump q w q0 q1 b0 b1 c0 c1 g g2 g3 g4 h1 (by omega) hq
      · exact rFollow_no0n high jump q w q0 q1 b0 b1 c0 c1 g g2 g3 g4 (by omega) hq
end
end Go.Proofs.Ytbpcpgmbfnmacaa

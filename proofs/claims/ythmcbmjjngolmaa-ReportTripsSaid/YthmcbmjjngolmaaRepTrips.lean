/- Layer 26, ReportTrips: for every numbers the law returns true. -/
import Derived.Test.YthmcbmjjngolmaaRepLives
namespace Go.Proofs.Ythmcbmjjngolmaa.reportTrips
open Go.RowKit
set_option linter.unusedVariables false
set_option linter.unusedSimpArgs false
attribute [local go_sem ↓] run_min_plain run_max_plain
attribute [local go_sem] setCell_drewN alloc_drewN
set_option maxRecDepth 100000 in
set_option maxHeartbeats 1600000 in
theorem walk (w : World) (n : Int) (w1 : (Lit.int .u32 n).wf = true) (l : Int) (w2 : (Lit.int .u32 l).wf = true) (d : Int) (w3 : (Lit.int .u32 d).wf = true) :
    Calls Try.prog 5 #[.int .u32 n, .int .u32 l, .int .u32 d] w fun e w' => e = .returned (.bool true) ∧ Below w.heap.size w w' := by
  have q_n : 0 ≤ n ∧ n ≤ 4294967295 := by simpa [Lit.wf, IntKind.min, IntKind.max, IntKind.signed, IntKind.bits] using w1
  have q_l : 0 ≤ l ∧ l ≤ 4294967295 := by simpa [Lit.wf, IntKind.min, IntKind.max, IntKind.signed, IntKind.bits] using w2
  have q_d : 0 ≤ d ∧ d ≤ 4294967295 := by simpa [Lit.wf, IntKind.min, IntKind.max, IntKind.signed, IntKind.bits] using w3
  clear w1 w2 w3
  obtain ⟨n0, n1⟩ := q_n
  obtain ⟨l0, l1⟩ := q_l
  obtain ⟨d0, d1⟩ := q_d
  obtain ⟨r, hr⟩ : ∃ r, r = Rep.trip n l d := ⟨_, rfl⟩
  have k1 := fun W => trip_any n l d W n0 n1 l0 l1 d0 d1
  have k2 := fun W => rtrip_any n l d W n0 n1 l0 l1 d0 d1
  rw [← hr] at k1 k2
  obtain ⟨tr, ht⟩ : ∃ t, t = n % 2147483648 := ⟨_, rfl⟩
  obtain ⟨he, hh⟩ : ∃ t, t = d % 2147483648 := ⟨_, rfl⟩
  have ht0 : 0 ≤ tr := by omega
  have ht1 : tr ≤ 2147483647 := by omega
  have hh0 : 0 ≤ he := by omega
  have hh1 : he ≤ 2147483647 := by omega
  obtain ⟨y, hy⟩ : ∃ y, y = (l + he + tr) % 4294967296 := ⟨_, rfl⟩
  have k3 := fun W => trip_any y l he W (by omega) (by omega) l0 l1 hh0 (by omega)
  have hv : Rep.trip y l he = tr := by
    unfold Rep.trip
    have : (y - l - he) % 4294967296 = tr := by omega
    rw [this, if_neg (by omega)]
  rw [hv] at k3
  have e1 : n.tmod 2147483648 = tr := by rw [Int.tmod_eq_emod_of_nonneg n0]; exact ht.symm
  have e2 : d.tmod 2147483648 = he := by rw [Int.tmod_eq_emod_of_nonneg d0]; exact hh.symm
  have e3 := ht.symm
  have e4 := hh.symm
  have HY := Lib.hid hy
  have K1 := Lib.hid k1
  have K2 := Lib.hid k2
  have K3 := Lib.hid k3
  clear hr ht hh hv hy k1 k2 k3
  go_enter Try.func5, Try.ntmps5
  go_wp2_with fail
  refine (K1.out _).mono ?_
  rintro e w1 ⟨rfl, rfl⟩
  go_wp2_with fail
  refine (K2.out _).mono ?_
  rintro e w1 ⟨rfl, rfl⟩
  go_wp2_with fail
  rw [← HY.out]
  refine (K3.out _).mono ?_
  rintro e w1 ⟨rfl, rfl⟩
  go_wp2_with fail
  refine (lives26 _).mono ?_
  rintro e w1 ⟨rfl, hb⟩
  go_wp2_with fail
  go_ret
  exact ⟨by simp, hb⟩
end Go.Proofs.Ythmcbmjjngolmaa.reportTrips

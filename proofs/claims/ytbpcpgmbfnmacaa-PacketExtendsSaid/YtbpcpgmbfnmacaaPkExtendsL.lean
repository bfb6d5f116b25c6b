/- Layer 25, PacketExtends: for every numbers the law returns true. -/
import Derived.Test.YtbpcpgmbfnmacaaPkLives
import Derived.Test.YtbpcpgmbfnmacaaPkTypes
namespace Go.Proofs.Ytbpcpgmbfnmacaa.packetExtends
open Go.RowKit
set_option linter.unusedVariables false
set_option linter.unusedSimpArgs false
attribute [local go_sem ↓] run_min_plain run_max_plain
attribute [local go_sem] setCell_drewN alloc_drewN
set_option maxRecDepth 100000 in
set_option maxHeartbeats 6400000 in
theorem size_any (x : Int) (W : World) (x0 : -9223372036854775807 ≤ x) (x1 : x ≤ 9223372036854775807) : Calls Try.prog 24 #[.int .i64 x] W fun e w' => e = .returned (.int .i64 (max x (-x))) ∧ W = w' := by
  have hw := i64_small (-x) (by omega) (by omega)
  go_enter Try.func24, Try.ntmps24
  go_wp2_with fail
  go_ret
  exact ⟨rfl, rfl⟩
set_option maxRecDepth 100000 in
set_option maxHeartbeats 6400000 in
theorem walk (w : World) (last : Int) (w0 : (Lit.int .i64 last).wf = true) (seq : Int) (w1 : (Lit.int .u16 seq).wf = true) (t : Int) (w2 : (Lit.int .u32 t).wf = true) :
    Calls Try.prog 9 #[.int .i64 last, .int .u16 seq, .int .u32 t] w fun e w' => e = .returned (.bool true) ∧ Below w.heap.size w w' := by
  obtain ⟨l0, l1⟩ := wf_i64 w0
  obtain ⟨s0, s1⟩ := wf_u16 w1
  obtain ⟨t0, t1⟩ := wf_u32 w2
  have k1 := fun W => Extend_any last seq W s0 s1 l0 l1
  have k2 := fun W => ExtendTime_any last t W t0 t1 l0 l1
  have k3 := fun W => rExtend_any last seq W s0 s1 l0 l1
  have k4 := fun W => rExtendTime_any last t W t0 t1 l0 l1
  by_cases hout : last < -1152921504606846976 ∨ 1152921504606846976 < last
  · have z1 : Pk.near last seq 65536 = 0 := by unfold Pk.near; rw [if_pos hout]
    have z2 : Pk.near last t 4294967296 = 0 := by unfold Pk.near; rw [if_pos hout]
    rw [z1] at k1 k3
    rw [z2] at k2 k4
    have K1 := Lib.hid k1
    have K2 := Lib.hid k2
    have K3 := Lib.hid k3
    have K4 := Lib.hid k4
    clear k1 k2 k3 k4 z1 z2 w0 w1 w2
    have hc : last < -1152921504606846976 ∨ -1152921504606846976 ≤ last ∧ 1152921504606846976 < last := by omega
    clear hout
    rcases hc with hc | ⟨hc1, hc2⟩
    all_goals
      go_enter Try.func9, Try.ntmps9
      go_wp2_with fail
      refine (K1.out _).mono ?_
      rintro e w2 ⟨rfl, rfl⟩
      go_wp2_with fail
      refine (K2.out _).mono ?_
      rintro e w2 ⟨rfl, rfl⟩
      go_wp2_with fail
      refine (K3.out _).mono ?_
      rintro e w2 ⟨rfl, rfl⟩
      go_wp2_with fail
      refine (K4.out _).mono ?_
      rintro e w2 ⟨rfl, rfl⟩
      go_wp2_with fail
      refine (lives25 _).mono ?_
      rintro e w2 ⟨rfl, hb⟩
      go_wp2_with fail
      go_ret
      exact ⟨by simp, hb⟩
  have b1 := Pk.near_bd16 last seq hout
  have b2 := Pk.near_bd32 last t hout
  obtain ⟨n, hn⟩ : ∃ n, n = Pk.near last seq 65536 := ⟨_, rfl⟩
  obtain ⟨m, hm⟩ : ∃ m, m = Pk.near last t 4294967296 := ⟨_, rfl⟩
  rw [← hn] at k1 k3 b1
  rw [← hm] at k2 k4 b2
  obtain ⟨b11, b12, b13⟩ := b1
  obtain ⟨b21, b22, b23⟩ := b2
  obtain ⟨dn, hdn⟩ : ∃ d, d = n - last := ⟨_, rfl⟩
  obtain ⟨dm, hdm⟩ : ∃ d, d = m - last := ⟨_, rfl⟩
  have e1 : n - last = dn := hdn.symm
  have e2 : m - last = dm := hdm.symm
  have e3 : IntKind.u16.wrap n = seq := by rw [u16_wrap]; omega
  have e4 : IntKind.u32.wrap m = t := by rw [u32_wrap]; omega
  have e5 : n % 65536 = seq := by omega
  have e6 : m % 4294967296 = t := by omega
  have c1 : max dn (-dn) ≤ 32768 := by omega
  have c2 : max dm (-dm) ≤ 2147483648 := by omega
  have c3 : (dn != -32768) = true := by simp; omega
  have c4 : (dm != -2147483648) = true := by simp; omega
  have g1 : -32767 ≤ dn := by omega
  have g2 : dn ≤ 32768 := by omega
  have g3 : -2147483647 ≤ dm := by omega
  have g4 : dm ≤ 2147483648 := by omega
  have h1 : -1152921504606846976 ≤ last := by omega
  have h2 : last ≤ 1152921504606846976 := by omega
  have h3 : -1152921504606900000 ≤ n := by omega
  have h4 : n ≤ 1152921504606900000 := by omega
  have h5 : -1152921507000000000 ≤ m := by omega
  have h6 : m ≤ 1152921507000000000 := by omega
  have k5 := fun W => size_any dn W (by omega) (by omega)
  have k6 := fun W => size_any dm W (by omega) (by omega)
  generalize max dn (-dn) = sn at *
  generalize max dm (-dm) = sm at *
  have K1 := Lib.hid k1
  have K2 := Lib.hid k2
  have K3 := Lib.hid k3
  have K4 := Lib.hid k4
  have K5 := Lib.hid k5
  have K6 := Lib.hid k6
  clear k1 k2 k3 k4 k5 k6 hn hm hdn hdm b11 b12 b13 b21 b22 b23 hout w0 w1 w2
  go_enter Try.func9, Try.ntmps9
  go_wp2_with fail
  refine (K1.out _).mono ?_
  rintro e w2 ⟨rfl, rfl⟩
  go_wp2_with fail
  refine (K2.out _).mono ?_
  rintro e w2 ⟨rfl, rfl⟩
  go_wp2_with fail
  refine (K3.out _).mono ?_
  rintro e w2 ⟨rfl, rfl⟩
  go_wp2_with fail
  refine (K4.out _).mono ?_
  rintro e w2 ⟨rfl, rfl⟩
  go_wp2_with fail
  refine (K5.out _).mono ?_
  rintro e w2 ⟨rfl, rfl⟩
  go_wp2_with fail
  refine (K6.out _).mono ?_
  rintro e w2 ⟨rfl, rfl⟩
  go_wp2_with fail
  refine (lives25 _).mono ?_
  rintro e w2 ⟨rfl, hb⟩
  go_wp2_with fail
  go_ret
  exact ⟨by simp, hb⟩
end Go.Proofs.Ytbpcpgmbfnmacaa.packetExtends

/- Layer 25: Follow, in the program and in the reference. -/
import Derived.Test.YtbpcpgmbfnmacaaPkSmall
import Derived.Test.YtbpcpgmbfnmacaaBlk
import Derived.Laws.Rows
import Derived.RegionTactic
namespace Go.Proofs.Ytbpcpgmbfnmacaa
open Go.RowKit
set_option linter.unusedVariables false
set_option linter.unusedSimpArgs false
attribute [local go_sem ↓] run_min_plain run_max_plain
attribute [local go_sem] setCell_drewN alloc_drewN
section
variable (high jump q : Int) (w : World)
set_option maxRecDepth 100000 in
set_option maxHeartbeats 1600000 in
theorem Follow_bad0 (q0 : 0 ≤ q) (q1 : q ≤ 65535) (b0 : -9223372036854775808 ≤ high) (b1 : high ≤ 9223372036854775807) (c0 : -9223372036854775808 ≤ jump) (c1 : jump ≤ 9223372036854775807) (on : Bool) (h : high < 0) : Calls Try.prog 18 #[.agg #[.bool on, .int .i64 high, .int .i64 jump], .int .u16 q] w fun e w' => e = .returned (.tuple #[.agg #[.bool false, .int .i64 0, .int .i64 0], .int .i64 0, .bool false]) ∧ Bel w w' := by
  go_enter Try.func18, Try.ntmps18
  go_wp2_with fail
  exact bodyPost_ret (v := .tuple #[.agg #[.bool false, .int .i64 0, .int .i64 0], .int .i64 0, .bool false]) (res_ctt Try.results18 rfl (run_loadVar_row (P := Try.prog) _ _ _ _ _ _ _ (Blk.new1 w _ _ _) Try.underlying40 rfl (by kernel_rfl)) rfl rfl) rfl ⟨rfl, Bel.push (Bel.push (Bel.refl w) _) _⟩
set_option maxRecDepth 100000 in
set_option maxHeartbeats 1600000 in
theorem Follow_bad1 (q0 : 0 ≤ q) (q1 : q ≤ 65535) (b0 : -9223372036854775808 ≤ high) (b1 : high ≤ 9223372036854775807) (c0 : -9223372036854775808 ≤ jump) (c1 : jump ≤ 9223372036854775807) (on : Bool) (g : 0 ≤ high) (h : 281474976710656 < high) : Calls Try.prog 18 #[.agg #[.bool on, .int .i64 high, .int .i64 jump], .int .u16 q] w fun e w' => e = .returned (.tuple #[.agg #[.bool false, .int .i64 0, .int .i64 0], .int .i64 0, .bool false]) ∧ Bel w w' := by
  go_enter Try.func18, Try.ntmps18
  go_wp2_with fail
  exact bodyPost_ret (v := .tuple #[.agg #[.bool false, .int .i64 0, .int .i64 0], .int .i64 0, .bool false]) (res_ctt Try.results18 rfl (run_loadVar_row (P := Try.prog) _ _ _ _ _ _ _ (Blk.new1 w _ _ _) Try.underlying40 rfl (by kernel_rfl)) rfl rfl) rfl ⟨rfl, Bel.push (Bel.push (Bel.refl w) _) _⟩
set_option maxRecDepth 100000 in
set_option maxHeartbeats 1600000 in
theorem Follow_bad2 (q0 : 0 ≤ q) (q1 : q ≤ 65535) (b0 : -9223372036854775808 ≤ high) (b1 : high ≤ 9223372036854775807) (c0 : -9223372036854775808 ≤ jump) (c1 : jump ≤ 9223372036854775807) (on : Bool) (g : 0 ≤ high) (g2 : high ≤ 281474976710656) (h : jump < -1) : Calls Try.prog 18 #[.agg #[.bool on, .int .i64 high, .int .i64 jump], .int .u16 q] w fun e w' => e = .returned (.tuple #[.agg #[.bool false, .int .i64 0, .int .i64 0], .int .i64 0, .bool false]) ∧ Bel w w' := by
  go_enter Try.func18, Try.ntmps18
  go_wp2_with fail
  exact bodyPost_ret (v := .tuple #[.agg #[.bool false, .int .i64 0, .int .i64 0], .int .i64 0, .bool false]) (res_ctt Try.results18 rfl (run_loadVar_row (P := Try.prog) _ _ _ _ _ _ _ (Blk.new1 w _ _ _) Try.underlying40 rfl (by kernel_rfl)) rfl rfl) rfl ⟨rfl, Bel.push (Bel.push (Bel.refl w) _) _⟩
set_option maxRecDepth 100000 in
set_option maxHeartbeats 1600000 in
theorem Follow_bad3 (q0 : 0 ≤ q) (q1 : q ≤ 65535) (b0 : -9223372036854775808 ≤ high) (b1 : high ≤ 9223372036854775807) (c0 : -9223372036854775808 ≤ jump) (c1 : jump ≤ 9223372036854775807) (on : Bool) (g : 0 ≤ high) (g2 : high ≤ 281474976710656) (g3 : -1 ≤ jump) (h : 65535 < jump) : Calls Try.prog 18 #[.agg #[.bool on, .int .i64 high, .int .i64 jump], .int .u16 q] w fun e w' => e = .returned (.tuple #[.agg #[.bool false, .int .i64 0, .int .i64 0], .int .i64 0, .bool false]) ∧ Bel w w' := by
  go_enter Try.func18, Try.ntmps18
  go_wp2_with fail
  exact bodyPost_ret (v := .tuple #[.agg #[.bool false, .int .i64 0, .int .i64 0], .int .i64 0, .bool false]) (res_ctt Try.results18 rfl (run_loadVar_row (P := Try.prog) _ _ _ _ _ _ _ (Blk.new1 w _ _ _) Try.underlying40 rfl (by kernel_rfl)) rfl rfl) rfl ⟨rfl, Bel.push (Bel.push (Bel.refl w) _) _⟩
set_option maxRecDepth 100000 in
set_option maxHeartbeats 1600000 in
theorem Follow_off (q0 : 0 ≤ q) (q1 : q ≤ 65535) (b0 : -9223372036854775808 ≤ high) (b1 : high ≤ 9223372036854775807) (c0 : -9223372036854775808 ≤ jump) (c1 : jump ≤ 9223372036854775807) (g : 0 ≤ high) (g2 : high ≤ 281474976710656) (g3 : -1 ≤ jump) (g4 : jump ≤ 65535) : Calls Try.prog 18 #[.agg #[.bool false, .int .i64 high, .int .i64 jump], .int .u16 q] w fun e w' => e = .returned (.tuple #[.agg #[.bool true, .int .i64 q, .int .i64 (-1)], .int .i64 q, .bool true]) ∧ Bel w w' := by
  go_enter Try.func18, Try.ntmps18
  go_wp2_with fail
  exact bodyPost_ret (v := .tuple #[.agg #[.bool true, .int .i64 q, .int .i64 (-1)], .int .i64 q, .bool true]) (res_ctt Try.results18 rfl (run_loadVar_row (P := Try.prog) _ _ _ _ _ _ _ (Blk.new1 w _ _ _) Try.underlying40 rfl (by kernel_rfl)) rfl rfl) rfl ⟨rfl, Bel.push (Bel.push (Bel.refl w) _) _⟩
set_option maxRecDepth 100000 in
set_option maxHeartbeats 1600000 in
theorem Follow_in (q0 : 0 ≤ q) (q1 : q ≤ 65535) (b0 : -9223372036854775808 ≤ high) (b1 : high ≤ 9223372036854775807) (c0 : -9223372036854775808 ≤ jump) (c1 : jump ≤ 9223372036854775807) (g : 0 ≤ high) (g2 : high ≤ 281474976710656) (g3 : -1 ≤ jump) (g4 : jump ≤ 65535) (h1 : 0 ≤ Pk.near high q 65536) (h2 : Pk.near high q 65536 ≤ high + 3000) (h3 : high - 100 ≤ Pk.near high q 65536) : Calls Try.prog 18 #[.agg #[.bool true, .int .i64 high, .int .i64 jump], .int .u16 q] w fun e w' => e = .returned (.tuple #[.agg #[.bool true, .int .i64 (max high (Pk.near high q 65536)), .int .i64 (-1)], .int .i64 (Pk.near high q 65536), .bool true]) ∧ Bel w w' := by
  have k1 := fun W => Extend_any high q W q0 q1 b0 b1
  obtain ⟨n, hn⟩ : ∃ n, n = Pk.near high q 65536 := ⟨_, rfl⟩
  simp only [← hn]
  rw [← hn] at k1 h1 h2 h3
  have hnb := Pk.near_bd16 high q (by omega)
  rw [← hn] at hnb
  obtain ⟨n0, n1, _⟩ := hnb
  have n2 : n ≤ 281474976800000 := by omega
  have n3 : -40000 ≤ n := by omega
  have hv1 := i64_small (high + 3000) (by omega) (by omega)
  have hv2 := i64_small (high - 100) (by omega) (by omega)
  have K1 := Lib.hid k1
  clear k1 n0 n1 hn
  go_enter Try.func18, Try.ntmps18
  go_wp2_with fail
  refine (K1.out _).mono ?_
  rintro e w1 ⟨rfl, rfl⟩
  go_wp2_with fail
  exact bodyPost_ret (v := .tuple #[.agg #[.bool true, .int .i64 (max high n), .int .i64 (-1)], .int .i64 n, .bool true]) (res_ctt Try.results18 rfl (run_loadVar_row (P := Try.prog) _ _ _ _ _ _ _ (Blk.new1 w _ _ _) Try.underlying40 rfl (by kernel_rfl)) rfl rfl) rfl ⟨rfl, Bel.push (Bel.push (Bel.refl w) _) _⟩
set_option maxRecDepth 100000 in
set_option maxHeartbeats 1600000 in
theorem Follow_jump0z (q0 : 0 ≤ q) (q1 : q ≤ 65535) (b0 : -9223372036854775808 ≤ high) (b1 : high ≤ 9223372036854775807) (c0 : -9223372036854775808 ≤ jump) (c1 : jump ≤ 9223372036854775807) (g : 0 ≤ high) (g2 : high ≤ 281474976710656) (g3 : -1 ≤ jump) (g4 : jump ≤ 65535) (h1 : Pk.near high q 65536 < 0) (hj : q = jump) (hh : high < 140737488355328) (hd0 : (q - high) % 65536 = 0) : Calls Try.prog 18 #[.agg #[.bool true, .int .i64 high, .int .i64 jump], .int .u16 q] w fun e w' => e = .returned (.tuple #[.agg #[.bool true, .int .i64 (high + 65536), .int .i64 (-1)], .int .i64 (high + 65536), .bool true]) ∧ Bel w w' := by
  have k1 := fun W => Extend_any high q W q0 q1 b0 b1
  obtain ⟨n, hn⟩ : ∃ n, n = Pk.near high q 65536 := ⟨_, rfl⟩
  rw [← hn] at k1 h1
  have hnb := Pk.near_bd16 high q (by omega)
  rw [← hn] at hnb
  obtain ⟨n0, n1, _⟩ := hnb
  have n2 : n ≤ 281474976800000 := by omega
  have n3 : -40000 ≤ n := by omega
  have hv1 := i64_small (high + 3000) (by omega) (by omega)
  have hv2 := i64_small (high - 100) (by omega) (by omega)
  have K1 := Lib.hid k1
  clear k1 n0 n1 hn
  obtain ⟨d, hd⟩ : ∃ d, d = (q - high) % 65536 := ⟨_, rfl⟩
  have hmk := i64_mask16 (q - high)
  rw [← hd] at hmk
  have d0 : 0 ≤ d := by omega
  have d1 : d ≤ 65535 := by omega
  rw [← hd] at hd0
  have e0 : (d == 0) = true := by rw [beq_iff_eq]; exact hd0
  clear hd hd0
  have ej : (q == jump) = true := by rw [beq_iff_eq]; exact hj
  clear hj
  go_enter Try.func18, Try.ntmps18
  go_wp2_with fail
  refine (K1.out _).mono ?_
  rintro e w1 ⟨rfl, rfl⟩
  go_wp2_with fail
  go_region
  go_wp2_with fail
  exact bodyPost_ret (v := .tuple #[.agg #[.bool true, .int .i64 (high + 65536), .int .i64 (-1)], .int .i64 (high + 65536), .bool true]) (res_ctt Try.results18 rfl (run_loadVar_row (P := Try.prog) _ _ _ _ _ _ _ (Blk.new1 w _ _ _).drew Try.underlying40 rfl (by kernel_rfl)) rfl rfl) rfl ⟨rfl, Bel.drew (Bel.push (Bel.push (Bel.refl w) _) _)⟩
set_option maxRecDepth 100000 in
set_option maxHeartbeats 1600000 in
theorem Follow_jump0g (q0 : 0 ≤ q) (q1 : q ≤ 65535) (b0 : -9223372036854775808 ≤ high) (b1 : high ≤ 9223372036854775807) (c0 : -9223372036854775808 ≤ jump) (c1 : jump ≤ 9223372036854775807) (g : 0 ≤ high) (g2 : high ≤ 281474976710656) (g3 : -1 ≤ jump) (g4 : jump ≤ 65535) (h1 : Pk.near high q 65536 < 0) (hj : q = jump) (hh : high < 140737488355328) (hd0 : ¬(q - high) % 65536 = 0) : Calls Try.prog 18 #[.agg #[.bool true, .int .i64 high, .int .i64 jump], .int .u16 q] w fun e w' => e = .returned (.tuple #[.agg #[.bool true, .int .i64 (high + ((q - high) % 65536)), .int .i64 (-1)], .int .i64 (high + ((q - high) % 65536)), .bool true]) ∧ Bel w w' := by
  have k1 := fun W => Extend_any high q W q0 q1 b0 b1
  obtain ⟨n, hn⟩ : ∃ n, n = Pk.near high q 65536 := ⟨_, rfl⟩
  rw [← hn] at k1 h1
  have hnb := Pk.near_bd16 high q (by omega)
  rw [← hn] at hnb
  obtain ⟨n0, n1, _⟩ := hnb
  have n2 : n ≤ 281474976800000 := by omega
  have n3 : -40000 ≤ n := by omega
  have hv1 := i64_small (high + 3000) (by omega) (by omega)
  have hv2 := i64_small (high - 100) (by omega) (by omega)
  have K1 := Lib.hid k1
  clear k1 n0 n1 hn
  obtain ⟨d, hd⟩ : ∃ d, d = (q - high) % 65536 := ⟨_, rfl⟩
  have hmk := i64_mask16 (q - high)
  rw [← hd] at hmk
  have d0 : 0 ≤ d := by omega
  have d1 : d ≤ 65535 := by omega
  simp only [← hd]
  rw [← hd] at hd0
  have e0 : (d == 0) = false := by rw [beq_eq_false_iff_ne]; exact hd0
  clear hd hd0
  have ej : (q == jump) = true := by rw [beq_iff_eq]; exact hj
  clear hj
  go_enter Try.func18, Try.ntmps18
  go_wp2_with fail
  refine (K1.out _).mono ?_
  rintro e w1 ⟨rfl, rfl⟩
  go_wp2_with fail
  go_region
  go_wp2_with fail
  exact bodyPost_ret (v := .tuple #[.agg #[.bool true, .int .i64 (high + d), .int .i64 (-1)], .int .i64 (high + d), .bool true]) (res_ctt Try.results18 rfl (run_loadVar_row (P := Try.prog) _ _ _ _ _ _ _ (Blk.new1 w _ _ _).drew Try.underlying40 rfl (by kernel_rfl)) rfl rfl) rfl ⟨rfl, Bel.drew (Bel.push (Bel.push (Bel.refl w) _) _)⟩
set_option maxRecDepth 100000 in
set_option maxHeartbeats 1600000 in
theorem Follow_no0n (q0 : 0 ≤ q) (q1 : q ≤ 65535) (b0 : -9223372036854775808 ≤ high) (b1 : high ≤ 9223372036854775807) (c0 : -9223372036854775808 ≤ jump) (c1 : jump ≤ 9223372036854775807) (g : 0 ≤ high) (g2 : high ≤ 281474976710656) (g3 : -1 ≤ jump) (g4 : jump ≤ 65535) (h1 : Pk.near high q 65536 < 0) (hj : ¬q = jump) : Calls Try.prog 18 #[.agg #[.bool true, .int .i64 high, .int .i64 jump], .int .u16 q] w fun e w' => e = .returned (.tuple #[.agg #[.bool true, .int .i64 high, .int .i64 ((q + 1) % 65536)], .int .i64 0, .bool false]) ∧ Bel w w' := by
  have k1 := fun W => Extend_any high q W q0 q1 b0 b1
  obtain ⟨n, hn⟩ : ∃ n, n = Pk.near high q 65536 := ⟨_, rfl⟩
  rw [← hn] at k1 h1
  have hnb := Pk.near_bd16 high q (by omega)
  rw [← hn] at hnb
  obtain ⟨n0, n1, _⟩ := hnb
  have n2 : n ≤ 281474976800000 := by omega
  have n3 : -40000 ≤ n := by omega
  have hv1 := i64_small (high + 3000) (by omega) (by omega)
  have hv2 := i64_small (high - 100) (by omega) (by omega)
  have K1 := Lib.hid k1
  clear k1 n0 n1 hn
  have ej : (q == jump) = false := by rw [beq_eq_false_iff_ne]; exact hj
  clear hj
  have hw : IntKind.u16.wrap (q + 1) = (q + 1) % 65536 := u16_wrap _
  go_enter Try.func18, Try.ntmps18
  go_wp2_with fail
  refine (K1.out _).mono ?_
  rintro e w1 ⟨rfl, rfl⟩
  go_wp2_with fail
  exact bodyPost_ret (v := .tuple #[.agg #[.bool true, .int .i64 high, .int .i64 ((q + 1) % 65536)], .int .i64 0, .bool false]) (res_ctt Try.results18 rfl (run_loadVar_row (P := Try.prog) _ _ _ _ _ _ _ (Blk.new1 w _ _ _) Try.underlying40 rfl (by kernel_rfl)) rfl rfl) rfl ⟨rfl, Bel.push (Bel.push (Bel.refl w) _) _⟩
set_option maxRecDepth 100000 in
set_option maxHeartbeats 1600000 in
theorem Follow_no0h (q0 : 0 ≤ q) (q1 : q ≤ 65535) (b0 : -9223372036854775808 ≤ high) (b1 : high ≤ 9223372036854775807) (c0 : -9223372036854775808 ≤ jump) (c1 : jump ≤ 9223372036854775807) (g : 0 ≤ high) (g2 : high ≤ 281474976710656) (g3 : -1 ≤ jump) (g4 : jump ≤ 65535) (h1 : Pk.near high q 65536 < 0) (hj : q = jump) (hh : 140737488355328 ≤ high) : Calls Try.prog 18 #[.agg #[.bool true, .int .i64 high, .int .i64 jump], .int .u16 q] w fun e w' => e = .returned (.tuple #[.agg #[.bool true, .int .i64 high, .int .i64 ((q + 1) % 65536)], .int .i64 0, .bool false]) ∧ Bel w w' := by
  have k1 := fun W => Extend_any high q W q0 q1 b0 b1
  obtain ⟨n, hn⟩ : ∃ n, n = Pk.near high q 65536 := ⟨_, rfl⟩
  rw [← hn] at k1 h1
  have hnb := Pk.near_bd16 high q (by omega)
  rw [← hn] at hnb
  obtain ⟨n0, n1, _⟩ := hnb
  have n2 : n ≤ 281474976800000 := by omega
  have n3 : -40000 ≤ n := by omega
  have hv1 := i64_small (high + 3000) (by omega) (by omega)
  have hv2 := i64_small (high - 100) (by omega) (by omega)
  have K1 := Lib.hid k1
  clear k1 n0 n1 hn
  have ej : (q == jump) = true := by rw [beq_iff_eq]; exact hj
  clear hj
  have hw : IntKind.u16.wrap (q + 1) = (q + 1) % 65536 := u16_wrap _
  go_enter Try.func18, Try.ntmps18
  go_wp2_with fail
  refine (K1.out _).mono ?_
  rintro e w1 ⟨rfl, rfl⟩
  go_wp2_with fail
  exact bodyPost_ret (v := .tuple #[.agg #[.bool true, .int .i64 high, .int .i64 ((q + 1) % 65536)], .int .i64 0, .bool false]) (res_ctt Try.results18 rfl (run_loadVar_row (P := Try.prog) _ _ _ _ _ _ _ (Blk.new1 w _ _ _) Try.underlying40 rfl (by kernel_rfl)) rfl rfl) rfl ⟨rfl, Bel.push (Bel.push (Bel.refl w) _) _⟩
set_option maxRecDepth 100000 in
set_option maxHeartbeats 1600000 in
theorem Follow_jump1z (q0 : 0 ≤ q) (q1 : q ≤ 65535) (b0 : -9223372036854775808 ≤ high) (b1 : high ≤ 9223372036854775807) (c0 : -9223372036854775808 ≤ jump) (c1 : jump ≤ 9223372036854775807) (g : 0 ≤ high) (g2 : high ≤ 281474976710656) (g3 : -1 ≤ jump) (g4 : jump ≤ 65535) (h1 : 0 ≤ Pk.near high q 65536) (h2 : high + 3000 < Pk.near high q 65536) (hj : q = jump) (hh : high < 140737488355328) (hd0 : (q - high) % 65536 = 0) : Calls Try.prog 18 #[.agg #[.bool true, .int .i64 high, .int .i64 jump], .int .u16 q] w fun e w' => e = .returned (.tuple #[.agg #[.bool true, .int .i64 (high + 65536), .int .i64 (-1)], .int .i64 (high + 65536), .bool true]) ∧ Bel w w' := by
  have k1 := fun W => Extend_any high q W q0 q1 b0 b1
  obtain ⟨n, hn⟩ : ∃ n, n = Pk.near high q 65536 := ⟨_, rfl⟩
  rw [← hn] at k1 h1 h2
  have hnb := Pk.near_bd16 high q (by omega)
  rw [← hn] at hnb
  obtain ⟨n0, n1, _⟩ := hnb
  have n2 : n ≤ 281474976800000 := by omega
  have n3 : -40000 ≤ n := by omega
  have hv1 := i64_small (high + 3000) (by omega) (by omega)
  have hv2 := i64_small (high - 100) (by omega) (by omega)
  have K1 := Lib.hid k1
  clear k1 n0 n1 hn
  obtain ⟨d, hd⟩ : ∃ d, d = (q - high) % 65536 := ⟨_, rfl⟩
  have hmk := i64_mask16 (q - high)
  rw [← hd] at hmk
  have d0 : 0 ≤ d := by omega
  have d1 : d ≤ 65535 := by omega
  rw [← hd] at hd0
  have e0 : (d == 0) = true := by rw [beq_iff_eq]; exact hd0
  clear hd hd0
  have ej : (q == jump) = true := by rw [beq_iff_eq]; exact hj
  clear hj
  go_enter Try.func18, Try.ntmps18
  go_wp2_with fail
  refine (K1.out _).mono ?_
  rintro e w1 ⟨rfl, rfl⟩
  go_wp2_with fail
  go_region
  go_wp2_with fail
  exact bodyPost_ret (v := .tuple #[.agg #[.bool true, .int .i64 (high + 65536), .int .i64 (-1)], .int .i64 (high + 65536), .bool true]) (res_ctt Try.results18 rfl (run_loadVar_row (P := Try.prog) _ _ _ _ _ _ _ (Blk.new1 w _ _ _).drew Try.underlying40 rfl (by kernel_rfl)) rfl rfl) rfl ⟨rfl, Bel.drew (Bel.push (Bel.push (Bel.refl w) _) _)⟩
set_option maxRecDepth 100000 in
set_option maxHeartbeats 1600000 in
theorem Follow_jump1g (q0 : 0 ≤ q) (q1 : q ≤ 65535) (b0 : -9223372036854775808 ≤ high) (b1 : high ≤ 9223372036854775807) (c0 : -9223372036854775808 ≤ jump) (c1 : jump ≤ 9223372036854775807) (g : 0 ≤ high) (g2 : high ≤ 281474976710656) (g3 : -1 ≤ jump) (g4 : jump ≤ 65535) (h1 : 0 ≤ Pk.near high q 65536) (h2 : high + 3000 < Pk.near high q 65536) (hj : q = jump) (hh : high < 140737488355328) (hd0 : ¬(q - high) % 65536 = 0) : Calls Try.prog 18 #[.agg #[.bool true, .int .i64 high, .int .i64 jump], .int .u16 q] w fun e w' => e = .returned (.tuple #[.agg #[.bool true, .int .i64 (high + ((q - high) % 65536)), .int .i64 (-1)], .int .i64 (high + ((q - high) % 65536)), .bool true]) ∧ Bel w w' := by
  have k1 := fun W => Extend_any high q W q0 q1 b0 b1
  obtain ⟨n, hn⟩ : ∃ n, n = Pk.near high q 65536 := ⟨_, rfl⟩
  rw [← hn] at k1 h1 h2
  have hnb := Pk.near_bd16 high q (by omega)
  rw [← hn] at hnb
  obtain ⟨n0, n1, _⟩ := hnb
  have n2 : n ≤ 281474976800000 := by omega
  have n3 : -40000 ≤ n := by omega
  have hv1 := i64_small (high + 3000) (by omega) (by omega)
  have hv2 := i64_small (high - 100) (by omega) (by omega)
  have K1 := Lib.hid k1
  clear k1 n0 n1 hn
  obtain ⟨d, hd⟩ : ∃ d, d = (q - high) % 65536 := ⟨_, rfl⟩
  have hmk := i64_mask16 (q - high)
  rw [← hd] at hmk
  have d0 : 0 ≤ d := by omega
  have d1 : d ≤ 65535 := by omega
  simp only [← hd]
  rw [← hd] at hd0
  have e0 : (d == 0) = false := by rw [beq_eq_false_iff_ne]; exact hd0
  clear hd hd0
  have ej : (q == jump) = true := by rw [beq_iff_eq]; exact hj
  clear hj
  go_enter Try.func18, Try.ntmps18
  go_wp2_with fail
  refine (K1.out _).mono ?_
  rintro e w1 ⟨rfl, rfl⟩
  go_wp2_with fail
  go_region
  go_wp2_with fail
  exact bodyPost_ret (v := .tuple #[.agg #[.bool true, .int .i64 (high + d), .int .i64 (-1)], .int .i64 (high + d), .bool true]) (res_ctt Try.results18 rfl (run_loadVar_row (P := Try.prog) _ _ _ _ _ _ _ (Blk.new1 w _ _ _).drew Try.underlying40 rfl (by kernel_rfl)) rfl rfl) rfl ⟨rfl, Bel.drew (Bel.push (Bel.push (Bel.refl w) _) _)⟩
set_option maxRecDepth 100000 in
set_option maxHeartbeats 1600000 in
theorem Follow_no1n (q0 : 0 ≤ q) (q1 : q ≤ 65535) (b0 : -9223372036854775808 ≤ high) (b1 : high ≤ 9223372036854775807) (c0 : -9223372036854775808 ≤ jump) (c1 : jump ≤ 9223372036854775807) (g : 0 ≤ high) (g2 : high ≤ 281474976710656) (g3 : -1 ≤ jump) (g4 : jump ≤ 65535) (h1 : 0 ≤ Pk.near high q 65536) (h2 : high + 3000 < Pk.near high q 65536) (hj : ¬q = jump) : Calls Try.prog 18 #[.agg #[.bool true, .int .i64 high, .int .i64 jump], .int .u16 q] w fun e w' => e = .returned (.tuple #[.agg #[.bool true, .int .i64 high, .int .i64 ((q + 1) % 65536)], .int .i64 0, .bool false]) ∧ Bel w w' := by
  have k1 := fun W => Extend_any high q W q0 q1 b0 b1
  obtain ⟨n, hn⟩ : ∃ n, n = Pk.near high q 65536 := ⟨_, rfl⟩
  rw [← hn] at k1 h1 h2
  have hnb := Pk.near_bd16 high q (by omega)
  rw [← hn] at hnb
  obtain ⟨n0, n1, _⟩ := hnb
  have n2 : n ≤ 281474976800000 := by omega
  have n3 : -40000 ≤ n := by omega
  have hv1 := i64_small (high + 3000) (by omega) (by omega)
  have hv2 := i64_small (high - 100) (by omega) (by omega)
  have K1 := Lib.hid k1
  clear k1 n0 n1 hn
  have ej : (q == jump) = false := by rw [beq_eq_false_iff_ne]; exact hj
  clear hj
  have hw : IntKind.u16.wrap (q + 1) = (q + 1) % 65536 := u16_wrap _
  go_enter Try.func18, Try.ntmps18
  go_wp2_with fail
  refine (K1.out _).mono ?_
  rintro e w1 ⟨rfl, rfl⟩
  go_wp2_with fail
  exact bodyPost_ret (v := .tuple #[.agg #[.bool true, .int .i64 high, .int .i64 ((q + 1) % 65536)], .int .i64 0, .bool false]) (res_ctt Try.results18 rfl (run_loadVar_row (P := Try.prog) _ _ _ _ _ _ _ (Blk.new1 w _ _ _) Try.underlying40 rfl (by kernel_rfl)) rfl rfl) rfl ⟨rfl, Bel.push (Bel.push (Bel.refl w) _) _⟩
set_option maxRecDepth 100000 in
set_option maxHeartbeats 1600000 in
theorem Follow_no1h (q0 : 0 ≤ q) (q1 : q ≤ 65535) (b0 : -9223372036854775808 ≤ high) (b1 : high ≤ 9223372036854775807) (c0 : -9223372036854775808 ≤ jump) (c1 : jump ≤ 9223372036854775807) (g : 0 ≤ high) (g2 : high ≤ 281474976710656) (g3 : -1 ≤ jump) (g4 : jump ≤ 65535) (h1 : 0 ≤ Pk.near high q 65536) (h2 : high + 3000 < Pk.near high q 65536) (hj : q = jump) (hh : 140737488355328 ≤ high) : Calls Try.prog 18 #[.agg #[.bool true, .int .i64 high, .int .i64 jump], .int .u16 q] w fun e w' => e = .returned (.tuple #[.agg #[.bool true, .int .i64 high, .int .i64 ((q + 1) % 65536)], .int .i64 0, .bool false]) ∧ Bel w w' := by
  have k1 := fun W => Extend_any high q W q0 q1 b0 b1
  obtain ⟨n, hn⟩ : ∃ n, n = Pk.near high q 65536 := ⟨_, rfl⟩
  rw [← hn] at k1 h1 h2
  have hnb := Pk.near_bd16 high q (by omega)
  rw [← hn] at hnb
  obtain ⟨n0, n1, _⟩ := hnb
  have n2 : n ≤ 281474976800000 := by omega
  have n3 : -40000 ≤ n := by omega
  have hv1 := i64_small (high + 3000) (by omega) (by omega)
  have hv2 := i64_small (high - 100) (by omega) (by omega)
  have K1 := Lib.hid k1
  clear k1 n0 n1 hn
  have ej : (q == jump) = true := by rw [beq_iff_eq]; exact hj
  clear hj
  have hw : IntKind.u16.wrap (q + 1) = (q + 1) % 65536 := u16_wrap _
  go_enter Try.func18, Try.ntmps18
  go_wp2_with fail
  refine (K1.out _).mono ?_
  rintro e w1 ⟨rfl, rfl⟩
  go_wp2_with fail
  exact bodyPost_ret (v := .tuple #[.agg #[.bool true, .int .i64 high, .int .i64 ((q + 1) % 65536)], .int .i64 0, .bool false]) (res_ctt Try.results18 rfl (run_loadVar_row (P := Try.prog) _ _ _ _ _ _ _ (Blk.new1 w _ _ _) Try.underlying40 rfl (by kernel_rfl)) rfl rfl) rfl ⟨rfl, Bel.push (Bel.push (Bel.refl w) _) _⟩
set_option maxRecDepth 100000 in
set_option maxHeartbeats 1600000 in
theorem Follow_jump2z (q0 : 0 ≤ q) (q1 : q ≤ 65535) (b0 : -9223372036854775808 ≤ high) (b1 : high ≤ 9223372036854775807) (c0 : -9223372036854775808 ≤ jump) (c1 : jump ≤ 9223372036854775807) (g : 0 ≤ high) (g2 : high ≤ 281474976710656) (g3 : -1 ≤ jump) (g4 : jump ≤ 65535) (h1 : 0 ≤ Pk.near high q 65536) (h2 : Pk.near high q 65536 ≤ high + 3000) (h3 : Pk.near high q 65536 < high - 100) (hj : q = jump) (hh : high < 140737488355328) (hd0 : (q - high) % 65536 = 0) : Calls Try.prog 18 #[.agg #[.bool true, .int .i64 high, .int .i64 jump], .int .u16 q] w fun e w' => e = .returned (.tuple #[.agg #[.bool true, .int .i64 (high + 65536), .int .i64 (-1)], .int .i64 (high + 65536), .bool true]) ∧ Bel w w' := by
  have k1 := fun W => Extend_any high q W q0 q1 b0 b1
  obtain ⟨n, hn⟩ : ∃ n, n = Pk.near high q 65536 := ⟨_, rfl⟩
  rw [← hn] at k1 h1 h2 h3
  have hnb := Pk.near_bd16 high q (by omega)
  rw [← hn] at hnb
  obtain ⟨n0, n1, _⟩ := hnb
  have n2 : n ≤ 281474976800000 := by omega
  have n3 : -40000 ≤ n := by omega
  have hv1 := i64_small (high + 3000) (by omega) (by omega)
  have hv2 := i64_small (high - 100) (by omega) (by omega)
  have K1 := Lib.hid k1
  clear k1 n0 n1 hn
  obtain ⟨d, hd⟩ : ∃ d, d = (q - high) % 65536 := ⟨_, rfl⟩
  have hmk := i64_mask16 (q - high)
  rw [← hd] at hmk
  have d0 : 0 ≤ d := by omega
  have d1 : d ≤ 65535 := by omega
  rw [← hd] at hd0
  have e0 : (d == 0) = true := by rw [beq_iff_eq]; exact hd0
  clear hd hd0
  have ej : (q == jump) = true := by rw [beq_iff_eq]; exact hj
  clear hj
  go_enter Try.func18, Try.ntmps18
  go_wp2_with fail
  refine (K1.out _).mono ?_
  rintro e w1 ⟨rfl, rfl⟩
  go_wp2_with fail
  go_region
  go_wp2_with fail
  exact bodyPost_ret (v := .tuple #[.agg #[.bool true, .int .i64 (high + 65536), .int .i64 (-1)], .int .i64 (high + 65536), .bool true]) (res_ctt Try.results18 rfl (run_loadVar_row (P := Try.prog) _ _ _ _ _ _ _ (Blk.new1 w _ _ _).drew Try.underlying40 rfl (by kernel_rfl)) rfl rfl) rfl ⟨rfl, Bel.drew (Bel.push (Bel.push (Bel.refl w) _) _)⟩
set_option maxRecDepth 100000 in
set_option maxHeartbeats 1600000 in
theorem Follow_jump2g (q0 : 0 ≤ q) (q1 : q ≤ 65535) (b0 : -9223372036854775808 ≤ high) (b1 : high ≤ 9223372036854775807) (c0 : -9223372036854775808 ≤ jump) (c1 : jump ≤ 9223372036854775807) (g : 0 ≤ high) (g2 : high ≤ 281474976710656) (g3 : -1 ≤ jump) (g4 : jump ≤ 65535) (h1 : 0 ≤ Pk.near high q 65536) (h2 : Pk.near high q 65536 ≤ high + 3000) (h3 : Pk.near high q 65536 < high - 100) (hj : q = jump) (hh : high < 140737488355328) (hd0 : ¬(q - high) % 65536 = 0) : Calls Try.prog 18 #[.agg #[.bool true, .int .i64 high, .int .i64 jump], .int .u16 q] w fun e w' => e = .returned (.tuple #[.agg #[.bool true, .int .i64 (high + ((q - high) % 65536)), .int .i64 (-1)], .int .i64 (high + ((q - high) % 65536)), .bool true]) ∧ Bel w w' := by
  have k1 := fun W => Extend_any high q W q0 q1 b0 b1
  obtain ⟨n, hn⟩ : ∃ n, n = Pk.near high q 65536 := ⟨_, rfl⟩
  rw [← hn] at k1 h1 h2 h3
  have hnb := Pk.near_bd16 high q (by omega)
  rw [← hn] at hnb
  obtain ⟨n0, n1, _⟩ := hnb
  have n2 : n ≤ 281474976800000 := by omega
  have n3 : -40000 ≤ n := by omega
  have hv1 := i64_small (high + 3000) (by omega) (by omega)
  have hv2 := i64_small (high - 100) (by omega) (by omega)
  have K1 := Lib.hid k1
  clear k1 n0 n1 hn
  obtain ⟨d, hd⟩ : ∃ d, d = (q - high) % 65536 := ⟨_, rfl⟩
  have hmk := i64_mask16 (q - high)
  rw [← hd] at hmk
  have d0 : 0 ≤ d := by omega
  have d1 : d ≤ 65535 := by omega
  simp only [← hd]
  rw [← hd] at hd0
  have e0 : (d == 0) = false := by rw [beq_eq_false_iff_ne]; exact hd0
  clear hd hd0
  have ej : (q == jump) = true := by rw [beq_iff_eq]; exact hj
  clear hj
  go_enter Try.func18, Try.ntmps18
  go_wp2_with fail
  refine (K1.out _).mono ?_
  rintro e w1 ⟨rfl, rfl⟩
  go_wp2_with fail
  go_region
  go_wp2_with fail
  exact bodyPost_ret (v := .tuple #[.agg #[.bool true, .int .i64 (high + d), .int .i64 (-1)], .int .i64 (high + d), .bool true]) (res_ctt Try.results18 rfl (run_loadVar_row (P := Try.prog) _ _ _ _ _ _ _ (Blk.new1 w _ _ _).drew Try.underlying40 rfl (by kernel_rfl)) rfl rfl) rfl ⟨rfl, Bel.drew (Bel.push (Bel.push (Bel.refl w) _) _)⟩
set_option maxRecDepth 100000 in
set_option maxHeartbeats 1600000 in
theorem Follow_no2n (q0 : 0 ≤ q) (q1 : q ≤ 65535) (b0 : -9223372036854775808 ≤ high) (b1 : high ≤ 9223372036854775807) (c0 : -9223372036854775808 ≤ jump) (c1 : jump ≤ 9223372036854775807) (g : 0 ≤ high) (g2 : high ≤ 281474976710656) (g3 : -1 ≤ jump) (g4 : jump ≤ 65535) (h1 : 0 ≤ Pk.near high q 65536) (h2 : Pk.near high q 65536 ≤ high + 3000) (h3 : Pk.near high q 65536 < high - 100) (hj : ¬q = jump) : Calls Try.prog 18 #[.agg #[.bool true, .int .i64 high, .int .i64 jump], .int .u16 q] w fun e w' => e = .returned (.tuple #[.agg #[.bool true, .int .i64 high, .int .i64 ((q + 1) % 65536)], .int .i64 0, .bool false]) ∧ Bel w w' := by
  have k1 := fun W => Extend_any high q W q0 q1 b0 b1
  obtain ⟨n, hn⟩ : ∃ n, n = Pk.near high q 65536 := ⟨_, rfl⟩
  rw [← hn] at k1 h1 h2 h3
  have hnb := Pk.near_bd16 high q (by omega)
  rw [← hn] at hnb
  obtain ⟨n0, n1, _⟩ := hnb
  have n2 : n ≤ 281474976800000 := by omega
  have n3 : -40000 ≤ n := by omega
  have hv1 := i64_small (high + 3000) (by omega) (by omega)
  have hv2 := i64_small (high - 100) (by omega) (by omega)
  have K1 := Lib.hid k1
  clear k1 n0 n1 hn
  have ej : (q == jump) = false := by rw [beq_eq_false_iff_ne]; exact hj
  clear hj
  have hw : IntKind.u16.wrap (q + 1) = (q + 1) % 65536 := u16_wrap _
  go_enter Try.func18, Try.ntmps18
  go_wp2_with fail
  refine (K1.out _).mono ?_
  rintro e w1 ⟨rfl, rfl⟩
  go_wp2_with fail
  exact bodyPost_ret (v := .tuple #[.agg #[.bool true, .int .i64 high, .int .i64 ((q + 1) % 65536)], .int .i64 0, .bool false]) (res_ctt Try.results18 rfl (run_loadVar_row (P := Try.prog) _ _ _ _ _ _ _ (Blk.new1 w _ _ _) Try.underlying40 rfl (by kernel_rfl)) rfl rfl) rfl ⟨rfl, Bel.push (Bel.push (Bel.refl w) _) _⟩
set_option maxRecDepth 100000 in
set_option maxHeartbeats 1600000 in
theorem Follow_no2h (q0 : 0 ≤ q) (q1 : q ≤ 65535) (b0 : -9223372036854775808 ≤ high) (b1 : high ≤ 9223372036854775807) (c0 : -9223372036854775808 ≤ jump) (c1 : jump ≤ 9223372036854775807) (g : 0 ≤ high) (g2 : high ≤ 281474976710656) (g3 : -1 ≤ jump) (g4 : jump ≤ 65535) (h1 : 0 ≤ Pk.near high q 65536) (h2 : Pk.near high q 65536 ≤ high + 3000) (h3 : Pk.near high q 65536 < high - 100) (hj : q = jump) (hh : 140737488355328 ≤ high) : Calls Try.prog 18 #[.agg #[.bool true, .int .i64 high, .int .i64 jump], .int .u16 q] w fun e w' => e = .returned (.tuple #[.agg #[.bool true, .int .i64 high, .int .i64 ((q + 1) % 65536)], .int .i64 0, .bool false]) ∧ Bel w w' := by
  have k1 := fun W => Extend_any high q W q0 q1 b0 b1
  obtain ⟨n, hn⟩ : ∃ n, n = Pk.near high q 65536 := ⟨_, rfl⟩
  rw [← hn] at k1 h1 h2 h3
  have hnb := Pk.near_bd16 high q (by omega)
  rw [← hn] at hnb
  obtain ⟨n0, n1, _⟩ := hnb
  have n2 : n ≤ 281474976800000 := by omega
  have n3 : -40000 ≤ n := by omega
  have hv1 := i64_small (high + 3000) (by omega) (by omega)
  have hv2 := i64_small (high - 100) (by omega) (by omega)
  have K1 := Lib.hid k1
  clear k1 n0 n1 hn
  have ej : (q == jump) = true := by rw [beq_iff_eq]; exact hj
  clear hj
  have hw : IntKind.u16.wrap (q + 1) = (q + 1) % 65536 := u16_wrap _
  go_enter Try.func18, Try.ntmps18
  go_wp2_with fail
  refine (K1.out _).mono ?_
  rintro e w1 ⟨rfl, rfl⟩
  go_wp2_with fail
  exact bodyPost_ret (v := .tuple #[.agg #[.bool true, .int .i64 high, .int .i64 ((q + 1) % 65536)], .int .i64 0, .bool false]) (res_ctt Try.results18 rfl (run_loadVar_row (P := Try.prog) _ _ _ _ _ _ _ (Blk.new1 w _ _ _) Try.underlying40 rfl (by kernel_rfl)) rfl rfl) rfl ⟨rfl, Bel.push (Bel.push (Bel.refl w) _) _⟩
end
end Go.Proofs.Ytbpcpgmbfnmacaa

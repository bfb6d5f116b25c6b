/- Layer 25: Follow, in the program and in the reference. -/
import Derived.Test.YtahbecinkciahaaGreatJtPutG1Q
import Derived.Test.YtahbecinkciahaaGreatJtPlainQ
import Derived.Laws.Rows
import Derived.RegionTactic
import Derived.Deep.LoopGhost
import Derived.Test.YtahbecinkciahaaGreatCmpLawsQ
namespace Go.Proofs.YtahbecinkciahaaGreat
open Go.RowKit
set_option linter.unusedVariables false
set_option linter.unusedSimpArgs false
attribute [local go_sem ↓] run_min_plain run_max_plain
attribute [local go_sem] setCell_drewN alloc_drewN
section
variable (high jump q : Int) (w : World)
set_option maxRecDepth 100000 in
set_option maxHeartbeats 1600000 in
theorem Follow_bad0 (q0 : 0 ≤ q) (q1 : q ≤ 65535) (b0 : -9223372036854775808 ≤ high) (b1 : high ≤ 9223372036854775807) (c0 : -9223372036854775808 ≤ jump) (c1 : jump ≤ 9223372036854775807) (on : Bool) (h : high < 0) : Calls Tryz.prog 42 #[.agg #[.bool on, .int .i64 high, .int .i64 jump], .int .u16 q] w fun e w' => e = .returned (.tuple #[.agg #[.bool false, .int .i64 0, .int .i64 0], .int .i64 0, .bool false]) ∧ Bel w w' := by
  go_enter Tryz.func42, Tryz.ntmps42
  go_wp2_with fail
  exact bodyPost_ret (v := .tuple #[.agg #[.bool false, .int .i64 0, .int .i64 0], .int .i64 0, .bool false]) (res_ctt Tryz.results42 rfl (run_loadVar_row (P := Tryz.prog) _ _ _ _ _ _ _ (Blk.new1 w _ _ _) Tryz.underlying42 rfl (by kernel_rfl)) rfl rfl) rfl ⟨rfl, Bel.push (Bel.push (Bel.refl w) _) _⟩
set_option maxRecDepth 100000 in
set_option maxHeartbeats 1600000 in
theorem Follow_bad1 (q0 : 0 ≤ q) (q1 : q ≤ 65535) (b0 : -9223372036854775808 ≤ high) (b1 : high ≤ 9223372036854775807) (c0 : -9223372036854775808 ≤ jump) (c1 : jump ≤ 9223372036854775807) (on : Bool) (g : 0 ≤ high) (h : 281474976710656 < high) : Calls Tryz.prog 42 #[.agg #[.bool on, .int .i64 high, .int .i64 jump], .int .u16 q] w fun e w' => e = .returned (.tuple #[.agg #[.bool false, .int .i64 0, .int .i64 0], .int .i64 0, .bool false]) ∧ Bel w w' := by
  go_enter Tryz.func42, Tryz.ntmps42
  go_wp2_with fail
  exact bodyPost_ret (v := .tuple #[.agg #[.bool false, .int .i64 0, .int .i64 0], .int .i64 0, .bool false]) (res_ctt Tryz.results42 rfl (run_loadVar_row (P := Tryz.prog) _ _ _ _ _ _ _ (Blk.new1 w _ _ _) Tryz.underlying42 rfl (by kernel_rfl)) rfl rfl) rfl ⟨rfl, Bel.push (Bel.push (Bel.refl w) _) _⟩
set_option maxRecDepth 100000 in
set_option maxHeartbeats 1600000 in
theorem Follow_bad2 (q0 : 0 ≤ q) (q1 : q ≤ 65535) (b0 : -9223372036854775808 ≤ high) (b1 : high ≤ 9223372036854775807) (c0 : -9223372036854775808 ≤ jump) (c1 : jump ≤ 9223372036854775807) (on : Bool) (g : 0 ≤ high) (g2 : high ≤ 281474976710656) (h : jump < -1) : Calls Tryz.prog 42 #[.agg #[.bool on, .int .i64 high, .int .i64 jump], .int .u16 q] w fun e w' => e = .returned (.tuple #[.agg #[.bool false, .int .i64 0, .int .i64 0], .int .i64 0, .bool false]) ∧ Bel w w' := by
  go_enter Tryz.func42, Tryz.ntmps42
  go_wp2_with fail
  exact bodyPost_ret (v := .tuple #[.agg #[.bool false, .int .i64 0, .int .i64 0], .int .i64 0, .bool false]) (res_ctt Tryz.results42 rfl (run_loadVar_row (P := Tryz.prog) _ _ _ _ _ _ _ (Blk.new1 w _ _ _) Tryz.underlying42 rfl (by kernel_rfl)) rfl rfl) rfl ⟨rfl, Bel.push (Bel.push (Bel.refl w) _) _⟩
set_option maxRecDepth 100000 in
set_option maxHeartbeats 1600000 in
theorem Follow_bad3 (q0 : 0 ≤ q) (q1 : q ≤ 65535) (b0 : -9223372036854775808 ≤ high) (b1 : high ≤ 9223372036854775807) (c0 : -9223372036854775808 ≤ jump) (c1 : jump ≤ 9223372036854775807) (on : Bool) (g : 0 ≤ high) (g2 : high ≤ 281474976710656) (g3 : -1 ≤ jump) (h : 65535 < jump) : Calls Tryz.prog 42 #[.agg #[.bool on, .int .i64 high, .int .i64 jump], .int .u16 q] w fun e w' => e = .returned (.tuple #[.agg #[.bool false, .int .i64 0, .int .i64 0], .int .i64 0, .bool false]) ∧ Bel w w' := by
  go_enter Tryz.func42, Tryz.ntmps42
  go_wp2_with fail
  exact bodyPost_ret (v := .tuple #[.agg #[.bool false, .int .i64 0, .int .i64 0], .int .i64 0, .bool false]) (res_ctt Tryz.results42 rfl (run_loadVar_row (P := Tryz.prog) _ _ _ _ _ _ _ (Blk.new1 w _ _ _) Tryz.underlying42 rfl (by kernel_rfl)) rfl rfl) rfl ⟨rfl, Bel.push (Bel.push (Bel.refl w) _) _⟩
set_option maxRecDepth 100000 in
set_option maxHeartbeats 1600000 in
theorem Follow_off (q0 : 0 ≤ q) (q1 : q ≤ 65535) (b0 : -9223372036854775808 ≤ high) (b1 : high ≤ 9223372036854775807) (c0 : -9223372036854775808 ≤ jump) (c1 : jump ≤ 9223372036854775807) (g : 0 ≤ high) (g2 : high ≤ 281474976710656) (g3 : -1 ≤ jump) (g4 : jump ≤ 65535) : Calls Tryz.prog 42 #[.agg #[.bool false, .int .i64 high, .int .i64 jump], .int .u16 q] w fun e w' => e = .returned (.tuple #[.agg #[.bool true, .int .i64 q, .int .i64 (-1)], .int .i64 q, .bool true]) ∧ Bel w w' := by
  go_enter Tryz.func42, Tryz.ntmps42
  go_wp2_with fail
  exact bodyPost_ret (v := .tuple #[.agg #[.bool true, .int .i64 q, .int .i64 (-1)], .int .i64 q, .bool true]) (res_ctt Tryz.results42 rfl (run_loadVar_row (P := Tryz.prog) _ _ _ _ _ _ _ (Blk.new1 w _ _ _) Tryz.underlying42 rfl (by kernel_rfl)) rfl rfl) rfl ⟨rfl, Bel.push (Bel.push (Bel.refl w) _) _⟩
set_option maxRecDepth 100000 in
set_option maxHeartbeats 1600000 in
theorem Follow_in (q0 : 0 ≤ q) (q1 : q ≤ 65535) (b0 : -9223372036854775808 ≤ high) (b1 : high ≤ 9223372036854775807) (c0 : -9223372036854775808 ≤ jump) (c1 : jump ≤ 9223372036854775807) (g : 0 ≤ high) (g2 : high ≤ 281474976710656) (g3 : -1 ≤ jump) (g4 : jump ≤ 65535) (h1 : 0 ≤ Pk.near high q 65536) (h2 : Pk.near high q 65536 ≤ high + 3000) (h3 : high - 100 ≤ Pk.near high q 65536) : Calls Tryz.prog 42 #[.agg #[.bool true, .int .i64 high, .int .i64 jump], .int .u16 q] w fun e w' => e = .returned (.tuple #[.agg #[.bool true, .int .i64 (max high (Pk.near high q 65536)), .int .i64 (-1)], .int .i64 (Pk.near high q 65536), .bool true]) ∧ Bel w w' := by
  have k1 := fun W => Extend_any high q W q0 q1 b0 b1
  obtain ⟨n, hn⟩ : ∃ n, n = Pk.near high q 65536 := ⟨_, rfl⟩
  simp only [← hn]
  rw [← hn] at k1 h1 h2 h3
  have hnb := Pk.near_bd16 high q (by omega)
  rw [← hn] at hnb
  obtain ⟨n0, n1, _⟩ := hnb
  have n2 : n ≤ 281474976800000 := by omega
  have n3 : -40000 ≤ n := by omega
  have hv1 := pk_i64s (high + 3000) (by omega) (by omega)
  have hv2 := pk_i64s (high - 100) (by omega) (by omega)
  have K1 := Lib.hid k1
  clear k1 n0 n1 hn
  go_enter Tryz.func42, Tryz.ntmps42
  go_wp2_with fail
  refine (K1.out _).mono ?_
  rintro e w1 ⟨rfl, rfl⟩
  go_wp2_with fail
  exact bodyPost_ret (v := .tuple #[.agg #[.bool true, .int .i64 (max high n), .int .i64 (-1)], .int .i64 n, .bool true]) (res_ctt Tryz.results42 rfl (run_loadVar_row (P := Tryz.prog) _ _ _ _ _ _ _ (Blk.new1 w _ _ _) Tryz.underlying42 rfl (by kernel_rfl)) rfl rfl) rfl ⟨rfl, Bel.push (Bel.push (Bel.refl w) _) _⟩
set_option maxRecDepth 100000 in
set_option maxHeartbeats 1600000 in
theorem Follow_jump0z (q0 : 0 ≤ q) (q1 : q ≤ 65535) (b0 : -9223372036854775808 ≤ high) (b1 : high ≤ 9223372036854775807) (c0 : -9223372036854775808 ≤ jump) (c1 : jump ≤ 9223372036854775807) (g : 0 ≤ high) (g2 : high ≤ 281474976710656) (g3 : -1 ≤ jump) (g4 : jump ≤ 65535) (h1 : Pk.near high q 65536 < 0) (hj : q = jump) (hh : high < 140737488355328) (hd0 : (q - high) % 65536 = 0) : Calls Tryz.prog 42 #[.agg #[.bool true, .int .i64 high, .int .i64 jump], .int .u16 q] w fun e w' => e = .returned (.tuple #[.agg #[.bool true, .int .i64 (high + 65536), .int .i64 (-1)], .int .i64 (high + 65536), .bool true]) ∧ Bel w w' := by
  have k1 := fun W => Extend_any high q W q0 q1 b0 b1
  obtain ⟨n, hn⟩ : ∃ n, n = Pk.near high q 65536 := ⟨_, rfl⟩
  rw [← hn] at k1 h1
  have hnb := Pk.near_bd16 high q (by omega)
  rw [← hn] at hnb
  obtain ⟨n0, n1, _⟩ := hnb
  have n2 : n ≤ 281474976800000 := by omega
  have n3 : -40000 ≤ n := by omega
  have hv1 := pk_i64s (high + 3000) (by omega) (by omega)
  have hv2 := pk_i64s (high - 100) (by omega) (by omega)
  have K1 := Lib.hid k1
  clear k1 n0 n1 hn
  obtain ⟨d, hd⟩ : ∃ d, d = (q - high) % 65536 := ⟨_, rfl⟩
  have hmk := i64_mask16 (q - high)
  rw [← hd] at hmk
  have d0 : 0 ≤ d := by omega
  have d1 : d ≤ 65535 := by omega
  rw [← hd] at hd0
  have e0 : (d == 0) = true := by rw [beq_iff_eq]; exact hd0
  clear hd hd0
  have ej : (q == jump) = true := by rw [beq_iff_eq]; exact hj
  clear hj
  go_enter Tryz.func42, Tryz.ntmps42
  go_wp2_with fail
  refine (K1.out _).mono ?_
  rintro e w1 ⟨rfl, rfl⟩
  go_wp2_with fail
  go_region
  go_wp2_with fail
  exact bodyPost_ret (v := .tuple #[.agg #[.bool true, .int .i64 (high + 65536), .int .i64 (-1)], .int .i64 (high + 65536), .bool true]) (res_ctt Tryz.results42 rfl (run_loadVar_row (P := Tryz.prog) _ _ _ _ _ _ _ (Blk.new1 w _ _ _).drew Tryz.underlying42 rfl (by kernel_rfl)) rfl rfl) rfl ⟨rfl, Bel.drew (Bel.push (Bel.push (Bel.refl w) _) _)⟩
set_option maxRecDepth 100000 in
set_option maxHeartbeats 1600000 in
theorem Follow_jump0g (q0 : 0 ≤ q) (q1 : q ≤ 65535) (b0 : -9223372036854775808 ≤ high) (b1 : high ≤ 9223372036854775807) (c0 : -9223372036854775808 ≤ jump) (c1 : jump ≤ 9223372036854775807) (g : 0 ≤ high) (g2 : high ≤ 281474976710656) (g3 : -1 ≤ jump) (g4 : jump ≤ 65535) (h1 : Pk.near high q 65536 < 0) (hj : q = jump) (hh : high < 140737488355328) (hd0 : ¬(q - high) % 65536 = 0) : Calls Tryz.prog 42 #[.agg #[.bool true, .int .i64 high, .int .i64 jump], .int .u16 q] w fun e w' => e = .returned (.tuple #[.agg #[.bool true, .int .i64 (high + ((q - high) % 65536)), .int .i64 (-1)], .int .i64 (high + ((q - high) % 65536)), .bool true]) ∧ Bel w w' := by
  have k1 := fun W => Extend_any high q W q0 q1 b0 b1
  obtain ⟨n, hn⟩ : ∃ n, n = Pk.near high q 65536 := ⟨_, rfl⟩
  rw [← hn] at k1 h1
  have hnb := Pk.near_bd16 high q (by omega)
  rw [← hn] at hnb
  obtain ⟨n0, n1, _⟩ := hnb
  have n2 : n ≤ 281474976800000 := by omega
  have n3 : -40000 ≤ n := by omega
  have hv1 := pk_i64s (high + 3000) (by omega) (by omega)
  have hv2 := pk_i64s (high - 100) (by omega) (by omega)
  have K1 := Lib.hid k1
  clear k1 n0 n1 hn
  obtain ⟨d, hd⟩ : ∃ d, d = (q - high) % 65536 := ⟨_, rfl⟩
  have hmk := i64_mask16 (q - high)
  rw [← hd] at hmk
  have d0 : 0 ≤ d := by omega
  have d1 : d ≤ 65535 := by omega
  simp only [← hd]
  rw [← hd] at hd0
  have e0 : (d == 0) = false := by rw [beq_eq_false_iff_ne]; exact hd0
  clear hd hd0
  have ej : (q == jump) = true := by rw [beq_iff_eq]; exact hj
  clear hj
  go_enter Tryz.func42, Tryz.ntmps42
  go_wp2_with fail
  refine (K1.out _).mono ?_
  rintro e w1 ⟨rfl, rfl⟩
  go_wp2_with fail
  go_region
  go_wp2_with fail
  exact bodyPost_ret (v := .tuple #[.agg #[.bool true, .int .i64 (high + d), .int .i64 (-1)], .int .i64 (high + d), .bool true]) (res_ctt Tryz.results42 rfl (run_loadVar_row (P := Tryz.prog) _ _ _ _ _ _ _ (Blk.new1 w _ _ _).drew Tryz.underlying42 rfl (by kernel_rfl)) rfl rfl) rfl ⟨rfl, Bel.drew (Bel.push (Bel.push (Bel.refl w) _) _)⟩
set_option maxRecDepth 100000 in
set_option maxHeartbeats 1600000 in
theorem Follow_no0n (q0 : 0 ≤ q) (q1 : q ≤ 65535) (b0 : -9223372036854775808 ≤ high) (b1 : high ≤ 9223372036854775807) (c0 : -9223372036854775808 ≤ jump) (c1 : jump ≤ 9223372036854775807) (g : 0 ≤ high) (g2 : high ≤ 281474976710656) (g3 : -1 ≤ jump) (g4 : jump ≤ 65535) (h1 : Pk.near high q 65536 < 0) (hj : ¬q = jump) : Calls Tryz.prog 42 #[.agg #[.bool true, .int .i64 high, .int .i64 jump], .int .u16 q] w fun e w' => e = .returned (.tuple #[.agg #[.bool true, .int .i64 high, .int .i64 ((q + 1) % 65536)], .int .i64 0, .bool false]) ∧ Bel w w' := by
  have k1 := fun W => Extend_any high q W q0 q1 b0 b1
  obtain ⟨n, hn⟩ : ∃ n, n = Pk.near high q 65536 := ⟨_, rfl⟩
  rw [← hn] at k1 h1
  have hnb := Pk.near_bd16 high q (by omega)
  rw [← hn] at hnb
  obtain ⟨n0, n1, _⟩ := hnb
  have n2 : n ≤ 281474976800000 := by omega
  have n3 : -40000 ≤ n := by omega
  have hv1 := pk_i64s (high + 3000) (by omega) (by omega)
  have hv2 := pk_i64s (high - 100) (by omega) (by omega)
  have K1 := Lib.hid k1
  clear k1 n0 n1 hn
  have ej : (q == jump) = false := by rw [beq_eq_false_iff_ne]; exact hj
  clear hj
  have hw : IntKind.u16.wrap (q + 1) = (q + 1) % 65536 := u16_wrap _
  go_enter Tryz.func42, Tryz.ntmps42
  go_wp2_with fail
  refine (K1.out _).mono ?_
  rintro e w1 ⟨rfl, rfl⟩
  go_wp2_with fail
  exact bodyPost_ret (v := .tuple #[.agg #[.bool true, .int .i64 high, .int .i64 ((q + 1) % 65536)], .int .i64 0, .bool false]) (res_ctt Tryz.results42 rfl (run_loadVar_row (P := Tryz.prog) _ _ _ _ _ _ _ (Blk.new1 w _ _ _) Tryz.underlying42 rfl (by kernel_rfl)) rfl rfl) rfl ⟨rfl, Bel.push (Bel.push (Bel.refl w) _) _⟩
set_option maxRecDepth 100000 in
set_option maxHeartbeats 1600000 in
theorem Follow_no0h (q0 : 0 ≤ q) (q1 : q ≤ 65535) (b0 : -9223372036854775808 ≤ high) (b1 : high ≤ 9223372036854775807) (c0 : -9223372036854775808 ≤ jump) (c1 : jump ≤ 9223372036854775807) (g : 0 ≤ high) (g2 : high ≤ 281474976710656) (g3 : -1 ≤ jump) (g4 : jump ≤ 65535) (h1 : Pk.near high q 65536 < 0) (hj : q = jump) (hh : 140737488355328 ≤ high) : Calls Tryz.prog 42 #[.agg #[.bool true, .int .i64 high, .int .i64 jump], .int .u16 q] w fun e w' => e = .returned (.tuple #[.agg #[.bool true, .int .i64 high, .int .i64 ((q + 1) % 65536)], .int .i64 0, .bool false]) ∧ Bel w w' := by
  have k1 := fun W => Extend_any high q W q0 q1 b0 b1
  obtain ⟨n, hn⟩ : ∃ n, n = Pk.near high q 65536 := ⟨_, rfl⟩
  rw [← hn] at k1 h1
  have hnb := Pk.near_bd16 high q (by omega)
  rw [← hn] at hnb
  obtain ⟨n0, n1, _⟩ := hnb
  have n2 : n ≤ 281474976800000 := by omega
  have n3 : -40000 ≤ n := by omega
  have hv1 := pk_i64s (high + 3000) (by omega) (by omega)
  have hv2 := pk_i64s (high - 100) (by omega) (by omega)
  have K1 := Lib.hid k1
  clear k1 n0 n1 hn
  have ej : (q == jump) = true := by rw [beq_iff_eq]; exact hj
  clear hj
  have hw : IntKind.u16.wrap (q + 1) = (q + 1) % 65536 := u16_wrap _
  go_enter Tryz.func42, Tryz.ntmps42
  go_wp2_with fail
  refine (K1.out _).mono ?_
  rintro e w1 ⟨rfl, rfl⟩
  go_wp2_with fail
  exact bodyPost_ret (v := .tuple #[.agg #[.bool true, .int .i64 high, .int .i64 ((q + 1) % 65536)], .int .i64 0, .bool false]) (res_ctt Tryz.results42 rfl (run_loadVar_row (P := Tryz.prog) _ _ _ _ _ _ _ (Blk.new1 w _ _ _) Tryz.underlying42 rfl (by kernel_rfl)) rfl rfl) rfl ⟨rfl, Bel.push (Bel.push (Bel.refl w) _) _⟩
set_option maxRecDepth 100000 in
set_option maxHeartbeats 1600000 in
theorem Follow_jump1z (q0 : 0 ≤ q) (q1 : q ≤ 65535) (b0 : -9223372036854775808 ≤ high) (b1 : high ≤ 9223372036854775807) (c0 : -9223372036854775808 ≤ jump) (c1 : jump ≤ 9223372036854775807) (g : 0 ≤ high) (g2 : high ≤ 281474976710656) (g3 : -1 ≤ jump) (g4 : jump ≤ 65535) (h1 : 0 ≤ Pk.near high q 65536) (h2 : high + 3000 < Pk.near high q 65536) (hj : q = jump) (hh : high < 140737488355328) (hd0 : (q - high) % 65536 = 0) : Calls Tryz.prog 42 #[.agg #[.bool true, .int .i64 high, .int .i64 jump], .int .u16 q] w fun e w' => e = .returned (.tuple #[.agg #[.bool true, .int .i64 (high + 65536), .int .i64 (-1)], .int .i64 (high + 65536), .bool true]) ∧ Bel w w' := by
  have k1 := fun W => Extend_any high q W q0 q1 b0 b1
  obtain ⟨n, hn⟩ : ∃ n, n = Pk.near high q 65536 := ⟨_, rfl⟩
  rw [← hn] at k1 h1 h2
  have hnb := Pk.near_bd16 high q (by omega)
  rw [← hn] at hnb
  obtain ⟨n0, n1, _⟩ := hnb
  have n2 : n ≤ 281474976800000 := by omega
  have n3 : -40000 ≤ n := by omega
  have hv1 := pk_i64s (high + 3000) (by omega) (by omega)
  have hv2 := pk_i64s (high - 100) (by omega) (by omega)
  have K1 := Lib.hid k1
  clear k1 n0 n1 hn
  obtain ⟨d, hd⟩ : ∃ d, d = (q - high) % 65536 := ⟨_, rfl⟩
  have hmk := i64_mask16 (q - high)
  rw [← hd] at hmk
  have d0 : 0 ≤ d := by omega
  have d1 : d ≤ 65535 := by omega
  rw [← hd] at hd0
  have e0 : (d == 0) = true := by rw [beq_iff_eq]; exact hd0
  clear hd hd0
  have ej : (q == jump) = true := by rw [beq_iff_eq]; exact hj
  clear hj
  go_enter Tryz.func42, Tryz.ntmps42
  go_wp2_with fail
  refine (K1.out _).mono ?_
  rintro e w1 ⟨rfl, rfl⟩
  go_wp2_with fail
  go_region
  go_wp2_with fail
  exact bodyPost_ret (v := .tuple #[.agg #[.bool true, .int .i64 (high + 65536), .int .i64 (-1)], .int .i64 (high + 65536), .bool true]) (res_ctt Tryz.results42 rfl (run_loadVar_row (P := Tryz.prog) _ _ _ _ _ _ _ (Blk.new1 w _ _ _).drew Tryz.underlying42 rfl (by kernel_rfl)) rfl rfl) rfl ⟨rfl, Bel.drew (Bel.push (Bel.push (Bel.refl w) _) _)⟩
set_option maxRecDepth 100000 in
set_option maxHeartbeats 1600000 in
theorem Follow_jump1g (q0 : 0 ≤ q) (q1 : q ≤ 65535) (b0 : -9223372036854775808 ≤ high) (b1 : high ≤ 9223372036854775807) (c0 : -9223372036854775808 ≤ jump) (c1 : jump ≤ 9223372036854775807) (g : 0 ≤ high) (g2 : high ≤ 281474976710656) (g3 : -1 ≤ jump) (g4 : jump ≤ 65535) (h1 : 0 ≤ Pk.near high q 65536) (h2 : high + 3000 < Pk.near high q 65536) (hj : q = jump) (hh : high < 140737488355328) (hd0 : ¬(q - high) % 65536 = 0) : Calls Tryz.prog 42 #[.agg #[.bool true, .int .i64 high, .int .i64 jump], .int .u16 q] w fun e w' => e = .returned (.tuple #[.agg #[.bool true, .int .i64 (high + ((q - high) % 65536)), .int .i64 (-1)], .int .i64 (high + ((q - high) % 65536)), .bool true]) ∧ Bel w w' := by
  have k1 := fun W => Extend_any high q W q0 q1 b0 b1
  obtain ⟨n, hn⟩ : ∃ n, n = Pk.near high q 65536 := ⟨_, rfl⟩
  rw [← hn] at k1 h1 h2
  have hnb := Pk.near_bd16 high q (by omega)
  rw [← hn] at hnb
  obtain ⟨n0, n1, _⟩ := hnb
  have n2 : n ≤ 281474976800000 := by omega
  have n3 : -40000 ≤ n := by omega
  have hv1 := pk_i64s (high + 3000) (by omega) (by omega)
  have hv2 := pk_i64s (high - 100) (by omega) (by omega)
  have K1 := Lib.hid k1
  clear k1 n0 n1 hn
  obtain ⟨d, hd⟩ : ∃ d, d = (q - high) % 65536 := ⟨_, rfl⟩
  have hmk := i64_mask16 (q - high)
  rw [← hd] at hmk
  have d0 : 0 ≤ d := by omega
  have d1 : d ≤ 65535 := by omega
  simp only [← hd]
  rw [← hd] at hd0
  have e0 : (d == 0) = false := by rw [beq_eq_false_iff_ne]; exact hd0
  clear hd hd0
  have ej : (q == jump) = true := by rw [beq_iff_eq]; exact hj
  clear hj
  go_enter Tryz.func42, Tryz.ntmps42
  go_wp2_with fail
  refine (K1.out _).mono ?_
  rintro e w1 ⟨rfl, rfl⟩
  go_wp2_with fail
  go_region
  go_wp2_with fail
  exact bodyPost_ret (v := .tuple #[.agg #[.bool true, .int .i64 (high + d), .int .i64 (-1)], .int .i64 (high + d), .bool true]) (res_ctt Tryz.results42 rfl (run_loadVar_row (P := Tryz.prog) _ _ _ _ _ _ _ (Blk.new1 w _ _ _).drew Tryz.underlying42 rfl (by kernel_rfl)) rfl rfl) rfl ⟨rfl, Bel.drew (Bel.push (Bel.push (Bel.refl w) _) _)⟩
set_option maxRecDepth 100000 in
set_option maxHeartbeats 1600000 in
theorem Follow_no1n (q0 : 0 ≤ q) (q1 : q ≤ 65535) (b0 : -9223372036854775808 ≤ high) (b1 : high ≤ 9223372036854775807) (c0 : -9223372036854775808 ≤ jump) (c1 : jump ≤ 9223372036854775807) (g : 0 ≤ high) (g2 : high ≤ 281474976710656) (g3 : -1 ≤ jump) (g4 : jump ≤ 65535) (h1 : 0 ≤ Pk.near high q 65536) (h2 : high + 3000 < Pk.near high q 65536) (hj : ¬q = jump) : Calls Tryz.prog 42 #[.agg #[.bool true, .int .i64 high, .int .i64 jump], .int .u16 q] w fun e w' => e = .returned (.tuple #[.agg #[.bool true, .int .i64 high, .int .i64 ((q + 1) % 65536)], .int .i64 0, .bool false]) ∧ Bel w w' := by
  have k1 := fun W => Extend_any high q W q0 q1 b0 b1
  obtain ⟨n, hn⟩ : ∃ n, n = Pk.near high q 65536 := ⟨_, rfl⟩
  rw [← hn] at k1 h1 h2
  have hnb := Pk.near_bd16 high q (by omega)
  rw [← hn] at hnb
  obtain ⟨n0, n1, _⟩ := hnb
  have n2 : n ≤ 281474976800000 := by omega
  have n3 : -40000 ≤ n := by omega
  have hv1 := pk_i64s (high + 3000) (by omega) (by omega)
  have hv2 := pk_i64s (high - 100) (by omega) (by omega)
  have K1 := Lib.hid k1
  clear k1 n0 n1 hn
  have ej : (q == jump) = false := by rw [beq_eq_false_iff_ne]; exact hj
  clear hj
  have hw : IntKind.u16.wrap (q + 1) = (q + 1) % 65536 := u16_wrap _
  go_enter Tryz.func42, Tryz.ntmps42
  go_wp2_with fail
  refine (K1.out _).mono ?_
  rintro e w1 ⟨rfl, rfl⟩
  go_wp2_with fail
  exact bodyPost_ret (v := .tuple #[.agg #[.bool true, .int .i64 high, .int .i64 ((q + 1) % 65536)], .int .i64 0, .bool false]) (res_ctt Tryz.results42 rfl (run_loadVar_row (P := Tryz.prog) _ _ _ _ _ _ _ (Blk.new1 w _ _ _) Tryz.underlying42 rfl (by kernel_rfl)) rfl rfl) rfl ⟨rfl, Bel.push (Bel.push (Bel.refl w) _) _⟩
set_option maxRecDepth 100000 in
set_option maxHeartbeats 1600000 in
theorem Follow_no1h (q0 : 0 ≤ q) (q1 : q ≤ 65535) (b0 : -9223372036854775808 ≤ high) (b1 : high ≤ 9223372036854775807) (c0 : -9223372036854775808 ≤ jump) (c1 : jump ≤ 9223372036854775807) (g : 0 ≤ high) (g2 : high ≤ 281474976710656) (g3 : -1 ≤ jump) (g4 : jump ≤ 65535) (h1 : 0 ≤ Pk.near high q 65536) (h2 : high + 3000 < Pk.near high q 65536) (hj : q = jump) (hh : 140737488355328 ≤ high) : Calls Tryz.prog 42 #[.agg #[.bool true, .int .i64 high, .int .i64 jump], .int .u16 q] w fun e w' => e = .returned (.tuple #[.agg #[.bool true, .int .i64 high, .int .i64 ((q + 1) % 65536)], .int .i64 0, .bool false]) ∧ Bel w w' := by
  have k1 := fun W => Extend_any high q W q0 q1 b0 b1
  obtain ⟨n, hn⟩ : ∃ n, n = Pk.near high q 65536 := ⟨_, rfl⟩
  rw [← hn] at k1 h1 h2
  have hnb := Pk.near_bd16 high q (by omega)
  rw [← hn] at hnb
  obtain ⟨n0, n1, _⟩ := hnb
  have n2 : n ≤ 281474976800000 := by omega
  have n3 : -40000 ≤ n := by omega
  have hv1 := pk_i64s (high + 3000) (by omega) (by omega)
  have hv2 := pk_i64s (high - 100) (by omega) (by omega)
  have K1 := Lib.hid k1
  clear k1 n0 n1 hn
  have ej : (q == jump) = true := by rw [beq_iff_eq]; exact hj
  clear hj
  have hw : IntKind.u16.wrap (q + 1) = (q + 1) % 65536 := u16_wrap _
  go_enter Tryz.func42, Tryz.ntmps42
  go_wp2_with fail
  refine (K1.out _).mono ?_
  rintro e w1 ⟨rfl, rfl⟩
  go_wp2_with fail
  exact bodyPost_ret (v := .tuple #[.agg #[.bool true, .int .i64 high, .int .i64 ((q + 1) % 65536)], .int .i64 0, .bool false]) (res_ctt Tryz.results42 rfl (run_loadVar_row (P := Tryz.prog) _ _ _ _ _ _ _ (Blk.new1 w _ _ _) Tryz.underlying42 rfl (by kernel_rfl)) rfl rfl) rfl ⟨rfl, Bel.push (Bel.push (Bel.refl w) _) _⟩
set_option maxRecDepth 100000 in
set_option maxHeartbeats 1600000 in
theorem Follow_jump2z (q0 : 0 ≤ q) (q1 : q ≤ 65535) (b0 : -9223372036854775808 ≤ high) (b1 : high ≤ 9223372036854775807) (c0 : -9223372036854775808 ≤ jump) (c1 : jump ≤ 9223372036854775807) (g : 0 ≤ high) (g2 : high ≤ 281474976710656) (g3 : -1 ≤ jump) (g4 : jump ≤ 65535) (h1 : 0 ≤ Pk.near high q 65536) (h2 : Pk.near high q 65536 ≤ high + 3000) (h3 : Pk.near high q 65536 < high - 100) (hj : q = jump) (hh : high < 140737488355328) (hd0 : (q - high) % 65536 = 0) : Calls Tryz.prog 42 #[.agg #[.bool true, .int .i64 high, .int .i64 jump], .int .u16 q] w fun e w' => e = .returned (.tuple #[.agg #[.bool true, .int .i64 (high + 65536), .int .i64 (-1)], .int .i64 (high + 65536), .bool true]) ∧ Bel w w' := by
  have k1 := fun W => Extend_any high q W q0 q1 b0 b1
  obtain ⟨n, hn⟩ : ∃ n, n = Pk.near high q 65536 := ⟨_, rfl⟩
  rw [← hn] at k1 h1 h2 h3
  have hnb := Pk.near_bd16 high q (by omega)
  rw [← hn] at hnb
  obtain ⟨n0, n1, _⟩ := hnb
  have n2 : n ≤ 281474976800000 := by omega
  have n3 : -40000 ≤ n := by omega
  have hv1 := pk_i64s (high + 3000) (by omega) (by omega)
  have hv2 := pk_i64s (high - 100) (by omega) (by omega)
  have K1 := Lib.hid k1
  clear k1 n0 n1 hn
  obtain ⟨d, hd⟩ : ∃ d, d = (q - high) % 65536 := ⟨_, rfl⟩
  have hmk := i64_mask16 (q - high)
  rw [← hd] at hmk
  have d0 : 0 ≤ d := by omega
  have d1 : d ≤ 65535 := by omega
  rw [← hd] at hd0
  have e0 : (d == 0) = true := by rw [beq_iff_eq]; exact hd0
  clear hd hd0
  have ej : (q == jump) = true := by rw [beq_iff_eq]; exact hj
  clear hj
  go_enter Tryz.func42, Tryz.ntmps42
  go_wp2_with fail
  refine (K1.out _).mono ?_
  rintro e w1 ⟨rfl, rfl⟩
  go_wp2_with fail
  go_region
  go_wp2_with fail
  exact bodyPost_ret (v := .tuple #[.agg #[.bool true, .int .i64 (high + 65536), .int .i64 (-1)], .int .i64 (high + 65536), .bool true]) (res_ctt Tryz.results42 rfl (run_loadVar_row (P := Tryz.prog) _ _ _ _ _ _ _ (Blk.new1 w _ _ _).drew Tryz.underlying42 rfl (by kernel_rfl)) rfl rfl) rfl ⟨rfl, Bel.drew (Bel.push (Bel.push (Bel.refl w) _) _)⟩
set_option maxRecDepth 100000 in
set_option maxHeartbeats 1600000 in
theorem Follow_jump2g (q0 : 0 ≤ q) (q1 : q ≤ 65535) (b0 : -9223372036854775808 ≤ high) (b1 : high ≤ 9223372036854775807) (c0 : -9223372036854775808 ≤ jump) (c1 : jump ≤ 9223372036854775807) (g : 0 ≤ high) (g2 : high ≤ 281474976710656) (g3 : -1 ≤ jump) (g4 : jump ≤ 65535) (h1 : 0 ≤ Pk.near high q 65536) (h2 : Pk.near high q 65536 ≤ high + 3000) (h3 : Pk.near high q 65536 < high - 100) (hj : q = jump) (hh : high < 140737488355328) (hd0 : ¬(q - high) % 65536 = 0) : Calls Tryz.prog 42 #[.agg #[.bool true, .int .i64 high, .int .i64 jump], .int .u16 q] w fun e w' => e = .returned (.tuple #[.agg #[.bool true, .int .i64 (high + ((q - high) % 65536)), .int .i64 (-1)], .int .i64 (high + ((q - high) % 65536)), .bool true]) ∧ Bel w w' := by
  have k1 := fun W => Extend_any high q W q0 q1 b0 b1
  obtain ⟨n, hn⟩ : ∃ n, n = Pk.near high q 65536 := ⟨_, rfl⟩
  rw [← hn] at k1 h1 h2 h3
  have hnb := Pk.near_bd16 high q (by omega)
  rw [← hn] at hnb
  obtain ⟨n0, n1, _⟩ := hnb
  have n2 : n ≤ 281474976800000 := by omega
  have n3 : -40000 ≤ n := by omega
  have hv1 := pk_i64s (high + 3000) (by omega) (by omega)
  have hv2 := pk_i64s (high - 100) (by omega) (by omega)
  have K1 := Lib.hid k1
  clear k1 n0 n1 hn
  obtain ⟨d, hd⟩ : ∃ d, d = (q - high) % 65536 := ⟨_, rfl⟩
  have hmk := i64_mask16 (q - high)
  rw [← hd] at hmk
  have d0 : 0 ≤ d := by omega
  have d1 : d ≤ 65535 := by omega
  simp only [← hd]
  rw [← hd] at hd0
  have e0 : (d == 0) = false := by rw [beq_eq_false_iff_ne]; exact hd0
  clear hd hd0
  have ej : (q == jump) = true := by rw [beq_iff_eq]; exact hj
  clear hj
  go_enter Tryz.func42, Tryz.ntmps42
  go_wp2_with fail
  refine (K1.out _).mono ?_
  rintro e w1 ⟨rfl, rfl⟩
  go_wp2_with fail
  go_region
  go_wp2_with fail
  exact bodyPost_ret (v := .tuple #[.agg #[.bool true, .int .i64 (high + d), .int .i64 (-1)], .int .i64 (high + d), .bool true]) (res_ctt Tryz.results42 rfl (run_loadVar_row (P := Tryz.prog) _ _ _ _ _ _ _ (Blk.new1 w _ _ _).drew Tryz.underlying42 rfl (by kernel_rfl)) rfl rfl) rfl ⟨rfl, Bel.drew (Bel.push (Bel.push (Bel.refl w) _) _)⟩
set_option maxRecDepth 100000 in
set_option maxHeartbeats 1600000 in
theorem Follow_no2n (q0 : 0 ≤ q) (q1 : q ≤ 65535) (b0 : -9223372036854775808 ≤ high) (b1 : high ≤ 9223372036854775807) (c0 : -9223372036854775808 ≤ jump) (c1 : jump ≤ 9223372036854775807) (g : 0 ≤ high) (g2 : high ≤ 281474976710656) (g3 : -1 ≤ jump) (g4 : jump ≤ 65535) (h1 : 0 ≤ Pk.near high q 65536) (h2 : Pk.near high q 65536 ≤ high + 3000) (h3 : Pk.near high q 65536 < high - 100) (hj : ¬q = jump) : Calls Tryz.prog 42 #[.agg #[.bool true, .int .i64 high, .int .i64 jump], .int .u16 q] w fun e w' => e = .returned (.tuple #[.agg #[.bool true, .int .i64 high, .int .i64 ((q + 1) % 65536)], .int .i64 0, .bool false]) ∧ Bel w w' := by
  have k1 := fun W => Extend_any high q W q0 q1 b0 b1
  obtain ⟨n, hn⟩ : ∃ n, n = Pk.near high q 65536 := ⟨_, rfl⟩
  rw [← hn] at k1 h1 h2 h3
  have hnb := Pk.near_bd16 high q (by omega)
  rw [← hn] at hnb
  obtain ⟨n0, n1, _⟩ := hnb
  have n2 : n ≤ 281474976800000 := by omega
  have n3 : -40000 ≤ n := by omega
  have hv1 := pk_i64s (high + 3000) (by omega) (by omega)
  have hv2 := pk_i64s (high - 100) (by omega) (by omega)
  have K1 := Lib.hid k1
  clear k1 n0 n1 hn
  have ej : (q == jump) = false := by rw [beq_eq_false_iff_ne]; exact hj
  clear hj
  have hw : IntKind.u16.wrap (q + 1) = (q + 1) % 65536 := u16_wrap _
  go_enter Tryz.func42, Tryz.ntmps42
  go_wp2_with fail
  refine (K1.out _).mono ?_
  rintro e w1 ⟨rfl, rfl⟩
  go_wp2_with fail
  exact bodyPost_ret (v := .tuple #[.agg #[.bool true, .int .i64 high, .int .i64 ((q + 1) % 65536)], .int .i64 0, .bool false]) (res_ctt Tryz.results42 rfl (run_loadVar_row (P := Tryz.prog) _ _ _ _ _ _ _ (Blk.new1 w _ _ _) Tryz.underlying42 rfl (by kernel_rfl)) rfl rfl) rfl ⟨rfl, Bel.push (Bel.push (Bel.refl w) _) _⟩
set_option maxRecDepth 100000 in
set_option maxHeartbeats 1600000 in
theorem Follow_no2h (q0 : 0 ≤ q) (q1 : q ≤ 65535) (b0 : -9223372036854775808 ≤ high) (b1 : high ≤ 9223372036854775807) (c0 : -9223372036854775808 ≤ jump) (c1 : jump ≤ 9223372036854775807) (g : 0 ≤ high) (g2 : high ≤ 281474976710656) (g3 : -1 ≤ jump) (g4 : jump ≤ 65535) (h1 : 0 ≤ Pk.near high q 65536) (h2 : Pk.near high q 65536 ≤ high + 3000) (h3 : Pk.near high q 65536 < high - 100) (hj : q = jump) (hh : 140737488355328 ≤ high) : Calls Tryz.prog 42 #[.agg #[.bool true, .int .i64 high, .int .i64 jump], .int .u16 q] w fun e w' => e = .returned (.tuple #[.agg #[.bool true, .int .i64 high, .int .i64 ((q + 1) % 65536)], .int .i64 0, .bool false]) ∧ Bel w w' := by
  have k1 := fun W => Extend_any high q W q0 q1 b0 b1
  obtain ⟨n, hn⟩ : ∃ n, n = Pk.near high q 65536 := ⟨_, rfl⟩
  rw [← hn] at k1 h1 h2 h3
  have hnb := Pk.near_bd16 high q (by omega)
  rw [← hn] at hnb
  obtain ⟨n0, n1, _⟩ := hnb
  have n2 : n ≤ 281474976800000 := by omega
  have n3 : -40000 ≤ n := by omega
  have hv1 := pk_i64s (high + 3000) (by omega) (by omega)
  have hv2 := pk_i64s (high - 100) (by omega) (by omega)
  have K1 := Lib.hid k1
  clear k1 n0 n1 hn
  have ej : (q == jump) = true := by rw [beq_iff_eq]; exact hj
  clear hj
  have hw : IntKind.u16.wrap (q + 1) = (q + 1) % 65536 := u16_wrap _
  go_enter Tryz.func42, Tryz.ntmps42
  go_wp2_with fail
  refine (K1.out _).mono ?_
  rintro e w1 ⟨rfl, rfl⟩
  go_wp2_with fail
  exact bodyPost_ret (v := .tuple #[.agg #[.bool true, .int .i64 high, .int .i64 ((q + 1) % 65536)], .int .i64 0, .bool false]) (res_ctt Tryz.results42 rfl (run_loadVar_row (P := Tryz.prog) _ _ _ _ _ _ _ (Blk.new1 w _ _ _) Tryz.underlying42 rfl (by kernel_rfl)) rfl rfl) rfl ⟨rfl, Bel.push (Bel.push (Bel.refl w) _) _⟩
end
end Go.Proofs.YtahbecinkciahaaGreat
/- Layer 25: Follow of the reference. -/
namespace Go.Proofs.YtahbecinkciahaaGreat
open Go.RowKit
set_option linter.unusedVariables false
set_option linter.unusedSimpArgs false
attribute [local go_sem ↓] run_min_plain run_max_plain
attribute [local go_sem] setCell_drewN alloc_drewN
section
variable (high jump q : Int) (w : World)
end
end Go.Proofs.YtahbecinkciahaaGreat
/- Layer 25: Follow for every track. -/
namespace Go.Proofs.YtahbecinkciahaaGreat
open Go.RowKit
set_option linter.unusedVariables false
set_option linter.unusedSimpArgs false
attribute [local go_sem ↓] run_min_plain run_max_plain
attribute [local go_sem] setCell_drewN alloc_drewN
section
variable (on : Bool) (high jump q : Int) (w : World)
theorem Follow_any (q0 : 0 ≤ q) (q1 : q ≤ 65535) (b0 : -9223372036854775808 ≤ high) (b1 : high ≤ 9223372036854775807) (c0 : -9223372036854775808 ≤ jump) (c1 : jump ≤ 9223372036854775807) : Calls Tryz.prog 42 #[.agg #[.bool on, .int .i64 high, .int .i64 jump], .int .u16 q] w fun e w' => e = .returned (.tuple #[.agg (Pk.follow ⟨on, high, jump⟩ q).1.row.toArray, .int .i64 (Pk.follow ⟨on, high, jump⟩ q).2.1, .bool (Pk.follow ⟨on, high, jump⟩ q).2.2]) ∧ Bel w w' := by
  unfold Pk.follow
  by_cases hok : Pk.Tr.ok ⟨on, high, jump⟩
  rotate_left
  · rw [if_pos hok]
    have hn : ¬(0 ≤ high ∧ high ≤ 281474976710656 ∧ -1 ≤ jump ∧ jump ≤ 65535) := hok
    by_cases h1 : high < 0
    · exact Follow_bad0 high jump q w q0 q1 b0 b1 c0 c1 on h1
    by_cases h2 : 281474976710656 < high
    · exact Follow_bad1 high jump q w q0 q1 b0 b1 c0 c1 on (by omega) h2
    by_cases h3 : jump < -1
    · exact Follow_bad2 high jump q w q0 q1 b0 b1 c0 c1 on (by omega) (by omega) h3
    · exact Follow_bad3 high jump q w q0 q1 b0 b1 c0 c1 on (by omega) (by omega) (by omega) (by omega)
  rw [if_neg (fun h => h hok)]
  obtain ⟨g, g2, g3, g4⟩ : 0 ≤ high ∧ high ≤ 281474976710656 ∧ -1 ≤ jump ∧ jump ≤ 65535 := hok
  cases on
  · rw [if_pos rfl]
    exact Follow_off high jump q w q0 q1 b0 b1 c0 c1 g g2 g3 g4
  rw [if_neg (by simp)]
  by_cases hin : 0 ≤ Pk.near high q 65536 ∧ Pk.near high q 65536 ≤ high + 3000 ∧ high - 100 ≤ Pk.near high q 65536
  · rw [if_pos hin]
    exact Follow_in high jump q w q0 q1 b0 b1 c0 c1 g g2 g3 g4 hin.1 hin.2.1 hin.2.2
  rw [if_neg hin]
  by_cases hj : q = jump ∧ high < 140737488355328
  · rw [if_pos hj]
    by_cases h1 : 0 ≤ Pk.near high q 65536
    · by_cases h2 : Pk.near high q 65536 ≤ high + 3000
      · by_cases hz : (q - high) % 65536 = 0
        · rw [show Pk.gap high q = 65536 by unfold Pk.gap; rw [if_pos hz]]
          exact Follow_jump2z high jump q w q0 q1 b0 b1 c0 c1 g g2 g3 g4 h1 h2 (by omega) hj.1 hj.2 hz
        · rw [show Pk.gap high q = (q - high) % 65536 by unfold Pk.gap; rw [if_neg hz]]
          exact Follow_jump2g high jump q w q0 q1 b0 b1 c0 c1 g g2 g3 g4 h1 h2 (by omega) hj.1 hj.2 hz
      · by_cases hz : (q - high) % 65536 = 0
        · rw [show Pk.gap high q = 65536 by unfold Pk.gap; rw [if_pos hz]]
          exact Follow_jump1z high jump q w q0 q1 b0 b1 c0 c1 g g2 g3 g4 h1 (by omega) hj.1 hj.2 hz
        · rw [show Pk.gap high q = (q - high) % 65536 by unfold Pk.gap; rw [if_neg hz]]
          exact Follow_jump1g high jump q w q0 q1 b0 b1 c0 c1 g g2 g3 g4 h1 (by omega) hj.1 hj.2 hz
    · by_cases hz : (q - high) % 65536 = 0
      · rw [show Pk.gap high q = 65536 by unfold Pk.gap; rw [if_pos hz]]
        exact Follow_jump0z high jump q w q0 q1 b0 b1 c0 c1 g g2 g3 g4 (by omega) hj.1 hj.2 hz
      · rw [show Pk.gap high q = (q - high) % 65536 by unfold Pk.gap; rw [if_neg hz]]
        exact Follow_jump0g high jump q w q0 q1 b0 b1 c0 c1 g g2 g3 g4 (by omega) hj.1 hj.2 hz
  · rw [if_neg hj]
    by_cases hq : q = jump
    · have hh : 140737488355328 ≤ high := by omega
      by_cases h1 : 0 ≤ Pk.near high q 65536
      · by_cases h2 : Pk.near high q 65536 ≤ high + 3000
        · exact Follow_no2h high jump q w q0 q1 b0 b1 c0 c1 g g2 g3 g4 h1 h2 (by omega) hq hh
        · exact Follow_no1h high jump q w q0 q1 b0 b1 c0 c1 g g2 g3 g4 h1 (by omega) hq hh
      · exact Follow_no0h high jump q w q0 q1 b0 b1 c0 c1 g g2 g3 g4 (by omega) hq hh
    · by_cases h1 : 0 ≤ Pk.near high q 65536
      · by_cases h2 : Pk.near high q 65536 ≤ high + 3000
        · exact Follow_no2n high jump q w q0 q1 b0 b1 c0 c1 g g2 g3 g4 h1 h2 (by omega) hq
        · exact Follow_no1n high jump q w q0 q1 b0 b1 c0 c1 g g2 g3 g4 h1 (by omega) hq
      · exact Follow_no0n high jump q w q0 q1 b0 b1 c0 c1 g g2 g3 g4 (by omega) hq
end
end Go.Proofs.YtahbecinkciahaaGreat
/- Layer 26: which statistics are valid; small numbers; round trips. -/
namespace Go.Proofs.YtahbecinkciahaaGreat
open Go.RowKit
set_option linter.unusedVariables false
set_option linter.unusedSimpArgs false
theorem ret_bool {a b : Bool} (h : a = b) : Ending.returned (.bool a) = .returned (.bool b) := by rw [h]
section
variable (lo hi : Int) (A : Option Addr) (xs : List Int) (c n : Nat) (w : World)
set_option maxRecDepth 100000 in
set_option maxHeartbeats 800000 in
theorem valid1_any (hn : xs.length = n) (hA : IntsAt w w.heap.size .i64 A xs) (hl : n ≤ 100) :
    Calls Tryz.prog 145 #[.int .i64 lo, .int .i64 hi, .slice A n c] w fun e w' => e = .returned (.bool (Rep.all lo hi xs)) ∧ w = w' := by
  subst hn
  have HA := Lib.hid hA
  clear hA
  go_enter Tryz.func145, Tryz.ntmps145
  go_wp2
  go_loop [11] (fun i => ∃ k : Nat, k ≤ xs.length ∧ i = .int .i64 k ∧ Hid (Rep.all lo hi (xs.take k) = true)) (fun i => xs.length - (intOf i).toNat)
  case atStart => exact ⟨0, Nat.zero_le _, rfl, Lib.hid rfl⟩
  case round =>
    obtain ⟨k, hk, rfl, HK⟩ := hrel
    by_cases hlt : k < xs.length
    · obtain ⟨b, off, rfl, hbB, hcell⟩ := HA.out (by omega)
      have hc := hcell k hlt
      have hst := Rep.all_take lo hi xs k hlt
      rw [HK.out, Bool.true_and] at hst
      have HS := Lib.hid hst
      have HF := Lib.hid (Rep.all_false lo hi xs k hlt)
      clear hcell hst
      have hi0 : (0 : Int) ≤ (k : Int) := by omega
      have hi1 : (k : Int) < (xs.length : Int) := by omega
      generalize xs.getD k 0 = x at *
      by_cases h1 : x < lo
      · have t1 : decide (x < lo) = true := by simpa using h1
        have HB := Lib.hid (HF.out (by simp [Rep.inB]; omega))
        go_wp2
        go_ret
        exact ⟨ret_bool HB.out.symm, rfl⟩
      · have t1 : decide (x < lo) = false := by simpa using h1
        by_cases h2 : hi < x
        · have t2 : decide (hi < x) = true := by simpa using h2
          have HB := Lib.hid (HF.out (by simp [Rep.inB]; omega))
          go_wp2
          go_ret
          exact ⟨ret_bool HB.out.symm, rfl⟩
        · have t2 : decide (hi < x) = false := by simpa using h2
          have hin : Rep.inB lo hi x = true := by rw [Rep.inB_iff]; omega
          have HI := Lib.hid hin
          clear hin
          go_wp2
          go_round
          case rel => exact ⟨k + 1, by omega, by go_num, Lib.hid (by rw [HS.out, HI.out])⟩
          case measure => simp [intOf]; omega
    · obtain rfl : k = xs.length := by omega
      have hf := HK.out
      rw [List.take_length] at hf
      have HF := Lib.hid hf
      clear hf
      go_wp2
      go_ret
      exact ⟨ret_bool HF.out.symm, rfl⟩
end
section
variable (x y z : Int) (w : World)
theorem small_any : Calls Tryz.prog 100 #[.int .i64 x] w fun e w' => e = .returned (.bool (Rep.small x)) ∧ w = w' := by
  have h : Rep.small x = (decide (-281474976710656 ≤ x) && decide (x ≤ 281474976710656)) := rfl
  rw [h]
  cases h1 : decide (-281474976710656 ≤ x) <;> cases h2 : decide (x ≤ 281474976710656)
  all_goals
    clear h
    go_enter Tryz.func100, Tryz.ntmps100
    go_wp2
    go_ret
    exact ⟨rfl, rfl⟩
end
end Go.Proofs.YtahbecinkciahaaGreat
/- Layer 26: which statistics are valid, in the program and in the reference. -/
namespace Go.Proofs.YtahbecinkciahaaGreat
open Go.RowKit
set_option linter.unusedVariables false
set_option linter.unusedSimpArgs false
theorem IntsAt.new_at (w : World) (e : TypeId) (k : IntKind) (zs : List Int) (cs : List Value) (h : cs = zs.map (Value.int k)) (g : Nat) (hg : w.heap.size = g) : IntsAt (w.alloc (.cells cs.toArray e)) (w.alloc (.cells cs.toArray e)).heap.size k (some ⟨g, 0, none⟩) zs := by
  subst hg
  exact IntsAt.new w e k zs cs h
section
variable (s0 : Bool) (sb sh sr sx sy st sj : Int) (w : World)
theorem Rep.okS_bd (h : Rep.okS ⟨s0, sb, sh, sr, sx, sy, st, sj⟩ = true) : -1125899906842624 ≤ sb ∧ sb ≤ 1125899906842624 ∧ -1125899906842624 ≤ sh ∧ sh ≤ 1125899906842624 ∧ -1125899906842624 ≤ st ∧ st ≤ 1125899906842624 ∧ sb ≤ sh ∧ 0 ≤ sr ∧ sr ≤ 1125899906842624 ∧ 0 ≤ sx ∧ sx ≤ 1125899906842624 ∧ 0 ≤ sy ∧ sy ≤ 1125899906842624 ∧ 0 ≤ sj ∧ sj ≤ 72057594037927936 := by
  rw [Rep.okS_iff] at h
  simp only at h
  omega
set_option maxRecDepth 100000 in
set_option maxHeartbeats 800000 in
theorem rep_valid : Calls Tryz.prog 99 #[.agg #[.bool s0, .int .i64 sb, .int .i64 sh, .int .i64 sr, .int .i64 sx, .int .i64 sy, .int .i64 st, .int .i64 sj]] w fun e w' => e = .returned (.bool (Rep.okS ⟨s0, sb, sh, sr, sx, sy, st, sj⟩)) ∧ Below w.heap.size w w' := by
  have h : Rep.okS ⟨s0, sb, sh, sr, sx, sy, st, sj⟩ = (Rep.all (-1125899906842624) 1125899906842624 [sb, sh, st] && decide (sb ≤ sh) && Rep.all 0 1125899906842624 [sr, sx, sy] && Rep.all 0 72057594037927936 [sj]) := rfl
  rw [h]
  clear h
  have k1 := fun A c W h => valid1_any (-1125899906842624) 1125899906842624 A [sb, sh, st] c 3 W rfl h (by omega)
  have k2 := fun A c W h => valid1_any 0 1125899906842624 A [sr, sx, sy] c 3 W rfl h (by omega)
  have k3 := fun A c W h => valid1_any 0 72057594037927936 A [sj] c 1 W rfl h (by omega)
  generalize Rep.all (-1125899906842624) 1125899906842624 [sb, sh, st] = b1 at *
  generalize Rep.all 0 1125899906842624 [sr, sx, sy] = b3 at *
  generalize Rep.all 0 72057594037927936 [sj] = b4 at *
  have K1 := Lib.hid k1
  have K2 := Lib.hid k2
  have K3 := Lib.hid k3
  clear k1 k2 k3
  cases b1
  · go_enter Tryz.func99, Tryz.ntmps99
    go_wp2_with fail
    refine (K1.out _ _ _ (IntsAt.new_at (w.alloc (.cells #[.bool s0, .int .i64 sb, .int .i64 sh, .int .i64 sr, .int .i64 sx, .int .i64 sy, .int .i64 st, .int .i64 sj] 44)) 2 .i64 [sb, sh, st] [.int .i64 sb, .int .i64 sh, .int .i64 st] rfl _ (by rw [size_alloc1]))).mono ?_
    rintro e w1 ⟨rfl, rfl⟩
    go_wp2
    go_ret
    exact ⟨rfl, Bel.push (Bel.push (Bel.refl w) _) _⟩
  · cases hb : decide (sb ≤ sh)
    · go_enter Tryz.func99, Tryz.ntmps99
      go_wp2_with fail
      refine (K1.out _ _ _ (IntsAt.new_at (w.alloc (.cells #[.bool s0, .int .i64 sb, .int .i64 sh, .int .i64 sr, .int .i64 sx, .int .i64 sy, .int .i64 st, .int .i64 sj] 44)) 2 .i64 [sb, sh, st] [.int .i64 sb, .int .i64 sh, .int .i64 st] rfl _ (by rw [size_alloc1]))).mono ?_
      rintro e w1 ⟨rfl, rfl⟩
      go_wp2
      go_ret
      exact ⟨rfl, Bel.push (Bel.push (Bel.refl w) _) _⟩
    · cases b3
      · go_enter Tryz.func99, Tryz.ntmps99
        go_wp2_with fail
        refine (K1.out _ _ _ (IntsAt.new_at (w.alloc (.cells #[.bool s0, .int .i64 sb, .int .i64 sh, .int .i64 sr, .int .i64 sx, .int .i64 sy, .int .i64 st, .int .i64 sj] 44)) 2 .i64 [sb, sh, st] [.int .i64 sb, .int .i64 sh, .int .i64 st] rfl _ (by rw [size_alloc1]))).mono ?_
        rintro e w1 ⟨rfl, rfl⟩
        go_wp2_with fail
        refine (K2.out _ _ _ (IntsAt.new_at ((w.alloc (.cells #[.bool s0, .int .i64 sb, .int .i64 sh, .int .i64 sr, .int .i64 sx, .int .i64 sy, .int .i64 st, .int .i64 sj] 44)).alloc (.cells #[.int .i64 sb, .int .i64 sh, .int .i64 st] 2)) 2 .i64 [sr, sx, sy] [.int .i64 sr, .int .i64 sx, .int .i64 sy] rfl _ (by rw [size_alloc2]))).mono ?_
        rintro e w1 ⟨rfl, rfl⟩
        go_wp2
        go_ret
        exact ⟨rfl, Bel.push (Bel.push (Bel.push (Bel.refl w) _) _) _⟩
      · go_enter Tryz.func99, Tryz.ntmps99
        go_wp2_with fail
        refine (K1.out _ _ _ (IntsAt.new_at (w.alloc (.cells #[.bool s0, .int .i64 sb, .int .i64 sh, .int .i64 sr, .int .i64 sx, .int .i64 sy, .int .i64 st, .int .i64 sj] 44)) 2 .i64 [sb, sh, st] [.int .i64 sb, .int .i64 sh, .int .i64 st] rfl _ (by rw [size_alloc1]))).mono ?_
        rintro e w1 ⟨rfl, rfl⟩
        go_wp2_with fail
        refine (K2.out _ _ _ (IntsAt.new_at ((w.alloc (.cells #[.bool s0, .int .i64 sb, .int .i64 sh, .int .i64 sr, .int .i64 sx, .int .i64 sy, .int .i64 st, .int .i64 sj] 44)).alloc (.cells #[.int .i64 sb, .int .i64 sh, .int .i64 st] 2)) 2 .i64 [sr, sx, sy] [.int .i64 sr, .int .i64 sx, .int .i64 sy] rfl _ (by rw [size_alloc2]))).mono ?_
        rintro e w1 ⟨rfl, rfl⟩
        go_wp2_with fail
        refine (K3.out _ _ _ (IntsAt.new_at (((w.alloc (.cells #[.bool s0, .int .i64 sb, .int .i64 sh, .int .i64 sr, .int .i64 sx, .int .i64 sy, .int .i64 st, .int .i64 sj] 44)).alloc (.cells #[.int .i64 sb, .int .i64 sh, .int .i64 st] 2)).alloc (.cells #[.int .i64 sr, .int .i64 sx, .int .i64 sy] 2)) 2 .i64 [sj] [.int .i64 sj] rfl _ (by rw [size_alloc3]))).mono ?_
        rintro e w1 ⟨rfl, rfl⟩
        go_wp2
        go_ret
        exact ⟨rfl, Bel.push (Bel.push (Bel.push (Bel.push (Bel.refl w) _) _) _) _⟩
end
end Go.Proofs.YtahbecinkciahaaGreat
/- Layer 26: Arrive of the program and of the reference. -/
namespace Go.Proofs.YtahbecinkciahaaGreat
open Go.RowKit
set_option linter.unusedVariables false
set_option linter.unusedSimpArgs false
attribute [local go_sem ↓] run_min_plain run_max_plain
attribute [local go_sem] setCell_drewN alloc_drewN
section
variable (s0 : Bool) (sb sh sr sx sy st sj : Int) (w : World)
variable (q a t : Int)
set_option maxRecDepth 100000 in
set_option maxHeartbeats 12800000 in
theorem Arrive_any : Calls Tryz.prog 45 #[.agg #[.bool s0, .int .i64 sb, .int .i64 sh, .int .i64 sr, .int .i64 sx, .int .i64 sy, .int .i64 st, .int .i64 sj], .int .i64 q, .int .i64 a, .int .i64 t] w fun e w' => e = .returned (.agg (Rep.arrive ⟨s0, sb, sh, sr, sx, sy, st, sj⟩ q a t).row) ∧ Below w.heap.size w w' := by
  obtain ⟨R, hR⟩ : ∃ R, R = Rep.arrive ⟨s0, sb, sh, sr, sx, sy, st, sj⟩ q a t := ⟨_, rfl⟩
  rw [← hR]
  unfold Rep.arrive at hR
  have k0 := fun W => rep_valid s0 sb sh sr sx sy st sj W
  have k1 := fun W => small_any q W
  have k2 := fun W => small_any a W
  have k3 := fun W => small_any t W
  have hbd := Rep.okS_bd s0 sb sh sr sx sy st sj
  have hq := (Rep.inB_iff (-281474976710656) 281474976710656 q).1
  have ha := (Rep.inB_iff (-281474976710656) 281474976710656 a).1
  have ht := (Rep.inB_iff (-281474976710656) 281474976710656 t).1
  have HQ : Hid (Rep.small q = true → -281474976710656 ≤ q ∧ q ≤ 281474976710656) := Lib.hid hq
  have HA : Hid (Rep.small a = true → -281474976710656 ≤ a ∧ a ≤ 281474976710656) := Lib.hid ha
  have HT : Hid (Rep.small t = true → -281474976710656 ≤ t ∧ t ≤ 281474976710656) := Lib.hid ht
  clear hq ha ht
  generalize Rep.okS ⟨s0, sb, sh, sr, sx, sy, st, sj⟩ = bo at *
  generalize Rep.small q = b1 at *
  generalize Rep.small a = b2 at *
  generalize Rep.small t = b3 at *
  have K0 := Lib.hid k0
  have K1 := Lib.hid k1
  have K2 := Lib.hid k2
  have K3 := Lib.hid k3
  have HBD := Lib.hid hbd
  clear k0 k1 k2 k3 hbd
  have fin : ∀ (w1 : World), Below ((w.alloc (.cells #[.bool s0, .int .i64 sb, .int .i64 sh, .int .i64 sr, .int .i64 sx, .int .i64 sy, .int .i64 st, .int .i64 sj] 44)).alloc (.cells #[.bool false, .int .i64 0, .int .i64 0, .int .i64 0, .int .i64 0, .int .i64 0, .int .i64 0, .int .i64 0] 44)).heap.size ((w.alloc (.cells #[.bool s0, .int .i64 sb, .int .i64 sh, .int .i64 sr, .int .i64 sx, .int .i64 sy, .int .i64 st, .int .i64 sj] 44)).alloc (.cells #[.bool false, .int .i64 0, .int .i64 0, .int .i64 0, .int .i64 0, .int .i64 0, .int .i64 0, .int .i64 0] 44)) w1 → Hid (Blk w1 w.heap.size 44 #[.bool s0, .int .i64 sb, .int .i64 sh, .int .i64 sr, .int .i64 sx, .int .i64 sy, .int .i64 st, .int .i64 sj]) ∧ Hid (Blk w1 (w.heap.size + 1) 44 #[.bool false, .int .i64 0, .int .i64 0, .int .i64 0, .int .i64 0, .int .i64 0, .int .i64 0, .int .i64 0]) ∧ Hid (Bel w w1) := fun w1 hb =>
    ⟨Lib.hid (((Blk.new w 44 #[.bool s0, .int .i64 sb, .int .i64 sh, .int .i64 sr, .int .i64 sx, .int .i64 sy, .int .i64 st, .int .i64 sj]).push _).later hb), Lib.hid ((Blk.new1 w _ 44 #[.bool false, .int .i64 0, .int .i64 0, .int .i64 0, .int .i64 0, .int .i64 0, .int .i64 0, .int .i64 0]).later hb), Lib.hid ((((Bel.refl w).push _).push _).later hb)⟩
  cases bo
  · rw [if_pos (by rfl)] at hR
    subst hR
    go_enter Tryz.func45, Tryz.ntmps45
    go_wp2_with fail
    refine (K0.out _).mono ?_
    rintro e w1 ⟨rfl, hb1⟩
    obtain ⟨B0, B1, U⟩ := fin w1 hb1
    clear hb1 fin
    have h10 : w.heap.size + 1 ≠ w.heap.size := by omega
    have h01 : w.heap.size ≠ w.heap.size + 1 := by omega
    have f0 := B0.out.at 0 _ rfl
    have f1 := B0.out.at 1 _ rfl
    have f2 := B0.out.at 2 _ rfl
    have f3 := B0.out.at 3 _ rfl
    have f4 := B0.out.at 4 _ rfl
    have f5 := B0.out.at 5 _ rfl
    have f6 := B0.out.at 6 _ rfl
    have f7 := B0.out.at 7 _ rfl
    have fz := B0.out.frozen
    have r0 := B1.out.at 0 _ rfl
    have r1 := B1.out.at 1 _ rfl
    have r2 := B1.out.at 2 _ rfl
    have r3 := B1.out.at 3 _ rfl
    have r4 := B1.out.at 4 _ rfl
    have r5 := B1.out.at 5 _ rfl
    have r6 := B1.out.at 6 _ rfl
    have r7 := B1.out.at 7 _ rfl
    have rz := B1.out.frozen
    go_wp2
    have BF : Blk (setRow (w.heap.size + 1) w1 0 [.bool false, .int .i64 0, .int .i64 0, .int .i64 0, .int .i64 0, .int .i64 0, .int .i64 0, .int .i64 0]) (w.heap.size + 1) 44 #[.bool false, .int .i64 0, .int .i64 0, .int .i64 0, .int .i64 0, .int .i64 0, .int .i64 0, .int .i64 0] := Blk.setRow B1.out [.bool false, .int .i64 0, .int .i64 0, .int .i64 0, .int .i64 0, .int .i64 0, .int .i64 0, .int .i64 0] rfl
    have UF : Below w.heap.size w (setRow (w.heap.size + 1) w1 0 [.bool false, .int .i64 0, .int .i64 0, .int .i64 0, .int .i64 0, .int .i64 0, .int .i64 0, .int .i64 0]) := below_setRow (by omega) [.bool false, .int .i64 0, .int .i64 0, .int .i64 0, .int .i64 0, .int .i64 0, .int .i64 0, .int .i64 0] _ 0 U.out
    simp only [setRow] at BF UF
    exact bodyPost_ret (v := .agg #[.bool false, .int .i64 0, .int .i64 0, .int .i64 0, .int .i64 0, .int .i64 0, .int .i64 0, .int .i64 0]) (res_c Tryz.results45 rfl (run_loadVar_row (P := Tryz.prog) _ _ _ _ _ _ _ BF Tryz.underlying44 rfl (by kernel_rfl))) rfl ⟨rfl, UF⟩
  · cases b1
    · rw [if_pos (by rfl)] at hR
      subst hR
      go_enter Tryz.func45, Tryz.ntmps45
      go_wp2_with fail
      refine (K0.out _).mono ?_
      rintro e w1 ⟨rfl, hb1⟩
      obtain ⟨B0, B1, U⟩ := fin w1 hb1
      clear hb1 fin
      have h10 : w.heap.size + 1 ≠ w.heap.size := by omega
      have h01 : w.heap.size ≠ w.heap.size + 1 := by omega
      have f0 := B0.out.at 0 _ rfl
      have f1 := B0.out.at 1 _ rfl
      have f2 := B0.out.at 2 _ rfl
      have f3 := B0.out.at 3 _ rfl
      have f4 := B0.out.at 4 _ rfl
      have f5 := B0.out.at 5 _ rfl
      have f6 := B0.out.at 6 _ rfl
      have f7 := B0.out.at 7 _ rfl
      have fz := B0.out.frozen
      have r0 := B1.out.at 0 _ rfl
      have r1 := B1.out.at 1 _ rfl
      have r2 := B1.out.at 2 _ rfl
      have r3 := B1.out.at 3 _ rfl
      have r4 := B1.out.at 4 _ rfl
      have r5 := B1.out.at 5 _ rfl
      have r6 := B1.out.at 6 _ rfl
      have r7 := B1.out.at 7 _ rfl
      have rz := B1.out.frozen
      go_wp2_with fail
      refine (K1.out _).mono ?_
      rintro e w1 ⟨rfl, rfl⟩
      go_wp2
      have BF : Blk (setRow (w.heap.size + 1) w1 0 [.bool false, .int .i64 0, .int .i64 0, .int .i64 0, .int .i64 0, .int .i64 0, .int .i64 0, .int .i64 0]) (w.heap.size + 1) 44 #[.bool false, .int .i64 0, .int .i64 0, .int .i64 0, .int .i64 0, .int .i64 0, .int .i64 0, .int .i64 0] := Blk.setRow B1.out [.bool false, .int .i64 0, .int .i64 0, .int .i64 0, .int .i64 0, .int .i64 0, .int .i64 0, .int .i64 0] rfl
      have UF : Below w.heap.size w (setRow (w.heap.size + 1) w1 0 [.bool false, .int .i64 0, .int .i64 0, .int .i64 0, .int .i64 0, .int .i64 0, .int .i64 0, .int .i64 0]) := below_setRow (by omega) [.bool false, .int .i64 0, .int .i64 0, .int .i64 0, .int .i64 0, .int .i64 0, .int .i64 0, .int .i64 0] _ 0 U.out
      simp only [setRow] at BF UF
      exact bodyPost_ret (v := .agg #[.bool false, .int .i64 0, .int .i64 0, .int .i64 0, .int .i64 0, .int .i64 0, .int .i64 0, .int .i64 0]) (res_c Tryz.results45 rfl (run_loadVar_row (P := Tryz.prog) _ _ _ _ _ _ _ BF Tryz.underlying44 rfl (by kernel_rfl))) rfl ⟨rfl, UF⟩
    · cases b2
      · rw [if_pos (by rfl)] at hR
        subst hR
        go_enter Tryz.func45, Tryz.ntmps45
        go_wp2_with fail
        refine (K0.out _).mono ?_
        rintro e w1 ⟨rfl, hb1⟩
        obtain ⟨B0, B1, U⟩ := fin w1 hb1
        clear hb1 fin
        have h10 : w.heap.size + 1 ≠ w.heap.size := by omega
        have h01 : w.heap.size ≠ w.heap.size + 1 := by omega
        have f0 := B0.out.at 0 _ rfl
        have f1 := B0.out.at 1 _ rfl
        have f2 := B0.out.at 2 _ rfl
        have f3 := B0.out.at 3 _ rfl
        have f4 := B0.out.at 4 _ rfl
        have f5 := B0.out.at 5 _ rfl
        have f6 := B0.out.at 6 _ rfl
        have f7 := B0.out.at 7 _ rfl
        have fz := B0.out.frozen
        have r0 := B1.out.at 0 _ rfl
        have r1 := B1.out.at 1 _ rfl
        have r2 := B1.out.at 2 _ rfl
        have r3 := B1.out.at 3 _ rfl
        have r4 := B1.out.at 4 _ rfl
        have r5 := B1.out.at 5 _ rfl
        have r6 := B1.out.at 6 _ rfl
        have r7 := B1.out.at 7 _ rfl
        have rz := B1.out.frozen
        go_wp2_with fail
        refine (K1.out _).mono ?_
        rintro e w1 ⟨rfl, rfl⟩
        go_wp2_with fail
        refine (K2.out _).mono ?_
        rintro e w1 ⟨rfl, rfl⟩
        go_wp2
        have BF : Blk (setRow (w.heap.size + 1) w1 0 [.bool false, .int .i64 0, .int .i64 0, .int .i64 0, .int .i64 0, .int .i64 0, .int .i64 0, .int .i64 0]) (w.heap.size + 1) 44 #[.bool false, .int .i64 0, .int .i64 0, .int .i64 0, .int .i64 0, .int .i64 0, .int .i64 0, .int .i64 0] := Blk.setRow B1.out [.bool false, .int .i64 0, .int .i64 0, .int .i64 0, .int .i64 0, .int .i64 0, .int .i64 0, .int .i64 0] rfl
        have UF : Below w.heap.size w (setRow (w.heap.size + 1) w1 0 [.bool false, .int .i64 0, .int .i64 0, .int .i64 0, .int .i64 0, .int .i64 0, .int .i64 0, .int .i64 0]) := below_setRow (by omega) [.bool false, .int .i64 0, .int .i64 0, .int .i64 0, .int .i64 0, .int .i64 0, .int .i64 0, .int .i64 0] _ 0 U.out
        simp only [setRow] at BF UF
        exact bodyPost_ret (v := .agg #[.bool false, .int .i64 0, .int .i64 0, .int .i64 0, .int .i64 0, .int .i64 0, .int .i64 0, .int .i64 0]) (res_c Tryz.results45 rfl (run_loadVar_row (P := Tryz.prog) _ _ _ _ _ _ _ BF Tryz.underlying44 rfl (by kernel_rfl))) rfl ⟨rfl, UF⟩
      · cases b3
        · rw [if_pos (by rfl)] at hR
          subst hR
          go_enter Tryz.func45, Tryz.ntmps45
          go_wp2_with fail
          refine (K0.out _).mono ?_
          rintro e w1 ⟨rfl, hb1⟩
          obtain ⟨B0, B1, U⟩ := fin w1 hb1
          clear hb1 fin
          have h10 : w.heap.size + 1 ≠ w.heap.size := by omega
          have h01 : w.heap.size ≠ w.heap.size + 1 := by omega
          have f0 := B0.out.at 0 _ rfl
          have f1 := B0.out.at 1 _ rfl
          have f2 := B0.out.at 2 _ rfl
          have f3 := B0.out.at 3 _ rfl
          have f4 := B0.out.at 4 _ rfl
          have f5 := B0.out.at 5 _ rfl
          have f6 := B0.out.at 6 _ rfl
          have f7 := B0.out.at 7 _ rfl
          have fz := B0.out.frozen
          have r0 := B1.out.at 0 _ rfl
          have r1 := B1.out.at 1 _ rfl
          have r2 := B1.out.at 2 _ rfl
          have r3 := B1.out.at 3 _ rfl
          have r4 := B1.out.at 4 _ rfl
          have r5 := B1.out.at 5 _ rfl
          have r6 := B1.out.at 6 _ rfl
          have r7 := B1.out.at 7 _ rfl
          have rz := B1.out.frozen
          go_wp2_with fail
          refine (K1.out _).mono ?_
          rintro e w1 ⟨rfl, rfl⟩
          go_wp2_with fail
          refine (K2.out _).mono ?_
          rintro e w1 ⟨rfl, rfl⟩
          go_wp2_with fail
          refine (K3.out _).mono ?_
          rintro e w1 ⟨rfl, rfl⟩
          go_wp2
          have BF : Blk (setRow (w.heap.size + 1) w1 0 [.bool false, .int .i64 0, .int .i64 0, .int .i64 0, .int .i64 0, .int .i64 0, .int .i64 0, .int .i64 0]) (w.heap.size + 1) 44 #[.bool false, .int .i64 0, .int .i64 0, .int .i64 0, .int .i64 0, .int .i64 0, .int .i64 0, .int .i64 0] := Blk.setRow B1.out [.bool false, .int .i64 0, .int .i64 0, .int .i64 0, .int .i64 0, .int .i64 0, .int .i64 0, .int .i64 0] rfl
          have UF : Below w.heap.size w (setRow (w.heap.size + 1) w1 0 [.bool false, .int .i64 0, .int .i64 0, .int .i64 0, .int .i64 0, .int .i64 0, .int .i64 0, .int .i64 0]) := below_setRow (by omega) [.bool false, .int .i64 0, .int .i64 0, .int .i64 0, .int .i64 0, .int .i64 0, .int .i64 0, .int .i64 0] _ 0 U.out
          simp only [setRow] at BF UF
          exact bodyPost_ret (v := .agg #[.bool false, .int .i64 0, .int .i64 0, .int .i64 0, .int .i64 0, .int .i64 0, .int .i64 0, .int .i64 0]) (res_c Tryz.results45 rfl (run_loadVar_row (P := Tryz.prog) _ _ _ _ _ _ _ BF Tryz.underlying44 rfl (by kernel_rfl))) rfl ⟨rfl, UF⟩
        · rw [if_neg (by simp)] at hR
          obtain ⟨c1, c2, c3, c4, c5, c6, c7, c8, c9, c10, c11, c12, c13, c14, c15⟩ := HBD.out rfl
          obtain ⟨q0, q1⟩ := HQ.out rfl
          obtain ⟨a0, a1⟩ := HA.out rfl
          obtain ⟨t0, t1⟩ := HT.out rfl
          cases s0
          · rw [if_pos rfl] at hR
            subst hR
            go_enter Tryz.func45, Tryz.ntmps45
            go_wp2_with fail
            refine (K0.out _).mono ?_
            rintro e w1 ⟨rfl, hb1⟩
            obtain ⟨B0, B1, U⟩ := fin w1 hb1
            clear hb1 fin
            have h10 : w.heap.size + 1 ≠ w.heap.size := by omega
            have h01 : w.heap.size ≠ w.heap.size + 1 := by omega
            have f0 := B0.out.at 0 _ rfl
            have f1 := B0.out.at 1 _ rfl
            have f2 := B0.out.at 2 _ rfl
            have f3 := B0.out.at 3 _ rfl
            have f4 := B0.out.at 4 _ rfl
            have f5 := B0.out.at 5 _ rfl
            have f6 := B0.out.at 6 _ rfl
            have f7 := B0.out.at 7 _ rfl
            have fz := B0.out.frozen
            have r0 := B1.out.at 0 _ rfl
            have r1 := B1.out.at 1 _ rfl
            have r2 := B1.out.at 2 _ rfl
            have r3 := B1.out.at 3 _ rfl
            have r4 := B1.out.at 4 _ rfl
            have r5 := B1.out.at 5 _ rfl
            have r6 := B1.out.at 6 _ rfl
            have r7 := B1.out.at 7 _ rfl
            have rz := B1.out.frozen
            go_wp2_with fail
            refine (K1.out _).mono ?_
            rintro e w1 ⟨rfl, rfl⟩
            go_wp2_with fail
            refine (K2.out _).mono ?_
            rintro e w1 ⟨rfl, rfl⟩
            go_wp2_with fail
            refine (K3.out _).mono ?_
            rintro e w1 ⟨rfl, rfl⟩
            go_wp2
            have BF : Blk (setRow (w.heap.size + 1) w1 0 [.bool true, .int .i64 q, .int .i64 q, .int .i64 1, .int .i64 0, .int .i64 0, .int .i64 (a - t), .int .i64 0]) (w.heap.size + 1) 44 #[.bool true, .int .i64 q, .int .i64 q, .int .i64 1, .int .i64 0, .int .i64 0, .int .i64 (a - t), .int .i64 0] := Blk.setRow B1.out [.bool true, .int .i64 q, .int .i64 q, .int .i64 1, .int .i64 0, .int .i64 0, .int .i64 (a - t), .int .i64 0] rfl
            have UF : Below w.heap.size w (setRow (w.heap.size + 1) w1 0 [.bool true, .int .i64 q, .int .i64 q, .int .i64 1, .int .i64 0, .int .i64 0, .int .i64 (a - t), .int .i64 0]) := below_setRow (by omega) [.bool true, .int .i64 q, .int .i64 q, .int .i64 1, .int .i64 0, .int .i64 0, .int .i64 (a - t), .int .i64 0] _ 0 U.out
            simp only [setRow] at BF UF
            exact bodyPost_ret (v := .agg #[.bool true, .int .i64 q, .int .i64 q, .int .i64 1, .int .i64 0, .int .i64 0, .int .i64 (a - t), .int .i64 0]) (res_c Tryz.results45 rfl (run_loadVar_row (P := Tryz.prog) _ _ _ _ _ _ _ BF Tryz.underlying44 rfl (by kernel_rfl))) rfl ⟨rfl, UF⟩
          · rw [if_neg (by simp)] at hR
            obtain ⟨u, hu⟩ : ∃ u, u = a - t - st := ⟨_, rfl⟩
            rw [← hu] at hR
            unfold Rep.absI at hR
            by_cases hneg : u < 0
            · rw [if_pos hneg, hu] at hR
              subst hR
              have hn1 : a - t - st < 0 := by omega
              clear hu hneg
              go_enter Tryz.func45, Tryz.ntmps45
              go_wp2_with fail
              refine (K0.out _).mono ?_
              rintro e w1 ⟨rfl, hb1⟩
              obtain ⟨B0, B1, U⟩ := fin w1 hb1
              clear hb1 fin
              have h10 : w.heap.size + 1 ≠ w.heap.size := by omega
              have h01 : w.heap.size ≠ w.heap.size + 1 := by omega
              have f0 := B0.out.at 0 _ rfl
              have f1 := B0.out.at 1 _ rfl
              have f2 := B0.out.at 2 _ rfl
              have f3 := B0.out.at 3 _ rfl
              have f4 := B0.out.at 4 _ rfl
              have f5 := B0.out.at 5 _ rfl
              have f6 := B0.out.at 6 _ rfl
              have f7 := B0.out.at 7 _ rfl
              have fz := B0.out.frozen
              have r0 := B1.out.at 0 _ rfl
              have r1 := B1.out.at 1 _ rfl
              have r2 := B1.out.at 2 _ rfl
              have r3 := B1.out.at 3 _ rfl
              have r4 := B1.out.at 4 _ rfl
              have r5 := B1.out.at 5 _ rfl
              have r6 := B1.out.at 6 _ rfl
              have r7 := B1.out.at 7 _ rfl
              have rz := B1.out.frozen
              go_wp2_with fail
              refine (K1.out _).mono ?_
              rintro e w1 ⟨rfl, rfl⟩
              go_wp2_with fail
              refine (K2.out _).mono ?_
              rintro e w1 ⟨rfl, rfl⟩
              go_wp2_with fail
              refine (K3.out _).mono ?_
              rintro e w1 ⟨rfl, rfl⟩
              go_wp2
              have BF : Blk (setRow (w.heap.size + 1) (((((w1.setCell ⟨w.heap.size, 1, none⟩ (.int .i64 (min sb q))).setCell ⟨w.heap.size, 2, none⟩ (.int .i64 (max sh q))).setCell ⟨w.heap.size, 3, none⟩ (.int .i64 (sr + 1))).setCell ⟨w.heap.size, 7, none⟩ (.int .i64 (sj + (-(a - t - st) - (sj + 8) / 16)))).setCell ⟨w.heap.size, 6, none⟩ (.int .i64 (a - t))) 0 [.bool true, .int .i64 (min sb q), .int .i64 (max sh q), .int .i64 (sr + 1), .int .i64 sx, .int .i64 sy, .int .i64 (a - t), .int .i64 (sj + (-(a - t - st) - (sj + 8) / 16))]) (w.heap.size + 1) 44 #[.bool true, .int .i64 (min sb q), .int .i64 (max sh q), .int .i64 (sr + 1), .int .i64 sx, .int .i64 sy, .int .i64 (a - t), .int .i64 (sj + (-(a - t - st) - (sj + 8) / 16))] := Blk.setRow (((((B1.out.far h10 (.int .i64 (min sb q))).far h10 (.int .i64 (max sh q))).far h10 (.int .i64 (sr + 1))).far h10 (.int .i64 (sj + (-(a - t - st) - (sj + 8) / 16)))).far h10 (.int .i64 (a - t))) [.bool true, .int .i64 (min sb q), .int .i64 (max sh q), .int .i64 (sr + 1), .int .i64 sx, .int .i64 sy, .int .i64 (a - t), .int .i64 (sj + (-(a - t - st) - (sj + 8) / 16))] rfl
              have UF : Below w.heap.size w (setRow (w.heap.size + 1) (((((w1.setCell ⟨w.heap.size, 1, none⟩ (.int .i64 (min sb q))).setCell ⟨w.heap.size, 2, none⟩ (.int .i64 (max sh q))).setCell ⟨w.heap.size, 3, none⟩ (.int .i64 (sr + 1))).setCell ⟨w.heap.size, 7, none⟩ (.int .i64 (sj + (-(a - t - st) - (sj + 8) / 16)))).setCell ⟨w.heap.size, 6, none⟩ (.int .i64 (a - t))) 0 [.bool true, .int .i64 (min sb q), .int .i64 (max sh q), .int .i64 (sr + 1), .int .i64 sx, .int .i64 sy, .int .i64 (a - t), .int .i64 (sj + (-(a - t - st) - (sj + 8) / 16))]) := below_setRow (by omega) [.bool true, .int .i64 (min sb q), .int .i64 (max sh q), .int .i64 (sr + 1), .int .i64 sx, .int .i64 sy, .int .i64 (a - t), .int .i64 (sj + (-(a - t - st) - (sj + 8) / 16))] _ 0 (Below.setCell (Below.setCell (Below.setCell (Below.setCell (Below.setCell U.out (by exact Nat.le_refl _) (.int .i64 (min sb q))) (by exact Nat.le_refl _) (.int .i64 (max sh q))) (by exact Nat.le_refl _) (.int .i64 (sr + 1))) (by exact Nat.le_refl _) (.int .i64 (sj + (-(a - t - st) - (sj + 8) / 16)))) (by exact Nat.le_refl _) (.int .i64 (a - t)))
              simp only [setRow] at BF UF
              exact bodyPost_ret (v := .agg #[.bool true, .int .i64 (min sb q), .int .i64 (max sh q), .int .i64 (sr + 1), .int .i64 sx, .int .i64 sy, .int .i64 (a - t), .int .i64 (sj + (-(a - t - st) - (sj + 8) / 16))]) (res_c Tryz.results45 rfl (run_loadVar_row (P := Tryz.prog) _ _ _ _ _ _ _ BF Tryz.underlying44 rfl (by kernel_rfl))) rfl ⟨rfl, UF⟩
            · rw [if_neg hneg, hu] at hR
              subst hR
              have hn1 : 0 ≤ a - t - st := by omega
              clear hu hneg
              go_enter Tryz.func45, Tryz.ntmps45
              go_wp2_with fail
              refine (K0.out _).mono ?_
              rintro e w1 ⟨rfl, hb1⟩
              obtain ⟨B0, B1, U⟩ := fin w1 hb1
              clear hb1 fin
              have h10 : w.heap.size + 1 ≠ w.heap.size := by omega
              have h01 : w.heap.size ≠ w.heap.size + 1 := by omega
              have f0 := B0.out.at 0 _ rfl
              have f1 := B0.out.at 1 _ rfl
              have f2 := B0.out.at 2 _ rfl
              have f3 := B0.out.at 3 _ rfl
              have f4 := B0.out.at 4 _ rfl
              have f5 := B0.out.at 5 _ rfl
              have f6 := B0.out.at 6 _ rfl
              have f7 := B0.out.at 7 _ rfl
              have fz := B0.out.frozen
              have r0 := B1.out.at 0 _ rfl
              have r1 := B1.out.at 1 _ rfl
              have r2 := B1.out.at 2 _ rfl
              have r3 := B1.out.at 3 _ rfl
              have r4 := B1.out.at 4 _ rfl
              have r5 := B1.out.at 5 _ rfl
              have r6 := B1.out.at 6 _ rfl
              have r7 := B1.out.at 7 _ rfl
              have rz := B1.out.frozen
              go_wp2_with fail
              refine (K1.out _).mono ?_
              rintro e w1 ⟨rfl, rfl⟩
              go_wp2_with fail
              refine (K2.out _).mono ?_
              rintro e w1 ⟨rfl, rfl⟩
              go_wp2_with fail
              refine (K3.out _).mono ?_
              rintro e w1 ⟨rfl, rfl⟩
              go_wp2
              have BF : Blk (setRow (w.heap.size + 1) (((((w1.setCell ⟨w.heap.size, 1, none⟩ (.int .i64 (min sb q))).setCell ⟨w.heap.size, 2, none⟩ (.int .i64 (max sh q))).setCell ⟨w.heap.size, 3, none⟩ (.int .i64 (sr + 1))).setCell ⟨w.heap.size, 7, none⟩ (.int .i64 (sj + ((a - t - st) - (sj + 8) / 16)))).setCell ⟨w.heap.size, 6, none⟩ (.int .i64 (a - t))) 0 [.bool true, .int .i64 (min sb q), .int .i64 (max sh q), .int .i64 (sr + 1), .int .i64 sx, .int .i64 sy, .int .i64 (a - t), .int .i64 (sj + ((a - t - st) - (sj + 8) / 16))]) (w.heap.size + 1) 44 #[.bool true, .int .i64 (min sb q), .int .i64 (max sh q), .int .i64 (sr + 1), .int .i64 sx, .int .i64 sy, .int .i64 (a - t), .int .i64 (sj + ((a - t - st) - (sj + 8) / 16))] := Blk.setRow (((((B1.out.far h10 (.int .i64 (min sb q))).far h10 (.int .i64 (max sh q))).far h10 (.int .i64 (sr + 1))).far h10 (.int .i64 (sj + ((a - t - st) - (sj + 8) / 16)))).far h10 (.int .i64 (a - t))) [.bool true, .int .i64 (min sb q), .int .i64 (max sh q), .int .i64 (sr + 1), .int .i64 sx, .int .i64 sy, .int .i64 (a - t), .int .i64 (sj + ((a - t - st) - (sj + 8) / 16))] rfl
              have UF : Below w.heap.size w (setRow (w.heap.size + 1) (((((w1.setCell ⟨w.heap.size, 1, none⟩ (.int .i64 (min sb q))).setCell ⟨w.heap.size, 2, none⟩ (.int .i64 (max sh q))).setCell ⟨w.heap.size, 3, none⟩ (.int .i64 (sr + 1))).setCell ⟨w.heap.size, 7, none⟩ (.int .i64 (sj + ((a - t - st) - (sj + 8) / 16)))).setCell ⟨w.heap.size, 6, none⟩ (.int .i64 (a - t))) 0 [.bool true, .int .i64 (min sb q), .int .i64 (max sh q), .int .i64 (sr + 1), .int .i64 sx, .int .i64 sy, .int .i64 (a - t), .int .i64 (sj + ((a - t - st) - (sj + 8) / 16))]) := below_setRow (by omega) [.bool true, .int .i64 (min sb q), .int .i64 (max sh q), .int .i64 (sr + 1), .int .i64 sx, .int .i64 sy, .int .i64 (a - t), .int .i64 (sj + ((a - t - st) - (sj + 8) / 16))] _ 0 (Below.setCell (Below.setCell (Below.setCell (Below.setCell (Below.setCell U.out (by exact Nat.le_refl _) (.int .i64 (min sb q))) (by exact Nat.le_refl _) (.int .i64 (max sh q))) (by exact Nat.le_refl _) (.int .i64 (sr + 1))) (by exact Nat.le_refl _) (.int .i64 (sj + ((a - t - st) - (sj + 8) / 16)))) (by exact Nat.le_refl _) (.int .i64 (a - t)))
              simp only [setRow] at BF UF
              exact bodyPost_ret (v := .agg #[.bool true, .int .i64 (min sb q), .int .i64 (max sh q), .int .i64 (sr + 1), .int .i64 sx, .int .i64 sy, .int .i64 (a - t), .int .i64 (sj + ((a - t - st) - (sj + 8) / 16))]) (res_c Tryz.results45 rfl (run_loadVar_row (P := Tryz.prog) _ _ _ _ _ _ _ BF Tryz.underlying44 rfl (by kernel_rfl))) rfl ⟨rfl, UF⟩
end
end Go.Proofs.YtahbecinkciahaaGreat

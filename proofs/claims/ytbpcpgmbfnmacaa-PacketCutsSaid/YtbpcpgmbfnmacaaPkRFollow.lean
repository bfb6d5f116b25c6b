/- Layer 25: Follow of the reference. -/
import Derived.Test.YtbpcpgmbfnmacaaPkSmall
import Derived.Test.YtbpcpgmbfnmacaaBlk
import Derived.Laws.Rows
import Derived.RegionTactic
import Derived.Deep.LoopGhost
namespace Go.Proofs.Ytbpcpgmbfnmacaa
open Go.RowKit
set_option linter.unusedVariables false
set_option linter.unusedSimpArgs false
attribute [local go_sem ↓] run_min_plain run_max_plain
attribute [local go_sem] setCell_drewN alloc_drewN
section
variable (high jump q : Int) (w : World)
set_option maxRecDepth 100000 in
theorem rValid_bad0 (on : Bool) (h : high < 0) : Calls Try.prog 36 #[.agg #[.bool on, .int .i64 high, .int .i64 jump]] w fun e w' => e = .returned (.bool false) ∧ Below w.heap.size w w' := by
  go_enter Try.func36, Try.ntmps36
  go_wp2_with fail
  go_ret
  exact ⟨by first | rfl | simp [g, g2, g3, g4] | simp [*], Bel.push (Bel.refl w) _⟩
set_option maxRecDepth 100000 in
theorem rValid_bad1 (on : Bool) (g : 0 ≤ high) (h : 281474976710656 < high) : Calls Try.prog 36 #[.agg #[.bool on, .int .i64 high, .int .i64 jump]] w fun e w' => e = .returned (.bool false) ∧ Below w.heap.size w w' := by
  go_enter Try.func36, Try.ntmps36
  go_wp2_with fail
  go_ret
  exact ⟨by first | rfl | simp [g, g2, g3, g4] | simp [*], Bel.push (Bel.refl w) _⟩
set_option maxRecDepth 100000 in
theorem rValid_bad2 (on : Bool) (g : 0 ≤ high) (g2 : high ≤ 281474976710656) (h : jump < -1) : Calls Try.prog 36 #[.agg #[.bool on, .int .i64 high, .int .i64 jump]] w fun e w' => e = .returned (.bool false) ∧ Below w.heap.size w w' := by
  go_enter Try.func36, Try.ntmps36
  go_wp2_with fail
  go_ret
  exact ⟨by first | rfl | simp [g, g2, g3, g4] | simp [*], Bel.push (Bel.refl w) _⟩
set_option maxRecDepth 100000 in
theorem rValid_bad3 (on : Bool) (g : 0 ≤ high) (g2 : high ≤ 281474976710656) (g3 : -1 ≤ jump) (h : 65535 < jump) : Calls Try.prog 36 #[.agg #[.bool on, .int .i64 high, .int .i64 jump]] w fun e w' => e = .returned (.bool false) ∧ Below w.heap.size w w' := by
  go_enter Try.func36, Try.ntmps36
  go_wp2_with fail
  go_ret
  exact ⟨by first | rfl | simp [g, g2, g3, g4] | simp [*], Bel.push (Bel.refl w) _⟩
set_option maxRecDepth 100000 in
theorem rValid_ok (on : Bool) (g : 0 ≤ high) (g2 : high ≤ 281474976710656) (g3 : -1 ≤ jump) (g4 : jump ≤ 65535) : Calls Try.prog 36 #[.agg #[.bool on, .int .i64 high, .int .i64 jump]] w fun e w' => e = .returned (.bool true) ∧ Below w.heap.size w w' := by
  go_enter Try.func36, Try.ntmps36
  go_wp2_with fail
  go_ret
  exact ⟨by first | rfl | simp [g, g2, g3, g4] | simp [*], Bel.push (Bel.refl w) _⟩
set_option maxRecDepth 100000 in
theorem rValid_no (on : Bool) (h : ¬(0 ≤ high ∧ high ≤ 281474976710656 ∧ -1 ≤ jump ∧ jump ≤ 65535)) : Calls Try.prog 36 #[.agg #[.bool on, .int .i64 high, .int .i64 jump]] w fun e w' => e = .returned (.bool false) ∧ Below w.heap.size w w' := by
  by_cases h1 : high < 0
  · exact rValid_bad0 high jump w on h1
  by_cases h2 : 281474976710656 < high
  · exact rValid_bad1 high jump w on (by omega) h2
  by_cases h3 : jump < -1
  · exact rValid_bad2 high jump w on (by omega) (by omega) h3
  · exact rValid_bad3 high jump w on (by omega) (by omega) (by omega) (by omega)
set_option maxRecDepth 100000 in
set_option maxHeartbeats 1600000 in
theorem rFollow_bad (q0 : 0 ≤ q) (q1 : q ≤ 65535) (b0 : -9223372036854775808 ≤ high) (b1 : high ≤ 9223372036854775807) (c0 : -9223372036854775808 ≤ jump) (c1 : jump ≤ 9223372036854775807) (on : Bool) (h : ¬(0 ≤ high ∧ high ≤ 281474976710656 ∧ -1 ≤ jump ∧ jump ≤ 65535)) : Calls Try.prog 19 #[.agg #[.bool on, .int .i64 high, .int .i64 jump], .int .u16 q] w fun e w' => e = .returned (.tuple #[.agg #[.bool false, .int .i64 0, .int .i64 0], .int .i64 0, .bool false]) ∧ Bel w w' := by
  have kv := fun W => rValid_no high jump W on h
  have KV := Lib.hid kv
  clear kv
  go_enter Try.func19, Try.ntmps19
  have U := Lib.hid (Bel.push (Bel.push (Bel.refl w) (.cells #[.bool on, .int .i64 high, .int .i64 jump] 40)) (.cells #[.bool false, .int .i64 0, .int .i64 0] 40))
  have T := Lib.hid ((Blk.new w 40 #[.bool on, .int .i64 high, .int .i64 jump]).push (.cells #[.bool false, .int .i64 0, .int .i64 0] 40))
  have B := Lib.hid (Blk.new1 w (.cells #[.bool on, .int .i64 high, .int .i64 jump] 40) 40 #[.bool false, .int .i64 0, .int .i64 0])
  go_wp2_with fail
  refine (KV.out _).mono ?_
  rintro e v ⟨rfl, hb⟩
  have hb0 := Lib.hid hb
  clear hb
  replace U := Lib.hid (U.out.later hb0.out)
  replace T := Lib.hid (T.out.later hb0.out)
  replace B := Lib.hid (B.out.later hb0.out)
  clear hb0 KV
  have t0 := T.out.at 0 _ rfl
  have t1 := T.out.at 1 _ rfl
  have t2 := T.out.at 2 _ rfl
  have tz := T.out.frozen
  have r0 := B.out.at 0 _ rfl
  have r1 := B.out.at 1 _ rfl
  have r2 := B.out.at 2 _ rfl
  have rz := B.out.frozen
  have hn10 : w.heap.size + 1 ≠ w.heap.size := by omega
  have hn01 : w.heap.size ≠ w.heap.size + 1 := by omega
  go_wp2_with fail
  have BF := Blk.setRow B.out [.bool false, .int .i64 0, .int .i64 0] rfl
  have UF := below_setRow (g := w.heap.size + 1) (by omega) [.bool false, .int .i64 0, .int .i64 0] _ 0 U.out
  simp only [setRow, Nat.zero_add, Nat.reduceAdd] at BF UF
  exact bodyPost_ret (v := .tuple #[.agg #[.bool false, .int .i64 0, .int .i64 0], .int .i64 0, .bool false]) (res_ctt Try.results19 rfl (run_loadVar_row (P := Try.prog) _ _ _ _ _ _ _ BF Try.underlying40 rfl (by kernel_rfl)) rfl rfl) rfl ⟨rfl, UF⟩
set_option maxRecDepth 100000 in
set_option maxHeartbeats 1600000 in
theorem rFollow_off (q0 : 0 ≤ q) (q1 : q ≤ 65535) (b0 : -9223372036854775808 ≤ high) (b1 : high ≤ 9223372036854775807) (c0 : -9223372036854775808 ≤ jump) (c1 : jump ≤ 9223372036854775807) (g : 0 ≤ high) (g2 : high ≤ 281474976710656) (g3 : -1 ≤ jump) (g4 : jump ≤ 65535) : Calls Try.prog 19 #[.agg #[.bool false, .int .i64 high, .int .i64 jump], .int .u16 q] w fun e w' => e = .returned (.tuple #[.agg #[.bool true, .int .i64 q, .int .i64 (-1)], .int .i64 q, .bool true]) ∧ Bel w w' := by
  have kv := fun W => rValid_ok high jump W false g g2 g3 g4
  have KV := Lib.hid kv
  clear kv
  go_enter Try.func19, Try.ntmps19
  have U := Lib.hid (Bel.push (Bel.push (Bel.refl w) (.cells #[.bool false, .int .i64 high, .int .i64 jump] 40)) (.cells #[.bool false, .int .i64 0, .int .i64 0] 40))
  have T := Lib.hid ((Blk.new w 40 #[.bool false, .int .i64 high, .int .i64 jump]).push (.cells #[.bool false, .int .i64 0, .int .i64 0] 40))
  have B := Lib.hid (Blk.new1 w (.cells #[.bool false, .int .i64 high, .int .i64 jump] 40) 40 #[.bool false, .int .i64 0, .int .i64 0])
  go_wp2_with fail
  refine (KV.out _).mono ?_
  rintro e v ⟨rfl, hb⟩
  have hb0 := Lib.hid hb
  clear hb
  replace U := Lib.hid (U.out.later hb0.out)
  replace T := Lib.hid (T.out.later hb0.out)
  replace B := Lib.hid (B.out.later hb0.out)
  clear hb0 KV
  have t0 := T.out.at 0 _ rfl
  have t1 := T.out.at 1 _ rfl
  have t2 := T.out.at 2 _ rfl
  have tz := T.out.frozen
  have r0 := B.out.at 0 _ rfl
  have r1 := B.out.at 1 _ rfl
  have r2 := B.out.at 2 _ rfl
  have rz := B.out.frozen
  have hn10 : w.heap.size + 1 ≠ w.heap.size := by omega
  have hn01 : w.heap.size ≠ w.heap.size + 1 := by omega
  go_wp2_with fail
  have BF := Blk.setRow B.out [.bool true, .int .i64 q, .int .i64 (-1)] rfl
  have UF := below_setRow (g := w.heap.size + 1) (by omega) [.bool true, .int .i64 q, .int .i64 (-1)] _ 0 U.out
  simp only [setRow, Nat.zero_add, Nat.reduceAdd] at BF UF
  exact bodyPost_ret (v := .tuple #[.agg #[.bool true, .int .i64 q, .int .i64 (-1)], .int .i64 q, .bool true]) (res_ctt Try.results19 rfl (run_loadVar_row (P := Try.prog) _ _ _ _ _ _ _ BF Try.underlying40 rfl (by kernel_rfl)) rfl rfl) rfl ⟨rfl, UF⟩
set_option maxRecDepth 100000 in
set_option maxHeartbeats 1600000 in
theorem rFollow_in (q0 : 0 ≤ q) (q1 : q ≤ 65535) (b0 : -9223372036854775808 ≤ high) (b1 : high ≤ 9223372036854775807) (c0 : -9223372036854775808 ≤ jump) (c1 : jump ≤ 9223372036854775807) (g : 0 ≤ high) (g2 : high ≤ 281474976710656) (g3 : -1 ≤ jump) (g4 : jump ≤ 65535) (h1 : 0 ≤ Pk.near high q 65536) (h2 : Pk.near high q 65536 ≤ high + 3000) (h3 : high - 100 ≤ Pk.near high q 65536) : Calls Try.prog 19 #[.agg #[.bool true, .int .i64 high, .int .i64 jump], .int .u16 q] w fun e w' => e = .returned (.tuple #[.agg #[.bool true, .int .i64 (max high (Pk.near high q 65536)), .int .i64 (-1)], .int .i64 (Pk.near high q 65536), .bool true]) ∧ Bel w w' := by
  have k1 := fun W => rExtend_any high q W q0 q1 b0 b1
  obtain ⟨n, hn⟩ : ∃ n, n = Pk.near high q 65536 := ⟨_, rfl⟩
  simp only [← hn]
  rw [← hn] at k1 h1 h2 h3
  have hnb := Pk.near_bd16 high q (by omega)
  rw [← hn] at hnb
  obtain ⟨n0, n1, _⟩ := hnb
  have n2 : n ≤ 281474976800000 := by omega
  have n3 : -40000 ≤ n := by omega
  have hv1 := i64_small (high + 3000) (by omega) (by omega)
  have hv2 := i64_small (high - 100) (by omega) (by omega)
  have K1 := Lib.hid k1
  clear k1 n0 n1 hn
  have kv := fun W => rValid_ok high jump W true g g2 g3 g4
  have KV := Lib.hid kv
  clear kv
  go_enter Try.func19, Try.ntmps19
  have U := Lib.hid (Bel.push (Bel.push (Bel.refl w) (.cells #[.bool true, .int .i64 high, .int .i64 jump] 40)) (.cells #[.bool false, .int .i64 0, .int .i64 0] 40))
  have T := Lib.hid ((Blk.new w 40 #[.bool true, .int .i64 high, .int .i64 jump]).push (.cells #[.bool false, .int .i64 0, .int .i64 0] 40))
  have B := Lib.hid (Blk.new1 w (.cells #[.bool true, .int .i64 high, .int .i64 jump] 40) 40 #[.bool false, .int .i64 0, .int .i64 0])
  go_wp2_with fail
  refine (KV.out _).mono ?_
  rintro e v ⟨rfl, hb⟩
  have hb0 := Lib.hid hb
  clear hb
  replace U := Lib.hid (U.out.later hb0.out)
  replace T := Lib.hid (T.out.later hb0.out)
  replace B := Lib.hid (B.out.later hb0.out)
  clear hb0 KV
  have t0 := T.out.at 0 _ rfl
  have t1 := T.out.at 1 _ rfl
  have t2 := T.out.at 2 _ rfl
  have tz := T.out.frozen
  have r0 := B.out.at 0 _ rfl
  have r1 := B.out.at 1 _ rfl
  have r2 := B.out.at 2 _ rfl
  have rz := B.out.frozen
  have hn10 : w.heap.size + 1 ≠ w.heap.size := by omega
  have hn01 : w.heap.size ≠ w.heap.size + 1 := by omega
  go_wp2_with fail
  refine (K1.out _).mono ?_
  rintro e w1 ⟨rfl, rfl⟩
  go_wp2_with fail
  have BF := Blk.setRow ((B.out.far (p := ⟨w.heap.size, 1, none⟩) (by simp) (.int .i64 (max high n))).far (p := ⟨w.heap.size, 2, none⟩) (by simp) (.int .i64 (-1))) [.bool true, .int .i64 (max high n), .int .i64 (-1)] rfl
  have UF := below_setRow (g := w.heap.size + 1) (by omega) [.bool true, .int .i64 (max high n), .int .i64 (-1)] _ 0 (below_set_old (p := ⟨w.heap.size, 2, none⟩) (below_set_old (p := ⟨w.heap.size, 1, none⟩) U.out (by simp) (.int .i64 (max high n))) (by simp) (.int .i64 (-1)))
  simp only [setRow, Nat.zero_add, Nat.reduceAdd] at BF UF
  exact bodyPost_ret (v := .tuple #[.agg #[.bool true, .int .i64 (max high n), .int .i64 (-1)], .int .i64 n, .bool true]) (res_ctt Try.results19 rfl (run_loadVar_row (P := Try.prog) _ _ _ _ _ _ _ BF Try.underlying40 rfl (by kernel_rfl)) rfl rfl) rfl ⟨rfl, UF⟩
set_option maxRecDepth 100000 in
set_option maxHeartbeats 1600000 in
theorem rFollow_no0n (q0 : 0 ≤ q) (q1 : q ≤ 65535) (b0 : -9223372036854775808 ≤ high) (b1 : high ≤ 9223372036854775807) (c0 : -9223372036854775808 ≤ jump) (c1 : jump ≤ 9223372036854775807) (g : 0 ≤ high) (g2 : high ≤ 281474976710656) (g3 : -1 ≤ jump) (g4 : jump ≤ 65535) (h1 : Pk.near high q 65536 < 0) (hj : ¬q = jump) : Calls Try.prog 19 #[.agg #[.bool true, .int .i64 high, .int .i64 jump], .int .u16 q] w fun e w' => e = .returned (.tuple #[.agg #[.bool true, .int .i64 high, .int .i64 ((q + 1) % 65536)], .int .i64 0, .bool false]) ∧ Bel w w' := by
  have k1 := fun W => rExtend_any high q W q0 q1 b0 b1
  obtain ⟨n, hn⟩ : ∃ n, n = Pk.near high q 65536 := ⟨_, rfl⟩
  rw [← hn] at k1 h1
  have hnb := Pk.near_bd16 high q (by omega)
  rw [← hn] at hnb
  obtain ⟨n0, n1, _⟩ := hnb
  have n2 : n ≤ 281474976800000 := by omega
  have n3 : -40000 ≤ n := by omega
  have hv1 := i64_small (high + 3000) (by omega) (by omega)
  have hv2 := i64_small (high - 100) (by omega) (by omega)
  have K1 := Lib.hid k1
  clear k1 n0 n1 hn
  have ej : (jump == q) = false := by rw [beq_eq_false_iff_ne]; exact fun h => hj h.symm
  clear hj
  have hw : (q + 1).tmod 65536 = (q + 1) % 65536 := Int.tmod_eq_emod_of_nonneg (by omega)
  have kv := fun W => rValid_ok high jump W true g g2 g3 g4
  have KV := Lib.hid kv
  clear kv
  go_enter Try.func19, Try.ntmps19
  have U := Lib.hid (Bel.push (Bel.push (Bel.refl w) (.cells #[.bool true, .int .i64 high, .int .i64 jump] 40)) (.cells #[.bool false, .int .i64 0, .int .i64 0] 40))
  have T := Lib.hid ((Blk.new w 40 #[.bool true, .int .i64 high, .int .i64 jump]).push (.cells #[.bool false, .int .i64 0, .int .i64 0] 40))
  have B := Lib.hid (Blk.new1 w (.cells #[.bool true, .int .i64 high, .int .i64 jump] 40) 40 #[.bool false, .int .i64 0, .int .i64 0])
  go_wp2_with fail
  refine (KV.out _).mono ?_
  rintro e v ⟨rfl, hb⟩
  have hb0 := Lib.hid hb
  clear hb
  replace U := Lib.hid (U.out.later hb0.out)
  replace T := Lib.hid (T.out.later hb0.out)
  replace B := Lib.hid (B.out.later hb0.out)
  clear hb0 KV
  have t0 := T.out.at 0 _ rfl
  have t1 := T.out.at 1 _ rfl
  have t2 := T.out.at 2 _ rfl
  have tz := T.out.frozen
  have r0 := B.out.at 0 _ rfl
  have r1 := B.out.at 1 _ rfl
  have r2 := B.out.at 2 _ rfl
  have rz := B.out.frozen
  have hn10 : w.heap.size + 1 ≠ w.heap.size := by omega
  have hn01 : w.heap.size ≠ w.heap.size + 1 := by omega
  go_wp2_with fail
  refine (K1.out _).mono ?_
  rintro e w1 ⟨rfl, rfl⟩
  go_wp2_with fail
  have BF := Blk.setRow (B.out.far (p := ⟨w.heap.size, 2, none⟩) (by simp) (.int .i64 ((q + 1) % 65536))) [.bool true, .int .i64 high, .int .i64 ((q + 1) % 65536)] rfl
  have UF := below_setRow (g := w.heap.size + 1) (by omega) [.bool true, .int .i64 high, .int .i64 ((q + 1) % 65536)] _ 0 (below_set_old (p := ⟨w.heap.size, 2, none⟩) U.out (by simp) (.int .i64 ((q + 1) % 65536)))
  simp only [setRow, Nat.zero_add, Nat.reduceAdd] at BF UF
  exact bodyPost_ret (v := .tuple #[.agg #[.bool true, .int .i64 high, .int .i64 ((q + 1) % 65536)], .int .i64 0, .bool false]) (res_ctt Try.results19 rfl (run_loadVar_row (P := Try.prog) _ _ _ _ _ _ _ BF Try.underlying40 rfl (by kernel_rfl)) rfl rfl) rfl ⟨rfl, UF⟩
set_option maxRecDepth 100000 in
set_option maxHeartbeats 1600000 in
theorem rFollow_no0h (q0 : 0 ≤ q) (q1 : q ≤ 65535) (b0 : -9223372036854775808 ≤ high) (b1 : high ≤ 9223372036854775807) (c0 : -9223372036854775808 ≤ jump) (c1 : jump ≤ 9223372036854775807) (g : 0 ≤ high) (g2 : high ≤ 281474976710656) (g3 : -1 ≤ jump) (g4 : jump ≤ 65535) (h1 : Pk.near high q 65536 < 0) (hj : q = jump) (hh : 140737488355328 ≤ high) : Calls Try.prog 19 #[.agg #[.bool true, .int .i64 high, .int .i64 jump], .int .u16 q] w fun e w' => e = .returned (.tuple #[.agg #[.bool true, .int .i64 high, .int .i64 ((q + 1) % 65536)], .int .i64 0, .bool false]) ∧ Bel w w' := by
  have k1 := fun W => rExtend_any high q W q0 q1 b0 b1
  obtain ⟨n, hn⟩ : ∃ n, n = Pk.near high q 65536 := ⟨_, rfl⟩
  rw [← hn] at k1 h1
  have hnb := Pk.near_bd16 high q (by omega)
  rw [← hn] at hnb
  obtain ⟨n0, n1, _⟩ := hnb
  have n2 : n ≤ 281474976800000 := by omega
  have n3 : -40000 ≤ n := by omega
  have hv1 := i64_small (high + 3000) (by omega) (by omega)
  have hv2 := i64_small (high - 100) (by omega) (by omega)
  have K1 := Lib.hid k1
  clear k1 n0 n1 hn
  have ej : (jump == q) = true := by rw [beq_iff_eq]; exact hj.symm
  clear hj
  have hw : (q + 1).tmod 65536 = (q + 1) % 65536 := Int.tmod_eq_emod_of_nonneg (by omega)
  have kv := fun W => rValid_ok high jump W true g g2 g3 g4
  have KV := Lib.hid kv
  clear kv
  go_enter Try.func19, Try.ntmps19
  have U := Lib.hid (Bel.push (Bel.push (Bel.refl w) (.cells #[.bool true, .int .i64 high, .int .i64 jump] 40)) (.cells #[.bool false, .int .i64 0, .int .i64 0] 40))
  have T := Lib.hid ((Blk.new w 40 #[.bool true, .int .i64 high, .int .i64 jump]).push (.cells #[.bool false, .int .i64 0, .int .i64 0] 40))
  have B := Lib.hid (Blk.new1 w (.cells #[.bool true, .int .i64 high, .int .i64 jump] 40) 40 #[.bool false, .int .i64 0, .int .i64 0])
  go_wp2_with fail
  refine (KV.out _).mono ?_
  rintro e v ⟨rfl, hb⟩
  have hb0 := Lib.hid hb
  clear hb
  replace U := Lib.hid (U.out.later hb0.out)
  replace T := Lib.hid (T.out.later hb0.out)
  replace B := Lib.hid (B.out.later hb0.out)
  clear hb0 KV
  have t0 := T.out.at 0 _ rfl
  have t1 := T.out.at 1 _ rfl
  have t2 := T.out.at 2 _ rfl
  have tz := T.out.frozen
  have r0 := B.out.at 0 _ rfl
  have r1 := B.out.at 1 _ rfl
  have r2 := B.out.at 2 _ rfl
  have rz := B.out.frozen
  have hn10 : w.heap.size + 1 ≠ w.heap.size := by omega
  have hn01 : w.heap.size ≠ w.heap.size + 1 := by omega
  go_wp2_with fail
  refine (K1.out _).mono ?_
  rintro e w1 ⟨rfl, rfl⟩
  go_wp2_with fail
  have BF := Blk.setRow (B.out.far (p := ⟨w.heap.size, 2, none⟩) (by simp) (.int .i64 ((q + 1) % 65536))) [.bool true, .int .i64 high, .int .i64 ((q + 1) % 65536)] rfl
  have UF := below_setRow (g := w.heap.size + 1) (by omega) [.bool true, .int .i64 high, .int .i64 ((q + 1) % 65536)] _ 0 (below_set_old (p := ⟨w.heap.size, 2, none⟩) U.out (by simp) (.int .i64 ((q + 1) % 65536)))
  simp only [setRow, Nat.zero_add, Nat.reduceAdd] at BF UF
  exact bodyPost_ret (v := .tuple #[.agg #[.bool true, .int .i64 high, .int .i64 ((q + 1) % 65536)], .int .i64 0, .bool false]) (res_ctt Try.results19 rfl (run_loadVar_row (P := Try.prog) _ _ _ _ _ _ _ BF Try.underlying40 rfl (by kernel_rfl)) rfl rfl) rfl ⟨rfl, UF⟩
set_option maxRecDepth 100000 in
set_option maxHeartbeats 1600000 in
theorem rFollow_jump0 (q0 : 0 ≤ q) (q1 : q ≤ 65535) (b0 : -9223372036854775808 ≤ high) (b1 : high ≤ 9223372036854775807) (c0 : -9223372036854775808 ≤ jump) (c1 : jump ≤ 9223372036854775807) (g : 0 ≤ high) (g2 : high ≤ 281474976710656) (g3 : -1 ≤ jump) (g4 : jump ≤ 65535) (h1 : Pk.near high q 65536 < 0) (hj : q = jump) (hh : high < 140737488355328) : Calls Try.prog 19 #[.agg #[.bool true, .int .i64 high, .int .i64 jump], .int .u16 q] w fun e w' => e = .returned (.tuple #[.agg #[.bool true, .int .i64 (high + Pk.gap high q), .int .i64 (-1)], .int .i64 (high + Pk.gap high q), .bool true]) ∧ Bel w w' := by
  have k1 := fun W => rExtend_any high q W q0 q1 b0 b1
  obtain ⟨n, hn⟩ : ∃ n, n = Pk.near high q 65536 := ⟨_, rfl⟩
  rw [← hn] at k1 h1
  have hnb := Pk.near_bd16 high q (by omega)
  rw [← hn] at hnb
  obtain ⟨n0, n1, _⟩ := hnb
  have n2 : n ≤ 281474976800000 := by omega
  have n3 : -40000 ≤ n := by omega
  have hv1 := i64_small (high + 3000) (by omega) (by omega)
  have hv2 := i64_small (high - 100) (by omega) (by omega)
  have K1 := Lib.hid k1
  clear k1 n0 n1 hn
  have ej : (jump == q) = true := by rw [beq_iff_eq]; exact hj.symm
  clear hj
  have hgb := Pk.gap_bd high q
  have hgm := Pk.gap_mod high q q0 q1
  have hgl := Pk.gap_least high q
  obtain ⟨d, hd⟩ : ∃ d : Nat, (d : Int) = Pk.gap high q := ⟨(Pk.gap high q).toNat, by omega⟩
  rw [← hd] at hgb hgm hgl
  rw [← hd]
  obtain ⟨d0, d1⟩ := hgb
  have HGM := Lib.hid hgm
  have HGL := Lib.hid hgl
  clear hgm hgl hd
  have hv3 := i64_small (high + 1) (by omega) (by omega)
  have kv := fun W => rValid_ok high jump W true g g2 g3 g4
  have KV := Lib.hid kv
  clear kv
  go_enter Try.func19, Try.ntmps19
  have U := Lib.hid (Bel.push (Bel.push (Bel.refl w) (.cells #[.bool true, .int .i64 high, .int .i64 jump] 40)) (.cells #[.bool false, .int .i64 0, .int .i64 0] 40))
  have T := Lib.hid ((Blk.new w 40 #[.bool true, .int .i64 high, .int .i64 jump]).push (.cells #[.bool false, .int .i64 0, .int .i64 0] 40))
  have B := Lib.hid (Blk.new1 w (.cells #[.bool true, .int .i64 high, .int .i64 jump] 40) 40 #[.bool false, .int .i64 0, .int .i64 0])
  go_wp2_with fail
  refine (KV.out _).mono ?_
  rintro e v ⟨rfl, hb⟩
  have hb0 := Lib.hid hb
  clear hb
  replace U := Lib.hid (U.out.later hb0.out)
  replace T := Lib.hid (T.out.later hb0.out)
  replace B := Lib.hid (B.out.later hb0.out)
  clear hb0 KV
  have t0 := T.out.at 0 _ rfl
  have t1 := T.out.at 1 _ rfl
  have t2 := T.out.at 2 _ rfl
  have tz := T.out.frozen
  have r0 := B.out.at 0 _ rfl
  have r1 := B.out.at 1 _ rfl
  have r2 := B.out.at 2 _ rfl
  have rz := B.out.frozen
  have hn10 : w.heap.size + 1 ≠ w.heap.size := by omega
  have hn01 : w.heap.size ≠ w.heap.size + 1 := by omega
  go_wp2_with fail
  refine (K1.out _).mono ?_
  rintro e w1 ⟨rfl, rfl⟩
  clear t0 t1 t2 tz r0 r1 r2 rz
  have t0 := T.out.at 0 _ rfl
  have t1 := T.out.at 1 _ rfl
  have t2 := T.out.at 2 _ rfl
  have tz := T.out.frozen
  go_wp2_with fail
  go_loopg [7] d (fun gk s7 wr => ∃ k : Nat, gk + k = d ∧ k < d ∧ s7 = .int .i64 (high + ((k : Int) + 1)) ∧ Hid (wr = v))
  case atStart => exact ⟨0, rfl, by omega, by simp, Lib.hid rfl⟩
  case round =>
    obtain ⟨k, hgk, hkd, rfl, HW⟩ := hrel
    obtain rfl : wr = v := HW.out
    clear HW
    have hk0 : (0 : Int) ≤ (k : Int) := by omega
    have hv4 := i64_small (high + ((k : Int) + 1)) (by omega) (by omega)
    have hv5 := i64_small (high + ((k : Int) + 1) + 1) (by omega) (by omega)
    by_cases hlt : k + 1 < d
    · have hm := HGL.out ((k : Int) + 1) q0 q1 (by omega) (by omega)
      obtain ⟨x, hx⟩ : ∃ x, x = high + ((k : Int) + 1) := ⟨_, rfl⟩
      rw [← hx] at hm hv4 hv5 ⊢
      have em : (x.tmod 65536 != q) = true := by rw [bne_iff_ne, Int.tmod_eq_emod_of_nonneg (by omega)]; exact hm
      have em2 : (x % 65536 != q) = true := by rw [bne_iff_ne]; exact hm
      have HX := Lib.hid hx
      have hx0 : 0 ≤ x := by omega
      have hx1 : x ≤ 281474976800000 := by omega
      clear hx hm
      go_wp2_with fail
      go_roundg (gk - 1)
      case measure => omega
      case rel => exact ⟨k + 1, by omega, hlt, by rw [HX.out]; congr 1; omega, Lib.hid rfl⟩
    · have hdk : (d : Int) = (k : Int) + 1 := by omega
      have hm := HGM.out
      rw [hdk] at hm
      obtain ⟨x, hx⟩ : ∃ x, x = high + ((k : Int) + 1) := ⟨_, rfl⟩
      rw [← hx] at hm hv4 hv5 ⊢
      have em : (x.tmod 65536 != q) = false := by rw [Int.tmod_eq_emod_of_nonneg (by omega), hm]; simp
      have em2 : (x % 65536 != q) = false := by rw [hm]; simp
      have hdx : high + (d : Int) = x := by omega
      have HDX := Lib.hid hdx
      have hx0 : 0 ≤ x := by omega
      have hx1 : x ≤ 281474976800000 := by omega
      clear hx hm hdk hdx HGM HGL
      have r0 := B.out.at 0 _ rfl
      have r1 := B.out.at 1 _ rfl
      have r2 := B.out.at 2 _ rfl
      have rz := B.out.frozen
      go_wp2_with fail
      have BF := Blk.setRow ((B.out.far (p := ⟨w.heap.size, 1, none⟩) (by simp) (.int .i64 x)).far (p := ⟨w.heap.size, 2, none⟩) (by simp) (.int .i64 (-1))) [.bool true, .int .i64 x, .int .i64 (-1)] rfl
      have UF := below_setRow (g := w.heap.size + 1) (by omega) [.bool true, .int .i64 x, .int .i64 (-1)] _ 0 (below_set_old (p := ⟨w.heap.size, 2, none⟩) (below_set_old (p := ⟨w.heap.size, 1, none⟩) U.out (by simp) (.int .i64 x)) (by simp) (.int .i64 (-1)))
      simp only [setRow, Nat.zero_add, Nat.reduceAdd] at BF UF
      exact bodyPost_ret (v := .tuple #[.agg #[.bool true, .int .i64 x, .int .i64 (-1)], .int .i64 x, .bool true]) (res_ctt Try.results19 rfl (run_loadVar_row (P := Try.prog) _ _ _ _ _ _ _ BF Try.underlying40 rfl (by kernel_rfl)) rfl rfl) rfl ⟨(by rw [HDX.out]), UF⟩
set_option maxRecDepth 100000 in
set_option maxHeartbeats 1600000 in
theorem rFollow_no1n (q0 : 0 ≤ q) (q1 : q ≤ 65535) (b0 : -9223372036854775808 ≤ high) (b1 : high ≤ 9223372036854775807) (c0 : -9223372036854775808 ≤ jump) (c1 : jump ≤ 9223372036854775807) (g : 0 ≤ high) (g2 : high ≤ 281474976710656) (g3 : -1 ≤ jump) (g4 : jump ≤ 65535) (h1 : 0 ≤ Pk.near high q 65536) (h2 : high + 3000 < Pk.near high q 65536) (hj : ¬q = jump) : Calls Try.prog 19 #[.agg #[.bool true, .int .i64 high, .int .i64 jump], .int .u16 q] w fun e w' => e = .returned (.tuple #[.agg #[.bool true, .int .i64 high, .int .i64 ((q + 1) % 65536)], .int .i64 0, .bool false]) ∧ Bel w w' := by
  have k1 := fun W => rExtend_any high q W q0 q1 b0 b1
  obtain ⟨n, hn⟩ : ∃ n, n = Pk.near high q 65536 := ⟨_, rfl⟩
  rw [← hn] at k1 h1 h2
  have hnb := Pk.near_bd16 high q (by omega)
  rw [← hn] at hnb
  obtain ⟨n0, n1, _⟩ := hnb
  have n2 : n ≤ 281474976800000 := by omega
  have n3 : -40000 ≤ n := by omega
  have hv1 := i64_small (high + 3000) (by omega) (by omega)
  have hv2 := i64_small (high - 100) (by omega) (by omega)
  have K1 := Lib.hid k1
  clear k1 n0 n1 hn
  have ej : (jump == q) = false := by rw [beq_eq_false_iff_ne]; exact fun h => hj h.symm
  clear hj
  have hw : (q + 1).tmod 65536 = (q + 1) % 65536 := Int.tmod_eq_emod_of_nonneg (by omega)
  have kv := fun W => rValid_ok high jump W true g g2 g3 g4
  have KV := Lib.hid kv
  clear kv
  go_enter Try.func19, Try.ntmps19
  have U := Lib.hid (Bel.push (Bel.push (Bel.refl w) (.cells #[.bool true, .int .i64 high, .int .i64 jump] 40)) (.cells #[.bool false, .int .i64 0, .int .i64 0] 40))
  have T := Lib.hid ((Blk.new w 40 #[.bool true, .int .i64 high, .int .i64 jump]).push (.cells #[.bool false, .int .i64 0, .int .i64 0] 40))
  have B := Lib.hid (Blk.new1 w (.cells #[.bool true, .int .i64 high, .int .i64 jump] 40) 40 #[.bool false, .int .i64 0, .int .i64 0])
  go_wp2_with fail
  refine (KV.out _).mono ?_
  rintro e v ⟨rfl, hb⟩
  have hb0 := Lib.hid hb
  clear hb
  replace U := Lib.hid (U.out.later hb0.out)
  replace T := Lib.hid (T.out.later hb0.out)
  replace B := Lib.hid (B.out.later hb0.out)
  clear hb0 KV
  have t0 := T.out.at 0 _ rfl
  have t1 := T.out.at 1 _ rfl
  have t2 := T.out.at 2 _ rfl
  have tz := T.out.frozen
  have r0 := B.out.at 0 _ rfl
  have r1 := B.out.at 1 _ rfl
  have r2 := B.out.at 2 _ rfl
  have rz := B.out.frozen
  have hn10 : w.heap.size + 1 ≠ w.heap.size := by omega
  have hn01 : w.heap.size ≠ w.heap.size + 1 := by omega
  go_wp2_with fail
  refine (K1.out _).mono ?_
  rintro e w1 ⟨rfl, rfl⟩
  go_wp2_with fail
  have BF := Blk.setRow (B.out.far (p := ⟨w.heap.size, 2, none⟩) (by simp) (.int .i64 ((q + 1) % 65536))) [.bool true, .int .i64 high, .int .i64 ((q + 1) % 65536)] rfl
  have UF := below_setRow (g := w.heap.size + 1) (by omega) [.bool true, .int .i64 high, .int .i64 ((q + 1) % 65536)] _ 0 (below_set_old (p := ⟨w.heap.size, 2, none⟩) U.out (by simp) (.int .i64 ((q + 1) % 65536)))
  simp only [setRow, Nat.zero_add, Nat.reduceAdd] at BF UF
  exact bodyPost_ret (v := .tuple #[.agg #[.bool true, .int .i64 high, .int .i64 ((q + 1) % 65536)], .int .i64 0, .bool false]) (res_ctt Try.results19 rfl (run_loadVar_row (P := Try.prog) _ _ _ _ _ _ _ BF Try.underlying40 rfl (by kernel_rfl)) rfl rfl) rfl ⟨rfl, UF⟩
set_option maxRecDepth 100000 in
set_option maxHeartbeats 1600000 in
theorem rFollow_no1h (q0 : 0 ≤ q) (q1 : q ≤ 65535) (b0 : -9223372036854775808 ≤ high) (b1 : high ≤ 9223372036854775807) (c0 : -9223372036854775808 ≤ jump) (c1 : jump ≤ 9223372036854775807) (g : 0 ≤ high) (g2 : high ≤ 281474976710656) (g3 : -1 ≤ jump) (g4 : jump ≤ 65535) (h1 : 0 ≤ Pk.near high q 65536) (h2 : high + 3000 < Pk.near high q 65536) (hj : q = jump) (hh : 140737488355328 ≤ high) : Calls Try.prog 19 #[.agg #[.bool true, .int .i64 high, .int .i64 jump], .int .u16 q] w fun e w' => e = .returned (.tuple #[.agg #[.bool true, .int .i64 high, .int .i64 ((q + 1) % 65536)], .int .i64 0, .bool false]) ∧ Bel w w' := by
  have k1 := fun W => rExtend_any high q W q0 q1 b0 b1
  obtain ⟨n, hn⟩ : ∃ n, n = Pk.near high q 65536 := ⟨_, rfl⟩
  rw [← hn] at k1 h1 h2
  have hnb := Pk.near_bd16 high q (by omega)
  rw [← hn] at hnb
  obtain ⟨n0, n1, _⟩ := hnb
  have n2 : n ≤ 281474976800000 := by omega
  have n3 : -40000 ≤ n := by omega
  have hv1 := i64_small (high + 3000) (by omega) (by omega)
  have hv2 := i64_small (high - 100) (by omega) (by omega)
  have K1 := Lib.hid k1
  clear k1 n0 n1 hn
  have ej : (jump == q) = true := by rw [beq_iff_eq]; exact hj.symm
  clear hj
  have hw : (q + 1).tmod 65536 = (q + 1) % 65536 := Int.tmod_eq_emod_of_nonneg (by omega)
  have kv := fun W => rValid_ok high jump W true g g2 g3 g4
  have KV := Lib.hid kv
  clear kv
  go_enter Try.func19, Try.ntmps19
  have U := Lib.hid (Bel.push (Bel.push (Bel.refl w) (.cells #[.bool true, .int .i64 high, .int .i64 jump] 40)) (.cells #[.bool false, .int .i64 0, .int .i64 0] 40))
  have T := Lib.hid ((Blk.new w 40 #[.bool true, .int .i64 high, .int .i64 jump]).push (.cells #[.bool false, .int .i64 0, .int .i64 0] 40))
  have B := Lib.hid (Blk.new1 w (.cells #[.bool true, .int .i64 high, .int .i64 jump] 40) 40 #[.bool false, .int .i64 0, .int .i64 0])
  go_wp2_with fail
  refine (KV.out _).mono ?_
  rintro e v ⟨rfl, hb⟩
  have hb0 := Lib.hid hb
  clear hb
  replace U := Lib.hid (U.out.later hb0.out)
  replace T := Lib.hid (T.out.later hb0.out)
  replace B := Lib.hid (B.out.later hb0.out)
  clear hb0 KV
  have t0 := T.out.at 0 _ rfl
  have t1 := T.out.at 1 _ rfl
  have t2 := T.out.at 2 _ rfl
  have tz := T.out.frozen
  have r0 := B.out.at 0 _ rfl
  have r1 := B.out.at 1 _ rfl
  have r2 := B.out.at 2 _ rfl
  have rz := B.out.frozen
  have hn10 : w.heap.size + 1 ≠ w.heap.size := by omega
  have hn01 : w.heap.size ≠ w.heap.size + 1 := by omega
  go_wp2_with fail
  refine (K1.out _).mono ?_
  rintro e w1 ⟨rfl, rfl⟩
  go_wp2_with fail
  have BF := Blk.setRow (B.out.far (p := ⟨w.heap.size, 2, none⟩) (by simp) (.int .i64 ((q + 1) % 65536))) [.bool true, .int .i64 high, .int .i64 ((q + 1) % 65536)] rfl
  have UF := below_setRow (g := w.heap.size + 1) (by omega) [.bool true, .int .i64 high, .int .i64 ((q + 1) % 65536)] _ 0 (below_set_old (p := ⟨w.heap.size, 2, none⟩) U.out (by simp) (.int .i64 ((q + 1) % 65536)))
  simp only [setRow, Nat.zero_add, Nat.reduceAdd] at BF UF
  exact bodyPost_ret (v := .tuple #[.agg #[.bool true, .int .i64 high, .int .i64 ((q + 1) % 65536)], .int .i64 0, .bool false]) (res_ctt Try.results19 rfl (run_loadVar_row (P := Try.prog) _ _ _ _ _ _ _ BF Try.underlying40 rfl (by kernel_rfl)) rfl rfl) rfl ⟨rfl, UF⟩
set_option maxRecDepth 100000 in
set_option maxHeartbeats 1600000 in
theorem rFollow_jump1 (q0 : 0 ≤ q) (q1 : q ≤ 65535) (b0 : -9223372036854775808 ≤ high) (b1 : high ≤ 9223372036854775807) (c0 : -9223372036854775808 ≤ jump) (c1 : jump ≤ 9223372036854775807) (g : 0 ≤ high) (g2 : high ≤ 281474976710656) (g3 : -1 ≤ jump) (g4 : jump ≤ 65535) (h1 : 0 ≤ Pk.near high q 65536) (h2 : high + 3000 < Pk.near high q 65536) (hj : q = jump) (hh : high < 140737488355328) : Calls Try.prog 19 #[.agg #[.bool true, .int .i64 high, .int .i64 jump], .int .u16 q] w fun e w' => e = .returned (.tuple #[.agg #[.bool true, .int .i64 (high + Pk.gap high q), .int .i64 (-1)], .int .i64 (high + Pk.gap high q), .bool true]) ∧ Bel w w' := by
  have k1 := fun W => rExtend_any high q W q0 q1 b0 b1
  obtain ⟨n, hn⟩ : ∃ n, n = Pk.near high q 65536 := ⟨_, rfl⟩
  rw [← hn] at k1 h1 h2
  have hnb := Pk.near_bd16 high q (by omega)
  rw [← hn] at hnb
  obtain ⟨n0, n1, _⟩ := hnb
  have n2 : n ≤ 281474976800000 := by omega
  have n3 : -40000 ≤ n := by omega
  have hv1 := i64_small (high + 3000) (by omega) (by omega)
  have hv2 := i64_small (high - 100) (by omega) (by omega)
  have K1 := Lib.hid k1
  clear k1 n0 n1 hn
  have ej : (jump == q) = true := by rw [beq_iff_eq]; exact hj.symm
  clear hj
  have hgb := Pk.gap_bd high q
  have hgm := Pk.gap_mod high q q0 q1
  have hgl := Pk.gap_least high q
  obtain ⟨d, hd⟩ : ∃ d : Nat, (d : Int) = Pk.gap high q := ⟨(Pk.gap high q).toNat, by omega⟩
  rw [← hd] at hgb hgm hgl
  rw [← hd]
  obtain ⟨d0, d1⟩ := hgb
  have HGM := Lib.hid hgm
  have HGL := Lib.hid hgl
  clear hgm hgl hd
  have hv3 := i64_small (high + 1) (by omega) (by omega)
  have kv := fun W => rValid_ok high jump W true g g2 g3 g4
  have KV := Lib.hid kv
  clear kv
  go_enter Try.func19, Try.ntmps19
  have U := Lib.hid (Bel.push (Bel.push (Bel.refl w) (.cells #[.bool true, .int .i64 high, .int .i64 jump] 40)) (.cells #[.bool false, .int .i64 0, .int .i64 0] 40))
  have T := Lib.hid ((Blk.new w 40 #[.bool true, .int .i64 high, .int .i64 jump]).push (.cells #[.bool false, .int .i64 0, .int .i64 0] 40))
  have B := Lib.hid (Blk.new1 w (.cells #[.bool true, .int .i64 high, .int .i64 jump] 40) 40 #[.bool false, .int .i64 0, .int .i64 0])
  go_wp2_with fail
  refine (KV.out _).mono ?_
  rintro e v ⟨rfl, hb⟩
  have hb0 := Lib.hid hb
  clear hb
  replace U := Lib.hid (U.out.later hb0.out)
  replace T := Lib.hid (T.out.later hb0.out)
  replace B := Lib.hid (B.out.later hb0.out)
  clear hb0 KV
  have t0 := T.out.at 0 _ rfl
  have t1 := T.out.at 1 _ rfl
  have t2 := T.out.at 2 _ rfl
  have tz := T.out.frozen
  have r0 := B.out.at 0 _ rfl
  have r1 := B.out.at 1 _ rfl
  have r2 := B.out.at 2 _ rfl
  have rz := B.out.frozen
  have hn10 : w.heap.size + 1 ≠ w.heap.size := by omega
  have hn01 : w.heap.size ≠ w.heap.size + 1 := by omega
  go_wp2_with fail
  refine (K1.out _).mono ?_
  rintro e w1 ⟨rfl, rfl⟩
  clear t0 t1 t2 tz r0 r1 r2 rz
  have t0 := T.out.at 0 _ rfl
  have t1 := T.out.at 1 _ rfl
  have t2 := T.out.at 2 _ rfl
  have tz := T.out.frozen
  go_wp2_with fail
  go_loopg [7] d (fun gk s7 wr => ∃ k : Nat, gk + k = d ∧ k < d ∧ s7 = .int .i64 (high + ((k : Int) + 1)) ∧ Hid (wr = v))
  case atStart => exact ⟨0, rfl, by omega, by simp, Lib.hid rfl⟩
  case round =>
    obtain ⟨k, hgk, hkd, rfl, HW⟩ := hrel
    obtain rfl : wr = v := HW.out
    clear HW
    have hk0 : (0 : Int) ≤ (k : Int) := by omega
    have hv4 := i64_small (high + ((k : Int) + 1)) (by omega) (by omega)
    have hv5 := i64_small (high + ((k : Int) + 1) + 1) (by omega) (by omega)
    by_cases hlt : k + 1 < d
    · have hm := HGL.out ((k : Int) + 1) q0 q1 (by omega) (by omega)
      obtain ⟨x, hx⟩ : ∃ x, x = high + ((k : Int) + 1) := ⟨_, rfl⟩
      rw [← hx] at hm hv4 hv5 ⊢
      have em : (x.tmod 65536 != q) = true := by rw [bne_iff_ne, Int.tmod_eq_emod_of_nonneg (by omega)]; exact hm
      have em2 : (x % 65536 != q) = true := by rw [bne_iff_ne]; exact hm
      have HX := Lib.hid hx
      have hx0 : 0 ≤ x := by omega
      have hx1 : x ≤ 281474976800000 := by omega
      clear hx hm
      go_wp2_with fail
      go_roundg (gk - 1)
      case measure => omega
      case rel => exact ⟨k + 1, by omega, hlt, by rw [HX.out]; congr 1; omega, Lib.hid rfl⟩
    · have hdk : (d : Int) = (k : Int) + 1 := by omega
      have hm := HGM.out
      rw [hdk] at hm
      obtain ⟨x, hx⟩ : ∃ x, x = high + ((k : Int) + 1) := ⟨_, rfl⟩
      rw [← hx] at hm hv4 hv5 ⊢
      have em : (x.tmod 65536 != q) = false := by rw [Int.tmod_eq_emod_of_nonneg (by omega), hm]; simp
      have em2 : (x % 65536 != q) = false := by rw [hm]; simp
      have hdx : high + (d : Int) = x := by omega
      have HDX := Lib.hid hdx
      have hx0 : 0 ≤ x := by omega
      have hx1 : x ≤ 281474976800000 := by omega
      clear hx hm hdk hdx HGM HGL
      have r0 := B.out.at 0 _ rfl
      have r1 := B.out.at 1 _ rfl
      have r2 := B.out.at 2 _ rfl
      have rz := B.out.frozen
      go_wp2_with fail
      have BF := Blk.setRow ((B.out.far (p := ⟨w.heap.size, 1, none⟩) (by simp) (.int .i64 x)).far (p := ⟨w.heap.size, 2, none⟩) (by simp) (.int .i64 (-1))) [.bool true, .int .i64 x, .int .i64 (-1)] rfl
      have UF := below_setRow (g := w.heap.size + 1) (by omega) [.bool true, .int .i64 x, .int .i64 (-1)] _ 0 (below_set_old (p := ⟨w.heap.size, 2, none⟩) (below_set_old (p := ⟨w.heap.size, 1, none⟩) U.out (by simp) (.int .i64 x)) (by simp) (.int .i64 (-1)))
      simp only [setRow, Nat.zero_add, Nat.reduceAdd] at BF UF
      exact bodyPost_ret (v := .tuple #[.agg #[.bool true, .int .i64 x, .int .i64 (-1)], .int .i64 x, .bool true]) (res_ctt Try.results19 rfl (run_loadVar_row (P := Try.prog) _ _ _ _ _ _ _ BF Try.underlying40 rfl (by kernel_rfl)) rfl rfl) rfl ⟨(by rw [HDX.out]), UF⟩
set_option maxRecDepth 100000 in
set_option maxHeartbeats 1600000 in
theorem rFollow_no2n (q0 : 0 ≤ q) (q1 : q ≤ 65535) (b0 : -9223372036854775808 ≤ high) (b1 : high ≤ 9223372036854775807) (c0 : -9223372036854775808 ≤ jump) (c1 : jump ≤ 9223372036854775807) (g : 0 ≤ high) (g2 : high ≤ 281474976710656) (g3 : -1 ≤ jump) (g4 : jump ≤ 65535) (h1 : 0 ≤ Pk.near high q 65536) (h2 : Pk.near high q 65536 ≤ high + 3000) (h3 : Pk.near high q 65536 < high - 100) (hj : ¬q = jump) : Calls Try.prog 19 #[.agg #[.bool true, .int .i64 high, .int .i64 jump], .int .u16 q] w fun e w' => e = .returned (.tuple #[.agg #[.bool true, .int .i64 high, .int .i64 ((q + 1) % 65536)], .int .i64 0, .bool false]) ∧ Bel w w' := by
  have k1 := fun W => rExtend_any high q W q0 q1 b0 b1
  obtain ⟨n, hn⟩ : ∃ n, n = Pk.near high q 65536 := ⟨_, rfl⟩
  rw [← hn] at k1 h1 h2 h3
  have hnb := Pk.near_bd16 high q (by omega)
  rw [← hn] at hnb
  obtain ⟨n0, n1, _⟩ := hnb
  have n2 : n ≤ 281474976800000 := by omega
  have n3 : -40000 ≤ n := by omega
  have hv1 := i64_small (high + 3000) (by omega) (by omega)
  have hv2 := i64_small (high - 100) (by omega) (by omega)
  have K1 := Lib.hid k1
  clear k1 n0 n1 hn
  have ej : (jump == q) = false := by rw [beq_eq_false_iff_ne]; exact fun h => hj h.symm
  clear hj
  have hw : (q + 1).tmod 65536 = (q + 1) % 65536 := Int.tmod_eq_emod_of_nonneg (by omega)
  have kv := fun W => rValid_ok high jump W true g g2 g3 g4
  have KV := Lib.hid kv
  clear kv
  go_enter Try.func19, Try.ntmps19
  have U := Lib.hid (Bel.push (Bel.push (Bel.refl w) (.cells #[.bool true, .int .i64 high, .int .i64 jump] 40)) (.cells #[.bool false, .int .i64 0, .int .i64 0] 40))
  have T := Lib.hid ((Blk.new w 40 #[.bool true, .int .i64 high, .int .i64 jump]).push (.cells #[.bool false, .int .i64 0, .int .i64 0] 40))
  have B := Lib.hid (Blk.new1 w (.cells #[.bool true, .int .i64 high, .int .i64 jump] 40) 40 #[.bool false, .int .i64 0, .int .i64 0])
  go_wp2_with fail
  refine (KV.out _).mono ?_
  rintro e v ⟨rfl, hb⟩
  have hb0 := Lib.hid hb
  clear hb
  replace U := Lib.hid (U.out.later hb0.out)
  replace T := Lib.hid (T.out.later hb0.out)
  replace B := Lib.hid (B.out.later hb0.out)
  clear hb0 KV
  have t0 := T.out.at 0 _ rfl
  have t1 := T.out.at 1 _ rfl
  have t2 := T.out.at 2 _ rfl
  have tz := T.out.frozen
  have r0 := B.out.at 0 _ rfl
  have r1 := B.out.at 1 _ rfl
  have r2 := B.out.at 2 _ rfl
  have rz := B.out.frozen
  have hn10 : w.heap.size + 1 ≠ w.heap.size := by omega
  have hn01 : w.heap.size ≠ w.heap.size + 1 := by omega
  go_wp2_with fail
  refine (K1.out _).mono ?_
  rintro e w1 ⟨rfl, rfl⟩
  go_wp2_with fail
  have BF := Blk.setRow (B.out.far (p := ⟨w.heap.size, 2, none⟩) (by simp) (.int .i64 ((q + 1) % 65536))) [.bool true, .int .i64 high, .int .i64 ((q + 1) % 65536)] rfl
  have UF := below_setRow (g := w.heap.size + 1) (by omega) [.bool true, .int .i64 high, .int .i64 ((q + 1) % 65536)] _ 0 (below_set_old (p := ⟨w.heap.size, 2, none⟩) U.out (by simp) (.int .i64 ((q + 1) % 65536)))
  simp only [setRow, Nat.zero_add, Nat.reduceAdd] at BF UF
  exact bodyPost_ret (v := .tuple #[.agg #[.bool true, .int .i64 high, .int .i64 ((q + 1) % 65536)], .int .i64 0, .bool false]) (res_ctt Try.results19 rfl (run_loadVar_row (P := Try.prog) _ _ _ _ _ _ _ BF Try.underlying40 rfl (by kernel_rfl)) rfl rfl) rfl ⟨rfl, UF⟩
set_option maxRecDepth 100000 in
set_option maxHeartbeats 1600000 in
theorem rFollow_no2h (q0 : 0 ≤ q) (q1 : q ≤ 65535) (b0 : -9223372036854775808 ≤ high) (b1 : high ≤ 9223372036854775807) (c0 : -9223372036854775808 ≤ jump) (c1 : jump ≤ 9223372036854775807) (g : 0 ≤ high) (g2 : high ≤ 281474976710656) (g3 : -1 ≤ jump) (g4 : jump ≤ 65535) (h1 : 0 ≤ Pk.near high q 65536) (h2 : Pk.near high q 65536 ≤ high + 3000) (h3 : Pk.near high q 65536 < high - 100) (hj : q = jump) (hh : 140737488355328 ≤ high) : Calls Try.prog 19 #[.agg #[.bool true, .int .i64 high, .int .i64 jump], .int .u16 q] w fun e w' => e = .returned (.tuple #[.agg #[.bool true, .int .i64 high, .int .i64 ((q + 1) % 65536)], .int .i64 0, .bool false]) ∧ Bel w w' := by
  have k1 := fun W => rExtend_any high q W q0 q1 b0 b1
  obtain ⟨n, hn⟩ : ∃ n, n = Pk.near high q 65536 := ⟨_, rfl⟩
  rw [← hn] at k1 h1 h2 h3
  have hnb := Pk.near_bd16 high q (by omega)
  rw [← hn] at hnb
  obtain ⟨n0, n1, _⟩ := hnb
  have n2 : n ≤ 281474976800000 := by omega
  have n3 : -40000 ≤ n := by omega
  have hv1 := i64_small (high + 3000) (by omega) (by omega)
  have hv2 := i64_small (high - 100) (by omega) (by omega)
  have K1 := Lib.hid k1
  clear k1 n0 n1 hn
  have ej : (jump == q) = true := by rw [beq_iff_eq]; exact hj.symm
  clear hj
  have hw : (q + 1).tmod 65536 = (q + 1) % 65536 := Int.tmod_eq_emod_of_nonneg (by omega)
  have kv := fun W => rValid_ok high jump W true g g2 g3 g4
  have KV := Lib.hid kv
  clear kv
  go_enter Try.func19, Try.ntmps19
  have U := Lib.hid (Bel.push (Bel.push (Bel.refl w) (.cells #[.bool true, .int .i64 high, .int .i64 jump] 40)) (.cells #[.bool false, .int .i64 0, .int .i64 0] 40))
  have T := Lib.hid ((Blk.new w 40 #[.bool true, .int .i64 high, .int .i64 jump]).push (.cells #[.bool false, .int .i64 0, .int .i64 0] 40))
  have B := Lib.hid (Blk.new1 w (.cells #[.bool true, .int .i64 high, .int .i64 jump] 40) 40 #[.bool false, .int .i64 0, .int .i64 0])
  go_wp2_with fail
  refine (KV.out _).mono ?_
  rintro e v ⟨rfl, hb⟩
  have hb0 := Lib.hid hb
  clear hb
  replace U := Lib.hid (U.out.later hb0.out)
  replace T := Lib.hid (T.out.later hb0.out)
  replace B := Lib.hid (B.out.later hb0.out)
  clear hb0 KV
  have t0 := T.out.at 0 _ rfl
  have t1 := T.out.at 1 _ rfl
  have t2 := T.out.at 2 _ rfl
  have tz := T.out.frozen
  have r0 := B.out.at 0 _ rfl
  have r1 := B.out.at 1 _ rfl
  have r2 := B.out.at 2 _ rfl
  have rz := B.out.frozen
  have hn10 : w.heap.size + 1 ≠ w.heap.size := by omega
  have hn01 : w.heap.size ≠ w.heap.size + 1 := by omega
  go_wp2_with fail
  refine (K1.out _).mono ?_
  rintro e w1 ⟨rfl, rfl⟩
  go_wp2_with fail
  have BF := Blk.setRow (B.out.far (p := ⟨w.heap.size, 2, none⟩) (by simp) (.int .i64 ((q + 1) % 65536))) [.bool true, .int .i64 high, .int .i64 ((q + 1) % 65536)] rfl
  have UF := below_setRow (g := w.heap.size + 1) (by omega) [.bool true, .int .i64 high, .int .i64 ((q + 1) % 65536)] _ 0 (below_set_old (p := ⟨w.heap.size, 2, none⟩) U.out (by simp) (.int .i64 ((q + 1) % 65536)))
  simp only [setRow, Nat.zero_add, Nat.reduceAdd] at BF UF
  exact bodyPost_ret (v := .tuple #[.agg #[.bool true, .int .i64 high, .int .i64 ((q + 1) % 65536)], .int .i64 0, .bool false]) (res_ctt Try.results19 rfl (run_loadVar_row (P := Try.prog) _ _ _ _ _ _ _ BF Try.underlying40 rfl (by kernel_rfl)) rfl rfl) rfl ⟨rfl, UF⟩
set_option maxRecDepth 100000 in
set_option maxHeartbeats 1600000 in
theorem rFollow_jump2 (q0 : 0 ≤ q) (q1 : q ≤ 65535) (b0 : -9223372036854775808 ≤ high) (b1 : high ≤ 9223372036854775807) (c0 : -9223372036854775808 ≤ jump) (c1 : jump ≤ 9223372036854775807) (g : 0 ≤ high) (g2 : high ≤ 281474976710656) (g3 : -1 ≤ jump) (g4 : jump ≤ 65535) (h1 : 0 ≤ Pk.near high q 65536) (h2 : Pk.near high q 65536 ≤ high + 3000) (h3 : Pk.near high q 65536 < high - 100) (hj : q = jump) (hh : high < 140737488355328) : Calls Try.prog 19 #[.agg #[.bool true, .int .i64 high, .int .i64 jump], .int .u16 q] w fun e w' => e = .returned (.tuple #[.agg #[.bool true, .int .i64 (high + Pk.gap high q), .int .i64 (-1)], .int .i64 (high + Pk.gap high q), .bool true]) ∧ Bel w w' := by
  have k1 := fun W => rExtend_any high q W q0 q1 b0 b1
  obtain ⟨n, hn⟩ : ∃ n, n = Pk.near high q 65536 := ⟨_, rfl⟩
  rw [← hn] at k1 h1 h2 h3
  have hnb := Pk.near_bd16 high q (by omega)
  rw [← hn] at hnb
  obtain ⟨n0, n1, _⟩ := hnb
  have n2 : n ≤ 281474976800000 := by omega
  have n3 : -40000 ≤ n := by omega
  have hv1 := i64_small (high + 3000) (by omega) (by omega)
  have hv2 := i64_small (high - 100) (by omega) (by omega)
  have K1 := Lib.hid k1
  clear k1 n0 n1 hn
  have ej : (jump == q) = true := by rw [beq_iff_eq]; exact hj.symm
  clear hj
  have hgb := Pk.gap_bd high q
  have hgm := Pk.gap_mod high q q0 q1
  have hgl := Pk.gap_least high q
  obtain ⟨d, hd⟩ : ∃ d : Nat, (d : Int) = Pk.gap high q := ⟨(Pk.gap high q).toNat, by omega⟩
  rw [← hd] at hgb hgm hgl
  rw [← hd]
  obtain ⟨d0, d1⟩ := hgb
  have HGM := Lib.hid hgm
  have HGL := Lib.hid hgl
  clear hgm hgl hd
  have hv3 := i64_small (high + 1) (by omega) (by omega)
  have kv := fun W => rValid_ok high jump W true g g2 g3 g4
  have KV := Lib.hid kv
  clear kv
  go_enter Try.func19, Try.ntmps19
  have U := Lib.hid (Bel.push (Bel.push (Bel.refl w) (.cells #[.bool true, .int .i64 high, .int .i64 jump] 40)) (.cells #[.bool false, .int .i64 0, .int .i64 0] 40))
  have T := Lib.hid ((Blk.new w 40 #[.bool true, .int .i64 high, .int .i64 jump]).push (.cells #[.bool false, .int .i64 0, .int .i64 0] 40))
  have B := Lib.hid (Blk.new1 w (.cells #[.bool true, .int .i64 high, .int .i64 jump] 40) 40 #[.bool false, .int .i64 0, .int .i64 0])
  go_wp2_with fail
  refine (KV.out _).mono ?_
  rintro e v ⟨rfl, hb⟩
  have hb0 := Lib.hid hb
  clear hb
  replace U := Lib.hid (U.out.later hb0.out)
  replace T := Lib.hid (T.out.later hb0.out)
  replace B := Lib.hid (B.out.later hb0.out)
  clear hb0 KV
  have t0 := T.out.at 0 _ rfl
  have t1 := T.out.at 1 _ rfl
  have t2 := T.out.at 2 _ rfl
  have tz := T.out.frozen
  have r0 := B.out.at 0 _ rfl
  have r1 := B.out.at 1 _ rfl
  have r2 := B.out.at 2 _ rfl
  have rz := B.out.frozen
  have hn10 : w.heap.size + 1 ≠ w.heap.size := by omega
  have hn01 : w.heap.size ≠ w.heap.size + 1 := by omega
  go_wp2_with fail
  refine (K1.out _).mono ?_
  rintro e w1 ⟨rfl, rfl⟩
  clear t0 t1 t2 tz r0 r1 r2 rz
  have t0 := T.out.at 0 _ rfl
  have t1 := T.out.at 1 _ rfl
  have t2 := T.out.at 2 _ rfl
  have tz := T.out.frozen
  go_wp2_with fail
  go_loopg [7] d (fun gk s7 wr => ∃ k : Nat, gk + k = d ∧ k < d ∧ s7 = .int .i64 (high + ((k : Int) + 1)) ∧ Hid (wr = v))
  case atStart => exact ⟨0, rfl, by omega, by simp, Lib.hid rfl⟩
  case round =>
    obtain ⟨k, hgk, hkd, rfl, HW⟩ := hrel
    obtain rfl : wr = v := HW.out
    clear HW
    have hk0 : (0 : Int) ≤ (k : Int) := by omega
    have hv4 := i64_small (high + ((k : Int) + 1)) (by omega) (by omega)
    have hv5 := i64_small (high + ((k : Int) + 1) + 1) (by omega) (by omega)
    by_cases hlt : k + 1 < d
    · have hm := HGL.out ((k : Int) + 1) q0 q1 (by omega) (by omega)
      obtain ⟨x, hx⟩ : ∃ x, x = high + ((k : Int) + 1) := ⟨_, rfl⟩
      rw [← hx] at hm hv4 hv5 ⊢
      have em : (x.tmod 65536 != q) = true := by rw [bne_iff_ne, Int.tmod_eq_emod_of_nonneg (by omega)]; exact hm
      have em2 : (x % 65536 != q) = true := by rw [bne_iff_ne]; exact hm
      have HX := Lib.hid hx
      have hx0 : 0 ≤ x := by omega
      have hx1 : x ≤ 281474976800000 := by omega
      clear hx hm
      go_wp2_with fail
      go_roundg (gk - 1)
      case measure => omega
      case rel => exact ⟨k + 1, by omega, hlt, by rw [HX.out]; congr 1; omega, Lib.hid rfl⟩
    · have hdk : (d : Int) = (k : Int) + 1 := by omega
      have hm := HGM.out
      rw [hdk] at hm
      obtain ⟨x, hx⟩ : ∃ x, x = high + ((k : Int) + 1) := ⟨_, rfl⟩
      rw [← hx] at hm hv4 hv5 ⊢
      have em : (x.tmod 65536 != q) = false := by rw [Int.tmod_eq_emod_of_nonneg (by omega), hm]; simp
      have em2 : (x % 65536 != q) = false := by rw [hm]; simp
      have hdx : high + (d : Int) = x := by omega
      have HDX := Lib.hid hdx
      have hx0 : 0 ≤ x := by omega
      have hx1 : x ≤ 281474976800000 := by omega
      clear hx hm hdk hdx HGM HGL
      have r0 := B.out.at 0 _ rfl
      have r1 := B.out.at 1 _ rfl
      have r2 := B.out.at 2 _ rfl
      have rz := B.out.frozen
      go_wp2_with fail
      have BF := Blk.setRow ((B.out.far (p := ⟨w.heap.size, 1, none⟩) (by simp) (.int .i64 x)).far (p := ⟨w.heap.size, 2, none⟩) (by simp) (.int .i64 (-1))) [.bool true, .int .i64 x, .int .i64 (-1)] rfl
      have UF := below_setRow (g := w.heap.size + 1) (by omega) [.bool true, .int .i64 x, .int .i64 (-1)] _ 0 (below_set_old (p := ⟨w.heap.size, 2, none⟩) (below_set_old (p := ⟨w.heap.size, 1, none⟩) U.out (by simp) (.int .i64 x)) (by simp) (.int .i64 (-1)))
      simp only [setRow, Nat.zero_add, Nat.reduceAdd] at BF UF
      exact bodyPost_ret (v := .tuple #[.agg #[.bool true, .int .i64 x, .int .i64 (-1)], .int .i64 x, .bool true]) (res_ctt Try.results19 rfl (run_loadVar_row (P := Try.prog) _ _ _ _ _ _ _ BF Try.underlying40 rfl (by kernel_rfl)) rfl rfl) rfl ⟨(by rw [HDX.out]), UF⟩
end
end Go.Proofs.Ytbpcpgmbfnmacaa

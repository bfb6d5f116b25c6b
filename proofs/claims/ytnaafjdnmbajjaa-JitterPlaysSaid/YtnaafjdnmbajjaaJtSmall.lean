/- Layer 30: the small functions. -/
import Derived.Test.YtnaafjdnmbajjaaOpenRowsQ
import Derived.Test.YtnaafjdnmbajjaaRes
import Derived.Laws.Bits64b
import Derived.BigQuiet
import Derived.Deep.QuietTactic
namespace Go.Proofs.Ytnaafjdnmbajjaa
open Go.RowKit
set_option linter.unusedVariables false
set_option linter.unusedSimpArgs false
attribute [local go_sem ↓] run_min_plain run_max_plain
attribute [local go_sem] setCell_drewN alloc_drewN
theorem i64_small (x : Int) (h0 : -9223372036854775808 ≤ x) (h1 : x ≤ 9223372036854775807) : IntKind.i64.wrap x = x := by
  by_cases h : 0 ≤ x
  · have e : x % 2 ^ 64 = x := Int.emod_eq_of_lt h (by omega)
    simp only [IntKind.wrap, IntKind.bits, IntKind.signed, e]
    rw [if_neg (by simp; omega)]
  · have e : x % 2 ^ 64 = x + 2 ^ 64 := by omega
    simp only [IntKind.wrap, IntKind.bits, IntKind.signed, e]
    rw [if_pos (by simp; omega)]
    omega
theorem ret_i {k : IntKind} {a b : Int} (h : a = b) : Ending.returned (.int k a) = .returned (.int k b) := by rw [h]
theorem ret_b {a b : Bool} (h : a = b) : Ending.returned (.bool a) = .returned (.bool b) := by rw [h]
set_option maxRecDepth 100000 in
set_option maxHeartbeats 12800000 in
theorem eighth_any (x : Int) (w : World) (x0 : -9223372036854775808 ≤ x) (x1 : x ≤ 9223372036854775807) : Calls Try.prog 50 #[.int .i64 x] w fun e w' => e = .returned (.int .i64 (x / 8)) ∧ w = w' := by
  go_enter Try.func50, Try.ntmps50
  go_wp2_with fail
  go_ret
  exact ⟨by rfl, rfl⟩
set_option maxRecDepth 100000 in
set_option maxHeartbeats 12800000 in
theorem reighth_any (x : Int) (w : World) (x0 : -9223372036854775000 ≤ x) (x1 : x ≤ 9223372036854775000) : Calls Try.prog 39 #[.int .i64 x] w fun e w' => e = .returned (.int .i64 (x / 8)) ∧ w = w' := by
  obtain ⟨q, hq⟩ : ∃ q, x.tdiv 8 = q := ⟨_, rfl⟩
  obtain ⟨r, hr⟩ : ∃ r, x.tmod 8 = r := ⟨_, rfl⟩
  have hqr : 8 * q + r = x := by rw [← hq, ← hr]; exact Int.mul_tdiv_add_tmod x 8
  have hb1 := Int.tmod_lt_of_pos x (show (0 : Int) < 8 by decide)
  have hb2 : -8 < r := by
    by_cases h : 0 ≤ x
    · have := Int.tmod_nonneg 8 h; omega
    · have h3 := Int.tmod_lt_of_pos (-x) (show (0 : Int) < 8 by decide)
      rw [Int.neg_tmod] at h3
      omega
  rw [hr] at hb1
  obtain ⟨y, hy⟩ : ∃ y, y = x / 8 := ⟨_, rfl⟩
  rw [← hy]
  have hqb : -1152921504606846976 ≤ q ∧ q ≤ 1152921504606846976 := by omega
  obtain ⟨hqb1, hqb2⟩ := hqb
  by_cases hneg : r < 0
  · have hY : y = q - 1 := by omega
    have HY := Lib.hid hY
    clear hY hy hqr
    go_enter Try.func39, Try.ntmps39
    go_wp2_with fail
    go_ret
    exact ⟨ret_i HY.out.symm, rfl⟩
  · have hY : y = q := by
      have : 0 ≤ r := by omega
      omega
    have HY := Lib.hid hY
    have hnn : 0 ≤ r := by omega
    clear hY hy hqr
    go_enter Try.func39, Try.ntmps39
    go_wp2_with fail
    go_ret
    exact ⟨ret_i HY.out.symm, rfl⟩
set_option maxRecDepth 100000 in
set_option maxHeartbeats 12800000 in
theorem within_any (n lo hi : Int) (w : World) (b : Bool) (hb : b = decide (lo ≤ n ∧ n ≤ hi)) : Calls Try.prog 43 #[.int .i64 n, .int .i64 lo, .int .i64 hi] w fun e w' => e = .returned (.bool b) ∧ w = w' := by
  by_cases h1 : lo ≤ n
  · have hv : b = decide (n ≤ hi) := by rw [hb]; simp [h1]
    clear hb
    subst hv
    go_enter Try.func43, Try.ntmps43
    go_wp2_with fail
    go_ret
    exact ⟨by rfl, rfl⟩
  · have hv : b = false := by rw [hb]; simp [h1]
    clear hb
    subst hv
    have h1' : n < lo := by omega
    go_enter Try.func43, Try.ntmps43
    go_wp2_with fail
    go_ret
    exact ⟨by rfl, rfl⟩
set_option maxRecDepth 100000 in
set_option maxHeartbeats 12800000 in
theorem cmpi_nan (x : Int) (w : World) : Calls Try.prog 56 #[.int .i64 x] w fun e w' => e = .returned (.bool false) ∧ w = w' := by
  go_enter Try.func56, Try.ntmps56
  go_wp2_with fail
  go_ret
  exact ⟨by simp, rfl⟩
set_option maxRecDepth 100000 in
set_option maxHeartbeats 12800000 in
theorem cmpi_any (x y : Int) (w : World) : Calls Try.prog 51 #[.int .i64 x, .int .i64 y] w fun e w' => e = .returned (.int .i64 (if x < y then -1 else if y < x then 1 else 0)) ∧ w = w' := by
  obtain ⟨R, hR⟩ : ∃ R : Int, R = if x < y then -1 else if y < x then 1 else 0 := ⟨_, rfl⟩
  rw [← hR]
  have hc : (x < y ∧ R = -1) ∨ (¬x < y ∧ y < x ∧ R = 1) ∨ (¬x < y ∧ ¬y < x ∧ R = 0) := by
    by_cases h1 : x < y
    · left; exact ⟨h1, by rw [hR, if_pos h1]⟩
    · by_cases h2 : y < x
      · right; left; exact ⟨h1, h2, by rw [hR, if_neg h1, if_pos h2]⟩
      · right; right; exact ⟨h1, h2, by rw [hR, if_neg h1, if_neg h2]⟩
  clear hR
  rcases hc with ⟨h1, rfl⟩ | ⟨h1, h2, rfl⟩ | ⟨h1, h2, rfl⟩
  all_goals
    go_enter Try.func51, Try.ntmps51
    go_wp2_with fail
    refine (cmpi_nan _ _).mono ?_
    rintro e w1 ⟨rfl, rfl⟩
    go_wp2_with fail
    refine (cmpi_nan _ _).mono ?_
    rintro e w1 ⟨rfl, rfl⟩
    go_wp2_with fail
    go_ret
    exact ⟨rfl, rfl⟩
set_option maxRecDepth 100000 in
set_option maxHeartbeats 12800000 in
theorem cmpl_nan (x : Int) (w : World) : Calls Try.prog 57 #[.int .i64 x] w fun e w' => e = .returned (.bool false) ∧ w = w' := by
  go_enter Try.func57, Try.ntmps57
  go_wp2_with fail
  go_ret
  exact ⟨by simp, rfl⟩
set_option maxRecDepth 100000 in
set_option maxHeartbeats 12800000 in
theorem cmpl_any (x y : Int) (w : World) : Calls Try.prog 52 #[.int .i64 x, .int .i64 y] w fun e w' => e = .returned (.int .i64 (if x < y then -1 else if y < x then 1 else 0)) ∧ w = w' := by
  obtain ⟨R, hR⟩ : ∃ R : Int, R = if x < y then -1 else if y < x then 1 else 0 := ⟨_, rfl⟩
  rw [← hR]
  have hc : (x < y ∧ R = -1) ∨ (¬x < y ∧ y < x ∧ R = 1) ∨ (¬x < y ∧ ¬y < x ∧ R = 0) := by
    by_cases h1 : x < y
    · left; exact ⟨h1, by rw [hR, if_pos h1]⟩
    · by_cases h2 : y < x
      · right; left; exact ⟨h1, h2, by rw [hR, if_neg h1, if_pos h2]⟩
      · right; right; exact ⟨h1, h2, by rw [hR, if_neg h1, if_neg h2]⟩
  clear hR
  rcases hc with ⟨h1, rfl⟩ | ⟨h1, h2, rfl⟩ | ⟨h1, h2, rfl⟩
  all_goals
    go_enter Try.func52, Try.ntmps52
    go_wp2_with fail
    refine (cmpl_nan _ _).mono ?_
    rintro e w1 ⟨rfl, rfl⟩
    go_wp2_with fail
    refine (cmpl_nan _ _).mono ?_
    rintro e w1 ⟨rfl, rfl⟩
    go_wp2_with fail
    go_ret
    exact ⟨rfl, rfl⟩
set_option maxRecDepth 100000 in
set_option maxHeartbeats 12800000 in
theorem config_any (l m : Int) (w : World) (v : Bool) (hv : v = decide (1 ≤ l ∧ l ≤ m ∧ m ≤ 1000)) : Calls Try.prog 42 #[.agg #[.int .i64 l, .int .i64 m]] w fun e w' => e = .returned (.bool v) ∧ Below w.heap.size w w' := by
  have hc : (l < 1 ∧ v = false) ∨ (1 ≤ l ∧ m < l ∧ v = false) ∨ (1 ≤ l ∧ l ≤ m ∧ 1000 < m ∧ v = false) ∨ (1 ≤ l ∧ l ≤ m ∧ m ≤ 1000 ∧ v = true) := by
    by_cases p0 : 1 ≤ l
    rotate_left
    · have q0 : l < 1 := by omega
      have hf : v = false := by rw [hv, decide_eq_false_iff_not]; intro hx; omega
      left; exact ⟨q0, hf⟩
    by_cases p1 : l ≤ m
    rotate_left
    · have q1 : m < l := by omega
      have hf : v = false := by rw [hv, decide_eq_false_iff_not]; intro hx; omega
      right; left; exact ⟨p0, q1, hf⟩
    by_cases p2 : m ≤ 1000
    rotate_left
    · have q2 : 1000 < m := by omega
      have hf : v = false := by rw [hv, decide_eq_false_iff_not]; intro hx; omega
      right; right; left; exact ⟨p0, p1, q2, hf⟩
    have ht : v = true := by rw [hv, decide_eq_true_iff]; omega
    right; right; right; exact ⟨p0, p1, p2, ht⟩
  clear hv
  rcases hc with ⟨h0, rfl⟩ | ⟨h0, h1, rfl⟩ | ⟨h0, h1, h2, rfl⟩ | ⟨h0, h1, h2, rfl⟩
  all_goals
    go_enter Try.func42, Try.ntmps42
    go_wp2_with fail
    go_ret
    exact ⟨by first | (simp; done) | (simp; omega), (Below.refl _ _).alloc (Nat.le_refl _) _⟩
set_option maxRecDepth 100000 in
set_option maxHeartbeats 12800000 in
theorem rconfig_any (l m : Int) (w : World) (v : Bool) (hv : v = decide (1 ≤ l ∧ l ≤ m ∧ m ≤ 1000)) : Calls Try.prog 24 #[.agg #[.int .i64 l, .int .i64 m]] w fun e w' => e = .returned (.bool v) ∧ Below w.heap.size w w' := by
  have hc : (l < 1 ∧ v = false) ∨ (1 ≤ l ∧ m < l ∧ v = false) ∨ (1 ≤ l ∧ l ≤ m ∧ 1000 < m ∧ v = false) ∨ (1 ≤ l ∧ l ≤ m ∧ m ≤ 1000 ∧ v = true) := by
    by_cases p0 : 1 ≤ l
    rotate_left
    · have q0 : l < 1 := by omega
      have hf : v = false := by rw [hv, decide_eq_false_iff_not]; intro hx; omega
      left; exact ⟨q0, hf⟩
    by_cases p1 : l ≤ m
    rotate_left
    · have q1 : m < l := by omega
      have hf : v = false := by rw [hv, decide_eq_false_iff_not]; intro hx; omega
      right; left; exact ⟨p0, q1, hf⟩
    by_cases p2 : m ≤ 1000
    rotate_left
    · have q2 : 1000 < m := by omega
      have hf : v = false := by rw [hv, decide_eq_false_iff_not]; intro hx; omega
      right; right; left; exact ⟨p0, p1, q2, hf⟩
    have ht : v = true := by rw [hv, decide_eq_true_iff]; omega
    right; right; right; exact ⟨p0, p1, p2, ht⟩
  clear hv
  rcases hc with ⟨h0, rfl⟩ | ⟨h0, h1, rfl⟩ | ⟨h0, h1, h2, rfl⟩ | ⟨h0, h1, h2, rfl⟩
  all_goals
    go_enter Try.func24, Try.ntmps24
    go_wp2_with fail
    go_ret
    exact ⟨by first | (simp; done) | (simp; omega), (Below.refl _ _).alloc (Nat.le_refl _) _⟩
set_option maxRecDepth 100000 in
set_option maxHeartbeats 12800000 in
theorem formed_any (sq ti : Int) (mk : Bool) (ty : Int) (A : Option Addr) (n c : Nat) (w : World) (v : Bool) (hv : v = decide ((0 ≤ sq ∧ sq ≤ 281474976710656) ∧ (-281474976710656 ≤ ti ∧ ti ≤ 281474976710656) ∧ n ≤ 1500)) : Calls Try.prog 46 #[.agg #[.int .i64 sq, .int .i64 ti, .bool mk, .int .u8 ty, .slice A n c]] w fun e w' => e = .returned (.bool v) ∧ Below w.heap.size w w' := by
  have hc : (sq < 0 ∧ v = false) ∨ (0 ≤ sq ∧ 281474976710656 < sq ∧ v = false) ∨ (0 ≤ sq ∧ sq ≤ 281474976710656 ∧ ti < -281474976710656 ∧ v = false) ∨ (0 ≤ sq ∧ sq ≤ 281474976710656 ∧ -281474976710656 ≤ ti ∧ 281474976710656 < ti ∧ v = false) ∨ (0 ≤ sq ∧ sq ≤ 281474976710656 ∧ -281474976710656 ≤ ti ∧ ti ≤ 281474976710656 ∧ 1500 < (n : Int) ∧ v = false) ∨ (0 ≤ sq ∧ sq ≤ 281474976710656 ∧ -281474976710656 ≤ ti ∧ ti ≤ 281474976710656 ∧ (n : Int) ≤ 1500 ∧ v = true) := by
    by_cases p0 : 0 ≤ sq
    rotate_left
    · have q0 : sq < 0 := by omega
      have hf : v = false := by rw [hv, decide_eq_false_iff_not]; intro hx; omega
      left; exact ⟨q0, hf⟩
    by_cases p1 : sq ≤ 281474976710656
    rotate_left
    · have q1 : 281474976710656 < sq := by omega
      have hf : v = false := by rw [hv, decide_eq_false_iff_not]; intro hx; omega
      right; left; exact ⟨p0, q1, hf⟩
    by_cases p2 : -281474976710656 ≤ ti
    rotate_left
    · have q2 : ti < -281474976710656 := by omega
      have hf : v = false := by rw [hv, decide_eq_false_iff_not]; intro hx; omega
      right; right; left; exact ⟨p0, p1, q2, hf⟩
    by_cases p3 : ti ≤ 281474976710656
    rotate_left
    · have q3 : 281474976710656 < ti := by omega
      have hf : v = false := by rw [hv, decide_eq_false_iff_not]; intro hx; omega
      right; right; right; left; exact ⟨p0, p1, p2, q3, hf⟩
    by_cases p4 : (n : Int) ≤ 1500
    rotate_left
    · have q4 : 1500 < (n : Int) := by omega
      have hf : v = false := by rw [hv, decide_eq_false_iff_not]; intro hx; omega
      right; right; right; right; left; exact ⟨p0, p1, p2, p3, q4, hf⟩
    have ht : v = true := by rw [hv, decide_eq_true_iff]; omega
    right; right; right; right; right; exact ⟨p0, p1, p2, p3, p4, ht⟩
  clear hv
  rcases hc with ⟨h0, rfl⟩ | ⟨h0, h1, rfl⟩ | ⟨h0, h1, h2, rfl⟩ | ⟨h0, h1, h2, h3, rfl⟩ | ⟨h0, h1, h2, h3, h4, rfl⟩ | ⟨h0, h1, h2, h3, h4, rfl⟩
  all_goals
    go_enter Try.func46, Try.ntmps46
    go_wp2_with fail
    go_ret
    exact ⟨by first | (simp; done) | (simp; omega), (Below.refl _ _).alloc (Nat.le_refl _) _⟩
set_option maxRecDepth 100000 in
set_option maxHeartbeats 12800000 in
theorem rformed_any (sq ti : Int) (mk : Bool) (ty : Int) (A : Option Addr) (n c : Nat) (w : World) (hn : n ≤ 1000000000) (v : Bool) (hv : v = decide ((0 ≤ sq ∧ sq ≤ 281474976710656) ∧ (-281474976710656 ≤ ti ∧ ti ≤ 281474976710656) ∧ n ≤ 1500)) : Calls Try.prog 25 #[.agg #[.int .i64 sq, .int .i64 ti, .bool mk, .int .u8 ty, .slice A n c]] w fun e w' => e = .returned (.bool v) ∧ Below w.heap.size w w' := by
  obtain ⟨b1, hb1⟩ : ∃ b, b = decide (0 ≤ sq ∧ sq ≤ 281474976710656) := ⟨_, rfl⟩
  obtain ⟨b2, hb2⟩ : ∃ b, b = decide (-281474976710656 ≤ ti ∧ ti ≤ 281474976710656) := ⟨_, rfl⟩
  have k1 := Lib.hid fun W => within_any sq 0 281474976710656 W b1 hb1
  have k2 := Lib.hid fun W => within_any ti (-281474976710656) 281474976710656 W b2 hb2
  have hV : v = (b1 && (b2 && decide ((n : Int) ≤ 1500))) := by
    rw [hv, hb1, hb2, ← Bool.decide_and, ← Bool.decide_and]
    congr 1
    rw [eq_iff_iff]
    omega
  have HV := Lib.hid hV
  clear hv hb1 hb2 hV
  cases b1
  · go_enter Try.func25, Try.ntmps25
    go_wp2_with fail
    refine (k1.out _).mono ?_
    rintro e w1 ⟨rfl, rfl⟩
    go_wp2_with fail
    go_ret
    exact ⟨ret_b (by rw [HV.out]; rfl), (Below.refl _ _).alloc (Nat.le_refl _) _⟩
  cases b2
  · go_enter Try.func25, Try.ntmps25
    go_wp2_with fail
    refine (k1.out _).mono ?_
    rintro e w1 ⟨rfl, rfl⟩
    go_wp2_with fail
    refine (k2.out _).mono ?_
    rintro e w1 ⟨rfl, rfl⟩
    go_wp2_with fail
    go_ret
    exact ⟨ret_b (by rw [HV.out]; rfl), (Below.refl _ _).alloc (Nat.le_refl _) _⟩
  · go_enter Try.func25, Try.ntmps25
    go_wp2_with fail
    refine (k1.out _).mono ?_
    rintro e w1 ⟨rfl, rfl⟩
    go_wp2_with fail
    refine (k2.out _).mono ?_
    rintro e w1 ⟨rfl, rfl⟩
    go_wp2_with fail
    go_ret
    exact ⟨ret_b (by rw [HV.out]; simp), (Below.refl _ _).alloc (Nat.le_refl _) _⟩
set_option maxRecDepth 100000 in
set_option maxHeartbeats 12800000 in
theorem order_any (a0 s0 t0 y0 a1 s1 t1 y1 : Int) (m0 m1 : Bool) (A0 A1 : Option Addr) (n0 c0 n1 c1 : Nat) (w : World) : Calls Try.prog 36 #[.agg #[.int .i64 a0, .int .i64 s0, .int .i64 t0, .bool m0, .int .u8 y0, .slice A0 n0 c0], .agg #[.int .i64 a1, .int .i64 s1, .int .i64 t1, .bool m1, .int .u8 y1, .slice A1 n1 c1]] w fun e w' => e = .returned (.int .i64 (if a0 < a1 then -1 else if a1 < a0 then 1 else if s0 < s1 then -1 else if s1 < s0 then 1 else 0)) ∧ Below w.heap.size w w' := by
  obtain ⟨R, hR⟩ : ∃ R : Int, R = if a0 < a1 then -1 else if a1 < a0 then 1 else if s0 < s1 then -1 else if s1 < s0 then 1 else 0 := ⟨_, rfl⟩
  rw [← hR]
  have k1 := fun W => cmpi_any a0 a1 W
  have k2 := fun W => cmpl_any s0 s1 W
  obtain ⟨p, hp⟩ : ∃ p : Int, p = if a0 < a1 then -1 else if a1 < a0 then 1 else 0 := ⟨_, rfl⟩
  obtain ⟨q, hq⟩ : ∃ q : Int, q = if s0 < s1 then -1 else if s1 < s0 then 1 else 0 := ⟨_, rfl⟩
  rw [← hp] at k1
  rw [← hq] at k2
  have hc : (p ≠ 0 ∧ R = p) ∨ (p = 0 ∧ R = q) := by
    by_cases h1 : a0 < a1
    · left; rw [hp, hR, if_pos h1, if_pos h1]; exact ⟨by decide, rfl⟩
    · by_cases h2 : a1 < a0
      · left; rw [hp, hR, if_neg h1, if_pos h2, if_neg h1, if_pos h2]; exact ⟨by decide, rfl⟩
      · right; rw [hp, hR, hq, if_neg h1, if_neg h2, if_neg h1, if_neg h2]; exact ⟨rfl, rfl⟩
  have K1 := Lib.hid k1
  have K2 := Lib.hid k2
  clear k1 k2 hp hq hR
  rcases hc with ⟨h1, rfl⟩ | ⟨rfl, rfl⟩
  · have hb : (R != 0) = true := by simpa using h1
    clear h1
    go_enter Try.func36, Try.ntmps36
    go_wp2_with fail
    refine (K1.out _).mono ?_
    rintro e w1 ⟨rfl, rfl⟩
    go_wp2_with fail
    go_ret
    exact ⟨rfl, (((Below.refl _ _).alloc (Nat.le_refl _) _).alloc (by simp) _)⟩
  · go_enter Try.func36, Try.ntmps36
    go_wp2_with fail
    refine (K1.out _).mono ?_
    rintro e w1 ⟨rfl, rfl⟩
    go_wp2_with fail
    refine (K2.out _).mono ?_
    rintro e w1 ⟨rfl, rfl⟩
    go_wp2_with fail
    go_ret
    exact ⟨rfl, (((Below.refl _ _).alloc (Nat.le_refl _) _).alloc (by simp) _)⟩
end Go.Proofs.Ytnaafjdnmbajjaa

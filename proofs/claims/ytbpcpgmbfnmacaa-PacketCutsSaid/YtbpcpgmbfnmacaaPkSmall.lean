/- Layer 25: sequence numbers, in the program and in the reference. -/
import Derived.Test.YtbpcpgmbfnmacaaPkPlain
import Derived.Test.YtbpcpgmbfnmacaaLaw
import Derived.Test.YtbpcpgmbfnmacaaLate
import Derived.Test.YtbpcpgmbfnmacaaRes
import Derived.Laws.BitsAllLaws
namespace Go.Proofs.Ytbpcpgmbfnmacaa
open Go.RowKit
set_option linter.unusedVariables false
set_option linter.unusedSimpArgs false
attribute [local go_sem ↓] run_min_plain run_max_plain
attribute [local go_sem] setCell_drewN alloc_drewN
theorem ret_int'' {k : IntKind} {a b : Int} (h : a = b) : Ending.returned (.int k a) = .returned (.int k b) := by rw [h]
theorem i64_small (x : Int) (h0 : -9223372036854775808 ≤ x) (h1 : x ≤ 9223372036854775807) : IntKind.i64.wrap x = x := by
  by_cases h : 0 ≤ x
  · have e : x % 2 ^ 64 = x := Int.emod_eq_of_lt h (by omega)
    simp only [IntKind.wrap, IntKind.bits, IntKind.signed, e]
    rw [if_neg (by simp; omega)]
  · have e : x % 2 ^ 64 = x + 2 ^ 64 := by omega
    simp only [IntKind.wrap, IntKind.bits, IntKind.signed, e]
    rw [if_pos (by simp; omega)]
    omega
theorem u16_wrap (n : Int) : IntKind.u16.wrap n = n % 65536 := by simp [IntKind.wrap, IntKind.bits, IntKind.signed]
theorem i64_mask16 (z : Int) : bits BinOp.and IntKind.i64 z 65535 = z % 65536 := by
  show IntKind.i64.wrap (((BitVec.ofInt 64 z &&& BitVec.ofInt 64 65535).toNat : Nat) : Int) = _
  have e : (BitVec.ofInt 64 65535).toNat = 2 ^ 16 - 1 := by decide
  rw [BitVec.toNat_and, e, Nat.and_two_pow_sub_one_eq_mod, BitVec.toNat_ofInt]
  have h : (((z % (2 ^ 64 : Nat)).toNat % 2 ^ 16 : Nat) : Int) = z % 65536 := by omega
  rw [h, i64_small _ (by omega) (by omega)]
theorem i64_mask32 (z : Int) : bits BinOp.and IntKind.i64 z 4294967295 = z % 4294967296 := by
  show IntKind.i64.wrap (((BitVec.ofInt 64 z &&& BitVec.ofInt 64 4294967295).toNat : Nat) : Int) = _
  have e : (BitVec.ofInt 64 4294967295).toNat = 2 ^ 32 - 1 := by decide
  rw [BitVec.toNat_and, e, Nat.and_two_pow_sub_one_eq_mod, BitVec.toNat_ofInt]
  have h : (((z % (2 ^ 64 : Nat)).toNat % 2 ^ 32 : Nat) : Int) = z % 4294967296 := by omega
  rw [h, i64_small _ (by omega) (by omega)]
section
variable (last x a b : Int) (w : World)
set_option maxHeartbeats 1600000 in
theorem near16_any (x0 : 0 ≤ x) (x1 : x ≤ 65535) (l0 : -9223372036854775808 ≤ last) (l1 : last ≤ 9223372036854775807) : Calls Try.prog 37 #[.int .i64 last, .int .i64 x, .int .i64 65536] w fun e w' => e = .returned (.int .i64 (Pk.near last x 65536)) ∧ w = w' := by
  obtain ⟨R, hR⟩ : ∃ R, R = Pk.near last x 65536 := ⟨_, rfl⟩
  rw [← hR]
  unfold Pk.near at hR
  by_cases h1 : last < -1152921504606846976
  · rw [if_pos (.inl h1)] at hR
    subst hR
    go_enter Try.func37, Try.ntmps37
    go_wp2
    go_ret
    exact ⟨rfl, rfl⟩
  by_cases h2 : 1152921504606846976 < last
  · rw [if_pos (.inr h2)] at hR
    subst hR
    go_enter Try.func37, Try.ntmps37
    go_wp2
    go_ret
    exact ⟨rfl, rfl⟩
  rw [if_neg (by omega)] at hR
  have h1' : -1152921504606846976 ≤ last := by omega
  have h2' : last ≤ 1152921504606846976 := by omega
  have hmk := i64_mask16 (x - last)
  obtain ⟨d, hd⟩ : ∃ d, d = (x - last) % 65536 := ⟨_, rfl⟩
  have hd0 : 0 ≤ d := by omega
  have hd1 : d ≤ 65535 := by omega
  rw [← hd] at hR hmk
  rw [show (65536 : Int) / 2 = 32768 by decide] at hR
  clear h1 h2
  clear hd
  by_cases h3 : 32768 < d
  · rw [if_pos h3] at hR
    have HR := Lib.hid hR
    clear hR
    go_enter Try.func37, Try.ntmps37
    go_wp2
    go_ret
    exact ⟨ret_int'' (by have := HR.out; omega), rfl⟩
  · rw [if_neg h3] at hR
    have HR := Lib.hid hR
    have h3' : d ≤ 32768 := by omega
    clear hR h3
    go_enter Try.func37, Try.ntmps37
    go_wp2
    go_ret
    exact ⟨ret_int'' (by have := HR.out; omega), rfl⟩
set_option maxHeartbeats 1600000 in
theorem rnear16_any (x0 : 0 ≤ x) (x1 : x ≤ 65535) (l0 : -9223372036854775808 ≤ last) (l1 : last ≤ 9223372036854775807) : Calls Try.prog 38 #[.int .i64 last, .int .i64 x, .int .i64 65536] w fun e w' => e = .returned (.int .i64 (Pk.near last x 65536)) ∧ w = w' := by
  obtain ⟨R, hR⟩ : ∃ R, R = Pk.near last x 65536 := ⟨_, rfl⟩
  rw [← hR]
  unfold Pk.near at hR
  by_cases h1 : last < -1152921504606846976
  · rw [if_pos (.inl h1)] at hR
    subst hR
    go_enter Try.func38, Try.ntmps38
    go_wp2
    go_ret
    exact ⟨rfl, rfl⟩
  by_cases h2 : 1152921504606846976 < last
  · rw [if_pos (.inr h2)] at hR
    subst hR
    go_enter Try.func38, Try.ntmps38
    go_wp2
    go_ret
    exact ⟨rfl, rfl⟩
  rw [if_neg (by omega)] at hR
  have h1' : -1152921504606846976 ≤ last := by omega
  have h2' : last ≤ 1152921504606846976 := by omega
  have hmk := i64_mask16 (x - last)
  obtain ⟨d, hd⟩ : ∃ d, d = (x - last) % 65536 := ⟨_, rfl⟩
  have hd0 : 0 ≤ d := by omega
  have hd1 : d ≤ 65535 := by omega
  rw [← hd] at hR hmk
  rw [show (65536 : Int) / 2 = 32768 by decide] at hR
  clear h1 h2
  obtain ⟨s, hs⟩ : ∃ s, s = (x - last).tmod 65536 := ⟨_, rfl⟩
  have hsb : -65536 < s ∧ s < 65536 := by
    rw [hs, Int.tmod_eq_emod]
    split <;> omega
  have hsm : (s + 65536) % 65536 = d := by
    rw [hd, hs]
    have := Int.tmod_eq_emod (a := x - last) (b := 65536)
    rw [this]
    split <;> omega
  have hst : (s + 65536).tmod 65536 = d := by rw [Int.tmod_eq_emod_of_nonneg (by omega)]; exact hsm
  have hs0 := hsb.1
  have hs1 := hsb.2
  have hs' := hs.symm
  clear hs hsb hd hmk
  by_cases h3 : 32768 < d
  · rw [if_pos h3] at hR
    have HR := Lib.hid hR
    clear hR
    go_enter Try.func38, Try.ntmps38
    go_wp2
    go_ret
    exact ⟨ret_int'' (by have := HR.out; omega), rfl⟩
  · rw [if_neg h3] at hR
    have HR := Lib.hid hR
    have h3' : d ≤ 32768 := by omega
    clear hR h3
    go_enter Try.func38, Try.ntmps38
    go_wp2
    go_ret
    exact ⟨ret_int'' (by have := HR.out; omega), rfl⟩
set_option maxHeartbeats 1600000 in
theorem near32_any (x0 : 0 ≤ x) (x1 : x ≤ 4294967295) (l0 : -9223372036854775808 ≤ last) (l1 : last ≤ 9223372036854775807) : Calls Try.prog 37 #[.int .i64 last, .int .i64 x, .int .i64 4294967296] w fun e w' => e = .returned (.int .i64 (Pk.near last x 4294967296)) ∧ w = w' := by
  obtain ⟨R, hR⟩ : ∃ R, R = Pk.near last x 4294967296 := ⟨_, rfl⟩
  rw [← hR]
  unfold Pk.near at hR
  by_cases h1 : last < -1152921504606846976
  · rw [if_pos (.inl h1)] at hR
    subst hR
    go_enter Try.func37, Try.ntmps37
    go_wp2
    go_ret
    exact ⟨rfl, rfl⟩
  by_cases h2 : 1152921504606846976 < last
  · rw [if_pos (.inr h2)] at hR
    subst hR
    go_enter Try.func37, Try.ntmps37
    go_wp2
    go_ret
    exact ⟨rfl, rfl⟩
  rw [if_neg (by omega)] at hR
  have h1' : -1152921504606846976 ≤ last := by omega
  have h2' : last ≤ 1152921504606846976 := by omega
  have hmk := i64_mask32 (x - last)
  obtain ⟨d, hd⟩ : ∃ d, d = (x - last) % 4294967296 := ⟨_, rfl⟩
  have hd0 : 0 ≤ d := by omega
  have hd1 : d ≤ 4294967295 := by omega
  rw [← hd] at hR hmk
  rw [show (4294967296 : Int) / 2 = 2147483648 by decide] at hR
  clear h1 h2
  clear hd
  by_cases h3 : 2147483648 < d
  · rw [if_pos h3] at hR
    have HR := Lib.hid hR
    clear hR
    go_enter Try.func37, Try.ntmps37
    go_wp2
    go_ret
    exact ⟨ret_int'' (by have := HR.out; omega), rfl⟩
  · rw [if_neg h3] at hR
    have HR := Lib.hid hR
    have h3' : d ≤ 2147483648 := by omega
    clear hR h3
    go_enter Try.func37, Try.ntmps37
    go_wp2
    go_ret
    exact ⟨ret_int'' (by have := HR.out; omega), rfl⟩
set_option maxHeartbeats 1600000 in
theorem rnear32_any (x0 : 0 ≤ x) (x1 : x ≤ 4294967295) (l0 : -9223372036854775808 ≤ last) (l1 : last ≤ 9223372036854775807) : Calls Try.prog 38 #[.int .i64 last, .int .i64 x, .int .i64 4294967296] w fun e w' => e = .returned (.int .i64 (Pk.near last x 4294967296)) ∧ w = w' := by
  obtain ⟨R, hR⟩ : ∃ R, R = Pk.near last x 4294967296 := ⟨_, rfl⟩
  rw [← hR]
  unfold Pk.near at hR
  by_cases h1 : last < -1152921504606846976
  · rw [if_pos (.inl h1)] at hR
    subst hR
    go_enter Try.func38, Try.ntmps38
    go_wp2
    go_ret
    exact ⟨rfl, rfl⟩
  by_cases h2 : 1152921504606846976 < last
  · rw [if_pos (.inr h2)] at hR
    subst hR
    go_enter Try.func38, Try.ntmps38
    go_wp2
    go_ret
    exact ⟨rfl, rfl⟩
  rw [if_neg (by omega)] at hR
  have h1' : -1152921504606846976 ≤ last := by omega
  have h2' : last ≤ 1152921504606846976 := by omega
  have hmk := i64_mask32 (x - last)
  obtain ⟨d, hd⟩ : ∃ d, d = (x - last) % 4294967296 := ⟨_, rfl⟩
  have hd0 : 0 ≤ d := by omega
  have hd1 : d ≤ 4294967295 := by omega
  rw [← hd] at hR hmk
  rw [show (4294967296 : Int) / 2 = 2147483648 by decide] at hR
  clear h1 h2
  obtain ⟨s, hs⟩ : ∃ s, s = (x - last).tmod 4294967296 := ⟨_, rfl⟩
  have hsb : -4294967296 < s ∧ s < 4294967296 := by
    rw [hs, Int.tmod_eq_emod]
    split <;> omega
  have hsm : (s + 4294967296) % 4294967296 = d := by
    rw [hd, hs]
    have := Int.tmod_eq_emod (a := x - last) (b := 4294967296)
    rw [this]
    split <;> omega
  have hst : (s + 4294967296).tmod 4294967296 = d := by rw [Int.tmod_eq_emod_of_nonneg (by omega)]; exact hsm
  have hs0 := hsb.1
  have hs1 := hsb.2
  have hs' := hs.symm
  clear hs hsb hd hmk
  by_cases h3 : 2147483648 < d
  · rw [if_pos h3] at hR
    have HR := Lib.hid hR
    clear hR
    go_enter Try.func38, Try.ntmps38
    go_wp2
    go_ret
    exact ⟨ret_int'' (by have := HR.out; omega), rfl⟩
  · rw [if_neg h3] at hR
    have HR := Lib.hid hR
    have h3' : d ≤ 2147483648 := by omega
    clear hR h3
    go_enter Try.func38, Try.ntmps38
    go_wp2
    go_ret
    exact ⟨ret_int'' (by have := HR.out; omega), rfl⟩
theorem Extend_any (x0 : 0 ≤ x) (x1 : x ≤ 65535) (l0 : -9223372036854775808 ≤ last) (l1 : last ≤ 9223372036854775807) : Calls Try.prog 20 #[.int .i64 last, .int .u16 x] w fun e w' => e = .returned (.int .i64 (Pk.near last x 65536)) ∧ w = w' := by
  have k1 := fun W => near16_any last x W x0 x1 l0 l1
  generalize Pk.near last x 65536 = R at *
  have K1 := Lib.hid k1
  clear k1
  go_enter Try.func20, Try.ntmps20
  go_wp2_with fail
  refine (K1.out _).mono ?_
  rintro e w1 ⟨rfl, rfl⟩
  go_wp2
  go_ret
  exact ⟨rfl, rfl⟩
theorem ExtendTime_any (x0 : 0 ≤ x) (x1 : x ≤ 4294967295) (l0 : -9223372036854775808 ≤ last) (l1 : last ≤ 9223372036854775807) : Calls Try.prog 21 #[.int .i64 last, .int .u32 x] w fun e w' => e = .returned (.int .i64 (Pk.near last x 4294967296)) ∧ w = w' := by
  have k1 := fun W => near32_any last x W x0 x1 l0 l1
  generalize Pk.near last x 4294967296 = R at *
  have K1 := Lib.hid k1
  clear k1
  go_enter Try.func21, Try.ntmps21
  go_wp2_with fail
  refine (K1.out _).mono ?_
  rintro e w1 ⟨rfl, rfl⟩
  go_wp2
  go_ret
  exact ⟨rfl, rfl⟩
theorem rExtend_any (x0 : 0 ≤ x) (x1 : x ≤ 65535) (l0 : -9223372036854775808 ≤ last) (l1 : last ≤ 9223372036854775807) : Calls Try.prog 22 #[.int .i64 last, .int .u16 x] w fun e w' => e = .returned (.int .i64 (Pk.near last x 65536)) ∧ w = w' := by
  have k1 := fun W => rnear16_any last x W x0 x1 l0 l1
  generalize Pk.near last x 65536 = R at *
  have K1 := Lib.hid k1
  clear k1
  go_enter Try.func22, Try.ntmps22
  go_wp2_with fail
  refine (K1.out _).mono ?_
  rintro e w1 ⟨rfl, rfl⟩
  go_wp2
  go_ret
  exact ⟨rfl, rfl⟩
theorem rExtendTime_any (x0 : 0 ≤ x) (x1 : x ≤ 4294967295) (l0 : -9223372036854775808 ≤ last) (l1 : last ≤ 9223372036854775807) : Calls Try.prog 23 #[.int .i64 last, .int .u32 x] w fun e w' => e = .returned (.int .i64 (Pk.near last x 4294967296)) ∧ w = w' := by
  have k1 := fun W => rnear32_any last x W x0 x1 l0 l1
  generalize Pk.near last x 4294967296 = R at *
  have K1 := Lib.hid k1
  clear k1
  go_enter Try.func23, Try.ntmps23
  go_wp2_with fail
  refine (K1.out _).mono ?_
  rintro e w1 ⟨rfl, rfl⟩
  go_wp2
  go_ret
  exact ⟨rfl, rfl⟩
set_option maxHeartbeats 1600000 in
theorem Newer_any (a0 : 0 ≤ a) (a1 : a ≤ 65535) (b0 : 0 ≤ b) (b1 : b ≤ 65535) : Calls Try.prog 25 #[.int .u16 a, .int .u16 b] w fun e w' => e = .returned (.int .i64 (Pk.newer a b)) ∧ w = w' := by
  obtain ⟨R, hR⟩ : ∃ R, R = Pk.newer a b := ⟨_, rfl⟩
  rw [← hR]
  unfold Pk.newer at hR
  obtain ⟨d, hd⟩ : ∃ d, d = (a - b) % 65536 := ⟨_, rfl⟩
  have hd' := hd.symm
  have hd3 : IntKind.u16.wrap (a - b) = d := by rw [u16_wrap]; exact hd'
  rw [← hd] at hR
  have d0 : 0 ≤ d := by omega
  have d1 : d ≤ 65535 := by omega
  clear hd
  by_cases h0 : d = 0
  · rw [if_pos h0] at hR
    have e0 : (d == 0) = true := by rw [beq_iff_eq]; exact h0
    have HR := Lib.hid hR
    clear hR h0
    go_enter Try.func25, Try.ntmps25
    go_wp2
    go_ret
    exact ⟨ret_int'' HR.out.symm, rfl⟩
  rw [if_neg h0] at hR
  have e0 : (d == 0) = false := by rw [beq_eq_false_iff_ne]; exact h0
  by_cases h1 : d < 32768
  · rw [if_pos (.inl h1)] at hR
    have HR := Lib.hid hR
    clear hR h0
    go_enter Try.func25, Try.ntmps25
    go_wp2
    go_ret
    exact ⟨ret_int'' HR.out.symm, rfl⟩
  have h1' : 32768 ≤ d := by omega
  by_cases h2 : d = 32768
  · have e2 : (d == 32768) = true := by rw [beq_iff_eq]; exact h2
    by_cases h3 : b < a
    · rw [if_pos (.inr ⟨h2, h3⟩)] at hR
      have HR := Lib.hid hR
      clear hR h0 h1 h2
      go_enter Try.func25, Try.ntmps25
      go_wp2
      go_ret
      exact ⟨ret_int'' HR.out.symm, rfl⟩
    · have h3' : a ≤ b := by omega
      rw [if_neg (by omega)] at hR
      have HR := Lib.hid hR
      clear hR h0 h1 h2 h3
      go_enter Try.func25, Try.ntmps25
      go_wp2
      go_ret
      exact ⟨ret_int'' HR.out.symm, rfl⟩
  · have e2 : (d == 32768) = false := by rw [beq_eq_false_iff_ne]; exact h2
    rw [if_neg (by omega)] at hR
    have HR := Lib.hid hR
    clear hR h0 h1 h2
    go_enter Try.func25, Try.ntmps25
    go_wp2
    go_ret
    exact ⟨ret_int'' HR.out.symm, rfl⟩
set_option maxHeartbeats 1600000 in
theorem rNewer_any (a0 : 0 ≤ a) (a1 : a ≤ 65535) (b0 : 0 ≤ b) (b1 : b ≤ 65535) : Calls Try.prog 26 #[.int .u16 a, .int .u16 b] w fun e w' => e = .returned (.int .i64 (Pk.newer a b)) ∧ w = w' := by
  obtain ⟨R, hR⟩ : ∃ R, R = Pk.newer a b := ⟨_, rfl⟩
  rw [← hR]
  unfold Pk.newer at hR
  obtain ⟨d, hd⟩ : ∃ d, d = (a - b) % 65536 := ⟨_, rfl⟩
  have hd' : (a - b + 65536).tmod 65536 = d := by rw [Int.tmod_eq_emod_of_nonneg (by omega)]; omega
  have hd'' : (a - b + 65536) % 65536 = d := by omega
  rw [← hd] at hR
  have d0 : 0 ≤ d := by omega
  have d1 : d ≤ 65535 := by omega
  clear hd
  by_cases h0 : d = 0
  · rw [if_pos h0] at hR
    have e0 : (d == 0) = true := by rw [beq_iff_eq]; exact h0
    have HR := Lib.hid hR
    clear hR h0
    go_enter Try.func26, Try.ntmps26
    go_wp2
    go_ret
    exact ⟨ret_int'' HR.out.symm, rfl⟩
  rw [if_neg h0] at hR
  have e0 : (d == 0) = false := by rw [beq_eq_false_iff_ne]; exact h0
  by_cases h1 : d < 32768
  · rw [if_pos (.inl h1)] at hR
    have HR := Lib.hid hR
    clear hR h0
    go_enter Try.func26, Try.ntmps26
    go_wp2
    go_ret
    exact ⟨ret_int'' HR.out.symm, rfl⟩
  have h1' : 32768 ≤ d := by omega
  by_cases h2 : d = 32768
  · have e2 : (d == 32768) = true := by rw [beq_iff_eq]; exact h2
    by_cases h3 : b < a
    · rw [if_pos (.inr ⟨h2, h3⟩)] at hR
      have HR := Lib.hid hR
      clear hR h0 h1 h2
      go_enter Try.func26, Try.ntmps26
      go_wp2
      go_ret
      exact ⟨ret_int'' HR.out.symm, rfl⟩
    · have h3' : a ≤ b := by omega
      rw [if_neg (by omega)] at hR
      have HR := Lib.hid hR
      clear hR h0 h1 h2 h3
      go_enter Try.func26, Try.ntmps26
      go_wp2
      go_ret
      exact ⟨ret_int'' HR.out.symm, rfl⟩
  · have e2 : (d == 32768) = false := by rw [beq_eq_false_iff_ne]; exact h2
    rw [if_neg (by omega)] at hR
    have HR := Lib.hid hR
    clear hR h0 h1 h2
    go_enter Try.func26, Try.ntmps26
    go_wp2
    go_ret
    exact ⟨ret_int'' HR.out.symm, rfl⟩
end
end Go.Proofs.Ytbpcpgmbfnmacaa

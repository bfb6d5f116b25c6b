/- Layer 27: what the reference's functions on one sample or one code return: the same plain functions. -/
import Derived.Test.YtnkmpkbddpeplaaCmpFuns
namespace Go.Proofs.Ytnkmpkbddpeplaa
open Go.RowKit
set_option linter.unusedVariables false

theorem pow2_bd (k : Nat) (h : k ≤ 40) : 1 ≤ (2 : Int) ^ k ∧ (2 : Int) ^ k ≤ 1099511627776 := by
  have : ∀ k : Fin 41, 1 ≤ (2 : Int) ^ k.val ∧ (2 : Int) ^ k.val ≤ 1099511627776 := by decide +kernel
  exact this ⟨k, by omega⟩
theorem pow2_at (n : Int) (h0 : 0 ≤ n) (h1 : n ≤ 40) : 1 ≤ Cmp.pow2 n ∧ Cmp.pow2 n ≤ 1099511627776 := pow2_bd _ (by omega)
set_option maxHeartbeats 400000 in
theorem power_any (n : Int) (w : World) (h0 : 0 ≤ n) (h1 : n ≤ 40) :
    Calls Try.prog 27 #[.int .i64 n] w fun e w' => e = .returned (.int .i64 (Cmp.pow2 n)) ∧ w = w' := by
  go_enter Try.func27, Try.ntmps27
  go_wp2
  go_loop [3, 4] (fun p i => ∃ k : Nat, k ≤ n ∧ i = .int .i64 k ∧ p = .int .i64 (2 ^ k)) (fun _ i => (n - intOf i).toNat)
  case atStart => exact ⟨0, by omega, rfl, rfl⟩
  case round =>
    obtain ⟨k, hk, rfl, rfl⟩ := hrel
    obtain ⟨hp1, hp2⟩ := pow2_bd k (by omega)
    by_cases hlt : (k : Int) < n
    · go_wp2
      go_round
      case rel => exact ⟨k + 1, by omega, by go_num, by rw [Int.pow_succ, Int.mul_comm]⟩
      case measure => simp [intOf]; omega
    · obtain rfl : n = k := by omega
      go_wp2
      go_ret
      exact ⟨ret_int (by simp [Cmp.pow2]), rfl⟩
theorem quo_pow2 (m : Int) (k : Nat) : m / Cmp.pow2 k = m / 2 ^ k := by simp [Cmp.pow2]

theorem expo_of (m : Int) (k : Nat) (h0 : 0 ≤ m) (h1 : m ≤ 32767) (hk : k ≤ 7) (hge : k = 0 ∨ 2 ^ (k + 7) ≤ m) (hlt : m < Cmp.pow2 (k + 8)) : k = Cmp.expo m.toNat := by
  obtain ⟨n, rfl⟩ := Int.eq_ofNat_of_zero_le h0
  rw [show Cmp.pow2 (k + 8) = 2 ^ (k + 8) from rfl] at hlt
  simp only [Int.toNat_natCast]
  have h7 : k = 0 ∨ k = 1 ∨ k = 2 ∨ k = 3 ∨ k = 4 ∨ k = 5 ∨ k = 6 ∨ k = 7 := by omega
  unfold Cmp.expo
  rcases h7 with rfl | rfl | rfl | rfl | rfl | rfl | rfl | rfl <;> simp at hge hlt <;> (repeat' split) <;> omega
theorem pow2_ge (m : Int) (k : Nat) (h : Cmp.pow2 (k + 8) ≤ m) : 2 ^ (k + 1 + 7) ≤ m := h
theorem k_le (m : Int) (k : Nat) (h1 : m ≤ 32767) (hk : k ≤ 7) (h : Cmp.pow2 (k + 8) ≤ m) : k ≤ 6 := by
  rcases Nat.lt_or_ge k 7 with h7 | h7
  · omega
  · obtain rfl : k = 7 := by omega
    have : (2 : Int) ^ 15 ≤ m := h
    omega

theorem A_close1 (x : Int) (s : Nat) (m : Int) (hs : s = if x < 0 then 0 else 128) (hm : m = Cmp.magA x) (h : m < 256) :
    bits .xor .u8 (m / 16 + s) 85 = (Cmp.aCode x : Nat) := by
  have hk : 0 = Cmp.expo m.toNat := by unfold Cmp.expo; rw [if_pos (by omega)]
  rw [← A_close0 x s m 0 hs hm hk rfl]
  congr 1
  have : 0 ≤ m := by rw [hm]; omega
  omega
theorem A_close2 (x : Int) (s : Nat) (m : Int) (k : Nat) (hs : s = if x < 0 then 0 else 128) (hm : m = Cmp.magA x) (hk : k = Cmp.expo m.toNat) (h0 : k ≠ 0) (h7 : k ≤ 7) :
    bits .xor .u8 (wrap64 (wrap64 (16 * (k : Int) + (m / Cmp.pow2 (k + 3)).tmod 16) + s) % 256) 85 = (Cmp.aCode x : Nat) := by
  rw [← A_close x s m k hs hm hk h0]
  rw [show m / Cmp.pow2 (k + 3) = m / 2 ^ (k + 3) from rfl, Cmp.q16 m (k + 3) (by rw [hm]; omega)]
  have h16 : m.toNat / 2 ^ (k + 3) % 16 < 16 := Nat.mod_lt _ (by omega)
  generalize m.toNat / 2 ^ (k + 3) % 16 = q at h16 ⊢
  have ht' : s ≤ 128 := by rw [hs]; split <;> omega
  rw [IntWalk.wrap64_in (16 * (k : Int) + q) ⟨by omega, by omega⟩]
  congr 3
  omega

set_option maxHeartbeats 400000 in
theorem rMu0 (x : Int) (w : World) (h0 : -32768 ≤ x) (h1 : x ≤ 32767) (hx : x < 0) (hy : 32635 < -x) :
    Calls Try.prog 15 #[.int .i16 x] w fun e w' => e = .returned (.int .u8 (Cmp.mu x)) ∧ w = w' := by
  go_enter Try.func15, Try.ntmps15
  go_wp2
  go_loop [5] (fun i => ∃ k : Nat, k ≤ 7 ∧ (k = 0 ∨ 2 ^ (k + 7) ≤ (32767 : Int)) ∧ i = .int .i64 k) (fun i => 8 - (intOf i).toNat)
  case atStart => exact ⟨0, by omega, .inl rfl, rfl⟩
  case round =>
    obtain ⟨k, hk, hge, rfl⟩ := hrel
    have H := Lib.hid hge
    clear hge
    by_cases ht : Cmp.pow2 (k + 8) ≤ (32767 : Int)
    · have h6 := k_le (32767 : Int) k (by omega) hk ht
      go_wp2_with (go_at_call 27; refine (power_any _ _ (by omega) (by omega)).mono ?_; rintro e w' ⟨rfl, rfl⟩)
      go_round
      case rel => exact ⟨k + 1, by omega, .inr (pow2_ge _ _ ht), by go_num⟩
      case measure => simp [intOf]; omega
    · have HE := Lib.hid (expo_of (32767 : Int) k (by omega) (by omega) hk H.out (by omega))
      have hp := pow2_at (k + 3) (by omega) (by omega)
      clear H
      obtain ⟨hp1, hp2⟩ := hp
      go_wp2_with (go_at_call 27; refine (power_any _ _ (by omega) (by omega)).mono ?_; rintro e w' ⟨rfl, rfl⟩)
      go_ret
      refine ⟨ret_int ?_, rfl⟩
      exact Cmp.mu_close x 127 (32767 : Int) k (by rw [if_pos (by omega)]) (by unfold Cmp.magMu; omega) HE.out

set_option maxHeartbeats 400000 in
theorem rMu1 (x : Int) (w : World) (h0 : -32768 ≤ x) (h1 : x ≤ 32767) (hx : x < 0) (hy : -x ≤ 32635) :
    Calls Try.prog 15 #[.int .i16 x] w fun e w' => e = .returned (.int .u8 (Cmp.mu x)) ∧ w = w' := by
  go_enter Try.func15, Try.ntmps15
  go_wp2
  go_loop [5] (fun i => ∃ k : Nat, k ≤ 7 ∧ (k = 0 ∨ 2 ^ (k + 7) ≤ (-x + 132)) ∧ i = .int .i64 k) (fun i => 8 - (intOf i).toNat)
  case atStart => exact ⟨0, by omega, .inl rfl, rfl⟩
  case round =>
    obtain ⟨k, hk, hge, rfl⟩ := hrel
    have H := Lib.hid hge
    clear hge
    by_cases ht : Cmp.pow2 (k + 8) ≤ (-x + 132)
    · have h6 := k_le (-x + 132) k (by omega) hk ht
      go_wp2_with (go_at_call 27; refine (power_any _ _ (by omega) (by omega)).mono ?_; rintro e w' ⟨rfl, rfl⟩)
      go_round
      case rel => exact ⟨k + 1, by omega, .inr (pow2_ge _ _ ht), by go_num⟩
      case measure => simp [intOf]; omega
    · have HE := Lib.hid (expo_of (-x + 132) k (by omega) (by omega) hk H.out (by omega))
      have hp := pow2_at (k + 3) (by omega) (by omega)
      clear H
      obtain ⟨hp1, hp2⟩ := hp
      go_wp2_with (go_at_call 27; refine (power_any _ _ (by omega) (by omega)).mono ?_; rintro e w' ⟨rfl, rfl⟩)
      go_ret
      refine ⟨ret_int ?_, rfl⟩
      exact Cmp.mu_close x 127 (-x + 132) k (by rw [if_pos (by omega)]) (by unfold Cmp.magMu; omega) HE.out

set_option maxHeartbeats 400000 in
theorem rMu2 (x : Int) (w : World) (h0 : -32768 ≤ x) (h1 : x ≤ 32767) (hx : 0 ≤ x) (hy : 32635 < x) :
    Calls Try.prog 15 #[.int .i16 x] w fun e w' => e = .returned (.int .u8 (Cmp.mu x)) ∧ w = w' := by
  go_enter Try.func15, Try.ntmps15
  go_wp2
  go_loop [5] (fun i => ∃ k : Nat, k ≤ 7 ∧ (k = 0 ∨ 2 ^ (k + 7) ≤ (32767 : Int)) ∧ i = .int .i64 k) (fun i => 8 - (intOf i).toNat)
  case atStart => exact ⟨0, by omega, .inl rfl, rfl⟩
  case round =>
    obtain ⟨k, hk, hge, rfl⟩ := hrel
    have H := Lib.hid hge
    clear hge
    by_cases ht : Cmp.pow2 (k + 8) ≤ (32767 : Int)
    · have h6 := k_le (32767 : Int) k (by omega) hk ht
      go_wp2_with (go_at_call 27; refine (power_any _ _ (by omega) (by omega)).mono ?_; rintro e w' ⟨rfl, rfl⟩)
      go_round
      case rel => exact ⟨k + 1, by omega, .inr (pow2_ge _ _ ht), by go_num⟩
      case measure => simp [intOf]; omega
    · have HE := Lib.hid (expo_of (32767 : Int) k (by omega) (by omega) hk H.out (by omega))
      have hp := pow2_at (k + 3) (by omega) (by omega)
      clear H
      obtain ⟨hp1, hp2⟩ := hp
      go_wp2_with (go_at_call 27; refine (power_any _ _ (by omega) (by omega)).mono ?_; rintro e w' ⟨rfl, rfl⟩)
      go_ret
      refine ⟨ret_int ?_, rfl⟩
      exact Cmp.mu_close x 255 (32767 : Int) k (by rw [if_neg (by omega)]) (by unfold Cmp.magMu; omega) HE.out

set_option maxHeartbeats 400000 in
theorem rMu3 (x : Int) (w : World) (h0 : -32768 ≤ x) (h1 : x ≤ 32767) (hx : 0 ≤ x) (hy : x ≤ 32635) :
    Calls Try.prog 15 #[.int .i16 x] w fun e w' => e = .returned (.int .u8 (Cmp.mu x)) ∧ w = w' := by
  go_enter Try.func15, Try.ntmps15
  go_wp2
  go_loop [5] (fun i => ∃ k : Nat, k ≤ 7 ∧ (k = 0 ∨ 2 ^ (k + 7) ≤ (x + 132)) ∧ i = .int .i64 k) (fun i => 8 - (intOf i).toNat)
  case atStart => exact ⟨0, by omega, .inl rfl, rfl⟩
  case round =>
    obtain ⟨k, hk, hge, rfl⟩ := hrel
    have H := Lib.hid hge
    clear hge
    by_cases ht : Cmp.pow2 (k + 8) ≤ (x + 132)
    · have h6 := k_le (x + 132) k (by omega) hk ht
      go_wp2_with (go_at_call 27; refine (power_any _ _ (by omega) (by omega)).mono ?_; rintro e w' ⟨rfl, rfl⟩)
      go_round
      case rel => exact ⟨k + 1, by omega, .inr (pow2_ge _ _ ht), by go_num⟩
      case measure => simp [intOf]; omega
    · have HE := Lib.hid (expo_of (x + 132) k (by omega) (by omega) hk H.out (by omega))
      have hp := pow2_at (k + 3) (by omega) (by omega)
      clear H
      obtain ⟨hp1, hp2⟩ := hp
      go_wp2_with (go_at_call 27; refine (power_any _ _ (by omega) (by omega)).mono ?_; rintro e w' ⟨rfl, rfl⟩)
      go_ret
      refine ⟨ret_int ?_, rfl⟩
      exact Cmp.mu_close x 255 (x + 132) k (by rw [if_neg (by omega)]) (by unfold Cmp.magMu; omega) HE.out

theorem rMu_any (x : Int) (w : World) (h0 : -32768 ≤ x) (h1 : x ≤ 32767) :
    Calls Try.prog 15 #[.int .i16 x] w fun e w' => e = .returned (.int .u8 (Cmp.mu x)) ∧ w = w' := by
  by_cases hx : x < 0
  · by_cases hy : 32635 < -x
    · exact rMu0 x w h0 h1 hx hy
    · exact rMu1 x w h0 h1 hx (by omega)
  · by_cases hy : 32635 < x
    · exact rMu2 x w h0 h1 (by omega) hy
    · exact rMu3 x w h0 h1 (by omega) (by omega)

set_option maxHeartbeats 400000 in
theorem rAs0 (x : Int) (w : World) (h0 : -32768 ≤ x) (h1 : x ≤ 32767) (hx : x < 0) (hy : (-x - 1) < 256) :
    Calls Try.prog 16 #[.int .i16 x] w fun e w' => e = .returned (.int .u8 (Cmp.aCode x)) ∧ w = w' := by
  go_enter Try.func16, Try.ntmps16
  go_wp2
  go_ret
  refine ⟨ret_int ?_, rfl⟩
  refine Eq.trans ?_ (A_close1 x 0 (-x - 1) (by rw [if_pos (by omega)]) (by unfold Cmp.magA; rw [if_pos (by omega)]; omega) hy)
  first | rfl | (congr 1; omega)
set_option maxHeartbeats 400000 in
theorem rAb0 (x : Int) (w : World) (h0 : -32768 ≤ x) (h1 : x ≤ 32767) (hx : x < 0) (hy : 256 ≤ (-x - 1)) :
    Calls Try.prog 16 #[.int .i16 x] w fun e w' => e = .returned (.int .u8 (Cmp.aCode x)) ∧ w = w' := by
  go_enter Try.func16, Try.ntmps16
  go_wp2
  go_loop [6] (fun i => ∃ k : Nat, 1 ≤ k ∧ k ≤ 7 ∧ (k = 0 ∨ 2 ^ (k + 7) ≤ (-x - 1)) ∧ i = .int .i64 k) (fun i => 8 - (intOf i).toNat)
  case atStart => exact ⟨1, by omega, by omega, .inr (by omega), rfl⟩
  case round =>
    obtain ⟨k, hk1, hk, hge, rfl⟩ := hrel
    have H := Lib.hid hge
    clear hge
    by_cases ht : Cmp.pow2 (k + 8) ≤ (-x - 1)
    · have h6 := k_le (-x - 1) k (by omega) hk ht
      go_wp2_with (go_at_call 27; refine (power_any _ _ (by omega) (by omega)).mono ?_; rintro e w' ⟨rfl, rfl⟩)
      go_round
      case rel => exact ⟨k + 1, by omega, by omega, .inr (pow2_ge _ _ ht), by go_num⟩
      case measure => simp [intOf]; omega
    · have HE := Lib.hid (expo_of (-x - 1) k (by omega) (by omega) hk H.out (by omega))
      have hp := pow2_at (k + 3) (by omega) (by omega)
      clear H
      obtain ⟨hp1, hp2⟩ := hp
      go_wp2_with (go_at_call 27; refine (power_any _ _ (by omega) (by omega)).mono ?_; rintro e w' ⟨rfl, rfl⟩)
      go_ret
      refine ⟨ret_int ?_, rfl⟩
      have h := A_close2 x 0 (-x - 1) k (by rw [if_pos (by omega)]) (by unfold Cmp.magA; rw [if_pos (by omega)]; omega) HE.out (by omega) hk
      simpa using h

set_option maxHeartbeats 400000 in
theorem rAs1 (x : Int) (w : World) (h0 : -32768 ≤ x) (h1 : x ≤ 32767) (hx : 0 ≤ x) (hy : x < 256) :
    Calls Try.prog 16 #[.int .i16 x] w fun e w' => e = .returned (.int .u8 (Cmp.aCode x)) ∧ w = w' := by
  go_enter Try.func16, Try.ntmps16
  go_wp2
  go_ret
  refine ⟨ret_int ?_, rfl⟩
  refine Eq.trans ?_ (A_close1 x 128 x (by rw [if_neg (by omega)]) (by unfold Cmp.magA; rw [if_neg (by omega)]; omega) hy)
  first | rfl | (congr 1; omega)
set_option maxHeartbeats 400000 in
theorem rAb1 (x : Int) (w : World) (h0 : -32768 ≤ x) (h1 : x ≤ 32767) (hx : 0 ≤ x) (hy : 256 ≤ x) :
    Calls Try.prog 16 #[.int .i16 x] w fun e w' => e = .returned (.int .u8 (Cmp.aCode x)) ∧ w = w' := by
  go_enter Try.func16, Try.ntmps16
  go_wp2
  go_loop [6] (fun i => ∃ k : Nat, 1 ≤ k ∧ k ≤ 7 ∧ (k = 0 ∨ 2 ^ (k + 7) ≤ x) ∧ i = .int .i64 k) (fun i => 8 - (intOf i).toNat)
  case atStart => exact ⟨1, by omega, by omega, .inr (by omega), rfl⟩
  case round =>
    obtain ⟨k, hk1, hk, hge, rfl⟩ := hrel
    have H := Lib.hid hge
    clear hge
    by_cases ht : Cmp.pow2 (k + 8) ≤ x
    · have h6 := k_le x k (by omega) hk ht
      go_wp2_with (go_at_call 27; refine (power_any _ _ (by omega) (by omega)).mono ?_; rintro e w' ⟨rfl, rfl⟩)
      go_round
      case rel => exact ⟨k + 1, by omega, by omega, .inr (pow2_ge _ _ ht), by go_num⟩
      case measure => simp [intOf]; omega
    · have HE := Lib.hid (expo_of x k (by omega) (by omega) hk H.out (by omega))
      have hp := pow2_at (k + 3) (by omega) (by omega)
      clear H
      obtain ⟨hp1, hp2⟩ := hp
      go_wp2_with (go_at_call 27; refine (power_any _ _ (by omega) (by omega)).mono ?_; rintro e w' ⟨rfl, rfl⟩)
      go_ret
      refine ⟨ret_int ?_, rfl⟩
      have h := A_close2 x 128 x k (by rw [if_neg (by omega)]) (by unfold Cmp.magA; rw [if_neg (by omega)]; omega) HE.out (by omega) hk
      simpa using h

theorem rA_any (x : Int) (w : World) (h0 : -32768 ≤ x) (h1 : x ≤ 32767) :
    Calls Try.prog 16 #[.int .i16 x] w fun e w' => e = .returned (.int .u8 (Cmp.aCode x)) ∧ w = w' := by
  by_cases hx : x < 0
  · by_cases hy : -x - 1 < 256
    · exact rAs0 x w h0 h1 hx hy
    · exact rAb0 x w h0 h1 hx (by omega)
  · by_cases hy : x < 256
    · exact rAs1 x w h0 h1 (by omega) hy
    · exact rAb1 x w h0 h1 (by omega) (by omega)
set_option maxRecDepth 20000 in
set_option maxHeartbeats 400000 in
theorem rFromMu_any (b : Nat) (w : World) (h0 : b < 256) :
    Calls Try.prog 17 #[.int .u8 b] w fun e w' => e = .returned (.int .i16 (Cmp.fromMu b)) ∧ w = w' := by
  go_enter Try.func17, Try.ntmps17
  go_wp2_with (go_at_call 27; refine (power_any _ _ (by omega) (by omega)).mono ?_; rintro e w' ⟨rfl, rfl⟩)
  all_goals go_ret
  all_goals
    refine ⟨ret_int ?_, rfl⟩
    revert b
    exact Cmp.byte_all (by decide +kernel)
set_option maxRecDepth 20000 in
set_option maxHeartbeats 400000 in
theorem rFromA_any (b : Nat) (w : World) (h0 : b < 256) :
    Calls Try.prog 18 #[.int .u8 b] w fun e w' => e = .returned (.int .i16 (Cmp.fromA b)) ∧ w = w' := by
  have hb : 0 ≤ bits .xor .u8 (b : Int) 85 ∧ bits .xor .u8 (b : Int) 85 ≤ 255 := by
    rw [Cmp.xor_u8 b h0]
    have := Nat.xor_lt_two_pow (n := 8) h0 (show 85 < 2 ^ 8 by omega)
    omega
  obtain ⟨hb1, hb2⟩ := hb
  by_cases he : 0 < bits .xor .u8 (b : Int) 85 / 16 % 8
  all_goals
    go_enter Try.func18, Try.ntmps18
    go_wp2_with (go_at_call 27; refine (power_any _ _ (by omega) (by omega)).mono ?_; rintro e w' ⟨rfl, rfl⟩)
    all_goals go_ret
    all_goals
      refine ⟨ret_int ?_, rfl⟩
      revert b
      exact Cmp.byte_all (by decide +kernel)
end Go.Proofs.Ytnkmpkbddpeplaa

/- Layer 27: what each function on one sample or one code returns, for the program and for the reference: the plain functions of XCmpPlain. -/
import Derived.Test.YtnkmpkbddpeplaaRows
import Derived.Test.YtnkmpkbddpeplaaCmpPlain
import Derived.WalkKit
import Derived.WalkSpells
import Derived.WalkLawsBesides
import Derived.Lib.Hide
import Derived.Outline
namespace Go.Proofs.Ytnkmpkbddpeplaa
open Go.RowKit
set_option linter.unusedVariables false
theorem ret_int {k : IntKind} {a b : Int} (h : a = b) : Ending.returned (.int k a) = .returned (.int k b) := by rw [h]

theorem pow_wrap (k : Nat) (h : k < 7) : wrap64 (2 ^ (k + 8)) = 2 ^ (k + 8) := by
  have : ∀ k : Fin 7, wrap64 (2 ^ (k.val + 8)) = 2 ^ (k.val + 8) := by decide +kernel
  exact this ⟨k, h⟩
theorem expo_eq (m : Int) (k : Nat) (h0 : 0 ≤ m) (h1 : m ≤ 32767) (hk : k < 7) (hge : k = 0 ∨ 2 ^ (k + 7) ≤ m) (hlt : m < wrap64 (2 ^ (k + 8))) : (k : Int) = (Cmp.expo m.toNat : Nat) := by
  obtain ⟨n, rfl⟩ := Int.eq_ofNat_of_zero_le h0
  rw [pow_wrap k hk] at hlt
  simp only [Int.toNat_natCast]
  have h7 : k = 0 ∨ k = 1 ∨ k = 2 ∨ k = 3 ∨ k = 4 ∨ k = 5 ∨ k = 6 := by omega
  unfold Cmp.expo
  rcases h7 with rfl | rfl | rfl | rfl | rfl | rfl | rfl <;> simp at hge hlt <;> (repeat' split) <;> omega
theorem expo_eq7 (m : Int) (h0 : 0 ≤ m) (h1 : m ≤ 32767) (hge : 2 ^ (7 + 7) ≤ m) : 7 = ((Cmp.expo m.toNat : Nat) : Int) := by
  obtain ⟨n, rfl⟩ := Int.eq_ofNat_of_zero_le h0
  simp only [Int.toNat_natCast]
  unfold Cmp.expo
  simp at hge
  (repeat' split) <;> omega
set_option maxHeartbeats 400000 in
theorem exponent_any (m : Int) (w : World) (h0 : 0 ≤ m) (h1 : m ≤ 32767) :
    Calls Try.prog 26 #[.int .i64 m] w fun e w' => e = .returned (.int .i64 (Cmp.expo m.toNat)) ∧ w' = w := by
  go_enter Try.func26, Try.ntmps26
  go_wp2
  go_loop [4] (fun i => ∃ k : Nat, k ≤ 7 ∧ (k = 0 ∨ 2 ^ (k + 7) ≤ m) ∧ i = .int .i64 k) (fun i => 7 - (intOf i).toNat)
  case atStart => exact ⟨0, by omega, .inl rfl, rfl⟩
  case round =>
    obtain ⟨k, hk, hge, rfl⟩ := hrel
    have H := Lib.hid hge
    clear hge
    go_wp2
    · go_ret
      exact ⟨ret_int (expo_eq m k h0 h1 (by omega) H.out (by assumption)), rfl⟩
    · have hlt : (k : Int) < 7 := by assumption
      have hge' : wrap64 (2 ^ (k + 8)) ≤ m := by assumption
      rw [pow_wrap k (by omega)] at hge'
      go_round
      case rel => exact ⟨k + 1, by omega, .inr hge', by go_num⟩
      case measure => simp [intOf]; omega
    · have h7 : k = 7 := by omega
      subst h7
      go_ret
      exact ⟨ret_int (expo_eq7 m h0 h1 (H.out.resolve_left (by omega))), rfl⟩
theorem exponent_k (m : Int) (w : World) (h0 : 0 ≤ m) (h1 : m ≤ 32767) :
    Calls Try.prog 26 #[.int .i64 m] w fun e w' => ∃ k : Nat, k ≤ 7 ∧ Hid (k = Cmp.expo m.toNat) ∧ e = .returned (.int .i64 k) ∧ w = w' :=
  (exponent_any m w h0 h1).mono fun e w' ⟨he, hw⟩ => ⟨Cmp.expo m.toNat, Cmp.expo_le _, rfl, he, hw.symm⟩

set_option maxHeartbeats 400000 in
theorem Mu_any (x : Int) (w : World) (h0 : -32768 ≤ x) (h1 : x ≤ 32767) :
    Calls Try.prog 11 #[.int .i16 x] w fun e w' => e = .returned (.int .u8 (Cmp.mu x)) ∧ w = w' := by
  by_cases hx : x < 0
  · by_cases hy : 32635 < -x
    all_goals
      go_enter Try.func11, Try.ntmps11
      go_wp2_with (go_at_call 26; refine (exponent_k _ _ (by omega) (by omega)).mono ?_; rintro e w' ⟨k, hk, HK, rfl, rfl⟩)
      go_ret
      refine ⟨ret_int (Cmp.mu_close x 127 _ k (by rw [if_pos hx]) (by unfold Cmp.magMu; omega) ?_), rfl⟩
      rw [HK.out]
  · by_cases hy : 32635 < x
    all_goals
      go_enter Try.func11, Try.ntmps11
      go_wp2_with (go_at_call 26; refine (exponent_k _ _ (by omega) (by omega)).mono ?_; rintro e w' ⟨k, hk, HK, rfl, rfl⟩)
      go_ret
      refine ⟨ret_int (Cmp.mu_close x 255 _ k (by rw [if_neg (by omega)]) (by unfold Cmp.magMu; omega) ?_), rfl⟩
      rw [HK.out]

theorem A_close (x : Int) (s : Nat) (m : Int) (k : Nat) (hs : s = if x < 0 then 0 else 128) (hm : m = Cmp.magA x) (hk : k = Cmp.expo m.toNat) (h0 : k ≠ 0) :
    bits .xor .u8 (wrap64 ((s : Int) + 16 * (k : Int) + (m / 2 ^ (k + 3)).tmod 16) % 256) 85 = (Cmp.aCode x : Nat) := by
  rw [Cmp.a_close x s m k (k + 3) hs hm hk (by rw [if_neg h0]), Cmp.xor_u8 _ (Cmp.aRaw_lt x)]
  rfl
theorem A_close0 (x : Int) (s : Nat) (m : Int) (k : Nat) (hs : s = if x < 0 then 0 else 128) (hm : m = Cmp.magA x) (hk : k = Cmp.expo m.toNat) (h0 : k = 0) :
    bits .xor .u8 ((s : Int) + 16 * (k : Int) + m / 16 % 16) 85 = (Cmp.aCode x : Nat) := by
  rw [Cmp.a_close0 x s m k hs hm hk h0, Cmp.xor_u8 _ (Cmp.aRaw_lt x)]
  rfl
set_option maxHeartbeats 400000 in
theorem A_any (x : Int) (w : World) (h0 : -32768 ≤ x) (h1 : x ≤ 32767) :
    Calls Try.prog 13 #[.int .i16 x] w fun e w' => e = .returned (.int .u8 (Cmp.aCode x)) ∧ w = w' := by
  by_cases hx : x < 0
  · go_enter Try.func13, Try.ntmps13
    go_wp2_with (go_at_call 26; refine (exponent_k _ _ (by omega) (by omega)).mono ?_; rintro e w' ⟨k, hk, HK, rfl, rfl⟩)
    all_goals go_ret
    · have hk0 : k = 0 := by have h : ((k : Int) == 0) = true := by assumption
                             simpa using h
      refine ⟨ret_int ?_, rfl⟩
      have h := A_close0 x 0 (-x - 1) k (by rw [if_pos hx]) (by unfold Cmp.magA; rw [if_pos hx]; omega) HK.out hk0
      simpa using h
    · have hk0 : k ≠ 0 := by have h : ((k : Int) == 0) = false := by assumption
                             simpa using h
      refine ⟨ret_int ?_, rfl⟩
      have h := A_close x 0 (-x - 1) k (by rw [if_pos hx]) (by unfold Cmp.magA; rw [if_pos hx]; omega) HK.out hk0
      simpa using h
  · go_enter Try.func13, Try.ntmps13
    go_wp2_with (go_at_call 26; refine (exponent_k _ _ (by omega) (by omega)).mono ?_; rintro e w' ⟨k, hk, HK, rfl, rfl⟩)
    all_goals go_ret
    · have hk0 : k = 0 := by have h : ((k : Int) == 0) = true := by assumption
                             simpa using h
      refine ⟨ret_int ?_, rfl⟩
      exact A_close0 x 128 x k (by rw [if_neg (by omega)]) (by unfold Cmp.magA; rw [if_neg (by omega)]; omega) HK.out hk0
    · have hk0 : k ≠ 0 := by have h : ((k : Int) == 0) = false := by assumption
                             simpa using h
      refine ⟨ret_int ?_, rfl⟩
      exact A_close x 128 x k (by rw [if_neg (by omega)]) (by unfold Cmp.magA; rw [if_neg (by omega)]; omega) HK.out hk0
set_option maxHeartbeats 400000 in
theorem FromMu_any (b : Nat) (w : World) (h0 : b < 256) :
    Calls Try.prog 10 #[.int .u8 b] w fun e w' => e = .returned (.int .i16 (Cmp.fromMu b)) ∧ w = w' := by
  go_enter Try.func10, Try.ntmps10
  go_wp2
  all_goals go_ret
  all_goals
    refine ⟨ret_int ?_, rfl⟩
    revert b
    exact Cmp.byte_all (by decide +kernel)
set_option maxRecDepth 20000 in
set_option maxHeartbeats 400000 in
theorem FromA_any (b : Nat) (w : World) (h0 : b < 256) :
    Calls Try.prog 12 #[.int .u8 b] w fun e w' => e = .returned (.int .i16 (Cmp.fromA b)) ∧ w = w' := by
  have hb : 0 ≤ bits .xor .u8 (b : Int) 85 ∧ bits .xor .u8 (b : Int) 85 ≤ 255 := by
    rw [Cmp.xor_u8 b h0]
    have := Nat.xor_lt_two_pow (n := 8) h0 (show 85 < 2 ^ 8 by omega)
    omega
  obtain ⟨hb1, hb2⟩ := hb
  by_cases he : 0 < bits .xor .u8 (b : Int) 85 / 16 % 8
  all_goals
    go_enter Try.func12, Try.ntmps12
    go_wp2
    all_goals go_ret
    all_goals
      refine ⟨ret_int ?_, rfl⟩
      revert b
      exact Cmp.byte_all (by decide +kernel)
end Go.Proofs.Ytnkmpkbddpeplaa

/- Layer 26: which statistics are valid; small numbers; round trips. -/
import Derived.Test.YthmcbmjjngolmaaRepPlain
import Derived.Test.YthmcbmjjngolmaaLaw
import Derived.Test.YthmcbmjjngolmaaLate
import Derived.Test.YthmcbmjjngolmaaRes
namespace Go.Proofs.Ythmcbmjjngolmaa
open Go.RowKit
set_option linter.unusedVariables false
set_option linter.unusedSimpArgs false
theorem ret_bool {a b : Bool} (h : a = b) : Ending.returned (.bool a) = .returned (.bool b) := by rw [h]
theorem ret_int'' {k : IntKind} {a b : Int} (h : a = b) : Ending.returned (.int k a) = .returned (.int k b) := by rw [h]
section
variable (lo hi : Int) (A : Option Addr) (xs : List Int) (c n : Nat) (w : World)
set_option maxHeartbeats 800000 in
theorem valid1_any (hn : xs.length = n) (hA : IntsAt w w.heap.size .i64 A xs) (hl : n ≤ 100) :
    Calls Try.prog 38 #[.int .i64 lo, .int .i64 hi, .slice A n c] w fun e w' => e = .returned (.bool (Rep.all lo hi xs)) ∧ w = w' := by
  subst hn
  have HA := Lib.hid hA
  clear hA
  go_enter Try.func38, Try.ntmps38
  go_wp2
  go_loop [11] (fun i => ∃ k : Nat, k ≤ xs.length ∧ i = .int .i64 k ∧ Hid (Rep.all lo hi (xs.take k) = true)) (fun i => xs.length - (intOf i).toNat)
  case atStart => exact ⟨0, Nat.zero_le _, rfl, Lib.hid rfl⟩
  case round =>
    obtain ⟨k, hk, rfl, HK⟩ := hrel
    by_cases hlt : k < xs.length
    · obtain ⟨b, off, rfl, hbB, hcell⟩ := HA.out (by omega)
      have hc := hcell k hlt
      have hst := Rep.all_take lo hi xs k hlt
      rw [HK.out, Bool.true_and] at hst
      have HS := Lib.hid hst
      have HF := Lib.hid (Rep.all_false lo hi xs k hlt)
      clear hcell hst
      have hi0 : (0 : Int) ≤ (k : Int) := by omega
      have hi1 : (k : Int) < (xs.length : Int) := by omega
      generalize xs.getD k 0 = x at *
      by_cases h1 : x < lo
      · have t1 : decide (x < lo) = true := by simpa using h1
        have HB := Lib.hid (HF.out (by simp [Rep.inB]; omega))
        go_wp2
        go_ret
        exact ⟨ret_bool HB.out.symm, rfl⟩
      · have t1 : decide (x < lo) = false := by simpa using h1
        by_cases h2 : hi < x
        · have t2 : decide (hi < x) = true := by simpa using h2
          have HB := Lib.hid (HF.out (by simp [Rep.inB]; omega))
          go_wp2
          go_ret
          exact ⟨ret_bool HB.out.symm, rfl⟩
        · have t2 : decide (hi < x) = false := by simpa using h2
          have hin : Rep.inB lo hi x = true := by rw [Rep.inB_iff]; omega
          have HI := Lib.hid hin
          clear hin
          go_wp2
          go_round
          case rel => exact ⟨k + 1, by omega, by go_num, Lib.hid (by rw [HS.out, HI.out])⟩
          case measure => simp [intOf]; omega
    · obtain rfl : k = xs.length := by omega
      have hf := HK.out
      rw [List.take_length] at hf
      have HF := Lib.hid hf
      clear hf
      go_wp2
      go_ret
      exact ⟨ret_bool HF.out.symm, rfl⟩
end
section
variable (x y z : Int) (w : World)
theorem small_any : Calls Try.prog 29 #[.int .i64 x] w fun e w' => e = .returned (.bool (Rep.small x)) ∧ w = w' := by
  have h : Rep.small x = (decide (-281474976710656 ≤ x) && decide (x ≤ 281474976710656)) := rfl
  rw [h]
  cases h1 : decide (-281474976710656 ≤ x) <;> cases h2 : decide (x ≤ 281474976710656)
  all_goals
    clear h
    go_enter Try.func29, Try.ntmps29
    go_wp2
    go_ret
    exact ⟨rfl, rfl⟩
theorem within_any (m0 : 0 ≤ y) (m1 : y ≤ 1152921504606846976) : Calls Try.prog 30 #[.int .i64 x, .int .i64 y] w fun e w' => e = .returned (.bool (Rep.inB (-y) y x)) ∧ w = w' := by
  have h : Rep.inB (-y) y x = (decide (-y ≤ x) && decide (x ≤ y)) := rfl
  rw [h]
  cases h1 : decide (-y ≤ x) <;> cases h2 : decide (x ≤ y)
  all_goals
    clear h
    go_enter Try.func30, Try.ntmps30
    go_wp2
    go_ret
    exact ⟨rfl, rfl⟩
theorem trip_any (x0 : 0 ≤ x) (x1 : x ≤ 4294967295) (y0 : 0 ≤ y) (y1 : y ≤ 4294967295) (z0 : 0 ≤ z) (z1 : z ≤ 4294967295) :
    Calls Try.prog 15 #[.int .u32 x, .int .u32 y, .int .u32 z] w fun e w' => e = .returned (.int .u32 (Rep.trip x y z)) ∧ w = w' := by
  have hR : ∀ d, d = (x - y - z) % 4294967296 → Rep.trip x y z = if 2147483648 ≤ d then 0 else d := fun d hd => by rw [hd]; rfl
  have HR := Lib.hid hR
  clear hR
  by_cases h : 2147483648 ≤ (x - y - z) % 4294967296
  · have HV := Lib.hid (HR.out _ rfl)
    rw [if_pos h] at HV
    have h1 : 2147483648 ≤ ((x - y) % 4294967296 - z) % 4294967296 := by omega
    clear h
    go_enter Try.func15, Try.ntmps15
    go_wp2
    go_ret
    exact ⟨ret_int'' HV.out.symm, rfl⟩
  · have HV := Lib.hid (HR.out _ rfl)
    rw [if_neg h] at HV
    have h1 : ((x - y) % 4294967296 - z) % 4294967296 < 2147483648 := by omega
    clear h
    go_enter Try.func15, Try.ntmps15
    go_wp2
    go_ret
    exact ⟨ret_int'' (by rw [HV.out]; omega), rfl⟩
theorem rtrip_any (x0 : 0 ≤ x) (x1 : x ≤ 4294967295) (y0 : 0 ≤ y) (y1 : y ≤ 4294967295) (z0 : 0 ≤ z) (z1 : z ≤ 4294967295) :
    Calls Try.prog 16 #[.int .u32 x, .int .u32 y, .int .u32 z] w fun e w' => e = .returned (.int .u32 (Rep.trip x y z)) ∧ w = w' := by
  have hR : ∀ d, d = (x - y - z) % 4294967296 → Rep.trip x y z = if 2147483648 ≤ d then 0 else d := fun d hd => by rw [hd]; rfl
  have HR := Lib.hid hR
  clear hR
  have hd : (x - y - z) % 4294967296 = (x - y - z + 8589934592) % 4294967296 := by omega
  by_cases h : 2147483648 ≤ (x - y - z + 8589934592) % 4294967296
  · have HV := Lib.hid (HR.out _ rfl)
    rw [hd, if_pos h] at HV
    clear hd
    go_enter Try.func16, Try.ntmps16
    go_wp2
    go_ret
    exact ⟨ret_int'' HV.out.symm, rfl⟩
  · have HV := Lib.hid (HR.out _ rfl)
    rw [hd, if_neg h] at HV
    have h1 : (x - y - z + 8589934592) % 4294967296 < 2147483648 := by omega
    clear h hd
    go_enter Try.func16, Try.ntmps16
    go_wp2
    go_ret
    exact ⟨ret_int'' (by rw [HV.out]), rfl⟩
end
end Go.Proofs.Ythmcbmjjngolmaa

/- Layer 27, CompandNear: for every sample the law returns true. -/
import Derived.Test.YtnkmpkbddpeplaaCmpLaws
import Derived.ProofKit
import Derived.OpenShut
import Derived.ShutString
import Derived.ChangeOld
namespace Go.Proofs.Ytnkmpkbddpeplaa.compandNear
open Go.ChangeShapes Go.WideShapes Go.ChangeAt Go.RowKit
set_option linter.unusedVariables false

theorem pow8 (k : Nat) (h : k ≤ 7) : (1 : Int) ≤ 2 ^ k ∧ (2 : Int) ^ k ≤ 128 := by
  have : ∀ k : Fin 8, (1 : Int) ≤ 2 ^ k.val ∧ (2 : Int) ^ k.val ≤ 128 := by decide +kernel
  exact this ⟨k, by omega⟩
theorem fin2 {j d : Nat} (h : d ≤ max (4 * 2 ^ j) 8) : (d : Int) ≤ 4 * 2 ^ j ∨ (d : Int) ≤ 8 := by
  have h' : (((4 * 2 ^ j : Nat)) : Int) = 4 * 2 ^ j := by simp
  omega
theorem dbl (k : Nat) : 2 * (4 * (2 : Int) ^ k) = 4 * 2 ^ (k + 1) := by rw [Int.pow_succ]; omega
set_option maxHeartbeats 400000 in
theorem walk (w : World) (x : Int) (w0 : (Lit.int .i16 x).wf = true) :
    Calls Try.prog 3 #[.int .i16 x] w fun e w' => e = .returned (.bool true) ∧ Below w.heap.size w w' := by
  have hx : -32768 ≤ x ∧ x ≤ 32767 := by simpa [Lit.wf, IntKind.min, IntKind.max, IntKind.signed, IntKind.bits] using w0
  obtain ⟨h0, h1⟩ := hx
  have hmu := Cmp.mu_lt x
  have ha := Cmp.aCode_lt x
  have hb1 := Cmp.fromMu_bd _ hmu
  have hb2 := Cmp.fromA_bd _ ha
  have hn1 := Cmp.near_mu x
  have hn2 := Cmp.near_a x h0 h1
  have he1 := Cmp.expo_le (Cmp.magMu x)
  have he2 := Cmp.expo_le (Cmp.magA x)
  have c1 := fun W => exponent_mu x W h0 h1
  have c2 := fun W => exponent_a x W h0 h1
  unfold expMu at c1
  unfold expA at c2
  generalize Cmp.expo (Cmp.magMu x) = e1 at *
  generalize Cmp.expo (Cmp.magA x) = e2 at *
  have C1 := Lib.hid c1
  have C2 := Lib.hid c2
  have N1 := Lib.hid hn1
  have N2 := Lib.hid hn2
  clear c1 c2 hn1 hn2
  obtain ⟨hb11, hb12⟩ := hb1
  obtain ⟨hb21, hb22⟩ := hb2
  go_enter Try.func3, Try.ntmps3
  go_wp2
  go_loop [4, 5] (fun m i => ∃ k : Nat, k ≤ e1 ∧ i = .int .i64 k ∧ m = .int .i64 (4 * 2 ^ k)) (fun _ i => e1 - (intOf i).toNat)
  case atStart => exact ⟨0, by omega, rfl, rfl⟩
  case round =>
    obtain ⟨k, hk, rfl, rfl⟩ := hrel
    obtain ⟨p1, p2⟩ := pow8 k (by omega)
    by_cases hlt : (k : Int) < e1
    · go_wp2_with (go_at_call 8; refine (C1.out _).mono ?_; rintro e w' ⟨rfl, rfl⟩)
      go_round
      case rel => exact ⟨k + 1, by omega, by go_num, by rw [dbl]⟩
      case measure => simp [intOf]; omega
    · obtain rfl : k = e1 := by omega
      by_cases hs : (x.natAbs : Int) ≤ 32635
      · have hnear : ¬ 4 * 2 ^ k < ((Cmp.fromMu (Cmp.mu x) - x).natAbs : Int) := by
          have h := N1.out (by omega)
          have h' : (((4 * 2 ^ k : Nat)) : Int) = 4 * 2 ^ k := by simp
          omega
        go_wp2_with (first
          | (go_at_call 8; refine (C1.out _).mono ?_; rintro e w' ⟨rfl, rfl⟩)
          | (go_at_call 9; refine (size27 _ _ (by omega) (by omega)).mono ?_; rintro e w' ⟨rfl, rfl⟩)
          | (go_at_call 11; refine (Mu_any _ _ (by omega) (by omega)).mono ?_; rintro e w' ⟨rfl, rfl⟩)
          | (go_at_call 10; refine (FromMu_any _ _ hmu).mono ?_; rintro e w' ⟨rfl, rfl⟩))
        go_loop [4, 6] (fun m i => ∃ j : Nat, j ≤ e2 ∧ i = .int .i64 j ∧ m = .int .i64 (4 * 2 ^ j)) (fun _ i => e2 - (intOf i).toNat)
        case atStart => exact ⟨0, by omega, rfl, rfl⟩
        case round =>
          obtain ⟨j, hj, rfl, rfl⟩ := hrel
          obtain ⟨q1, q2⟩ := pow8 j (by omega)
          by_cases hlt2 : (j : Int) < e2
          · go_wp2_with (go_at_call 8; refine (C2.out _).mono ?_; rintro e w' ⟨rfl, rfl⟩)
            go_round
            case rel => exact ⟨j + 1, by omega, by go_num, by rw [dbl]⟩
            case measure => simp [intOf]; omega
          · obtain rfl : j = e2 := by omega
            have hnear2 := fin2 N2.out
            go_wp2_with (first
              | (go_at_call 8; refine (C2.out _).mono ?_; rintro e w' ⟨rfl, rfl⟩)
              | (go_at_call 9; refine (size27 _ _ (by omega) (by omega)).mono ?_; rintro e w' ⟨rfl, rfl⟩)
              | (go_at_call 13; refine (A_any _ _ (by omega) (by omega)).mono ?_; rintro e w' ⟨rfl, rfl⟩)
              | (go_at_call 12; refine (FromA_any _ _ ha).mono ?_; rintro e w' ⟨rfl, rfl⟩)
              | (go_at_call 14; refine (lives27 _).mono ?_; rintro e w' ⟨rfl, hbel⟩))
            all_goals go_ret
            all_goals exact ⟨rfl, hbel⟩
      · have hs' : decide ((x.natAbs : Int) ≤ 32635) = false := by simpa using hs
        go_wp2_with (first
          | (go_at_call 8; refine (C1.out _).mono ?_; rintro e w' ⟨rfl, rfl⟩)
          | (go_at_call 9; refine (size27 _ _ (by omega) (by omega)).mono ?_; rintro e w' ⟨rfl, rfl⟩))
        go_loop [4, 6] (fun m i => ∃ j : Nat, j ≤ e2 ∧ i = .int .i64 j ∧ m = .int .i64 (4 * 2 ^ j)) (fun _ i => e2 - (intOf i).toNat)
        case atStart => exact ⟨0, by omega, rfl, rfl⟩
        case round =>
          obtain ⟨j, hj, rfl, rfl⟩ := hrel
          obtain ⟨q1, q2⟩ := pow8 j (by omega)
          by_cases hlt2 : (j : Int) < e2
          · go_wp2_with (go_at_call 8; refine (C2.out _).mono ?_; rintro e w' ⟨rfl, rfl⟩)
            go_round
            case rel => exact ⟨j + 1, by omega, by go_num, by rw [dbl]⟩
            case measure => simp [intOf]; omega
          · obtain rfl : j = e2 := by omega
            have hnear2 := fin2 N2.out
            go_wp2_with (first
              | (go_at_call 8; refine (C2.out _).mono ?_; rintro e w' ⟨rfl, rfl⟩)
              | (go_at_call 9; refine (size27 _ _ (by omega) (by omega)).mono ?_; rintro e w' ⟨rfl, rfl⟩)
              | (go_at_call 13; refine (A_any _ _ (by omega) (by omega)).mono ?_; rintro e w' ⟨rfl, rfl⟩)
              | (go_at_call 12; refine (FromA_any _ _ ha).mono ?_; rintro e w' ⟨rfl, rfl⟩)
              | (go_at_call 14; refine (lives27 _).mono ?_; rintro e w' ⟨rfl, hbel⟩))
            all_goals go_ret
            all_goals exact ⟨rfl, hbel⟩
end Go.Proofs.Ytnkmpkbddpeplaa.compandNear

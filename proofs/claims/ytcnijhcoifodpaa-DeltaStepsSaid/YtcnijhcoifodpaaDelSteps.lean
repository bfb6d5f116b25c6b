/- Layer 28, DeltaSteps: for every index the law returns true. -/
import Derived.Test.YtcnijhcoifodpaaDelLives
namespace Go.Proofs.Ytcnijhcoifodpaa.deltaSteps
open Go.RowKit
set_option linter.unusedVariables false
set_option maxHeartbeats 800000 in
theorem walk (w : World) (i : Int) (w0 : (Lit.int .i64 i).wf = true) :
    Calls Try.prog 5 #[.int .i64 i] w fun e w' => e = .returned (.bool true) ∧ Below w.heap.size w w' := by
  clear w0
  by_cases ho : i < 0 ∨ 88 < i
  · have HO := Lib.hid ho
    rcases ho with h | h
    all_goals
      go_enter Try.func5, Try.ntmps5
      go_wp2_with fail
      refine (Size_out i _ HO.out).mono ?_
      rintro e w1 ⟨rfl, hb1⟩
      go_wp2_with fail
      refine (lives_any _).mono ?_
      rintro e w2 ⟨rfl, hb2⟩
      go_wp2_with fail
      go_ret
      exact ⟨rfl, hb1.trans (hb2.mono hb1.size)⟩
  · have h0 : 0 ≤ i := by omega
    have h1 : i ≤ 88 := by omega
    obtain ⟨n, rfl⟩ := Int.eq_ofNat_of_zero_le h0
    have ha := Dlt.st_bd n
    have hs := Dlt.st_bd (n + 1)
    have hst : Dlt.st (n + 1) = min (Dlt.st n + (Dlt.st n + 5) / 10) 32767 := rfl
    have k1 := fun W => Size_in n W h0 h1
    rw [Int.toNat_natCast] at k1
    have k2 : n < 88 → ∀ W, Calls Try.prog 18 #[.int .i64 ((n : Int) + 1)] W fun e w' => e = .returned (.int .i64 (Dlt.st (n + 1))) ∧ Below W.heap.size W w' := fun hn W => by
      have h := Size_in ((n + 1 : Nat) : Int) W (by omega) (by omega)
      rw [Int.toNat_natCast] at h
      exact h
    generalize Dlt.st n = a at *
    generalize Dlt.st (n + 1) = b at *
    obtain ⟨a0, a1⟩ := ha
    clear ho
    by_cases h88 : n = 88
    · subst h88
      clear k2 hst hs
      go_enter Try.func5, Try.ntmps5
      go_wp2_with fail
      refine (k1 _).mono ?_
      rintro e w1 ⟨rfl, hb1⟩
      go_wp2_with fail
      refine (lives_any _).mono ?_
      rintro e w2 ⟨rfl, hb2⟩
      go_wp2_with fail
      go_ret
      exact ⟨rfl, hb1.trans (hb2.mono hb1.size)⟩
    · have hn : (n : Int) < 88 := by omega
      have k3 := k2 (by omega)
      clear k2 h88
      have hor : b = 32767 ∨ (b ≠ 32767 ∧ b - a = (a + 5) / 10 ∧ a < b) := by omega
      clear hst
      rcases hor with rfl | ⟨hb1, hb2, hb3⟩
      all_goals
        go_enter Try.func5, Try.ntmps5
        go_wp2_with fail
        refine (k1 _).mono ?_
        rintro e w1 ⟨rfl, hb1⟩
        go_wp2_with fail
        refine (k3 _).mono ?_
        rintro e w2 ⟨rfl, hb2⟩
        go_wp2_with fail
        refine (lives_any _).mono ?_
        rintro e w3 ⟨rfl, hb3⟩
        go_wp2_with fail
        go_ret
        exact ⟨rfl, hb1.trans ((hb2.mono hb1.size).trans (hb3.mono (Nat.le_trans hb1.size hb2.size)))⟩
end Go.Proofs.Ytcnijhcoifodpaa.deltaSteps

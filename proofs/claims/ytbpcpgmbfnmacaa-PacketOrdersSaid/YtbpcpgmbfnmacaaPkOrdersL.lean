/- Layer 25, PacketOrders: for every two numbers the law returns true. -/
import Derived.Test.YtbpcpgmbfnmacaaPkLives
import Derived.Test.YtbpcpgmbfnmacaaPkTypes
namespace Go.Proofs.Ytbpcpgmbfnmacaa.packetOrders
open Go.RowKit
set_option linter.unusedVariables false
set_option linter.unusedSimpArgs false
attribute [local go_sem ↓] run_min_plain run_max_plain
attribute [local go_sem] setCell_drewN alloc_drewN
theorem order_plain (a b d R : Int) (a0 : 0 ≤ a) (a1 : a ≤ 65535) (b0 : 0 ≤ b) (b1 : b ≤ 65535) (d0 : -32767 ≤ d) (d1 : d ≤ 32768) (hd : (d - (a - b)) % 65536 = 0) (hR : R = Pk.newer a b) : (d = 32768 ∨ (0 < d ↔ 0 < R)) ∧ (d = 0 ↔ R = 0) := by
  unfold Pk.newer at hR
  by_cases h1 : (a - b) % 65536 = 0
  · rw [if_pos h1] at hR; omega
  rw [if_neg h1] at hR
  by_cases h2 : (a - b) % 65536 < 32768 ∨ ((a - b) % 65536 = 32768 ∧ b < a)
  · rw [if_pos h2] at hR; omega
  · rw [if_neg h2] at hR; omega
theorem newer_bd (a b : Int) : -1 ≤ Pk.newer a b ∧ Pk.newer a b ≤ 1 := by
  unfold Pk.newer
  split
  · omega
  split <;> omega
set_option maxRecDepth 100000 in
set_option maxHeartbeats 6400000 in
theorem walk (w : World) (a : Int) (w0 : (Lit.int .u16 a).wf = true) (b : Int) (w1 : (Lit.int .u16 b).wf = true) :
    Calls Try.prog 10 #[.int .u16 a, .int .u16 b] w fun e w' => e = .returned (.bool true) ∧ Below w.heap.size w w' := by
  obtain ⟨a0, a1⟩ := wf_u16 w0
  obtain ⟨b0, b1⟩ := wf_u16 w1
  have k1 := fun W => Newer_any a b W a0 a1 b0 b1
  have k2 := fun W => rNewer_any a b W a0 a1 b0 b1
  have k3 := fun W => Newer_any b a W b0 b1 a0 a1
  have k4 := fun W => Extend_any (b + 65536) a W a0 a1 (by omega) (by omega)
  have hn := newer_bd a b
  have hanti := Pk.newer_anti a b a0 a1 b0 b1
  have hz := Pk.newer_zero a b a0 a1 b0 b1
  have hnear := Pk.near_bd16 (b + 65536) a (by omega)
  obtain ⟨R, hR⟩ : ∃ R, R = Pk.newer a b := ⟨_, rfl⟩
  obtain ⟨S, hS⟩ : ∃ S, S = Pk.newer b a := ⟨_, rfl⟩
  obtain ⟨m, hm⟩ : ∃ m, m = Pk.near (b + 65536) a 65536 := ⟨_, rfl⟩
  obtain ⟨d, hd⟩ : ∃ d, d = m - b - 65536 := ⟨_, rfl⟩
  rw [← hm] at k4 hnear
  rw [← hR] at k1 k2 hn hanti hz
  rw [← hS] at k3 hanti
  obtain ⟨hn1, hn2, hn3⟩ := hnear
  obtain ⟨hp1, hp2⟩ := order_plain a b d R a0 a1 b0 b1 (by omega) (by omega) (by omega) hR
  have e1 : -S = R := by omega
  have e2 : IntKind.i64.wrap (-S) = R := by rw [i64_small _ (by omega) (by omega)]; exact e1
  have e3 : (R == 0) = (a == b) := by rw [Bool.eq_iff_iff]; simpa using hz
  have e4 : m - b - 65536 = d := hd.symm
  have e5 : (d == 0) = (R == 0) := by rw [Bool.eq_iff_iff]; simpa using hp2
  have hd1 : -32767 ≤ d := by omega
  have hd2 : d ≤ 32768 := by omega
  have hm1 : 0 ≤ m := by omega
  have hm2 : m ≤ 200000 := by omega
  have hs1 : -1 ≤ S := by omega
  have hs2 : S ≤ 1 := by omega
  obtain ⟨hr1, hr2⟩ := hn
  have K1 := Lib.hid k1
  have K2 := Lib.hid k2
  have K3 := Lib.hid k3
  have K4 := Lib.hid k4
  have hc : (d == 32768) = true ∨ (d == 32768) = false ∧ decide (0 < d) = decide (0 < R) := by
    rcases hp1 with h | h
    · left; simpa using h
    · by_cases h2 : d = 32768
      · left; simpa using h2
      · right; exact ⟨by simpa using h2, by rw [Bool.eq_iff_iff]; simpa using h⟩
  clear k1 k2 k3 k4 hanti hz hR hS hm hd hn1 hn2 hn3 hp1 hp2 w0 w1
  rcases hc with hc | ⟨hc, hc2⟩
  all_goals
    go_enter Try.func10, Try.ntmps10
    go_wp2_with fail
    refine (K1.out _).mono ?_
    rintro e w2 ⟨rfl, rfl⟩
    go_wp2_with fail
    refine (K2.out _).mono ?_
    rintro e w2 ⟨rfl, rfl⟩
    go_wp2_with fail
    refine (K3.out _).mono ?_
    rintro e w2 ⟨rfl, rfl⟩
    go_wp2_with fail
    refine (K4.out _).mono ?_
    rintro e w2 ⟨rfl, rfl⟩
    go_wp2_with fail
    refine (lives25 _).mono ?_
    rintro e w2 ⟨rfl, hb⟩
    go_wp2_with fail
    go_ret
    exact ⟨by simp, hb⟩
end Go.Proofs.Ytbpcpgmbfnmacaa.packetOrders

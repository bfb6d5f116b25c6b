/- Layer 28: Valid, encode and decode of the program, Valid, Code and Next of the reference. -/
import Derived.Test.YtcnijhcoifodpaaDelSizes
import Derived.Deep.QuietTactic
import Derived.BigQuiet
namespace Go.Proofs.Ytcnijhcoifodpaa
open Go.RowKit
set_option linter.unusedVariables false
attribute [local go_sem ↓] run_min_plain run_max_plain
attribute [local go_sem] setCell_drewN alloc_drewN

/-- a state as a value -/
def stV (v i : Int) : Value := .agg #[.int .i64 v, .int .i64 i]
theorem valid_true {v i : Int} (h : Dlt.valid v i = true) : -32768 ≤ v ∧ v ≤ 32767 ∧ 0 ≤ i ∧ i ≤ 88 := by
  simpa [Dlt.valid, and_assoc] using h
theorem valid_false {v i : Int} (h : Dlt.valid v i = false) : (decide (-32768 ≤ v) = false) ∨ (-32768 ≤ v ∧ decide (v ≤ 32767) = false) ∨ (-32768 ≤ v ∧ v ≤ 32767 ∧ decide (0 ≤ i) = false) ∨ (-32768 ≤ v ∧ v ≤ 32767 ∧ 0 ≤ i ∧ decide (i < 89) = false ∧ decide (i ≤ 88) = false) := by
  by_cases h1 : -32768 ≤ v
  · by_cases h2 : v ≤ 32767
    · by_cases h3 : 0 ≤ i
      · right; right; right
        have h4 : ¬ i ≤ 88 := by
          intro h4
          simp [Dlt.valid, h1, h2, h3, h4] at h
        exact ⟨h1, h2, h3, by simp; omega, by simpa using h4⟩
      · exact .inr (.inr (.inl ⟨h1, h2, by simpa using h3⟩))
    · exact .inr (.inl ⟨h1, by simpa using h2⟩)
  · exact .inl (by simpa using h1)
set_option maxHeartbeats 400000 in
theorem Valid_any (v i : Int) (w : World) : Calls Try.prog 17 #[.agg #[.int .i64 v, .int .i64 i]] w fun e w' => e = .returned (.bool (Dlt.valid v i)) ∧ w.alloc (.cells #[.int .i64 v, .int .i64 i] 23) = w' := by
  cases hv : Dlt.valid v i
  · rcases valid_false hv with h1 | ⟨h1, h2⟩ | ⟨h1, h2, h3⟩ | ⟨h1, h2, h3, h4, _⟩
    all_goals
      clear hv
      go_enter Try.func17, Try.ntmps17
      go_wp2
      go_ret
      exact ⟨rfl, rfl⟩
  · obtain ⟨h1, h2, h3, h4⟩ := valid_true hv
    have h5 : i < 89 := by omega
    clear hv h4
    go_enter Try.func17, Try.ntmps17
    go_wp2
    go_ret
    exact ⟨rfl, rfl⟩
set_option maxHeartbeats 400000 in
theorem rValid_any (v i : Int) (w : World) : Calls Try.prog 10 #[.agg #[.int .i64 v, .int .i64 i]] w fun e w' => e = .returned (.bool (Dlt.valid v i)) ∧ w.alloc (.cells #[.int .i64 v, .int .i64 i] 23) = w' := by
  cases hv : Dlt.valid v i
  · rcases valid_false hv with h1 | ⟨h1, h2⟩ | ⟨h1, h2, h3⟩ | ⟨h1, h2, h3, _, h4⟩
    all_goals
      clear hv
      go_enter Try.func10, Try.ntmps10
      go_wp2
      go_ret
      exact ⟨rfl, rfl⟩
  · obtain ⟨h1, h2, h3, h4⟩ := valid_true hv
    clear hv
    go_enter Try.func10, Try.ntmps10
    go_wp2
    go_ret
    exact ⟨rfl, rfl⟩
/-- block b holds the steps -/
def StepsAt (w : World) (b : Nat) : Prop := b < w.heap.size ∧ ∀ n, n < 89 → w.cell? ⟨b, n, none⟩ = some (.int .i64 (Dlt.st n))
theorem StepsAt.below {w w' : World} {b : Nat} (h : StepsAt w b) (hb : Below w.heap.size w w') : StepsAt w' b :=
  ⟨Nat.lt_of_lt_of_le h.1 hb.size, fun n hn => (hb.cell (p := ⟨b, n, none⟩) h.1).trans (h.2 n hn)⟩
theorem code_at (v x : Int) (n : Nat) (A : Int) (hA : A = ((x - v).natAbs : Int)) : Dlt.code v n x = (if x - v < 0 then 8 else 0) + min (4 * A / Dlt.st n) 7 ∧ 0 ≤ 4 * A / Dlt.st n := by
  have h := Dlt.st_bd n
  refine ⟨by unfold Dlt.code; rw [hA, Int.toNat_natCast], Int.ediv_nonneg (by omega) (by omega)⟩
set_option maxHeartbeats 400000 in
theorem encode_any (b : Nat) (v i x : Int) (w : World) (hs : StepsAt w b) (hv : Dlt.valid v i = true) (x0 : -32768 ≤ x) (x1 : x ≤ 32767) :
    Calls Try.prog 25 #[.pointer (some ⟨b, 0, none⟩), .agg #[.int .i64 v, .int .i64 i], .int .i64 x] w fun e w' => e = .returned (.int .i64 (Dlt.code v i x)) ∧ Below w.heap.size w w' := by
  obtain ⟨h1, h2, h3, h4⟩ := valid_true hv
  clear hv
  obtain ⟨n, rfl⟩ := Int.eq_ofNat_of_zero_le h3
  obtain ⟨hb, hc⟩ := hs
  have hcn := hc n (by omega)
  have hst := Dlt.st_bd n
  obtain ⟨s0, s1⟩ := hst
  clear hc
  by_cases hx : x - v < 0
  · go_enter Try.func25, Try.ntmps25
    go_wp2
    go_quiet (fail)
    go_wp2
    all_goals go_ret
    all_goals
      refine ⟨ret_int' ?_, below_drewN ((Below.refl _ _).alloc (Nat.le_refl _) _) _⟩
      obtain ⟨e1, e2⟩ := code_at v x n (-(x - v)) (by omega)
      rw [e1, if_pos hx]
      generalize 4 * -(x - v) / Dlt.st n = q at *
      rw [IntWalk.wrap64_in _ ⟨by omega, by omega⟩]
      try omega
  · go_enter Try.func25, Try.ntmps25
    go_wp2
    go_quiet (fail)
    go_wp2
    all_goals go_ret
    all_goals
      refine ⟨ret_int' ?_, below_drewN ((Below.refl _ _).alloc (Nat.le_refl _) _) _⟩
      obtain ⟨e1, e2⟩ := code_at v x n (x - v) (by omega)
      rw [e1, if_neg (by omega)]
      generalize 4 * (x - v) / Dlt.st n = q at *
      rw [IntWalk.wrap64_in _ ⟨by omega, by omega⟩]
      try omega
theorem prod_bd (c : Int) (n : Nat) : 0 ≤ (2 * (c % 8) + 1) * Dlt.st n ∧ (2 * (c % 8) + 1) * Dlt.st n ≤ 491505 := by
  obtain ⟨s0, s1⟩ := Dlt.st_bd n
  have h : c % 8 = 0 ∨ c % 8 = 1 ∨ c % 8 = 2 ∨ c % 8 = 3 ∨ c % 8 = 4 ∨ c % 8 = 5 ∨ c % 8 = 6 ∨ c % 8 = 7 := by omega
  rcases h with h | h | h | h | h | h | h | h <;> rw [h] <;> omega
set_option maxHeartbeats 400000 in
theorem decode_any (b : Nat) (v i c : Int) (w : World) (hs : StepsAt w b) (hv : Dlt.valid v i = true) (c0 : 0 ≤ c) (c1 : c ≤ 15) :
    Calls Try.prog 26 #[.pointer (some ⟨b, 0, none⟩), .agg #[.int .i64 v, .int .i64 i], .int .i64 c] w fun e w' => e = .returned (.agg #[.int .i64 (Dlt.nextV v i c), .int .i64 (Dlt.nextI i c)]) ∧ Below w.heap.size w w' := by
  obtain ⟨h1, h2, h3, h4⟩ := valid_true hv
  clear hv
  obtain ⟨n, rfl⟩ := Int.eq_ofNat_of_zero_le h3
  obtain ⟨hb, hc⟩ := hs
  have hcn := hc n (by omega)
  have hst := Dlt.st_bd n
  obtain ⟨s0, s1⟩ := hst
  clear hc
  have hp := prod_bd c n
  obtain ⟨p0, p1⟩ := hp
  go_enter Try.func26, Try.ntmps26
  go_wp2
  go_quiet (fail)
  have hd : 0 ≤ (2 * (c % 8) + 1) * Dlt.st n / 8 ∧ (2 * (c % 8) + 1) * Dlt.st n / 8 ≤ 61438 := by omega
  have HN := Lib.hid (show Dlt.nextV v n c = Dlt.clamp (-32768) 32767 (if 8 ≤ c then v - (2 * (c % 8) + 1) * Dlt.st n / 8 else v + (2 * (c % 8) + 1) * Dlt.st n / 8) from rfl)
  clear p0 p1
  generalize (2 * (c % 8) + 1) * Dlt.st n / 8 = D at *
  obtain ⟨d0, d1⟩ := hd
  have HI := Lib.hid (show Dlt.nextI n c = Dlt.clamp 0 88 (if c % 8 < 4 then (n : Int) - 1 else n + 2 * (c % 8 - 3)) from rfl)
  by_cases hc8 : 8 ≤ c
  all_goals by_cases hm : c % 8 < 4
  all_goals
    go_wp2
    refine bodyPost_ret (v := .agg #[.int .i64 (Dlt.nextV v n c), .int .i64 (Dlt.nextI n c)]) ?_ rfl ⟨rfl, ?_⟩
    · rw [HN.out, HI.out]
      first
        | (rw [if_pos hc8, if_pos hm]; simp [results, Try.results26, go_sem, Dlt.clamp, ← Int.sub_eq_add_neg]; done)
        | (rw [if_pos hc8, if_neg (by omega)]; simp [results, Try.results26, go_sem, Dlt.clamp, ← Int.sub_eq_add_neg]; done)
        | (rw [if_neg (by omega), if_pos hm]; simp [results, Try.results26, go_sem, Dlt.clamp]; done)
        | (rw [if_neg (by omega), if_neg (by omega)]; simp [results, Try.results26, go_sem, Dlt.clamp]; done)
    · exact below_drewN (((Below.refl _ _).alloc (Nat.le_refl _) _).alloc (by simp) _) _

set_option maxHeartbeats 400000 in
theorem rCode_any (v i x : Int) (w : World) (hv : Dlt.valid v i = true) (x0 : -32768 ≤ x) (x1 : x ≤ 32767) :
    Calls Try.prog 27 #[.agg #[.int .i64 v, .int .i64 i], .int .i16 x] w fun e w' => e = .returned (.int .u8 (Dlt.code v i x)) ∧ Below w.heap.size w w' := by
  obtain ⟨h1, h2, h3, h4⟩ := valid_true hv
  clear hv
  obtain ⟨n, rfl⟩ := Int.eq_ofNat_of_zero_le h3
  have hst := Dlt.st_bd n
  obtain ⟨s0, s1⟩ := hst
  have hco := code_at v x n (max (x - v) (-(x - v))) (by omega)
  by_cases hx : x - v < 0
  · rw [if_pos hx] at hco
    have HC := Lib.hid hco.1
    have hq := hco.2
    clear hco
    go_enter Try.func27, Try.ntmps27
    go_wp2_with (go_at_call 12; refine (rSize_in n _ (by omega) (by omega)).mono ?_; rintro e w' ⟨rfl, rfl⟩)
    go_ret
    refine ⟨ret_int' ?_, (Below.refl _ _).alloc (Nat.le_refl _) _⟩
    rw [HC.out]
    omega
  · rw [if_neg hx] at hco
    have HC := Lib.hid hco.1
    have hq := hco.2
    clear hco
    go_enter Try.func27, Try.ntmps27
    go_wp2_with (go_at_call 12; refine (rSize_in n _ (by omega) (by omega)).mono ?_; rintro e w' ⟨rfl, rfl⟩)
    go_ret
    refine ⟨ret_int' ?_, (Below.refl _ _).alloc (Nat.le_refl _) _⟩
    rw [HC.out]
    omega
set_option maxHeartbeats 400000 in
theorem rNext_any (v i c : Int) (w : World) (hv : Dlt.valid v i = true) (c0 : 0 ≤ c) (c1 : c ≤ 15) :
    Calls Try.prog 28 #[.agg #[.int .i64 v, .int .i64 i], .int .u8 c] w fun e w' => e = .returned (.agg #[.int .i64 (Dlt.nextV v i c), .int .i64 (Dlt.nextI i c)]) ∧ Below w.heap.size w w' := by
  obtain ⟨h1, h2, h3, h4⟩ := valid_true hv
  clear hv
  obtain ⟨n, rfl⟩ := Int.eq_ofNat_of_zero_le h3
  have hst := Dlt.st_bd n
  obtain ⟨s0, s1⟩ := hst
  have hp := prod_bd c n
  obtain ⟨p0, p1⟩ := hp
  have HN := Lib.hid (show Dlt.nextV v n c = Dlt.clamp (-32768) 32767 (if 8 ≤ c then v - (2 * (c % 8) + 1) * Dlt.st n / 8 else v + (2 * (c % 8) + 1) * Dlt.st n / 8) from rfl)
  have HI := Lib.hid (show Dlt.nextI n c = Dlt.clamp 0 88 (if c % 8 < 4 then (n : Int) - 1 else n + 2 * (c % 8 - 3)) from rfl)
  by_cases hc8 : 8 ≤ c
  all_goals by_cases hm : c % 8 < 4
  all_goals
    go_enter Try.func28, Try.ntmps28
    go_wp2_with (go_at_call 12; refine (rSize_in n _ (by omega) (by omega)).mono ?_; rintro e w' ⟨rfl, rfl⟩)
    refine bodyPost_ret (v := .agg #[.int .i64 (Dlt.nextV v n c), .int .i64 (Dlt.nextI n c)]) ?_ rfl ⟨rfl, ?_⟩
    · rw [HN.out, HI.out]
      first
        | (rw [if_pos hc8, if_pos hm]; simp [results, Try.results28, go_sem, Dlt.clamp]; done)
        | (rw [if_pos hc8, if_neg (by omega)]; simp [results, Try.results28, go_sem, Dlt.clamp]; done)
        | (rw [if_neg (by omega), if_pos hm]; simp [results, Try.results28, go_sem, Dlt.clamp]; done)
        | (rw [if_neg (by omega), if_neg (by omega)]; simp [results, Try.results28, go_sem, Dlt.clamp]; done)
    · exact ((Below.refl _ _).alloc (Nat.le_refl _) _).alloc (by simp) _
end Go.Proofs.Ytcnijhcoifodpaa

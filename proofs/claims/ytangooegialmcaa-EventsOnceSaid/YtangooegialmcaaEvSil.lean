/- Layer 29: Silence of the program and of the reference. -/
import Derived.Test.YtangooegialmcaaEvLevel
import Derived.RegionTactic
namespace Go.Proofs.Ytangooegialmcaa
open Go.RowKit
set_option linter.unusedVariables false
set_option linter.unusedSimpArgs false
attribute [local go_sem ↓] run_min_plain run_max_plain
attribute [local go_sem] setCell_drewN alloc_drewN
section
variable (q : Int) (A : Option Addr) (zs : List Int) (cap : Nat) (w : World)
set_option maxHeartbeats 800000 in
theorem Silence_any (q0 : -9223372036854775808 ≤ q) (q1 : q ≤ 9223372036854775807) (hA : IntsAt w w.heap.size .i16 A zs) (hz : Within (-32768) 32767 zs) (hl : zs.length ≤ 8000) :
    Calls Try.prog 18 #[.agg #[.int .i64 q], .slice A zs.length cap] w fun e w' => e = .returned (.tuple #[.agg #[.int .i64 (Ev.quiet q zs)], .bool (Ev.quiet q zs == 10)]) ∧ Below w.heap.size w w' := by
  have k1 := Lib.hid fun W h => Level_any A zs cap W h hz hl
  obtain ⟨R, hR⟩ : ∃ R, R = Ev.quiet q zs := ⟨_, rfl⟩
  rw [← hR]
  unfold Ev.quiet at hR
  have hb := Ev.lev_bd zs hz
  have IA := Lib.hid ((hA.push (.cells #[.int .i64 q] 43)).push (.cells #[.int .i64 0] 43))
  generalize Ev.lev zs = L at *
  clear hz hA
  by_cases hL : L < 60
  · rw [if_pos hL] at hR
    subst hR
    go_enter Try.func18, Try.ntmps18
    go_wp2_with (go_at_call 16; refine (k1.out _ IA.out).mono ?_; rintro e w1 ⟨rfl, rfl⟩)
    refine bodyPost_ret (v := .tuple #[.agg #[.int .i64 0], .bool ((0 : Int) == 10)]) (by simp [results, Try.results18, go_sem]) rfl ⟨rfl, ?_⟩
    repeat (first | exact Below.refl _ _ | refine Below.drew ?_ | refine Below.setCell ?_ (by simp) _ | refine Below.alloc ?_ (by simp; try omega) _)
  · rw [if_neg hL] at hR
    have hL' : decide (L < 60) = false := by simpa using hL
    have HR := Lib.hid hR
    clear hR hL
    go_enter Try.func18, Try.ntmps18
    go_wp2_with (go_at_call 16; refine (k1.out _ IA.out).mono ?_; rintro e w1 ⟨rfl, rfl⟩)
    refine bodyPost_ret (v := .tuple #[.agg #[.int .i64 R], .bool (R == 10)]) (by rw [HR.out]; simp [results, Try.results18, go_sem]) rfl ⟨rfl, ?_⟩
    repeat (first | exact Below.refl _ _ | refine Below.drew ?_ | refine Below.setCell ?_ (by simp) _ | refine Below.alloc ?_ (by simp; try omega) _)
set_option maxHeartbeats 1600000 in
theorem rSilence_any (q0 : -9223372036854775808 ≤ q) (q1 : q ≤ 9223372036854775807) (hA : IntsAt w w.heap.size .i16 A zs) (hz : Within (-32768) 32767 zs) (hl : zs.length ≤ 8000) :
    Calls Try.prog 19 #[.agg #[.int .i64 q], .slice A zs.length cap] w fun e w' => e = .returned (.tuple #[.agg #[.int .i64 (Ev.quiet q zs)], .bool (Ev.quiet q zs == 10)]) ∧ Below w.heap.size w w' := by
  have k1 := Lib.hid fun W h => rLevel_any A zs cap W h hz hl
  obtain ⟨R, hR⟩ : ∃ R, R = Ev.quiet q zs := ⟨_, rfl⟩
  rw [← hR]
  unfold Ev.quiet at hR
  have hb := Ev.lev_bd zs hz
  have IA := Lib.hid ((hA.push (.cells #[.int .i64 q] 43)).push (.cells #[.int .i64 0] 43))
  generalize Ev.lev zs = L at *
  clear hz hA
  have fin : ∀ (w1 : World), Below ((w.alloc (.cells #[.int .i64 q] 43)).alloc (.cells #[.int .i64 0] 43)).heap.size ((w.alloc (.cells #[.int .i64 q] 43)).alloc (.cells #[.int .i64 0] 43)) w1 → Hid (Blk w1 w.heap.size 43 #[.int .i64 q]) ∧ Hid (Blk w1 (w.heap.size + 1) 43 #[.int .i64 0]) ∧ Hid (Bel w w1) := fun w1 hb =>
    ⟨Lib.hid (((Blk.new w 43 #[.int .i64 q]).push (.cells #[.int .i64 0] 43)).later hb), Lib.hid ((Blk.new1 w (.cells #[.int .i64 q] 43) 43 #[.int .i64 0]).later hb), Lib.hid ((((Bel.refl w).push _).push _).later hb)⟩
  have hcases : L < 60 ∨ (60 ≤ L ∧ q < 0) ∨ (60 ≤ L ∧ 0 ≤ q ∧ q < 10) ∨ (60 ≤ L ∧ q = 10) ∨ (60 ≤ L ∧ 10 < q) := by omega
  rcases hcases with h | ⟨h, h2⟩ | ⟨h, h2, h3⟩ | ⟨h, rfl⟩ | ⟨h, h2⟩
  · rw [if_pos h] at hR
    subst hR
    go_enter Try.func19, Try.ntmps19
    go_wp2_with fail
    refine (k1.out _ IA.out).mono ?_
    rintro e w1 ⟨rfl, hb1⟩
    obtain ⟨B0, B1, U⟩ := fin w1 hb1
    clear hb1 fin
    have d0 := B1.out.at 0 _ rfl
    have d1 := B1.out.frozen 0
    go_wp2
    refine bodyPost_ret (v := .tuple #[.agg #[.int .i64 0], .bool ((0 : Int) == 10)]) (by simp [results, Try.results19, go_sem, d0]) rfl ⟨rfl, ?_⟩
    exact Below.setCell U.out (by simp) _
  · rw [if_neg (by omega)] at hR
    obtain rfl : R = 1 := by omega
    clear hR
    go_enter Try.func19, Try.ntmps19
    go_wp2_with fail
    refine (k1.out _ IA.out).mono ?_
    rintro e w1 ⟨rfl, hb1⟩
    obtain ⟨B0, B1, U⟩ := fin w1 hb1
    clear hb1 fin
    have d0 := B1.out.at 0 _ rfl
    have d1 := B1.out.frozen 0
    have d2 := B0.out.at 0 _ rfl
    have d3 := B0.out.frozen 0
    go_wp2
    all_goals go_region
    all_goals go_wp2
    all_goals refine bodyPost_ret (v := .tuple #[.agg #[.int .i64 (1)], .bool ((1 : Int) == 10)]) (by simp [results, Try.results19, go_sem, d0]) rfl ⟨rfl, ?_⟩
    all_goals repeat (first | exact U.out | refine Below.drew ?_ | refine Below.setCell ?_ (by simp) _)
  · rw [if_neg (by omega)] at hR
    obtain rfl : R = q + 1 := by omega
    clear hR
    go_enter Try.func19, Try.ntmps19
    go_wp2_with fail
    refine (k1.out _ IA.out).mono ?_
    rintro e w1 ⟨rfl, hb1⟩
    obtain ⟨B0, B1, U⟩ := fin w1 hb1
    clear hb1 fin
    have d0 := B1.out.at 0 _ rfl
    have d1 := B1.out.frozen 0
    have d2 := B0.out.at 0 _ rfl
    have d3 := B0.out.frozen 0
    go_wp2
    all_goals go_region
    all_goals go_wp2
    all_goals refine bodyPost_ret (v := .tuple #[.agg #[.int .i64 (q + 1)], .bool ((q + 1 : Int) == 10)]) (by simp [results, Try.results19, go_sem, d0]) rfl ⟨rfl, ?_⟩
    all_goals repeat (first | exact U.out | refine Below.drew ?_ | refine Below.setCell ?_ (by simp) _)
  · rw [if_neg (by omega)] at hR
    obtain rfl : R = 10 := by omega
    clear hR
    go_enter Try.func19, Try.ntmps19
    go_wp2_with fail
    refine (k1.out _ IA.out).mono ?_
    rintro e w1 ⟨rfl, hb1⟩
    obtain ⟨B0, B1, U⟩ := fin w1 hb1
    clear hb1 fin
    have d0 := B1.out.at 0 _ rfl
    have d1 := B1.out.frozen 0
    have d2 := B0.out.at 0 _ rfl
    have d3 := B0.out.frozen 0
    go_wp2
    all_goals go_region
    all_goals go_wp2
    all_goals refine bodyPost_ret (v := .tuple #[.agg #[.int .i64 (10)], .bool ((10 : Int) == 10)]) (by simp [results, Try.results19, go_sem, d0]) rfl ⟨rfl, ?_⟩
    all_goals repeat (first | exact U.out | refine Below.drew ?_ | refine Below.setCell ?_ (by simp) _)
  · rw [if_neg (by omega)] at hR
    obtain rfl : R = 10 := by omega
    clear hR
    go_enter Try.func19, Try.ntmps19
    go_wp2_with fail
    refine (k1.out _ IA.out).mono ?_
    rintro e w1 ⟨rfl, hb1⟩
    obtain ⟨B0, B1, U⟩ := fin w1 hb1
    clear hb1 fin
    have d0 := B1.out.at 0 _ rfl
    have d1 := B1.out.frozen 0
    have d2 := B0.out.at 0 _ rfl
    have d3 := B0.out.frozen 0
    go_wp2
    all_goals go_region
    all_goals go_wp2
    all_goals refine bodyPost_ret (v := .tuple #[.agg #[.int .i64 (10)], .bool ((10 : Int) == 10)]) (by simp [results, Try.results19, go_sem, d0]) rfl ⟨rfl, ?_⟩
    all_goals repeat (first | exact U.out | refine Below.drew ?_ | refine Below.setCell ?_ (by simp) _)
end
end Go.Proofs.Ytangooegialmcaa

/- Layer 29: senders: validSender, Press, Release, Next of the program and of the reference. -/
import Derived.Test.YtangooegialmcaaEvPlain
import Derived.Test.YtangooegialmcaaLaw
import Derived.Test.YtangooegialmcaaRes
import Derived.RegionTactic
namespace Go.Proofs.Ytangooegialmcaa
open Go.RowKit
set_option linter.unusedVariables false
attribute [local go_sem ↓] run_min_plain run_max_plain
attribute [local go_sem] setCell_drewN alloc_drewN
/-- a sender's cells -/
def Ev.Snd.row (s : Ev.Snd) : Array Value := #[.bool s.on, .int .u8 s.code, .int .u8 s.vol, .int .u32 s.start, .int .i64 s.len, .int .i64 s.ends]
section
variable (on : Bool) (code vol start len ends c v t n : Int) (w : World)
set_option maxHeartbeats 800000 in
theorem validSender_any :
    Calls Try.prog 38 #[.agg #[.bool on, .int .u8 code, .int .u8 vol, .int .u32 start, .int .i64 len, .int .i64 ends]] w fun e w' => e = .returned (.bool (Ev.Snd.valid ⟨on, code, vol, start, len, ends⟩)) ∧ w.alloc (.cells #[.bool on, .int .u8 code, .int .u8 vol, .int .u32 start, .int .i64 len, .int .i64 ends] 49) = w' := by
  cases on
  all_goals
    go_enter Try.func38, Try.ntmps38
    go_wp2
    all_goals go_ret
    all_goals refine ⟨?_, rfl⟩
    all_goals (simp_all [Ev.Snd.valid])
    all_goals omega
set_option maxHeartbeats 800000 in
theorem rValidSender_any :
    Calls Try.prog 39 #[.agg #[.bool on, .int .u8 code, .int .u8 vol, .int .u32 start, .int .i64 len, .int .i64 ends]] w fun e w' => e = .returned (.bool (Ev.Snd.valid ⟨on, code, vol, start, len, ends⟩)) ∧ w.alloc (.cells #[.bool on, .int .u8 code, .int .u8 vol, .int .u32 start, .int .i64 len, .int .i64 ends] 49) = w' := by
  cases on
  all_goals
    go_enter Try.func39, Try.ntmps39
    go_wp2
    all_goals go_ret
    all_goals refine ⟨?_, rfl⟩
    all_goals (simp_all [Ev.Snd.valid])
    all_goals omega
theorem valid_parts {on : Bool} {code vol start len ends : Int} (h : Ev.Snd.valid ⟨on, code, vol, start, len, ends⟩ = true) : vol ≤ 63 ∧ 0 ≤ len ∧ len ≤ 65535 ∧ 0 ≤ ends ∧ ends ≤ 3 ∧ (on = true → ends = 0) := by
  simp [Ev.Snd.valid] at h
  obtain ⟨⟨⟨⟨⟨h1, h2⟩, h3⟩, h4⟩, h5⟩, h6⟩ := h
  refine ⟨h1, h2, h3, h4, h5, fun ho => ?_⟩
  rcases h6 with h6 | h6
  · rw [ho] at h6; cases h6
  · exact h6
set_option linter.unusedSimpArgs false in
set_option maxHeartbeats 1600000 in
theorem Press_any :
    Calls Try.prog 20 #[.agg #[.bool on, .int .u8 code, .int .u8 vol, .int .u32 start, .int .i64 len, .int .i64 ends], .int .u8 c, .int .u8 v, .int .u32 t] w fun e w' => e = .returned (.tuple #[.agg (Ev.press ⟨on, code, vol, start, len, ends⟩ c v t).1.row, .int .u8 (Ev.press ⟨on, code, vol, start, len, ends⟩ c v t).2]) ∧ Below w.heap.size w w' := by
  have k1 := Lib.hid fun W => validSender_any on code vol start len ends W
  obtain ⟨R, hR⟩ : ∃ R, R = Ev.press ⟨on, code, vol, start, len, ends⟩ c v t := ⟨_, rfl⟩
  rw [← hR]
  obtain ⟨V, hV⟩ : ∃ V, V = Ev.Snd.valid ⟨on, code, vol, start, len, ends⟩ := ⟨_, rfl⟩
  unfold Ev.press at hR
  rw [← hV] at k1 hR
  have HR := Lib.hid hR
  clear hV hR
  cases V <;> cases on
  all_goals
    go_enter Try.func20, Try.ntmps20
    go_wp2_with (go_at_call 38; refine (k1.out _).mono ?_; rintro e w1 ⟨rfl, rfl⟩)
    all_goals
      refine bodyPost_ret (v := .tuple #[.agg R.1.row, .int .u8 R.2]) ?_ rfl ⟨rfl, ?_⟩
      · have hR := HR.out
        first
          | (simp_all [results, Try.results20, go_sem, Ev.Snd.zero, Ev.Snd.row]; done)
          | (simp_all [results, Try.results20, go_sem, Ev.Snd.zero, Ev.Snd.row]; (repeat' split) <;> first | omega | (simp_all; done) | (simp_all; omega))
      · repeat (first | exact Below.refl _ _ | refine Below.drew ?_ | refine Below.setCell ?_ (by simp) _ | refine Below.alloc ?_ (by simp; try omega) _)
set_option linter.unusedSimpArgs false in
set_option maxHeartbeats 1600000 in
theorem rPress_any :
    Calls Try.prog 21 #[.agg #[.bool on, .int .u8 code, .int .u8 vol, .int .u32 start, .int .i64 len, .int .i64 ends], .int .u8 c, .int .u8 v, .int .u32 t] w fun e w' => e = .returned (.tuple #[.agg (Ev.press ⟨on, code, vol, start, len, ends⟩ c v t).1.row, .int .u8 (Ev.press ⟨on, code, vol, start, len, ends⟩ c v t).2]) ∧ Below w.heap.size w w' := by
  have k1 := Lib.hid fun W => rValidSender_any on code vol start len ends W
  obtain ⟨R, hR⟩ : ∃ R, R = Ev.press ⟨on, code, vol, start, len, ends⟩ c v t := ⟨_, rfl⟩
  rw [← hR]
  obtain ⟨V, hV⟩ : ∃ V, V = Ev.Snd.valid ⟨on, code, vol, start, len, ends⟩ := ⟨_, rfl⟩
  unfold Ev.press at hR
  rw [← hV] at k1 hR
  have HR := Lib.hid hR
  clear hV hR
  cases V <;> cases on
  all_goals
    go_enter Try.func21, Try.ntmps21
    go_wp2_with (go_at_call 39; refine (k1.out _).mono ?_; rintro e w1 ⟨rfl, rfl⟩)
    all_goals
      refine bodyPost_ret (v := .tuple #[.agg R.1.row, .int .u8 R.2]) ?_ rfl ⟨rfl, ?_⟩
      · have hR := HR.out
        first
          | (simp_all [results, Try.results21, go_sem, Ev.Snd.zero, Ev.Snd.row]; done)
          | (simp_all [results, Try.results21, go_sem, Ev.Snd.zero, Ev.Snd.row]; (repeat' split) <;> first | omega | (simp_all; done) | (simp_all; omega))
      · repeat (first | exact Below.refl _ _ | refine Below.drew ?_ | refine Below.setCell ?_ (by simp) _ | refine Below.alloc ?_ (by simp; try omega) _)
set_option linter.unusedSimpArgs false in
set_option maxHeartbeats 1600000 in
theorem Release_any :
    Calls Try.prog 22 #[.agg #[.bool on, .int .u8 code, .int .u8 vol, .int .u32 start, .int .i64 len, .int .i64 ends]] w fun e w' => e = .returned (.tuple #[.agg (Ev.release ⟨on, code, vol, start, len, ends⟩).1.row, .int .u8 (Ev.release ⟨on, code, vol, start, len, ends⟩).2]) ∧ Below w.heap.size w w' := by
  have k1 := Lib.hid fun W => validSender_any on code vol start len ends W
  obtain ⟨R, hR⟩ : ∃ R, R = Ev.release ⟨on, code, vol, start, len, ends⟩ := ⟨_, rfl⟩
  rw [← hR]
  obtain ⟨V, hV⟩ : ∃ V, V = Ev.Snd.valid ⟨on, code, vol, start, len, ends⟩ := ⟨_, rfl⟩
  unfold Ev.release at hR
  rw [← hV] at k1 hR
  have HR := Lib.hid hR
  clear hV hR
  cases V <;> cases on
  all_goals
    go_enter Try.func22, Try.ntmps22
    go_wp2_with (go_at_call 38; refine (k1.out _).mono ?_; rintro e w1 ⟨rfl, rfl⟩)
    all_goals
      refine bodyPost_ret (v := .tuple #[.agg R.1.row, .int .u8 R.2]) ?_ rfl ⟨rfl, ?_⟩
      · have hR := HR.out
        first
          | (simp_all [results, Try.results22, go_sem, Ev.Snd.zero, Ev.Snd.row]; done)
          | (simp_all [results, Try.results22, go_sem, Ev.Snd.zero, Ev.Snd.row]; (repeat' split) <;> first | omega | (simp_all; done) | (simp_all; omega))
      · repeat (first | exact Below.refl _ _ | refine Below.drew ?_ | refine Below.setCell ?_ (by simp) _ | refine Below.alloc ?_ (by simp; try omega) _)
set_option linter.unusedSimpArgs false in
set_option maxHeartbeats 1600000 in
theorem rRelease_any :
    Calls Try.prog 23 #[.agg #[.bool on, .int .u8 code, .int .u8 vol, .int .u32 start, .int .i64 len, .int .i64 ends]] w fun e w' => e = .returned (.tuple #[.agg (Ev.release ⟨on, code, vol, start, len, ends⟩).1.row, .int .u8 (Ev.release ⟨on, code, vol, start, len, ends⟩).2]) ∧ Below w.heap.size w w' := by
  have k1 := Lib.hid fun W => rValidSender_any on code vol start len ends W
  obtain ⟨R, hR⟩ : ∃ R, R = Ev.release ⟨on, code, vol, start, len, ends⟩ := ⟨_, rfl⟩
  rw [← hR]
  obtain ⟨V, hV⟩ : ∃ V, V = Ev.Snd.valid ⟨on, code, vol, start, len, ends⟩ := ⟨_, rfl⟩
  unfold Ev.release at hR
  rw [← hV] at k1 hR
  have HR := Lib.hid hR
  clear hV hR
  cases V <;> cases on
  all_goals
    go_enter Try.func23, Try.ntmps23
    go_wp2_with (go_at_call 39; refine (k1.out _).mono ?_; rintro e w1 ⟨rfl, rfl⟩)
    all_goals
      refine bodyPost_ret (v := .tuple #[.agg R.1.row, .int .u8 R.2]) ?_ rfl ⟨rfl, ?_⟩
      · have hR := HR.out
        first
          | (simp_all [results, Try.results23, go_sem, Ev.Snd.zero, Ev.Snd.row]; done)
          | (simp_all [results, Try.results23, go_sem, Ev.Snd.zero, Ev.Snd.row]; (repeat' split) <;> first | omega | (simp_all; done) | (simp_all; omega))
      · repeat (first | exact Below.refl _ _ | refine Below.drew ?_ | refine Below.setCell ?_ (by simp) _ | refine Below.alloc ?_ (by simp; try omega) _)
end
end Go.Proofs.Ytangooegialmcaa

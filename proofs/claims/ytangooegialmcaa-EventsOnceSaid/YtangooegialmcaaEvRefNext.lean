/- Layer 29: Next of the reference. -/
import Derived.Test.YtangooegialmcaaEvSnd
import Derived.BigRegion
namespace Go.Proofs.Ytangooegialmcaa
open Go.RowKit
set_option linter.unusedVariables false
set_option linter.unusedSimpArgs false
attribute [local go_sem ↓] run_min_plain run_max_plain
attribute [local go_sem] setCell_drewN alloc_drewN
section
variable (on : Bool) (code vol start len ends n : Int) (w : World)
set_option maxHeartbeats 1600000 in
theorem rNext_bad (hv : Ev.Snd.valid ⟨on, code, vol, start, len, ends⟩ = false) :
    Calls Try.prog 25 #[.agg #[.bool on, .int .u8 code, .int .u8 vol, .int .u32 start, .int .i64 len, .int .i64 ends], .int .i64 n] w fun e w' => e = .returned (.tuple #[.agg (Ev.next ⟨on, code, vol, start, len, ends⟩ n).s.row, .agg #[.int .u32 (Ev.next ⟨on, code, vol, start, len, ends⟩ n).o.time, .bool (Ev.next ⟨on, code, vol, start, len, ends⟩ n).o.marker, .int .u8 (Ev.next ⟨on, code, vol, start, len, ends⟩ n).o.tone.code, .bool (Ev.next ⟨on, code, vol, start, len, ends⟩ n).o.tone.fin, .int .u8 (Ev.next ⟨on, code, vol, start, len, ends⟩ n).o.tone.vol, .int .u16 (Ev.next ⟨on, code, vol, start, len, ends⟩ n).o.tone.dur], .bool (Ev.next ⟨on, code, vol, start, len, ends⟩ n).some, .int .u8 (Ev.next ⟨on, code, vol, start, len, ends⟩ n).err]) ∧ Below w.heap.size w w' := by
  have k1 := Lib.hid fun W => rValidSender_any on code vol start len ends W
  rw [hv] at k1
  obtain ⟨R, hR⟩ : ∃ R, R = Ev.next ⟨on, code, vol, start, len, ends⟩ n := ⟨_, rfl⟩
  rw [← hR]
  unfold Ev.next at hR
  rw [hv] at hR
  skip
  have HR := Lib.hid hR
  clear hv hR
  go_enter Try.func25, Try.ntmps25
  go_wp2_with (go_at_call 39; refine (k1.out _).mono ?_; rintro e w1 ⟨rfl, rfl⟩)
  all_goals
    refine bodyPost_ret (v := .tuple #[.agg R.s.row, .agg #[.int .u32 R.o.time, .bool R.o.marker, .int .u8 R.o.tone.code, .bool R.o.tone.fin, .int .u8 R.o.tone.vol, .int .u16 R.o.tone.dur], .bool R.some, .int .u8 R.err]) ?_ rfl ⟨rfl, ?_⟩
    · have hR := HR.out
      first
        | (simp_all [results, Try.results25, go_sem, Ev.Snd.zero, Ev.Snd.row, Ev.Out.zero, Ev.Tone.zero]; done)
        | (simp_all [results, Try.results25, go_sem, Ev.Snd.zero, Ev.Snd.row, Ev.Out.zero, Ev.Tone.zero]; (repeat' split) <;> first | omega | (simp_all; done) | (simp_all; omega))
    · repeat (first | exact Below.refl _ _ | refine Below.drew ?_ | refine Below.setCell ?_ (by simp) _ | refine Below.alloc ?_ (by simp; try omega) _)
set_option maxHeartbeats 1600000 in
theorem rNext_range (hv : Ev.Snd.valid ⟨on, code, vol, start, len, ends⟩ = true) (hn : n < 1 ∨ 8000 < n) :
    Calls Try.prog 25 #[.agg #[.bool on, .int .u8 code, .int .u8 vol, .int .u32 start, .int .i64 len, .int .i64 ends], .int .i64 n] w fun e w' => e = .returned (.tuple #[.agg (Ev.next ⟨on, code, vol, start, len, ends⟩ n).s.row, .agg #[.int .u32 (Ev.next ⟨on, code, vol, start, len, ends⟩ n).o.time, .bool (Ev.next ⟨on, code, vol, start, len, ends⟩ n).o.marker, .int .u8 (Ev.next ⟨on, code, vol, start, len, ends⟩ n).o.tone.code, .bool (Ev.next ⟨on, code, vol, start, len, ends⟩ n).o.tone.fin, .int .u8 (Ev.next ⟨on, code, vol, start, len, ends⟩ n).o.tone.vol, .int .u16 (Ev.next ⟨on, code, vol, start, len, ends⟩ n).o.tone.dur], .bool (Ev.next ⟨on, code, vol, start, len, ends⟩ n).some, .int .u8 (Ev.next ⟨on, code, vol, start, len, ends⟩ n).err]) ∧ Below w.heap.size w w' := by
  have k1 := Lib.hid fun W => rValidSender_any on code vol start len ends W
  rw [hv] at k1
  obtain ⟨R, hR⟩ : ∃ R, R = Ev.next ⟨on, code, vol, start, len, ends⟩ n := ⟨_, rfl⟩
  rw [← hR]
  unfold Ev.next at hR
  rw [hv] at hR
  skip
  have HR := Lib.hid hR
  clear hv hR
  rcases hn with hn | hn
  all_goals
   go_enter Try.func25, Try.ntmps25
   go_wp2_with (go_at_call 39; refine (k1.out _).mono ?_; rintro e w1 ⟨rfl, rfl⟩)
   all_goals
    refine bodyPost_ret (v := .tuple #[.agg R.s.row, .agg #[.int .u32 R.o.time, .bool R.o.marker, .int .u8 R.o.tone.code, .bool R.o.tone.fin, .int .u8 R.o.tone.vol, .int .u16 R.o.tone.dur], .bool R.some, .int .u8 R.err]) ?_ rfl ⟨rfl, ?_⟩
    · have hR := HR.out
      first
        | (simp_all [results, Try.results25, go_sem, Ev.Snd.zero, Ev.Snd.row, Ev.Out.zero, Ev.Tone.zero]; done)
        | (simp_all [results, Try.results25, go_sem, Ev.Snd.zero, Ev.Snd.row, Ev.Out.zero, Ev.Tone.zero]; (repeat' split) <;> first | omega | (simp_all; done) | (simp_all; omega))
    · repeat (first | exact Below.refl _ _ | refine Below.drew ?_ | refine Below.setCell ?_ (by simp) _ | refine Below.alloc ?_ (by simp; try omega) _)
set_option maxHeartbeats 1600000 in
theorem rNext_on (hv : Ev.Snd.valid ⟨true, code, vol, start, len, ends⟩ = true) (hn0 : 1 ≤ n) (hn1 : n ≤ 8000) :
    Calls Try.prog 25 #[.agg #[.bool true, .int .u8 code, .int .u8 vol, .int .u32 start, .int .i64 len, .int .i64 ends], .int .i64 n] w fun e w' => e = .returned (.tuple #[.agg (Ev.next ⟨true, code, vol, start, len, ends⟩ n).s.row, .agg #[.int .u32 (Ev.next ⟨true, code, vol, start, len, ends⟩ n).o.time, .bool (Ev.next ⟨true, code, vol, start, len, ends⟩ n).o.marker, .int .u8 (Ev.next ⟨true, code, vol, start, len, ends⟩ n).o.tone.code, .bool (Ev.next ⟨true, code, vol, start, len, ends⟩ n).o.tone.fin, .int .u8 (Ev.next ⟨true, code, vol, start, len, ends⟩ n).o.tone.vol, .int .u16 (Ev.next ⟨true, code, vol, start, len, ends⟩ n).o.tone.dur], .bool (Ev.next ⟨true, code, vol, start, len, ends⟩ n).some, .int .u8 (Ev.next ⟨true, code, vol, start, len, ends⟩ n).err]) ∧ Below w.heap.size w w' := by
  have k1 := Lib.hid fun W => rValidSender_any true code vol start len ends W
  rw [hv] at k1
  obtain ⟨R, hR⟩ : ∃ R, R = Ev.next ⟨true, code, vol, start, len, ends⟩ n := ⟨_, rfl⟩
  rw [← hR]
  unfold Ev.next at hR
  rw [hv] at hR
  obtain ⟨b1, b2, b3, b4, b5, b6⟩ := valid_parts hv
  obtain rfl := b6 rfl
  have HR := Lib.hid hR
  clear hv hR
  go_enter Try.func25, Try.ntmps25
  go_wp2_with (go_at_call 39; refine (k1.out _).mono ?_; rintro e w1 ⟨rfl, rfl⟩)
  all_goals (try (go_region; go_wp2))
  all_goals
    refine bodyPost_ret (v := .tuple #[.agg R.s.row, .agg #[.int .u32 R.o.time, .bool R.o.marker, .int .u8 R.o.tone.code, .bool R.o.tone.fin, .int .u8 R.o.tone.vol, .int .u16 R.o.tone.dur], .bool R.some, .int .u8 R.err]) ?_ rfl ⟨rfl, ?_⟩
    · have hR := HR.out
      first
        | (simp_all [results, Try.results25, go_sem, Ev.Snd.zero, Ev.Snd.row, Ev.Out.zero, Ev.Tone.zero]; done)
        | (simp_all [results, Try.results25, go_sem, Ev.Snd.zero, Ev.Snd.row, Ev.Out.zero, Ev.Tone.zero]; (repeat' split) <;> first | omega | (simp_all; done) | (simp_all; omega))
    · repeat (first | exact Below.refl _ _ | refine Below.drew ?_ | refine Below.setCell ?_ (by simp) _ | refine Below.alloc ?_ (by simp; try omega) _)
set_option maxHeartbeats 1600000 in
theorem rNext_off (hv : Ev.Snd.valid ⟨false, code, vol, start, len, ends⟩ = true) (hn0 : 1 ≤ n) (hn1 : n ≤ 8000) :
    Calls Try.prog 25 #[.agg #[.bool false, .int .u8 code, .int .u8 vol, .int .u32 start, .int .i64 len, .int .i64 ends], .int .i64 n] w fun e w' => e = .returned (.tuple #[.agg (Ev.next ⟨false, code, vol, start, len, ends⟩ n).s.row, .agg #[.int .u32 (Ev.next ⟨false, code, vol, start, len, ends⟩ n).o.time, .bool (Ev.next ⟨false, code, vol, start, len, ends⟩ n).o.marker, .int .u8 (Ev.next ⟨false, code, vol, start, len, ends⟩ n).o.tone.code, .bool (Ev.next ⟨false, code, vol, start, len, ends⟩ n).o.tone.fin, .int .u8 (Ev.next ⟨false, code, vol, start, len, ends⟩ n).o.tone.vol, .int .u16 (Ev.next ⟨false, code, vol, start, len, ends⟩ n).o.tone.dur], .bool (Ev.next ⟨false, code, vol, start, len, ends⟩ n).some, .int .u8 (Ev.next ⟨false, code, vol, start, len, ends⟩ n).err]) ∧ Below w.heap.size w w' := by
  have k1 := Lib.hid fun W => rValidSender_any false code vol start len ends W
  rw [hv] at k1
  obtain ⟨R, hR⟩ : ∃ R, R = Ev.next ⟨false, code, vol, start, len, ends⟩ n := ⟨_, rfl⟩
  rw [← hR]
  unfold Ev.next at hR
  rw [hv] at hR
  obtain ⟨b1, b2, b3, b4, b5, b6⟩ := valid_parts hv
  have HR := Lib.hid hR
  clear hv hR
  go_enter Try.func25, Try.ntmps25
  go_wp2_with (go_at_call 39; refine (k1.out _).mono ?_; rintro e w1 ⟨rfl, rfl⟩)
  all_goals (try (go_region; go_wp2))
  all_goals
    refine bodyPost_ret (v := .tuple #[.agg R.s.row, .agg #[.int .u32 R.o.time, .bool R.o.marker, .int .u8 R.o.tone.code, .bool R.o.tone.fin, .int .u8 R.o.tone.vol, .int .u16 R.o.tone.dur], .bool R.some, .int .u8 R.err]) ?_ rfl ⟨rfl, ?_⟩
    · have hR := HR.out
      first
        | (simp_all [results, Try.results25, go_sem, Ev.Snd.zero, Ev.Snd.row, Ev.Out.zero, Ev.Tone.zero]; done)
        | (simp_all [results, Try.results25, go_sem, Ev.Snd.zero, Ev.Snd.row, Ev.Out.zero, Ev.Tone.zero]; (repeat' split) <;> first | omega | (simp_all; done) | (simp_all; omega))
    · repeat (first | exact Below.refl _ _ | refine Below.drew ?_ | refine Below.setCell ?_ (by simp) _ | refine Below.alloc ?_ (by simp; try omega) _)
theorem rNext_any :
    Calls Try.prog 25 #[.agg #[.bool on, .int .u8 code, .int .u8 vol, .int .u32 start, .int .i64 len, .int .i64 ends], .int .i64 n] w fun e w' => e = .returned (.tuple #[.agg (Ev.next ⟨on, code, vol, start, len, ends⟩ n).s.row, .agg #[.int .u32 (Ev.next ⟨on, code, vol, start, len, ends⟩ n).o.time, .bool (Ev.next ⟨on, code, vol, start, len, ends⟩ n).o.marker, .int .u8 (Ev.next ⟨on, code, vol, start, len, ends⟩ n).o.tone.code, .bool (Ev.next ⟨on, code, vol, start, len, ends⟩ n).o.tone.fin, .int .u8 (Ev.next ⟨on, code, vol, start, len, ends⟩ n).o.tone.vol, .int .u16 (Ev.next ⟨on, code, vol, start, len, ends⟩ n).o.tone.dur], .bool (Ev.next ⟨on, code, vol, start, len, ends⟩ n).some, .int .u8 (Ev.next ⟨on, code, vol, start, len, ends⟩ n).err]) ∧ Below w.heap.size w w' := by
  cases hv : Ev.Snd.valid ⟨on, code, vol, start, len, ends⟩
  · exact rNext_bad on code vol start len ends n w hv
  · by_cases hn : n < 1 ∨ 8000 < n
    · exact rNext_range on code vol start len ends n w hv hn
    · cases on
      · exact rNext_off code vol start len ends n w hv (by omega) (by omega)
      · exact rNext_on code vol start len ends n w hv (by omega) (by omega)
end
end Go.Proofs.Ytangooegialmcaa

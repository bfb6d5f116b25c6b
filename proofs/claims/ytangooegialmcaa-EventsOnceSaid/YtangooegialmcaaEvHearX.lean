/- Layer 29: Hear of the program: the key goes on, or nothing happens. -/
import Derived.Test.YtangooegialmcaaEvHear
namespace Go.Proofs.Ytangooegialmcaa
open Go.RowKit
set_option linter.unusedVariables false
set_option linter.unusedSimpArgs false
attribute [local go_sem ↓] run_min_plain run_max_plain
attribute [local go_sem] setCell_drewN alloc_drewN
section
variable (rt rc rl time c v d : Int) (w : World)
set_option maxRecDepth 100000 in
set_option maxHeartbeats 500000 in
theorem Hear_same_f  (t0 : 0 ≤ time) (t1 : time ≤ 4294967295) (d0 : 0 ≤ d) (d1 : d ≤ 65535) (l0 : -9223372036854775808 ≤ rl) (l1 : rl ≤ 9223372036854775807) (hD : (time - rt) % 4294967296 = 0) :
    Calls Try.prog 12 #[.agg #[.bool true, .int .u32 rt, .int .u8 c, .int .i64 rl, .bool false], .int .u32 time, .agg #[.int .u8 c, .bool false, .int .u8 v, .int .u16 d]] w (Ev.HearR w (⟨true, rt, c, max rl d, false⟩, [])) := by
  go_enter Try.func12, Try.ntmps12
  go_wp2
  go_region
  all_goals go_wp2
  refine bodyPost_ret (v := .tuple #[.agg #[.bool true, .int .u32 rt, .int .u8 c, .int .i64 (max rl d), .bool false], .slice none 0 0]) ?_ rfl ?_
  · simp [results, Try.results12, go_sem]
  · refine Ev.HearR.mk rfl RowsNew.nil ?_
    repeat (first | exact Below.refl _ _ | refine Below.drew ?_ | refine Below.setCell ?_ (by simp) _ | refine Below.alloc ?_ (by simp; try omega) _)
set_option maxRecDepth 100000 in
set_option maxHeartbeats 500000 in
theorem Hear_same_t  (t0 : 0 ≤ time) (t1 : time ≤ 4294967295) (d0 : 0 ≤ d) (d1 : d ≤ 65535) (l0 : -9223372036854775808 ≤ rl) (l1 : rl ≤ 9223372036854775807) (hD : (time - rt) % 4294967296 = 0) :
    Calls Try.prog 12 #[.agg #[.bool true, .int .u32 rt, .int .u8 c, .int .i64 rl, .bool false], .int .u32 time, .agg #[.int .u8 c, .bool true, .int .u8 v, .int .u16 d]] w (Ev.HearR w (⟨true, rt, c, max rl d, true⟩, [⟨c, false, rt, max rl d⟩])) := by
  have H0 := Lib.hid (Ev.HS.start w ⟨true, rt, c, max rl d, false⟩ #[.int .u8 c, .bool true, .int .u8 v, .int .u16 d])
  go_enter Try.func12, Try.ntmps12
  go_wp2_with fail
  refine (Hear_up w _ ⟨true, rt, c, max rl d, false⟩ #[.int .u8 c, .bool true, .int .u8 v, .int .u16 d] none 0 0 [] (by omega) H0.out).mono ?_
  rintro e w3 ⟨rfl, A3, c3, h3⟩
  obtain ⟨s0, s1, s2, s3, s4, s5, s6, s7, s8, s9, s10, s11, s12, s13, s14, s15, s16, s17, s18, s19, s20, s21, s22, s23, s24, s25, s26⟩ := h3.seen
  have hown3 := h3.own
  have hb3 := h3.bel
  clear h3
  go_wp2
  go_region
  all_goals go_wp2
  refine bodyPost_ret (v := .tuple #[.agg #[.bool true, .int .u32 rt, .int .u8 c, .int .i64 (max rl d), .bool true], .slice A3 1 c3]) ?_ rfl ?_
  · simp [results, Try.results12, go_sem, *]
  · have HW := Lib.hid hown3
    have HV := Lib.hid hb3
    clear hown3 s0 s1 s2 s3 s4 s5 s6 s7 s8 s9 s10 s11 s12 s13 s14 s15 s16 s17 s18 s19 s20 s21 s22 s23 s24 s25 s26
    refine Ev.HearR.mk rfl ?_ ?_
    · refine Owns.rowsNew (B := w.heap.size) (base := w.heap.size + 4) (e := 70) (n := 1) (c := c3) ?_ rfl (fun _ => rfl)
      have HX : Owns w3 (w.heap.size + 4) 70 4 (A3) 1 c3 (List.flatMap Ev.Key.row [⟨c, false, rt, max rl d⟩]) := by
        have := HW.out
        simpa [Ev.Key.row] using this
      repeat (first | with_reducible exact HX | with_reducible refine Owns.drew ?_ | ((with_reducible refine Owns.setCell ?_ ?_ _); rotate_left; (intro g hg; have := (HW.out.block g hg).1; simp; omega)))
    · repeat (first | with_reducible exact HV.out | with_reducible refine Below.drew ?_ | ((with_reducible refine Below.setCell ?_ ?_ _); rotate_left; (simp; try omega)))
set_option maxRecDepth 100000 in
set_option maxHeartbeats 500000 in
theorem Hear_late (re f : Bool)  (t0 : 0 ≤ time) (t1 : time ≤ 4294967295) (d0 : 0 ≤ d) (d1 : d ≤ 65535) (l0 : -9223372036854775808 ≤ rl) (l1 : rl ≤ 9223372036854775807) (hD : 2147483648 ≤ (time - rt) % 4294967296) (hD0 : ((time - rt) % 4294967296 == 0) = false) (hD1 : decide ((time - rt) % 4294967296 < 2147483648) = false) :
    Calls Try.prog 12 #[.agg #[.bool true, .int .u32 rt, .int .u8 rc, .int .i64 rl, .bool re], .int .u32 time, .agg #[.int .u8 c, .bool f, .int .u8 v, .int .u16 d]] w (Ev.HearR w (⟨true, rt, rc, rl, re⟩, [])) := by
  go_enter Try.func12, Try.ntmps12
  go_wp2
  refine bodyPost_ret (v := .tuple #[.agg #[.bool true, .int .u32 rt, .int .u8 rc, .int .i64 (rl), .bool re], .slice none 0 0]) ?_ rfl ?_
  · simp [results, Try.results12, go_sem]
  · refine Ev.HearR.mk rfl RowsNew.nil ?_
    repeat (first | exact Below.refl _ _ | refine Below.drew ?_ | refine Below.setCell ?_ (by simp) _ | refine Below.alloc ?_ (by simp; try omega) _)
set_option maxRecDepth 100000 in
set_option maxHeartbeats 500000 in
theorem Hear_other (re f : Bool)  (t0 : 0 ≤ time) (t1 : time ≤ 4294967295) (d0 : 0 ≤ d) (d1 : d ≤ 65535) (l0 : -9223372036854775808 ≤ rl) (l1 : rl ≤ 9223372036854775807) (hD : (time - rt) % 4294967296 = 0) (hc : (c == rc) = false) :
    Calls Try.prog 12 #[.agg #[.bool true, .int .u32 rt, .int .u8 rc, .int .i64 rl, .bool re], .int .u32 time, .agg #[.int .u8 c, .bool f, .int .u8 v, .int .u16 d]] w (Ev.HearR w (⟨true, rt, rc, rl, re⟩, [])) := by
  go_enter Try.func12, Try.ntmps12
  go_wp2
  refine bodyPost_ret (v := .tuple #[.agg #[.bool true, .int .u32 rt, .int .u8 rc, .int .i64 (rl), .bool re], .slice none 0 0]) ?_ rfl ?_
  · simp [results, Try.results12, go_sem]
  · refine Ev.HearR.mk rfl RowsNew.nil ?_
    repeat (first | exact Below.refl _ _ | refine Below.drew ?_ | refine Below.setCell ?_ (by simp) _ | refine Below.alloc ?_ (by simp; try omega) _)
set_option maxRecDepth 100000 in
set_option maxHeartbeats 500000 in
theorem Hear_over (f : Bool)  (t0 : 0 ≤ time) (t1 : time ≤ 4294967295) (d0 : 0 ≤ d) (d1 : d ≤ 65535) (l0 : -9223372036854775808 ≤ rl) (l1 : rl ≤ 9223372036854775807) (hD : (time - rt) % 4294967296 = 0) :
    Calls Try.prog 12 #[.agg #[.bool true, .int .u32 rt, .int .u8 c, .int .i64 rl, .bool true], .int .u32 time, .agg #[.int .u8 c, .bool f, .int .u8 v, .int .u16 d]] w (Ev.HearR w (⟨true, rt, c, rl, true⟩, [])) := by
  go_enter Try.func12, Try.ntmps12
  go_wp2
  refine bodyPost_ret (v := .tuple #[.agg #[.bool true, .int .u32 rt, .int .u8 c, .int .i64 (rl), .bool true], .slice none 0 0]) ?_ rfl ?_
  · simp [results, Try.results12, go_sem]
  · refine Ev.HearR.mk rfl RowsNew.nil ?_
    repeat (first | exact Below.refl _ _ | refine Below.drew ?_ | refine Below.setCell ?_ (by simp) _ | refine Below.alloc ?_ (by simp; try omega) _)
end
end Go.Proofs.Ytangooegialmcaa

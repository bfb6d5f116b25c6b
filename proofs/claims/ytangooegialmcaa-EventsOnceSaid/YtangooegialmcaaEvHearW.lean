/- Layer 29: Hear of the program: its walks. -/
import Derived.Test.YtangooegialmcaaEvHear
namespace Go.Proofs.Ytangooegialmcaa
open Go.RowKit
set_option linter.unusedVariables false
set_option linter.unusedSimpArgs false
attribute [local go_sem ↓] run_min_plain run_max_plain
attribute [local go_sem] setCell_drewN alloc_drewN
section
variable (rt rc rl time c v d : Int) (w : World)
set_option maxRecDepth 100000 in
set_option maxHeartbeats 500000 in
theorem Hear_off_f (t0 : 0 ≤ time) (t1 : time ≤ 4294967295) (d0 : 0 ≤ d) (d1 : d ≤ 65535) (re : Bool) :
    Calls Try.prog 12 #[.agg #[.bool false, .int .u32 rt, .int .u8 rc, .int .i64 rl, .bool re], .int .u32 time, .agg #[.int .u8 c, .bool false, .int .u8 v, .int .u16 d]] w (Ev.HearR w (⟨true, time, c, d, false⟩, [⟨c, true, time, 0⟩])) := by
  have H0 := Lib.hid (Ev.HS.start w ⟨false, rt, rc, rl, re⟩ #[.int .u8 c, .bool false, .int .u8 v, .int .u16 d])
  have hbase : w.heap.size + 4 ≤ w.heap.size + 4 := Nat.le_refl _
  go_enter Try.func12, Try.ntmps12
  go_wp2_with (at_builtin; refine wpList_append_one rfl _ _ 26 rfl (w.heap.size + 4) 70 4 16 _ Try.underlying26 Ev.info_key rfl (by decide) (none) 0 0 _ rfl H0.out.own [.int .u8 c, .bool true, .int .u32 time, .int .i64 0] rfl (by simp [Value.oneCell']) (by rw [Ev.HS.start_size]; rfl) (by unfold maxLen; omega) (by omega) (by rw [Ev.HS.start_size]; omega) ?_; intro Aw2 cw2 w2 hownw2 hgw2 hltw2; obtain ⟨s0, s1, s2, s3, s4, s5, s6, s7, s8, s9, s10, s11, s12, s13, s14, s15, s16, s17, s18, s19, s20, s21, s22, s23, s24, s25, s26⟩ := H0.out.seen_grown hgw2)
  have hb3 := H0.out.bel_grown hgw2
  go_region
  all_goals go_wp2
  refine bodyPost_ret (v := .tuple #[.agg #[.bool true, .int .u32 time, .int .u8 c, .int .i64 (d), .bool false], .slice Aw2 1 cw2]) ?_ rfl ?_
  · simp [results, Try.results12, go_sem, *]
  · have HW := Lib.hid hownw2
    have HV := Lib.hid hb3
    clear hownw2 s0 s1 s2 s3 s4 s5 s6 s7 s8 s9 s10 s11 s12 s13 s14 s15 s16 s17 s18 s19 s20 s21 s22 s23 s24 s25 s26
    refine Ev.HearR.mk rfl ?_ ?_
    · refine Owns.rowsNew (B := w.heap.size) (base := w.heap.size + 4) (e := 70) (n := 1) (c := cw2) ?_ rfl (fun _ => rfl)
      have HX : Owns w2 (w.heap.size + 4) 70 4 (Aw2) 1 cw2 (List.flatMap Ev.Key.row [⟨c, true, time, 0⟩]) := by
        have := HW.out
        simpa [Ev.Key.row] using this
      repeat (first | with_reducible exact HX | with_reducible refine Owns.drew ?_ | ((with_reducible refine Owns.setCell ?_ ?_ _); rotate_left; (intro g hg; have := (HW.out.block g hg).1; simp; omega)))
    · repeat (first | with_reducible exact HV.out | with_reducible refine Below.drew ?_ | ((with_reducible refine Below.setCell ?_ ?_ _); rotate_left; (simp; try omega)))
set_option maxRecDepth 100000 in
set_option maxHeartbeats 500000 in
theorem Hear_off_t (t0 : 0 ≤ time) (t1 : time ≤ 4294967295) (d0 : 0 ≤ d) (d1 : d ≤ 65535) (re : Bool) :
    Calls Try.prog 12 #[.agg #[.bool false, .int .u32 rt, .int .u8 rc, .int .i64 rl, .bool re], .int .u32 time, .agg #[.int .u8 c, .bool true, .int .u8 v, .int .u16 d]] w (Ev.HearR w (⟨true, time, c, d, true⟩, [⟨c, true, time, 0⟩, ⟨c, false, time, d⟩])) := by
  have H0 := Lib.hid (Ev.HS.start w ⟨false, rt, rc, rl, re⟩ #[.int .u8 c, .bool true, .int .u8 v, .int .u16 d])
  have hbase : w.heap.size + 4 ≤ w.heap.size + 4 := Nat.le_refl _
  go_enter Try.func12, Try.ntmps12
  go_wp2_with (first | (at_builtin; refine wpList_append_one rfl _ _ 26 rfl (w.heap.size + 4) 70 4 16 _ Try.underlying26 Ev.info_key rfl (by decide) (none) 0 0 _ rfl H0.out.own [.int .u8 c, .bool true, .int .u32 time, .int .i64 0] rfl (by simp [Value.oneCell']) (by rw [Ev.HS.start_size]; rfl) (by unfold maxLen; omega) (by omega) (by rw [Ev.HS.start_size]; omega) ?_; intro Aw2 cw2 w2 hownw2 hgw2 hltw2; obtain ⟨s0, s1, s2, s3, s4, s5, s6, s7, s8, s9, s10, s11, s12, s13, s14, s15, s16, s17, s18, s19, s20, s21, s22, s23, s24, s25, s26⟩ := H0.out.seen_grown hgw2))
  have H2 := Lib.hid ((H0.out.grown hgw2 hownw2).setR ⟨true, time, c, d, false⟩)
  have hbe := H0.out.bel_grown hgw2
  clear s0 s1 s2 s3 s4 s5 s6 s7 s8 s9 s10 s11 s12 s13 s14 s15 s16 s17 s18 s19 s20 s21 s22 s23 s24 s25 s26
  refine (Hear_up w _ ⟨true, time, c, d, false⟩ #[.int .u8 c, .bool true, .int .u8 v, .int .u16 d] Aw2 1 cw2 _ (by omega) H2.out).mono ?_
  rintro e w3 ⟨rfl, A3, c3, h3⟩
  obtain ⟨s0, s1, s2, s3, s4, s5, s6, s7, s8, s9, s10, s11, s12, s13, s14, s15, s16, s17, s18, s19, s20, s21, s22, s23, s24, s25, s26⟩ := h3.seen
  have hown3 := h3.own
  have hb3 := h3.bel
  clear h3 H2
  go_wp2
  go_region
  all_goals go_wp2
  refine bodyPost_ret (v := .tuple #[.agg #[.bool true, .int .u32 time, .int .u8 c, .int .i64 (d), .bool true], .slice A3 2 c3]) ?_ rfl ?_
  · simp [results, Try.results12, go_sem, *]
  · have HW := Lib.hid hown3
    have HV := Lib.hid hb3
    clear hown3 s0 s1 s2 s3 s4 s5 s6 s7 s8 s9 s10 s11 s12 s13 s14 s15 s16 s17 s18 s19 s20 s21 s22 s23 s24 s25 s26
    refine Ev.HearR.mk rfl ?_ ?_
    · refine Owns.rowsNew (B := w.heap.size) (base := w.heap.size + 4) (e := 70) (n := 2) (c := c3) ?_ rfl (fun _ => rfl)
      have HX : Owns w3 (w.heap.size + 4) 70 4 (A3) 2 c3 (List.flatMap Ev.Key.row [⟨c, true, time, 0⟩, ⟨c, false, time, d⟩]) := by
        have := HW.out
        simpa [Ev.Key.row] using this
      repeat (first | with_reducible exact HX | with_reducible refine Owns.drew ?_ | ((with_reducible refine Owns.setCell ?_ ?_ _); rotate_left; (intro g hg; have := (HW.out.block g hg).1; simp; omega)))
    · repeat (first | with_reducible exact HV.out | with_reducible refine Below.drew ?_ | ((with_reducible refine Below.setCell ?_ ?_ _); rotate_left; (simp; try omega)))
set_option maxRecDepth 100000 in
set_option maxHeartbeats 500000 in
theorem Hear_on_f (t0 : 0 ≤ time) (t1 : time ≤ 4294967295) (d0 : 0 ≤ d) (d1 : d ≤ 65535) (hD1 : 1 ≤ (time - rt) % 4294967296) (hD2 : (time - rt) % 4294967296 < 2147483648) :
    Calls Try.prog 12 #[.agg #[.bool true, .int .u32 rt, .int .u8 rc, .int .i64 rl, .bool true], .int .u32 time, .agg #[.int .u8 c, .bool false, .int .u8 v, .int .u16 d]] w (Ev.HearR w (⟨true, time, c, d, false⟩, [⟨c, true, time, 0⟩])) := by
  have H0 := Lib.hid (Ev.HS.start w ⟨true, rt, rc, rl, true⟩ #[.int .u8 c, .bool false, .int .u8 v, .int .u16 d])
  have hbase : w.heap.size + 4 ≤ w.heap.size + 4 := Nat.le_refl _
  go_enter Try.func12, Try.ntmps12
  go_wp2_with (at_builtin; refine wpList_append_one rfl _ _ 26 rfl (w.heap.size + 4) 70 4 16 _ Try.underlying26 Ev.info_key rfl (by decide) (none) 0 0 _ rfl H0.out.own [.int .u8 c, .bool true, .int .u32 time, .int .i64 0] rfl (by simp [Value.oneCell']) (by rw [Ev.HS.start_size]; rfl) (by unfold maxLen; omega) (by omega) (by rw [Ev.HS.start_size]; omega) ?_; intro Aw2 cw2 w2 hownw2 hgw2 hltw2; obtain ⟨s0, s1, s2, s3, s4, s5, s6, s7, s8, s9, s10, s11, s12, s13, s14, s15, s16, s17, s18, s19, s20, s21, s22, s23, s24, s25, s26⟩ := H0.out.seen_grown hgw2)
  have hb3 := H0.out.bel_grown hgw2
  go_region
  all_goals go_wp2
  refine bodyPost_ret (v := .tuple #[.agg #[.bool true, .int .u32 time, .int .u8 c, .int .i64 (d), .bool false], .slice Aw2 1 cw2]) ?_ rfl ?_
  · simp [results, Try.results12, go_sem, *]
  · have HW := Lib.hid hownw2
    have HV := Lib.hid hb3
    clear hownw2 s0 s1 s2 s3 s4 s5 s6 s7 s8 s9 s10 s11 s12 s13 s14 s15 s16 s17 s18 s19 s20 s21 s22 s23 s24 s25 s26
    refine Ev.HearR.mk rfl ?_ ?_
    · refine Owns.rowsNew (B := w.heap.size) (base := w.heap.size + 4) (e := 70) (n := 1) (c := cw2) ?_ rfl (fun _ => rfl)
      have HX : Owns w2 (w.heap.size + 4) 70 4 (Aw2) 1 cw2 (List.flatMap Ev.Key.row [⟨c, true, time, 0⟩]) := by
        have := HW.out
        simpa [Ev.Key.row] using this
      repeat (first | with_reducible exact HX | with_reducible refine Owns.drew ?_ | ((with_reducible refine Owns.setCell ?_ ?_ _); rotate_left; (intro g hg; have := (HW.out.block g hg).1; simp; omega)))
    · repeat (first | with_reducible exact HV.out | with_reducible refine Below.drew ?_ | ((with_reducible refine Below.setCell ?_ ?_ _); rotate_left; (simp; try omega)))
set_option maxRecDepth 100000 in
set_option maxHeartbeats 500000 in
theorem Hear_on_t (t0 : 0 ≤ time) (t1 : time ≤ 4294967295) (d0 : 0 ≤ d) (d1 : d ≤ 65535) (hD1 : 1 ≤ (time - rt) % 4294967296) (hD2 : (time - rt) % 4294967296 < 2147483648) :
    Calls Try.prog 12 #[.agg #[.bool true, .int .u32 rt, .int .u8 rc, .int .i64 rl, .bool true], .int .u32 time, .agg #[.int .u8 c, .bool true, .int .u8 v, .int .u16 d]] w (Ev.HearR w (⟨true, time, c, d, true⟩, [⟨c, true, time, 0⟩, ⟨c, false, time, d⟩])) := by
  have H0 := Lib.hid (Ev.HS.start w ⟨true, rt, rc, rl, true⟩ #[.int .u8 c, .bool true, .int .u8 v, .int .u16 d])
  have hbase : w.heap.size + 4 ≤ w.heap.size + 4 := Nat.le_refl _
  go_enter Try.func12, Try.ntmps12
  go_wp2_with (first | (at_builtin; refine wpList_append_one rfl _ _ 26 rfl (w.heap.size + 4) 70 4 16 _ Try.underlying26 Ev.info_key rfl (by decide) (none) 0 0 _ rfl H0.out.own [.int .u8 c, .bool true, .int .u32 time, .int .i64 0] rfl (by simp [Value.oneCell']) (by rw [Ev.HS.start_size]; rfl) (by unfold maxLen; omega) (by omega) (by rw [Ev.HS.start_size]; omega) ?_; intro Aw2 cw2 w2 hownw2 hgw2 hltw2; obtain ⟨s0, s1, s2, s3, s4, s5, s6, s7, s8, s9, s10, s11, s12, s13, s14, s15, s16, s17, s18, s19, s20, s21, s22, s23, s24, s25, s26⟩ := H0.out.seen_grown hgw2))
  have H2 := Lib.hid ((H0.out.grown hgw2 hownw2).setR ⟨true, time, c, d, false⟩)
  have hbe := H0.out.bel_grown hgw2
  clear s0 s1 s2 s3 s4 s5 s6 s7 s8 s9 s10 s11 s12 s13 s14 s15 s16 s17 s18 s19 s20 s21 s22 s23 s24 s25 s26
  refine (Hear_up w _ ⟨true, time, c, d, false⟩ #[.int .u8 c, .bool true, .int .u8 v, .int .u16 d] Aw2 1 cw2 _ (by omega) H2.out).mono ?_
  rintro e w3 ⟨rfl, A3, c3, h3⟩
  obtain ⟨s0, s1, s2, s3, s4, s5, s6, s7, s8, s9, s10, s11, s12, s13, s14, s15, s16, s17, s18, s19, s20, s21, s22, s23, s24, s25, s26⟩ := h3.seen
  have hown3 := h3.own
  have hb3 := h3.bel
  clear h3 H2
  go_wp2
  go_region
  all_goals go_wp2
  refine bodyPost_ret (v := .tuple #[.agg #[.bool true, .int .u32 time, .int .u8 c, .int .i64 (d), .bool true], .slice A3 2 c3]) ?_ rfl ?_
  · simp [results, Try.results12, go_sem, *]
  · have HW := Lib.hid hown3
    have HV := Lib.hid hb3
    clear hown3 s0 s1 s2 s3 s4 s5 s6 s7 s8 s9 s10 s11 s12 s13 s14 s15 s16 s17 s18 s19 s20 s21 s22 s23 s24 s25 s26
    refine Ev.HearR.mk rfl ?_ ?_
    · refine Owns.rowsNew (B := w.heap.size) (base := w.heap.size + 4) (e := 70) (n := 2) (c := c3) ?_ rfl (fun _ => rfl)
      have HX : Owns w3 (w.heap.size + 4) 70 4 (A3) 2 c3 (List.flatMap Ev.Key.row [⟨c, true, time, 0⟩, ⟨c, false, time, d⟩]) := by
        have := HW.out
        simpa [Ev.Key.row] using this
      repeat (first | with_reducible exact HX | with_reducible refine Owns.drew ?_ | ((with_reducible refine Owns.setCell ?_ ?_ _); rotate_left; (intro g hg; have := (HW.out.block g hg).1; simp; omega)))
    · repeat (first | with_reducible exact HV.out | with_reducible refine Below.drew ?_ | ((with_reducible refine Below.setCell ?_ ?_ _); rotate_left; (simp; try omega)))
set_option maxRecDepth 100000 in
set_option maxHeartbeats 500000 in
theorem Hear_pre_f (t0 : 0 ≤ time) (t1 : time ≤ 4294967295) (d0 : 0 ≤ d) (d1 : d ≤ 65535) (hD1 : 1 ≤ (time - rt) % 4294967296) (hD2 : (time - rt) % 4294967296 < 2147483648) :
    Calls Try.prog 12 #[.agg #[.bool true, .int .u32 rt, .int .u8 rc, .int .i64 rl, .bool false], .int .u32 time, .agg #[.int .u8 c, .bool false, .int .u8 v, .int .u16 d]] w (Ev.HearR w (⟨true, time, c, d, false⟩, [⟨rc, false, rt, rl⟩, ⟨c, true, time, 0⟩])) := by
  have H0 := Lib.hid (Ev.HS.start w ⟨true, rt, rc, rl, false⟩ #[.int .u8 c, .bool false, .int .u8 v, .int .u16 d])
  have hbase : w.heap.size + 4 ≤ w.heap.size + 4 := Nat.le_refl _
  go_enter Try.func12, Try.ntmps12
  go_wp2_with fail
  refine (Hear_up w _ ⟨true, rt, rc, rl, false⟩ #[.int .u8 c, .bool false, .int .u8 v, .int .u16 d] none 0 0 [] (by omega) H0.out).mono ?_
  rintro e w1 ⟨rfl, A1, c1, h1⟩
  obtain ⟨s0, s1, s2, s3, s4, s5, s6, s7, s8, s9, s10, s11, s12, s13, s14, s15, s16, s17, s18, s19, s20, s21, s22, s23, s24, s25, s26⟩ := h1.seen
  have H1 := Lib.hid h1
  have hbase := h1.b3.lt
  clear h1
  go_wp2_with (at_builtin; refine wpList_append_one rfl _ _ 26 rfl (w.heap.size + 4) 70 4 16 _ Try.underlying26 Ev.info_key rfl (by decide) (A1) 1 c1 _ rfl H1.out.own [.int .u8 c, .bool true, .int .u32 time, .int .i64 0] rfl (by simp [Value.oneCell']) rfl (by unfold maxLen; omega) (by omega) (by omega) ?_; intro Aw2 cw2 w2 hownw2 hgw2 hltw2; obtain ⟨s0, s1, s2, s3, s4, s5, s6, s7, s8, s9, s10, s11, s12, s13, s14, s15, s16, s17, s18, s19, s20, s21, s22, s23, s24, s25, s26⟩ := H1.out.seen_grown hgw2)
  have hb3 := H1.out.bel_grown hgw2
  go_region
  all_goals go_wp2
  refine bodyPost_ret (v := .tuple #[.agg #[.bool true, .int .u32 time, .int .u8 c, .int .i64 (d), .bool false], .slice Aw2 2 cw2]) ?_ rfl ?_
  · simp [results, Try.results12, go_sem, *]
  · have HW := Lib.hid hownw2
    have HV := Lib.hid hb3
    clear hownw2 s0 s1 s2 s3 s4 s5 s6 s7 s8 s9 s10 s11 s12 s13 s14 s15 s16 s17 s18 s19 s20 s21 s22 s23 s24 s25 s26
    refine Ev.HearR.mk rfl ?_ ?_
    · refine Owns.rowsNew (B := w.heap.size) (base := w.heap.size + 4) (e := 70) (n := 2) (c := cw2) ?_ rfl (fun _ => rfl)
      have HX : Owns w2 (w.heap.size + 4) 70 4 (Aw2) 2 cw2 (List.flatMap Ev.Key.row [⟨rc, false, rt, rl⟩, ⟨c, true, time, 0⟩]) := by
        have := HW.out
        simpa [Ev.Key.row] using this
      repeat (first | with_reducible exact HX | with_reducible refine Owns.drew ?_ | ((with_reducible refine Owns.setCell ?_ ?_ _); rotate_left; (intro g hg; have := (HW.out.block g hg).1; simp; omega)))
    · repeat (first | with_reducible exact HV.out | with_reducible refine Below.drew ?_ | ((with_reducible refine Below.setCell ?_ ?_ _); rotate_left; (simp; try omega)))
set_option maxRecDepth 100000 in
set_option maxHeartbeats 500000 in
theorem Hear_pre_t (t0 : 0 ≤ time) (t1 : time ≤ 4294967295) (d0 : 0 ≤ d) (d1 : d ≤ 65535) (hD1 : 1 ≤ (time - rt) % 4294967296) (hD2 : (time - rt) % 4294967296 < 2147483648) :
    Calls Try.prog 12 #[.agg #[.bool true, .int .u32 rt, .int .u8 rc, .int .i64 rl, .bool false], .int .u32 time, .agg #[.int .u8 c, .bool true, .int .u8 v, .int .u16 d]] w (Ev.HearR w (⟨true, time, c, d, true⟩, [⟨rc, false, rt, rl⟩, ⟨c, true, time, 0⟩, ⟨c, false, time, d⟩])) := by
  have H0 := Lib.hid (Ev.HS.start w ⟨true, rt, rc, rl, false⟩ #[.int .u8 c, .bool true, .int .u8 v, .int .u16 d])
  have hbase : w.heap.size + 4 ≤ w.heap.size + 4 := Nat.le_refl _
  go_enter Try.func12, Try.ntmps12
  go_wp2_with fail
  refine (Hear_up w _ ⟨true, rt, rc, rl, false⟩ #[.int .u8 c, .bool true, .int .u8 v, .int .u16 d] none 0 0 [] (by omega) H0.out).mono ?_
  rintro e w1 ⟨rfl, A1, c1, h1⟩
  obtain ⟨s0, s1, s2, s3, s4, s5, s6, s7, s8, s9, s10, s11, s12, s13, s14, s15, s16, s17, s18, s19, s20, s21, s22, s23, s24, s25, s26⟩ := h1.seen
  have H1 := Lib.hid h1
  have hbase := h1.b3.lt
  clear h1
  go_wp2_with (first | (at_builtin; refine wpList_append_one rfl _ _ 26 rfl (w.heap.size + 4) 70 4 16 _ Try.underlying26 Ev.info_key rfl (by decide) (A1) 1 c1 _ rfl H1.out.own [.int .u8 c, .bool true, .int .u32 time, .int .i64 0] rfl (by simp [Value.oneCell']) rfl (by unfold maxLen; omega) (by omega) (by omega) ?_; intro Aw2 cw2 w2 hownw2 hgw2 hltw2; obtain ⟨s0, s1, s2, s3, s4, s5, s6, s7, s8, s9, s10, s11, s12, s13, s14, s15, s16, s17, s18, s19, s20, s21, s22, s23, s24, s25, s26⟩ := H1.out.seen_grown hgw2))
  have H2 := Lib.hid ((H1.out.grown hgw2 hownw2).setR ⟨true, time, c, d, false⟩)
  have hbe := H1.out.bel_grown hgw2
  clear s0 s1 s2 s3 s4 s5 s6 s7 s8 s9 s10 s11 s12 s13 s14 s15 s16 s17 s18 s19 s20 s21 s22 s23 s24 s25 s26
  refine (Hear_up w _ ⟨true, time, c, d, false⟩ #[.int .u8 c, .bool true, .int .u8 v, .int .u16 d] Aw2 2 cw2 _ (by omega) H2.out).mono ?_
  rintro e w3 ⟨rfl, A3, c3, h3⟩
  obtain ⟨s0, s1, s2, s3, s4, s5, s6, s7, s8, s9, s10, s11, s12, s13, s14, s15, s16, s17, s18, s19, s20, s21, s22, s23, s24, s25, s26⟩ := h3.seen
  have hown3 := h3.own
  have hb3 := h3.bel
  clear h3 H2
  go_wp2
  go_region
  all_goals go_wp2
  refine bodyPost_ret (v := .tuple #[.agg #[.bool true, .int .u32 time, .int .u8 c, .int .i64 (d), .bool true], .slice A3 3 c3]) ?_ rfl ?_
  · simp [results, Try.results12, go_sem, *]
  · have HW := Lib.hid hown3
    have HV := Lib.hid hb3
    clear hown3 s0 s1 s2 s3 s4 s5 s6 s7 s8 s9 s10 s11 s12 s13 s14 s15 s16 s17 s18 s19 s20 s21 s22 s23 s24 s25 s26
    refine Ev.HearR.mk rfl ?_ ?_
    · refine Owns.rowsNew (B := w.heap.size) (base := w.heap.size + 4) (e := 70) (n := 3) (c := c3) ?_ rfl (fun _ => rfl)
      have HX : Owns w3 (w.heap.size + 4) 70 4 (A3) 3 c3 (List.flatMap Ev.Key.row [⟨rc, false, rt, rl⟩, ⟨c, true, time, 0⟩, ⟨c, false, time, d⟩]) := by
        have := HW.out
        simpa [Ev.Key.row] using this
      repeat (first | with_reducible exact HX | with_reducible refine Owns.drew ?_ | ((with_reducible refine Owns.setCell ?_ ?_ _); rotate_left; (intro g hg; have := (HW.out.block g hg).1; simp; omega)))
    · repeat (first | with_reducible exact HV.out | with_reducible refine Below.drew ?_ | ((with_reducible refine Below.setCell ?_ ?_ _); rotate_left; (simp; try omega)))
end
end Go.Proofs.Ytangooegialmcaa

/- Layer 26, ReportKnown: the examples of the chapter. -/
import Derived.Test.YthmcbmjjngolmaaRepLives
namespace Go.Proofs.Ythmcbmjjngolmaa.reportKnown
open Go.RowKit
set_option linter.unusedVariables false
set_option linter.unusedSimpArgs false
attribute [local go_sem ↓] run_min_plain run_max_plain
attribute [local go_sem] setCell_drewN alloc_drewN
theorem kn1 : Rep.enc ⟨false, 7, 0, 0, 0, 0, []⟩ = ([128, 201, 0, 1, 0, 0, 0, 7], 0) := by decide +kernel
theorem kd0 : Rep.dec [128, 201, 0, 1, 0, 0, 0, 7, 99] = (⟨false, 7, 0, 0, 0, 0, []⟩, 8, 0) := by rfl
theorem kd1 : Rep.dec [128, 202, 0, 1] = (Rep.Rpt.zero, 1, 15) := by rfl
theorem kd2 : Rep.dec [64, 201, 0, 1] = (Rep.Rpt.zero, 0, 15) := by rfl
theorem kd3 : Rep.dec [128, 201, 0, 1, 0] = (Rep.Rpt.zero, 5, 6) := by rfl
theorem kt1 : Rep.trip 100 30 20 = 50 := by rfl
theorem kt2 : Rep.trip 100 90 20 = 0 := by rfl
set_option maxRecDepth 100000 in
set_option maxHeartbeats 3200000 in
theorem walk (w : World) : Calls Try.prog 6 #[] w fun e w' => e = .returned (.bool true) ∧ Below w.heap.size w w' := by
  have k1 := fun W => Encode_any false 7 0 0 0 0 none [] 0 W ⟨by decide, by decide, by decide, by decide, by decide, fun _ h => by cases h⟩ RowsAt.nil
  rw [kn1] at k1
  replace k1 := Lib.hid k1
  have d0 := fun A c W h => Decode_any A [128, 201, 0, 1, 0, 0, 0, 7, 99] c W h (by intro z hz; simp at hz; omega) (by decide)
  rw [kd0] at d0
  replace d0 := Lib.hid d0
  have d1 := fun A c W h => Decode_any A [128, 202, 0, 1] c W h (by intro z hz; simp at hz; omega) (by decide)
  rw [kd1] at d1
  replace d1 := Lib.hid d1
  have d2 := fun A c W h => Decode_any A [64, 201, 0, 1] c W h (by intro z hz; simp at hz; omega) (by decide)
  rw [kd2] at d2
  replace d2 := Lib.hid d2
  have d3 := fun A c W h => Decode_any A [128, 201, 0, 1, 0] c W h (by intro z hz; simp at hz; omega) (by decide)
  rw [kd3] at d3
  replace d3 := Lib.hid d3
  have k3 := fun W => Arrive_any false 0 0 0 0 0 0 0 W 10 1000 900
  rw [l26_3] at k3
  have k4 := fun W => Arrive_any true 10 10 1 0 0 100 0 W 11 1170 1060
  rw [l26_4] at k4
  simp only [Rep.St.row] at k3 k4
  replace k3 := Lib.hid k3
  replace k4 := Lib.hid k4
  have k5 := fun W => trip_any 100 30 20 W (by decide) (by decide) (by decide) (by decide) (by decide) (by decide)
  rw [kt1] at k5
  replace k5 := Lib.hid k5
  have k6 := fun W => trip_any 100 90 20 W (by decide) (by decide) (by decide) (by decide) (by decide) (by decide)
  rw [kt2] at k6
  replace k6 := Lib.hid k6
  go_enter Try.func6, Try.ntmps6
  have U := Lib.hid (Bel.refl w)
  go_wp2_with fail
  refine (k1.out _).mono ?_
  rintro e w1 ⟨A1, c1, rfl, ⟨ia_, _⟩, hb1⟩
  replace U := Lib.hid (U.out.later hb1)
  clear hb1
  have Ia := Lib.hid ia_
  clear ia_
  go_wp2_with fail
  replace U := Lib.hid (U.out.push (.cells #[.int .u8 128, .int .u8 201, .int .u8 0, .int .u8 1, .int .u8 0, .int .u8 0, .int .u8 0, .int .u8 7, .int .u8 99] 5))
  replace Ia := Lib.hid (Ia.out.push (.cells #[.int .u8 128, .int .u8 201, .int .u8 0, .int .u8 1, .int .u8 0, .int .u8 0, .int .u8 0, .int .u8 7, .int .u8 99] 5))
  refine (d0.out _ _ _ (IntsAt.lit0 _ 5 .u8 [128, 201, 0, 1, 0, 0, 0, 7, 99] [.int .u8 128, .int .u8 201, .int .u8 0, .int .u8 1, .int .u8 0, .int .u8 0, .int .u8 0, .int .u8 7, .int .u8 99] rfl)).mono ?_
  rintro e w2 ⟨B0, b0, rfl, _, hb2⟩
  replace U := Lib.hid (U.out.later hb2)
  replace Ia := Lib.hid (Ia.out.later hb2)
  clear hb2
  simp only [Rep.Rpt.row, List.length_nil]
  replace U := Lib.hid (U.out.push (.cells #[.bool false, .int .u32 7, .int .u64 0, .int .u32 0, .int .u32 0, .int .u32 0, .slice B0 0 b0] 47))
  replace Ia := Lib.hid (Ia.out.push (.cells #[.bool false, .int .u32 7, .int .u64 0, .int .u32 0, .int .u32 0, .int .u32 0, .slice B0 0 b0] 47))
  have X0 := Lib.hid (Blk.new w2 47 #[.bool false, .int .u32 7, .int .u64 0, .int .u32 0, .int .u32 0, .int .u32 0, .slice B0 0 b0])
  go_wp2_with fail
  replace U := Lib.hid (U.out.push (.cells #[.int .u8 128, .int .u8 202, .int .u8 0, .int .u8 1] 5))
  replace Ia := Lib.hid (Ia.out.push (.cells #[.int .u8 128, .int .u8 202, .int .u8 0, .int .u8 1] 5))
  replace X0 := Lib.hid (X0.out.push (.cells #[.int .u8 128, .int .u8 202, .int .u8 0, .int .u8 1] 5))
  refine (d1.out _ _ _ (IntsAt.lit1 _ _ 5 .u8 [128, 202, 0, 1] [.int .u8 128, .int .u8 202, .int .u8 0, .int .u8 1] rfl)).mono ?_
  rintro e w3 ⟨B1, b1, rfl, _, hb3⟩
  replace U := Lib.hid (U.out.later hb3)
  replace Ia := Lib.hid (Ia.out.later hb3)
  replace X0 := Lib.hid (X0.out.later hb3)
  clear hb3
  simp only [Rep.Rpt.row, Rep.Rpt.zero, List.length_nil]
  replace U := Lib.hid (U.out.push (.cells #[.bool false, .int .u32 0, .int .u64 0, .int .u32 0, .int .u32 0, .int .u32 0, .slice B1 0 b1] 47))
  replace Ia := Lib.hid (Ia.out.push (.cells #[.bool false, .int .u32 0, .int .u64 0, .int .u32 0, .int .u32 0, .int .u32 0, .slice B1 0 b1] 47))
  replace X0 := Lib.hid (X0.out.push (.cells #[.bool false, .int .u32 0, .int .u64 0, .int .u32 0, .int .u32 0, .int .u32 0, .slice B1 0 b1] 47))
  go_wp2_with fail
  replace U := Lib.hid (U.out.push (.cells #[.int .u8 64, .int .u8 201, .int .u8 0, .int .u8 1] 5))
  replace Ia := Lib.hid (Ia.out.push (.cells #[.int .u8 64, .int .u8 201, .int .u8 0, .int .u8 1] 5))
  replace X0 := Lib.hid (X0.out.push (.cells #[.int .u8 64, .int .u8 201, .int .u8 0, .int .u8 1] 5))
  refine (d2.out _ _ _ (IntsAt.lit1 _ _ 5 .u8 [64, 201, 0, 1] [.int .u8 64, .int .u8 201, .int .u8 0, .int .u8 1] rfl)).mono ?_
  rintro e w4 ⟨B2, b2, rfl, _, hb4⟩
  replace U := Lib.hid (U.out.later hb4)
  replace Ia := Lib.hid (Ia.out.later hb4)
  replace X0 := Lib.hid (X0.out.later hb4)
  clear hb4
  simp only [Rep.Rpt.row, Rep.Rpt.zero, List.length_nil]
  replace U := Lib.hid (U.out.push (.cells #[.bool false, .int .u32 0, .int .u64 0, .int .u32 0, .int .u32 0, .int .u32 0, .slice B2 0 b2] 47))
  replace Ia := Lib.hid (Ia.out.push (.cells #[.bool false, .int .u32 0, .int .u64 0, .int .u32 0, .int .u32 0, .int .u32 0, .slice B2 0 b2] 47))
  replace X0 := Lib.hid (X0.out.push (.cells #[.bool false, .int .u32 0, .int .u64 0, .int .u32 0, .int .u32 0, .int .u32 0, .slice B2 0 b2] 47))
  go_wp2_with fail
  replace U := Lib.hid (U.out.push (.cells #[.int .u8 128, .int .u8 201, .int .u8 0, .int .u8 1, .int .u8 0] 5))
  replace Ia := Lib.hid (Ia.out.push (.cells #[.int .u8 128, .int .u8 201, .int .u8 0, .int .u8 1, .int .u8 0] 5))
  replace X0 := Lib.hid (X0.out.push (.cells #[.int .u8 128, .int .u8 201, .int .u8 0, .int .u8 1, .int .u8 0] 5))
  refine (d3.out _ _ _ (IntsAt.lit1 _ _ 5 .u8 [128, 201, 0, 1, 0] [.int .u8 128, .int .u8 201, .int .u8 0, .int .u8 1, .int .u8 0] rfl)).mono ?_
  rintro e w5 ⟨B3, b3, rfl, _, hb5⟩
  replace U := Lib.hid (U.out.later hb5)
  replace Ia := Lib.hid (Ia.out.later hb5)
  replace X0 := Lib.hid (X0.out.later hb5)
  clear hb5
  simp only [Rep.Rpt.row, Rep.Rpt.zero, List.length_nil]
  replace U := Lib.hid (U.out.push (.cells #[.bool false, .int .u32 0, .int .u64 0, .int .u32 0, .int .u32 0, .int .u32 0, .slice B3 0 b3] 47))
  replace Ia := Lib.hid (Ia.out.push (.cells #[.bool false, .int .u32 0, .int .u64 0, .int .u32 0, .int .u32 0, .int .u32 0, .slice B3 0 b3] 47))
  replace X0 := Lib.hid (X0.out.push (.cells #[.bool false, .int .u32 0, .int .u64 0, .int .u32 0, .int .u32 0, .int .u32 0, .slice B3 0 b3] 47))
  have hv1 := run_convert_ints Ia.out 40 9 5 Try.underlying40 Try.underlying5 Try.underlying9 8 c1 rfl
  replace U := Lib.hid (U.out.push (.cells #[.int .u8 128, .int .u8 201, .int .u8 0, .int .u8 1, .int .u8 0, .int .u8 0, .int .u8 0, .int .u8 7] 5))
  replace Ia := Lib.hid (Ia.out.push (.cells #[.int .u8 128, .int .u8 201, .int .u8 0, .int .u8 1, .int .u8 0, .int .u8 0, .int .u8 0, .int .u8 7] 5))
  replace X0 := Lib.hid (X0.out.push (.cells #[.int .u8 128, .int .u8 201, .int .u8 0, .int .u8 1, .int .u8 0, .int .u8 0, .int .u8 0, .int .u8 7] 5))
  have hv2 := run_convert_ints (IntsAt.lit1 w5 (.cells #[.bool false, .int .u32 0, .int .u64 0, .int .u32 0, .int .u32 0, .int .u32 0, .slice B3 0 b3] 47) 5 .u8 [128, 201, 0, 1, 0, 0, 0, 7] [.int .u8 128, .int .u8 201, .int .u8 0, .int .u8 1, .int .u8 0, .int .u8 0, .int .u8 0, .int .u8 7] rfl) 40 9 5 Try.underlying40 Try.underlying5 Try.underlying9 8 8 rfl
  clear Ia
  have c_X00 := X0.out.at 0 _ rfl
  have c_X01 := X0.out.at 1 _ rfl
  have c_X02 := X0.out.at 2 _ rfl
  have c_X03 := X0.out.at 3 _ rfl
  have c_X04 := X0.out.at 4 _ rfl
  have c_X05 := X0.out.at 5 _ rfl
  have c_X06 := X0.out.at 6 _ rfl
  go_wp2_with fail
  clear c_X00 c_X01 c_X02 c_X03 c_X04 c_X05 c_X06
  clear X0
  clear hv1 hv2
  refine (k3.out _).mono ?_
  rintro e w6 ⟨rfl, hb6⟩
  replace U := Lib.hid (U.out.later hb6)
  clear hb6
  go_wp2_with fail
  refine (k4.out _).mono ?_
  rintro e w7 ⟨rfl, hb7⟩
  replace U := Lib.hid (U.out.later hb7)
  clear hb7
  replace U := Lib.hid (U.out.push (.cells #[.bool true, .int .i64 10, .int .i64 11, .int .i64 2, .int .i64 0, .int .i64 0, .int .i64 110, .int .i64 10] 23))
  have BS := Lib.hid (Blk.new w7 23 #[.bool true, .int .i64 10, .int .i64 11, .int .i64 2, .int .i64 0, .int .i64 0, .int .i64 110, .int .i64 10])
  have c_BS0 := BS.out.at 0 _ rfl
  have c_BS1 := BS.out.at 1 _ rfl
  have c_BS2 := BS.out.at 2 _ rfl
  have c_BS3 := BS.out.at 3 _ rfl
  have c_BS4 := BS.out.at 4 _ rfl
  have c_BS5 := BS.out.at 5 _ rfl
  have c_BS6 := BS.out.at 6 _ rfl
  have c_BS7 := BS.out.at 7 _ rfl
  go_wp2_with fail
  clear c_BS0 c_BS1 c_BS2 c_BS3 c_BS4 c_BS5 c_BS6 c_BS7
  refine (k5.out _).mono ?_
  rintro e wa ⟨rfl, rfl⟩
  have c_BS0 := BS.out.at 0 _ rfl
  have c_BS1 := BS.out.at 1 _ rfl
  have c_BS2 := BS.out.at 2 _ rfl
  have c_BS3 := BS.out.at 3 _ rfl
  have c_BS4 := BS.out.at 4 _ rfl
  have c_BS5 := BS.out.at 5 _ rfl
  have c_BS6 := BS.out.at 6 _ rfl
  have c_BS7 := BS.out.at 7 _ rfl
  go_wp2_with fail
  clear c_BS0 c_BS1 c_BS2 c_BS3 c_BS4 c_BS5 c_BS6 c_BS7
  refine (k6.out _).mono ?_
  rintro e wa ⟨rfl, rfl⟩
  have c_BS0 := BS.out.at 0 _ rfl
  have c_BS1 := BS.out.at 1 _ rfl
  have c_BS2 := BS.out.at 2 _ rfl
  have c_BS3 := BS.out.at 3 _ rfl
  have c_BS4 := BS.out.at 4 _ rfl
  have c_BS5 := BS.out.at 5 _ rfl
  have c_BS6 := BS.out.at 6 _ rfl
  have c_BS7 := BS.out.at 7 _ rfl
  go_wp2_with fail
  clear c_BS0 c_BS1 c_BS2 c_BS3 c_BS4 c_BS5 c_BS6 c_BS7
  refine (lives26 _).mono ?_
  rintro e w8 ⟨rfl, hb8⟩
  replace U := Lib.hid (U.out.later hb8)
  replace BS := Lib.hid (BS.out.later hb8)
  clear hb8
  go_wp2_with fail
  go_ret
  exact ⟨by simp, U.out⟩
end Go.Proofs.Ythmcbmjjngolmaa.reportKnown

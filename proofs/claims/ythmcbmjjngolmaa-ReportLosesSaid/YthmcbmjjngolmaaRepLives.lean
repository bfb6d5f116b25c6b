/- Layer 26: lives. -/
import Derived.Test.YthmcbmjjngolmaaRepDecAll
import Derived.Test.YthmcbmjjngolmaaRepEncAll
import Derived.Test.YthmcbmjjngolmaaRepSumA
import Derived.Test.YthmcbmjjngolmaaRepArr
import Derived.Test.YthmcbmjjngolmaaLate
import Derived.Laws.Rows
namespace Go.Proofs.Ythmcbmjjngolmaa
open Go.RowKit
set_option linter.unusedVariables false
set_option linter.unusedSimpArgs false
attribute [local go_sem ↓] run_min_plain run_max_plain
attribute [local go_sem] setCell_drewN alloc_drewN
theorem l26_1 : Rep.enc ⟨true, 7, 1, 2, 3, 4, []⟩ = ([128, 200, 0, 6, 0, 0, 0, 7, 0, 0, 0, 0, 0, 0, 0, 1, 0, 0, 0, 2, 0, 0, 0, 3, 0, 0, 0, 4], 0) := by decide +kernel
theorem l26_2 : (Rep.dec [128, 201, 0, 2, 0, 0, 0, 7]) = (Rep.Rpt.zero, 2, 5) := by rfl
theorem l26_3 : Rep.arrive ⟨false, 0, 0, 0, 0, 0, 0, 0⟩ 10 1000 900 = ⟨true, 10, 10, 1, 0, 0, 100, 0⟩ := by rfl
theorem l26_4 : Rep.arrive ⟨true, 10, 10, 1, 0, 0, 100, 0⟩ 11 1170 1060 = ⟨true, 10, 11, 2, 0, 0, 110, 10⟩ := by rfl
theorem l26_5 : Rep.arrive ⟨true, 10, 11, 2, 0, 0, 110, 10⟩ 13 1500 1380 = ⟨true, 10, 13, 3, 0, 0, 120, 19⟩ := by rfl
theorem l26_6 : Rep.summary ⟨true, 10, 13, 3, 0, 0, 120, 19⟩ 5 6 7 = (⟨5, 64, 1, 13, 1, 6, 7⟩, ⟨true, 10, 13, 3, 4, 3, 120, 19⟩) := by rfl
theorem IntsAt.lit2 (w : World) (o o2 : Obj) (e : TypeId) (k : IntKind) (zs : List Int) (cs : List Value) (h : cs = zs.map (Value.int k)) : IntsAt (((w.alloc o).alloc o2).alloc (.cells cs.toArray e)) (((w.alloc o).alloc o2).alloc (.cells cs.toArray e)).heap.size k (some ⟨w.heap.size + 1 + 1, 0, none⟩) zs := by
  have := IntsAt.new ((w.alloc o).alloc o2) e k zs cs h
  simpa using this
set_option maxRecDepth 100000 in
set_option maxHeartbeats 3200000 in
theorem lives26 (w : World) : Calls Try.prog 14 #[] w fun e w' => e = .returned (.bool true) ∧ Below w.heap.size w w' := by
  have k1 := fun W => Encode_any true 7 1 2 3 4 none [] 0 W ⟨by decide, by decide, by decide, by decide, by decide, fun _ h => by cases h⟩ RowsAt.nil
  rw [l26_1] at k1
  have k2 := fun A c W h => Decode_any A [128, 201, 0, 2, 0, 0, 0, 7] c W h (by intro z hz; simp at hz; omega) (by decide)
  rw [l26_2] at k2
  have k3 := fun W => Arrive_any false 0 0 0 0 0 0 0 W 10 1000 900
  rw [l26_3] at k3
  have k4 := fun W => Arrive_any true 10 10 1 0 0 100 0 W 11 1170 1060
  rw [l26_4] at k4
  have k5 := fun W => Arrive_any true 10 11 2 0 0 110 10 W 13 1500 1380
  rw [l26_5] at k5
  have k6 := fun W => Summary_any true 10 13 3 0 0 120 19 W 5 6 7
  rw [l26_6] at k6
  simp only [Rep.St.row, Rep.Bk.row] at k3 k4 k5 k6
  replace k1 := Lib.hid k1
  replace k2 := Lib.hid k2
  replace k3 := Lib.hid k3
  replace k4 := Lib.hid k4
  replace k5 := Lib.hid k5
  replace k6 := Lib.hid k6
  go_enter Try.func14, Try.ntmps14
  have U := Lib.hid (Bel.refl w)
  go_wp2_with fail
  refine (k1.out _).mono ?_
  rintro e w1 ⟨A1, c1, rfl, ⟨ia_, _⟩, hb1⟩
  replace U := Lib.hid (U.out.later hb1)
  clear hb1
  have Ia := Lib.hid ia_
  clear ia_
  go_wp2_with fail
  replace U := Lib.hid (U.out.push (.cells #[.int .u8 128, .int .u8 201, .int .u8 0, .int .u8 2, .int .u8 0, .int .u8 0, .int .u8 0, .int .u8 7] 5))
  replace Ia := Lib.hid (Ia.out.push (.cells #[.int .u8 128, .int .u8 201, .int .u8 0, .int .u8 2, .int .u8 0, .int .u8 0, .int .u8 0, .int .u8 7] 5))
  refine (k2.out _ _ _ (IntsAt.lit0 _ 5 .u8 [128, 201, 0, 2, 0, 0, 0, 7] [.int .u8 128, .int .u8 201, .int .u8 0, .int .u8 2, .int .u8 0, .int .u8 0, .int .u8 0, .int .u8 7] rfl)).mono ?_
  rintro e w2 ⟨Bl2, cb2, rfl, _, hb2⟩
  replace U := Lib.hid (U.out.later hb2)
  replace Ia := Lib.hid (Ia.out.later hb2)
  clear hb2
  simp only [Rep.Rpt.row, Rep.Rpt.zero, List.length_nil]
  replace U := Lib.hid (U.out.push (.cells #[.bool false, .int .u32 0, .int .u64 0, .int .u32 0, .int .u32 0, .int .u32 0, .slice Bl2 0 cb2] 47))
  replace Ia := Lib.hid (Ia.out.push (.cells #[.bool false, .int .u32 0, .int .u64 0, .int .u32 0, .int .u32 0, .int .u32 0, .slice Bl2 0 cb2] 47))
  go_wp2_with fail
  refine (k3.out _).mono ?_
  rintro e w3 ⟨rfl, hb3⟩
  replace U := Lib.hid (U.out.later hb3)
  replace Ia := Lib.hid (Ia.out.later hb3)
  clear hb3
  go_wp2_with fail
  refine (k4.out _).mono ?_
  rintro e w4 ⟨rfl, hb4⟩
  replace U := Lib.hid (U.out.later hb4)
  replace Ia := Lib.hid (Ia.out.later hb4)
  clear hb4
  go_wp2_with fail
  refine (k5.out _).mono ?_
  rintro e w5 ⟨rfl, hb5⟩
  replace U := Lib.hid (U.out.later hb5)
  replace Ia := Lib.hid (Ia.out.later hb5)
  clear hb5
  replace U := Lib.hid (U.out.push (.cells #[.bool true, .int .i64 10, .int .i64 13, .int .i64 3, .int .i64 0, .int .i64 0, .int .i64 120, .int .i64 19] 23))
  replace Ia := Lib.hid (Ia.out.push (.cells #[.bool true, .int .i64 10, .int .i64 13, .int .i64 3, .int .i64 0, .int .i64 0, .int .i64 120, .int .i64 19] 23))
  have BS := Lib.hid (Blk.new w5 23 #[.bool true, .int .i64 10, .int .i64 13, .int .i64 3, .int .i64 0, .int .i64 0, .int .i64 120, .int .i64 19])
  go_wp2_with fail
  refine (k6.out _).mono ?_
  rintro e w6 ⟨rfl, hb6⟩
  replace U := Lib.hid (U.out.later hb6)
  replace Ia := Lib.hid (Ia.out.later hb6)
  replace BS := Lib.hid (BS.out.later hb6)
  clear hb6
  replace U := Lib.hid (U.out.push (.cells #[.int .u32 5, .int .u8 64, .int .i64 1, .int .u32 13, .int .u32 1, .int .u32 6, .int .u32 7] 27))
  replace Ia := Lib.hid (Ia.out.push (.cells #[.int .u32 5, .int .u8 64, .int .i64 1, .int .u32 13, .int .u32 1, .int .u32 6, .int .u32 7] 27))
  replace BS := Lib.hid (BS.out.push (.cells #[.int .u32 5, .int .u8 64, .int .i64 1, .int .u32 13, .int .u32 1, .int .u32 6, .int .u32 7] 27))
  have BK := Lib.hid (Blk.new w6 27 #[.int .u32 5, .int .u8 64, .int .i64 1, .int .u32 13, .int .u32 1, .int .u32 6, .int .u32 7])
  replace U := Lib.hid (U.out.push (.cells #[.bool true, .int .i64 10, .int .i64 13, .int .i64 3, .int .i64 4, .int .i64 3, .int .i64 120, .int .i64 19] 23))
  replace Ia := Lib.hid (Ia.out.push (.cells #[.bool true, .int .i64 10, .int .i64 13, .int .i64 3, .int .i64 4, .int .i64 3, .int .i64 120, .int .i64 19] 23))
  replace BS := Lib.hid (BS.out.push (.cells #[.bool true, .int .i64 10, .int .i64 13, .int .i64 3, .int .i64 4, .int .i64 3, .int .i64 120, .int .i64 19] 23))
  replace BK := Lib.hid (BK.out.push (.cells #[.bool true, .int .i64 10, .int .i64 13, .int .i64 3, .int .i64 4, .int .i64 3, .int .i64 120, .int .i64 19] 23))
  have hv1 := run_convert_ints Ia.out 40 9 5 Try.underlying40 Try.underlying5 Try.underlying9 28 c1 rfl
  replace U := Lib.hid (U.out.push (.cells #[.int .u8 128, .int .u8 200, .int .u8 0, .int .u8 6, .int .u8 0, .int .u8 0, .int .u8 0, .int .u8 7, .int .u8 0, .int .u8 0, .int .u8 0, .int .u8 0, .int .u8 0, .int .u8 0, .int .u8 0, .int .u8 1, .int .u8 0, .int .u8 0, .int .u8 0, .int .u8 2, .int .u8 0, .int .u8 0, .int .u8 0, .int .u8 3, .int .u8 0, .int .u8 0, .int .u8 0, .int .u8 4] 5))
  replace Ia := Lib.hid (Ia.out.push (.cells #[.int .u8 128, .int .u8 200, .int .u8 0, .int .u8 6, .int .u8 0, .int .u8 0, .int .u8 0, .int .u8 7, .int .u8 0, .int .u8 0, .int .u8 0, .int .u8 0, .int .u8 0, .int .u8 0, .int .u8 0, .int .u8 1, .int .u8 0, .int .u8 0, .int .u8 0, .int .u8 2, .int .u8 0, .int .u8 0, .int .u8 0, .int .u8 3, .int .u8 0, .int .u8 0, .int .u8 0, .int .u8 4] 5))
  replace BS := Lib.hid (BS.out.push (.cells #[.int .u8 128, .int .u8 200, .int .u8 0, .int .u8 6, .int .u8 0, .int .u8 0, .int .u8 0, .int .u8 7, .int .u8 0, .int .u8 0, .int .u8 0, .int .u8 0, .int .u8 0, .int .u8 0, .int .u8 0, .int .u8 1, .int .u8 0, .int .u8 0, .int .u8 0, .int .u8 2, .int .u8 0, .int .u8 0, .int .u8 0, .int .u8 3, .int .u8 0, .int .u8 0, .int .u8 0, .int .u8 4] 5))
  replace BK := Lib.hid (BK.out.push (.cells #[.int .u8 128, .int .u8 200, .int .u8 0, .int .u8 6, .int .u8 0, .int .u8 0, .int .u8 0, .int .u8 7, .int .u8 0, .int .u8 0, .int .u8 0, .int .u8 0, .int .u8 0, .int .u8 0, .int .u8 0, .int .u8 1, .int .u8 0, .int .u8 0, .int .u8 0, .int .u8 2, .int .u8 0, .int .u8 0, .int .u8 0, .int .u8 3, .int .u8 0, .int .u8 0, .int .u8 0, .int .u8 4] 5))
  have hv2 := run_convert_ints (IntsAt.lit2 w6 (.cells #[.int .u32 5, .int .u8 64, .int .i64 1, .int .u32 13, .int .u32 1, .int .u32 6, .int .u32 7] 27) (.cells #[.bool true, .int .i64 10, .int .i64 13, .int .i64 3, .int .i64 4, .int .i64 3, .int .i64 120, .int .i64 19] 23) 5 .u8 [128, 200, 0, 6, 0, 0, 0, 7, 0, 0, 0, 0, 0, 0, 0, 1, 0, 0, 0, 2, 0, 0, 0, 3, 0, 0, 0, 4] [.int .u8 128, .int .u8 200, .int .u8 0, .int .u8 6, .int .u8 0, .int .u8 0, .int .u8 0, .int .u8 7, .int .u8 0, .int .u8 0, .int .u8 0, .int .u8 0, .int .u8 0, .int .u8 0, .int .u8 0, .int .u8 1, .int .u8 0, .int .u8 0, .int .u8 0, .int .u8 2, .int .u8 0, .int .u8 0, .int .u8 0, .int .u8 3, .int .u8 0, .int .u8 0, .int .u8 0, .int .u8 4] rfl) 40 9 5 Try.underlying40 Try.underlying5 Try.underlying9 28 28 rfl
  clear Ia
  have c_BS0 := BS.out.at 0 _ rfl
  have c_BS1 := BS.out.at 1 _ rfl
  have c_BS2 := BS.out.at 2 _ rfl
  have c_BS3 := BS.out.at 3 _ rfl
  have c_BS4 := BS.out.at 4 _ rfl
  have c_BS5 := BS.out.at 5 _ rfl
  have c_BS6 := BS.out.at 6 _ rfl
  have c_BS7 := BS.out.at 7 _ rfl
  have c_BK0 := BK.out.at 0 _ rfl
  have c_BK1 := BK.out.at 1 _ rfl
  have c_BK2 := BK.out.at 2 _ rfl
  have c_BK3 := BK.out.at 3 _ rfl
  have c_BK4 := BK.out.at 4 _ rfl
  have c_BK5 := BK.out.at 5 _ rfl
  have c_BK6 := BK.out.at 6 _ rfl
  go_wp2_with fail
  clear c_BS0 c_BS1 c_BS2 c_BS3 c_BS4 c_BS5 c_BS6 c_BS7 c_BK0 c_BK1 c_BK2 c_BK3 c_BK4 c_BK5 c_BK6
  go_ret
  exact ⟨by simp, U.out⟩
end Go.Proofs.Ythmcbmjjngolmaa

/- Layer 29: lives. -/
import Derived.Test.YtangooegialmcaaEvHears
import Derived.Test.YtangooegialmcaaEvNoise
import Derived.Test.YtangooegialmcaaEvSil
import Derived.Test.YtangooegialmcaaEvRefNext
import Derived.Test.YtangooegialmcaaEvNext
namespace Go.Proofs.Ytangooegialmcaa
open Go.RowKit
set_option linter.unusedVariables false
set_option linter.unusedSimpArgs false
theorem l29_1 : Ev.encT 5 true 10 800 = ([5, 138, 3, 32], 0) := by decide +kernel
theorem l29_2 : Ev.press ⟨false, 0, 0, 0, 0, 0⟩ 5 10 1000 = (⟨true, 5, 10, 1000, 0, 0⟩, 0) := by rfl
theorem l29_3 : Ev.next ⟨true, 5, 10, 1000, 0, 0⟩ 160 = ⟨⟨true, 5, 10, 1000, 160, 0⟩, ⟨1000, true, ⟨5, false, 10, 160⟩⟩, true, 0⟩ := by rfl
theorem l29_4 : Ev.hear ⟨false, 0, 0, 0, false⟩ 1000 ⟨5, false, 0, 320⟩ = (⟨true, 1000, 5, 320, false⟩, [⟨5, true, 1000, 0⟩]) := by rfl
theorem l29_5 : Ev.hear ⟨true, 1000, 5, 320, false⟩ 1000 ⟨5, true, 0, 320⟩ = (⟨true, 1000, 5, 320, true⟩, [⟨5, false, 1000, 320⟩]) := by rfl
theorem l29_6 : Ev.lev [1000, -1000] = 33 := by decide +kernel
set_option maxHeartbeats 1600000 in
theorem lives29 (w : World) : Calls Try.prog 15 #[] w fun e w' => e = .returned (.bool true) ∧ Below w.heap.size w w' := by
  have k1 := fun W => EncodeTone_any 5 true 10 800 W (by omega) (by omega) (by omega)
  rw [l29_1] at k1
  have k2 := fun W => Press_any false 0 0 0 0 0 5 10 1000 W
  rw [l29_2] at k2
  have k3 := fun W => Next_any true 5 10 1000 0 0 160 W
  rw [l29_3] at k3
  have k4 := fun W => Hear_any false 0 0 0 false 1000 5 false 0 320 W (by omega) (by omega) (by omega) (by omega) (by omega) (by omega)
  rw [l29_4] at k4
  have k5 := fun W => Hear_any true 1000 5 320 false 1000 5 true 0 320 W (by omega) (by omega) (by omega) (by omega) (by omega) (by omega)
  rw [l29_5] at k5
  have k6 := fun A W h => Level_any A [1000, -1000] 2 W h (fun z hz => by simp at hz; rcases hz with rfl | rfl <;> omega) (by decide)
  rw [l29_6] at k6
  simp only [Ev.Snd.row] at k2 k3
  replace k1 := Lib.hid k1
  replace k2 := Lib.hid k2
  replace k3 := Lib.hid k3
  replace k4 := Lib.hid k4
  replace k5 := Lib.hid k5
  replace k6 := Lib.hid k6
  go_enter Try.func15, Try.ntmps15
  have U := Lib.hid (Bel.refl w)
  go_wp2_with fail
  refine (k1.out _).mono ?_
  rintro e w1 ⟨A1, c1, rfl, ia_, hb1⟩
  replace U := Lib.hid (U.out.later hb1)
  clear hb1
  have Ia := Lib.hid ia_
  clear ia_
  go_wp2_with fail
  refine (k2.out _).mono ?_
  rintro e w2 ⟨rfl, hb2⟩
  replace U := Lib.hid (U.out.later hb2)
  replace Ia := Lib.hid (Ia.out.later hb2)
  clear hb2
  replace U := Lib.hid (U.out.push (.cells #[.bool true, .int .u8 5, .int .u8 10, .int .u32 1000, .int .i64 0, .int .i64 0] 49))
  replace Ia := Lib.hid (Ia.out.push (.cells #[.bool true, .int .u8 5, .int .u8 10, .int .u32 1000, .int .i64 0, .int .i64 0] 49))
  have B1 := Lib.hid (Blk.new w2 49 #[.bool true, .int .u8 5, .int .u8 10, .int .u32 1000, .int .i64 0, .int .i64 0])
  go_wp2_with fail
  refine (k3.out _).mono ?_
  rintro e w3 ⟨rfl, hb3⟩
  replace U := Lib.hid (U.out.later hb3)
  replace Ia := Lib.hid (Ia.out.later hb3)
  replace B1 := Lib.hid (B1.out.later hb3)
  clear hb3
  replace U := Lib.hid (U.out.push (.cells #[.bool true, .int .u8 5, .int .u8 10, .int .u32 1000, .int .i64 160, .int .i64 0] 49))
  replace Ia := Lib.hid (Ia.out.push (.cells #[.bool true, .int .u8 5, .int .u8 10, .int .u32 1000, .int .i64 160, .int .i64 0] 49))
  replace B1 := Lib.hid (B1.out.push (.cells #[.bool true, .int .u8 5, .int .u8 10, .int .u32 1000, .int .i64 160, .int .i64 0] 49))
  replace U := Lib.hid (U.out.push (.cells #[.int .u32 1000, .bool true, .int .u8 5, .bool false, .int .u8 10, .int .u16 160] 55))
  replace Ia := Lib.hid (Ia.out.push (.cells #[.int .u32 1000, .bool true, .int .u8 5, .bool false, .int .u8 10, .int .u16 160] 55))
  replace B1 := Lib.hid (B1.out.push (.cells #[.int .u32 1000, .bool true, .int .u8 5, .bool false, .int .u8 10, .int .u16 160] 55))
  have BO := Lib.hid (Blk.new1 w3 (.cells #[.bool true, .int .u8 5, .int .u8 10, .int .u32 1000, .int .i64 160, .int .i64 0] 49) 55 #[.int .u32 1000, .bool true, .int .u8 5, .bool false, .int .u8 10, .int .u16 160])
  clear B1
  go_wp2_with fail
  refine (k4.out _).mono ?_
  rintro e w4 ⟨A4, c4, rfl, ⟨ra_, _⟩, hb4⟩
  replace U := Lib.hid (U.out.later hb4)
  replace Ia := Lib.hid (Ia.out.later hb4)
  replace BO := Lib.hid (BO.out.later hb4)
  clear hb4
  have Ra := Lib.hid ra_
  clear ra_
  simp only [Ev.Rcv.row, List.length_cons, List.length_nil, Nat.zero_add]
  replace U := Lib.hid (U.out.push (.cells #[.bool true, .int .u32 1000, .int .u8 5, .int .i64 320, .bool false] 24))
  replace Ia := Lib.hid (Ia.out.push (.cells #[.bool true, .int .u32 1000, .int .u8 5, .int .i64 320, .bool false] 24))
  replace BO := Lib.hid (BO.out.push (.cells #[.bool true, .int .u32 1000, .int .u8 5, .int .i64 320, .bool false] 24))
  replace Ra := Lib.hid (Ra.out.push (.cells #[.bool true, .int .u32 1000, .int .u8 5, .int .i64 320, .bool false] 24))
  have BR := Lib.hid (Blk.new w4 24 #[.bool true, .int .u32 1000, .int .u8 5, .int .i64 320, .bool false])
  go_wp2_with fail
  refine (k5.out _).mono ?_
  rintro e w5 ⟨A5, c5, rfl, ⟨rb_, _⟩, hb5⟩
  replace U := Lib.hid (U.out.later hb5)
  replace Ia := Lib.hid (Ia.out.later hb5)
  replace BO := Lib.hid (BO.out.later hb5)
  replace Ra := Lib.hid (Ra.out.later hb5)
  replace BR := Lib.hid (BR.out.later hb5)
  clear hb5
  have Rb := Lib.hid rb_
  clear rb_
  simp only [Ev.Rcv.row, List.length_cons, List.length_nil, Nat.zero_add]
  replace U := Lib.hid (U.out.push (.cells #[.bool true, .int .u32 1000, .int .u8 5, .int .i64 320, .bool true] 24))
  replace Ia := Lib.hid (Ia.out.push (.cells #[.bool true, .int .u32 1000, .int .u8 5, .int .i64 320, .bool true] 24))
  replace BO := Lib.hid (BO.out.push (.cells #[.bool true, .int .u32 1000, .int .u8 5, .int .i64 320, .bool true] 24))
  replace Ra := Lib.hid (Ra.out.push (.cells #[.bool true, .int .u32 1000, .int .u8 5, .int .i64 320, .bool true] 24))
  replace BR := Lib.hid (BR.out.push (.cells #[.bool true, .int .u32 1000, .int .u8 5, .int .i64 320, .bool true] 24))
  replace Rb := Lib.hid (Rb.out.push (.cells #[.bool true, .int .u32 1000, .int .u8 5, .int .i64 320, .bool true] 24))
  clear BR
  have hv1 := run_convert_ints Ia.out 77 9 5 Try.underlying77 Try.underlying5 Try.underlying9 4 c1 rfl
  replace U := Lib.hid (U.out.push (.cells #[.int .u8 5, .int .u8 138, .int .u8 3, .int .u8 32] 5))
  replace Ia := Lib.hid (Ia.out.push (.cells #[.int .u8 5, .int .u8 138, .int .u8 3, .int .u8 32] 5))
  replace BO := Lib.hid (BO.out.push (.cells #[.int .u8 5, .int .u8 138, .int .u8 3, .int .u8 32] 5))
  replace Ra := Lib.hid (Ra.out.push (.cells #[.int .u8 5, .int .u8 138, .int .u8 3, .int .u8 32] 5))
  replace Rb := Lib.hid (Rb.out.push (.cells #[.int .u8 5, .int .u8 138, .int .u8 3, .int .u8 32] 5))
  have hv2 := run_convert_ints (IntsAt.lit1 w5 (.cells #[.bool true, .int .u32 1000, .int .u8 5, .int .i64 320, .bool true] 24) 5 .u8 [5, 138, 3, 32] [.int .u8 5, .int .u8 138, .int .u8 3, .int .u8 32] rfl) 77 9 5 Try.underlying77 Try.underlying5 Try.underlying9 4 4 rfl
  clear Ia
  have c_BO0 := BO.out.at 0 _ rfl
  have c_BO1 := BO.out.at 1 _ rfl
  have c_BO2 := BO.out.at 2 _ rfl
  have c_BO3 := BO.out.at 3 _ rfl
  have c_BO4 := BO.out.at 4 _ rfl
  have c_BO5 := BO.out.at 5 _ rfl
  go_wp2_with fail
  clear c_BO0 c_BO1 c_BO2 c_BO3 c_BO4 c_BO5
  clear hv1 hv2
  clear BO
  replace U := Lib.hid (U.out.push (.cells #[.int .u8 5, .bool true, .int .u32 1000, .int .i64 0] 70))
  replace Ra := Lib.hid (Ra.out.push (.cells #[.int .u8 5, .bool true, .int .u32 1000, .int .i64 0] 70))
  replace Rb := Lib.hid (Rb.out.push (.cells #[.int .u8 5, .bool true, .int .u32 1000, .int .i64 0] 70))
  refine (same29 A4 _ [⟨5, true, 1000, 0⟩] 1 c4 1 rfl _ Ra.out (RowsAt.lit2 w5 _ _ 70 Ev.Key.row [⟨5, true, 1000, 0⟩] #[.int .u8 5, .bool true, .int .u32 1000, .int .i64 0] rfl (fun _ => rfl)) (by omega)).mono ?_
  rintro e w6 ⟨rfl, hb6⟩
  replace U := Lib.hid (U.out.later hb6)
  replace Ra := Lib.hid (Ra.out.later hb6)
  replace Rb := Lib.hid (Rb.out.later hb6)
  clear hb6
  go_wp2_with fail
  replace U := Lib.hid (U.out.push (.cells #[.int .u8 5, .bool false, .int .u32 1000, .int .i64 320] 70))
  replace Ra := Lib.hid (Ra.out.push (.cells #[.int .u8 5, .bool false, .int .u32 1000, .int .i64 320] 70))
  replace Rb := Lib.hid (Rb.out.push (.cells #[.int .u8 5, .bool false, .int .u32 1000, .int .i64 320] 70))
  refine (same29 A5 _ [⟨5, false, 1000, 320⟩] 1 c5 1 rfl _ Rb.out (RowsAt.lit0 w6 70 Ev.Key.row [⟨5, false, 1000, 320⟩] #[.int .u8 5, .bool false, .int .u32 1000, .int .i64 320] rfl (fun _ => rfl)) (by omega)).mono ?_
  rintro e w7 ⟨rfl, hb7⟩
  replace U := Lib.hid (U.out.later hb7)
  replace Ra := Lib.hid (Ra.out.later hb7)
  replace Rb := Lib.hid (Rb.out.later hb7)
  clear hb7
  go_wp2_with fail
  replace U := Lib.hid (U.out.push (.cells #[.int .i16 1000, .int .i16 (-1000)] 40))
  replace Ra := Lib.hid (Ra.out.push (.cells #[.int .i16 1000, .int .i16 (-1000)] 40))
  replace Rb := Lib.hid (Rb.out.push (.cells #[.int .i16 1000, .int .i16 (-1000)] 40))
  refine (k6.out _ _ (IntsAt.lit0 w7 40 .i16 [1000, -1000] [.int .i16 1000, .int .i16 (-1000)] rfl)).mono ?_
  rintro e w8 ⟨rfl, rfl⟩
  go_wp2_with fail
  go_ret
  exact ⟨rfl, U.out⟩
end Go.Proofs.Ytangooegialmcaa

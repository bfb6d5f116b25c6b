/- Layer 25: lives. -/
import Derived.Test.YtbpcpgmbfnmacaaPkSame
import Derived.Test.YtbpcpgmbfnmacaaPkRDecA
import Derived.Test.YtbpcpgmbfnmacaaPkFollowA
import Derived.Test.YtbpcpgmbfnmacaaLate
import Derived.Laws.Rows
namespace Go.Proofs.Ytbpcpgmbfnmacaa
open Go.RowKit
set_option linter.unusedVariables false
set_option linter.unusedSimpArgs false
attribute [local go_sem ↓] run_min_plain run_max_plain
attribute [local go_sem] setCell_drewN alloc_drewN
theorem l25_1 : Pk.enc ⟨true, 0, 0, 0, 0, [5], false, 0, [], [], 2⟩ = ([161, 128, 0, 0, 0, 0, 0, 0, 0, 0, 0, 0, 0, 0, 0, 5, 0, 2], 0) := by decide +kernel
theorem l25_2 : Pk.dec [128, 8, 1, 2, 0, 0, 0, 1, 0, 0, 0, 2, 7] = (⟨false, 8, 258, 1, 2, [], false, 0, [], [7], 0⟩, 0, 0) := by rfl
theorem l25_3 : Pk.dec [64] = (Pk.Pkt.zero, 0, 15) := by rfl
theorem l25_4 : Pk.follow ⟨false, 0, 0⟩ 65535 = (⟨true, 65535, -1⟩, 65535, true) := by rfl
theorem l25_5 : Pk.follow ⟨true, 65535, -1⟩ 0 = (⟨true, 65536, -1⟩, 65536, true) := by rfl
theorem IntsAt.litN {w W : World} {g : Nat} {e : TypeId} {k : IntKind} {zs : List Int} {cs : Array Value} (h : Blk W g e cs) (hc : cs.toList = zs.map (Value.int k)) : IntsAt W W.heap.size k (some ⟨g, 0, none⟩) zs := fun h0 => by
  refine ⟨g, 0, rfl, h.lt, fun i hi => ?_⟩
  rw [Nat.zero_add, h.cell i, ← Array.getElem?_toList, hc, List.getElem?_map, List.getElem?_eq_getElem hi]
  simp [List.getD_eq_getElem?_getD, List.getElem?_eq_getElem hi]
theorem IntsAt.lit2 (w : World) (o o2 : Obj) (e : TypeId) (k : IntKind) (zs : List Int) (cs : List Value) (h : cs = zs.map (Value.int k)) : IntsAt (((w.alloc o).alloc o2).alloc (.cells cs.toArray e)) (((w.alloc o).alloc o2).alloc (.cells cs.toArray e)).heap.size k (some ⟨w.heap.size + 1 + 1, 0, none⟩) zs := by
  have := IntsAt.new ((w.alloc o).alloc o2) e k zs cs h
  simpa using this
set_option maxRecDepth 100000 in
set_option maxHeartbeats 6400000 in
theorem lives25 (w : World) : Calls Try.prog 12 #[] w fun e w' => e = .returned (.bool true) ∧ Below w.heap.size w w' := by
  have k1 := fun A W hA => Encode_any true 0 0 0 0 A [5] 1 0 none [] 0 none [] 0 2 W false (by decide) (by decide) (by decide) (by decide) (by decide) (by decide) (by decide) (by decide) (by decide) (by decide) (by decide) (by decide) (by intro z hz; simp at hz; omega) hA IntsAt.nil IntsAt.nil
  rw [l25_1] at k1
  have k2 := fun A W h => Decode_any A [128, 8, 1, 2, 0, 0, 0, 1, 0, 0, 0, 2, 7] 13 W h (by intro z hz; simp at hz; omega) (by decide) (by decide)
  rw [l25_2] at k2
  have k3 := fun A W h => Decode_any A [64] 1 W h (by intro z hz; simp at hz; omega) (by decide) (by decide)
  rw [l25_3] at k3
  have k4 := fun W => Follow_any false 0 0 65535 W (by decide) (by decide) (by decide) (by decide) (by decide) (by decide)
  rw [l25_4] at k4
  have k5 := fun W => Follow_any true 65535 (-1) 0 W (by decide) (by decide) (by decide) (by decide) (by decide) (by decide)
  rw [l25_5] at k5
  simp only [Pk.Tr.row] at k4 k5
  replace k1 := Lib.hid k1
  replace k2 := Lib.hid k2
  replace k3 := Lib.hid k3
  replace k4 := Lib.hid k4
  replace k5 := Lib.hid k5
  go_enter Try.func12, Try.ntmps12
  have U := Lib.hid (Bel.refl w)
  go_wp2_with fail
  replace U := Lib.hid (U.out.push (.cells #[.int .u32 5] 23))
  refine (k1.out _ _ (IntsAt.lit0 _ 23 .u32 [5] [.int .u32 5] rfl)).mono ?_
  rintro e w1 ⟨A1, c1, rfl, ⟨ia_, _⟩, hb1⟩
  replace U := Lib.hid (U.out.later hb1)
  clear hb1
  have Ia := Lib.hid ia_
  clear ia_
  go_wp2_with fail
  replace U := Lib.hid (U.out.push (.cells #[.int .u8 128, .int .u8 8, .int .u8 1, .int .u8 2, .int .u8 0, .int .u8 0, .int .u8 0, .int .u8 1, .int .u8 0, .int .u8 0, .int .u8 0, .int .u8 2, .int .u8 7] 5))
  replace Ia := Lib.hid (Ia.out.push (.cells #[.int .u8 128, .int .u8 8, .int .u8 1, .int .u8 2, .int .u8 0, .int .u8 0, .int .u8 0, .int .u8 1, .int .u8 0, .int .u8 0, .int .u8 0, .int .u8 2, .int .u8 7] 5))
  refine (k2.out _ _ (IntsAt.lit0 _ 5 .u8 [128, 8, 1, 2, 0, 0, 0, 1, 0, 0, 0, 2, 7] [.int .u8 128, .int .u8 8, .int .u8 1, .int .u8 2, .int .u8 0, .int .u8 0, .int .u8 0, .int .u8 1, .int .u8 0, .int .u8 0, .int .u8 0, .int .u8 2, .int .u8 7] rfl)).mono ?_
  rintro e w2 ⟨M2, cm2, E2, ce2, P2, cp2, rfl, _, _, ⟨ip_, _⟩, hb2⟩
  replace U := Lib.hid (U.out.later hb2)
  replace Ia := Lib.hid (Ia.out.later hb2)
  clear hb2
  have Ip := Lib.hid ip_
  clear ip_
  simp only [Pk.Pkt.row, List.length_nil, List.length_cons, Nat.zero_add]
  replace U := Lib.hid (U.out.push (.cells #[.bool false, .int .u8 8, .int .u16 258, .int .u32 1, .int .u32 2, .slice M2 0 cm2, .bool false, .int .u16 0, .slice E2 0 ce2, .slice P2 1 cp2, .int .i64 0] 27))
  replace Ia := Lib.hid (Ia.out.push (.cells #[.bool false, .int .u8 8, .int .u16 258, .int .u32 1, .int .u32 2, .slice M2 0 cm2, .bool false, .int .u16 0, .slice E2 0 ce2, .slice P2 1 cp2, .int .i64 0] 27))
  replace Ip := Lib.hid (Ip.out.push (.cells #[.bool false, .int .u8 8, .int .u16 258, .int .u32 1, .int .u32 2, .slice M2 0 cm2, .bool false, .int .u16 0, .slice E2 0 ce2, .slice P2 1 cp2, .int .i64 0] 27))
  have BP := Lib.hid (Blk.new w2 27 #[.bool false, .int .u8 8, .int .u16 258, .int .u32 1, .int .u32 2, .slice M2 0 cm2, .bool false, .int .u16 0, .slice E2 0 ce2, .slice P2 1 cp2, .int .i64 0])
  go_wp2_with fail
  replace U := Lib.hid (U.out.push (.cells #[.int .u8 64] 5))
  replace Ia := Lib.hid (Ia.out.push (.cells #[.int .u8 64] 5))
  replace Ip := Lib.hid (Ip.out.push (.cells #[.int .u8 64] 5))
  replace BP := Lib.hid (BP.out.push (.cells #[.int .u8 64] 5))
  refine (k3.out _ _ (IntsAt.lit1 w2 (.cells #[.bool false, .int .u8 8, .int .u16 258, .int .u32 1, .int .u32 2, .slice M2 0 cm2, .bool false, .int .u16 0, .slice E2 0 ce2, .slice P2 1 cp2, .int .i64 0] 27) 5 .u8 [64] [.int .u8 64] rfl)).mono ?_
  rintro e w3 ⟨M3, cm3, E3, ce3, P3, cp3, rfl, _, _, _, hb3⟩
  replace U := Lib.hid (U.out.later hb3)
  replace Ia := Lib.hid (Ia.out.later hb3)
  replace Ip := Lib.hid (Ip.out.later hb3)
  replace BP := Lib.hid (BP.out.later hb3)
  clear hb3
  simp only [Pk.Pkt.row, Pk.Pkt.zero, List.length_nil]
  replace U := Lib.hid (U.out.push (.cells #[.bool false, .int .u8 0, .int .u16 0, .int .u32 0, .int .u32 0, .slice M3 0 cm3, .bool false, .int .u16 0, .slice E3 0 ce3, .slice P3 0 cp3, .int .i64 0] 27))
  replace Ia := Lib.hid (Ia.out.push (.cells #[.bool false, .int .u8 0, .int .u16 0, .int .u32 0, .int .u32 0, .slice M3 0 cm3, .bool false, .int .u16 0, .slice E3 0 ce3, .slice P3 0 cp3, .int .i64 0] 27))
  replace Ip := Lib.hid (Ip.out.push (.cells #[.bool false, .int .u8 0, .int .u16 0, .int .u32 0, .int .u32 0, .slice M3 0 cm3, .bool false, .int .u16 0, .slice E3 0 ce3, .slice P3 0 cp3, .int .i64 0] 27))
  replace BP := Lib.hid (BP.out.push (.cells #[.bool false, .int .u8 0, .int .u16 0, .int .u32 0, .int .u32 0, .slice M3 0 cm3, .bool false, .int .u16 0, .slice E3 0 ce3, .slice P3 0 cp3, .int .i64 0] 27))
  go_wp2_with fail
  refine (k4.out _).mono ?_
  rintro e w4 ⟨rfl, hb4⟩
  replace U := Lib.hid (U.out.later hb4)
  replace Ia := Lib.hid (Ia.out.later hb4)
  replace Ip := Lib.hid (Ip.out.later hb4)
  replace BP := Lib.hid (BP.out.later hb4)
  clear hb4
  replace U := Lib.hid (U.out.push (.cells #[.bool true, .int .i64 65535, .int .i64 (-1)] 40))
  replace Ia := Lib.hid (Ia.out.push (.cells #[.bool true, .int .i64 65535, .int .i64 (-1)] 40))
  replace Ip := Lib.hid (Ip.out.push (.cells #[.bool true, .int .i64 65535, .int .i64 (-1)] 40))
  replace BP := Lib.hid (BP.out.push (.cells #[.bool true, .int .i64 65535, .int .i64 (-1)] 40))
  go_wp2_with fail
  refine (k5.out _).mono ?_
  rintro e w5 ⟨rfl, hb5⟩
  replace U := Lib.hid (U.out.later hb5)
  replace Ia := Lib.hid (Ia.out.later hb5)
  replace Ip := Lib.hid (Ip.out.later hb5)
  replace BP := Lib.hid (BP.out.later hb5)
  clear hb5
  replace U := Lib.hid (U.out.push (.cells #[.bool true, .int .i64 65536, .int .i64 (-1)] 40))
  replace Ia := Lib.hid (Ia.out.push (.cells #[.bool true, .int .i64 65536, .int .i64 (-1)] 40))
  replace Ip := Lib.hid (Ip.out.push (.cells #[.bool true, .int .i64 65536, .int .i64 (-1)] 40))
  replace BP := Lib.hid (BP.out.push (.cells #[.bool true, .int .i64 65536, .int .i64 (-1)] 40))
  have hv1 := run_convert_ints Ia.out 25 9 5 Try.underlying25 Try.underlying5 Try.underlying9 18 c1 rfl
  replace U := Lib.hid (U.out.push (.cells #[.int .u8 161, .int .u8 128, .int .u8 0, .int .u8 0, .int .u8 0, .int .u8 0, .int .u8 0, .int .u8 0, .int .u8 0, .int .u8 0, .int .u8 0, .int .u8 0, .int .u8 0, .int .u8 0, .int .u8 0, .int .u8 5, .int .u8 0, .int .u8 2] 5))
  replace Ia := Lib.hid (Ia.out.push (.cells #[.int .u8 161, .int .u8 128, .int .u8 0, .int .u8 0, .int .u8 0, .int .u8 0, .int .u8 0, .int .u8 0, .int .u8 0, .int .u8 0, .int .u8 0, .int .u8 0, .int .u8 0, .int .u8 0, .int .u8 0, .int .u8 5, .int .u8 0, .int .u8 2] 5))
  replace Ip := Lib.hid (Ip.out.push (.cells #[.int .u8 161, .int .u8 128, .int .u8 0, .int .u8 0, .int .u8 0, .int .u8 0, .int .u8 0, .int .u8 0, .int .u8 0, .int .u8 0, .int .u8 0, .int .u8 0, .int .u8 0, .int .u8 0, .int .u8 0, .int .u8 5, .int .u8 0, .int .u8 2] 5))
  replace BP := Lib.hid (BP.out.push (.cells #[.int .u8 161, .int .u8 128, .int .u8 0, .int .u8 0, .int .u8 0, .int .u8 0, .int .u8 0, .int .u8 0, .int .u8 0, .int .u8 0, .int .u8 0, .int .u8 0, .int .u8 0, .int .u8 0, .int .u8 0, .int .u8 5, .int .u8 0, .int .u8 2] 5))
  have hv2 := run_convert_ints (IntsAt.lit1 w5 (.cells #[.bool true, .int .i64 65536, .int .i64 (-1)] 40) 5 .u8 [161, 128, 0, 0, 0, 0, 0, 0, 0, 0, 0, 0, 0, 0, 0, 5, 0, 2] [.int .u8 161, .int .u8 128, .int .u8 0, .int .u8 0, .int .u8 0, .int .u8 0, .int .u8 0, .int .u8 0, .int .u8 0, .int .u8 0, .int .u8 0, .int .u8 0, .int .u8 0, .int .u8 0, .int .u8 0, .int .u8 5, .int .u8 0, .int .u8 2] rfl) 25 9 5 Try.underlying25 Try.underlying5 Try.underlying9 18 18 rfl
  clear Ia
  have c_BP0 := BP.out.at 0 _ rfl
  have c_BP1 := BP.out.at 1 _ rfl
  have c_BP2 := BP.out.at 2 _ rfl
  have c_BP3 := BP.out.at 3 _ rfl
  have c_BP4 := BP.out.at 4 _ rfl
  have c_BP5 := BP.out.at 5 _ rfl
  have c_BP6 := BP.out.at 6 _ rfl
  have c_BP7 := BP.out.at 7 _ rfl
  have c_BP8 := BP.out.at 8 _ rfl
  have c_BP9 := BP.out.at 9 _ rfl
  have c_BP10 := BP.out.at 10 _ rfl
  go_wp2_with fail
  clear c_BP0 c_BP1 c_BP2 c_BP3 c_BP4 c_BP5 c_BP6 c_BP7 c_BP8 c_BP9 c_BP10
  replace U := Lib.hid (U.out.push (.cells #[.int .u8 7] 5))
  replace Ip := Lib.hid (Ip.out.push (.cells #[.int .u8 7] 5))
  replace BP := Lib.hid (BP.out.push (.cells #[.int .u8 7] 5))
  refine (rSame_any false 8 258 1 2 [] false 0 [] [7] 0 M2 none E2 none P2 (some ⟨w5.heap.size + 1 + 1, 0, none⟩) cm2 0 ce2 0 cp2 1 _ IntsAt.nil IntsAt.nil IntsAt.nil IntsAt.nil Ip.out (IntsAt.lit2 w5 (.cells #[.bool true, .int .i64 65536, .int .i64 (-1)] 40) (.cells #[.int .u8 161, .int .u8 128, .int .u8 0, .int .u8 0, .int .u8 0, .int .u8 0, .int .u8 0, .int .u8 0, .int .u8 0, .int .u8 0, .int .u8 0, .int .u8 0, .int .u8 0, .int .u8 0, .int .u8 0, .int .u8 5, .int .u8 0, .int .u8 2] 5) 5 .u8 [7] [.int .u8 7] rfl) (by decide)).mono ?_
  rintro e w6 ⟨rfl, hb6⟩
  replace U := Lib.hid (U.out.later hb6)
  replace Ip := Lib.hid (Ip.out.later hb6)
  replace BP := Lib.hid (BP.out.later hb6)
  clear hb6
  go_wp2_with fail
  go_ret
  exact ⟨by simp, U.out⟩
end Go.Proofs.Ytbpcpgmbfnmacaa

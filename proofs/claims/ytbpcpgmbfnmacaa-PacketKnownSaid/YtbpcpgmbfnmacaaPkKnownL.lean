/- Layer 25, PacketKnown: the law returns true. -/
import Derived.Test.YtbpcpgmbfnmacaaPkLives
import Derived.Test.YtbpcpgmbfnmacaaPkTypes
namespace Go.Proofs.Ytbpcpgmbfnmacaa.packetKnown
open Go.RowKit
set_option linter.unusedVariables false
set_option linter.unusedSimpArgs false
attribute [local go_sem ↓] run_min_plain run_max_plain
attribute [local go_sem] setCell_drewN alloc_drewN
theorem n25_1 : Pk.enc ⟨false, 8, 258, 1, 2, [], false, 0, [], [7], 0⟩ = ([128, 8, 1, 2, 0, 0, 0, 1, 0, 0, 0, 2, 7], 0) := by decide +kernel
theorem n25_2 : Pk.dec [128, 0] = (Pk.Pkt.zero, 2, 6) := by rfl
theorem n25_3 : Pk.dec [] = (Pk.Pkt.zero, 0, 6) := by rfl
theorem n25_4 : Pk.follow ⟨true, 65536, -1⟩ 9000 = (⟨true, 65536, 9001⟩, 0, false) := by rfl
theorem n25_5 : Pk.follow ⟨true, 65536, 9001⟩ 9001 = (⟨true, 74537, -1⟩, 74537, true) := by rfl
theorem ints_row {W : World} {g : Nat} {t : TypeId} {A : Option Addr} {zs : List Int} {b b' : Bool} {x y x' y' : Int} (h : IntsAt W W.heap.size .u8 A zs) (hb : Blk W g t #[.bool b, .int .i64 x, .int .i64 y]) : IntsAt (setRow g W 0 [.bool b', .int .i64 x', .int .i64 y']) (setRow g W 0 [.bool b', .int .i64 x', .int .i64 y']).heap.size .u8 A zs := by
  rw [setRow_size]
  have n1 : ∀ (p : Bool) (q r : Int) (j : Nat) (z : Int), (#[Value.bool p, .int .i64 q, .int .i64 r] : Array Value)[j]? ≠ some (.int .u8 z) := fun p q r j z => by
    match j with
    | 0 => simp
    | 1 => simp
    | 2 => simp
    | j + 3 => simp
  have h1 := h.set_other hb (n1 _ _ _) (i := 0) (.bool b')
  have hb1 := hb.set_ 0 (.bool b')
  have h2 := h1.set_other (cs := #[.bool b', .int .i64 x, .int .i64 y]) hb1 (n1 _ _ _) (i := 1) (.int .i64 x')
  have hb2 := hb1.set_ 1 (.int .i64 x')
  have h3 := h2.set_other (cs := #[.bool b', .int .i64 x', .int .i64 y]) hb2 (n1 _ _ _) (i := 2) (.int .i64 y')
  exact h3
set_option maxRecDepth 100000 in
set_option maxHeartbeats 6400000 in
theorem walk (w : World)  :
    Calls Try.prog 11 #[] w fun e w' => e = .returned (.bool true) ∧ Below w.heap.size w w' := by
  have k1 := fun A W hA => Encode_any false 8 258 1 2 none [] 0 0 none [] 0 A [7] 1 0 W false (by decide) (by decide) (by decide) (by decide) (by decide) (by decide) (by decide) (by decide) (by decide) (by decide) (by decide) (by decide) (by intro z hz; cases hz) IntsAt.nil IntsAt.nil hA
  rw [n25_1] at k1
  have k2 := fun A W h => Decode_any A [128, 0] 2 W h (by intro z hz; simp at hz; omega) (by decide) (by decide)
  rw [n25_2] at k2
  have k3 := fun W => Decode_any none [] 0 W IntsAt.nil (by intro z hz; cases hz) (by decide) (by decide)
  rw [n25_3] at k3
  have k4 := fun W => Follow_any false 0 0 65535 W (by decide) (by decide) (by decide) (by decide) (by decide) (by decide)
  rw [l25_4] at k4
  have k5 := fun W => Follow_any true 65535 (-1) 0 W (by decide) (by decide) (by decide) (by decide) (by decide) (by decide)
  rw [l25_5] at k5
  have k6 := fun W => Follow_any true 65536 (-1) 9000 W (by decide) (by decide) (by decide) (by decide) (by decide) (by decide)
  rw [n25_4] at k6
  have k7 := fun W => Follow_any true 65536 9001 9001 W (by decide) (by decide) (by decide) (by decide) (by decide) (by decide)
  rw [n25_5] at k7
  simp only [Pk.Tr.row] at k4 k5 k6 k7
  have m0 := fun W => Newer_any 0 65535 W (by decide) (by decide) (by decide) (by decide)
  rw [show Pk.newer 0 65535 = 1 by rfl] at m0
  have m1 := fun W => Newer_any 32768 0 W (by decide) (by decide) (by decide) (by decide)
  rw [show Pk.newer 32768 0 = 1 by rfl] at m1
  have m2 := fun W => Newer_any 0 32768 W (by decide) (by decide) (by decide) (by decide)
  rw [show Pk.newer 0 32768 = -1 by rfl] at m2
  have e0 := fun W => Extend_any 65530 3 W (by decide) (by decide) (by decide) (by decide)
  rw [show Pk.near 65530 3 65536 = 65539 by rfl] at e0
  have e1 := fun W => Extend_any 65540 65535 W (by decide) (by decide) (by decide) (by decide)
  rw [show Pk.near 65540 65535 65536 = 65535 by rfl] at e1
  have e2 := fun W => Extend_any 0 32768 W (by decide) (by decide) (by decide) (by decide)
  rw [show Pk.near 0 32768 65536 = 32768 by rfl] at e2
  have e3 := fun W => Extend_any 0 65535 W (by decide) (by decide) (by decide) (by decide)
  rw [show Pk.near 0 65535 65536 = -1 by rfl] at e3
  replace k1 := Lib.hid k1
  replace k2 := Lib.hid k2
  replace k3 := Lib.hid k3
  replace k4 := Lib.hid k4
  replace k5 := Lib.hid k5
  replace k6 := Lib.hid k6
  replace k7 := Lib.hid k7
  replace m0 := Lib.hid m0
  replace m1 := Lib.hid m1
  replace m2 := Lib.hid m2
  replace e0 := Lib.hid e0
  replace e1 := Lib.hid e1
  replace e2 := Lib.hid e2
  replace e3 := Lib.hid e3
  go_enter Try.func11, Try.ntmps11
  have U := Lib.hid (Bel.refl w)
  go_wp2_with fail
  replace U := Lib.hid (U.out.push (.cells #[.int .u8 7] 5))
  refine (k1.out _ _ (IntsAt.lit0 _ 5 .u8 [7] [.int .u8 7] rfl)).mono ?_
  rintro e w1 ⟨A1, c1, rfl, ⟨ia_, _⟩, hb1⟩
  replace U := Lib.hid (U.out.later hb1)
  clear hb1
  have Ia := Lib.hid ia_
  clear ia_
  go_wp2_with fail
  replace U := Lib.hid (U.out.push (.cells #[.int .u8 128, .int .u8 0] 5))
  replace Ia := Lib.hid (Ia.out.push (.cells #[.int .u8 128, .int .u8 0] 5))
  refine (k2.out _ _ (IntsAt.lit0 _ 5 .u8 [128, 0] [.int .u8 128, .int .u8 0] rfl)).mono ?_
  rintro e w2 ⟨M2, cm2, E2, ce2, P2, cp2, rfl, _, _, _, hb2⟩
  replace U := Lib.hid (U.out.later hb2)
  replace Ia := Lib.hid (Ia.out.later hb2)
  clear hb2
  simp only [Pk.Pkt.row, Pk.Pkt.zero, List.length_nil]
  replace U := Lib.hid (U.out.push (.cells #[.bool false, .int .u8 0, .int .u16 0, .int .u32 0, .int .u32 0, .slice M2 0 cm2, .bool false, .int .u16 0, .slice E2 0 ce2, .slice P2 0 cp2, .int .i64 0] 27))
  replace Ia := Lib.hid (Ia.out.push (.cells #[.bool false, .int .u8 0, .int .u16 0, .int .u32 0, .int .u32 0, .slice M2 0 cm2, .bool false, .int .u16 0, .slice E2 0 ce2, .slice P2 0 cp2, .int .i64 0] 27))
  go_wp2_with fail
  refine (k3.out _).mono ?_
  rintro e w3 ⟨M3, cm3, E3, ce3, P3, cp3, rfl, _, _, _, hb3⟩
  replace U := Lib.hid (U.out.later hb3)
  replace Ia := Lib.hid (Ia.out.later hb3)
  clear hb3
  simp only [Pk.Pkt.row, Pk.Pkt.zero, List.length_nil]
  replace U := Lib.hid (U.out.push (.cells #[.bool false, .int .u8 0, .int .u16 0, .int .u32 0, .int .u32 0, .slice M3 0 cm3, .bool false, .int .u16 0, .slice E3 0 ce3, .slice P3 0 cp3, .int .i64 0] 27))
  replace Ia := Lib.hid (Ia.out.push (.cells #[.bool false, .int .u8 0, .int .u16 0, .int .u32 0, .int .u32 0, .slice M3 0 cm3, .bool false, .int .u16 0, .slice E3 0 ce3, .slice P3 0 cp3, .int .i64 0] 27))
  go_wp2_with fail
  refine (k4.out _).mono ?_
  rintro e w4 ⟨rfl, hb4⟩
  replace U := Lib.hid (U.out.later hb4)
  replace Ia := Lib.hid (Ia.out.later hb4)
  clear hb4
  have UG4 := U
  replace U := Lib.hid (U.out.push (.cells #[.bool true, .int .i64 65535, .int .i64 (-1)] 40))
  replace Ia := Lib.hid (Ia.out.push (.cells #[.bool true, .int .i64 65535, .int .i64 (-1)] 40))
  have BT := Lib.hid (Blk.new w4 40 #[.bool true, .int .i64 65535, .int .i64 (-1)])
  have HG4 : Hid (w.heap.size ≤ w4.heap.size) := Lib.hid UG4.out.size
  go_wp2_with fail
  refine (k5.out _).mono ?_
  rintro e w5 ⟨rfl, hb5⟩
  replace U := Lib.hid (U.out.later hb5)
  replace Ia := Lib.hid (Ia.out.later hb5)
  replace BT := Lib.hid (BT.out.later hb5)
  clear hb5
  have zf := BT.out.frozen
  have r0 := BT.out.at 0 _ rfl
  have r1 := BT.out.at 1 _ rfl
  have r2 := BT.out.at 2 _ rfl
  go_wp2_with fail
  clear zf r0 r1 r2
  have hge : w.heap.size ≤ w4.heap.size := HG4.out
  obtain ⟨V5, hV5⟩ : ∃ V, V = setRow w4.heap.size w5 0 [.bool true, .int .i64 65536, .int .i64 (-1)] := ⟨_, rfl⟩
  replace U : Hid (Bel w V5) := by rw [hV5]; exact Lib.hid (below_setRow hge _ _ 0 U.out)
  replace Ia : Hid (IntsAt V5 V5.heap.size .u8 A1 [128, 8, 1, 2, 0, 0, 0, 1, 0, 0, 0, 2, 7]) := by rw [hV5]; exact Lib.hid (ints_row Ia.out BT.out)
  replace BT : Hid (Blk V5 w4.heap.size 40 #[.bool true, .int .i64 65536, .int .i64 (-1)]) := by rw [hV5]; exact Lib.hid (Blk.setRow BT.out [.bool true, .int .i64 65536, .int .i64 (-1)] rfl)
  simp only [setRow, Nat.zero_add, Nat.reduceAdd] at hV5
  rw [← hV5]
  clear hV5 hge
  refine (k6.out _).mono ?_
  rintro e w6 ⟨rfl, hb6⟩
  replace U := Lib.hid (U.out.later hb6)
  replace Ia := Lib.hid (Ia.out.later hb6)
  replace BT := Lib.hid (BT.out.later hb6)
  clear hb6
  have zf := BT.out.frozen
  have r0 := BT.out.at 0 _ rfl
  have r1 := BT.out.at 1 _ rfl
  have r2 := BT.out.at 2 _ rfl
  go_wp2_with fail
  clear zf r0 r1 r2
  have hge : w.heap.size ≤ w4.heap.size := HG4.out
  obtain ⟨V6, hV6⟩ : ∃ V, V = setRow w4.heap.size w6 0 [.bool true, .int .i64 65536, .int .i64 9001] := ⟨_, rfl⟩
  replace U : Hid (Bel w V6) := by rw [hV6]; exact Lib.hid (below_setRow hge _ _ 0 U.out)
  replace Ia : Hid (IntsAt V6 V6.heap.size .u8 A1 [128, 8, 1, 2, 0, 0, 0, 1, 0, 0, 0, 2, 7]) := by rw [hV6]; exact Lib.hid (ints_row Ia.out BT.out)
  replace BT : Hid (Blk V6 w4.heap.size 40 #[.bool true, .int .i64 65536, .int .i64 9001]) := by rw [hV6]; exact Lib.hid (Blk.setRow BT.out [.bool true, .int .i64 65536, .int .i64 9001] rfl)
  simp only [setRow, Nat.zero_add, Nat.reduceAdd] at hV6
  rw [← hV6]
  clear hV6 hge
  refine (k7.out _).mono ?_
  rintro e w7 ⟨rfl, hb7⟩
  replace U := Lib.hid (U.out.later hb7)
  replace Ia := Lib.hid (Ia.out.later hb7)
  replace BT := Lib.hid (BT.out.later hb7)
  clear hb7
  replace U := Lib.hid (U.out.push (.cells #[.bool true, .int .i64 74537, .int .i64 (-1)] 40))
  replace Ia := Lib.hid (Ia.out.push (.cells #[.bool true, .int .i64 74537, .int .i64 (-1)] 40))
  replace BT := Lib.hid (BT.out.push (.cells #[.bool true, .int .i64 74537, .int .i64 (-1)] 40))
  have hv1 := run_convert_ints Ia.out 25 9 5 Try.underlying25 Try.underlying5 Try.underlying9 13 c1 rfl
  replace U := Lib.hid (U.out.push (.cells #[.int .u8 128, .int .u8 8, .int .u8 1, .int .u8 2, .int .u8 0, .int .u8 0, .int .u8 0, .int .u8 1, .int .u8 0, .int .u8 0, .int .u8 0, .int .u8 2, .int .u8 7] 5))
  replace Ia := Lib.hid (Ia.out.push (.cells #[.int .u8 128, .int .u8 8, .int .u8 1, .int .u8 2, .int .u8 0, .int .u8 0, .int .u8 0, .int .u8 1, .int .u8 0, .int .u8 0, .int .u8 0, .int .u8 2, .int .u8 7] 5))
  replace BT := Lib.hid (BT.out.push (.cells #[.int .u8 128, .int .u8 8, .int .u8 1, .int .u8 2, .int .u8 0, .int .u8 0, .int .u8 0, .int .u8 1, .int .u8 0, .int .u8 0, .int .u8 0, .int .u8 2, .int .u8 7] 5))
  have hv2 := run_convert_ints (IntsAt.lit1 w7 (.cells #[.bool true, .int .i64 74537, .int .i64 (-1)] 40) 5 .u8 [128, 8, 1, 2, 0, 0, 0, 1, 0, 0, 0, 2, 7] [.int .u8 128, .int .u8 8, .int .u8 1, .int .u8 2, .int .u8 0, .int .u8 0, .int .u8 0, .int .u8 1, .int .u8 0, .int .u8 0, .int .u8 0, .int .u8 2, .int .u8 7] rfl) 25 9 5 Try.underlying25 Try.underlying5 Try.underlying9 13 13 rfl
  clear Ia BT
  go_wp2_with fail
  refine (m0.out _).mono ?_
  rintro e w9 ⟨rfl, rfl⟩
  go_wp2_with fail
  refine (m1.out _).mono ?_
  rintro e w9 ⟨rfl, rfl⟩
  go_wp2_with fail
  refine (m2.out _).mono ?_
  rintro e w9 ⟨rfl, rfl⟩
  go_wp2_with fail
  refine (e0.out _).mono ?_
  rintro e w9 ⟨rfl, rfl⟩
  go_wp2_with fail
  refine (e1.out _).mono ?_
  rintro e w9 ⟨rfl, rfl⟩
  go_wp2_with fail
  refine (e2.out _).mono ?_
  rintro e w9 ⟨rfl, rfl⟩
  go_wp2_with fail
  refine (e3.out _).mono ?_
  rintro e w9 ⟨rfl, rfl⟩
  go_wp2_with fail
  refine (lives25 _).mono ?_
  rintro e w8 ⟨rfl, hb8⟩
  replace U := Lib.hid (U.out.later hb8)
  clear hb8
  go_wp2_with fail
  go_ret
  exact ⟨by simp, U.out⟩
end Go.Proofs.Ytbpcpgmbfnmacaa.packetKnown

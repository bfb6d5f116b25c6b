/- Layer 28, DeltaKnown: the law returns true. -/
import Derived.Test.YtcnijhcoifodpaaDelCodes
namespace Go.Proofs.Ytcnijhcoifodpaa.deltaKnown
open Go.RowKit
set_option linter.unusedVariables false
theorem e1 : Dlt.encR 0 0 (-1) = (8, 0, 0, 0) := by decide +kernel
theorem e2 : Dlt.decR 32767 88 7 = (32767, 32767, 88, 0) := by decide +kernel
theorem e3 : Dlt.decR 0 89 1 = (0, 0, 0, 2) := by decide +kernel
theorem e4 : Dlt.unpR [0, 0, 0, 0, 91, 112] 3 = ([9, 0, 18], 18, 11, 0) := by decide +kernel
theorem e5 : Dlt.unpR [0, 0, 0, 0, 91, 113] 3 = ([], 0, 0, 5) := by decide +kernel
theorem e6 : Dlt.unpR [0, 0, 0, 0, 91] 3 = ([], 0, 0, 6) := by decide +kernel
theorem e7 : Dlt.unpR [0, 0, 89, 0] 0 = ([], 0, 0, 5) := by decide +kernel
theorem z0 : Dlt.sz 0 = 7 := by decide +kernel
theorem z1 : Dlt.sz 1 = 8 := by decide +kernel
theorem z9 : Dlt.sz 9 = 17 := by decide +kernel
theorem z10 : Dlt.sz 10 = 19 := by decide +kernel
theorem z89 : Dlt.sz 89 = 0 := by decide +kernel
theorem byt {l : List Int} (h : ∀ z ∈ l, 0 ≤ z ∧ z ≤ 255) : Within 0 255 l := h
theorem unp (bs : List Int) (n : Int) (R : List Int × Int × Int × Int) (hR : Dlt.unpR bs n = R) (hz : Within 0 255 bs) (hm : bs.length ≤ maxLen) (W : World) (A : Option Addr) (h : IntsAt W W.heap.size .u8 A bs) :
    Calls Try.prog 21 #[.slice A bs.length bs.length, .int .i64 n] W fun e w' => ∃ (A' : Option Addr) (c' : Nat), e = .returned (.tuple #[.slice A' R.1.length c', .agg #[.int .i64 R.2.1, .int .i64 R.2.2.1], .int .u8 R.2.2.2]) ∧
      IntsAt w' w'.heap.size .i16 A' R.1 ∧ Below W.heap.size W w' := by
  subst hR
  exact Unpack_any W A bs.length bs n h hz (Nat.le_refl _) hm
set_option maxHeartbeats 3200000 in
theorem walk (w : World) : Calls Try.prog 8 #[] w fun e w' => e = .returned (.bool true) ∧ Below w.heap.size w w' := by
  have k1 := Lib.hid fun W => Encode_any 0 0 (-1) W (by omega) (by omega)
  have k2 := Lib.hid fun W => Decode_any 32767 88 7 W (by omega)
  have k3 := Lib.hid fun W => Decode_any 0 89 1 W (by omega)
  rw [e1] at k1
  rw [e2] at k2
  rw [e3] at k3
  have hm : ∀ n, n ≤ 6 → n ≤ maxLen := fun n hn => by unfold maxLen; omega
  have k4 := Lib.hid (unp [0, 0, 0, 0, 91, 112] 3 _ e4 (byt (by decide)) (hm _ (by decide)))
  have k5 := Lib.hid (unp [0, 0, 0, 0, 91, 113] 3 _ e5 (byt (by decide)) (hm _ (by decide)))
  have k6 := Lib.hid (unp [0, 0, 0, 0, 91] 3 _ e6 (byt (by decide)) (hm _ (by decide)))
  have k7 := Lib.hid (unp [0, 0, 89, 0] 0 _ e7 (byt (by decide)) (hm _ (by decide)))
  have s0 := Lib.hid fun W => Size_bel 0 W
  have s1 := Lib.hid fun W => Size_bel 1 W
  have s9 := Lib.hid fun W => Size_bel 9 W
  have s10 := Lib.hid fun W => Size_bel 10 W
  have s89 := Lib.hid fun W => Size_bel 89 W
  rw [z0] at s0
  rw [z1] at s1
  rw [z9] at s9
  rw [z10] at s10
  rw [z89] at s89
  clear hm
  go_enter Try.func8, Try.ntmps8
  have U := Lib.hid (Bel.refl w)
  go_wp2_with fail
  refine (k1.out _).mono ?_
  rintro e w1 ⟨rfl, hb1⟩
  replace U := Lib.hid (U.out.later hb1)
  clear hb1
  replace U := Lib.hid (U.out.push (.cells #[.int .i64 (0), .int .i64 (0)] 23))
  have B1 := Lib.hid (Blk.new w1 23 #[.int .i64 (0), .int .i64 (0)])
  go_wp2_with fail
  refine (k2.out _).mono ?_
  rintro e w2 ⟨rfl, hb2⟩
  replace U := Lib.hid (U.out.later hb2)
  replace B1 := Lib.hid (B1.out.later hb2)
  clear hb2
  replace U := Lib.hid (U.out.push (.cells #[.int .i64 (32767), .int .i64 (88)] 23))
  replace B1 := Lib.hid (B1.out.push (.cells #[.int .i64 (32767), .int .i64 (88)] 23))
  have B2 := Lib.hid (Blk.new w2 23 #[.int .i64 (32767), .int .i64 (88)])
  go_wp2_with fail
  refine (k3.out _).mono ?_
  rintro e w3 ⟨rfl, hb3⟩
  replace U := Lib.hid (U.out.later hb3)
  replace B1 := Lib.hid (B1.out.later hb3)
  replace B2 := Lib.hid (B2.out.later hb3)
  clear hb3
  replace U := Lib.hid (U.out.push (.cells #[.int .i64 (0), .int .i64 (0)] 23))
  replace B1 := Lib.hid (B1.out.push (.cells #[.int .i64 (0), .int .i64 (0)] 23))
  replace B2 := Lib.hid (B2.out.push (.cells #[.int .i64 (0), .int .i64 (0)] 23))
  go_wp2_with fail
  replace U := Lib.hid (U.out.push (.cells #[.int .u8 0, .int .u8 0, .int .u8 0, .int .u8 0, .int .u8 91, .int .u8 112] 5))
  replace B1 := Lib.hid (B1.out.push (.cells #[.int .u8 0, .int .u8 0, .int .u8 0, .int .u8 0, .int .u8 91, .int .u8 112] 5))
  replace B2 := Lib.hid (B2.out.push (.cells #[.int .u8 0, .int .u8 0, .int .u8 0, .int .u8 0, .int .u8 91, .int .u8 112] 5))
  refine (k4.out _ _ (IntsAt.lit1 _ _ 5 .u8 [0, 0, 0, 0, 91, 112] [.int .u8 0, .int .u8 0, .int .u8 0, .int .u8 0, .int .u8 91, .int .u8 112] rfl)).mono ?_
  rintro e w4 ⟨A4, c4, rfl, ia_, hb4⟩
  replace U := Lib.hid (U.out.later hb4)
  replace B1 := Lib.hid (B1.out.later hb4)
  replace B2 := Lib.hid (B2.out.later hb4)
  clear hb4
  have Ia := Lib.hid ia_
  clear ia_
  replace U := Lib.hid (U.out.push (.cells #[.int .i64 (18), .int .i64 (11)] 23))
  replace B1 := Lib.hid (B1.out.push (.cells #[.int .i64 (18), .int .i64 (11)] 23))
  replace B2 := Lib.hid (B2.out.push (.cells #[.int .i64 (18), .int .i64 (11)] 23))
  replace Ia := Lib.hid (Ia.out.push (.cells #[.int .i64 (18), .int .i64 (11)] 23))
  have B4 := Lib.hid (Blk.new w4 23 #[.int .i64 (18), .int .i64 (11)])
  go_wp2_with fail
  replace U := Lib.hid (U.out.push (.cells #[.int .u8 0, .int .u8 0, .int .u8 0, .int .u8 0, .int .u8 91, .int .u8 113] 5))
  replace B1 := Lib.hid (B1.out.push (.cells #[.int .u8 0, .int .u8 0, .int .u8 0, .int .u8 0, .int .u8 91, .int .u8 113] 5))
  replace B2 := Lib.hid (B2.out.push (.cells #[.int .u8 0, .int .u8 0, .int .u8 0, .int .u8 0, .int .u8 91, .int .u8 113] 5))
  replace Ia := Lib.hid (Ia.out.push (.cells #[.int .u8 0, .int .u8 0, .int .u8 0, .int .u8 0, .int .u8 91, .int .u8 113] 5))
  replace B4 := Lib.hid (B4.out.push (.cells #[.int .u8 0, .int .u8 0, .int .u8 0, .int .u8 0, .int .u8 91, .int .u8 113] 5))
  refine (k5.out _ _ (IntsAt.lit1 _ _ 5 .u8 [0, 0, 0, 0, 91, 113] [.int .u8 0, .int .u8 0, .int .u8 0, .int .u8 0, .int .u8 91, .int .u8 113] rfl)).mono ?_
  rintro e w5 ⟨A5, c5, rfl, ib_, hb5⟩
  replace U := Lib.hid (U.out.later hb5)
  replace B1 := Lib.hid (B1.out.later hb5)
  replace B2 := Lib.hid (B2.out.later hb5)
  replace Ia := Lib.hid (Ia.out.later hb5)
  replace B4 := Lib.hid (B4.out.later hb5)
  clear hb5
  have Ib := Lib.hid ib_
  clear ib_
  replace U := Lib.hid (U.out.push (.cells #[.int .i64 (0), .int .i64 (0)] 23))
  replace B1 := Lib.hid (B1.out.push (.cells #[.int .i64 (0), .int .i64 (0)] 23))
  replace B2 := Lib.hid (B2.out.push (.cells #[.int .i64 (0), .int .i64 (0)] 23))
  replace Ia := Lib.hid (Ia.out.push (.cells #[.int .i64 (0), .int .i64 (0)] 23))
  replace B4 := Lib.hid (B4.out.push (.cells #[.int .i64 (0), .int .i64 (0)] 23))
  replace Ib := Lib.hid (Ib.out.push (.cells #[.int .i64 (0), .int .i64 (0)] 23))
  clear Ib
  go_wp2_with fail
  replace U := Lib.hid (U.out.push (.cells #[.int .u8 0, .int .u8 0, .int .u8 0, .int .u8 0, .int .u8 91] 5))
  replace B1 := Lib.hid (B1.out.push (.cells #[.int .u8 0, .int .u8 0, .int .u8 0, .int .u8 0, .int .u8 91] 5))
  replace B2 := Lib.hid (B2.out.push (.cells #[.int .u8 0, .int .u8 0, .int .u8 0, .int .u8 0, .int .u8 91] 5))
  replace Ia := Lib.hid (Ia.out.push (.cells #[.int .u8 0, .int .u8 0, .int .u8 0, .int .u8 0, .int .u8 91] 5))
  replace B4 := Lib.hid (B4.out.push (.cells #[.int .u8 0, .int .u8 0, .int .u8 0, .int .u8 0, .int .u8 91] 5))
  refine (k6.out _ _ (IntsAt.lit1 _ _ 5 .u8 [0, 0, 0, 0, 91] [.int .u8 0, .int .u8 0, .int .u8 0, .int .u8 0, .int .u8 91] rfl)).mono ?_
  rintro e w6 ⟨A6, c6, rfl, ib_, hb6⟩
  replace U := Lib.hid (U.out.later hb6)
  replace B1 := Lib.hid (B1.out.later hb6)
  replace B2 := Lib.hid (B2.out.later hb6)
  replace Ia := Lib.hid (Ia.out.later hb6)
  replace B4 := Lib.hid (B4.out.later hb6)
  clear hb6
  have Ib := Lib.hid ib_
  clear ib_
  replace U := Lib.hid (U.out.push (.cells #[.int .i64 (0), .int .i64 (0)] 23))
  replace B1 := Lib.hid (B1.out.push (.cells #[.int .i64 (0), .int .i64 (0)] 23))
  replace B2 := Lib.hid (B2.out.push (.cells #[.int .i64 (0), .int .i64 (0)] 23))
  replace Ia := Lib.hid (Ia.out.push (.cells #[.int .i64 (0), .int .i64 (0)] 23))
  replace B4 := Lib.hid (B4.out.push (.cells #[.int .i64 (0), .int .i64 (0)] 23))
  replace Ib := Lib.hid (Ib.out.push (.cells #[.int .i64 (0), .int .i64 (0)] 23))
  clear Ib
  go_wp2_with fail
  replace U := Lib.hid (U.out.push (.cells #[.int .u8 0, .int .u8 0, .int .u8 89, .int .u8 0] 5))
  replace B1 := Lib.hid (B1.out.push (.cells #[.int .u8 0, .int .u8 0, .int .u8 89, .int .u8 0] 5))
  replace B2 := Lib.hid (B2.out.push (.cells #[.int .u8 0, .int .u8 0, .int .u8 89, .int .u8 0] 5))
  replace Ia := Lib.hid (Ia.out.push (.cells #[.int .u8 0, .int .u8 0, .int .u8 89, .int .u8 0] 5))
  replace B4 := Lib.hid (B4.out.push (.cells #[.int .u8 0, .int .u8 0, .int .u8 89, .int .u8 0] 5))
  refine (k7.out _ _ (IntsAt.lit1 _ _ 5 .u8 [0, 0, 89, 0] [.int .u8 0, .int .u8 0, .int .u8 89, .int .u8 0] rfl)).mono ?_
  rintro e w7 ⟨A7, c7, rfl, ib_, hb7⟩
  replace U := Lib.hid (U.out.later hb7)
  replace B1 := Lib.hid (B1.out.later hb7)
  replace B2 := Lib.hid (B2.out.later hb7)
  replace Ia := Lib.hid (Ia.out.later hb7)
  replace B4 := Lib.hid (B4.out.later hb7)
  clear hb7
  have Ib := Lib.hid ib_
  clear ib_
  replace U := Lib.hid (U.out.push (.cells #[.int .i64 (0), .int .i64 (0)] 23))
  replace B1 := Lib.hid (B1.out.push (.cells #[.int .i64 (0), .int .i64 (0)] 23))
  replace B2 := Lib.hid (B2.out.push (.cells #[.int .i64 (0), .int .i64 (0)] 23))
  replace Ia := Lib.hid (Ia.out.push (.cells #[.int .i64 (0), .int .i64 (0)] 23))
  replace B4 := Lib.hid (B4.out.push (.cells #[.int .i64 (0), .int .i64 (0)] 23))
  replace Ib := Lib.hid (Ib.out.push (.cells #[.int .i64 (0), .int .i64 (0)] 23))
  clear Ib
  have c_B10 := B1.out.at 0 _ rfl
  have c_B11 := B1.out.at 1 _ rfl
  have c_B20 := B2.out.at 0 _ rfl
  have c_B21 := B2.out.at 1 _ rfl
  have c_B40 := B4.out.at 0 _ rfl
  have c_B41 := B4.out.at 1 _ rfl
  go_wp2_with fail
  clear c_B10 c_B11 c_B20 c_B21 c_B40 c_B41
  replace U := Lib.hid (U.out.push (.cells #[.int .i16 9, .int .i16 0, .int .i16 18] 24))
  replace B1 := Lib.hid (B1.out.push (.cells #[.int .i16 9, .int .i16 0, .int .i16 18] 24))
  replace B2 := Lib.hid (B2.out.push (.cells #[.int .i16 9, .int .i16 0, .int .i16 18] 24))
  replace Ia := Lib.hid (Ia.out.push (.cells #[.int .i16 9, .int .i16 0, .int .i16 18] 24))
  replace B4 := Lib.hid (B4.out.push (.cells #[.int .i16 9, .int .i16 0, .int .i16 18] 24))
  refine (same28 _ _ [9, 0, 18] _ _ _ Ia.out (IntsAt.lit1 _ _ 24 .i16 [9, 0, 18] [.int .i16 9, .int .i16 0, .int .i16 18] rfl) (by decide)).mono ?_
  rintro e w8 ⟨rfl, hb8⟩
  replace U := Lib.hid (U.out.later hb8)
  replace B1 := Lib.hid (B1.out.later hb8)
  replace B2 := Lib.hid (B2.out.later hb8)
  replace Ia := Lib.hid (Ia.out.later hb8)
  replace B4 := Lib.hid (B4.out.later hb8)
  clear hb8
  have c_B10 := B1.out.at 0 _ rfl
  have c_B11 := B1.out.at 1 _ rfl
  have c_B20 := B2.out.at 0 _ rfl
  have c_B21 := B2.out.at 1 _ rfl
  have c_B40 := B4.out.at 0 _ rfl
  have c_B41 := B4.out.at 1 _ rfl
  go_wp2_with fail
  clear c_B10 c_B11 c_B20 c_B21 c_B40 c_B41
  refine (s0.out _).mono ?_
  rintro e w9 ⟨rfl, hb9⟩
  replace U := Lib.hid (U.out.later hb9)
  replace B1 := Lib.hid (B1.out.later hb9)
  replace B2 := Lib.hid (B2.out.later hb9)
  replace Ia := Lib.hid (Ia.out.later hb9)
  replace B4 := Lib.hid (B4.out.later hb9)
  clear hb9
  go_wp2_with fail
  refine (s1.out _).mono ?_
  rintro e w10 ⟨rfl, hb10⟩
  replace U := Lib.hid (U.out.later hb10)
  replace B1 := Lib.hid (B1.out.later hb10)
  replace B2 := Lib.hid (B2.out.later hb10)
  replace Ia := Lib.hid (Ia.out.later hb10)
  replace B4 := Lib.hid (B4.out.later hb10)
  clear hb10
  go_wp2_with fail
  refine (s9.out _).mono ?_
  rintro e w11 ⟨rfl, hb11⟩
  replace U := Lib.hid (U.out.later hb11)
  replace B1 := Lib.hid (B1.out.later hb11)
  replace B2 := Lib.hid (B2.out.later hb11)
  replace Ia := Lib.hid (Ia.out.later hb11)
  replace B4 := Lib.hid (B4.out.later hb11)
  clear hb11
  go_wp2_with fail
  refine (s10.out _).mono ?_
  rintro e w12 ⟨rfl, hb12⟩
  replace U := Lib.hid (U.out.later hb12)
  replace B1 := Lib.hid (B1.out.later hb12)
  replace B2 := Lib.hid (B2.out.later hb12)
  replace Ia := Lib.hid (Ia.out.later hb12)
  replace B4 := Lib.hid (B4.out.later hb12)
  clear hb12
  go_wp2_with fail
  refine (s89.out _).mono ?_
  rintro e w13 ⟨rfl, hb13⟩
  replace U := Lib.hid (U.out.later hb13)
  replace B1 := Lib.hid (B1.out.later hb13)
  replace B2 := Lib.hid (B2.out.later hb13)
  replace Ia := Lib.hid (Ia.out.later hb13)
  replace B4 := Lib.hid (B4.out.later hb13)
  clear hb13
  go_wp2_with fail
  refine (lives_any _).mono ?_
  rintro e w14 ⟨rfl, hb14⟩
  replace U := Lib.hid (U.out.later hb14)
  replace B1 := Lib.hid (B1.out.later hb14)
  replace B2 := Lib.hid (B2.out.later hb14)
  replace Ia := Lib.hid (Ia.out.later hb14)
  replace B4 := Lib.hid (B4.out.later hb14)
  clear hb14
  go_wp2_with fail
  go_ret
  exact ⟨rfl, U.out⟩
end Go.Proofs.Ytcnijhcoifodpaa.deltaKnown

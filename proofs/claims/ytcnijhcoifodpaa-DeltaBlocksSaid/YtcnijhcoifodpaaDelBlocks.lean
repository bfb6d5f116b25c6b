/- Layer 28, DeltaBlocks: for every state, samples, bytes and number the law returns true. -/
import Derived.Test.YtcnijhcoifodpaaDelCodes
namespace Go.Proofs.Ytcnijhcoifodpaa.deltaBlocks
open Go.RowKit
set_option linter.unusedVariables false
set_option maxHeartbeats 400000 in
theorem long (v i : Int) (A B : Option Addr) (k m c d : Nat) (n : Int) (w : World) (h : 9000 < (k : Int)) :
    Calls Try.prog 6 #[.agg #[.int .i64 v, .int .i64 i], .slice A k c, .slice B m d, .int .i64 n] w fun e w' => e = .returned (.bool true) ∧ Below w.heap.size w w' := by
  go_enter Try.func6, Try.ntmps6
  go_wp2_with fail
  refine (lives_any _).mono ?_
  rintro e w1 ⟨rfl, hb⟩
  go_wp2_with fail
  go_ret
  exact ⟨rfl, ((Bel.refl w).push _).later hb⟩
theorem unp_len (bs : List Int) (n : Int) : (Dlt.unpR bs n).1.length ≤ 8000 := by
  unfold Dlt.unpR
  by_cases hr : n < 0 ∨ 8000 < n
  · rw [if_pos hr]; simp
  · rw [if_neg hr]
    by_cases hs : bs.length < 4 + (n.toNat + 1) / 2
    · rw [if_pos hs]; simp
    · rw [if_neg hs]
      by_cases hk : Dlt.okB bs n.toNat
      · rw [if_pos hk]
        show (Dlt.unpackL bs n.toNat).length ≤ 8000
        rw [Dlt.unpackL_len]; omega
      · rw [if_neg hk]; simp
set_option maxHeartbeats 1600000 in
theorem short (v i : Int) (A B : Option Addr) (zs bs : List Int) (c d : Nat) (n : Int) (w : World) (hA : IntsAt w w.heap.size .i16 A zs) (hz : Within (-32768) 32767 zs) (hB : IntsAt w w.heap.size .u8 B bs) (hb : Within 0 255 bs) (hbd : bs.length ≤ d) (hbm : bs.length ≤ maxLen)
    (h : decide (9000 < (zs.length : Int)) = false) :
    Calls Try.prog 6 #[.agg #[.int .i64 v, .int .i64 i], .slice A zs.length c, .slice B bs.length d, .int .i64 n] w fun e w' => e = .returned (.bool true) ∧ Below w.heap.size w w' := by
  have k1 := Lib.hid fun W h => Pack_any v i W A zs c h hz
  have k2 := Lib.hid fun W h => rPack_any v i W A zs c h hz
  have k3 := Lib.hid fun W h => Unpack_any W B d bs n h hb hbd hbm
  have k4 := Lib.hid fun W h => rUnpack_any W B d bs n h hb hbd hbm
  have hl := unp_len bs n
  generalize Dlt.packR v i zs = E at k1 k2
  generalize Dlt.unpR bs n = D at k3 k4 hl
  obtain ⟨E1, E2, E3, E4⟩ := E
  obtain ⟨D1, D2, D3, D4⟩ := D
  have HL := Lib.hid hl
  clear hz hb hl hbd hbm
  go_enter Try.func6, Try.ntmps6
  have U := Lib.hid (Bel.refl w)
  have IA := Lib.hid (hA)
  have IB := Lib.hid (hB)
  clear hA hB
  go_wp2_with fail
  replace U := Lib.hid (U.out.push (.cells #[.int .i64 (v), .int .i64 (i)] 23))
  replace IA := Lib.hid (IA.out.push (.cells #[.int .i64 (v), .int .i64 (i)] 23))
  replace IB := Lib.hid (IB.out.push (.cells #[.int .i64 (v), .int .i64 (i)] 23))
  have B0 := Lib.hid (Blk.new w 23 #[.int .i64 (v), .int .i64 (i)])
  refine (k1.out _ IA.out).mono ?_
  rintro e w1 ⟨A1, c1, rfl, ia_, hb1⟩
  replace U := Lib.hid (U.out.later hb1)
  replace IA := Lib.hid (IA.out.later hb1)
  replace IB := Lib.hid (IB.out.later hb1)
  replace B0 := Lib.hid (B0.out.later hb1)
  clear hb1
  have Ia := Lib.hid ia_
  clear ia_
  replace U := Lib.hid (U.out.push (.cells #[.int .i64 (E2), .int .i64 (E3)] 23))
  replace IA := Lib.hid (IA.out.push (.cells #[.int .i64 (E2), .int .i64 (E3)] 23))
  replace IB := Lib.hid (IB.out.push (.cells #[.int .i64 (E2), .int .i64 (E3)] 23))
  replace B0 := Lib.hid (B0.out.push (.cells #[.int .i64 (E2), .int .i64 (E3)] 23))
  replace Ia := Lib.hid (Ia.out.push (.cells #[.int .i64 (E2), .int .i64 (E3)] 23))
  have B1 := Lib.hid (Blk.new w1 23 #[.int .i64 (E2), .int .i64 (E3)])
  have c_B00 := B0.out.at 0 _ rfl
  have c_B01 := B0.out.at 1 _ rfl
  go_wp2_with fail
  clear c_B00 c_B01
  refine (k2.out _ IA.out).mono ?_
  rintro e w2 ⟨A2, c2, rfl, ib_, hb2⟩
  replace U := Lib.hid (U.out.later hb2)
  replace IA := Lib.hid (IA.out.later hb2)
  replace IB := Lib.hid (IB.out.later hb2)
  replace B0 := Lib.hid (B0.out.later hb2)
  replace Ia := Lib.hid (Ia.out.later hb2)
  replace B1 := Lib.hid (B1.out.later hb2)
  clear hb2
  have Ib := Lib.hid ib_
  clear ib_
  replace U := Lib.hid (U.out.push (.cells #[.int .i64 (E2), .int .i64 (E3)] 23))
  replace IA := Lib.hid (IA.out.push (.cells #[.int .i64 (E2), .int .i64 (E3)] 23))
  replace IB := Lib.hid (IB.out.push (.cells #[.int .i64 (E2), .int .i64 (E3)] 23))
  replace B0 := Lib.hid (B0.out.push (.cells #[.int .i64 (E2), .int .i64 (E3)] 23))
  replace Ia := Lib.hid (Ia.out.push (.cells #[.int .i64 (E2), .int .i64 (E3)] 23))
  replace B1 := Lib.hid (B1.out.push (.cells #[.int .i64 (E2), .int .i64 (E3)] 23))
  replace Ib := Lib.hid (Ib.out.push (.cells #[.int .i64 (E2), .int .i64 (E3)] 23))
  have B2 := Lib.hid (Blk.new w2 23 #[.int .i64 (E2), .int .i64 (E3)])
  have c_B00 := B0.out.at 0 _ rfl
  have c_B01 := B0.out.at 1 _ rfl
  go_wp2_with fail
  clear c_B00 c_B01
  refine (k3.out _ IB.out).mono ?_
  rintro e w3 ⟨A3, c3, rfl, ic_, hb3⟩
  replace U := Lib.hid (U.out.later hb3)
  replace IA := Lib.hid (IA.out.later hb3)
  replace IB := Lib.hid (IB.out.later hb3)
  replace B0 := Lib.hid (B0.out.later hb3)
  replace Ia := Lib.hid (Ia.out.later hb3)
  replace B1 := Lib.hid (B1.out.later hb3)
  replace Ib := Lib.hid (Ib.out.later hb3)
  replace B2 := Lib.hid (B2.out.later hb3)
  clear hb3
  have Ic := Lib.hid ic_
  clear ic_
  replace U := Lib.hid (U.out.push (.cells #[.int .i64 (D2), .int .i64 (D3)] 23))
  replace IA := Lib.hid (IA.out.push (.cells #[.int .i64 (D2), .int .i64 (D3)] 23))
  replace IB := Lib.hid (IB.out.push (.cells #[.int .i64 (D2), .int .i64 (D3)] 23))
  replace B0 := Lib.hid (B0.out.push (.cells #[.int .i64 (D2), .int .i64 (D3)] 23))
  replace Ia := Lib.hid (Ia.out.push (.cells #[.int .i64 (D2), .int .i64 (D3)] 23))
  replace B1 := Lib.hid (B1.out.push (.cells #[.int .i64 (D2), .int .i64 (D3)] 23))
  replace Ib := Lib.hid (Ib.out.push (.cells #[.int .i64 (D2), .int .i64 (D3)] 23))
  replace B2 := Lib.hid (B2.out.push (.cells #[.int .i64 (D2), .int .i64 (D3)] 23))
  replace Ic := Lib.hid (Ic.out.push (.cells #[.int .i64 (D2), .int .i64 (D3)] 23))
  have B3 := Lib.hid (Blk.new w3 23 #[.int .i64 (D2), .int .i64 (D3)])
  go_wp2_with fail
  refine (k4.out _ IB.out).mono ?_
  rintro e w4 ⟨A4, c4, rfl, id_, hb4⟩
  replace U := Lib.hid (U.out.later hb4)
  replace IA := Lib.hid (IA.out.later hb4)
  replace IB := Lib.hid (IB.out.later hb4)
  replace B0 := Lib.hid (B0.out.later hb4)
  replace Ia := Lib.hid (Ia.out.later hb4)
  replace B1 := Lib.hid (B1.out.later hb4)
  replace Ib := Lib.hid (Ib.out.later hb4)
  replace B2 := Lib.hid (B2.out.later hb4)
  replace Ic := Lib.hid (Ic.out.later hb4)
  replace B3 := Lib.hid (B3.out.later hb4)
  clear hb4
  have Id := Lib.hid id_
  clear id_
  replace U := Lib.hid (U.out.push (.cells #[.int .i64 (D2), .int .i64 (D3)] 23))
  replace IA := Lib.hid (IA.out.push (.cells #[.int .i64 (D2), .int .i64 (D3)] 23))
  replace IB := Lib.hid (IB.out.push (.cells #[.int .i64 (D2), .int .i64 (D3)] 23))
  replace B0 := Lib.hid (B0.out.push (.cells #[.int .i64 (D2), .int .i64 (D3)] 23))
  replace Ia := Lib.hid (Ia.out.push (.cells #[.int .i64 (D2), .int .i64 (D3)] 23))
  replace B1 := Lib.hid (B1.out.push (.cells #[.int .i64 (D2), .int .i64 (D3)] 23))
  replace Ib := Lib.hid (Ib.out.push (.cells #[.int .i64 (D2), .int .i64 (D3)] 23))
  replace B2 := Lib.hid (B2.out.push (.cells #[.int .i64 (D2), .int .i64 (D3)] 23))
  replace Ic := Lib.hid (Ic.out.push (.cells #[.int .i64 (D2), .int .i64 (D3)] 23))
  replace B3 := Lib.hid (B3.out.push (.cells #[.int .i64 (D2), .int .i64 (D3)] 23))
  replace Id := Lib.hid (Id.out.push (.cells #[.int .i64 (D2), .int .i64 (D3)] 23))
  have B4 := Lib.hid (Blk.new w4 23 #[.int .i64 (D2), .int .i64 (D3)])
  clear B0 IA IB
  have c_B10 := B1.out.at 0 _ rfl
  have c_B11 := B1.out.at 1 _ rfl
  have c_B20 := B2.out.at 0 _ rfl
  have c_B21 := B2.out.at 1 _ rfl
  have c_B30 := B3.out.at 0 _ rfl
  have c_B31 := B3.out.at 1 _ rfl
  have c_B40 := B4.out.at 0 _ rfl
  have c_B41 := B4.out.at 1 _ rfl
  have hv1 := run_convert_ints Ia.out 37 9 5 Try.underlying37 Try.underlying5 Try.underlying9 _ c1 rfl
  have hv2 := run_convert_ints Ib.out 37 9 5 Try.underlying37 Try.underlying5 Try.underlying9 _ c2 rfl
  go_wp2_with fail
  clear c_B10 c_B11 c_B20 c_B21 c_B30 c_B31 c_B40 c_B41 hv1 hv2
  refine (same28 A3 A4 D1 c3 c4 _ Ic.out Id.out (by have := HL.out; omega)).mono ?_
  rintro e w5 ⟨rfl, hb5⟩
  replace U := Lib.hid (U.out.later hb5)
  replace Ia := Lib.hid (Ia.out.later hb5)
  replace B1 := Lib.hid (B1.out.later hb5)
  replace Ib := Lib.hid (Ib.out.later hb5)
  replace B2 := Lib.hid (B2.out.later hb5)
  replace Ic := Lib.hid (Ic.out.later hb5)
  replace B3 := Lib.hid (B3.out.later hb5)
  replace Id := Lib.hid (Id.out.later hb5)
  replace B4 := Lib.hid (B4.out.later hb5)
  clear hb5
  have c_B10 := B1.out.at 0 _ rfl
  have c_B11 := B1.out.at 1 _ rfl
  have c_B20 := B2.out.at 0 _ rfl
  have c_B21 := B2.out.at 1 _ rfl
  have c_B30 := B3.out.at 0 _ rfl
  have c_B31 := B3.out.at 1 _ rfl
  have c_B40 := B4.out.at 0 _ rfl
  have c_B41 := B4.out.at 1 _ rfl
  go_wp2_with fail
  clear c_B10 c_B11 c_B20 c_B21 c_B30 c_B31 c_B40 c_B41
  refine (lives_any _).mono ?_
  rintro e w6 ⟨rfl, hb6⟩
  replace U := Lib.hid (U.out.later hb6)
  replace Ia := Lib.hid (Ia.out.later hb6)
  replace B1 := Lib.hid (B1.out.later hb6)
  replace Ib := Lib.hid (Ib.out.later hb6)
  replace B2 := Lib.hid (B2.out.later hb6)
  replace Ic := Lib.hid (Ic.out.later hb6)
  replace B3 := Lib.hid (B3.out.later hb6)
  replace Id := Lib.hid (Id.out.later hb6)
  replace B4 := Lib.hid (B4.out.later hb6)
  clear hb6
  have c_B10 := B1.out.at 0 _ rfl
  have c_B11 := B1.out.at 1 _ rfl
  have c_B20 := B2.out.at 0 _ rfl
  have c_B21 := B2.out.at 1 _ rfl
  have c_B30 := B3.out.at 0 _ rfl
  have c_B31 := B3.out.at 1 _ rfl
  have c_B40 := B4.out.at 0 _ rfl
  have c_B41 := B4.out.at 1 _ rfl
  go_wp2_with fail
  clear c_B10 c_B11 c_B20 c_B21 c_B30 c_B31 c_B40 c_B41
  go_ret
  exact ⟨rfl, U.out⟩
theorem walk (w : World) (v i : Int) (A : Option Addr) (zs : List Int) (c : Nat) (hl1 : zs.length ≤ c) (hm1 : c ≤ maxLen) (hA : IntsAt w w.heap.size .i16 A zs) (w1 : ∀ z ∈ zs, (Lit.int .i16 z).wf = true)
    (B : Option Addr) (bs : List Int) (d : Nat) (hl2 : bs.length ≤ d) (hm2 : d ≤ maxLen) (hB : IntsAt w w.heap.size .u8 B bs) (w2 : ∀ z ∈ bs, (Lit.int .u8 z).wf = true) (n : Int) (w3 : (Lit.int .i64 n).wf = true) :
    Calls Try.prog 6 #[.agg #[.int .i64 v, .int .i64 i], .slice A zs.length c, .slice B bs.length d, .int .i64 n] w fun e w' => e = .returned (.bool true) ∧ Below w.heap.size w w' := by
  by_cases h1 : 9000 < (zs.length : Int)
  · exact long v i A B _ _ c d n w h1
  · exact short v i A B zs bs c d n w hA (within_i16 w1) hB (within_u8 w2) hl2 (by omega) (by simpa using h1)
end Go.Proofs.Ytcnijhcoifodpaa.deltaBlocks

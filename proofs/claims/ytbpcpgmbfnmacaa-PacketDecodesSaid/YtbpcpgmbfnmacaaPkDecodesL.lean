/- Layer 25, PacketDecodes: for every bytes the law returns true. -/
import Derived.Test.YtbpcpgmbfnmacaaPkLives
import Derived.Test.YtbpcpgmbfnmacaaPkTypes
namespace Go.Proofs.Ytbpcpgmbfnmacaa.packetDecodes
open Go.RowKit
set_option linter.unusedVariables false
set_option linter.unusedSimpArgs false
attribute [local go_sem ↓] run_min_plain run_max_plain
attribute [local go_sem] setCell_drewN alloc_drewN
theorem dec_mx (bs : List Int) : (Pk.dec bs).1.mx.length ≤ 100000 := by
  have hf : ∀ n, (Pk.fin bs n).1.mx.length ≤ 100000 := fun n => by
    unfold Pk.fin
    split
    · simp [Pk.Pkt.zero]
    · simp only [Pk.pkt, List.length_map, List.length_range, Pk.many]
      omega
  unfold Pk.dec
  split
  · simp [Pk.Pkt.zero]
  split
  · unfold Pk.decP
    split
    · simp [Pk.Pkt.zero]
    · exact hf _
  · exact hf _
set_option maxRecDepth 100000 in
set_option maxHeartbeats 6400000 in
theorem walk (w : World) (A : Option Addr) (bs : List Int) (cap : Nat) (hl : bs.length ≤ cap) (hm : cap ≤ maxLen) (hA : IntsAt w w.heap.size .u8 A bs) (hw : ∀ z ∈ bs, (Lit.int .u8 z).wf = true) :
    Calls Try.prog 4 #[.slice A bs.length cap] w fun e w' => e = .returned (.bool true) ∧ Below w.heap.size w w' := by
  have hz : Within 0 255 bs := fun z hz => wf_u8 (hw z hz)
  unfold maxLen at hm
  by_cases h5 : 6000 < bs.length
  · have h5' : (6000 : Int) < (bs.length : Int) := by omega
    clear hA hz hw
    go_enter Try.func4, Try.ntmps4
    go_wp2_with fail
    refine (lives25 _).mono ?_
    rintro e w1 ⟨rfl, hb1⟩
    go_wp2_with fail
    go_ret
    exact ⟨rfl, hb1⟩
  have h5' : (bs.length : Int) ≤ 6000 := by omega
  have k1 := fun W h => Decode_any A bs cap W h hz (by omega) hl
  have k2 := fun W h => rDecode_any A bs cap W h hz (by omega) hl
  have hmx := dec_mx bs
  generalize Pk.dec bs = D at *
  obtain ⟨⟨mk, ty, sq, ti, so, mx, ex, ek, et, pl, pad⟩, n, er⟩ := D
  simp only at hmx
  have K1 := Lib.hid k1
  have K2 := Lib.hid k2
  have I := Lib.hid hA
  clear k1 k2 hA hz hw
  go_enter Try.func4, Try.ntmps4
  have U := Lib.hid (Bel.refl w)
  go_wp2_with fail
  refine (K1.out _ I.out).mono ?_
  rintro e w1 ⟨M1, c1, E1, d1, P1, f1, rfl, ⟨jm1_, _⟩, ⟨je1_, _⟩, ⟨jp1_, _⟩, hb1⟩
  replace U := Lib.hid (U.out.later hb1)
  replace I := Lib.hid (I.out.later hb1)
  clear hb1
  have JM1 := Lib.hid jm1_
  clear jm1_
  have JE1 := Lib.hid je1_
  clear je1_
  have JP1 := Lib.hid jp1_
  clear jp1_
  simp only at JM1 JE1 JP1
  simp only [Pk.Pkt.row]
  replace U := Lib.hid (U.out.push (.cells #[.bool mk, .int .u8 ty, .int .u16 sq, .int .u32 ti, .int .u32 so, .slice M1 mx.length c1, .bool ex, .int .u16 ek, .slice E1 et.length d1, .slice P1 pl.length f1, .int .i64 pad] 27))
  replace I := Lib.hid (I.out.push (.cells #[.bool mk, .int .u8 ty, .int .u16 sq, .int .u32 ti, .int .u32 so, .slice M1 mx.length c1, .bool ex, .int .u16 ek, .slice E1 et.length d1, .slice P1 pl.length f1, .int .i64 pad] 27))
  replace JM1 := Lib.hid (JM1.out.push (.cells #[.bool mk, .int .u8 ty, .int .u16 sq, .int .u32 ti, .int .u32 so, .slice M1 mx.length c1, .bool ex, .int .u16 ek, .slice E1 et.length d1, .slice P1 pl.length f1, .int .i64 pad] 27))
  replace JE1 := Lib.hid (JE1.out.push (.cells #[.bool mk, .int .u8 ty, .int .u16 sq, .int .u32 ti, .int .u32 so, .slice M1 mx.length c1, .bool ex, .int .u16 ek, .slice E1 et.length d1, .slice P1 pl.length f1, .int .i64 pad] 27))
  replace JP1 := Lib.hid (JP1.out.push (.cells #[.bool mk, .int .u8 ty, .int .u16 sq, .int .u32 ti, .int .u32 so, .slice M1 mx.length c1, .bool ex, .int .u16 ek, .slice E1 et.length d1, .slice P1 pl.length f1, .int .i64 pad] 27))
  have X1 := Lib.hid (Blk.new w1 27 #[.bool mk, .int .u8 ty, .int .u16 sq, .int .u32 ti, .int .u32 so, .slice M1 mx.length c1, .bool ex, .int .u16 ek, .slice E1 et.length d1, .slice P1 pl.length f1, .int .i64 pad])
  go_wp2_with fail
  refine (K2.out _ I.out).mono ?_
  rintro e w2 ⟨M2, c2, E2, d2, P2, f2, rfl, ⟨jm2_, _⟩, ⟨je2_, _⟩, ⟨jp2_, _⟩, hb2⟩
  replace U := Lib.hid (U.out.later hb2)
  replace I := Lib.hid (I.out.later hb2)
  replace JM1 := Lib.hid (JM1.out.later hb2)
  replace JE1 := Lib.hid (JE1.out.later hb2)
  replace JP1 := Lib.hid (JP1.out.later hb2)
  replace X1 := Lib.hid (X1.out.later hb2)
  clear hb2
  have JM2 := Lib.hid jm2_
  clear jm2_
  have JE2 := Lib.hid je2_
  clear je2_
  have JP2 := Lib.hid jp2_
  clear jp2_
  simp only at JM2 JE2 JP2
  simp only [Pk.Pkt.row]
  replace U := Lib.hid (U.out.push (.cells #[.bool mk, .int .u8 ty, .int .u16 sq, .int .u32 ti, .int .u32 so, .slice M2 mx.length c2, .bool ex, .int .u16 ek, .slice E2 et.length d2, .slice P2 pl.length f2, .int .i64 pad] 27))
  replace I := Lib.hid (I.out.push (.cells #[.bool mk, .int .u8 ty, .int .u16 sq, .int .u32 ti, .int .u32 so, .slice M2 mx.length c2, .bool ex, .int .u16 ek, .slice E2 et.length d2, .slice P2 pl.length f2, .int .i64 pad] 27))
  replace JM1 := Lib.hid (JM1.out.push (.cells #[.bool mk, .int .u8 ty, .int .u16 sq, .int .u32 ti, .int .u32 so, .slice M2 mx.length c2, .bool ex, .int .u16 ek, .slice E2 et.length d2, .slice P2 pl.length f2, .int .i64 pad] 27))
  replace JE1 := Lib.hid (JE1.out.push (.cells #[.bool mk, .int .u8 ty, .int .u16 sq, .int .u32 ti, .int .u32 so, .slice M2 mx.length c2, .bool ex, .int .u16 ek, .slice E2 et.length d2, .slice P2 pl.length f2, .int .i64 pad] 27))
  replace JP1 := Lib.hid (JP1.out.push (.cells #[.bool mk, .int .u8 ty, .int .u16 sq, .int .u32 ti, .int .u32 so, .slice M2 mx.length c2, .bool ex, .int .u16 ek, .slice E2 et.length d2, .slice P2 pl.length f2, .int .i64 pad] 27))
  replace X1 := Lib.hid (X1.out.push (.cells #[.bool mk, .int .u8 ty, .int .u16 sq, .int .u32 ti, .int .u32 so, .slice M2 mx.length c2, .bool ex, .int .u16 ek, .slice E2 et.length d2, .slice P2 pl.length f2, .int .i64 pad] 27))
  replace JM2 := Lib.hid (JM2.out.push (.cells #[.bool mk, .int .u8 ty, .int .u16 sq, .int .u32 ti, .int .u32 so, .slice M2 mx.length c2, .bool ex, .int .u16 ek, .slice E2 et.length d2, .slice P2 pl.length f2, .int .i64 pad] 27))
  replace JE2 := Lib.hid (JE2.out.push (.cells #[.bool mk, .int .u8 ty, .int .u16 sq, .int .u32 ti, .int .u32 so, .slice M2 mx.length c2, .bool ex, .int .u16 ek, .slice E2 et.length d2, .slice P2 pl.length f2, .int .i64 pad] 27))
  replace JP2 := Lib.hid (JP2.out.push (.cells #[.bool mk, .int .u8 ty, .int .u16 sq, .int .u32 ti, .int .u32 so, .slice M2 mx.length c2, .bool ex, .int .u16 ek, .slice E2 et.length d2, .slice P2 pl.length f2, .int .i64 pad] 27))
  have X2 := Lib.hid (Blk.new w2 27 #[.bool mk, .int .u8 ty, .int .u16 sq, .int .u32 ti, .int .u32 so, .slice M2 mx.length c2, .bool ex, .int .u16 ek, .slice E2 et.length d2, .slice P2 pl.length f2, .int .i64 pad])
  have c_X10 := X1.out.at 0 _ rfl
  have c_X11 := X1.out.at 1 _ rfl
  have c_X12 := X1.out.at 2 _ rfl
  have c_X13 := X1.out.at 3 _ rfl
  have c_X14 := X1.out.at 4 _ rfl
  have c_X15 := X1.out.at 5 _ rfl
  have c_X16 := X1.out.at 6 _ rfl
  have c_X17 := X1.out.at 7 _ rfl
  have c_X18 := X1.out.at 8 _ rfl
  have c_X19 := X1.out.at 9 _ rfl
  have c_X110 := X1.out.at 10 _ rfl
  have c_X20 := X2.out.at 0 _ rfl
  have c_X21 := X2.out.at 1 _ rfl
  have c_X22 := X2.out.at 2 _ rfl
  have c_X23 := X2.out.at 3 _ rfl
  have c_X24 := X2.out.at 4 _ rfl
  have c_X25 := X2.out.at 5 _ rfl
  have c_X26 := X2.out.at 6 _ rfl
  have c_X27 := X2.out.at 7 _ rfl
  have c_X28 := X2.out.at 8 _ rfl
  have c_X29 := X2.out.at 9 _ rfl
  have c_X210 := X2.out.at 10 _ rfl
  go_wp2_with fail
  clear c_X10 c_X11 c_X12 c_X13 c_X14 c_X15 c_X16 c_X17 c_X18 c_X19 c_X110 c_X20 c_X21 c_X22 c_X23 c_X24 c_X25 c_X26 c_X27 c_X28 c_X29 c_X210
  refine (rSame_any mk ty sq ti so mx ex ek et pl pad M1 M2 E1 E2 P1 P2 c1 c2 d1 d2 f1 f2 _ JM1.out JM2.out JE1.out JE2.out JP1.out JP2.out hmx).mono ?_
  rintro e w3 ⟨rfl, hb3⟩
  replace U := Lib.hid (U.out.later hb3)
  replace I := Lib.hid (I.out.later hb3)
  replace JM1 := Lib.hid (JM1.out.later hb3)
  replace JE1 := Lib.hid (JE1.out.later hb3)
  replace JP1 := Lib.hid (JP1.out.later hb3)
  replace X1 := Lib.hid (X1.out.later hb3)
  replace JM2 := Lib.hid (JM2.out.later hb3)
  replace JE2 := Lib.hid (JE2.out.later hb3)
  replace JP2 := Lib.hid (JP2.out.later hb3)
  replace X2 := Lib.hid (X2.out.later hb3)
  clear hb3
  go_wp2_with fail
  refine (lives25 _).mono ?_
  rintro e w4 ⟨rfl, hb4⟩
  replace U := Lib.hid (U.out.later hb4)
  replace I := Lib.hid (I.out.later hb4)
  replace JM1 := Lib.hid (JM1.out.later hb4)
  replace JE1 := Lib.hid (JE1.out.later hb4)
  replace JP1 := Lib.hid (JP1.out.later hb4)
  replace X1 := Lib.hid (X1.out.later hb4)
  replace JM2 := Lib.hid (JM2.out.later hb4)
  replace JE2 := Lib.hid (JE2.out.later hb4)
  replace JP2 := Lib.hid (JP2.out.later hb4)
  replace X2 := Lib.hid (X2.out.later hb4)
  clear hb4
  go_wp2_with fail
  go_ret
  exact ⟨by simp, U.out⟩
end Go.Proofs.Ytbpcpgmbfnmacaa.packetDecodes

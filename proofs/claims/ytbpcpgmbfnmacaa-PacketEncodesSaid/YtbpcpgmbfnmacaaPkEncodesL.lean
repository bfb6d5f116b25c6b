/- Layer 25, PacketEncodes: for every packet the law returns true. -/
import Derived.Test.YtbpcpgmbfnmacaaPkLives
import Derived.Test.YtbpcpgmbfnmacaaPkTypes
namespace Go.Proofs.Ytbpcpgmbfnmacaa.packetEncodes
open Go.RowKit
set_option linter.unusedVariables false
set_option linter.unusedSimpArgs false
attribute [local go_sem ↓] run_min_plain run_max_plain
attribute [local go_sem] setCell_drewN alloc_drewN
set_option maxRecDepth 100000 in
set_option maxHeartbeats 6400000 in
theorem walk (w : World) (mk : Bool) (ty sq ti so : Int) (Am : Option Addr) (mx : List Int) (cm : Nat) (ex : Bool) (ek : Int) (Ae : Option Addr) (et : List Int) (ce : Nat) (Ap : Option Addr) (pl : List Int) (cp : Nat) (pad : Int) (hok : TPk.ok w ⟨mk, ty, sq, ti, so, Am, mx, cm, ex, ek, Ae, et, ce, Ap, pl, cp, pad⟩) :
    Calls Try.prog 3 #[.agg #[.bool mk, .int .u8 ty, .int .u16 sq, .int .u32 ti, .int .u32 so, .slice Am mx.length cm, .bool ex, .int .u16 ek, .slice Ae et.length ce, .slice Ap pl.length cp, .int .i64 pad]] w fun e w' => e = .returned (.bool true) ∧ Below w.heap.size w w' := by
  obtain ⟨⟨ty0, ty1⟩, ⟨sq0, sq1⟩, ⟨ti0, ti1⟩, ⟨so0, so1⟩, ⟨ek0, ek1⟩, ⟨pd0, pd1⟩, ⟨hM, hMz, hMl⟩, ⟨hE, hEz, hEl⟩, ⟨hP, hPz, hPl⟩⟩ := TPk.facts mk ty sq ti so Am mx cm ex ek Ae et ce Ap pl cp pad hok
  unfold maxLen at hMl hEl hPl
  clear hok
  by_cases hlong : 100 < mx.length ∨ 3000 < et.length ∨ 3000 < pl.length
  · clear hM hE hP hMz hEz hPz
    have hcs : 100 < (mx.length : Int) ∨ (mx.length : Int) ≤ 100 ∧ 3000 < (et.length : Int) ∨ (mx.length : Int) ≤ 100 ∧ (et.length : Int) ≤ 3000 ∧ 3000 < (pl.length : Int) := by omega
    clear hlong
    rcases hcs with h1 | ⟨h1, h2⟩ | ⟨h1, h2, h3⟩
    all_goals
      go_enter Try.func3, Try.ntmps3
      go_wp2_with fail
      refine (lives25 _).mono ?_
      rintro e w1 ⟨rfl, hb⟩
      go_wp2_with fail
      go_ret
      exact ⟨rfl, (((Below.refl _ _).alloc (Nat.le_refl _) _).trans (hb.mono (by simp)))⟩
  have l1 : (mx.length : Int) ≤ 100 := by omega
  have l2 : (et.length : Int) ≤ 3000 := by omega
  have l3 : (pl.length : Int) ≤ 3000 := by omega
  have k1 := fun W h1 h2 h3 => Encode_any mk ty sq ti so Am mx cm ek Ae et ce Ap pl cp pad W ex ty0 sq0 sq1 ti0 ti1 so0 so1 ek0 ek1 (by omega) (by omega) (by omega) hMz h1 h2 h3
  have k2 := fun W h1 h2 h3 => rEncode_any mk ty sq ti so Am mx cm ek Ae et ce Ap pl cp pad W ex ty0 sq0 sq1 ti0 ti1 so0 so1 ek0 ek1 (by omega) (by omega) (by omega) hMz h1 h2 h3
  generalize Pk.enc ⟨mk, ty, sq, ti, so, mx, ex, ek, et, pl, pad⟩ = R at *
  obtain ⟨bs, er⟩ := R
  have K1 := Lib.hid k1
  have K2 := Lib.hid k2
  have IM := Lib.hid hM
  have IE := Lib.hid hE
  have IP := Lib.hid hP
  clear k1 k2 hM hE hP hMz hEz hPz
  go_enter Try.func3, Try.ntmps3
  have U := Lib.hid (Bel.refl w)
  replace U := Lib.hid (U.out.push (.cells #[.bool mk, .int .u8 ty, .int .u16 sq, .int .u32 ti, .int .u32 so, .slice Am mx.length cm, .bool ex, .int .u16 ek, .slice Ae et.length ce, .slice Ap pl.length cp, .int .i64 pad] 27))
  replace IM := Lib.hid (IM.out.push (.cells #[.bool mk, .int .u8 ty, .int .u16 sq, .int .u32 ti, .int .u32 so, .slice Am mx.length cm, .bool ex, .int .u16 ek, .slice Ae et.length ce, .slice Ap pl.length cp, .int .i64 pad] 27))
  replace IE := Lib.hid (IE.out.push (.cells #[.bool mk, .int .u8 ty, .int .u16 sq, .int .u32 ti, .int .u32 so, .slice Am mx.length cm, .bool ex, .int .u16 ek, .slice Ae et.length ce, .slice Ap pl.length cp, .int .i64 pad] 27))
  replace IP := Lib.hid (IP.out.push (.cells #[.bool mk, .int .u8 ty, .int .u16 sq, .int .u32 ti, .int .u32 so, .slice Am mx.length cm, .bool ex, .int .u16 ek, .slice Ae et.length ce, .slice Ap pl.length cp, .int .i64 pad] 27))
  have X := Lib.hid (Blk.new w 27 #[.bool mk, .int .u8 ty, .int .u16 sq, .int .u32 ti, .int .u32 so, .slice Am mx.length cm, .bool ex, .int .u16 ek, .slice Ae et.length ce, .slice Ap pl.length cp, .int .i64 pad])
  have c_X0 := X.out.at 0 _ rfl
  have c_X1 := X.out.at 1 _ rfl
  have c_X2 := X.out.at 2 _ rfl
  have c_X3 := X.out.at 3 _ rfl
  have c_X4 := X.out.at 4 _ rfl
  have c_X5 := X.out.at 5 _ rfl
  have c_X6 := X.out.at 6 _ rfl
  have c_X7 := X.out.at 7 _ rfl
  have c_X8 := X.out.at 8 _ rfl
  have c_X9 := X.out.at 9 _ rfl
  have c_X10 := X.out.at 10 _ rfl
  go_wp2_with fail
  clear c_X0 c_X1 c_X2 c_X3 c_X4 c_X5 c_X6 c_X7 c_X8 c_X9 c_X10
  refine (K1.out _ IM.out IE.out IP.out).mono ?_
  rintro e w1 ⟨A1, c1, rfl, ⟨n1_, _⟩, hb1⟩
  replace U := Lib.hid (U.out.later hb1)
  replace IM := Lib.hid (IM.out.later hb1)
  replace IE := Lib.hid (IE.out.later hb1)
  replace IP := Lib.hid (IP.out.later hb1)
  replace X := Lib.hid (X.out.later hb1)
  clear hb1
  have N1 := Lib.hid n1_
  clear n1_
  simp only at N1
  have c_X0 := X.out.at 0 _ rfl
  have c_X1 := X.out.at 1 _ rfl
  have c_X2 := X.out.at 2 _ rfl
  have c_X3 := X.out.at 3 _ rfl
  have c_X4 := X.out.at 4 _ rfl
  have c_X5 := X.out.at 5 _ rfl
  have c_X6 := X.out.at 6 _ rfl
  have c_X7 := X.out.at 7 _ rfl
  have c_X8 := X.out.at 8 _ rfl
  have c_X9 := X.out.at 9 _ rfl
  have c_X10 := X.out.at 10 _ rfl
  go_wp2_with fail
  clear c_X0 c_X1 c_X2 c_X3 c_X4 c_X5 c_X6 c_X7 c_X8 c_X9 c_X10
  refine (K2.out _ IM.out IE.out IP.out).mono ?_
  rintro e w2 ⟨A2, c2, rfl, ⟨n2_, _⟩, hb2⟩
  replace U := Lib.hid (U.out.later hb2)
  replace IM := Lib.hid (IM.out.later hb2)
  replace IE := Lib.hid (IE.out.later hb2)
  replace IP := Lib.hid (IP.out.later hb2)
  replace X := Lib.hid (X.out.later hb2)
  replace N1 := Lib.hid (N1.out.later hb2)
  clear hb2
  have N2 := Lib.hid n2_
  clear n2_
  simp only at N2
  have hv1 := run_convert_ints N1.out 25 9 5 Try.underlying25 Try.underlying5 Try.underlying9 bs.length c1 rfl
  have hv2 := run_convert_ints N2.out 25 9 5 Try.underlying25 Try.underlying5 Try.underlying9 bs.length c2 rfl
  go_wp2_with fail
  clear hv1 hv2
  refine (lives25 _).mono ?_
  rintro e w3 ⟨rfl, hb3⟩
  replace U := Lib.hid (U.out.later hb3)
  replace IM := Lib.hid (IM.out.later hb3)
  replace IE := Lib.hid (IE.out.later hb3)
  replace IP := Lib.hid (IP.out.later hb3)
  replace X := Lib.hid (X.out.later hb3)
  replace N1 := Lib.hid (N1.out.later hb3)
  replace N2 := Lib.hid (N2.out.later hb3)
  clear hb3
  go_wp2_with fail
  go_ret
  exact ⟨by simp, U.out⟩
end Go.Proofs.Ytbpcpgmbfnmacaa.packetEncodes

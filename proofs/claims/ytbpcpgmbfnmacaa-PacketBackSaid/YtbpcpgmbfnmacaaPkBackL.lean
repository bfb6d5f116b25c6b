/- Layer 25, PacketBack: for every packet and bytes the law returns true. -/
import Derived.Test.YtbpcpgmbfnmacaaPkLives
import Derived.Test.YtbpcpgmbfnmacaaPkTypes
import Derived.Test.YtbpcpgmbfnmacaaPkBackP
namespace Go.Proofs.Ytbpcpgmbfnmacaa.packetBack
open Go.RowKit
set_option linter.unusedVariables false
set_option linter.unusedSimpArgs false
attribute [local go_sem ↓] run_min_plain run_max_plain
attribute [local go_sem] setCell_drewN alloc_drewN
set_option maxRecDepth 100000 in
set_option maxHeartbeats 6400000 in
theorem part_00 (w : World) (mk : Bool) (ty sq ti so : Int) (Am : Option Addr) (mx : List Int) (cm : Nat) (ex : Bool) (ek : Int) (Ae : Option Addr) (et : List Int) (ce : Nat) (Ap : Option Addr) (pl : List Int) (cp : Nat) (pad : Int) (A : Option Addr) (bs : List Int) (cap : Nat) (hM : IntsAt w w.heap.size .u32 Am mx) (hE : IntsAt w w.heap.size .u8 Ae et) (hP : IntsAt w w.heap.size .u8 Ap pl) (hA : IntsAt w w.heap.size .u8 A bs) (hl : bs.length ≤ cap) (l1 : (mx.length : Int) ≤ 100) (l2 : (et.length : Int) ≤ 3000) (l3 : (pl.length : Int) ≤ 3000) (l4 : (bs.length : Int) ≤ 6000) (er1 : Int) (he1 : (er1 == 0) = false) (K1 : Hid (∀ W, IntsAt W W.heap.size .u32 Am mx → IntsAt W W.heap.size .u8 Ae et → IntsAt W W.heap.size .u8 Ap pl → Calls Try.prog 13 #[.agg #[.bool mk, .int .u8 ty, .int .u16 sq, .int .u32 ti, .int .u32 so, .slice Am mx.length cm, .bool ex, .int .u16 ek, .slice Ae et.length ce, .slice Ap pl.length cp, .int .i64 pad]] W (EncRC ([], er1) W))) (at2 er2 : Int) (he2 : (er2 != 0) = true) (at0 : 0 ≤ at2) (at1 : at2 ≤ bs.length) (K2 : Hid (∀ W, IntsAt W W.heap.size .u8 A bs → Calls Try.prog 15 #[.slice A bs.length cap] W (PDecR (Pk.Pkt.zero, at2, er2) W))) :
    Calls Try.prog 5 #[.agg #[.bool mk, .int .u8 ty, .int .u16 sq, .int .u32 ti, .int .u32 so, .slice Am mx.length cm, .bool ex, .int .u16 ek, .slice Ae et.length ce, .slice Ap pl.length cp, .int .i64 pad], .slice A bs.length cap] w fun e w' => e = .returned (.bool true) ∧ Below w.heap.size w w' := by
  have IM := Lib.hid hM
  have IE := Lib.hid hE
  have IP := Lib.hid hP
  have IA := Lib.hid hA
  clear hM hE hP hA
  go_enter Try.func5, Try.ntmps5
  have U := Lib.hid (Bel.refl w)
  replace U := Lib.hid (U.out.push (.cells #[.bool mk, .int .u8 ty, .int .u16 sq, .int .u32 ti, .int .u32 so, .slice Am mx.length cm, .bool ex, .int .u16 ek, .slice Ae et.length ce, .slice Ap pl.length cp, .int .i64 pad] 27))
  replace IM := Lib.hid (IM.out.push (.cells #[.bool mk, .int .u8 ty, .int .u16 sq, .int .u32 ti, .int .u32 so, .slice Am mx.length cm, .bool ex, .int .u16 ek, .slice Ae et.length ce, .slice Ap pl.length cp, .int .i64 pad] 27))
  replace IE := Lib.hid (IE.out.push (.cells #[.bool mk, .int .u8 ty, .int .u16 sq, .int .u32 ti, .int .u32 so, .slice Am mx.length cm, .bool ex, .int .u16 ek, .slice Ae et.length ce, .slice Ap pl.length cp, .int .i64 pad] 27))
  replace IP := Lib.hid (IP.out.push (.cells #[.bool mk, .int .u8 ty, .int .u16 sq, .int .u32 ti, .int .u32 so, .slice Am mx.length cm, .bool ex, .int .u16 ek, .slice Ae et.length ce, .slice Ap pl.length cp, .int .i64 pad] 27))
  replace IA := Lib.hid (IA.out.push (.cells #[.bool mk, .int .u8 ty, .int .u16 sq, .int .u32 ti, .int .u32 so, .slice Am mx.length cm, .bool ex, .int .u16 ek, .slice Ae et.length ce, .slice Ap pl.length cp, .int .i64 pad] 27))
  have X := Lib.hid (Blk.new w 27 #[.bool mk, .int .u8 ty, .int .u16 sq, .int .u32 ti, .int .u32 so, .slice Am mx.length cm, .bool ex, .int .u16 ek, .slice Ae et.length ce, .slice Ap pl.length cp, .int .i64 pad])
  have c_X0 := X.out.at 0 _ rfl
  have c_X1 := X.out.at 1 _ rfl
  have c_X2 := X.out.at 2 _ rfl
  have c_X3 := X.out.at 3 _ rfl
  have c_X4 := X.out.at 4 _ rfl
  have c_X5 := X.out.at 5 _ rfl
  have c_X6 := X.out.at 6 _ rfl
  have c_X7 := X.out.at 7 _ rfl
  have c_X8 := X.out.at 8 _ rfl
  have c_X9 := X.out.at 9 _ rfl
  have c_X10 := X.out.at 10 _ rfl
  go_wp2_with fail
  clear c_X0 c_X1 c_X2 c_X3 c_X4 c_X5 c_X6 c_X7 c_X8 c_X9 c_X10
  refine (K1.out _ IM.out IE.out IP.out).mono ?_
  rintro e w1 ⟨A1, c1, rfl, hcap, ⟨ja_, _⟩, hb1⟩
  replace U := Lib.hid (U.out.later hb1)
  replace IM := Lib.hid (IM.out.later hb1)
  replace IE := Lib.hid (IE.out.later hb1)
  replace IP := Lib.hid (IP.out.later hb1)
  replace IA := Lib.hid (IA.out.later hb1)
  replace X := Lib.hid (X.out.later hb1)
  clear hb1
  have Ja := Lib.hid ja_
  clear ja_
  simp only at Ja hcap
  have c_X0 := X.out.at 0 _ rfl
  have c_X1 := X.out.at 1 _ rfl
  have c_X2 := X.out.at 2 _ rfl
  have c_X3 := X.out.at 3 _ rfl
  have c_X4 := X.out.at 4 _ rfl
  have c_X5 := X.out.at 5 _ rfl
  have c_X6 := X.out.at 6 _ rfl
  have c_X7 := X.out.at 7 _ rfl
  have c_X8 := X.out.at 8 _ rfl
  have c_X9 := X.out.at 9 _ rfl
  have c_X10 := X.out.at 10 _ rfl
  go_wp2_with fail
  clear c_X0 c_X1 c_X2 c_X3 c_X4 c_X5 c_X6 c_X7 c_X8 c_X9 c_X10
  refine (K2.out _ IA.out).mono ?_
  rintro e w2 ⟨M2, h1, E2, h2, P2, h3, rfl, ⟨jm2_, _⟩, ⟨je2_, _⟩, ⟨jp2_, _⟩, hb2⟩
  replace U := Lib.hid (U.out.later hb2)
  replace IM := Lib.hid (IM.out.later hb2)
  replace IE := Lib.hid (IE.out.later hb2)
  replace IP := Lib.hid (IP.out.later hb2)
  replace IA := Lib.hid (IA.out.later hb2)
  replace X := Lib.hid (X.out.later hb2)
  replace Ja := Lib.hid (Ja.out.later hb2)
  clear hb2
  have JM2 := Lib.hid jm2_
  clear jm2_
  have JE2 := Lib.hid je2_
  clear je2_
  have JP2 := Lib.hid jp2_
  clear jp2_
  simp only at JM2 JE2 JP2
  simp only [Pk.Pkt.row, Pk.Pkt.zero, List.length_nil]
  replace U := Lib.hid (U.out.push (.cells #[.bool false, .int .u8 0, .int .u16 0, .int .u32 0, .int .u32 0, .slice M2 0 h1, .bool false, .int .u16 0, .slice E2 0 h2, .slice P2 0 h3, .int .i64 0] 27))
  replace IM := Lib.hid (IM.out.push (.cells #[.bool false, .int .u8 0, .int .u16 0, .int .u32 0, .int .u32 0, .slice M2 0 h1, .bool false, .int .u16 0, .slice E2 0 h2, .slice P2 0 h3, .int .i64 0] 27))
  replace IE := Lib.hid (IE.out.push (.cells #[.bool false, .int .u8 0, .int .u16 0, .int .u32 0, .int .u32 0, .slice M2 0 h1, .bool false, .int .u16 0, .slice E2 0 h2, .slice P2 0 h3, .int .i64 0] 27))
  replace IP := Lib.hid (IP.out.push (.cells #[.bool false, .int .u8 0, .int .u16 0, .int .u32 0, .int .u32 0, .slice M2 0 h1, .bool false, .int .u16 0, .slice E2 0 h2, .slice P2 0 h3, .int .i64 0] 27))
  replace IA := Lib.hid (IA.out.push (.cells #[.bool false, .int .u8 0, .int .u16 0, .int .u32 0, .int .u32 0, .slice M2 0 h1, .bool false, .int .u16 0, .slice E2 0 h2, .slice P2 0 h3, .int .i64 0] 27))
  replace X := Lib.hid (X.out.push (.cells #[.bool false, .int .u8 0, .int .u16 0, .int .u32 0, .int .u32 0, .slice M2 0 h1, .bool false, .int .u16 0, .slice E2 0 h2, .slice P2 0 h3, .int .i64 0] 27))
  replace Ja := Lib.hid (Ja.out.push (.cells #[.bool false, .int .u8 0, .int .u16 0, .int .u32 0, .int .u32 0, .slice M2 0 h1, .bool false, .int .u16 0, .slice E2 0 h2, .slice P2 0 h3, .int .i64 0] 27))
  replace JM2 := Lib.hid (JM2.out.push (.cells #[.bool false, .int .u8 0, .int .u16 0, .int .u32 0, .int .u32 0, .slice M2 0 h1, .bool false, .int .u16 0, .slice E2 0 h2, .slice P2 0 h3, .int .i64 0] 27))
  replace JE2 := Lib.hid (JE2.out.push (.cells #[.bool false, .int .u8 0, .int .u16 0, .int .u32 0, .int .u32 0, .slice M2 0 h1, .bool false, .int .u16 0, .slice E2 0 h2, .slice P2 0 h3, .int .i64 0] 27))
  replace JP2 := Lib.hid (JP2.out.push (.cells #[.bool false, .int .u8 0, .int .u16 0, .int .u32 0, .int .u32 0, .slice M2 0 h1, .bool false, .int .u16 0, .slice E2 0 h2, .slice P2 0 h3, .int .i64 0] 27))
  have X2 := Lib.hid (Blk.new w2 27 #[.bool false, .int .u8 0, .int .u16 0, .int .u32 0, .int .u32 0, .slice M2 0 h1, .bool false, .int .u16 0, .slice E2 0 h2, .slice P2 0 h3, .int .i64 0])
  have c_X20 := X2.out.at 0 _ rfl
  have c_X21 := X2.out.at 1 _ rfl
  have c_X22 := X2.out.at 2 _ rfl
  have c_X23 := X2.out.at 3 _ rfl
  have c_X24 := X2.out.at 4 _ rfl
  have c_X25 := X2.out.at 5 _ rfl
  have c_X26 := X2.out.at 6 _ rfl
  have c_X27 := X2.out.at 7 _ rfl
  have c_X28 := X2.out.at 8 _ rfl
  have c_X29 := X2.out.at 9 _ rfl
  have c_X210 := X2.out.at 10 _ rfl
  go_wp2_with fail
  clear c_X20 c_X21 c_X22 c_X23 c_X24 c_X25 c_X26 c_X27 c_X28 c_X29 c_X210
  refine (rSame_any false 0 0 0 0 [] false 0 [] [] 0 M2 none E2 none P2 none h1 0 h2 0 h3 0 _ IntsAt.nil IntsAt.nil IntsAt.nil IntsAt.nil IntsAt.nil IntsAt.nil (by decide)).mono ?_
  rintro e w3 ⟨rfl, hb3⟩
  replace U := Lib.hid (U.out.later hb3)
  replace IM := Lib.hid (IM.out.later hb3)
  replace IE := Lib.hid (IE.out.later hb3)
  replace IP := Lib.hid (IP.out.later hb3)
  replace IA := Lib.hid (IA.out.later hb3)
  replace X := Lib.hid (X.out.later hb3)
  replace Ja := Lib.hid (Ja.out.later hb3)
  replace JM2 := Lib.hid (JM2.out.later hb3)
  replace JE2 := Lib.hid (JE2.out.later hb3)
  replace JP2 := Lib.hid (JP2.out.later hb3)
  replace X2 := Lib.hid (X2.out.later hb3)
  clear hb3
  go_wp2_with fail
  refine (lives25 _).mono ?_
  rintro e w4 ⟨rfl, hb4⟩
  replace U := Lib.hid (U.out.later hb4)
  replace IM := Lib.hid (IM.out.later hb4)
  replace IE := Lib.hid (IE.out.later hb4)
  replace IP := Lib.hid (IP.out.later hb4)
  replace IA := Lib.hid (IA.out.later hb4)
  replace X := Lib.hid (X.out.later hb4)
  replace Ja := Lib.hid (Ja.out.later hb4)
  replace JM2 := Lib.hid (JM2.out.later hb4)
  replace JE2 := Lib.hid (JE2.out.later hb4)
  replace JP2 := Lib.hid (JP2.out.later hb4)
  replace X2 := Lib.hid (X2.out.later hb4)
  clear hb4
  go_wp2_with fail
  go_ret
  exact ⟨by simp, U.out⟩
set_option maxRecDepth 100000 in
set_option maxHeartbeats 6400000 in
theorem part_01 (w : World) (mk : Bool) (ty sq ti so : Int) (Am : Option Addr) (mx : List Int) (cm : Nat) (ex : Bool) (ek : Int) (Ae : Option Addr) (et : List Int) (ce : Nat) (Ap : Option Addr) (pl : List Int) (cp : Nat) (pad : Int) (A : Option Addr) (bs : List Int) (cap : Nat) (hM : IntsAt w w.heap.size .u32 Am mx) (hE : IntsAt w w.heap.size .u8 Ae et) (hP : IntsAt w w.heap.size .u8 Ap pl) (hA : IntsAt w w.heap.size .u8 A bs) (hl : bs.length ≤ cap) (l1 : (mx.length : Int) ≤ 100) (l2 : (et.length : Int) ≤ 3000) (l3 : (pl.length : Int) ≤ 3000) (l4 : (bs.length : Int) ≤ 6000) (er1 : Int) (he1 : (er1 == 0) = false) (K1 : Hid (∀ W, IntsAt W W.heap.size .u32 Am mx → IntsAt W W.heap.size .u8 Ae et → IntsAt W W.heap.size .u8 Ap pl → Calls Try.prog 13 #[.agg #[.bool mk, .int .u8 ty, .int .u16 sq, .int .u32 ti, .int .u32 so, .slice Am mx.length cm, .bool ex, .int .u16 ek, .slice Ae et.length ce, .slice Ap pl.length cp, .int .i64 pad]] W (EncRC ([], er1) W))) (mk2 : Bool) (ty2 sq2 ti2 so2 : Int) (mx2 : List Int) (ex2 : Bool) (ek2 : Int) (et2 pl2 : List Int) (pad2 at2 : Int) (K4 : Hid (∀ (M2 : Option Addr) (c2 : Nat) (E2 : Option Addr) (d2 : Nat) (P2 : Option Addr) (f2 : Nat) (W : World), IntsAt W W.heap.size .u32 M2 mx2 → IntsAt W W.heap.size .u8 E2 et2 → IntsAt W W.heap.size .u8 P2 pl2 → Calls Try.prog 13 #[.agg #[.bool mk2, .int .u8 ty2, .int .u16 sq2, .int .u32 ti2, .int .u32 so2, .slice M2 mx2.length c2, .bool ex2, .int .u16 ek2, .slice E2 et2.length d2, .slice P2 pl2.length f2, .int .i64 pad2]] W (EncRC (bs, 0) W))) (K2 : Hid (∀ W, IntsAt W W.heap.size .u8 A bs → Calls Try.prog 15 #[.slice A bs.length cap] W (PDecR (⟨mk2, ty2, sq2, ti2, so2, mx2, ex2, ek2, et2, pl2, pad2⟩, at2, 0) W))) :
    Calls Try.prog 5 #[.agg #[.bool mk, .int .u8 ty, .int .u16 sq, .int .u32 ti, .int .u32 so, .slice Am mx.length cm, .bool ex, .int .u16 ek, .slice Ae et.length ce, .slice Ap pl.length cp, .int .i64 pad], .slice A bs.length cap] w fun e w' => e = .returned (.bool true) ∧ Below w.heap.size w w' := by
  have IM := Lib.hid hM
  have IE := Lib.hid hE
  have IP := Lib.hid hP
  have IA := Lib.hid hA
  clear hM hE hP hA
  go_enter Try.func5, Try.ntmps5
  have U := Lib.hid (Bel.refl w)
  replace U := Lib.hid (U.out.push (.cells #[.bool mk, .int .u8 ty, .int .u16 sq, .int .u32 ti, .int .u32 so, .slice Am mx.length cm, .bool ex, .int .u16 ek, .slice Ae et.length ce, .slice Ap pl.length cp, .int .i64 pad] 27))
  replace IM := Lib.hid (IM.out.push (.cells #[.bool mk, .int .u8 ty, .int .u16 sq, .int .u32 ti, .int .u32 so, .slice Am mx.length cm, .bool ex, .int .u16 ek, .slice Ae et.length ce, .slice Ap pl.length cp, .int .i64 pad] 27))
  replace IE := Lib.hid (IE.out.push (.cells #[.bool mk, .int .u8 ty, .int .u16 sq, .int .u32 ti, .int .u32 so, .slice Am mx.length cm, .bool ex, .int .u16 ek, .slice Ae et.length ce, .slice Ap pl.length cp, .int .i64 pad] 27))
  replace IP := Lib.hid (IP.out.push (.cells #[.bool mk, .int .u8 ty, .int .u16 sq, .int .u32 ti, .int .u32 so, .slice Am mx.length cm, .bool ex, .int .u16 ek, .slice Ae et.length ce, .slice Ap pl.length cp, .int .i64 pad] 27))
  replace IA := Lib.hid (IA.out.push (.cells #[.bool mk, .int .u8 ty, .int .u16 sq, .int .u32 ti, .int .u32 so, .slice Am mx.length cm, .bool ex, .int .u16 ek, .slice Ae et.length ce, .slice Ap pl.length cp, .int .i64 pad] 27))
  have X := Lib.hid (Blk.new w 27 #[.bool mk, .int .u8 ty, .int .u16 sq, .int .u32 ti, .int .u32 so, .slice Am mx.length cm, .bool ex, .int .u16 ek, .slice Ae et.length ce, .slice Ap pl.length cp, .int .i64 pad])
  have c_X0 := X.out.at 0 _ rfl
  have c_X1 := X.out.at 1 _ rfl
  have c_X2 := X.out.at 2 _ rfl
  have c_X3 := X.out.at 3 _ rfl
  have c_X4 := X.out.at 4 _ rfl
  have c_X5 := X.out.at 5 _ rfl
  have c_X6 := X.out.at 6 _ rfl
  have c_X7 := X.out.at 7 _ rfl
  have c_X8 := X.out.at 8 _ rfl
  have c_X9 := X.out.at 9 _ rfl
  have c_X10 := X.out.at 10 _ rfl
  go_wp2_with fail
  clear c_X0 c_X1 c_X2 c_X3 c_X4 c_X5 c_X6 c_X7 c_X8 c_X9 c_X10
  refine (K1.out _ IM.out IE.out IP.out).mono ?_
  rintro e w1 ⟨A1, c1, rfl, hcap, ⟨ja_, _⟩, hb1⟩
  replace U := Lib.hid (U.out.later hb1)
  replace IM := Lib.hid (IM.out.later hb1)
  replace IE := Lib.hid (IE.out.later hb1)
  replace IP := Lib.hid (IP.out.later hb1)
  replace IA := Lib.hid (IA.out.later hb1)
  replace X := Lib.hid (X.out.later hb1)
  clear hb1
  have Ja := Lib.hid ja_
  clear ja_
  simp only at Ja hcap
  have c_X0 := X.out.at 0 _ rfl
  have c_X1 := X.out.at 1 _ rfl
  have c_X2 := X.out.at 2 _ rfl
  have c_X3 := X.out.at 3 _ rfl
  have c_X4 := X.out.at 4 _ rfl
  have c_X5 := X.out.at 5 _ rfl
  have c_X6 := X.out.at 6 _ rfl
  have c_X7 := X.out.at 7 _ rfl
  have c_X8 := X.out.at 8 _ rfl
  have c_X9 := X.out.at 9 _ rfl
  have c_X10 := X.out.at 10 _ rfl
  go_wp2_with fail
  clear c_X0 c_X1 c_X2 c_X3 c_X4 c_X5 c_X6 c_X7 c_X8 c_X9 c_X10
  refine (K2.out _ IA.out).mono ?_
  rintro e w2 ⟨M2, h1, E2, h2, P2, h3, rfl, ⟨jm2_, _⟩, ⟨je2_, _⟩, ⟨jp2_, _⟩, hb2⟩
  replace U := Lib.hid (U.out.later hb2)
  replace IM := Lib.hid (IM.out.later hb2)
  replace IE := Lib.hid (IE.out.later hb2)
  replace IP := Lib.hid (IP.out.later hb2)
  replace IA := Lib.hid (IA.out.later hb2)
  replace X := Lib.hid (X.out.later hb2)
  replace Ja := Lib.hid (Ja.out.later hb2)
  clear hb2
  have JM2 := Lib.hid jm2_
  clear jm2_
  have JE2 := Lib.hid je2_
  clear je2_
  have JP2 := Lib.hid jp2_
  clear jp2_
  simp only at JM2 JE2 JP2
  simp only [Pk.Pkt.row]
  replace U := Lib.hid (U.out.push (.cells #[.bool mk2, .int .u8 ty2, .int .u16 sq2, .int .u32 ti2, .int .u32 so2, .slice M2 mx2.length h1, .bool ex2, .int .u16 ek2, .slice E2 et2.length h2, .slice P2 pl2.length h3, .int .i64 pad2] 27))
  replace IM := Lib.hid (IM.out.push (.cells #[.bool mk2, .int .u8 ty2, .int .u16 sq2, .int .u32 ti2, .int .u32 so2, .slice M2 mx2.length h1, .bool ex2, .int .u16 ek2, .slice E2 et2.length h2, .slice P2 pl2.length h3, .int .i64 pad2] 27))
  replace IE := Lib.hid (IE.out.push (.cells #[.bool mk2, .int .u8 ty2, .int .u16 sq2, .int .u32 ti2, .int .u32 so2, .slice M2 mx2.length h1, .bool ex2, .int .u16 ek2, .slice E2 et2.length h2, .slice P2 pl2.length h3, .int .i64 pad2] 27))
  replace IP := Lib.hid (IP.out.push (.cells #[.bool mk2, .int .u8 ty2, .int .u16 sq2, .int .u32 ti2, .int .u32 so2, .slice M2 mx2.length h1, .bool ex2, .int .u16 ek2, .slice E2 et2.length h2, .slice P2 pl2.length h3, .int .i64 pad2] 27))
  replace IA := Lib.hid (IA.out.push (.cells #[.bool mk2, .int .u8 ty2, .int .u16 sq2, .int .u32 ti2, .int .u32 so2, .slice M2 mx2.length h1, .bool ex2, .int .u16 ek2, .slice E2 et2.length h2, .slice P2 pl2.length h3, .int .i64 pad2] 27))
  replace X := Lib.hid (X.out.push (.cells #[.bool mk2, .int .u8 ty2, .int .u16 sq2, .int .u32 ti2, .int .u32 so2, .slice M2 mx2.length h1, .bool ex2, .int .u16 ek2, .slice E2 et2.length h2, .slice P2 pl2.length h3, .int .i64 pad2] 27))
  replace Ja := Lib.hid (Ja.out.push (.cells #[.bool mk2, .int .u8 ty2, .int .u16 sq2, .int .u32 ti2, .int .u32 so2, .slice M2 mx2.length h1, .bool ex2, .int .u16 ek2, .slice E2 et2.length h2, .slice P2 pl2.length h3, .int .i64 pad2] 27))
  replace JM2 := Lib.hid (JM2.out.push (.cells #[.bool mk2, .int .u8 ty2, .int .u16 sq2, .int .u32 ti2, .int .u32 so2, .slice M2 mx2.length h1, .bool ex2, .int .u16 ek2, .slice E2 et2.length h2, .slice P2 pl2.length h3, .int .i64 pad2] 27))
  replace JE2 := Lib.hid (JE2.out.push (.cells #[.bool mk2, .int .u8 ty2, .int .u16 sq2, .int .u32 ti2, .int .u32 so2, .slice M2 mx2.length h1, .bool ex2, .int .u16 ek2, .slice E2 et2.length h2, .slice P2 pl2.length h3, .int .i64 pad2] 27))
  replace JP2 := Lib.hid (JP2.out.push (.cells #[.bool mk2, .int .u8 ty2, .int .u16 sq2, .int .u32 ti2, .int .u32 so2, .slice M2 mx2.length h1, .bool ex2, .int .u16 ek2, .slice E2 et2.length h2, .slice P2 pl2.length h3, .int .i64 pad2] 27))
  have X2 := Lib.hid (Blk.new w2 27 #[.bool mk2, .int .u8 ty2, .int .u16 sq2, .int .u32 ti2, .int .u32 so2, .slice M2 mx2.length h1, .bool ex2, .int .u16 ek2, .slice E2 et2.length h2, .slice P2 pl2.length h3, .int .i64 pad2])
  have c_X20 := X2.out.at 0 _ rfl
  have c_X21 := X2.out.at 1 _ rfl
  have c_X22 := X2.out.at 2 _ rfl
  have c_X23 := X2.out.at 3 _ rfl
  have c_X24 := X2.out.at 4 _ rfl
  have c_X25 := X2.out.at 5 _ rfl
  have c_X26 := X2.out.at 6 _ rfl
  have c_X27 := X2.out.at 7 _ rfl
  have c_X28 := X2.out.at 8 _ rfl
  have c_X29 := X2.out.at 9 _ rfl
  have c_X210 := X2.out.at 10 _ rfl
  go_wp2_with fail
  clear c_X20 c_X21 c_X22 c_X23 c_X24 c_X25 c_X26 c_X27 c_X28 c_X29 c_X210
  refine (K4.out _ _ _ _ _ _ _ JM2.out JE2.out JP2.out).mono ?_
  rintro e w3 ⟨A4, c4, rfl, _, ⟨jb_, _⟩, hb3⟩
  replace U := Lib.hid (U.out.later hb3)
  replace IM := Lib.hid (IM.out.later hb3)
  replace IE := Lib.hid (IE.out.later hb3)
  replace IP := Lib.hid (IP.out.later hb3)
  replace IA := Lib.hid (IA.out.later hb3)
  replace X := Lib.hid (X.out.later hb3)
  replace Ja := Lib.hid (Ja.out.later hb3)
  replace JM2 := Lib.hid (JM2.out.later hb3)
  replace JE2 := Lib.hid (JE2.out.later hb3)
  replace JP2 := Lib.hid (JP2.out.later hb3)
  replace X2 := Lib.hid (X2.out.later hb3)
  clear hb3
  have Jb := Lib.hid jb_
  clear jb_
  simp only at Jb
  have hv1 := run_convert_ints Jb.out 25 9 5 Try.underlying25 Try.underlying5 Try.underlying9 bs.length c4 rfl
  have hv2 := run_convert_ints IA.out 25 9 5 Try.underlying25 Try.underlying5 Try.underlying9 bs.length cap rfl
  go_wp2_with fail
  clear hv1 hv2
  refine (lives25 _).mono ?_
  rintro e w4 ⟨rfl, hb4⟩
  replace U := Lib.hid (U.out.later hb4)
  replace IM := Lib.hid (IM.out.later hb4)
  replace IE := Lib.hid (IE.out.later hb4)
  replace IP := Lib.hid (IP.out.later hb4)
  replace IA := Lib.hid (IA.out.later hb4)
  replace X := Lib.hid (X.out.later hb4)
  replace Ja := Lib.hid (Ja.out.later hb4)
  replace JM2 := Lib.hid (JM2.out.later hb4)
  replace JE2 := Lib.hid (JE2.out.later hb4)
  replace JP2 := Lib.hid (JP2.out.later hb4)
  replace X2 := Lib.hid (X2.out.later hb4)
  replace Jb := Lib.hid (Jb.out.later hb4)
  clear hb4
  go_wp2_with fail
  go_ret
  exact ⟨by simp, U.out⟩
set_option maxRecDepth 100000 in
set_option maxHeartbeats 6400000 in
theorem part_10 (w : World) (mk : Bool) (ty sq ti so : Int) (Am : Option Addr) (mx : List Int) (cm : Nat) (ex : Bool) (ek : Int) (Ae : Option Addr) (et : List Int) (ce : Nat) (Ap : Option Addr) (pl : List Int) (cp : Nat) (pad : Int) (A : Option Addr) (bs : List Int) (cap : Nat) (hM : IntsAt w w.heap.size .u32 Am mx) (hE : IntsAt w w.heap.size .u8 Ae et) (hP : IntsAt w w.heap.size .u8 Ap pl) (hA : IntsAt w w.heap.size .u8 A bs) (hl : bs.length ≤ cap) (l1 : (mx.length : Int) ≤ 100) (l2 : (et.length : Int) ≤ 3000) (l3 : (pl.length : Int) ≤ 3000) (l4 : (bs.length : Int) ≤ 6000) (bs1 : List Int) (b1 : bs1.length ≤ 6000) (K3 : Hid (∀ (A1 : Option Addr) (c1 : Nat) (W : World), IntsAt W W.heap.size .u8 A1 bs1 → bs1.length ≤ c1 → Calls Try.prog 15 #[.slice A1 bs1.length c1] W (PDecR (⟨mk, ty, sq, ti, so, mx, ex, ek, et, pl, pad⟩, 0, 0) W))) (K1 : Hid (∀ W, IntsAt W W.heap.size .u32 Am mx → IntsAt W W.heap.size .u8 Ae et → IntsAt W W.heap.size .u8 Ap pl → Calls Try.prog 13 #[.agg #[.bool mk, .int .u8 ty, .int .u16 sq, .int .u32 ti, .int .u32 so, .slice Am mx.length cm, .bool ex, .int .u16 ek, .slice Ae et.length ce, .slice Ap pl.length cp, .int .i64 pad]] W (EncRC (bs1, 0) W))) (at2 er2 : Int) (he2 : (er2 != 0) = true) (at0 : 0 ≤ at2) (at1 : at2 ≤ bs.length) (K2 : Hid (∀ W, IntsAt W W.heap.size .u8 A bs → Calls Try.prog 15 #[.slice A bs.length cap] W (PDecR (Pk.Pkt.zero, at2, er2) W))) :
    Calls Try.prog 5 #[.agg #[.bool mk, .int .u8 ty, .int .u16 sq, .int .u32 ti, .int .u32 so, .slice Am mx.length cm, .bool ex, .int .u16 ek, .slice Ae et.length ce, .slice Ap pl.length cp, .int .i64 pad], .slice A bs.length cap] w fun e w' => e = .returned (.bool true) ∧ Below w.heap.size w w' := by
  have IM := Lib.hid hM
  have IE := Lib.hid hE
  have IP := Lib.hid hP
  have IA := Lib.hid hA
  clear hM hE hP hA
  go_enter Try.func5, Try.ntmps5
  have U := Lib.hid (Bel.refl w)
  replace U := Lib.hid (U.out.push (.cells #[.bool mk, .int .u8 ty, .int .u16 sq, .int .u32 ti, .int .u32 so, .slice Am mx.length cm, .bool ex, .int .u16 ek, .slice Ae et.length ce, .slice Ap pl.length cp, .int .i64 pad] 27))
  replace IM := Lib.hid (IM.out.push (.cells #[.bool mk, .int .u8 ty, .int .u16 sq, .int .u32 ti, .int .u32 so, .slice Am mx.length cm, .bool ex, .int .u16 ek, .slice Ae et.length ce, .slice Ap pl.length cp, .int .i64 pad] 27))
  replace IE := Lib.hid (IE.out.push (.cells #[.bool mk, .int .u8 ty, .int .u16 sq, .int .u32 ti, .int .u32 so, .slice Am mx.length cm, .bool ex, .int .u16 ek, .slice Ae et.length ce, .slice Ap pl.length cp, .int .i64 pad] 27))
  replace IP := Lib.hid (IP.out.push (.cells #[.bool mk, .int .u8 ty, .int .u16 sq, .int .u32 ti, .int .u32 so, .slice Am mx.length cm, .bool ex, .int .u16 ek, .slice Ae et.length ce, .slice Ap pl.length cp, .int .i64 pad] 27))
  replace IA := Lib.hid (IA.out.push (.cells #[.bool mk, .int .u8 ty, .int .u16 sq, .int .u32 ti, .int .u32 so, .slice Am mx.length cm, .bool ex, .int .u16 ek, .slice Ae et.length ce, .slice Ap pl.length cp, .int .i64 pad] 27))
  have X := Lib.hid (Blk.new w 27 #[.bool mk, .int .u8 ty, .int .u16 sq, .int .u32 ti, .int .u32 so, .slice Am mx.length cm, .bool ex, .int .u16 ek, .slice Ae et.length ce, .slice Ap pl.length cp, .int .i64 pad])
  have c_X0 := X.out.at 0 _ rfl
  have c_X1 := X.out.at 1 _ rfl
  have c_X2 := X.out.at 2 _ rfl
  have c_X3 := X.out.at 3 _ rfl
  have c_X4 := X.out.at 4 _ rfl
  have c_X5 := X.out.at 5 _ rfl
  have c_X6 := X.out.at 6 _ rfl
  have c_X7 := X.out.at 7 _ rfl
  have c_X8 := X.out.at 8 _ rfl
  have c_X9 := X.out.at 9 _ rfl
  have c_X10 := X.out.at 10 _ rfl
  go_wp2_with fail
  clear c_X0 c_X1 c_X2 c_X3 c_X4 c_X5 c_X6 c_X7 c_X8 c_X9 c_X10
  refine (K1.out _ IM.out IE.out IP.out).mono ?_
  rintro e w1 ⟨A1, c1, rfl, hcap, ⟨ja_, _⟩, hb1⟩
  replace U := Lib.hid (U.out.later hb1)
  replace IM := Lib.hid (IM.out.later hb1)
  replace IE := Lib.hid (IE.out.later hb1)
  replace IP := Lib.hid (IP.out.later hb1)
  replace IA := Lib.hid (IA.out.later hb1)
  replace X := Lib.hid (X.out.later hb1)
  clear hb1
  have Ja := Lib.hid ja_
  clear ja_
  simp only at Ja hcap
  have c_X0 := X.out.at 0 _ rfl
  have c_X1 := X.out.at 1 _ rfl
  have c_X2 := X.out.at 2 _ rfl
  have c_X3 := X.out.at 3 _ rfl
  have c_X4 := X.out.at 4 _ rfl
  have c_X5 := X.out.at 5 _ rfl
  have c_X6 := X.out.at 6 _ rfl
  have c_X7 := X.out.at 7 _ rfl
  have c_X8 := X.out.at 8 _ rfl
  have c_X9 := X.out.at 9 _ rfl
  have c_X10 := X.out.at 10 _ rfl
  go_wp2_with fail
  clear c_X0 c_X1 c_X2 c_X3 c_X4 c_X5 c_X6 c_X7 c_X8 c_X9 c_X10
  refine (K3.out _ _ _ Ja.out hcap).mono ?_
  rintro e w2 ⟨M1, g1, E1, g2, P1, g3, rfl, ⟨jm1_, _⟩, ⟨je1_, _⟩, ⟨jp1_, _⟩, hb2⟩
  replace U := Lib.hid (U.out.later hb2)
  replace IM := Lib.hid (IM.out.later hb2)
  replace IE := Lib.hid (IE.out.later hb2)
  replace IP := Lib.hid (IP.out.later hb2)
  replace IA := Lib.hid (IA.out.later hb2)
  replace X := Lib.hid (X.out.later hb2)
  replace Ja := Lib.hid (Ja.out.later hb2)
  clear hb2
  have JM1 := Lib.hid jm1_
  clear jm1_
  have JE1 := Lib.hid je1_
  clear je1_
  have JP1 := Lib.hid jp1_
  clear jp1_
  simp only at JM1 JE1 JP1
  simp only [Pk.Pkt.row]
  replace U := Lib.hid (U.out.push (.cells #[.bool mk, .int .u8 ty, .int .u16 sq, .int .u32 ti, .int .u32 so, .slice M1 mx.length g1, .bool ex, .int .u16 ek, .slice E1 et.length g2, .slice P1 pl.length g3, .int .i64 pad] 27))
  replace IM := Lib.hid (IM.out.push (.cells #[.bool mk, .int .u8 ty, .int .u16 sq, .int .u32 ti, .int .u32 so, .slice M1 mx.length g1, .bool ex, .int .u16 ek, .slice E1 et.length g2, .slice P1 pl.length g3, .int .i64 pad] 27))
  replace IE := Lib.hid (IE.out.push (.cells #[.bool mk, .int .u8 ty, .int .u16 sq, .int .u32 ti, .int .u32 so, .slice M1 mx.length g1, .bool ex, .int .u16 ek, .slice E1 et.length g2, .slice P1 pl.length g3, .int .i64 pad] 27))
  replace IP := Lib.hid (IP.out.push (.cells #[.bool mk, .int .u8 ty, .int .u16 sq, .int .u32 ti, .int .u32 so, .slice M1 mx.length g1, .bool ex, .int .u16 ek, .slice E1 et.length g2, .slice P1 pl.length g3, .int .i64 pad] 27))
  replace IA := Lib.hid (IA.out.push (.cells #[.bool mk, .int .u8 ty, .int .u16 sq, .int .u32 ti, .int .u32 so, .slice M1 mx.length g1, .bool ex, .int .u16 ek, .slice E1 et.length g2, .slice P1 pl.length g3, .int .i64 pad] 27))
  replace X := Lib.hid (X.out.push (.cells #[.bool mk, .int .u8 ty, .int .u16 sq, .int .u32 ti, .int .u32 so, .slice M1 mx.length g1, .bool ex, .int .u16 ek, .slice E1 et.length g2, .slice P1 pl.length g3, .int .i64 pad] 27))
  replace Ja := Lib.hid (Ja.out.push (.cells #[.bool mk, .int .u8 ty, .int .u16 sq, .int .u32 ti, .int .u32 so, .slice M1 mx.length g1, .bool ex, .int .u16 ek, .slice E1 et.length g2, .slice P1 pl.length g3, .int .i64 pad] 27))
  replace JM1 := Lib.hid (JM1.out.push (.cells #[.bool mk, .int .u8 ty, .int .u16 sq, .int .u32 ti, .int .u32 so, .slice M1 mx.length g1, .bool ex, .int .u16 ek, .slice E1 et.length g2, .slice P1 pl.length g3, .int .i64 pad] 27))
  replace JE1 := Lib.hid (JE1.out.push (.cells #[.bool mk, .int .u8 ty, .int .u16 sq, .int .u32 ti, .int .u32 so, .slice M1 mx.length g1, .bool ex, .int .u16 ek, .slice E1 et.length g2, .slice P1 pl.length g3, .int .i64 pad] 27))
  replace JP1 := Lib.hid (JP1.out.push (.cells #[.bool mk, .int .u8 ty, .int .u16 sq, .int .u32 ti, .int .u32 so, .slice M1 mx.length g1, .bool ex, .int .u16 ek, .slice E1 et.length g2, .slice P1 pl.length g3, .int .i64 pad] 27))
  have X1 := Lib.hid (Blk.new w2 27 #[.bool mk, .int .u8 ty, .int .u16 sq, .int .u32 ti, .int .u32 so, .slice M1 mx.length g1, .bool ex, .int .u16 ek, .slice E1 et.length g2, .slice P1 pl.length g3, .int .i64 pad])
  have c_X0 := X.out.at 0 _ rfl
  have c_X1 := X.out.at 1 _ rfl
  have c_X2 := X.out.at 2 _ rfl
  have c_X3 := X.out.at 3 _ rfl
  have c_X4 := X.out.at 4 _ rfl
  have c_X5 := X.out.at 5 _ rfl
  have c_X6 := X.out.at 6 _ rfl
  have c_X7 := X.out.at 7 _ rfl
  have c_X8 := X.out.at 8 _ rfl
  have c_X9 := X.out.at 9 _ rfl
  have c_X10 := X.out.at 10 _ rfl
  have c_X10 := X1.out.at 0 _ rfl
  have c_X11 := X1.out.at 1 _ rfl
  have c_X12 := X1.out.at 2 _ rfl
  have c_X13 := X1.out.at 3 _ rfl
  have c_X14 := X1.out.at 4 _ rfl
  have c_X15 := X1.out.at 5 _ rfl
  have c_X16 := X1.out.at 6 _ rfl
  have c_X17 := X1.out.at 7 _ rfl
  have c_X18 := X1.out.at 8 _ rfl
  have c_X19 := X1.out.at 9 _ rfl
  have c_X110 := X1.out.at 10 _ rfl
  go_wp2_with fail
  try clear c_X0
  try clear c_X1
  try clear c_X2
  try clear c_X3
  try clear c_X4
  try clear c_X5
  try clear c_X6
  try clear c_X7
  try clear c_X8
  try clear c_X9
  try clear c_X10
  try clear c_X10
  try clear c_X11
  try clear c_X12
  try clear c_X13
  try clear c_X14
  try clear c_X15
  try clear c_X16
  try clear c_X17
  try clear c_X18
  try clear c_X19
  try clear c_X110
  refine (rSame_any mk ty sq ti so mx ex ek et pl pad Am M1 Ae E1 Ap P1 cm g1 ce g2 cp g3 _ IM.out JM1.out IE.out JE1.out IP.out JP1.out (by omega)).mono ?_
  rintro e w3 ⟨rfl, hb3⟩
  replace U := Lib.hid (U.out.later hb3)
  replace IM := Lib.hid (IM.out.later hb3)
  replace IE := Lib.hid (IE.out.later hb3)
  replace IP := Lib.hid (IP.out.later hb3)
  replace IA := Lib.hid (IA.out.later hb3)
  replace X := Lib.hid (X.out.later hb3)
  replace Ja := Lib.hid (Ja.out.later hb3)
  replace JM1 := Lib.hid (JM1.out.later hb3)
  replace JE1 := Lib.hid (JE1.out.later hb3)
  replace JP1 := Lib.hid (JP1.out.later hb3)
  replace X1 := Lib.hid (X1.out.later hb3)
  clear hb3
  go_wp2_with fail
  refine (K2.out _ IA.out).mono ?_
  rintro e w4 ⟨M2, h1, E2, h2, P2, h3, rfl, ⟨jm2_, _⟩, ⟨je2_, _⟩, ⟨jp2_, _⟩, hb4⟩
  replace U := Lib.hid (U.out.later hb4)
  replace IM := Lib.hid (IM.out.later hb4)
  replace IE := Lib.hid (IE.out.later hb4)
  replace IP := Lib.hid (IP.out.later hb4)
  replace IA := Lib.hid (IA.out.later hb4)
  replace X := Lib.hid (X.out.later hb4)
  replace Ja := Lib.hid (Ja.out.later hb4)
  replace JM1 := Lib.hid (JM1.out.later hb4)
  replace JE1 := Lib.hid (JE1.out.later hb4)
  replace JP1 := Lib.hid (JP1.out.later hb4)
  replace X1 := Lib.hid (X1.out.later hb4)
  clear hb4
  have JM2 := Lib.hid jm2_
  clear jm2_
  have JE2 := Lib.hid je2_
  clear je2_
  have JP2 := Lib.hid jp2_
  clear jp2_
  simp only at JM2 JE2 JP2
  simp only [Pk.Pkt.row, Pk.Pkt.zero, List.length_nil]
  replace U := Lib.hid (U.out.push (.cells #[.bool false, .int .u8 0, .int .u16 0, .int .u32 0, .int .u32 0, .slice M2 0 h1, .bool false, .int .u16 0, .slice E2 0 h2, .slice P2 0 h3, .int .i64 0] 27))
  replace IM := Lib.hid (IM.out.push (.cells #[.bool false, .int .u8 0, .int .u16 0, .int .u32 0, .int .u32 0, .slice M2 0 h1, .bool false, .int .u16 0, .slice E2 0 h2, .slice P2 0 h3, .int .i64 0] 27))
  replace IE := Lib.hid (IE.out.push (.cells #[.bool false, .int .u8 0, .int .u16 0, .int .u32 0, .int .u32 0, .slice M2 0 h1, .bool false, .int .u16 0, .slice E2 0 h2, .slice P2 0 h3, .int .i64 0] 27))
  replace IP := Lib.hid (IP.out.push (.cells #[.bool false, .int .u8 0, .int .u16 0, .int .u32 0, .int .u32 0, .slice M2 0 h1, .bool false, .int .u16 0, .slice E2 0 h2, .slice P2 0 h3, .int .i64 0] 27))
  replace IA := Lib.hid (IA.out.push (.cells #[.bool false, .int .u8 0, .int .u16 0, .int .u32 0, .int .u32 0, .slice M2 0 h1, .bool false, .int .u16 0, .slice E2 0 h2, .slice P2 0 h3, .int .i64 0] 27))
  replace X := Lib.hid (X.out.push (.cells #[.bool false, .int .u8 0, .int .u16 0, .int .u32 0, .int .u32 0, .slice M2 0 h1, .bool false, .int .u16 0, .slice E2 0 h2, .slice P2 0 h3, .int .i64 0] 27))
  replace Ja := Lib.hid (Ja.out.push (.cells #[.bool false, .int .u8 0, .int .u16 0, .int .u32 0, .int .u32 0, .slice M2 0 h1, .bool false, .int .u16 0, .slice E2 0 h2, .slice P2 0 h3, .int .i64 0] 27))
  replace JM1 := Lib.hid (JM1.out.push (.cells #[.bool false, .int .u8 0, .int .u16 0, .int .u32 0, .int .u32 0, .slice M2 0 h1, .bool false, .int .u16 0, .slice E2 0 h2, .slice P2 0 h3, .int .i64 0] 27))
  replace JE1 := Lib.hid (JE1.out.push (.cells #[.bool false, .int .u8 0, .int .u16 0, .int .u32 0, .int .u32 0, .slice M2 0 h1, .bool false, .int .u16 0, .slice E2 0 h2, .slice P2 0 h3, .int .i64 0] 27))
  replace JP1 := Lib.hid (JP1.out.push (.cells #[.bool false, .int .u8 0, .int .u16 0, .int .u32 0, .int .u32 0, .slice M2 0 h1, .bool false, .int .u16 0, .slice E2 0 h2, .slice P2 0 h3, .int .i64 0] 27))
  replace X1 := Lib.hid (X1.out.push (.cells #[.bool false, .int .u8 0, .int .u16 0, .int .u32 0, .int .u32 0, .slice M2 0 h1, .bool false, .int .u16 0, .slice E2 0 h2, .slice P2 0 h3, .int .i64 0] 27))
  replace JM2 := Lib.hid (JM2.out.push (.cells #[.bool false, .int .u8 0, .int .u16 0, .int .u32 0, .int .u32 0, .slice M2 0 h1, .bool false, .int .u16 0, .slice E2 0 h2, .slice P2 0 h3, .int .i64 0] 27))
  replace JE2 := Lib.hid (JE2.out.push (.cells #[.bool false, .int .u8 0, .int .u16 0, .int .u32 0, .int .u32 0, .slice M2 0 h1, .bool false, .int .u16 0, .slice E2 0 h2, .slice P2 0 h3, .int .i64 0] 27))
  replace JP2 := Lib.hid (JP2.out.push (.cells #[.bool false, .int .u8 0, .int .u16 0, .int .u32 0, .int .u32 0, .slice M2 0 h1, .bool false, .int .u16 0, .slice E2 0 h2, .slice P2 0 h3, .int .i64 0] 27))
  have X2 := Lib.hid (Blk.new w4 27 #[.bool false, .int .u8 0, .int .u16 0, .int .u32 0, .int .u32 0, .slice M2 0 h1, .bool false, .int .u16 0, .slice E2 0 h2, .slice P2 0 h3, .int .i64 0])
  have c_X20 := X2.out.at 0 _ rfl
  have c_X21 := X2.out.at 1 _ rfl
  have c_X22 := X2.out.at 2 _ rfl
  have c_X23 := X2.out.at 3 _ rfl
  have c_X24 := X2.out.at 4 _ rfl
  have c_X25 := X2.out.at 5 _ rfl
  have c_X26 := X2.out.at 6 _ rfl
  have c_X27 := X2.out.at 7 _ rfl
  have c_X28 := X2.out.at 8 _ rfl
  have c_X29 := X2.out.at 9 _ rfl
  have c_X210 := X2.out.at 10 _ rfl
  go_wp2_with fail
  clear c_X20 c_X21 c_X22 c_X23 c_X24 c_X25 c_X26 c_X27 c_X28 c_X29 c_X210
  refine (rSame_any false 0 0 0 0 [] false 0 [] [] 0 M2 none E2 none P2 none h1 0 h2 0 h3 0 _ IntsAt.nil IntsAt.nil IntsAt.nil IntsAt.nil IntsAt.nil IntsAt.nil (by decide)).mono ?_
  rintro e w5 ⟨rfl, hb5⟩
  replace U := Lib.hid (U.out.later hb5)
  replace IM := Lib.hid (IM.out.later hb5)
  replace IE := Lib.hid (IE.out.later hb5)
  replace IP := Lib.hid (IP.out.later hb5)
  replace IA := Lib.hid (IA.out.later hb5)
  replace X := Lib.hid (X.out.later hb5)
  replace Ja := Lib.hid (Ja.out.later hb5)
  replace JM1 := Lib.hid (JM1.out.later hb5)
  replace JE1 := Lib.hid (JE1.out.later hb5)
  replace JP1 := Lib.hid (JP1.out.later hb5)
  replace X1 := Lib.hid (X1.out.later hb5)
  replace JM2 := Lib.hid (JM2.out.later hb5)
  replace JE2 := Lib.hid (JE2.out.later hb5)
  replace JP2 := Lib.hid (JP2.out.later hb5)
  replace X2 := Lib.hid (X2.out.later hb5)
  clear hb5
  go_wp2_with fail
  refine (lives25 _).mono ?_
  rintro e w6 ⟨rfl, hb6⟩
  replace U := Lib.hid (U.out.later hb6)
  replace IM := Lib.hid (IM.out.later hb6)
  replace IE := Lib.hid (IE.out.later hb6)
  replace IP := Lib.hid (IP.out.later hb6)
  replace IA := Lib.hid (IA.out.later hb6)
  replace X := Lib.hid (X.out.later hb6)
  replace Ja := Lib.hid (Ja.out.later hb6)
  replace JM1 := Lib.hid (JM1.out.later hb6)
  replace JE1 := Lib.hid (JE1.out.later hb6)
  replace JP1 := Lib.hid (JP1.out.later hb6)
  replace X1 := Lib.hid (X1.out.later hb6)
  replace JM2 := Lib.hid (JM2.out.later hb6)
  replace JE2 := Lib.hid (JE2.out.later hb6)
  replace JP2 := Lib.hid (JP2.out.later hb6)
  replace X2 := Lib.hid (X2.out.later hb6)
  clear hb6
  go_wp2_with fail
  go_ret
  exact ⟨by simp, U.out⟩
set_option maxRecDepth 100000 in
set_option maxHeartbeats 6400000 in
theorem part_11 (w : World) (mk : Bool) (ty sq ti so : Int) (Am : Option Addr) (mx : List Int) (cm : Nat) (ex : Bool) (ek : Int) (Ae : Option Addr) (et : List Int) (ce : Nat) (Ap : Option Addr) (pl : List Int) (cp : Nat) (pad : Int) (A : Option Addr) (bs : List Int) (cap : Nat) (hM : IntsAt w w.heap.size .u32 Am mx) (hE : IntsAt w w.heap.size .u8 Ae et) (hP : IntsAt w w.heap.size .u8 Ap pl) (hA : IntsAt w w.heap.size .u8 A bs) (hl : bs.length ≤ cap) (l1 : (mx.length : Int) ≤ 100) (l2 : (et.length : Int) ≤ 3000) (l3 : (pl.length : Int) ≤ 3000) (l4 : (bs.length : Int) ≤ 6000) (bs1 : List Int) (b1 : bs1.length ≤ 6000) (K3 : Hid (∀ (A1 : Option Addr) (c1 : Nat) (W : World), IntsAt W W.heap.size .u8 A1 bs1 → bs1.length ≤ c1 → Calls Try.prog 15 #[.slice A1 bs1.length c1] W (PDecR (⟨mk, ty, sq, ti, so, mx, ex, ek, et, pl, pad⟩, 0, 0) W))) (K1 : Hid (∀ W, IntsAt W W.heap.size .u32 Am mx → IntsAt W W.heap.size .u8 Ae et → IntsAt W W.heap.size .u8 Ap pl → Calls Try.prog 13 #[.agg #[.bool mk, .int .u8 ty, .int .u16 sq, .int .u32 ti, .int .u32 so, .slice Am mx.length cm, .bool ex, .int .u16 ek, .slice Ae et.length ce, .slice Ap pl.length cp, .int .i64 pad]] W (EncRC (bs1, 0) W))) (mk2 : Bool) (ty2 sq2 ti2 so2 : Int) (mx2 : List Int) (ex2 : Bool) (ek2 : Int) (et2 pl2 : List Int) (pad2 at2 : Int) (K4 : Hid (∀ (M2 : Option Addr) (c2 : Nat) (E2 : Option Addr) (d2 : Nat) (P2 : Option Addr) (f2 : Nat) (W : World), IntsAt W W.heap.size .u32 M2 mx2 → IntsAt W W.heap.size .u8 E2 et2 → IntsAt W W.heap.size .u8 P2 pl2 → Calls Try.prog 13 #[.agg #[.bool mk2, .int .u8 ty2, .int .u16 sq2, .int .u32 ti2, .int .u32 so2, .slice M2 mx2.length c2, .bool ex2, .int .u16 ek2, .slice E2 et2.length d2, .slice P2 pl2.length f2, .int .i64 pad2]] W (EncRC (bs, 0) W))) (K2 : Hid (∀ W, IntsAt W W.heap.size .u8 A bs → Calls Try.prog 15 #[.slice A bs.length cap] W (PDecR (⟨mk2, ty2, sq2, ti2, so2, mx2, ex2, ek2, et2, pl2, pad2⟩, at2, 0) W))) :
    Calls Try.prog 5 #[.agg #[.bool mk, .int .u8 ty, .int .u16 sq, .int .u32 ti, .int .u32 so, .slice Am mx.length cm, .bool ex, .int .u16 ek, .slice Ae et.length ce, .slice Ap pl.length cp, .int .i64 pad], .slice A bs.length cap] w fun e w' => e = .returned (.bool true) ∧ Below w.heap.size w w' := by
  have IM := Lib.hid hM
  have IE := Lib.hid hE
  have IP := Lib.hid hP
  have IA := Lib.hid hA
  clear hM hE hP hA
  go_enter Try.func5, Try.ntmps5
  have U := Lib.hid (Bel.refl w)
  replace U := Lib.hid (U.out.push (.cells #[.bool mk, .int .u8 ty, .int .u16 sq, .int .u32 ti, .int .u32 so, .slice Am mx.length cm, .bool ex, .int .u16 ek, .slice Ae et.length ce, .slice Ap pl.length cp, .int .i64 pad] 27))
  replace IM := Lib.hid (IM.out.push (.cells #[.bool mk, .int .u8 ty, .int .u16 sq, .int .u32 ti, .int .u32 so, .slice Am mx.length cm, .bool ex, .int .u16 ek, .slice Ae et.length ce, .slice Ap pl.length cp, .int .i64 pad] 27))
  replace IE := Lib.hid (IE.out.push (.cells #[.bool mk, .int .u8 ty, .int .u16 sq, .int .u32 ti, .int .u32 so, .slice Am mx.length cm, .bool ex, .int .u16 ek, .slice Ae et.length ce, .slice Ap pl.length cp, .int .i64 pad] 27))
  replace IP := Lib.hid (IP.out.push (.cells #[.bool mk, .int .u8 ty, .int .u16 sq, .int .u32 ti, .int .u32 so, .slice Am mx.length cm, .bool ex, .int .u16 ek, .slice Ae et.length ce, .slice Ap pl.length cp, .int .i64 pad] 27))
  replace IA := Lib.hid (IA.out.push (.cells #[.bool mk, .int .u8 ty, .int .u16 sq, .int .u32 ti, .int .u32 so, .slice Am mx.length cm, .bool ex, .int .u16 ek, .slice Ae et.length ce, .slice Ap pl.length cp, .int .i64 pad] 27))
  have X := Lib.hid (Blk.new w 27 #[.bool mk, .int .u8 ty, .int .u16 sq, .int .u32 ti, .int .u32 so, .slice Am mx.length cm, .bool ex, .int .u16 ek, .slice Ae et.length ce, .slice Ap pl.length cp, .int .i64 pad])
  have c_X0 := X.out.at 0 _ rfl
  have c_X1 := X.out.at 1 _ rfl
  have c_X2 := X.out.at 2 _ rfl
  have c_X3 := X.out.at 3 _ rfl
  have c_X4 := X.out.at 4 _ rfl
  have c_X5 := X.out.at 5 _ rfl
  have c_X6 := X.out.at 6 _ rfl
  have c_X7 := X.out.at 7 _ rfl
  have c_X8 := X.out.at 8 _ rfl
  have c_X9 := X.out.at 9 _ rfl
  have c_X10 := X.out.at 10 _ rfl
  go_wp2_with fail
  clear c_X0 c_X1 c_X2 c_X3 c_X4 c_X5 c_X6 c_X7 c_X8 c_X9 c_X10
  refine (K1.out _ IM.out IE.out IP.out).mono ?_
  rintro e w1 ⟨A1, c1, rfl, hcap, ⟨ja_, _⟩, hb1⟩
  replace U := Lib.hid (U.out.later hb1)
  replace IM := Lib.hid (IM.out.later hb1)
  replace IE := Lib.hid (IE.out.later hb1)
  replace IP := Lib.hid (IP.out.later hb1)
  replace IA := Lib.hid (IA.out.later hb1)
  replace X := Lib.hid (X.out.later hb1)
  clear hb1
  have Ja := Lib.hid ja_
  clear ja_
  simp only at Ja hcap
  have c_X0 := X.out.at 0 _ rfl
  have c_X1 := X.out.at 1 _ rfl
  have c_X2 := X.out.at 2 _ rfl
  have c_X3 := X.out.at 3 _ rfl
  have c_X4 := X.out.at 4 _ rfl
  have c_X5 := X.out.at 5 _ rfl
  have c_X6 := X.out.at 6 _ rfl
  have c_X7 := X.out.at 7 _ rfl
  have c_X8 := X.out.at 8 _ rfl
  have c_X9 := X.out.at 9 _ rfl
  have c_X10 := X.out.at 10 _ rfl
  go_wp2_with fail
  clear c_X0 c_X1 c_X2 c_X3 c_X4 c_X5 c_X6 c_X7 c_X8 c_X9 c_X10
  refine (K3.out _ _ _ Ja.out hcap).mono ?_
  rintro e w2 ⟨M1, g1, E1, g2, P1, g3, rfl, ⟨jm1_, _⟩, ⟨je1_, _⟩, ⟨jp1_, _⟩, hb2⟩
  replace U := Lib.hid (U.out.later hb2)
  replace IM := Lib.hid (IM.out.later hb2)
  replace IE := Lib.hid (IE.out.later hb2)
  replace IP := Lib.hid (IP.out.later hb2)
  replace IA := Lib.hid (IA.out.later hb2)
  replace X := Lib.hid (X.out.later hb2)
  replace Ja := Lib.hid (Ja.out.later hb2)
  clear hb2
  have JM1 := Lib.hid jm1_
  clear jm1_
  have JE1 := Lib.hid je1_
  clear je1_
  have JP1 := Lib.hid jp1_
  clear jp1_
  simp only at JM1 JE1 JP1
  simp only [Pk.Pkt.row]
  replace U := Lib.hid (U.out.push (.cells #[.bool mk, .int .u8 ty, .int .u16 sq, .int .u32 ti, .int .u32 so, .slice M1 mx.length g1, .bool ex, .int .u16 ek, .slice E1 et.length g2, .slice P1 pl.length g3, .int .i64 pad] 27))
  replace IM := Lib.hid (IM.out.push (.cells #[.bool mk, .int .u8 ty, .int .u16 sq, .int .u32 ti, .int .u32 so, .slice M1 mx.length g1, .bool ex, .int .u16 ek, .slice E1 et.length g2, .slice P1 pl.length g3, .int .i64 pad] 27))
  replace IE := Lib.hid (IE.out.push (.cells #[.bool mk, .int .u8 ty, .int .u16 sq, .int .u32 ti, .int .u32 so, .slice M1 mx.length g1, .bool ex, .int .u16 ek, .slice E1 et.length g2, .slice P1 pl.length g3, .int .i64 pad] 27))
  replace IP := Lib.hid (IP.out.push (.cells #[.bool mk, .int .u8 ty, .int .u16 sq, .int .u32 ti, .int .u32 so, .slice M1 mx.length g1, .bool ex, .int .u16 ek, .slice E1 et.length g2, .slice P1 pl.length g3, .int .i64 pad] 27))
  replace IA := Lib.hid (IA.out.push (.cells #[.bool mk, .int .u8 ty, .int .u16 sq, .int .u32 ti, .int .u32 so, .slice M1 mx.length g1, .bool ex, .int .u16 ek, .slice E1 et.length g2, .slice P1 pl.length g3, .int .i64 pad] 27))
  replace X := Lib.hid (X.out.push (.cells #[.bool mk, .int .u8 ty, .int .u16 sq, .int .u32 ti, .int .u32 so, .slice M1 mx.length g1, .bool ex, .int .u16 ek, .slice E1 et.length g2, .slice P1 pl.length g3, .int .i64 pad] 27))
  replace Ja := Lib.hid (Ja.out.push (.cells #[.bool mk, .int .u8 ty, .int .u16 sq, .int .u32 ti, .int .u32 so, .slice M1 mx.length g1, .bool ex, .int .u16 ek, .slice E1 et.length g2, .slice P1 pl.length g3, .int .i64 pad] 27))
  replace JM1 := Lib.hid (JM1.out.push (.cells #[.bool mk, .int .u8 ty, .int .u16 sq, .int .u32 ti, .int .u32 so, .slice M1 mx.length g1, .bool ex, .int .u16 ek, .slice E1 et.length g2, .slice P1 pl.length g3, .int .i64 pad] 27))
  replace JE1 := Lib.hid (JE1.out.push (.cells #[.bool mk, .int .u8 ty, .int .u16 sq, .int .u32 ti, .int .u32 so, .slice M1 mx.length g1, .bool ex, .int .u16 ek, .slice E1 et.length g2, .slice P1 pl.length g3, .int .i64 pad] 27))
  replace JP1 := Lib.hid (JP1.out.push (.cells #[.bool mk, .int .u8 ty, .int .u16 sq, .int .u32 ti, .int .u32 so, .slice M1 mx.length g1, .bool ex, .int .u16 ek, .slice E1 et.length g2, .slice P1 pl.length g3, .int .i64 pad] 27))
  have X1 := Lib.hid (Blk.new w2 27 #[.bool mk, .int .u8 ty, .int .u16 sq, .int .u32 ti, .int .u32 so, .slice M1 mx.length g1, .bool ex, .int .u16 ek, .slice E1 et.length g2, .slice P1 pl.length g3, .int .i64 pad])
  have c_X0 := X.out.at 0 _ rfl
  have c_X1 := X.out.at 1 _ rfl
  have c_X2 := X.out.at 2 _ rfl
  have c_X3 := X.out.at 3 _ rfl
  have c_X4 := X.out.at 4 _ rfl
  have c_X5 := X.out.at 5 _ rfl
  have c_X6 := X.out.at 6 _ rfl
  have c_X7 := X.out.at 7 _ rfl
  have c_X8 := X.out.at 8 _ rfl
  have c_X9 := X.out.at 9 _ rfl
  have c_X10 := X.out.at 10 _ rfl
  have c_X10 := X1.out.at 0 _ rfl
  have c_X11 := X1.out.at 1 _ rfl
  have c_X12 := X1.out.at 2 _ rfl
  have c_X13 := X1.out.at 3 _ rfl
  have c_X14 := X1.out.at 4 _ rfl
  have c_X15 := X1.out.at 5 _ rfl
  have c_X16 := X1.out.at 6 _ rfl
  have c_X17 := X1.out.at 7 _ rfl
  have c_X18 := X1.out.at 8 _ rfl
  have c_X19 := X1.out.at 9 _ rfl
  have c_X110 := X1.out.at 10 _ rfl
  go_wp2_with fail
  try clear c_X0
  try clear c_X1
  try clear c_X2
  try clear c_X3
  try clear c_X4
  try clear c_X5
  try clear c_X6
  try clear c_X7
  try clear c_X8
  try clear c_X9
  try clear c_X10
  try clear c_X10
  try clear c_X11
  try clear c_X12
  try clear c_X13
  try clear c_X14
  try clear c_X15
  try clear c_X16
  try clear c_X17
  try clear c_X18
  try clear c_X19
  try clear c_X110
  refine (rSame_any mk ty sq ti so mx ex ek et pl pad Am M1 Ae E1 Ap P1 cm g1 ce g2 cp g3 _ IM.out JM1.out IE.out JE1.out IP.out JP1.out (by omega)).mono ?_
  rintro e w3 ⟨rfl, hb3⟩
  replace U := Lib.hid (U.out.later hb3)
  replace IM := Lib.hid (IM.out.later hb3)
  replace IE := Lib.hid (IE.out.later hb3)
  replace IP := Lib.hid (IP.out.later hb3)
  replace IA := Lib.hid (IA.out.later hb3)
  replace X := Lib.hid (X.out.later hb3)
  replace Ja := Lib.hid (Ja.out.later hb3)
  replace JM1 := Lib.hid (JM1.out.later hb3)
  replace JE1 := Lib.hid (JE1.out.later hb3)
  replace JP1 := Lib.hid (JP1.out.later hb3)
  replace X1 := Lib.hid (X1.out.later hb3)
  clear hb3
  go_wp2_with fail
  refine (K2.out _ IA.out).mono ?_
  rintro e w4 ⟨M2, h1, E2, h2, P2, h3, rfl, ⟨jm2_, _⟩, ⟨je2_, _⟩, ⟨jp2_, _⟩, hb4⟩
  replace U := Lib.hid (U.out.later hb4)
  replace IM := Lib.hid (IM.out.later hb4)
  replace IE := Lib.hid (IE.out.later hb4)
  replace IP := Lib.hid (IP.out.later hb4)
  replace IA := Lib.hid (IA.out.later hb4)
  replace X := Lib.hid (X.out.later hb4)
  replace Ja := Lib.hid (Ja.out.later hb4)
  replace JM1 := Lib.hid (JM1.out.later hb4)
  replace JE1 := Lib.hid (JE1.out.later hb4)
  replace JP1 := Lib.hid (JP1.out.later hb4)
  replace X1 := Lib.hid (X1.out.later hb4)
  clear hb4
  have JM2 := Lib.hid jm2_
  clear jm2_
  have JE2 := Lib.hid je2_
  clear je2_
  have JP2 := Lib.hid jp2_
  clear jp2_
  simp only at JM2 JE2 JP2
  simp only [Pk.Pkt.row]
  replace U := Lib.hid (U.out.push (.cells #[.bool mk2, .int .u8 ty2, .int .u16 sq2, .int .u32 ti2, .int .u32 so2, .slice M2 mx2.length h1, .bool ex2, .int .u16 ek2, .slice E2 et2.length h2, .slice P2 pl2.length h3, .int .i64 pad2] 27))
  replace IM := Lib.hid (IM.out.push (.cells #[.bool mk2, .int .u8 ty2, .int .u16 sq2, .int .u32 ti2, .int .u32 so2, .slice M2 mx2.length h1, .bool ex2, .int .u16 ek2, .slice E2 et2.length h2, .slice P2 pl2.length h3, .int .i64 pad2] 27))
  replace IE := Lib.hid (IE.out.push (.cells #[.bool mk2, .int .u8 ty2, .int .u16 sq2, .int .u32 ti2, .int .u32 so2, .slice M2 mx2.length h1, .bool ex2, .int .u16 ek2, .slice E2 et2.length h2, .slice P2 pl2.length h3, .int .i64 pad2] 27))
  replace IP := Lib.hid (IP.out.push (.cells #[.bool mk2, .int .u8 ty2, .int .u16 sq2, .int .u32 ti2, .int .u32 so2, .slice M2 mx2.length h1, .bool ex2, .int .u16 ek2, .slice E2 et2.length h2, .slice P2 pl2.length h3, .int .i64 pad2] 27))
  replace IA := Lib.hid (IA.out.push (.cells #[.bool mk2, .int .u8 ty2, .int .u16 sq2, .int .u32 ti2, .int .u32 so2, .slice M2 mx2.length h1, .bool ex2, .int .u16 ek2, .slice E2 et2.length h2, .slice P2 pl2.length h3, .int .i64 pad2] 27))
  replace X := Lib.hid (X.out.push (.cells #[.bool mk2, .int .u8 ty2, .int .u16 sq2, .int .u32 ti2, .int .u32 so2, .slice M2 mx2.length h1, .bool ex2, .int .u16 ek2, .slice E2 et2.length h2, .slice P2 pl2.length h3, .int .i64 pad2] 27))
  replace Ja := Lib.hid (Ja.out.push (.cells #[.bool mk2, .int .u8 ty2, .int .u16 sq2, .int .u32 ti2, .int .u32 so2, .slice M2 mx2.length h1, .bool ex2, .int .u16 ek2, .slice E2 et2.length h2, .slice P2 pl2.length h3, .int .i64 pad2] 27))
  replace JM1 := Lib.hid (JM1.out.push (.cells #[.bool mk2, .int .u8 ty2, .int .u16 sq2, .int .u32 ti2, .int .u32 so2, .slice M2 mx2.length h1, .bool ex2, .int .u16 ek2, .slice E2 et2.length h2, .slice P2 pl2.length h3, .int .i64 pad2] 27))
  replace JE1 := Lib.hid (JE1.out.push (.cells #[.bool mk2, .int .u8 ty2, .int .u16 sq2, .int .u32 ti2, .int .u32 so2, .slice M2 mx2.length h1, .bool ex2, .int .u16 ek2, .slice E2 et2.length h2, .slice P2 pl2.length h3, .int .i64 pad2] 27))
  replace JP1 := Lib.hid (JP1.out.push (.cells #[.bool mk2, .int .u8 ty2, .int .u16 sq2, .int .u32 ti2, .int .u32 so2, .slice M2 mx2.length h1, .bool ex2, .int .u16 ek2, .slice E2 et2.length h2, .slice P2 pl2.length h3, .int .i64 pad2] 27))
  replace X1 := Lib.hid (X1.out.push (.cells #[.bool mk2, .int .u8 ty2, .int .u16 sq2, .int .u32 ti2, .int .u32 so2, .slice M2 mx2.length h1, .bool ex2, .int .u16 ek2, .slice E2 et2.length h2, .slice P2 pl2.length h3, .int .i64 pad2] 27))
  replace JM2 := Lib.hid (JM2.out.push (.cells #[.bool mk2, .int .u8 ty2, .int .u16 sq2, .int .u32 ti2, .int .u32 so2, .slice M2 mx2.length h1, .bool ex2, .int .u16 ek2, .slice E2 et2.length h2, .slice P2 pl2.length h3, .int .i64 pad2] 27))
  replace JE2 := Lib.hid (JE2.out.push (.cells #[.bool mk2, .int .u8 ty2, .int .u16 sq2, .int .u32 ti2, .int .u32 so2, .slice M2 mx2.length h1, .bool ex2, .int .u16 ek2, .slice E2 et2.length h2, .slice P2 pl2.length h3, .int .i64 pad2] 27))
  replace JP2 := Lib.hid (JP2.out.push (.cells #[.bool mk2, .int .u8 ty2, .int .u16 sq2, .int .u32 ti2, .int .u32 so2, .slice M2 mx2.length h1, .bool ex2, .int .u16 ek2, .slice E2 et2.length h2, .slice P2 pl2.length h3, .int .i64 pad2] 27))
  have X2 := Lib.hid (Blk.new w4 27 #[.bool mk2, .int .u8 ty2, .int .u16 sq2, .int .u32 ti2, .int .u32 so2, .slice M2 mx2.length h1, .bool ex2, .int .u16 ek2, .slice E2 et2.length h2, .slice P2 pl2.length h3, .int .i64 pad2])
  have c_X20 := X2.out.at 0 _ rfl
  have c_X21 := X2.out.at 1 _ rfl
  have c_X22 := X2.out.at 2 _ rfl
  have c_X23 := X2.out.at 3 _ rfl
  have c_X24 := X2.out.at 4 _ rfl
  have c_X25 := X2.out.at 5 _ rfl
  have c_X26 := X2.out.at 6 _ rfl
  have c_X27 := X2.out.at 7 _ rfl
  have c_X28 := X2.out.at 8 _ rfl
  have c_X29 := X2.out.at 9 _ rfl
  have c_X210 := X2.out.at 10 _ rfl
  go_wp2_with fail
  clear c_X20 c_X21 c_X22 c_X23 c_X24 c_X25 c_X26 c_X27 c_X28 c_X29 c_X210
  refine (K4.out _ _ _ _ _ _ _ JM2.out JE2.out JP2.out).mono ?_
  rintro e w5 ⟨A4, c4, rfl, _, ⟨jb_, _⟩, hb5⟩
  replace U := Lib.hid (U.out.later hb5)
  replace IM := Lib.hid (IM.out.later hb5)
  replace IE := Lib.hid (IE.out.later hb5)
  replace IP := Lib.hid (IP.out.later hb5)
  replace IA := Lib.hid (IA.out.later hb5)
  replace X := Lib.hid (X.out.later hb5)
  replace Ja := Lib.hid (Ja.out.later hb5)
  replace JM1 := Lib.hid (JM1.out.later hb5)
  replace JE1 := Lib.hid (JE1.out.later hb5)
  replace JP1 := Lib.hid (JP1.out.later hb5)
  replace X1 := Lib.hid (X1.out.later hb5)
  replace JM2 := Lib.hid (JM2.out.later hb5)
  replace JE2 := Lib.hid (JE2.out.later hb5)
  replace JP2 := Lib.hid (JP2.out.later hb5)
  replace X2 := Lib.hid (X2.out.later hb5)
  clear hb5
  have Jb := Lib.hid jb_
  clear jb_
  simp only at Jb
  have hv1 := run_convert_ints Jb.out 25 9 5 Try.underlying25 Try.underlying5 Try.underlying9 bs.length c4 rfl
  have hv2 := run_convert_ints IA.out 25 9 5 Try.underlying25 Try.underlying5 Try.underlying9 bs.length cap rfl
  go_wp2_with fail
  clear hv1 hv2
  refine (lives25 _).mono ?_
  rintro e w6 ⟨rfl, hb6⟩
  replace U := Lib.hid (U.out.later hb6)
  replace IM := Lib.hid (IM.out.later hb6)
  replace IE := Lib.hid (IE.out.later hb6)
  replace IP := Lib.hid (IP.out.later hb6)
  replace IA := Lib.hid (IA.out.later hb6)
  replace X := Lib.hid (X.out.later hb6)
  replace Ja := Lib.hid (Ja.out.later hb6)
  replace JM1 := Lib.hid (JM1.out.later hb6)
  replace JE1 := Lib.hid (JE1.out.later hb6)
  replace JP1 := Lib.hid (JP1.out.later hb6)
  replace X1 := Lib.hid (X1.out.later hb6)
  replace JM2 := Lib.hid (JM2.out.later hb6)
  replace JE2 := Lib.hid (JE2.out.later hb6)
  replace JP2 := Lib.hid (JP2.out.later hb6)
  replace X2 := Lib.hid (X2.out.later hb6)
  replace Jb := Lib.hid (Jb.out.later hb6)
  clear hb6
  go_wp2_with fail
  go_ret
  exact ⟨by simp, U.out⟩
set_option maxRecDepth 100000 in
set_option maxHeartbeats 6400000 in
theorem walk (w : World) (mk : Bool) (ty sq ti so : Int) (Am : Option Addr) (mx : List Int) (cm : Nat) (ex : Bool) (ek : Int) (Ae : Option Addr) (et : List Int) (ce : Nat) (Ap : Option Addr) (pl : List Int) (cp : Nat) (pad : Int) (hok : TPk.ok w ⟨mk, ty, sq, ti, so, Am, mx, cm, ex, ek, Ae, et, ce, Ap, pl, cp, pad⟩) (A : Option Addr) (bs : List Int) (cap : Nat) (hl : bs.length ≤ cap) (hm : cap ≤ maxLen) (hA : IntsAt w w.heap.size .u8 A bs) (hw : ∀ z ∈ bs, (Lit.int .u8 z).wf = true) :
    Calls Try.prog 5 #[.agg #[.bool mk, .int .u8 ty, .int .u16 sq, .int .u32 ti, .int .u32 so, .slice Am mx.length cm, .bool ex, .int .u16 ek, .slice Ae et.length ce, .slice Ap pl.length cp, .int .i64 pad], .slice A bs.length cap] w fun e w' => e = .returned (.bool true) ∧ Below w.heap.size w w' := by
  obtain ⟨⟨ty0, ty1⟩, ⟨sq0, sq1⟩, ⟨ti0, ti1⟩, ⟨so0, so1⟩, ⟨ek0, ek1⟩, ⟨pd0, pd1⟩, ⟨hM, hMz, hMl⟩, ⟨hE, hEz, hEl⟩, ⟨hP, hPz, hPl⟩⟩ := TPk.facts mk ty sq ti so Am mx cm ex ek Ae et ce Ap pl cp pad hok
  unfold maxLen at hMl hEl hPl
  clear hok
  have hz : Within 0 255 bs := fun z hz => wf_u8 (hw z hz)
  unfold maxLen at hm
  by_cases hlong : 100 < mx.length ∨ 3000 < et.length ∨ 3000 < pl.length ∨ 6000 < bs.length
  · clear hM hE hP hMz hEz hPz hA hz hw
    have hcs : 100 < (mx.length : Int) ∨ (mx.length : Int) ≤ 100 ∧ 3000 < (et.length : Int) ∨ (mx.length : Int) ≤ 100 ∧ (et.length : Int) ≤ 3000 ∧ 3000 < (pl.length : Int) ∨ (mx.length : Int) ≤ 100 ∧ (et.length : Int) ≤ 3000 ∧ (pl.length : Int) ≤ 3000 ∧ 6000 < (bs.length : Int) := by omega
    clear hlong
    rcases hcs with h1 | ⟨h1, h2⟩ | ⟨h1, h2, h3⟩ | ⟨h1, h2, h3, h4⟩
    all_goals
      go_enter Try.func5, Try.ntmps5
      go_wp2_with fail
      refine (lives25 _).mono ?_
      rintro e w1 ⟨rfl, hb⟩
      go_wp2_with fail
      go_ret
      exact ⟨rfl, (((Below.refl _ _).alloc (Nat.le_refl _) _).trans (hb.mono (by simp)))⟩
  have l1 : (mx.length : Int) ≤ 100 := by omega
  have l2 : (et.length : Int) ≤ 3000 := by omega
  have l3 : (pl.length : Int) ≤ 3000 := by omega
  have l4 : (bs.length : Int) ≤ 6000 := by omega
  have k1 := fun W h1 h2 h3 => Encode_cap mk ty sq ti so Am mx cm ek Ae et ce Ap pl cp pad W ex ty0 sq0 sq1 ti0 ti1 so0 so1 ek0 ek1 (by omega) (by omega) (by omega) hMz h1 h2 h3
  have hge := fun he : Pk.err ⟨mk, ty, sq, ti, so, mx, ex, ek, et, pl, pad⟩ = 0 => Pk.Good.of he ty0 ⟨sq0, sq1⟩ ⟨ti0, ti1⟩ ⟨so0, so1⟩ ⟨ek0, ek1⟩ hMz hEz hPz
  have k2 := fun W h => Decode_any A bs cap W h hz (by omega) hl
  have hdok := Pk.dec_ok bs hz
  have hdbad := Pk.dec_bad bs hz
  obtain ⟨D, hD⟩ : ∃ D, D = Pk.dec bs := ⟨_, rfl⟩
  rw [← hD] at k2 hdok hdbad
  obtain ⟨q, at2, er2⟩ := D
  have dec_ok : er2 = 0 → Pk.enc q = (bs, 0) ∧ ∃ N, q = Pk.pkt bs N ∧ Pk.bodyAt bs + N ≤ bs.length ∧ (Pk.chk bs).2 = 0 := fun h => hdok q at2 (by rw [h])
  have dec_bad : er2 ≠ 0 → q = Pk.Pkt.zero ∧ 0 ≤ at2 ∧ at2 ≤ bs.length := fun h => hdbad q at2 er2 rfl h
  clear hdok hdbad hD
  by_cases he : Pk.err ⟨mk, ty, sq, ti, so, mx, ex, ek, et, pl, pad⟩ = 0
  · have g := hge he
    have e1 : Pk.enc ⟨mk, ty, sq, ti, so, mx, ex, ek, et, pl, pad⟩ = (Pk.bytes ⟨mk, ty, sq, ti, so, mx, ex, ek, et, pl, pad⟩, 0) := by unfold Pk.enc; rw [if_pos he]
    rw [e1] at k1
    obtain ⟨bz, b12, b6⟩ := Pk.bytes_facts g
    have hde := Pk.dec_enc g
    have k3 := fun A C W h hC => Decode_any A (Pk.bytes ⟨mk, ty, sq, ti, so, mx, ex, ek, et, pl, pad⟩) C W h bz (by omega) hC
    rw [hde] at k3
    by_cases h2 : er2 = 0
    · subst h2
      obtain ⟨e4, N, rfl, _, hchk⟩ := dec_ok rfl
      obtain ⟨f1, ⟨f2, f3⟩, ⟨f4, f5⟩, ⟨f6, f7⟩, ⟨f8, f9⟩, f10, f11, f12, f13⟩ := Pk.pkt_facts bs hz N hchk
      generalize Pk.pkt bs N = q at *
      obtain ⟨mk2, ty2, sq2, ti2, so2, mx2, ex2, ek2, et2, pl2, pad2⟩ := q
      simp only at f1 f2 f3 f4 f5 f6 f7 f8 f9 f10 f11 f12 f13
      have k4 := fun M2 c2 E2 d2 P2 f2' W h1 h2 h3 => Encode_cap mk2 ty2 sq2 ti2 so2 M2 mx2 c2 ek2 E2 et2 d2 P2 pl2 f2' pad2 W ex2 f1 f2 f3 f4 f5 f6 f7 f8 f9 (by omega) (by omega) (by omega) f10 h1 h2 h3
      rw [e4] at k4
      exact part_11 w mk ty sq ti so Am mx cm ex ek Ae et ce Ap pl cp pad A bs cap hM hE hP hA hl l1 l2 l3 l4 _ b6 (Lib.hid k3) (Lib.hid k1) mk2 ty2 sq2 ti2 so2 mx2 ex2 ek2 et2 pl2 pad2 at2 (Lib.hid k4) (Lib.hid k2)
    · obtain ⟨rfl, a0, a1⟩ := dec_bad h2
      exact part_10 w mk ty sq ti so Am mx cm ex ek Ae et ce Ap pl cp pad A bs cap hM hE hP hA hl l1 l2 l3 l4 _ b6 (Lib.hid k3) (Lib.hid k1) at2 er2 (by simpa using h2) a0 a1 (Lib.hid k2)
  · have e1 : Pk.enc ⟨mk, ty, sq, ti, so, mx, ex, ek, et, pl, pad⟩ = ([], Pk.err ⟨mk, ty, sq, ti, so, mx, ex, ek, et, pl, pad⟩) := by unfold Pk.enc; rw [if_neg he]
    rw [e1] at k1
    by_cases h2 : er2 = 0
    · subst h2
      obtain ⟨e4, N, rfl, _, hchk⟩ := dec_ok rfl
      obtain ⟨f1, ⟨f2, f3⟩, ⟨f4, f5⟩, ⟨f6, f7⟩, ⟨f8, f9⟩, f10, f11, f12, f13⟩ := Pk.pkt_facts bs hz N hchk
      generalize Pk.pkt bs N = q at *
      obtain ⟨mk2, ty2, sq2, ti2, so2, mx2, ex2, ek2, et2, pl2, pad2⟩ := q
      simp only at f1 f2 f3 f4 f5 f6 f7 f8 f9 f10 f11 f12 f13
      have k4 := fun M2 c2 E2 d2 P2 f2' W h1 h2 h3 => Encode_cap mk2 ty2 sq2 ti2 so2 M2 mx2 c2 ek2 E2 et2 d2 P2 pl2 f2' pad2 W ex2 f1 f2 f3 f4 f5 f6 f7 f8 f9 (by omega) (by omega) (by omega) f10 h1 h2 h3
      rw [e4] at k4
      exact part_01 w mk ty sq ti so Am mx cm ex ek Ae et ce Ap pl cp pad A bs cap hM hE hP hA hl l1 l2 l3 l4 _ (by simpa using he) (Lib.hid k1) mk2 ty2 sq2 ti2 so2 mx2 ex2 ek2 et2 pl2 pad2 at2 (Lib.hid k4) (Lib.hid k2)
    · obtain ⟨rfl, a0, a1⟩ := dec_bad h2
      exact part_00 w mk ty sq ti so Am mx cm ex ek Ae et ce Ap pl cp pad A bs cap hM hE hP hA hl l1 l2 l3 l4 _ (by simpa using he) (Lib.hid k1) at2 er2 (by simpa using h2) a0 a1 (Lib.hid k2)
end Go.Proofs.Ytbpcpgmbfnmacaa.packetBack

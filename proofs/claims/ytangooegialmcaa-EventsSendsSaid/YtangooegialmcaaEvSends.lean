/- Layer 29, EventsSends: for every sender and arguments the law returns true. -/
import Derived.Test.YtangooegialmcaaEvLives
namespace Go.Proofs.Ytangooegialmcaa.eventsSends
open Go.RowKit
set_option linter.unusedVariables false
set_option linter.unusedSimpArgs false
set_option maxRecDepth 100000 in
set_option maxHeartbeats 3200000 in
theorem walk (w : World) (on : Bool) (sc sv ss sl se c : Int) (w1 : (Lit.int .u8 c).wf = true) (v : Int) (w2 : (Lit.int .u8 v).wf = true) (t : Int) (w3 : (Lit.int .u32 t).wf = true) (n : Int) (w4 : (Lit.int .i64 n).wf = true) :
    Calls Try.prog 6 #[.agg #[.bool on, .int .u8 sc, .int .u8 sv, .int .u32 ss, .int .i64 sl, .int .i64 se], .int .u8 c, .int .u8 v, .int .u32 t, .int .i64 n] w fun e w' => e = .returned (.bool true) ∧ Below w.heap.size w w' := by
  clear w1 w2 w3 w4
  have k1 := fun W => Press_any on sc sv ss sl se c v t W
  have k2 := fun W => rPress_any on sc sv ss sl se c v t W
  have k3 := fun W => Release_any on sc sv ss sl se W
  have k4 := fun W => rRelease_any on sc sv ss sl se W
  have k5 := fun W => Next_any on sc sv ss sl se n W
  have k6 := fun W => rNext_any on sc sv ss sl se n W
  generalize Ev.press ⟨on, sc, sv, ss, sl, se⟩ c v t = R1 at k1 k2
  generalize Ev.release ⟨on, sc, sv, ss, sl, se⟩ = R2 at k3 k4
  generalize Ev.next ⟨on, sc, sv, ss, sl, se⟩ n = R3 at k5 k6
  obtain ⟨⟨a0, a1, a2, a3, a4, a5⟩, e1⟩ := R1
  obtain ⟨⟨b0, b1, b2, b3, b4, b5⟩, e2⟩ := R2
  obtain ⟨⟨x0, x1, x2, x3, x4, x5⟩, ⟨o0, o1, ⟨o2, o3, o4, o5⟩⟩, sm, e3⟩ := R3
  simp only [Ev.Snd.row] at k1 k2 k3 k4 k5 k6
  replace k1 := Lib.hid k1
  replace k2 := Lib.hid k2
  replace k3 := Lib.hid k3
  replace k4 := Lib.hid k4
  replace k5 := Lib.hid k5
  replace k6 := Lib.hid k6
  go_enter Try.func6, Try.ntmps6
  have U := Lib.hid (Bel.refl w)
  go_wp2_with fail
  replace U := Lib.hid (U.out.push (.cells #[.bool on, .int .u8 sc, .int .u8 sv, .int .u32 ss, .int .i64 sl, .int .i64 se] 49))
  have B0 := Lib.hid (Blk.new w 49 #[.bool on, .int .u8 sc, .int .u8 sv, .int .u32 ss, .int .i64 sl, .int .i64 se])
  refine (k1.out _).mono ?_
  rintro e w1 ⟨rfl, hb1⟩
  replace U := Lib.hid (U.out.later hb1)
  replace B0 := Lib.hid (B0.out.later hb1)
  clear hb1
  replace U := Lib.hid (U.out.push (.cells #[.bool a0, .int .u8 a1, .int .u8 a2, .int .u32 a3, .int .i64 a4, .int .i64 a5] 49))
  replace B0 := Lib.hid (B0.out.push (.cells #[.bool a0, .int .u8 a1, .int .u8 a2, .int .u32 a3, .int .i64 a4, .int .i64 a5] 49))
  have B1 := Lib.hid (Blk.new w1 49 #[.bool a0, .int .u8 a1, .int .u8 a2, .int .u32 a3, .int .i64 a4, .int .i64 a5])
  have c_B00 := B0.out.at 0 _ rfl
  have c_B01 := B0.out.at 1 _ rfl
  have c_B02 := B0.out.at 2 _ rfl
  have c_B03 := B0.out.at 3 _ rfl
  have c_B04 := B0.out.at 4 _ rfl
  have c_B05 := B0.out.at 5 _ rfl
  go_wp2_with fail
  clear c_B00 c_B01 c_B02 c_B03 c_B04 c_B05
  refine (k2.out _).mono ?_
  rintro e w2 ⟨rfl, hb2⟩
  replace U := Lib.hid (U.out.later hb2)
  replace B0 := Lib.hid (B0.out.later hb2)
  replace B1 := Lib.hid (B1.out.later hb2)
  clear hb2
  replace U := Lib.hid (U.out.push (.cells #[.bool a0, .int .u8 a1, .int .u8 a2, .int .u32 a3, .int .i64 a4, .int .i64 a5] 49))
  replace B0 := Lib.hid (B0.out.push (.cells #[.bool a0, .int .u8 a1, .int .u8 a2, .int .u32 a3, .int .i64 a4, .int .i64 a5] 49))
  replace B1 := Lib.hid (B1.out.push (.cells #[.bool a0, .int .u8 a1, .int .u8 a2, .int .u32 a3, .int .i64 a4, .int .i64 a5] 49))
  have B2 := Lib.hid (Blk.new w2 49 #[.bool a0, .int .u8 a1, .int .u8 a2, .int .u32 a3, .int .i64 a4, .int .i64 a5])
  have c_B00 := B0.out.at 0 _ rfl
  have c_B01 := B0.out.at 1 _ rfl
  have c_B02 := B0.out.at 2 _ rfl
  have c_B03 := B0.out.at 3 _ rfl
  have c_B04 := B0.out.at 4 _ rfl
  have c_B05 := B0.out.at 5 _ rfl
  go_wp2_with fail
  clear c_B00 c_B01 c_B02 c_B03 c_B04 c_B05
  refine (k3.out _).mono ?_
  rintro e w3 ⟨rfl, hb3⟩
  replace U := Lib.hid (U.out.later hb3)
  replace B0 := Lib.hid (B0.out.later hb3)
  replace B1 := Lib.hid (B1.out.later hb3)
  replace B2 := Lib.hid (B2.out.later hb3)
  clear hb3
  replace U := Lib.hid (U.out.push (.cells #[.bool b0, .int .u8 b1, .int .u8 b2, .int .u32 b3, .int .i64 b4, .int .i64 b5] 49))
  replace B0 := Lib.hid (B0.out.push (.cells #[.bool b0, .int .u8 b1, .int .u8 b2, .int .u32 b3, .int .i64 b4, .int .i64 b5] 49))
  replace B1 := Lib.hid (B1.out.push (.cells #[.bool b0, .int .u8 b1, .int .u8 b2, .int .u32 b3, .int .i64 b4, .int .i64 b5] 49))
  replace B2 := Lib.hid (B2.out.push (.cells #[.bool b0, .int .u8 b1, .int .u8 b2, .int .u32 b3, .int .i64 b4, .int .i64 b5] 49))
  have B3 := Lib.hid (Blk.new w3 49 #[.bool b0, .int .u8 b1, .int .u8 b2, .int .u32 b3, .int .i64 b4, .int .i64 b5])
  have c_B00 := B0.out.at 0 _ rfl
  have c_B01 := B0.out.at 1 _ rfl
  have c_B02 := B0.out.at 2 _ rfl
  have c_B03 := B0.out.at 3 _ rfl
  have c_B04 := B0.out.at 4 _ rfl
  have c_B05 := B0.out.at 5 _ rfl
  go_wp2_with fail
  clear c_B00 c_B01 c_B02 c_B03 c_B04 c_B05
  refine (k4.out _).mono ?_
  rintro e w4 ⟨rfl, hb4⟩
  replace U := Lib.hid (U.out.later hb4)
  replace B0 := Lib.hid (B0.out.later hb4)
  replace B1 := Lib.hid (B1.out.later hb4)
  replace B2 := Lib.hid (B2.out.later hb4)
  replace B3 := Lib.hid (B3.out.later hb4)
  clear hb4
  replace U := Lib.hid (U.out.push (.cells #[.bool b0, .int .u8 b1, .int .u8 b2, .int .u32 b3, .int .i64 b4, .int .i64 b5] 49))
  replace B0 := Lib.hid (B0.out.push (.cells #[.bool b0, .int .u8 b1, .int .u8 b2, .int .u32 b3, .int .i64 b4, .int .i64 b5] 49))
  replace B1 := Lib.hid (B1.out.push (.cells #[.bool b0, .int .u8 b1, .int .u8 b2, .int .u32 b3, .int .i64 b4, .int .i64 b5] 49))
  replace B2 := Lib.hid (B2.out.push (.cells #[.bool b0, .int .u8 b1, .int .u8 b2, .int .u32 b3, .int .i64 b4, .int .i64 b5] 49))
  replace B3 := Lib.hid (B3.out.push (.cells #[.bool b0, .int .u8 b1, .int .u8 b2, .int .u32 b3, .int .i64 b4, .int .i64 b5] 49))
  have B4 := Lib.hid (Blk.new w4 49 #[.bool b0, .int .u8 b1, .int .u8 b2, .int .u32 b3, .int .i64 b4, .int .i64 b5])
  have c_B00 := B0.out.at 0 _ rfl
  have c_B01 := B0.out.at 1 _ rfl
  have c_B02 := B0.out.at 2 _ rfl
  have c_B03 := B0.out.at 3 _ rfl
  have c_B04 := B0.out.at 4 _ rfl
  have c_B05 := B0.out.at 5 _ rfl
  go_wp2_with fail
  clear c_B00 c_B01 c_B02 c_B03 c_B04 c_B05
  refine (k5.out _).mono ?_
  rintro e w5 ⟨rfl, hb5⟩
  replace U := Lib.hid (U.out.later hb5)
  replace B0 := Lib.hid (B0.out.later hb5)
  replace B1 := Lib.hid (B1.out.later hb5)
  replace B2 := Lib.hid (B2.out.later hb5)
  replace B3 := Lib.hid (B3.out.later hb5)
  replace B4 := Lib.hid (B4.out.later hb5)
  clear hb5
  replace U := Lib.hid (U.out.push (.cells #[.bool x0, .int .u8 x1, .int .u8 x2, .int .u32 x3, .int .i64 x4, .int .i64 x5] 49))
  replace B0 := Lib.hid (B0.out.push (.cells #[.bool x0, .int .u8 x1, .int .u8 x2, .int .u32 x3, .int .i64 x4, .int .i64 x5] 49))
  replace B1 := Lib.hid (B1.out.push (.cells #[.bool x0, .int .u8 x1, .int .u8 x2, .int .u32 x3, .int .i64 x4, .int .i64 x5] 49))
  replace B2 := Lib.hid (B2.out.push (.cells #[.bool x0, .int .u8 x1, .int .u8 x2, .int .u32 x3, .int .i64 x4, .int .i64 x5] 49))
  replace B3 := Lib.hid (B3.out.push (.cells #[.bool x0, .int .u8 x1, .int .u8 x2, .int .u32 x3, .int .i64 x4, .int .i64 x5] 49))
  replace B4 := Lib.hid (B4.out.push (.cells #[.bool x0, .int .u8 x1, .int .u8 x2, .int .u32 x3, .int .i64 x4, .int .i64 x5] 49))
  have B5 := Lib.hid (Blk.new w5 49 #[.bool x0, .int .u8 x1, .int .u8 x2, .int .u32 x3, .int .i64 x4, .int .i64 x5])
  replace U := Lib.hid (U.out.push (.cells #[.int .u32 o0, .bool o1, .int .u8 o2, .bool o3, .int .u8 o4, .int .u16 o5] 55))
  replace B0 := Lib.hid (B0.out.push (.cells #[.int .u32 o0, .bool o1, .int .u8 o2, .bool o3, .int .u8 o4, .int .u16 o5] 55))
  replace B1 := Lib.hid (B1.out.push (.cells #[.int .u32 o0, .bool o1, .int .u8 o2, .bool o3, .int .u8 o4, .int .u16 o5] 55))
  replace B2 := Lib.hid (B2.out.push (.cells #[.int .u32 o0, .bool o1, .int .u8 o2, .bool o3, .int .u8 o4, .int .u16 o5] 55))
  replace B3 := Lib.hid (B3.out.push (.cells #[.int .u32 o0, .bool o1, .int .u8 o2, .bool o3, .int .u8 o4, .int .u16 o5] 55))
  replace B4 := Lib.hid (B4.out.push (.cells #[.int .u32 o0, .bool o1, .int .u8 o2, .bool o3, .int .u8 o4, .int .u16 o5] 55))
  replace B5 := Lib.hid (B5.out.push (.cells #[.int .u32 o0, .bool o1, .int .u8 o2, .bool o3, .int .u8 o4, .int .u16 o5] 55))
  have B6 := Lib.hid (Blk.new1 w5 (.cells #[.bool x0, .int .u8 x1, .int .u8 x2, .int .u32 x3, .int .i64 x4, .int .i64 x5] 49) 55 #[.int .u32 o0, .bool o1, .int .u8 o2, .bool o3, .int .u8 o4, .int .u16 o5])
  have c_B00 := B0.out.at 0 _ rfl
  have c_B01 := B0.out.at 1 _ rfl
  have c_B02 := B0.out.at 2 _ rfl
  have c_B03 := B0.out.at 3 _ rfl
  have c_B04 := B0.out.at 4 _ rfl
  have c_B05 := B0.out.at 5 _ rfl
  go_wp2_with fail
  clear c_B00 c_B01 c_B02 c_B03 c_B04 c_B05
  refine (k6.out _).mono ?_
  rintro e w6 ⟨rfl, hb6⟩
  replace U := Lib.hid (U.out.later hb6)
  replace B0 := Lib.hid (B0.out.later hb6)
  replace B1 := Lib.hid (B1.out.later hb6)
  replace B2 := Lib.hid (B2.out.later hb6)
  replace B3 := Lib.hid (B3.out.later hb6)
  replace B4 := Lib.hid (B4.out.later hb6)
  replace B5 := Lib.hid (B5.out.later hb6)
  replace B6 := Lib.hid (B6.out.later hb6)
  clear hb6
  replace U := Lib.hid (U.out.push (.cells #[.bool x0, .int .u8 x1, .int .u8 x2, .int .u32 x3, .int .i64 x4, .int .i64 x5] 49))
  replace B0 := Lib.hid (B0.out.push (.cells #[.bool x0, .int .u8 x1, .int .u8 x2, .int .u32 x3, .int .i64 x4, .int .i64 x5] 49))
  replace B1 := Lib.hid (B1.out.push (.cells #[.bool x0, .int .u8 x1, .int .u8 x2, .int .u32 x3, .int .i64 x4, .int .i64 x5] 49))
  replace B2 := Lib.hid (B2.out.push (.cells #[.bool x0, .int .u8 x1, .int .u8 x2, .int .u32 x3, .int .i64 x4, .int .i64 x5] 49))
  replace B3 := Lib.hid (B3.out.push (.cells #[.bool x0, .int .u8 x1, .int .u8 x2, .int .u32 x3, .int .i64 x4, .int .i64 x5] 49))
  replace B4 := Lib.hid (B4.out.push (.cells #[.bool x0, .int .u8 x1, .int .u8 x2, .int .u32 x3, .int .i64 x4, .int .i64 x5] 49))
  replace B5 := Lib.hid (B5.out.push (.cells #[.bool x0, .int .u8 x1, .int .u8 x2, .int .u32 x3, .int .i64 x4, .int .i64 x5] 49))
  replace B6 := Lib.hid (B6.out.push (.cells #[.bool x0, .int .u8 x1, .int .u8 x2, .int .u32 x3, .int .i64 x4, .int .i64 x5] 49))
  have B7 := Lib.hid (Blk.new w6 49 #[.bool x0, .int .u8 x1, .int .u8 x2, .int .u32 x3, .int .i64 x4, .int .i64 x5])
  replace U := Lib.hid (U.out.push (.cells #[.int .u32 o0, .bool o1, .int .u8 o2, .bool o3, .int .u8 o4, .int .u16 o5] 55))
  replace B0 := Lib.hid (B0.out.push (.cells #[.int .u32 o0, .bool o1, .int .u8 o2, .bool o3, .int .u8 o4, .int .u16 o5] 55))
  replace B1 := Lib.hid (B1.out.push (.cells #[.int .u32 o0, .bool o1, .int .u8 o2, .bool o3, .int .u8 o4, .int .u16 o5] 55))
  replace B2 := Lib.hid (B2.out.push (.cells #[.int .u32 o0, .bool o1, .int .u8 o2, .bool o3, .int .u8 o4, .int .u16 o5] 55))
  replace B3 := Lib.hid (B3.out.push (.cells #[.int .u32 o0, .bool o1, .int .u8 o2, .bool o3, .int .u8 o4, .int .u16 o5] 55))
  replace B4 := Lib.hid (B4.out.push (.cells #[.int .u32 o0, .bool o1, .int .u8 o2, .bool o3, .int .u8 o4, .int .u16 o5] 55))
  replace B5 := Lib.hid (B5.out.push (.cells #[.int .u32 o0, .bool o1, .int .u8 o2, .bool o3, .int .u8 o4, .int .u16 o5] 55))
  replace B6 := Lib.hid (B6.out.push (.cells #[.int .u32 o0, .bool o1, .int .u8 o2, .bool o3, .int .u8 o4, .int .u16 o5] 55))
  replace B7 := Lib.hid (B7.out.push (.cells #[.int .u32 o0, .bool o1, .int .u8 o2, .bool o3, .int .u8 o4, .int .u16 o5] 55))
  have B8 := Lib.hid (Blk.new1 w6 (.cells #[.bool x0, .int .u8 x1, .int .u8 x2, .int .u32 x3, .int .i64 x4, .int .i64 x5] 49) 55 #[.int .u32 o0, .bool o1, .int .u8 o2, .bool o3, .int .u8 o4, .int .u16 o5])
  clear B0
  have c_B10 := B1.out.at 0 _ rfl
  have c_B11 := B1.out.at 1 _ rfl
  have c_B12 := B1.out.at 2 _ rfl
  have c_B13 := B1.out.at 3 _ rfl
  have c_B14 := B1.out.at 4 _ rfl
  have c_B15 := B1.out.at 5 _ rfl
  have c_B20 := B2.out.at 0 _ rfl
  have c_B21 := B2.out.at 1 _ rfl
  have c_B22 := B2.out.at 2 _ rfl
  have c_B23 := B2.out.at 3 _ rfl
  have c_B24 := B2.out.at 4 _ rfl
  have c_B25 := B2.out.at 5 _ rfl
  have c_B30 := B3.out.at 0 _ rfl
  have c_B31 := B3.out.at 1 _ rfl
  have c_B32 := B3.out.at 2 _ rfl
  have c_B33 := B3.out.at 3 _ rfl
  have c_B34 := B3.out.at 4 _ rfl
  have c_B35 := B3.out.at 5 _ rfl
  have c_B40 := B4.out.at 0 _ rfl
  have c_B41 := B4.out.at 1 _ rfl
  have c_B42 := B4.out.at 2 _ rfl
  have c_B43 := B4.out.at 3 _ rfl
  have c_B44 := B4.out.at 4 _ rfl
  have c_B45 := B4.out.at 5 _ rfl
  have c_B50 := B5.out.at 0 _ rfl
  have c_B51 := B5.out.at 1 _ rfl
  have c_B52 := B5.out.at 2 _ rfl
  have c_B53 := B5.out.at 3 _ rfl
  have c_B54 := B5.out.at 4 _ rfl
  have c_B55 := B5.out.at 5 _ rfl
  have c_B60 := B6.out.at 0 _ rfl
  have c_B61 := B6.out.at 1 _ rfl
  have c_B62 := B6.out.at 2 _ rfl
  have c_B63 := B6.out.at 3 _ rfl
  have c_B64 := B6.out.at 4 _ rfl
  have c_B65 := B6.out.at 5 _ rfl
  have c_B70 := B7.out.at 0 _ rfl
  have c_B71 := B7.out.at 1 _ rfl
  have c_B72 := B7.out.at 2 _ rfl
  have c_B73 := B7.out.at 3 _ rfl
  have c_B74 := B7.out.at 4 _ rfl
  have c_B75 := B7.out.at 5 _ rfl
  have c_B80 := B8.out.at 0 _ rfl
  have c_B81 := B8.out.at 1 _ rfl
  have c_B82 := B8.out.at 2 _ rfl
  have c_B83 := B8.out.at 3 _ rfl
  have c_B84 := B8.out.at 4 _ rfl
  have c_B85 := B8.out.at 5 _ rfl
  go_wp2_with fail
  clear c_B10 c_B11 c_B12 c_B13 c_B14 c_B15 c_B20 c_B21 c_B22 c_B23 c_B24 c_B25 c_B30 c_B31 c_B32 c_B33 c_B34 c_B35 c_B40 c_B41 c_B42 c_B43 c_B44 c_B45 c_B50 c_B51 c_B52 c_B53 c_B54 c_B55 c_B60 c_B61 c_B62 c_B63 c_B64 c_B65 c_B70 c_B71 c_B72 c_B73 c_B74 c_B75 c_B80 c_B81 c_B82 c_B83 c_B84 c_B85
  refine (lives29 _).mono ?_
  rintro e w7 ⟨rfl, hb7⟩
  replace U := Lib.hid (U.out.later hb7)
  replace B1 := Lib.hid (B1.out.later hb7)
  replace B2 := Lib.hid (B2.out.later hb7)
  replace B3 := Lib.hid (B3.out.later hb7)
  replace B4 := Lib.hid (B4.out.later hb7)
  replace B5 := Lib.hid (B5.out.later hb7)
  replace B6 := Lib.hid (B6.out.later hb7)
  replace B7 := Lib.hid (B7.out.later hb7)
  replace B8 := Lib.hid (B8.out.later hb7)
  clear hb7
  go_wp2_with fail
  go_ret
  exact ⟨rfl, U.out⟩
end Go.Proofs.Ytangooegialmcaa.eventsSends

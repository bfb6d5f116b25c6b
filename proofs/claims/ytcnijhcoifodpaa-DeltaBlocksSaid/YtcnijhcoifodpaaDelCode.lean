/- Layer 28: Encode and Decode of the program and of the reference. -/
import Derived.Test.YtcnijhcoifodpaaDelFuns
import Derived.Test.YtcnijhcoifodpaaBlk
namespace Go.Proofs.Ytcnijhcoifodpaa
open Go.RowKit
set_option linter.unusedVariables false
attribute [local go_sem ↓] run_min_plain run_max_plain
attribute [local go_sem] setCell_drewN alloc_drewN

theorem szA_size : Dlt.szA.size = 89 := by simp [Dlt.szA, Dlt.szL]
theorem szA_info : (Try.prog.info? 46).map (·.size) = some Dlt.szA.size := by rw [szA_size]; exact info89
theorem szA_one : Dlt.szA.all (·.oneCell') = true := all_oneCell_toArray Dlt.szL_one
/-- the world behind 'l := sizes()', l in a new block -/
def laidW (w : World) : World := (w.alloc (.cells Dlt.zeroA 46)).setCells w.heap.size 0 Dlt.szA.toList
theorem laid_there (w : World) : (w.alloc (.cells Dlt.zeroA 46)).there w.heap.size 0 Dlt.szA.size := by
  rw [szA_size]; exact row_there (zeroRow w)
theorem laid_below (w : World) : Below w.heap.size w (laidW w) := below_setCells (Nat.le_refl _) _ _ _ ((Below.refl _ _).alloc (Nat.le_refl _) _)
theorem laid_size (w : World) : w.heap.size < (laidW w).heap.size := by
  have h := (below_setCells (Nat.le_refl w.heap.size) Dlt.szA.toList 0 (w.alloc (.cells Dlt.zeroA 46)) (Below.refl _ (w.alloc (.cells Dlt.zeroA 46)))).size
  simp at h
  show w.heap.size < (World.setCells _ _ _ _).heap.size
  omega
theorem laid_steps (w : World) : StepsAt (laidW w) w.heap.size := by
  refine ⟨laid_size w, fun n hn => ?_⟩
  have h := World.rangeAt_setCells_same (w.alloc (.cells Dlt.zeroA 46)) w.heap.size 0 Dlt.szL (by rw [Dlt.szL_len, ← szA_size]; exact laid_there w)
  have := h n _ (Dlt.szL_at n hn)
  rw [Nat.zero_add] at this
  exact this
set_option maxHeartbeats 800000 in
theorem Encode_ok (v i x : Int) (w : World) (hv : Dlt.valid v i = true) (x0 : -32768 ≤ x) (x1 : x ≤ 32767) :
    Calls Try.prog 9 #[.agg #[.int .i64 v, .int .i64 i], .int .i16 x] w fun e w' => e = .returned (.tuple #[.int .u8 (Dlt.code v i x), .agg #[.int .i64 (Dlt.nextV v i (Dlt.code v i x)), .int .i64 (Dlt.nextI i (Dlt.code v i x))], .int .u8 0]) ∧ Below w.heap.size w w' := by
  have hz := zero89
  have HI2 := Lib.hid szA_info
  obtain ⟨k0, k1⟩ := Dlt.code_bd v i x
  generalize hcc : Dlt.code v i x = c at *
  have HC := Lib.hid hcc
  clear hcc
  go_enter Try.func9, Try.ntmps9
  go_wp2_with fail
  refine (Valid_any v i _).mono ?_
  rintro e w' ⟨rfl, rfl⟩
  rw [hv]
  go_wp2_with fail
  refine (sizes_any _).mono ?_
  rintro e w1 ⟨rfl, hb1⟩
  have B0 := ((((Blk.new w 23 #[.int .i64 v, .int .i64 i]).alloc (.cells #[.int .i64 0, .int .i64 0] 23)).alloc (.cells #[.int .i64 v, .int .i64 i] 23)).later hb1).later (laid_below w1)
  have B1 := (((Blk.new (w.alloc (.cells #[.int .i64 v, .int .i64 i] 23)) 23 #[.int .i64 0, .int .i64 0]).alloc (.cells #[.int .i64 v, .int .i64 i] 23)).later hb1).later (laid_below w1)
  have hbw : Below w.heap.size w (laidW w1) := ((((Below.refl _ w).alloc (Nat.le_refl _) _).alloc (by simp) _).alloc (by simp; omega) _).trans ((hb1.mono (by simp; omega)).trans ((laid_below w1).mono (by have := hb1.size; simp at this; omega)))
  have hst := laid_steps w1
  have HT := Lib.hid (laid_there w1)
  have e1 : (w.alloc (.cells #[.int .i64 v, .int .i64 i] 23)).heap.size = w.heap.size + 1 := by simp
  rw [e1] at B1
  clear e1 hb1
  have HB0 := Lib.hid B0
  have HB1 := Lib.hid B1
  have HBW := Lib.hid hbw
  have HST := Lib.hid hst
  clear B0 B1 hbw hst
  go_wp2_with (first
    | (refine wpList_store_mid rfl 46 (.tmp 7) (.tmp 13) (by rfl) w1.heap.size 0 Dlt.szA (by rfl) (by rfl) HT.out HI2.out szA_one ?_; change wpList _ _ _ _ _ (laidW w1); generalize laidW w1 = w2 at *; generalize w1.heap.size = g at *; clear hz HT HI2; have c0 := HB0.out.at 0 _ rfl; have c1 := HB0.out.at 1 _ rfl; have d0 := HB1.out.at 0 _ rfl; have d1 := HB1.out.at 1 _ rfl; have f0 := HB1.out.frozen 0; have f1 := HB1.out.frozen 1; have z1 := HB1.out.lt)
    | fail)
  refine (encode_any g v i x _ HST.out hv x0 x1).mono ?_
  rintro e w3 ⟨rfl, hb3⟩
  rw [HC.out]
  clear c0 c1 d0 d1 f0 f1 z1
  have HB03 := Lib.hid (HB0.out.later hb3)
  have HB13 := Lib.hid (HB1.out.later hb3)
  have HST3 := Lib.hid (HST.out.below hb3)
  have HBW3 := Lib.hid (HBW.out.trans (hb3.mono HBW.out.size))
  have c0 := HB03.out.at 0 _ rfl
  have c1 := HB03.out.at 1 _ rfl
  clear hb3 HB0 HB1 HBW HST
  go_wp2_with fail
  refine (decode_any g v i c _ HST3.out hv k0 k1).mono ?_
  rintro e w4 ⟨rfl, hb4⟩
  have HB14 := Lib.hid (HB13.out.later hb4)
  have HBW4 := Lib.hid (HBW3.out.trans (hb4.mono HBW3.out.size))
  clear c0 c1 hb4 HB03 HB13 HST3 HBW3
  have d0 := HB14.out.at 0 _ rfl
  have d1 := HB14.out.at 1 _ rfl
  have f0 := HB14.out.frozen 0
  have f1 := HB14.out.frozen 1
  go_wp2_with fail
  refine bodyPost_ret (v := .tuple #[.int .u8 c, .agg #[.int .i64 (Dlt.nextV v i c), .int .i64 (Dlt.nextI i c)], .int .u8 0]) (by simp [results, Try.results9, go_sem, d0, d1]) rfl ⟨rfl, ?_⟩
  exact (HBW4.out.setCell (by simp) _).setCell (by simp) _

set_option maxHeartbeats 400000 in
theorem Encode_bad (v i : Int) (x : Int) (w : World) (hv : Dlt.valid v i = false) :
    Calls Try.prog 9 #[.agg #[.int .i64 v, .int .i64 i], .int .i16 x] w fun e w' => e = .returned (.tuple #[.int .u8 0, .agg #[.int .i64 0, .int .i64 0], .int .u8 2]) ∧ Below w.heap.size w w' := by
  go_enter Try.func9, Try.ntmps9
  go_wp2_with fail
  refine (Valid_any v i _).mono ?_
  rintro e w' ⟨rfl, rfl⟩
  rw [hv]
  clear hv
  go_wp2_with fail
  refine bodyPost_ret (v := .tuple #[.int .u8 0, .agg #[.int .i64 0, .int .i64 0], .int .u8 2]) (by simp [results, Try.results9, go_sem]) rfl ⟨rfl, ?_⟩
  repeat (first | exact Below.refl _ _ | refine Below.setCell ?_ (by simp) _ | refine Below.alloc ?_ (by simp; try omega) _)

set_option maxHeartbeats 400000 in
theorem Decode_bad (v i : Int) (c : Int) (w : World) (hv : Dlt.valid v i = false) :
    Calls Try.prog 15 #[.agg #[.int .i64 v, .int .i64 i], .int .u8 c] w fun e w' => e = .returned (.tuple #[.int .i16 0, .agg #[.int .i64 0, .int .i64 0], .int .u8 2]) ∧ Below w.heap.size w w' := by
  go_enter Try.func15, Try.ntmps15
  go_wp2_with fail
  refine (Valid_any v i _).mono ?_
  rintro e w' ⟨rfl, rfl⟩
  rw [hv]
  clear hv
  go_wp2_with fail
  refine bodyPost_ret (v := .tuple #[.int .i16 0, .agg #[.int .i64 0, .int .i64 0], .int .u8 2]) (by simp [results, Try.results15, go_sem]) rfl ⟨rfl, ?_⟩
  repeat (first | exact Below.refl _ _ | refine Below.setCell ?_ (by simp) _ | refine Below.alloc ?_ (by simp; try omega) _)

set_option maxHeartbeats 400000 in
theorem Decode_range (v i : Int) (c : Int) (w : World) (hv : Dlt.valid v i = true) (hc : 15 < c) :
    Calls Try.prog 15 #[.agg #[.int .i64 v, .int .i64 i], .int .u8 c] w fun e w' => e = .returned (.tuple #[.int .i16 0, .agg #[.int .i64 0, .int .i64 0], .int .u8 3]) ∧ Below w.heap.size w w' := by
  go_enter Try.func15, Try.ntmps15
  go_wp2_with fail
  refine (Valid_any v i _).mono ?_
  rintro e w' ⟨rfl, rfl⟩
  rw [hv]
  clear hv
  go_wp2_with fail
  refine bodyPost_ret (v := .tuple #[.int .i16 0, .agg #[.int .i64 0, .int .i64 0], .int .u8 3]) (by simp [results, Try.results15, go_sem]) rfl ⟨rfl, ?_⟩
  repeat (first | exact Below.refl _ _ | refine Below.setCell ?_ (by simp) _ | refine Below.alloc ?_ (by simp; try omega) _)

set_option maxHeartbeats 400000 in
theorem rEncode_bad (v i : Int) (x : Int) (w : World) (hv : Dlt.valid v i = false) :
    Calls Try.prog 14 #[.agg #[.int .i64 v, .int .i64 i], .int .i16 x] w fun e w' => e = .returned (.tuple #[.int .u8 0, .agg #[.int .i64 0, .int .i64 0], .int .u8 2]) ∧ Below w.heap.size w w' := by
  go_enter Try.func14, Try.ntmps14
  go_wp2_with fail
  refine (rValid_any v i _).mono ?_
  rintro e w' ⟨rfl, rfl⟩
  rw [hv]
  clear hv
  go_wp2_with fail
  refine bodyPost_ret (v := .tuple #[.int .u8 0, .agg #[.int .i64 0, .int .i64 0], .int .u8 2]) (by simp [results, Try.results14, go_sem]) rfl ⟨rfl, ?_⟩
  repeat (first | exact Below.refl _ _ | refine Below.setCell ?_ (by simp) _ | refine Below.alloc ?_ (by simp; try omega) _)

set_option maxHeartbeats 400000 in
theorem rDecode_bad (v i : Int) (c : Int) (w : World) (hv : Dlt.valid v i = false) :
    Calls Try.prog 16 #[.agg #[.int .i64 v, .int .i64 i], .int .u8 c] w fun e w' => e = .returned (.tuple #[.int .i16 0, .agg #[.int .i64 0, .int .i64 0], .int .u8 2]) ∧ Below w.heap.size w w' := by
  go_enter Try.func16, Try.ntmps16
  go_wp2_with fail
  refine (rValid_any v i _).mono ?_
  rintro e w' ⟨rfl, rfl⟩
  rw [hv]
  clear hv
  go_wp2_with fail
  refine bodyPost_ret (v := .tuple #[.int .i16 0, .agg #[.int .i64 0, .int .i64 0], .int .u8 2]) (by simp [results, Try.results16, go_sem]) rfl ⟨rfl, ?_⟩
  repeat (first | exact Below.refl _ _ | refine Below.setCell ?_ (by simp) _ | refine Below.alloc ?_ (by simp; try omega) _)

set_option maxHeartbeats 400000 in
theorem rDecode_range (v i : Int) (c : Int) (w : World) (hv : Dlt.valid v i = true) (hc : 15 < c) :
    Calls Try.prog 16 #[.agg #[.int .i64 v, .int .i64 i], .int .u8 c] w fun e w' => e = .returned (.tuple #[.int .i16 0, .agg #[.int .i64 0, .int .i64 0], .int .u8 3]) ∧ Below w.heap.size w w' := by
  go_enter Try.func16, Try.ntmps16
  go_wp2_with fail
  refine (rValid_any v i _).mono ?_
  rintro e w' ⟨rfl, rfl⟩
  rw [hv]
  clear hv
  go_wp2_with fail
  refine bodyPost_ret (v := .tuple #[.int .i16 0, .agg #[.int .i64 0, .int .i64 0], .int .u8 3]) (by simp [results, Try.results16, go_sem]) rfl ⟨rfl, ?_⟩
  repeat (first | exact Below.refl _ _ | refine Below.setCell ?_ (by simp) _ | refine Below.alloc ?_ (by simp; try omega) _)

theorem wrap16_id (v : Int) (h0 : -32768 ≤ v) (h1 : v ≤ 32767) : IntKind.i16.wrap v = v := by
  exact IntWalk.i16_in v ⟨h0, h1⟩
set_option maxHeartbeats 800000 in
theorem Decode_ok (v i c : Int) (w : World) (hv : Dlt.valid v i = true) (k0 : 0 ≤ c) (k1 : c ≤ 15) :
    Calls Try.prog 15 #[.agg #[.int .i64 v, .int .i64 i], .int .u8 c] w fun e w' => e = .returned (.tuple #[.int .i16 (Dlt.nextV v i c), .agg #[.int .i64 (Dlt.nextV v i c), .int .i64 (Dlt.nextI i c)], .int .u8 0]) ∧ Below w.heap.size w w' := by
  have hz := zero89
  have HI2 := Lib.hid szA_info
  obtain ⟨n0, n1⟩ := Dlt.nextV_bd v i c
  generalize hV : Dlt.nextV v i c = V at *
  generalize hI : Dlt.nextI i c = I at *
  have HV := Lib.hid hV
  have HI := Lib.hid hI
  clear hV hI
  go_enter Try.func15, Try.ntmps15
  go_wp2_with fail
  refine (Valid_any v i _).mono ?_
  rintro e w' ⟨rfl, rfl⟩
  rw [hv]
  go_wp2_with fail
  refine (sizes_any _).mono ?_
  rintro e w1 ⟨rfl, hb1⟩
  have B0 := ((((Blk.new w 23 #[.int .i64 v, .int .i64 i]).alloc (.cells #[.int .i64 0, .int .i64 0] 23)).alloc (.cells #[.int .i64 v, .int .i64 i] 23)).later hb1).later (laid_below w1)
  have B1 := (((Blk.new (w.alloc (.cells #[.int .i64 v, .int .i64 i] 23)) 23 #[.int .i64 0, .int .i64 0]).alloc (.cells #[.int .i64 v, .int .i64 i] 23)).later hb1).later (laid_below w1)
  have hbw : Below w.heap.size w (laidW w1) := ((((Below.refl _ w).alloc (Nat.le_refl _) _).alloc (by simp) _).alloc (by simp; omega) _).trans ((hb1.mono (by simp; omega)).trans ((laid_below w1).mono (by have := hb1.size; simp at this; omega)))
  have hst := laid_steps w1
  have HT := Lib.hid (laid_there w1)
  have e1 : (w.alloc (.cells #[.int .i64 v, .int .i64 i] 23)).heap.size = w.heap.size + 1 := by simp
  rw [e1] at B1
  clear e1 hb1
  have HB0 := Lib.hid B0
  have HB1 := Lib.hid B1
  have HBW := Lib.hid hbw
  have HST := Lib.hid hst
  clear B0 B1 hbw hst
  go_wp2_with (first
    | (refine wpList_store_mid rfl 46 (.tmp 7) (.tmp 15) (by rfl) w1.heap.size 0 Dlt.szA (by rfl) (by rfl) HT.out HI2.out szA_one ?_; change wpList _ _ _ _ _ (laidW w1); generalize laidW w1 = w2 at *; generalize w1.heap.size = g at *; clear hz HT HI2; have c0 := HB0.out.at 0 _ rfl; have c1 := HB0.out.at 1 _ rfl; have d0 := HB1.out.at 0 _ rfl; have d1 := HB1.out.at 1 _ rfl; have f0 := HB1.out.frozen 0; have f1 := HB1.out.frozen 1; have z1 := HB1.out.lt)
    | fail)
  refine (decode_any g v i c _ HST.out hv k0 k1).mono ?_
  rintro e w4 ⟨rfl, hb4⟩
  clear c0 c1 d0 d1 f0 f1 z1
  have HB04 := Lib.hid (HB0.out.later hb4)
  have HB14 := Lib.hid (HB1.out.later hb4)
  have HBW4 := Lib.hid (HBW.out.trans (hb4.mono HBW.out.size))
  clear hb4 HB0 HB1 HST HBW
  have c0 := HB04.out.at 0 _ rfl
  have c1 := HB04.out.at 1 _ rfl
  have g0 := HB04.out.frozen 0
  have g1 := HB04.out.frozen 1
  have d0 := HB14.out.at 0 _ rfl
  have d1 := HB14.out.at 1 _ rfl
  have f0 := HB14.out.frozen 0
  have f1 := HB14.out.frozen 1
  rw [HV.out, HI.out]
  have hw := wrap16_id V n0 n1
  go_wp2_with fail
  go_region
  all_goals go_wp2
  all_goals
    refine bodyPost_ret (v := .tuple #[.int .i16 V, .agg #[.int .i64 V, .int .i64 I], .int .u8 0]) (by simp [results, Try.results15, go_sem, d0, d1]) rfl ⟨rfl, ?_⟩
    repeat (first | exact HBW4.out | refine Below.drew ?_ | refine Below.setCell ?_ (by simp) _)

set_option maxHeartbeats 800000 in
theorem rEncode_ok (v i x : Int) (w : World) (hv : Dlt.valid v i = true) (x0 : -32768 ≤ x) (x1 : x ≤ 32767) :
    Calls Try.prog 14 #[.agg #[.int .i64 v, .int .i64 i], .int .i16 x] w fun e w' => e = .returned (.tuple #[.int .u8 (Dlt.code v i x), .agg #[.int .i64 (Dlt.nextV v i (Dlt.code v i x)), .int .i64 (Dlt.nextI i (Dlt.code v i x))], .int .u8 0]) ∧ Below w.heap.size w w' := by
  obtain ⟨k0, k1⟩ := Dlt.code_bd v i x
  generalize hcc : Dlt.code v i x = c at *
  have HC := Lib.hid hcc
  clear hcc
  go_enter Try.func14, Try.ntmps14
  go_wp2_with fail
  refine (rValid_any v i _).mono ?_
  rintro e w' ⟨rfl, rfl⟩
  rw [hv]
  go_wp2_with fail
  refine (rCode_any v i x _ hv x0 x1).mono ?_
  rintro e w1 ⟨rfl, hb1⟩
  rw [HC.out]
  have B0 := (((Blk.new w 23 #[.int .i64 v, .int .i64 i]).alloc (.cells #[.int .i64 0, .int .i64 0] 23)).alloc (.cells #[.int .i64 v, .int .i64 i] 23)).later hb1
  have B1 := ((Blk.new (w.alloc (.cells #[.int .i64 v, .int .i64 i] 23)) 23 #[.int .i64 0, .int .i64 0]).alloc (.cells #[.int .i64 v, .int .i64 i] 23)).later hb1
  have hbw : Below w.heap.size w w1 := ((((Below.refl _ w).alloc (Nat.le_refl _) _).alloc (by simp) _).alloc (by simp; omega) _).trans (hb1.mono (by simp; omega))
  have e1 : (w.alloc (.cells #[.int .i64 v, .int .i64 i] 23)).heap.size = w.heap.size + 1 := by simp
  rw [e1] at B1
  clear e1 hb1
  have HB0 := Lib.hid B0
  have HB1 := Lib.hid B1
  have HBW := Lib.hid hbw
  clear B0 B1 hbw
  have c0 := HB0.out.at 0 _ rfl
  have c1 := HB0.out.at 1 _ rfl
  go_wp2_with fail
  refine (rNext_any v i c _ hv k0 k1).mono ?_
  rintro e w4 ⟨rfl, hb4⟩
  have HB14 := Lib.hid (HB1.out.later hb4)
  have HBW4 := Lib.hid (HBW.out.trans (hb4.mono HBW.out.size))
  clear c0 c1 hb4 HB0 HB1 HBW
  have d0 := HB14.out.at 0 _ rfl
  have d1 := HB14.out.at 1 _ rfl
  have f0 := HB14.out.frozen 0
  have f1 := HB14.out.frozen 1
  go_wp2_with fail
  refine bodyPost_ret (v := .tuple #[.int .u8 c, .agg #[.int .i64 (Dlt.nextV v i c), .int .i64 (Dlt.nextI i c)], .int .u8 0]) (by simp [results, Try.results14, go_sem, d0, d1]) rfl ⟨rfl, ?_⟩
  exact (HBW4.out.setCell (by simp) _).setCell (by simp) _
set_option maxHeartbeats 800000 in
theorem rDecode_ok (v i c : Int) (w : World) (hv : Dlt.valid v i = true) (k0 : 0 ≤ c) (k1 : c ≤ 15) :
    Calls Try.prog 16 #[.agg #[.int .i64 v, .int .i64 i], .int .u8 c] w fun e w' => e = .returned (.tuple #[.int .i16 (Dlt.nextV v i c), .agg #[.int .i64 (Dlt.nextV v i c), .int .i64 (Dlt.nextI i c)], .int .u8 0]) ∧ Below w.heap.size w w' := by
  obtain ⟨n0, n1⟩ := Dlt.nextV_bd v i c
  generalize hV : Dlt.nextV v i c = V at *
  generalize hI : Dlt.nextI i c = I at *
  have HV := Lib.hid hV
  have HI := Lib.hid hI
  clear hV hI
  go_enter Try.func16, Try.ntmps16
  go_wp2_with fail
  refine (rValid_any v i _).mono ?_
  rintro e w' ⟨rfl, rfl⟩
  rw [hv]
  go_wp2_with fail
  refine (rNext_any v i c _ hv k0 k1).mono ?_
  rintro e w4 ⟨rfl, hb4⟩
  rw [HV.out, HI.out]
  have B1 := ((Blk.new (w.alloc (.cells #[.int .i64 v, .int .i64 i] 23)) 23 #[.int .i64 0, .int .i64 0]).alloc (.cells #[.int .i64 v, .int .i64 i] 23)).later hb4
  have hbw : Below w.heap.size w w4 := ((((Below.refl _ w).alloc (Nat.le_refl _) _).alloc (by simp) _).alloc (by simp; omega) _).trans (hb4.mono (by simp; omega))
  have e1 : (w.alloc (.cells #[.int .i64 v, .int .i64 i] 23)).heap.size = w.heap.size + 1 := by simp
  rw [e1] at B1
  clear e1 hb4
  have HB14 := Lib.hid B1
  have HBW4 := Lib.hid hbw
  have hz := B1.lt
  clear B1 hbw
  have d0 := HB14.out.at 0 _ rfl
  have d1 := HB14.out.at 1 _ rfl
  have f0 := HB14.out.frozen 0
  have f1 := HB14.out.frozen 1
  have hw := wrap16_id V n0 n1
  go_wp2_with fail
  go_region
  all_goals go_wp2
  all_goals
    refine bodyPost_ret (v := .tuple #[.int .i16 V, .agg #[.int .i64 V, .int .i64 I], .int .u8 0]) (by simp [results, Try.results16, go_sem, d0, d1, hz]) rfl ⟨rfl, ?_⟩
    repeat (first | exact HBW4.out | refine Below.drew ?_ | refine Below.setCell ?_ (by simp) _ | refine Below.alloc ?_ (by simp; omega) _)
end Go.Proofs.Ytcnijhcoifodpaa

/- Layer 28, DeltaNear: for every state and sample the law returns true. -/
import Derived.Test.YtcnijhcoifodpaaDelCodes
import Derived.Test.YtcnijhcoifodpaaDelNearPlain
namespace Go.Proofs.Ytcnijhcoifodpaa.deltaNear
open Go.RowKit
set_option linter.unusedVariables false
theorem size28b (n : Int) (w : World) (h0 : -1099511627776 ≤ n) (h1 : n ≤ 1099511627776) :
    Calls Try.prog 13 #[.int .i64 n] w fun e w' => e = .returned (.int .i64 (n.natAbs : Int)) ∧ Below w.heap.size w w' := by
  refine (size28 n w h0 h1).mono ?_
  rintro e w' ⟨rfl, rfl⟩
  exact ⟨rfl, Below.refl _ _⟩
set_option maxHeartbeats 800000 in
theorem bad (w : World) (v i x : Int) (hv : Dlt.valid v i = false) (x0 : -32768 ≤ x) (x1 : x ≤ 32767) :
    Calls Try.prog 3 #[.agg #[.int .i64 v, .int .i64 i], .int .i16 x] w fun e w' => e = .returned (.bool true) ∧ Below w.heap.size w w' := by
  have k1 := Lib.hid fun W => Encode_any v i x W x0 x1
  unfold Dlt.encR at k1
  rw [if_neg (by simp [hv])] at k1
  have k2 := Lib.hid fun W => rValid_bel v i W
  rw [hv] at k2
  clear hv x0 x1
  go_enter Try.func3, Try.ntmps3
  have U := Lib.hid (Bel.refl w)
  go_wp2_with fail
  replace U := Lib.hid (U.out.push (.cells #[.int .i64 (v), .int .i64 (i)] 23))
  have B0 := Lib.hid (Blk.new w 23 #[.int .i64 (v), .int .i64 (i)])
  refine (k1.out _).mono ?_
  rintro e w1 ⟨rfl, hb1⟩
  replace U := Lib.hid (U.out.later hb1)
  replace B0 := Lib.hid (B0.out.later hb1)
  clear hb1
  replace U := Lib.hid (U.out.push (.cells #[.int .i64 (0), .int .i64 (0)] 23))
  replace B0 := Lib.hid (B0.out.push (.cells #[.int .i64 (0), .int .i64 (0)] 23))
  have B1 := Lib.hid (Blk.new w1 23 #[.int .i64 (0), .int .i64 (0)])
  have c_B00 := B0.out.at 0 _ rfl
  have c_B01 := B0.out.at 1 _ rfl
  go_wp2_with fail
  clear c_B00 c_B01
  refine (k2.out _).mono ?_
  rintro e w2 ⟨rfl, hb2⟩
  replace U := Lib.hid (U.out.later hb2)
  replace B0 := Lib.hid (B0.out.later hb2)
  replace B1 := Lib.hid (B1.out.later hb2)
  clear hb2
  have c_B00 := B0.out.at 0 _ rfl
  have c_B01 := B0.out.at 1 _ rfl
  have c_B10 := B1.out.at 0 _ rfl
  have c_B11 := B1.out.at 1 _ rfl
  go_wp2_with fail
  clear c_B00 c_B01 c_B10 c_B11
  refine (lives_any _).mono ?_
  rintro e w3 ⟨rfl, hb3⟩
  replace U := Lib.hid (U.out.later hb3)
  replace B0 := Lib.hid (B0.out.later hb3)
  replace B1 := Lib.hid (B1.out.later hb3)
  clear hb3
  go_wp2_with fail
  go_ret
  exact ⟨rfl, U.out⟩
set_option maxHeartbeats 1600000 in
theorem pos_far (w : World) (v i x : Int) (hv : Dlt.valid v i = true) (x0 : -32768 ≤ x) (x1 : x ≤ 32767) (h : 0 ≤ x - v) (h2 : 2 * Dlt.st i.toNat ≤ ((x - v).natAbs : Int)) :
    Calls Try.prog 3 #[.agg #[.int .i64 v, .int .i64 i], .int .i16 x] w fun e w' => e = .returned (.bool true) ∧ Below w.heap.size w w' := by
  have k1 := Lib.hid fun W => Encode_any v i x W x0 x1
  have NP := Dlt.near v i x hv x0 x1
  unfold Dlt.encR at k1
  rw [if_pos hv] at k1
  have k2 := Lib.hid fun W => rValid_bel v i W
  rw [hv] at k2
  have hsz : Dlt.sz i = Dlt.st i.toNat := by
    unfold Dlt.sz
    obtain ⟨_, _, a, b⟩ := valid_true hv
    rw [if_pos ⟨a, b⟩]
  have k3 := Lib.hid fun W => rSize_bel i W
  rw [hsz] at k3
  have hst := Dlt.st_bd i.toNat
  have hN := Dlt.nextV_bd v i (Dlt.code v i x)
  have k4 := Lib.hid fun W => rValid_bel (Dlt.nextV v i (Dlt.code v i x)) (Dlt.nextI i (Dlt.code v i x)) W
  rw [Dlt.valid_next] at k4
  generalize Dlt.nextV v i (Dlt.code v i x) = N at *
  generalize Dlt.nextI i (Dlt.code v i x) = I at *
  generalize Dlt.code v i x = C at *
  generalize Dlt.st i.toNat = S at *
  obtain ⟨v0, v1, _, _⟩ := valid_true hv
  obtain ⟨s0, s1⟩ := hst
  obtain ⟨n0, n1⟩ := hN
  have hd : 0 ≤ x - v := h
  have hs : v ≤ N := NP.1 h
  clear NP hv hsz h
  have hh : decide (2 * S ≤ ((x - v).natAbs : Int)) = true := by simpa using h2
  go_enter Try.func3, Try.ntmps3
  have U := Lib.hid (Bel.refl w)
  go_wp2_with fail
  replace U := Lib.hid (U.out.push (.cells #[.int .i64 (v), .int .i64 (i)] 23))
  have B0 := Lib.hid (Blk.new w 23 #[.int .i64 (v), .int .i64 (i)])
  refine (k1.out _).mono ?_
  rintro e w1 ⟨rfl, hb1⟩
  replace U := Lib.hid (U.out.later hb1)
  replace B0 := Lib.hid (B0.out.later hb1)
  clear hb1
  replace U := Lib.hid (U.out.push (.cells #[.int .i64 (N), .int .i64 (I)] 23))
  replace B0 := Lib.hid (B0.out.push (.cells #[.int .i64 (N), .int .i64 (I)] 23))
  have B1 := Lib.hid (Blk.new w1 23 #[.int .i64 (N), .int .i64 (I)])
  have c_B00 := B0.out.at 0 _ rfl
  have c_B01 := B0.out.at 1 _ rfl
  go_wp2_with fail
  clear c_B00 c_B01
  refine (k2.out _).mono ?_
  rintro e w2 ⟨rfl, hb2⟩
  replace U := Lib.hid (U.out.later hb2)
  replace B0 := Lib.hid (B0.out.later hb2)
  replace B1 := Lib.hid (B1.out.later hb2)
  clear hb2
  have c_B00 := B0.out.at 0 _ rfl
  have c_B01 := B0.out.at 1 _ rfl
  go_wp2_with fail
  clear c_B00 c_B01
  refine (k3.out _).mono ?_
  rintro e w3 ⟨rfl, hb3⟩
  replace U := Lib.hid (U.out.later hb3)
  replace B0 := Lib.hid (B0.out.later hb3)
  replace B1 := Lib.hid (B1.out.later hb3)
  clear hb3
  have c_B00 := B0.out.at 0 _ rfl
  have c_B01 := B0.out.at 1 _ rfl
  have c_B10 := B1.out.at 0 _ rfl
  have c_B11 := B1.out.at 1 _ rfl
  go_wp2_with fail
  clear c_B00 c_B01 c_B10 c_B11
  refine (k4.out _).mono ?_
  rintro e w4 ⟨rfl, hb4⟩
  replace U := Lib.hid (U.out.later hb4)
  replace B0 := Lib.hid (B0.out.later hb4)
  replace B1 := Lib.hid (B1.out.later hb4)
  clear hb4
  have c_B00 := B0.out.at 0 _ rfl
  have c_B01 := B0.out.at 1 _ rfl
  have c_B10 := B1.out.at 0 _ rfl
  have c_B11 := B1.out.at 1 _ rfl
  go_wp2_with fail
  clear c_B00 c_B01 c_B10 c_B11
  refine (size28b (x - v) _ (by omega) (by omega)).mono ?_
  rintro e w5 ⟨rfl, hb5⟩
  replace U := Lib.hid (U.out.later hb5)
  replace B0 := Lib.hid (B0.out.later hb5)
  replace B1 := Lib.hid (B1.out.later hb5)
  clear hb5
  have c_B00 := B0.out.at 0 _ rfl
  have c_B01 := B0.out.at 1 _ rfl
  have c_B10 := B1.out.at 0 _ rfl
  have c_B11 := B1.out.at 1 _ rfl
  go_wp2_with fail
  clear c_B00 c_B01 c_B10 c_B11
  refine (lives_any _).mono ?_
  rintro e w6 ⟨rfl, hb6⟩
  replace U := Lib.hid (U.out.later hb6)
  replace B0 := Lib.hid (B0.out.later hb6)
  replace B1 := Lib.hid (B1.out.later hb6)
  clear hb6
  go_wp2_with fail
  go_ret
  exact ⟨rfl, U.out⟩
set_option maxHeartbeats 1600000 in
theorem pos_near (w : World) (v i x : Int) (hv : Dlt.valid v i = true) (x0 : -32768 ≤ x) (x1 : x ≤ 32767) (h : 0 ≤ x - v) (h2 : ((x - v).natAbs : Int) < 2 * Dlt.st i.toNat) :
    Calls Try.prog 3 #[.agg #[.int .i64 v, .int .i64 i], .int .i16 x] w fun e w' => e = .returned (.bool true) ∧ Below w.heap.size w w' := by
  have k1 := Lib.hid fun W => Encode_any v i x W x0 x1
  have NP := Dlt.near v i x hv x0 x1
  unfold Dlt.encR at k1
  rw [if_pos hv] at k1
  have k2 := Lib.hid fun W => rValid_bel v i W
  rw [hv] at k2
  have hsz : Dlt.sz i = Dlt.st i.toNat := by
    unfold Dlt.sz
    obtain ⟨_, _, a, b⟩ := valid_true hv
    rw [if_pos ⟨a, b⟩]
  have k3 := Lib.hid fun W => rSize_bel i W
  rw [hsz] at k3
  have hst := Dlt.st_bd i.toNat
  have hN := Dlt.nextV_bd v i (Dlt.code v i x)
  have k4 := Lib.hid fun W => rValid_bel (Dlt.nextV v i (Dlt.code v i x)) (Dlt.nextI i (Dlt.code v i x)) W
  rw [Dlt.valid_next] at k4
  generalize Dlt.nextV v i (Dlt.code v i x) = N at *
  generalize Dlt.nextI i (Dlt.code v i x) = I at *
  generalize Dlt.code v i x = C at *
  generalize Dlt.st i.toNat = S at *
  obtain ⟨v0, v1, _, _⟩ := valid_true hv
  obtain ⟨s0, s1⟩ := hst
  obtain ⟨n0, n1⟩ := hN
  have hd : 0 ≤ x - v := h
  have hs : v ≤ N := NP.1 h
  have hnear : ((N - x).natAbs : Int) ≤ S / 8 + 1 := NP.2.2 h2
  clear NP hv hsz h
  have hh : decide (2 * S ≤ ((x - v).natAbs : Int)) = false := by simp; omega
  go_enter Try.func3, Try.ntmps3
  have U := Lib.hid (Bel.refl w)
  go_wp2_with fail
  replace U := Lib.hid (U.out.push (.cells #[.int .i64 (v), .int .i64 (i)] 23))
  have B0 := Lib.hid (Blk.new w 23 #[.int .i64 (v), .int .i64 (i)])
  refine (k1.out _).mono ?_
  rintro e w1 ⟨rfl, hb1⟩
  replace U := Lib.hid (U.out.later hb1)
  replace B0 := Lib.hid (B0.out.later hb1)
  clear hb1
  replace U := Lib.hid (U.out.push (.cells #[.int .i64 (N), .int .i64 (I)] 23))
  replace B0 := Lib.hid (B0.out.push (.cells #[.int .i64 (N), .int .i64 (I)] 23))
  have B1 := Lib.hid (Blk.new w1 23 #[.int .i64 (N), .int .i64 (I)])
  have c_B00 := B0.out.at 0 _ rfl
  have c_B01 := B0.out.at 1 _ rfl
  go_wp2_with fail
  clear c_B00 c_B01
  refine (k2.out _).mono ?_
  rintro e w2 ⟨rfl, hb2⟩
  replace U := Lib.hid (U.out.later hb2)
  replace B0 := Lib.hid (B0.out.later hb2)
  replace B1 := Lib.hid (B1.out.later hb2)
  clear hb2
  have c_B00 := B0.out.at 0 _ rfl
  have c_B01 := B0.out.at 1 _ rfl
  go_wp2_with fail
  clear c_B00 c_B01
  refine (k3.out _).mono ?_
  rintro e w3 ⟨rfl, hb3⟩
  replace U := Lib.hid (U.out.later hb3)
  replace B0 := Lib.hid (B0.out.later hb3)
  replace B1 := Lib.hid (B1.out.later hb3)
  clear hb3
  have c_B00 := B0.out.at 0 _ rfl
  have c_B01 := B0.out.at 1 _ rfl
  have c_B10 := B1.out.at 0 _ rfl
  have c_B11 := B1.out.at 1 _ rfl
  go_wp2_with fail
  clear c_B00 c_B01 c_B10 c_B11
  refine (k4.out _).mono ?_
  rintro e w4 ⟨rfl, hb4⟩
  replace U := Lib.hid (U.out.later hb4)
  replace B0 := Lib.hid (B0.out.later hb4)
  replace B1 := Lib.hid (B1.out.later hb4)
  clear hb4
  have c_B00 := B0.out.at 0 _ rfl
  have c_B01 := B0.out.at 1 _ rfl
  have c_B10 := B1.out.at 0 _ rfl
  have c_B11 := B1.out.at 1 _ rfl
  go_wp2_with fail
  clear c_B00 c_B01 c_B10 c_B11
  refine (size28b (x - v) _ (by omega) (by omega)).mono ?_
  rintro e w5 ⟨rfl, hb5⟩
  replace U := Lib.hid (U.out.later hb5)
  replace B0 := Lib.hid (B0.out.later hb5)
  replace B1 := Lib.hid (B1.out.later hb5)
  clear hb5
  have c_B00 := B0.out.at 0 _ rfl
  have c_B01 := B0.out.at 1 _ rfl
  have c_B10 := B1.out.at 0 _ rfl
  have c_B11 := B1.out.at 1 _ rfl
  go_wp2_with fail
  clear c_B00 c_B01 c_B10 c_B11
  refine (size28b (N - x) _ (by omega) (by omega)).mono ?_
  rintro e w6 ⟨rfl, hb6⟩
  replace U := Lib.hid (U.out.later hb6)
  replace B0 := Lib.hid (B0.out.later hb6)
  replace B1 := Lib.hid (B1.out.later hb6)
  clear hb6
  go_wp2_with fail
  refine (lives_any _).mono ?_
  rintro e w7 ⟨rfl, hb7⟩
  replace U := Lib.hid (U.out.later hb7)
  replace B0 := Lib.hid (B0.out.later hb7)
  replace B1 := Lib.hid (B1.out.later hb7)
  clear hb7
  go_wp2_with fail
  go_ret
  exact ⟨rfl, U.out⟩
set_option maxHeartbeats 1600000 in
theorem neg_far (w : World) (v i x : Int) (hv : Dlt.valid v i = true) (x0 : -32768 ≤ x) (x1 : x ≤ 32767) (h : x - v < 0) (h2 : 2 * Dlt.st i.toNat ≤ ((x - v).natAbs : Int)) :
    Calls Try.prog 3 #[.agg #[.int .i64 v, .int .i64 i], .int .i16 x] w fun e w' => e = .returned (.bool true) ∧ Below w.heap.size w w' := by
  have k1 := Lib.hid fun W => Encode_any v i x W x0 x1
  have NP := Dlt.near v i x hv x0 x1
  unfold Dlt.encR at k1
  rw [if_pos hv] at k1
  have k2 := Lib.hid fun W => rValid_bel v i W
  rw [hv] at k2
  have hsz : Dlt.sz i = Dlt.st i.toNat := by
    unfold Dlt.sz
    obtain ⟨_, _, a, b⟩ := valid_true hv
    rw [if_pos ⟨a, b⟩]
  have k3 := Lib.hid fun W => rSize_bel i W
  rw [hsz] at k3
  have hst := Dlt.st_bd i.toNat
  have hN := Dlt.nextV_bd v i (Dlt.code v i x)
  have k4 := Lib.hid fun W => rValid_bel (Dlt.nextV v i (Dlt.code v i x)) (Dlt.nextI i (Dlt.code v i x)) W
  rw [Dlt.valid_next] at k4
  generalize Dlt.nextV v i (Dlt.code v i x) = N at *
  generalize Dlt.nextI i (Dlt.code v i x) = I at *
  generalize Dlt.code v i x = C at *
  generalize Dlt.st i.toNat = S at *
  obtain ⟨v0, v1, _, _⟩ := valid_true hv
  obtain ⟨s0, s1⟩ := hst
  obtain ⟨n0, n1⟩ := hN
  have hd : x - v < 0 := h
  have hs : N ≤ v := NP.2.1 h
  clear NP hv hsz h
  have hh : decide (2 * S ≤ ((x - v).natAbs : Int)) = true := by simpa using h2
  go_enter Try.func3, Try.ntmps3
  have U := Lib.hid (Bel.refl w)
  go_wp2_with fail
  replace U := Lib.hid (U.out.push (.cells #[.int .i64 (v), .int .i64 (i)] 23))
  have B0 := Lib.hid (Blk.new w 23 #[.int .i64 (v), .int .i64 (i)])
  refine (k1.out _).mono ?_
  rintro e w1 ⟨rfl, hb1⟩
  replace U := Lib.hid (U.out.later hb1)
  replace B0 := Lib.hid (B0.out.later hb1)
  clear hb1
  replace U := Lib.hid (U.out.push (.cells #[.int .i64 (N), .int .i64 (I)] 23))
  replace B0 := Lib.hid (B0.out.push (.cells #[.int .i64 (N), .int .i64 (I)] 23))
  have B1 := Lib.hid (Blk.new w1 23 #[.int .i64 (N), .int .i64 (I)])
  have c_B00 := B0.out.at 0 _ rfl
  have c_B01 := B0.out.at 1 _ rfl
  go_wp2_with fail
  clear c_B00 c_B01
  refine (k2.out _).mono ?_
  rintro e w2 ⟨rfl, hb2⟩
  replace U := Lib.hid (U.out.later hb2)
  replace B0 := Lib.hid (B0.out.later hb2)
  replace B1 := Lib.hid (B1.out.later hb2)
  clear hb2
  have c_B00 := B0.out.at 0 _ rfl
  have c_B01 := B0.out.at 1 _ rfl
  go_wp2_with fail
  clear c_B00 c_B01
  refine (k3.out _).mono ?_
  rintro e w3 ⟨rfl, hb3⟩
  replace U := Lib.hid (U.out.later hb3)
  replace B0 := Lib.hid (B0.out.later hb3)
  replace B1 := Lib.hid (B1.out.later hb3)
  clear hb3
  have c_B00 := B0.out.at 0 _ rfl
  have c_B01 := B0.out.at 1 _ rfl
  have c_B10 := B1.out.at 0 _ rfl
  have c_B11 := B1.out.at 1 _ rfl
  go_wp2_with fail
  clear c_B00 c_B01 c_B10 c_B11
  refine (k4.out _).mono ?_
  rintro e w4 ⟨rfl, hb4⟩
  replace U := Lib.hid (U.out.later hb4)
  replace B0 := Lib.hid (B0.out.later hb4)
  replace B1 := Lib.hid (B1.out.later hb4)
  clear hb4
  have c_B00 := B0.out.at 0 _ rfl
  have c_B01 := B0.out.at 1 _ rfl
  have c_B10 := B1.out.at 0 _ rfl
  have c_B11 := B1.out.at 1 _ rfl
  go_wp2_with fail
  clear c_B00 c_B01 c_B10 c_B11
  refine (size28b (x - v) _ (by omega) (by omega)).mono ?_
  rintro e w5 ⟨rfl, hb5⟩
  replace U := Lib.hid (U.out.later hb5)
  replace B0 := Lib.hid (B0.out.later hb5)
  replace B1 := Lib.hid (B1.out.later hb5)
  clear hb5
  have c_B00 := B0.out.at 0 _ rfl
  have c_B01 := B0.out.at 1 _ rfl
  have c_B10 := B1.out.at 0 _ rfl
  have c_B11 := B1.out.at 1 _ rfl
  go_wp2_with fail
  clear c_B00 c_B01 c_B10 c_B11
  refine (lives_any _).mono ?_
  rintro e w6 ⟨rfl, hb6⟩
  replace U := Lib.hid (U.out.later hb6)
  replace B0 := Lib.hid (B0.out.later hb6)
  replace B1 := Lib.hid (B1.out.later hb6)
  clear hb6
  go_wp2_with fail
  go_ret
  exact ⟨rfl, U.out⟩
set_option maxHeartbeats 1600000 in
theorem neg_near (w : World) (v i x : Int) (hv : Dlt.valid v i = true) (x0 : -32768 ≤ x) (x1 : x ≤ 32767) (h : x - v < 0) (h2 : ((x - v).natAbs : Int) < 2 * Dlt.st i.toNat) :
    Calls Try.prog 3 #[.agg #[.int .i64 v, .int .i64 i], .int .i16 x] w fun e w' => e = .returned (.bool true) ∧ Below w.heap.size w w' := by
  have k1 := Lib.hid fun W => Encode_any v i x W x0 x1
  have NP := Dlt.near v i x hv x0 x1
  unfold Dlt.encR at k1
  rw [if_pos hv] at k1
  have k2 := Lib.hid fun W => rValid_bel v i W
  rw [hv] at k2
  have hsz : Dlt.sz i = Dlt.st i.toNat := by
    unfold Dlt.sz
    obtain ⟨_, _, a, b⟩ := valid_true hv
    rw [if_pos ⟨a, b⟩]
  have k3 := Lib.hid fun W => rSize_bel i W
  rw [hsz] at k3
  have hst := Dlt.st_bd i.toNat
  have hN := Dlt.nextV_bd v i (Dlt.code v i x)
  have k4 := Lib.hid fun W => rValid_bel (Dlt.nextV v i (Dlt.code v i x)) (Dlt.nextI i (Dlt.code v i x)) W
  rw [Dlt.valid_next] at k4
  generalize Dlt.nextV v i (Dlt.code v i x) = N at *
  generalize Dlt.nextI i (Dlt.code v i x) = I at *
  generalize Dlt.code v i x = C at *
  generalize Dlt.st i.toNat = S at *
  obtain ⟨v0, v1, _, _⟩ := valid_true hv
  obtain ⟨s0, s1⟩ := hst
  obtain ⟨n0, n1⟩ := hN
  have hd : x - v < 0 := h
  have hs : N ≤ v := NP.2.1 h
  have hnear : ((N - x).natAbs : Int) ≤ S / 8 + 1 := NP.2.2 h2
  clear NP hv hsz h
  have hh : decide (2 * S ≤ ((x - v).natAbs : Int)) = false := by simp; omega
  go_enter Try.func3, Try.ntmps3
  have U := Lib.hid (Bel.refl w)
  go_wp2_with fail
  replace U := Lib.hid (U.out.push (.cells #[.int .i64 (v), .int .i64 (i)] 23))
  have B0 := Lib.hid (Blk.new w 23 #[.int .i64 (v), .int .i64 (i)])
  refine (k1.out _).mono ?_
  rintro e w1 ⟨rfl, hb1⟩
  replace U := Lib.hid (U.out.later hb1)
  replace B0 := Lib.hid (B0.out.later hb1)
  clear hb1
  replace U := Lib.hid (U.out.push (.cells #[.int .i64 (N), .int .i64 (I)] 23))
  replace B0 := Lib.hid (B0.out.push (.cells #[.int .i64 (N), .int .i64 (I)] 23))
  have B1 := Lib.hid (Blk.new w1 23 #[.int .i64 (N), .int .i64 (I)])
  have c_B00 := B0.out.at 0 _ rfl
  have c_B01 := B0.out.at 1 _ rfl
  go_wp2_with fail
  clear c_B00 c_B01
  refine (k2.out _).mono ?_
  rintro e w2 ⟨rfl, hb2⟩
  replace U := Lib.hid (U.out.later hb2)
  replace B0 := Lib.hid (B0.out.later hb2)
  replace B1 := Lib.hid (B1.out.later hb2)
  clear hb2
  have c_B00 := B0.out.at 0 _ rfl
  have c_B01 := B0.out.at 1 _ rfl
  go_wp2_with fail
  clear c_B00 c_B01
  refine (k3.out _).mono ?_
  rintro e w3 ⟨rfl, hb3⟩
  replace U := Lib.hid (U.out.later hb3)
  replace B0 := Lib.hid (B0.out.later hb3)
  replace B1 := Lib.hid (B1.out.later hb3)
  clear hb3
  have c_B00 := B0.out.at 0 _ rfl
  have c_B01 := B0.out.at 1 _ rfl
  have c_B10 := B1.out.at 0 _ rfl
  have c_B11 := B1.out.at 1 _ rfl
  go_wp2_with fail
  clear c_B00 c_B01 c_B10 c_B11
  refine (k4.out _).mono ?_
  rintro e w4 ⟨rfl, hb4⟩
  replace U := Lib.hid (U.out.later hb4)
  replace B0 := Lib.hid (B0.out.later hb4)
  replace B1 := Lib.hid (B1.out.later hb4)
  clear hb4
  have c_B00 := B0.out.at 0 _ rfl
  have c_B01 := B0.out.at 1 _ rfl
  have c_B10 := B1.out.at 0 _ rfl
  have c_B11 := B1.out.at 1 _ rfl
  go_wp2_with fail
  clear c_B00 c_B01 c_B10 c_B11
  refine (size28b (x - v) _ (by omega) (by omega)).mono ?_
  rintro e w5 ⟨rfl, hb5⟩
  replace U := Lib.hid (U.out.later hb5)
  replace B0 := Lib.hid (B0.out.later hb5)
  replace B1 := Lib.hid (B1.out.later hb5)
  clear hb5
  have c_B00 := B0.out.at 0 _ rfl
  have c_B01 := B0.out.at 1 _ rfl
  have c_B10 := B1.out.at 0 _ rfl
  have c_B11 := B1.out.at 1 _ rfl
  go_wp2_with fail
  clear c_B00 c_B01 c_B10 c_B11
  refine (size28b (N - x) _ (by omega) (by omega)).mono ?_
  rintro e w6 ⟨rfl, hb6⟩
  replace U := Lib.hid (U.out.later hb6)
  replace B0 := Lib.hid (B0.out.later hb6)
  replace B1 := Lib.hid (B1.out.later hb6)
  clear hb6
  go_wp2_with fail
  refine (lives_any _).mono ?_
  rintro e w7 ⟨rfl, hb7⟩
  replace U := Lib.hid (U.out.later hb7)
  replace B0 := Lib.hid (B0.out.later hb7)
  replace B1 := Lib.hid (B1.out.later hb7)
  clear hb7
  go_wp2_with fail
  go_ret
  exact ⟨rfl, U.out⟩
theorem walk (w : World) (v i x : Int) (w1 : (Lit.int .i16 x).wf = true) :
    Calls Try.prog 3 #[.agg #[.int .i64 v, .int .i64 i], .int .i16 x] w fun e w' => e = .returned (.bool true) ∧ Below w.heap.size w w' := by
  have hx : -32768 ≤ x ∧ x ≤ 32767 := by simpa [Lit.wf, IntKind.min, IntKind.max, IntKind.signed, IntKind.bits] using w1
  by_cases hv : Dlt.valid v i = true
  · rcases Int.lt_or_le (x - v) 0 with h | h <;> rcases Int.lt_or_le ((x - v).natAbs : Int) (2 * Dlt.st i.toNat) with h2 | h2
    · exact neg_near w v i x hv hx.1 hx.2 h h2
    · exact neg_far w v i x hv hx.1 hx.2 h h2
    · exact pos_near w v i x hv hx.1 hx.2 h h2
    · exact pos_far w v i x hv hx.1 hx.2 h h2
  · exact bad w v i x (by simpa using hv) hx.1 hx.2
end Go.Proofs.Ytcnijhcoifodpaa.deltaNear

/- Layer 28, DeltaCodes: for every state, sample and code the law returns true. -/
import Derived.Test.YtcnijhcoifodpaaDelLives
import Derived.Test.YtcnijhcoifodpaaLaw
namespace Go.Proofs.Ytcnijhcoifodpaa
open Go.RowKit
theorem Valid_bel (v i : Int) (w : World) : Calls Try.prog 17 #[.agg #[.int .i64 v, .int .i64 i]] w fun e w' => e = .returned (.bool (Dlt.valid v i)) ∧ Below w.heap.size w w' := by
  refine (Valid_any v i w).mono ?_
  rintro e w' ⟨rfl, rfl⟩
  exact ⟨rfl, (Below.refl _ _).alloc (Nat.le_refl _) _⟩
theorem rValid_bel (v i : Int) (w : World) : Calls Try.prog 10 #[.agg #[.int .i64 v, .int .i64 i]] w fun e w' => e = .returned (.bool (Dlt.valid v i)) ∧ Below w.heap.size w w' := by
  refine (rValid_any v i w).mono ?_
  rintro e w' ⟨rfl, rfl⟩
  exact ⟨rfl, (Below.refl _ _).alloc (Nat.le_refl _) _⟩
/-- the step of an index -/
def Dlt.sz (i : Int) : Int := if 0 ≤ i ∧ i ≤ 88 then Dlt.st i.toNat else 0
theorem Size_bel (i : Int) (w : World) : Calls Try.prog 18 #[.int .i64 i] w fun e w' => e = .returned (.int .i64 (Dlt.sz i)) ∧ Below w.heap.size w w' := by
  unfold Dlt.sz
  by_cases h : 0 ≤ i ∧ i ≤ 88
  · rw [if_pos h]; exact Size_in i w h.1 h.2
  · rw [if_neg h]; exact Size_out i w (by omega)
theorem rSize_bel (i : Int) (w : World) : Calls Try.prog 12 #[.int .i64 i] w fun e w' => e = .returned (.int .i64 (Dlt.sz i)) ∧ Below w.heap.size w w' := by
  unfold Dlt.sz
  by_cases h : 0 ≤ i ∧ i ≤ 88
  · rw [if_pos h]
    obtain ⟨n, rfl⟩ := Int.eq_ofNat_of_zero_le h.1
    rw [Int.toNat_natCast]
    refine (rSize_in n w h.1 h.2).mono ?_
    rintro e w' ⟨rfl, rfl⟩
    exact ⟨rfl, Below.refl _ _⟩
  · rw [if_neg h]
    refine (rSize_out i w (by omega)).mono ?_
    rintro e w' ⟨rfl, rfl⟩
    exact ⟨rfl, Below.refl _ _⟩
end Go.Proofs.Ytcnijhcoifodpaa
namespace Go.Proofs.Ytcnijhcoifodpaa.deltaCodes
open Go.RowKit
set_option linter.unusedVariables false
attribute [local go_sem ↓] Go.wp_at_zero Go.wp_at_succ
set_option maxHeartbeats 1600000 in
theorem walk0 (w : World) (v i x c : Int) (x0 : -32768 ≤ x) (x1 : x ≤ 32767) (c0 : 0 ≤ c) :
    Calls Try.prog 4 #[.agg #[.int .i64 v, .int .i64 i], .int .i16 x, .int .u8 c] w fun e w' => e = .returned (.bool true) ∧ Below w.heap.size w w' := by
  have k1 := Lib.hid fun W => Encode_any v i x W x0 x1
  have k2 := Lib.hid fun W => rEncode_any v i x W x0 x1
  have k3 := Lib.hid fun W => Decode_any v i c W c0
  have k4 := Lib.hid fun W => rDecode_any v i c W c0
  have k5 := Lib.hid fun W => Valid_bel v i W
  have k6 := Lib.hid fun W => rValid_bel v i W
  have k7 := Lib.hid fun W => Size_bel i W
  have k8 := Lib.hid fun W => rSize_bel i W
  generalize Dlt.encR v i x = E at k1 k2
  generalize Dlt.decR v i c = D at k3 k4
  generalize Dlt.valid v i = V at k5 k6
  generalize Dlt.sz i = Z at k7 k8
  obtain ⟨E1, E2, E3, E4⟩ := E
  obtain ⟨D1, D2, D3, D4⟩ := D
  clear x0 x1 c0
  go_enter Try.func4, Try.ntmps4
  go_wp2_with fail
  have B0 := Lib.hid (Blk.new w 23 #[.int .i64 v, .int .i64 i])
  have U0 := Lib.hid ((Bel.refl w).push (.cells #[.int .i64 v, .int .i64 i] 23))
  refine (k1.out _).mono ?_
  rintro e w1 ⟨rfl, hb1⟩
  have B1 := Lib.hid ((B0.out.later hb1).alloc (.cells #[.int .i64 E2, .int .i64 E3] 23))
  have B1' := Lib.hid (Blk.new w1 23 #[.int .i64 E2, .int .i64 E3])
  have U1 := Lib.hid ((U0.out.later hb1).push (.cells #[.int .i64 E2, .int .i64 E3] 23))
  have c10 := B1.out.at 0 _ rfl
  have c11 := B1.out.at 1 _ rfl
  clear hb1
  go_wp2_with fail
  clear c10 c11
  refine (k2.out _).mono ?_
  rintro e w2 ⟨rfl, hb2⟩
  have B2 := Lib.hid ((B1.out.later hb2).alloc (.cells #[.int .i64 E2, .int .i64 E3] 23))
  have B2' := Lib.hid ((B1'.out.later hb2).alloc (.cells #[.int .i64 E2, .int .i64 E3] 23))
  have B2a := Lib.hid (Blk.new w2 23 #[.int .i64 E2, .int .i64 E3])
  have U2 := Lib.hid ((U1.out.later hb2).push (.cells #[.int .i64 E2, .int .i64 E3] 23))
  have c20 := B2.out.at 0 _ rfl
  have c21 := B2.out.at 1 _ rfl
  clear hb2
  go_wp2_with fail
  clear c20 c21
  refine (k3.out _).mono ?_
  rintro e w3 ⟨rfl, hb3⟩
  have B3 := Lib.hid ((B2.out.later hb3).alloc (.cells #[.int .i64 D2, .int .i64 D3] 23))
  have B3' := Lib.hid ((B2'.out.later hb3).alloc (.cells #[.int .i64 D2, .int .i64 D3] 23))
  have B3a := Lib.hid ((B2a.out.later hb3).alloc (.cells #[.int .i64 D2, .int .i64 D3] 23))
  have B3b := Lib.hid (Blk.new w3 23 #[.int .i64 D2, .int .i64 D3])
  have U3 := Lib.hid ((U2.out.later hb3).push (.cells #[.int .i64 D2, .int .i64 D3] 23))
  have c30 := B3.out.at 0 _ rfl
  have c31 := B3.out.at 1 _ rfl
  clear hb3
  go_wp2_with fail
  clear c30 c31
  refine (k4.out _).mono ?_
  rintro e w4 ⟨rfl, hb4⟩
  have B4 := Lib.hid ((B3.out.later hb4).alloc (.cells #[.int .i64 D2, .int .i64 D3] 23))
  have B4' := Lib.hid ((B3'.out.later hb4).alloc (.cells #[.int .i64 D2, .int .i64 D3] 23))
  have B4a := Lib.hid ((B3a.out.later hb4).alloc (.cells #[.int .i64 D2, .int .i64 D3] 23))
  have B4b := Lib.hid ((B3b.out.later hb4).alloc (.cells #[.int .i64 D2, .int .i64 D3] 23))
  have B4c := Lib.hid (Blk.new w4 23 #[.int .i64 D2, .int .i64 D3])
  have U4 := Lib.hid ((U3.out.later hb4).push (.cells #[.int .i64 D2, .int .i64 D3] 23))
  clear hb4
  go_wp2_with fail
  obtain ⟨W, hW⟩ : ∃ W, W = w4.alloc (.cells #[.int .i64 D2, .int .i64 D3] 23) := ⟨_, rfl⟩
  rw [← hW] at B4 B4' B4a B4b B4c U4 ⊢
  clear hW B1 B1' B2 B2' B2a B3 B3' B3a B3b U0 U1 U2 U3 B0
  have d0 := B4.out.at 0 _ rfl
  have d1 := B4.out.at 1 _ rfl
  have d2 := B4'.out.at 0 _ rfl
  have d3 := B4'.out.at 1 _ rfl
  have d4 := B4a.out.at 0 _ rfl
  have d5 := B4a.out.at 1 _ rfl
  have d6 := B4b.out.at 0 _ rfl
  have d7 := B4b.out.at 1 _ rfl
  have d8 := B4c.out.at 0 _ rfl
  have d9 := B4c.out.at 1 _ rfl
  have hU : Below w.heap.size w W := U4.out
  clear B4 B4' B4a B4b B4c U4
  go_region_held3 (fun w' => Below w.heap.size w w' ∧ w'.cell? ⟨w.heap.size, 0, none⟩ = some (.int .i64 v) ∧ w'.cell? ⟨w.heap.size, 1, none⟩ = some (.int .i64 i) ∧ w'.cell? ⟨w1.heap.size, 0, none⟩ = some (.int .i64 E2) ∧ w'.cell? ⟨w1.heap.size, 1, none⟩ = some (.int .i64 E3) ∧
      w'.cell? ⟨w2.heap.size, 0, none⟩ = some (.int .i64 E2) ∧ w'.cell? ⟨w2.heap.size, 1, none⟩ = some (.int .i64 E3) ∧ w'.cell? ⟨w3.heap.size, 0, none⟩ = some (.int .i64 D2) ∧ w'.cell? ⟨w3.heap.size, 1, none⟩ = some (.int .i64 D3) ∧
      w'.cell? ⟨w4.heap.size, 0, none⟩ = some (.int .i64 D2) ∧ w'.cell? ⟨w4.heap.size, 1, none⟩ = some (.int .i64 D3))
    (first | assumption | ((try go_split_ands); (repeat' apply And.intro) <;> first | (exact below_old' (by assumption) (by assumption)) | (exact Below.drew (by assumption)) | (exact cell_old (by assumption) (by assumption)) | assumption))
    (first
      | (go_at_call 17; refine (k5.out _).mono ?_; rintro e w' ⟨rfl, hbel⟩)
      | (go_at_call 10; refine (k6.out _).mono ?_; rintro e w' ⟨rfl, hbel⟩)
      | (go_at_call 18; refine (k7.out _).mono ?_; rintro e w' ⟨rfl, hbel⟩)
      | (go_at_call 12; refine (k8.out _).mono ?_; rintro e w' ⟨rfl, hbel⟩)
      | (go_at_call 11; refine (lives_any _).mono ?_; rintro e w' ⟨rfl, hbel⟩))
  all_goals go_wp2
  all_goals go_ret
  all_goals ((try go_split_ands); exact ⟨by simp, by assumption⟩)
theorem walk (w : World) (v i x : Int) (w1 : (Lit.int .i16 x).wf = true) (c : Int) (w2 : (Lit.int .u8 c).wf = true) :
    Calls Try.prog 4 #[.agg #[.int .i64 v, .int .i64 i], .int .i16 x, .int .u8 c] w fun e w' => e = .returned (.bool true) ∧ Below w.heap.size w w' := by
  have hx : -32768 ≤ x ∧ x ≤ 32767 := by simpa [Lit.wf, IntKind.min, IntKind.max, IntKind.signed, IntKind.bits] using w1
  have hc : 0 ≤ c ∧ c ≤ 255 := by simpa [Lit.wf, IntKind.min, IntKind.max, IntKind.signed, IntKind.bits] using w2
  exact walk0 w v i x c hx.1 hx.2 hc.1
end Go.Proofs.Ytcnijhcoifodpaa.deltaCodes

/- Layer 25: check of the program. -/
import Derived.Test.YtbpcpgmbfnmacaaPkEncP
namespace Go.Proofs.Ytbpcpgmbfnmacaa
open Go.RowKit
set_option linter.unusedVariables false
set_option linter.unusedSimpArgs false
attribute [local go_sem ↓] run_min_plain run_max_plain
attribute [local go_sem] setCell_drewN alloc_drewN
section
variable (mk : Bool) (ty sq ti so : Int) (Am : Option Addr) (mx : List Int) (cm : Nat) (ek : Int) (Ae : Option Addr) (et : List Int) (ce : Nat) (Ap : Option Addr) (pl : List Int) (cp : Nat) (pad : Int) (w : World)
set_option maxRecDepth 100000 in
set_option maxHeartbeats 800000 in
theorem check_r0 (ex : Bool) (h : 127 < ty) (hm1 : mx.length ≤ 10000) (hm2 : et.length ≤ 10000) (hm3 : pl.length ≤ 10000) : Calls Try.prog 27 #[.agg #[.bool mk, .int .u8 ty, .int .u16 sq, .int .u32 ti, .int .u32 so, .slice Am mx.length cm, .bool ex, .int .u16 ek, .slice Ae et.length ce, .slice Ap pl.length cp, .int .i64 pad]] w fun e w' => e = .returned (.int .u8 3) ∧ Below w.heap.size w w' := by
  go_enter Try.func27, Try.ntmps27
  go_wp2_with fail
  go_ret
  exact ⟨rfl, Bel.push (Bel.refl w) _⟩
set_option maxRecDepth 100000 in
set_option maxHeartbeats 800000 in
theorem check_r1 (ex : Bool) (t : ty ≤ 127) (h : pad < 0) (hm1 : mx.length ≤ 10000) (hm2 : et.length ≤ 10000) (hm3 : pl.length ≤ 10000) : Calls Try.prog 27 #[.agg #[.bool mk, .int .u8 ty, .int .u16 sq, .int .u32 ti, .int .u32 so, .slice Am mx.length cm, .bool ex, .int .u16 ek, .slice Ae et.length ce, .slice Ap pl.length cp, .int .i64 pad]] w fun e w' => e = .returned (.int .u8 3) ∧ Below w.heap.size w w' := by
  go_enter Try.func27, Try.ntmps27
  go_wp2_with fail
  go_ret
  exact ⟨rfl, Bel.push (Bel.refl w) _⟩
set_option maxRecDepth 100000 in
set_option maxHeartbeats 800000 in
theorem check_r2 (ex : Bool) (t : ty ≤ 127) (p0 : 0 ≤ pad) (h : 255 < pad) (hm1 : mx.length ≤ 10000) (hm2 : et.length ≤ 10000) (hm3 : pl.length ≤ 10000) : Calls Try.prog 27 #[.agg #[.bool mk, .int .u8 ty, .int .u16 sq, .int .u32 ti, .int .u32 so, .slice Am mx.length cm, .bool ex, .int .u16 ek, .slice Ae et.length ce, .slice Ap pl.length cp, .int .i64 pad]] w fun e w' => e = .returned (.int .u8 3) ∧ Below w.heap.size w w' := by
  go_enter Try.func27, Try.ntmps27
  go_wp2_with fail
  go_ret
  exact ⟨rfl, Bel.push (Bel.refl w) _⟩
set_option maxRecDepth 100000 in
set_option maxHeartbeats 800000 in
theorem check_a0 (t : ty ≤ 127) (p0 : 0 ≤ pad) (p1 : pad ≤ 255) (h : ek ≠ 0) (hm1 : mx.length ≤ 10000) (hm2 : et.length ≤ 10000) (hm3 : pl.length ≤ 10000) : Calls Try.prog 27 #[.agg #[.bool mk, .int .u8 ty, .int .u16 sq, .int .u32 ti, .int .u32 so, .slice Am mx.length cm, .bool false, .int .u16 ek, .slice Ae et.length ce, .slice Ap pl.length cp, .int .i64 pad]] w fun e w' => e = .returned (.int .u8 2) ∧ Below w.heap.size w w' := by
  have hb : (ek != 0) = true := bne_iff_ne.2 h
  clear h
  go_enter Try.func27, Try.ntmps27
  go_wp2_with fail
  go_ret
  exact ⟨rfl, Bel.push (Bel.refl w) _⟩
set_option maxRecDepth 100000 in
set_option maxHeartbeats 800000 in
theorem check_a1 (t : ty ≤ 127) (p0 : 0 ≤ pad) (p1 : pad ≤ 255) (h : ek = 0) (h2 : 0 < et.length) (hm1 : mx.length ≤ 10000) (hm2 : et.length ≤ 10000) (hm3 : pl.length ≤ 10000) : Calls Try.prog 27 #[.agg #[.bool mk, .int .u8 ty, .int .u16 sq, .int .u32 ti, .int .u32 so, .slice Am mx.length cm, .bool false, .int .u16 ek, .slice Ae et.length ce, .slice Ap pl.length cp, .int .i64 pad]] w fun e w' => e = .returned (.int .u8 2) ∧ Below w.heap.size w w' := by
  have hb : (ek != 0) = false := by rw [h]; rfl
  have hl : (0 : Int) < (et.length : Int) := by omega
  have hl3 : ¬et.length = 0 := by omega
  have hl4 : ¬et = [] := by intro h5; rw [h5] at hl3; exact hl3 rfl
  clear h
  go_enter Try.func27, Try.ntmps27
  go_wp2_with fail
  go_ret
  exact ⟨rfl, Bel.push (Bel.refl w) _⟩
set_option maxRecDepth 100000 in
set_option maxHeartbeats 800000 in
theorem check_a2 (t : ty ≤ 127) (p0 : 0 ≤ pad) (p1 : pad ≤ 255) (h4 : et.length % 4 ≠ 0) (hm1 : mx.length ≤ 10000) (hm2 : et.length ≤ 10000) (hm3 : pl.length ≤ 10000) : Calls Try.prog 27 #[.agg #[.bool mk, .int .u8 ty, .int .u16 sq, .int .u32 ti, .int .u32 so, .slice Am mx.length cm, .bool true, .int .u16 ek, .slice Ae et.length ce, .slice Ap pl.length cp, .int .i64 pad]] w fun e w' => e = .returned (.int .u8 2) ∧ Below w.heap.size w w' := by
  have m4 : ((et.length : Int).tmod 4 != 0) = true := by have := Int.tmod_eq_emod_of_nonneg (a := (et.length : Int)) (by omega) (b := 4); rw [this]; rw [bne_iff_ne]; omega
  have m5 : ((et.length : Int) % 4 != 0) = true := by rw [bne_iff_ne]; omega
  clear h4
  go_enter Try.func27, Try.ntmps27
  go_wp2_with fail
  go_ret
  exact ⟨rfl, Bel.push (Bel.refl w) _⟩
set_option maxRecDepth 100000 in
set_option maxHeartbeats 800000 in
theorem check_t0 (t : ty ≤ 127) (p0 : 0 ≤ pad) (p1 : pad ≤ 255) (h4 : et.length % 4 = 0) (g : 15 < mx.length) (hm1 : mx.length ≤ 10000) (hm2 : et.length ≤ 10000) (hm3 : pl.length ≤ 10000) : Calls Try.prog 27 #[.agg #[.bool mk, .int .u8 ty, .int .u16 sq, .int .u32 ti, .int .u32 so, .slice Am mx.length cm, .bool true, .int .u16 ek, .slice Ae et.length ce, .slice Ap pl.length cp, .int .i64 pad]] w fun e w' => e = .returned (.int .u8 4) ∧ Below w.heap.size w w' := by
  have v1 : (15 : Int) < (mx.length : Int) := by omega
  have m4 : ((et.length : Int).tmod 4 != 0) = false := by have := Int.tmod_eq_emod_of_nonneg (a := (et.length : Int)) (by omega) (b := 4); rw [this]; simp; omega
  have m5 : ((et.length : Int) % 4 != 0) = false := by simp; omega
  clear h4
  go_enter Try.func27, Try.ntmps27
  go_wp2_with fail
  go_ret
  exact ⟨rfl, Bel.push (Bel.refl w) _⟩
set_option maxRecDepth 100000 in
set_option maxHeartbeats 800000 in
theorem check_f0 (t : ty ≤ 127) (p0 : 0 ≤ pad) (p1 : pad ≤ 255) (h : ek = 0) (h2 : et.length = 0) (g : 15 < mx.length) (hm1 : mx.length ≤ 10000) (hm2 : et.length ≤ 10000) (hm3 : pl.length ≤ 10000) : Calls Try.prog 27 #[.agg #[.bool mk, .int .u8 ty, .int .u16 sq, .int .u32 ti, .int .u32 so, .slice Am mx.length cm, .bool false, .int .u16 ek, .slice Ae et.length ce, .slice Ap pl.length cp, .int .i64 pad]] w fun e w' => e = .returned (.int .u8 4) ∧ Below w.heap.size w w' := by
  have hb : (ek != 0) = false := by rw [h]; rfl
  obtain rfl := List.eq_nil_of_length_eq_zero h2
  clear h h2
  have v1 : (15 : Int) < (mx.length : Int) := by omega
  go_enter Try.func27, Try.ntmps27
  go_wp2_with fail
  go_ret
  exact ⟨rfl, Bel.push (Bel.refl w) _⟩
set_option maxRecDepth 100000 in
set_option maxHeartbeats 800000 in
theorem check_t1 (t : ty ≤ 127) (p0 : 0 ≤ pad) (p1 : pad ≤ 255) (h4 : et.length % 4 = 0) (g : mx.length ≤ 15) (g2 : 1020 < et.length) (hm1 : mx.length ≤ 10000) (hm2 : et.length ≤ 10000) (hm3 : pl.length ≤ 10000) : Calls Try.prog 27 #[.agg #[.bool mk, .int .u8 ty, .int .u16 sq, .int .u32 ti, .int .u32 so, .slice Am mx.length cm, .bool true, .int .u16 ek, .slice Ae et.length ce, .slice Ap pl.length cp, .int .i64 pad]] w fun e w' => e = .returned (.int .u8 4) ∧ Below w.heap.size w w' := by
  have v1 : (mx.length : Int) ≤ 15 := by omega
  have v2 : (1020 : Int) < (et.length : Int) := by omega
  have m4 : ((et.length : Int).tmod 4 != 0) = false := by have := Int.tmod_eq_emod_of_nonneg (a := (et.length : Int)) (by omega) (b := 4); rw [this]; simp; omega
  have m5 : ((et.length : Int) % 4 != 0) = false := by simp; omega
  clear h4
  go_enter Try.func27, Try.ntmps27
  go_wp2_with fail
  go_ret
  exact ⟨rfl, Bel.push (Bel.refl w) _⟩
set_option maxRecDepth 100000 in
set_option maxHeartbeats 800000 in
theorem check_t2 (t : ty ≤ 127) (p0 : 0 ≤ pad) (p1 : pad ≤ 255) (h4 : et.length % 4 = 0) (g : mx.length ≤ 15) (g2 : et.length ≤ 1020) (g3 : 1500 < pl.length) (hm1 : mx.length ≤ 10000) (hm2 : et.length ≤ 10000) (hm3 : pl.length ≤ 10000) : Calls Try.prog 27 #[.agg #[.bool mk, .int .u8 ty, .int .u16 sq, .int .u32 ti, .int .u32 so, .slice Am mx.length cm, .bool true, .int .u16 ek, .slice Ae et.length ce, .slice Ap pl.length cp, .int .i64 pad]] w fun e w' => e = .returned (.int .u8 4) ∧ Below w.heap.size w w' := by
  have v1 : (mx.length : Int) ≤ 15 := by omega
  have v2 : (et.length : Int) ≤ 1020 := by omega
  have v3 : (1500 : Int) < (pl.length : Int) := by omega
  have m4 : ((et.length : Int).tmod 4 != 0) = false := by have := Int.tmod_eq_emod_of_nonneg (a := (et.length : Int)) (by omega) (b := 4); rw [this]; simp; omega
  have m5 : ((et.length : Int) % 4 != 0) = false := by simp; omega
  clear h4
  go_enter Try.func27, Try.ntmps27
  go_wp2_with fail
  go_ret
  exact ⟨rfl, Bel.push (Bel.refl w) _⟩
set_option maxRecDepth 100000 in
set_option maxHeartbeats 800000 in
theorem check_f2 (t : ty ≤ 127) (p0 : 0 ≤ pad) (p1 : pad ≤ 255) (h : ek = 0) (h2 : et.length = 0) (g : mx.length ≤ 15) (g2 : et.length ≤ 1020) (g3 : 1500 < pl.length) (hm1 : mx.length ≤ 10000) (hm2 : et.length ≤ 10000) (hm3 : pl.length ≤ 10000) : Calls Try.prog 27 #[.agg #[.bool mk, .int .u8 ty, .int .u16 sq, .int .u32 ti, .int .u32 so, .slice Am mx.length cm, .bool false, .int .u16 ek, .slice Ae et.length ce, .slice Ap pl.length cp, .int .i64 pad]] w fun e w' => e = .returned (.int .u8 4) ∧ Below w.heap.size w w' := by
  have hb : (ek != 0) = false := by rw [h]; rfl
  obtain rfl := List.eq_nil_of_length_eq_zero h2
  clear h h2
  have v1 : (mx.length : Int) ≤ 15 := by omega
  have v3 : (1500 : Int) < (pl.length : Int) := by omega
  go_enter Try.func27, Try.ntmps27
  go_wp2_with fail
  go_ret
  exact ⟨rfl, Bel.push (Bel.refl w) _⟩
set_option maxRecDepth 100000 in
set_option maxHeartbeats 800000 in
theorem check_t3 (t : ty ≤ 127) (p0 : 0 ≤ pad) (p1 : pad ≤ 255) (h4 : et.length % 4 = 0) (g : mx.length ≤ 15) (g2 : et.length ≤ 1020) (g3 : pl.length ≤ 1500) (hm1 : mx.length ≤ 10000) (hm2 : et.length ≤ 10000) (hm3 : pl.length ≤ 10000) : Calls Try.prog 27 #[.agg #[.bool mk, .int .u8 ty, .int .u16 sq, .int .u32 ti, .int .u32 so, .slice Am mx.length cm, .bool true, .int .u16 ek, .slice Ae et.length ce, .slice Ap pl.length cp, .int .i64 pad]] w fun e w' => e = .returned (.int .u8 0) ∧ Below w.heap.size w w' := by
  have v1 : (mx.length : Int) ≤ 15 := by omega
  have v2 : (et.length : Int) ≤ 1020 := by omega
  have v3 : (pl.length : Int) ≤ 1500 := by omega
  have m4 : ((et.length : Int).tmod 4 != 0) = false := by have := Int.tmod_eq_emod_of_nonneg (a := (et.length : Int)) (by omega) (b := 4); rw [this]; simp; omega
  have m5 : ((et.length : Int) % 4 != 0) = false := by simp; omega
  clear h4
  go_enter Try.func27, Try.ntmps27
  go_wp2_with fail
  go_ret
  exact ⟨rfl, Bel.push (Bel.refl w) _⟩
set_option maxRecDepth 100000 in
set_option maxHeartbeats 800000 in
theorem check_f3 (t : ty ≤ 127) (p0 : 0 ≤ pad) (p1 : pad ≤ 255) (h : ek = 0) (h2 : et.length = 0) (g : mx.length ≤ 15) (g2 : et.length ≤ 1020) (g3 : pl.length ≤ 1500) (hm1 : mx.length ≤ 10000) (hm2 : et.length ≤ 10000) (hm3 : pl.length ≤ 10000) : Calls Try.prog 27 #[.agg #[.bool mk, .int .u8 ty, .int .u16 sq, .int .u32 ti, .int .u32 so, .slice Am mx.length cm, .bool false, .int .u16 ek, .slice Ae et.length ce, .slice Ap pl.length cp, .int .i64 pad]] w fun e w' => e = .returned (.int .u8 0) ∧ Below w.heap.size w w' := by
  have hb : (ek != 0) = false := by rw [h]; rfl
  obtain rfl := List.eq_nil_of_length_eq_zero h2
  clear h h2
  have v1 : (mx.length : Int) ≤ 15 := by omega
  have v3 : (pl.length : Int) ≤ 1500 := by omega
  go_enter Try.func27, Try.ntmps27
  go_wp2_with fail
  go_ret
  exact ⟨rfl, Bel.push (Bel.refl w) _⟩
end
theorem check_any (mk : Bool) (ty sq ti so : Int) (Am : Option Addr) (mx : List Int) (cm : Nat) (ek : Int) (Ae : Option Addr) (et : List Int) (ce : Nat) (Ap : Option Addr) (pl : List Int) (cp : Nat) (pad : Int) (w : World) (ex : Bool) (hm1 : mx.length ≤ 10000) (hm2 : et.length ≤ 10000) (hm3 : pl.length ≤ 10000) : Calls Try.prog 27 #[.agg #[.bool mk, .int .u8 ty, .int .u16 sq, .int .u32 ti, .int .u32 so, .slice Am mx.length cm, .bool ex, .int .u16 ek, .slice Ae et.length ce, .slice Ap pl.length cp, .int .i64 pad]] w fun e w' => e = .returned (.int .u8 (Pk.err ⟨mk, ty, sq, ti, so, mx, ex, ek, et, pl, pad⟩)) ∧ Below w.heap.size w w' := by
  unfold Pk.err
  simp only
  by_cases c1 : 127 < ty ∨ pad < 0 ∨ 255 < pad
  · rw [if_pos c1]
    by_cases h1 : 127 < ty
    · exact check_r0 mk ty sq ti so Am mx cm ek Ae et ce Ap pl cp pad w ex h1 hm1 hm2 hm3
    by_cases h2 : pad < 0
    · exact check_r1 mk ty sq ti so Am mx cm ek Ae et ce Ap pl cp pad w ex (by omega) h2 hm1 hm2 hm3
    · exact check_r2 mk ty sq ti so Am mx cm ek Ae et ce Ap pl cp pad w ex (by omega) (by omega) (by omega) hm1 hm2 hm3
  rw [if_neg c1]
  cases ex
  · by_cases c2 : ek ≠ 0
    · rw [if_pos (.inl ⟨rfl, .inl c2⟩)]
      exact check_a0 mk ty sq ti so Am mx cm ek Ae et ce Ap pl cp pad w (by omega) (by omega) (by omega) c2 hm1 hm2 hm3
    have c2' : ek = 0 := by simpa using c2
    by_cases c3 : 0 < et.length
    · rw [if_pos (.inl ⟨rfl, .inr c3⟩)]
      exact check_a1 mk ty sq ti so Am mx cm ek Ae et ce Ap pl cp pad w (by omega) (by omega) (by omega) c2' c3 hm1 hm2 hm3
    rw [if_neg (by omega)]
    by_cases c4 : 15 < mx.length
    · rw [if_pos (.inl c4)]
      exact check_f0 mk ty sq ti so Am mx cm ek Ae et ce Ap pl cp pad w (by omega) (by omega) (by omega) c2' (by omega) c4 hm1 hm2 hm3
    by_cases c5 : 1500 < pl.length
    · rw [if_pos (.inr (.inr c5))]
      exact check_f2 mk ty sq ti so Am mx cm ek Ae et ce Ap pl cp pad w (by omega) (by omega) (by omega) c2' (by omega) (by omega) (by omega) c5 hm1 hm2 hm3
    · rw [if_neg (by omega)]
      exact check_f3 mk ty sq ti so Am mx cm ek Ae et ce Ap pl cp pad w (by omega) (by omega) (by omega) c2' (by omega) (by omega) (by omega) (by omega) hm1 hm2 hm3
  · by_cases c2 : et.length % 4 ≠ 0
    · rw [if_pos (.inr c2)]
      exact check_a2 mk ty sq ti so Am mx cm ek Ae et ce Ap pl cp pad w (by omega) (by omega) (by omega) c2 hm1 hm2 hm3
    rw [if_neg (by simp at c2 ⊢; omega)]
    by_cases c4 : 15 < mx.length
    · rw [if_pos (.inl c4)]
      exact check_t0 mk ty sq ti so Am mx cm ek Ae et ce Ap pl cp pad w (by omega) (by omega) (by omega) (by omega) c4 hm1 hm2 hm3
    by_cases c5 : 1020 < et.length
    · rw [if_pos (.inr (.inl c5))]
      exact check_t1 mk ty sq ti so Am mx cm ek Ae et ce Ap pl cp pad w (by omega) (by omega) (by omega) (by omega) (by omega) c5 hm1 hm2 hm3
    by_cases c6 : 1500 < pl.length
    · rw [if_pos (.inr (.inr c6))]
      exact check_t2 mk ty sq ti so Am mx cm ek Ae et ce Ap pl cp pad w (by omega) (by omega) (by omega) (by omega) (by omega) (by omega) c6 hm1 hm2 hm3
    · rw [if_neg (by omega)]
      exact check_t3 mk ty sq ti so Am mx cm ek Ae et ce Ap pl cp pad w (by omega) (by omega) (by omega) (by omega) (by omega) (by omega) (by omega) hm1 hm2 hm3
end Go.Proofs.Ytbpcpgmbfnmacaa

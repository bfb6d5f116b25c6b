/- Layer 26: Decode of the reference: lengths that do not fit. -/
import Derived.Test.YthmcbmjjngolmaaRepRDec0
namespace Go.Proofs.Ythmcbmjjngolmaa
open Go.RowKit
set_option linter.unusedVariables false
set_option linter.unusedSimpArgs false
attribute [local go_sem] setCell_drewN alloc_drewN
theorem fld_two (bs : List Int) (i : Nat) (h : i + 1 < bs.length) : fld bs i 2 = 256 * bs.getD i 0 + bs.getD (i + 1) 0 := by
  rw [fld_take bs i 1 h, fld_one bs i (by omega)]
theorem i64_small (x : Int) (h0 : -9223372036854775808 ≤ x) (h1 : x ≤ 9223372036854775807) : IntKind.i64.wrap x = x := by
  by_cases h : 0 ≤ x
  · have e : x % 2 ^ 64 = x := Int.emod_eq_of_lt h (by omega)
    simp only [IntKind.wrap, IntKind.bits, IntKind.signed, e]
    rw [if_neg (by simp; omega)]
  · have e : x % 2 ^ 64 = x + 2 ^ 64 := by omega
    simp only [IntKind.wrap, IntKind.bits, IntKind.signed, e]
    rw [if_pos (by simp; omega)]
    omega
section
variable (A : Option Addr) (bs : List Int) (c : Nat) (w : World)
set_option maxRecDepth 100000 in
set_option maxHeartbeats 6400000 in
theorem rDec_size_true (hA : IntsAt w w.heap.size .u8 A bs) (hz : Within 0 255 bs) (hm : bs.length ≤ maxLen) (hc : bs.length ≤ c) (mm : Nat) (h : 4 ≤ bs.length) (h2 : bs.getD 0 0 / 32 = 4) (hmm : bs.getD 0 0 % 32 = (mm : Int)) (h3 : bs.getD 1 0 = 200) (h4' : 256 * bs.getD 2 0 + bs.getD 3 0 + 1 ≠ 7 + 6 * (mm : Int)) : Calls Try.prog 23 #[.slice A bs.length c] w (DecR (Rep.Rpt.zero, 2, 5) w) := by
  have h4 : ¬bs.length < 4 := by omega
  have hf2 := fld_two bs 2 (by omega)
  have hA0 := hA
  obtain ⟨b, off, rfl, hbB, hcell⟩ := hA (by omega)
  have q0 := (cell_new_old (cell_new_old (show w.cell? ⟨b, off, none⟩ = some (.int .u8 (bs.getD 0 0)) from hcell 0 (by omega)) (.cells #[.bool false, .int .u32 0, .int .u64 0, .int .u32 0, .int .u32 0, .int .u32 0, .slice none 0 0] 47)) (.cells #[.bool false, .int .u32 0, .int .u64 0, .int .u32 0, .int .u32 0, .int .u32 0, .slice none 0 0] 47))
  have q1 := (cell_new_old (cell_new_old (show w.cell? ⟨b, off + 1, none⟩ = some (.int .u8 (bs.getD 1 0)) from hcell 1 (by omega)) (.cells #[.bool false, .int .u32 0, .int .u64 0, .int .u32 0, .int .u32 0, .int .u32 0, .slice none 0 0] 47)) (.cells #[.bool false, .int .u32 0, .int .u64 0, .int .u32 0, .int .u32 0, .int .u32 0, .slice none 0 0] 47))
  have q0c := cell_new_old q0 (.cells #[.bool true, .int .u32 0, .int .u64 0, .int .u32 0, .int .u32 0, .int .u32 0, .slice none 0 0] 47)
  obtain ⟨m0, n0⟩ := hz.at (i := 0) (by omega)
  obtain ⟨m1, n1⟩ := hz.at (i := 1) (by omega)
  obtain ⟨m2, n2⟩ := hz.at (i := 2) (by omega)
  obtain ⟨m3, n3⟩ := hz.at (i := 3) (by omega)
  generalize bs.getD 0 0 = x0 at *
  generalize bs.getD 1 0 = x1 at *
  generalize bs.getD 2 0 = x2 at *
  generalize bs.getD 3 0 = x3 at *
  have HM := Lib.hid hm
  unfold maxLen at hm
  have HB := Lib.hid hz
  have HA : Hid (IntsAt w w.heap.size .u8 (some ⟨b, off, none⟩) bs) := Lib.hid hA0
  clear hA hA0 hz hcell
  have t0 : (0 : Int) < (bs.length : Int) := by omega
  have t1 : (1 : Int) < (bs.length : Int) := by omega
  have k1 : (x0 / 32 != 4) = false := by simp [h2]
  have k1b : x0.tdiv 32 = 4 := by rw [Int.tdiv_eq_ediv_of_nonneg m0]; exact h2
  have k1c : x0.tmod 32 = (mm : Int) := by rw [Int.tmod_eq_emod_of_nonneg m0]; exact hmm
  have hmb : (mm : Int) ≤ 31 := by omega
  have ks := Lib.hid fun W => rSize_any true mm W (by omega)
  obtain ⟨S, hS⟩ : ∃ S, S = Rep.sizeR true mm := ⟨_, rfl⟩
  rw [← hS] at ks
  have hS2 : S = 4 * (7 + 6 * (mm : Int)) := by rw [hS]; unfold Rep.sizeR; simp; omega
  clear hS h2
  subst h3
  obtain ⟨Q, hQ⟩ : ∃ Q, Q = 7 + 6 * (mm : Int) := ⟨_, rfl⟩
  have k6 : S.tdiv 4 = Q := by rw [hS2, hQ]; exact Int.mul_tdiv_cancel_left _ (by decide)
  have k6b : S / 4 = Q := by omega
  have hQ0 : 2 ≤ Q := by omega
  have hQ1 : Q ≤ 300 := by omega
  have hS0 : 8 ≤ S := by omega
  have hS1 : S ≤ 1200 := by omega
  obtain ⟨f, hf⟩ : ∃ f, f = fld bs 2 2 := ⟨_, rfl⟩
  rw [← hf] at hf2
  have hf0 : 0 ≤ f := by omega
  have hf1 : f ≤ 65535 := by omega
  have HF := Lib.hid hf
  clear hf
  have k5 : (f != Q - 1) = true := by rw [bne_iff_ne]; omega
  have d2 : (2 : Int) ≤ (c : Int) := by omega
  have d4 : (4 : Int) ≤ (c : Int) := by omega
  have n2' : ¬c = 2 := by omega
  have HS2 := Lib.hid hS2
  have HQ := Lib.hid hQ
  have HMM := Lib.hid hmm
  clear hS2 hQ hmm h4' hf2
  go_enter Try.func23, Try.ntmps23
  have U := Lib.hid (Bel.push (Bel.push (Bel.push (Bel.refl w) (.cells #[.bool false, .int .u32 0, .int .u64 0, .int .u32 0, .int .u32 0, .int .u32 0, .slice none 0 0] 47)) (.cells #[.bool false, .int .u32 0, .int .u64 0, .int .u32 0, .int .u32 0, .int .u32 0, .slice none 0 0] 47)) (.cells #[.bool true, .int .u32 0, .int .u64 0, .int .u32 0, .int .u32 0, .int .u32 0, .slice none 0 0] 47))
  have B := Lib.hid (Blk.push (Blk.push (Blk.new w 47 #[.bool false, .int .u32 0, .int .u64 0, .int .u32 0, .int .u32 0, .int .u32 0, .slice none 0 0]) (.cells #[.bool false, .int .u32 0, .int .u64 0, .int .u32 0, .int .u32 0, .int .u32 0, .slice none 0 0] 47)) (.cells #[.bool true, .int .u32 0, .int .u64 0, .int .u32 0, .int .u32 0, .int .u32 0, .slice none 0 0] 47))
  have B2 := Lib.hid (Blk.new2 w (.cells #[.bool false, .int .u32 0, .int .u64 0, .int .u32 0, .int .u32 0, .int .u32 0, .slice none 0 0] 47) (.cells #[.bool false, .int .u32 0, .int .u64 0, .int .u32 0, .int .u32 0, .int .u32 0, .slice none 0 0] 47) 47 #[.bool true, .int .u32 0, .int .u64 0, .int .u32 0, .int .u32 0, .int .u32 0, .slice none 0 0])
  go_wp2_with fail
  refine (ks.out _).mono ?_
  rintro e w1 ⟨rfl, rfl⟩
  have HA3 := Lib.hid (((HA.out.alloc (Nat.le_refl _) (.cells #[.bool false, .int .u32 0, .int .u64 0, .int .u32 0, .int .u32 0, .int .u32 0, .slice none 0 0] 47)).alloc (by simp) (.cells #[.bool false, .int .u32 0, .int .u64 0, .int .u32 0, .int .u32 0, .int .u32 0, .slice none 0 0] 47)).alloc (by rw [size_alloc2]; omega) (.cells #[.bool true, .int .u32 0, .int .u64 0, .int .u32 0, .int .u32 0, .int .u32 0, .slice none 0 0] 47))
  go_wp2_with fail
  refine (value_sub (i := 2) (m := 2) HA3.out HB.out (by omega) (by omega) rfl).mono ?_
  rintro e w1 ⟨rfl, rfl⟩
  rw [← HF.out]
  go_wp2_with fail
  exact bodyPost_ret (v := .tuple #[.agg #[.bool false, .int .u32 0, .int .u64 0, .int .u32 0, .int .u32 0, .int .u32 0, .slice none 0 0], .int .i64 2, .int .u8 5]) (res_ctt Try.results23 rfl (run_loadVar_row (P := Try.prog) _ _ _ _ _ _ _ B.out Try.underlying47 rfl (by kernel_rfl)) rfl rfl) rfl ⟨none, 0, rfl, RowsNew.nil, U.out⟩
set_option maxRecDepth 100000 in
set_option maxHeartbeats 6400000 in
theorem rDec_size_false (hA : IntsAt w w.heap.size .u8 A bs) (hz : Within 0 255 bs) (hm : bs.length ≤ maxLen) (hc : bs.length ≤ c) (mm : Nat) (h : 4 ≤ bs.length) (h2 : bs.getD 0 0 / 32 = 4) (hmm : bs.getD 0 0 % 32 = (mm : Int)) (h3 : bs.getD 1 0 = 201) (h4' : 256 * bs.getD 2 0 + bs.getD 3 0 + 1 ≠ 2 + 6 * (mm : Int)) : Calls Try.prog 23 #[.slice A bs.length c] w (DecR (Rep.Rpt.zero, 2, 5) w) := by
  have h4 : ¬bs.length < 4 := by omega
  have hf2 := fld_two bs 2 (by omega)
  have hA0 := hA
  obtain ⟨b, off, rfl, hbB, hcell⟩ := hA (by omega)
  have q0 := (cell_new_old (cell_new_old (show w.cell? ⟨b, off, none⟩ = some (.int .u8 (bs.getD 0 0)) from hcell 0 (by omega)) (.cells #[.bool false, .int .u32 0, .int .u64 0, .int .u32 0, .int .u32 0, .int .u32 0, .slice none 0 0] 47)) (.cells #[.bool false, .int .u32 0, .int .u64 0, .int .u32 0, .int .u32 0, .int .u32 0, .slice none 0 0] 47))
  have q1 := (cell_new_old (cell_new_old (show w.cell? ⟨b, off + 1, none⟩ = some (.int .u8 (bs.getD 1 0)) from hcell 1 (by omega)) (.cells #[.bool false, .int .u32 0, .int .u64 0, .int .u32 0, .int .u32 0, .int .u32 0, .slice none 0 0] 47)) (.cells #[.bool false, .int .u32 0, .int .u64 0, .int .u32 0, .int .u32 0, .int .u32 0, .slice none 0 0] 47))
  have q0c := cell_new_old q0 (.cells #[.bool false, .int .u32 0, .int .u64 0, .int .u32 0, .int .u32 0, .int .u32 0, .slice none 0 0] 47)
  obtain ⟨m0, n0⟩ := hz.at (i := 0) (by omega)
  obtain ⟨m1, n1⟩ := hz.at (i := 1) (by omega)
  obtain ⟨m2, n2⟩ := hz.at (i := 2) (by omega)
  obtain ⟨m3, n3⟩ := hz.at (i := 3) (by omega)
  generalize bs.getD 0 0 = x0 at *
  generalize bs.getD 1 0 = x1 at *
  generalize bs.getD 2 0 = x2 at *
  generalize bs.getD 3 0 = x3 at *
  have HM := Lib.hid hm
  unfold maxLen at hm
  have HB := Lib.hid hz
  have HA : Hid (IntsAt w w.heap.size .u8 (some ⟨b, off, none⟩) bs) := Lib.hid hA0
  clear hA hA0 hz hcell
  have t0 : (0 : Int) < (bs.length : Int) := by omega
  have t1 : (1 : Int) < (bs.length : Int) := by omega
  have k1 : (x0 / 32 != 4) = false := by simp [h2]
  have k1b : x0.tdiv 32 = 4 := by rw [Int.tdiv_eq_ediv_of_nonneg m0]; exact h2
  have k1c : x0.tmod 32 = (mm : Int) := by rw [Int.tmod_eq_emod_of_nonneg m0]; exact hmm
  have hmb : (mm : Int) ≤ 31 := by omega
  have ks := Lib.hid fun W => rSize_any false mm W (by omega)
  obtain ⟨S, hS⟩ : ∃ S, S = Rep.sizeR false mm := ⟨_, rfl⟩
  rw [← hS] at ks
  have hS2 : S = 4 * (2 + 6 * (mm : Int)) := by rw [hS]; unfold Rep.sizeR; simp; omega
  clear hS h2
  subst h3
  obtain ⟨Q, hQ⟩ : ∃ Q, Q = 2 + 6 * (mm : Int) := ⟨_, rfl⟩
  have k6 : S.tdiv 4 = Q := by rw [hS2, hQ]; exact Int.mul_tdiv_cancel_left _ (by decide)
  have k6b : S / 4 = Q := by omega
  have hQ0 : 2 ≤ Q := by omega
  have hQ1 : Q ≤ 300 := by omega
  have hS0 : 8 ≤ S := by omega
  have hS1 : S ≤ 1200 := by omega
  obtain ⟨f, hf⟩ : ∃ f, f = fld bs 2 2 := ⟨_, rfl⟩
  rw [← hf] at hf2
  have hf0 : 0 ≤ f := by omega
  have hf1 : f ≤ 65535 := by omega
  have HF := Lib.hid hf
  clear hf
  have k5 : (f != Q - 1) = true := by rw [bne_iff_ne]; omega
  have d2 : (2 : Int) ≤ (c : Int) := by omega
  have d4 : (4 : Int) ≤ (c : Int) := by omega
  have n2' : ¬c = 2 := by omega
  have HS2 := Lib.hid hS2
  have HQ := Lib.hid hQ
  have HMM := Lib.hid hmm
  clear hS2 hQ hmm h4' hf2
  go_enter Try.func23, Try.ntmps23
  have U := Lib.hid (Bel.push (Bel.push (Bel.push (Bel.refl w) (.cells #[.bool false, .int .u32 0, .int .u64 0, .int .u32 0, .int .u32 0, .int .u32 0, .slice none 0 0] 47)) (.cells #[.bool false, .int .u32 0, .int .u64 0, .int .u32 0, .int .u32 0, .int .u32 0, .slice none 0 0] 47)) (.cells #[.bool false, .int .u32 0, .int .u64 0, .int .u32 0, .int .u32 0, .int .u32 0, .slice none 0 0] 47))
  have B := Lib.hid (Blk.push (Blk.push (Blk.new w 47 #[.bool false, .int .u32 0, .int .u64 0, .int .u32 0, .int .u32 0, .int .u32 0, .slice none 0 0]) (.cells #[.bool false, .int .u32 0, .int .u64 0, .int .u32 0, .int .u32 0, .int .u32 0, .slice none 0 0] 47)) (.cells #[.bool false, .int .u32 0, .int .u64 0, .int .u32 0, .int .u32 0, .int .u32 0, .slice none 0 0] 47))
  have B2 := Lib.hid (Blk.new2 w (.cells #[.bool false, .int .u32 0, .int .u64 0, .int .u32 0, .int .u32 0, .int .u32 0, .slice none 0 0] 47) (.cells #[.bool false, .int .u32 0, .int .u64 0, .int .u32 0, .int .u32 0, .int .u32 0, .slice none 0 0] 47) 47 #[.bool false, .int .u32 0, .int .u64 0, .int .u32 0, .int .u32 0, .int .u32 0, .slice none 0 0])
  go_wp2_with fail
  refine (ks.out _).mono ?_
  rintro e w1 ⟨rfl, rfl⟩
  have HA3 := Lib.hid (((HA.out.alloc (Nat.le_refl _) (.cells #[.bool false, .int .u32 0, .int .u64 0, .int .u32 0, .int .u32 0, .int .u32 0, .slice none 0 0] 47)).alloc (by simp) (.cells #[.bool false, .int .u32 0, .int .u64 0, .int .u32 0, .int .u32 0, .int .u32 0, .slice none 0 0] 47)).alloc (by rw [size_alloc2]; omega) (.cells #[.bool false, .int .u32 0, .int .u64 0, .int .u32 0, .int .u32 0, .int .u32 0, .slice none 0 0] 47))
  go_wp2_with fail
  refine (value_sub (i := 2) (m := 2) HA3.out HB.out (by omega) (by omega) rfl).mono ?_
  rintro e w1 ⟨rfl, rfl⟩
  rw [← HF.out]
  go_wp2_with fail
  exact bodyPost_ret (v := .tuple #[.agg #[.bool false, .int .u32 0, .int .u64 0, .int .u32 0, .int .u32 0, .int .u32 0, .slice none 0 0], .int .i64 2, .int .u8 5]) (res_ctt Try.results23 rfl (run_loadVar_row (P := Try.prog) _ _ _ _ _ _ _ B.out Try.underlying47 rfl (by kernel_rfl)) rfl rfl) rfl ⟨none, 0, rfl, RowsNew.nil, U.out⟩
set_option maxRecDepth 100000 in
set_option maxHeartbeats 6400000 in
theorem rDec_less_true (hA : IntsAt w w.heap.size .u8 A bs) (hz : Within 0 255 bs) (hm : bs.length ≤ maxLen) (hc : bs.length ≤ c) (mm : Nat) (h : 4 ≤ bs.length) (h2 : bs.getD 0 0 / 32 = 4) (hmm : bs.getD 0 0 % 32 = (mm : Int)) (h3 : bs.getD 1 0 = 200) (h4' : 256 * bs.getD 2 0 + bs.getD 3 0 + 1 = 7 + 6 * (mm : Int)) (h5 : (bs.length : Int) < 4 * (7 + 6 * (mm : Int))) : Calls Try.prog 23 #[.slice A bs.length c] w (DecR (Rep.Rpt.zero, (bs.length : Int), 6) w) := by
  have h4 : ¬bs.length < 4 := by omega
  have hf2 := fld_two bs 2 (by omega)
  have hA0 := hA
  obtain ⟨b, off, rfl, hbB, hcell⟩ := hA (by omega)
  have q0 := (cell_new_old (cell_new_old (show w.cell? ⟨b, off, none⟩ = some (.int .u8 (bs.getD 0 0)) from hcell 0 (by omega)) (.cells #[.bool false, .int .u32 0, .int .u64 0, .int .u32 0, .int .u32 0, .int .u32 0, .slice none 0 0] 47)) (.cells #[.bool false, .int .u32 0, .int .u64 0, .int .u32 0, .int .u32 0, .int .u32 0, .slice none 0 0] 47))
  have q1 := (cell_new_old (cell_new_old (show w.cell? ⟨b, off + 1, none⟩ = some (.int .u8 (bs.getD 1 0)) from hcell 1 (by omega)) (.cells #[.bool false, .int .u32 0, .int .u64 0, .int .u32 0, .int .u32 0, .int .u32 0, .slice none 0 0] 47)) (.cells #[.bool false, .int .u32 0, .int .u64 0, .int .u32 0, .int .u32 0, .int .u32 0, .slice none 0 0] 47))
  have q0c := cell_new_old q0 (.cells #[.bool true, .int .u32 0, .int .u64 0, .int .u32 0, .int .u32 0, .int .u32 0, .slice none 0 0] 47)
  obtain ⟨m0, n0⟩ := hz.at (i := 0) (by omega)
  obtain ⟨m1, n1⟩ := hz.at (i := 1) (by omega)
  obtain ⟨m2, n2⟩ := hz.at (i := 2) (by omega)
  obtain ⟨m3, n3⟩ := hz.at (i := 3) (by omega)
  generalize bs.getD 0 0 = x0 at *
  generalize bs.getD 1 0 = x1 at *
  generalize bs.getD 2 0 = x2 at *
  generalize bs.getD 3 0 = x3 at *
  have HM := Lib.hid hm
  unfold maxLen at hm
  have HB := Lib.hid hz
  have HA : Hid (IntsAt w w.heap.size .u8 (some ⟨b, off, none⟩) bs) := Lib.hid hA0
  clear hA hA0 hz hcell
  have t0 : (0 : Int) < (bs.length : Int) := by omega
  have t1 : (1 : Int) < (bs.length : Int) := by omega
  have k1 : (x0 / 32 != 4) = false := by simp [h2]
  have k1b : x0.tdiv 32 = 4 := by rw [Int.tdiv_eq_ediv_of_nonneg m0]; exact h2
  have k1c : x0.tmod 32 = (mm : Int) := by rw [Int.tmod_eq_emod_of_nonneg m0]; exact hmm
  have hmb : (mm : Int) ≤ 31 := by omega
  have ks := Lib.hid fun W => rSize_any true mm W (by omega)
  obtain ⟨S, hS⟩ : ∃ S, S = Rep.sizeR true mm := ⟨_, rfl⟩
  rw [← hS] at ks
  have hS2 : S = 4 * (7 + 6 * (mm : Int)) := by rw [hS]; unfold Rep.sizeR; simp; omega
  clear hS h2
  subst h3
  obtain ⟨Q, hQ⟩ : ∃ Q, Q = 7 + 6 * (mm : Int) := ⟨_, rfl⟩
  have k6 : S.tdiv 4 = Q := by rw [hS2, hQ]; exact Int.mul_tdiv_cancel_left _ (by decide)
  have k6b : S / 4 = Q := by omega
  have hQ0 : 2 ≤ Q := by omega
  have hQ1 : Q ≤ 300 := by omega
  have hS0 : 8 ≤ S := by omega
  have hS1 : S ≤ 1200 := by omega
  obtain ⟨f, hf⟩ : ∃ f, f = fld bs 2 2 := ⟨_, rfl⟩
  rw [← hf] at hf2
  have hf0 : 0 ≤ f := by omega
  have hf1 : f ≤ 65535 := by omega
  have HF := Lib.hid hf
  clear hf
  have k5 : (f != Q - 1) = false := by simp; omega
  have k7 : (bs.length : Int) < S := by rw [hS2]; exact h5
  clear h5
  have d2 : (2 : Int) ≤ (c : Int) := by omega
  have d4 : (4 : Int) ≤ (c : Int) := by omega
  have n2' : ¬c = 2 := by omega
  have HS2 := Lib.hid hS2
  have HQ := Lib.hid hQ
  have HMM := Lib.hid hmm
  clear hS2 hQ hmm h4' hf2
  go_enter Try.func23, Try.ntmps23
  have U := Lib.hid (Bel.push (Bel.push (Bel.push (Bel.refl w) (.cells #[.bool false, .int .u32 0, .int .u64 0, .int .u32 0, .int .u32 0, .int .u32 0, .slice none 0 0] 47)) (.cells #[.bool false, .int .u32 0, .int .u64 0, .int .u32 0, .int .u32 0, .int .u32 0, .slice none 0 0] 47)) (.cells #[.bool true, .int .u32 0, .int .u64 0, .int .u32 0, .int .u32 0, .int .u32 0, .slice none 0 0] 47))
  have B := Lib.hid (Blk.push (Blk.push (Blk.new w 47 #[.bool false, .int .u32 0, .int .u64 0, .int .u32 0, .int .u32 0, .int .u32 0, .slice none 0 0]) (.cells #[.bool false, .int .u32 0, .int .u64 0, .int .u32 0, .int .u32 0, .int .u32 0, .slice none 0 0] 47)) (.cells #[.bool true, .int .u32 0, .int .u64 0, .int .u32 0, .int .u32 0, .int .u32 0, .slice none 0 0] 47))
  have B2 := Lib.hid (Blk.new2 w (.cells #[.bool false, .int .u32 0, .int .u64 0, .int .u32 0, .int .u32 0, .int .u32 0, .slice none 0 0] 47) (.cells #[.bool false, .int .u32 0, .int .u64 0, .int .u32 0, .int .u32 0, .int .u32 0, .slice none 0 0] 47) 47 #[.bool true, .int .u32 0, .int .u64 0, .int .u32 0, .int .u32 0, .int .u32 0, .slice none 0 0])
  go_wp2_with fail
  refine (ks.out _).mono ?_
  rintro e w1 ⟨rfl, rfl⟩
  have HA3 := Lib.hid (((HA.out.alloc (Nat.le_refl _) (.cells #[.bool false, .int .u32 0, .int .u64 0, .int .u32 0, .int .u32 0, .int .u32 0, .slice none 0 0] 47)).alloc (by simp) (.cells #[.bool false, .int .u32 0, .int .u64 0, .int .u32 0, .int .u32 0, .int .u32 0, .slice none 0 0] 47)).alloc (by rw [size_alloc2]; omega) (.cells #[.bool true, .int .u32 0, .int .u64 0, .int .u32 0, .int .u32 0, .int .u32 0, .slice none 0 0] 47))
  go_wp2_with fail
  refine (value_sub (i := 2) (m := 2) HA3.out HB.out (by omega) (by omega) rfl).mono ?_
  rintro e w1 ⟨rfl, rfl⟩
  rw [← HF.out]
  go_wp2_with fail
  exact bodyPost_ret (v := .tuple #[.agg #[.bool false, .int .u32 0, .int .u64 0, .int .u32 0, .int .u32 0, .int .u32 0, .slice none 0 0], .int .i64 bs.length, .int .u8 6]) (res_ctt Try.results23 rfl (run_loadVar_row (P := Try.prog) _ _ _ _ _ _ _ B.out Try.underlying47 rfl (by kernel_rfl)) rfl rfl) rfl ⟨none, 0, rfl, RowsNew.nil, U.out⟩
set_option maxRecDepth 100000 in
set_option maxHeartbeats 6400000 in
theorem rDec_less_false (hA : IntsAt w w.heap.size .u8 A bs) (hz : Within 0 255 bs) (hm : bs.length ≤ maxLen) (hc : bs.length ≤ c) (mm : Nat) (h : 4 ≤ bs.length) (h2 : bs.getD 0 0 / 32 = 4) (hmm : bs.getD 0 0 % 32 = (mm : Int)) (h3 : bs.getD 1 0 = 201) (h4' : 256 * bs.getD 2 0 + bs.getD 3 0 + 1 = 2 + 6 * (mm : Int)) (h5 : (bs.length : Int) < 4 * (2 + 6 * (mm : Int))) : Calls Try.prog 23 #[.slice A bs.length c] w (DecR (Rep.Rpt.zero, (bs.length : Int), 6) w) := by
  have h4 : ¬bs.length < 4 := by omega
  have hf2 := fld_two bs 2 (by omega)
  have hA0 := hA
  obtain ⟨b, off, rfl, hbB, hcell⟩ := hA (by omega)
  have q0 := (cell_new_old (cell_new_old (show w.cell? ⟨b, off, none⟩ = some (.int .u8 (bs.getD 0 0)) from hcell 0 (by omega)) (.cells #[.bool false, .int .u32 0, .int .u64 0, .int .u32 0, .int .u32 0, .int .u32 0, .slice none 0 0] 47)) (.cells #[.bool false, .int .u32 0, .int .u64 0, .int .u32 0, .int .u32 0, .int .u32 0, .slice none 0 0] 47))
  have q1 := (cell_new_old (cell_new_old (show w.cell? ⟨b, off + 1, none⟩ = some (.int .u8 (bs.getD 1 0)) from hcell 1 (by omega)) (.cells #[.bool false, .int .u32 0, .int .u64 0, .int .u32 0, .int .u32 0, .int .u32 0, .slice none 0 0] 47)) (.cells #[.bool false, .int .u32 0, .int .u64 0, .int .u32 0, .int .u32 0, .int .u32 0, .slice none 0 0] 47))
  have q0c := cell_new_old q0 (.cells #[.bool false, .int .u32 0, .int .u64 0, .int .u32 0, .int .u32 0, .int .u32 0, .slice none 0 0] 47)
  obtain ⟨m0, n0⟩ := hz.at (i := 0) (by omega)
  obtain ⟨m1, n1⟩ := hz.at (i := 1) (by omega)
  obtain ⟨m2, n2⟩ := hz.at (i := 2) (by omega)
  obtain ⟨m3, n3⟩ := hz.at (i := 3) (by omega)
  generalize bs.getD 0 0 = x0 at *
  generalize bs.getD 1 0 = x1 at *
  generalize bs.getD 2 0 = x2 at *
  generalize bs.getD 3 0 = x3 at *
  have HM := Lib.hid hm
  unfold maxLen at hm
  have HB := Lib.hid hz
  have HA : Hid (IntsAt w w.heap.size .u8 (some ⟨b, off, none⟩) bs) := Lib.hid hA0
  clear hA hA0 hz hcell
  have t0 : (0 : Int) < (bs.length : Int) := by omega
  have t1 : (1 : Int) < (bs.length : Int) := by omega
  have k1 : (x0 / 32 != 4) = false := by simp [h2]
  have k1b : x0.tdiv 32 = 4 := by rw [Int.tdiv_eq_ediv_of_nonneg m0]; exact h2
  have k1c : x0.tmod 32 = (mm : Int) := by rw [Int.tmod_eq_emod_of_nonneg m0]; exact hmm
  have hmb : (mm : Int) ≤ 31 := by omega
  have ks := Lib.hid fun W => rSize_any false mm W (by omega)
  obtain ⟨S, hS⟩ : ∃ S, S = Rep.sizeR false mm := ⟨_, rfl⟩
  rw [← hS] at ks
  have hS2 : S = 4 * (2 + 6 * (mm : Int)) := by rw [hS]; unfold Rep.sizeR; simp; omega
  clear hS h2
  subst h3
  obtain ⟨Q, hQ⟩ : ∃ Q, Q = 2 + 6 * (mm : Int) := ⟨_, rfl⟩
  have k6 : S.tdiv 4 = Q := by rw [hS2, hQ]; exact Int.mul_tdiv_cancel_left _ (by decide)
  have k6b : S / 4 = Q := by omega
  have hQ0 : 2 ≤ Q := by omega
  have hQ1 : Q ≤ 300 := by omega
  have hS0 : 8 ≤ S := by omega
  have hS1 : S ≤ 1200 := by omega
  obtain ⟨f, hf⟩ : ∃ f, f = fld bs 2 2 := ⟨_, rfl⟩
  rw [← hf] at hf2
  have hf0 : 0 ≤ f := by omega
  have hf1 : f ≤ 65535 := by omega
  have HF := Lib.hid hf
  clear hf
  have k5 : (f != Q - 1) = false := by simp; omega
  have k7 : (bs.length : Int) < S := by rw [hS2]; exact h5
  clear h5
  have d2 : (2 : Int) ≤ (c : Int) := by omega
  have d4 : (4 : Int) ≤ (c : Int) := by omega
  have n2' : ¬c = 2 := by omega
  have HS2 := Lib.hid hS2
  have HQ := Lib.hid hQ
  have HMM := Lib.hid hmm
  clear hS2 hQ hmm h4' hf2
  go_enter Try.func23, Try.ntmps23
  have U := Lib.hid (Bel.push (Bel.push (Bel.push (Bel.refl w) (.cells #[.bool false, .int .u32 0, .int .u64 0, .int .u32 0, .int .u32 0, .int .u32 0, .slice none 0 0] 47)) (.cells #[.bool false, .int .u32 0, .int .u64 0, .int .u32 0, .int .u32 0, .int .u32 0, .slice none 0 0] 47)) (.cells #[.bool false, .int .u32 0, .int .u64 0, .int .u32 0, .int .u32 0, .int .u32 0, .slice none 0 0] 47))
  have B := Lib.hid (Blk.push (Blk.push (Blk.new w 47 #[.bool false, .int .u32 0, .int .u64 0, .int .u32 0, .int .u32 0, .int .u32 0, .slice none 0 0]) (.cells #[.bool false, .int .u32 0, .int .u64 0, .int .u32 0, .int .u32 0, .int .u32 0, .slice none 0 0] 47)) (.cells #[.bool false, .int .u32 0, .int .u64 0, .int .u32 0, .int .u32 0, .int .u32 0, .slice none 0 0] 47))
  have B2 := Lib.hid (Blk.new2 w (.cells #[.bool false, .int .u32 0, .int .u64 0, .int .u32 0, .int .u32 0, .int .u32 0, .slice none 0 0] 47) (.cells #[.bool false, .int .u32 0, .int .u64 0, .int .u32 0, .int .u32 0, .int .u32 0, .slice none 0 0] 47) 47 #[.bool false, .int .u32 0, .int .u64 0, .int .u32 0, .int .u32 0, .int .u32 0, .slice none 0 0])
  go_wp2_with fail
  refine (ks.out _).mono ?_
  rintro e w1 ⟨rfl, rfl⟩
  have HA3 := Lib.hid (((HA.out.alloc (Nat.le_refl _) (.cells #[.bool false, .int .u32 0, .int .u64 0, .int .u32 0, .int .u32 0, .int .u32 0, .slice none 0 0] 47)).alloc (by simp) (.cells #[.bool false, .int .u32 0, .int .u64 0, .int .u32 0, .int .u32 0, .int .u32 0, .slice none 0 0] 47)).alloc (by rw [size_alloc2]; omega) (.cells #[.bool false, .int .u32 0, .int .u64 0, .int .u32 0, .int .u32 0, .int .u32 0, .slice none 0 0] 47))
  go_wp2_with fail
  refine (value_sub (i := 2) (m := 2) HA3.out HB.out (by omega) (by omega) rfl).mono ?_
  rintro e w1 ⟨rfl, rfl⟩
  rw [← HF.out]
  go_wp2_with fail
  exact bodyPost_ret (v := .tuple #[.agg #[.bool false, .int .u32 0, .int .u64 0, .int .u32 0, .int .u32 0, .int .u32 0, .slice none 0 0], .int .i64 bs.length, .int .u8 6]) (res_ctt Try.results23 rfl (run_loadVar_row (P := Try.prog) _ _ _ _ _ _ _ B.out Try.underlying47 rfl (by kernel_rfl)) rfl rfl) rfl ⟨none, 0, rfl, RowsNew.nil, U.out⟩
end
end Go.Proofs.Ythmcbmjjngolmaa

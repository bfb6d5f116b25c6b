/- Layer 26: Decode of the program: lengths that do not fit. -/
import Derived.Test.YthmcbmjjngolmaaRepDec0
import Derived.Test.YthmcbmjjngolmaaRepEnc
import Derived.Laws.BitsAllLaws
namespace Go.Proofs.Ythmcbmjjngolmaa
open Go.RowKit
set_option linter.unusedVariables false
set_option linter.unusedSimpArgs false
attribute [local go_sem] setCell_drewN alloc_drewN
theorem i64_or_nat (a b : Nat) (ha : a < 9223372036854775808) (hb : b < 9223372036854775808) : bits .or .i64 (a : Int) (b : Int) = ((a ||| b : Nat) : Int) := by
  have hx : a ||| b < 2 ^ 63 := Nat.or_lt_two_pow (by omega) (by omega)
  show IntKind.i64.wrap ((BitVec.ofInt 64 (a : Int) ||| BitVec.ofInt 64 (b : Int)).toNat : Int) = _
  rw [BitVec.toNat_or, BitVec.ofInt_natCast, BitVec.ofInt_natCast, BitVec.toNat_ofNat, BitVec.toNat_ofNat, Nat.mod_eq_of_lt (by omega), Nat.mod_eq_of_lt (by omega)]
  have e : ((a ||| b : Nat) : Int) % 2 ^ 64 = ((a ||| b : Nat) : Int) := Int.emod_eq_of_lt (by omega) (by omega)
  simp only [IntKind.wrap, IntKind.bits, IntKind.signed, e]
  rw [if_neg (by simp; omega)]
theorem or_word (x z : Int) (x0 : 0 ≤ x) (x1 : x ≤ 255) (z0 : 0 ≤ z) (z1 : z ≤ 255) : bits BinOp.or IntKind.i64 (x * 256) z = 256 * x + z := by
  obtain ⟨n0, rfl⟩ := Int.eq_ofNat_of_zero_le x0
  obtain ⟨n1, rfl⟩ := Int.eq_ofNat_of_zero_le z0
  have e : ((n0 : Int) * 256) = ((n0 * 256 : Nat) : Int) := by omega
  have h : n0 * 256 ||| n1 = n0 * 256 + n1 := by
    rw [show (256 : Nat) = 2 ^ 8 from rfl, ← Nat.shiftLeft_eq, Nat.shiftLeft_add_eq_or_of_lt (by omega)]
  rw [e, i64_or_nat (n0 * 256) n1 (by omega) (by omega), h]
  omega
theorem and_low (x : Int) (x0 : 0 ≤ x) (x1 : x ≤ 255) : bits BinOp.and IntKind.u8 x 31 = x % 32 := by
  obtain ⟨n, rfl⟩ := Int.eq_ofNat_of_zero_le x0
  have h : ∀ i : Fin 256, bits BinOp.and IntKind.u8 (i.val : Int) 31 = (i.val : Int) % 32 := by decide +kernel
  exact h ⟨n, by omega⟩
section
variable (A : Option Addr) (bs : List Int) (c : Nat) (w : World)
set_option maxRecDepth 100000 in
set_option maxHeartbeats 3200000 in
theorem Dec_size_true (hA : IntsAt w w.heap.size .u8 A bs) (hz : Within 0 255 bs) (hm : bs.length ≤ maxLen) (mm : Nat) (h : 4 ≤ bs.length) (h2 : bs.getD 0 0 / 32 = 4) (hmm : bs.getD 0 0 % 32 = (mm : Int)) (h3 : bs.getD 1 0 = 200) (h4' : 256 * bs.getD 2 0 + bs.getD 3 0 + 1 ≠ 7 + 6 * (mm : Int)) : Calls Try.prog 18 #[.slice A bs.length c] w (DecR (Rep.Rpt.zero, 2, 5) w) := by
  have h4 : ¬bs.length < 4 := by omega
  obtain ⟨b, off, rfl, hbB, hcell⟩ := hA (by omega)
  have q0 := (cell_new_old (cell_new_old (show w.cell? ⟨b, off, none⟩ = some (.int .u8 (bs.getD 0 0)) from hcell 0 (by omega)) (.cells #[.slice (some ⟨b, off, none⟩) bs.length c] 40)) (.cells #[.bool false, .int .u32 0, .int .u64 0, .int .u32 0, .int .u32 0, .int .u32 0, .slice none 0 0] 47))
  obtain ⟨m0, n0⟩ := hz.at (i := 0) (by omega)
  have q1 := (cell_new_old (cell_new_old (show w.cell? ⟨b, off + 1, none⟩ = some (.int .u8 (bs.getD 1 0)) from hcell 1 (by omega)) (.cells #[.slice (some ⟨b, off, none⟩) bs.length c] 40)) (.cells #[.bool false, .int .u32 0, .int .u64 0, .int .u32 0, .int .u32 0, .int .u32 0, .slice none 0 0] 47))
  obtain ⟨m1, n1⟩ := hz.at (i := 1) (by omega)
  have q2 := (cell_new_old (cell_new_old (show w.cell? ⟨b, off + 2, none⟩ = some (.int .u8 (bs.getD 2 0)) from hcell 2 (by omega)) (.cells #[.slice (some ⟨b, off, none⟩) bs.length c] 40)) (.cells #[.bool false, .int .u32 0, .int .u64 0, .int .u32 0, .int .u32 0, .int .u32 0, .slice none 0 0] 47))
  obtain ⟨m2, n2⟩ := hz.at (i := 2) (by omega)
  have q3 := (cell_new_old (cell_new_old (show w.cell? ⟨b, off + 3, none⟩ = some (.int .u8 (bs.getD 3 0)) from hcell 3 (by omega)) (.cells #[.slice (some ⟨b, off, none⟩) bs.length c] 40)) (.cells #[.bool false, .int .u32 0, .int .u64 0, .int .u32 0, .int .u32 0, .int .u32 0, .slice none 0 0] 47))
  obtain ⟨m3, n3⟩ := hz.at (i := 3) (by omega)
  generalize bs.getD 0 0 = x0 at *
  generalize bs.getD 1 0 = x1 at *
  generalize bs.getD 2 0 = x2 at *
  generalize bs.getD 3 0 = x3 at *
  unfold maxLen at hm
  clear hA hz hcell
  have t0 : (0 : Int) < (bs.length : Int) := by omega
  have t1 : (1 : Int) < (bs.length : Int) := by omega
  have t2 : (2 : Int) < (bs.length : Int) := by omega
  have t3 : (3 : Int) < (bs.length : Int) := by omega
  have kk := and_low x0 m0 n0
  rw [hmm] at kk
  have k1 : (x0 / 32 != 4) = false := by simp [h2]
  have hmb : (mm : Int) ≤ 31 := by omega
  have ks := Lib.hid fun W => size_any true mm W (by omega)
  obtain ⟨S, hS⟩ : ∃ S, S = Rep.sizeR true mm := ⟨_, rfl⟩
  rw [← hS] at ks
  have hS2 : S = 4 * (7 + 6 * (mm : Int)) := by rw [hS]; unfold Rep.sizeR; simp; omega
  clear hS h2 hmm
  subst h3
  have hor := or_word x2 x3 m2 n2 m3 n3
  have hq : S / 4 = 7 + 6 * (mm : Int) := by omega
  have k5 : (256 * x2 + x3 + 1 != S / 4) = true := bne_iff_ne.2 (by rw [hq]; exact h4')
  rw [hq] at k5
  have k6 : S.tdiv 4 = 7 + 6 * (mm : Int) := by rw [hS2]; exact Int.mul_tdiv_cancel_left _ (by decide)
  clear h4' hq
  go_enter Try.func18, Try.ntmps18
  have U := Lib.hid (Bel.push (Bel.push (Bel.refl w) (.cells #[.slice (some ⟨b, off, none⟩) bs.length c] 40)) (.cells #[.bool false, .int .u32 0, .int .u64 0, .int .u32 0, .int .u32 0, .int .u32 0, .slice none 0 0] 47))
  have B := Lib.hid (Blk.new1 w (.cells #[.slice (some ⟨b, off, none⟩) bs.length c] 40) 47 #[.bool false, .int .u32 0, .int .u64 0, .int .u32 0, .int .u32 0, .int .u32 0, .slice none 0 0])
  have X := Lib.hid ((Blk.new w 40 #[.slice (some ⟨b, off, none⟩) bs.length c]).push (.cells #[.bool false, .int .u32 0, .int .u64 0, .int .u32 0, .int .u32 0, .int .u32 0, .slice none 0 0] 47))
  go_wp2_with fail
  refine (ks.out _).mono ?_
  rintro e w1 ⟨rfl, rfl⟩
  go_wp2_with fail
  go_quiet (fail)
  go_wp2_with fail
  exact bodyPost_ret (v := .tuple #[.agg #[.bool false, .int .u32 0, .int .u64 0, .int .u32 0, .int .u32 0, .int .u32 0, .slice none 0 0], .int .i64 2, .int .u8 5]) (res_ctt Try.results18 rfl (run_loadVar_row (P := Try.prog) _ _ _ _ _ _ _ (B.out.drewN _) Try.underlying47 rfl (by kernel_rfl)) rfl rfl) rfl ⟨none, 0, rfl, RowsNew.nil, U.out.drewN _⟩
set_option maxRecDepth 100000 in
set_option maxHeartbeats 3200000 in
theorem Dec_less_true (hA : IntsAt w w.heap.size .u8 A bs) (hz : Within 0 255 bs) (hm : bs.length ≤ maxLen) (mm : Nat) (h : 4 ≤ bs.length) (h2 : bs.getD 0 0 / 32 = 4) (hmm : bs.getD 0 0 % 32 = (mm : Int)) (h3 : bs.getD 1 0 = 200) (h4' : 256 * bs.getD 2 0 + bs.getD 3 0 + 1 = 7 + 6 * (mm : Int)) (h5 : (bs.length : Int) < 4 * (7 + 6 * (mm : Int))) : Calls Try.prog 18 #[.slice A bs.length c] w (DecR (Rep.Rpt.zero, (bs.length : Int), 6) w) := by
  have h4 : ¬bs.length < 4 := by omega
  obtain ⟨b, off, rfl, hbB, hcell⟩ := hA (by omega)
  have q0 := (cell_new_old (cell_new_old (show w.cell? ⟨b, off, none⟩ = some (.int .u8 (bs.getD 0 0)) from hcell 0 (by omega)) (.cells #[.slice (some ⟨b, off, none⟩) bs.length c] 40)) (.cells #[.bool false, .int .u32 0, .int .u64 0, .int .u32 0, .int .u32 0, .int .u32 0, .slice none 0 0] 47))
  obtain ⟨m0, n0⟩ := hz.at (i := 0) (by omega)
  have q1 := (cell_new_old (cell_new_old (show w.cell? ⟨b, off + 1, none⟩ = some (.int .u8 (bs.getD 1 0)) from hcell 1 (by omega)) (.cells #[.slice (some ⟨b, off, none⟩) bs.length c] 40)) (.cells #[.bool false, .int .u32 0, .int .u64 0, .int .u32 0, .int .u32 0, .int .u32 0, .slice none 0 0] 47))
  obtain ⟨m1, n1⟩ := hz.at (i := 1) (by omega)
  have q2 := (cell_new_old (cell_new_old (show w.cell? ⟨b, off + 2, none⟩ = some (.int .u8 (bs.getD 2 0)) from hcell 2 (by omega)) (.cells #[.slice (some ⟨b, off, none⟩) bs.length c] 40)) (.cells #[.bool false, .int .u32 0, .int .u64 0, .int .u32 0, .int .u32 0, .int .u32 0, .slice none 0 0] 47))
  obtain ⟨m2, n2⟩ := hz.at (i := 2) (by omega)
  have q3 := (cell_new_old (cell_new_old (show w.cell? ⟨b, off + 3, none⟩ = some (.int .u8 (bs.getD 3 0)) from hcell 3 (by omega)) (.cells #[.slice (some ⟨b, off, none⟩) bs.length c] 40)) (.cells #[.bool false, .int .u32 0, .int .u64 0, .int .u32 0, .int .u32 0, .int .u32 0, .slice none 0 0] 47))
  obtain ⟨m3, n3⟩ := hz.at (i := 3) (by omega)
  generalize bs.getD 0 0 = x0 at *
  generalize bs.getD 1 0 = x1 at *
  generalize bs.getD 2 0 = x2 at *
  generalize bs.getD 3 0 = x3 at *
  unfold maxLen at hm
  clear hA hz hcell
  have t0 : (0 : Int) < (bs.length : Int) := by omega
  have t1 : (1 : Int) < (bs.length : Int) := by omega
  have t2 : (2 : Int) < (bs.length : Int) := by omega
  have t3 : (3 : Int) < (bs.length : Int) := by omega
  have kk := and_low x0 m0 n0
  rw [hmm] at kk
  have k1 : (x0 / 32 != 4) = false := by simp [h2]
  have hmb : (mm : Int) ≤ 31 := by omega
  have ks := Lib.hid fun W => size_any true mm W (by omega)
  obtain ⟨S, hS⟩ : ∃ S, S = Rep.sizeR true mm := ⟨_, rfl⟩
  rw [← hS] at ks
  have hS2 : S = 4 * (7 + 6 * (mm : Int)) := by rw [hS]; unfold Rep.sizeR; simp; omega
  clear hS h2 hmm
  subst h3
  have hor := or_word x2 x3 m2 n2 m3 n3
  have hq : S / 4 = 7 + 6 * (mm : Int) := by omega
  have k5 : (256 * x2 + x3 + 1 != S / 4) = false := by rw [hq, h4']; simp
  rw [hq] at k5
  have k6 : S.tdiv 4 = 7 + 6 * (mm : Int) := by rw [hS2]; exact Int.mul_tdiv_cancel_left _ (by decide)
  have k7 : (bs.length : Int) < S := by rw [hS2]; exact h5
  clear h4' hq h5
  go_enter Try.func18, Try.ntmps18
  have U := Lib.hid (Bel.push (Bel.push (Bel.refl w) (.cells #[.slice (some ⟨b, off, none⟩) bs.length c] 40)) (.cells #[.bool false, .int .u32 0, .int .u64 0, .int .u32 0, .int .u32 0, .int .u32 0, .slice none 0 0] 47))
  have B := Lib.hid (Blk.new1 w (.cells #[.slice (some ⟨b, off, none⟩) bs.length c] 40) 47 #[.bool false, .int .u32 0, .int .u64 0, .int .u32 0, .int .u32 0, .int .u32 0, .slice none 0 0])
  have X := Lib.hid ((Blk.new w 40 #[.slice (some ⟨b, off, none⟩) bs.length c]).push (.cells #[.bool false, .int .u32 0, .int .u64 0, .int .u32 0, .int .u32 0, .int .u32 0, .slice none 0 0] 47))
  go_wp2_with fail
  refine (ks.out _).mono ?_
  rintro e w1 ⟨rfl, rfl⟩
  go_wp2_with fail
  go_quiet (fail)
  go_wp2_with fail
  go_region
  go_wp2_with fail
  exact bodyPost_ret (v := .tuple #[.agg #[.bool false, .int .u32 0, .int .u64 0, .int .u32 0, .int .u32 0, .int .u32 0, .slice none 0 0], .int .i64 bs.length, .int .u8 6]) (res_ctt Try.results18 rfl (run_loadVar_row (P := Try.prog) _ _ _ _ _ _ _ ((B.out.drewN _).drew) Try.underlying47 rfl (by kernel_rfl)) rfl rfl) rfl ⟨none, 0, rfl, RowsNew.nil, (U.out.drewN _).drew⟩
set_option maxRecDepth 100000 in
set_option maxHeartbeats 3200000 in
theorem Dec_size_false (hA : IntsAt w w.heap.size .u8 A bs) (hz : Within 0 255 bs) (hm : bs.length ≤ maxLen) (mm : Nat) (h : 4 ≤ bs.length) (h2 : bs.getD 0 0 / 32 = 4) (hmm : bs.getD 0 0 % 32 = (mm : Int)) (h3 : bs.getD 1 0 = 201) (h4' : 256 * bs.getD 2 0 + bs.getD 3 0 + 1 ≠ 2 + 6 * (mm : Int)) : Calls Try.prog 18 #[.slice A bs.length c] w (DecR (Rep.Rpt.zero, 2, 5) w) := by
  have h4 : ¬bs.length < 4 := by omega
  obtain ⟨b, off, rfl, hbB, hcell⟩ := hA (by omega)
  have q0 := (cell_new_old (cell_new_old (show w.cell? ⟨b, off, none⟩ = some (.int .u8 (bs.getD 0 0)) from hcell 0 (by omega)) (.cells #[.slice (some ⟨b, off, none⟩) bs.length c] 40)) (.cells #[.bool false, .int .u32 0, .int .u64 0, .int .u32 0, .int .u32 0, .int .u32 0, .slice none 0 0] 47))
  obtain ⟨m0, n0⟩ := hz.at (i := 0) (by omega)
  have q1 := (cell_new_old (cell_new_old (show w.cell? ⟨b, off + 1, none⟩ = some (.int .u8 (bs.getD 1 0)) from hcell 1 (by omega)) (.cells #[.slice (some ⟨b, off, none⟩) bs.length c] 40)) (.cells #[.bool false, .int .u32 0, .int .u64 0, .int .u32 0, .int .u32 0, .int .u32 0, .slice none 0 0] 47))
  obtain ⟨m1, n1⟩ := hz.at (i := 1) (by omega)
  have q2 := (cell_new_old (cell_new_old (show w.cell? ⟨b, off + 2, none⟩ = some (.int .u8 (bs.getD 2 0)) from hcell 2 (by omega)) (.cells #[.slice (some ⟨b, off, none⟩) bs.length c] 40)) (.cells #[.bool false, .int .u32 0, .int .u64 0, .int .u32 0, .int .u32 0, .int .u32 0, .slice none 0 0] 47))
  obtain ⟨m2, n2⟩ := hz.at (i := 2) (by omega)
  have q3 := (cell_new_old (cell_new_old (show w.cell? ⟨b, off + 3, none⟩ = some (.int .u8 (bs.getD 3 0)) from hcell 3 (by omega)) (.cells #[.slice (some ⟨b, off, none⟩) bs.length c] 40)) (.cells #[.bool false, .int .u32 0, .int .u64 0, .int .u32 0, .int .u32 0, .int .u32 0, .slice none 0 0] 47))
  obtain ⟨m3, n3⟩ := hz.at (i := 3) (by omega)
  generalize bs.getD 0 0 = x0 at *
  generalize bs.getD 1 0 = x1 at *
  generalize bs.getD 2 0 = x2 at *
  generalize bs.getD 3 0 = x3 at *
  unfold maxLen at hm
  clear hA hz hcell
  have t0 : (0 : Int) < (bs.length : Int) := by omega
  have t1 : (1 : Int) < (bs.length : Int) := by omega
  have t2 : (2 : Int) < (bs.length : Int) := by omega
  have t3 : (3 : Int) < (bs.length : Int) := by omega
  have kk := and_low x0 m0 n0
  rw [hmm] at kk
  have k1 : (x0 / 32 != 4) = false := by simp [h2]
  have hmb : (mm : Int) ≤ 31 := by omega
  have ks := Lib.hid fun W => size_any false mm W (by omega)
  obtain ⟨S, hS⟩ : ∃ S, S = Rep.sizeR false mm := ⟨_, rfl⟩
  rw [← hS] at ks
  have hS2 : S = 4 * (2 + 6 * (mm : Int)) := by rw [hS]; unfold Rep.sizeR; simp; omega
  clear hS h2 hmm
  subst h3
  have hor := or_word x2 x3 m2 n2 m3 n3
  have hq : S / 4 = 2 + 6 * (mm : Int) := by omega
  have k5 : (256 * x2 + x3 + 1 != S / 4) = true := bne_iff_ne.2 (by rw [hq]; exact h4')
  rw [hq] at k5
  have k6 : S.tdiv 4 = 2 + 6 * (mm : Int) := by rw [hS2]; exact Int.mul_tdiv_cancel_left _ (by decide)
  clear h4' hq
  go_enter Try.func18, Try.ntmps18
  have U := Lib.hid (Bel.push (Bel.push (Bel.refl w) (.cells #[.slice (some ⟨b, off, none⟩) bs.length c] 40)) (.cells #[.bool false, .int .u32 0, .int .u64 0, .int .u32 0, .int .u32 0, .int .u32 0, .slice none 0 0] 47))
  have B := Lib.hid (Blk.new1 w (.cells #[.slice (some ⟨b, off, none⟩) bs.length c] 40) 47 #[.bool false, .int .u32 0, .int .u64 0, .int .u32 0, .int .u32 0, .int .u32 0, .slice none 0 0])
  have X := Lib.hid ((Blk.new w 40 #[.slice (some ⟨b, off, none⟩) bs.length c]).push (.cells #[.bool false, .int .u32 0, .int .u64 0, .int .u32 0, .int .u32 0, .int .u32 0, .slice none 0 0] 47))
  go_wp2_with fail
  refine (ks.out _).mono ?_
  rintro e w1 ⟨rfl, rfl⟩
  go_wp2_with fail
  go_quiet (fail)
  go_wp2_with fail
  exact bodyPost_ret (v := .tuple #[.agg #[.bool false, .int .u32 0, .int .u64 0, .int .u32 0, .int .u32 0, .int .u32 0, .slice none 0 0], .int .i64 2, .int .u8 5]) (res_ctt Try.results18 rfl (run_loadVar_row (P := Try.prog) _ _ _ _ _ _ _ (B.out.drewN _) Try.underlying47 rfl (by kernel_rfl)) rfl rfl) rfl ⟨none, 0, rfl, RowsNew.nil, U.out.drewN _⟩
set_option maxRecDepth 100000 in
set_option maxHeartbeats 3200000 in
theorem Dec_less_false (hA : IntsAt w w.heap.size .u8 A bs) (hz : Within 0 255 bs) (hm : bs.length ≤ maxLen) (mm : Nat) (h : 4 ≤ bs.length) (h2 : bs.getD 0 0 / 32 = 4) (hmm : bs.getD 0 0 % 32 = (mm : Int)) (h3 : bs.getD 1 0 = 201) (h4' : 256 * bs.getD 2 0 + bs.getD 3 0 + 1 = 2 + 6 * (mm : Int)) (h5 : (bs.length : Int) < 4 * (2 + 6 * (mm : Int))) : Calls Try.prog 18 #[.slice A bs.length c] w (DecR (Rep.Rpt.zero, (bs.length : Int), 6) w) := by
  have h4 : ¬bs.length < 4 := by omega
  obtain ⟨b, off, rfl, hbB, hcell⟩ := hA (by omega)
  have q0 := (cell_new_old (cell_new_old (show w.cell? ⟨b, off, none⟩ = some (.int .u8 (bs.getD 0 0)) from hcell 0 (by omega)) (.cells #[.slice (some ⟨b, off, none⟩) bs.length c] 40)) (.cells #[.bool false, .int .u32 0, .int .u64 0, .int .u32 0, .int .u32 0, .int .u32 0, .slice none 0 0] 47))
  obtain ⟨m0, n0⟩ := hz.at (i := 0) (by omega)
  have q1 := (cell_new_old (cell_new_old (show w.cell? ⟨b, off + 1, none⟩ = some (.int .u8 (bs.getD 1 0)) from hcell 1 (by omega)) (.cells #[.slice (some ⟨b, off, none⟩) bs.length c] 40)) (.cells #[.bool false, .int .u32 0, .int .u64 0, .int .u32 0, .int .u32 0, .int .u32 0, .slice none 0 0] 47))
  obtain ⟨m1, n1⟩ := hz.at (i := 1) (by omega)
  have q2 := (cell_new_old (cell_new_old (show w.cell? ⟨b, off + 2, none⟩ = some (.int .u8 (bs.getD 2 0)) from hcell 2 (by omega)) (.cells #[.slice (some ⟨b, off, none⟩) bs.length c] 40)) (.cells #[.bool false, .int .u32 0, .int .u64 0, .int .u32 0, .int .u32 0, .int .u32 0, .slice none 0 0] 47))
  obtain ⟨m2, n2⟩ := hz.at (i := 2) (by omega)
  have q3 := (cell_new_old (cell_new_old (show w.cell? ⟨b, off + 3, none⟩ = some (.int .u8 (bs.getD 3 0)) from hcell 3 (by omega)) (.cells #[.slice (some ⟨b, off, none⟩) bs.length c] 40)) (.cells #[.bool false, .int .u32 0, .int .u64 0, .int .u32 0, .int .u32 0, .int .u32 0, .slice none 0 0] 47))
  obtain ⟨m3, n3⟩ := hz.at (i := 3) (by omega)
  generalize bs.getD 0 0 = x0 at *
  generalize bs.getD 1 0 = x1 at *
  generalize bs.getD 2 0 = x2 at *
  generalize bs.getD 3 0 = x3 at *
  unfold maxLen at hm
  clear hA hz hcell
  have t0 : (0 : Int) < (bs.length : Int) := by omega
  have t1 : (1 : Int) < (bs.length : Int) := by omega
  have t2 : (2 : Int) < (bs.length : Int) := by omega
  have t3 : (3 : Int) < (bs.length : Int) := by omega
  have kk := and_low x0 m0 n0
  rw [hmm] at kk
  have k1 : (x0 / 32 != 4) = false := by simp [h2]
  have hmb : (mm : Int) ≤ 31 := by omega
  have ks := Lib.hid fun W => size_any false mm W (by omega)
  obtain ⟨S, hS⟩ : ∃ S, S = Rep.sizeR false mm := ⟨_, rfl⟩
  rw [← hS] at ks
  have hS2 : S = 4 * (2 + 6 * (mm : Int)) := by rw [hS]; unfold Rep.sizeR; simp; omega
  clear hS h2 hmm
  subst h3
  have hor := or_word x2 x3 m2 n2 m3 n3
  have hq : S / 4 = 2 + 6 * (mm : Int) := by omega
  have k5 : (256 * x2 + x3 + 1 != S / 4) = false := by rw [hq, h4']; simp
  rw [hq] at k5
  have k6 : S.tdiv 4 = 2 + 6 * (mm : Int) := by rw [hS2]; exact Int.mul_tdiv_cancel_left _ (by decide)
  have k7 : (bs.length : Int) < S := by rw [hS2]; exact h5
  clear h4' hq h5
  go_enter Try.func18, Try.ntmps18
  have U := Lib.hid (Bel.push (Bel.push (Bel.refl w) (.cells #[.slice (some ⟨b, off, none⟩) bs.length c] 40)) (.cells #[.bool false, .int .u32 0, .int .u64 0, .int .u32 0, .int .u32 0, .int .u32 0, .slice none 0 0] 47))
  have B := Lib.hid (Blk.new1 w (.cells #[.slice (some ⟨b, off, none⟩) bs.length c] 40) 47 #[.bool false, .int .u32 0, .int .u64 0, .int .u32 0, .int .u32 0, .int .u32 0, .slice none 0 0])
  have X := Lib.hid ((Blk.new w 40 #[.slice (some ⟨b, off, none⟩) bs.length c]).push (.cells #[.bool false, .int .u32 0, .int .u64 0, .int .u32 0, .int .u32 0, .int .u32 0, .slice none 0 0] 47))
  go_wp2_with fail
  refine (ks.out _).mono ?_
  rintro e w1 ⟨rfl, rfl⟩
  go_wp2_with fail
  go_quiet (fail)
  go_wp2_with fail
  go_region
  go_wp2_with fail
  exact bodyPost_ret (v := .tuple #[.agg #[.bool false, .int .u32 0, .int .u64 0, .int .u32 0, .int .u32 0, .int .u32 0, .slice none 0 0], .int .i64 bs.length, .int .u8 6]) (res_ctt Try.results18 rfl (run_loadVar_row (P := Try.prog) _ _ _ _ _ _ _ ((B.out.drewN _).drew) Try.underlying47 rfl (by kernel_rfl)) rfl rfl) rfl ⟨none, 0, rfl, RowsNew.nil, (U.out.drewN _).drew⟩
end
end Go.Proofs.Ythmcbmjjngolmaa

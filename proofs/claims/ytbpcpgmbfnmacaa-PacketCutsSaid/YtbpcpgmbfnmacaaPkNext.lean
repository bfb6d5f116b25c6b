/- Layer 25: checkHead of the program. Layer 25: clone of the program. Layer 25: the closure of Decode that takes the next bytes. -/
import Derived.Test.YtbpcpgmbfnmacaaPkNum
import Derived.Laws.CopyOwn
namespace Go.Proofs.Ytbpcpgmbfnmacaa
open Go.RowKit
set_option linter.unusedVariables false
set_option linter.unusedSimpArgs false
attribute [local go_sem] setCell_drewN alloc_drewN
namespace Pk
/-- what checkHead answers -/
def chk (bs : List Int) : Int × Int :=
  if bs.length = 0 then (0, 6) else
  if bs.getD 0 0 / 64 ≠ 2 then (0, 15) else
  if (bs.length : Int) < 12 + 4 * (bs.getD 0 0 % 16) then (bs.length, 6) else
  if bs.getD 0 0 / 16 % 2 = 0 then (0, 0) else
  if (bs.length : Int) < 12 + 4 * (bs.getD 0 0 % 16) + 4 then (bs.length, 6) else
  if 1020 < 4 * fld bs (14 + 4 * (bs.getD 0 0 % 16).toNat) 2 then (12 + 4 * (bs.getD 0 0 % 16) + 2, 4) else
  if (bs.length : Int) < 12 + 4 * (bs.getD 0 0 % 16) + 4 + 4 * fld bs (14 + 4 * (bs.getD 0 0 % 16).toNat) 2 then (bs.length, 6) else (0, 0)
end Pk
theorem and_15 (x : Int) (x0 : 0 ≤ x) (x1 : x ≤ 255) : bits BinOp.and IntKind.u8 x 15 = x % 16 := by
  obtain ⟨n, rfl⟩ := Int.eq_ofNat_of_zero_le x0
  have h : ∀ i : Fin 256, bits BinOp.and IntKind.u8 (i.val : Int) 15 = (i.val : Int) % 16 := by decide +kernel
  exact h ⟨n, by omega⟩
theorem and_16 (x : Int) (x0 : 0 ≤ x) (x1 : x ≤ 255) : bits BinOp.and IntKind.u8 x 16 = 16 * (x / 16 % 2) := by
  obtain ⟨n, rfl⟩ := Int.eq_ofNat_of_zero_le x0
  have h : ∀ i : Fin 256, bits BinOp.and IntKind.u8 (i.val : Int) 16 = 16 * ((i.val : Int) / 16 % 2) := by decide +kernel
  exact h ⟨n, by omega⟩
section
variable (A : Option Addr) (bs : List Int) (c : Nat) (w : World)
set_option maxRecDepth 100000 in
set_option maxHeartbeats 800000 in
theorem chk_empty (hA : IntsAt w w.heap.size .u8 A bs) (hz : Within 0 255 bs) (hm : bs.length ≤ 100000) (hc : bs.length ≤ c) (h : bs.length = 0) : Calls Try.prog 30 #[.slice A bs.length c] w fun e w' => e = .returned (.tuple #[.int .i64 (0), .int .u8 6]) ∧ w = w' := by
  obtain rfl := List.eq_nil_of_length_eq_zero h
  clear hA hz h
  go_enter Try.func30, Try.ntmps30
  go_wp2_with fail
  go_ret2
  exact ⟨rfl, rfl⟩
set_option maxRecDepth 100000 in
set_option maxHeartbeats 800000 in
theorem chk_ver (hA : IntsAt w w.heap.size .u8 A bs) (hz : Within 0 255 bs) (hm : bs.length ≤ 100000) (hc : bs.length ≤ c) (h : 0 < bs.length) (h2 : bs.getD 0 0 / 64 ≠ 2) : Calls Try.prog 30 #[.slice A bs.length c] w fun e w' => e = .returned (.tuple #[.int .i64 (0), .int .u8 15]) ∧ w = w' := by
  obtain ⟨b, off, rfl, hbB, hcell⟩ := hA (by omega)
  have q0 : w.cell? ⟨b, off, none⟩ = some (.int .u8 (bs.getD 0 0)) := hcell 0 (by omega)
  obtain ⟨m0, n0⟩ := hz.at (i := 0) (by omega)
  have hl1 : ¬bs.length = 0 := by omega
  have hl2 : ¬bs = [] := by intro h5; rw [h5] at hl1; exact hl1 rfl
  have hl3 : (0 : Int) < (bs.length : Int) := by omega
  generalize bs.getD 0 0 = x at *
  have HA := Lib.hid hA
  have HZ := Lib.hid hz
  clear hcell hA hz
  have k1 : (x / 64 != 2) = true := bne_iff_ne.2 h2
  clear h2
  go_enter Try.func30, Try.ntmps30
  go_wp2_with fail
  go_ret2
  exact ⟨rfl, rfl⟩
set_option maxRecDepth 100000 in
set_option maxHeartbeats 800000 in
theorem chk_short1 (hA : IntsAt w w.heap.size .u8 A bs) (hz : Within 0 255 bs) (hm : bs.length ≤ 100000) (hc : bs.length ≤ c) (mm : Nat) (h : 0 < bs.length) (h2 : bs.getD 0 0 / 64 = 2) (hmm : bs.getD 0 0 % 16 = (mm : Int)) (h3 : (bs.length : Int) < 12 + 4 * (mm : Int)) : Calls Try.prog 30 #[.slice A bs.length c] w fun e w' => e = .returned (.tuple #[.int .i64 (bs.length), .int .u8 6]) ∧ w = w' := by
  obtain ⟨b, off, rfl, hbB, hcell⟩ := hA (by omega)
  have q0 : w.cell? ⟨b, off, none⟩ = some (.int .u8 (bs.getD 0 0)) := hcell 0 (by omega)
  obtain ⟨m0, n0⟩ := hz.at (i := 0) (by omega)
  have hl1 : ¬bs.length = 0 := by omega
  have hl2 : ¬bs = [] := by intro h5; rw [h5] at hl1; exact hl1 rfl
  have hl3 : (0 : Int) < (bs.length : Int) := by omega
  generalize bs.getD 0 0 = x at *
  have HA := Lib.hid hA
  have HZ := Lib.hid hz
  clear hcell hA hz
  have kk := and_15 x m0 n0
  rw [hmm] at kk
  have mb : (mm : Int) ≤ 15 := by omega
  have k1 : (x / 64 != 2) = false := by simp [h2]
  have k2 := and_16 x m0 n0
  clear h2 hmm
  go_enter Try.func30, Try.ntmps30
  go_wp2_with fail
  go_ret2
  exact ⟨rfl, rfl⟩
set_option maxRecDepth 100000 in
set_option maxHeartbeats 800000 in
theorem chk_plain (hA : IntsAt w w.heap.size .u8 A bs) (hz : Within 0 255 bs) (hm : bs.length ≤ 100000) (hc : bs.length ≤ c) (mm : Nat) (h : 0 < bs.length) (h2 : bs.getD 0 0 / 64 = 2) (hmm : bs.getD 0 0 % 16 = (mm : Int)) (h3 : 12 + 4 * (mm : Int) ≤ (bs.length : Int)) (h4 : bs.getD 0 0 / 16 % 2 = 0) : Calls Try.prog 30 #[.slice A bs.length c] w fun e w' => e = .returned (.tuple #[.int .i64 (0), .int .u8 0]) ∧ w = w' := by
  obtain ⟨b, off, rfl, hbB, hcell⟩ := hA (by omega)
  have q0 : w.cell? ⟨b, off, none⟩ = some (.int .u8 (bs.getD 0 0)) := hcell 0 (by omega)
  obtain ⟨m0, n0⟩ := hz.at (i := 0) (by omega)
  have hl1 : ¬bs.length = 0 := by omega
  have hl2 : ¬bs = [] := by intro h5; rw [h5] at hl1; exact hl1 rfl
  have hl3 : (0 : Int) < (bs.length : Int) := by omega
  generalize bs.getD 0 0 = x at *
  have HA := Lib.hid hA
  have HZ := Lib.hid hz
  clear hcell hA hz
  have kk := and_15 x m0 n0
  rw [hmm] at kk
  have mb : (mm : Int) ≤ 15 := by omega
  have k1 : (x / 64 != 2) = false := by simp [h2]
  have k2 := and_16 x m0 n0
  rw [h4] at k2
  clear h2 hmm h4
  go_enter Try.func30, Try.ntmps30
  go_wp2_with fail
  go_ret2
  exact ⟨rfl, rfl⟩
set_option maxRecDepth 100000 in
set_option maxHeartbeats 800000 in
theorem chk_short2 (hA : IntsAt w w.heap.size .u8 A bs) (hz : Within 0 255 bs) (hm : bs.length ≤ 100000) (hc : bs.length ≤ c) (mm : Nat) (h : 0 < bs.length) (h2 : bs.getD 0 0 / 64 = 2) (hmm : bs.getD 0 0 % 16 = (mm : Int)) (h3 : 12 + 4 * (mm : Int) ≤ (bs.length : Int)) (h4 : bs.getD 0 0 / 16 % 2 = 1) (h5 : (bs.length : Int) < 12 + 4 * (mm : Int) + 4) : Calls Try.prog 30 #[.slice A bs.length c] w fun e w' => e = .returned (.tuple #[.int .i64 (bs.length), .int .u8 6]) ∧ w = w' := by
  obtain ⟨b, off, rfl, hbB, hcell⟩ := hA (by omega)
  have q0 : w.cell? ⟨b, off, none⟩ = some (.int .u8 (bs.getD 0 0)) := hcell 0 (by omega)
  obtain ⟨m0, n0⟩ := hz.at (i := 0) (by omega)
  have hl1 : ¬bs.length = 0 := by omega
  have hl2 : ¬bs = [] := by intro h5; rw [h5] at hl1; exact hl1 rfl
  have hl3 : (0 : Int) < (bs.length : Int) := by omega
  generalize bs.getD 0 0 = x at *
  have HA := Lib.hid hA
  have HZ := Lib.hid hz
  clear hcell hA hz
  have kk := and_15 x m0 n0
  rw [hmm] at kk
  have mb : (mm : Int) ≤ 15 := by omega
  have k1 : (x / 64 != 2) = false := by simp [h2]
  have k2 := and_16 x m0 n0
  rw [h4] at k2
  clear h2 hmm h4
  go_enter Try.func30, Try.ntmps30
  go_wp2_with fail
  go_ret2
  exact ⟨rfl, rfl⟩
set_option maxRecDepth 100000 in
set_option maxHeartbeats 800000 in
theorem chk_limit (hA : IntsAt w w.heap.size .u8 A bs) (hz : Within 0 255 bs) (hm : bs.length ≤ 100000) (hc : bs.length ≤ c) (mm : Nat) (h : 0 < bs.length) (h2 : bs.getD 0 0 / 64 = 2) (hmm : bs.getD 0 0 % 16 = (mm : Int)) (h3 : 12 + 4 * (mm : Int) ≤ (bs.length : Int)) (h4 : bs.getD 0 0 / 16 % 2 = 1) (h5 : 12 + 4 * (mm : Int) + 4 ≤ (bs.length : Int)) (h6 : 1020 < 4 * fld bs (14 + 4 * mm) 2) : Calls Try.prog 30 #[.slice A bs.length c] w fun e w' => e = .returned (.tuple #[.int .i64 (12 + 4 * (mm : Int) + 2), .int .u8 4]) ∧ w = w' := by
  obtain ⟨b, off, rfl, hbB, hcell⟩ := hA (by omega)
  have q0 : w.cell? ⟨b, off, none⟩ = some (.int .u8 (bs.getD 0 0)) := hcell 0 (by omega)
  obtain ⟨m0, n0⟩ := hz.at (i := 0) (by omega)
  have hl1 : ¬bs.length = 0 := by omega
  have hl2 : ¬bs = [] := by intro h5; rw [h5] at hl1; exact hl1 rfl
  have hl3 : (0 : Int) < (bs.length : Int) := by omega
  obtain ⟨f0, f1⟩ := fld_bd bs (14 + 4 * mm) 2 hz (by omega)
  have hsub : IntsAt w w.heap.size .u8 (some ⟨b, off + (14 + 4 * mm), none⟩) ((bs.drop (14 + 4 * mm)).take 2) := by
    obtain ⟨b', off', e, h'⟩ := hA.drop (14 + 4 * mm) (by omega)
    cases e
    exact h'.take 2
  have ks := Lib.hid fun C => number_any (some ⟨b, off + (14 + 4 * mm), none⟩) ((bs.drop (14 + 4 * mm)).take 2) C w _ hsub ((hz.drop _).take _) (by simp; omega) 2 (by simp; omega)
  change Hid (∀ C, Calls _ _ _ _ (fun e w' => e = .returned (.int .u32 (fld bs (14 + 4 * mm) 2)) ∧ w = w')) at ks
  clear hsub
  generalize fld bs (14 + 4 * mm) 2 = X at *
  have f2 : X ≤ 65535 := by have : (256 : Int) ^ 2 = 65536 := rfl; omega
  clear f1
  generalize bs.getD 0 0 = x at *
  have HA := Lib.hid hA
  have HZ := Lib.hid hz
  clear hcell hA hz
  have kk := and_15 x m0 n0
  rw [hmm] at kk
  have mb : (mm : Int) ≤ 15 := by omega
  have k1 : (x / 64 != 2) = false := by simp [h2]
  have k2 := and_16 x m0 n0
  rw [h4] at k2
  clear h2 hmm h4
  have s1 : (12 + 4 * (mm : Int) + 2).toNat = 14 + 4 * mm := by omega
  have s2 : (12 + 4 * (mm : Int) + 4).toNat = 16 + 4 * mm := by omega
  have s3 : 12 + 4 * (mm : Int) + 4 ≤ (c : Int) := by omega
  have s4 : 16 + 4 * mm - (14 + 4 * mm) = 2 := by omega
  have s5 : ¬c = 14 + 4 * mm := by omega
  go_enter Try.func30, Try.ntmps30
  go_wp2_with fail
  refine (ks.out _).mono ?_
  rintro e w1 ⟨rfl, rfl⟩
  go_wp2_with fail
  go_ret2
  exact ⟨rfl, rfl⟩
set_option maxRecDepth 100000 in
set_option maxHeartbeats 800000 in
theorem chk_short3 (hA : IntsAt w w.heap.size .u8 A bs) (hz : Within 0 255 bs) (hm : bs.length ≤ 100000) (hc : bs.length ≤ c) (mm : Nat) (h : 0 < bs.length) (h2 : bs.getD 0 0 / 64 = 2) (hmm : bs.getD 0 0 % 16 = (mm : Int)) (h3 : 12 + 4 * (mm : Int) ≤ (bs.length : Int)) (h4 : bs.getD 0 0 / 16 % 2 = 1) (h5 : 12 + 4 * (mm : Int) + 4 ≤ (bs.length : Int)) (h6 : 4 * fld bs (14 + 4 * mm) 2 ≤ 1020) (h7 : (bs.length : Int) < 12 + 4 * (mm : Int) + 4 + 4 * fld bs (14 + 4 * mm) 2) : Calls Try.prog 30 #[.slice A bs.length c] w fun e w' => e = .returned (.tuple #[.int .i64 (bs.length), .int .u8 6]) ∧ w = w' := by
  obtain ⟨b, off, rfl, hbB, hcell⟩ := hA (by omega)
  have q0 : w.cell? ⟨b, off, none⟩ = some (.int .u8 (bs.getD 0 0)) := hcell 0 (by omega)
  obtain ⟨m0, n0⟩ := hz.at (i := 0) (by omega)
  have hl1 : ¬bs.length = 0 := by omega
  have hl2 : ¬bs = [] := by intro h5; rw [h5] at hl1; exact hl1 rfl
  have hl3 : (0 : Int) < (bs.length : Int) := by omega
  obtain ⟨f0, f1⟩ := fld_bd bs (14 + 4 * mm) 2 hz (by omega)
  have hsub : IntsAt w w.heap.size .u8 (some ⟨b, off + (14 + 4 * mm), none⟩) ((bs.drop (14 + 4 * mm)).take 2) := by
    obtain ⟨b', off', e, h'⟩ := hA.drop (14 + 4 * mm) (by omega)
    cases e
    exact h'.take 2
  have ks := Lib.hid fun C => number_any (some ⟨b, off + (14 + 4 * mm), none⟩) ((bs.drop (14 + 4 * mm)).take 2) C w _ hsub ((hz.drop _).take _) (by simp; omega) 2 (by simp; omega)
  change Hid (∀ C, Calls _ _ _ _ (fun e w' => e = .returned (.int .u32 (fld bs (14 + 4 * mm) 2)) ∧ w = w')) at ks
  clear hsub
  generalize fld bs (14 + 4 * mm) 2 = X at *
  have f2 : X ≤ 65535 := by have : (256 : Int) ^ 2 = 65536 := rfl; omega
  clear f1
  generalize bs.getD 0 0 = x at *
  have HA := Lib.hid hA
  have HZ := Lib.hid hz
  clear hcell hA hz
  have kk := and_15 x m0 n0
  rw [hmm] at kk
  have mb : (mm : Int) ≤ 15 := by omega
  have k1 : (x / 64 != 2) = false := by simp [h2]
  have k2 := and_16 x m0 n0
  rw [h4] at k2
  clear h2 hmm h4
  have s1 : (12 + 4 * (mm : Int) + 2).toNat = 14 + 4 * mm := by omega
  have s2 : (12 + 4 * (mm : Int) + 4).toNat = 16 + 4 * mm := by omega
  have s3 : 12 + 4 * (mm : Int) + 4 ≤ (c : Int) := by omega
  have s4 : 16 + 4 * mm - (14 + 4 * mm) = 2 := by omega
  have s5 : ¬c = 14 + 4 * mm := by omega
  go_enter Try.func30, Try.ntmps30
  go_wp2_with fail
  refine (ks.out _).mono ?_
  rintro e w1 ⟨rfl, rfl⟩
  go_wp2_with fail
  go_ret2
  exact ⟨rfl, rfl⟩
set_option maxRecDepth 100000 in
set_option maxHeartbeats 800000 in
theorem chk_ext (hA : IntsAt w w.heap.size .u8 A bs) (hz : Within 0 255 bs) (hm : bs.length ≤ 100000) (hc : bs.length ≤ c) (mm : Nat) (h : 0 < bs.length) (h2 : bs.getD 0 0 / 64 = 2) (hmm : bs.getD 0 0 % 16 = (mm : Int)) (h3 : 12 + 4 * (mm : Int) ≤ (bs.length : Int)) (h4 : bs.getD 0 0 / 16 % 2 = 1) (h5 : 12 + 4 * (mm : Int) + 4 ≤ (bs.length : Int)) (h6 : 4 * fld bs (14 + 4 * mm) 2 ≤ 1020) (h7 : 12 + 4 * (mm : Int) + 4 + 4 * fld bs (14 + 4 * mm) 2 ≤ (bs.length : Int)) : Calls Try.prog 30 #[.slice A bs.length c] w fun e w' => e = .returned (.tuple #[.int .i64 (0), .int .u8 0]) ∧ w = w' := by
  obtain ⟨b, off, rfl, hbB, hcell⟩ := hA (by omega)
  have q0 : w.cell? ⟨b, off, none⟩ = some (.int .u8 (bs.getD 0 0)) := hcell 0 (by omega)
  obtain ⟨m0, n0⟩ := hz.at (i := 0) (by omega)
  have hl1 : ¬bs.length = 0 := by omega
  have hl2 : ¬bs = [] := by intro h5; rw [h5] at hl1; exact hl1 rfl
  have hl3 : (0 : Int) < (bs.length : Int) := by omega
  obtain ⟨f0, f1⟩ := fld_bd bs (14 + 4 * mm) 2 hz (by omega)
  have hsub : IntsAt w w.heap.size .u8 (some ⟨b, off + (14 + 4 * mm), none⟩) ((bs.drop (14 + 4 * mm)).take 2) := by
    obtain ⟨b', off', e, h'⟩ := hA.drop (14 + 4 * mm) (by omega)
    cases e
    exact h'.take 2
  have ks := Lib.hid fun C => number_any (some ⟨b, off + (14 + 4 * mm), none⟩) ((bs.drop (14 + 4 * mm)).take 2) C w _ hsub ((hz.drop _).take _) (by simp; omega) 2 (by simp; omega)
  change Hid (∀ C, Calls _ _ _ _ (fun e w' => e = .returned (.int .u32 (fld bs (14 + 4 * mm) 2)) ∧ w = w')) at ks
  clear hsub
  generalize fld bs (14 + 4 * mm) 2 = X at *
  have f2 : X ≤ 65535 := by have : (256 : Int) ^ 2 = 65536 := rfl; omega
  clear f1
  generalize bs.getD 0 0 = x at *
  have HA := Lib.hid hA
  have HZ := Lib.hid hz
  clear hcell hA hz
  have kk := and_15 x m0 n0
  rw [hmm] at kk
  have mb : (mm : Int) ≤ 15 := by omega
  have k1 : (x / 64 != 2) = false := by simp [h2]
  have k2 := and_16 x m0 n0
  rw [h4] at k2
  clear h2 hmm h4
  have s1 : (12 + 4 * (mm : Int) + 2).toNat = 14 + 4 * mm := by omega
  have s2 : (12 + 4 * (mm : Int) + 4).toNat = 16 + 4 * mm := by omega
  have s3 : 12 + 4 * (mm : Int) + 4 ≤ (c : Int) := by omega
  have s4 : 16 + 4 * mm - (14 + 4 * mm) = 2 := by omega
  have s5 : ¬c = 14 + 4 * mm := by omega
  go_enter Try.func30, Try.ntmps30
  go_wp2_with fail
  refine (ks.out _).mono ?_
  rintro e w1 ⟨rfl, rfl⟩
  go_wp2_with fail
  go_ret2
  exact ⟨rfl, rfl⟩
theorem checkHead_any (hA : IntsAt w w.heap.size .u8 A bs) (hz : Within 0 255 bs) (hm : bs.length ≤ 100000) (hc : bs.length ≤ c) : Calls Try.prog 30 #[.slice A bs.length c] w fun e w' => e = .returned (.tuple #[.int .i64 (Pk.chk bs).1, .int .u8 (Pk.chk bs).2]) ∧ w = w' := by
  unfold Pk.chk
  by_cases h1 : bs.length = 0
  · rw [if_pos h1]; exact chk_empty A bs c w hA hz hm hc h1
  rw [if_neg h1]
  by_cases h2 : bs.getD 0 0 / 64 = 2
  case neg => rw [if_pos h2]; exact chk_ver A bs c w hA hz hm hc (by omega) h2
  rw [if_neg (by omega)]
  obtain ⟨mm, hmm⟩ : ∃ n : Nat, bs.getD 0 0 % 16 = (n : Int) := ⟨(bs.getD 0 0 % 16).toNat, by omega⟩
  have hq : (bs.getD 0 0 % 16).toNat = mm := by omega
  rw [hq, hmm]
  by_cases h3 : (bs.length : Int) < 12 + 4 * (mm : Int)
  · rw [if_pos h3]; exact chk_short1 A bs c w hA hz hm hc mm (by omega) h2 hmm h3
  rw [if_neg h3]
  by_cases h4 : bs.getD 0 0 / 16 % 2 = 0
  · rw [if_pos h4]; exact chk_plain A bs c w hA hz hm hc mm (by omega) h2 hmm (by omega) h4
  rw [if_neg h4]
  have h4' : bs.getD 0 0 / 16 % 2 = 1 := by omega
  by_cases h5 : (bs.length : Int) < 12 + 4 * (mm : Int) + 4
  · rw [if_pos h5]; exact chk_short2 A bs c w hA hz hm hc mm (by omega) h2 hmm (by omega) h4' h5
  rw [if_neg h5]
  by_cases h6 : 1020 < 4 * fld bs (14 + 4 * mm) 2
  · rw [if_pos h6]; exact chk_limit A bs c w hA hz hm hc mm (by omega) h2 hmm (by omega) h4' (by omega) h6
  rw [if_neg h6]
  by_cases h7 : (bs.length : Int) < 12 + 4 * (mm : Int) + 4 + 4 * fld bs (14 + 4 * mm) 2
  · rw [if_pos h7]; exact chk_short3 A bs c w hA hz hm hc mm (by omega) h2 hmm (by omega) h4' (by omega) (by omega) h7
  · rw [if_neg h7]; exact chk_ext A bs c w hA hz hm hc mm (by omega) h2 hmm (by omega) h4' (by omega) (by omega) (by omega)
end
open Go.RowKit
set_option linter.unusedVariables false
set_option linter.unusedSimpArgs false
attribute [local go_sem] setCell_drewN alloc_drewN
theorem ints_blk {w : World} {g : Nat} {t : TypeId} {bs : List Int} (h : Blk w g t (u8s bs).toArray) : IntsAt w w.heap.size .u8 (some ⟨g, 0, none⟩) bs := fun h0 => by
  refine ⟨g, 0, rfl, h.lt, fun i hi => ?_⟩
  rw [Nat.zero_add, h.cell i]
  simp [u8s, List.getElem?_eq_getElem hi, List.getD_eq_getElem?_getD]
section
variable (A : Option Addr) (bs : List Int) (c : Nat) (w : World)
def CloneR (bs : List Int) (w : World) (e : Ending) (w' : World) : Prop := ∃ (A' : Option Addr) (c' : Nat), e = .returned (.slice A' bs.length c') ∧ IntsNew w.heap.size w' .u8 A' bs ∧ Below w.heap.size w w'
set_option maxRecDepth 100000 in
set_option maxHeartbeats 800000 in
theorem clone_nil : Calls Try.prog 33 #[.slice A 0 c] w (CloneR [] w) := by
  go_enter Try.func33, Try.ntmps33
  go_wp2_with fail
  go_ret
  exact ⟨none, 0, rfl, IntsNew.nil, Bel.refl w⟩
set_option maxRecDepth 100000 in
set_option maxHeartbeats 800000 in
theorem clone_some (hA : IntsAt w w.heap.size .u8 A bs) (hl : bs.length ≤ 100000) (h0 : 0 < bs.length) : Calls Try.prog 33 #[.slice A bs.length c] w (CloneR bs w) := by
  have hmk := run_make_row' (P := Try.prog) 25 5 (.int .u8 0) 1 Try.underlying25 info_u8 rfl .i64 .i64 bs.length (by omega) (by omega) w
  obtain ⟨cur, hcur⟩ : ∃ cur : List Value, cur = (madeCells #[.int .u8 0] bs.length).toList := ⟨_, rfl⟩
  have hcl : cur.length = bs.length := by rw [hcur]; simp [madeCells]
  obtain ⟨W1, hW1⟩ : ∃ W1, W1 = w.alloc (.cells (madeCells #[.int .u8 0] bs.length) 5) := ⟨_, rfl⟩
  have hB : Blk W1 w.heap.size 5 cur.toArray := by rw [hW1, hcur, Array.toArray_toList]; exact Blk.new _ _ _
  have hU : Below w.heap.size w W1 := by rw [hW1]; exact (Below.refl _ _).alloc (Nat.le_refl _) _
  rw [← hW1] at hmk
  clear hW1 hcur
  have hl1 : ¬bs.length = 0 := by omega
  have hl2 : ¬bs = [] := by intro h5; rw [h5] at hl1; exact hl1 rfl
  obtain ⟨b, off, rfl, hbB, hcell⟩ := hA h0
  have hsp : splice cur 0 (u8s bs) = u8s bs := by simp [splice, u8s, hcl]
  have HC : ∀ j v, (u8s bs)[j]? = some v → W1.cell? ((⟨b, off, none⟩ : Addr).add j) = some v := by
    intro j v hv
    have hj : j < bs.length := by
      have := (List.getElem?_eq_some_iff.1 hv).1
      simpa [u8s] using this
    have := (hU.cell (p := ⟨b, off + j, none⟩) hbB).trans (hcell j hj)
    rw [show ((⟨b, off, none⟩ : Addr).add j) = ⟨b, off + j, none⟩ by simp [Addr.add], this]
    simp [u8s, List.getElem?_eq_getElem hj] at hv
    rw [← hv]; simp [List.getD_eq_getElem?_getD, List.getElem?_eq_getElem hj]
  have HCC := Lib.hid HC
  have HB := Lib.hid hB
  have HU := Lib.hid hU
  have HSP := Lib.hid hsp
  have HCL := Lib.hid hcl
  clear HC hB hU hsp hcell hA hcl
  go_enter Try.func33, Try.ntmps33
  go_wp2_with (refine wpList_copy_splice (o := ⟨some 12, _, _, _, _, _⟩) rfl (.tmp 10) (.tmp 11) 25 25 rfl 5 Try.underlying25 (by kernel_rfl) _ _ _ _ _ _ rfl rfl w.heap.size 0 cur 5 HB.out (u8s bs) (by simp [u8s]) (fun _ => ⟨rfl, _, rfl, HCC.out⟩) (by rw [HCL.out]; simp [u8s]) (by intro v hv; simp [u8s] at hv; obtain ⟨z, _, rfl⟩ := hv; rfl) w.heap.size w HU.out (Nat.le_refl _) ?_
               intro w2 hB2 hU2)
  rw [HSP.out] at hB2
  go_ret
  exact ⟨_, _, rfl, ⟨ints_blk hB2.out, fun _ b' off' e => by cases e; exact Nat.le_refl _⟩, hU2⟩
end
open Go.RowKit
set_option linter.unusedVariables false
set_option linter.unusedSimpArgs false
attribute [local go_sem] setCell_drewN alloc_drewN
/-- only block g has been written since w -/
def Only (g : Nat) (w w' : World) : Prop := w.grownBy w' (some g) ∧ w'.heap.size = w.heap.size
section
variable {g : Nat} {w w1 w2 : World}
theorem Only.refl (g : Nat) (w : World) : Only g w w := ⟨World.grownBy.refl w _, rfl⟩
theorem Only.trans (h : Only g w w1) (h2 : Only g w1 w2) : Only g w w2 :=
  ⟨⟨h2.1.os.trans h.1.os, h2.1.tape.trans h.1.tape, h2.1.output.trans h.1.output, Nat.le_trans h.1.size h2.1.size, fun k hk hne => (h2.1.block k (Nat.lt_of_lt_of_le hk h.1.size) hne).trans (h.1.block k hk hne)⟩, h2.2.trans h.2⟩
theorem Only.set (h : Only g w w1) (i : Nat) (v : Value) : Only g w (w1.setCell ⟨g, i, none⟩ v) :=
  h.trans ⟨⟨rfl, rfl, rfl, by simp [World.setCell], fun k hk hne => Below.heap_setCell w1 _ v k (fun e => hne (by rw [e]))⟩, by simp [World.setCell]⟩
theorem Only.drew (h : Only g w w1) : Only g w w1.drew := ⟨⟨h.1.os, h.1.tape, h.1.output, h.1.size, h.1.block⟩, h.2⟩
theorem Only.blk {g' : Nat} {t : TypeId} {cs : Array Value} (h : Only g w w1) (hb : Blk w g' t cs) (hne : g' ≠ g) : Blk w1 g' t cs := hb.grown h.1 (fun e => hne (by injection e))
theorem Only.cell {a : Addr} {v : Value} (h : Only g w w1) (hc : w.cell? a = some v) (hne : a.block ≠ g) : w1.cell? a = some v := h.1.cell hc (fun e => hne (by injection e))
theorem Only.below {W : World} (h : Only g w w1) (hb : Below W.heap.size W w) (hg : W.heap.size ≤ g) : Below W.heap.size W w1 :=
  hb.grown h.1 (Nat.le_trans (Nat.le_refl _) hb.size) (fun k e => by injection e with e; omega)
end
/-- what next leaves: n bytes from the place on; the rest begins behind them -/
def TakeR (gb b off L C n : Nat) (w : World) (e : Ending) (w' : World) : Prop :=
  e = .returned (.slice (some ⟨b, off, none⟩) n n) ∧ Only gb w w' ∧ ∃ o' : Nat, Blk w' gb 25 #[.slice (some ⟨b, o', none⟩) (L - n) (C - n)] ∧ (n < C → o' = off + n)
section
variable (gb b off L C n : Nat) (w : World)
set_option maxRecDepth 100000 in
set_option maxHeartbeats 800000 in
theorem next_any (hg : Blk w gb 25 #[.slice (some ⟨b, off, none⟩) L C]) (hn : n ≤ L) (hL : L ≤ C) (hm : L ≤ 100000) :
    Calls Try.prog 31 #[.int .i64 n, .pointer (some ⟨gb, 0, none⟩)] w (TakeR gb b off L C n w) := by
  have c0 := hg.at 0 _ rfl
  have hz := hg.frozen
  have HG := Lib.hid hg
  have n0 : (0 : Int) ≤ (n : Int) := by omega
  have n1 : (n : Int) ≤ (L : Int) := by omega
  have n2 : (n : Int) ≤ (C : Int) := by omega
  clear hg
  by_cases hC : C = n
  · subst hC
    obtain rfl : L = C := by omega
    go_enter Try.func31, Try.ntmps31
    go_wp2_with fail
    go_ret
    exact ⟨rfl, (Only.refl _ _).set 0 _, off, by have h := HG.out.set_ 0 (.slice (some ⟨b, off, none⟩) 0 0); simpa using h, fun h => absurd h (by omega)⟩
  · have hC2 : ¬C = n := hC
    go_enter Try.func31, Try.ntmps31
    go_wp2_with fail
    go_ret
    exact ⟨rfl, (Only.refl _ _).set 0 _, off + n, by have h := HG.out.set_ 0 (.slice (some ⟨b, off + n, none⟩) (L - n) (C - n)); simpa using h, fun _ => rfl⟩
end
end Go.Proofs.Ytbpcpgmbfnmacaa

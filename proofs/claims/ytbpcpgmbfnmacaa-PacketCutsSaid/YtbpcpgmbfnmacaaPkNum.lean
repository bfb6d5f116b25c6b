/- Layer 25: numbers that are read and written. -/
import Derived.Test.YtbpcpgmbfnmacaaPkEnc0
import Derived.Deep.LoopGhost
import Derived.Laws.Bits64b
namespace Go.Proofs.Ytbpcpgmbfnmacaa
open Go.RowKit
set_option linter.unusedVariables false
set_option linter.unusedSimpArgs false
attribute [local go_sem] setCell_drewN alloc_drewN
theorem u32_or_nat (a b : Nat) (ha : a < 4294967296) (hb : b < 4294967296) : bits .or .u32 (a : Int) (b : Int) = ((a ||| b : Nat) : Int) := by
  have hx : a ||| b < 2 ^ 32 := Nat.or_lt_two_pow (by omega) (by omega)
  show IntKind.u32.wrap ((BitVec.ofInt 32 (a : Int) ||| BitVec.ofInt 32 (b : Int)).toNat : Int) = _
  rw [BitVec.toNat_or, BitVec.ofInt_natCast, BitVec.ofInt_natCast, BitVec.toNat_ofNat, BitVec.toNat_ofNat, Nat.mod_eq_of_lt (by omega), Nat.mod_eq_of_lt (by omega)]
  have e : ((a ||| b : Nat) : Int) % 2 ^ 32 = ((a ||| b : Nat) : Int) := Int.emod_eq_of_lt (by omega) (by omega)
  simp only [IntKind.wrap, IntKind.bits, IntKind.signed, e]
  simp
theorem or_byte32 (x z : Int) (x0 : 0 ≤ x) (x1 : x ≤ 16777215) (z0 : 0 ≤ z) (z1 : z ≤ 255) : bits BinOp.or IntKind.u32 (x * 256) z = 256 * x + z := by
  obtain ⟨n0, rfl⟩ := Int.eq_ofNat_of_zero_le x0
  obtain ⟨n1, rfl⟩ := Int.eq_ofNat_of_zero_le z0
  have e : ((n0 : Int) * 256) = ((n0 * 256 : Nat) : Int) := by omega
  have h : n0 * 256 ||| n1 = n0 * 256 + n1 := by
    rw [show (256 : Nat) = 2 ^ 8 from rfl, ← Nat.shiftLeft_eq, Nat.shiftLeft_add_eq_or_of_lt (by omega)]
  rw [e, u32_or_nat (n0 * 256) n1 (by omega) (by omega), h]
  omega
theorem val_small3 (bs : List Int) (hb : Within 0 255 bs) (k : Nat) (hk : k < 4) : 0 ≤ val (bs.take k) ∧ val (bs.take k) ≤ 16777215 := by
  obtain ⟨h1, h2⟩ := val_bd _ (bs.take k) rfl (hb.take k)
  have hl : (bs.take k).length ≤ 3 := by simp; omega
  generalize (bs.take k).length = m at *
  have h3 : (256 : Int) ^ m ≤ 16777216 := by
    have : ∀ i : Fin 4, (256 : Int) ^ i.val ≤ 16777216 := by decide
    exact this ⟨m, by omega⟩
  omega
section
variable (A : Option Addr) (bs : List Int) (c : Nat) (w : World) (B : Nat)
set_option maxHeartbeats 800000 in
theorem number_any (hA : IntsAt w B .u8 A bs) (hb : Within 0 255 bs) (hl : bs.length ≤ 4) (n : Nat) (hn : bs.length = n) :
    Calls Try.prog 32 #[.slice A n c] w fun e w' => e = .returned (.int .u32 (val bs)) ∧ w = w' := by
  subst hn
  have HA := Lib.hid hA
  have HB := Lib.hid hb
  clear hA hb
  go_enter Try.func32, Try.ntmps32
  go_wp2
  go_loop [3, 8] (fun s i => ∃ k : Nat, k ≤ bs.length ∧ i = .int .i64 k ∧ s = .int .u32 (val (bs.take k))) (fun _ i => bs.length - (intOf i).toNat)
  case atStart => exact ⟨0, Nat.zero_le _, rfl, rfl⟩
  case round =>
    obtain ⟨k, hk, rfl, rfl⟩ := hrel
    by_cases hlt : k < bs.length
    · obtain ⟨b, off, rfl, hbB, hcell⟩ := HA.out (by omega)
      have hc := hcell k hlt
      obtain ⟨z0, z1⟩ := HB.out.at hlt
      obtain ⟨v0, v1⟩ := val_small3 bs HB.out k (by omega)
      have hst := val_take bs k hlt
      have HS := Lib.hid hst
      clear hcell hst
      generalize bs.getD k 0 = z at *
      generalize val (bs.take k) = v at *
      have hor := or_byte32 v z v0 v1 z0 z1
      have hi0 : (0 : Int) ≤ (k : Int) := by omega
      have hi1 : (k : Int) < (bs.length : Int) := by omega
      have hzw : IntKind.u32.wrap z = z := by rw [u32_wrap]; omega
      go_wp2
      go_round
      case rel => exact ⟨k + 1, by omega, by go_num, by rw [HS.out]⟩
      case measure => simp [intOf]; omega
    · obtain rfl : k = bs.length := by omega
      go_wp2
      go_ret
      exact ⟨ret_int'' (by first | rfl | rw [List.take_length]), rfl⟩
set_option maxHeartbeats 800000 in
theorem rvalue_any (hA : IntsAt w B .u8 A bs) (hb : Within 0 255 bs) (hl : bs.length ≤ 4) (n : Nat) (hn : bs.length = n) :
    Calls Try.prog 35 #[.slice A n c] w fun e w' => e = .returned (.int .i64 (val bs)) ∧ w = w' := by
  subst hn
  have HA := Lib.hid hA
  have HB := Lib.hid hb
  clear hA hb
  go_enter Try.func35, Try.ntmps35
  go_wp2
  go_loop [3, 4] (fun s i => ∃ k : Nat, k ≤ bs.length ∧ i = .int .i64 k ∧ s = .int .i64 (val (bs.take k))) (fun _ i => bs.length - (intOf i).toNat)
  case atStart => exact ⟨0, Nat.zero_le _, rfl, rfl⟩
  case round =>
    obtain ⟨k, hk, rfl, rfl⟩ := hrel
    by_cases hlt : k < bs.length
    · obtain ⟨b, off, rfl, hbB, hcell⟩ := HA.out (by omega)
      have hc := hcell k hlt
      obtain ⟨z0, z1⟩ := HB.out.at hlt
      obtain ⟨v0, v1⟩ := val_small3 bs HB.out k (by omega)
      have hst := val_take bs k hlt
      have HS := Lib.hid hst
      clear hcell hst
      generalize bs.getD k 0 = z at *
      generalize val (bs.take k) = v at *
      have hi0 : (0 : Int) ≤ (k : Int) := by omega
      have hi1 : (k : Int) < (bs.length : Int) := by omega
      go_wp2
      go_round
      case rel => exact ⟨k + 1, by omega, by go_num, by rw [HS.out]⟩
      case measure => simp [intOf]; omega
    · obtain rfl : k = bs.length := by omega
      go_wp2
      go_ret
      exact ⟨ret_int'' (by first | rfl | rw [List.take_length]), rfl⟩
end
def NumR (n : Nat) (x : Int) (w : World) (e : Ending) (w' : World) : Prop :=
  ∃ (A : Option Addr) (c : Nat), e = .returned (.slice A n c) ∧ IntsNew w.heap.size w' .u8 A (be n x) ∧ Below w.heap.size w w'
section
variable (w : World) (x : Int) (n : Nat)
set_option maxRecDepth 100000 in
set_option maxHeartbeats 1600000 in
theorem rnumber_any (x0 : 0 ≤ x) (x1 : x ≤ 4294967295) (hn : n ≤ 8) :
    Calls Try.prog 29 #[.int .i64 x, .int .i64 n] w (NumR n x w) := by
  go_enter Try.func29, Try.ntmps29
  go_wp2_with fail
  go_loopg [0, 5, 6] n (fun gk s0 s5 s6 wr => ∃ (k : Nat) (A' : Option Addr) (c' : Nat) (y : Int) (out : List Int), gk + k = n ∧ s6 = .int .i64 k ∧ s5 = .slice A' k c' ∧ s0 = .int .i64 y ∧ Hid (be n x = be gk y ++ out) ∧ Hid (out.length = k) ∧ Hid (0 ≤ y ∧ y ≤ 4294967295) ∧ Hid (IntsNew w.heap.size wr .u8 A' out) ∧ Hid (Bel w wr))
  case atStart => exact ⟨0, none, 0, x, [], rfl, rfl, rfl, rfl, Lib.hid (by simp), Lib.hid rfl, Lib.hid ⟨x0, x1⟩, Lib.hid IntsNew.nil, Lib.hid (Bel.refl w)⟩
  case round =>
    obtain ⟨k, A', c', y, out, hg, rfl, rfl, rfl, HB, HL, HY, HI, U⟩ := hrel
    by_cases hlt : k < n
    · obtain ⟨q, rfl⟩ : ∃ q, gk = q + 1 := ⟨gk - 1, by omega⟩
      obtain ⟨y0, y1⟩ := HY.out
      have hbs := U.out.size
      have hi1 : (k : Int) < (n : Int) := by omega
      have hi0 : (0 : Int) ≤ (k : Int) := by omega
      have hym : y.tmod 256 = y % 256 := Int.tmod_eq_emod_of_nonneg y0
      have hyd : y.tdiv 256 = y / 256 := Int.tdiv_eq_ediv_of_nonneg y0
      have hyw : IntKind.u8.wrap (y % 256) = y % 256 := by rw [u8_wrap]; omega
      go_wp2_with (at_builtin
                   go_loud (refine wpList_append_ints rfl _ _ 25 rfl w.heap.size 5 1 (.int .u8 0) Try.underlying25 info_u8 rfl (some ⟨wr.heap.size, 0, none⟩) 1 1 [.int .u8 (y % 256)] rfl (Owns.lit wr _ _ [.int .u8 (y % 256)] 1 hbs (by unfold maxLen; omega) rfl) _ .u8 A' c' out (by rw [HL.out]; rfl) (HI.out.push _).1 (by rw [HL.out]; unfold maxLen; omega) (by rw [HL.out]; omega) (by simp; omega) (k + 1) (by rw [HL.out]; omega) ?_)
                   intro A2 c2 w2 hown2 hg2 hat2)
      have hU2 : Bel w w2 := (U.out.push _).grown hg2 (by simp; omega) (fun g e => by simp [ownB] at e; omega)
      go_roundg q
      case measure => omega
      case rel =>
        refine ⟨k + 1, A2, c2, y / 256, [y % 256] ++ out, by omega, by go_num, rfl, rfl, Lib.hid ?_, Lib.hid (by rw [List.length_append, HL.out]; simp; omega), Lib.hid (by omega), Lib.hid ?_, Lib.hid hU2⟩
        · rw [HB.out]
          show be q (y / 256) ++ [y % 256] ++ out = _
          rw [List.append_assoc]
        · exact IntsNew.of_own (base := w.heap.size) (e := 5) (n := k + 1) (c := c2) (by rw [List.map_append]; exact hown2) (Nat.le_refl _)
    · obtain rfl : gk = 0 := by omega
      have hi1 : (n : Int) ≤ (k : Int) := by omega
      have hk : k = n := by omega
      subst hk
      go_wp2_with fail
      go_ret
      exact ⟨A', c', rfl, by rw [HB.out]; exact HI.out, U.out⟩
end
end Go.Proofs.Ytbpcpgmbfnmacaa

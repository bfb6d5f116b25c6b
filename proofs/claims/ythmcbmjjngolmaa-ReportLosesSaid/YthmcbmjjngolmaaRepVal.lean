/- Layer 26: value of the reference: the number that bytes are. -/
import Derived.Test.YthmcbmjjngolmaaRepDecP
import Derived.Test.YthmcbmjjngolmaaRepValid
namespace Go.Proofs.Ythmcbmjjngolmaa
open Go.RowKit
set_option linter.unusedVariables false
set_option linter.unusedSimpArgs false
theorem val_take (bs : List Int) (k : Nat) (h : k < bs.length) : val (bs.take (k + 1)) = 256 * val (bs.take k) + bs.getD k 0 := by
  rw [List.take_succ_eq_append_getElem h, val_snoc, List.getD_eq_getElem?_getD, List.getElem?_eq_getElem h]; rfl
theorem val_small (bs : List Int) (h : bs.length ≤ 8) (hb : Within 0 255 bs) (k : Nat) (hk : k < 8) : 0 ≤ val (bs.take k) ∧ val (bs.take k) ≤ 72057594037927935 := by
  obtain ⟨h1, h2⟩ := val_bd _ (bs.take k) rfl (hb.take k)
  have hl : (bs.take k).length ≤ 7 := by simp; omega
  generalize (bs.take k).length = m at *
  have h3 : (256 : Int) ^ m ≤ 72057594037927936 := by
    have : ∀ i : Fin 8, (256 : Int) ^ i.val ≤ 72057594037927936 := by decide
    exact this ⟨m, by omega⟩
  omega
section
variable (A : Option Addr) (bs : List Int) (c : Nat) (w : World) (B : Nat)
set_option maxHeartbeats 800000 in
theorem value_any (hA : IntsAt w B .u8 A bs) (hb : Within 0 255 bs) (hl : bs.length ≤ 8) (n : Nat) (hn : bs.length = n) :
    Calls Try.prog 36 #[.slice A n c] w fun e w' => e = .returned (.int .u64 (val bs)) ∧ w = w' := by
  subst hn
  have HA := Lib.hid hA
  have HB := Lib.hid hb
  clear hA hb
  go_enter Try.func36, Try.ntmps36
  go_wp2
  go_loop [3, 4] (fun s i => ∃ k : Nat, k ≤ bs.length ∧ i = .int .i64 k ∧ s = .int .u64 (val (bs.take k))) (fun _ i => bs.length - (intOf i).toNat)
  case atStart => exact ⟨0, Nat.zero_le _, rfl, rfl⟩
  case round =>
    obtain ⟨k, hk, rfl, rfl⟩ := hrel
    by_cases hlt : k < bs.length
    · obtain ⟨b, off, rfl, hbB, hcell⟩ := HA.out (by omega)
      have hc := hcell k hlt
      obtain ⟨z0, z1⟩ := HB.out.at hlt
      obtain ⟨v0, v1⟩ := val_small bs hl HB.out k (by omega)
      have hst := val_take bs k hlt
      have HS := Lib.hid hst
      clear hcell hst
      generalize bs.getD k 0 = z at *
      generalize val (bs.take k) = v at *
      have hi0 : (0 : Int) ≤ (k : Int) := by omega
      have hi1 : (k : Int) < (bs.length : Int) := by omega
      go_wp2
      go_round
      case rel => exact ⟨k + 1, by omega, by go_num, by rw [HS.out]⟩
      case measure => simp [intOf]; omega
    · obtain rfl : k = bs.length := by omega
      go_wp2
      go_ret
      exact ⟨ret_int'' (by first | rfl | rw [List.take_length]), rfl⟩
end
end Go.Proofs.Ythmcbmjjngolmaa

/- Layer 26: Decode for all bytes, of the program and of the reference. -/
import Derived.Test.YthmcbmjjngolmaaRepDecT
import Derived.Test.YthmcbmjjngolmaaRepDecF
import Derived.Test.YthmcbmjjngolmaaRepRDecT
import Derived.Test.YthmcbmjjngolmaaRepRDecF
namespace Go.Proofs.Ythmcbmjjngolmaa
open Go.RowKit
set_option linter.unusedVariables false
set_option linter.unusedSimpArgs false
attribute [local go_sem] setCell_drewN alloc_drewN
theorem size_true (mm : Nat) : Rep.sizeR true mm = 4 * (7 + 6 * (mm : Int)) := by unfold Rep.sizeR; simp; omega
theorem size_false (mm : Nat) : Rep.sizeR false mm = 4 * (2 + 6 * (mm : Int)) := by unfold Rep.sizeR; simp; omega
section
variable (A : Option Addr) (bs : List Int) (c : Nat) (w : World)
theorem Decode_any (hA : IntsAt w w.heap.size .u8 A bs) (hz : Within 0 255 bs) (hm : bs.length ≤ maxLen) : Calls Try.prog 18 #[.slice A bs.length c] w (DecR (Rep.dec bs) w) := by
  unfold Rep.dec
  by_cases h : bs.length < 4
  · rw [if_pos h]
    exact Dec_short A bs c w hA hz hm h
  rw [if_neg h]
  have h' : 4 ≤ bs.length := by omega
  obtain ⟨m0, n0⟩ := hz.at (i := 0) (by omega)
  by_cases h2 : bs.getD 0 0 / 32 = 4
  rotate_left
  · rw [if_pos h2]
    exact Dec_ver A bs c w hA hz hm h' h2
  rw [if_neg (by simpa using h2)]
  by_cases h3 : bs.getD 1 0 ≠ 200 ∧ bs.getD 1 0 ≠ 201
  · rw [if_pos h3]
    exact Dec_kind A bs c w hA hz hm h' h2 h3
  rw [if_neg h3]
  obtain ⟨mm, hmm⟩ : ∃ mm : Nat, bs.getD 0 0 % 32 = (mm : Int) := ⟨(bs.getD 0 0 % 32).toNat, by omega⟩
  have hmt : (bs.getD 0 0 % 32).toNat = mm := by omega
  rw [hmt]
  have hk : bs.getD 1 0 = 200 ∨ bs.getD 1 0 = 201 := by omega
  rcases hk with hk | hk
  · have e1 : (bs.getD 1 0 == 200) = true := by rw [hk]; rfl
    rw [e1, size_true]
    have e2 : 4 * (7 + 6 * (mm : Int)) / 4 = 7 + 6 * (mm : Int) := Int.mul_ediv_cancel_left _ (by decide)
    rw [e2]
    by_cases h4 : 256 * bs.getD 2 0 + bs.getD 3 0 + 1 = 7 + 6 * (mm : Int)
    rotate_left
    · rw [if_pos h4]
      exact Dec_size_true A bs c w hA hz hm mm h' h2 hmm hk h4
    rw [if_neg (by simpa using h4)]
    by_cases h5 : (bs.length : Int) < 4 * (7 + 6 * (mm : Int))
    · rw [if_pos h5]
      exact Dec_less_true A bs c w hA hz hm mm h' h2 hmm hk h4 h5
    · rw [if_neg h5]
      exact Dec_ok_true A bs c w hA hz hm mm h' h2 hmm hk h4 (by omega)
  · have e1 : (bs.getD 1 0 == 200) = false := by rw [hk]; rfl
    rw [e1, size_false]
    have e2 : 4 * (2 + 6 * (mm : Int)) / 4 = 2 + 6 * (mm : Int) := Int.mul_ediv_cancel_left _ (by decide)
    rw [e2]
    by_cases h4 : 256 * bs.getD 2 0 + bs.getD 3 0 + 1 = 2 + 6 * (mm : Int)
    rotate_left
    · rw [if_pos h4]
      exact Dec_size_false A bs c w hA hz hm mm h' h2 hmm hk h4
    rw [if_neg (by simpa using h4)]
    by_cases h5 : (bs.length : Int) < 4 * (2 + 6 * (mm : Int))
    · rw [if_pos h5]
      exact Dec_less_false A bs c w hA hz hm mm h' h2 hmm hk h4 h5
    · rw [if_neg h5]
      exact Dec_ok_false A bs c w hA hz hm mm h' h2 hmm hk h4 (by omega)
theorem rDecode_any (hA : IntsAt w w.heap.size .u8 A bs) (hz : Within 0 255 bs) (hm : bs.length ≤ maxLen) (hc : bs.length ≤ c) : Calls Try.prog 23 #[.slice A bs.length c] w (DecR (Rep.dec bs) w) := by
  unfold Rep.dec
  by_cases h : bs.length < 4
  · rw [if_pos h]
    exact rDec_short A bs c w hA hz hm h
  rw [if_neg h]
  have h' : 4 ≤ bs.length := by omega
  obtain ⟨m0, n0⟩ := hz.at (i := 0) (by omega)
  by_cases h2 : bs.getD 0 0 / 32 = 4
  rotate_left
  · rw [if_pos h2]
    exact rDec_ver A bs c w hA hz hm h' h2
  rw [if_neg (by simpa using h2)]
  by_cases h3 : bs.getD 1 0 ≠ 200 ∧ bs.getD 1 0 ≠ 201
  · rw [if_pos h3]
    exact rDec_kind A bs c w hA hz hm h' h2 h3
  rw [if_neg h3]
  obtain ⟨mm, hmm⟩ : ∃ mm : Nat, bs.getD 0 0 % 32 = (mm : Int) := ⟨(bs.getD 0 0 % 32).toNat, by omega⟩
  have hmt : (bs.getD 0 0 % 32).toNat = mm := by omega
  rw [hmt]
  have hk : bs.getD 1 0 = 200 ∨ bs.getD 1 0 = 201 := by omega
  rcases hk with hk | hk
  · have e1 : (bs.getD 1 0 == 200) = true := by rw [hk]; rfl
    rw [e1, size_true]
    have e2 : 4 * (7 + 6 * (mm : Int)) / 4 = 7 + 6 * (mm : Int) := Int.mul_ediv_cancel_left _ (by decide)
    rw [e2]
    by_cases h4 : 256 * bs.getD 2 0 + bs.getD 3 0 + 1 = 7 + 6 * (mm : Int)
    rotate_left
    · rw [if_pos h4]
      exact rDec_size_true A bs c w hA hz hm hc mm h' h2 hmm hk h4
    rw [if_neg (by simpa using h4)]
    by_cases h5 : (bs.length : Int) < 4 * (7 + 6 * (mm : Int))
    · rw [if_pos h5]
      exact rDec_less_true A bs c w hA hz hm hc mm h' h2 hmm hk h4 h5
    · rw [if_neg h5]
      exact rDec_ok_true A bs c w hA hz hm hc mm h' h2 hmm hk h4 (by omega)
  · have e1 : (bs.getD 1 0 == 200) = false := by rw [hk]; rfl
    rw [e1, size_false]
    have e2 : 4 * (2 + 6 * (mm : Int)) / 4 = 2 + 6 * (mm : Int) := Int.mul_ediv_cancel_left _ (by decide)
    rw [e2]
    by_cases h4 : 256 * bs.getD 2 0 + bs.getD 3 0 + 1 = 2 + 6 * (mm : Int)
    rotate_left
    · rw [if_pos h4]
      exact rDec_size_false A bs c w hA hz hm hc mm h' h2 hmm hk h4
    rw [if_neg (by simpa using h4)]
    by_cases h5 : (bs.length : Int) < 4 * (2 + 6 * (mm : Int))
    · rw [if_pos h5]
      exact rDec_less_false A bs c w hA hz hm hc mm h' h2 hmm hk h4 h5
    · rw [if_neg h5]
      exact rDec_ok_false A bs c w hA hz hm hc mm h' h2 hmm hk h4 (by omega)
end
end Go.Proofs.Ythmcbmjjngolmaa

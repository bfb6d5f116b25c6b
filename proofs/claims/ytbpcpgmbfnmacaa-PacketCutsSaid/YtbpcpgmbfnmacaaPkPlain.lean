/- Plain functions for layer 25 (packet): sequence numbers; no program in sight. -/
import Derived.WalkKit
namespace Go.Proofs.Ytbpcpgmbfnmacaa.Pk
open Go.RowKit
set_option linter.unusedVariables false
def newer (a b : Int) : Int := if (a - b) % 65536 = 0 then 0 else if (a - b) % 65536 < 32768 ∨ ((a - b) % 65536 = 32768 ∧ b < a) then 1 else -1
def near (last x m : Int) : Int := if last < -1152921504606846976 ∨ 1152921504606846976 < last then 0 else if m / 2 < (x - last) % m then last + ((x - last) % m - m) else last + (x - last) % m
/-- a track -/
structure Tr where
  on : Bool
  high : Int
  jump : Int
def Tr.zero : Tr := ⟨false, 0, 0⟩
def Tr.row (t : Tr) : List Value := [.bool t.on, .int .i64 t.high, .int .i64 t.jump]
def Tr.ok (t : Tr) : Prop := 0 ≤ t.high ∧ t.high ≤ 281474976710656 ∧ -1 ≤ t.jump ∧ t.jump ≤ 65535
instance (t : Tr) : Decidable t.ok := by unfold Tr.ok; infer_instance
/-- how far the next number with this sequence number lies above -/
def gap (high seq : Int) : Int := if (seq - high) % 65536 = 0 then 65536 else (seq - high) % 65536
def follow (t : Tr) (seq : Int) : Tr × Int × Bool :=
  if ¬t.ok then (Tr.zero, 0, false) else
  if t.on = false then (⟨true, seq, -1⟩, seq, true) else
  if 0 ≤ near t.high seq 65536 ∧ near t.high seq 65536 ≤ t.high + 3000 ∧ t.high - 100 ≤ near t.high seq 65536 then (⟨true, max t.high (near t.high seq 65536), -1⟩, near t.high seq 65536, true) else
  if seq = t.jump ∧ t.high < 140737488355328 then (⟨true, t.high + gap t.high seq, -1⟩, t.high + gap t.high seq, true) else
  (⟨true, t.high, (seq + 1) % 65536⟩, 0, false)
theorem gap_bd (h s : Int) : 1 ≤ gap h s ∧ gap h s ≤ 65536 := by unfold gap; split <;> omega
theorem gap_mod (h s : Int) (s0 : 0 ≤ s) (s1 : s ≤ 65535) : (h + gap h s) % 65536 = s := by unfold gap; split <;> omega
theorem gap_least (h s d : Int) (s0 : 0 ≤ s) (s1 : s ≤ 65535) (d0 : 1 ≤ d) (hd : d < gap h s) : (h + d) % 65536 ≠ s := by
  unfold gap at hd
  split at hd <;> omega
theorem near_bd16 (last x : Int) (h : ¬(last < -1152921504606846976 ∨ 1152921504606846976 < last)) : -32767 ≤ near last x 65536 - last ∧ near last x 65536 - last ≤ 32768 ∧ (near last x 65536 - x) % 65536 = 0 := by
  unfold near
  rw [if_neg h]
  split <;> omega
theorem near_bd32 (last x : Int) (h : ¬(last < -1152921504606846976 ∨ 1152921504606846976 < last)) : -2147483647 ≤ near last x 4294967296 - last ∧ near last x 4294967296 - last ≤ 2147483648 ∧ (near last x 4294967296 - x) % 4294967296 = 0 := by
  unfold near
  rw [if_neg h]
  split <;> omega
theorem newer_anti (a b : Int) (a0 : 0 ≤ a) (a1 : a ≤ 65535) (b0 : 0 ≤ b) (b1 : b ≤ 65535) : newer b a = -newer a b := by
  unfold newer
  split <;> split <;> (try split) <;> (try split) <;> omega
theorem newer_zero (a b : Int) (a0 : 0 ≤ a) (a1 : a ≤ 65535) (b0 : 0 ≤ b) (b1 : b ≤ 65535) : newer a b = 0 ↔ a = b := by
  unfold newer
  split
  · constructor <;> omega
  · split <;> omega
end Go.Proofs.Ytbpcpgmbfnmacaa.Pk

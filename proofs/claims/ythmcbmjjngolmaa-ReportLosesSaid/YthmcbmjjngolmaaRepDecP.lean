/- Layer 26: what decoding gives, in plain words; numbers and bytes. -/
import Derived.Test.YthmcbmjjngolmaaRepEncP
namespace Go.Proofs.Ythmcbmjjngolmaa
open Go.RowKit
set_option linter.unusedVariables false
/-- the number that bytes are -/
def val (l : List Int) : Int := l.foldl (fun n b => 256 * n + b) 0
theorem val_snoc (l : List Int) (b : Int) : val (l ++ [b]) = 256 * val l + b := by
  unfold val
  rw [List.foldl_append]; rfl
theorem val_bd : ∀ (n : Nat) (l : List Int), l.length = n → Within 0 255 l → 0 ≤ val l ∧ val l < 256 ^ n
  | 0, l, h, _ => by
    obtain rfl := List.eq_nil_of_length_eq_zero h
    decide
  | n + 1, l, h, hb => by
    obtain ⟨a, b, rfl⟩ : ∃ a b, l = a ++ [b] := ⟨l.dropLast, l.getLast (by intro e; rw [e] at h; simp at h), (List.dropLast_concat_getLast _).symm⟩
    have ha : a.length = n := by simpa using h
    have h1 := val_bd n a ha (fun z hz => hb z (List.mem_append_left _ hz))
    have h2 := hb b (List.mem_append_right _ (List.mem_singleton.2 rfl))
    rw [val_snoc, Int.pow_succ]
    omega
theorem val_be : ∀ (n : Nat) (x : Int), val (be n x) = x % 256 ^ n
  | 0, x => by simp [be, val]
  | n + 1, x => by
    unfold be
    rw [val_snoc, val_be n, Int.pow_succ]
    have hp : (0 : Int) < 256 ^ n := Int.pow_pos (by omega)
    have h1 := Int.emod_add_mul_ediv (x / 256) (256 ^ n)
    have h2 := Int.emod_nonneg (x / 256) (b := 256 ^ n) (by omega)
    have h3 := Int.emod_lt_of_pos (x / 256) hp
    have hx : x = (256 * (x / 256 % 256 ^ n) + x % 256) + 256 ^ n * 256 * (x / 256 / 256 ^ n) := by
      have e : 256 ^ n * 256 * (x / 256 / 256 ^ n) = 256 * (256 ^ n * (x / 256 / 256 ^ n)) := by
        rw [Int.mul_comm (256 ^ n) 256, Int.mul_assoc]
      rw [e]
      omega
    generalize x / 256 % 256 ^ n = q at *
    generalize x / 256 / 256 ^ n = m at *
    have hr : 0 ≤ x % 256 ∧ x % 256 < 256 := by omega
    generalize x % 256 = r at *
    rw [hx, Int.add_mul_emod_self_left, Int.emod_eq_of_lt (by omega) (by omega)]
/-- the k bytes from i on, as a number -/
def fld (bs : List Int) (i k : Nat) : Int := val ((bs.drop i).take k)
namespace Rep
def Rpt.zero : Rpt := ⟨false, 0, 0, 0, 0, 0, []⟩
def blockAt (bs : List Int) (at_ : Nat) : Bk := ⟨fld bs at_ 4, fld bs (at_ + 4) 1, if 8388608 ≤ fld bs (at_ + 5) 3 then fld bs (at_ + 5) 3 - 16777216 else fld bs (at_ + 5) 3, fld bs (at_ + 8) 4, fld bs (at_ + 12) 4, fld bs (at_ + 16) 4, fld bs (at_ + 20) 4⟩
/-- where the blocks begin -/
def frontLen (sender : Bool) : Nat := if sender then 28 else 8
def Rpt.of (bs : List Int) (sender : Bool) (many : Nat) : Rpt :=
  ⟨sender, fld bs 4 4, if sender then fld bs 8 8 else 0, if sender then fld bs 16 4 else 0, if sender then fld bs 20 4 else 0, if sender then fld bs 24 4 else 0, (List.range many).map fun i => blockAt bs (frontLen sender + 24 * i)⟩
/-- the report, its number of bytes or the place of an error, the error -/
def dec (bs : List Int) : Rpt × Int × Int :=
  if bs.length < 4 then (Rpt.zero, bs.length, 6) else
  if bs.getD 0 0 / 32 ≠ 4 then (Rpt.zero, 0, 15) else
  if bs.getD 1 0 ≠ 200 ∧ bs.getD 1 0 ≠ 201 then (Rpt.zero, 1, 15) else
  if 256 * bs.getD 2 0 + bs.getD 3 0 + 1 ≠ sizeR (bs.getD 1 0 == 200) (bs.getD 0 0 % 32).toNat / 4 then (Rpt.zero, 2, 5) else
  if (bs.length : Int) < sizeR (bs.getD 1 0 == 200) (bs.getD 0 0 % 32).toNat then (Rpt.zero, bs.length, 6) else
  (Rpt.of bs (bs.getD 1 0 == 200) (bs.getD 0 0 % 32).toNat, sizeR (bs.getD 1 0 == 200) (bs.getD 0 0 % 32).toNat, 0)
end Rep
end Go.Proofs.Ythmcbmjjngolmaa

/- Plain functions for layer 28's blocks: what Pack and Unpack return; no program in sight. -/
import Derived.Test.YtcnijhcoifodpaaDelPlain
namespace Go.Proofs.Ytcnijhcoifodpaa.Dlt
open Go.RowKit

/-- the state behind a sample -/
def stepS (s : Int × Int) (x : Int) : Int × Int := (nextV s.1 s.2 (code s.1 s.2 x), nextI s.2 (code s.1 s.2 x))
/-- the state behind the first k samples -/
def stAt (s : Int × Int) (zs : List Int) (k : Nat) : Int × Int := (zs.take k).foldl stepS s
/-- the code of sample k -/
def codeAt (s : Int × Int) (zs : List Int) (k : Nat) : Int := code (stAt s zs k).1 (stAt s zs k).2 (zs.getD k 0)
theorem stAt_zero (s : Int × Int) (zs : List Int) : stAt s zs 0 = s := rfl
theorem stAt_succ (s : Int × Int) (zs : List Int) (k : Nat) (h : k < zs.length) :
    stAt s zs (k + 1) = (nextV (stAt s zs k).1 (stAt s zs k).2 (codeAt s zs k), nextI (stAt s zs k).2 (codeAt s zs k)) := by
  unfold stAt
  rw [List.take_succ_eq_append_getElem h, List.foldl_append]
  unfold codeAt stAt
  rw [List.getD_eq_getElem?_getD, List.getElem?_eq_getElem h]
  rfl
theorem valid_next (v i c : Int) : valid (nextV v i c) (nextI i c) = true := by
  have h1 := nextV_bd v i c
  have h2 := nextI_bd i c
  simp [valid, h1, h2]
theorem stAt_valid (s : Int × Int) (hs : valid s.1 s.2 = true) (zs : List Int) : ∀ k, valid (stAt s zs k).1 (stAt s zs k).2 = true
  | 0 => hs
  | k + 1 => by
    by_cases h : k < zs.length
    · rw [stAt_succ s zs k h]; exact valid_next _ _ _
    · have e : stAt s zs (k + 1) = stAt s zs k := by unfold stAt; rw [List.take_of_length_le (by omega), List.take_of_length_le (by omega)]
      rw [e]; exact stAt_valid s hs zs k
theorem codeAt_bd (s : Int × Int) (zs : List Int) (k : Nat) : 0 ≤ codeAt s zs k ∧ codeAt s zs k ≤ 15 := code_bd _ _ _
/-- byte j of the codes, behind k samples -/
def part (s : Int × Int) (zs : List Int) (k j : Nat) : Int := (if 2 * j < k then 16 * codeAt s zs (2 * j) else 0) + (if 2 * j + 1 < k then codeAt s zs (2 * j + 1) else 0)
theorem part_bd (s : Int × Int) (zs : List Int) (k j : Nat) : 0 ≤ part s zs k j ∧ part s zs k j ≤ 255 := by
  have h1 := codeAt_bd s zs (2 * j)
  have h2 := codeAt_bd s zs (2 * j + 1)
  unfold part
  split <;> split <;> omega
/-- one sample more: an even one begins its byte, an odd one ends it -/
theorem part_even (s : Int × Int) (zs : List Int) (k : Nat) (h : k % 2 = 0) : part s zs k (k / 2) = 0 ∧ part s zs (k + 1) (k / 2) = 16 * codeAt s zs k := by
  have e : 2 * (k / 2) = k := by omega
  unfold part
  rw [e]
  constructor
  · rw [if_neg (by omega), if_neg (by omega)]; rfl
  · rw [if_pos (by omega), if_neg (by omega)]; omega
theorem part_odd (s : Int × Int) (zs : List Int) (k : Nat) (h : k % 2 = 1) : part s zs k (k / 2) = 16 * codeAt s zs (k - 1) ∧ part s zs (k + 1) (k / 2) = 16 * codeAt s zs (k - 1) + codeAt s zs k := by
  have e : 2 * (k / 2) = k - 1 := by omega
  have e2 : 2 * (k / 2) + 1 = k := by omega
  unfold part
  rw [e2, e]
  constructor
  · rw [if_pos (by omega), if_neg (by omega)]; omega
  · rw [if_pos (by omega), if_pos (by omega)]
theorem part_other (s : Int × Int) (zs : List Int) (k j : Nat) (h : j ≠ k / 2) : part s zs (k + 1) j = part s zs k j := by
  unfold part
  have a : (2 * j < k + 1) = (2 * j < k) := by simp; omega
  have b : (2 * j + 1 < k + 1) = (2 * j + 1 < k) := by simp; omega
  simp only [a, b]
/-- the bytes behind k samples of n: a head of four bytes, then the codes -/
def packAt (s : Int × Int) (zs : List Int) (k j : Nat) : Int :=
  if j = 0 then s.1 % 65536 / 256 else if j = 1 then s.1 % 256 else if j = 2 then s.2 else if j = 3 then 0 else part s zs k (j - 4)
theorem packAt_set (s : Int × Int) (zs : List Int) (k j : Nat) : packAt s zs (k + 1) j = if j = 4 + k / 2 then part s zs (k + 1) (k / 2) else packAt s zs k j := by
  by_cases h : j = 4 + k / 2
  · rw [if_pos h, h]
    unfold packAt
    rw [if_neg (by omega), if_neg (by omega), if_neg (by omega), if_neg (by omega), show 4 + k / 2 - 4 = k / 2 by omega]
  · rw [if_neg h]
    unfold packAt
    by_cases h4 : j < 4
    · have : j = 0 ∨ j = 1 ∨ j = 2 ∨ j = 3 := by omega
      rcases this with rfl | rfl | rfl | rfl <;> rfl
    · rw [part_other s zs k (j - 4) (by omega)]
theorem packAt_body (s : Int × Int) (zs : List Int) (k j : Nat) : packAt s zs k (4 + j) = part s zs k j := by
  unfold packAt
  rw [if_neg (by omega), if_neg (by omega), if_neg (by omega), if_neg (by omega), show 4 + j - 4 = j by omega]
def packB (s : Int × Int) (zs : List Int) : List Int := (List.range (4 + (zs.length + 1) / 2)).map (packAt s zs zs.length)
theorem packB_len (s : Int × Int) (zs : List Int) : (packB s zs).length = 4 + (zs.length + 1) / 2 := by simp [packB]
theorem packB_at (s : Int × Int) (zs : List Int) (j : Nat) (h : j < 4 + (zs.length + 1) / 2) : (packB s zs).getD j 0 = packAt s zs zs.length j := by
  simp [packB, List.getD_eq_getElem?_getD, List.getElem?_range h]
theorem packAt_bd (s : Int × Int) (hs : valid s.1 s.2 = true) (zs : List Int) (k j : Nat) : 0 ≤ packAt s zs k j ∧ packAt s zs k j ≤ 255 := by
  have h : -32768 ≤ s.1 ∧ s.1 ≤ 32767 ∧ 0 ≤ s.2 ∧ s.2 ≤ 88 := by simpa [valid, and_assoc] using hs
  have := part_bd s zs k (j - 4)
  unfold packAt
  (repeat' split) <;> omega
/-- the code k of a block -/
def nib (bs : List Int) (k : Nat) : Int := if k % 2 = 0 then bs.getD (4 + k / 2) 0 / 16 else bs.getD (4 + k / 2) 0 % 16
/-- the state behind the first k codes of a block -/
def dAt (s : Int × Int) (bs : List Int) : Nat → Int × Int
  | 0 => s
  | k + 1 => (nextV (dAt s bs k).1 (dAt s bs k).2 (nib bs k), nextI (dAt s bs k).2 (nib bs k))
theorem dAt_valid (s : Int × Int) (hs : valid s.1 s.2 = true) (bs : List Int) : ∀ k, valid (dAt s bs k).1 (dAt s bs k).2 = true
  | 0 => hs
  | _ + 1 => valid_next _ _ _
/-- the state of a block's head -/
def headS (bs : List Int) : Int × Int := ((256 * bs.getD 0 0 + bs.getD 1 0 + 32768) % 65536 - 32768, bs.getD 2 0)
def unpackL (bs : List Int) (n : Nat) : List Int := (List.range n).map fun k => (dAt (headS bs) bs (k + 1)).1
end Go.Proofs.Ytcnijhcoifodpaa.Dlt

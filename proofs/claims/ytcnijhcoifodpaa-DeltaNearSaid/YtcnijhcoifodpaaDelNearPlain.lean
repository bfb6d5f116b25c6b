/- Plain laws of layer 28: the state behind a code lies on the side of the sample, and near it; a block that is unpacked gives the states; no program in sight. -/
import Derived.Test.YtcnijhcoifodpaaDelPackPlain
namespace Go.Proofs.Ytcnijhcoifodpaa.Dlt
open Go.RowKit
set_option linter.unusedVariables false
theorem near (v i x : Int) (hv : valid v i = true) (x0 : -32768 ≤ x) (x1 : x ≤ 32767) :
    (0 ≤ x - v → v ≤ nextV v i (code v i x)) ∧ (x - v < 0 → nextV v i (code v i x) ≤ v) ∧
      (((x - v).natAbs : Int) < 2 * st i.toNat → ((nextV v i (code v i x) - x).natAbs : Int) ≤ st i.toNat / 8 + 1) := by
  have hb : -32768 ≤ v ∧ v ≤ 32767 ∧ 0 ≤ i ∧ i ≤ 88 := by simpa [valid, and_assoc] using hv
  obtain ⟨v0, v1, _, _⟩ := hb
  obtain ⟨s0, s1⟩ := st_bd i.toNat
  unfold nextV code clamp
  generalize st i.toNat = s at *
  have hq0 : 0 ≤ 4 * ((x - v).natAbs : Int) / s := Int.ediv_nonneg (by omega) (by omega)
  have hq1 : s * (4 * ((x - v).natAbs : Int) / s) ≤ 4 * ((x - v).natAbs : Int) := Int.mul_ediv_self_le (by omega)
  have hq2 : 4 * ((x - v).natAbs : Int) < s * (4 * ((x - v).natAbs : Int) / s) + s := Int.lt_mul_ediv_self_add (by omega)
  generalize 4 * ((x - v).natAbs : Int) / s = q at *
  have hm : ∃ m, m = min q 7 := ⟨_, rfl⟩
  obtain ⟨m, hm⟩ := hm
  rw [← hm]
  have hprod : (m = q ∧ q ≤ 7) ∨ (m = 7 ∧ s * 8 ≤ s * q) := by
    by_cases h : q ≤ 7
    · left; omega
    · right; exact ⟨by omega, Int.mul_le_mul_of_nonneg_left (by omega) (by omega)⟩
  by_cases hd : x - v < 0
  · rw [if_pos hd, if_pos (show (8 : Int) ≤ 8 + m by omega), show (8 + m) % 8 = m by omega]
    rcases hprod with ⟨rfl, h7⟩ | ⟨rfl, h8⟩
    · have h : m = 0 ∨ m = 1 ∨ m = 2 ∨ m = 3 ∨ m = 4 ∨ m = 5 ∨ m = 6 ∨ m = 7 := by omega
      clear hm
      rcases h with rfl | rfl | rfl | rfl | rfl | rfl | rfl | rfl <;> (refine ⟨fun h => absurd h (by omega), fun _ => ?_, fun h2 => ?_⟩ <;> omega)
    · exact ⟨fun h => absurd h (by omega), fun _ => by omega, fun h2 => absurd h2 (by omega)⟩
  · rw [if_neg hd, if_neg (show ¬(8 : Int) ≤ 0 + m by omega), show (0 + m) % 8 = m by omega]
    rcases hprod with ⟨rfl, h7⟩ | ⟨rfl, h8⟩
    · have h : m = 0 ∨ m = 1 ∨ m = 2 ∨ m = 3 ∨ m = 4 ∨ m = 5 ∨ m = 6 ∨ m = 7 := by omega
      clear hm
      rcases h with rfl | rfl | rfl | rfl | rfl | rfl | rfl | rfl <;> (refine ⟨fun _ => ?_, fun h => absurd h (by omega), fun h2 => ?_⟩ <;> omega)
    · exact ⟨fun _ => by omega, fun h => absurd h (by omega), fun h2 => absurd h2 (by omega)⟩
/-- the samples of a list, as they are decoded -/
def samp (s : Int × Int) (zs : List Int) : List Int := (List.range zs.length).map fun k => (stAt s zs (k + 1)).1
theorem nib_pack (s : Int × Int) (zs : List Int) (k : Nat) (h : k < zs.length) : nib (packB s zs) k = codeAt s zs k := by
  unfold nib
  rw [packB_at s zs (4 + k / 2) (by omega), packAt_body]
  have h1 := codeAt_bd s zs k
  by_cases hk : k % 2 = 0
  · rw [if_pos hk]
    have e : 2 * (k / 2) = k := by omega
    have h2 := codeAt_bd s zs (k + 1)
    unfold part
    rw [e, if_pos h]
    split <;> omega
  · rw [if_neg hk]
    have e : 2 * (k / 2) = k - 1 := by omega
    have e2 : 2 * (k / 2) + 1 = k := by omega
    unfold part
    rw [e2, e, if_pos (by omega), if_pos h]
    omega
theorem head_pack (s : Int × Int) (hs : valid s.1 s.2 = true) (zs : List Int) : headS (packB s zs) = s := by
  have h : -32768 ≤ s.1 ∧ s.1 ≤ 32767 ∧ 0 ≤ s.2 ∧ s.2 ≤ 88 := by simpa [valid, and_assoc] using hs
  unfold headS
  rw [packB_at s zs 0 (by omega), packB_at s zs 1 (by omega), packB_at s zs 2 (by omega)]
  have e0 : packAt s zs zs.length 0 = s.1 % 65536 / 256 := rfl
  have e1 : packAt s zs zs.length 1 = s.1 % 256 := rfl
  have e2 : packAt s zs zs.length 2 = s.2 := rfl
  rw [e0, e1, e2]
  obtain ⟨a, b⟩ := s
  simp only at *
  congr 1
  omega
theorem dAt_pack (s : Int × Int) (zs : List Int) : ∀ k, k ≤ zs.length → dAt s (packB s zs) k = stAt s zs k
  | 0, _ => rfl
  | k + 1, h => by
    have ih := dAt_pack s zs k (by omega)
    show (nextV (dAt s (packB s zs) k).1 (dAt s (packB s zs) k).2 (nib (packB s zs) k), nextI (dAt s (packB s zs) k).2 (nib (packB s zs) k)) = _
    rw [ih, nib_pack s zs k (by omega), stAt_succ s zs k (by omega)]
theorem unpackL_pack (s : Int × Int) (hs : valid s.1 s.2 = true) (zs : List Int) : unpackL (packB s zs) zs.length = samp s zs := by
  unfold unpackL samp
  rw [head_pack s hs]
  refine List.map_congr_left fun k hk => ?_
  rw [dAt_pack s zs (k + 1) (List.mem_range.1 hk)]
theorem pack_tail (s : Int × Int) (zs : List Int) (h : zs.length % 2 = 1) : (packB s zs).getD ((packB s zs).length - 1) 0 % 16 = 0 := by
  have hl := packB_len s zs
  rw [hl, packB_at s zs _ (by omega), show 4 + (zs.length + 1) / 2 - 1 = 4 + (zs.length - 1) / 2 by omega, packAt_body]
  unfold part
  rw [if_pos (by omega), if_neg (by omega)]
  omega
theorem packB_within (s : Int × Int) (hs : valid s.1 s.2 = true) (zs : List Int) : ∀ z ∈ packB s zs, 0 ≤ z ∧ z ≤ 255 := by
  intro z hz
  obtain ⟨j, _, rfl⟩ := List.mem_map.1 hz
  exact packAt_bd s hs zs _ _
theorem stAt_take (s : Int × Int) (zs : List Int) (n k : Nat) (h : k ≤ n) : stAt s (zs.take n) k = stAt s zs k := by
  unfold stAt
  rw [List.take_take, Nat.min_eq_left h]
theorem stAt_drop (s : Int × Int) (zs : List Int) (n k : Nat) (hn : n ≤ zs.length) : stAt (stAt s zs n) (zs.drop n) k = stAt s zs (n + k) := by
  unfold stAt
  rw [← List.foldl_append, List.take_add]
theorem samp_split (s : Int × Int) (zs : List Int) (n : Nat) (hn : n ≤ zs.length) : samp s (zs.take n) ++ samp (stAt s zs n) (zs.drop n) = samp s zs := by
  refine List.ext_getElem? fun i => ?_
  unfold samp
  have hl : (zs.take n).length = n := by simp; omega
  by_cases hi : i < n
  · rw [List.getElem?_append_left (by simp; omega)]
    rw [List.getElem?_map, List.getElem?_map, List.getElem?_range (by omega), List.getElem?_range (by omega)]
    simp only [Option.map_some]
    rw [stAt_take s zs n _ (by omega)]
  · rw [List.getElem?_append_right (by simp; omega)]
    simp only [List.length_map, List.length_range, hl]
    by_cases h2 : i < zs.length
    · rw [List.getElem?_map, List.getElem?_map, List.getElem?_range (by simp; omega), List.getElem?_range (by omega)]
      simp only [Option.map_some]
      rw [stAt_drop s zs n _ hn]
      congr 3; omega
    · rw [List.getElem?_eq_none (by simp; omega), List.getElem?_eq_none (by simp; omega)]
end Go.Proofs.Ytcnijhcoifodpaa.Dlt

/- Layer 26: what the arrivals of some numbers leave, in whatever order; no program in sight. -/
import Derived.Test.YthmcbmjjngolmaaRepPlain
namespace Go.Proofs.Ythmcbmjjngolmaa
open Go.RowKit
set_option linter.unusedVariables false
namespace Rep
/-- the numbers of the packets that have arrived, among the first m -/
def came (first : Int) (bs : List Bool) (m : Nat) : List Int := ((List.range m).filter (fun i => bs.getD i false || i == 0 || i == bs.length - 1)).map (fun i : Nat => first + (i : Int))
theorem came_step (first : Int) (bs : List Bool) (m : Nat) : came first bs (m + 1) = if (bs.getD m false || m == 0 || m == bs.length - 1) = true then came first bs m ++ [first + (m : Int)] else came first bs m := by
  unfold came
  rw [List.range_succ, List.filter_append, List.map_append]
  by_cases h : (bs.getD m false || m == 0 || m == bs.length - 1) = true
  · rw [if_pos h, List.filter_cons_of_pos (by exact h), List.filter_nil]; rfl
  · rw [if_neg h, List.filter_cons_of_neg (by exact h), List.filter_nil, List.map_nil, List.append_nil]
theorem came_len (first : Int) (bs : List Bool) (m : Nat) : (came first bs m).length ≤ m := by
  unfold came
  rw [List.length_map]
  have := List.length_filter_le (fun i => bs.getD i false || i == 0 || i == bs.length - 1) (List.range m)
  rw [List.length_range] at this
  exact this
theorem came_mem (first : Int) (bs : List Bool) (m : Nat) (x : Int) (hx : x ∈ came first bs m) : first ≤ x ∧ x < first + (m : Int) := by
  unfold came at hx
  obtain ⟨i, hi, rfl⟩ := List.mem_map.1 hx
  have := List.mem_range.1 (List.mem_filter.1 hi).1
  omega
theorem came_first (first : Int) (bs : List Bool) (h : 0 < bs.length) : first ∈ came first bs bs.length := by
  unfold came
  refine List.mem_map.2 ⟨0, List.mem_filter.2 ⟨List.mem_range.2 h, by simp⟩, by simp⟩
theorem came_last (first : Int) (bs : List Bool) (h : 0 < bs.length) : first + (bs.length : Int) - 1 ∈ came first bs bs.length := by
  unfold came
  refine List.mem_map.2 ⟨bs.length - 1, List.mem_filter.2 ⟨List.mem_range.2 (by omega), by simp⟩, by omega⟩
/-- the statistics behind k arrivals of xs, turned by t -/
def lost (xs : List Int) (t : Nat) : Nat → St
  | 0 => St.zero
  | k + 1 => arrive (lost xs t k) (xs.getD ((k + t) % xs.length) 0) (8 * xs.getD ((k + t) % xs.length) 0 + 5) (8 * xs.getD ((k + t) % xs.length) 0)
theorem arrive_zero (x : Int) (h0 : 0 ≤ x) (h1 : x ≤ 5000000000) : arrive St.zero x (8 * x + 5) (8 * x) = ⟨true, x, x, 1, 0, 0, 5, 0⟩ := by
  have e : (okS St.zero && small x && small (8 * x + 5) && small (8 * x)) = true := by
    simp only [Bool.and_eq_true]
    refine ⟨⟨⟨by decide, ?_⟩, ?_⟩, ?_⟩ <;> (unfold small; rw [inB_iff]; omega)
  unfold arrive
  rw [e, if_neg (by decide), if_pos (by rfl)]
  have : 8 * x + 5 - 8 * x = 5 := by omega
  rw [this]
theorem arrive_on (b h g x : Int) (hb0 : 0 ≤ b) (hbh : b ≤ h) (hh : h ≤ 5000000000) (g0 : 0 ≤ g) (g1 : g ≤ 1000) (h0 : 0 ≤ x) (h1 : x ≤ 5000000000) : arrive ⟨true, b, h, g, 0, 0, 5, 0⟩ x (8 * x + 5) (8 * x) = ⟨true, min b x, max h x, g + 1, 0, 0, 5, 0⟩ := by
  have e : (okS ⟨true, b, h, g, 0, 0, 5, 0⟩ && small x && small (8 * x + 5) && small (8 * x)) = true := by
    simp only [Bool.and_eq_true]
    refine ⟨⟨⟨?_, ?_⟩, ?_⟩, ?_⟩
    · rw [okS_iff]; simp only; omega
    all_goals (unfold small; rw [inB_iff]; omega)
  unfold arrive
  rw [e, if_neg (by decide), if_neg (by simp)]
  have : 8 * x + 5 - 8 * x = 5 := by omega
  simp only [this]
  have : absI (5 - 5) = 0 := rfl
  rw [this]
  rfl
/-- behind k arrivals: the least and the greatest of them -/
theorem lost_inv (xs : List Int) (t : Nat) (hx : ∀ x ∈ xs, 0 ≤ x ∧ x ≤ 5000000000) (h0 : 0 < xs.length) : ∀ k : Nat, k + 1 ≤ 1000 → ∃ b h, lost xs t (k + 1) = ⟨true, b, h, (k : Int) + 1, 0, 0, 5, 0⟩ ∧ b ∈ xs ∧ h ∈ xs ∧ ∀ i, i ≤ k → b ≤ xs.getD ((i + t) % xs.length) 0 ∧ xs.getD ((i + t) % xs.length) 0 ≤ h
  | 0, _ => by
    have hm : xs.getD ((0 + t) % xs.length) 0 ∈ xs := by
      have hlt := Nat.mod_lt (0 + t) h0
      rw [List.getD_eq_getElem?_getD, List.getElem?_eq_getElem hlt]
      exact List.getElem_mem hlt
    refine ⟨xs.getD ((0 + t) % xs.length) 0, xs.getD ((0 + t) % xs.length) 0, ?_, hm, hm, fun i hi => ?_⟩
    · unfold lost
      show arrive St.zero _ _ _ = _
      rw [arrive_zero _ (hx _ hm).1 (hx _ hm).2]
      rfl
    · obtain rfl : i = 0 := by omega
      exact ⟨Int.le_refl _, Int.le_refl _⟩
  | k + 1, hk => by
    obtain ⟨b, h, e, hb, hh, hbd⟩ := lost_inv xs t hx h0 k (by omega)
    have hm : xs.getD ((k + 1 + t) % xs.length) 0 ∈ xs := by
      have hlt := Nat.mod_lt (k + 1 + t) h0
      rw [List.getD_eq_getElem?_getD, List.getElem?_eq_getElem hlt]
      exact List.getElem_mem hlt
    have hbh : b ≤ h := Int.le_trans (hbd 0 (by omega)).1 (hbd 0 (by omega)).2
    have hstep : lost xs t (k + 1 + 1) = arrive (lost xs t (k + 1)) (xs.getD ((k + 1 + t) % xs.length) 0) (8 * xs.getD ((k + 1 + t) % xs.length) 0 + 5) (8 * xs.getD ((k + 1 + t) % xs.length) 0) := rfl
    obtain ⟨x, hx0⟩ : ∃ x, x = xs.getD ((k + 1 + t) % xs.length) 0 := ⟨_, rfl⟩
    rw [← hx0] at hm hstep
    have hb' := hx b hb
    have hh' := hx h hh
    have hx' := hx x hm
    refine ⟨min b x, max h x, ?_, ?_, ?_, fun i hi => ?_⟩
    · rw [hstep, e, arrive_on b h _ x hb'.1 hbh hh'.2 (by omega) (by omega) hx'.1 hx'.2]
      congr 1
    · rcases Int.le_total b x with h1 | h1
      · rw [Int.min_eq_left h1]; exact hb
      · rw [Int.min_eq_right h1]; exact hm
    · rcases Int.le_total h x with h1 | h1
      · rw [Int.max_eq_right h1]; exact hm
      · rw [Int.max_eq_left h1]; exact hh
    · by_cases hik : i ≤ k
      · have := hbd i hik
        omega
      · obtain rfl : i = k + 1 := by omega
        rw [← hx0]
        omega
theorem lost_end (first : Int) (bs : List Bool) (t : Nat) (f0 : 0 ≤ first) (f1 : first ≤ 4294967295) (h2 : 2 ≤ bs.length) (h100 : bs.length ≤ 100) : 0 < (came first bs bs.length).length ∧ lost (came first bs bs.length) t (came first bs bs.length).length = ⟨true, first, first + (bs.length : Int) - 1, ((came first bs bs.length).length : Int), 0, 0, 5, 0⟩ := by
  have hf := came_first first bs (by omega)
  have hl := came_last first bs (by omega)
  have hmem := fun x hx => came_mem first bs bs.length x hx
  have hlen := came_len first bs bs.length
  generalize came first bs bs.length = xs at *
  have h0 : 0 < xs.length := by
    cases xs with
    | nil => cases hf
    | cons a l => simp
  refine ⟨h0, ?_⟩
  obtain ⟨k, hk⟩ : ∃ k, xs.length = k + 1 := ⟨xs.length - 1, by omega⟩
  obtain ⟨b, h, e, hb, hh, hbd⟩ := lost_inv xs t (fun x hx => by have := hmem x hx; omega) h0 k (by omega)
  have all : ∀ x ∈ xs, b ≤ x ∧ x ≤ h := by
    intro x hx
    obtain ⟨j, hj, rfl⟩ := List.mem_iff_getElem.1 hx
    have ht := Nat.mod_lt t h0
    obtain ⟨i, hi⟩ : ∃ i, i = (j + (xs.length - t % xs.length)) % xs.length := ⟨_, rfl⟩
    have hik : i < xs.length := by rw [hi]; exact Nat.mod_lt _ h0
    have hij : (i + t) % xs.length = j := by
      rw [hi, Nat.mod_add_mod, Nat.add_mod, ← Nat.add_mod_mod]
      have h3 : (j + (xs.length - t % xs.length) + t) % xs.length = j := by
        have hd := Nat.div_add_mod t xs.length
        have : j + (xs.length - t % xs.length) + t = j + xs.length * (1 + t / xs.length) := by
          rw [Nat.mul_add, Nat.mul_one]; omega
        rw [this, Nat.add_mul_mod_self_left, Nat.mod_eq_of_lt hj]
      rw [Nat.add_mod_mod, ← Nat.add_mod]
      exact h3
    have := hbd i (by omega)
    rw [hij, List.getD_eq_getElem?_getD, List.getElem?_eq_getElem hj] at this
    exact this
  have hb1 := (all first hf).1
  have hb2 := (hmem b hb).1
  have hh1 := (all _ hl).2
  have hh2 := (hmem h hh).2
  rw [hk, e]
  have eb : b = first := by omega
  have eh : h = first + (bs.length : Int) - 1 := by omega
  rw [eb, eh]
  rfl
theorem sum_one (first : Int) (n m : Nat) (f0 : 0 ≤ first) (f1 : first ≤ 4294967295) (h2 : 2 ≤ n) (h100 : n ≤ 100) (hm : m ≤ n) : summary ⟨true, first, first + (n : Int) - 1, (m : Int), 0, 0, 5, 0⟩ 1 2 3 = (⟨1, min (256 * ((n : Int) - (m : Int)) / (n : Int)) 255, (n : Int) - (m : Int), (first + (n : Int) - 1) % 4294967296, 0, 2, 3⟩, ⟨true, first, first + (n : Int) - 1, (m : Int), (n : Int), (m : Int), 5, 0⟩) := by
  have e : okS ⟨true, first, first + (n : Int) - 1, (m : Int), 0, 0, 5, 0⟩ = true := by rw [okS_iff]; simp only; omega
  unfold summary
  rw [e, if_neg (by decide), if_neg (by simp)]
  have e1 : first + (n : Int) - 1 - first + 1 = (n : Int) := by omega
  simp only [e1]
  have e2 : frac ((n : Int) - 0) ((n : Int) - 0 - ((m : Int) - 0)) = min (256 * ((n : Int) - (m : Int)) / (n : Int)) 255 := by
    unfold frac
    rw [Int.sub_zero, Int.sub_zero]
    by_cases h : m = n
    · subst h
      rw [if_neg (by omega), Int.sub_self, Int.mul_zero, Int.zero_ediv]; rfl
    · rw [if_pos (by omega)]
  rw [e2]
  have e3 : min (max ((n : Int) - (m : Int)) (-8388608)) 8388607 = (n : Int) - (m : Int) := by omega
  rw [e3]
  rfl
theorem sum_two (first : Int) (n m : Nat) (f0 : 0 ≤ first) (f1 : first ≤ 4294967295) (h2 : 2 ≤ n) (h100 : n ≤ 100) (hm : m ≤ n) : summary ⟨true, first, first + (n : Int) - 1, (m : Int), (n : Int), (m : Int), 5, 0⟩ 1 2 3 = (⟨1, 0, (n : Int) - (m : Int), (first + (n : Int) - 1) % 4294967296, 0, 2, 3⟩, ⟨true, first, first + (n : Int) - 1, (m : Int), (n : Int), (m : Int), 5, 0⟩) := by
  have e : okS ⟨true, first, first + (n : Int) - 1, (m : Int), (n : Int), (m : Int), 5, 0⟩ = true := by rw [okS_iff]; simp only; omega
  unfold summary
  rw [e, if_neg (by decide), if_neg (by simp)]
  have e1 : first + (n : Int) - 1 - first + 1 = (n : Int) := by omega
  simp only [e1]
  have e2 : frac ((n : Int) - (n : Int)) ((n : Int) - (n : Int) - ((m : Int) - (m : Int))) = 0 := by
    unfold frac
    rw [if_neg (by omega)]
  rw [e2]
  have e3 : min (max ((n : Int) - (m : Int)) (-8388608)) 8388607 = (n : Int) - (m : Int) := by omega
  rw [e3]
  rfl
end Rep
end Go.Proofs.Ythmcbmjjngolmaa

/- Plain functions for layer 28 (delta): the steps, the state after a code, the code of a sample; no program in sight. -/
import Derived.WalkKit
namespace Go.Proofs.Ytcnijhcoifodpaa.Dlt
open Go.RowKit

/-- the step with index i -/
def st : Nat → Int
  | 0 => 7
  | i + 1 => min (st i + (st i + 5) / 10) 32767
theorem st_bd : ∀ i, 7 ≤ st i ∧ st i ≤ 32767
  | 0 => by decide
  | i + 1 => by
    have h := st_bd i
    unfold st
    omega
/-- the steps, as the array holds them -/
def szL : List Value := (List.range 89).map fun i => .int .i64 (st i)
def szA : Array Value := szL.toArray
def zeroA : Array Value := Array.replicate 89 (.int .i64 0)
theorem szL_len : szL.length = 89 := by simp [szL]
theorem szL_at (i : Nat) (h : i < 89) : szL[i]? = some (.int .i64 (st i)) := by simp [szL, h]
theorem szL_one : ∀ v ∈ szL, v.oneCell' = true := by
  intro v hv
  obtain ⟨i, _, rfl⟩ := List.mem_map.1 hv
  rfl
/-- the state after the code m: value and index -/
def clamp (lo hi x : Int) : Int := min (max x lo) hi
def nextV (v i c : Int) : Int := clamp (-32768) 32767 (if 8 ≤ c then v - (2 * (c % 8) + 1) * st i.toNat / 8 else v + (2 * (c % 8) + 1) * st i.toNat / 8)
def nextI (i c : Int) : Int := clamp 0 88 (if c % 8 < 4 then i - 1 else i + 2 * (c % 8 - 3))
/-- the code of the sample x -/
def code (v i x : Int) : Int := (if x - v < 0 then 8 else 0) + min (4 * ((x - v).natAbs : Int) / st i.toNat) 7
theorem nextV_bd (v i c : Int) : -32768 ≤ nextV v i c ∧ nextV v i c ≤ 32767 := by unfold nextV clamp; omega
theorem nextI_bd (i c : Int) : 0 ≤ nextI i c ∧ nextI i c ≤ 88 := by unfold nextI clamp; omega
theorem code_bd (v i x : Int) : 0 ≤ code v i x ∧ code v i x ≤ 15 := by
  have h := st_bd i.toNat
  unfold code
  have h0 : 0 ≤ 4 * ((x - v).natAbs : Int) / st i.toNat := Int.ediv_nonneg (by omega) (by omega)
  split <;> omega
def valid (v i : Int) : Bool := decide (-32768 ≤ v) && decide (v ≤ 32767) && decide (0 ≤ i) && decide (i ≤ 88)
end Go.Proofs.Ytcnijhcoifodpaa.Dlt

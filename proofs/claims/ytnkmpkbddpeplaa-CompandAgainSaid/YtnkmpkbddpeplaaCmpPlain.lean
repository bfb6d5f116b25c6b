/- Plain functions for layer 27 (compand): the codes of the two companding laws on integers, and what the statements ask of them; no program in sight. -/
import Derived.WalkKit
namespace Go.Proofs.Ytnkmpkbddpeplaa.Cmp
open Go.RowKit

/-- every number from b on, 2^k of them, has p -/
def all2 : Nat → Nat → (Nat → Bool) → Bool
  | 0, b, p => p b
  | k + 1, b, p => all2 k b p && all2 k (b + 2 ^ k) p
theorem all2_of {p : Nat → Bool} : ∀ {k b : Nat}, all2 k b p = true → ∀ n, b ≤ n → n < b + 2 ^ k → p n = true
  | 0, b, h, n, h1, h2 => by
    obtain rfl : n = b := by simp at h2; omega
    exact h
  | k + 1, b, h, n, h1, h2 => by
    simp only [all2, Bool.and_eq_true] at h
    by_cases hn : n < b + 2 ^ k
    · exact all2_of h.1 n h1 hn
    · exact all2_of h.2 n (by omega) (by rw [Nat.pow_succ] at h2; omega)

/-- what a run through all bytes shows -/
theorem byte_all {p : Nat → Prop} [DecidablePred p] (H : all2 8 0 (fun b => decide (p b)) = true) : ∀ b, b < 256 → p b :=
  fun b h => of_decide_eq_true (all2_of H b (by omega) (by omega))

/-- the e of m: the least one for which m is less than 2^(e+8), or 7 -/
def expo (m : Nat) : Nat :=
  if m < 256 then 0 else if m < 512 then 1 else if m < 1024 then 2 else if m < 2048 then 3 else if m < 4096 then 4 else if m < 8192 then 5 else if m < 16384 then 6 else 7
theorem expo_le (m : Nat) : expo m ≤ 7 := by unfold expo; (repeat' split) <;> omega

/-- the code of a magnitude (132 is added) by law 1, from the highest code of its sign on -/
def muRaw (top m : Nat) : Nat := top - 16 * expo m - m / 2 ^ (expo m + 3) % 16
def magMu (x : Int) : Nat := min x.natAbs 32635 + 132
theorem magMu_bd (x : Int) : 132 ≤ magMu x ∧ magMu x ≤ 32767 := by unfold magMu; omega
/-- the code of a sample by law 1 -/
def mu (x : Int) : Nat := muRaw (if x < 0 then 127 else 255) (magMu x)
/-- the sample of a code by law 1 -/
def fromMu (b : Nat) : Int :=
  let c := 255 - b
  let v : Int := ((8 * (c % 16) + 132) * 2 ^ (c / 16 % 8) - 132 : Nat)
  if 128 ≤ c then -v else v
/-- the magnitude that law 2 codes -/
def magA (x : Int) : Nat := if x < 0 then (-x - 1).toNat else x.toNat
/-- the code of a sample by law 2, before the flip -/
def aRaw (s m : Nat) : Nat := s + 16 * expo m + m / 2 ^ (if expo m = 0 then 4 else expo m + 3) % 16
def aCode (x : Int) : Nat := aRaw (if x < 0 then 0 else 128) (magA x) ^^^ 85
/-- the sample of a code by law 2, behind the flip -/
def fromAc (c : Nat) : Int :=
  let v : Int := (if c / 16 % 8 = 0 then 16 * (c % 16) + 8 else (16 * (c % 16) + 264) * 2 ^ (c / 16 % 8 - 1) : Nat)
  if c < 128 then -v else v
def fromA (b : Nat) : Int := fromAc (b ^^^ 85)
/-- 2^n at an integer n -/
def pow2 (n : Int) : Int := 2 ^ n.toNat

theorem q16 (m : Int) (k : Nat) (h : 0 ≤ m) : (m / 2 ^ k).tmod 16 = ((m.toNat / 2 ^ k % 16 : Nat) : Int) := by
  obtain ⟨n, rfl⟩ := Int.eq_ofNat_of_zero_le h
  have : ((n : Int) / 2 ^ k) = ((n / 2 ^ k : Nat) : Int) := by simp
  rw [this, Int.toNat_natCast]
  generalize n / 2 ^ k = q
  rw [Int.tmod_eq_emod_of_nonneg (by omega)]
  omega
/-- how the walk of law 1's coder ends -/
theorem mu_close (x : Int) (top : Nat) (m : Int) (k : Nat) (ht : top = if x < 0 then 127 else 255) (hm : m = magMu x) (hk : k = expo m.toNat) :
    wrap64 ((top : Int) - 16 * (k : Int) - (m / 2 ^ (k + 3)).tmod 16) % 256 = (mu x : Nat) := by
  have h7 := expo_le m.toNat
  rw [q16 m (k + 3) (by rw [hm]; omega)]
  unfold mu muRaw
  rw [← ht]
  have e : m.toNat = magMu x := by rw [hm]; rfl
  rw [e] at hk h7 ⊢
  rw [← hk]
  have h16 : magMu x / 2 ^ (k + 3) % 16 < 16 := Nat.mod_lt _ (by omega)
  generalize magMu x / 2 ^ (k + 3) % 16 = q at h16 ⊢
  rw [← hk] at h7
  have ht' : 127 ≤ top ∧ top ≤ 255 := by rw [ht]; split <;> omega
  rw [IntWalk.wrap64_in _ ⟨by omega, by omega⟩]
  omega
theorem mu_lt (x : Int) : mu x < 256 := by
  unfold mu muRaw; split <;> omega
theorem aRaw_lt (x : Int) : aRaw (if x < 0 then 0 else 128) (magA x) < 256 := by
  have := expo_le (magA x)
  unfold aRaw
  have : ∀ a b, a / b % 16 < 16 := fun _ _ => Nat.mod_lt _ (by omega)
  have h16 := this (magA x) (2 ^ (if expo (magA x) = 0 then 4 else expo (magA x) + 3))
  generalize magA x / 2 ^ (if expo (magA x) = 0 then 4 else expo (magA x) + 3) % 16 = q at h16 ⊢
  split <;> omega
theorem aCode_lt (x : Int) : aCode x < 256 := Nat.xor_lt_two_pow (n := 8) (aRaw_lt x) (by omega)
/-- '^' of two bytes -/
theorem xor_u8 : ∀ c : Nat, c < 256 → bits .xor .u8 (c : Int) 85 = ((c ^^^ 85 : Nat) : Int) := by
  have h : all2 8 0 (fun c : Nat => decide (bits .xor .u8 (c : Int) 85 = ((c ^^^ 85 : Nat) : Int))) = true := by decide +kernel
  intro c hc
  exact of_decide_eq_true (all2_of h c (by omega) (by omega))
/-- how the walk of law 2's coder ends -/
theorem a_close (x : Int) (s : Nat) (m : Int) (k t : Nat) (hs : s = if x < 0 then 0 else 128) (hm : m = magA x) (hk : k = expo m.toNat) (ht : t = if k = 0 then 4 else k + 3) :
    wrap64 ((s : Int) + 16 * (k : Int) + (m / 2 ^ t).tmod 16) % 256 = (aRaw (if x < 0 then 0 else 128) (magA x) : Nat) := by
  have h7 := expo_le m.toNat
  rw [q16 m t (by rw [hm]; omega)]
  unfold aRaw
  rw [← hs]
  have e : m.toNat = magA x := by rw [hm]; rfl
  rw [e] at hk h7 ⊢
  rw [← hk, ← ht]
  rw [← hk] at h7
  have h16 : magA x / 2 ^ t % 16 < 16 := Nat.mod_lt _ (by omega)
  generalize magA x / 2 ^ t % 16 = q at h16 ⊢
  have ht' : s ≤ 128 := by rw [hs]; split <;> omega
  rw [IntWalk.wrap64_in _ ⟨by omega, by omega⟩]
  omega
/-- the same where the e is 0: the walk's other spelling -/
theorem a_close0 (x : Int) (s : Nat) (m : Int) (k : Nat) (hs : s = if x < 0 then 0 else 128) (hm : m = magA x) (hk : k = expo m.toNat) (h0 : k = 0) :
    (s : Int) + 16 * (k : Int) + m / 16 % 16 = (aRaw (if x < 0 then 0 else 128) (magA x) : Nat) := by
  unfold aRaw
  rw [← hs]
  have e : m.toNat = magA x := by rw [hm]; rfl
  rw [e] at hk
  rw [← hk, h0, hm]
  simp
theorem fromMu_bd : ∀ b, b < 256 → -32124 ≤ fromMu b ∧ fromMu b ≤ 32124 := byte_all (by decide +kernel)
theorem fromA_bd : ∀ b, b < 256 → -32256 ≤ fromA b ∧ fromA b ≤ 32256 := byte_all (by decide +kernel)
theorem expo_cases (m : Nat) (h : m < 32768) : (expo m = 0 ∧ m < 256) ∨ (expo m = 1 ∧ 256 ≤ m ∧ m < 512) ∨ (expo m = 2 ∧ 512 ≤ m ∧ m < 1024) ∨ (expo m = 3 ∧ 1024 ≤ m ∧ m < 2048) ∨ (expo m = 4 ∧ 2048 ≤ m ∧ m < 4096) ∨
    (expo m = 5 ∧ 4096 ≤ m ∧ m < 8192) ∨ (expo m = 6 ∧ 8192 ≤ m ∧ m < 16384) ∨ (expo m = 7 ∧ 16384 ≤ m ∧ m < 32768) := by
  unfold expo; (repeat' split) <;> omega
theorem fromMu_at (k q : Nat) (hk : k < 8) (hq : q < 16) : fromMu (127 - 16 * k - q) = -(((8 * q + 132) * 2 ^ k - 132 : Nat) : Int) ∧ fromMu (255 - 16 * k - q) = (((8 * q + 132) * 2 ^ k - 132 : Nat) : Int) := by
  have h : ∀ k : Fin 8, ∀ q : Fin 16, fromMu (127 - 16 * k.val - q.val) = -(((8 * q.val + 132) * 2 ^ k.val - 132 : Nat) : Int) ∧ fromMu (255 - 16 * k.val - q.val) = (((8 * q.val + 132) * 2 ^ k.val - 132 : Nat) : Int) := by decide +kernel
  exact h ⟨k, hk⟩ ⟨q, hq⟩
theorem near_mag (m : Nat) (h0 : 132 ≤ m) (h : m < 32768) : (((8 * (m / 2 ^ (expo m + 3) % 16) + 132) * 2 ^ expo m - 132 : Nat) - ((m : Int) - 132)).natAbs ≤ 4 * 2 ^ expo m := by
  rcases expo_cases m h with ⟨he, h⟩ | ⟨he, h⟩ | ⟨he, h⟩ | ⟨he, h⟩ | ⟨he, h⟩ | ⟨he, h⟩ | ⟨he, h⟩ | ⟨he, h⟩ <;> rw [he] <;> simp only [Nat.reduceAdd, Nat.reducePow, Nat.reduceMul] <;> omega
theorem near_mu (x : Int) (hs : x.natAbs ≤ 32635) : (fromMu (mu x) - x).natAbs ≤ 4 * 2 ^ expo (magMu x) := by
  have hm : magMu x = x.natAbs + 132 := by unfold magMu; omega
  have hn := near_mag (magMu x) (by omega) (by omega)
  have h7 := expo_le (magMu x)
  have hq : magMu x / 2 ^ (expo (magMu x) + 3) % 16 < 16 := Nat.mod_lt _ (by omega)
  obtain ⟨f1, f2⟩ := fromMu_at (expo (magMu x)) _ (by omega) hq
  unfold mu muRaw
  split
  · rw [f1]; omega
  · rw [f2]; omega
theorem fromA_at (k q : Nat) (hk : k < 8) (hq : q < 16) :
    fromAc (16 * k + q) = -((if k = 0 then 16 * q + 8 else (16 * q + 264) * 2 ^ (k - 1) : Nat) : Int) ∧ fromAc (128 + 16 * k + q) = ((if k = 0 then 16 * q + 8 else (16 * q + 264) * 2 ^ (k - 1) : Nat) : Int) := by
  have h : ∀ k : Fin 8, ∀ q : Fin 16, fromAc (16 * k.val + q.val) = -((if k.val = 0 then 16 * q.val + 8 else (16 * q.val + 264) * 2 ^ (k.val - 1) : Nat) : Int) ∧ fromAc (128 + 16 * k.val + q.val) = ((if k.val = 0 then 16 * q.val + 8 else (16 * q.val + 264) * 2 ^ (k.val - 1) : Nat) : Int) := by decide +kernel
  exact h ⟨k, hk⟩ ⟨q, hq⟩
/-- the decoded magnitude of law 2 -/
def backA (m : Nat) : Nat := if expo m = 0 then 16 * (m / 2 ^ (if expo m = 0 then 4 else expo m + 3) % 16) + 8 else (16 * (m / 2 ^ (if expo m = 0 then 4 else expo m + 3) % 16) + 264) * 2 ^ (expo m - 1)
theorem near_magA (m : Nat) (h : m < 32768) : m + 1 ≤ backA m + max (4 * 2 ^ expo m) 8 ∧ backA m ≤ m + max (4 * 2 ^ expo m) 8 := by
  unfold backA
  rcases expo_cases m h with ⟨he, h⟩ | ⟨he, h⟩ | ⟨he, h⟩ | ⟨he, h⟩ | ⟨he, h⟩ | ⟨he, h⟩ | ⟨he, h⟩ | ⟨he, h⟩ <;> rw [he] <;> simp <;> omega
theorem near_a (x : Int) (h0 : -32768 ≤ x) (h1 : x ≤ 32767) : (fromA (aCode x) - x).natAbs ≤ max (4 * 2 ^ expo (magA x)) 8 := by
  have hm : magA x < 32768 := by unfold magA; split <;> omega
  have hn := near_magA (magA x) hm
  have h7 := expo_le (magA x)
  have hq : magA x / 2 ^ (if expo (magA x) = 0 then 4 else expo (magA x) + 3) % 16 < 16 := Nat.mod_lt _ (by omega)
  obtain ⟨f1, f2⟩ := fromA_at (expo (magA x)) _ (by omega) hq
  unfold fromA aCode
  rw [Nat.xor_assoc, Nat.xor_self, Nat.xor_zero]
  unfold aRaw
  unfold backA at hn
  split
  · rename_i hx
    rw [Nat.zero_add, f1]
    have : (magA x : Int) = -x - 1 := by unfold magA; rw [if_pos hx]; omega
    omega
  · rename_i hx
    rw [f2]
    have : (magA x : Int) = x := by unfold magA; rw [if_neg hx]; omega
    omega
/-- the four maps on integers, as the slices are mapped -/
def muZ (x : Int) : Int := (mu x : Nat)
def aZ (x : Int) : Int := (aCode x : Nat)
def fromMuZ (b : Int) : Int := fromMu b.toNat
def fromAZ (b : Int) : Int := fromA b.toNat

end Go.Proofs.Ytnkmpkbddpeplaa.Cmp

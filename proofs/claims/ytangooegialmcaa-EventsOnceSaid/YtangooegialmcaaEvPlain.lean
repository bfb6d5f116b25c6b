/- Plain functions for layer 29 (events): tones, senders, receivers, levels, noise; no program in sight. -/
import Derived.WalkKit
import Derived.Lib.BitFns
namespace Go.Proofs.Ytangooegialmcaa.Ev
open Go.RowKit
set_option linter.unusedVariables false

/-- the bytes of a tone, and the error -/
def encT (c : Int) (e : Bool) (v d : Int) : List Int × Int := if 63 < v then ([], 3) else ([c, v + (if e then 128 else 0), d / 256, d % 256], 0)
structure Tone where
  code : Int
  fin : Bool
  vol : Int
  dur : Int
def Tone.zero : Tone := ⟨0, false, 0, 0⟩
def decT (bs : List Int) : Tone × Int :=
  if bs.length < 4 then (Tone.zero, 6) else if 4 < bs.length ∨ bs.getD 1 0 / 64 % 2 = 1 then (Tone.zero, 5) else
    (⟨bs.getD 0 0, decide (128 ≤ bs.getD 1 0), bs.getD 1 0 % 64, 256 * bs.getD 2 0 + bs.getD 3 0⟩, 0)
/-- a sender -/
structure Snd where
  on : Bool
  code : Int
  vol : Int
  start : Int
  len : Int
  ends : Int
def Snd.zero : Snd := ⟨false, 0, 0, 0, 0, 0⟩
def Snd.valid (s : Snd) : Bool := decide (s.vol ≤ 63) && decide (0 ≤ s.len) && decide (s.len ≤ 65535) && decide (0 ≤ s.ends) && decide (s.ends ≤ 3) && (!s.on || s.ends == 0)
def press (s : Snd) (code vol time : Int) : Snd × Int :=
  if s.valid = false then (Snd.zero, 2) else if s.on = true ∨ s.ends ≠ 0 then (Snd.zero, 9) else if 63 < vol then (Snd.zero, 3) else (⟨true, code, vol, time, 0, 0⟩, 0)
def release (s : Snd) : Snd × Int :=
  if s.valid = false then (Snd.zero, 2) else if s.on = false then (Snd.zero, 9) else (⟨false, s.code, s.vol, s.start, s.len, 3⟩, 0)
structure Out where
  time : Int
  marker : Bool
  tone : Tone
def Out.zero : Out := ⟨0, false, Tone.zero⟩
structure Nxt where
  s : Snd
  o : Out
  some : Bool
  err : Int
def next (s : Snd) (n : Int) : Nxt :=
  if s.valid = false then ⟨Snd.zero, Out.zero, false, 2⟩ else if n < 1 ∨ 8000 < n then ⟨Snd.zero, Out.zero, false, 3⟩ else
    if s.on = true then ⟨⟨true, s.code, s.vol, s.start, min (s.len + n) 65535, s.ends⟩, ⟨s.start, s.len == 0, ⟨s.code, false, s.vol, min (s.len + n) 65535⟩⟩, true, 0⟩ else
      if s.ends = 0 then ⟨s, Out.zero, false, 0⟩ else ⟨if s.ends = 1 then Snd.zero else ⟨false, s.code, s.vol, s.start, s.len, s.ends - 1⟩, ⟨s.start, false, ⟨s.code, true, s.vol, s.len⟩⟩, true, 0⟩
/-- a receiver -/
structure Rcv where
  on : Bool
  time : Int
  code : Int
  len : Int
  ended : Bool
structure Key where
  code : Int
  down : Bool
  time : Int
  len : Int
def hear (r : Rcv) (time : Int) (t : Tone) : Rcv × List Key :=
  if r.on = false ∨ 1 ≤ (time - r.time) % 4294967296 ∧ (time - r.time) % 4294967296 < 2147483648 then
    (⟨true, time, t.code, t.dur, t.fin⟩, (if r.on = true ∧ r.ended = false then [⟨r.code, false, r.time, r.len⟩] else []) ++ [⟨t.code, true, time, 0⟩] ++ (if t.fin = true then [⟨t.code, false, time, t.dur⟩] else []))
  else if (time - r.time) % 4294967296 = 0 ∧ t.code = r.code ∧ r.ended = false then
    (⟨r.on, r.time, r.code, max r.len t.dur, t.fin⟩, if t.fin = true then [⟨r.code, false, r.time, max r.len t.dur⟩] else [])
  else (r, [])
/-- the sum of squares -/
def sumSq (zs : List Int) : Nat := (zs.map fun z => (z * z).toNat).sum
def lev (zs : List Int) : Int := if zs.length = 0 then 127 else if sumSq zs / zs.length = 0 then 127 else 3 * (30 - (Nat.log2 (sumSq zs / zs.length) : Int))
/-- noise -/
def amp : Nat → Int
  | 0 => 32767
  | k + 1 => amp k / 2
def seed (s : Int) : Nat → Int
  | 0 => s
  | k + 1 => (seed s k * 1103515245 + 12345) % 4294967296
def nsamp (a s : Int) (k : Nat) : Int := seed s (k + 1) / 65536 % (2 * a + 1) - a
def noise (level s n : Int) : List Int × Int × Int :=
  if n < 0 ∨ 8000 < n then ([], 0, 3) else ((List.range n.toNat).map fun k => nsamp (amp (level / 6).toNat) s k, seed s n.toNat, 0)
/-- silence: the count after a frame -/
def quiet (q : Int) (zs : List Int) : Int := if lev zs < 60 then 0 else min (max q 0) 9 + 1
theorem bitLenAux_eq : ∀ (f x : Nat), x < 2 ^ f → Lib.bitLenAux f x = if x = 0 then 0 else Nat.log2 x + 1
  | 0, x, h => by
    have : x = 0 := by simpa using h
    subst this; rfl
  | f + 1, x, h => by
    unfold Lib.bitLenAux
    by_cases h0 : x = 0
    · rw [if_pos h0, if_pos h0]
    · rw [if_neg h0, if_neg h0, bitLenAux_eq f (x / 2) (by rw [Nat.pow_succ] at h; omega)]
      by_cases h1 : x / 2 = 0
      · have : x = 1 := by omega
        subst this; rfl
      · rw [if_neg h1, Nat.log2_def x, if_pos (by omega)]; omega
theorem bitLen_eq (x : Nat) (h : x < 18446744073709551616) : Lib.bitLen x = if x = 0 then 0 else Nat.log2 x + 1 := bitLenAux_eq 64 x h
/-- the sum of the squares of the first k numbers -/
theorem sumSq_take (zs : List Int) (k : Nat) (h : k < zs.length) : sumSq (zs.take (k + 1)) = sumSq (zs.take k) + (zs.getD k 0 * zs.getD k 0).toNat := by
  unfold sumSq
  rw [List.take_succ_eq_append_getElem h, List.map_append, List.sum_append, List.getD_eq_getElem?_getD, List.getElem?_eq_getElem h]
  simp
theorem sq_bd (z : Int) (h0 : -32768 ≤ z) (h1 : z ≤ 32767) : 0 ≤ z * z ∧ z * z ≤ 1073741824 := by
  rcases Int.le_total 0 z with h | h
  · have h2 := Int.mul_nonneg h h
    have := Int.mul_le_mul h1 h1 h (by omega); omega
  · have h2 := Int.mul_nonneg (show 0 ≤ -z by omega) (show 0 ≤ -z by omega)
    rw [Int.neg_mul_neg] at h2
    have := Int.mul_le_mul (show -z ≤ 32768 by omega) (show -z ≤ 32768 by omega) (by omega) (by omega)
    rw [Int.neg_mul_neg] at this; omega
theorem sumSq_bd (zs : List Int) (h : ∀ z ∈ zs, -32768 ≤ z ∧ z ≤ 32767) : sumSq zs ≤ zs.length * 1073741824 := by
  induction zs with
  | nil => simp [sumSq]
  | cons a l ih =>
    have h1 := ih fun z hz => h z (List.mem_cons_of_mem _ hz)
    have h2 := sq_bd a (h a (List.mem_cons_self ..)).1 (h a (List.mem_cons_self ..)).2
    unfold sumSq at *
    simp only [List.map_cons, List.sum_cons, List.length_cons]
    omega
/-- the mean -/
theorem mean_bd (zs : List Int) (h : ∀ z ∈ zs, -32768 ≤ z ∧ z ≤ 32767) : sumSq zs / zs.length ≤ 1073741824 := by
  have := sumSq_bd zs h
  rcases Nat.eq_zero_or_pos zs.length with h0 | h0
  · rw [h0]; simp
  · exact Nat.div_le_of_le_mul (by omega)
theorem log2_bd (n : Nat) (h : n ≤ 1073741824) (h0 : n ≠ 0) : Nat.log2 n ≤ 30 := by
  have := (Nat.log2_lt h0 (k := 31)).2 (by omega)
  omega
/-- halving k times -/
def halve (p : Nat) : Nat → Nat
  | 0 => p
  | k + 1 => halve p k / 2
theorem lev_bd (zs : List Int) (h : ∀ z ∈ zs, -32768 ≤ z ∧ z ≤ 32767) : 0 ≤ lev zs ∧ lev zs ≤ 127 := by
  unfold lev
  have hm := mean_bd zs h
  split
  · omega
  · split
    · omega
    · rename_i h0 h1
      have := log2_bd _ hm h1
      omega
end Go.Proofs.Ytangooegialmcaa.Ev

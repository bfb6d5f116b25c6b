/- Plain functions for layer 26 (report): statistics, blocks; no program in sight. -/
import Derived.WalkKit
namespace Go.Proofs.Ythmcbmjjngolmaa.Rep
open Go.RowKit
set_option linter.unusedVariables false
/-- statistics -/
structure St where
  seen : Bool
  base : Int
  high : Int
  got : Int
  wexp : Int
  wrec : Int
  trans : Int
  jit : Int
def St.zero : St := ⟨false, 0, 0, 0, 0, 0, 0, 0⟩
def St.row (s : St) : Array Value := #[.bool s.seen, .int .i64 s.base, .int .i64 s.high, .int .i64 s.got, .int .i64 s.wexp, .int .i64 s.wrec, .int .i64 s.trans, .int .i64 s.jit]
/-- a block of a report -/
structure Bk where
  source : Int
  frac : Int
  lost : Int
  high : Int
  jit : Int
  last : Int
  delay : Int
def Bk.zero : Bk := ⟨0, 0, 0, 0, 0, 0, 0⟩
def Bk.row (b : Bk) : Array Value := #[.int .u32 b.source, .int .u8 b.frac, .int .i64 b.lost, .int .u32 b.high, .int .u32 b.jit, .int .u32 b.last, .int .u32 b.delay]
def inB (lo hi x : Int) : Bool := decide (lo ≤ x) && decide (x ≤ hi)
def all (lo hi : Int) (xs : List Int) : Bool := xs.all (inB lo hi)
def okS (s : St) : Bool := all (-1125899906842624) 1125899906842624 [s.base, s.high, s.trans] && decide (s.base ≤ s.high) && all 0 1125899906842624 [s.got, s.wexp, s.wrec] && all 0 72057594037927936 [s.jit]
def small (x : Int) : Bool := inB (-281474976710656) 281474976710656 x
theorem inB_iff (lo hi x : Int) : inB lo hi x = true ↔ lo ≤ x ∧ x ≤ hi := by simp [inB]
theorem okS_iff (s : St) : okS s = true ↔ ((-1125899906842624 ≤ s.base ∧ s.base ≤ 1125899906842624) ∧ (-1125899906842624 ≤ s.high ∧ s.high ≤ 1125899906842624) ∧ (-1125899906842624 ≤ s.trans ∧ s.trans ≤ 1125899906842624)) ∧ s.base ≤ s.high ∧ ((0 ≤ s.got ∧ s.got ≤ 1125899906842624) ∧ (0 ≤ s.wexp ∧ s.wexp ≤ 1125899906842624) ∧ (0 ≤ s.wrec ∧ s.wrec ≤ 1125899906842624)) ∧ 0 ≤ s.jit ∧ s.jit ≤ 72057594037927936 := by
  simp [okS, all, inB, and_assoc]
def absI (x : Int) : Int := if x < 0 then -x else x
def arrive (s : St) (seq arr time : Int) : St :=
  if (okS s && small seq && small arr && small time) = false then St.zero else
    if s.seen = false then ⟨true, seq, seq, 1, 0, 0, arr - time, 0⟩ else
      ⟨true, min s.base seq, max s.high seq, s.got + 1, s.wexp, s.wrec, arr - time, s.jit + (absI (arr - time - s.trans) - (s.jit + 8) / 16)⟩
def frac (x y : Int) : Int := if 0 < x ∧ 0 < y then min (256 * y / x) 255 else 0
def summary (s : St) (source last delay : Int) : Bk × St :=
  if okS s = false then (Bk.zero, St.zero) else if s.seen = false then (⟨source, 0, 0, 0, 0, last, delay⟩, s) else
    (⟨source, frac (s.high - s.base + 1 - s.wexp) (s.high - s.base + 1 - s.wexp - (s.got - s.wrec)), min (max (s.high - s.base + 1 - s.got) (-8388608)) 8388607, s.high % 4294967296, min (s.jit / 16) 4294967295, last, delay⟩,
     ⟨s.seen, s.base, s.high, s.got, s.high - s.base + 1, s.got, s.trans, s.jit⟩)
def trip (now last delay : Int) : Int := if 2147483648 ≤ (now - last - delay) % 4294967296 then 0 else (now - last - delay) % 4294967296
theorem frac_bd (x y : Int) : 0 ≤ frac x y ∧ frac x y ≤ 255 := by
  unfold frac
  split
  · rename_i h
    have := Int.ediv_nonneg (a := 256 * y) (b := x) (by omega) (by omega)
    omega
  · omega
theorem all_take (lo hi : Int) (xs : List Int) (k : Nat) (h : k < xs.length) : all lo hi (xs.take (k + 1)) = (all lo hi (xs.take k) && inB lo hi (xs.getD k 0)) := by
  unfold all
  rw [List.take_succ_eq_append_getElem h, List.all_append, List.getD_eq_getElem?_getD, List.getElem?_eq_getElem h]
  simp
theorem all_false (lo hi : Int) (xs : List Int) (k : Nat) (h : k < xs.length) (hx : inB lo hi (xs.getD k 0) = false) : all lo hi xs = false := by
  unfold all
  rw [List.all_eq_false]
  refine ⟨xs[k], List.getElem_mem h, ?_⟩
  rw [List.getD_eq_getElem?_getD, List.getElem?_eq_getElem h] at hx
  simpa using hx
end Go.Proofs.Ythmcbmjjngolmaa.Rep

/- The types of layer 26's arguments. -/
import Derived.Test.YthmcbmjjngolmaaOpenRows
import Derived.Test.YthmcbmjjngolmaaRepMem
namespace Go.Proofs.Ythmcbmjjngolmaa
open Go.ChangeShapes Go.WideShapes Go.ChangeAt Go.RowKit Go.Deep
set_option linter.unusedVariables false
/-- statistics that came in -/
structure TSt where
  seen : Bool
  base : Int
  high : Int
  got : Int
  wexp : Int
  wrec : Int
  trans : Int
  jit : Int
def TSt.row (a : TSt) : List Value := [.bool a.seen, .int .i64 a.base, .int .i64 a.high, .int .i64 a.got, .int .i64 a.wexp, .int .i64 a.wrec, .int .i64 a.trans, .int .i64 a.jit]
def TSt.ok (a : TSt) : Prop := (Lit.int .i64 a.base).wf = true ∧ (Lit.int .i64 a.high).wf = true ∧ (Lit.int .i64 a.got).wf = true ∧ (Lit.int .i64 a.wexp).wf = true ∧ (Lit.int .i64 a.wrec).wf = true ∧ (Lit.int .i64 a.trans).wf = true ∧ (Lit.int .i64 a.jit).wf = true
theorem TSt.of_trod {H : Type} {enc : TypeId × Value → H} {w : World} {base : Nat} {spare : Nat → Bool} {held : Bool} (n : Nat) (cs : List Value) (x : DataW H × List MemPlace) (h : DataW.trod enc Try.prog w base spare held n 23 cs = some x) : ∃ a : TSt, cs = a.row ∧ a.ok := by
  obtain ⟨hl, hf⟩ := flat_trod 12 n 23 [4, 2, 2, 2, 2, 2, 2, 2] cs x (by kernel_rfl) h
  obtain ⟨c0, h0, l0⟩ := hf 0 _ rfl
  obtain ⟨z0, rfl⟩ := l0.bool Try.underlying4
  obtain ⟨c1, h1, l1⟩ := hf 1 _ rfl
  obtain ⟨z1, rfl, w1⟩ := l1.int Try.underlying2
  obtain ⟨c2, h2, l2⟩ := hf 2 _ rfl
  obtain ⟨z2, rfl, w2⟩ := l2.int Try.underlying2
  obtain ⟨c3, h3, l3⟩ := hf 3 _ rfl
  obtain ⟨z3, rfl, w3⟩ := l3.int Try.underlying2
  obtain ⟨c4, h4, l4⟩ := hf 4 _ rfl
  obtain ⟨z4, rfl, w4⟩ := l4.int Try.underlying2
  obtain ⟨c5, h5, l5⟩ := hf 5 _ rfl
  obtain ⟨z5, rfl, w5⟩ := l5.int Try.underlying2
  obtain ⟨c6, h6, l6⟩ := hf 6 _ rfl
  obtain ⟨z6, rfl, w6⟩ := l6.int Try.underlying2
  obtain ⟨c7, h7, l7⟩ := hf 7 _ rfl
  obtain ⟨z7, rfl, w7⟩ := l7.int Try.underlying2
  exact ⟨⟨z0, z1, z2, z3, z4, z5, z6, z7⟩, AllAt.eq ⟨h0, h1, h2, h3, h4, h5, h6, h7, trivial⟩ hl, w1, w2, w3, w4, w5, w6, w7⟩
theorem TSt.open_ {H : Type} {enc : TypeId × Value → H} {w : World} {r : Reach} {b0 base : Nat} {spare : Nat → Bool} {held : Bool} {v : Value} {d : DataW H} {p : List MemPlace} (hv : Value.okWide Try.prog w r b0 23 v) (h : DataW.Trod enc Try.prog w base spare held 23 v d p) : ∃ a : TSt, v = .agg a.row.toArray ∧ a.ok := by
  obtain ⟨cs, rfl, _⟩ := okWide_struct Try.underlying23 hv
  obtain ⟨n, h⟩ := h
  obtain ⟨a, ha, hok⟩ := TSt.of_trod n _ _ h
  refine ⟨a, ?_, hok⟩
  have : cs.toList = a.row := by simpa [Value.cells] using ha
  rw [← this]
/-- a packet that came in -/
structure TPk where
  seq : Int
  arr : Int
  time : Int
def TPk.row (a : TPk) : List Value := [.int .i64 a.seq, .int .i64 a.arr, .int .i64 a.time]
def TPk.ok (a : TPk) : Prop := (Lit.int .i64 a.seq).wf = true ∧ (Lit.int .i64 a.arr).wf = true ∧ (Lit.int .i64 a.time).wf = true
theorem TPk.of_trod {H : Type} {enc : TypeId × Value → H} {w : World} {base : Nat} {spare : Nat → Bool} {held : Bool} (n : Nat) (cs : List Value) (x : DataW H × List MemPlace) (h : DataW.trod enc Try.prog w base spare held n 32 cs = some x) : ∃ a : TPk, cs = a.row ∧ a.ok := by
  obtain ⟨hl, hf⟩ := flat_trod 12 n 32 [2, 2, 2] cs x (by kernel_rfl) h
  obtain ⟨c0, h0, l0⟩ := hf 0 _ rfl
  obtain ⟨z0, rfl, w0⟩ := l0.int Try.underlying2
  obtain ⟨c1, h1, l1⟩ := hf 1 _ rfl
  obtain ⟨z1, rfl, w1⟩ := l1.int Try.underlying2
  obtain ⟨c2, h2, l2⟩ := hf 2 _ rfl
  obtain ⟨z2, rfl, w2⟩ := l2.int Try.underlying2
  exact ⟨⟨z0, z1, z2⟩, AllAt.eq ⟨h0, h1, h2, trivial⟩ hl, w0, w1, w2⟩
theorem TPk.open_ {H : Type} {enc : TypeId × Value → H} {w : World} {r : Reach} {b0 base : Nat} {spare : Nat → Bool} {held : Bool} {v : Value} {d : DataW H} {p : List MemPlace} (hv : Value.okWide Try.prog w r b0 32 v) (h : DataW.Trod enc Try.prog w base spare held 32 v d p) : ∃ a : TPk, v = .agg a.row.toArray ∧ a.ok := by
  obtain ⟨cs, rfl, _⟩ := okWide_struct Try.underlying32 hv
  obtain ⟨n, h⟩ := h
  obtain ⟨a, ha, hok⟩ := TPk.of_trod n _ _ h
  refine ⟨a, ?_, hok⟩
  have : cs.toList = a.row := by simpa [Value.cells] using ha
  rw [← this]
theorem TBk.of_trod {H : Type} {enc : TypeId × Value → H} {w : World} {base : Nat} {spare : Nat → Bool} {held : Bool} (n : Nat) (cs : List Value) (x : DataW H × List MemPlace) (h : DataW.trod enc Try.prog w base spare held n 27 cs = some x) : ∃ a : Rep.Bk, cs = a.cells ∧ a.ok := by
  obtain ⟨hl, hf⟩ := flat_trod 12 n 27 [25, 5, 3, 25, 25, 25, 25] cs x (by kernel_rfl) h
  obtain ⟨c0, h0, l0⟩ := hf 0 _ rfl
  obtain ⟨z0, rfl, w0⟩ := l0.int Try.underlying25
  obtain ⟨c1, h1, l1⟩ := hf 1 _ rfl
  obtain ⟨z1, rfl, w1⟩ := l1.int Try.underlying5
  obtain ⟨c2, h2, l2⟩ := hf 2 _ rfl
  obtain ⟨z2, rfl, w2⟩ := l2.int Try.underlying3
  obtain ⟨c3, h3, l3⟩ := hf 3 _ rfl
  obtain ⟨z3, rfl, w3⟩ := l3.int Try.underlying25
  obtain ⟨c4, h4, l4⟩ := hf 4 _ rfl
  obtain ⟨z4, rfl, w4⟩ := l4.int Try.underlying25
  obtain ⟨c5, h5, l5⟩ := hf 5 _ rfl
  obtain ⟨z5, rfl, w5⟩ := l5.int Try.underlying25
  obtain ⟨c6, h6, l6⟩ := hf 6 _ rfl
  obtain ⟨z6, rfl, w6⟩ := l6.int Try.underlying25
  have q0 : 0 ≤ z0 ∧ z0 ≤ 4294967295 := by simpa [Lit.wf, IntKind.min, IntKind.max, IntKind.signed, IntKind.bits] using w0
  have q1 : 0 ≤ z1 ∧ z1 ≤ 255 := by simpa [Lit.wf, IntKind.min, IntKind.max, IntKind.signed, IntKind.bits] using w1
  have q2 : -9223372036854775808 ≤ z2 ∧ z2 ≤ 9223372036854775807 := by simpa [Lit.wf, IntKind.min, IntKind.max, IntKind.signed, IntKind.bits] using w2
  have q3 : 0 ≤ z3 ∧ z3 ≤ 4294967295 := by simpa [Lit.wf, IntKind.min, IntKind.max, IntKind.signed, IntKind.bits] using w3
  have q4 : 0 ≤ z4 ∧ z4 ≤ 4294967295 := by simpa [Lit.wf, IntKind.min, IntKind.max, IntKind.signed, IntKind.bits] using w4
  have q5 : 0 ≤ z5 ∧ z5 ≤ 4294967295 := by simpa [Lit.wf, IntKind.min, IntKind.max, IntKind.signed, IntKind.bits] using w5
  have q6 : 0 ≤ z6 ∧ z6 ≤ 4294967295 := by simpa [Lit.wf, IntKind.min, IntKind.max, IntKind.signed, IntKind.bits] using w6
  exact ⟨⟨z0, z1, z2, z3, z4, z5, z6⟩, AllAt.eq ⟨h0, h1, h2, h3, h4, h5, h6, trivial⟩ hl, q0, q1, q2, q3, q4, q5, q6⟩
theorem TR.of_trod {H : Type} {enc : TypeId × Value → H} {w : World} {base : Nat} {spare : Nat → Bool} {held : Bool} (n : Nat) (cs : List Value) (x : DataW H × List MemPlace) (h : DataW.trod enc Try.prog w base spare held n 47 cs = some x) : ∃ a : TR, cs = a.row ∧ (RowsAt w w.heap.size 7 Rep.Bk.cells a.B a.r.blocks ∧ a.r.ok) := by
  obtain ⟨hl, hf⟩ := flat_trod 12 n 47 [4, 25, 44, 25, 25, 25, 45] cs x (by kernel_rfl) h
  obtain ⟨c0, h0, l0⟩ := hf 0 _ rfl
  obtain ⟨z0, rfl⟩ := l0.bool Try.underlying4
  obtain ⟨c1, h1, l1⟩ := hf 1 _ rfl
  obtain ⟨z1, rfl, w1⟩ := l1.int Try.underlying25
  obtain ⟨c2, h2, l2⟩ := hf 2 _ rfl
  obtain ⟨z2, rfl, w2⟩ := l2.int Try.underlying44
  obtain ⟨c3, h3, l3⟩ := hf 3 _ rfl
  obtain ⟨z3, rfl, w3⟩ := l3.int Try.underlying25
  obtain ⟨c4, h4, l4⟩ := hf 4 _ rfl
  obtain ⟨z4, rfl, w4⟩ := l4.int Try.underlying25
  obtain ⟨c5, h5, l5⟩ := hf 5 _ rfl
  obtain ⟨z5, rfl, w5⟩ := l5.int Try.underlying25
  have q1 : 0 ≤ z1 ∧ z1 ≤ 4294967295 := by simpa [Lit.wf, IntKind.min, IntKind.max, IntKind.signed, IntKind.bits] using w1
  have q2 : 0 ≤ z2 ∧ z2 ≤ 18446744073709551615 := by simpa [Lit.wf, IntKind.min, IntKind.max, IntKind.signed, IntKind.bits] using w2
  have q3 : 0 ≤ z3 ∧ z3 ≤ 4294967295 := by simpa [Lit.wf, IntKind.min, IntKind.max, IntKind.signed, IntKind.bits] using w3
  have q4 : 0 ≤ z4 ∧ z4 ≤ 4294967295 := by simpa [Lit.wf, IntKind.min, IntKind.max, IntKind.signed, IntKind.bits] using w4
  have q5 : 0 ≤ z5 ∧ z5 ≤ 4294967295 := by simpa [Lit.wf, IntKind.min, IntKind.max, IntKind.signed, IntKind.bits] using w5
  obtain ⟨c6, h6, l6⟩ := hf 6 _ rfl
  obtain ⟨A, l, cap, rfl, _, _, hR, hok⟩ := l6.rows (row := Rep.Bk.cells) (ok := Rep.Bk.ok) Try.underlying45 (by kernel_rfl : Try.prog.cellsOf 27 = 7) (by decide) (fun n cs x h => TBk.of_trod n cs x h)
  exact ⟨⟨⟨z0, z1, z2, z3, z4, z5, l⟩, A, cap⟩, AllAt.eq ⟨h0, h1, h2, h3, h4, h5, h6, trivial⟩ hl, hR, q1, q2, q3, q4, q5, hok⟩
end Go.Proofs.Ythmcbmjjngolmaa

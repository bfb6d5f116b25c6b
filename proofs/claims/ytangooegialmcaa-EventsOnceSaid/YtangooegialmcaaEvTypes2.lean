/- The types of layer 29's arguments that are slices. -/
import Derived.Test.YtangooegialmcaaOpenRows
namespace Go.Proofs.Ytangooegialmcaa
open Go.ChangeShapes Go.WideShapes Go.ChangeAt Go.RowKit Go.Deep
set_option linter.unusedVariables false
/-- a tone packet with its time stamp -/
structure THeard where
  time : Int
  code : Int
  fin : Bool
  vol : Int
  dur : Int
def THeard.row (a : THeard) : List Value := [.int .u32 a.time, .int .u8 a.code, .bool a.fin, .int .u8 a.vol, .int .u16 a.dur]
def THeard.ok (a : THeard) : Prop := (Lit.int .u32 a.time).wf = true ∧ (Lit.int .u8 a.code).wf = true ∧ (Lit.int .u8 a.vol).wf = true ∧ (Lit.int .u16 a.dur).wf = true
theorem THeard.of_trod {H : Type} {enc : TypeId × Value → H} {w : World} {base : Nat} {spare : Nat → Bool} {held : Bool} (n : Nat) (cs : List Value) (x : DataW H × List MemPlace) (h : DataW.trod enc Try.prog w base spare held n 33 cs = some x) : ∃ a : THeard, cs = a.row ∧ a.ok := by
  obtain ⟨hl, hf⟩ := flat_trod 12 n 33 [22, 5, 4, 5, 29] cs x (by kernel_rfl) h
  obtain ⟨c0, h0, l0⟩ := hf 0 _ rfl
  obtain ⟨z0, rfl, w0⟩ := l0.int Try.underlying22
  obtain ⟨c1, h1, l1⟩ := hf 1 _ rfl
  obtain ⟨z1, rfl, w1⟩ := l1.int Try.underlying5
  obtain ⟨c2, h2, l2⟩ := hf 2 _ rfl
  obtain ⟨z2, rfl⟩ := l2.bool Try.underlying4
  obtain ⟨c3, h3, l3⟩ := hf 3 _ rfl
  obtain ⟨z3, rfl, w3⟩ := l3.int Try.underlying5
  obtain ⟨c4, h4, l4⟩ := hf 4 _ rfl
  obtain ⟨z4, rfl, w4⟩ := l4.int Try.underlying29
  exact ⟨⟨z0, z1, z2, z3, z4⟩, AllAt.eq ⟨h0, h1, h2, h3, h4, trivial⟩ hl, w0, w1, w3, w4⟩
theorem THeard.open_ {H : Type} {enc : TypeId × Value → H} {w : World} {r : Reach} {b0 base : Nat} {spare : Nat → Bool} {held : Bool} {v : Value} {d : DataW H} {p : List MemPlace} (hv : Value.okWide Try.prog w r b0 33 v) (h : DataW.Trod enc Try.prog w base spare held 33 v d p) : ∃ a : THeard, v = .agg a.row.toArray ∧ a.ok := by
  obtain ⟨cs, rfl, _⟩ := okWide_struct Try.underlying33 hv
  obtain ⟨n, h⟩ := h
  obtain ⟨a, ha, hok⟩ := THeard.of_trod n _ _ h
  refine ⟨a, ?_, hok⟩
  have : cs.toList = a.row := by simpa [Value.cells] using ha
  rw [← this]
/-- a key that is pressed -/
structure TStroke where
  code : Int
  hold : Int
  pause : Int
def TStroke.row (a : TStroke) : List Value := [.int .u8 a.code, .int .u8 a.hold, .int .u8 a.pause]
def TStroke.ok (a : TStroke) : Prop := (Lit.int .u8 a.code).wf = true ∧ (Lit.int .u8 a.hold).wf = true ∧ (Lit.int .u8 a.pause).wf = true
theorem TStroke.of_trod {H : Type} {enc : TypeId × Value → H} {w : World} {base : Nat} {spare : Nat → Bool} {held : Bool} (n : Nat) (cs : List Value) (x : DataW H × List MemPlace) (h : DataW.trod enc Try.prog w base spare held n 67 cs = some x) : ∃ a : TStroke, cs = a.row ∧ a.ok := by
  obtain ⟨hl, hf⟩ := flat_trod 12 n 67 [5, 5, 5] cs x (by kernel_rfl) h
  obtain ⟨c0, h0, l0⟩ := hf 0 _ rfl
  obtain ⟨z0, rfl, w0⟩ := l0.int Try.underlying5
  obtain ⟨c1, h1, l1⟩ := hf 1 _ rfl
  obtain ⟨z1, rfl, w1⟩ := l1.int Try.underlying5
  obtain ⟨c2, h2, l2⟩ := hf 2 _ rfl
  obtain ⟨z2, rfl, w2⟩ := l2.int Try.underlying5
  exact ⟨⟨z0, z1, z2⟩, AllAt.eq ⟨h0, h1, h2, trivial⟩ hl, w0, w1, w2⟩
theorem TStroke.open_ {H : Type} {enc : TypeId × Value → H} {w : World} {r : Reach} {b0 base : Nat} {spare : Nat → Bool} {held : Bool} {v : Value} {d : DataW H} {p : List MemPlace} (hv : Value.okWide Try.prog w r b0 67 v) (h : DataW.Trod enc Try.prog w base spare held 67 v d p) : ∃ a : TStroke, v = .agg a.row.toArray ∧ a.ok := by
  obtain ⟨cs, rfl, _⟩ := okWide_struct Try.underlying67 hv
  obtain ⟨n, h⟩ := h
  obtain ⟨a, ha, hok⟩ := TStroke.of_trod n _ _ h
  refine ⟨a, ?_, hok⟩
  have : cs.toList = a.row := by simpa [Value.cells] using ha
  rw [← this]
/-- a count of quiet frames -/
structure TQuiet where
  q : Int
def TQuiet.row (a : TQuiet) : List Value := [.int .i64 a.q]
def TQuiet.ok (a : TQuiet) : Prop := (Lit.int .i64 a.q).wf = true
theorem TQuiet.of_trod {H : Type} {enc : TypeId × Value → H} {w : World} {base : Nat} {spare : Nat → Bool} {held : Bool} (n : Nat) (cs : List Value) (x : DataW H × List MemPlace) (h : DataW.trod enc Try.prog w base spare held n 43 cs = some x) : ∃ a : TQuiet, cs = a.row ∧ a.ok := by
  obtain ⟨hl, hf⟩ := flat_trod 12 n 43 [3] cs x (by kernel_rfl) h
  obtain ⟨c0, h0, l0⟩ := hf 0 _ rfl
  obtain ⟨z0, rfl, w0⟩ := l0.int Try.underlying3
  exact ⟨⟨z0⟩, AllAt.eq ⟨h0, trivial⟩ hl, w0⟩
theorem TQuiet.open_ {H : Type} {enc : TypeId × Value → H} {w : World} {r : Reach} {b0 base : Nat} {spare : Nat → Bool} {held : Bool} {v : Value} {d : DataW H} {p : List MemPlace} (hv : Value.okWide Try.prog w r b0 43 v) (h : DataW.Trod enc Try.prog w base spare held 43 v d p) : ∃ a : TQuiet, v = .agg a.row.toArray ∧ a.ok := by
  obtain ⟨cs, rfl, _⟩ := okWide_struct Try.underlying43 hv
  obtain ⟨n, h⟩ := h
  obtain ⟨a, ha, hok⟩ := TQuiet.of_trod n _ _ h
  refine ⟨a, ?_, hok⟩
  have : cs.toList = a.row := by simpa [Value.cells] using ha
  rw [← this]
end Go.Proofs.Ytangooegialmcaa

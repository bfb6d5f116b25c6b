/- The types of layer 29's arguments. -/
import Derived.Test.YtangooegialmcaaOpen
namespace Go.Proofs.Ytangooegialmcaa
open Go.ChangeShapes Go.WideShapes Go.ChangeAt Go.RowKit Go.Deep
set_option linter.unusedVariables false
/-- a sender that came in -/
structure TSnd where
  on : Bool
  code : Int
  vol : Int
  start : Int
  len : Int
  ends : Int
def TSnd.row (a : TSnd) : List Value := [.bool a.on, .int .u8 a.code, .int .u8 a.vol, .int .u32 a.start, .int .i64 a.len, .int .i64 a.ends]
def TSnd.ok (a : TSnd) : Prop := (Lit.int .u8 a.code).wf = true ∧ (Lit.int .u8 a.vol).wf = true ∧ (Lit.int .u32 a.start).wf = true ∧ (Lit.int .i64 a.len).wf = true ∧ (Lit.int .i64 a.ends).wf = true
theorem TSnd.of_trod {H : Type} {enc : TypeId × Value → H} {w : World} {base : Nat} {spare : Nat → Bool} {held : Bool} (n : Nat) (cs : List Value) (x : DataW H × List MemPlace) (h : DataW.trod enc Try.prog w base spare held n 49 cs = some x) : ∃ a : TSnd, cs = a.row ∧ a.ok := by
  obtain ⟨hl, hf⟩ := flat_trod 12 n 49 [4, 5, 5, 22, 3, 3] cs x (by kernel_rfl) h
  obtain ⟨c0, h0, l0⟩ := hf 0 _ rfl
  obtain ⟨z0, rfl⟩ := l0.bool Try.underlying4
  obtain ⟨c1, h1, l1⟩ := hf 1 _ rfl
  obtain ⟨z1, rfl, w1⟩ := l1.int Try.underlying5
  obtain ⟨c2, h2, l2⟩ := hf 2 _ rfl
  obtain ⟨z2, rfl, w2⟩ := l2.int Try.underlying5
  obtain ⟨c3, h3, l3⟩ := hf 3 _ rfl
  obtain ⟨z3, rfl, w3⟩ := l3.int Try.underlying22
  obtain ⟨c4, h4, l4⟩ := hf 4 _ rfl
  obtain ⟨z4, rfl, w4⟩ := l4.int Try.underlying3
  obtain ⟨c5, h5, l5⟩ := hf 5 _ rfl
  obtain ⟨z5, rfl, w5⟩ := l5.int Try.underlying3
  exact ⟨⟨z0, z1, z2, z3, z4, z5⟩, AllAt.eq ⟨h0, h1, h2, h3, h4, h5, trivial⟩ hl, w1, w2, w3, w4, w5⟩
theorem TSnd.open_ {H : Type} {enc : TypeId × Value → H} {w : World} {r : Reach} {b0 base : Nat} {spare : Nat → Bool} {held : Bool} {v : Value} {d : DataW H} {p : List MemPlace} (hv : Value.okWide Try.prog w r b0 49 v) (h : DataW.Trod enc Try.prog w base spare held 49 v d p) : ∃ a : TSnd, v = .agg a.row.toArray ∧ a.ok := by
  obtain ⟨cs, rfl, _⟩ := okWide_struct Try.underlying49 hv
  obtain ⟨n, h⟩ := h
  obtain ⟨a, ha, hok⟩ := TSnd.of_trod n _ _ h
  refine ⟨a, ?_, hok⟩
  have : cs.toList = a.row := by simpa [Value.cells] using ha
  rw [← this]
/-- a tone that came in -/
structure TTone where
  code : Int
  fin : Bool
  vol : Int
  dur : Int
def TTone.row (a : TTone) : List Value := [.int .u8 a.code, .bool a.fin, .int .u8 a.vol, .int .u16 a.dur]
def TTone.ok (a : TTone) : Prop := (Lit.int .u8 a.code).wf = true ∧ (Lit.int .u8 a.vol).wf = true ∧ (Lit.int .u16 a.dur).wf = true
theorem TTone.of_trod {H : Type} {enc : TypeId × Value → H} {w : World} {base : Nat} {spare : Nat → Bool} {held : Bool} (n : Nat) (cs : List Value) (x : DataW H × List MemPlace) (h : DataW.trod enc Try.prog w base spare held n 31 cs = some x) : ∃ a : TTone, cs = a.row ∧ a.ok := by
  obtain ⟨hl, hf⟩ := flat_trod 12 n 31 [5, 4, 5, 29] cs x (by kernel_rfl) h
  obtain ⟨c0, h0, l0⟩ := hf 0 _ rfl
  obtain ⟨z0, rfl, w0⟩ := l0.int Try.underlying5
  obtain ⟨c1, h1, l1⟩ := hf 1 _ rfl
  obtain ⟨z1, rfl⟩ := l1.bool Try.underlying4
  obtain ⟨c2, h2, l2⟩ := hf 2 _ rfl
  obtain ⟨z2, rfl, w2⟩ := l2.int Try.underlying5
  obtain ⟨c3, h3, l3⟩ := hf 3 _ rfl
  obtain ⟨z3, rfl, w3⟩ := l3.int Try.underlying29
  exact ⟨⟨z0, z1, z2, z3⟩, AllAt.eq ⟨h0, h1, h2, h3, trivial⟩ hl, w0, w2, w3⟩
theorem TTone.open_ {H : Type} {enc : TypeId × Value → H} {w : World} {r : Reach} {b0 base : Nat} {spare : Nat → Bool} {held : Bool} {v : Value} {d : DataW H} {p : List MemPlace} (hv : Value.okWide Try.prog w r b0 31 v) (h : DataW.Trod enc Try.prog w base spare held 31 v d p) : ∃ a : TTone, v = .agg a.row.toArray ∧ a.ok := by
  obtain ⟨cs, rfl, _⟩ := okWide_struct Try.underlying31 hv
  obtain ⟨n, h⟩ := h
  obtain ⟨a, ha, hok⟩ := TTone.of_trod n _ _ h
  refine ⟨a, ?_, hok⟩
  have : cs.toList = a.row := by simpa [Value.cells] using ha
  rw [← this]
/-- a receiver that came in -/
structure TRcv where
  on : Bool
  time : Int
  code : Int
  len : Int
  ended : Bool
def TRcv.row (a : TRcv) : List Value := [.bool a.on, .int .u32 a.time, .int .u8 a.code, .int .i64 a.len, .bool a.ended]
def TRcv.ok (a : TRcv) : Prop := (Lit.int .u32 a.time).wf = true ∧ (Lit.int .u8 a.code).wf = true ∧ (Lit.int .i64 a.len).wf = true
theorem TRcv.of_trod {H : Type} {enc : TypeId × Value → H} {w : World} {base : Nat} {spare : Nat → Bool} {held : Bool} (n : Nat) (cs : List Value) (x : DataW H × List MemPlace) (h : DataW.trod enc Try.prog w base spare held n 24 cs = some x) : ∃ a : TRcv, cs = a.row ∧ a.ok := by
  obtain ⟨hl, hf⟩ := flat_trod 12 n 24 [4, 22, 5, 3, 4] cs x (by kernel_rfl) h
  obtain ⟨c0, h0, l0⟩ := hf 0 _ rfl
  obtain ⟨z0, rfl⟩ := l0.bool Try.underlying4
  obtain ⟨c1, h1, l1⟩ := hf 1 _ rfl
  obtain ⟨z1, rfl, w1⟩ := l1.int Try.underlying22
  obtain ⟨c2, h2, l2⟩ := hf 2 _ rfl
  obtain ⟨z2, rfl, w2⟩ := l2.int Try.underlying5
  obtain ⟨c3, h3, l3⟩ := hf 3 _ rfl
  obtain ⟨z3, rfl, w3⟩ := l3.int Try.underlying3
  obtain ⟨c4, h4, l4⟩ := hf 4 _ rfl
  obtain ⟨z4, rfl⟩ := l4.bool Try.underlying4
  exact ⟨⟨z0, z1, z2, z3, z4⟩, AllAt.eq ⟨h0, h1, h2, h3, h4, trivial⟩ hl, w1, w2, w3⟩
theorem TRcv.open_ {H : Type} {enc : TypeId × Value → H} {w : World} {r : Reach} {b0 base : Nat} {spare : Nat → Bool} {held : Bool} {v : Value} {d : DataW H} {p : List MemPlace} (hv : Value.okWide Try.prog w r b0 24 v) (h : DataW.Trod enc Try.prog w base spare held 24 v d p) : ∃ a : TRcv, v = .agg a.row.toArray ∧ a.ok := by
  obtain ⟨cs, rfl, _⟩ := okWide_struct Try.underlying24 hv
  obtain ⟨n, h⟩ := h
  obtain ⟨a, ha, hok⟩ := TRcv.of_trod n _ _ h
  refine ⟨a, ?_, hok⟩
  have : cs.toList = a.row := by simpa [Value.cells] using ha
  rw [← this]
end Go.Proofs.Ytangooegialmcaa

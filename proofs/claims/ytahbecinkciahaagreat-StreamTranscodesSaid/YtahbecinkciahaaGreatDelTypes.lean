/- The types of layer 28's arguments. -/
import Derived.Test.YtahbecinkciahaaGreatCmpLawsQ
namespace Go.Proofs.YtahbecinkciahaaGreat
open Go.ChangeShapes Go.WideShapes Go.ChangeAt Go.RowKit Go.Deep
set_option linter.unusedVariables false
/-- a state of the delta codec -/
structure DSt where
  v : Int
  i : Int
def DSt.row (a : DSt) : List Value := [.int .i64 a.v, .int .i64 a.i]
def DSt.ok (a : DSt) : Prop := (Lit.int .i64 a.v).wf = true ∧ (Lit.int .i64 a.i).wf = true
set_option maxRecDepth 100000 in
theorem DSt.of_trod {H : Type} {enc : TypeId × Value → H} {w : World} {base : Nat} {spare : Nat → Bool} {held : Bool} (n : Nat) (cs : List Value) (x : DataW H × List MemPlace) (h : DataW.trod enc Tryz.prog w base spare held n 24 cs = some x) : ∃ a : DSt, cs = a.row ∧ a.ok := by
  obtain ⟨hl, hf⟩ := flat_trod 12 n 24 [3, 3] cs x (by kernel_rfl) h
  obtain ⟨c0, h0, l0⟩ := hf 0 _ rfl
  obtain ⟨z0, rfl, w0⟩ := l0.int Tryz.underlying3
  obtain ⟨c1, h1, l1⟩ := hf 1 _ rfl
  obtain ⟨z1, rfl, w1⟩ := l1.int Tryz.underlying3
  exact ⟨⟨z0, z1⟩, AllAt.eq ⟨h0, h1, trivial⟩ hl, w0, w1⟩
set_option maxRecDepth 100000 in
theorem DSt.open_ {H : Type} {enc : TypeId × Value → H} {w : World} {r : Reach} {b0 base : Nat} {spare : Nat → Bool} {held : Bool} {v : Value} {d : DataW H} {p : List MemPlace} (hv : Value.okWide Tryz.prog w r b0 24 v) (h : DataW.Trod enc Tryz.prog w base spare held 24 v d p) : ∃ a : DSt, v = .agg a.row.toArray ∧ a.ok := by
  obtain ⟨cs, rfl, _⟩ := okWide_struct Tryz.underlying24 hv
  obtain ⟨n, h⟩ := h
  obtain ⟨a, ha, hok⟩ := DSt.of_trod n _ _ h
  refine ⟨a, ?_, hok⟩
  have : cs.toList = a.row := by simpa [Value.cells] using ha
  rw [← this]
end Go.Proofs.YtahbecinkciahaaGreat

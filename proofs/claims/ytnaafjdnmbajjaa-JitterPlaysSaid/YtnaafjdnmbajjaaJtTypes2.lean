/- The types of layer 30's arguments: a configuration, a step. -/
import Derived.Test.YtnaafjdnmbajjaaJtLivesQ
namespace Go.Proofs.Ytnaafjdnmbajjaa
open Go.ChangeShapes Go.WideShapes Go.ChangeAt Go.RowKit Go.Deep
set_option linter.unusedVariables false
/-- a step, and where its packet's payload lies -/
structure TStep where
  wait : Int
  idle : Bool
  m : Jb.Md
  B : Option Addr
  c : Nat
def TStep.row (a : TStep) : List Value := [.int .u16 a.wait, .bool a.idle, .int .i64 a.m.sq, .int .i64 a.m.ti, .bool a.m.mrk, .int .u8 a.m.ty, .slice a.B a.m.pl.length a.c]
def TStep.ok (w : World) (a : TStep) : Prop := (Lit.int .u16 a.wait).wf = true ∧ I64 a.m.sq ∧ I64 a.m.ti ∧ a.m.pl.length ≤ a.c ∧ IntsAt w w.heap.size .u8 a.B a.m.pl
section
variable {H : Type} {enc : TypeId × Value → H} {w : World} {base : Nat} {spare : Nat → Bool} {held : Bool}
theorem TStep.of_trod (n : Nat) (cs : List Value) (x : DataW H × List MemPlace) (h : DataW.trod enc Try.prog w base spare held n 46 cs = some x) : ∃ a : TStep, cs = a.row ∧ a.ok w := by
  obtain ⟨hl, hf⟩ := flat_trod 12 n 46 [44, 4, 2, 2, 4, 5, 27] cs x (by kernel_rfl) h
  obtain ⟨c0, h0, l0⟩ := hf 0 _ rfl
  obtain ⟨z0, rfl, w0⟩ := l0.int Try.underlying44
  obtain ⟨c1, h1, l1⟩ := hf 1 _ rfl
  obtain ⟨z1, rfl⟩ := l1.bool Try.underlying4
  obtain ⟨c2, h2, l2⟩ := hf 2 _ rfl
  obtain ⟨z2, rfl, w2⟩ := l2.int Try.underlying2
  obtain ⟨c3, h3, l3⟩ := hf 3 _ rfl
  obtain ⟨z3, rfl, w3⟩ := l3.int Try.underlying2
  obtain ⟨c4, h4, l4⟩ := hf 4 _ rfl
  obtain ⟨z4, rfl⟩ := l4.bool Try.underlying4
  obtain ⟨c5, h5, l5⟩ := hf 5 _ rfl
  obtain ⟨z5, rfl, w5⟩ := l5.int Try.underlying5
  obtain ⟨c6, h6, l6⟩ := hf 6 _ rfl
  obtain ⟨A6, z6, cap6, rfl, e6, f6, g6, w6⟩ := l6.ints Try.underlying27 Try.underlying5 (by kernel_rfl)
  exact ⟨⟨z0, z1, ⟨z2, z3, z4, z5, z6⟩, A6, cap6⟩, AllAt.eq ⟨h0, h1, h2, h3, h4, h5, h6, trivial⟩ hl, w0, i64_of w2, i64_of w3, e6, g6⟩
theorem jc_open {r : Reach} {b0 : Nat} {v : Value} {d : DataW H} {p : List MemPlace} (hv : Value.okWide Try.prog w r b0 23 v) (h : DataW.Trod enc Try.prog w base spare held 23 v d p) : ∃ a b : Int, v = .agg #[.int .i64 a, .int .i64 b] ∧ I64 a ∧ I64 b := by
  obtain ⟨cs, rfl, _⟩ := okWide_struct Try.underlying23 hv
  obtain ⟨n, h⟩ := h
  obtain ⟨hl, hf⟩ := flat_trod 12 n 23 [3, 3] _ _ (by kernel_rfl) h
  obtain ⟨c0, h0, l0⟩ := hf 0 _ rfl
  obtain ⟨z0, rfl, w0⟩ := l0.int Try.underlying3
  obtain ⟨c1, h1, l1⟩ := hf 1 _ rfl
  obtain ⟨z1, rfl, w1⟩ := l1.int Try.underlying3
  refine ⟨z0, z1, ?_, i64_of w0, i64_of w1⟩
  have ha : (Value.agg cs).cells.toList = [.int .i64 z0, .int .i64 z1] := AllAt.eq ⟨h0, h1, trivial⟩ hl
  have : cs.toList = [.int .i64 z0, .int .i64 z1] := by simpa [Value.cells] using ha
  rw [← this]
end
end Go.Proofs.Ytnaafjdnmbajjaa

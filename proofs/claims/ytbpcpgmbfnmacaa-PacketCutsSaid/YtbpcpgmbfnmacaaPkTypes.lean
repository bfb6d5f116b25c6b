/- The types of layer 25's arguments. -/
import Derived.Test.YtbpcpgmbfnmacaaOpenRows
import Derived.Test.YtbpcpgmbfnmacaaMem
namespace Go.Proofs.Ytbpcpgmbfnmacaa
open Go.ChangeShapes Go.WideShapes Go.ChangeAt Go.RowKit Go.Deep
set_option linter.unusedVariables false
/-- a packet that came in -/
structure TPk where
  mrk : Bool
  ty : Int
  sq : Int
  ti : Int
  so : Int
  mxA : Option Addr
  mx : List Int
  mxC : Nat
  ex : Bool
  ek : Int
  etA : Option Addr
  et : List Int
  etC : Nat
  plA : Option Addr
  pl : List Int
  plC : Nat
  pad : Int
def TPk.row (a : TPk) : List Value := [.bool a.mrk, .int .u8 a.ty, .int .u16 a.sq, .int .u32 a.ti, .int .u32 a.so, .slice a.mxA a.mx.length a.mxC, .bool a.ex, .int .u16 a.ek, .slice a.etA a.et.length a.etC, .slice a.plA a.pl.length a.plC, .int .i64 a.pad]
def TPk.ok (w : World) (a : TPk) : Prop := (Lit.int .u8 a.ty).wf = true ∧ (Lit.int .u16 a.sq).wf = true ∧ (Lit.int .u32 a.ti).wf = true ∧ (Lit.int .u32 a.so).wf = true ∧ a.mx.length ≤ a.mxC ∧ a.mxC ≤ maxLen ∧ IntsAt w w.heap.size .u32 a.mxA a.mx ∧ (∀ z ∈ a.mx, (Lit.int .u32 z).wf = true) ∧ (Lit.int .u16 a.ek).wf = true ∧ a.et.length ≤ a.etC ∧ a.etC ≤ maxLen ∧ IntsAt w w.heap.size .u8 a.etA a.et ∧ (∀ z ∈ a.et, (Lit.int .u8 z).wf = true) ∧ a.pl.length ≤ a.plC ∧ a.plC ≤ maxLen ∧ IntsAt w w.heap.size .u8 a.plA a.pl ∧ (∀ z ∈ a.pl, (Lit.int .u8 z).wf = true) ∧ (Lit.int .i64 a.pad).wf = true
theorem TPk.of_trod {H : Type} {enc : TypeId × Value → H} {w : World} {base : Nat} {spare : Nat → Bool} {held : Bool} (n : Nat) (cs : List Value) (x : DataW H × List MemPlace) (h : DataW.trod enc Try.prog w base spare held n 27 cs = some x) : ∃ a : TPk, cs = a.row ∧ TPk.ok w a := by
  obtain ⟨hl, hf⟩ := flat_trod 12 n 27 [4, 5, 22, 23, 23, 24, 4, 22, 25, 25, 3] cs x (by kernel_rfl) h
  obtain ⟨c0, h0, l0⟩ := hf 0 _ rfl
  obtain ⟨z0, rfl⟩ := l0.bool Try.underlying4
  obtain ⟨c1, h1, l1⟩ := hf 1 _ rfl
  obtain ⟨z1, rfl, w1⟩ := l1.int Try.underlying5
  obtain ⟨c2, h2, l2⟩ := hf 2 _ rfl
  obtain ⟨z2, rfl, w2⟩ := l2.int Try.underlying22
  obtain ⟨c3, h3, l3⟩ := hf 3 _ rfl
  obtain ⟨z3, rfl, w3⟩ := l3.int Try.underlying23
  obtain ⟨c4, h4, l4⟩ := hf 4 _ rfl
  obtain ⟨z4, rfl, w4⟩ := l4.int Try.underlying23
  obtain ⟨c5, h5, l5⟩ := hf 5 _ rfl
  obtain ⟨A5, z5, cap5, rfl, e5, f5, g5, w5⟩ := l5.ints Try.underlying24 Try.underlying23 (by kernel_rfl)
  obtain ⟨c6, h6, l6⟩ := hf 6 _ rfl
  obtain ⟨z6, rfl⟩ := l6.bool Try.underlying4
  obtain ⟨c7, h7, l7⟩ := hf 7 _ rfl
  obtain ⟨z7, rfl, w7⟩ := l7.int Try.underlying22
  obtain ⟨c8, h8, l8⟩ := hf 8 _ rfl
  obtain ⟨A8, z8, cap8, rfl, e8, f8, g8, w8⟩ := l8.ints Try.underlying25 Try.underlying5 (by kernel_rfl)
  obtain ⟨c9, h9, l9⟩ := hf 9 _ rfl
  obtain ⟨A9, z9, cap9, rfl, e9, f9, g9, w9⟩ := l9.ints Try.underlying25 Try.underlying5 (by kernel_rfl)
  obtain ⟨c10, h10, l10⟩ := hf 10 _ rfl
  obtain ⟨z10, rfl, w10⟩ := l10.int Try.underlying3
  exact ⟨⟨z0, z1, z2, z3, z4, A5, z5, cap5, z6, z7, A8, z8, cap8, A9, z9, cap9, z10⟩, AllAt.eq ⟨h0, h1, h2, h3, h4, h5, h6, h7, h8, h9, h10, trivial⟩ hl, w1, w2, w3, w4, e5, f5, g5, w5, w7, e8, f8, g8, w8, e9, f9, g9, w9, w10⟩
theorem TPk.open_ {H : Type} {enc : TypeId × Value → H} {w : World} {r : Reach} {b0 base : Nat} {spare : Nat → Bool} {held : Bool} {v : Value} {d : DataW H} {p : List MemPlace} (hv : Value.okWide Try.prog w r b0 27 v) (h : DataW.Trod enc Try.prog w base spare held 27 v d p) : ∃ a : TPk, v = .agg a.row.toArray ∧ TPk.ok w a := by
  obtain ⟨cs, rfl, _⟩ := okWide_struct Try.underlying27 hv
  obtain ⟨n, h⟩ := h
  obtain ⟨a, ha, hok⟩ := TPk.of_trod n _ _ h
  refine ⟨a, ?_, hok⟩
  have : cs.toList = a.row := by simpa [Value.cells] using ha
  rw [← this]
/-- a track that came in -/
structure TTr where
  on : Bool
  hi : Int
  ju : Int
def TTr.row (a : TTr) : List Value := [.bool a.on, .int .i64 a.hi, .int .i64 a.ju]
def TTr.ok (a : TTr) : Prop := (Lit.int .i64 a.hi).wf = true ∧ (Lit.int .i64 a.ju).wf = true
theorem TTr.of_trod {H : Type} {enc : TypeId × Value → H} {w : World} {base : Nat} {spare : Nat → Bool} {held : Bool} (n : Nat) (cs : List Value) (x : DataW H × List MemPlace) (h : DataW.trod enc Try.prog w base spare held n 40 cs = some x) : ∃ a : TTr, cs = a.row ∧ a.ok := by
  obtain ⟨hl, hf⟩ := flat_trod 12 n 40 [4, 2, 3] cs x (by kernel_rfl) h
  obtain ⟨c0, h0, l0⟩ := hf 0 _ rfl
  obtain ⟨z0, rfl⟩ := l0.bool Try.underlying4
  obtain ⟨c1, h1, l1⟩ := hf 1 _ rfl
  obtain ⟨z1, rfl, w1⟩ := l1.int Try.underlying2
  obtain ⟨c2, h2, l2⟩ := hf 2 _ rfl
  obtain ⟨z2, rfl, w2⟩ := l2.int Try.underlying3
  exact ⟨⟨z0, z1, z2⟩, AllAt.eq ⟨h0, h1, h2, trivial⟩ hl, w1, w2⟩
theorem TTr.open_ {H : Type} {enc : TypeId × Value → H} {w : World} {r : Reach} {b0 base : Nat} {spare : Nat → Bool} {held : Bool} {v : Value} {d : DataW H} {p : List MemPlace} (hv : Value.okWide Try.prog w r b0 40 v) (h : DataW.Trod enc Try.prog w base spare held 40 v d p) : ∃ a : TTr, v = .agg a.row.toArray ∧ a.ok := by
  obtain ⟨cs, rfl, _⟩ := okWide_struct Try.underlying40 hv
  obtain ⟨n, h⟩ := h
  obtain ⟨a, ha, hok⟩ := TTr.of_trod n _ _ h
  refine ⟨a, ?_, hok⟩
  have : cs.toList = a.row := by simpa [Value.cells] using ha
  rw [← this]
theorem wf_u8 {z : Int} (h : (Lit.int .u8 z).wf = true) : 0 ≤ z ∧ z ≤ 255 := by simpa [Lit.wf, IntKind.min, IntKind.max, IntKind.signed, IntKind.bits] using h
theorem wf_u16 {z : Int} (h : (Lit.int .u16 z).wf = true) : 0 ≤ z ∧ z ≤ 65535 := by simpa [Lit.wf, IntKind.min, IntKind.max, IntKind.signed, IntKind.bits] using h
theorem wf_u32 {z : Int} (h : (Lit.int .u32 z).wf = true) : 0 ≤ z ∧ z ≤ 4294967295 := by simpa [Lit.wf, IntKind.min, IntKind.max, IntKind.signed, IntKind.bits] using h
theorem wf_i64 {z : Int} (h : (Lit.int .i64 z).wf = true) : -9223372036854775808 ≤ z ∧ z ≤ 9223372036854775807 := by simpa [Lit.wf, IntKind.min, IntKind.max, IntKind.signed, IntKind.bits] using h
theorem TPk.facts {w : World} (mk : Bool) (ty sq ti so : Int) (Am : Option Addr) (mx : List Int) (cm : Nat) (ex : Bool) (ek : Int) (Ae : Option Addr) (et : List Int) (ce : Nat) (Ap : Option Addr) (pl : List Int) (cp : Nat) (pad : Int) (h : TPk.ok w ⟨mk, ty, sq, ti, so, Am, mx, cm, ex, ek, Ae, et, ce, Ap, pl, cp, pad⟩) : (0 ≤ ty ∧ ty ≤ 255) ∧ (0 ≤ sq ∧ sq ≤ 65535) ∧ (0 ≤ ti ∧ ti ≤ 4294967295) ∧ (0 ≤ so ∧ so ≤ 4294967295) ∧ (0 ≤ ek ∧ ek ≤ 65535) ∧ (-9223372036854775808 ≤ pad ∧ pad ≤ 9223372036854775807) ∧ (IntsAt w w.heap.size .u32 Am mx ∧ Within 0 4294967295 mx ∧ mx.length ≤ maxLen) ∧ (IntsAt w w.heap.size .u8 Ae et ∧ Within 0 255 et ∧ et.length ≤ maxLen) ∧ (IntsAt w w.heap.size .u8 Ap pl ∧ Within 0 255 pl ∧ pl.length ≤ maxLen) := by
  obtain ⟨a1, a2, a3, a4, b1, b2, b3, b4, a5, c1, c2, c3, c4, d1, d2, d3, d4, a6⟩ := h
  exact ⟨wf_u8 a1, wf_u16 a2, wf_u32 a3, wf_u32 a4, wf_u16 a5, wf_i64 a6, ⟨b3, fun z hz => wf_u32 (b4 z hz), Nat.le_trans b1 b2⟩, ⟨c3, fun z hz => wf_u8 (c4 z hz), Nat.le_trans c1 c2⟩, ⟨d3, fun z hz => wf_u8 (d4 z hz), Nat.le_trans d1 d2⟩⟩
end Go.Proofs.Ytbpcpgmbfnmacaa

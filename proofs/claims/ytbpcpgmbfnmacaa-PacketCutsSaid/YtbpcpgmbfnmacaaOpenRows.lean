/- Opening an argument that is a slice of structs, or a slice of slices of integers. Over any program. -/
import Derived.Test.YtbpcpgmbfnmacaaRowed
namespace Go.Proofs.Ytbpcpgmbfnmacaa
open Go.ChangeShapes Go.WideShapes Go.ChangeAt Go.RowKit Go.Deep
set_option linter.unusedVariables false
section
variable {H : Type} {enc : TypeId × Value → H} {P : Program} {w : World} {r : Reach} {b0 base : Nat} {spare : Nat → Bool} {held : Bool}
/-- AN ARGUMENT THAT IS A SLICE of elements whose cells are known. -/
theorem open_rows {α : Type} {row : α → List Value} {ok : α → Prop} {t e : TypeId} {v : Value} {size : Nat} {d : DataW H} {p : List MemPlace} (ht : P.underlying t = some (.slice e)) (hsz : P.cellsOf e = size) (h0 : 0 < size)
    (hv : Value.okWide P w r b0 t v) (h : DataW.Trod enc P w base spare held t v d p) (hopen : ∀ n cs x, DataW.trod enc P w base spare held n e cs = some x → ∃ a, cs = row a ∧ ok a) :
    ∃ (A : Option Addr) (l : List α) (cap : Nat), v = .slice A l.length cap ∧ l.length ≤ cap ∧ cap ≤ maxLen ∧ RowsAt w w.heap.size size row A l ∧ ∀ a ∈ l, ok a := by
  obtain ⟨A, len, cap, rfl⟩ := okWide_slice ht hv
  obtain ⟨n, h⟩ := h
  exact Leaf.rows ⟨n, _, h⟩ ht hsz h0 hopen
/-- a slice of integers as an element -/
structure TInts where
  A : Option Addr
  zs : List Int
  cap : Nat
def TInts.row (a : TInts) : List Value := [.slice a.A a.zs.length a.cap]
def TInts.ok (k : IntKind) (w : World) (a : TInts) : Prop := a.zs.length ≤ a.cap ∧ a.cap ≤ maxLen ∧ IntsAt w w.heap.size k a.A a.zs ∧ ∀ z ∈ a.zs, (Lit.int k z).wf = true
theorem TInts.of_trod {t e : TypeId} {k : IntKind} (ht : P.underlying t = some (.slice e)) (he : P.underlying e = some (.int k)) (hc : P.cellsOf e = 1) (n : Nat) (cs : List Value) (x : DataW H × List MemPlace)
    (h : DataW.trod enc P w base spare held n t cs = some x) : ∃ a : TInts, cs = a.row ∧ a.ok k w := by
  have hv : ∃ v, cs = [v] := by
    rcases open_slice ht h with ⟨hcs, _⟩ | ⟨x, l, c, _, _, _, _, hcs, _⟩
    · exact ⟨_, hcs⟩
    · exact ⟨_, hcs⟩
  obtain ⟨v, rfl⟩ := hv
  obtain ⟨A, zs, cap, rfl, h1, h2, h3, h4⟩ := Leaf.ints (enc := enc) (spare := spare) (held := held) (base := base) ⟨n, x, h⟩ ht he hc
  exact ⟨⟨A, zs, cap⟩, rfl, h1, h2, h3, h4⟩
/-- AN ARGUMENT THAT IS A STRING or a slice, one cell -/
theorem open_bools {t e : TypeId} {v : Value} {d : DataW H} {p : List MemPlace} (ht : P.underlying t = some (.slice e)) (he : P.underlying e = some .bool) (hc : P.cellsOf e = 1)
    (hv : Value.okWide P w r b0 t v) (h : DataW.Trod enc P w base spare held t v d p) :
    ∃ (A : Option Addr) (l : List Bool) (cap : Nat), v = .slice A l.length cap ∧ l.length ≤ cap ∧ cap ≤ maxLen ∧ RowsAt w w.heap.size 1 (fun b : Bool => [Value.bool b]) A l := by
  obtain ⟨A, l, cap, h1, h2, h3, h4, _⟩ := open_rows (row := fun b : Bool => [Value.bool b]) (ok := fun _ => True) ht hc (by decide) hv h (fun n cs x h => by
    obtain ⟨b, hb, _⟩ := DataW.trod_bool he h
    exact ⟨b, hb, trivial⟩)
  exact ⟨A, l, cap, h1, h2, h3, h4⟩
end
end Go.Proofs.Ytbpcpgmbfnmacaa

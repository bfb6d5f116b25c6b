/- Slices of structs: what the call owns reads as a list of rows; it stays so in later worlds. -/
import Derived.Test.YtbpcpgmbfnmacaaOpen
import Derived.Test.YtbpcpgmbfnmacaaLaw
namespace Go.Proofs.Ytbpcpgmbfnmacaa
open Go.RowKit
set_option linter.unusedVariables false
section
variable {α : Type} {row : α → List Value} {w w' : World} {B size : Nat} {A : Option Addr} {l : List α}
theorem RowsAt.nil : RowsAt w B size row A [] := fun h => absurd h (by simp)
theorem RowsAt.keep (h : RowsAt w B size row A l) (hk : ∀ p : Addr, p.block < B → w'.cell? p = w.cell? p) : RowsAt w' B size row A l := fun h0 => by
  obtain ⟨b, off, rfl, hb, hc⟩ := h h0
  exact ⟨b, off, rfl, hb, fun i a ha j v hv => (hk _ hb).trans (hc i a ha j v hv)⟩
theorem RowsAt.more {B' : Nat} (h : RowsAt w B size row A l) (hB : B ≤ B') : RowsAt w B' size row A l := fun h0 => by
  obtain ⟨b, off, rfl, hb, hc⟩ := h h0
  exact ⟨b, off, rfl, by omega, hc⟩
theorem RowsAt.later (h : RowsAt w w.heap.size size row A l) (hb : Below w.heap.size w w') : RowsAt w' w'.heap.size size row A l := (h.keep fun _ hp => hb.cell hp).more hb.size
theorem RowsAt.push (h : RowsAt w w.heap.size size row A l) (o : Obj) : RowsAt (w.alloc o) (w.alloc o).heap.size size row A l := (h.keep fun p hp => World.cell?_alloc_lt w o p hp).more (by simp)
theorem RowsAt.setCell (h : RowsAt w B size row A l) {p : Addr} (hB : B ≤ p.block) (u : Value) : RowsAt (w.setCell p u) B size row A l :=
  h.keep fun q hq => World.cell?_setCell_other w p q u (fun e => by subst e; omega)
theorem flat_get (hr : ∀ a, (row a).length = size) : ∀ (l : List α) (i : Nat) (a : α), l[i]? = some a → ∀ (j : Nat) (v : Value), (row a)[j]? = some v → (l.flatMap row)[i * size + j]? = some v
  | [], i, a, h, _, _, _ => by simp at h
  | b :: l, 0, a, h, j, v, hv => by
    simp at h
    subst h
    rw [List.flatMap_cons, Nat.zero_mul, Nat.zero_add, List.getElem?_append_left (List.getElem?_eq_some_iff.1 hv).1]
    exact hv
  | b :: l, i + 1, a, h, j, v, hv => by
    have ih := flat_get hr l i a (by simpa using h) j v hv
    rw [List.flatMap_cons, List.getElem?_append_right (by rw [hr, Nat.succ_mul]; omega), hr]
    rw [← ih]; congr 1
    rw [Nat.succ_mul]; omega
/-- what the call owns, as rows -/
theorem Owns.rows {base n c : Nat} {e : TypeId} (h : Owns w base e size A n c (l.flatMap row)) (hn : l.length = n) (hr : ∀ a, (row a).length = size) : RowsAt w w.heap.size size row A l := fun h0 => by
  obtain ⟨g, rfl, hg, hlt⟩ := Owns.form h (by omega)
  refine ⟨g, 0, rfl, hlt, fun i a ha j v hv => ?_⟩
  have hc := World.ownsRow.cells (g := g) h rfl (i * size + j) v (flat_get hr l i a ha j v hv)
  rw [← hc]
  by_cases h1 : i * size + j = 0
  · rw [h1]
    have : (⟨g, 0 + i * size + j, none⟩ : Addr) = ⟨g, 0, none⟩ := by congr 1; omega
    rw [this]; rfl
  · simp only [Addr.add, h1, if_false]
    congr 2; omega
/-- a literal's new block -/
theorem RowsAt.lit0 (w : World) (e : TypeId) (row : α → List Value) (l : List α) (cs : Array Value) (h : cs.toList = l.flatMap row) (hr : ∀ a, (row a).length = size) : RowsAt (w.alloc (.cells cs e)) (w.alloc (.cells cs e)).heap.size size row (some ⟨w.heap.size, 0, none⟩) l := fun _ => by
  refine ⟨w.heap.size, 0, rfl, by simp, fun i a ha j v hv => ?_⟩
  rw [(Blk.new w e cs).cell, Nat.zero_add]
  have := flat_get hr l i a ha j v hv
  rw [← h] at this
  simpa using this
theorem RowsAt.lit2 (w : World) (o1 o2 : Obj) (e : TypeId) (row : α → List Value) (l : List α) (cs : Array Value) (h : cs.toList = l.flatMap row) (hr : ∀ a, (row a).length = size) : RowsAt (((w.alloc o1).alloc o2).alloc (.cells cs e)) (((w.alloc o1).alloc o2).alloc (.cells cs e)).heap.size size row (some ⟨w.heap.size + 1 + 1, 0, none⟩) l := by
  have := RowsAt.lit0 ((w.alloc o1).alloc o2) e row l cs h hr
  simpa using this
end
/-- rows that a call has made: in a block from n on -/
def RowsNew {α : Type} (n : Nat) (w : World) (size : Nat) (row : α → List Value) (A : Option Addr) (l : List α) : Prop :=
  RowsAt w w.heap.size size row A l ∧ (0 < l.length → ∀ b off, A = some ⟨b, off, none⟩ → n ≤ b)
section
variable {α : Type} {row : α → List Value} {w w' : World} {B n size : Nat} {A : Option Addr} {l : List α}
theorem RowsNew.nil : RowsNew n w size row A [] := ⟨RowsAt.nil, fun h => absurd h (by simp)⟩
theorem RowsNew.later (h : RowsNew n w size row A l) (hb : Below w.heap.size w w') : RowsNew n w' size row A l := ⟨h.1.later hb, h.2⟩
theorem RowsNew.push (h : RowsNew n w size row A l) (o : Obj) : RowsNew n (w.alloc o) size row A l := ⟨h.1.push o, h.2⟩
theorem RowsNew.less {m : Nat} (h : RowsNew n w size row A l) (hm : m ≤ n) : RowsNew m w size row A l := ⟨h.1, fun h0 b off e => Nat.le_trans hm (h.2 h0 b off e)⟩
theorem RowsNew.setCell (h : RowsNew n w size row A l) {p : Addr} (hp : p.block < n) (u : Value) : RowsNew n (w.setCell p u) size row A l := by
  refine ⟨fun h0 => ?_, h.2⟩
  obtain ⟨b, off, rfl, hb, hc⟩ := h.1 h0
  have hn := h.2 h0 b off rfl
  refine ⟨b, off, rfl, by simpa [World.setCell] using hb, fun i a ha j v hv => ?_⟩
  rw [World.cell?_setCell_other w p _ u (fun e => by subst e; simp at hp; omega)]
  exact hc i a ha j v hv
theorem Owns.rowsNew {base n c : Nat} {e : TypeId} (h : Owns w base e size A n c (l.flatMap row)) (hn : l.length = n) (hr : ∀ a, (row a).length = size) (hB : B ≤ base := by omega) : RowsNew B w size row A l := by
  refine ⟨Owns.rows h hn hr, fun h0 b off e => ?_⟩
  obtain ⟨g, rfl, hg, hlt⟩ := Owns.form h (by omega)
  injection e with e
  injection e with e1 e2
  omega
end
end Go.Proofs.Ytbpcpgmbfnmacaa

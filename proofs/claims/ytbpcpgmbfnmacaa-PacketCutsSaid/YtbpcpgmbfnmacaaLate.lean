/- A variable of several cells that was made ahead of a call and is written behind it, cell by cell. -/
import Derived.Test.YtbpcpgmbfnmacaaRowed
namespace Go.Proofs.Ytbpcpgmbfnmacaa
open Go.RowKit
set_option linter.unusedVariables false
theorem and_dep {p q : Prop} (h : p) (f : p → q) : p ∧ q := ⟨h, f h⟩
theorem size_alloc1 (w : World) (a : Obj) : (w.alloc a).heap.size = w.heap.size + 1 := by simp
theorem size_alloc2 (w : World) (a b : Obj) : ((w.alloc a).alloc b).heap.size = w.heap.size + 1 + 1 := by simp
theorem size_alloc3 (w : World) (a b c : Obj) : (((w.alloc a).alloc b).alloc c).heap.size = w.heap.size + 1 + 1 + 1 := by simp
/-- the cells of block g from i on are written -/
def setRow (g : Nat) : World → Nat → List Value → World
  | w, _, [] => w
  | w, i, v :: vs => setRow g (w.setCell ⟨g, i, none⟩ v) (i + 1) vs
theorem setRow_size (g : Nat) : ∀ (vs : List Value) (w : World) (i : Nat), (setRow g w i vs).heap.size = w.heap.size
  | [], _, _ => rfl
  | v :: vs, w, i => by
    unfold setRow
    rw [setRow_size g vs]
    simp [World.setCell]
theorem below_setRow {B g : Nat} {W : World} (hB : B ≤ g) : ∀ (vs : List Value) (w : World) (i : Nat), Below B W w → Below B W (setRow g w i vs)
  | [], _, _, h => h
  | v :: vs, w, i, h => below_setRow hB vs _ (i + 1) (h.setCell hB v)
theorem RowsNew.setRow {α : Type} {row : α → List Value} {g n size : Nat} {A : Option Addr} {l : List α} (hg : g < n) : ∀ (vs : List Value) (w : World) (i : Nat), RowsNew n w size row A l → RowsNew n (setRow g w i vs) size row A l
  | [], _, _, h => h
  | v :: vs, w, i, h => RowsNew.setRow hg vs _ (i + 1) (RowsNew.setCell h hg v)
/-- the cells ahead of i, then the new ones -/
theorem Blk.setRow_ {g : Nat} {t : TypeId} : ∀ (vs : List Value) (w : World) (i : Nat) (cs : Array Value), Blk w g t cs → cs.size = i + vs.length → Blk (setRow g w i vs) g t (cs.toList.take i ++ vs).toArray
  | [], w, i, cs, h, hs => by
    have : (cs.toList.take i ++ []).toArray = cs := by
      simp at hs
      rw [List.append_nil, List.take_of_length_le (by simp; omega)]
    rw [this]; exact h
  | v :: vs, w, i, cs, h, hs => by
    have h2 := Blk.setRow_ vs (w.setCell ⟨g, i, none⟩ v) (i + 1) _ (h.set_ i v) (by simp at hs ⊢; omega)
    have he : ((cs.setIfInBounds i v).toList.take (i + 1) ++ vs) = cs.toList.take i ++ v :: vs := by
      have hi : i < cs.size := by simp at hs; omega
      simp only [Array.toList_setIfInBounds]
      rw [List.take_succ_eq_append_getElem (by simpa using hi)]
      simp [List.take_set_of_le]
    rw [he] at h2
    exact h2
theorem Blk.setRow {g : Nat} {t : TypeId} {w : World} {cs : Array Value} (h : Blk w g t cs) (vs : List Value) (hs : cs.size = vs.length) : Blk (setRow g w 0 vs) g t vs.toArray := by
  have := Blk.setRow_ vs w 0 cs h (by omega)
  simpa using this
theorem Blk.farRow {g g' : Nat} {t : TypeId} {cs : Array Value} (hg : g ≠ g') : ∀ (vs : List Value) (w : World) (i : Nat), Blk w g t cs → Blk (Go.Proofs.Ytbpcpgmbfnmacaa.setRow g' w i vs) g t cs
  | [], _, _, h => h
  | v :: vs, w, i, h => Blk.farRow hg vs _ (i + 1) (h.far (by exact hg) v)
theorem Owns.setRow {base size n c : Nat} {e : TypeId} {A : Option Addr} {xs : List Value} (g : Nat) : ∀ (vs : List Value) (w : World) (i : Nat), (∀ b, ownB A = some b → b ≠ g) → Owns w base e size A n c xs → Owns (Go.Proofs.Ytbpcpgmbfnmacaa.setRow g w i vs) base e size A n c xs
  | [], _, _, _, h => h
  | v :: vs, w, i, hb, h => Owns.setRow g vs _ (i + 1) hb (h.setCell (fun b he => hb b he) v)
/-- integers that a call has made: in a block from n on -/
def IntsNew (n : Nat) (w : World) (k : IntKind) (A : Option Addr) (zs : List Int) : Prop := IntsAt w w.heap.size k A zs ∧ (0 < zs.length → ∀ b off, A = some ⟨b, off, none⟩ → n ≤ b)
section
variable {w w' : World} {B n : Nat} {k : IntKind} {A : Option Addr} {zs : List Int}
theorem IntsNew.nil : IntsNew n w k A [] := ⟨IntsAt.nil, fun h => absurd h (by simp)⟩
theorem IntsNew.later (h : IntsNew n w k A zs) (hb : Below w.heap.size w w') : IntsNew n w' k A zs := ⟨h.1.later hb, h.2⟩
theorem IntsNew.push (h : IntsNew n w k A zs) (o : Obj) : IntsNew n (w.alloc o) k A zs := ⟨h.1.push o, h.2⟩
theorem IntsNew.less {m : Nat} (h : IntsNew n w k A zs) (hm : m ≤ n) : IntsNew m w k A zs := ⟨h.1, fun h0 b off e => Nat.le_trans hm (h.2 h0 b off e)⟩
theorem IntsNew.setCell (h : IntsNew n w k A zs) {p : Addr} (hp : p.block < n) (u : Value) : IntsNew n (w.setCell p u) k A zs := by
  refine ⟨fun h0 => ?_, h.2⟩
  obtain ⟨b, off, rfl, hb, hc⟩ := h.1 h0
  have hn := h.2 h0 b off rfl
  refine ⟨b, off, rfl, by simpa [World.setCell] using hb, fun i hi => ?_⟩
  rw [World.cell?_setCell_other w p _ u (fun e => by subst e; simp at hp; omega)]
  exact hc i hi
theorem IntsNew.of_own {base e : Nat} {n c : Nat} (h : Owns w base e 1 A n c (zs.map (Value.int k))) (hB : B ≤ base := by omega) : IntsNew B w k A zs := by
  refine ⟨IntsAt.of_own h, fun h0 b off e => ?_⟩
  have hn : zs.length = n := by have := h.1; simpa using this
  obtain ⟨g, rfl, hg, hlt⟩ := Owns.form h (by omega)
  injection e with e
  injection e with e1 e2
  omega
end
theorem IntsNew.setRow {k : IntKind} {g n : Nat} {A : Option Addr} {zs : List Int} (hg : g < n) : ∀ (vs : List Value) (w : World) (i : Nat), IntsNew n w k A zs → IntsNew n (setRow g w i vs) k A zs
  | [], _, _, h => h
  | v :: vs, w, i, h => IntsNew.setRow hg vs _ (i + 1) (IntsNew.setCell h hg v)
end Go.Proofs.Ytbpcpgmbfnmacaa

/- Words for the walks of the laws: what is carried over calls that only make new memory, and over new blocks. -/
import Derived.Test.YtbpcpgmbfnmacaaFrame
import Derived.Test.YtbpcpgmbfnmacaaBlk
import Derived.Deep.RegionHeld3
import Derived.Deep.DrawnRows
import Derived.Deep.DeepCutAuto
namespace Go.Proofs.Ytbpcpgmbfnmacaa
open Go.RowKit
set_option linter.unusedVariables false
theorem cell_old {W w' : World} {a : Addr} {v : Value} (hb : Below W.heap.size W w') (h : W.cell? a = some v) : w'.cell? a = some v := (hb.cell (cell_lt h)).trans h
theorem below_old' {w W w' : World} (hb : Below W.heap.size W w') (h : Below w.heap.size w W) : Below w.heap.size w w' := h.trans (hb.mono h.size)
theorem cell_new_old {W : World} {a : Addr} {v : Value} (h : W.cell? a = some v) (o : Obj) : (W.alloc o).cell? a = some v := by
  rw [World.cell?_alloc_lt W o a (cell_lt h)]; exact h
theorem below_new_old {w W : World} (h : Below w.heap.size w W) (o : Obj) : Below w.heap.size w (W.alloc o) := h.alloc h.size o
theorem below_set_old {B : Nat} {w W : World} {p : Addr} (h : Below B w W) (hp : B ≤ p.block) (u : Value) : Below B w (W.setCell p u) := h.setCell hp u
theorem cell_set_other {W : World} {a p : Addr} {v : Value} (h : W.cell? a = some v) (hp : a.block ≠ p.block) (u : Value) : (W.setCell p u).cell? a = some v := by
  rw [World.cell?_setCell_other W p a u (fun e => hp (by rw [e]))]; exact h
/-- integers of kind k do not lie in a block that holds no such integer -/
theorem IntsAt.set_other {w : World} {B g i : Nat} {k : IntKind} {A : Option Addr} {zs : List Int} {t : TypeId} {cs : Array Value} (h : IntsAt w B k A zs) (hb : Blk w g t cs) (hk : ∀ (j : Nat) (z : Int), cs[j]? ≠ some (.int k z)) (u : Value) : IntsAt (w.setCell ⟨g, i, none⟩ u) B k A zs := fun h0 => by
  obtain ⟨b, off, rfl, hbB, hc⟩ := h h0
  refine ⟨b, off, rfl, hbB, fun j hj => ?_⟩
  refine cell_set_other (hc j hj) ?_ u
  show b ≠ g
  rintro rfl
  have := hc j hj
  rw [hb.cell] at this
  exact hk _ _ this
/-- a variable of two cells that was made ahead of a call and is written behind it -/
theorem Blk.late2 {w' : World} {g : Nat} {k : IntKind} {A : Option Addr} {zs : List Int} {t : TypeId} {u0 u1 v0 v1 : Value} (h : IntsAt w' w'.heap.size k A zs) (hb : Blk w' g t #[u0, u1])
    (h0 : ∀ z, u0 ≠ .int k z) (h1 : ∀ z, u1 ≠ .int k z) (h2 : ∀ z, v0 ≠ .int k z) :
    IntsAt ((w'.setCell ⟨g, 0, none⟩ v0).setCell ⟨g, 1, none⟩ v1) ((w'.setCell ⟨g, 0, none⟩ v0).setCell ⟨g, 1, none⟩ v1).heap.size k A zs ∧ Blk ((w'.setCell ⟨g, 0, none⟩ v0).setCell ⟨g, 1, none⟩ v1) g t #[v0, v1] := by
  have two : ∀ (a b : Value), (∀ z, a ≠ .int k z) → (∀ z, b ≠ .int k z) → ∀ (j : Nat) (z : Int), #[a, b][j]? ≠ some (.int k z) := by
    intro a b ha hb j z
    match j with
    | 0 => intro e; injection e with e; exact ha z e
    | 1 => intro e; injection e with e; exact hb z e
    | n + 2 => simp
  have hb1 : Blk (w'.setCell ⟨g, 0, none⟩ v0) g t #[v0, u1] := hb.set_ 0 v0
  refine ⟨((h.set_other hb (two _ _ h0 h1) v0).set_other hb1 (two _ _ h2 h1) v1).more (by simp [World.setCell]), hb1.set_ 1 v1⟩
/-- what a function that returns a slice of integers and an error leaves -/
def RetInts (k : IntKind) (l : List Int) (er : Int) (w : World) (e : Ending) (w' : World) : Prop :=
  ∃ (A' : Option Addr) (c' : Nat), e = .returned (.tuple #[.slice A' l.length c', .int .u8 er]) ∧ IntsAt w' w'.heap.size k A' l ∧ Below w.heap.size w w'
/-- since w, only new memory has been written -/
def Bel (w W : World) : Prop := Below w.heap.size w W
theorem Bel.refl (w : World) : Bel w w := Below.refl _ _
theorem Bel.later {w W w' : World} (h : Bel w W) (hb : Below W.heap.size W w') : Bel w w' := h.trans (hb.mono h.size)
theorem Bel.push {w W : World} (h : Bel w W) (o : Obj) : Bel w (W.alloc o) := h.alloc h.size o
theorem Bel.drew {w W : World} (h : Bel w W) : Bel w W.drew := Below.drew h
theorem Bel.drewN {w W : World} (h : Bel w W) (n : Nat) : Bel w (W.drewN n) := ⟨h.os, h.tape, h.output, h.size, h.block⟩
theorem Blk.push {w : World} {g : Nat} {t : TypeId} {cs : Array Value} (h : Blk w g t cs) (o : Obj) : Blk (w.alloc o) g t cs := h.alloc o
theorem Blk.new1 (w : World) (o1 : Obj) (t : TypeId) (cs : Array Value) : Blk ((w.alloc o1).alloc (.cells cs t)) (w.heap.size + 1) t cs := by
  have h := Blk.new (w.alloc o1) t cs
  simpa using h
theorem Blk.new2 (w : World) (o1 o2 : Obj) (t : TypeId) (cs : Array Value) : Blk (((w.alloc o1).alloc o2).alloc (.cells cs t)) (w.heap.size + 1 + 1) t cs := by
  have h := Blk.new ((w.alloc o1).alloc o2) t cs
  simpa using h
theorem Blk.new3 (w : World) (o1 o2 o3 : Obj) (t : TypeId) (cs : Array Value) : Blk ((((w.alloc o1).alloc o2).alloc o3).alloc (.cells cs t)) (w.heap.size + 1 + 1 + 1) t cs := by
  have h := Blk.new (((w.alloc o1).alloc o2).alloc o3) t cs
  simpa using h
theorem IntsAt.push {w : World} {k : IntKind} {A : Option Addr} {zs : List Int} (h : IntsAt w w.heap.size k A zs) (o : Obj) : IntsAt (w.alloc o) (w.alloc o).heap.size k A zs :=
  (h.alloc (Nat.le_refl _) o).more (by simp)
/-- a literal's new block, behind 0 or 1 other new blocks -/
theorem IntsAt.lit0 (w : World) (e : TypeId) (k : IntKind) (zs : List Int) (cs : List Value) (h : cs = zs.map (Value.int k)) : IntsAt (w.alloc (.cells cs.toArray e)) (w.alloc (.cells cs.toArray e)).heap.size k (some ⟨w.heap.size, 0, none⟩) zs := IntsAt.new w e k zs cs h
theorem IntsAt.lit1 (w : World) (o : Obj) (e : TypeId) (k : IntKind) (zs : List Int) (cs : List Value) (h : cs = zs.map (Value.int k)) : IntsAt ((w.alloc o).alloc (.cells cs.toArray e)) ((w.alloc o).alloc (.cells cs.toArray e)).heap.size k (some ⟨w.heap.size + 1, 0, none⟩) zs := by
  have := IntsAt.new (w.alloc o) e k zs cs h
  simpa using this
end Go.Proofs.Ytbpcpgmbfnmacaa

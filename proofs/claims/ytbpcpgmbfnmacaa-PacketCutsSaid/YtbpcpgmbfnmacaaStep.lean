/- 'append(out, x)' of one element inside a region that draws its order; what such a region keeps of older memory. -/
import Derived.Test.YtbpcpgmbfnmacaaLate
import Derived.Deep.RegionHeldLaw
namespace Go.Proofs.Ytbpcpgmbfnmacaa
open Go.RowKit
set_option linter.unusedVariables false
theorem cell_keep {B : Nat} {W w' : World} {a : Addr} {v : Value} (hb : Below B W w') (hlt : a.block < B) (h : W.cell? a = some v) : w'.cell? a = some v := (hb.cell hlt).trans h
theorem below_keep_alloc {B : Nat} {W w' : World} (h : Below B W w') (hB : B ≤ W.heap.size) (o : Obj) : Below B W (w'.alloc o) := h.alloc (Nat.le_trans hB h.size) o
theorem own_ne {w : World} {base size n c g : Nat} {e : TypeId} {A : Option Addr} {xs : List Value} (h : Owns w base e size A n c xs) (hg : g < base) : some g ≠ ownB A := fun he => by have := (h.block g he.symm).1; omega
theorem own_ge {w : World} {base size n c B : Nat} {e : TypeId} {A : Option Addr} {xs : List Value} (h : Owns w base e size A n c xs) (hB : B ≤ base) : ∀ g, ownB A = some g → B ≤ g := fun g he => by have := (h.block g he).1; omega
theorem RowsAt.grown {α : Type} {r : α → List Value} {w w' : World} {B size : Nat} {A : Option Addr} {l : List α} {row : Option Nat} (h : RowsAt w B size r A l) (hg : w.grownBy w' row) (hB : B ≤ w.heap.size) (hr : ∀ g, row = some g → B ≤ g) : RowsAt w' B size r A l :=
  h.keep fun p hp => (Below.refl B w).grown hg hB hr |>.cell hp
theorem rows_start {α : Type} {r : α → List Value} {w2 : World} {g n size : Nat} {A : Option Addr} {l : List α} (h : RowsNew n w2 size r A l) (hg : g < n) (vs : List Value) (o : Obj) : RowsAt ((setRow g w2 0 vs).alloc o) w2.heap.size size r A l := by
  have h1 := (RowsNew.setRow hg vs w2 0 h).1
  rw [setRow_size] at h1
  exact h1.keep fun p hp => World.cell?_alloc_lt _ o p (by rw [setRow_size]; exact hp)
theorem RowsAt.drew {α : Type} {r : α → List Value} {w : World} {B size : Nat} {A : Option Addr} {l : List α} (h : RowsAt w B size r A l) : RowsAt w.drew B size r A l := h
/-- one element, whose cells lie in block g0 -/
theorem step_append_one {P : Program} {ops : Array Oper} {o : Oper} {a : Act} {w : World} {K : Act → World → Prop} {Q : Exit → Act → World → Prop} {E : Prop} (d : Tmp) (hgd : o.guard = none) (hd : o.dst = some d) (s x : Operand) (t : TypeId)
    (ho : o.op = .call { callee := .builtin .append, args := #[s, x], argTypes := #[t, t] })
    (base : Nat) (e : TypeId) (size bytes : Nat) (z : Value) (ht : P.underlying t = some (.slice e)) (hinfo : (P.info? e).map (fun i => (i.zero, i.size, i.bytes)) = some (some z, size, bytes))
    (hzs : z.cells.size = size) (hsz : 0 < size) (A : Option Addr) (n c : Nat) (xs : List Value) (hs : a.eval s = .slice A n c) (hown : Owns w base e size A n c xs)
    (g0 : Nat) (cs : List Value) (hl : cs.length = size) (h1 : ∀ u ∈ cs, u.oneCell' = true) (hx : a.eval x = .slice (some ⟨g0, 0, none⟩) 1 1) (hb : Blk w g0 e cs.toArray)
    (h63 : n + 1 ≤ maxLen) (hbytes : (n + 1) * bytes ≤ 140737488355328) (hbase : base ≤ w.heap.size)
    (h : ∀ (A' : Option Addr) (c' : Nat) (w' : World), Owns w' base e size A' (n + 1) c' (xs ++ cs) → w.grownBy w' (ownB A) → K (a.put (some d) (.slice A' (n + 1) c')) w') :
    if Region.wanted o (yielded ops a.tmps) = true then Oper.wp P o a w K Q else E := by
  obtain ⟨i, hi, hz0, hz1, hz2⟩ := info_parts hinfo
  refine step_append_lies w hgd s x t ho base e i z size bytes ht hi hz0 hz1 hz2 hzs hsz _ n xs hs hown ⟨g0, 0, none⟩ 1 1 cs hx (by omega) ?_ h1 (by omega) h63 hbytes hbase _ rfl ?_
  · intro j u hu
    exact World.news_of_block hb j u (by simpa using hu)
  · intro g cap w' hown' hg _ hlt
    rw [ownB_eq] at hg
    rw [hd]
    exact h _ _ w' hown' hg
end Go.Proofs.Ytbpcpgmbfnmacaa

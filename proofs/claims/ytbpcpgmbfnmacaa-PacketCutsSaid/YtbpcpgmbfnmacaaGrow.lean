/- A slice that is passed on and appended to by callees: what becomes of it and of the rest of memory. -/
import Derived.Test.YtbpcpgmbfnmacaaLate
import Derived.Test.YtbpcpgmbfnmacaaApp
namespace Go.Proofs.Ytbpcpgmbfnmacaa
open Go.RowKit
set_option linter.unusedVariables false
/-- from w0 (own slice at A0) to w (own slice at A): only the own block of w0 and new blocks have been written -/
def Grow (w0 : World) (A0 : Option Addr) (w : World) (A : Option Addr) : Prop :=
  w0.grownBy w (ownB A0) ∧ (ownB A = ownB A0 ∨ ∀ g, ownB A = some g → w0.heap.size ≤ g)
section
variable {w0 w w' : World} {A0 A A' : Option Addr}
theorem Grow.refl (w : World) (A : Option Addr) : Grow w A w A := ⟨World.grownBy.refl w _, .inl rfl⟩
theorem Grow.size (h : Grow w0 A0 w A) : w0.heap.size ≤ w.heap.size := h.1.size
/-- an append: the own block or a new one -/
theorem Grow.step (h : Grow w0 A0 w A) (hg : w.grownBy w' (ownB A)) (hat : ownB A' = ownB A ∨ ∀ g, ownB A' = some g → w.heap.size ≤ g) : Grow w0 A0 w' A' := by
  refine ⟨⟨hg.os.trans h.1.os, hg.tape.trans h.1.tape, hg.output.trans h.1.output, Nat.le_trans h.1.size hg.size, fun k hk hne => ?_⟩, ?_⟩
  · have h1 := h.1.block k hk hne
    have h2 : some k ≠ ownB A := by
      rcases h.2 with e | e
      · rw [e]; exact hne
      · intro e2
        have := e k e2.symm
        omega
    exact (hg.block k (Nat.lt_of_lt_of_le hk h.1.size) h2).trans h1
  · rcases hat with e | e
    · rw [e]; exact h.2
    · exact .inr fun g hg' => Nat.le_trans h.1.size (e g hg')
theorem Grow.alloc (h : Grow w0 A0 w A) (o : Obj) : Grow w0 A0 (w.alloc o) A := h.step (World.grownBy_alloc w o _) (.inl rfl)
theorem Grow.drew (h : Grow w0 A0 w A) : Grow w0 A0 w.drew A := ⟨⟨h.1.os, h.1.tape, h.1.output, h.1.size, h.1.block⟩, h.2⟩
/-- a call that makes new memory alone -/
theorem Grow.below (h : Grow w0 A0 w A) (hb : Below w.heap.size w w') : Grow w0 A0 w' A :=
  h.step ⟨hb.os, hb.tape, hb.output, hb.size, fun k hk _ => hb.block k hk⟩ (.inl rfl)
theorem Grow.trans {w1 : World} {A1 : Option Addr} (h : Grow w0 A0 w A) (h2 : Grow w A w1 A1) : Grow w0 A0 w1 A1 := h.step h2.1 h2.2
/-- what lies in another block stays -/
theorem Grow.blk {g : Nat} {t : TypeId} {cs : Array Value} (h : Grow w0 A0 w A) (hb : Blk w0 g t cs) (hne : some g ≠ ownB A0) : Blk w g t cs := hb.grown h.1 hne
theorem Grow.cell {a : Addr} {v : Value} (h : Grow w0 A0 w A) (hc : w0.cell? a = some v) (hne : some a.block ≠ ownB A0) : w.cell? a = some v := h.1.cell hc hne
theorem Grow.bel {a : World} {base size n c : Nat} {e : TypeId} {xs : List Value} (h : Grow w0 A0 w A) (ho : Owns w0 base e size A0 n c xs) (hb : Bel a w0) (hbase : a.heap.size ≤ base) : Bel a w :=
  below_own hb ho h.1 (Below.size hb) hbase
end
/-- 'out = append(out, x)', with where the new slice lies -/
theorem wpList_append_at {P : Program} {w0 : World} {ops : Array Oper} {rest : List Oper} {o : Oper} {a : Act} {Q : Exit → Act → World → Prop} (hgd : o.guard = none) (s x : Operand) (t : TypeId)
    (ho : o.op = .call { callee := .builtin .append, args := #[s, x], argTypes := #[t, t] })
    (base : Nat) (e : TypeId) (size bytes : Nat) (z : Value) (ht : P.underlying t = some (.slice e)) (hinfo : (P.info? e).map (fun i => (i.zero, i.size, i.bytes)) = some (some z, size, bytes))
    (hzs : z.cells.size = size) (hsz : 0 < size) (A : Option Addr) (n c : Nat) (xs : List Value) (hs : a.eval s = .slice A n c) (hown : Owns w0 base e size A n c xs)
    (cs : List Value) (hl : cs.length = size) (h1 : ∀ u ∈ cs, u.oneCell' = true) (hx : a.eval x = .slice (some ⟨w0.heap.size, 0, none⟩) 1 1)
    (h63 : n + 1 ≤ maxLen) (hbytes : (n + 1) * bytes ≤ 140737488355328) (hbase : base ≤ w0.heap.size)
    (h : ∀ (A' : Option Addr) (c' : Nat) (w' : World), Owns w' base e size A' (n + 1) c' (xs ++ cs) → w0.grownBy w' (ownB A) → (ownB A' = ownB A ∨ ∀ g, ownB A' = some g → w0.heap.size ≤ g) →
      wpList P ops Q rest (a.put o.dst (.slice A' (n + 1) c')) w') : wpList P ops Q (o :: rest) a (w0.alloc (.cells cs.toArray e)) := by
  obtain ⟨i, hi, hz0, hz1, hz2⟩ := info_parts hinfo
  refine wpList_append_lies (w0.alloc (.cells cs.toArray e)) hgd s x t ho base e i z size bytes ht hi hz0 hz1 hz2 hzs hsz _ n xs hs (hown.alloc _) ⟨w0.heap.size, 0, none⟩ 1 1 cs hx (by omega) ?_ h1 (by omega) h63 hbytes (by simp; omega) _ rfl ?_
  · intro j u hu
    have hc := Blk_cell w0 cs e j
    rw [← hu, ← hc]
    by_cases h0 : j = 0
    · subst h0; rfl
    · simp [Addr.add, h0]
  · intro g cap w' hown' hg hat hlt
    rw [ownB_eq] at hg hat
    have hsz' := hg.size
    refine h _ _ w' hown' ⟨hg.os, hg.tape, hg.output, Nat.le_trans (by simp) hsz', fun k hk hne => (hg.block k (by simp; omega) hne).trans (Below.heap_alloc w0 _ k hk)⟩ ?_
    rcases hat with e | e
    · exact .inl e.symm
    · refine .inr fun g' hg' => ?_
      injection hg' with hg'
      rw [← hg', e]; simp
/-- big-endian bytes -/
def be : Nat → Int → List Int
  | 0, _ => []
  | n + 1, x => be n (x / 256) ++ [x % 256]
theorem be_len : ∀ (n : Nat) (x : Int), (be n x).length = n
  | 0, _ => rfl
  | n + 1, x => by unfold be; rw [List.length_append, be_len n]; rfl
theorem be_bd : ∀ (n : Nat) (x : Int), Within 0 255 (be n x)
  | 0, _ => Within.nil _ _
  | n + 1, x => by
    unfold be
    refine (be_bd n _).append fun z hz => ?_
    rw [List.mem_singleton.1 hz]
    omega
/-- the byte k from the left -/
theorem be_front : ∀ (n : Nat) (x : Int), 0 ≤ x → be (n + 1) x = [x / 256 ^ n % 256] ++ be n x
  | 0, x, h => by simp [be]
  | n + 1, x, h => by
    have ih := be_front n (x / 256) (Int.ediv_nonneg h (by omega))
    show be (n + 1) (x / 256) ++ [x % 256] = _
    rw [ih]
    show _ = [x / 256 ^ (n + 1) % 256] ++ (be n (x / 256) ++ [x % 256])
    rw [List.append_assoc]
    congr 2
    rw [Int.ediv_ediv_of_nonneg (by omega)]
    congr 3
    rw [Int.pow_succ]; omega
end Go.Proofs.Ytbpcpgmbfnmacaa

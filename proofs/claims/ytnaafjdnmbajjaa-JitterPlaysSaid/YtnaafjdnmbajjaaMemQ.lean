/- Words for slices of integers in memory, over any world: what a slice holds, and that it stays so where only new memory is written. -/
import Derived.WalkKit
import Derived.Below
import Derived.Deep.Draws
import Derived.Deep.AppendLies
import Derived.Deep.OwnRows
import Derived.Laws.BytesArg
import Derived.Laws.OwnMore
import Derived.Lib.Hide
import Derived.Test.YtnaafjdnmbajjaaRows
import Derived.ProofKit
import Derived.OpenShut
import Derived.ShutString
import Derived.ChangeOld
import Derived.SizedLaws
namespace Go.Proofs.Ytnaafjdnmbajjaa
open Go.RowKit

/-- The numbers zs (of kind k) lie at the slice address A, in a block below B. -/
def IntsAt (w : World) (B : Nat) (k : IntKind) (A : Option Addr) (zs : List Int) : Prop :=
  0 < zs.length → ∃ b off, A = some ⟨b, off, none⟩ ∧ b < B ∧ ∀ i, i < zs.length → w.cell? ⟨b, off + i, none⟩ = some (.int k (zs.getD i 0))
/-- Every number of zs lies from lo to hi. -/
def Within (lo hi : Int) (zs : List Int) : Prop := ∀ z ∈ zs, lo ≤ z ∧ z ≤ hi

theorem Within.at {lo hi : Int} {zs : List Int} (h : Within lo hi zs) {i : Nat} (hi' : i < zs.length) : lo ≤ zs.getD i 0 ∧ zs.getD i 0 ≤ hi := by
  rw [List.getD_eq_getElem?_getD, List.getElem?_eq_getElem hi']
  exact h _ (List.getElem_mem hi')
theorem Within.nil (lo hi : Int) : Within lo hi [] := fun _ h => by cases h
theorem Within.append {lo hi : Int} {a b : List Int} (ha : Within lo hi a) (hb : Within lo hi b) : Within lo hi (a ++ b) :=
  fun z hz => (List.mem_append.1 hz).elim (ha z) (hb z)
theorem Within.take {lo hi : Int} {a : List Int} (h : Within lo hi a) (n : Nat) : Within lo hi (a.take n) := fun z hz => h z (List.mem_of_mem_take hz)
theorem Within.drop {lo hi : Int} {a : List Int} (h : Within lo hi a) (n : Nat) : Within lo hi (a.drop n) := fun z hz => h z (List.mem_of_mem_drop hz)

section
variable {w w' : World} {B B' : Nat} {k : IntKind} {A : Option Addr} {zs : List Int}
theorem IntsAt.nil : IntsAt w B k A [] := fun h => absurd h (by simp)
theorem IntsAt.at (h : IntsAt w B k A zs) (h0 : 0 < zs.length) : ∃ b off, A = some ⟨b, off, none⟩ ∧ b < B ∧ ∀ i, i < zs.length → w.cell? ⟨b, off + i, none⟩ = some (.int k (zs.getD i 0)) := h h0
theorem IntsAt.keep (h : IntsAt w B k A zs) (hk : ∀ p : Addr, p.block < B → w'.cell? p = w.cell? p) : IntsAt w' B k A zs := fun h0 => by
  obtain ⟨b, off, rfl, hb, hc⟩ := h h0
  exact ⟨b, off, rfl, hb, fun i hi => (hk _ hb).trans (hc i hi)⟩
theorem IntsAt.more (h : IntsAt w B k A zs) (hB : B ≤ B') : IntsAt w B' k A zs := fun h0 => by
  obtain ⟨b, off, rfl, hb, hc⟩ := h h0
  exact ⟨b, off, rfl, by omega, hc⟩
theorem IntsAt.below (h : IntsAt w B k A zs) (hb : Below B w w') : IntsAt w' B k A zs := h.keep fun _ hp => hb.cell hp
/-- the same in a later world, below whatever has been made by then -/
theorem IntsAt.later (h : IntsAt w w.heap.size k A zs) (hb : Below w.heap.size w w') : IntsAt w' w'.heap.size k A zs := (h.below hb).more hb.size
theorem IntsAt.drew (h : IntsAt w B k A zs) : IntsAt w.drew B k A zs := h
theorem IntsAt.drewN (h : IntsAt w B k A zs) (n : Nat) : IntsAt (w.drewN n) B k A zs := h
theorem IntsAt.alloc (h : IntsAt w B k A zs) (hB : B ≤ w.heap.size) (o : Obj) : IntsAt (w.alloc o) B k A zs := h.keep fun p hp => World.cell?_alloc_lt w o p (by omega)
theorem IntsAt.setCell (h : IntsAt w B k A zs) {p : Addr} (hB : B ≤ p.block) (u : Value) : IntsAt (w.setCell p u) B k A zs :=
  h.keep fun q hq => World.cell?_setCell_other w p q u (fun e => by subst e; omega)
/-- a part from n on -/
theorem IntsAt.drop (h : IntsAt w B k A zs) (n : Nat) (hn : n < zs.length) : ∃ b off, A = some ⟨b, off, none⟩ ∧ IntsAt w B k (some ⟨b, off + n, none⟩) (zs.drop n) := by
  obtain ⟨b, off, rfl, hb, hc⟩ := h (by omega)
  refine ⟨b, off, rfl, fun _ => ⟨b, off + n, rfl, hb, fun i hi => ?_⟩⟩
  have hi' : n + i < zs.length := by simp at hi; omega
  have := hc (n + i) hi'
  rw [Nat.add_assoc]
  rw [this]
  simp [List.getD_eq_getElem?_getD]
theorem IntsAt.take (h : IntsAt w B k A zs) (n : Nat) : IntsAt w B k A (zs.take n) := fun h0 => by
  obtain ⟨b, off, rfl, hb, hc⟩ := h (by simp at h0; omega)
  refine ⟨b, off, rfl, hb, fun i hi => ?_⟩
  have hi' : i < n ∧ i < zs.length := by simp at hi; omega
  rw [hc i hi'.2]
  simp [List.getD_eq_getElem?_getD, hi'.1]
/-- what the call owns reads as a slice of integers -/
theorem IntsAt.of_own {base : Nat} {e : TypeId} {n c : Nat} (h : w.ownsRow base e 1 (.slice A n c) n (zs.map (Value.int k))) : IntsAt w w.heap.size k A zs := fun h0 => by
  have hn : zs.length = n := by have := h.1; simpa using this
  obtain ⟨g, cap, hv, _, hlt⟩ := h.form (by omega)
  have hA : A = some ⟨g, 0, none⟩ := by injection hv
  subst hA
  refine ⟨g, 0, rfl, hlt, fun i hi => ?_⟩
  have hc := h.cells (g := g) rfl i (.int k (zs.getD i 0)) (by rw [List.getElem?_map, List.getD_eq_getElem?_getD, List.getElem?_eq_getElem hi]; rfl)
  rw [← hc]
  by_cases h0 : i = 0
  · subst h0; rfl
  · simp [Addr.add, h0]
end
/-- an own row reads as a slice of integers -/
theorem IntsAt.of_row {w : World} {b n : Nat} {t : TypeId} {k : IntKind} {f : Nat → Value} {zs : List Int} (h : w.rowIs b t n f) (hn : zs.length ≤ n) (hf : ∀ i, i < zs.length → f i = .int k (zs.getD i 0)) :
    IntsAt w w.heap.size k (some ⟨b, 0, none⟩) zs := fun _ =>
  ⟨b, 0, rfl, h.lt, fun i hi => by rw [Nat.zero_add, h.cell (by omega), hf i hi]⟩
/-- a row that is filled from the left: one more -/
theorem rowIs_fill {w : World} {b n k : Nat} {t : TypeId} {K : IntKind} {g : Nat → Int} (h : w.rowIs b t n (fun j => .int K (if j < k then g j else 0))) :
    (w.setCell ⟨b, k, none⟩ (.int K (g k))).rowIs b t n (fun j => .int K (if j < k + 1 then g j else 0)) := by
  refine (h.set k _).congr fun i _ => ?_
  by_cases e : i = k
  · subst e; simp
  · simp only [e, if_false]
    by_cases e2 : i < k
    · rw [if_pos e2, if_pos (by omega)]
    · rw [if_neg e2, if_neg (by omega)]
/-- a row that has been filled -/
theorem IntsAt.of_fill {w : World} {b : Nat} {t : TypeId} {K : IntKind} {f : Int → Int} {zs : List Int} (h : w.rowIs b t zs.length (fun j => .int K (if j < zs.length then f (zs.getD j 0) else 0))) :
    IntsAt w w.heap.size K (some ⟨b, 0, none⟩) (zs.map f) := by
  refine IntsAt.of_row h (by simp) fun i hi => ?_
  have hi' : i < zs.length := by simpa using hi
  rw [if_pos hi']
  simp [List.getD_eq_getElem?_getD, List.getElem?_eq_getElem hi']
theorem rowIs_below {w w' : World} {B b n : Nat} {t : TypeId} {f : Nat → Value} (h : w.rowIs b t n f) (hb : Below B w w') (hB : b < B) : w'.rowIs b t n f := h.of_block (hb.block b hB)
theorem Blk_cell (w : World) (cs : List Value) (t : TypeId) (j : Nat) : (w.alloc (.cells cs.toArray t)).cell? ⟨w.heap.size, j, none⟩ = cs[j]? := by
  have h : (w.alloc (.cells cs.toArray t)).heap[w.heap.size]? = some (.cells cs.toArray t (0, 0)) := by
    show (w.heap.push _)[w.heap.size]? = _
    simp
  rw [cell_of_row _ w.heap.size j cs.toArray t (0, 0) h]
  simp
/-- what a contract leaves of old memory, in the walk's two rules -/
theorem bcell {W w1 : World} (hb : Below W.heap.size W w1) : (∀ b o, b < W.heap.size → w1.cell? ⟨b, o, none⟩ = W.cell? ⟨b, o, none⟩) ∧ (∀ b o, b < W.heap.size → w1.frozen? ⟨b, o, none⟩ = W.frozen? ⟨b, o, none⟩) :=
  ⟨fun b o h => hb.cell (p := ⟨b, o, none⟩) h, fun b o h => hb.frozen (p := ⟨b, o, none⟩) h⟩

/-- The slice (address A, length n, capacity c) that the call itself appends to owns the cells xs, in a block from base on. -/
def Owns (w : World) (base : Nat) (e : TypeId) (size : Nat) (A : Option Addr) (n c : Nat) (xs : List Value) : Prop := w.ownsRow base e size (.slice A n c) n xs
/-- the block of such a slice -/
def ownB (A : Option Addr) : Option Nat := A.map (·.block)
section
variable {w w' : World} {base size n c B : Nat} {e : TypeId} {A : Option Addr} {xs : List Value}
theorem ownB_eq : (Value.slice A n c).ownBlock = ownB A := by cases A <;> rfl
theorem Owns.nil : Owns w base e size none 0 0 [] := World.ownsRow_nil _ _ _ _
theorem Owns.form (h : Owns w base e size A n c xs) (hn : 0 < n) : ∃ g, A = some ⟨g, 0, none⟩ ∧ base ≤ g ∧ g < w.heap.size := by
  obtain ⟨g, cap, hv, hb, hlt⟩ := World.ownsRow.form h hn
  injection hv with hA _ _
  exact ⟨g, hA, hb, hlt⟩
theorem Owns.block (h : Owns w base e size A n c xs) : ∀ g, ownB A = some g → base ≤ g ∧ g < w.heap.size := by
  intro g hg
  rcases h.2 with ⟨hv, _⟩ | ⟨g', cap, cur, hv, hb, hh, _⟩
  · injection hv with hA _ _
    subst hA
    cases hg
  · injection hv with hA _ _
    subst hA
    injection hg with hg
    subst hg
    exact ⟨hb, (Array.getElem?_eq_some_iff.1 hh).1⟩
theorem Owns.of_block (h : Owns w base e size A n c xs) (hk : ∀ g, ownB A = some g → w'.heap[g]? = w.heap[g]?) : Owns w' base e size A n c xs := by
  refine ⟨h.1, ?_⟩
  rcases h.2 with h2 | ⟨g', cap, cur, hv, hb, hh, r⟩
  · exact .inl h2
  · refine .inr ⟨g', cap, cur, hv, hb, ?_, r⟩
    injection hv with hA _ _
    subst hA
    rw [hk g' rfl]
    exact hh
theorem Owns.below (h : Owns w base e size A n c xs) (hb : Below w.heap.size w w') : Owns w' base e size A n c xs := h.of_block fun g hg => hb.block g (h.block g hg).2
theorem Owns.alloc (h : Owns w base e size A n c xs) (o : Obj) : Owns (w.alloc o) base e size A n c xs := h.of_block fun g hg => Below.heap_alloc w o g (h.block g hg).2
theorem Owns.drew (h : Owns w base e size A n c xs) : Owns w.drew base e size A n c xs := h
theorem Owns.setCell (h : Owns w base e size A n c xs) {p : Addr} (hp : ∀ g, ownB A = some g → g ≠ p.block) (u : Value) : Owns (w.setCell p u) base e size A n c xs :=
  h.of_block fun g hg => Below.heap_setCell w p u g (hp g hg)
theorem Owns.grown (h : Owns w base e size A n c xs) {row : Option Nat} (hg : w.grownBy w' row) (hr : ∀ g, ownB A = some g → row ≠ some g) : Owns w' base e size A n c xs :=
  h.of_block fun g hg' => hg.block g (h.block g hg').2 fun e => hr g hg' e.symm
theorem Owns.ints {k : IntKind} {zs : List Int} (h : Owns w base e 1 A n c (zs.map (Value.int k))) : IntsAt w w.heap.size k A zs := IntsAt.of_own h
theorem below_own {a : World} (h : Below B a w) (ho : Owns w base e size A n c xs) (hg : w.grownBy w' (ownB A)) (hB : B ≤ w.heap.size) (hb : B ≤ base) : Below B a w' :=
  h.grown hg hB fun g e => by have := (ho.block g e).1; omega
end
/-- 'out = append(out, x)' of one element (its cells cs lie in a new block of their own), out the call's own. -/
theorem wpList_append_one {P : Program} {w0 : World} {ops : Array Oper} {rest : List Oper} {o : Oper} {a : Act} {Q : Exit → Act → World → Prop} (hgd : o.guard = none) (s x : Operand) (t : TypeId)
    (ho : o.op = .call { callee := .builtin .append, args := #[s, x], argTypes := #[t, t] })
    (base : Nat) (e : TypeId) (size bytes : Nat) (z : Value) (ht : P.underlying t = some (.slice e)) (hinfo : (P.info? e).map (fun i => (i.zero, i.size, i.bytes)) = some (some z, size, bytes))
    (hzs : z.cells.size = size) (hsz : 0 < size) (A : Option Addr) (n c : Nat) (xs : List Value) (hs : a.eval s = .slice A n c) (hown : Owns w0 base e size A n c xs)
    (cs : List Value) (hl : cs.length = size) (h1 : ∀ u ∈ cs, u.oneCell' = true) (hx : a.eval x = .slice (some ⟨w0.heap.size, 0, none⟩) 1 1)
    (h63 : n + 1 ≤ maxLen) (hbytes : (n + 1) * bytes ≤ 140737488355328) (hbase : base ≤ w0.heap.size)
    (h : ∀ (A' : Option Addr) (c' : Nat) (w' : World), Owns w' base e size A' (n + 1) c' (xs ++ cs) → w0.grownBy w' (ownB A) → w0.heap.size < w'.heap.size →
      wpList P ops Q rest (a.put o.dst (.slice A' (n + 1) c')) w') : wpList P ops Q (o :: rest) a (w0.alloc (.cells cs.toArray e)) := by
  obtain ⟨i, hi, hz0, hz1, hz2⟩ := info_parts hinfo
  refine wpList_append_lies (w0.alloc (.cells cs.toArray e)) hgd s x t ho base e i z size bytes ht hi hz0 hz1 hz2 hzs hsz _ n xs hs (hown.alloc _) ⟨w0.heap.size, 0, none⟩ 1 1 cs hx (by omega) ?_ h1 (by omega) h63 hbytes (by simp; omega) _ rfl ?_
  · intro j u hu
    have hc := Blk_cell w0 cs e j
    rw [← hu, ← hc]
    by_cases h0 : j = 0
    · subst h0; rfl
    · simp [Addr.add, h0]
  · intro g cap w' hown' hg _ hlt
    rw [ownB_eq] at hg
    have hsz' := hg.size
    refine h _ _ w' hown' ⟨hg.os, hg.tape, hg.output, Nat.le_trans (by simp) hsz', fun k hk hne => (hg.block k (by simp; omega) hne).trans (Below.heap_alloc w0 _ k hk)⟩ ?_
    simp at hsz'
    omega
/-- 'string(b)' of a slice of bytes, empty or not -/
theorem run_convert_ints {P : Program} {w : World} {B : Nat} {A : Option Addr} {zs : List Int} (h : IntsAt w B .u8 A zs) (src dst e : TypeId) (hs : P.underlying src = some (.slice e)) (he : P.underlying e = some (.int .u8)) (hd : P.underlying dst = some .string)
    (n c : Nat) (hn : zs.length = n) : (convert src dst (.slice A n c)).run P w = .ok (.string (strOfNums zs)) w := by
  subst hn
  rcases Nat.eq_zero_or_pos zs.length with h0 | h0
  · obtain rfl := List.eq_nil_of_length_eq_zero h0
    rcases A with _ | a
    · rw [run_convert_bytes_nil w src e hs he _ _ dst hd]; rfl
    · rw [run_convert_bytes_string w src dst e _ _ c hs he hd, run_bytesToString w a _ c [] (by simpa using run_loadCells_list (P := P) w a [] (by simp))]
      rfl
  · obtain ⟨b, off, rfl, _, hc⟩ := h h0
    exact run_convert_bytes_arg w src e hs he b off _ c zs rfl hc dst hd
end Go.Proofs.Ytnaafjdnmbajjaa
/- The frame of a law's row: what its arguments read as when they are opened, and that they read so behind a call that only makes new memory. -/
namespace Go.Proofs.Ytnaafjdnmbajjaa
open Go.ChangeShapes Go.WideShapes Go.ChangeAt Go.RowKit
set_option linter.unusedVariables false

theorem frameOwn : ownKnob Try.prog.godebug = none := by kernel_rfl
theorem frameLaid : laidOutB Try.prog = true := by kernel_rfl

section
variable {H : Type} {enc : TypeId × Value → H} {P : Program}
/-- ARGS: all arguments read as before. -/
theorem below_trodAll (hl : laidOutB P = true) {W W' : World} (hb : Below W.heap.size W W') : ∀ (ts : List TypeId) (vs : List Value) (ds : List (DataW H)) (ps : List MemPlace),
    (∀ t ∈ ts, P.readableRec t = true ∧ t < P.types.size) → (∀ x ∈ ps, x.block < W.heap.size) → DataW.TrodAll enc P W 0 (fun _ => true) true ts vs ds ps →
      DataW.TrodAll enc P W' 0 (fun b => decide (b < W.heap.size)) true ts vs ds ps
  | [], vs, ds, ps, _, _, h => by
    obtain ⟨rfl, rfl, rfl⟩ := trodAll_nil h
    exact trodAll_mk0
  | t :: ts, vs, ds, ps, hr, hlt, h => by
    obtain ⟨v0, vs0, d0, ds0, p0, q0, rfl, rfl, rfl, h0, r0⟩ := trodAll_cons h
    have ht := hr t (List.mem_cons_self ..)
    exact trodAll_cons_mk (Below.trod hl ht.1 ht.2 h0 hb fun x hx => hlt x (List.mem_append_left _ hx))
      (below_trodAll hl hb ts vs0 ds0 q0 (fun u hu => hr u (List.mem_cons_of_mem _ hu)) (fun x hx => hlt x (List.mem_append_right _ hx)) r0)

theorem cell_lt {w : World} {a : Addr} {v : Value} (h : w.cell? a = some v) : a.block < w.heap.size := by
  rcases Nat.lt_or_ge a.block w.heap.size with h1 | h1
  · exact h1
  · unfold World.cell? at h
    rw [Array.getElem?_eq_none h1] at h
    split at h <;> simp_all

/-- AN ARGUMENT THAT IS A SLICE OF INTEGERS. -/
theorem open_ints' {W : World} {r : Reach} {b0 base : Nat} {spare : Nat → Bool} {held : Bool} {t e : TypeId} {k : IntKind} {v : Value} {d : DataW H} {p : List MemPlace} (ht : P.underlying t = some (.slice e)) (he : P.underlying e = some (.int k)) (hc : P.cellsOf e = 1)
    (hv : Value.okWide P W r b0 t v) (h : DataW.Trod enc P W base spare held t v d p) :
    ∃ (A : Option Addr) (zs : List Int) (cap : Nat), v = .slice A zs.length cap ∧ zs.length ≤ cap ∧ cap ≤ maxLen ∧ IntsAt W W.heap.size k A zs ∧ ∀ n ∈ zs, (Lit.int k n).wf = true := by
  obtain ⟨A, len, cap, rfl⟩ := okWide_slice ht hv
  obtain ⟨fuel, hf⟩ := h
  rcases open_ints ht he hc hf with ⟨hcs, _⟩ | ⟨x, l, c, zs, hcs, _, hl, hm, hz, _, hcell, hwz⟩
  · simp [Value.cells] at hcs
    obtain ⟨rfl, rfl, rfl⟩ := hcs
    exact ⟨none, [], 0, rfl, Nat.le_refl _, by unfold maxLen; omega, IntsAt.nil, fun n hn => by cases hn⟩
  · simp [Value.cells] at hcs
    obtain ⟨rfl, rfl, rfl⟩ := hcs
    have hlen : (zs.take len).length = len := by
      rw [List.length_take, hz]
      split <;> omega
    refine ⟨some x, zs.take len, cap, by rw [hlen], by rw [hlen]; exact hl, hm, fun h0 => ?_, fun n hn => hwz n (List.mem_of_mem_take hn)⟩
    have hz' : len ≤ zs.length := by rw [hz]; split <;> omega
    have h00 := hcell 0 (by omega)
    have hsp := World.cell?_spot h00
    obtain ⟨b, off, spot⟩ := x
    have hsp' : spot = none := by simpa [Addr.add] using hsp
    subst hsp'
    refine ⟨b, off, rfl, by simpa [Addr.add] using cell_lt h00, fun i hi => ?_⟩
    rw [hlen] at hi
    have h2 : (zs.take len).getD i 0 = zs.getD i 0 := by simp [List.getD_eq_getElem?_getD, hi]
    rw [h2, ← hcell i (by omega)]
    by_cases h0 : i = 0
    · subst h0; rfl
    · simp [Addr.add, h0]
end
/-- a literal's new block reads as the literal's numbers -/
theorem IntsAt.new (w : World) (e : TypeId) (k : IntKind) (zs : List Int) (cs : List Value) (h : cs = zs.map (Value.int k)) : IntsAt (w.alloc (.cells cs.toArray e)) (w.alloc (.cells cs.toArray e)).heap.size k (some ⟨w.heap.size, 0, none⟩) zs := fun _ => by
  refine ⟨w.heap.size, 0, rfl, by simp, fun i hi => ?_⟩
  rw [Nat.zero_add, Blk_cell, h, List.getElem?_map, List.getElem?_eq_getElem hi, List.getD_eq_getElem?_getD, List.getElem?_eq_getElem hi]
  rfl
theorem within_i16 {zs : List Int} (h : ∀ n ∈ zs, (Lit.int .i16 n).wf = true) : Within (-32768) 32767 zs := fun z hz => by
  simpa [Lit.wf, IntKind.min, IntKind.max, IntKind.signed, IntKind.bits] using h z hz
theorem within_u8 {zs : List Int} (h : ∀ n ∈ zs, (Lit.int .u8 n).wf = true) : Within 0 255 zs := fun z hz => by
  simpa [Lit.wf, IntKind.min, IntKind.max, IntKind.signed, IntKind.bits] using h z hz
theorem within_u16 {zs : List Int} (h : ∀ n ∈ zs, (Lit.int .u16 n).wf = true) : Within 0 65535 zs := fun z hz => by
  simpa [Lit.wf, IntKind.min, IntKind.max, IntKind.signed, IntKind.bits] using h z hz
theorem within_u32 {zs : List Int} (h : ∀ n ∈ zs, (Lit.int .u32 n).wf = true) : Within 0 4294967295 zs := fun z hz => by
  simpa [Lit.wf, IntKind.min, IntKind.max, IntKind.signed, IntKind.bits] using h z hz
end Go.Proofs.Ytnaafjdnmbajjaa

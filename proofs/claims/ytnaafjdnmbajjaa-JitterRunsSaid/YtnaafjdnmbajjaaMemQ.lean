/- Words for slices of integers in memory, over any world: what a slice holds, and that it stays so where only new memory is written. -/
import Derived.WalkKit
import Derived.Below
import Derived.Deep.Draws
import Derived.Deep.AppendLies
import Derived.Deep.OwnRows
import Derived.Laws.BytesArg
import Derived.Laws.OwnMore
import Derived.Lib.Hide
import Derived.Test.YtnaafjdnmbajjaaRows
import Derived.ProofKit
import Derived.OpenShut
import Derived.ShutString
import Derived.ChangeOld
import Derived.SizedLaws
import Derived.Deep.Slices
import Derived.Deep.Strs
import Derived.Lib.SmallJoins
import Derived.Deep.RegionHeld3
import Derived.Deep.DrawnRows
import Derived.Deep.DeepCutAuto
import Derived.Deep.RegionHeldLaw
import Derived.Laws.Bits64b
import Derived.BigQuiet
import Derived.Deep.QuietTactic
import Derived.Maps.AppendAt
import Derived.OwnWalk
import Derived.Laws.CopyOwn
import Derived.Laws.Rows
import Derived.Deep.LoopGhost
import Derived.Deep.CutRange
import Derived.RegionCalls
import Derived.Deep.RegionWith
namespace Go.Proofs.Ytnaafjdnmbajjaa
open Go.RowKit

/-- The numbers zs (of kind k) lie at the slice address A, in a block below B. -/
def IntsAt (w : World) (B : Nat) (k : IntKind) (A : Option Addr) (zs : List Int) : Prop :=
  0 < zs.length → ∃ b off, A = some ⟨b, off, none⟩ ∧ b < B ∧ ∀ i, i < zs.length → w.cell? ⟨b, off + i, none⟩ = some (.int k (zs.getD i 0))
/-- Every number of zs lies from lo to hi. -/
def Within (lo hi : Int) (zs : List Int) : Prop := ∀ z ∈ zs, lo ≤ z ∧ z ≤ hi

theorem Within.at {lo hi : Int} {zs : List Int} (h : Within lo hi zs) {i : Nat} (hi' : i < zs.length) : lo ≤ zs.getD i 0 ∧ zs.getD i 0 ≤ hi := by
  rw [List.getD_eq_getElem?_getD, List.getElem?_eq_getElem hi']
  exact h _ (List.getElem_mem hi')
theorem Within.nil (lo hi : Int) : Within lo hi [] := fun _ h => by cases h
theorem Within.append {lo hi : Int} {a b : List Int} (ha : Within lo hi a) (hb : Within lo hi b) : Within lo hi (a ++ b) :=
  fun z hz => (List.mem_append.1 hz).elim (ha z) (hb z)
theorem Within.take {lo hi : Int} {a : List Int} (h : Within lo hi a) (n : Nat) : Within lo hi (a.take n) := fun z hz => h z (List.mem_of_mem_take hz)
theorem Within.drop {lo hi : Int} {a : List Int} (h : Within lo hi a) (n : Nat) : Within lo hi (a.drop n) := fun z hz => h z (List.mem_of_mem_drop hz)

section
variable {w w' : World} {B B' : Nat} {k : IntKind} {A : Option Addr} {zs : List Int}
theorem IntsAt.nil : IntsAt w B k A [] := fun h => absurd h (by simp)
theorem IntsAt.at (h : IntsAt w B k A zs) (h0 : 0 < zs.length) : ∃ b off, A = some ⟨b, off, none⟩ ∧ b < B ∧ ∀ i, i < zs.length → w.cell? ⟨b, off + i, none⟩ = some (.int k (zs.getD i 0)) := h h0
theorem IntsAt.keep (h : IntsAt w B k A zs) (hk : ∀ p : Addr, p.block < B → w'.cell? p = w.cell? p) : IntsAt w' B k A zs := fun h0 => by
  obtain ⟨b, off, rfl, hb, hc⟩ := h h0
  exact ⟨b, off, rfl, hb, fun i hi => (hk _ hb).trans (hc i hi)⟩
theorem IntsAt.more (h : IntsAt w B k A zs) (hB : B ≤ B') : IntsAt w B' k A zs := fun h0 => by
  obtain ⟨b, off, rfl, hb, hc⟩ := h h0
  exact ⟨b, off, rfl, by omega, hc⟩
theorem IntsAt.below (h : IntsAt w B k A zs) (hb : Below B w w') : IntsAt w' B k A zs := h.keep fun _ hp => hb.cell hp
/-- the same in a later world, below whatever has been made by then -/
theorem IntsAt.later (h : IntsAt w w.heap.size k A zs) (hb : Below w.heap.size w w') : IntsAt w' w'.heap.size k A zs := (h.below hb).more hb.size
theorem IntsAt.drew (h : IntsAt w B k A zs) : IntsAt w.drew B k A zs := h
theorem IntsAt.drewN (h : IntsAt w B k A zs) (n : Nat) : IntsAt (w.drewN n) B k A zs := h
theorem IntsAt.alloc (h : IntsAt w B k A zs) (hB : B ≤ w.heap.size) (o : Obj) : IntsAt (w.alloc o) B k A zs := h.keep fun p hp => World.cell?_alloc_lt w o p (by omega)
theorem IntsAt.setCell (h : IntsAt w B k A zs) {p : Addr} (hB : B ≤ p.block) (u : Value) : IntsAt (w.setCell p u) B k A zs :=
  h.keep fun q hq => World.cell?_setCell_other w p q u (fun e => by subst e; omega)
/-- a part from n on -/
theorem IntsAt.drop (h : IntsAt w B k A zs) (n : Nat) (hn : n < zs.length) : ∃ b off, A = some ⟨b, off, none⟩ ∧ IntsAt w B k (some ⟨b, off + n, none⟩) (zs.drop n) := by
  obtain ⟨b, off, rfl, hb, hc⟩ := h (by omega)
  refine ⟨b, off, rfl, fun _ => ⟨b, off + n, rfl, hb, fun i hi => ?_⟩⟩
  have hi' : n + i < zs.length := by simp at hi; omega
  have := hc (n + i) hi'
  rw [Nat.add_assoc]
  rw [this]
  simp [List.getD_eq_getElem?_getD]
theorem IntsAt.take (h : IntsAt w B k A zs) (n : Nat) : IntsAt w B k A (zs.take n) := fun h0 => by
  obtain ⟨b, off, rfl, hb, hc⟩ := h (by simp at h0; omega)
  refine ⟨b, off, rfl, hb, fun i hi => ?_⟩
  have hi' : i < n ∧ i < zs.length := by simp at hi; omega
  rw [hc i hi'.2]
  simp [List.getD_eq_getElem?_getD, hi'.1]
/-- what the call owns reads as a slice of integers -/
theorem IntsAt.of_own {base : Nat} {e : TypeId} {n c : Nat} (h : w.ownsRow base e 1 (.slice A n c) n (zs.map (Value.int k))) : IntsAt w w.heap.size k A zs := fun h0 => by
  have hn : zs.length = n := by have := h.1; simpa using this
  obtain ⟨g, cap, hv, _, hlt⟩ := h.form (by omega)
  have hA : A = some ⟨g, 0, none⟩ := by injection hv
  subst hA
  refine ⟨g, 0, rfl, hlt, fun i hi => ?_⟩
  have hc := h.cells (g := g) rfl i (.int k (zs.getD i 0)) (by rw [List.getElem?_map, List.getD_eq_getElem?_getD, List.getElem?_eq_getElem hi]; rfl)
  rw [← hc]
  by_cases h0 : i = 0
  · subst h0; rfl
  · simp [Addr.add, h0]
end
/-- an own row reads as a slice of integers -/
theorem IntsAt.of_row {w : World} {b n : Nat} {t : TypeId} {k : IntKind} {f : Nat → Value} {zs : List Int} (h : w.rowIs b t n f) (hn : zs.length ≤ n) (hf : ∀ i, i < zs.length → f i = .int k (zs.getD i 0)) :
    IntsAt w w.heap.size k (some ⟨b, 0, none⟩) zs := fun _ =>
  ⟨b, 0, rfl, h.lt, fun i hi => by rw [Nat.zero_add, h.cell (by omega), hf i hi]⟩
/-- a row that is filled from the left: one more -/
theorem rowIs_fill {w : World} {b n k : Nat} {t : TypeId} {K : IntKind} {g : Nat → Int} (h : w.rowIs b t n (fun j => .int K (if j < k then g j else 0))) :
    (w.setCell ⟨b, k, none⟩ (.int K (g k))).rowIs b t n (fun j => .int K (if j < k + 1 then g j else 0)) := by
  refine (h.set k _).congr fun i _ => ?_
  by_cases e : i = k
  · subst e; simp
  · simp only [e, if_false]
    by_cases e2 : i < k
    · rw [if_pos e2, if_pos (by omega)]
    · rw [if_neg e2, if_neg (by omega)]
/-- a row that has been filled -/
theorem IntsAt.of_fill {w : World} {b : Nat} {t : TypeId} {K : IntKind} {f : Int → Int} {zs : List Int} (h : w.rowIs b t zs.length (fun j => .int K (if j < zs.length then f (zs.getD j 0) else 0))) :
    IntsAt w w.heap.size K (some ⟨b, 0, none⟩) (zs.map f) := by
  refine IntsAt.of_row h (by simp) fun i hi => ?_
  have hi' : i < zs.length := by simpa using hi
  rw [if_pos hi']
  simp [List.getD_eq_getElem?_getD, List.getElem?_eq_getElem hi']
theorem rowIs_below {w w' : World} {B b n : Nat} {t : TypeId} {f : Nat → Value} (h : w.rowIs b t n f) (hb : Below B w w') (hB : b < B) : w'.rowIs b t n f := h.of_block (hb.block b hB)
theorem Blk_cell (w : World) (cs : List Value) (t : TypeId) (j : Nat) : (w.alloc (.cells cs.toArray t)).cell? ⟨w.heap.size, j, none⟩ = cs[j]? := by
  have h : (w.alloc (.cells cs.toArray t)).heap[w.heap.size]? = some (.cells cs.toArray t (0, 0)) := by
    show (w.heap.push _)[w.heap.size]? = _
    simp
  rw [cell_of_row _ w.heap.size j cs.toArray t (0, 0) h]
  simp
/-- what a contract leaves of old memory, in the walk's two rules -/
theorem bcell {W w1 : World} (hb : Below W.heap.size W w1) : (∀ b o, b < W.heap.size → w1.cell? ⟨b, o, none⟩ = W.cell? ⟨b, o, none⟩) ∧ (∀ b o, b < W.heap.size → w1.frozen? ⟨b, o, none⟩ = W.frozen? ⟨b, o, none⟩) :=
  ⟨fun b o h => hb.cell (p := ⟨b, o, none⟩) h, fun b o h => hb.frozen (p := ⟨b, o, none⟩) h⟩

/-- The slice (address A, length n, capacity c) that the call itself appends to owns the cells xs, in a block from base on. -/
def Owns (w : World) (base : Nat) (e : TypeId) (size : Nat) (A : Option Addr) (n c : Nat) (xs : List Value) : Prop := w.ownsRow base e size (.slice A n c) n xs
/-- the block of such a slice -/
def ownB (A : Option Addr) : Option Nat := A.map (·.block)
section
variable {w w' : World} {base size n c B : Nat} {e : TypeId} {A : Option Addr} {xs : List Value}
theorem ownB_eq : (Value.slice A n c).ownBlock = ownB A := by cases A <;> rfl
theorem Owns.nil : Owns w base e size none 0 0 [] := World.ownsRow_nil _ _ _ _
theorem Owns.form (h : Owns w base e size A n c xs) (hn : 0 < n) : ∃ g, A = some ⟨g, 0, none⟩ ∧ base ≤ g ∧ g < w.heap.size := by
  obtain ⟨g, cap, hv, hb, hlt⟩ := World.ownsRow.form h hn
  injection hv with hA _ _
  exact ⟨g, hA, hb, hlt⟩
theorem Owns.block (h : Owns w base e size A n c xs) : ∀ g, ownB A = some g → base ≤ g ∧ g < w.heap.size := by
  intro g hg
  rcases h.2 with ⟨hv, _⟩ | ⟨g', cap, cur, hv, hb, hh, _⟩
  · injection hv with hA _ _
    subst hA
    cases hg
  · injection hv with hA _ _
    subst hA
    injection hg with hg
    subst hg
    exact ⟨hb, (Array.getElem?_eq_some_iff.1 hh).1⟩
theorem Owns.of_block (h : Owns w base e size A n c xs) (hk : ∀ g, ownB A = some g → w'.heap[g]? = w.heap[g]?) : Owns w' base e size A n c xs := by
  refine ⟨h.1, ?_⟩
  rcases h.2 with h2 | ⟨g', cap, cur, hv, hb, hh, r⟩
  · exact .inl h2
  · refine .inr ⟨g', cap, cur, hv, hb, ?_, r⟩
    injection hv with hA _ _
    subst hA
    rw [hk g' rfl]
    exact hh
theorem Owns.below (h : Owns w base e size A n c xs) (hb : Below w.heap.size w w') : Owns w' base e size A n c xs := h.of_block fun g hg => hb.block g (h.block g hg).2
theorem Owns.alloc (h : Owns w base e size A n c xs) (o : Obj) : Owns (w.alloc o) base e size A n c xs := h.of_block fun g hg => Below.heap_alloc w o g (h.block g hg).2
theorem Owns.drew (h : Owns w base e size A n c xs) : Owns w.drew base e size A n c xs := h
theorem Owns.setCell (h : Owns w base e size A n c xs) {p : Addr} (hp : ∀ g, ownB A = some g → g ≠ p.block) (u : Value) : Owns (w.setCell p u) base e size A n c xs :=
  h.of_block fun g hg => Below.heap_setCell w p u g (hp g hg)
theorem Owns.grown (h : Owns w base e size A n c xs) {row : Option Nat} (hg : w.grownBy w' row) (hr : ∀ g, ownB A = some g → row ≠ some g) : Owns w' base e size A n c xs :=
  h.of_block fun g hg' => hg.block g (h.block g hg').2 fun e => hr g hg' e.symm
theorem Owns.ints {k : IntKind} {zs : List Int} (h : Owns w base e 1 A n c (zs.map (Value.int k))) : IntsAt w w.heap.size k A zs := IntsAt.of_own h
theorem below_own {a : World} (h : Below B a w) (ho : Owns w base e size A n c xs) (hg : w.grownBy w' (ownB A)) (hB : B ≤ w.heap.size) (hb : B ≤ base) : Below B a w' :=
  h.grown hg hB fun g e => by have := (ho.block g e).1; omega
end
/-- 'out = append(out, x)' of one element (its cells cs lie in a new block of their own), out the call's own. -/
theorem wpList_append_one {P : Program} {w0 : World} {ops : Array Oper} {rest : List Oper} {o : Oper} {a : Act} {Q : Exit → Act → World → Prop} (hgd : o.guard = none) (s x : Operand) (t : TypeId)
    (ho : o.op = .call { callee := .builtin .append, args := #[s, x], argTypes := #[t, t] })
    (base : Nat) (e : TypeId) (size bytes : Nat) (z : Value) (ht : P.underlying t = some (.slice e)) (hinfo : (P.info? e).map (fun i => (i.zero, i.size, i.bytes)) = some (some z, size, bytes))
    (hzs : z.cells.size = size) (hsz : 0 < size) (A : Option Addr) (n c : Nat) (xs : List Value) (hs : a.eval s = .slice A n c) (hown : Owns w0 base e size A n c xs)
    (cs : List Value) (hl : cs.length = size) (h1 : ∀ u ∈ cs, u.oneCell' = true) (hx : a.eval x = .slice (some ⟨w0.heap.size, 0, none⟩) 1 1)
    (h63 : n + 1 ≤ maxLen) (hbytes : (n + 1) * bytes ≤ 140737488355328) (hbase : base ≤ w0.heap.size)
    (h : ∀ (A' : Option Addr) (c' : Nat) (w' : World), Owns w' base e size A' (n + 1) c' (xs ++ cs) → w0.grownBy w' (ownB A) → w0.heap.size < w'.heap.size →
      wpList P ops Q rest (a.put o.dst (.slice A' (n + 1) c')) w') : wpList P ops Q (o :: rest) a (w0.alloc (.cells cs.toArray e)) := by
  obtain ⟨i, hi, hz0, hz1, hz2⟩ := info_parts hinfo
  refine wpList_append_lies (w0.alloc (.cells cs.toArray e)) hgd s x t ho base e i z size bytes ht hi hz0 hz1 hz2 hzs hsz _ n xs hs (hown.alloc _) ⟨w0.heap.size, 0, none⟩ 1 1 cs hx (by omega) ?_ h1 (by omega) h63 hbytes (by simp; omega) _ rfl ?_
  · intro j u hu
    have hc := Blk_cell w0 cs e j
    rw [← hu, ← hc]
    by_cases h0 : j = 0
    · subst h0; rfl
    · simp [Addr.add, h0]
  · intro g cap w' hown' hg _ hlt
    rw [ownB_eq] at hg
    have hsz' := hg.size
    refine h _ _ w' hown' ⟨hg.os, hg.tape, hg.output, Nat.le_trans (by simp) hsz', fun k hk hne => (hg.block k (by simp; omega) hne).trans (Below.heap_alloc w0 _ k hk)⟩ ?_
    simp at hsz'
    omega
/-- 'string(b)' of a slice of bytes, empty or not -/
theorem run_convert_ints {P : Program} {w : World} {B : Nat} {A : Option Addr} {zs : List Int} (h : IntsAt w B .u8 A zs) (src dst e : TypeId) (hs : P.underlying src = some (.slice e)) (he : P.underlying e = some (.int .u8)) (hd : P.underlying dst = some .string)
    (n c : Nat) (hn : zs.length = n) : (convert src dst (.slice A n c)).run P w = .ok (.string (strOfNums zs)) w := by
  subst hn
  rcases Nat.eq_zero_or_pos zs.length with h0 | h0
  · obtain rfl := List.eq_nil_of_length_eq_zero h0
    rcases A with _ | a
    · rw [run_convert_bytes_nil w src e hs he _ _ dst hd]; rfl
    · rw [run_convert_bytes_string w src dst e _ _ c hs he hd, run_bytesToString w a _ c [] (by simpa using run_loadCells_list (P := P) w a [] (by simp))]
      rfl
  · obtain ⟨b, off, rfl, _, hc⟩ := h h0
    exact run_convert_bytes_arg w src e hs he b off _ c zs rfl hc dst hd
end Go.Proofs.Ytnaafjdnmbajjaa
/- The frame of a law's row: what its arguments read as when they are opened, and that they read so behind a call that only makes new memory. -/
namespace Go.Proofs.Ytnaafjdnmbajjaa
open Go.ChangeShapes Go.WideShapes Go.ChangeAt Go.RowKit
set_option linter.unusedVariables false

theorem frameOwn : ownKnob Try.prog.godebug = none := by kernel_rfl
theorem frameLaid : laidOutB Try.prog = true := by kernel_rfl

section
variable {H : Type} {enc : TypeId × Value → H} {P : Program}
/-- ARGS: all arguments read as before. -/
theorem below_trodAll (hl : laidOutB P = true) {W W' : World} (hb : Below W.heap.size W W') : ∀ (ts : List TypeId) (vs : List Value) (ds : List (DataW H)) (ps : List MemPlace),
    (∀ t ∈ ts, P.readableRec t = true ∧ t < P.types.size) → (∀ x ∈ ps, x.block < W.heap.size) → DataW.TrodAll enc P W 0 (fun _ => true) true ts vs ds ps →
      DataW.TrodAll enc P W' 0 (fun b => decide (b < W.heap.size)) true ts vs ds ps
  | [], vs, ds, ps, _, _, h => by
    obtain ⟨rfl, rfl, rfl⟩ := trodAll_nil h
    exact trodAll_mk0
  | t :: ts, vs, ds, ps, hr, hlt, h => by
    obtain ⟨v0, vs0, d0, ds0, p0, q0, rfl, rfl, rfl, h0, r0⟩ := trodAll_cons h
    have ht := hr t (List.mem_cons_self ..)
    exact trodAll_cons_mk (Below.trod hl ht.1 ht.2 h0 hb fun x hx => hlt x (List.mem_append_left _ hx))
      (below_trodAll hl hb ts vs0 ds0 q0 (fun u hu => hr u (List.mem_cons_of_mem _ hu)) (fun x hx => hlt x (List.mem_append_right _ hx)) r0)

theorem cell_lt {w : World} {a : Addr} {v : Value} (h : w.cell? a = some v) : a.block < w.heap.size := by
  rcases Nat.lt_or_ge a.block w.heap.size with h1 | h1
  · exact h1
  · unfold World.cell? at h
    rw [Array.getElem?_eq_none h1] at h
    split at h <;> simp_all

/-- AN ARGUMENT THAT IS A SLICE OF INTEGERS. -/
theorem open_ints' {W : World} {r : Reach} {b0 base : Nat} {spare : Nat → Bool} {held : Bool} {t e : TypeId} {k : IntKind} {v : Value} {d : DataW H} {p : List MemPlace} (ht : P.underlying t = some (.slice e)) (he : P.underlying e = some (.int k)) (hc : P.cellsOf e = 1)
    (hv : Value.okWide P W r b0 t v) (h : DataW.Trod enc P W base spare held t v d p) :
    ∃ (A : Option Addr) (zs : List Int) (cap : Nat), v = .slice A zs.length cap ∧ zs.length ≤ cap ∧ cap ≤ maxLen ∧ IntsAt W W.heap.size k A zs ∧ ∀ n ∈ zs, (Lit.int k n).wf = true := by
  obtain ⟨A, len, cap, rfl⟩ := okWide_slice ht hv
  obtain ⟨fuel, hf⟩ := h
  rcases open_ints ht he hc hf with ⟨hcs, _⟩ | ⟨x, l, c, zs, hcs, _, hl, hm, hz, _, hcell, hwz⟩
  · simp [Value.cells] at hcs
    obtain ⟨rfl, rfl, rfl⟩ := hcs
    exact ⟨none, [], 0, rfl, Nat.le_refl _, by unfold maxLen; omega, IntsAt.nil, fun n hn => by cases hn⟩
  · simp [Value.cells] at hcs
    obtain ⟨rfl, rfl, rfl⟩ := hcs
    have hlen : (zs.take len).length = len := by
      rw [List.length_take, hz]
      split <;> omega
    refine ⟨some x, zs.take len, cap, by rw [hlen], by rw [hlen]; exact hl, hm, fun h0 => ?_, fun n hn => hwz n (List.mem_of_mem_take hn)⟩
    have hz' : len ≤ zs.length := by rw [hz]; split <;> omega
    have h00 := hcell 0 (by omega)
    have hsp := World.cell?_spot h00
    obtain ⟨b, off, spot⟩ := x
    have hsp' : spot = none := by simpa [Addr.add] using hsp
    subst hsp'
    refine ⟨b, off, rfl, by simpa [Addr.add] using cell_lt h00, fun i hi => ?_⟩
    rw [hlen] at hi
    have h2 : (zs.take len).getD i 0 = zs.getD i 0 := by simp [List.getD_eq_getElem?_getD, hi]
    rw [h2, ← hcell i (by omega)]
    by_cases h0 : i = 0
    · subst h0; rfl
    · simp [Addr.add, h0]
end
/-- a literal's new block reads as the literal's numbers -/
theorem IntsAt.new (w : World) (e : TypeId) (k : IntKind) (zs : List Int) (cs : List Value) (h : cs = zs.map (Value.int k)) : IntsAt (w.alloc (.cells cs.toArray e)) (w.alloc (.cells cs.toArray e)).heap.size k (some ⟨w.heap.size, 0, none⟩) zs := fun _ => by
  refine ⟨w.heap.size, 0, rfl, by simp, fun i hi => ?_⟩
  rw [Nat.zero_add, Blk_cell, h, List.getElem?_map, List.getElem?_eq_getElem hi, List.getD_eq_getElem?_getD, List.getElem?_eq_getElem hi]
  rfl
theorem within_i16 {zs : List Int} (h : ∀ n ∈ zs, (Lit.int .i16 n).wf = true) : Within (-32768) 32767 zs := fun z hz => by
  simpa [Lit.wf, IntKind.min, IntKind.max, IntKind.signed, IntKind.bits] using h z hz
theorem within_u8 {zs : List Int} (h : ∀ n ∈ zs, (Lit.int .u8 n).wf = true) : Within 0 255 zs := fun z hz => by
  simpa [Lit.wf, IntKind.min, IntKind.max, IntKind.signed, IntKind.bits] using h z hz
theorem within_u16 {zs : List Int} (h : ∀ n ∈ zs, (Lit.int .u16 n).wf = true) : Within 0 65535 zs := fun z hz => by
  simpa [Lit.wf, IntKind.min, IntKind.max, IntKind.signed, IntKind.bits] using h z hz
theorem within_u32 {zs : List Int} (h : ∀ n ∈ zs, (Lit.int .u32 n).wf = true) : Within 0 4294967295 zs := fun z hz => by
  simpa [Lit.wf, IntKind.min, IntKind.max, IntKind.signed, IntKind.bits] using h z hz
end Go.Proofs.Ytnaafjdnmbajjaa
/- Opening arguments: a struct of scalars and slices by its leaves, a slice of such structs as a list. Over any program. -/
namespace Go.Proofs.Ytnaafjdnmbajjaa
open Go.ChangeShapes Go.WideShapes Go.ChangeAt Go.RowKit Go.Deep
set_option linter.unusedVariables false

/-- the leaves of fields, in order; each field must begin where the one before ends -/
def flatFs (g : TypeId → Option (List TypeId)) : List Field → Nat → Option (List TypeId)
  | [], _ => some []
  | f :: fs, o => if f.offset = o then (g f.type).bind fun l => (flatFs g fs (o + l.length)).map (l ++ ·) else none
/-- the types of a type's cells, where each is an integer, a bool, a string or a slice -/
def flat (P : Program) : Nat → TypeId → Option (List TypeId)
  | 0, _ => none
  | n + 1, t => match P.underlying t with
    | some (.struct fs) => (flatFs (flat P n) fs.toList 0).bind fun l => if l.length = P.cellsOf t then some l else none
    | some (.int _) => some [t]
    | some .bool => some [t]
    | some .string => some [t]
    | some (.slice _) => some [t]
    | _ => none

/-- the cells from o on are those of the list -/
def AllAt (cs : List Value) : Nat → List Value → Prop
  | _, [] => True
  | o, v :: L => cs[o]? = some v ∧ AllAt cs (o + 1) L
theorem AllAt.get {cs : List Value} : ∀ {L : List Value} {o : Nat}, AllAt cs o L → ∀ (i : Nat) (v : Value), L[i]? = some v → cs[o + i]? = some v
  | [], o, _, i, v, h => by simp at h
  | u :: L, o, h, 0, v, hv => by
    simp at hv
    subst hv
    exact h.1
  | u :: L, o, h, i + 1, v, hv => by
    have := AllAt.get h.2 i v (by simpa using hv)
    rw [← this]; congr 1; omega
theorem AllAt.eq {cs L : List Value} (h : AllAt cs 0 L) (hl : cs.length = L.length) : cs = L := by
  refine List.ext_getElem? fun i => ?_
  by_cases hi : i < L.length
  · rw [List.getElem?_eq_getElem hi]
    have := h.get i _ (List.getElem?_eq_getElem hi)
    simpa using this
  · rw [List.getElem?_eq_none (by omega), List.getElem?_eq_none (by omega)]
section
variable {H : Type} {enc : TypeId × Value → H} {P : Program} {w : World} {base : Nat} {spare : Nat → Bool} {held : Bool}
/-- a cell reads as a value of type t -/
def Leaf (enc : TypeId × Value → H) (P : Program) (w : World) (base : Nat) (spare : Nat → Bool) (held : Bool) (t : TypeId) (v : Value) : Prop := ∃ n y, DataW.trod enc P w base spare held n t [v] = some y

theorem flatFs_ok {g : TypeId → Option (List TypeId)} {cs : List Value} {ok : TypeId → Value → Prop} : ∀ (fs : List Field) (o : Nat) (ls : List TypeId), flatFs g fs o = some ls →
    (∀ f ∈ fs, ∀ l, g f.type = some l → ((cs.drop f.offset).take (P.cellsOf f.type)).length = l.length ∧ ∀ (i : Nat) (lt : TypeId), l[i]? = some lt → ∃ v, ((cs.drop f.offset).take (P.cellsOf f.type))[i]? = some v ∧ ok lt v) →
    ∀ (i : Nat) (lt : TypeId), ls[i]? = some lt → ∃ v, cs[o + i]? = some v ∧ ok lt v
  | [], o, ls, h, _, i, lt, hi => by
    injection h with h
    subst h
    simp at hi
  | f :: fs, o, ls, h, hf, i, lt, hi => by
    unfold flatFs at h
    by_cases ho : f.offset = o
    · rw [if_pos ho] at h
      rw [Option.bind_eq_some_iff] at h
      obtain ⟨l, hl, h⟩ := h
      rw [Option.map_eq_some_iff] at h
      obtain ⟨r, hr, rfl⟩ := h
      obtain ⟨h1, h2⟩ := hf f (List.mem_cons_self ..) l hl
      by_cases hi' : i < l.length
      · rw [List.getElem?_append_left hi'] at hi
        obtain ⟨v, hv, hv2⟩ := h2 i lt hi
        refine ⟨v, ?_, hv2⟩
        rw [List.getElem?_take, List.getElem?_drop, ho] at hv
        split at hv
        · exact hv
        · cases hv
      · rw [List.getElem?_append_right (by omega)] at hi
        obtain ⟨v, hv, hv2⟩ := flatFs_ok fs (o + l.length) r hr (fun f' hf' => hf f' (List.mem_cons_of_mem _ hf')) (i - l.length) lt hi
        exact ⟨v, by rw [← hv]; congr 1; omega, hv2⟩
    · rw [if_neg ho] at h
      cases h

theorem flat_trod : ∀ (n m : Nat) (t : TypeId) (ls : List TypeId) (cs : List Value) (x : DataW H × List MemPlace), flat P n t = some ls → DataW.trod enc P w base spare held m t cs = some x →
    cs.length = ls.length ∧ ∀ (i : Nat) (lt : TypeId), ls[i]? = some lt → ∃ v, cs[i]? = some v ∧ Leaf enc P w base spare held lt v
  | 0, m, t, ls, cs, x, h, _ => by cases h
  | n + 1, m, t, ls, cs, x, h, hx => by
    have one : ∀ v, cs = [v] → ls = [t] → cs.length = ls.length ∧ ∀ (i : Nat) (lt : TypeId), ls[i]? = some lt → ∃ v, cs[i]? = some v ∧ Leaf enc P w base spare held lt v := by
      rintro v rfl rfl
      refine ⟨rfl, fun i lt hi => ?_⟩
      have h0 : i = 0 := by
        have := (List.getElem?_eq_some_iff.1 hi).1
        simpa using this
      subst h0
      injection hi with hi
      subst hi
      exact ⟨v, rfl, m, x, hx⟩
    unfold flat at h
    split at h
    · rename_i fs ht
      rw [Option.bind_eq_some_iff] at h
      obtain ⟨l, hl, h⟩ := h
      by_cases hc : l.length = P.cellsOf t
      · rw [if_pos hc] at h
        injection h with h
        subst h
        obtain ⟨xs, k, _, rfl, hlen, hsz, hf⟩ := DataW.trod_struct ht hx
        refine ⟨by rw [hlen, hc], fun i lt hi => ?_⟩
        have := flatFs_ok (P := P) (cs := cs) (ok := Leaf enc P w base spare held) fs.toList 0 l hl (fun f hfm l' hl' => by
          obtain ⟨j, hj, rfl⟩ := List.mem_iff_getElem.1 hfm
          have hj' : fs[j]? = some (fs.toList[j]) := by simp at hj ⊢
          have hj2 : j < xs.length := by simp at hj; omega
          have h2 := hf j _ hj'
          rw [List.getElem?_eq_getElem hj2] at h2
          exact flat_trod n k _ l' _ _ hl' h2) i lt hi
        simpa using this
      · rw [if_neg hc] at h
        cases h
    · rename_i k ht
      injection h with h
      obtain ⟨z, hz, _⟩ := DataW.trod_int ht hx
      exact one _ hz h.symm
    · rename_i ht
      injection h with h
      obtain ⟨z, hz, _⟩ := DataW.trod_bool ht hx
      exact one _ hz h.symm
    · rename_i ht
      injection h with h
      obtain ⟨z, hz, _⟩ := DataW.trod_string ht hx
      exact one _ hz h.symm
    · rename_i e ht
      injection h with h
      rcases open_slice ht hx with ⟨hz, _⟩ | ⟨a, len, cap, _, _, _, _, hz, _⟩
      · exact one _ hz h.symm
      · exact one _ hz h.symm
    · cases h
theorem Leaf.int {t : TypeId} {v : Value} {k : IntKind} (h : Leaf enc P w base spare held t v) (ht : P.underlying t = some (.int k)) : ∃ z, v = .int k z ∧ (Lit.int k z).wf = true := by
  obtain ⟨n, y, h⟩ := h
  obtain ⟨z, hz, _, hw⟩ := DataW.trod_int ht h
  injection hz with hz
  exact ⟨z, hz, hw⟩
theorem Leaf.bool {t : TypeId} {v : Value} (h : Leaf enc P w base spare held t v) (ht : P.underlying t = some .bool) : ∃ z, v = .bool z := by
  obtain ⟨n, y, h⟩ := h
  obtain ⟨z, hz, _⟩ := DataW.trod_bool ht h
  injection hz with hz
  exact ⟨z, hz⟩
theorem block_add' (a : Addr) (n : Nat) : (a.add n).block = a.block := by unfold Addr.add; split <;> rfl
theorem cells?_nth {a : Addr} {n : Nat} {cs : List Value} (h : w.cells? base a n = some cs) {j : Nat} {v : Value} (hv : cs[j]? = some v) : w.cell? (a.add j) = some v := by
  obtain ⟨_, hl, hc⟩ := World.cells?_some h
  rw [hc j (by have := (List.getElem?_eq_some_iff.1 hv).1; omega), hv]
theorem cells?_len {a : Addr} {n : Nat} {cs : List Value} (h : w.cells? base a n = some cs) : cs.length = n := (World.cells?_some h).2.1
theorem ints_of {t e : TypeId} {k : IntKind} {A : Option Addr} {len cap : Nat} (ht : P.underlying t = some (.slice e)) (he : P.underlying e = some (.int k)) (hc : P.cellsOf e = 1)
    (h : ∃ n y, DataW.trod enc P w base spare held n t [.slice A len cap] = some y) :
    ∃ (A' : Option Addr) (zs : List Int) (cap' : Nat), Value.slice A len cap = .slice A' zs.length cap' ∧ zs.length ≤ cap' ∧ cap' ≤ maxLen ∧ IntsAt w w.heap.size k A' zs ∧ ∀ n ∈ zs, (Lit.int k n).wf = true := by
  obtain ⟨fuel, y, hf⟩ := h
  rcases open_ints ht he hc hf with ⟨hcs, _⟩ | ⟨x, l, c, zs, hcs, _, hl, hm, hz, _, hcell, hwz⟩
  · simp at hcs
    obtain ⟨rfl, rfl, rfl⟩ := hcs
    exact ⟨none, [], 0, rfl, Nat.le_refl _, by unfold maxLen; omega, IntsAt.nil, fun n hn => by cases hn⟩
  · simp at hcs
    obtain ⟨rfl, rfl, rfl⟩ := hcs
    have hlen : (zs.take len).length = len := by
      rw [List.length_take, hz]
      split <;> omega
    refine ⟨some x, zs.take len, cap, by rw [hlen], by rw [hlen]; exact hl, hm, fun h0 => ?_, fun n hn => hwz n (List.mem_of_mem_take hn)⟩
    have hz' : len ≤ zs.length := by rw [hz]; split <;> omega
    have h00 := hcell 0 (by omega)
    have hsp := World.cell?_spot h00
    obtain ⟨b, off, spot⟩ := x
    have hsp' : spot = none := by simpa [Addr.add] using hsp
    subst hsp'
    refine ⟨b, off, rfl, by simpa [Addr.add] using cell_lt h00, fun i hi => ?_⟩
    rw [hlen] at hi
    have h2 : (zs.take len).getD i 0 = zs.getD i 0 := by simp [List.getD_eq_getElem?_getD, hi]
    rw [h2, ← hcell i (by omega)]
    by_cases h0 : i = 0
    · subst h0; rfl
    · simp [Addr.add, h0]
/-- a slice of integers among the cells -/
theorem Leaf.ints {t e : TypeId} {v : Value} {k : IntKind} (h : Leaf enc P w base spare held t v) (ht : P.underlying t = some (.slice e)) (he : P.underlying e = some (.int k)) (hc : P.cellsOf e = 1) :
    ∃ (A : Option Addr) (zs : List Int) (cap : Nat), v = .slice A zs.length cap ∧ zs.length ≤ cap ∧ cap ≤ maxLen ∧ IntsAt w w.heap.size k A zs ∧ ∀ n ∈ zs, (Lit.int k n).wf = true := by
  obtain ⟨n, y, h⟩ := h
  have hv : ∃ A len cap, v = .slice A len cap := by
    rcases open_slice ht h with ⟨hcs, _⟩ | ⟨x, l, c, _, _, _, _, hcs, _⟩
    · injection hcs with hcs; exact ⟨_, _, _, hcs⟩
    · injection hcs with hcs; exact ⟨_, _, _, hcs⟩
  obtain ⟨A, len, cap, rfl⟩ := hv
  exact ints_of ht he hc ⟨n, y, h⟩
/-- Rows of cells, one for each element of l, lie one behind the other from the slice address A on, in a block below B. -/
def RowsAt {α : Type} (w : World) (B size : Nat) (row : α → List Value) (A : Option Addr) (l : List α) : Prop :=
  0 < l.length → ∃ b off, A = some ⟨b, off, none⟩ ∧ b < B ∧ ∀ (i : Nat) (a : α), l[i]? = some a → ∀ (j : Nat) (v : Value), (row a)[j]? = some v → w.cell? ⟨b, off + i * size + j, none⟩ = some v
theorem choose_list {α : Type} {Q : Nat → α → Prop} : ∀ (n : Nat), (∀ i, i < n → ∃ a, Q i a) → ∃ l : List α, l.length = n ∧ ∀ (i : Nat) (a : α), l[i]? = some a → Q i a
  | 0, _ => ⟨[], rfl, fun i a h => by simp at h⟩
  | n + 1, h => by
    obtain ⟨l, hl, hQ⟩ := choose_list n fun i hi => h i (by omega)
    obtain ⟨a, ha⟩ := h n (by omega)
    refine ⟨l ++ [a], by simp [hl], fun i b hb => ?_⟩
    by_cases hi : i < l.length
    · rw [List.getElem?_append_left hi] at hb; exact hQ i b hb
    · have hi2 : i = n := by
        have := (List.getElem?_eq_some_iff.1 hb).1
        simp at this; omega
      subst hi2
      rw [List.getElem?_append_right (by omega), hl] at hb
      simp at hb
      subst hb
      exact ha
/-- A slice of structs among the cells: a list, given what one element's cells are. -/
theorem Leaf.rows {α : Type} {row : α → List Value} {ok : α → Prop} {t e : TypeId} {v : Value} {size : Nat} (h : Leaf enc P w base spare held t v) (ht : P.underlying t = some (.slice e)) (hsz : P.cellsOf e = size) (h0 : 0 < size)
    (hopen : ∀ n cs x, DataW.trod enc P w base spare held n e cs = some x → ∃ a, cs = row a ∧ ok a) :
    ∃ (A : Option Addr) (l : List α) (cap : Nat), v = .slice A l.length cap ∧ l.length ≤ cap ∧ cap ≤ maxLen ∧ RowsAt w w.heap.size size row A l ∧ ∀ a ∈ l, ok a := by
  obtain ⟨n, y, h⟩ := h
  rcases open_slice ht h with ⟨hcs, _⟩ | ⟨x, len, cap, m, k, D, Pl, hcs, hb, hlc, hcm, hm, _, hel⟩
  · injection hcs with hcs
    subst hcs
    exact ⟨none, [], 0, rfl, Nat.le_refl _, by unfold maxLen; omega, fun h => absurd h (by simp), fun a ha => by cases ha⟩
  · injection hcs with hcs
    subst hcs
    have hml : len ≤ m := by rw [hm]; split <;> omega
    obtain ⟨l, hl, hQ⟩ := choose_list (Q := fun i a => w.cells? base (x.add (i * size)) size = some (row a) ∧ ok a) len (fun i hi => by
      obtain ⟨cs', h1, h2⟩ := hel i (by omega)
      obtain ⟨a, rfl, ha⟩ := hopen _ _ _ h2
      rw [hsz] at h1
      exact ⟨a, h1, ha⟩)
    refine ⟨some x, l, cap, by rw [hl], by omega, hcm, fun hpos => ?_, fun a ha => ?_⟩
    · obtain ⟨a0, ha0⟩ : ∃ a0, l[0]? = some a0 := ⟨_, List.getElem?_eq_getElem hpos⟩
      have h00 := (hQ 0 a0 ha0).1
      have hcell : ∀ (i : Nat) (a : α), l[i]? = some a → ∀ (j : Nat) (v : Value), (row a)[j]? = some v → w.cell? ((x.add (i * size)).add j) = some v := fun i a ha j v hv => cells?_nth (hQ i a ha).1 hv
      have hlen0 : (row a0).length = size := cells?_len h00
      obtain ⟨v0, hv0⟩ : ∃ v0, (row a0)[0]? = some v0 := ⟨_, List.getElem?_eq_getElem (by omega)⟩
      have hc0 := hcell 0 a0 ha0 0 v0 hv0
      have hsp := World.cell?_spot hc0
      obtain ⟨b, off, spot⟩ := x
      have hsp' : spot = none := by simpa [Addr.add] using hsp
      subst hsp'
      refine ⟨b, off, rfl, ?_, fun i a ha j v hv => ?_⟩
      · have := cell_lt hc0
        simpa [block_add'] using this
      · have := hcell i a ha j v hv
        rw [← this]
        congr 1
        simp only [Addr.add]
        repeat' split
        all_goals simp_all
        all_goals omega
    · obtain ⟨i, hi, rfl⟩ := List.mem_iff_getElem.1 ha
      exact (hQ i _ (List.getElem?_eq_getElem hi)).2
end
end Go.Proofs.Ytnaafjdnmbajjaa
/- Words for blocks of memory that are known whole, and lemmas by which they stay so. -/
namespace Go.Proofs.Ytnaafjdnmbajjaa
open Go.RowKit

/-- Block g is just the cells cs of type t, none frozen. -/
def Blk (w : World) (g : Nat) (t : TypeId) (cs : Array Value) : Prop := w.heap[g]? = some (.cells cs t (0, 0))
section
variable {w w' : World} {g : Nat} {t : TypeId} {cs : Array Value}
theorem Blk.lt (h : Blk w g t cs) : g < w.heap.size := by
  rcases Nat.lt_or_ge g w.heap.size with hlt | hge
  · exact hlt
  · unfold Blk at h; rw [Array.getElem?_eq_none hge] at h; cases h
theorem Blk.cell (h : Blk w g t cs) (i : Nat) : w.cell? ⟨g, i, none⟩ = cs[i]? := cell_of_row w g i cs t (0, 0) h
theorem Blk.at (h : Blk w g t cs) (i : Nat) (v : Value) (hv : cs[i]? = some v) : w.cell? ⟨g, i, none⟩ = some v := (h.cell i).trans hv
theorem Blk.frozen (h : Blk w g t cs) (i : Nat) : w.frozen? ⟨g, i, none⟩ = false := by
  unfold Blk at h
  simp [World.frozen?, h]
theorem Blk.new (w : World) (t : TypeId) (cs : Array Value) : Blk (w.alloc (.cells cs t)) w.heap.size t cs := by
  show (w.heap.push _)[w.heap.size]? = _
  simp
theorem Blk.drew (h : Blk w g t cs) : Blk w.drew g t cs := h
theorem Blk.drewN (h : Blk w g t cs) (n : Nat) : Blk (w.drewN n) g t cs := h
theorem Blk.alloc (h : Blk w g t cs) (o : Obj) : Blk (w.alloc o) g t cs := (Below.heap_alloc w o g h.lt).trans h
theorem Blk.set_ (h : Blk w g t cs) (i : Nat) (u : Value) : Blk (w.setCell ⟨g, i, none⟩ u) g t (cs.setIfInBounds i u) := by
  unfold Blk at h ⊢
  simp [World.setCell, Array.getElem?_modify, h]
theorem Blk.far (h : Blk w g t cs) {p : Addr} (hp : g ≠ p.block) (u : Value) : Blk (w.setCell p u) g t cs := (Below.heap_setCell w p u g hp).trans h
theorem Blk.below {B : Nat} (h : Blk w g t cs) (hb : Below B w w') (hg : g < B) : Blk w' g t cs := (hb.block g hg).trans h
/-- a block stays so behind a call that makes new memory alone -/
theorem Blk.later (h : Blk w g t cs) (hb : Below w.heap.size w w') : Blk w' g t cs := h.below hb h.lt
theorem Blk.grown {row : Option Nat} (h : Blk w g t cs) (hb : w.grownBy w' row) (hg : some g ≠ row) : Blk w' g t cs := (hb.block g h.lt hg).trans h
theorem Blk.ne_ {g' : Nat} {t' : TypeId} {cs' : Array Value} (h : Blk w g t cs) (h' : Blk w g' t' cs') (hne : t ≠ t') : g ≠ g' := by
  rintro rfl
  unfold Blk at h h'
  rw [h] at h'
  injection h' with h'
  injection h' with _ ht
  exact hne ht
end
end Go.Proofs.Ytnaafjdnmbajjaa
/- Words for the walks of the laws: what is carried over calls that only make new memory, and over new blocks. -/
namespace Go.Proofs.Ytnaafjdnmbajjaa
open Go.RowKit
set_option linter.unusedVariables false
theorem cell_old {W w' : World} {a : Addr} {v : Value} (hb : Below W.heap.size W w') (h : W.cell? a = some v) : w'.cell? a = some v := (hb.cell (cell_lt h)).trans h
theorem below_old' {w W w' : World} (hb : Below W.heap.size W w') (h : Below w.heap.size w W) : Below w.heap.size w w' := h.trans (hb.mono h.size)
theorem cell_new_old {W : World} {a : Addr} {v : Value} (h : W.cell? a = some v) (o : Obj) : (W.alloc o).cell? a = some v := by
  rw [World.cell?_alloc_lt W o a (cell_lt h)]; exact h
theorem below_new_old {w W : World} (h : Below w.heap.size w W) (o : Obj) : Below w.heap.size w (W.alloc o) := h.alloc h.size o
theorem below_set_old {B : Nat} {w W : World} {p : Addr} (h : Below B w W) (hp : B ≤ p.block) (u : Value) : Below B w (W.setCell p u) := h.setCell hp u
theorem cell_set_other {W : World} {a p : Addr} {v : Value} (h : W.cell? a = some v) (hp : a.block ≠ p.block) (u : Value) : (W.setCell p u).cell? a = some v := by
  rw [World.cell?_setCell_other W p a u (fun e => hp (by rw [e]))]; exact h
/-- integers of kind k do not lie in a block that holds no such integer -/
theorem IntsAt.set_other {w : World} {B g i : Nat} {k : IntKind} {A : Option Addr} {zs : List Int} {t : TypeId} {cs : Array Value} (h : IntsAt w B k A zs) (hb : Blk w g t cs) (hk : ∀ (j : Nat) (z : Int), cs[j]? ≠ some (.int k z)) (u : Value) : IntsAt (w.setCell ⟨g, i, none⟩ u) B k A zs := fun h0 => by
  obtain ⟨b, off, rfl, hbB, hc⟩ := h h0
  refine ⟨b, off, rfl, hbB, fun j hj => ?_⟩
  refine cell_set_other (hc j hj) ?_ u
  show b ≠ g
  rintro rfl
  have := hc j hj
  rw [hb.cell] at this
  exact hk _ _ this
/-- a variable of two cells that was made ahead of a call and is written behind it -/
theorem Blk.late2 {w' : World} {g : Nat} {k : IntKind} {A : Option Addr} {zs : List Int} {t : TypeId} {u0 u1 v0 v1 : Value} (h : IntsAt w' w'.heap.size k A zs) (hb : Blk w' g t #[u0, u1])
    (h0 : ∀ z, u0 ≠ .int k z) (h1 : ∀ z, u1 ≠ .int k z) (h2 : ∀ z, v0 ≠ .int k z) :
    IntsAt ((w'.setCell ⟨g, 0, none⟩ v0).setCell ⟨g, 1, none⟩ v1) ((w'.setCell ⟨g, 0, none⟩ v0).setCell ⟨g, 1, none⟩ v1).heap.size k A zs ∧ Blk ((w'.setCell ⟨g, 0, none⟩ v0).setCell ⟨g, 1, none⟩ v1) g t #[v0, v1] := by
  have two : ∀ (a b : Value), (∀ z, a ≠ .int k z) → (∀ z, b ≠ .int k z) → ∀ (j : Nat) (z : Int), #[a, b][j]? ≠ some (.int k z) := by
    intro a b ha hb j z
    match j with
    | 0 => intro e; injection e with e; exact ha z e
    | 1 => intro e; injection e with e; exact hb z e
    | n + 2 => simp
  have hb1 : Blk (w'.setCell ⟨g, 0, none⟩ v0) g t #[v0, u1] := hb.set_ 0 v0
  refine ⟨((h.set_other hb (two _ _ h0 h1) v0).set_other hb1 (two _ _ h2 h1) v1).more (by simp [World.setCell]), hb1.set_ 1 v1⟩
/-- what a function that returns a slice of integers and an error leaves -/
def RetInts (k : IntKind) (l : List Int) (er : Int) (w : World) (e : Ending) (w' : World) : Prop :=
  ∃ (A' : Option Addr) (c' : Nat), e = .returned (.tuple #[.slice A' l.length c', .int .u8 er]) ∧ IntsAt w' w'.heap.size k A' l ∧ Below w.heap.size w w'
/-- since w, only new memory has been written -/
def Bel (w W : World) : Prop := Below w.heap.size w W
theorem Bel.refl (w : World) : Bel w w := Below.refl _ _
theorem Bel.later {w W w' : World} (h : Bel w W) (hb : Below W.heap.size W w') : Bel w w' := h.trans (hb.mono h.size)
theorem Bel.push {w W : World} (h : Bel w W) (o : Obj) : Bel w (W.alloc o) := h.alloc h.size o
theorem Bel.drew {w W : World} (h : Bel w W) : Bel w W.drew := Below.drew h
theorem Bel.drewN {w W : World} (h : Bel w W) (n : Nat) : Bel w (W.drewN n) := ⟨h.os, h.tape, h.output, h.size, h.block⟩
theorem Blk.push {w : World} {g : Nat} {t : TypeId} {cs : Array Value} (h : Blk w g t cs) (o : Obj) : Blk (w.alloc o) g t cs := h.alloc o
theorem Blk.new1 (w : World) (o1 : Obj) (t : TypeId) (cs : Array Value) : Blk ((w.alloc o1).alloc (.cells cs t)) (w.heap.size + 1) t cs := by
  have h := Blk.new (w.alloc o1) t cs
  simpa using h
theorem Blk.new2 (w : World) (o1 o2 : Obj) (t : TypeId) (cs : Array Value) : Blk (((w.alloc o1).alloc o2).alloc (.cells cs t)) (w.heap.size + 1 + 1) t cs := by
  have h := Blk.new ((w.alloc o1).alloc o2) t cs
  simpa using h
theorem Blk.new3 (w : World) (o1 o2 o3 : Obj) (t : TypeId) (cs : Array Value) : Blk ((((w.alloc o1).alloc o2).alloc o3).alloc (.cells cs t)) (w.heap.size + 1 + 1 + 1) t cs := by
  have h := Blk.new (((w.alloc o1).alloc o2).alloc o3) t cs
  simpa using h
theorem IntsAt.push {w : World} {k : IntKind} {A : Option Addr} {zs : List Int} (h : IntsAt w w.heap.size k A zs) (o : Obj) : IntsAt (w.alloc o) (w.alloc o).heap.size k A zs :=
  (h.alloc (Nat.le_refl _) o).more (by simp)
/-- a literal's new block, behind 0 or 1 other new blocks -/
theorem IntsAt.lit0 (w : World) (e : TypeId) (k : IntKind) (zs : List Int) (cs : List Value) (h : cs = zs.map (Value.int k)) : IntsAt (w.alloc (.cells cs.toArray e)) (w.alloc (.cells cs.toArray e)).heap.size k (some ⟨w.heap.size, 0, none⟩) zs := IntsAt.new w e k zs cs h
theorem IntsAt.lit1 (w : World) (o : Obj) (e : TypeId) (k : IntKind) (zs : List Int) (cs : List Value) (h : cs = zs.map (Value.int k)) : IntsAt ((w.alloc o).alloc (.cells cs.toArray e)) ((w.alloc o).alloc (.cells cs.toArray e)).heap.size k (some ⟨w.heap.size + 1, 0, none⟩) zs := by
  have := IntsAt.new (w.alloc o) e k zs cs h
  simpa using this
end Go.Proofs.Ytnaafjdnmbajjaa
/- Slices of structs: what the call owns reads as a list of rows; it stays so in later worlds. -/
namespace Go.Proofs.Ytnaafjdnmbajjaa
open Go.RowKit
set_option linter.unusedVariables false
section
variable {α : Type} {row : α → List Value} {w w' : World} {B size : Nat} {A : Option Addr} {l : List α}
theorem RowsAt.nil : RowsAt w B size row A [] := fun h => absurd h (by simp)
theorem RowsAt.keep (h : RowsAt w B size row A l) (hk : ∀ p : Addr, p.block < B → w'.cell? p = w.cell? p) : RowsAt w' B size row A l := fun h0 => by
  obtain ⟨b, off, rfl, hb, hc⟩ := h h0
  exact ⟨b, off, rfl, hb, fun i a ha j v hv => (hk _ hb).trans (hc i a ha j v hv)⟩
theorem RowsAt.more {B' : Nat} (h : RowsAt w B size row A l) (hB : B ≤ B') : RowsAt w B' size row A l := fun h0 => by
  obtain ⟨b, off, rfl, hb, hc⟩ := h h0
  exact ⟨b, off, rfl, by omega, hc⟩
theorem RowsAt.later (h : RowsAt w w.heap.size size row A l) (hb : Below w.heap.size w w') : RowsAt w' w'.heap.size size row A l := (h.keep fun _ hp => hb.cell hp).more hb.size
theorem RowsAt.push (h : RowsAt w w.heap.size size row A l) (o : Obj) : RowsAt (w.alloc o) (w.alloc o).heap.size size row A l := (h.keep fun p hp => World.cell?_alloc_lt w o p hp).more (by simp)
theorem RowsAt.setCell (h : RowsAt w B size row A l) {p : Addr} (hB : B ≤ p.block) (u : Value) : RowsAt (w.setCell p u) B size row A l :=
  h.keep fun q hq => World.cell?_setCell_other w p q u (fun e => by subst e; omega)
theorem flat_get (hr : ∀ a, (row a).length = size) : ∀ (l : List α) (i : Nat) (a : α), l[i]? = some a → ∀ (j : Nat) (v : Value), (row a)[j]? = some v → (l.flatMap row)[i * size + j]? = some v
  | [], i, a, h, _, _, _ => by simp at h
  | b :: l, 0, a, h, j, v, hv => by
    simp at h
    subst h
    rw [List.flatMap_cons, Nat.zero_mul, Nat.zero_add, List.getElem?_append_left (List.getElem?_eq_some_iff.1 hv).1]
    exact hv
  | b :: l, i + 1, a, h, j, v, hv => by
    have ih := flat_get hr l i a (by simpa using h) j v hv
    rw [List.flatMap_cons, List.getElem?_append_right (by rw [hr, Nat.succ_mul]; omega), hr]
    rw [← ih]; congr 1
    rw [Nat.succ_mul]; omega
/-- what the call owns, as rows -/
theorem Owns.rows {base n c : Nat} {e : TypeId} (h : Owns w base e size A n c (l.flatMap row)) (hn : l.length = n) (hr : ∀ a, (row a).length = size) : RowsAt w w.heap.size size row A l := fun h0 => by
  obtain ⟨g, rfl, hg, hlt⟩ := Owns.form h (by omega)
  refine ⟨g, 0, rfl, hlt, fun i a ha j v hv => ?_⟩
  have hc := World.ownsRow.cells (g := g) h rfl (i * size + j) v (flat_get hr l i a ha j v hv)
  rw [← hc]
  by_cases h1 : i * size + j = 0
  · rw [h1]
    have : (⟨g, 0 + i * size + j, none⟩ : Addr) = ⟨g, 0, none⟩ := by congr 1; omega
    rw [this]; rfl
  · simp only [Addr.add, h1, if_false]
    congr 2; omega
/-- a literal's new block -/
theorem RowsAt.lit0 (w : World) (e : TypeId) (row : α → List Value) (l : List α) (cs : Array Value) (h : cs.toList = l.flatMap row) (hr : ∀ a, (row a).length = size) : RowsAt (w.alloc (.cells cs e)) (w.alloc (.cells cs e)).heap.size size row (some ⟨w.heap.size, 0, none⟩) l := fun _ => by
  refine ⟨w.heap.size, 0, rfl, by simp, fun i a ha j v hv => ?_⟩
  rw [(Blk.new w e cs).cell, Nat.zero_add]
  have := flat_get hr l i a ha j v hv
  rw [← h] at this
  simpa using this
theorem RowsAt.lit2 (w : World) (o1 o2 : Obj) (e : TypeId) (row : α → List Value) (l : List α) (cs : Array Value) (h : cs.toList = l.flatMap row) (hr : ∀ a, (row a).length = size) : RowsAt (((w.alloc o1).alloc o2).alloc (.cells cs e)) (((w.alloc o1).alloc o2).alloc (.cells cs e)).heap.size size row (some ⟨w.heap.size + 1 + 1, 0, none⟩) l := by
  have := RowsAt.lit0 ((w.alloc o1).alloc o2) e row l cs h hr
  simpa using this
end
/-- rows that a call has made: in a block from n on -/
def RowsNew {α : Type} (n : Nat) (w : World) (size : Nat) (row : α → List Value) (A : Option Addr) (l : List α) : Prop :=
  RowsAt w w.heap.size size row A l ∧ (0 < l.length → ∀ b off, A = some ⟨b, off, none⟩ → n ≤ b)
section
variable {α : Type} {row : α → List Value} {w w' : World} {B n size : Nat} {A : Option Addr} {l : List α}
theorem RowsNew.nil : RowsNew n w size row A [] := ⟨RowsAt.nil, fun h => absurd h (by simp)⟩
theorem RowsNew.later (h : RowsNew n w size row A l) (hb : Below w.heap.size w w') : RowsNew n w' size row A l := ⟨h.1.later hb, h.2⟩
theorem RowsNew.push (h : RowsNew n w size row A l) (o : Obj) : RowsNew n (w.alloc o) size row A l := ⟨h.1.push o, h.2⟩
theorem RowsNew.less {m : Nat} (h : RowsNew n w size row A l) (hm : m ≤ n) : RowsNew m w size row A l := ⟨h.1, fun h0 b off e => Nat.le_trans hm (h.2 h0 b off e)⟩
theorem RowsNew.setCell (h : RowsNew n w size row A l) {p : Addr} (hp : p.block < n) (u : Value) : RowsNew n (w.setCell p u) size row A l := by
  refine ⟨fun h0 => ?_, h.2⟩
  obtain ⟨b, off, rfl, hb, hc⟩ := h.1 h0
  have hn := h.2 h0 b off rfl
  refine ⟨b, off, rfl, by simpa [World.setCell] using hb, fun i a ha j v hv => ?_⟩
  rw [World.cell?_setCell_other w p _ u (fun e => by subst e; simp at hp; omega)]
  exact hc i a ha j v hv
theorem Owns.rowsNew {base n c : Nat} {e : TypeId} (h : Owns w base e size A n c (l.flatMap row)) (hn : l.length = n) (hr : ∀ a, (row a).length = size) (hB : B ≤ base := by omega) : RowsNew B w size row A l := by
  refine ⟨Owns.rows h hn hr, fun h0 b off e => ?_⟩
  obtain ⟨g, rfl, hg, hlt⟩ := Owns.form h (by omega)
  injection e with e
  injection e with e1 e2
  omega
end
end Go.Proofs.Ytnaafjdnmbajjaa
/- Opening an argument that is a slice of structs, or a slice of slices of integers. Over any program. -/
namespace Go.Proofs.Ytnaafjdnmbajjaa
open Go.ChangeShapes Go.WideShapes Go.ChangeAt Go.RowKit Go.Deep
set_option linter.unusedVariables false
section
variable {H : Type} {enc : TypeId × Value → H} {P : Program} {w : World} {r : Reach} {b0 base : Nat} {spare : Nat → Bool} {held : Bool}
/-- AN ARGUMENT THAT IS A SLICE of elements whose cells are known. -/
theorem open_rows {α : Type} {row : α → List Value} {ok : α → Prop} {t e : TypeId} {v : Value} {size : Nat} {d : DataW H} {p : List MemPlace} (ht : P.underlying t = some (.slice e)) (hsz : P.cellsOf e = size) (h0 : 0 < size)
    (hv : Value.okWide P w r b0 t v) (h : DataW.Trod enc P w base spare held t v d p) (hopen : ∀ n cs x, DataW.trod enc P w base spare held n e cs = some x → ∃ a, cs = row a ∧ ok a) :
    ∃ (A : Option Addr) (l : List α) (cap : Nat), v = .slice A l.length cap ∧ l.length ≤ cap ∧ cap ≤ maxLen ∧ RowsAt w w.heap.size size row A l ∧ ∀ a ∈ l, ok a := by
  obtain ⟨A, len, cap, rfl⟩ := okWide_slice ht hv
  obtain ⟨n, h⟩ := h
  exact Leaf.rows ⟨n, _, h⟩ ht hsz h0 hopen
/-- a slice of integers as an element -/
structure TInts where
  A : Option Addr
  zs : List Int
  cap : Nat
def TInts.row (a : TInts) : List Value := [.slice a.A a.zs.length a.cap]
def TInts.ok (k : IntKind) (w : World) (a : TInts) : Prop := a.zs.length ≤ a.cap ∧ a.cap ≤ maxLen ∧ IntsAt w w.heap.size k a.A a.zs ∧ ∀ z ∈ a.zs, (Lit.int k z).wf = true
theorem TInts.of_trod {t e : TypeId} {k : IntKind} (ht : P.underlying t = some (.slice e)) (he : P.underlying e = some (.int k)) (hc : P.cellsOf e = 1) (n : Nat) (cs : List Value) (x : DataW H × List MemPlace)
    (h : DataW.trod enc P w base spare held n t cs = some x) : ∃ a : TInts, cs = a.row ∧ a.ok k w := by
  have hv : ∃ v, cs = [v] := by
    rcases open_slice ht h with ⟨hcs, _⟩ | ⟨x, l, c, _, _, _, _, hcs, _⟩
    · exact ⟨_, hcs⟩
    · exact ⟨_, hcs⟩
  obtain ⟨v, rfl⟩ := hv
  obtain ⟨A, zs, cap, rfl, h1, h2, h3, h4⟩ := Leaf.ints (enc := enc) (spare := spare) (held := held) (base := base) ⟨n, x, h⟩ ht he hc
  exact ⟨⟨A, zs, cap⟩, rfl, h1, h2, h3, h4⟩
/-- AN ARGUMENT THAT IS A STRING or a slice, one cell -/
theorem open_bools {t e : TypeId} {v : Value} {d : DataW H} {p : List MemPlace} (ht : P.underlying t = some (.slice e)) (he : P.underlying e = some .bool) (hc : P.cellsOf e = 1)
    (hv : Value.okWide P w r b0 t v) (h : DataW.Trod enc P w base spare held t v d p) :
    ∃ (A : Option Addr) (l : List Bool) (cap : Nat), v = .slice A l.length cap ∧ l.length ≤ cap ∧ cap ≤ maxLen ∧ RowsAt w w.heap.size 1 (fun b : Bool => [Value.bool b]) A l := by
  obtain ⟨A, l, cap, h1, h2, h3, h4, _⟩ := open_rows (row := fun b : Bool => [Value.bool b]) (ok := fun _ => True) ht hc (by decide) hv h (fun n cs x h => by
    obtain ⟨b, hb, _⟩ := DataW.trod_bool he h
    exact ⟨b, hb, trivial⟩)
  exact ⟨A, l, cap, h1, h2, h3, h4⟩
end
end Go.Proofs.Ytnaafjdnmbajjaa
/- Layer 30: the jitter buffer in plain words; no program in sight. -/
namespace Go.Proofs.Ytnaafjdnmbajjaa.Jb
open Go.RowKit
set_option linter.unusedVariables false
/-- a packet -/
structure Md where
  sq : Int
  ti : Int
  mrk : Bool
  ty : Int
  pl : List Int
/-- a packet with its play time -/
structure Wt where
  at_ : Int
  m : Md
/-- a state -/
structure Jt where
  least : Int
  most : Int
  now : Int
  on : Bool
  zero : Int
  first : Int
  high : Int
  done : Int
  spread : Int
  trans : Int
  q : List Wt
  late : Int
  twice : Int
  played : Int
def Md.zero : Md := ⟨0, 0, false, 0, []⟩
def Wt.zero : Wt := ⟨0, Md.zero⟩
def Jt.none : Jt := ⟨0, 0, 0, false, 0, 0, 0, 0, 0, 0, [], 0, 0, 0⟩
def Md.ok (m : Md) : Prop := (0 ≤ m.sq ∧ m.sq ≤ 281474976710656) ∧ (-281474976710656 ≤ m.ti ∧ m.ti ≤ 281474976710656) ∧ m.pl.length ≤ 1500
instance (m : Md) : Decidable m.ok := by unfold Md.ok; infer_instance
def cfg (l m : Int) : Prop := 1 ≤ l ∧ l ≤ m ∧ m ≤ 1000
instance (l m : Int) : Decidable (cfg l m) := by unfold cfg; infer_instance
/-- a stands ahead of b in a queue -/
def bef (a b : Wt) : Prop := a.at_ < b.at_ ∨ (a.at_ = b.at_ ∧ a.m.sq < b.m.sq)
instance (a b : Wt) : Decidable (bef a b) := by unfold bef; infer_instance
/-- the k-th packet of the queue is as it has to be -/
def okAt (now high : Int) (q : List Wt) (k : Nat) : Prop :=
  (q.getD k Wt.zero).m.ok ∧ now < (q.getD k Wt.zero).at_ ∧ (q.getD k Wt.zero).at_ ≤ 562949953421312 ∧ (q.getD k Wt.zero).m.sq ≤ high ∧
  (0 < k → bef (q.getD (k - 1) Wt.zero) (q.getD k Wt.zero)) ∧ ∀ i, i < k → (q.getD i Wt.zero).m.sq ≠ (q.getD k Wt.zero).m.sq
instance (now high : Int) (q : List Wt) (k : Nat) : Decidable (okAt now high q k) := by unfold okAt; infer_instance
def okQ (now high : Int) (q : List Wt) : Prop := q.length ≤ 200 ∧ ∀ k, k < q.length → okAt now high q k
instance (now high : Int) (q : List Wt) : Decidable (okQ now high q) := by unfold okQ; infer_instance
def Jt.nums (s : Jt) : Prop := (0 ≤ s.now ∧ s.now ≤ 281474976710656) ∧ (-1125899906842624 ≤ s.zero ∧ s.zero ≤ 1125899906842624) ∧ (-1125899906842624 ≤ s.trans ∧ s.trans ≤ 1125899906842624) ∧
  (-281474976710656 ≤ s.first ∧ s.first ≤ 281474976710656) ∧ (-1 ≤ s.high ∧ s.high ≤ 281474976710656) ∧ (-1 ≤ s.done ∧ s.done ≤ 281474976710656) ∧ (0 ≤ s.spread ∧ s.spread ≤ 72057594037927936)
instance (s : Jt) : Decidable s.nums := by unfold Jt.nums; infer_instance
def Jt.cnts (s : Jt) : Prop := (0 ≤ s.late ∧ s.late ≤ 281474976710656) ∧ (0 ≤ s.twice ∧ s.twice ≤ 281474976710656) ∧ (0 ≤ s.played ∧ s.played ≤ 281474976710656)
instance (s : Jt) : Decidable s.cnts := by unfold Jt.cnts; infer_instance
def Jt.rest (s : Jt) : Prop := s.on = true ∨ (s.q.length = 0 ∧ s.high = -1 ∧ s.done = -1)
instance (s : Jt) : Decidable s.rest := by unfold Jt.rest; infer_instance
def Jt.ok (s : Jt) : Prop := s.nums ∧ cfg s.least s.most ∧ s.cnts ∧ s.rest ∧ okQ s.now s.high s.q
instance (s : Jt) : Decidable s.ok := by unfold Jt.ok; infer_instance
/-- Valid, as a value -/
def valid (s : Jt) : Bool := decide s.ok
def new (l m : Int) : Jt × Int := if cfg l m then (⟨l, m, 0, false, 0, 0, -1, -1, 0, 0, [], 0, 0, 0⟩, 0) else (Jt.none, 3)
def ptime (s : Jt) (t : Int) : Int := s.zero + (t - s.first) / 8
def play (s : Jt) (t : Int) : Int := if s.ok ∧ -281474976710656 ≤ t ∧ t ≤ 281474976710656 then ptime s t else 0
/-- the error of a call -/
def chk (s : Jt) (now : Int) (fm : Bool) : Int := if ¬s.ok ∨ 281474976710656 < now ∨ fm = false then 2 else if now < s.now then 9 else 0
def due (now : Int) (q : List Wt) : List Wt := q.takeWhile fun w => decide (w.at_ ≤ now)
def left (now : Int) (q : List Wt) : List Wt := q.dropWhile fun w => decide (w.at_ ≤ now)
def maxSq (d : Int) (l : List Wt) : Int := l.foldl (fun d w => max d w.m.sq) d
def run0 (s : Jt) (now : Int) : Jt := { s with q := left now s.q, played := s.played + (due now s.q).length, done := maxSq s.done (due now s.q), now := now }
def run (s : Jt) (now : Int) : Jt × List Wt × Int := if chk s now true = 0 then (run0 s now, due now s.q, 0) else (Jt.none, [], chk s now true)
def lastAt (z : Int) (q : List Wt) : Int := if q.length = 0 then z else max z ((q.getD (q.length - 1) Wt.zero).at_ + 1)
/-- the transit time of a packet is noted -/
def meas (s : Jt) (m : Md) : Jt :=
  let t := s.now - m.ti / 8
  let sp := if s.on then s.spread + max (t - s.trans) (s.trans - t) - (s.spread + 8) / 16 else s.spread
  let beg := s.on = false ∨ (m.mrk = true ∧ s.high < m.sq)
  { s with spread := sp, trans := t, on := true, high := max s.high m.sq, first := if beg then m.ti else s.first, zero := if beg then lastAt (s.now + min (s.least + sp / 4) s.most) s.q else s.zero }
def ins (q : List Wt) (w : Wt) : List Wt := q.takeWhile (fun x => decide (bef x w)) ++ w :: q.dropWhile (fun x => decide (bef x w))
/-- Put behind its checks, in a state that has run -/
def put0 (s : Jt) (m : Md) : Jt × Int :=
  if (s.q.any fun w => w.m.sq == m.sq) then ({ s with twice := s.twice + 1 }, 3) else
  if s.on = true ∧ m.sq ≤ s.done then ({ s with late := s.late + 1 }, 2) else
  if 200 ≤ s.q.length then (s, 4) else
  let r := meas s m
  let a := ptime r m.ti
  if a ≤ s.now then ({ r with late := r.late + 1 }, 2) else
  if s.now + 120000 < a then (r, 5) else ({ r with q := ins r.q ⟨a, m⟩ }, 1)
def put (s : Jt) (now : Int) (m : Md) : Jt × List Wt × Int × Int :=
  if chk s now (decide m.ok) = 0 then ((put0 (run0 s now) m).1, due now s.q, (put0 (run0 s now) m).2, 0) else (Jt.none, [], 0, chk s now (decide m.ok))
end Go.Proofs.Ytnaafjdnmbajjaa.Jb
namespace Go.Proofs.Ytnaafjdnmbajjaa.Jb
open Go.RowKit
set_option linter.unusedVariables false
/-- in the order of play times -/
def Asc (q : List Wt) : Prop := ∀ i j, i < j → j < q.length → bef (q.getD i Wt.zero) (q.getD j Wt.zero)
theorem bef_trans {a b c : Wt} (h1 : bef a b) (h2 : bef b c) : bef a c := by unfold bef at *; omega
theorem bef_irr (a : Wt) : ¬bef a a := by unfold bef; omega
theorem bef_at {a b : Wt} (h : bef a b) : a.at_ ≤ b.at_ := by unfold bef at h; omega
theorem okQ.asc {now high : Int} {q : List Wt} (h : okQ now high q) : Asc q := by
  intro i j hij hj
  induction j with
  | zero => omega
  | succ j ih =>
    have h1 := (h.2 (j + 1) hj).2.2.2.2.1 (by omega)
    rw [Nat.add_sub_cancel] at h1
    by_cases h2 : i = j
    · rw [h2]; exact h1
    · exact bef_trans (ih (by omega) (by omega)) h1
theorem Asc.tail {a : Wt} {q : List Wt} (h : Asc (a :: q)) : Asc q := fun i j hij hj => by
  have := h (i + 1) (j + 1) (by omega) (by simp; omega)
  simpa using this
theorem Asc.head {a : Wt} {q : List Wt} (h : Asc (a :: q)) (b : Wt) (hb : b ∈ q) : bef a b := by
  obtain ⟨j, hj, rfl⟩ := List.getElem_of_mem hb
  have := h 0 (j + 1) (by omega) (by simp; omega)
  simpa [List.getD_eq_getElem?_getD, List.getElem?_eq_getElem hj] using this
theorem filter_due (now : Int) : ∀ q : List Wt, Asc q → q.filter (fun w => decide (w.at_ ≤ now)) = due now q ∧ q.filter (fun w => !decide (w.at_ ≤ now)) = left now q
  | [], _ => ⟨rfl, rfl⟩
  | a :: q, h => by
    obtain ⟨h1, h2⟩ := filter_due now q h.tail
    unfold due left at *
    by_cases ha : a.at_ ≤ now
    · simp only [List.filter_cons, List.takeWhile_cons, List.dropWhile_cons, ha, decide_true, if_true, Bool.not_true]
      exact ⟨by rw [h1], by simpa using h2⟩
    · have hall : ∀ b ∈ q, ¬b.at_ ≤ now := fun b hb => by have := bef_at (h.head b hb); omega
      have e1 : q.filter (fun w => decide (w.at_ ≤ now)) = [] := List.filter_eq_nil_iff.2 (fun b hb => by simpa using hall b hb)
      have e2 : q.filter (fun w => !decide (w.at_ ≤ now)) = q := List.filter_eq_self.2 (fun b hb => by simpa using hall b hb)
      simp only [List.filter_cons, List.takeWhile_cons, List.dropWhile_cons, ha, decide_false, Bool.not_false, if_true, e1, e2]
      exact ⟨rfl, rfl⟩
theorem due_left (now : Int) (q : List Wt) : due now q ++ left now q = q := List.takeWhile_append_dropWhile
/-- the greatest play time is the last one's -/
theorem last_max (z : Int) : ∀ (n : Nat) (q : List Wt), q.length = n → Asc q → q.foldl (fun z w => max z (w.at_ + 1)) z = lastAt z q
  | 0, q, h0, _ => by
    obtain rfl := List.eq_nil_of_length_eq_zero h0
    rfl
  | n + 1, q0, h0, h => by
    obtain ⟨q, w, rfl⟩ : ∃ a b, q0 = a ++ [b] := ⟨q0.dropLast, q0.getLast (by intro e; rw [e] at h0; simp at h0), (List.dropLast_concat_getLast _).symm⟩
    unfold lastAt
    rw [List.foldl_append]
    simp only [List.foldl_cons, List.foldl_nil]
    have hq : Asc q := fun i j hij hj => by
      have := h i j hij (by simp; omega)
      simp only [List.getD_eq_getElem?_getD] at this ⊢
      rwa [List.getElem?_append_left (by omega), List.getElem?_append_left (by omega)] at this
    rw [last_max z n q (by simpa using h0) hq, if_neg (by simp)]
    unfold lastAt
    have hl : ((q ++ [w]).getD ((q ++ [w]).length - 1) Wt.zero) = w := by simp [List.getD_eq_getElem?_getD]
    rw [hl]
    by_cases h1 : q.length = 0
    · rw [if_pos h1]
    · rw [if_neg h1]
      have hb := bef_at (h (q.length - 1) q.length (by omega) (by simp))
      have e1 : (q ++ [w]).getD (q.length - 1) Wt.zero = q.getD (q.length - 1) Wt.zero := by
        simp only [List.getD_eq_getElem?_getD]
        rw [List.getElem?_append_left (by omega)]
      have e2 : (q ++ [w]).getD q.length Wt.zero = w := by simp [List.getD_eq_getElem?_getD]
      rw [e1, e2] at hb
      omega
end Go.Proofs.Ytnaafjdnmbajjaa.Jb
/- A variable of several cells that was made ahead of a call and is written behind it, cell by cell. -/
namespace Go.Proofs.Ytnaafjdnmbajjaa
open Go.RowKit
set_option linter.unusedVariables false
theorem and_dep {p q : Prop} (h : p) (f : p → q) : p ∧ q := ⟨h, f h⟩
theorem size_alloc1 (w : World) (a : Obj) : (w.alloc a).heap.size = w.heap.size + 1 := by simp
theorem size_alloc2 (w : World) (a b : Obj) : ((w.alloc a).alloc b).heap.size = w.heap.size + 1 + 1 := by simp
theorem size_alloc3 (w : World) (a b c : Obj) : (((w.alloc a).alloc b).alloc c).heap.size = w.heap.size + 1 + 1 + 1 := by simp
/-- the cells of block g from i on are written -/
def setRow (g : Nat) : World → Nat → List Value → World
  | w, _, [] => w
  | w, i, v :: vs => setRow g (w.setCell ⟨g, i, none⟩ v) (i + 1) vs
theorem setRow_size (g : Nat) : ∀ (vs : List Value) (w : World) (i : Nat), (setRow g w i vs).heap.size = w.heap.size
  | [], _, _ => rfl
  | v :: vs, w, i => by
    unfold setRow
    rw [setRow_size g vs]
    simp [World.setCell]
theorem below_setRow {B g : Nat} {W : World} (hB : B ≤ g) : ∀ (vs : List Value) (w : World) (i : Nat), Below B W w → Below B W (setRow g w i vs)
  | [], _, _, h => h
  | v :: vs, w, i, h => below_setRow hB vs _ (i + 1) (h.setCell hB v)
theorem RowsNew.setRow {α : Type} {row : α → List Value} {g n size : Nat} {A : Option Addr} {l : List α} (hg : g < n) : ∀ (vs : List Value) (w : World) (i : Nat), RowsNew n w size row A l → RowsNew n (setRow g w i vs) size row A l
  | [], _, _, h => h
  | v :: vs, w, i, h => RowsNew.setRow hg vs _ (i + 1) (RowsNew.setCell h hg v)
/-- the cells ahead of i, then the new ones -/
theorem Blk.setRow_ {g : Nat} {t : TypeId} : ∀ (vs : List Value) (w : World) (i : Nat) (cs : Array Value), Blk w g t cs → cs.size = i + vs.length → Blk (setRow g w i vs) g t (cs.toList.take i ++ vs).toArray
  | [], w, i, cs, h, hs => by
    have : (cs.toList.take i ++ []).toArray = cs := by
      simp at hs
      rw [List.append_nil, List.take_of_length_le (by simp; omega)]
    rw [this]; exact h
  | v :: vs, w, i, cs, h, hs => by
    have h2 := Blk.setRow_ vs (w.setCell ⟨g, i, none⟩ v) (i + 1) _ (h.set_ i v) (by simp at hs ⊢; omega)
    have he : ((cs.setIfInBounds i v).toList.take (i + 1) ++ vs) = cs.toList.take i ++ v :: vs := by
      have hi : i < cs.size := by simp at hs; omega
      simp only [Array.toList_setIfInBounds]
      rw [List.take_succ_eq_append_getElem (by simpa using hi)]
      simp [List.take_set_of_le]
    rw [he] at h2
    exact h2
theorem Blk.setRow {g : Nat} {t : TypeId} {w : World} {cs : Array Value} (h : Blk w g t cs) (vs : List Value) (hs : cs.size = vs.length) : Blk (setRow g w 0 vs) g t vs.toArray := by
  have := Blk.setRow_ vs w 0 cs h (by omega)
  simpa using this
theorem Blk.farRow {g g' : Nat} {t : TypeId} {cs : Array Value} (hg : g ≠ g') : ∀ (vs : List Value) (w : World) (i : Nat), Blk w g t cs → Blk (Go.Proofs.Ytnaafjdnmbajjaa.setRow g' w i vs) g t cs
  | [], _, _, h => h
  | v :: vs, w, i, h => Blk.farRow hg vs _ (i + 1) (h.far (by exact hg) v)
theorem Owns.setRow {base size n c : Nat} {e : TypeId} {A : Option Addr} {xs : List Value} (g : Nat) : ∀ (vs : List Value) (w : World) (i : Nat), (∀ b, ownB A = some b → b ≠ g) → Owns w base e size A n c xs → Owns (Go.Proofs.Ytnaafjdnmbajjaa.setRow g w i vs) base e size A n c xs
  | [], _, _, _, h => h
  | v :: vs, w, i, hb, h => Owns.setRow g vs _ (i + 1) hb (h.setCell (fun b he => hb b he) v)
/-- integers that a call has made: in a block from n on -/
def IntsNew (n : Nat) (w : World) (k : IntKind) (A : Option Addr) (zs : List Int) : Prop := IntsAt w w.heap.size k A zs ∧ (0 < zs.length → ∀ b off, A = some ⟨b, off, none⟩ → n ≤ b)
section
variable {w w' : World} {B n : Nat} {k : IntKind} {A : Option Addr} {zs : List Int}
theorem IntsNew.nil : IntsNew n w k A [] := ⟨IntsAt.nil, fun h => absurd h (by simp)⟩
theorem IntsNew.later (h : IntsNew n w k A zs) (hb : Below w.heap.size w w') : IntsNew n w' k A zs := ⟨h.1.later hb, h.2⟩
theorem IntsNew.push (h : IntsNew n w k A zs) (o : Obj) : IntsNew n (w.alloc o) k A zs := ⟨h.1.push o, h.2⟩
theorem IntsNew.less {m : Nat} (h : IntsNew n w k A zs) (hm : m ≤ n) : IntsNew m w k A zs := ⟨h.1, fun h0 b off e => Nat.le_trans hm (h.2 h0 b off e)⟩
theorem IntsNew.setCell (h : IntsNew n w k A zs) {p : Addr} (hp : p.block < n) (u : Value) : IntsNew n (w.setCell p u) k A zs := by
  refine ⟨fun h0 => ?_, h.2⟩
  obtain ⟨b, off, rfl, hb, hc⟩ := h.1 h0
  have hn := h.2 h0 b off rfl
  refine ⟨b, off, rfl, by simpa [World.setCell] using hb, fun i hi => ?_⟩
  rw [World.cell?_setCell_other w p _ u (fun e => by subst e; simp at hp; omega)]
  exact hc i hi
theorem IntsNew.of_own {base e : Nat} {n c : Nat} (h : Owns w base e 1 A n c (zs.map (Value.int k))) (hB : B ≤ base := by omega) : IntsNew B w k A zs := by
  refine ⟨IntsAt.of_own h, fun h0 b off e => ?_⟩
  have hn : zs.length = n := by have := h.1; simpa using this
  obtain ⟨g, rfl, hg, hlt⟩ := Owns.form h (by omega)
  injection e with e
  injection e with e1 e2
  omega
end
theorem IntsNew.setRow {k : IntKind} {g n : Nat} {A : Option Addr} {zs : List Int} (hg : g < n) : ∀ (vs : List Value) (w : World) (i : Nat), IntsNew n w k A zs → IntsNew n (setRow g w i vs) k A zs
  | [], _, _, h => h
  | v :: vs, w, i, h => IntsNew.setRow hg vs _ (i + 1) (IntsNew.setCell h hg v)
end Go.Proofs.Ytnaafjdnmbajjaa
/- 'append(out, x)' of one element inside a region that draws its order; what such a region keeps of older memory. -/
namespace Go.Proofs.Ytnaafjdnmbajjaa
open Go.RowKit
set_option linter.unusedVariables false
theorem cell_keep {B : Nat} {W w' : World} {a : Addr} {v : Value} (hb : Below B W w') (hlt : a.block < B) (h : W.cell? a = some v) : w'.cell? a = some v := (hb.cell hlt).trans h
theorem below_keep_alloc {B : Nat} {W w' : World} (h : Below B W w') (hB : B ≤ W.heap.size) (o : Obj) : Below B W (w'.alloc o) := h.alloc (Nat.le_trans hB h.size) o
theorem own_ne {w : World} {base size n c g : Nat} {e : TypeId} {A : Option Addr} {xs : List Value} (h : Owns w base e size A n c xs) (hg : g < base) : some g ≠ ownB A := fun he => by have := (h.block g he.symm).1; omega
theorem own_ge {w : World} {base size n c B : Nat} {e : TypeId} {A : Option Addr} {xs : List Value} (h : Owns w base e size A n c xs) (hB : B ≤ base) : ∀ g, ownB A = some g → B ≤ g := fun g he => by have := (h.block g he).1; omega
theorem RowsAt.grown {α : Type} {r : α → List Value} {w w' : World} {B size : Nat} {A : Option Addr} {l : List α} {row : Option Nat} (h : RowsAt w B size r A l) (hg : w.grownBy w' row) (hB : B ≤ w.heap.size) (hr : ∀ g, row = some g → B ≤ g) : RowsAt w' B size r A l :=
  h.keep fun p hp => (Below.refl B w).grown hg hB hr |>.cell hp
theorem rows_start {α : Type} {r : α → List Value} {w2 : World} {g n size : Nat} {A : Option Addr} {l : List α} (h : RowsNew n w2 size r A l) (hg : g < n) (vs : List Value) (o : Obj) : RowsAt ((setRow g w2 0 vs).alloc o) w2.heap.size size r A l := by
  have h1 := (RowsNew.setRow hg vs w2 0 h).1
  rw [setRow_size] at h1
  exact h1.keep fun p hp => World.cell?_alloc_lt _ o p (by rw [setRow_size]; exact hp)
theorem RowsAt.drew {α : Type} {r : α → List Value} {w : World} {B size : Nat} {A : Option Addr} {l : List α} (h : RowsAt w B size r A l) : RowsAt w.drew B size r A l := h
/-- one element, whose cells lie in block g0 -/
theorem step_append_one {P : Program} {ops : Array Oper} {o : Oper} {a : Act} {w : World} {K : Act → World → Prop} {Q : Exit → Act → World → Prop} {E : Prop} (d : Tmp) (hgd : o.guard = none) (hd : o.dst = some d) (s x : Operand) (t : TypeId)
    (ho : o.op = .call { callee := .builtin .append, args := #[s, x], argTypes := #[t, t] })
    (base : Nat) (e : TypeId) (size bytes : Nat) (z : Value) (ht : P.underlying t = some (.slice e)) (hinfo : (P.info? e).map (fun i => (i.zero, i.size, i.bytes)) = some (some z, size, bytes))
    (hzs : z.cells.size = size) (hsz : 0 < size) (A : Option Addr) (n c : Nat) (xs : List Value) (hs : a.eval s = .slice A n c) (hown : Owns w base e size A n c xs)
    (g0 : Nat) (cs : List Value) (hl : cs.length = size) (h1 : ∀ u ∈ cs, u.oneCell' = true) (hx : a.eval x = .slice (some ⟨g0, 0, none⟩) 1 1) (hb : Blk w g0 e cs.toArray)
    (h63 : n + 1 ≤ maxLen) (hbytes : (n + 1) * bytes ≤ 140737488355328) (hbase : base ≤ w.heap.size)
    (h : ∀ (A' : Option Addr) (c' : Nat) (w' : World), Owns w' base e size A' (n + 1) c' (xs ++ cs) → w.grownBy w' (ownB A) → K (a.put (some d) (.slice A' (n + 1) c')) w') :
    if Region.wanted o (yielded ops a.tmps) = true then Oper.wp P o a w K Q else E := by
  obtain ⟨i, hi, hz0, hz1, hz2⟩ := info_parts hinfo
  refine step_append_lies w hgd s x t ho base e i z size bytes ht hi hz0 hz1 hz2 hzs hsz _ n xs hs hown ⟨g0, 0, none⟩ 1 1 cs hx (by omega) ?_ h1 (by omega) h63 hbytes hbase _ rfl ?_
  · intro j u hu
    exact World.news_of_block hb j u (by simpa using hu)
  · intro g cap w' hown' hg _ hlt
    rw [ownB_eq] at hg
    rw [hd]
    exact h _ _ w' hown' hg
end Go.Proofs.Ytnaafjdnmbajjaa
/- Layer 30: lists of waiting packets in memory. -/
namespace Go.Proofs.Ytnaafjdnmbajjaa
open Go.RowKit
set_option linter.unusedVariables false
set_option linter.unusedSimpArgs false
/-- a waiting packet in memory: where its payload lies -/
structure TW where
  w : Jb.Wt
  B : Option Addr
  c : Nat
def TW.row (a : TW) : List Value := [.int .i64 a.w.at_, .int .i64 a.w.m.sq, .int .i64 a.w.m.ti, .bool a.w.m.mrk, .int .u8 a.w.m.ty, .slice a.B a.w.m.pl.length a.c]
/-- a list of waiting packets lies at A, below n -/
def Wts (w : World) (n : Nat) (A : Option Addr) (l : List TW) : Prop := RowsAt w n 6 TW.row A l ∧ ∀ a ∈ l, IntsAt w n .u8 a.B a.w.m.pl
section
variable {w w' : World} {n : Nat} {A : Option Addr} {l : List TW}
theorem Wts.nil : Wts w n A [] := ⟨RowsAt.nil, fun _ h => by cases h⟩
theorem Wts.keep (h : Wts w n A l) (hk : ∀ p : Addr, p.block < n → w'.cell? p = w.cell? p) : Wts w' n A l := ⟨h.1.keep hk, fun a ha => (h.2 a ha).keep hk⟩
theorem Wts.more {m : Nat} (h : Wts w n A l) (hm : n ≤ m) : Wts w m A l := ⟨h.1.more hm, fun a ha => (h.2 a ha).more hm⟩
theorem Wts.later (h : Wts w w.heap.size A l) (hb : Below w.heap.size w w') : Wts w' w'.heap.size A l := (h.keep fun _ hp => hb.cell hp).more hb.size
theorem Wts.below {B : Nat} (h : Wts w B A l) (hb : Below B w w') : Wts w' B A l := h.keep fun _ hp => hb.cell hp
theorem Wts.push (h : Wts w w.heap.size A l) (o : Obj) : Wts (w.alloc o) (w.alloc o).heap.size A l := (h.keep fun p hp => World.cell?_alloc_lt w o p hp).more (by simp)
theorem Wts.drew (h : Wts w n A l) : Wts w.drew n A l := h
end
theorem rowsW {w : World} {n : Nat} {A : Option Addr} {l : List TW} (h : RowsAt w n 6 TW.row A l) {k : Nat} {a : TW} (ha : l[k]? = some a) : ∃ b off, A = some ⟨b, off, none⟩ ∧ b < n ∧
    w.cell? ⟨b, off + k * 6, none⟩ = some (.int .i64 a.w.at_) ∧ w.cell? ⟨b, off + k * 6 + 1, none⟩ = some (.int .i64 a.w.m.sq) ∧ w.cell? ⟨b, off + k * 6 + 2, none⟩ = some (.int .i64 a.w.m.ti) ∧ w.cell? ⟨b, off + k * 6 + 3, none⟩ = some (.bool a.w.m.mrk) ∧ w.cell? ⟨b, off + k * 6 + 4, none⟩ = some (.int .u8 a.w.m.ty) ∧ w.cell? ⟨b, off + k * 6 + 5, none⟩ = some (.slice a.B a.w.m.pl.length a.c) := by
  obtain ⟨b, off, rfl, hb, hc⟩ := h (by have := (List.getElem?_eq_some_iff.1 ha).1; omega)
  exact ⟨b, off, rfl, hb, hc k a ha 0 _ rfl, hc k a ha 1 _ rfl, hc k a ha 2 _ rfl, hc k a ha 3 _ rfl, hc k a ha 4 _ rfl, hc k a ha 5 _ rfl⟩
/-- the cells of a state -/
def JROW (s : Jb.Jt) (A : Option Addr) (c : Nat) : List Value := [.int .i64 s.least, .int .i64 s.most, .int .i64 s.now, .bool s.on, .int .i64 s.zero, .int .i64 s.first, .int .i64 s.high, .int .i64 s.done, .int .i64 s.spread, .int .i64 s.trans, .slice A s.q.length c, .int .i64 s.late, .int .i64 s.twice, .int .i64 s.played]
/-- the numbers of a state are int64 -/
def I64 (z : Int) : Prop := -9223372036854775808 ≤ z ∧ z ≤ 9223372036854775807
structure Fits (s : Jb.Jt) : Prop where
  least : I64 s.least
  most : I64 s.most
  now : I64 s.now
  zero : I64 s.zero
  first : I64 s.first
  high : I64 s.high
  done : I64 s.done
  spread : I64 s.spread
  trans : I64 s.trans
  late : I64 s.late
  twice : I64 s.twice
  played : I64 s.played
  q : ∀ w ∈ s.q, I64 w.at_ ∧ I64 w.m.sq ∧ I64 w.m.ti ∧ 0 ≤ w.m.ty ∧ w.m.ty ≤ 255 ∧ Within 0 255 w.m.pl
end Go.Proofs.Ytnaafjdnmbajjaa
/- What a function's results read as where some of them lie in memory, shape by shape (c: a result in a cell, t: in a slot). -/
namespace Go.Proofs.Ytnaafjdnmbajjaa
theorem res_c {P : Program} {fn : Func} {w : World} {tmps : Array Value} {p0 : Tmp} {y0 : TypeId} {a0 : Addr} {v0 : Value} (h : fn.results = #[.cell p0 y0]) (ha0 : tmps.getD p0 undef = .pointer (some a0)) (hl0 : (loadVar y0 a0).run P w = .ok v0 w) :
    (results fn tmps).run P w = .ok (v0) w := by
  simp only [Array.getD_eq_getD_getElem?] at ha0
  simp only [results, h]
  first | (simp [asAddr, ha0, hl0]; done) | (simp [Result.andThen, asAddr, ha0, hl0]; done) | (simp [Sem.run_bind, Result.andThen, asAddr, ha0, hl0]; done)
theorem res_ct {P : Program} {fn : Func} {w : World} {tmps : Array Value} {p0 : Tmp} {y0 : TypeId} {a0 : Addr} {v0 : Value} {u1 : Tmp} {v1 : Value} (h : fn.results = #[.cell p0 y0, .tmp u1]) (ha0 : tmps.getD p0 undef = .pointer (some a0)) (hl0 : (loadVar y0 a0).run P w = .ok v0 w) (ht1 : tmps.getD u1 undef = v1) :
    (results fn tmps).run P w = .ok (.tuple #[v0, v1]) w := by
  simp only [Array.getD_eq_getD_getElem?] at ha0 ht1
  simp only [results, h]
  first | (simp [asAddr, ha0, hl0, ht1]; done) | (simp [Result.andThen, asAddr, ha0, hl0, ht1]; done) | (simp [Sem.run_bind, Result.andThen, asAddr, ha0, hl0, ht1]; done)
theorem res_cc {P : Program} {fn : Func} {w : World} {tmps : Array Value} {p0 : Tmp} {y0 : TypeId} {a0 : Addr} {v0 : Value} {p1 : Tmp} {y1 : TypeId} {a1 : Addr} {v1 : Value} (h : fn.results = #[.cell p0 y0, .cell p1 y1]) (ha0 : tmps.getD p0 undef = .pointer (some a0)) (hl0 : (loadVar y0 a0).run P w = .ok v0 w) (ha1 : tmps.getD p1 undef = .pointer (some a1)) (hl1 : (loadVar y1 a1).run P w = .ok v1 w) :
    (results fn tmps).run P w = .ok (.tuple #[v0, v1]) w := by
  simp only [Array.getD_eq_getD_getElem?] at ha0 ha1
  simp only [results, h]
  first | (simp [asAddr, ha0, hl0, ha1, hl1]; done) | (simp [Result.andThen, asAddr, ha0, hl0, ha1, hl1]; done) | (simp [Sem.run_bind, Result.andThen, asAddr, ha0, hl0, ha1, hl1]; done)
theorem res_tct {P : Program} {fn : Func} {w : World} {tmps : Array Value} {u0 : Tmp} {v0 : Value} {p1 : Tmp} {y1 : TypeId} {a1 : Addr} {v1 : Value} {u2 : Tmp} {v2 : Value} (h : fn.results = #[.tmp u0, .cell p1 y1, .tmp u2]) (ht0 : tmps.getD u0 undef = v0) (ha1 : tmps.getD p1 undef = .pointer (some a1)) (hl1 : (loadVar y1 a1).run P w = .ok v1 w) (ht2 : tmps.getD u2 undef = v2) :
    (results fn tmps).run P w = .ok (.tuple #[v0, v1, v2]) w := by
  simp only [Array.getD_eq_getD_getElem?] at ht0 ha1 ht2
  simp only [results, h]
  first | (simp [asAddr, ht0, ha1, hl1, ht2]; done) | (simp [Result.andThen, asAddr, ht0, ha1, hl1, ht2]; done) | (simp [Sem.run_bind, Result.andThen, asAddr, ht0, ha1, hl1, ht2]; done)
theorem res_ctt {P : Program} {fn : Func} {w : World} {tmps : Array Value} {p0 : Tmp} {y0 : TypeId} {a0 : Addr} {v0 : Value} {u1 : Tmp} {v1 : Value} {u2 : Tmp} {v2 : Value} (h : fn.results = #[.cell p0 y0, .tmp u1, .tmp u2]) (ha0 : tmps.getD p0 undef = .pointer (some a0)) (hl0 : (loadVar y0 a0).run P w = .ok v0 w) (ht1 : tmps.getD u1 undef = v1) (ht2 : tmps.getD u2 undef = v2) :
    (results fn tmps).run P w = .ok (.tuple #[v0, v1, v2]) w := by
  simp only [Array.getD_eq_getD_getElem?] at ha0 ht1 ht2
  simp only [results, h]
  first | (simp [asAddr, ha0, hl0, ht1, ht2]; done) | (simp [Result.andThen, asAddr, ha0, hl0, ht1, ht2]; done) | (simp [Sem.run_bind, Result.andThen, asAddr, ha0, hl0, ht1, ht2]; done)
theorem res_cct {P : Program} {fn : Func} {w : World} {tmps : Array Value} {p0 : Tmp} {y0 : TypeId} {a0 : Addr} {v0 : Value} {p1 : Tmp} {y1 : TypeId} {a1 : Addr} {v1 : Value} {u2 : Tmp} {v2 : Value} (h : fn.results = #[.cell p0 y0, .cell p1 y1, .tmp u2]) (ha0 : tmps.getD p0 undef = .pointer (some a0)) (hl0 : (loadVar y0 a0).run P w = .ok v0 w) (ha1 : tmps.getD p1 undef = .pointer (some a1)) (hl1 : (loadVar y1 a1).run P w = .ok v1 w) (ht2 : tmps.getD u2 undef = v2) :
    (results fn tmps).run P w = .ok (.tuple #[v0, v1, v2]) w := by
  simp only [Array.getD_eq_getD_getElem?] at ha0 ha1 ht2
  simp only [results, h]
  first | (simp [asAddr, ha0, hl0, ha1, hl1, ht2]; done) | (simp [Result.andThen, asAddr, ha0, hl0, ha1, hl1, ht2]; done) | (simp [Sem.run_bind, Result.andThen, asAddr, ha0, hl0, ha1, hl1, ht2]; done)
theorem res_cctt {P : Program} {fn : Func} {w : World} {tmps : Array Value} {p0 : Tmp} {y0 : TypeId} {a0 : Addr} {v0 : Value} {p1 : Tmp} {y1 : TypeId} {a1 : Addr} {v1 : Value} {u2 : Tmp} {v2 : Value} {u3 : Tmp} {v3 : Value} (h : fn.results = #[.cell p0 y0, .cell p1 y1, .tmp u2, .tmp u3]) (ha0 : tmps.getD p0 undef = .pointer (some a0)) (hl0 : (loadVar y0 a0).run P w = .ok v0 w) (ha1 : tmps.getD p1 undef = .pointer (some a1)) (hl1 : (loadVar y1 a1).run P w = .ok v1 w) (ht2 : tmps.getD u2 undef = v2) (ht3 : tmps.getD u3 undef = v3) :
    (results fn tmps).run P w = .ok (.tuple #[v0, v1, v2, v3]) w := by
  simp only [Array.getD_eq_getD_getElem?] at ha0 ha1 ht2 ht3
  simp only [results, h]
  first | (simp [asAddr, ha0, hl0, ha1, hl1, ht2, ht3]; done) | (simp [Result.andThen, asAddr, ha0, hl0, ha1, hl1, ht2, ht3]; done) | (simp [Sem.run_bind, Result.andThen, asAddr, ha0, hl0, ha1, hl1, ht2, ht3]; done)
theorem res_ctc {P : Program} {fn : Func} {w : World} {tmps : Array Value} {p0 : Tmp} {y0 : TypeId} {a0 : Addr} {v0 : Value} {u1 : Tmp} {v1 : Value} {p2 : Tmp} {y2 : TypeId} {a2 : Addr} {v2 : Value} (h : fn.results = #[.cell p0 y0, .tmp u1, .cell p2 y2]) (ha0 : tmps.getD p0 undef = .pointer (some a0)) (hl0 : (loadVar y0 a0).run P w = .ok v0 w) (ht1 : tmps.getD u1 undef = v1) (ha2 : tmps.getD p2 undef = .pointer (some a2)) (hl2 : (loadVar y2 a2).run P w = .ok v2 w) :
    (results fn tmps).run P w = .ok (.tuple #[v0, v1, v2]) w := by
  simp only [Array.getD_eq_getD_getElem?] at ha0 ht1 ha2
  simp only [results, h]
  first | (simp [asAddr, ha0, hl0, ht1, ha2, hl2]; done) | (simp [Result.andThen, asAddr, ha0, hl0, ht1, ha2, hl2]; done) | (simp [Sem.run_bind, Result.andThen, asAddr, ha0, hl0, ht1, ha2, hl2]; done)
theorem res_cttt {P : Program} {fn : Func} {w : World} {tmps : Array Value} {p0 : Tmp} {y0 : TypeId} {a0 : Addr} {v0 : Value} {u1 : Tmp} {v1 : Value} {u2 : Tmp} {v2 : Value} {u3 : Tmp} {v3 : Value} (h : fn.results = #[.cell p0 y0, .tmp u1, .tmp u2, .tmp u3]) (ha0 : tmps.getD p0 undef = .pointer (some a0)) (hl0 : (loadVar y0 a0).run P w = .ok v0 w) (ht1 : tmps.getD u1 undef = v1) (ht2 : tmps.getD u2 undef = v2) (ht3 : tmps.getD u3 undef = v3) :
    (results fn tmps).run P w = .ok (.tuple #[v0, v1, v2, v3]) w := by
  simp only [Array.getD_eq_getD_getElem?] at ha0 ht1 ht2 ht3
  simp only [results, h]
  first | (simp [asAddr, ha0, hl0, ht1, ht2, ht3]; done) | (simp [Result.andThen, asAddr, ha0, hl0, ht1, ht2, ht3]; done) | (simp [Sem.run_bind, Result.andThen, asAddr, ha0, hl0, ht1, ht2, ht3]; done)
theorem res_ctct {P : Program} {fn : Func} {w : World} {tmps : Array Value} {p0 : Tmp} {y0 : TypeId} {a0 : Addr} {v0 : Value} {u1 : Tmp} {v1 : Value} {p2 : Tmp} {y2 : TypeId} {a2 : Addr} {v2 : Value} {u3 : Tmp} {v3 : Value} (h : fn.results = #[.cell p0 y0, .tmp u1, .cell p2 y2, .tmp u3]) (ha0 : tmps.getD p0 undef = .pointer (some a0)) (hl0 : (loadVar y0 a0).run P w = .ok v0 w) (ht1 : tmps.getD u1 undef = v1) (ha2 : tmps.getD p2 undef = .pointer (some a2)) (hl2 : (loadVar y2 a2).run P w = .ok v2 w) (ht3 : tmps.getD u3 undef = v3) :
    (results fn tmps).run P w = .ok (.tuple #[v0, v1, v2, v3]) w := by
  simp only [Array.getD_eq_getD_getElem?] at ha0 ht1 ha2 ht3
  simp only [results, h]
  first | (simp [asAddr, ha0, hl0, ht1, ha2, hl2, ht3]; done) | (simp [Result.andThen, asAddr, ha0, hl0, ht1, ha2, hl2, ht3]; done) | (simp [Sem.run_bind, Result.andThen, asAddr, ha0, hl0, ht1, ha2, hl2, ht3]; done)
theorem res_tcct {P : Program} {fn : Func} {w : World} {tmps : Array Value} {u0 : Tmp} {v0 : Value} {p1 : Tmp} {y1 : TypeId} {a1 : Addr} {v1 : Value} {p2 : Tmp} {y2 : TypeId} {a2 : Addr} {v2 : Value} {u3 : Tmp} {v3 : Value} (h : fn.results = #[.tmp u0, .cell p1 y1, .cell p2 y2, .tmp u3]) (ht0 : tmps.getD u0 undef = v0) (ha1 : tmps.getD p1 undef = .pointer (some a1)) (hl1 : (loadVar y1 a1).run P w = .ok v1 w) (ha2 : tmps.getD p2 undef = .pointer (some a2)) (hl2 : (loadVar y2 a2).run P w = .ok v2 w) (ht3 : tmps.getD u3 undef = v3) :
    (results fn tmps).run P w = .ok (.tuple #[v0, v1, v2, v3]) w := by
  simp only [Array.getD_eq_getD_getElem?] at ht0 ha1 ha2 ht3
  simp only [results, h]
  first | (simp [asAddr, ht0, ha1, hl1, ha2, hl2, ht3]; done) | (simp [Result.andThen, asAddr, ht0, ha1, hl1, ha2, hl2, ht3]; done) | (simp [Sem.run_bind, Result.andThen, asAddr, ht0, ha1, hl1, ha2, hl2, ht3]; done)
theorem res_tctt {P : Program} {fn : Func} {w : World} {tmps : Array Value} {u0 : Tmp} {v0 : Value} {p1 : Tmp} {y1 : TypeId} {a1 : Addr} {v1 : Value} {u2 : Tmp} {v2 : Value} {u3 : Tmp} {v3 : Value} (h : fn.results = #[.tmp u0, .cell p1 y1, .tmp u2, .tmp u3]) (ht0 : tmps.getD u0 undef = v0) (ha1 : tmps.getD p1 undef = .pointer (some a1)) (hl1 : (loadVar y1 a1).run P w = .ok v1 w) (ht2 : tmps.getD u2 undef = v2) (ht3 : tmps.getD u3 undef = v3) :
    (results fn tmps).run P w = .ok (.tuple #[v0, v1, v2, v3]) w := by
  simp only [Array.getD_eq_getD_getElem?] at ht0 ha1 ht2 ht3
  simp only [results, h]
  first | (simp [asAddr, ht0, ha1, hl1, ht2, ht3]; done) | (simp [Result.andThen, asAddr, ht0, ha1, hl1, ht2, ht3]; done) | (simp [Sem.run_bind, Result.andThen, asAddr, ht0, ha1, hl1, ht2, ht3]; done)
theorem res_ccc {P : Program} {fn : Func} {w : World} {tmps : Array Value} {p0 : Tmp} {y0 : TypeId} {a0 : Addr} {v0 : Value} {p1 : Tmp} {y1 : TypeId} {a1 : Addr} {v1 : Value} {p2 : Tmp} {y2 : TypeId} {a2 : Addr} {v2 : Value} (h : fn.results = #[.cell p0 y0, .cell p1 y1, .cell p2 y2]) (ha0 : tmps.getD p0 undef = .pointer (some a0)) (hl0 : (loadVar y0 a0).run P w = .ok v0 w) (ha1 : tmps.getD p1 undef = .pointer (some a1)) (hl1 : (loadVar y1 a1).run P w = .ok v1 w) (ha2 : tmps.getD p2 undef = .pointer (some a2)) (hl2 : (loadVar y2 a2).run P w = .ok v2 w) :
    (results fn tmps).run P w = .ok (.tuple #[v0, v1, v2]) w := by
  simp only [Array.getD_eq_getD_getElem?] at ha0 ha1 ha2
  simp only [results, h]
  first | (simp [asAddr, ha0, hl0, ha1, hl1, ha2, hl2]; done) | (simp [Result.andThen, asAddr, ha0, hl0, ha1, hl1, ha2, hl2]; done) | (simp [Sem.run_bind, Result.andThen, asAddr, ha0, hl0, ha1, hl1, ha2, hl2]; done)
theorem res_cctc {P : Program} {fn : Func} {w : World} {tmps : Array Value} {p0 : Tmp} {y0 : TypeId} {a0 : Addr} {v0 : Value} {p1 : Tmp} {y1 : TypeId} {a1 : Addr} {v1 : Value} {u2 : Tmp} {v2 : Value} {p3 : Tmp} {y3 : TypeId} {a3 : Addr} {v3 : Value} (h : fn.results = #[.cell p0 y0, .cell p1 y1, .tmp u2, .cell p3 y3]) (ha0 : tmps.getD p0 undef = .pointer (some a0)) (hl0 : (loadVar y0 a0).run P w = .ok v0 w) (ha1 : tmps.getD p1 undef = .pointer (some a1)) (hl1 : (loadVar y1 a1).run P w = .ok v1 w) (ht2 : tmps.getD u2 undef = v2) (ha3 : tmps.getD p3 undef = .pointer (some a3)) (hl3 : (loadVar y3 a3).run P w = .ok v3 w) :
    (results fn tmps).run P w = .ok (.tuple #[v0, v1, v2, v3]) w := by
  simp only [Array.getD_eq_getD_getElem?] at ha0 ha1 ht2 ha3
  simp only [results, h]
  first | (simp [asAddr, ha0, hl0, ha1, hl1, ht2, ha3, hl3]; done) | (simp [Result.andThen, asAddr, ha0, hl0, ha1, hl1, ht2, ha3, hl3]; done) | (simp [Sem.run_bind, Result.andThen, asAddr, ha0, hl0, ha1, hl1, ht2, ha3, hl3]; done)
/-- min and max of two integers, so that the walk does not part on them: 'attribute [local go_sem ↓] run_min_plain run_max_plain' -/
theorem run_min_plain {P : Program} {w : World} (ts : Array TypeId) (t : TypeId) (k : IntKind) (x y : Int) : (Builtin.min_ ts t #[.int k x, .int k y]).run P w = .ok (.int k (min x y)) w := by
  rw [run_min_int2]; congr 2; split <;> omega
theorem run_max_plain {P : Program} {w : World} (ts : Array TypeId) (t : TypeId) (k : IntKind) (x y : Int) : (Builtin.max_ ts t #[.int k x, .int k y]).run P w = .ok (.int k (max x y)) w := by
  rw [run_max_int2]; congr 2; split <;> omega
/-- draws outermost, so that the walk sees the cells behind them: 'attribute [local go_sem] setCell_drewN alloc_drewN' -/
theorem setCell_drewN {w : World} {n : Nat} {a : Addr} {v : Value} : (w.drewN n).setCell a v = (w.setCell a v).drewN n := rfl
theorem alloc_drewN {w : World} {n : Nat} {o : Obj} : (w.drewN n).alloc o = (w.alloc o).drewN n := rfl
end Go.Proofs.Ytnaafjdnmbajjaa
/- Layer 30: the small functions. -/
namespace Go.Proofs.Ytnaafjdnmbajjaa
open Go.RowKit
set_option linter.unusedVariables false
set_option linter.unusedSimpArgs false
attribute [local go_sem ↓] run_min_plain run_max_plain
attribute [local go_sem] setCell_drewN alloc_drewN
theorem i64_small (x : Int) (h0 : -9223372036854775808 ≤ x) (h1 : x ≤ 9223372036854775807) : IntKind.i64.wrap x = x := by
  by_cases h : 0 ≤ x
  · have e : x % 2 ^ 64 = x := Int.emod_eq_of_lt h (by omega)
    simp only [IntKind.wrap, IntKind.bits, IntKind.signed, e]
    rw [if_neg (by simp; omega)]
  · have e : x % 2 ^ 64 = x + 2 ^ 64 := by omega
    simp only [IntKind.wrap, IntKind.bits, IntKind.signed, e]
    rw [if_pos (by simp; omega)]
    omega
theorem ret_i {k : IntKind} {a b : Int} (h : a = b) : Ending.returned (.int k a) = .returned (.int k b) := by rw [h]
theorem ret_b {a b : Bool} (h : a = b) : Ending.returned (.bool a) = .returned (.bool b) := by rw [h]
set_option maxRecDepth 100000 in
set_option maxHeartbeats 12800000 in
theorem eighth_any (x : Int) (w : World) (x0 : -9223372036854775808 ≤ x) (x1 : x ≤ 9223372036854775807) : Calls Try.prog 50 #[.int .i64 x] w fun e w' => e = .returned (.int .i64 (x / 8)) ∧ w = w' := by
  go_enter Try.func50, Try.ntmps50
  go_wp2_with fail
  go_ret
  exact ⟨by rfl, rfl⟩
set_option maxRecDepth 100000 in
set_option maxHeartbeats 12800000 in
theorem reighth_any (x : Int) (w : World) (x0 : -9223372036854775000 ≤ x) (x1 : x ≤ 9223372036854775000) : Calls Try.prog 39 #[.int .i64 x] w fun e w' => e = .returned (.int .i64 (x / 8)) ∧ w = w' := by
  obtain ⟨q, hq⟩ : ∃ q, x.tdiv 8 = q := ⟨_, rfl⟩
  obtain ⟨r, hr⟩ : ∃ r, x.tmod 8 = r := ⟨_, rfl⟩
  have hqr : 8 * q + r = x := by rw [← hq, ← hr]; exact Int.mul_tdiv_add_tmod x 8
  have hb1 := Int.tmod_lt_of_pos x (show (0 : Int) < 8 by decide)
  have hb2 : -8 < r := by
    by_cases h : 0 ≤ x
    · have := Int.tmod_nonneg 8 h; omega
    · have h3 := Int.tmod_lt_of_pos (-x) (show (0 : Int) < 8 by decide)
      rw [Int.neg_tmod] at h3
      omega
  rw [hr] at hb1
  obtain ⟨y, hy⟩ : ∃ y, y = x / 8 := ⟨_, rfl⟩
  rw [← hy]
  have hqb : -1152921504606846976 ≤ q ∧ q ≤ 1152921504606846976 := by omega
  obtain ⟨hqb1, hqb2⟩ := hqb
  by_cases hneg : r < 0
  · have hY : y = q - 1 := by omega
    have HY := Lib.hid hY
    clear hY hy hqr
    go_enter Try.func39, Try.ntmps39
    go_wp2_with fail
    go_ret
    exact ⟨ret_i HY.out.symm, rfl⟩
  · have hY : y = q := by
      have : 0 ≤ r := by omega
      omega
    have HY := Lib.hid hY
    have hnn : 0 ≤ r := by omega
    clear hY hy hqr
    go_enter Try.func39, Try.ntmps39
    go_wp2_with fail
    go_ret
    exact ⟨ret_i HY.out.symm, rfl⟩
set_option maxRecDepth 100000 in
set_option maxHeartbeats 12800000 in
theorem within_any (n lo hi : Int) (w : World) (b : Bool) (hb : b = decide (lo ≤ n ∧ n ≤ hi)) : Calls Try.prog 43 #[.int .i64 n, .int .i64 lo, .int .i64 hi] w fun e w' => e = .returned (.bool b) ∧ w = w' := by
  by_cases h1 : lo ≤ n
  · have hv : b = decide (n ≤ hi) := by rw [hb]; simp [h1]
    clear hb
    subst hv
    go_enter Try.func43, Try.ntmps43
    go_wp2_with fail
    go_ret
    exact ⟨by rfl, rfl⟩
  · have hv : b = false := by rw [hb]; simp [h1]
    clear hb
    subst hv
    have h1' : n < lo := by omega
    go_enter Try.func43, Try.ntmps43
    go_wp2_with fail
    go_ret
    exact ⟨by rfl, rfl⟩
set_option maxRecDepth 100000 in
set_option maxHeartbeats 12800000 in
theorem cmpi_nan (x : Int) (w : World) : Calls Try.prog 56 #[.int .i64 x] w fun e w' => e = .returned (.bool false) ∧ w = w' := by
  go_enter Try.func56, Try.ntmps56
  go_wp2_with fail
  go_ret
  exact ⟨by simp, rfl⟩
set_option maxRecDepth 100000 in
set_option maxHeartbeats 12800000 in
theorem cmpi_any (x y : Int) (w : World) : Calls Try.prog 51 #[.int .i64 x, .int .i64 y] w fun e w' => e = .returned (.int .i64 (if x < y then -1 else if y < x then 1 else 0)) ∧ w = w' := by
  obtain ⟨R, hR⟩ : ∃ R : Int, R = if x < y then -1 else if y < x then 1 else 0 := ⟨_, rfl⟩
  rw [← hR]
  have hc : (x < y ∧ R = -1) ∨ (¬x < y ∧ y < x ∧ R = 1) ∨ (¬x < y ∧ ¬y < x ∧ R = 0) := by
    by_cases h1 : x < y
    · left; exact ⟨h1, by rw [hR, if_pos h1]⟩
    · by_cases h2 : y < x
      · right; left; exact ⟨h1, h2, by rw [hR, if_neg h1, if_pos h2]⟩
      · right; right; exact ⟨h1, h2, by rw [hR, if_neg h1, if_neg h2]⟩
  clear hR
  rcases hc with ⟨h1, rfl⟩ | ⟨h1, h2, rfl⟩ | ⟨h1, h2, rfl⟩
  all_goals
    go_enter Try.func51, Try.ntmps51
    go_wp2_with fail
    refine (cmpi_nan _ _).mono ?_
    rintro e w1 ⟨rfl, rfl⟩
    go_wp2_with fail
    refine (cmpi_nan _ _).mono ?_
    rintro e w1 ⟨rfl, rfl⟩
    go_wp2_with fail
    go_ret
    exact ⟨rfl, rfl⟩
set_option maxRecDepth 100000 in
set_option maxHeartbeats 12800000 in
theorem cmpl_nan (x : Int) (w : World) : Calls Try.prog 57 #[.int .i64 x] w fun e w' => e = .returned (.bool false) ∧ w = w' := by
  go_enter Try.func57, Try.ntmps57
  go_wp2_with fail
  go_ret
  exact ⟨by simp, rfl⟩
set_option maxRecDepth 100000 in
set_option maxHeartbeats 12800000 in
theorem cmpl_any (x y : Int) (w : World) : Calls Try.prog 52 #[.int .i64 x, .int .i64 y] w fun e w' => e = .returned (.int .i64 (if x < y then -1 else if y < x then 1 else 0)) ∧ w = w' := by
  obtain ⟨R, hR⟩ : ∃ R : Int, R = if x < y then -1 else if y < x then 1 else 0 := ⟨_, rfl⟩
  rw [← hR]
  have hc : (x < y ∧ R = -1) ∨ (¬x < y ∧ y < x ∧ R = 1) ∨ (¬x < y ∧ ¬y < x ∧ R = 0) := by
    by_cases h1 : x < y
    · left; exact ⟨h1, by rw [hR, if_pos h1]⟩
    · by_cases h2 : y < x
      · right; left; exact ⟨h1, h2, by rw [hR, if_neg h1, if_pos h2]⟩
      · right; right; exact ⟨h1, h2, by rw [hR, if_neg h1, if_neg h2]⟩
  clear hR
  rcases hc with ⟨h1, rfl⟩ | ⟨h1, h2, rfl⟩ | ⟨h1, h2, rfl⟩
  all_goals
    go_enter Try.func52, Try.ntmps52
    go_wp2_with fail
    refine (cmpl_nan _ _).mono ?_
    rintro e w1 ⟨rfl, rfl⟩
    go_wp2_with fail
    refine (cmpl_nan _ _).mono ?_
    rintro e w1 ⟨rfl, rfl⟩
    go_wp2_with fail
    go_ret
    exact ⟨rfl, rfl⟩
set_option maxRecDepth 100000 in
set_option maxHeartbeats 12800000 in
theorem config_any (l m : Int) (w : World) (v : Bool) (hv : v = decide (1 ≤ l ∧ l ≤ m ∧ m ≤ 1000)) : Calls Try.prog 42 #[.agg #[.int .i64 l, .int .i64 m]] w fun e w' => e = .returned (.bool v) ∧ Below w.heap.size w w' := by
  have hc : (l < 1 ∧ v = false) ∨ (1 ≤ l ∧ m < l ∧ v = false) ∨ (1 ≤ l ∧ l ≤ m ∧ 1000 < m ∧ v = false) ∨ (1 ≤ l ∧ l ≤ m ∧ m ≤ 1000 ∧ v = true) := by
    by_cases p0 : 1 ≤ l
    rotate_left
    · have q0 : l < 1 := by omega
      have hf : v = false := by rw [hv, decide_eq_false_iff_not]; intro hx; omega
      left; exact ⟨q0, hf⟩
    by_cases p1 : l ≤ m
    rotate_left
    · have q1 : m < l := by omega
      have hf : v = false := by rw [hv, decide_eq_false_iff_not]; intro hx; omega
      right; left; exact ⟨p0, q1, hf⟩
    by_cases p2 : m ≤ 1000
    rotate_left
    · have q2 : 1000 < m := by omega
      have hf : v = false := by rw [hv, decide_eq_false_iff_not]; intro hx; omega
      right; right; left; exact ⟨p0, p1, q2, hf⟩
    have ht : v = true := by rw [hv, decide_eq_true_iff]; omega
    right; right; right; exact ⟨p0, p1, p2, ht⟩
  clear hv
  rcases hc with ⟨h0, rfl⟩ | ⟨h0, h1, rfl⟩ | ⟨h0, h1, h2, rfl⟩ | ⟨h0, h1, h2, rfl⟩
  all_goals
    go_enter Try.func42, Try.ntmps42
    go_wp2_with fail
    go_ret
    exact ⟨by first | (simp; done) | (simp; omega), (Below.refl _ _).alloc (Nat.le_refl _) _⟩
set_option maxRecDepth 100000 in
set_option maxHeartbeats 12800000 in
theorem rconfig_any (l m : Int) (w : World) (v : Bool) (hv : v = decide (1 ≤ l ∧ l ≤ m ∧ m ≤ 1000)) : Calls Try.prog 24 #[.agg #[.int .i64 l, .int .i64 m]] w fun e w' => e = .returned (.bool v) ∧ Below w.heap.size w w' := by
  have hc : (l < 1 ∧ v = false) ∨ (1 ≤ l ∧ m < l ∧ v = false) ∨ (1 ≤ l ∧ l ≤ m ∧ 1000 < m ∧ v = false) ∨ (1 ≤ l ∧ l ≤ m ∧ m ≤ 1000 ∧ v = true) := by
    by_cases p0 : 1 ≤ l
    rotate_left
    · have q0 : l < 1 := by omega
      have hf : v = false := by rw [hv, decide_eq_false_iff_not]; intro hx; omega
      left; exact ⟨q0, hf⟩
    by_cases p1 : l ≤ m
    rotate_left
    · have q1 : m < l := by omega
      have hf : v = false := by rw [hv, decide_eq_false_iff_not]; intro hx; omega
      right; left; exact ⟨p0, q1, hf⟩
    by_cases p2 : m ≤ 1000
    rotate_left
    · have q2 : 1000 < m := by omega
      have hf : v = false := by rw [hv, decide_eq_false_iff_not]; intro hx; omega
      right; right; left; exact ⟨p0, p1, q2, hf⟩
    have ht : v = true := by rw [hv, decide_eq_true_iff]; omega
    right; right; right; exact ⟨p0, p1, p2, ht⟩
  clear hv
  rcases hc with ⟨h0, rfl⟩ | ⟨h0, h1, rfl⟩ | ⟨h0, h1, h2, rfl⟩ | ⟨h0, h1, h2, rfl⟩
  all_goals
    go_enter Try.func24, Try.ntmps24
    go_wp2_with fail
    go_ret
    exact ⟨by first | (simp; done) | (simp; omega), (Below.refl _ _).alloc (Nat.le_refl _) _⟩
set_option maxRecDepth 100000 in
set_option maxHeartbeats 12800000 in
theorem formed_any (sq ti : Int) (mk : Bool) (ty : Int) (A : Option Addr) (n c : Nat) (w : World) (v : Bool) (hv : v = decide ((0 ≤ sq ∧ sq ≤ 281474976710656) ∧ (-281474976710656 ≤ ti ∧ ti ≤ 281474976710656) ∧ n ≤ 1500)) : Calls Try.prog 46 #[.agg #[.int .i64 sq, .int .i64 ti, .bool mk, .int .u8 ty, .slice A n c]] w fun e w' => e = .returned (.bool v) ∧ Below w.heap.size w w' := by
  have hc : (sq < 0 ∧ v = false) ∨ (0 ≤ sq ∧ 281474976710656 < sq ∧ v = false) ∨ (0 ≤ sq ∧ sq ≤ 281474976710656 ∧ ti < -281474976710656 ∧ v = false) ∨ (0 ≤ sq ∧ sq ≤ 281474976710656 ∧ -281474976710656 ≤ ti ∧ 281474976710656 < ti ∧ v = false) ∨ (0 ≤ sq ∧ sq ≤ 281474976710656 ∧ -281474976710656 ≤ ti ∧ ti ≤ 281474976710656 ∧ 1500 < (n : Int) ∧ v = false) ∨ (0 ≤ sq ∧ sq ≤ 281474976710656 ∧ -281474976710656 ≤ ti ∧ ti ≤ 281474976710656 ∧ (n : Int) ≤ 1500 ∧ v = true) := by
    by_cases p0 : 0 ≤ sq
    rotate_left
    · have q0 : sq < 0 := by omega
      have hf : v = false := by rw [hv, decide_eq_false_iff_not]; intro hx; omega
      left; exact ⟨q0, hf⟩
    by_cases p1 : sq ≤ 281474976710656
    rotate_left
    · have q1 : 281474976710656 < sq := by omega
      have hf : v = false := by rw [hv, decide_eq_false_iff_not]; intro hx; omega
      right; left; exact ⟨p0, q1, hf⟩
    by_cases p2 : -281474976710656 ≤ ti
    rotate_left
    · have q2 : ti < -281474976710656 := by omega
      have hf : v = false := by rw [hv, decide_eq_false_iff_not]; intro hx; omega
      right; right; left; exact ⟨p0, p1, q2, hf⟩
    by_cases p3 : ti ≤ 281474976710656
    rotate_left
    · have q3 : 281474976710656 < ti := by omega
      have hf : v = false := by rw [hv, decide_eq_false_iff_not]; intro hx; omega
      right; right; right; left; exact ⟨p0, p1, p2, q3, hf⟩
    by_cases p4 : (n : Int) ≤ 1500
    rotate_left
    · have q4 : 1500 < (n : Int) := by omega
      have hf : v = false := by rw [hv, decide_eq_false_iff_not]; intro hx; omega
      right; right; right; right; left; exact ⟨p0, p1, p2, p3, q4, hf⟩
    have ht : v = true := by rw [hv, decide_eq_true_iff]; omega
    right; right; right; right; right; exact ⟨p0, p1, p2, p3, p4, ht⟩
  clear hv
  rcases hc with ⟨h0, rfl⟩ | ⟨h0, h1, rfl⟩ | ⟨h0, h1, h2, rfl⟩ | ⟨h0, h1, h2, h3, rfl⟩ | ⟨h0, h1, h2, h3, h4, rfl⟩ | ⟨h0, h1, h2, h3, h4, rfl⟩
  all_goals
    go_enter Try.func46, Try.ntmps46
    go_wp2_with fail
    go_ret
    exact ⟨by first | (simp; done) | (simp; omega), (Below.refl _ _).alloc (Nat.le_refl _) _⟩
set_option maxRecDepth 100000 in
set_option maxHeartbeats 12800000 in
theorem rformed_any (sq ti : Int) (mk : Bool) (ty : Int) (A : Option Addr) (n c : Nat) (w : World) (hn : n ≤ 1000000000) (v : Bool) (hv : v = decide ((0 ≤ sq ∧ sq ≤ 281474976710656) ∧ (-281474976710656 ≤ ti ∧ ti ≤ 281474976710656) ∧ n ≤ 1500)) : Calls Try.prog 25 #[.agg #[.int .i64 sq, .int .i64 ti, .bool mk, .int .u8 ty, .slice A n c]] w fun e w' => e = .returned (.bool v) ∧ Below w.heap.size w w' := by
  obtain ⟨b1, hb1⟩ : ∃ b, b = decide (0 ≤ sq ∧ sq ≤ 281474976710656) := ⟨_, rfl⟩
  obtain ⟨b2, hb2⟩ : ∃ b, b = decide (-281474976710656 ≤ ti ∧ ti ≤ 281474976710656) := ⟨_, rfl⟩
  have k1 := Lib.hid fun W => within_any sq 0 281474976710656 W b1 hb1
  have k2 := Lib.hid fun W => within_any ti (-281474976710656) 281474976710656 W b2 hb2
  have hV : v = (b1 && (b2 && decide ((n : Int) ≤ 1500))) := by
    rw [hv, hb1, hb2, ← Bool.decide_and, ← Bool.decide_and]
    congr 1
    rw [eq_iff_iff]
    omega
  have HV := Lib.hid hV
  clear hv hb1 hb2 hV
  cases b1
  · go_enter Try.func25, Try.ntmps25
    go_wp2_with fail
    refine (k1.out _).mono ?_
    rintro e w1 ⟨rfl, rfl⟩
    go_wp2_with fail
    go_ret
    exact ⟨ret_b (by rw [HV.out]; rfl), (Below.refl _ _).alloc (Nat.le_refl _) _⟩
  cases b2
  · go_enter Try.func25, Try.ntmps25
    go_wp2_with fail
    refine (k1.out _).mono ?_
    rintro e w1 ⟨rfl, rfl⟩
    go_wp2_with fail
    refine (k2.out _).mono ?_
    rintro e w1 ⟨rfl, rfl⟩
    go_wp2_with fail
    go_ret
    exact ⟨ret_b (by rw [HV.out]; rfl), (Below.refl _ _).alloc (Nat.le_refl _) _⟩
  · go_enter Try.func25, Try.ntmps25
    go_wp2_with fail
    refine (k1.out _).mono ?_
    rintro e w1 ⟨rfl, rfl⟩
    go_wp2_with fail
    refine (k2.out _).mono ?_
    rintro e w1 ⟨rfl, rfl⟩
    go_wp2_with fail
    go_ret
    exact ⟨ret_b (by rw [HV.out]; simp), (Below.refl _ _).alloc (Nat.le_refl _) _⟩
set_option maxRecDepth 100000 in
set_option maxHeartbeats 12800000 in
theorem order_any (a0 s0 t0 y0 a1 s1 t1 y1 : Int) (m0 m1 : Bool) (A0 A1 : Option Addr) (n0 c0 n1 c1 : Nat) (w : World) : Calls Try.prog 36 #[.agg #[.int .i64 a0, .int .i64 s0, .int .i64 t0, .bool m0, .int .u8 y0, .slice A0 n0 c0], .agg #[.int .i64 a1, .int .i64 s1, .int .i64 t1, .bool m1, .int .u8 y1, .slice A1 n1 c1]] w fun e w' => e = .returned (.int .i64 (if a0 < a1 then -1 else if a1 < a0 then 1 else if s0 < s1 then -1 else if s1 < s0 then 1 else 0)) ∧ Below w.heap.size w w' := by
  obtain ⟨R, hR⟩ : ∃ R : Int, R = if a0 < a1 then -1 else if a1 < a0 then 1 else if s0 < s1 then -1 else if s1 < s0 then 1 else 0 := ⟨_, rfl⟩
  rw [← hR]
  have k1 := fun W => cmpi_any a0 a1 W
  have k2 := fun W => cmpl_any s0 s1 W
  obtain ⟨p, hp⟩ : ∃ p : Int, p = if a0 < a1 then -1 else if a1 < a0 then 1 else 0 := ⟨_, rfl⟩
  obtain ⟨q, hq⟩ : ∃ q : Int, q = if s0 < s1 then -1 else if s1 < s0 then 1 else 0 := ⟨_, rfl⟩
  rw [← hp] at k1
  rw [← hq] at k2
  have hc : (p ≠ 0 ∧ R = p) ∨ (p = 0 ∧ R = q) := by
    by_cases h1 : a0 < a1
    · left; rw [hp, hR, if_pos h1, if_pos h1]; exact ⟨by decide, rfl⟩
    · by_cases h2 : a1 < a0
      · left; rw [hp, hR, if_neg h1, if_pos h2, if_neg h1, if_pos h2]; exact ⟨by decide, rfl⟩
      · right; rw [hp, hR, hq, if_neg h1, if_neg h2, if_neg h1, if_neg h2]; exact ⟨rfl, rfl⟩
  have K1 := Lib.hid k1
  have K2 := Lib.hid k2
  clear k1 k2 hp hq hR
  rcases hc with ⟨h1, rfl⟩ | ⟨rfl, rfl⟩
  · have hb : (R != 0) = true := by simpa using h1
    clear h1
    go_enter Try.func36, Try.ntmps36
    go_wp2_with fail
    refine (K1.out _).mono ?_
    rintro e w1 ⟨rfl, rfl⟩
    go_wp2_with fail
    go_ret
    exact ⟨rfl, (((Below.refl _ _).alloc (Nat.le_refl _) _).alloc (by simp) _)⟩
  · go_enter Try.func36, Try.ntmps36
    go_wp2_with fail
    refine (K1.out _).mono ?_
    rintro e w1 ⟨rfl, rfl⟩
    go_wp2_with fail
    refine (K2.out _).mono ?_
    rintro e w1 ⟨rfl, rfl⟩
    go_wp2_with fail
    go_ret
    exact ⟨rfl, (((Below.refl _ _).alloc (Nat.le_refl _) _).alloc (by simp) _)⟩
end Go.Proofs.Ytnaafjdnmbajjaa
/- Layer 30: the order of the reference; play times; equal packets. -/
namespace Go.Proofs.Ytnaafjdnmbajjaa
open Go.RowKit
set_option linter.unusedVariables false
set_option linter.unusedSimpArgs false
attribute [local go_sem ↓] run_min_plain run_max_plain
attribute [local go_sem] setCell_drewN alloc_drewN
set_option maxRecDepth 100000 in
set_option maxHeartbeats 12800000 in
theorem before_any (a0 s0 t0 y0 a1 s1 t1 y1 : Int) (m0 m1 : Bool) (A0 A1 : Option Addr) (n0 c0 n1 c1 : Nat) (w : World) (v : Bool) (hv : v = decide (a0 < a1 ∨ (a0 = a1 ∧ s0 < s1))) : Calls Try.prog 55 #[.agg #[.int .i64 a0, .int .i64 s0, .int .i64 t0, .bool m0, .int .u8 y0, .slice A0 n0 c0], .agg #[.int .i64 a1, .int .i64 s1, .int .i64 t1, .bool m1, .int .u8 y1, .slice A1 n1 c1]] w fun e w' => e = .returned (.bool v) ∧ Below w.heap.size w w' := by
  have hc : (a0 < a1 ∧ v = true) ∨ (a1 ≤ a0 ∧ (a0 == a1) = false ∧ v = false) ∨ (a1 ≤ a0 ∧ (a0 == a1) = true ∧ s0 < s1 ∧ v = true) ∨ (a1 ≤ a0 ∧ (a0 == a1) = true ∧ s1 ≤ s0 ∧ v = false) := by
    by_cases h1 : a0 < a1
    · left; exact ⟨h1, by rw [hv]; simp [h1]⟩
    · right
      by_cases h2 : a0 = a1
      · right
        by_cases h3 : s0 < s1
        · left; exact ⟨by omega, by simpa using h2, h3, by rw [hv, decide_eq_true_iff]; omega⟩
        · right; exact ⟨by omega, by simpa using h2, by omega, by rw [hv, decide_eq_false_iff_not]; omega⟩
      · left; exact ⟨by omega, by simpa using h2, by rw [hv, decide_eq_false_iff_not]; omega⟩
  clear hv
  rcases hc with ⟨h1, rfl⟩ | ⟨h1, h2, rfl⟩ | ⟨h1, h2, h3, rfl⟩ | ⟨h1, h2, h3, rfl⟩
  all_goals
    go_enter Try.func55, Try.ntmps55
    go_wp2_with fail
    go_ret
    exact ⟨by first | rfl | (simp; done) | (simp; omega), (((Below.refl _ _).alloc (Nat.le_refl _) _).alloc (by simp) _)⟩
set_option maxRecDepth 100000 in
set_option maxHeartbeats 12800000 in
theorem playTime_any (le mo nw : Int) (on : Bool) (ze fi hi dn sp tr : Int) (QA : Option Addr) (qn qc : Nat) (la tw pd : Int) (t : Int) (w : World) (z0 : -1125899906842624 ≤ ze) (z1 : ze ≤ 1125899906842624) (f0 : -281474976710656 ≤ fi) (f1 : fi ≤ 281474976710656) (t0 : -281474976710656 ≤ t) (t1 : t ≤ 281474976710656) : Calls Try.prog 33 #[.agg #[.int .i64 le, .int .i64 mo, .int .i64 nw, .bool on, .int .i64 ze, .int .i64 fi, .int .i64 hi, .int .i64 dn, .int .i64 sp, .int .i64 tr, .slice QA qn qc, .int .i64 la, .int .i64 tw, .int .i64 pd], .int .i64 t] w fun e w' => e = .returned (.int .i64 (ze + (t - fi) / 8)) ∧ Below w.heap.size w w' := by
  obtain ⟨d, hd⟩ : ∃ d, d = t - fi := ⟨_, rfl⟩
  have e1 : t - fi = d := hd.symm
  have ew : IntKind.i64.wrap (t - fi) = d := by rw [i64_small _ (by omega) (by omega)]; exact e1
  have k1 := Lib.hid fun W => eighth_any d W (by omega) (by omega)
  rw [e1]
  obtain ⟨y, hy⟩ : ∃ y, y = d / 8 := ⟨_, rfl⟩
  have hyb : -140737488355328 ≤ y ∧ y ≤ 140737488355328 := by omega
  obtain ⟨y0, y1⟩ := hyb
  rw [← hy] at k1 ⊢
  have ez : IntKind.i64.wrap (ze + y) = ze + y := i64_small _ (by omega) (by omega)
  have U := Lib.hid ((Bel.refl w).push (.cells #[.int .i64 le, .int .i64 mo, .int .i64 nw, .bool on, .int .i64 ze, .int .i64 fi, .int .i64 hi, .int .i64 dn, .int .i64 sp, .int .i64 tr, .slice QA qn qc, .int .i64 la, .int .i64 tw, .int .i64 pd] 26))
  clear hd hy
  go_enter Try.func33, Try.ntmps33
  go_wp2_with fail
  go_quiet ((go_at_call 50; exact Calls.quiet_of_same ((k1.out _).mono fun _ _ h => ⟨h.1, h.2.symm⟩)))
  go_wp2_with fail
  go_ret
  exact ⟨by first | rfl | simp, U.out.drewN _⟩
end Go.Proofs.Ytnaafjdnmbajjaa
/- 'append(out, x...)' where out is the call's own and x is a slice of integers, nil, empty or not; slices 's[k:]' of integers. -/
namespace Go.Proofs.Ytnaafjdnmbajjaa
open Go.RowKit
set_option linter.unusedVariables false
section
variable {P : Program} {w : World}
theorem own_form {base size n : Nat} {e : TypeId} {v : Value} {xs : List Value} (h : w.ownsRow base e size v n xs) : ∃ A c, v = .slice A n c := by
  rcases h.2 with ⟨rfl, rfl⟩ | ⟨g, cap, _, hv, _⟩
  · exact ⟨none, 0, rfl⟩
  · exact ⟨_, cap, hv⟩
theorem append_nothing (base : Nat) (t ty e : TypeId) (i : TypeInfo) (size : Nat) (ht : P.underlying t = some (.slice e)) (hi : P.info? e = some i)
    (v : Value) (n : Nat) (xs : List Value) (hown : w.ownsRow base e size v n xs) (A : Option Addr) (c : Nat) (hA : A = none) : (Builtin.append_ #[t, t] ty #[v, .slice A 0 c]).run P w = .ok v w := by
  subst hA
  rcases hown.2 with ⟨rfl, rfl⟩ | ⟨g, cap, cur, rfl, _, _, hnc, _⟩
  · simp [Builtin.append_, run_underlying ht, sizeOf, typeInfo, hi, Builtin.lenOf, Builtin.firstCells]
  · simp [Builtin.append_, run_underlying ht, sizeOf, typeInfo, hi, Builtin.lenOf, Builtin.firstCells, hnc, storeCells]
/-- the run's equation -/
theorem run_append_ints (base : Nat) (t ty e : TypeId) (z : Value) (bytes : Nat) (ht : P.underlying t = some (.slice e)) (hinfo : (P.info? e).map (fun i => (i.zero, i.size, i.bytes)) = some (some z, 1, bytes)) (hzs : z.cells.size = 1)
    (v : Value) (n : Nat) (xs : List Value) (hown : w.ownsRow base e 1 v n xs)
    (B : Nat) (k : IntKind) (A : Option Addr) (c : Nat) (zs : List Int) (hr : IntsAt w B k A zs) (h63 : n + zs.length ≤ maxLen) (hbytes : (n + zs.length) * bytes ≤ 140737488355328) (hbase : base ≤ w.heap.size) :
    ∃ A' c' w', (Builtin.append_ #[t, t] ty #[v, .slice A zs.length c]).run P w = .ok (.slice A' (n + zs.length) c') w' ∧ Owns w' base e 1 A' (n + zs.length) c' (xs ++ zs.map (Value.int k)) ∧ w.grownBy w' v.ownBlock ∧
      (ownB A' = v.ownBlock ∨ ownB A' = some w.heap.size) := by
  obtain ⟨i, hi, hz0, hz1, hz2⟩ := info_parts hinfo
  have fin : ∀ v' w', (Builtin.append_ #[t, t] ty #[v, .slice A zs.length c]).run P w = .ok v' w' → w'.ownsRow base e 1 v' (n + zs.length) (xs ++ zs.map (Value.int k)) → w.grownBy w' v.ownBlock → (v'.ownBlock = v.ownBlock ∨ v'.ownBlock = some w.heap.size) →
      ∃ A' c' w', (Builtin.append_ #[t, t] ty #[v, .slice A zs.length c]).run P w = .ok (.slice A' (n + zs.length) c') w' ∧ Owns w' base e 1 A' (n + zs.length) c' (xs ++ zs.map (Value.int k)) ∧ w.grownBy w' v.ownBlock ∧ (ownB A' = v.ownBlock ∨ ownB A' = some w.heap.size) := by
    intro v' w' h1 h2 h3 h4
    obtain ⟨A', c', rfl⟩ := own_form h2
    rw [ownB_eq] at h4
    exact ⟨A', c', w', h1, h2, h3, h4⟩
  rcases A with _ | ad
  · have hz : zs = [] := by
      rcases Nat.eq_zero_or_pos zs.length with h0 | h0
      · exact List.eq_nil_of_length_eq_zero h0
      · obtain ⟨b, off, h, _⟩ := hr h0
        cases h
    subst hz
    exact fin v w (append_nothing base t ty e i 1 ht hi v n xs hown none c rfl) (by simpa using hown) (World.grownBy.refl w _) (.inl rfl)
  · have hcells : ∀ (j : Nat) (u : Value), (zs.map (Value.int k))[j]? = some u → w.cell? (ad.add j) = some u := by
      intro j u hu
      have hj : j < zs.length := by have := (List.getElem?_eq_some_iff.1 hu).1; simpa using this
      obtain ⟨b, off, h, _, hc⟩ := hr (by omega)
      injection h with h
      subst h
      have := hc j hj
      rw [List.getElem?_map, List.getElem?_eq_getElem hj] at hu
      injection hu with hu
      subst hu
      rw [List.getD_eq_getElem?_getD, List.getElem?_eq_getElem hj] at this
      by_cases h0 : j = 0
      · subst h0; exact this
      · simpa [Addr.add, h0] using this
    obtain ⟨v', w', hrun, h2, h3, _, h5⟩ := run_append_own_at (P := P) w base t ty e i z 1 bytes ht hi hz0 hz1 hz2 hzs (by omega) v n xs hown ad zs.length c (zs.map (Value.int k)) (by simp) hcells (by
      intro u hu
      obtain ⟨x, _, rfl⟩ := List.mem_map.1 hu
      rfl) h63 hbytes hbase
    exact fin v' w' hrun h2 h3 h5
/-- 'out = append(out, x...)' -/
theorem wpList_append_ints {ops : Array Oper} {rest : List Oper} {o : Oper} {a : Act} {Q : Exit → Act → World → Prop} (hgd : o.guard = none) (s x : Operand) (t : TypeId)
    (ho : o.op = .call { callee := .builtin .append, args := #[s, x], argTypes := #[t, t] })
    (base : Nat) (e : TypeId) (bytes : Nat) (z : Value) (ht : P.underlying t = some (.slice e)) (hinfo : (P.info? e).map (fun i => (i.zero, i.size, i.bytes)) = some (some z, 1, bytes)) (hzs : z.cells.size = 1)
    (A0 : Option Addr) (n c0 : Nat) (xs : List Value) (hs : a.eval s = .slice A0 n c0) (hown : Owns w base e 1 A0 n c0 xs)
    (B : Nat) (k : IntKind) (A : Option Addr) (c : Nat) (zs : List Int) (hx : a.eval x = .slice A zs.length c) (hr : IntsAt w B k A zs) (h63 : n + zs.length ≤ maxLen) (hbytes : (n + zs.length) * bytes ≤ 140737488355328) (hbase : base ≤ w.heap.size) (m : Nat) (hm : n + zs.length = m)
    (h : ∀ (A' : Option Addr) (c' : Nat) (w' : World), Owns w' base e 1 A' m c' (xs ++ zs.map (Value.int k)) → w.grownBy w' (ownB A0) → (ownB A' = ownB A0 ∨ ownB A' = some w.heap.size) → wpList P ops Q rest (a.put o.dst (.slice A' m c')) w') :
    wpList P ops Q (o :: rest) a w := by
  subst hm
  obtain ⟨A', c', w', hrun, h2, h3, h4⟩ := run_append_ints (P := P) base t o.type e z bytes ht hinfo hzs (.slice A0 n c0) n xs hown B k A c zs hr h63 hbytes hbase
  rw [ownB_eq] at h3 h4
  refine wpList_plain hgd fun K hK => ?_
  unfold Oper.wp execOp
  simp only [ho, resolve, invoke, builtin, Sem.run_bind, Sem.run_pure, Result.andThen_ok, List.map_toArray, List.map_cons, List.map_nil, hs, hx, hrun]
  exact hK _ _ (h A' c' w' h2 h3 h4)
end
theorem own_late {A : Option Addr} {B : Nat} (h : ownB A = ownB none ∨ ownB A = some B) : ∀ g, ownB A = some g → B ≤ g := fun g e => by
  rcases h with h | h
  · rw [h] at e; cases e
  · rw [h] at e; injection e with e; omega
/-- 's[n:]' of a slice of integers, as the walk writes it -/
theorem IntsAt.cut {w : World} {B c n : Nat} {k : IntKind} {A : Option Addr} {zs : List Int} (h : IntsAt w B k A zs) (hc : zs.length ≤ c) : IntsAt w B k (if c = n then A else A.map (fun x => x.add n)) (zs.drop n) := fun h0 => by
  have hn : n < zs.length := by simp at h0; omega
  obtain ⟨b, off, rfl, hd⟩ := h.drop n hn
  rw [if_neg (by omega)]
  obtain ⟨b2, off2, he, hb, hcell⟩ := hd h0
  injection he with he
  injection he with e1 e2
  subst e1 e2
  refine ⟨b, off + n, ?_, hb, hcell⟩
  simp only [Option.map_some, Addr.add]
  by_cases hz : n = 0
  · subst hz; rfl
  · rw [if_neg hz]
theorem IntsAt.cut1 {w : World} {B c n : Nat} {k : IntKind} {A : Option Addr} {zs : List Int} (h : IntsAt w B k A zs) (hc : zs.length ≤ c) (hcn : ¬c = n) : IntsAt w B k (A.map (fun x => x.add n)) (zs.drop n) := by
  have := h.cut (n := n) hc
  rwa [if_neg hcn] at this
theorem IntsAt.cut2 {w : World} {B c n : Nat} {k : IntKind} {A : Option Addr} {zs : List Int} (h : IntsAt w B k A zs) (hc : zs.length ≤ c) (hcn : c = n) : IntsAt w B k A (zs.drop n) := by
  have := h.cut (n := n) hc
  rwa [if_pos hcn] at this
end Go.Proofs.Ytnaafjdnmbajjaa
/- A slice that is passed on and appended to by callees: what becomes of it and of the rest of memory. -/
namespace Go.Proofs.Ytnaafjdnmbajjaa
open Go.RowKit
set_option linter.unusedVariables false
/-- from w0 (own slice at A0) to w (own slice at A): only the own block of w0 and new blocks have been written -/
def Grow (w0 : World) (A0 : Option Addr) (w : World) (A : Option Addr) : Prop :=
  w0.grownBy w (ownB A0) ∧ (ownB A = ownB A0 ∨ ∀ g, ownB A = some g → w0.heap.size ≤ g)
section
variable {w0 w w' : World} {A0 A A' : Option Addr}
theorem Grow.refl (w : World) (A : Option Addr) : Grow w A w A := ⟨World.grownBy.refl w _, .inl rfl⟩
theorem Grow.size (h : Grow w0 A0 w A) : w0.heap.size ≤ w.heap.size := h.1.size
/-- an append: the own block or a new one -/
theorem Grow.step (h : Grow w0 A0 w A) (hg : w.grownBy w' (ownB A)) (hat : ownB A' = ownB A ∨ ∀ g, ownB A' = some g → w.heap.size ≤ g) : Grow w0 A0 w' A' := by
  refine ⟨⟨hg.os.trans h.1.os, hg.tape.trans h.1.tape, hg.output.trans h.1.output, Nat.le_trans h.1.size hg.size, fun k hk hne => ?_⟩, ?_⟩
  · have h1 := h.1.block k hk hne
    have h2 : some k ≠ ownB A := by
      rcases h.2 with e | e
      · rw [e]; exact hne
      · intro e2
        have := e k e2.symm
        omega
    exact (hg.block k (Nat.lt_of_lt_of_le hk h.1.size) h2).trans h1
  · rcases hat with e | e
    · rw [e]; exact h.2
    · exact .inr fun g hg' => Nat.le_trans h.1.size (e g hg')
theorem Grow.alloc (h : Grow w0 A0 w A) (o : Obj) : Grow w0 A0 (w.alloc o) A := h.step (World.grownBy_alloc w o _) (.inl rfl)
theorem Grow.drew (h : Grow w0 A0 w A) : Grow w0 A0 w.drew A := ⟨⟨h.1.os, h.1.tape, h.1.output, h.1.size, h.1.block⟩, h.2⟩
/-- a call that makes new memory alone -/
theorem Grow.below (h : Grow w0 A0 w A) (hb : Below w.heap.size w w') : Grow w0 A0 w' A :=
  h.step ⟨hb.os, hb.tape, hb.output, hb.size, fun k hk _ => hb.block k hk⟩ (.inl rfl)
theorem Grow.trans {w1 : World} {A1 : Option Addr} (h : Grow w0 A0 w A) (h2 : Grow w A w1 A1) : Grow w0 A0 w1 A1 := h.step h2.1 h2.2
/-- what lies in another block stays -/
theorem Grow.blk {g : Nat} {t : TypeId} {cs : Array Value} (h : Grow w0 A0 w A) (hb : Blk w0 g t cs) (hne : some g ≠ ownB A0) : Blk w g t cs := hb.grown h.1 hne
theorem Grow.cell {a : Addr} {v : Value} (h : Grow w0 A0 w A) (hc : w0.cell? a = some v) (hne : some a.block ≠ ownB A0) : w.cell? a = some v := h.1.cell hc hne
theorem Grow.bel {a : World} {base size n c : Nat} {e : TypeId} {xs : List Value} (h : Grow w0 A0 w A) (ho : Owns w0 base e size A0 n c xs) (hb : Bel a w0) (hbase : a.heap.size ≤ base) : Bel a w :=
  below_own hb ho h.1 (Below.size hb) hbase
end
/-- 'out = append(out, x)', with where the new slice lies -/
theorem wpList_append_at {P : Program} {w0 : World} {ops : Array Oper} {rest : List Oper} {o : Oper} {a : Act} {Q : Exit → Act → World → Prop} (hgd : o.guard = none) (s x : Operand) (t : TypeId)
    (ho : o.op = .call { callee := .builtin .append, args := #[s, x], argTypes := #[t, t] })
    (base : Nat) (e : TypeId) (size bytes : Nat) (z : Value) (ht : P.underlying t = some (.slice e)) (hinfo : (P.info? e).map (fun i => (i.zero, i.size, i.bytes)) = some (some z, size, bytes))
    (hzs : z.cells.size = size) (hsz : 0 < size) (A : Option Addr) (n c : Nat) (xs : List Value) (hs : a.eval s = .slice A n c) (hown : Owns w0 base e size A n c xs)
    (cs : List Value) (hl : cs.length = size) (h1 : ∀ u ∈ cs, u.oneCell' = true) (hx : a.eval x = .slice (some ⟨w0.heap.size, 0, none⟩) 1 1)
    (h63 : n + 1 ≤ maxLen) (hbytes : (n + 1) * bytes ≤ 140737488355328) (hbase : base ≤ w0.heap.size)
    (h : ∀ (A' : Option Addr) (c' : Nat) (w' : World), Owns w' base e size A' (n + 1) c' (xs ++ cs) → w0.grownBy w' (ownB A) → (ownB A' = ownB A ∨ ∀ g, ownB A' = some g → w0.heap.size ≤ g) →
      wpList P ops Q rest (a.put o.dst (.slice A' (n + 1) c')) w') : wpList P ops Q (o :: rest) a (w0.alloc (.cells cs.toArray e)) := by
  obtain ⟨i, hi, hz0, hz1, hz2⟩ := info_parts hinfo
  refine wpList_append_lies (w0.alloc (.cells cs.toArray e)) hgd s x t ho base e i z size bytes ht hi hz0 hz1 hz2 hzs hsz _ n xs hs (hown.alloc _) ⟨w0.heap.size, 0, none⟩ 1 1 cs hx (by omega) ?_ h1 (by omega) h63 hbytes (by simp; omega) _ rfl ?_
  · intro j u hu
    have hc := Blk_cell w0 cs e j
    rw [← hu, ← hc]
    by_cases h0 : j = 0
    · subst h0; rfl
    · simp [Addr.add, h0]
  · intro g cap w' hown' hg hat hlt
    rw [ownB_eq] at hg hat
    have hsz' := hg.size
    refine h _ _ w' hown' ⟨hg.os, hg.tape, hg.output, Nat.le_trans (by simp) hsz', fun k hk hne => (hg.block k (by simp; omega) hne).trans (Below.heap_alloc w0 _ k hk)⟩ ?_
    rcases hat with e | e
    · exact .inl e.symm
    · refine .inr fun g' hg' => ?_
      injection hg' with hg'
      rw [← hg', e]; simp
/-- big-endian bytes -/
def be : Nat → Int → List Int
  | 0, _ => []
  | n + 1, x => be n (x / 256) ++ [x % 256]
theorem be_len : ∀ (n : Nat) (x : Int), (be n x).length = n
  | 0, _ => rfl
  | n + 1, x => by unfold be; rw [List.length_append, be_len n]; rfl
theorem be_bd : ∀ (n : Nat) (x : Int), Within 0 255 (be n x)
  | 0, _ => Within.nil _ _
  | n + 1, x => by
    unfold be
    refine (be_bd n _).append fun z hz => ?_
    rw [List.mem_singleton.1 hz]
    omega
/-- the byte k from the left -/
theorem be_front : ∀ (n : Nat) (x : Int), 0 ≤ x → be (n + 1) x = [x / 256 ^ n % 256] ++ be n x
  | 0, x, h => by simp [be]
  | n + 1, x, h => by
    have ih := be_front n (x / 256) (Int.ediv_nonneg h (by omega))
    show be (n + 1) (x / 256) ++ [x % 256] = _
    rw [ih]
    show _ = [x / 256 ^ (n + 1) % 256] ++ (be n (x / 256) ++ [x % 256])
    rw [List.append_assoc]
    congr 2
    rw [Int.ediv_ediv_of_nonneg (by omega)]
    congr 3
    rw [Int.pow_succ]; omega
end Go.Proofs.Ytnaafjdnmbajjaa
/- Layer 30: copyMedia. -/
namespace Go.Proofs.Ytnaafjdnmbajjaa
open Go.RowKit
set_option linter.unusedVariables false
set_option linter.unusedSimpArgs false
attribute [local go_sem ↓] run_min_plain run_max_plain
attribute [local go_sem] setCell_drewN alloc_drewN
theorem info_u8 : (Try.prog.info? 5).map (fun i => (i.zero, i.size, i.bytes)) = some (some (.int .u8 0), 1, 1) := by kernel_rfl
def u8s (l : List Int) : List Value := l.map (Value.int .u8)
theorem ints_blk {w : World} {g : Nat} {t : TypeId} {bs : List Int} (h : Blk w g t (u8s bs).toArray) : IntsAt w w.heap.size .u8 (some ⟨g, 0, none⟩) bs := fun h0 => by
  refine ⟨g, 0, rfl, h.lt, fun i hi => ?_⟩
  rw [Nat.zero_add, h.cell i]
  simp [u8s, List.getElem?_eq_getElem hi, List.getD_eq_getElem?_getD]
/-- what copyMedia leaves -/
def MediaR (sq ti : Int) (mk : Bool) (ty : Int) (pl : List Int) (w : World) (e : Ending) (w' : World) : Prop :=
  ∃ (A' : Option Addr) (c' : Nat), e = .returned (.agg #[.int .i64 sq, .int .i64 ti, .bool mk, .int .u8 ty, .slice A' pl.length c']) ∧ IntsNew w.heap.size w' .u8 A' pl ∧ Below w.heap.size w w'
set_option maxRecDepth 100000 in
set_option maxHeartbeats 12800000 in
theorem copyMedia_nil (sq ti : Int) (mk : Bool) (ty : Int) (A : Option Addr) (c : Nat) (w : World) : Calls Try.prog 34 #[.agg #[.int .i64 sq, .int .i64 ti, .bool mk, .int .u8 ty, .slice A 0 c]] w (MediaR sq ti mk ty [] w) := by
  go_enter Try.func34, Try.ntmps34
  go_wp2_with fail
  have U := Lib.hid (((Bel.refl w).push (.cells #[.int .i64 sq, .int .i64 ti, .bool mk, .int .u8 ty, .slice none 0 0] 29)).push (.cells #[.int .i64 sq, .int .i64 ti, .bool mk, .int .u8 ty, .slice none 0 0] 29))
  have B := Lib.hid (Blk.new1 w (.cells #[.int .i64 sq, .int .i64 ti, .bool mk, .int .u8 ty, .slice none 0 0] 29) 29 #[.int .i64 sq, .int .i64 ti, .bool mk, .int .u8 ty, .slice none 0 0])
  exact bodyPost_ret (v := .agg #[.int .i64 sq, .int .i64 ti, .bool mk, .int .u8 ty, .slice none 0 0]) (res_c Try.results34 rfl (run_loadVar_row (P := Try.prog) _ _ _ _ _ _ _ B.out Try.underlying29 rfl (by kernel_rfl))) rfl ⟨none, 0, rfl, IntsNew.nil, U.out⟩
set_option maxRecDepth 100000 in
set_option maxHeartbeats 12800000 in
theorem copyMedia_some (sq ti : Int) (mk : Bool) (ty : Int) (A : Option Addr) (pl : List Int) (c : Nat) (w : World) (hA : IntsAt w w.heap.size .u8 A pl) (hl : pl.length ≤ 1000000) (h0 : 0 < pl.length) : Calls Try.prog 34 #[.agg #[.int .i64 sq, .int .i64 ti, .bool mk, .int .u8 ty, .slice A pl.length c]] w (MediaR sq ti mk ty pl w) := by
  obtain ⟨b, off, rfl, hbB, hcell⟩ := hA h0
  obtain ⟨W0, hW0⟩ : ∃ W0, W0 = (w.alloc (.cells #[.int .i64 sq, .int .i64 ti, .bool mk, .int .u8 ty, .slice (some ⟨b, off, none⟩) pl.length c] 29)).alloc (.cells #[.int .i64 0, .int .i64 0, .bool false, .int .u8 0, .slice none 0 0] 29) := ⟨_, rfl⟩
  have hmk := run_make_row' (P := Try.prog) 27 5 (.int .u8 0) 1 Try.underlying27 info_u8 rfl .i64 .i64 pl.length (by omega) (by omega) W0
  obtain ⟨cur, hcur⟩ : ∃ cur : List Value, cur = (madeCells #[.int .u8 0] pl.length).toList := ⟨_, rfl⟩
  have hcl : cur.length = pl.length := by rw [hcur]; simp [madeCells]
  have hs0 : W0.heap.size = w.heap.size + 1 + 1 := by rw [hW0]; simp
  obtain ⟨W1, hW1⟩ : ∃ W1, W1 = W0.alloc (.cells (madeCells #[.int .u8 0] pl.length) 5) := ⟨_, rfl⟩
  have hB : Blk W1 (w.heap.size + 1 + 1) 5 cur.toArray := by rw [hW1, hcur, Array.toArray_toList, ← hs0]; exact Blk.new _ _ _
  have hU : Below W0.heap.size W0 W1 := by rw [hW1]; exact (Below.refl _ _).alloc (Nat.le_refl _) _
  have BX : Blk W0 w.heap.size 29 #[.int .i64 sq, .int .i64 ti, .bool mk, .int .u8 ty, .slice (some ⟨b, off, none⟩) pl.length c] := by rw [hW0]; exact (Blk.new w _ _).push _
  have BZ : Blk W0 (w.heap.size + 1) 29 #[.int .i64 0, .int .i64 0, .bool false, .int .u8 0, .slice none 0 0] := by rw [hW0]; exact Blk.new1 w _ _ _
  have UW : Bel w W0 := by rw [hW0]; exact ((Bel.refl w).push _).push _
  rw [← hW1, hs0] at hmk
  have hl1 : ¬pl.length = 0 := by omega
  have hl2 : ¬pl = [] := by intro h5; rw [h5] at hl1; exact hl1 rfl
  have hl3 : (0 : Int) < (pl.length : Int) := by omega
  have hsp : splice cur 0 (u8s pl) = u8s pl := by simp [splice, u8s, hcl]
  have UW1 : Bel w W1 := UW.later hU
  have HC : ∀ j v, (u8s pl)[j]? = some v → W1.cell? ((⟨b, off, none⟩ : Addr).add j) = some v := by
    intro j v hv
    have hj : j < pl.length := by
      have := (List.getElem?_eq_some_iff.1 hv).1
      simpa [u8s] using this
    have := (UW1.cell (p := ⟨b, off + j, none⟩) hbB).trans (hcell j hj)
    rw [show ((⟨b, off, none⟩ : Addr).add j) = ⟨b, off + j, none⟩ by simp [Addr.add], this]
    simp [u8s, List.getElem?_eq_getElem hj] at hv
    rw [← hv]; simp [List.getD_eq_getElem?_getD, List.getElem?_eq_getElem hj]
  have x4 := (BX.later hU).at 4 _ rfl
  have HCC := Lib.hid HC
  have HB := Lib.hid hB
  have HU := Lib.hid hU
  have HSP := Lib.hid hsp
  have HCL := Lib.hid hcl
  have HBX := Lib.hid BX
  have HBZ := Lib.hid BZ
  have HUW := Lib.hid UW
  have HS0 := Lib.hid hs0
  have hmk' := hmk
  rw [hW0] at hmk'
  clear HC hB hU hsp hcell hA hcl BX BZ UW UW1 hs0 hW1 hcur hmk
  go_enter Try.func34, Try.ntmps34
  go_wp2_with (refine wpList_copy_splice (o := ⟨some 15, _, _, _, _, _⟩) rfl (.tmp 12) (.tmp 14) 27 27 rfl 5 Try.underlying27 (by kernel_rfl) _ _ _ _ _ _ rfl rfl (w.heap.size + 1 + 1) 0 cur 5 HB.out (u8s pl) (by simp [u8s]) (fun _ => ⟨rfl, _, rfl, HCC.out⟩) (by rw [HCL.out]; simp [u8s]) (by intro v hv; simp [u8s] at hv; obtain ⟨z, _, rfl⟩ := hv; rfl) W0.heap.size W0 HU.out (by rw [HS0.out]; exact Nat.le_refl _) ?_
               intro w2 hB2 hU2
               have hz2 := (HBX.out.later hU2).frozen
               have x0 := (HBX.out.later hU2).at 0 _ rfl
               have x1 := (HBX.out.later hU2).at 1 _ rfl
               have x2 := (HBX.out.later hU2).at 2 _ rfl
               have x3 := (HBX.out.later hU2).at 3 _ rfl
               have x4' := (HBX.out.later hU2).at 4 _ rfl
               have zz := (HBZ.out.later hU2).frozen
               have y0 := (HBZ.out.later hU2).at 0 _ rfl
               have y1 := (HBZ.out.later hU2).at 1 _ rfl
               have y2 := (HBZ.out.later hU2).at 2 _ rfl
               have y3 := (HBZ.out.later hU2).at 3 _ rfl
               have y4 := (HBZ.out.later hU2).at 4 _ rfl)
  rw [HSP.out] at hB2
  have BF := Blk.setRow ((HBZ.out.later hU2).far (p := ⟨w.heap.size, 4, none⟩) (by simp) (.slice (some ⟨w.heap.size + 1 + 1, 0, none⟩) pl.length pl.length)) [.int .i64 sq, .int .i64 ti, .bool mk, .int .u8 ty, .slice (some ⟨w.heap.size + 1 + 1, 0, none⟩) pl.length pl.length] rfl
  have IN : IntsNew (w.heap.size + 1 + 1) w2 .u8 (some ⟨w.heap.size + 1 + 1, 0, none⟩) pl := ⟨ints_blk hB2.out, fun _ b' off' e => by cases e; exact Nat.le_refl _⟩
  have R3 := (IntsNew.setRow (g := w.heap.size + 1) (n := w.heap.size + 1 + 1) (by omega) [.int .i64 sq, .int .i64 ti, .bool mk, .int .u8 ty, .slice (some ⟨w.heap.size + 1 + 1, 0, none⟩) pl.length pl.length] _ 0 (IN.setCell (p := ⟨w.heap.size, 4, none⟩) (by simp; omega) (.slice (some ⟨w.heap.size + 1 + 1, 0, none⟩) pl.length pl.length))).less (m := w.heap.size) (by omega)
  have UF := below_setRow (g := w.heap.size + 1) (by omega) [.int .i64 sq, .int .i64 ti, .bool mk, .int .u8 ty, .slice (some ⟨w.heap.size + 1 + 1, 0, none⟩) pl.length pl.length] _ 0 (below_set_old (p := ⟨w.heap.size, 4, none⟩) (HUW.out.later hU2) (Nat.le_refl _) (.slice (some ⟨w.heap.size + 1 + 1, 0, none⟩) pl.length pl.length))
  simp only [setRow, Nat.zero_add, Nat.reduceAdd] at BF R3 UF
  exact bodyPost_ret (v := .agg #[.int .i64 sq, .int .i64 ti, .bool mk, .int .u8 ty, .slice (some ⟨w.heap.size + 1 + 1, 0, none⟩) pl.length pl.length]) (res_c Try.results34 rfl (run_loadVar_row (P := Try.prog) _ _ _ _ _ _ _ BF Try.underlying29 rfl (by kernel_rfl))) rfl ⟨_, _, rfl, R3, UF⟩
theorem copyMedia_any (sq ti : Int) (mk : Bool) (ty : Int) (A : Option Addr) (pl : List Int) (n c : Nat) (w : World) (B : Nat) (hB : B ≤ w.heap.size) (hA : IntsAt w B .u8 A pl) (hl : n ≤ 1000000) (hn : pl.length = n) : Calls Try.prog 34 #[.agg #[.int .i64 sq, .int .i64 ti, .bool mk, .int .u8 ty, .slice A n c]] w (MediaR sq ti mk ty pl w) := by
  subst hn
  by_cases h0 : pl.length = 0
  · obtain rfl := List.eq_nil_of_length_eq_zero h0
    exact copyMedia_nil sq ti mk ty A c w
  · exact copyMedia_some sq ti mk ty A pl c w (hA.more hB) hl (by omega)
end Go.Proofs.Ytnaafjdnmbajjaa
/- Layer 30: slices.IndexFunc with the closure of run. -/
namespace Go.Proofs.Ytnaafjdnmbajjaa
open Go.RowKit
set_option linter.unusedVariables false
set_option linter.unusedSimpArgs false
attribute [local go_sem ↓] run_min_plain run_max_plain
attribute [local go_sem] setCell_drewN alloc_drewN
set_option maxRecDepth 100000 in
set_option maxHeartbeats 12800000 in
theorem run1_any (a0 s0 t0 y0 : Int) (m0 : Bool) (A0 : Option Addr) (n0 c0 : Nat) (g : Nat) (now : Int) (w : World) (hg : w.cell? ⟨g, 0, none⟩ = some (.int .i64 now)) (hlt : g < w.heap.size) : Calls Try.prog 48 #[.agg #[.int .i64 a0, .int .i64 s0, .int .i64 t0, .bool m0, .int .u8 y0, .slice A0 n0 c0], .pointer (some ⟨g, 0, none⟩)] w fun e w' => e = .returned (.bool (decide (now < a0))) ∧ Below w.heap.size w w' := by
  have hne : ¬g = w.heap.size := by omega
  go_enter Try.func48, Try.ntmps48
  go_wp2_with fail
  go_ret
  exact ⟨by first | rfl | simp, (Below.refl _ _).alloc (Nat.le_refl _) _⟩
/-- the first packet that is not due yet -/
def firstLate (now : Int) (q : List Jb.Wt) : Int := if (Jb.due now q).length = q.length then -1 else ((Jb.due now q).length : Int)
theorem due_full (now : Int) : ∀ q : List Jb.Wt, (∀ x ∈ q, x.at_ ≤ now) → Jb.due now q = q
  | [], _ => rfl
  | a :: q, h => by
    unfold Jb.due
    rw [List.takeWhile_cons, if_pos (by simpa using h a List.mem_cons_self)]
    have := due_full now q (fun x hx => h x (List.mem_cons_of_mem _ hx))
    unfold Jb.due at this
    rw [this]
theorem due_at (now : Int) : ∀ (q : List Jb.Wt) (k : Nat) (a : Jb.Wt), q[k]? = some a → (∀ x ∈ q.take k, x.at_ ≤ now) → now < a.at_ → (Jb.due now q).length = k ∧ k < q.length
  | [], k, a, h, _, _ => by simp at h
  | b :: q, 0, a, h, _, h2 => by
    simp at h
    subst h
    unfold Jb.due
    rw [List.takeWhile_cons, if_neg (by simpa using h2)]
    simp
  | b :: q, k + 1, a, h, h1, h2 => by
    have hb := h1 b (by simp)
    obtain ⟨e1, e2⟩ := due_at now q k a (by simpa using h) (fun x hx => h1 x (by simp; exact Or.inr hx)) h2
    unfold Jb.due at e1 ⊢
    rw [List.takeWhile_cons, if_pos (by simpa using hb)]
    simp [e1]
    omega
set_option maxRecDepth 100000 in
set_option maxHeartbeats 12800000 in
theorem index_any (A : Option Addr) (l : List TW) (n c : Nat) (g : Nat) (now : Int) (w : World) (hn : l.length = n) (hl : n ≤ 1000000) (hA : Wts w w.heap.size A l) (hg : w.cell? ⟨g, 0, none⟩ = some (.int .i64 now)) (hlt : g < w.heap.size) : Calls Try.prog 47 #[.slice A n c, .func (Fn.func 48) #[] #[.pointer (some ⟨g, 0, none⟩)]] w fun e w' => e = .returned (.int .i64 (firstLate now (l.map TW.w))) ∧ Below w.heap.size w w' := by
  subst hn
  have HA := Lib.hid hA
  have HG := Lib.hid hg
  obtain ⟨R, hR⟩ : ∃ R, R = firstLate now (l.map TW.w) := ⟨_, rfl⟩
  rw [← hR]
  have HR := Lib.hid hR
  clear hA hg hR
  go_enter Try.func47, Try.ntmps47
  go_wp2_with fail
  go_loopg [8] l.length (fun gk i wr => ∃ k : Nat, gk + k = l.length ∧ i = .int .i64 k ∧ Hid (∀ x ∈ (l.map TW.w).take k, x.at_ ≤ now) ∧ Hid (Bel w wr))
  case atStart => exact ⟨0, rfl, rfl, Lib.hid (fun x hx => by simp at hx), Lib.hid (Bel.refl w)⟩
  case round =>
    obtain ⟨k, hgk, rfl, HT, U⟩ := hrel
    have hi0 : (0 : Int) ≤ (k : Int) := by omega
    by_cases hk : k < l.length
    rotate_left
    · obtain rfl : k = l.length := by omega
      have hi1 : (l.length : Int) ≤ (l.length : Int) := Int.le_refl _
      have hall := HT.out
      rw [List.take_of_length_le (by simp)] at hall
      have hv : R = -1 := by rw [HR.out]; unfold firstLate; rw [due_full now _ hall, if_pos rfl]
      subst hv
      go_wp2_with fail
      go_ret
      exact ⟨rfl, U.out⟩
    have hi1 : (k : Int) < (l.length : Int) := by omega
    obtain ⟨a, ha⟩ : ∃ a, l[k]? = some a := ⟨_, List.getElem?_eq_getElem hk⟩
    obtain ⟨b, off, rfl, hbB, e0, e1, e2, e3, e4, e5⟩ := rowsW (HA.out.1.keep (fun p hp => U.out.cell hp)) ha
    have hcg := (U.out.cell (p := ⟨g, 0, none⟩) hlt).trans HG.out
    have hgl : g < wr.heap.size := Nat.lt_of_lt_of_le hlt U.out.size
    have k1 := run1_any a.w.at_ a.w.m.sq a.w.m.ti a.w.m.ty a.w.m.mrk a.B a.w.m.pl.length a.c g now wr hcg hgl
    have hm : (l.map TW.w)[k]? = some a.w := by rw [List.getElem?_map, ha]; rfl
    have HM := Lib.hid hm
    have K1 := Lib.hid k1
    clear ha hm k1
    by_cases hd : now < a.w.at_
    · have hb : decide (now < a.w.at_) = true := by simpa using hd
      obtain ⟨d1, d2⟩ := due_at now _ k a.w HM.out HT.out hd
      have hv : R = (k : Int) := by rw [HR.out]; unfold firstLate; rw [d1, if_neg (by omega)]
      subst hv
      rw [hb] at K1
      clear hd hb d1 d2
      go_wp2_with fail
      refine (K1.out).mono ?_
      rintro e w1 ⟨rfl, hb1⟩
      go_wp2_with fail
      go_ret
      exact ⟨rfl, U.out.later hb1⟩
    · have hb : decide (now < a.w.at_) = false := by simpa using hd
      rw [hb] at K1
      have HD := Lib.hid hd
      clear hd hb
      go_wp2_with fail
      refine (K1.out).mono ?_
      rintro e w1 ⟨rfl, hb1⟩
      have U1 := Lib.hid (U.out.later hb1)
      clear hb1
      go_wp2_with fail
      go_roundg (gk - 1)
      case measure => omega
      case rel =>
        refine ⟨k + 1, by omega, by go_num, Lib.hid (fun x hx => ?_), U1⟩
        rw [List.take_add_one, HM.out] at hx
        rcases List.mem_append.1 hx with hx | hx
        · exact HT.out x hx
        · simp at hx
          subst hx
          have := HD.out
          omega
end Go.Proofs.Ytnaafjdnmbajjaa
/- Layer 30: slices.ContainsFunc with the closure of Put. -/
namespace Go.Proofs.Ytnaafjdnmbajjaa
open Go.RowKit
set_option linter.unusedVariables false
set_option linter.unusedSimpArgs false
attribute [local go_sem ↓] run_min_plain run_max_plain
attribute [local go_sem] setCell_drewN alloc_drewN
set_option maxRecDepth 100000 in
set_option maxHeartbeats 12800000 in
theorem put1_any (a0 s0 t0 y0 : Int) (m0 : Bool) (A0 : Option Addr) (n0 c0 : Nat) (g : Nat) (sq : Int) (w : World) (hg : w.cell? ⟨g, 0, none⟩ = some (.int .i64 sq)) (hlt : g < w.heap.size) : Calls Try.prog 30 #[.agg #[.int .i64 a0, .int .i64 s0, .int .i64 t0, .bool m0, .int .u8 y0, .slice A0 n0 c0], .pointer (some ⟨g, 0, none⟩)] w fun e w' => e = .returned (.bool (s0 == sq)) ∧ Below w.heap.size w w' := by
  have hne : ¬g = w.heap.size := by omega
  go_enter Try.func30, Try.ntmps30
  go_wp2_with fail
  go_ret
  exact ⟨by first | rfl | simp, (Below.refl _ _).alloc (Nat.le_refl _) _⟩
def AtLeast (b : Bool) (w : World) (e : Ending) (w' : World) : Prop := ∃ r : Int, e = .returned (.int .i64 r) ∧ decide (0 ≤ r) = b ∧ Below w.heap.size w w'
set_option maxRecDepth 100000 in
set_option maxHeartbeats 12800000 in
theorem index2_any (A : Option Addr) (l : List TW) (n c : Nat) (g : Nat) (sq : Int) (w : World) (hn : l.length = n) (hl : n ≤ 1000000) (hA : Wts w w.heap.size A l) (hg : w.cell? ⟨g, 0, none⟩ = some (.int .i64 sq)) (hlt : g < w.heap.size) : Calls Try.prog 47 #[.slice A n c, .func (Fn.func 30) #[] #[.pointer (some ⟨g, 0, none⟩)]] w (AtLeast ((l.map TW.w).any fun x => x.m.sq == sq) w) := by
  subst hn
  have HA := Lib.hid hA
  have HG := Lib.hid hg
  obtain ⟨R, hR⟩ : ∃ R, R = (l.map TW.w).any fun x => x.m.sq == sq := ⟨_, rfl⟩
  rw [← hR]
  have HR := Lib.hid hR
  clear hA hg hR
  go_enter Try.func47, Try.ntmps47
  go_wp2_with fail
  go_loopg [8] l.length (fun gk i wr => ∃ k : Nat, gk + k = l.length ∧ i = .int .i64 k ∧ Hid (R = ((l.map TW.w).drop k).any fun x => x.m.sq == sq) ∧ Hid (Bel w wr))
  case atStart => exact ⟨0, rfl, rfl, Lib.hid (by rw [List.drop_zero]; exact HR.out), Lib.hid (Bel.refl w)⟩
  case round =>
    clear HR
    obtain ⟨k, hgk, rfl, HT, U⟩ := hrel
    have hi0 : (0 : Int) ≤ (k : Int) := by omega
    by_cases hk : k < l.length
    rotate_left
    · obtain rfl : k = l.length := by omega
      have hi1 : (l.length : Int) ≤ (l.length : Int) := Int.le_refl _
      have hv : R = false := by rw [HT.out, List.drop_eq_nil_of_le (by simp)]; rfl
      subst hv
      go_wp2_with fail
      go_ret
      exact ⟨-1, rfl, rfl, U.out⟩
    have hi1 : (k : Int) < (l.length : Int) := by omega
    obtain ⟨a, ha⟩ : ∃ a, l[k]? = some a := ⟨_, List.getElem?_eq_getElem hk⟩
    obtain ⟨b, off, rfl, hbB, e0, e1, e2, e3, e4, e5⟩ := rowsW (HA.out.1.keep (fun p hp => U.out.cell hp)) ha
    have hcg := (U.out.cell (p := ⟨g, 0, none⟩) hlt).trans HG.out
    have hgl : g < wr.heap.size := Nat.lt_of_lt_of_le hlt U.out.size
    have k1 := put1_any a.w.at_ a.w.m.sq a.w.m.ti a.w.m.ty a.w.m.mrk a.B a.w.m.pl.length a.c g sq wr hcg hgl
    have hd : (l.map TW.w).drop k = a.w :: (l.map TW.w).drop (k + 1) := by
      have hm : (l.map TW.w)[k]? = some a.w := by rw [List.getElem?_map, ha]; rfl
      obtain ⟨h1, h2⟩ := List.getElem?_eq_some_iff.1 hm
      rw [List.drop_eq_getElem_cons h1, h2]
    have HD := Lib.hid hd
    have K1 := Lib.hid k1
    clear ha hd k1
    cases hb : (a.w.m.sq == sq)
    · rw [hb] at K1
      have HN : Hid (R = ((l.map TW.w).drop (k + 1)).any fun x => x.m.sq == sq) := Lib.hid (by rw [HT.out, HD.out, List.any_cons, hb, Bool.false_or])
      clear hb HT HD
      go_wp2_with fail
      refine (K1.out).mono ?_
      rintro e w1 ⟨rfl, hb1⟩
      have U1 := Lib.hid (U.out.later hb1)
      clear hb1
      go_wp2_with fail
      go_roundg (gk - 1)
      case measure => omega
      case rel => exact ⟨k + 1, by omega, by go_num, HN, U1⟩
    · rw [hb] at K1
      have hv : R = true := by rw [HT.out, HD.out, List.any_cons, hb, Bool.true_or]
      subst hv
      clear hb HT HD
      go_wp2_with fail
      refine (K1.out).mono ?_
      rintro e w1 ⟨rfl, hb1⟩
      go_wp2_with fail
      go_ret
      exact ⟨(k : Int), rfl, by simp, U.out.later hb1⟩
set_option maxRecDepth 100000 in
set_option maxHeartbeats 12800000 in
theorem contains_any (A : Option Addr) (l : List TW) (n c : Nat) (g : Nat) (sq : Int) (w : World) (hn : l.length = n) (hl : n ≤ 1000000) (hA : Wts w w.heap.size A l) (hg : w.cell? ⟨g, 0, none⟩ = some (.int .i64 sq)) (hlt : g < w.heap.size) : Calls Try.prog 31 #[.slice A n c, .func (Fn.func 30) #[] #[.pointer (some ⟨g, 0, none⟩)]] w fun e w' => e = .returned (.bool ((l.map TW.w).any fun x => x.m.sq == sq)) ∧ Below w.heap.size w w' := by
  have k1 := Lib.hid (index2_any A l n c g sq w hn hl hA hg hlt)
  generalize ((l.map TW.w).any fun x => x.m.sq == sq) = R at *
  clear hA hg
  go_enter Try.func31, Try.ntmps31
  go_wp2_with fail
  refine k1.out.mono ?_
  rintro e w1 ⟨r, rfl, hr, hb⟩
  go_wp2_with fail
  go_ret
  first | exact ⟨rfl, hb⟩ | exact ⟨ret_b hr, hb⟩
end Go.Proofs.Ytnaafjdnmbajjaa
/- Layer 30: copyQueue. -/
namespace Go.Proofs.Ytnaafjdnmbajjaa
open Go.RowKit
set_option linter.unusedVariables false
set_option linter.unusedSimpArgs false
attribute [local go_sem ↓] run_min_plain run_max_plain
attribute [local go_sem] setCell_drewN alloc_drewN
theorem info_w : (Try.prog.info? 50).map (fun i => (i.zero, i.size, i.bytes)) = some (some (.agg #[.int .i64 0, .int .i64 0, .int .i64 0, .bool false, .int .u8 0, .slice none 0 0]), 6, 56) := by kernel_rfl
/-- a queue that the call has made: its row lies from base on, its payloads elsewhere -/
structure QOwn (w : World) (base : Nat) (A : Option Addr) (n c : Nat) (l : List TW) : Prop where
  len : l.length = n
  own : Owns w base 50 6 A n c (l.flatMap TW.row)
  pay : ∀ a ∈ l, IntsAt w w.heap.size .u8 a.B a.w.m.pl
  far : ∀ a ∈ l, 0 < a.w.m.pl.length → ∀ b off, a.B = some ⟨b, off, none⟩ → some b ≠ ownB A
  new : ∀ a ∈ l, 0 < a.w.m.pl.length → ∀ b off, a.B = some ⟨b, off, none⟩ → base ≤ b
theorem QOwn.nil {w : World} {base : Nat} : QOwn w base none 0 0 [] := ⟨rfl, Owns.nil, (fun _ h => by cases h), (fun _ h => by cases h), (fun _ h => by cases h)⟩
theorem QOwn.below {w w' : World} {base n c : Nat} {A : Option Addr} {l : List TW} (h : QOwn w base A n c l) (hb : Below w.heap.size w w') : QOwn w' base A n c l :=
  ⟨h.len, h.own.below hb, fun a ha => (h.pay a ha).later hb, h.far, h.new⟩
theorem QOwn.step {wr v1 v2 wn : World} {base k c cn : Nat} {A An : Option Addr} {l : List TW} {a : TW} (h : QOwn wr base A k c l) (hbs : base ≤ wr.heap.size) (hb : Below wr.heap.size wr v1) (hb2 : Below v1.heap.size v1 v2) (hg : v2.grownBy wn (ownB A))
    (hown : Owns wn base 50 6 An (k + 1) cn (l.flatMap TW.row ++ a.row)) (hat : ownB An = ownB A ∨ ∀ g, ownB An = some g → v2.heap.size ≤ g) (hI : IntsNew wr.heap.size v1 .u8 a.B a.w.m.pl) : QOwn wn base An (k + 1) cn (l ++ [a]) := by
  have s1 := hb.size
  have s2 := hb2.size
  have s3 := hg.size
  have hA : ∀ g, ownB A = some g → g < wr.heap.size := fun g hg' => (h.own.block g hg').2
  have key : ∀ (x : TW), IntsAt v2 v2.heap.size .u8 x.B x.w.m.pl → (0 < x.w.m.pl.length → ∀ b off, x.B = some ⟨b, off, none⟩ → some b ≠ ownB A) → IntsAt wn wn.heap.size .u8 x.B x.w.m.pl := by
    intro x hx hf h0
    obtain ⟨b, off, e, hlt, hc⟩ := hx h0
    exact ⟨b, off, e, by omega, fun i hi => hg.cell (hc i hi) (hf h0 b off e)⟩
  have farN : ∀ b off, 0 < a.w.m.pl.length → a.B = some ⟨b, off, none⟩ → wr.heap.size ≤ b ∧ b < v1.heap.size := by
    intro b off h0 e
    refine ⟨hI.2 h0 b off e, ?_⟩
    obtain ⟨b', off', e', hlt, _⟩ := hI.1 h0
    rw [e] at e'
    injection e' with e'
    injection e' with e1 _
    omega
  have farO : ∀ x ∈ l, ∀ b off, 0 < x.w.m.pl.length → x.B = some ⟨b, off, none⟩ → b < wr.heap.size := by
    intro x hx b off h0 e
    obtain ⟨b', off', e', hlt, _⟩ := h.pay x hx h0
    rw [e] at e'
    injection e' with e'
    injection e' with e1 _
    omega
  refine ⟨by simp [h.len], by rw [List.flatMap_append]; simpa using hown, fun x hx => ?_, fun x hx h0 b off e => ?_, fun x hx h0 b off e => ?_⟩
  · rcases List.mem_append.1 hx with hx | hx
    · exact key x (((h.pay x hx).later hb).later hb2) (h.far x hx)
    · obtain rfl := List.mem_singleton.1 hx
      refine key x (hI.1.later hb2) (fun h0 b off e he => ?_)
      have := farN b off h0 e
      have := hA b he.symm
      omega
  · rcases List.mem_append.1 hx with hx | hx
    · rcases hat with e2 | e2
      · rw [e2]; exact h.far x hx h0 b off e
      · intro he
        have := farO x hx b off h0 e
        have := e2 b he.symm
        omega
    · obtain rfl := List.mem_singleton.1 hx
      have := farN b off h0 e
      rcases hat with e2 | e2
      · rw [e2]
        intro he
        have := hA b he.symm
        omega
      · intro he
        have := e2 b he.symm
        omega
  · rcases List.mem_append.1 hx with hx | hx
    · exact h.new x hx h0 b off e
    · obtain rfl := List.mem_singleton.1 hx
      have := farN b off h0 e
      omega
theorem QOwn.wts {w : World} {base n c : Nat} {A : Option Addr} {l : List TW} (h : QOwn w base A n c l) : Wts w w.heap.size A l := by
  refine ⟨?_, h.pay⟩
  exact Owns.rows h.own h.len (fun a => rfl)
/-- one element, whose cells lie in block g0; where the new slice lies -/
theorem step_append_two {P : Program} {ops : Array Oper} {o : Oper} {a : Act} {w : World} {K : Act → World → Prop} {Q : Exit → Act → World → Prop} {E : Prop} (d : Tmp) (hgd : o.guard = none) (hd : o.dst = some d) (s x : Operand) (t : TypeId)
    (ho : o.op = .call { callee := .builtin .append, args := #[s, x], argTypes := #[t, t] })
    (base : Nat) (e : TypeId) (size bytes : Nat) (z : Value) (ht : P.underlying t = some (.slice e)) (hinfo : (P.info? e).map (fun i => (i.zero, i.size, i.bytes)) = some (some z, size, bytes))
    (hzs : z.cells.size = size) (hsz : 0 < size) (A : Option Addr) (n c : Nat) (xs : List Value) (hs : a.eval s = .slice A n c) (hown : Owns w base e size A n c xs)
    (g0 : Nat) (cs : List Value) (hl : cs.length = size) (h1 : ∀ u ∈ cs, u.oneCell' = true) (hx : a.eval x = .slice (some ⟨g0, 0, none⟩) 1 1) (hb : Blk w g0 e cs.toArray)
    (h63 : n + 1 ≤ maxLen) (hbytes : (n + 1) * bytes ≤ 140737488355328) (hbase : base ≤ w.heap.size)
    (h : ∀ (A' : Option Addr) (c' : Nat) (w' : World), Owns w' base e size A' (n + 1) c' (xs ++ cs) → w.grownBy w' (ownB A) → (ownB A' = ownB A ∨ ∀ g, ownB A' = some g → w.heap.size ≤ g) → K (a.put (some d) (.slice A' (n + 1) c')) w') :
    if Region.wanted o (yielded ops a.tmps) = true then Oper.wp P o a w K Q else E := by
  obtain ⟨i, hi, hz0, hz1, hz2⟩ := info_parts hinfo
  refine step_append_lies w hgd s x t ho base e i z size bytes ht hi hz0 hz1 hz2 hzs hsz _ n xs hs hown ⟨g0, 0, none⟩ 1 1 cs hx (by omega) ?_ h1 (by omega) h63 hbytes hbase _ rfl ?_
  · intro j u hu
    exact World.news_of_block hb j u (by simpa using hu)
  · intro g cap w' hown' hg hat hlt
    rw [ownB_eq] at hg hat
    rw [hd]
    refine h _ _ w' hown' hg ?_
    rcases hat with e | e
    · exact .inl e.symm
    · refine .inr fun g' hg' => ?_
      injection hg' with hg'
      rw [← hg', e]; exact Nat.le_refl _
/-- what copyQueue leaves -/
def QueueR (l : List TW) (w : World) (e : Ending) (w' : World) : Prop :=
  ∃ (A' : Option Addr) (c' : Nat) (l' : List TW), e = .returned (.slice A' l.length c') ∧ l'.map TW.w = l.map TW.w ∧ QOwn w' w.heap.size A' l.length c' l' ∧ Below w.heap.size w w'
set_option maxRecDepth 100000 in
set_option maxHeartbeats 12800000 in
theorem copyQueue_any (A : Option Addr) (l : List TW) (n c : Nat) (w : World) (hn : l.length = n) (hl : n ≤ 100000) (hA : Wts w w.heap.size A l) (hp : ∀ a ∈ l, a.w.m.pl.length ≤ 1000000) : Calls Try.prog 49 #[.slice A n c] w (QueueR l w) := by
  subst hn
  have HA := Lib.hid hA
  have HP := Lib.hid hp
  clear hA hp
  go_enter Try.func49, Try.ntmps49
  go_wp2_with fail
  go_loopg [3, 8] l.length (fun gk s3 i wr => ∃ (k : Nat) (A' : Option Addr) (c' : Nat) (l' : List TW), gk + k = l.length ∧ s3 = .slice A' k c' ∧ i = .int .i64 k ∧ Hid (l'.map TW.w = (l.map TW.w).take k) ∧ Hid (QOwn wr w.heap.size A' k c' l') ∧ Hid (Bel w wr))
  case atStart => exact ⟨0, none, 0, [], rfl, rfl, rfl, Lib.hid rfl, Lib.hid QOwn.nil, Lib.hid (Bel.refl w)⟩
  case round =>
    obtain ⟨k, A', c', l', hgk, rfl, rfl, HL, HO, U⟩ := hrel
    have hi0 : (0 : Int) ≤ (k : Int) := by omega
    by_cases hk : k < l.length
    rotate_left
    · obtain rfl : k = l.length := by omega
      have hi1 : (l.length : Int) ≤ (l.length : Int) := Int.le_refl _
      go_wp2_with fail
      go_ret
      exact ⟨A', c', l', rfl, by rw [HL.out, List.take_of_length_le (by simp)], HO.out, U.out⟩
    have hi1 : (k : Int) < (l.length : Int) := by omega
    obtain ⟨a, ha⟩ : ∃ a, l[k]? = some a := ⟨_, List.getElem?_eq_getElem hk⟩
    obtain ⟨b, off, rfl, hbB, e0, e1, e2, e3, e4, e5⟩ := rowsW (HA.out.1.keep (fun p hp => U.out.cell hp)) ha
    have hpa := HP.out a (List.mem_of_getElem? ha)
    have hia := (HA.out.2 a (List.mem_of_getElem? ha)).keep (w' := wr) (fun p hp => U.out.cell hp)
    have hm : (l.map TW.w)[k]? = some a.w := by rw [List.getElem?_map, ha]; rfl
    have HM := Lib.hid hm
    obtain ⟨⟨at0, ⟨sq0, ti0, mk0, ty0, pl0⟩⟩, B0, c0⟩ := a
    simp only at e0 e1 e2 e3 e4 e5 hpa hia HM
    have BX := Lib.hid ((Blk.new wr 50 #[.int .i64 at0, .int .i64 sq0, .int .i64 ti0, .bool mk0, .int .u8 ty0, .slice B0 pl0.length c0]).drew)
    have UX := Lib.hid (((Bel.refl wr).push (.cells #[.int .i64 at0, .int .i64 sq0, .int .i64 ti0, .bool mk0, .int .u8 ty0, .slice B0 pl0.length c0] 50)).drewN 1)
    have hbs := U.out.size
    have IA := Lib.hid hia
    clear ha hm hia
    go_wp2_with fail
    go_region_law (first
      | (refine step_append_two 20 (by rfl) (by rfl) _ _ 24 (by rfl) w.heap.size 50 6 56 _ Try.underlying24 info_w rfl (by decide) A' k c' _ (by rfl) (Owns.alloc HO2 _) v1.heap.size [.int .i64 at0, .int .i64 sq0, .int .i64 ti0, .bool mk0, .int .u8 ty0, .slice A9 pl0.length c9] rfl (by simp [Value.oneCell']) (by rfl) (Blk.new v1 _ _) (by unfold maxLen; omega) (by omega) (by simp; omega) ?_; intro An cn wn hown hgr hat)
      | (go_simp; go_at_call 34; refine (copyMedia_any sq0 ti0 mk0 ty0 B0 pl0 pl0.length c0 _ w.heap.size (by simp; omega) ((IA.out.alloc hbs _).drew) hpa rfl).mono ?_; rintro e v1 ⟨A9, c9, rfl, hI9, hb9⟩; have HO2 := ((HO.out.own.alloc _).drew).below hb9; have b0 := (BX.out.later hb9).at 0 _ rfl; have hs9 := hb9.size; have hs9' : w.heap.size ≤ v1.heap.size := by simp at hs9; omega))
    all_goals
      go_wp2_with fail
      go_roundg (gk - 1)
      case measure => omega
      case rel =>
        have UV : Below wr.heap.size wr v1 := UX.out.later hb9
        have hI8 := hI9.less (m := wr.heap.size) (by simp)
        have hb2 := (Below.refl v1.heap.size v1).alloc (Nat.le_refl _) (.cells #[.int .i64 at0, .int .i64 sq0, .int .i64 ti0, .bool mk0, .int .u8 ty0, .slice A9 pl0.length c9] 50)
        refine ⟨k + 1, An, cn, l' ++ [⟨⟨at0, ⟨sq0, ti0, mk0, ty0, pl0⟩⟩, A9, c9⟩], by omega, rfl, by go_num, Lib.hid ?_, Lib.hid ?_, Lib.hid ?_⟩
        · rw [List.map_append, HL.out, List.take_add_one, HM.out]; rfl
        · exact HO.out.step hbs UV hb2 hgr (by simpa [TW.row] using hown) hat hI8
        · exact (((U.out.later UV).later hb2).grown hgr (Nat.le_trans hs9' hb2.size) fun g e => (HO.out.own.block g e).1)
end Go.Proofs.Ytnaafjdnmbajjaa

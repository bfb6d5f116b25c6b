/- Opening arguments: a struct of scalars and slices by its leaves, a slice of such structs as a list. Over any program. -/
import Derived.Test.YtnaafjdnmbajjaaMemQ
import Derived.Deep.Slices
import Derived.Deep.Strs
import Derived.Lib.SmallJoins
import Derived.Deep.RegionHeld3
import Derived.Deep.DrawnRows
import Derived.Deep.DeepCutAuto
namespace Go.Proofs.Ytnaafjdnmbajjaa
open Go.ChangeShapes Go.WideShapes Go.ChangeAt Go.RowKit Go.Deep
set_option linter.unusedVariables false

/-- the leaves of fields, in order; each field must begin where the one before ends -/
def flatFs (g : TypeId → Option (List TypeId)) : List Field → Nat → Option (List TypeId)
  | [], _ => some []
  | f :: fs, o => if f.offset = o then (g f.type).bind fun l => (flatFs g fs (o + l.length)).map (l ++ ·) else none
/-- the types of a type's cells, where each is an integer, a bool, a string or a slice -/
def flat (P : Program) : Nat → TypeId → Option (List TypeId)
  | 0, _ => none
  | n + 1, t => match P.underlying t with
    | some (.struct fs) => (flatFs (flat P n) fs.toList 0).bind fun l => if l.length = P.cellsOf t then some l else none
    | some (.int _) => some [t]
    | some .bool => some [t]
    | some .string => some [t]
    | some (.slice _) => some [t]
    | _ => none

/-- the cells from o on are those of the list -/
def AllAt (cs : List Value) : Nat → List Value → Prop
  | _, [] => True
  | o, v :: L => cs[o]? = some v ∧ AllAt cs (o + 1) L
theorem AllAt.get {cs : List Value} : ∀ {L : List Value} {o : Nat}, AllAt cs o L → ∀ (i : Nat) (v : Value), L[i]? = some v → cs[o + i]? = some v
  | [], o, _, i, v, h => by simp at h
  | u :: L, o, h, 0, v, hv => by
    simp at hv
    subst hv
    exact h.1
  | u :: L, o, h, i + 1, v, hv => by
    have := AllAt.get h.2 i v (by simpa using hv)
    rw [← this]; congr 1; omega
theorem AllAt.eq {cs L : List Value} (h : AllAt cs 0 L) (hl : cs.length = L.length) : cs = L := by
  refine List.ext_getElem? fun i => ?_
  by_cases hi : i < L.length
  · rw [List.getElem?_eq_getElem hi]
    have := h.get i _ (List.getElem?_eq_getElem hi)
    simpa using this
  · rw [List.getElem?_eq_none (by omega), List.getElem?_eq_none (by omega)]
section
variable {H : Type} {enc : TypeId × Value → H} {P : Program} {w : World} {base : Nat} {spare : Nat → Bool} {held : Bool}
/-- a cell reads as a value of type t -/
def Leaf (enc : TypeId × Value → H) (P : Program) (w : World) (base : Nat) (spare : Nat → Bool) (held : Bool) (t : TypeId) (v : Value) : Prop := ∃ n y, DataW.trod enc P w base spare held n t [v] = some y

theorem flatFs_ok {g : TypeId → Option (List TypeId)} {cs : List Value} {ok : TypeId → Value → Prop} : ∀ (fs : List Field) (o : Nat) (ls : List TypeId), flatFs g fs o = some ls →
    (∀ f ∈ fs, ∀ l, g f.type = some l → ((cs.drop f.offset).take (P.cellsOf f.type)).length = l.length ∧ ∀ (i : Nat) (lt : TypeId), l[i]? = some lt → ∃ v, ((cs.drop f.offset).take (P.cellsOf f.type))[i]? = some v ∧ ok lt v) →
    ∀ (i : Nat) (lt : TypeId), ls[i]? = some lt → ∃ v, cs[o + i]? = some v ∧ ok lt v
  | [], o, ls, h, _, i, lt, hi => by
    injection h with h
    subst h
    simp at hi
  | f :: fs, o, ls, h, hf, i, lt, hi => by
    unfold flatFs at h
    by_cases ho : f.offset = o
    · rw [if_pos ho] at h
      rw [Option.bind_eq_some_iff] at h
      obtain ⟨l, hl, h⟩ := h
      rw [Option.map_eq_some_iff] at h
      obtain ⟨r, hr, rfl⟩ := h
      obtain ⟨h1, h2⟩ := hf f (List.mem_cons_self ..) l hl
      by_cases hi' : i < l.length
      · rw [List.getElem?_append_left hi'] at hi
        obtain ⟨v, hv, hv2⟩ := h2 i lt hi
        refine ⟨v, ?_, hv2⟩
        rw [List.getElem?_take, List.getElem?_drop, ho] at hv
        split at hv
        · exact hv
        · cases hv
      · rw [List.getElem?_append_right (by omega)] at hi
        obtain ⟨v, hv, hv2⟩ := flatFs_ok fs (o + l.length) r hr (fun f' hf' => hf f' (List.mem_cons_of_mem _ hf')) (i - l.length) lt hi
        exact ⟨v, by rw [← hv]; congr 1; omega, hv2⟩
    · rw [if_neg ho] at h
      cases h

theorem flat_trod : ∀ (n m : Nat) (t : TypeId) (ls : List TypeId) (cs : List Value) (x : DataW H × List MemPlace), flat P n t = some ls → DataW.trod enc P w base spare held m t cs = some x →
    cs.length = ls.length ∧ ∀ (i : Nat) (lt : TypeId), ls[i]? = some lt → ∃ v, cs[i]? = some v ∧ Leaf enc P w base spare held lt v
  | 0, m, t, ls, cs, x, h, _ => by cases h
  | n + 1, m, t, ls, cs, x, h, hx => by
    have one : ∀ v, cs = [v] → ls = [t] → cs.length = ls.length ∧ ∀ (i : Nat) (lt : TypeId), ls[i]? = some lt → ∃ v, cs[i]? = some v ∧ Leaf enc P w base spare held lt v := by
      rintro v rfl rfl
      refine ⟨rfl, fun i lt hi => ?_⟩
      have h0 : i = 0 := by
        have := (List.getElem?_eq_some_iff.1 hi).1
        simpa using this
      subst h0
      injection hi with hi
      subst hi
      exact ⟨v, rfl, m, x, hx⟩
    unfold flat at h
    split at h
    · rename_i fs ht
      rw [Option.bind_eq_some_iff] at h
      obtain ⟨l, hl, h⟩ := h
      by_cases hc : l.length = P.cellsOf t
      · rw [if_pos hc] at h
        injection h with h
        subst h
        obtain ⟨xs, k, _, rfl, hlen, hsz, hf⟩ := DataW.trod_struct ht hx
        refine ⟨by rw [hlen, hc], fun i lt hi => ?_⟩
        have := flatFs_ok (P := P) (cs := cs) (ok := Leaf enc P w base spare held) fs.toList 0 l hl (fun f hfm l' hl' => by
          obtain ⟨j, hj, rfl⟩ := List.mem_iff_getElem.1 hfm
          have hj' : fs[j]? = some (fs.toList[j]) := by simp at hj ⊢
          have hj2 : j < xs.length := by simp at hj; omega
          have h2 := hf j _ hj'
          rw [List.getElem?_eq_getElem hj2] at h2
          exact flat_trod n k _ l' _ _ hl' h2) i lt hi
        simpa using this
      · rw [if_neg hc] at h
        cases h
    · rename_i k ht
      injection h with h
      obtain ⟨z, hz, _⟩ := DataW.trod_int ht hx
      exact one _ hz h.symm
    · rename_i ht
      injection h with h
      obtain ⟨z, hz, _⟩ := DataW.trod_bool ht hx
      exact one _ hz h.symm
    · rename_i ht
      injection h with h
      obtain ⟨z, hz, _⟩ := DataW.trod_string ht hx
      exact one _ hz h.symm
    · rename_i e ht
      injection h with h
      rcases open_slice ht hx with ⟨hz, _⟩ | ⟨a, len, cap, _, _, _, _, hz, _⟩
      · exact one _ hz h.symm
      · exact one _ hz h.symm
    · cases h
theorem Leaf.int {t : TypeId} {v : Value} {k : IntKind} (h : Leaf enc P w base spare held t v) (ht : P.underlying t = some (.int k)) : ∃ z, v = .int k z ∧ (Lit.int k z).wf = true := by
  obtain ⟨n, y, h⟩ := h
  obtain ⟨z, hz, _, hw⟩ := DataW.trod_int ht h
  injection hz with hz
  exact ⟨z, hz, hw⟩
theorem Leaf.bool {t : TypeId} {v : Value} (h : Leaf enc P w base spare held t v) (ht : P.underlying t = some .bool) : ∃ z, v = .bool z := by
  obtain ⟨n, y, h⟩ := h
  obtain ⟨z, hz, _⟩ := DataW.trod_bool ht h
  injection hz with hz
  exact ⟨z, hz⟩
theorem block_add' (a : Addr) (n : Nat) : (a.add n).block = a.block := by unfold Addr.add; split <;> rfl
theorem cells?_nth {a : Addr} {n : Nat} {cs : List Value} (h : w.cells? base a n = some cs) {j : Nat} {v : Value} (hv : cs[j]? = some v) : w.cell? (a.add j) = some v := by
  obtain ⟨_, hl, hc⟩ := World.cells?_some h
  rw [hc j (by have := (List.getElem?_eq_some_iff.1 hv).1; omega), hv]
theorem cells?_len {a : Addr} {n : Nat} {cs : List Value} (h : w.cells? base a n = some cs) : cs.length = n := (World.cells?_some h).2.1
theorem ints_of {t e : TypeId} {k : IntKind} {A : Option Addr} {len cap : Nat} (ht : P.underlying t = some (.slice e)) (he : P.underlying e = some (.int k)) (hc : P.cellsOf e = 1)
    (h : ∃ n y, DataW.trod enc P w base spare held n t [.slice A len cap] = some y) :
    ∃ (A' : Option Addr) (zs : List Int) (cap' : Nat), Value.slice A len cap = .slice A' zs.length cap' ∧ zs.length ≤ cap' ∧ cap' ≤ maxLen ∧ IntsAt w w.heap.size k A' zs ∧ ∀ n ∈ zs, (Lit.int k n).wf = true := by
  obtain ⟨fuel, y, hf⟩ := h
  rcases open_ints ht he hc hf with ⟨hcs, _⟩ | ⟨x, l, c, zs, hcs, _, hl, hm, hz, _, hcell, hwz⟩
  · simp at hcs
    obtain ⟨rfl, rfl, rfl⟩ := hcs
    exact ⟨none, [], 0, rfl, Nat.le_refl _, by unfold maxLen; omega, IntsAt.nil, fun n hn => by cases hn⟩
  · simp at hcs
    obtain ⟨rfl, rfl, rfl⟩ := hcs
    have hlen : (zs.take len).length = len := by
      rw [List.length_take, hz]
      split <;> omega
    refine ⟨some x, zs.take len, cap, by rw [hlen], by rw [hlen]; exact hl, hm, fun h0 => ?_, fun n hn => hwz n (List.mem_of_mem_take hn)⟩
    have hz' : len ≤ zs.length := by rw [hz]; split <;> omega
    have h00 := hcell 0 (by omega)
    have hsp := World.cell?_spot h00
    obtain ⟨b, off, spot⟩ := x
    have hsp' : spot = none := by simpa [Addr.add] using hsp
    subst hsp'
    refine ⟨b, off, rfl, by simpa [Addr.add] using cell_lt h00, fun i hi => ?_⟩
    rw [hlen] at hi
    have h2 : (zs.take len).getD i 0 = zs.getD i 0 := by simp [List.getD_eq_getElem?_getD, hi]
    rw [h2, ← hcell i (by omega)]
    by_cases h0 : i = 0
    · subst h0; rfl
    · simp [Addr.add, h0]
/-- a slice of integers among the cells -/
theorem Leaf.ints {t e : TypeId} {v : Value} {k : IntKind} (h : Leaf enc P w base spare held t v) (ht : P.underlying t = some (.slice e)) (he : P.underlying e = some (.int k)) (hc : P.cellsOf e = 1) :
    ∃ (A : Option Addr) (zs : List Int) (cap : Nat), v = .slice A zs.length cap ∧ zs.length ≤ cap ∧ cap ≤ maxLen ∧ IntsAt w w.heap.size k A zs ∧ ∀ n ∈ zs, (Lit.int k n).wf = true := by
  obtain ⟨n, y, h⟩ := h
  have hv : ∃ A len cap, v = .slice A len cap := by
    rcases open_slice ht h with ⟨hcs, _⟩ | ⟨x, l, c, _, _, _, _, hcs, _⟩
    · injection hcs with hcs; exact ⟨_, _, _, hcs⟩
    · injection hcs with hcs; exact ⟨_, _, _, hcs⟩
  obtain ⟨A, len, cap, rfl⟩ := hv
  exact ints_of ht he hc ⟨n, y, h⟩
/-- Rows of cells, one for each element of l, lie one behind the other from the slice address A on, in a block below B. -/
def RowsAt {α : Type} (w : World) (B size : Nat) (row : α → List Value) (A : Option Addr) (l : List α) : Prop :=
  0 < l.length → ∃ b off, A = some ⟨b, off, none⟩ ∧ b < B ∧ ∀ (i : Nat) (a : α), l[i]? = some a → ∀ (j : Nat) (v : Value), (row a)[j]? = some v → w.cell? ⟨b, off + i * size + j, none⟩ = some v
theorem choose_list {α : Type} {Q : Nat → α → Prop} : ∀ (n : Nat), (∀ i, i < n → ∃ a, Q i a) → ∃ l : List α, l.length = n ∧ ∀ (i : Nat) (a : α), l[i]? = some a → Q i a
  | 0, _ => ⟨[], rfl, fun i a h => by simp at h⟩
  | n + 1, h => by
    obtain ⟨l, hl, hQ⟩ := choose_list n fun i hi => h i (by omega)
    obtain ⟨a, ha⟩ := h n (by omega)
    refine ⟨l ++ [a], by simp [hl], fun i b hb => ?_⟩
    by_cases hi : i < l.length
    · rw [List.getElem?_append_left hi] at hb; exact hQ i b hb
    · have hi2 : i = n := by
        have := (List.getElem?_eq_some_iff.1 hb).1
        simp at this; omega
      subst hi2
      rw [List.getElem?_append_right (by omega), hl] at hb
      simp at hb
      subst hb
      exact ha
/-- A slice of structs among the cells: a list, given what one element's cells are. -/
theorem Leaf.rows {α : Type} {row : α → List Value} {ok : α → Prop} {t e : TypeId} {v : Value} {size : Nat} (h : Leaf enc P w base spare held t v) (ht : P.underlying t = some (.slice e)) (hsz : P.cellsOf e = size) (h0 : 0 < size)
    (hopen : ∀ n cs x, DataW.trod enc P w base spare held n e cs = some x → ∃ a, cs = row a ∧ ok a) :
    ∃ (A : Option Addr) (l : List α) (cap : Nat), v = .slice A l.length cap ∧ l.length ≤ cap ∧ cap ≤ maxLen ∧ RowsAt w w.heap.size size row A l ∧ ∀ a ∈ l, ok a := by
  obtain ⟨n, y, h⟩ := h
  rcases open_slice ht h with ⟨hcs, _⟩ | ⟨x, len, cap, m, k, D, Pl, hcs, hb, hlc, hcm, hm, _, hel⟩
  · injection hcs with hcs
    subst hcs
    exact ⟨none, [], 0, rfl, Nat.le_refl _, by unfold maxLen; omega, fun h => absurd h (by simp), fun a ha => by cases ha⟩
  · injection hcs with hcs
    subst hcs
    have hml : len ≤ m := by rw [hm]; split <;> omega
    obtain ⟨l, hl, hQ⟩ := choose_list (Q := fun i a => w.cells? base (x.add (i * size)) size = some (row a) ∧ ok a) len (fun i hi => by
      obtain ⟨cs', h1, h2⟩ := hel i (by omega)
      obtain ⟨a, rfl, ha⟩ := hopen _ _ _ h2
      rw [hsz] at h1
      exact ⟨a, h1, ha⟩)
    refine ⟨some x, l, cap, by rw [hl], by omega, hcm, fun hpos => ?_, fun a ha => ?_⟩
    · obtain ⟨a0, ha0⟩ : ∃ a0, l[0]? = some a0 := ⟨_, List.getElem?_eq_getElem hpos⟩
      have h00 := (hQ 0 a0 ha0).1
      have hcell : ∀ (i : Nat) (a : α), l[i]? = some a → ∀ (j : Nat) (v : Value), (row a)[j]? = some v → w.cell? ((x.add (i * size)).add j) = some v := fun i a ha j v hv => cells?_nth (hQ i a ha).1 hv
      have hlen0 : (row a0).length = size := cells?_len h00
      obtain ⟨v0, hv0⟩ : ∃ v0, (row a0)[0]? = some v0 := ⟨_, List.getElem?_eq_getElem (by omega)⟩
      have hc0 := hcell 0 a0 ha0 0 v0 hv0
      have hsp := World.cell?_spot hc0
      obtain ⟨b, off, spot⟩ := x
      have hsp' : spot = none := by simpa [Addr.add] using hsp
      subst hsp'
      refine ⟨b, off, rfl, ?_, fun i a ha j v hv => ?_⟩
      · have := cell_lt hc0
        simpa [block_add'] using this
      · have := hcell i a ha j v hv
        rw [← this]
        congr 1
        simp only [Addr.add]
        repeat' split
        all_goals simp_all
        all_goals omega
    · obtain ⟨i, hi, rfl⟩ := List.mem_iff_getElem.1 ha
      exact (hQ i _ (List.getElem?_eq_getElem hi)).2
end
end Go.Proofs.Ytnaafjdnmbajjaa
/- Words for blocks of memory that are known whole, and lemmas by which they stay so. -/
namespace Go.Proofs.Ytnaafjdnmbajjaa
open Go.RowKit

/-- Block g is just the cells cs of type t, none frozen. -/
def Blk (w : World) (g : Nat) (t : TypeId) (cs : Array Value) : Prop := w.heap[g]? = some (.cells cs t (0, 0))
section
variable {w w' : World} {g : Nat} {t : TypeId} {cs : Array Value}
theorem Blk.lt (h : Blk w g t cs) : g < w.heap.size := by
  rcases Nat.lt_or_ge g w.heap.size with hlt | hge
  · exact hlt
  · unfold Blk at h; rw [Array.getElem?_eq_none hge] at h; cases h
theorem Blk.cell (h : Blk w g t cs) (i : Nat) : w.cell? ⟨g, i, none⟩ = cs[i]? := cell_of_row w g i cs t (0, 0) h
theorem Blk.at (h : Blk w g t cs) (i : Nat) (v : Value) (hv : cs[i]? = some v) : w.cell? ⟨g, i, none⟩ = some v := (h.cell i).trans hv
theorem Blk.frozen (h : Blk w g t cs) (i : Nat) : w.frozen? ⟨g, i, none⟩ = false := by
  unfold Blk at h
  simp [World.frozen?, h]
theorem Blk.new (w : World) (t : TypeId) (cs : Array Value) : Blk (w.alloc (.cells cs t)) w.heap.size t cs := by
  show (w.heap.push _)[w.heap.size]? = _
  simp
theorem Blk.drew (h : Blk w g t cs) : Blk w.drew g t cs := h
theorem Blk.drewN (h : Blk w g t cs) (n : Nat) : Blk (w.drewN n) g t cs := h
theorem Blk.alloc (h : Blk w g t cs) (o : Obj) : Blk (w.alloc o) g t cs := (Below.heap_alloc w o g h.lt).trans h
theorem Blk.set_ (h : Blk w g t cs) (i : Nat) (u : Value) : Blk (w.setCell ⟨g, i, none⟩ u) g t (cs.setIfInBounds i u) := by
  unfold Blk at h ⊢
  simp [World.setCell, Array.getElem?_modify, h]
theorem Blk.far (h : Blk w g t cs) {p : Addr} (hp : g ≠ p.block) (u : Value) : Blk (w.setCell p u) g t cs := (Below.heap_setCell w p u g hp).trans h
theorem Blk.below {B : Nat} (h : Blk w g t cs) (hb : Below B w w') (hg : g < B) : Blk w' g t cs := (hb.block g hg).trans h
/-- a block stays so behind a call that makes new memory alone -/
theorem Blk.later (h : Blk w g t cs) (hb : Below w.heap.size w w') : Blk w' g t cs := h.below hb h.lt
theorem Blk.grown {row : Option Nat} (h : Blk w g t cs) (hb : w.grownBy w' row) (hg : some g ≠ row) : Blk w' g t cs := (hb.block g h.lt hg).trans h
theorem Blk.ne_ {g' : Nat} {t' : TypeId} {cs' : Array Value} (h : Blk w g t cs) (h' : Blk w g' t' cs') (hne : t ≠ t') : g ≠ g' := by
  rintro rfl
  unfold Blk at h h'
  rw [h] at h'
  injection h' with h'
  injection h' with _ ht
  exact hne ht
end
end Go.Proofs.Ytnaafjdnmbajjaa
/- Words for the walks of the laws: what is carried over calls that only make new memory, and over new blocks. -/
namespace Go.Proofs.Ytnaafjdnmbajjaa
open Go.RowKit
set_option linter.unusedVariables false
theorem cell_old {W w' : World} {a : Addr} {v : Value} (hb : Below W.heap.size W w') (h : W.cell? a = some v) : w'.cell? a = some v := (hb.cell (cell_lt h)).trans h
theorem below_old' {w W w' : World} (hb : Below W.heap.size W w') (h : Below w.heap.size w W) : Below w.heap.size w w' := h.trans (hb.mono h.size)
theorem cell_new_old {W : World} {a : Addr} {v : Value} (h : W.cell? a = some v) (o : Obj) : (W.alloc o).cell? a = some v := by
  rw [World.cell?_alloc_lt W o a (cell_lt h)]; exact h
theorem below_new_old {w W : World} (h : Below w.heap.size w W) (o : Obj) : Below w.heap.size w (W.alloc o) := h.alloc h.size o
theorem below_set_old {B : Nat} {w W : World} {p : Addr} (h : Below B w W) (hp : B ≤ p.block) (u : Value) : Below B w (W.setCell p u) := h.setCell hp u
theorem cell_set_other {W : World} {a p : Addr} {v : Value} (h : W.cell? a = some v) (hp : a.block ≠ p.block) (u : Value) : (W.setCell p u).cell? a = some v := by
  rw [World.cell?_setCell_other W p a u (fun e => hp (by rw [e]))]; exact h
/-- integers of kind k do not lie in a block that holds no such integer -/
theorem IntsAt.set_other {w : World} {B g i : Nat} {k : IntKind} {A : Option Addr} {zs : List Int} {t : TypeId} {cs : Array Value} (h : IntsAt w B k A zs) (hb : Blk w g t cs) (hk : ∀ (j : Nat) (z : Int), cs[j]? ≠ some (.int k z)) (u : Value) : IntsAt (w.setCell ⟨g, i, none⟩ u) B k A zs := fun h0 => by
  obtain ⟨b, off, rfl, hbB, hc⟩ := h h0
  refine ⟨b, off, rfl, hbB, fun j hj => ?_⟩
  refine cell_set_other (hc j hj) ?_ u
  show b ≠ g
  rintro rfl
  have := hc j hj
  rw [hb.cell] at this
  exact hk _ _ this
/-- a variable of two cells that was made ahead of a call and is written behind it -/
theorem Blk.late2 {w' : World} {g : Nat} {k : IntKind} {A : Option Addr} {zs : List Int} {t : TypeId} {u0 u1 v0 v1 : Value} (h : IntsAt w' w'.heap.size k A zs) (hb : Blk w' g t #[u0, u1])
    (h0 : ∀ z, u0 ≠ .int k z) (h1 : ∀ z, u1 ≠ .int k z) (h2 : ∀ z, v0 ≠ .int k z) :
    IntsAt ((w'.setCell ⟨g, 0, none⟩ v0).setCell ⟨g, 1, none⟩ v1) ((w'.setCell ⟨g, 0, none⟩ v0).setCell ⟨g, 1, none⟩ v1).heap.size k A zs ∧ Blk ((w'.setCell ⟨g, 0, none⟩ v0).setCell ⟨g, 1, none⟩ v1) g t #[v0, v1] := by
  have two : ∀ (a b : Value), (∀ z, a ≠ .int k z) → (∀ z, b ≠ .int k z) → ∀ (j : Nat) (z : Int), #[a, b][j]? ≠ some (.int k z) := by
    intro a b ha hb j z
    match j with
    | 0 => intro e; injection e with e; exact ha z e
    | 1 => intro e; injection e with e; exact hb z e
    | n + 2 => simp
  have hb1 : Blk (w'.setCell ⟨g, 0, none⟩ v0) g t #[v0, u1] := hb.set_ 0 v0
  refine ⟨((h.set_other hb (two _ _ h0 h1) v0).set_other hb1 (two _ _ h2 h1) v1).more (by simp [World.setCell]), hb1.set_ 1 v1⟩
/-- what a function that returns a slice of integers and an error leaves -/
def RetInts (k : IntKind) (l : List Int) (er : Int) (w : World) (e : Ending) (w' : World) : Prop :=
  ∃ (A' : Option Addr) (c' : Nat), e = .returned (.tuple #[.slice A' l.length c', .int .u8 er]) ∧ IntsAt w' w'.heap.size k A' l ∧ Below w.heap.size w w'
/-- since w, only new memory has been written -/
def Bel (w W : World) : Prop := Below w.heap.size w W
theorem Bel.refl (w : World) : Bel w w := Below.refl _ _
theorem Bel.later {w W w' : World} (h : Bel w W) (hb : Below W.heap.size W w') : Bel w w' := h.trans (hb.mono h.size)
theorem Bel.push {w W : World} (h : Bel w W) (o : Obj) : Bel w (W.alloc o) := h.alloc h.size o
theorem Bel.drew {w W : World} (h : Bel w W) : Bel w W.drew := Below.drew h
theorem Bel.drewN {w W : World} (h : Bel w W) (n : Nat) : Bel w (W.drewN n) := ⟨h.os, h.tape, h.output, h.size, h.block⟩
theorem Blk.push {w : World} {g : Nat} {t : TypeId} {cs : Array Value} (h : Blk w g t cs) (o : Obj) : Blk (w.alloc o) g t cs := h.alloc o
theorem Blk.new1 (w : World) (o1 : Obj) (t : TypeId) (cs : Array Value) : Blk ((w.alloc o1).alloc (.cells cs t)) (w.heap.size + 1) t cs := by
  have h := Blk.new (w.alloc o1) t cs
  simpa using h
theorem Blk.new2 (w : World) (o1 o2 : Obj) (t : TypeId) (cs : Array Value) : Blk (((w.alloc o1).alloc o2).alloc (.cells cs t)) (w.heap.size + 1 + 1) t cs := by
  have h := Blk.new ((w.alloc o1).alloc o2) t cs
  simpa using h
theorem Blk.new3 (w : World) (o1 o2 o3 : Obj) (t : TypeId) (cs : Array Value) : Blk ((((w.alloc o1).alloc o2).alloc o3).alloc (.cells cs t)) (w.heap.size + 1 + 1 + 1) t cs := by
  have h := Blk.new (((w.alloc o1).alloc o2).alloc o3) t cs
  simpa using h
theorem IntsAt.push {w : World} {k : IntKind} {A : Option Addr} {zs : List Int} (h : IntsAt w w.heap.size k A zs) (o : Obj) : IntsAt (w.alloc o) (w.alloc o).heap.size k A zs :=
  (h.alloc (Nat.le_refl _) o).more (by simp)
/-- a literal's new block, behind 0 or 1 other new blocks -/
theorem IntsAt.lit0 (w : World) (e : TypeId) (k : IntKind) (zs : List Int) (cs : List Value) (h : cs = zs.map (Value.int k)) : IntsAt (w.alloc (.cells cs.toArray e)) (w.alloc (.cells cs.toArray e)).heap.size k (some ⟨w.heap.size, 0, none⟩) zs := IntsAt.new w e k zs cs h
theorem IntsAt.lit1 (w : World) (o : Obj) (e : TypeId) (k : IntKind) (zs : List Int) (cs : List Value) (h : cs = zs.map (Value.int k)) : IntsAt ((w.alloc o).alloc (.cells cs.toArray e)) ((w.alloc o).alloc (.cells cs.toArray e)).heap.size k (some ⟨w.heap.size + 1, 0, none⟩) zs := by
  have := IntsAt.new (w.alloc o) e k zs cs h
  simpa using this
end Go.Proofs.Ytnaafjdnmbajjaa
/- Slices of structs: what the call owns reads as a list of rows; it stays so in later worlds. -/
namespace Go.Proofs.Ytnaafjdnmbajjaa
open Go.RowKit
set_option linter.unusedVariables false
section
variable {α : Type} {row : α → List Value} {w w' : World} {B size : Nat} {A : Option Addr} {l : List α}
theorem RowsAt.nil : RowsAt w B size row A [] := fun h => absurd h (by simp)
theorem RowsAt.keep (h : RowsAt w B size row A l) (hk : ∀ p : Addr, p.block < B → w'.cell? p = w.cell? p) : RowsAt w' B size row A l := fun h0 => by
  obtain ⟨b, off, rfl, hb, hc⟩ := h h0
  exact ⟨b, off, rfl, hb, fun i a ha j v hv => (hk _ hb).trans (hc i a ha j v hv)⟩
theorem RowsAt.more {B' : Nat} (h : RowsAt w B size row A l) (hB : B ≤ B') : RowsAt w B' size row A l := fun h0 => by
  obtain ⟨b, off, rfl, hb, hc⟩ := h h0
  exact ⟨b, off, rfl, by omega, hc⟩
theorem RowsAt.later (h : RowsAt w w.heap.size size row A l) (hb : Below w.heap.size w w') : RowsAt w' w'.heap.size size row A l := (h.keep fun _ hp => hb.cell hp).more hb.size
theorem RowsAt.push (h : RowsAt w w.heap.size size row A l) (o : Obj) : RowsAt (w.alloc o) (w.alloc o).heap.size size row A l := (h.keep fun p hp => World.cell?_alloc_lt w o p hp).more (by simp)
theorem RowsAt.setCell (h : RowsAt w B size row A l) {p : Addr} (hB : B ≤ p.block) (u : Value) : RowsAt (w.setCell p u) B size row A l :=
  h.keep fun q hq => World.cell?_setCell_other w p q u (fun e => by subst e; omega)
theorem flat_get (hr : ∀ a, (row a).length = size) : ∀ (l : List α) (i : Nat) (a : α), l[i]? = some a → ∀ (j : Nat) (v : Value), (row a)[j]? = some v → (l.flatMap row)[i * size + j]? = some v
  | [], i, a, h, _, _, _ => by simp at h
  | b :: l, 0, a, h, j, v, hv => by
    simp at h
    subst h
    rw [List.flatMap_cons, Nat.zero_mul, Nat.zero_add, List.getElem?_append_left (List.getElem?_eq_some_iff.1 hv).1]
    exact hv
  | b :: l, i + 1, a, h, j, v, hv => by
    have ih := flat_get hr l i a (by simpa using h) j v hv
    rw [List.flatMap_cons, List.getElem?_append_right (by rw [hr, Nat.succ_mul]; omega), hr]
    rw [← ih]; congr 1
    rw [Nat.succ_mul]; omega
/-- what the call owns, as rows -/
theorem Owns.rows {base n c : Nat} {e : TypeId} (h : Owns w base e size A n c (l.flatMap row)) (hn : l.length = n) (hr : ∀ a, (row a).length = size) : RowsAt w w.heap.size size row A l := fun h0 => by
  obtain ⟨g, rfl, hg, hlt⟩ := Owns.form h (by omega)
  refine ⟨g, 0, rfl, hlt, fun i a ha j v hv => ?_⟩
  have hc := World.ownsRow.cells (g := g) h rfl (i * size + j) v (flat_get hr l i a ha j v hv)
  rw [← hc]
  by_cases h1 : i * size + j = 0
  · rw [h1]
    have : (⟨g, 0 + i * size + j, none⟩ : Addr) = ⟨g, 0, none⟩ := by congr 1; omega
    rw [this]; rfl
  · simp only [Addr.add, h1, if_false]
    congr 2; omega
/-- a literal's new block -/
theorem RowsAt.lit0 (w : World) (e : TypeId) (row : α → List Value) (l : List α) (cs : Array Value) (h : cs.toList = l.flatMap row) (hr : ∀ a, (row a).length = size) : RowsAt (w.alloc (.cells cs e)) (w.alloc (.cells cs e)).heap.size size row (some ⟨w.heap.size, 0, none⟩) l := fun _ => by
  refine ⟨w.heap.size, 0, rfl, by simp, fun i a ha j v hv => ?_⟩
  rw [(Blk.new w e cs).cell, Nat.zero_add]
  have := flat_get hr l i a ha j v hv
  rw [← h] at this
  simpa using this
theorem RowsAt.lit2 (w : World) (o1 o2 : Obj) (e : TypeId) (row : α → List Value) (l : List α) (cs : Array Value) (h : cs.toList = l.flatMap row) (hr : ∀ a, (row a).length = size) : RowsAt (((w.alloc o1).alloc o2).alloc (.cells cs e)) (((w.alloc o1).alloc o2).alloc (.cells cs e)).heap.size size row (some ⟨w.heap.size + 1 + 1, 0, none⟩) l := by
  have := RowsAt.lit0 ((w.alloc o1).alloc o2) e row l cs h hr
  simpa using this
end
/-- rows that a call has made: in a block from n on -/
def RowsNew {α : Type} (n : Nat) (w : World) (size : Nat) (row : α → List Value) (A : Option Addr) (l : List α) : Prop :=
  RowsAt w w.heap.size size row A l ∧ (0 < l.length → ∀ b off, A = some ⟨b, off, none⟩ → n ≤ b)
section
variable {α : Type} {row : α → List Value} {w w' : World} {B n size : Nat} {A : Option Addr} {l : List α}
theorem RowsNew.nil : RowsNew n w size row A [] := ⟨RowsAt.nil, fun h => absurd h (by simp)⟩
theorem RowsNew.later (h : RowsNew n w size row A l) (hb : Below w.heap.size w w') : RowsNew n w' size row A l := ⟨h.1.later hb, h.2⟩
theorem RowsNew.push (h : RowsNew n w size row A l) (o : Obj) : RowsNew n (w.alloc o) size row A l := ⟨h.1.push o, h.2⟩
theorem RowsNew.less {m : Nat} (h : RowsNew n w size row A l) (hm : m ≤ n) : RowsNew m w size row A l := ⟨h.1, fun h0 b off e => Nat.le_trans hm (h.2 h0 b off e)⟩
theorem RowsNew.setCell (h : RowsNew n w size row A l) {p : Addr} (hp : p.block < n) (u : Value) : RowsNew n (w.setCell p u) size row A l := by
  refine ⟨fun h0 => ?_, h.2⟩
  obtain ⟨b, off, rfl, hb, hc⟩ := h.1 h0
  have hn := h.2 h0 b off rfl
  refine ⟨b, off, rfl, by simpa [World.setCell] using hb, fun i a ha j v hv => ?_⟩
  rw [World.cell?_setCell_other w p _ u (fun e => by subst e; simp at hp; omega)]
  exact hc i a ha j v hv
theorem Owns.rowsNew {base n c : Nat} {e : TypeId} (h : Owns w base e size A n c (l.flatMap row)) (hn : l.length = n) (hr : ∀ a, (row a).length = size) (hB : B ≤ base := by omega) : RowsNew B w size row A l := by
  refine ⟨Owns.rows h hn hr, fun h0 b off e => ?_⟩
  obtain ⟨g, rfl, hg, hlt⟩ := Owns.form h (by omega)
  injection e with e
  injection e with e1 e2
  omega
end
end Go.Proofs.Ytnaafjdnmbajjaa

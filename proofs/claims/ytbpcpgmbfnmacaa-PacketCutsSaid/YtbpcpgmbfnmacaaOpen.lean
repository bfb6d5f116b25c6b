/- Opening arguments: a struct of scalars and slices by its leaves, a slice of such structs as a list. Over any program. -/
import Derived.Test.YtbpcpgmbfnmacaaFrame
import Derived.Deep.Slices
import Derived.Deep.Strs
import Derived.Lib.SmallJoins
namespace Go.Proofs.Ytbpcpgmbfnmacaa
open Go.ChangeShapes Go.WideShapes Go.ChangeAt Go.RowKit Go.Deep
set_option linter.unusedVariables false

/-- the leaves of fields, in order; each field must begin where the one before ends -/
def flatFs (g : TypeId → Option (List TypeId)) : List Field → Nat → Option (List TypeId)
  | [], _ => some []
  | f :: fs, o => if f.offset = o then (g f.type).bind fun l => (flatFs g fs (o + l.length)).map (l ++ ·) else none
/-- the types of a type's cells, where each is an integer, a bool, a string or a slice -/
def flat (P : Program) : Nat → TypeId → Option (List TypeId)
  | 0, _ => none
  | n + 1, t => match P.underlying t with
    | some (.struct fs) => (flatFs (flat P n) fs.toList 0).bind fun l => if l.length = P.cellsOf t then some l else none
    | some (.int _) => some [t]
    | some .bool => some [t]
    | some .string => some [t]
    | some (.slice _) => some [t]
    | _ => none

/-- the cells from o on are those of the list -/
def AllAt (cs : List Value) : Nat → List Value → Prop
  | _, [] => True
  | o, v :: L => cs[o]? = some v ∧ AllAt cs (o + 1) L
theorem AllAt.get {cs : List Value} : ∀ {L : List Value} {o : Nat}, AllAt cs o L → ∀ (i : Nat) (v : Value), L[i]? = some v → cs[o + i]? = some v
  | [], o, _, i, v, h => by simp at h
  | u :: L, o, h, 0, v, hv => by
    simp at hv
    subst hv
    exact h.1
  | u :: L, o, h, i + 1, v, hv => by
    have := AllAt.get h.2 i v (by simpa using hv)
    rw [← this]; congr 1; omega
theorem AllAt.eq {cs L : List Value} (h : AllAt cs 0 L) (hl : cs.length = L.length) : cs = L := by
  refine List.ext_getElem? fun i => ?_
  by_cases hi : i < L.length
  · rw [List.getElem?_eq_getElem hi]
    have := h.get i _ (List.getElem?_eq_getElem hi)
    simpa using this
  · rw [List.getElem?_eq_none (by omega), List.getElem?_eq_none (by omega)]
section
variable {H : Type} {enc : TypeId × Value → H} {P : Program} {w : World} {base : Nat} {spare : Nat → Bool} {held : Bool}
/-- a cell reads as a value of type t -/
def Leaf (enc : TypeId × Value → H) (P : Program) (w : World) (base : Nat) (spare : Nat → Bool) (held : Bool) (t : TypeId) (v : Value) : Prop := ∃ n y, DataW.trod enc P w base spare held n t [v] = some y

theorem flatFs_ok {g : TypeId → Option (List TypeId)} {cs : List Value} {ok : TypeId → Value → Prop} : ∀ (fs : List Field) (o : Nat) (ls : List TypeId), flatFs g fs o = some ls →
    (∀ f ∈ fs, ∀ l, g f.type = some l → ((cs.drop f.offset).take (P.cellsOf f.type)).length = l.length ∧ ∀ (i : Nat) (lt : TypeId), l[i]? = some lt → ∃ v, ((cs.drop f.offset).take (P.cellsOf f.type))[i]? = some v ∧ ok lt v) →
    ∀ (i : Nat) (lt : TypeId), ls[i]? = some lt → ∃ v, cs[o + i]? = some v ∧ ok lt v
  | [], o, ls, h, _, i, lt, hi => by
    injection h with h
    subst h
    simp at hi
  | f :: fs, o, ls, h, hf, i, lt, hi => by
    unfold flatFs at h
    by_cases ho : f.offset = o
    · rw [if_pos ho] at h
      rw [Option.bind_eq_some_iff] at h
      obtain ⟨l, hl, h⟩ := h
      rw [Option.map_eq_some_iff] at h
      obtain ⟨r, hr, rfl⟩ := h
      obtain ⟨h1, h2⟩ := hf f (List.mem_cons_self ..) l hl
      by_cases hi' : i < l.length
      · rw [List.getElem?_append_left hi'] at hi
        obtain ⟨v, hv, hv2⟩ := h2 i lt hi
        refine ⟨v, ?_, hv2⟩
        rw [List.getElem?_take, List.getElem?_drop, ho] at hv
        split at hv
        · exact hv
        · cases hv
      · rw [List.getElem?_append_right (by omega)] at hi
        obtain ⟨v, hv, hv2⟩ := flatFs_ok fs (o + l.length) r hr (fun f' hf' => hf f' (List.mem_cons_of_mem _ hf')) (i - l.length) lt hi
        exact ⟨v, by rw [← hv]; congr 1; omega, hv2⟩
    · rw [if_neg ho] at h
      cases h

theorem flat_trod : ∀ (n m : Nat) (t : TypeId) (ls : List TypeId) (cs : List Value) (x : DataW H × List MemPlace), flat P n t = some ls → DataW.trod enc P w base spare held m t cs = some x →
    cs.length = ls.length ∧ ∀ (i : Nat) (lt : TypeId), ls[i]? = some lt → ∃ v, cs[i]? = some v ∧ Leaf enc P w base spare held lt v
  | 0, m, t, ls, cs, x, h, _ => by cases h
  | n + 1, m, t, ls, cs, x, h, hx => by
    have one : ∀ v, cs = [v] → ls = [t] → cs.length = ls.length ∧ ∀ (i : Nat) (lt : TypeId), ls[i]? = some lt → ∃ v, cs[i]? = some v ∧ Leaf enc P w base spare held lt v := by
      rintro v rfl rfl
      refine ⟨rfl, fun i lt hi => ?_⟩
      have h0 : i = 0 := by
        have := (List.getElem?_eq_some_iff.1 hi).1
        simpa using this
      subst h0
      injection hi with hi
      subst hi
      exact ⟨v, rfl, m, x, hx⟩
    unfold flat at h
    split at h
    · rename_i fs ht
      rw [Option.bind_eq_some_iff] at h
      obtain ⟨l, hl, h⟩ := h
      by_cases hc : l.length = P.cellsOf t
      · rw [if_pos hc] at h
        injection h with h
        subst h
        obtain ⟨xs, k, _, rfl, hlen, hsz, hf⟩ := DataW.trod_struct ht hx
        refine ⟨by rw [hlen, hc], fun i lt hi => ?_⟩
        have := flatFs_ok (P := P) (cs := cs) (ok := Leaf enc P w base spare held) fs.toList 0 l hl (fun f hfm l' hl' => by
          obtain ⟨j, hj, rfl⟩ := List.mem_iff_getElem.1 hfm
          have hj' : fs[j]? = some (fs.toList[j]) := by simp at hj ⊢
          have hj2 : j < xs.length := by simp at hj; omega
          have h2 := hf j _ hj'
          rw [List.getElem?_eq_getElem hj2] at h2
          exact flat_trod n k _ l' _ _ hl' h2) i lt hi
        simpa using this
      · rw [if_neg hc] at h
        cases h
    · rename_i k ht
      injection h with h
      obtain ⟨z, hz, _⟩ := DataW.trod_int ht hx
      exact one _ hz h.symm
    · rename_i ht
      injection h with h
      obtain ⟨z, hz, _⟩ := DataW.trod_bool ht hx
      exact one _ hz h.symm
    · rename_i ht
      injection h with h
      obtain ⟨z, hz, _⟩ := DataW.trod_string ht hx
      exact one _ hz h.symm
    · rename_i e ht
      injection h with h
      rcases open_slice ht hx with ⟨hz, _⟩ | ⟨a, len, cap, _, _, _, _, hz, _⟩
      · exact one _ hz h.symm
      · exact one _ hz h.symm
    · cases h
theorem Leaf.int {t : TypeId} {v : Value} {k : IntKind} (h : Leaf enc P w base spare held t v) (ht : P.underlying t = some (.int k)) : ∃ z, v = .int k z ∧ (Lit.int k z).wf = true := by
  obtain ⟨n, y, h⟩ := h
  obtain ⟨z, hz, _, hw⟩ := DataW.trod_int ht h
  injection hz with hz
  exact ⟨z, hz, hw⟩
theorem Leaf.bool {t : TypeId} {v : Value} (h : Leaf enc P w base spare held t v) (ht : P.underlying t = some .bool) : ∃ z, v = .bool z := by
  obtain ⟨n, y, h⟩ := h
  obtain ⟨z, hz, _⟩ := DataW.trod_bool ht h
  injection hz with hz
  exact ⟨z, hz⟩
theorem block_add' (a : Addr) (n : Nat) : (a.add n).block = a.block := by unfold Addr.add; split <;> rfl
theorem cells?_nth {a : Addr} {n : Nat} {cs : List Value} (h : w.cells? base a n = some cs) {j : Nat} {v : Value} (hv : cs[j]? = some v) : w.cell? (a.add j) = some v := by
  obtain ⟨_, hl, hc⟩ := World.cells?_some h
  rw [hc j (by have := (List.getElem?_eq_some_iff.1 hv).1; omega), hv]
theorem cells?_len {a : Addr} {n : Nat} {cs : List Value} (h : w.cells? base a n = some cs) : cs.length = n := (World.cells?_some h).2.1
theorem ints_of {t e : TypeId} {k : IntKind} {A : Option Addr} {len cap : Nat} (ht : P.underlying t = some (.slice e)) (he : P.underlying e = some (.int k)) (hc : P.cellsOf e = 1)
    (h : ∃ n y, DataW.trod enc P w base spare held n t [.slice A len cap] = some y) :
    ∃ (A' : Option Addr) (zs : List Int) (cap' : Nat), Value.slice A len cap = .slice A' zs.length cap' ∧ zs.length ≤ cap' ∧ cap' ≤ maxLen ∧ IntsAt w w.heap.size k A' zs ∧ ∀ n ∈ zs, (Lit.int k n).wf = true := by
  obtain ⟨fuel, y, hf⟩ := h
  rcases open_ints ht he hc hf with ⟨hcs, _⟩ | ⟨x, l, c, zs, hcs, _, hl, hm, hz, _, hcell, hwz⟩
  · simp at hcs
    obtain ⟨rfl, rfl, rfl⟩ := hcs
    exact ⟨none, [], 0, rfl, Nat.le_refl _, by unfold maxLen; omega, IntsAt.nil, fun n hn => by cases hn⟩
  · simp at hcs
    obtain ⟨rfl, rfl, rfl⟩ := hcs
    have hlen : (zs.take len).length = len := by
      rw [List.length_take, hz]
      split <;> omega
    refine ⟨some x, zs.take len, cap, by rw [hlen], by rw [hlen]; exact hl, hm, fun h0 => ?_, fun n hn => hwz n (List.mem_of_mem_take hn)⟩
    have hz' : len ≤ zs.length := by rw [hz]; split <;> omega
    have h00 := hcell 0 (by omega)
    have hsp := World.cell?_spot h00
    obtain ⟨b, off, spot⟩ := x
    have hsp' : spot = none := by simpa [Addr.add] using hsp
    subst hsp'
    refine ⟨b, off, rfl, by simpa [Addr.add] using cell_lt h00, fun i hi => ?_⟩
    rw [hlen] at hi
    have h2 : (zs.take len).getD i 0 = zs.getD i 0 := by simp [List.getD_eq_getElem?_getD, hi]
    rw [h2, ← hcell i (by omega)]
    by_cases h0 : i = 0
    · subst h0; rfl
    · simp [Addr.add, h0]
/-- a slice of integers among the cells -/
theorem Leaf.ints {t e : TypeId} {v : Value} {k : IntKind} (h : Leaf enc P w base spare held t v) (ht : P.underlying t = some (.slice e)) (he : P.underlying e = some (.int k)) (hc : P.cellsOf e = 1) :
    ∃ (A : Option Addr) (zs : List Int) (cap : Nat), v = .slice A zs.length cap ∧ zs.length ≤ cap ∧ cap ≤ maxLen ∧ IntsAt w w.heap.size k A zs ∧ ∀ n ∈ zs, (Lit.int k n).wf = true := by
  obtain ⟨n, y, h⟩ := h
  have hv : ∃ A len cap, v = .slice A len cap := by
    rcases open_slice ht h with ⟨hcs, _⟩ | ⟨x, l, c, _, _, _, _, hcs, _⟩
    · injection hcs with hcs; exact ⟨_, _, _, hcs⟩
    · injection hcs with hcs; exact ⟨_, _, _, hcs⟩
  obtain ⟨A, len, cap, rfl⟩ := hv
  exact ints_of ht he hc ⟨n, y, h⟩
/-- Rows of cells, one for each element of l, lie one behind the other from the slice address A on, in a block below B. -/
def RowsAt {α : Type} (w : World) (B size : Nat) (row : α → List Value) (A : Option Addr) (l : List α) : Prop :=
  0 < l.length → ∃ b off, A = some ⟨b, off, none⟩ ∧ b < B ∧ ∀ (i : Nat) (a : α), l[i]? = some a → ∀ (j : Nat) (v : Value), (row a)[j]? = some v → w.cell? ⟨b, off + i * size + j, none⟩ = some v
theorem choose_list {α : Type} {Q : Nat → α → Prop} : ∀ (n : Nat), (∀ i, i < n → ∃ a, Q i a) → ∃ l : List α, l.length = n ∧ ∀ (i : Nat) (a : α), l[i]? = some a → Q i a
  | 0, _ => ⟨[], rfl, fun i a h => by simp at h⟩
  | n + 1, h => by
    obtain ⟨l, hl, hQ⟩ := choose_list n fun i hi => h i (by omega)
    obtain ⟨a, ha⟩ := h n (by omega)
    refine ⟨l ++ [a], by simp [hl], fun i b hb => ?_⟩
    by_cases hi : i < l.length
    · rw [List.getElem?_append_left hi] at hb; exact hQ i b hb
    · have hi2 : i = n := by
        have := (List.getElem?_eq_some_iff.1 hb).1
        simp at this; omega
      subst hi2
      rw [List.getElem?_append_right (by omega), hl] at hb
      simp at hb
      subst hb
      exact ha
/-- A slice of structs among the cells: a list, given what one element's cells are. -/
theorem Leaf.rows {α : Type} {row : α → List Value} {ok : α → Prop} {t e : TypeId} {v : Value} {size : Nat} (h : Leaf enc P w base spare held t v) (ht : P.underlying t = some (.slice e)) (hsz : P.cellsOf e = size) (h0 : 0 < size)
    (hopen : ∀ n cs x, DataW.trod enc P w base spare held n e cs = some x → ∃ a, cs = row a ∧ ok a) :
    ∃ (A : Option Addr) (l : List α) (cap : Nat), v = .slice A l.length cap ∧ l.length ≤ cap ∧ cap ≤ maxLen ∧ RowsAt w w.heap.size size row A l ∧ ∀ a ∈ l, ok a := by
  obtain ⟨n, y, h⟩ := h
  rcases open_slice ht h with ⟨hcs, _⟩ | ⟨x, len, cap, m, k, D, Pl, hcs, hb, hlc, hcm, hm, _, hel⟩
  · injection hcs with hcs
    subst hcs
    exact ⟨none, [], 0, rfl, Nat.le_refl _, by unfold maxLen; omega, fun h => absurd h (by simp), fun a ha => by cases ha⟩
  · injection hcs with hcs
    subst hcs
    have hml : len ≤ m := by rw [hm]; split <;> omega
    obtain ⟨l, hl, hQ⟩ := choose_list (Q := fun i a => w.cells? base (x.add (i * size)) size = some (row a) ∧ ok a) len (fun i hi => by
      obtain ⟨cs', h1, h2⟩ := hel i (by omega)
      obtain ⟨a, rfl, ha⟩ := hopen _ _ _ h2
      rw [hsz] at h1
      exact ⟨a, h1, ha⟩)
    refine ⟨some x, l, cap, by rw [hl], by omega, hcm, fun hpos => ?_, fun a ha => ?_⟩
    · obtain ⟨a0, ha0⟩ : ∃ a0, l[0]? = some a0 := ⟨_, List.getElem?_eq_getElem hpos⟩
      have h00 := (hQ 0 a0 ha0).1
      have hcell : ∀ (i : Nat) (a : α), l[i]? = some a → ∀ (j : Nat) (v : Value), (row a)[j]? = some v → w.cell? ((x.add (i * size)).add j) = some v := fun i a ha j v hv => cells?_nth (hQ i a ha).1 hv
      have hlen0 : (row a0).length = size := cells?_len h00
      obtain ⟨v0, hv0⟩ : ∃ v0, (row a0)[0]? = some v0 := ⟨_, List.getElem?_eq_getElem (by omega)⟩
      have hc0 := hcell 0 a0 ha0 0 v0 hv0
      have hsp := World.cell?_spot hc0
      obtain ⟨b, off, spot⟩ := x
      have hsp' : spot = none := by simpa [Addr.add] using hsp
      subst hsp'
      refine ⟨b, off, rfl, ?_, fun i a ha j v hv => ?_⟩
      · have := cell_lt hc0
        simpa [block_add'] using this
      · have := hcell i a ha j v hv
        rw [← this]
        congr 1
        simp only [Addr.add]
        repeat' split
        all_goals simp_all
        all_goals omega
    · obtain ⟨i, hi, rfl⟩ := List.mem_iff_getElem.1 ha
      exact (hQ i _ (List.getElem?_eq_getElem hi)).2
end
end Go.Proofs.Ytbpcpgmbfnmacaa

/- Layer 26: lists of reports in memory; encoding all. -/
import Derived.Test.YthmcbmjjngolmaaRepEncA
import Derived.Test.YthmcbmjjngolmaaRepDecA
namespace Go.Proofs.Ythmcbmjjngolmaa
open Go.RowKit
set_option linter.unusedVariables false
set_option linter.unusedSimpArgs false
attribute [local go_sem] setCell_drewN alloc_drewN
/-- a report in memory: where its blocks lie -/
structure TR where
  r : Rep.Rpt
  B : Option Addr
  c : Nat
def TR.row (a : TR) : List Value := [.bool a.r.sender, .int .u32 a.r.source, .int .u64 a.r.clock, .int .u32 a.r.time, .int .u32 a.r.packets, .int .u32 a.r.octets, .slice a.B a.r.blocks.length a.c]
/-- a list of reports lies at A, below n -/
def Rpts (w : World) (n : Nat) (A : Option Addr) (l : List TR) : Prop := RowsAt w n 7 TR.row A l ∧ ∀ a ∈ l, RowsAt w n 7 Rep.Bk.cells a.B a.r.blocks
section
variable {w w' : World} {n : Nat} {A : Option Addr} {l : List TR}
theorem Rpts.nil : Rpts w n A [] := ⟨RowsAt.nil, fun _ h => by cases h⟩
theorem Rpts.keep (h : Rpts w n A l) (hk : ∀ p : Addr, p.block < n → w'.cell? p = w.cell? p) : Rpts w' n A l := ⟨h.1.keep hk, fun a ha => (h.2 a ha).keep hk⟩
theorem Rpts.more {m : Nat} (h : Rpts w n A l) (hm : n ≤ m) : Rpts w m A l := ⟨h.1.more hm, fun a ha => (h.2 a ha).more hm⟩
theorem Rpts.later (h : Rpts w w.heap.size A l) (hb : Below w.heap.size w w') : Rpts w' w'.heap.size A l := (h.keep fun _ hp => hb.cell hp).more hb.size
theorem Rpts.push (h : Rpts w w.heap.size A l) (o : Obj) : Rpts (w.alloc o) (w.alloc o).heap.size A l := (h.keep fun p hp => World.cell?_alloc_lt w o p hp).more (by simp)
theorem Rpts.drew (h : Rpts w n A l) : Rpts w.drew n A l := h
end
theorem rowsT {w : World} {n : Nat} {A : Option Addr} {l : List TR} (h : RowsAt w n 7 TR.row A l) {k : Nat} {a : TR} (ha : l[k]? = some a) : ∃ b off, A = some ⟨b, off, none⟩ ∧ b < n ∧
    w.cell? ⟨b, off + k * 7, none⟩ = some (.bool a.r.sender) ∧ w.cell? ⟨b, off + k * 7 + 1, none⟩ = some (.int .u32 a.r.source) ∧ w.cell? ⟨b, off + k * 7 + 2, none⟩ = some (.int .u64 a.r.clock) ∧ w.cell? ⟨b, off + k * 7 + 3, none⟩ = some (.int .u32 a.r.time) ∧ w.cell? ⟨b, off + k * 7 + 4, none⟩ = some (.int .u32 a.r.packets) ∧ w.cell? ⟨b, off + k * 7 + 5, none⟩ = some (.int .u32 a.r.octets) ∧ w.cell? ⟨b, off + k * 7 + 6, none⟩ = some (.slice a.B a.r.blocks.length a.c) := by
  obtain ⟨b, off, rfl, hb, hc⟩ := h (by have := (List.getElem?_eq_some_iff.1 ha).1; omega)
  exact ⟨b, off, rfl, hb, hc k a ha 0 _ rfl, hc k a ha 1 _ rfl, hc k a ha 2 _ rfl, hc k a ha 3 _ rfl, hc k a ha 4 _ rfl, hc k a ha 5 _ rfl, hc k a ha 6 _ rfl⟩
namespace Rep
/-- the bytes of reports, and the error -/
def encAll : List Rpt → List Int × Int
  | [] => ([], 0)
  | r :: l => if (enc r).2 = 0 then (if (encAll l).2 = 0 then ((enc r).1 ++ (encAll l).1, 0) else ([], (encAll l).2)) else ([], (enc r).2)
theorem flat_len (l : List Bk) : (l.flatMap Bk.bytes).length = 24 * l.length := by
  induction l with
  | nil => rfl
  | cons a l ih => simp [List.flatMap_cons, Bk.bytes, be_len, ih]; omega
theorem bytes_len (r : Rpt) : r.bytes.length = (if r.sender then 28 else 8) + 24 * r.blocks.length := by
  unfold Rpt.bytes Rpt.front
  rw [List.length_append, flat_len]
  cases r.sender <;> simp [be_len] <;> omega
theorem enc_len (r : Rpt) : (enc r).1.length ≤ 800 := by
  unfold enc
  split
  · simp
  split
  · simp
  split
  · simp
  · rename_i h _ _
    rw [bytes_len]
    split <;> omega
theorem enc_err (r : Rpt) : 0 ≤ (enc r).2 ∧ (enc r).2 ≤ 255 := by
  unfold enc
  split
  · simp
  split
  · simp
  split <;> simp
/-- what is left when the first ones have gone well -/
theorem encAll_cons_ok (r : Rpt) (l : List Rpt) (h : (enc r).2 = 0) : encAll (r :: l) = if (encAll l).2 = 0 then ((enc r).1 ++ (encAll l).1, 0) else ([], (encAll l).2) := by
  simp [encAll, h]
theorem encAll_cons_bad (r : Rpt) (l : List Rpt) (h : ¬(enc r).2 = 0) : encAll (r :: l) = ([], (enc r).2) := by
  simp [encAll, h]
/-- what is left, put behind what has been written -/
def after (out : List Int) (R : List Int × Int) : List Int × Int := if R.2 = 0 then (out ++ R.1, 0) else ([], R.2)
theorem after_nil (l : List Rpt) : after [] (encAll l) = encAll l := by
  unfold after
  cases l with
  | nil => rfl
  | cons r l =>
    by_cases h : (enc r).2 = 0
    · rw [encAll_cons_ok r l h]
      by_cases h2 : (encAll l).2 = 0 <;> simp [h2]
    · rw [encAll_cons_bad r l h]
      simp [h]
theorem after_step (out : List Int) (r : Rpt) (l : List Rpt) (h : (enc r).2 = 0) : after out (encAll (r :: l)) = after (out ++ (enc r).1) (encAll l) := by
  rw [encAll_cons_ok r l h]
  unfold after
  by_cases h2 : (encAll l).2 = 0 <;> simp [h2]
theorem after_bad (out : List Int) (r : Rpt) (l : List Rpt) (h : ¬(enc r).2 = 0) : after out (encAll (r :: l)) = ([], (enc r).2) := by
  rw [encAll_cons_bad r l h]
  simp [after, h]
end Rep
theorem own_list {w : World} {base c m : Nat} {A : Option Addr} {a x : List Int} {e : TypeId} (h : Owns w base e 1 A m c (u8s a ++ x.map (Value.int .u8))) (hm : m = (a ++ x).length) : Owns w base e 1 A (a ++ x).length c (u8s (a ++ x)) := by
  subst hm
  rw [u8s_app]
  exact h
end Go.Proofs.Ythmcbmjjngolmaa

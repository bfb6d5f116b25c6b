/- Opening an argument that is a slice of structs, or a slice of slices of integers. Over any program. -/
import Derived.Test.YtnaafjdnmbajjaaOpenQ
import Derived.WalkKit
import Derived.Deep.RegionHeldLaw
namespace Go.Proofs.Ytnaafjdnmbajjaa
open Go.ChangeShapes Go.WideShapes Go.ChangeAt Go.RowKit Go.Deep
set_option linter.unusedVariables false
section
variable {H : Type} {enc : TypeId × Value → H} {P : Program} {w : World} {r : Reach} {b0 base : Nat} {spare : Nat → Bool} {held : Bool}
/-- AN ARGUMENT THAT IS A SLICE of elements whose cells are known. -/
theorem open_rows {α : Type} {row : α → List Value} {ok : α → Prop} {t e : TypeId} {v : Value} {size : Nat} {d : DataW H} {p : List MemPlace} (ht : P.underlying t = some (.slice e)) (hsz : P.cellsOf e = size) (h0 : 0 < size)
    (hv : Value.okWide P w r b0 t v) (h : DataW.Trod enc P w base spare held t v d p) (hopen : ∀ n cs x, DataW.trod enc P w base spare held n e cs = some x → ∃ a, cs = row a ∧ ok a) :
    ∃ (A : Option Addr) (l : List α) (cap : Nat), v = .slice A l.length cap ∧ l.length ≤ cap ∧ cap ≤ maxLen ∧ RowsAt w w.heap.size size row A l ∧ ∀ a ∈ l, ok a := by
  obtain ⟨A, len, cap, rfl⟩ := okWide_slice ht hv
  obtain ⟨n, h⟩ := h
  exact Leaf.rows ⟨n, _, h⟩ ht hsz h0 hopen
/-- a slice of integers as an element -/
structure TInts where
  A : Option Addr
  zs : List Int
  cap : Nat
def TInts.row (a : TInts) : List Value := [.slice a.A a.zs.length a.cap]
def TInts.ok (k : IntKind) (w : World) (a : TInts) : Prop := a.zs.length ≤ a.cap ∧ a.cap ≤ maxLen ∧ IntsAt w w.heap.size k a.A a.zs ∧ ∀ z ∈ a.zs, (Lit.int k z).wf = true
theorem TInts.of_trod {t e : TypeId} {k : IntKind} (ht : P.underlying t = some (.slice e)) (he : P.underlying e = some (.int k)) (hc : P.cellsOf e = 1) (n : Nat) (cs : List Value) (x : DataW H × List MemPlace)
    (h : DataW.trod enc P w base spare held n t cs = some x) : ∃ a : TInts, cs = a.row ∧ a.ok k w := by
  have hv : ∃ v, cs = [v] := by
    rcases open_slice ht h with ⟨hcs, _⟩ | ⟨x, l, c, _, _, _, _, hcs, _⟩
    · exact ⟨_, hcs⟩
    · exact ⟨_, hcs⟩
  obtain ⟨v, rfl⟩ := hv
  obtain ⟨A, zs, cap, rfl, h1, h2, h3, h4⟩ := Leaf.ints (enc := enc) (spare := spare) (held := held) (base := base) ⟨n, x, h⟩ ht he hc
  exact ⟨⟨A, zs, cap⟩, rfl, h1, h2, h3, h4⟩
/-- AN ARGUMENT THAT IS A STRING or a slice, one cell -/
theorem open_bools {t e : TypeId} {v : Value} {d : DataW H} {p : List MemPlace} (ht : P.underlying t = some (.slice e)) (he : P.underlying e = some .bool) (hc : P.cellsOf e = 1)
    (hv : Value.okWide P w r b0 t v) (h : DataW.Trod enc P w base spare held t v d p) :
    ∃ (A : Option Addr) (l : List Bool) (cap : Nat), v = .slice A l.length cap ∧ l.length ≤ cap ∧ cap ≤ maxLen ∧ RowsAt w w.heap.size 1 (fun b : Bool => [Value.bool b]) A l := by
  obtain ⟨A, l, cap, h1, h2, h3, h4, _⟩ := open_rows (row := fun b : Bool => [Value.bool b]) (ok := fun _ => True) ht hc (by decide) hv h (fun n cs x h => by
    obtain ⟨b, hb, _⟩ := DataW.trod_bool he h
    exact ⟨b, hb, trivial⟩)
  exact ⟨A, l, cap, h1, h2, h3, h4⟩
end
end Go.Proofs.Ytnaafjdnmbajjaa
/- Layer 30: the jitter buffer in plain words; no program in sight. -/
namespace Go.Proofs.Ytnaafjdnmbajjaa.Jb
open Go.RowKit
set_option linter.unusedVariables false
/-- a packet -/
structure Md where
  sq : Int
  ti : Int
  mrk : Bool
  ty : Int
  pl : List Int
/-- a packet with its play time -/
structure Wt where
  at_ : Int
  m : Md
/-- a state -/
structure Jt where
  least : Int
  most : Int
  now : Int
  on : Bool
  zero : Int
  first : Int
  high : Int
  done : Int
  spread : Int
  trans : Int
  q : List Wt
  late : Int
  twice : Int
  played : Int
def Md.zero : Md := ⟨0, 0, false, 0, []⟩
def Wt.zero : Wt := ⟨0, Md.zero⟩
def Jt.none : Jt := ⟨0, 0, 0, false, 0, 0, 0, 0, 0, 0, [], 0, 0, 0⟩
def Md.ok (m : Md) : Prop := (0 ≤ m.sq ∧ m.sq ≤ 281474976710656) ∧ (-281474976710656 ≤ m.ti ∧ m.ti ≤ 281474976710656) ∧ m.pl.length ≤ 1500
instance (m : Md) : Decidable m.ok := by unfold Md.ok; infer_instance
def cfg (l m : Int) : Prop := 1 ≤ l ∧ l ≤ m ∧ m ≤ 1000
instance (l m : Int) : Decidable (cfg l m) := by unfold cfg; infer_instance
/-- a stands ahead of b in a queue -/
def bef (a b : Wt) : Prop := a.at_ < b.at_ ∨ (a.at_ = b.at_ ∧ a.m.sq < b.m.sq)
instance (a b : Wt) : Decidable (bef a b) := by unfold bef; infer_instance
/-- the k-th packet of the queue is as it has to be -/
def okAt (now high : Int) (q : List Wt) (k : Nat) : Prop :=
  (q.getD k Wt.zero).m.ok ∧ now < (q.getD k Wt.zero).at_ ∧ (q.getD k Wt.zero).at_ ≤ 562949953421312 ∧ (q.getD k Wt.zero).m.sq ≤ high ∧
  (0 < k → bef (q.getD (k - 1) Wt.zero) (q.getD k Wt.zero)) ∧ ∀ i, i < k → (q.getD i Wt.zero).m.sq ≠ (q.getD k Wt.zero).m.sq
instance (now high : Int) (q : List Wt) (k : Nat) : Decidable (okAt now high q k) := by unfold okAt; infer_instance
def okQ (now high : Int) (q : List Wt) : Prop := q.length ≤ 200 ∧ ∀ k, k < q.length → okAt now high q k
instance (now high : Int) (q : List Wt) : Decidable (okQ now high q) := by unfold okQ; infer_instance
def Jt.nums (s : Jt) : Prop := (0 ≤ s.now ∧ s.now ≤ 281474976710656) ∧ (-1125899906842624 ≤ s.zero ∧ s.zero ≤ 1125899906842624) ∧ (-1125899906842624 ≤ s.trans ∧ s.trans ≤ 1125899906842624) ∧
  (-281474976710656 ≤ s.first ∧ s.first ≤ 281474976710656) ∧ (-1 ≤ s.high ∧ s.high ≤ 281474976710656) ∧ (-1 ≤ s.done ∧ s.done ≤ 281474976710656) ∧ (0 ≤ s.spread ∧ s.spread ≤ 72057594037927936)
instance (s : Jt) : Decidable s.nums := by unfold Jt.nums; infer_instance
def Jt.cnts (s : Jt) : Prop := (0 ≤ s.late ∧ s.late ≤ 281474976710656) ∧ (0 ≤ s.twice ∧ s.twice ≤ 281474976710656) ∧ (0 ≤ s.played ∧ s.played ≤ 281474976710656)
instance (s : Jt) : Decidable s.cnts := by unfold Jt.cnts; infer_instance
def Jt.rest (s : Jt) : Prop := s.on = true ∨ (s.q.length = 0 ∧ s.high = -1 ∧ s.done = -1)
instance (s : Jt) : Decidable s.rest := by unfold Jt.rest; infer_instance
def Jt.ok (s : Jt) : Prop := s.nums ∧ cfg s.least s.most ∧ s.cnts ∧ s.rest ∧ okQ s.now s.high s.q
instance (s : Jt) : Decidable s.ok := by unfold Jt.ok; infer_instance
/-- Valid, as a value -/
def valid (s : Jt) : Bool := decide s.ok
def new (l m : Int) : Jt × Int := if cfg l m then (⟨l, m, 0, false, 0, 0, -1, -1, 0, 0, [], 0, 0, 0⟩, 0) else (Jt.none, 3)
def ptime (s : Jt) (t : Int) : Int := s.zero + (t - s.first) / 8
def play (s : Jt) (t : Int) : Int := if s.ok ∧ -281474976710656 ≤ t ∧ t ≤ 281474976710656 then ptime s t else 0
/-- the error of a call -/
def chk (s : Jt) (now : Int) (fm : Bool) : Int := if ¬s.ok ∨ 281474976710656 < now ∨ fm = false then 2 else if now < s.now then 9 else 0
def due (now : Int) (q : List Wt) : List Wt := q.takeWhile fun w => decide (w.at_ ≤ now)
def left (now : Int) (q : List Wt) : List Wt := q.dropWhile fun w => decide (w.at_ ≤ now)
def maxSq (d : Int) (l : List Wt) : Int := l.foldl (fun d w => max d w.m.sq) d
def run0 (s : Jt) (now : Int) : Jt := { s with q := left now s.q, played := s.played + (due now s.q).length, done := maxSq s.done (due now s.q), now := now }
def run (s : Jt) (now : Int) : Jt × List Wt × Int := if chk s now true = 0 then (run0 s now, due now s.q, 0) else (Jt.none, [], chk s now true)
def lastAt (z : Int) (q : List Wt) : Int := if q.length = 0 then z else max z ((q.getD (q.length - 1) Wt.zero).at_ + 1)
/-- the transit time of a packet is noted -/
def meas (s : Jt) (m : Md) : Jt :=
  let t := s.now - m.ti / 8
  let sp := if s.on then s.spread + max (t - s.trans) (s.trans - t) - (s.spread + 8) / 16 else s.spread
  let beg := s.on = false ∨ (m.mrk = true ∧ s.high < m.sq)
  { s with spread := sp, trans := t, on := true, high := max s.high m.sq, first := if beg then m.ti else s.first, zero := if beg then lastAt (s.now + min (s.least + sp / 4) s.most) s.q else s.zero }
def ins (q : List Wt) (w : Wt) : List Wt := q.takeWhile (fun x => decide (bef x w)) ++ w :: q.dropWhile (fun x => decide (bef x w))
/-- Put behind its checks, in a state that has run -/
def put0 (s : Jt) (m : Md) : Jt × Int :=
  if (s.q.any fun w => w.m.sq == m.sq) then ({ s with twice := s.twice + 1 }, 3) else
  if s.on = true ∧ m.sq ≤ s.done then ({ s with late := s.late + 1 }, 2) else
  if 200 ≤ s.q.length then (s, 4) else
  let r := meas s m
  let a := ptime r m.ti
  if a ≤ s.now then ({ r with late := r.late + 1 }, 2) else
  if s.now + 120000 < a then (r, 5) else ({ r with q := ins r.q ⟨a, m⟩ }, 1)
def put (s : Jt) (now : Int) (m : Md) : Jt × List Wt × Int × Int :=
  if chk s now (decide m.ok) = 0 then ((put0 (run0 s now) m).1, due now s.q, (put0 (run0 s now) m).2, 0) else (Jt.none, [], 0, chk s now (decide m.ok))
end Go.Proofs.Ytnaafjdnmbajjaa.Jb
namespace Go.Proofs.Ytnaafjdnmbajjaa.Jb
open Go.RowKit
set_option linter.unusedVariables false
/-- in the order of play times -/
def Asc (q : List Wt) : Prop := ∀ i j, i < j → j < q.length → bef (q.getD i Wt.zero) (q.getD j Wt.zero)
theorem bef_trans {a b c : Wt} (h1 : bef a b) (h2 : bef b c) : bef a c := by unfold bef at *; omega
theorem bef_irr (a : Wt) : ¬bef a a := by unfold bef; omega
theorem bef_at {a b : Wt} (h : bef a b) : a.at_ ≤ b.at_ := by unfold bef at h; omega
theorem okQ.asc {now high : Int} {q : List Wt} (h : okQ now high q) : Asc q := by
  intro i j hij hj
  induction j with
  | zero => omega
  | succ j ih =>
    have h1 := (h.2 (j + 1) hj).2.2.2.2.1 (by omega)
    rw [Nat.add_sub_cancel] at h1
    by_cases h2 : i = j
    · rw [h2]; exact h1
    · exact bef_trans (ih (by omega) (by omega)) h1
theorem Asc.tail {a : Wt} {q : List Wt} (h : Asc (a :: q)) : Asc q := fun i j hij hj => by
  have := h (i + 1) (j + 1) (by omega) (by simp; omega)
  simpa using this
theorem Asc.head {a : Wt} {q : List Wt} (h : Asc (a :: q)) (b : Wt) (hb : b ∈ q) : bef a b := by
  obtain ⟨j, hj, rfl⟩ := List.getElem_of_mem hb
  have := h 0 (j + 1) (by omega) (by simp; omega)
  simpa [List.getD_eq_getElem?_getD, List.getElem?_eq_getElem hj] using this
theorem filter_due (now : Int) : ∀ q : List Wt, Asc q → q.filter (fun w => decide (w.at_ ≤ now)) = due now q ∧ q.filter (fun w => !decide (w.at_ ≤ now)) = left now q
  | [], _ => ⟨rfl, rfl⟩
  | a :: q, h => by
    obtain ⟨h1, h2⟩ := filter_due now q h.tail
    unfold due left at *
    by_cases ha : a.at_ ≤ now
    · simp only [List.filter_cons, List.takeWhile_cons, List.dropWhile_cons, ha, decide_true, if_true, Bool.not_true]
      exact ⟨by rw [h1], by simpa using h2⟩
    · have hall : ∀ b ∈ q, ¬b.at_ ≤ now := fun b hb => by have := bef_at (h.head b hb); omega
      have e1 : q.filter (fun w => decide (w.at_ ≤ now)) = [] := List.filter_eq_nil_iff.2 (fun b hb => by simpa using hall b hb)
      have e2 : q.filter (fun w => !decide (w.at_ ≤ now)) = q := List.filter_eq_self.2 (fun b hb => by simpa using hall b hb)
      simp only [List.filter_cons, List.takeWhile_cons, List.dropWhile_cons, ha, decide_false, Bool.not_false, if_true, e1, e2]
      exact ⟨rfl, rfl⟩
theorem due_left (now : Int) (q : List Wt) : due now q ++ left now q = q := List.takeWhile_append_dropWhile
/-- the greatest play time is the last one's -/
theorem last_max (z : Int) : ∀ (n : Nat) (q : List Wt), q.length = n → Asc q → q.foldl (fun z w => max z (w.at_ + 1)) z = lastAt z q
  | 0, q, h0, _ => by
    obtain rfl := List.eq_nil_of_length_eq_zero h0
    rfl
  | n + 1, q0, h0, h => by
    obtain ⟨q, w, rfl⟩ : ∃ a b, q0 = a ++ [b] := ⟨q0.dropLast, q0.getLast (by intro e; rw [e] at h0; simp at h0), (List.dropLast_concat_getLast _).symm⟩
    unfold lastAt
    rw [List.foldl_append]
    simp only [List.foldl_cons, List.foldl_nil]
    have hq : Asc q := fun i j hij hj => by
      have := h i j hij (by simp; omega)
      simp only [List.getD_eq_getElem?_getD] at this ⊢
      rwa [List.getElem?_append_left (by omega), List.getElem?_append_left (by omega)] at this
    rw [last_max z n q (by simpa using h0) hq, if_neg (by simp)]
    unfold lastAt
    have hl : ((q ++ [w]).getD ((q ++ [w]).length - 1) Wt.zero) = w := by simp [List.getD_eq_getElem?_getD]
    rw [hl]
    by_cases h1 : q.length = 0
    · rw [if_pos h1]
    · rw [if_neg h1]
      have hb := bef_at (h (q.length - 1) q.length (by omega) (by simp))
      have e1 : (q ++ [w]).getD (q.length - 1) Wt.zero = q.getD (q.length - 1) Wt.zero := by
        simp only [List.getD_eq_getElem?_getD]
        rw [List.getElem?_append_left (by omega)]
      have e2 : (q ++ [w]).getD q.length Wt.zero = w := by simp [List.getD_eq_getElem?_getD]
      rw [e1, e2] at hb
      omega
end Go.Proofs.Ytnaafjdnmbajjaa.Jb
/- A variable of several cells that was made ahead of a call and is written behind it, cell by cell. -/
namespace Go.Proofs.Ytnaafjdnmbajjaa
open Go.RowKit
set_option linter.unusedVariables false
theorem and_dep {p q : Prop} (h : p) (f : p → q) : p ∧ q := ⟨h, f h⟩
theorem size_alloc1 (w : World) (a : Obj) : (w.alloc a).heap.size = w.heap.size + 1 := by simp
theorem size_alloc2 (w : World) (a b : Obj) : ((w.alloc a).alloc b).heap.size = w.heap.size + 1 + 1 := by simp
theorem size_alloc3 (w : World) (a b c : Obj) : (((w.alloc a).alloc b).alloc c).heap.size = w.heap.size + 1 + 1 + 1 := by simp
/-- the cells of block g from i on are written -/
def setRow (g : Nat) : World → Nat → List Value → World
  | w, _, [] => w
  | w, i, v :: vs => setRow g (w.setCell ⟨g, i, none⟩ v) (i + 1) vs
theorem setRow_size (g : Nat) : ∀ (vs : List Value) (w : World) (i : Nat), (setRow g w i vs).heap.size = w.heap.size
  | [], _, _ => rfl
  | v :: vs, w, i => by
    unfold setRow
    rw [setRow_size g vs]
    simp [World.setCell]
theorem below_setRow {B g : Nat} {W : World} (hB : B ≤ g) : ∀ (vs : List Value) (w : World) (i : Nat), Below B W w → Below B W (setRow g w i vs)
  | [], _, _, h => h
  | v :: vs, w, i, h => below_setRow hB vs _ (i + 1) (h.setCell hB v)
theorem RowsNew.setRow {α : Type} {row : α → List Value} {g n size : Nat} {A : Option Addr} {l : List α} (hg : g < n) : ∀ (vs : List Value) (w : World) (i : Nat), RowsNew n w size row A l → RowsNew n (setRow g w i vs) size row A l
  | [], _, _, h => h
  | v :: vs, w, i, h => RowsNew.setRow hg vs _ (i + 1) (RowsNew.setCell h hg v)
/-- the cells ahead of i, then the new ones -/
theorem Blk.setRow_ {g : Nat} {t : TypeId} : ∀ (vs : List Value) (w : World) (i : Nat) (cs : Array Value), Blk w g t cs → cs.size = i + vs.length → Blk (setRow g w i vs) g t (cs.toList.take i ++ vs).toArray
  | [], w, i, cs, h, hs => by
    have : (cs.toList.take i ++ []).toArray = cs := by
      simp at hs
      rw [List.append_nil, List.take_of_length_le (by simp; omega)]
    rw [this]; exact h
  | v :: vs, w, i, cs, h, hs => by
    have h2 := Blk.setRow_ vs (w.setCell ⟨g, i, none⟩ v) (i + 1) _ (h.set_ i v) (by simp at hs ⊢; omega)
    have he : ((cs.setIfInBounds i v).toList.take (i + 1) ++ vs) = cs.toList.take i ++ v :: vs := by
      have hi : i < cs.size := by simp at hs; omega
      simp only [Array.toList_setIfInBounds]
      rw [List.take_succ_eq_append_getElem (by simpa using hi)]
      simp [List.take_set_of_le]
    rw [he] at h2
    exact h2
theorem Blk.setRow {g : Nat} {t : TypeId} {w : World} {cs : Array Value} (h : Blk w g t cs) (vs : List Value) (hs : cs.size = vs.length) : Blk (setRow g w 0 vs) g t vs.toArray := by
  have := Blk.setRow_ vs w 0 cs h (by omega)
  simpa using this
theorem Blk.farRow {g g' : Nat} {t : TypeId} {cs : Array Value} (hg : g ≠ g') : ∀ (vs : List Value) (w : World) (i : Nat), Blk w g t cs → Blk (Go.Proofs.Ytnaafjdnmbajjaa.setRow g' w i vs) g t cs
  | [], _, _, h => h
  | v :: vs, w, i, h => Blk.farRow hg vs _ (i + 1) (h.far (by exact hg) v)
theorem Owns.setRow {base size n c : Nat} {e : TypeId} {A : Option Addr} {xs : List Value} (g : Nat) : ∀ (vs : List Value) (w : World) (i : Nat), (∀ b, ownB A = some b → b ≠ g) → Owns w base e size A n c xs → Owns (Go.Proofs.Ytnaafjdnmbajjaa.setRow g w i vs) base e size A n c xs
  | [], _, _, _, h => h
  | v :: vs, w, i, hb, h => Owns.setRow g vs _ (i + 1) hb (h.setCell (fun b he => hb b he) v)
/-- integers that a call has made: in a block from n on -/
def IntsNew (n : Nat) (w : World) (k : IntKind) (A : Option Addr) (zs : List Int) : Prop := IntsAt w w.heap.size k A zs ∧ (0 < zs.length → ∀ b off, A = some ⟨b, off, none⟩ → n ≤ b)
section
variable {w w' : World} {B n : Nat} {k : IntKind} {A : Option Addr} {zs : List Int}
theorem IntsNew.nil : IntsNew n w k A [] := ⟨IntsAt.nil, fun h => absurd h (by simp)⟩
theorem IntsNew.later (h : IntsNew n w k A zs) (hb : Below w.heap.size w w') : IntsNew n w' k A zs := ⟨h.1.later hb, h.2⟩
theorem IntsNew.push (h : IntsNew n w k A zs) (o : Obj) : IntsNew n (w.alloc o) k A zs := ⟨h.1.push o, h.2⟩
theorem IntsNew.less {m : Nat} (h : IntsNew n w k A zs) (hm : m ≤ n) : IntsNew m w k A zs := ⟨h.1, fun h0 b off e => Nat.le_trans hm (h.2 h0 b off e)⟩
theorem IntsNew.setCell (h : IntsNew n w k A zs) {p : Addr} (hp : p.block < n) (u : Value) : IntsNew n (w.setCell p u) k A zs := by
  refine ⟨fun h0 => ?_, h.2⟩
  obtain ⟨b, off, rfl, hb, hc⟩ := h.1 h0
  have hn := h.2 h0 b off rfl
  refine ⟨b, off, rfl, by simpa [World.setCell] using hb, fun i hi => ?_⟩
  rw [World.cell?_setCell_other w p _ u (fun e => by subst e; simp at hp; omega)]
  exact hc i hi
theorem IntsNew.of_own {base e : Nat} {n c : Nat} (h : Owns w base e 1 A n c (zs.map (Value.int k))) (hB : B ≤ base := by omega) : IntsNew B w k A zs := by
  refine ⟨IntsAt.of_own h, fun h0 b off e => ?_⟩
  have hn : zs.length = n := by have := h.1; simpa using this
  obtain ⟨g, rfl, hg, hlt⟩ := Owns.form h (by omega)
  injection e with e
  injection e with e1 e2
  omega
end
theorem IntsNew.setRow {k : IntKind} {g n : Nat} {A : Option Addr} {zs : List Int} (hg : g < n) : ∀ (vs : List Value) (w : World) (i : Nat), IntsNew n w k A zs → IntsNew n (setRow g w i vs) k A zs
  | [], _, _, h => h
  | v :: vs, w, i, h => IntsNew.setRow hg vs _ (i + 1) (IntsNew.setCell h hg v)
end Go.Proofs.Ytnaafjdnmbajjaa
/- 'append(out, x)' of one element inside a region that draws its order; what such a region keeps of older memory. -/
namespace Go.Proofs.Ytnaafjdnmbajjaa
open Go.RowKit
set_option linter.unusedVariables false
theorem cell_keep {B : Nat} {W w' : World} {a : Addr} {v : Value} (hb : Below B W w') (hlt : a.block < B) (h : W.cell? a = some v) : w'.cell? a = some v := (hb.cell hlt).trans h
theorem below_keep_alloc {B : Nat} {W w' : World} (h : Below B W w') (hB : B ≤ W.heap.size) (o : Obj) : Below B W (w'.alloc o) := h.alloc (Nat.le_trans hB h.size) o
theorem own_ne {w : World} {base size n c g : Nat} {e : TypeId} {A : Option Addr} {xs : List Value} (h : Owns w base e size A n c xs) (hg : g < base) : some g ≠ ownB A := fun he => by have := (h.block g he.symm).1; omega
theorem own_ge {w : World} {base size n c B : Nat} {e : TypeId} {A : Option Addr} {xs : List Value} (h : Owns w base e size A n c xs) (hB : B ≤ base) : ∀ g, ownB A = some g → B ≤ g := fun g he => by have := (h.block g he).1; omega
theorem RowsAt.grown {α : Type} {r : α → List Value} {w w' : World} {B size : Nat} {A : Option Addr} {l : List α} {row : Option Nat} (h : RowsAt w B size r A l) (hg : w.grownBy w' row) (hB : B ≤ w.heap.size) (hr : ∀ g, row = some g → B ≤ g) : RowsAt w' B size r A l :=
  h.keep fun p hp => (Below.refl B w).grown hg hB hr |>.cell hp
theorem rows_start {α : Type} {r : α → List Value} {w2 : World} {g n size : Nat} {A : Option Addr} {l : List α} (h : RowsNew n w2 size r A l) (hg : g < n) (vs : List Value) (o : Obj) : RowsAt ((setRow g w2 0 vs).alloc o) w2.heap.size size r A l := by
  have h1 := (RowsNew.setRow hg vs w2 0 h).1
  rw [setRow_size] at h1
  exact h1.keep fun p hp => World.cell?_alloc_lt _ o p (by rw [setRow_size]; exact hp)
theorem RowsAt.drew {α : Type} {r : α → List Value} {w : World} {B size : Nat} {A : Option Addr} {l : List α} (h : RowsAt w B size r A l) : RowsAt w.drew B size r A l := h
/-- one element, whose cells lie in block g0 -/
theorem step_append_one {P : Program} {ops : Array Oper} {o : Oper} {a : Act} {w : World} {K : Act → World → Prop} {Q : Exit → Act → World → Prop} {E : Prop} (d : Tmp) (hgd : o.guard = none) (hd : o.dst = some d) (s x : Operand) (t : TypeId)
    (ho : o.op = .call { callee := .builtin .append, args := #[s, x], argTypes := #[t, t] })
    (base : Nat) (e : TypeId) (size bytes : Nat) (z : Value) (ht : P.underlying t = some (.slice e)) (hinfo : (P.info? e).map (fun i => (i.zero, i.size, i.bytes)) = some (some z, size, bytes))
    (hzs : z.cells.size = size) (hsz : 0 < size) (A : Option Addr) (n c : Nat) (xs : List Value) (hs : a.eval s = .slice A n c) (hown : Owns w base e size A n c xs)
    (g0 : Nat) (cs : List Value) (hl : cs.length = size) (h1 : ∀ u ∈ cs, u.oneCell' = true) (hx : a.eval x = .slice (some ⟨g0, 0, none⟩) 1 1) (hb : Blk w g0 e cs.toArray)
    (h63 : n + 1 ≤ maxLen) (hbytes : (n + 1) * bytes ≤ 140737488355328) (hbase : base ≤ w.heap.size)
    (h : ∀ (A' : Option Addr) (c' : Nat) (w' : World), Owns w' base e size A' (n + 1) c' (xs ++ cs) → w.grownBy w' (ownB A) → K (a.put (some d) (.slice A' (n + 1) c')) w') :
    if Region.wanted o (yielded ops a.tmps) = true then Oper.wp P o a w K Q else E := by
  obtain ⟨i, hi, hz0, hz1, hz2⟩ := info_parts hinfo
  refine step_append_lies w hgd s x t ho base e i z size bytes ht hi hz0 hz1 hz2 hzs hsz _ n xs hs hown ⟨g0, 0, none⟩ 1 1 cs hx (by omega) ?_ h1 (by omega) h63 hbytes hbase _ rfl ?_
  · intro j u hu
    exact World.news_of_block hb j u (by simpa using hu)
  · intro g cap w' hown' hg _ hlt
    rw [ownB_eq] at hg
    rw [hd]
    exact h _ _ w' hown' hg
end Go.Proofs.Ytnaafjdnmbajjaa
/- Layer 30: lists of waiting packets in memory. -/
namespace Go.Proofs.Ytnaafjdnmbajjaa
open Go.RowKit
set_option linter.unusedVariables false
set_option linter.unusedSimpArgs false
/-- a waiting packet in memory: where its payload lies -/
structure TW where
  w : Jb.Wt
  B : Option Addr
  c : Nat
def TW.row (a : TW) : List Value := [.int .i64 a.w.at_, .int .i64 a.w.m.sq, .int .i64 a.w.m.ti, .bool a.w.m.mrk, .int .u8 a.w.m.ty, .slice a.B a.w.m.pl.length a.c]
/-- a list of waiting packets lies at A, below n -/
def Wts (w : World) (n : Nat) (A : Option Addr) (l : List TW) : Prop := RowsAt w n 6 TW.row A l ∧ ∀ a ∈ l, IntsAt w n .u8 a.B a.w.m.pl
section
variable {w w' : World} {n : Nat} {A : Option Addr} {l : List TW}
theorem Wts.nil : Wts w n A [] := ⟨RowsAt.nil, fun _ h => by cases h⟩
theorem Wts.keep (h : Wts w n A l) (hk : ∀ p : Addr, p.block < n → w'.cell? p = w.cell? p) : Wts w' n A l := ⟨h.1.keep hk, fun a ha => (h.2 a ha).keep hk⟩
theorem Wts.more {m : Nat} (h : Wts w n A l) (hm : n ≤ m) : Wts w m A l := ⟨h.1.more hm, fun a ha => (h.2 a ha).more hm⟩
theorem Wts.later (h : Wts w w.heap.size A l) (hb : Below w.heap.size w w') : Wts w' w'.heap.size A l := (h.keep fun _ hp => hb.cell hp).more hb.size
theorem Wts.below {B : Nat} (h : Wts w B A l) (hb : Below B w w') : Wts w' B A l := h.keep fun _ hp => hb.cell hp
theorem Wts.push (h : Wts w w.heap.size A l) (o : Obj) : Wts (w.alloc o) (w.alloc o).heap.size A l := (h.keep fun p hp => World.cell?_alloc_lt w o p hp).more (by simp)
theorem Wts.drew (h : Wts w n A l) : Wts w.drew n A l := h
end
theorem rowsW {w : World} {n : Nat} {A : Option Addr} {l : List TW} (h : RowsAt w n 6 TW.row A l) {k : Nat} {a : TW} (ha : l[k]? = some a) : ∃ b off, A = some ⟨b, off, none⟩ ∧ b < n ∧
    w.cell? ⟨b, off + k * 6, none⟩ = some (.int .i64 a.w.at_) ∧ w.cell? ⟨b, off + k * 6 + 1, none⟩ = some (.int .i64 a.w.m.sq) ∧ w.cell? ⟨b, off + k * 6 + 2, none⟩ = some (.int .i64 a.w.m.ti) ∧ w.cell? ⟨b, off + k * 6 + 3, none⟩ = some (.bool a.w.m.mrk) ∧ w.cell? ⟨b, off + k * 6 + 4, none⟩ = some (.int .u8 a.w.m.ty) ∧ w.cell? ⟨b, off + k * 6 + 5, none⟩ = some (.slice a.B a.w.m.pl.length a.c) := by
  obtain ⟨b, off, rfl, hb, hc⟩ := h (by have := (List.getElem?_eq_some_iff.1 ha).1; omega)
  exact ⟨b, off, rfl, hb, hc k a ha 0 _ rfl, hc k a ha 1 _ rfl, hc k a ha 2 _ rfl, hc k a ha 3 _ rfl, hc k a ha 4 _ rfl, hc k a ha 5 _ rfl⟩
/-- the cells of a state -/
def JROW (s : Jb.Jt) (A : Option Addr) (c : Nat) : List Value := [.int .i64 s.least, .int .i64 s.most, .int .i64 s.now, .bool s.on, .int .i64 s.zero, .int .i64 s.first, .int .i64 s.high, .int .i64 s.done, .int .i64 s.spread, .int .i64 s.trans, .slice A s.q.length c, .int .i64 s.late, .int .i64 s.twice, .int .i64 s.played]
/-- the numbers of a state are int64 -/
def I64 (z : Int) : Prop := -9223372036854775808 ≤ z ∧ z ≤ 9223372036854775807
structure Fits (s : Jb.Jt) : Prop where
  least : I64 s.least
  most : I64 s.most
  now : I64 s.now
  zero : I64 s.zero
  first : I64 s.first
  high : I64 s.high
  done : I64 s.done
  spread : I64 s.spread
  trans : I64 s.trans
  late : I64 s.late
  twice : I64 s.twice
  played : I64 s.played
  q : ∀ w ∈ s.q, I64 w.at_ ∧ I64 w.m.sq ∧ I64 w.m.ti ∧ 0 ≤ w.m.ty ∧ w.m.ty ≤ 255 ∧ Within 0 255 w.m.pl
end Go.Proofs.Ytnaafjdnmbajjaa

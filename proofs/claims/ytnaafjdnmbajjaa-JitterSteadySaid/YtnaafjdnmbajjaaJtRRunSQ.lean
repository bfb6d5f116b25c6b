/- Layer 30: what Run of the reference holds in memory while it works. -/
import Derived.Test.YtnaafjdnmbajjaaJtRValidQ
import Derived.Test.YtnaafjdnmbajjaaJtMeas3Q
import Derived.Test.YtnaafjdnmbajjaaMemQ
import Derived.Deep.RegionHeld3
import Derived.BigQuiet
import Derived.Deep.QuietTactic
import Derived.Test.YtnaafjdnmbajjaaJtRunQ
import Derived.Test.YtnaafjdnmbajjaaJtNewQ
namespace Go.Proofs.Ytnaafjdnmbajjaa
open Go.RowKit
set_option linter.unusedVariables false
set_option linter.unusedSimpArgs false
attribute [local go_sem ↓] run_min_plain run_max_plain
attribute [local go_sem] setCell_drewN alloc_drewN
/-- the state's box, the result's box; two lists that the call has made -/
structure RSt (w W : World) (cs : List Value) (A1 : Option Addr) (n1 c1 : Nat) (l1 : List TW) (A2 : Option Addr) (n2 c2 : Nat) (l2 : List TW) : Prop where
  bs : Blk W w.heap.size 26 cs.toArray
  br : Blk W (w.heap.size + 1) 26 Z14.toArray
  u : Bel w W
  o1 : Owns W (w.heap.size + 1 + 1) 50 6 A1 n1 c1 (l1.flatMap TW.row)
  o2 : Owns W (w.heap.size + 1 + 1) 50 6 A2 n2 c2 (l2.flatMap TW.row)
  len1 : l1.length = n1
  len2 : l2.length = n2
  apart : ∀ g, ownB A1 = some g → ownB A2 ≠ some g
  hB : w.heap.size + 1 + 1 ≤ W.heap.size
section
variable {w W W' : World} {n1 c1 n2 c2 : Nat} {cs : List Value} {A1 A2 : Option Addr} {l1 l2 : List TW}
theorem RSt.later (h : RSt w W cs A1 n1 c1 l1 A2 n2 c2 l2) (hb : Below W.heap.size W W') : RSt w W' cs A1 n1 c1 l1 A2 n2 c2 l2 :=
  ⟨h.bs.later hb, h.br.later hb, h.u.later hb, h.o1.below hb, h.o2.below hb, h.len1, h.len2, h.apart, Nat.le_trans h.hB hb.size⟩
theorem RSt.one (h : RSt w W cs A1 n1 c1 l1 A2 n2 c2 l2) {An : Option Addr} {cn : Nat} {a : TW} (ho : Owns W' (w.heap.size + 1 + 1) 50 6 An (n1 + 1) cn (l1.flatMap TW.row ++ a.row)) (hg : W.grownBy W' (ownB A1)) (hat : ownB An = ownB A1 ∨ ∀ g, ownB An = some g → W.heap.size ≤ g) : RSt w W' cs An (n1 + 1) cn (l1 ++ [a]) A2 n2 c2 l2 := by
  have hge : ∀ g, ownB A1 = some g → w.heap.size + 1 + 1 ≤ g := fun g e => (h.o1.block g e).1
  refine ⟨h.bs.grown hg (fun e => by have := hge _ e.symm; omega), h.br.grown hg (fun e => by have := hge _ e.symm; omega), h.u.grown hg (by have := h.hB; omega) (fun g e => by have := hge g e; omega), by rw [List.flatMap_append]; simpa using ho, h.o2.grown hg (fun g e e1 => h.apart g e1 e), by simp [h.len1], h.len2, fun g e e2 => ?_, Nat.le_trans h.hB hg.size⟩
  rcases hat with e1 | e1
  · exact h.apart g (e1 ▸ e) e2
  · have := e1 g e
    have := (h.o2.block g e2).2
    omega
theorem RSt.swap (h : RSt w W cs A1 n1 c1 l1 A2 n2 c2 l2) : RSt w W cs A2 n2 c2 l2 A1 n1 c1 l1 := ⟨h.bs, h.br, h.u, h.o2, h.o1, h.len2, h.len1, fun g e e2 => h.apart g e2 e, h.hB⟩
theorem RSt.set (h : RSt w W cs A1 n1 c1 l1 A2 n2 c2 l2) (i : Nat) (v : Value) : RSt w (W.setCell ⟨w.heap.size, i, none⟩ v) (cs.set i v) A1 n1 c1 l1 A2 n2 c2 l2 := by
  have hge1 : ∀ g, ownB A1 = some g → g ≠ w.heap.size := fun g e => by have := (h.o1.block g e).1; omega
  have hge2 : ∀ g, ownB A2 = some g → g ≠ w.heap.size := fun g e => by have := (h.o2.block g e).1; omega
  refine ⟨?_, h.br.far (by simp) _, below_set_old h.u (Nat.le_refl _) _, h.o1.setCell hge1 _, h.o2.setCell hge2 _, h.len1, h.len2, h.apart, by simpa [World.setCell] using h.hB⟩
  have := h.bs.set_ i v
  simpa using this
theorem RSt.drew (h : RSt w W cs A1 n1 c1 l1 A2 n2 c2 l2) : RSt w W.drew cs A1 n1 c1 l1 A2 n2 c2 l2 := h.later (Below.refl _ _).drew
theorem RSt.drewN (h : RSt w W cs A1 n1 c1 l1 A2 n2 c2 l2) : ∀ k, RSt w (W.drewN k) cs A1 n1 c1 l1 A2 n2 c2 l2
  | 0 => h
  | k + 1 => (h.drewN k).drew
/-- a list of these, whose payloads are the argument's -/
theorem own_wts {B : Nat} {A : Option Addr} {n c : Nat} {l : List TW} (ho : Owns W B 50 6 A n c (l.flatMap TW.row)) (hl : l.length = n) (hp : ∀ a ∈ l, IntsAt W W.heap.size .u8 a.B a.w.m.pl) : Wts W W.heap.size A l := ⟨Owns.rows ho hl (fun a => rfl), hp⟩
/-- the result is written -/
theorem RSt.fin (h : RSt w W cs A1 n1 c1 l1 A2 n2 c2 l2) (vs : List Value) (hl : vs.length = 14) (hp1 : ∀ a ∈ l1, IntsAt w w.heap.size .u8 a.B a.w.m.pl) (hp2 : ∀ a ∈ l2, IntsAt w w.heap.size .u8 a.B a.w.m.pl) : Blk (setRow (w.heap.size + 1) W 0 vs) (w.heap.size + 1) 26 vs.toArray ∧ Wts (setRow (w.heap.size + 1) W 0 vs) (setRow (w.heap.size + 1) W 0 vs).heap.size A1 l1 ∧ Wts (setRow (w.heap.size + 1) W 0 vs) (setRow (w.heap.size + 1) W 0 vs).heap.size A2 l2 ∧ n2 ≤ c2 ∧ c2 ≤ maxLen ∧ Below w.heap.size w (setRow (w.heap.size + 1) W 0 vs) := by
  have U := Go.Proofs.Ytnaafjdnmbajjaa.below_setRow (g := w.heap.size + 1) (by omega) vs W 0 h.u
  have hz := U.size
  have p : ∀ (l : List TW), (∀ a ∈ l, IntsAt w w.heap.size .u8 a.B a.w.m.pl) → ∀ a ∈ l, IntsAt (setRow (w.heap.size + 1) W 0 vs) (setRow (w.heap.size + 1) W 0 vs).heap.size .u8 a.B a.w.m.pl := fun l hl a ha => ((hl a ha).keep (fun p hp => U.cell hp)).more hz
  have q1 := Owns.setRow (w.heap.size + 1) vs W 0 (fun b e => by have := (h.o1.block b e).1; omega) h.o1
  have q2 := Owns.setRow (w.heap.size + 1) vs W 0 (fun b e => by have := (h.o2.block b e).1; omega) h.o2
  exact ⟨h.br.setRow vs (by simp [Z14, hl]), own_wts q1 h.len1 (p _ hp1), own_wts q2 h.len2 (p _ hp2), h.o2.cap, Owns.capm h.o2, U⟩
end
def dueT (now : Int) (a : TW) : Bool := decide (a.w.at_ ≤ now)
theorem dueT_due {now : Int} {l : List TW} (h : Jb.Asc (l.map TW.w)) : (l.filter (dueT now)).map TW.w = Jb.due now (l.map TW.w) ∧ (l.filter (fun a => !dueT now a)).map TW.w = Jb.left now (l.map TW.w) := by
  obtain ⟨h1, h2⟩ := Jb.filter_due now _ h
  rw [← h1, ← h2, List.filter_map, List.filter_map]
  exact ⟨rfl, rfl⟩
theorem take_one {l : List TW} {k : Nat} {a : TW} (h : l[k]? = some a) (p : TW → Bool) : (p a = true → (l.take (k + 1)).filter p = (l.take k).filter p ++ [a]) ∧ (p a = false → (l.take (k + 1)).filter p = (l.take k).filter p) := by
  rw [List.take_add_one, h, List.filter_append]
  refine ⟨fun e => ?_, fun e => ?_⟩ <;> simp [e]
theorem maxSq_snoc2 (d : Int) (l : List Jb.Wt) (a : Jb.Wt) : Jb.maxSq d (l ++ [a]) = max (Jb.maxSq d l) a.m.sq := by simp [Jb.maxSq]
end Go.Proofs.Ytnaafjdnmbajjaa
/- 'append(out, x...)' where out is the call's own and x is a slice of structs, nil, empty or not; slices 's[k:]' of structs. -/
namespace Go.Proofs.Ytnaafjdnmbajjaa
open Go.RowKit
set_option linter.unusedVariables false
section
variable {P : Program} {w : World} {α : Type}
theorem flat_get2 {row : α → List Value} {size : Nat} (hrow : ∀ a, (row a).length = size) : ∀ (l : List α) (j : Nat) (u : Value), (l.flatMap row)[j]? = some u → ∃ (i k : Nat) (a : α), l[i]? = some a ∧ (row a)[k]? = some u ∧ j = i * size + k
  | [], j, u, h => by simp at h
  | a :: l, j, u, h => by
    rw [List.flatMap_cons] at h
    by_cases hj : j < size
    · rw [List.getElem?_append_left (by rw [hrow]; exact hj)] at h
      exact ⟨0, j, a, rfl, h, by omega⟩
    · rw [List.getElem?_append_right (by rw [hrow]; omega), hrow] at h
      obtain ⟨i, k, b, hi, hk, e⟩ := flat_get2 hrow l _ u h
      exact ⟨i + 1, k, b, by simpa using hi, hk, by rw [Nat.add_mul]; omega⟩
theorem add_add2 (b off j : Nat) : (⟨b, off, none⟩ : Addr).add j = ⟨b, off + j, none⟩ := by
  unfold Addr.add
  split <;> simp_all
theorem rows_cells {row : α → List Value} {size B : Nat} (hrow : ∀ a, (row a).length = size) {ad : Addr} {l : List α} (hr : RowsAt w B size row (some ad) l) : ∀ (j : Nat) (u : Value), (l.flatMap row)[j]? = some u → w.cell? (ad.add j) = some u := by
  intro j u hu
  obtain ⟨i, k, a, hi, hk, rfl⟩ := flat_get2 hrow l j u hu
  obtain ⟨b, off, e, _, hc⟩ := hr (by have := (List.getElem?_eq_some_iff.1 hi).1; omega)
  injection e with e
  subst e
  rw [add_add2, ← Nat.add_assoc]
  exact hc i a hi k u hk
theorem flat_len2 {row : α → List Value} {size : Nat} (hrow : ∀ a, (row a).length = size) : ∀ l : List α, (l.flatMap row).length = l.length * size
  | [] => by simp
  | a :: l => by rw [List.flatMap_cons, List.length_append, hrow, flat_len2 hrow l, List.length_cons, Nat.add_mul]; omega
/-- the run's equation -/
theorem run_append_rows (base : Nat) (t ty e : TypeId) (z : Value) (size bytes : Nat) (ht : P.underlying t = some (.slice e)) (hinfo : (P.info? e).map (fun i => (i.zero, i.size, i.bytes)) = some (some z, size, bytes)) (hzs : z.cells.size = size) (hsz : 0 < size)
    (v : Value) (n : Nat) (xs : List Value) (hown : w.ownsRow base e size v n xs)
    (B : Nat) (row : α → List Value) (hrow : ∀ a, (row a).length = size) (hone : ∀ a, ∀ u ∈ row a, u.oneCell' = true) (A : Option Addr) (c : Nat) (l : List α) (hr : RowsAt w B size row A l) (h63 : n + l.length ≤ maxLen) (hbytes : (n + l.length) * bytes ≤ 140737488355328) (hbase : base ≤ w.heap.size) :
    ∃ A' c' w', (Builtin.append_ #[t, t] ty #[v, .slice A l.length c]).run P w = .ok (.slice A' (n + l.length) c') w' ∧ Owns w' base e size A' (n + l.length) c' (xs ++ l.flatMap row) ∧ w.grownBy w' v.ownBlock ∧
      (ownB A' = v.ownBlock ∨ ownB A' = some w.heap.size) := by
  obtain ⟨i, hi, hz0, hz1, hz2⟩ := info_parts hinfo
  have fin : ∀ v' w', (Builtin.append_ #[t, t] ty #[v, .slice A l.length c]).run P w = .ok v' w' → w'.ownsRow base e size v' (n + l.length) (xs ++ l.flatMap row) → w.grownBy w' v.ownBlock → (v'.ownBlock = v.ownBlock ∨ v'.ownBlock = some w.heap.size) →
      ∃ A' c' w', (Builtin.append_ #[t, t] ty #[v, .slice A l.length c]).run P w = .ok (.slice A' (n + l.length) c') w' ∧ Owns w' base e size A' (n + l.length) c' (xs ++ l.flatMap row) ∧ w.grownBy w' v.ownBlock ∧ (ownB A' = v.ownBlock ∨ ownB A' = some w.heap.size) := by
    intro v' w' h1 h2 h3 h4
    obtain ⟨A', c', rfl⟩ := own_form h2
    rw [ownB_eq] at h4
    exact ⟨A', c', w', h1, h2, h3, h4⟩
  rcases A with _ | ad
  · have hz : l = [] := by
      rcases Nat.eq_zero_or_pos l.length with h0 | h0
      · exact List.eq_nil_of_length_eq_zero h0
      · obtain ⟨b, off, h, _⟩ := hr h0
        cases h
    subst hz
    exact fin v w (append_nothing base t ty e i size ht hi v n xs hown none c rfl) (by simpa using hown) (World.grownBy.refl w _) (.inl rfl)
  · obtain ⟨v', w', hrun, h2, h3, _, h5⟩ := run_append_own_at (P := P) w base t ty e i z size bytes ht hi hz0 hz1 hz2 hzs hsz v n xs hown ad l.length c (l.flatMap row) (flat_len2 hrow l) (rows_cells hrow hr) (by
      intro u hu
      obtain ⟨x, _, hx⟩ := List.mem_flatMap.1 hu
      exact hone x u hx) h63 hbytes hbase
    exact fin v' w' hrun h2 h3 h5
/-- 'out = append(out, x...)' -/
theorem wpList_append_rows {ops : Array Oper} {rest : List Oper} {o : Oper} {a : Act} {Q : Exit → Act → World → Prop} (hgd : o.guard = none) (s x : Operand) (t : TypeId)
    (ho : o.op = .call { callee := .builtin .append, args := #[s, x], argTypes := #[t, t] })
    (base : Nat) (e : TypeId) (size bytes : Nat) (z : Value) (ht : P.underlying t = some (.slice e)) (hinfo : (P.info? e).map (fun i => (i.zero, i.size, i.bytes)) = some (some z, size, bytes)) (hzs : z.cells.size = size) (hsz : 0 < size)
    (A0 : Option Addr) (n c0 : Nat) (xs : List Value) (hs : a.eval s = .slice A0 n c0) (hown : Owns w base e size A0 n c0 xs)
    (B : Nat) (row : α → List Value) (hrow : ∀ a, (row a).length = size) (hone : ∀ a, ∀ u ∈ row a, u.oneCell' = true) (A : Option Addr) (k c : Nat) (l : List α) (hx : a.eval x = .slice A k c) (hr : RowsAt w B size row A l) (hk : l.length = k) (h63 : n + l.length ≤ maxLen) (hbytes : (n + l.length) * bytes ≤ 140737488355328) (hbase : base ≤ w.heap.size) (m : Nat) (hm : n + l.length = m)
    (h : ∀ (A' : Option Addr) (c' : Nat) (w' : World), Owns w' base e size A' m c' (xs ++ l.flatMap row) → w.grownBy w' (ownB A0) → (ownB A' = ownB A0 ∨ ownB A' = some w.heap.size) → wpList P ops Q rest (a.put o.dst (.slice A' m c')) w') :
    wpList P ops Q (o :: rest) a w := by
  subst hm hk
  obtain ⟨A', c', w', hrun, h2, h3, h4⟩ := run_append_rows (P := P) base t o.type e z size bytes ht hinfo hzs hsz (.slice A0 n c0) n xs hown B row hrow hone A c l hr h63 hbytes hbase
  rw [ownB_eq] at h3 h4
  refine wpList_plain hgd fun K hK => ?_
  unfold Oper.wp execOp
  simp only [ho, resolve, invoke, builtin, Sem.run_bind, Sem.run_pure, Result.andThen_ok, List.map_toArray, List.map_cons, List.map_nil, hs, hx, hrun]
  exact hK _ _ (h A' c' w' h2 h3 h4)
/-- 's[n:]' of a slice of structs -/
theorem RowsAt.drop {row : α → List Value} {size B : Nat} {b off : Nat} {l : List α} (h : RowsAt w B size row (some ⟨b, off, none⟩) l) (n : Nat) : RowsAt w B size row (some ⟨b, off + n * size, none⟩) (l.drop n) := fun h0 => by
  obtain ⟨b', off', e, hb, hc⟩ := h (by simp at h0; omega)
  injection e with e
  injection e with e1 e2
  subst e1 e2
  refine ⟨b, off + n * size, rfl, hb, fun i a hi j v hv => ?_⟩
  rw [List.getElem?_drop] at hi
  have := hc (n + i) a hi j v hv
  rwa [Nat.add_mul, ← Nat.add_assoc] at this
theorem RowsAt.nil' {row : α → List Value} {size B : Nat} {A : Option Addr} {l : List α} (h : l.length = 0) : RowsAt w B size row A l := fun h0 => by omega
end
end Go.Proofs.Ytnaafjdnmbajjaa
/- Layer 30: what inserted of the reference holds in memory while it works. -/
namespace Go.Proofs.Ytnaafjdnmbajjaa
open Go.RowKit
set_option linter.unusedVariables false
set_option linter.unusedSimpArgs false
attribute [local go_sem ↓] run_min_plain run_max_plain
attribute [local go_sem] setCell_drewN alloc_drewN
def befB (x a : TW) : Bool := decide (Jb.bef a.w x.w)
def insT (l : List TW) (x : TW) : List TW := l.takeWhile (befB x) ++ x :: l.dropWhile (befB x)
theorem insT_map (l : List TW) (x : TW) : (insT l x).map TW.w = Jb.ins (l.map TW.w) x.w := by
  unfold insT Jb.ins
  rw [List.takeWhile_map, List.dropWhile_map, List.map_append, List.map_cons]
  rfl
theorem while_len (p : TW → Bool) : ∀ l : List TW, l.takeWhile p = l.take (l.takeWhile p).length ∧ l.dropWhile p = l.drop (l.takeWhile p).length ∧ (l.takeWhile p).length ≤ l.length ∧ (∀ k a, k < (l.takeWhile p).length → l[k]? = some a → p a = true) ∧ (∀ a, l[(l.takeWhile p).length]? = some a → p a = false)
  | [] => by simp
  | b :: l => by
    obtain ⟨h1, h2, h3, h4, h5⟩ := while_len p l
    by_cases hb : p b = true
    · simp only [List.takeWhile_cons, List.dropWhile_cons, hb, if_true, List.length_cons, List.take_succ_cons, List.drop_succ_cons]
      refine ⟨by rw [← h1], h2, by omega, fun k a hk ha => ?_, fun a ha => h5 a (by simpa using ha)⟩
      rcases k with _ | k
      · simp at ha; rw [← ha]; exact hb
      · exact h4 k a (by omega) (by simpa using ha)
    · have hb' : p b = false := by simpa using hb
      simp only [List.takeWhile_cons, List.dropWhile_cons, hb', if_false, List.length_nil, List.take_zero, List.drop_zero]
      refine ⟨by simp, by simp, by simp, fun k a hk => by simp at hk, fun a ha => ?_⟩
      simp at ha
      rw [← ha]; exact hb'
theorem row_sixW (a : TW) : (TW.row a).length = 6 := rfl
theorem row_oneW (a : TW) : ∀ u ∈ TW.row a, u.oneCell' = true := by
  intro u hu
  simp [TW.row] at hu
  rcases hu with rfl | rfl | rfl | rfl | rfl | rfl <;> rfl
/-- the box of the new packet; the list that the call makes -/
structure ISt (w W : World) (xr : List Value) (A : Option Addr) (n c : Nat) (l : List TW) : Prop where
  bx : Blk W w.heap.size 50 xr.toArray
  u : Bel w W
  own : Owns W (w.heap.size + 1) 50 6 A n c (l.flatMap TW.row)
  hB : w.heap.size + 1 ≤ W.heap.size
theorem ISt.later {w W W' : World} {xr : List Value} {A : Option Addr} {n c : Nat} {l : List TW} (h : ISt w W xr A n c l) (hb : Below W.heap.size W W') : ISt w W' xr A n c l := ⟨h.bx.later hb, h.u.later hb, h.own.below hb, Nat.le_trans h.hB hb.size⟩
theorem ISt.one {w W W' : World} {xr : List Value} {A An : Option Addr} {n m c cn : Nat} {l l2 : List TW} (h : ISt w W xr A n c l) (ho : Owns W' (w.heap.size + 1) 50 6 An m cn (l.flatMap TW.row ++ l2.flatMap TW.row)) (hg : W.grownBy W' (ownB A)) : ISt w W' xr An m cn (l ++ l2) := by
  have hge : ∀ g, ownB A = some g → w.heap.size + 1 ≤ g := fun g e => (h.own.block g e).1
  exact ⟨h.bx.grown hg (fun e => by have := hge _ e.symm; omega), h.u.grown hg (by have := h.hB; omega) (fun g e => by have := hge g e; omega), by rw [List.flatMap_append]; exact ho, Nat.le_trans h.hB hg.size⟩
theorem ISt.drewN {w W : World} {xr : List Value} {A : Option Addr} {n c : Nat} {l : List TW} (h : ISt w W xr A n c l) : ∀ k, ISt w (W.drewN k) xr A n c l
  | 0 => h
  | k + 1 => (h.drewN k).later (Below.refl _ _).drew
theorem insT_len (l : List TW) (x : TW) : (insT l x).length = l.length + 1 := by
  have h := congrArg List.length (List.takeWhile_append_dropWhile (p := befB x) (l := l))
  unfold insT
  simp only [List.length_append, List.length_cons] at h ⊢
  omega
theorem insT_mem {l : List TW} {x a : TW} (h : a ∈ insT l x) : a = x ∨ a ∈ l := by
  unfold insT at h
  rcases List.mem_append.1 h with h | h
  · exact .inr ((List.takeWhile_sublist _).subset h)
  · rcases List.mem_cons.1 h with h | h
    · exact .inl h
    · exact .inr ((List.dropWhile_sublist _).subset h)
/-- what inserted leaves -/
def RInsR (l : List TW) (x : TW) (w : World) (e : Ending) (w' : World) : Prop :=
  ∃ (A' : Option Addr) (c' : Nat), e = .returned (.slice A' (l.length + 1) c') ∧ Owns w' (w.heap.size + 1) 50 6 A' (l.length + 1) c' ((insT l x).flatMap TW.row) ∧ Below w.heap.size w w'
end Go.Proofs.Ytnaafjdnmbajjaa
/- Layer 30: inserted of the reference. -/
namespace Go.Proofs.Ytnaafjdnmbajjaa
open Go.RowKit
set_option linter.unusedVariables false
set_option linter.unusedSimpArgs false
attribute [local go_sem ↓] run_min_plain run_max_plain
attribute [local go_sem] setCell_drewN alloc_drewN
set_option maxRecDepth 100000 in
set_option maxHeartbeats 12800000 in
theorem rins_some (bA oA : Nat) (l : List TW) (n c : Nat) (xa xs xt : Int) (xm : Bool) (xy : Int) (XB : Option Addr) (xp : List Int) (xc : Nat) (w : World) (hn : l.length = n) (hl : n ≤ 1000) (hcap : n ≤ c) (hcm : c ≤ maxLen) (hA : RowsAt w w.heap.size 6 TW.row (some ⟨bA, oA, none⟩) l) (hcp : ¬c = (l.takeWhile (befB ⟨⟨xa, ⟨xs, xt, xm, xy, xp⟩⟩, XB, xc⟩)).length) : Calls Try.prog 40 #[.slice (some ⟨bA, oA, none⟩) n c, .agg #[.int .i64 xa, .int .i64 xs, .int .i64 xt, .bool xm, .int .u8 xy, .slice XB xp.length xc]] w (RInsR l ⟨⟨xa, ⟨xs, xt, xm, xy, xp⟩⟩, XB, xc⟩ w) := by
  subst hn
  obtain ⟨w1, w2, w3, w4, w5⟩ := while_len (befB ⟨⟨xa, ⟨xs, xt, xm, xy, xp⟩⟩, XB, xc⟩) l
  generalize hp : (l.takeWhile (befB ⟨⟨xa, ⟨xs, xt, xm, xy, xp⟩⟩, XB, xc⟩)).length = p at w1 w2 w3 w4 w5 hcp
  have HA := Lib.hid hA
  have H4 := Lib.hid w4
  have H5 := Lib.hid w5
  have hins : insT l ⟨⟨xa, ⟨xs, xt, xm, xy, xp⟩⟩, XB, xc⟩ = l.take p ++ (⟨⟨xa, ⟨xs, xt, xm, xy, xp⟩⟩, XB, xc⟩ :: l.drop p) := by unfold insT; rw [← w1, ← w2]
  have HI := Lib.hid hins
  clear hA w1 w2 w4 w5 hp hins
  unfold maxLen at hcm
  have IS0 : Hid (ISt w (w.alloc (.cells #[.int .i64 xa, .int .i64 xs, .int .i64 xt, .bool xm, .int .u8 xy, .slice XB xp.length xc] 50)) [.int .i64 xa, .int .i64 xs, .int .i64 xt, .bool xm, .int .u8 xy, .slice XB xp.length xc] none 0 0 []) := Lib.hid ⟨Blk.new w _ _, (Bel.refl w).push _, Owns.nil, by simp⟩
  go_enter Try.func40, Try.ntmps40
  go_wp2_with fail
  go_loopg [5, 6] p (fun gk s5 i wr => ∃ (k : Nat) (A1 : Option Addr) (c1 : Nat), gk + k = p ∧ s5 = .slice A1 k c1 ∧ i = .int .i64 k ∧ Hid (ISt w wr [.int .i64 xa, .int .i64 xs, .int .i64 xt, .bool xm, .int .u8 xy, .slice XB xp.length xc] A1 k c1 (l.take k)))
  case atStart => exact ⟨0, none, 0, rfl, rfl, rfl, IS0⟩
  case round =>
    obtain ⟨k, A1, c1, hgk, rfl, rfl, IS⟩ := hrel
    have hi0 : (0 : Int) ≤ (k : Int) := by omega
    have hwl := IS.out.bx.lt
    have x0 := IS.out.bx.at 0 _ rfl
    have x1 := IS.out.bx.at 1 _ rfl
    have x2 := IS.out.bx.at 2 _ rfl
    have x3 := IS.out.bx.at 3 _ rfl
    have x4 := IS.out.bx.at 4 _ rfl
    have x5 := IS.out.bx.at 5 _ rfl
    by_cases hk : k < l.length
    · have hi1 : (k : Int) < (l.length : Int) := by omega
      have hd1 : decide ((k : Int) < (l.length : Int)) = true := by rw [decide_eq_true_iff]; exact hi1
      have hd2 : decide (k < l.length) = true := by rw [decide_eq_true_iff]; exact hk
      have HD1 := Lib.hid hd1
      have HD2 := Lib.hid hd2
      have hU : Below wr.heap.size wr wr := Below.refl _ _
      clear hd1 hd2
      obtain ⟨a, ha⟩ : ∃ a, l[k]? = some a := ⟨_, List.getElem?_eq_getElem hk⟩
      obtain ⟨b, off, hbo, hbB, e0, e1, e2, e3, e4, e5⟩ := rowsW (HA.out.keep (fun p hp => IS.out.u.cell hp)) ha
      injection hbo with hbo
      injection hbo with hbo1 hbo2
      subst hbo1 hbo2
      have HTK : Hid (l.take (k + 1) = l.take k ++ [a]) := Lib.hid (by rw [List.take_add_one, ha]; rfl)
      have HBF : Hid (k < p → befB ⟨⟨xa, ⟨xs, xt, xm, xy, xp⟩⟩, XB, xc⟩ a = true) := Lib.hid (fun h => H4.out k a h ha)
      have HBG : Hid (k = p → befB ⟨⟨xa, ⟨xs, xt, xm, xy, xp⟩⟩, XB, xc⟩ a = false) := Lib.hid (fun h => H5.out a (by rw [← h]; exact ha))
      obtain ⟨⟨at0, ⟨sq0, ti0, mk0, ty0, pl0⟩⟩, B0, c0⟩ := a
      simp only at e0 e1 e2 e3 e4 e5
      have hbwr : bA < wr.heap.size := by have := IS.out.u.size; omega
      clear ha
      by_cases hkp : k < p
      · have k2 := Lib.hid fun W => before_any at0 sq0 ti0 ty0 xa xs xt xy mk0 xm B0 XB pl0.length c0 xp.length xc W true (by have h9 := HBF.out hkp; unfold befB Jb.bef at h9; exact h9.symm)
        go_wp2_with fail
        refine wp_region_held_drew (S := fun w' => Below wr.heap.size wr w' ∧ w'.cell? ⟨w.heap.size, 0, none⟩ = some (.int .i64 xa) ∧ w'.cell? ⟨w.heap.size, 1, none⟩ = some (.int .i64 xs) ∧ w'.cell? ⟨w.heap.size, 2, none⟩ = some (.int .i64 xt) ∧ w'.cell? ⟨w.heap.size, 3, none⟩ = some (.bool xm) ∧ w'.cell? ⟨w.heap.size, 4, none⟩ = some (.int .u8 xy) ∧ w'.cell? ⟨w.heap.size, 5, none⟩ = some (.slice XB xp.length xc) ∧ w'.cell? ⟨bA, oA + k * 6, none⟩ = some (.int .i64 at0) ∧ w'.cell? ⟨bA, oA + k * 6 + 1, none⟩ = some (.int .i64 sq0) ∧ w'.cell? ⟨bA, oA + k * 6 + 2, none⟩ = some (.int .i64 ti0) ∧ w'.cell? ⟨bA, oA + k * 6 + 3, none⟩ = some (.bool mk0) ∧ w'.cell? ⟨bA, oA + k * 6 + 4, none⟩ = some (.int .u8 ty0) ∧ w'.cell? ⟨bA, oA + k * 6 + 5, none⟩ = some (.slice B0 pl0.length c0)) (by kernel_rfl) ?_ (fun hHeld => ?_)
        · (first | assumption | ((try go_split_ands); refine and_dep ?_ (fun hbX => ⟨cell_old hbX x0, cell_old hbX x1, cell_old hbX x2, cell_old hbX x3, cell_old hbX x4, cell_old hbX x5, cell_old hbX e0, cell_old hbX e1, cell_old hbX e2, cell_old hbX e3, cell_old hbX e4, cell_old hbX e5⟩); (with_reducible repeat first | assumption | exact below_old' (by assumption) (by assumption) | refine Below.drew ?_ | refine below_new_old ?_ _)))
        first
          | (refine tk1 (i := 0) (v := ?_) rfl (Or.inl ⟨by rfl, ?_⟩) (by assumption) ?_
             rotate_left
             · (intro w hSw; (try dsimp only at hSw); go_simp; try with_reducible rfl))
          | refine tk1 (i := 0) (v := undef) rfl (Or.inr ⟨by rfl, rfl⟩) (by assumption) ?_
        try simp only [List.getElem_toArray, List.getElem_cons_zero, List.getElem_cons_succ, Act.put, List.setIfInBounds_toArray, List.set_cons_zero, List.set_cons_succ, HD1.out, HD2.out]
        first
          | (refine tk1 (i := 1) (v := ?_) rfl (Or.inl ⟨by rfl, ?_⟩) (by assumption) ?_
             rotate_left
             · (intro w hSw; (try dsimp only at hSw); go_simp; try with_reducible rfl))
          | refine tk1 (i := 1) (v := undef) rfl (Or.inr ⟨by rfl, rfl⟩) (by assumption) ?_
        try simp only [List.getElem_toArray, List.getElem_cons_zero, List.getElem_cons_succ, Act.put, List.setIfInBounds_toArray, List.set_cons_zero, List.set_cons_succ, HD1.out, HD2.out]
        first
          | (refine tk1 (i := 2) (v := ?_) rfl (Or.inl ⟨by rfl, ?_⟩) (by assumption) ?_
             rotate_left
             · (intro w hSw; (try dsimp only at hSw); go_simp; try with_reducible rfl))
          | refine tk1 (i := 2) (v := undef) rfl (Or.inr ⟨by rfl, rfl⟩) (by assumption) ?_
        try simp only [List.getElem_toArray, List.getElem_cons_zero, List.getElem_cons_succ, Act.put, List.setIfInBounds_toArray, List.set_cons_zero, List.set_cons_succ, HD1.out, HD2.out]
        first
          | (refine tk1 (i := 3) (v := ?_) rfl (Or.inl ⟨by rfl, ?_⟩) (by assumption) ?_
             rotate_left
             · (intro w hSw; (try dsimp only at hSw); go_simp; try with_reducible rfl))
          | refine tk1 (i := 3) (v := undef) rfl (Or.inr ⟨by rfl, rfl⟩) (by assumption) ?_
        try simp only [List.getElem_toArray, List.getElem_cons_zero, List.getElem_cons_succ, Act.put, List.setIfInBounds_toArray, List.set_cons_zero, List.set_cons_succ, HD1.out, HD2.out]
        first
          | (refine tk1 (i := 4) (v := ?_) rfl (Or.inl ⟨by rfl, ?_⟩) (by assumption) ?_
             rotate_left
             · (intro w hSw; (try dsimp only at hSw); go_simp; try with_reducible rfl))
          | refine tk1 (i := 4) (v := undef) rfl (Or.inr ⟨by rfl, rfl⟩) (by assumption) ?_
        try simp only [List.getElem_toArray, List.getElem_cons_zero, List.getElem_cons_succ, Act.put, List.setIfInBounds_toArray, List.set_cons_zero, List.set_cons_succ, HD1.out, HD2.out]
        first
          | (refine tk1 (i := 5) (v := ?_) rfl (Or.inl ⟨by rfl, ?_⟩) (by assumption) ?_
             rotate_left
             · (intro w hSw; (try dsimp only at hSw); go_simp; try with_reducible rfl))
          | refine tk1 (i := 5) (v := undef) rfl (Or.inr ⟨by rfl, rfl⟩) (by assumption) ?_
        try simp only [List.getElem_toArray, List.getElem_cons_zero, List.getElem_cons_succ, Act.put, List.setIfInBounds_toArray, List.set_cons_zero, List.set_cons_succ, HD1.out, HD2.out]
        first
          | (refine tk1 (i := 6) (v := ?_) rfl (Or.inl ⟨by rfl, ?_⟩) (by assumption) ?_
             rotate_left
             · (intro w hSw; (try dsimp only at hSw); go_simp; try with_reducible rfl))
          | refine tk1 (i := 6) (v := undef) rfl (Or.inr ⟨by rfl, rfl⟩) (by assumption) ?_
        try simp only [List.getElem_toArray, List.getElem_cons_zero, List.getElem_cons_succ, Act.put, List.setIfInBounds_toArray, List.set_cons_zero, List.set_cons_succ, HD1.out, HD2.out]
        first
          | (refine tk1 (i := 7) (v := ?_) rfl (Or.inl ⟨by rfl, ?_⟩) (by assumption) ?_
             rotate_left
             · (intro w hSw; (try dsimp only at hSw); go_simp; try with_reducible rfl))
          | refine tk1 (i := 7) (v := undef) rfl (Or.inr ⟨by rfl, rfl⟩) (by assumption) ?_
        try simp only [List.getElem_toArray, List.getElem_cons_zero, List.getElem_cons_succ, Act.put, List.setIfInBounds_toArray, List.set_cons_zero, List.set_cons_succ, HD1.out, HD2.out]
        first
          | (refine tk1 (i := 8) (v := ?_) rfl (Or.inl ⟨by rfl, ?_⟩) (by assumption) ?_
             rotate_left
             · (intro w hSw; (try dsimp only at hSw); go_simp; try with_reducible rfl))
          | refine tk1 (i := 8) (v := undef) rfl (Or.inr ⟨by rfl, rfl⟩) (by assumption) ?_
        try simp only [List.getElem_toArray, List.getElem_cons_zero, List.getElem_cons_succ, Act.put, List.setIfInBounds_toArray, List.set_cons_zero, List.set_cons_succ, HD1.out, HD2.out]
        first
          | (refine tk1 (i := 9) (v := ?_) rfl (Or.inl ⟨by rfl, ?_⟩) (by assumption) ?_
             rotate_left
             · (intro w hSw; (try dsimp only at hSw); go_simp; try with_reducible rfl))
          | refine tk1 (i := 9) (v := undef) rfl (Or.inr ⟨by rfl, rfl⟩) (by assumption) ?_
        try simp only [List.getElem_toArray, List.getElem_cons_zero, List.getElem_cons_succ, Act.put, List.setIfInBounds_toArray, List.set_cons_zero, List.set_cons_succ, HD1.out, HD2.out]
        refine wpAnyH_ready (rs := [10]) (by kernel_rfl) (by simp) ?_
        refine AllReadyH.cons (o := _) rfl (fun K hK => ?_) ?_
        rotate_left
        · exact AllReadyH.nil
        go_simp
        (go_at_call 55; refine (k2.out _).mono ?_; rintro e w' ⟨rfl, hbel⟩; have hbw : Below wr.heap.size wr w' := below_old' hbel (by (try go_split_ands); assumption); obtain ⟨hcc, hff⟩ := bcell hbel)
        refine hK.out _ _ ?_ (fun hHeld => ?_)
        · (try dsimp only)
          (first | assumption | ((try go_split_ands); refine and_dep ?_ (fun hbX => ⟨cell_old hbX x0, cell_old hbX x1, cell_old hbX x2, cell_old hbX x3, cell_old hbX x4, cell_old hbX x5, cell_old hbX e0, cell_old hbX e1, cell_old hbX e2, cell_old hbX e3, cell_old hbX e4, cell_old hbX e5⟩); (with_reducible repeat first | assumption | exact below_old' (by assumption) (by assumption) | refine Below.drew ?_ | refine below_new_old ?_ _)))
        clear hK K
        try simp only [List.getElem_toArray, List.getElem_cons_zero, List.getElem_cons_succ, Act.put, List.setIfInBounds_toArray, List.set_cons_zero, List.set_cons_succ, HD1.out, HD2.out]
        first
          | (refine tk1 (i := 11) (v := ?_) rfl (Or.inl ⟨by rfl, ?_⟩) (by assumption) ?_
             rotate_left
             · (intro w hSw; (try dsimp only at hSw); go_simp; try with_reducible rfl))
          | refine tk1 (i := 11) (v := undef) rfl (Or.inr ⟨by rfl, rfl⟩) (by assumption) ?_
        try simp only [List.getElem_toArray, List.getElem_cons_zero, List.getElem_cons_succ, Act.put, List.setIfInBounds_toArray, List.set_cons_zero, List.set_cons_succ, HD1.out, HD2.out]
        refine wpAnyH_done (by kernel_rfl) ?_ _
        all_goals
          have IS2 := Lib.hid (IS.out.later hbw)
          have f0 := cell_old hbw e0
          have f1 := cell_old hbw e1
          have f2 := cell_old hbw e2
          have f3 := cell_old hbw e3
          have f4 := cell_old hbw e4
          have f5 := cell_old hbw e5
          clear hcc hff hbel e0 e1 e2 e3 e4 e5 x0 x1 x2 x3 x4 x5 hU
          have hbwe : bA < w'.heap.size := Nat.lt_of_lt_of_le hbwr hbw.size
          go_wp2_with (at_builtin; go_loud (refine wpList_append_at rfl _ _ 24 rfl (w.heap.size + 1) 50 6 56 (.agg #[.int .i64 0, .int .i64 0, .int .i64 0, .bool false, .int .u8 0, .slice none 0 0]) Try.underlying24 info_w rfl (by decide) A1 k c1 _ rfl IS2.out.own [.int .i64 at0, .int .i64 sq0, .int .i64 ti0, .bool mk0, .int .u8 ty0, .slice B0 pl0.length c0] rfl (by simp [Value.oneCell']) rfl (by unfold maxLen; omega) (by omega) IS2.out.hB ?_); intro An cn wn hown hgr hat)
          go_wp2_with fail
          go_roundg (gk - 1)
          case measure => omega
          case rel =>
            refine ⟨k + 1, An, cn, by omega, rfl, by go_num, Lib.hid ?_⟩
            rw [HTK.out]
            exact IS2.out.one (l2 := [_]) (by simpa [TW.row] using hown) hgr
      · obtain rfl : k = p := by omega
        have HCUT : Hid (RowsAt w w.heap.size 6 TW.row (some ⟨bA, oA + k * 6, none⟩) (l.drop k)) := Lib.hid (RowsAt.drop HA.out k)
        have k2 := Lib.hid fun W => before_any at0 sq0 ti0 ty0 xa xs xt xy mk0 xm B0 XB pl0.length c0 xp.length xc W false (by have h9 := HBG.out rfl; unfold befB Jb.bef at h9; exact h9.symm)
        go_wp2_with fail
        refine wp_region_held_drew (S := fun w' => Below wr.heap.size wr w' ∧ w'.cell? ⟨w.heap.size, 0, none⟩ = some (.int .i64 xa) ∧ w'.cell? ⟨w.heap.size, 1, none⟩ = some (.int .i64 xs) ∧ w'.cell? ⟨w.heap.size, 2, none⟩ = some (.int .i64 xt) ∧ w'.cell? ⟨w.heap.size, 3, none⟩ = some (.bool xm) ∧ w'.cell? ⟨w.heap.size, 4, none⟩ = some (.int .u8 xy) ∧ w'.cell? ⟨w.heap.size, 5, none⟩ = some (.slice XB xp.length xc) ∧ w'.cell? ⟨bA, oA + k * 6, none⟩ = some (.int .i64 at0) ∧ w'.cell? ⟨bA, oA + k * 6 + 1, none⟩ = some (.int .i64 sq0) ∧ w'.cell? ⟨bA, oA + k * 6 + 2, none⟩ = some (.int .i64 ti0) ∧ w'.cell? ⟨bA, oA + k * 6 + 3, none⟩ = some (.bool mk0) ∧ w'.cell? ⟨bA, oA + k * 6 + 4, none⟩ = some (.int .u8 ty0) ∧ w'.cell? ⟨bA, oA + k * 6 + 5, none⟩ = some (.slice B0 pl0.length c0)) (by kernel_rfl) ?_ (fun hHeld => ?_)
        · (first | assumption | ((try go_split_ands); refine and_dep ?_ (fun hbX => ⟨cell_old hbX x0, cell_old hbX x1, cell_old hbX x2, cell_old hbX x3, cell_old hbX x4, cell_old hbX x5, cell_old hbX e0, cell_old hbX e1, cell_old hbX e2, cell_old hbX e3, cell_old hbX e4, cell_old hbX e5⟩); (with_reducible repeat first | assumption | exact below_old' (by assumption) (by assumption) | refine Below.drew ?_ | refine below_new_old ?_ _)))
        first
          | (refine tk1 (i := 0) (v := ?_) rfl (Or.inl ⟨by rfl, ?_⟩) (by assumption) ?_
             rotate_left
             · (intro w hSw; (try dsimp only at hSw); go_simp; try with_reducible rfl))
          | refine tk1 (i := 0) (v := undef) rfl (Or.inr ⟨by rfl, rfl⟩) (by assumption) ?_
        try simp only [List.getElem_toArray, List.getElem_cons_zero, List.getElem_cons_succ, Act.put, List.setIfInBounds_toArray, List.set_cons_zero, List.set_cons_succ, HD1.out, HD2.out]
        first
          | (refine tk1 (i := 1) (v := ?_) rfl (Or.inl ⟨by rfl, ?_⟩) (by assumption) ?_
             rotate_left
             · (intro w hSw; (try dsimp only at hSw); go_simp; try with_reducible rfl))
          | refine tk1 (i := 1) (v := undef) rfl (Or.inr ⟨by rfl, rfl⟩) (by assumption) ?_
        try simp only [List.getElem_toArray, List.getElem_cons_zero, List.getElem_cons_succ, Act.put, List.setIfInBounds_toArray, List.set_cons_zero, List.set_cons_succ, HD1.out, HD2.out]
        first
          | (refine tk1 (i := 2) (v := ?_) rfl (Or.inl ⟨by rfl, ?_⟩) (by assumption) ?_
             rotate_left
             · (intro w hSw; (try dsimp only at hSw); go_simp; try with_reducible rfl))
          | refine tk1 (i := 2) (v := undef) rfl (Or.inr ⟨by rfl, rfl⟩) (by assumption) ?_
        try simp only [List.getElem_toArray, List.getElem_cons_zero, List.getElem_cons_succ, Act.put, List.setIfInBounds_toArray, List.set_cons_zero, List.set_cons_succ, HD1.out, HD2.out]
        first
          | (refine tk1 (i := 3) (v := ?_) rfl (Or.inl ⟨by rfl, ?_⟩) (by assumption) ?_
             rotate_left
             · (intro w hSw; (try dsimp only at hSw); go_simp; try with_reducible rfl))
          | refine tk1 (i := 3) (v := undef) rfl (Or.inr ⟨by rfl, rfl⟩) (by assumption) ?_
        try simp only [List.getElem_toArray, List.getElem_cons_zero, List.getElem_cons_succ, Act.put, List.setIfInBounds_toArray, List.set_cons_zero, List.set_cons_succ, HD1.out, HD2.out]
        first
          | (refine tk1 (i := 4) (v := ?_) rfl (Or.inl ⟨by rfl, ?_⟩) (by assumption) ?_
             rotate_left
             · (intro w hSw; (try dsimp only at hSw); go_simp; try with_reducible rfl))
          | refine tk1 (i := 4) (v := undef) rfl (Or.inr ⟨by rfl, rfl⟩) (by assumption) ?_
        try simp only [List.getElem_toArray, List.getElem_cons_zero, List.getElem_cons_succ, Act.put, List.setIfInBounds_toArray, List.set_cons_zero, List.set_cons_succ, HD1.out, HD2.out]
        first
          | (refine tk1 (i := 5) (v := ?_) rfl (Or.inl ⟨by rfl, ?_⟩) (by assumption) ?_
             rotate_left
             · (intro w hSw; (try dsimp only at hSw); go_simp; try with_reducible rfl))
          | refine tk1 (i := 5) (v := undef) rfl (Or.inr ⟨by rfl, rfl⟩) (by assumption) ?_
        try simp only [List.getElem_toArray, List.getElem_cons_zero, List.getElem_cons_succ, Act.put, List.setIfInBounds_toArray, List.set_cons_zero, List.set_cons_succ, HD1.out, HD2.out]
        first
          | (refine tk1 (i := 6) (v := ?_) rfl (Or.inl ⟨by rfl, ?_⟩) (by assumption) ?_
             rotate_left
             · (intro w hSw; (try dsimp only at hSw); go_simp; try with_reducible rfl))
          | refine tk1 (i := 6) (v := undef) rfl (Or.inr ⟨by rfl, rfl⟩) (by assumption) ?_
        try simp only [List.getElem_toArray, List.getElem_cons_zero, List.getElem_cons_succ, Act.put, List.setIfInBounds_toArray, List.set_cons_zero, List.set_cons_succ, HD1.out, HD2.out]
        first
          | (refine tk1 (i := 7) (v := ?_) rfl (Or.inl ⟨by rfl, ?_⟩) (by assumption) ?_
             rotate_left
             · (intro w hSw; (try dsimp only at hSw); go_simp; try with_reducible rfl))
          | refine tk1 (i := 7) (v := undef) rfl (Or.inr ⟨by rfl, rfl⟩) (by assumption) ?_
        try simp only [List.getElem_toArray, List.getElem_cons_zero, List.getElem_cons_succ, Act.put, List.setIfInBounds_toArray, List.set_cons_zero, List.set_cons_succ, HD1.out, HD2.out]
        first
          | (refine tk1 (i := 8) (v := ?_) rfl (Or.inl ⟨by rfl, ?_⟩) (by assumption) ?_
             rotate_left
             · (intro w hSw; (try dsimp only at hSw); go_simp; try with_reducible rfl))
          | refine tk1 (i := 8) (v := undef) rfl (Or.inr ⟨by rfl, rfl⟩) (by assumption) ?_
        try simp only [List.getElem_toArray, List.getElem_cons_zero, List.getElem_cons_succ, Act.put, List.setIfInBounds_toArray, List.set_cons_zero, List.set_cons_succ, HD1.out, HD2.out]
        first
          | (refine tk1 (i := 9) (v := ?_) rfl (Or.inl ⟨by rfl, ?_⟩) (by assumption) ?_
             rotate_left
             · (intro w hSw; (try dsimp only at hSw); go_simp; try with_reducible rfl))
          | refine tk1 (i := 9) (v := undef) rfl (Or.inr ⟨by rfl, rfl⟩) (by assumption) ?_
        try simp only [List.getElem_toArray, List.getElem_cons_zero, List.getElem_cons_succ, Act.put, List.setIfInBounds_toArray, List.set_cons_zero, List.set_cons_succ, HD1.out, HD2.out]
        refine wpAnyH_ready (rs := [10]) (by kernel_rfl) (by simp) ?_
        refine AllReadyH.cons (o := _) rfl (fun K hK => ?_) ?_
        rotate_left
        · exact AllReadyH.nil
        go_simp
        (go_at_call 55; refine (k2.out _).mono ?_; rintro e w' ⟨rfl, hbel⟩; have hbw : Below wr.heap.size wr w' := below_old' hbel (by (try go_split_ands); assumption); obtain ⟨hcc, hff⟩ := bcell hbel)
        refine hK.out _ _ ?_ (fun hHeld => ?_)
        · (try dsimp only)
          (first | assumption | ((try go_split_ands); refine and_dep ?_ (fun hbX => ⟨cell_old hbX x0, cell_old hbX x1, cell_old hbX x2, cell_old hbX x3, cell_old hbX x4, cell_old hbX x5, cell_old hbX e0, cell_old hbX e1, cell_old hbX e2, cell_old hbX e3, cell_old hbX e4, cell_old hbX e5⟩); (with_reducible repeat first | assumption | exact below_old' (by assumption) (by assumption) | refine Below.drew ?_ | refine below_new_old ?_ _)))
        clear hK K
        try simp only [List.getElem_toArray, List.getElem_cons_zero, List.getElem_cons_succ, Act.put, List.setIfInBounds_toArray, List.set_cons_zero, List.set_cons_succ, HD1.out, HD2.out]
        first
          | (refine tk1 (i := 11) (v := ?_) rfl (Or.inl ⟨by rfl, ?_⟩) (by assumption) ?_
             rotate_left
             · (intro w hSw; (try dsimp only at hSw); go_simp; try with_reducible rfl))
          | refine tk1 (i := 11) (v := undef) rfl (Or.inr ⟨by rfl, rfl⟩) (by assumption) ?_
        try simp only [List.getElem_toArray, List.getElem_cons_zero, List.getElem_cons_succ, Act.put, List.setIfInBounds_toArray, List.set_cons_zero, List.set_cons_succ, HD1.out, HD2.out]
        refine wpAnyH_done (by kernel_rfl) ?_ _
        all_goals
          have IS2 := IS.out.later hbw
          clear hcc hff hbel e0 e1 e2 e3 e4 e5 x0 x1 x2 x3 x4 x5 hU
          have hxl := IS2.bx.lt
          have y0 := IS2.bx.at 0 _ rfl
          have y1 := IS2.bx.at 1 _ rfl
          have y2 := IS2.bx.at 2 _ rfl
          have y3 := IS2.bx.at 3 _ rfl
          have y4 := IS2.bx.at 4 _ rfl
          have y5 := IS2.bx.at 5 _ rfl
          have IS9 := Lib.hid IS2
          go_upto_region 7 with fail
          have h5 : ((k : Nat) + 1) * 56 ≤ 140737488355328 := by omega
          have h6 : k + 1 ≤ maxLen := by unfold maxLen; omega
          have h7 := IS9.out.hB
          have HX := Lib.hid IS9.out.own
          go_upto_region 8 with (at_builtin; go_loud (refine wpList_append_at (w0 := w') rfl _ _ 24 rfl (w.heap.size + 1) 50 6 56 _ Try.underlying24 info_w rfl (by decide) A1 k c1 _ rfl HX.out [.int .i64 xa, .int .i64 xs, .int .i64 xt, .bool xm, .int .u8 xy, .slice XB xp.length xc] rfl (by simp [Value.oneCell']) rfl h6 h5 h7 ?_); intro A2 c2 wn hown hgr hat)
          have IS10 := Lib.hid (IS9.out.one (l2 := [⟨⟨xa, ⟨xs, xt, xm, xy, xp⟩⟩, XB, xc⟩]) (by simpa [TW.row] using hown) hgr)
          clear hown hgr hat y0 y1 y2 y3 y4 y5
          go_wp2_with (at_builtin; go_loud (refine wpList_append_rows rfl _ _ 24 rfl (w.heap.size + 1) 50 6 56 (.agg #[.int .i64 0, .int .i64 0, .int .i64 0, .bool false, .int .u8 0, .slice none 0 0]) Try.underlying24 info_w rfl (by decide) A2 (k + 1) c2 _ rfl IS10.out.own w.heap.size TW.row row_sixW row_oneW _ _ _ (l.drop k) rfl (RowsAt.keep HCUT.out (fun p hp => IS10.out.u.cell hp)) (by simp) (by unfold maxLen; simp <;> omega) (by simp <;> omega) IS10.out.hB (l.length + 1) (by simp <;> omega) ?_); intro A3 c3 wm hown hgr hat)
          have IS11 := IS10.out.one (l2 := l.drop k) hown hgr
          go_wp2_with fail
          go_ret
          exact ⟨A3, c3, rfl, by rw [HI.out]; simpa using IS11.own, IS11.u⟩
    have hi2 : (l.length : Int) ≤ (k : Int) := by omega
    obtain rfl : k = p := by omega
    have HCUT : Hid (RowsAt w w.heap.size 6 TW.row (some ⟨bA, oA + k * 6, none⟩) (l.drop k)) := Lib.hid (RowsAt.drop HA.out k)
    have hd1 : decide ((k : Int) < (l.length : Int)) = false := by rw [decide_eq_false_iff_not]; omega
    have hd2 : decide (k < l.length) = false := by rw [decide_eq_false_iff_not]; exact hk
    go_wp2_with fail
    go_quiet (fail)
    have IS2 := IS.out.drewN nq
    clear hd1 hd2
    have hxl := IS2.bx.lt
    have y0 := IS2.bx.at 0 _ rfl
    have y1 := IS2.bx.at 1 _ rfl
    have y2 := IS2.bx.at 2 _ rfl
    have y3 := IS2.bx.at 3 _ rfl
    have y4 := IS2.bx.at 4 _ rfl
    have y5 := IS2.bx.at 5 _ rfl
    have IS9 := Lib.hid IS2
    go_upto_region 7 with fail
    have h5 : ((k : Nat) + 1) * 56 ≤ 140737488355328 := by omega
    have h6 : k + 1 ≤ maxLen := by unfold maxLen; omega
    have h7 := IS9.out.hB
    have HX := Lib.hid IS9.out.own
    go_upto_region 8 with (at_builtin; go_loud (refine wpList_append_at (w0 := World.drewN wr nq) rfl _ _ 24 rfl (w.heap.size + 1) 50 6 56 _ Try.underlying24 info_w rfl (by decide) A1 k c1 _ rfl HX.out [.int .i64 xa, .int .i64 xs, .int .i64 xt, .bool xm, .int .u8 xy, .slice XB xp.length xc] rfl (by simp [Value.oneCell']) rfl h6 h5 h7 ?_); intro A2 c2 wn hown hgr hat)
    have IS10 := Lib.hid (IS9.out.one (l2 := [⟨⟨xa, ⟨xs, xt, xm, xy, xp⟩⟩, XB, xc⟩]) (by simpa [TW.row] using hown) hgr)
    clear hown hgr hat y0 y1 y2 y3 y4 y5
    go_wp2_with (at_builtin; go_loud (refine wpList_append_rows rfl _ _ 24 rfl (w.heap.size + 1) 50 6 56 (.agg #[.int .i64 0, .int .i64 0, .int .i64 0, .bool false, .int .u8 0, .slice none 0 0]) Try.underlying24 info_w rfl (by decide) A2 (k + 1) c2 _ rfl IS10.out.own w.heap.size TW.row row_sixW row_oneW _ _ _ (l.drop k) rfl (RowsAt.keep HCUT.out (fun p hp => IS10.out.u.cell hp)) (by simp) (by unfold maxLen; simp <;> omega) (by simp <;> omega) IS10.out.hB (l.length + 1) (by simp <;> omega) ?_); intro A3 c3 wm hown hgr hat)
    have IS11 := IS10.out.one (l2 := l.drop k) hown hgr
    go_wp2_with fail
    go_ret
    exact ⟨A3, c3, rfl, by rw [HI.out]; simpa using IS11.own, IS11.u⟩
set_option maxRecDepth 100000 in
set_option maxHeartbeats 12800000 in
theorem rins_end (bA oA : Nat) (l : List TW) (n c : Nat) (xa xs xt : Int) (xm : Bool) (xy : Int) (XB : Option Addr) (xp : List Int) (xc : Nat) (w : World) (hn : l.length = n) (hl : n ≤ 1000) (hcap : n ≤ c) (hcm : c ≤ maxLen) (hA : RowsAt w w.heap.size 6 TW.row (some ⟨bA, oA, none⟩) l) (hcp : c ≤ (l.takeWhile (befB ⟨⟨xa, ⟨xs, xt, xm, xy, xp⟩⟩, XB, xc⟩)).length) : Calls Try.prog 40 #[.slice (some ⟨bA, oA, none⟩) n c, .agg #[.int .i64 xa, .int .i64 xs, .int .i64 xt, .bool xm, .int .u8 xy, .slice XB xp.length xc]] w (RInsR l ⟨⟨xa, ⟨xs, xt, xm, xy, xp⟩⟩, XB, xc⟩ w) := by
  subst hn
  obtain ⟨w1, w2, w3, w4, w5⟩ := while_len (befB ⟨⟨xa, ⟨xs, xt, xm, xy, xp⟩⟩, XB, xc⟩) l
  generalize hp : (l.takeWhile (befB ⟨⟨xa, ⟨xs, xt, xm, xy, xp⟩⟩, XB, xc⟩)).length = p at w1 w2 w3 w4 w5 hcp
  have HA := Lib.hid hA
  have H4 := Lib.hid w4
  have H5 := Lib.hid w5
  have hins : insT l ⟨⟨xa, ⟨xs, xt, xm, xy, xp⟩⟩, XB, xc⟩ = l.take p ++ (⟨⟨xa, ⟨xs, xt, xm, xy, xp⟩⟩, XB, xc⟩ :: l.drop p) := by unfold insT; rw [← w1, ← w2]
  have HI := Lib.hid hins
  clear hA w1 w2 w4 w5 hp hins
  unfold maxLen at hcm
  have IS0 : Hid (ISt w (w.alloc (.cells #[.int .i64 xa, .int .i64 xs, .int .i64 xt, .bool xm, .int .u8 xy, .slice XB xp.length xc] 50)) [.int .i64 xa, .int .i64 xs, .int .i64 xt, .bool xm, .int .u8 xy, .slice XB xp.length xc] none 0 0 []) := Lib.hid ⟨Blk.new w _ _, (Bel.refl w).push _, Owns.nil, by simp⟩
  go_enter Try.func40, Try.ntmps40
  go_wp2_with fail
  go_loopg [5, 6] p (fun gk s5 i wr => ∃ (k : Nat) (A1 : Option Addr) (c1 : Nat), gk + k = p ∧ s5 = .slice A1 k c1 ∧ i = .int .i64 k ∧ Hid (ISt w wr [.int .i64 xa, .int .i64 xs, .int .i64 xt, .bool xm, .int .u8 xy, .slice XB xp.length xc] A1 k c1 (l.take k)))
  case atStart => exact ⟨0, none, 0, rfl, rfl, rfl, IS0⟩
  case round =>
    obtain ⟨k, A1, c1, hgk, rfl, rfl, IS⟩ := hrel
    have hi0 : (0 : Int) ≤ (k : Int) := by omega
    have hwl := IS.out.bx.lt
    have x0 := IS.out.bx.at 0 _ rfl
    have x1 := IS.out.bx.at 1 _ rfl
    have x2 := IS.out.bx.at 2 _ rfl
    have x3 := IS.out.bx.at 3 _ rfl
    have x4 := IS.out.bx.at 4 _ rfl
    have x5 := IS.out.bx.at 5 _ rfl
    by_cases hk : k < l.length
    · have hi1 : (k : Int) < (l.length : Int) := by omega
      have hd1 : decide ((k : Int) < (l.length : Int)) = true := by rw [decide_eq_true_iff]; exact hi1
      have hd2 : decide (k < l.length) = true := by rw [decide_eq_true_iff]; exact hk
      have HD1 := Lib.hid hd1
      have HD2 := Lib.hid hd2
      have hU : Below wr.heap.size wr wr := Below.refl _ _
      clear hd1 hd2
      obtain ⟨a, ha⟩ : ∃ a, l[k]? = some a := ⟨_, List.getElem?_eq_getElem hk⟩
      obtain ⟨b, off, hbo, hbB, e0, e1, e2, e3, e4, e5⟩ := rowsW (HA.out.keep (fun p hp => IS.out.u.cell hp)) ha
      injection hbo with hbo
      injection hbo with hbo1 hbo2
      subst hbo1 hbo2
      have HTK : Hid (l.take (k + 1) = l.take k ++ [a]) := Lib.hid (by rw [List.take_add_one, ha]; rfl)
      have HBF : Hid (k < p → befB ⟨⟨xa, ⟨xs, xt, xm, xy, xp⟩⟩, XB, xc⟩ a = true) := Lib.hid (fun h => H4.out k a h ha)
      have HBG : Hid (k = p → befB ⟨⟨xa, ⟨xs, xt, xm, xy, xp⟩⟩, XB, xc⟩ a = false) := Lib.hid (fun h => H5.out a (by rw [← h]; exact ha))
      obtain ⟨⟨at0, ⟨sq0, ti0, mk0, ty0, pl0⟩⟩, B0, c0⟩ := a
      simp only at e0 e1 e2 e3 e4 e5
      have hbwr : bA < wr.heap.size := by have := IS.out.u.size; omega
      clear ha
      by_cases hkp : k < p
      · have k2 := Lib.hid fun W => before_any at0 sq0 ti0 ty0 xa xs xt xy mk0 xm B0 XB pl0.length c0 xp.length xc W true (by have h9 := HBF.out hkp; unfold befB Jb.bef at h9; exact h9.symm)
        go_wp2_with fail
        refine wp_region_held_drew (S := fun w' => Below wr.heap.size wr w' ∧ w'.cell? ⟨w.heap.size, 0, none⟩ = some (.int .i64 xa) ∧ w'.cell? ⟨w.heap.size, 1, none⟩ = some (.int .i64 xs) ∧ w'.cell? ⟨w.heap.size, 2, none⟩ = some (.int .i64 xt) ∧ w'.cell? ⟨w.heap.size, 3, none⟩ = some (.bool xm) ∧ w'.cell? ⟨w.heap.size, 4, none⟩ = some (.int .u8 xy) ∧ w'.cell? ⟨w.heap.size, 5, none⟩ = some (.slice XB xp.length xc) ∧ w'.cell? ⟨bA, oA + k * 6, none⟩ = some (.int .i64 at0) ∧ w'.cell? ⟨bA, oA + k * 6 + 1, none⟩ = some (.int .i64 sq0) ∧ w'.cell? ⟨bA, oA + k * 6 + 2, none⟩ = some (.int .i64 ti0) ∧ w'.cell? ⟨bA, oA + k * 6 + 3, none⟩ = some (.bool mk0) ∧ w'.cell? ⟨bA, oA + k * 6 + 4, none⟩ = some (.int .u8 ty0) ∧ w'.cell? ⟨bA, oA + k * 6 + 5, none⟩ = some (.slice B0 pl0.length c0)) (by kernel_rfl) ?_ (fun hHeld => ?_)
        · (first | assumption | ((try go_split_ands); refine and_dep ?_ (fun hbX => ⟨cell_old hbX x0, cell_old hbX x1, cell_old hbX x2, cell_old hbX x3, cell_old hbX x4, cell_old hbX x5, cell_old hbX e0, cell_old hbX e1, cell_old hbX e2, cell_old hbX e3, cell_old hbX e4, cell_old hbX e5⟩); (with_reducible repeat first | assumption | exact below_old' (by assumption) (by assumption) | refine Below.drew ?_ | refine below_new_old ?_ _)))
        first
          | (refine tk1 (i := 0) (v := ?_) rfl (Or.inl ⟨by rfl, ?_⟩) (by assumption) ?_
             rotate_left
             · (intro w hSw; (try dsimp only at hSw); go_simp; try with_reducible rfl))
          | refine tk1 (i := 0) (v := undef) rfl (Or.inr ⟨by rfl, rfl⟩) (by assumption) ?_
        try simp only [List.getElem_toArray, List.getElem_cons_zero, List.getElem_cons_succ, Act.put, List.setIfInBounds_toArray, List.set_cons_zero, List.set_cons_succ, HD1.out, HD2.out]
        first
          | (refine tk1 (i := 1) (v := ?_) rfl (Or.inl ⟨by rfl, ?_⟩) (by assumption) ?_
             rotate_left
             · (intro w hSw; (try dsimp only at hSw); go_simp; try with_reducible rfl))
          | refine tk1 (i := 1) (v := undef) rfl (Or.inr ⟨by rfl, rfl⟩) (by assumption) ?_
        try simp only [List.getElem_toArray, List.getElem_cons_zero, List.getElem_cons_succ, Act.put, List.setIfInBounds_toArray, List.set_cons_zero, List.set_cons_succ, HD1.out, HD2.out]
        first
          | (refine tk1 (i := 2) (v := ?_) rfl (Or.inl ⟨by rfl, ?_⟩) (by assumption) ?_
             rotate_left
             · (intro w hSw; (try dsimp only at hSw); go_simp; try with_reducible rfl))
          | refine tk1 (i := 2) (v := undef) rfl (Or.inr ⟨by rfl, rfl⟩) (by assumption) ?_
        try simp only [List.getElem_toArray, List.getElem_cons_zero, List.getElem_cons_succ, Act.put, List.setIfInBounds_toArray, List.set_cons_zero, List.set_cons_succ, HD1.out, HD2.out]
        first
          | (refine tk1 (i := 3) (v := ?_) rfl (Or.inl ⟨by rfl, ?_⟩) (by assumption) ?_
             rotate_left
             · (intro w hSw; (try dsimp only at hSw); go_simp; try with_reducible rfl))
          | refine tk1 (i := 3) (v := undef) rfl (Or.inr ⟨by rfl, rfl⟩) (by assumption) ?_
        try simp only [List.getElem_toArray, List.getElem_cons_zero, List.getElem_cons_succ, Act.put, List.setIfInBounds_toArray, List.set_cons_zero, List.set_cons_succ, HD1.out, HD2.out]
        first
          | (refine tk1 (i := 4) (v := ?_) rfl (Or.inl ⟨by rfl, ?_⟩) (by assumption) ?_
             rotate_left
             · (intro w hSw; (try dsimp only at hSw); go_simp; try with_reducible rfl))
          | refine tk1 (i := 4) (v := undef) rfl (Or.inr ⟨by rfl, rfl⟩) (by assumption) ?_
        try simp only [List.getElem_toArray, List.getElem_cons_zero, List.getElem_cons_succ, Act.put, List.setIfInBounds_toArray, List.set_cons_zero, List.set_cons_succ, HD1.out, HD2.out]
        first
          | (refine tk1 (i := 5) (v := ?_) rfl (Or.inl ⟨by rfl, ?_⟩) (by assumption) ?_
             rotate_left
             · (intro w hSw; (try dsimp only at hSw); go_simp; try with_reducible rfl))
          | refine tk1 (i := 5) (v := undef) rfl (Or.inr ⟨by rfl, rfl⟩) (by assumption) ?_
        try simp only [List.getElem_toArray, List.getElem_cons_zero, List.getElem_cons_succ, Act.put, List.setIfInBounds_toArray, List.set_cons_zero, List.set_cons_succ, HD1.out, HD2.out]
        first
          | (refine tk1 (i := 6) (v := ?_) rfl (Or.inl ⟨by rfl, ?_⟩) (by assumption) ?_
             rotate_left
             · (intro w hSw; (try dsimp only at hSw); go_simp; try with_reducible rfl))
          | refine tk1 (i := 6) (v := undef) rfl (Or.inr ⟨by rfl, rfl⟩) (by assumption) ?_
        try simp only [List.getElem_toArray, List.getElem_cons_zero, List.getElem_cons_succ, Act.put, List.setIfInBounds_toArray, List.set_cons_zero, List.set_cons_succ, HD1.out, HD2.out]
        first
          | (refine tk1 (i := 7) (v := ?_) rfl (Or.inl ⟨by rfl, ?_⟩) (by assumption) ?_
             rotate_left
             · (intro w hSw; (try dsimp only at hSw); go_simp; try with_reducible rfl))
          | refine tk1 (i := 7) (v := undef) rfl (Or.inr ⟨by rfl, rfl⟩) (by assumption) ?_
        try simp only [List.getElem_toArray, List.getElem_cons_zero, List.getElem_cons_succ, Act.put, List.setIfInBounds_toArray, List.set_cons_zero, List.set_cons_succ, HD1.out, HD2.out]
        first
          | (refine tk1 (i := 8) (v := ?_) rfl (Or.inl ⟨by rfl, ?_⟩) (by assumption) ?_
             rotate_left
             · (intro w hSw; (try dsimp only at hSw); go_simp; try with_reducible rfl))
          | refine tk1 (i := 8) (v := undef) rfl (Or.inr ⟨by rfl, rfl⟩) (by assumption) ?_
        try simp only [List.getElem_toArray, List.getElem_cons_zero, List.getElem_cons_succ, Act.put, List.setIfInBounds_toArray, List.set_cons_zero, List.set_cons_succ, HD1.out, HD2.out]
        first
          | (refine tk1 (i := 9) (v := ?_) rfl (Or.inl ⟨by rfl, ?_⟩) (by assumption) ?_
             rotate_left
             · (intro w hSw; (try dsimp only at hSw); go_simp; try with_reducible rfl))
          | refine tk1 (i := 9) (v := undef) rfl (Or.inr ⟨by rfl, rfl⟩) (by assumption) ?_
        try simp only [List.getElem_toArray, List.getElem_cons_zero, List.getElem_cons_succ, Act.put, List.setIfInBounds_toArray, List.set_cons_zero, List.set_cons_succ, HD1.out, HD2.out]
        refine wpAnyH_ready (rs := [10]) (by kernel_rfl) (by simp) ?_
        refine AllReadyH.cons (o := _) rfl (fun K hK => ?_) ?_
        rotate_left
        · exact AllReadyH.nil
        go_simp
        (go_at_call 55; refine (k2.out _).mono ?_; rintro e w' ⟨rfl, hbel⟩; have hbw : Below wr.heap.size wr w' := below_old' hbel (by (try go_split_ands); assumption); obtain ⟨hcc, hff⟩ := bcell hbel)
        refine hK.out _ _ ?_ (fun hHeld => ?_)
        · (try dsimp only)
          (first | assumption | ((try go_split_ands); refine and_dep ?_ (fun hbX => ⟨cell_old hbX x0, cell_old hbX x1, cell_old hbX x2, cell_old hbX x3, cell_old hbX x4, cell_old hbX x5, cell_old hbX e0, cell_old hbX e1, cell_old hbX e2, cell_old hbX e3, cell_old hbX e4, cell_old hbX e5⟩); (with_reducible repeat first | assumption | exact below_old' (by assumption) (by assumption) | refine Below.drew ?_ | refine below_new_old ?_ _)))
        clear hK K
        try simp only [List.getElem_toArray, List.getElem_cons_zero, List.getElem_cons_succ, Act.put, List.setIfInBounds_toArray, List.set_cons_zero, List.set_cons_succ, HD1.out, HD2.out]
        first
          | (refine tk1 (i := 11) (v := ?_) rfl (Or.inl ⟨by rfl, ?_⟩) (by assumption) ?_
             rotate_left
             · (intro w hSw; (try dsimp only at hSw); go_simp; try with_reducible rfl))
          | refine tk1 (i := 11) (v := undef) rfl (Or.inr ⟨by rfl, rfl⟩) (by assumption) ?_
        try simp only [List.getElem_toArray, List.getElem_cons_zero, List.getElem_cons_succ, Act.put, List.setIfInBounds_toArray, List.set_cons_zero, List.set_cons_succ, HD1.out, HD2.out]
        refine wpAnyH_done (by kernel_rfl) ?_ _
        all_goals
          have IS2 := Lib.hid (IS.out.later hbw)
          have f0 := cell_old hbw e0
          have f1 := cell_old hbw e1
          have f2 := cell_old hbw e2
          have f3 := cell_old hbw e3
          have f4 := cell_old hbw e4
          have f5 := cell_old hbw e5
          clear hcc hff hbel e0 e1 e2 e3 e4 e5 x0 x1 x2 x3 x4 x5 hU
          have hbwe : bA < w'.heap.size := Nat.lt_of_lt_of_le hbwr hbw.size
          go_wp2_with (at_builtin; go_loud (refine wpList_append_at rfl _ _ 24 rfl (w.heap.size + 1) 50 6 56 (.agg #[.int .i64 0, .int .i64 0, .int .i64 0, .bool false, .int .u8 0, .slice none 0 0]) Try.underlying24 info_w rfl (by decide) A1 k c1 _ rfl IS2.out.own [.int .i64 at0, .int .i64 sq0, .int .i64 ti0, .bool mk0, .int .u8 ty0, .slice B0 pl0.length c0] rfl (by simp [Value.oneCell']) rfl (by unfold maxLen; omega) (by omega) IS2.out.hB ?_); intro An cn wn hown hgr hat)
          go_wp2_with fail
          go_roundg (gk - 1)
          case measure => omega
          case rel =>
            refine ⟨k + 1, An, cn, by omega, rfl, by go_num, Lib.hid ?_⟩
            rw [HTK.out]
            exact IS2.out.one (l2 := [_]) (by simpa [TW.row] using hown) hgr
      · exfalso
        omega
    have hi2 : (l.length : Int) ≤ (k : Int) := by omega
    obtain rfl : k = p := by omega
    have HCUT : Hid (RowsAt w w.heap.size 6 TW.row (some ⟨bA, oA, none⟩) (l.drop k)) := Lib.hid (RowsAt.nil' (by simp <;> omega))
    have hd1 : decide ((k : Int) < (l.length : Int)) = false := by rw [decide_eq_false_iff_not]; omega
    have hd2 : decide (k < l.length) = false := by rw [decide_eq_false_iff_not]; exact hk
    go_wp2_with fail
    go_quiet (fail)
    have IS2 := IS.out.drewN nq
    clear hd1 hd2
    have hxl := IS2.bx.lt
    have y0 := IS2.bx.at 0 _ rfl
    have y1 := IS2.bx.at 1 _ rfl
    have y2 := IS2.bx.at 2 _ rfl
    have y3 := IS2.bx.at 3 _ rfl
    have y4 := IS2.bx.at 4 _ rfl
    have y5 := IS2.bx.at 5 _ rfl
    have IS9 := Lib.hid IS2
    go_upto_region 7 with fail
    have h5 : ((k : Nat) + 1) * 56 ≤ 140737488355328 := by omega
    have h6 : k + 1 ≤ maxLen := by unfold maxLen; omega
    have h7 := IS9.out.hB
    have HX := Lib.hid IS9.out.own
    go_upto_region 8 with (at_builtin; go_loud (refine wpList_append_at (w0 := World.drewN wr nq) rfl _ _ 24 rfl (w.heap.size + 1) 50 6 56 _ Try.underlying24 info_w rfl (by decide) A1 k c1 _ rfl HX.out [.int .i64 xa, .int .i64 xs, .int .i64 xt, .bool xm, .int .u8 xy, .slice XB xp.length xc] rfl (by simp [Value.oneCell']) rfl h6 h5 h7 ?_); intro A2 c2 wn hown hgr hat)
    have IS10 := Lib.hid (IS9.out.one (l2 := [⟨⟨xa, ⟨xs, xt, xm, xy, xp⟩⟩, XB, xc⟩]) (by simpa [TW.row] using hown) hgr)
    clear hown hgr hat y0 y1 y2 y3 y4 y5
    go_wp2_with (at_builtin; go_loud (refine wpList_append_rows rfl _ _ 24 rfl (w.heap.size + 1) 50 6 56 (.agg #[.int .i64 0, .int .i64 0, .int .i64 0, .bool false, .int .u8 0, .slice none 0 0]) Try.underlying24 info_w rfl (by decide) A2 (k + 1) c2 _ rfl IS10.out.own w.heap.size TW.row row_sixW row_oneW _ _ _ (l.drop k) rfl (RowsAt.keep HCUT.out (fun p hp => IS10.out.u.cell hp)) (by simp) (by unfold maxLen; simp <;> omega) (by simp <;> omega) IS10.out.hB (l.length + 1) (by simp <;> omega) ?_); intro A3 c3 wm hown hgr hat)
    have IS11 := IS10.out.one (l2 := l.drop k) hown hgr
    go_wp2_with fail
    go_ret
    exact ⟨A3, c3, rfl, by rw [HI.out]; simpa using IS11.own, IS11.u⟩
set_option maxRecDepth 100000 in
set_option maxHeartbeats 12800000 in
theorem rins_no (l : List TW) (n c : Nat) (xa xs xt : Int) (xm : Bool) (xy : Int) (XB : Option Addr) (xp : List Int) (xc : Nat) (w : World) (hn : l.length = n) (hl : n ≤ 1000) (hcap : n ≤ c) (hcm : c ≤ maxLen) (hA : RowsAt w w.heap.size 6 TW.row none l) (h0 : l.length = 0) : Calls Try.prog 40 #[.slice none n c, .agg #[.int .i64 xa, .int .i64 xs, .int .i64 xt, .bool xm, .int .u8 xy, .slice XB xp.length xc]] w (RInsR l ⟨⟨xa, ⟨xs, xt, xm, xy, xp⟩⟩, XB, xc⟩ w) := by
  obtain rfl : l = [] := List.eq_nil_of_length_eq_zero h0
  subst hn
  clear h0
  have HA := Lib.hid hA
  have HI : Hid (insT [] ⟨⟨xa, ⟨xs, xt, xm, xy, xp⟩⟩, XB, xc⟩ = [⟨⟨xa, ⟨xs, xt, xm, xy, xp⟩⟩, XB, xc⟩]) := Lib.hid rfl
  clear hA
  unfold maxLen at hcm
  have IS0 : Hid (ISt w (w.alloc (.cells #[.int .i64 xa, .int .i64 xs, .int .i64 xt, .bool xm, .int .u8 xy, .slice XB xp.length xc] 50)) [.int .i64 xa, .int .i64 xs, .int .i64 xt, .bool xm, .int .u8 xy, .slice XB xp.length xc] none 0 0 []) := Lib.hid ⟨Blk.new w _ _, (Bel.refl w).push _, Owns.nil, by simp⟩
  go_enter Try.func40, Try.ntmps40
  go_wp2_with fail
  go_loopg [5, 6] 0 (fun gk s5 i wr => ∃ (k : Nat) (A1 : Option Addr) (c1 : Nat), gk + k = 0 ∧ s5 = .slice A1 k c1 ∧ i = .int .i64 k ∧ Hid (ISt w wr [.int .i64 xa, .int .i64 xs, .int .i64 xt, .bool xm, .int .u8 xy, .slice XB xp.length xc] A1 k c1 ([])))
  case atStart => exact ⟨0, none, 0, rfl, rfl, rfl, IS0⟩
  case round =>
    obtain ⟨k, A1, c1, hgk, rfl, rfl, IS⟩ := hrel
    have hi0 : (0 : Int) ≤ (k : Int) := by omega
    have hwl := IS.out.bx.lt
    have x0 := IS.out.bx.at 0 _ rfl
    have x1 := IS.out.bx.at 1 _ rfl
    have x2 := IS.out.bx.at 2 _ rfl
    have x3 := IS.out.bx.at 3 _ rfl
    have x4 := IS.out.bx.at 4 _ rfl
    have x5 := IS.out.bx.at 5 _ rfl
    have hk : ¬k < 0 := by omega
    have hi2 : (0 : Int) ≤ (k : Int) := by omega
    obtain rfl : k = 0 := by omega
    have HCUT : Hid (RowsAt w w.heap.size 6 TW.row none ([] : List TW)) := Lib.hid (RowsAt.nil' (by simp <;> omega))
    have hd1 : decide ((0 : Int) < 0) = false := by rw [decide_eq_false_iff_not]; omega
    have hd2 : decide (0 < 0) = false := by rw [decide_eq_false_iff_not]; omega
    go_wp2_with fail
    go_quiet (fail)
    have IS2 := IS.out.drewN nq
    clear hd1 hd2
    have hxl := IS2.bx.lt
    have y0 := IS2.bx.at 0 _ rfl
    have y1 := IS2.bx.at 1 _ rfl
    have y2 := IS2.bx.at 2 _ rfl
    have y3 := IS2.bx.at 3 _ rfl
    have y4 := IS2.bx.at 4 _ rfl
    have y5 := IS2.bx.at 5 _ rfl
    have IS9 := Lib.hid IS2
    go_upto_region 7 with fail
    have h5 : ((0 : Nat) + 1) * 56 ≤ 140737488355328 := by omega
    have h6 : 0 + 1 ≤ maxLen := by unfold maxLen; omega
    have h7 := IS9.out.hB
    have HX := Lib.hid IS9.out.own
    go_upto_region 8 with (at_builtin; go_loud (refine wpList_append_at (w0 := World.drewN wr nq) rfl _ _ 24 rfl (w.heap.size + 1) 50 6 56 _ Try.underlying24 info_w rfl (by decide) A1 0 c1 _ rfl HX.out [.int .i64 xa, .int .i64 xs, .int .i64 xt, .bool xm, .int .u8 xy, .slice XB xp.length xc] rfl (by simp [Value.oneCell']) rfl h6 h5 h7 ?_); intro A2 c2 wn hown hgr hat)
    have IS10 := Lib.hid (IS9.out.one (l2 := [⟨⟨xa, ⟨xs, xt, xm, xy, xp⟩⟩, XB, xc⟩]) (by simpa [TW.row] using hown) hgr)
    clear hown hgr hat y0 y1 y2 y3 y4 y5
    go_wp2_with (at_builtin; go_loud (refine wpList_append_rows rfl _ _ 24 rfl (w.heap.size + 1) 50 6 56 (.agg #[.int .i64 0, .int .i64 0, .int .i64 0, .bool false, .int .u8 0, .slice none 0 0]) Try.underlying24 info_w rfl (by decide) A2 (0 + 1) c2 _ rfl IS10.out.own w.heap.size TW.row row_sixW row_oneW _ _ _ ([] : List TW) rfl (RowsAt.keep HCUT.out (fun p hp => IS10.out.u.cell hp)) (by simp) (by unfold maxLen; simp <;> omega) (by simp <;> omega) IS10.out.hB (0 + 1) (by simp <;> omega) ?_); intro A3 c3 wm hown hgr hat)
    have IS11 := IS10.out.one (l2 := []) hown hgr
    go_wp2_with fail
    go_ret
    exact ⟨A3, c3, rfl, by rw [HI.out]; simpa using IS11.own, IS11.u⟩
set_option maxRecDepth 100000 in
set_option maxHeartbeats 12800000 in
theorem rins_no0 (ad : Addr) (l : List TW) (n c : Nat) (xa xs xt : Int) (xm : Bool) (xy : Int) (XB : Option Addr) (xp : List Int) (xc : Nat) (w : World) (hn : l.length = n) (hl : n ≤ 1000) (hcap : n ≤ c) (hcm : c ≤ maxLen) (hA : RowsAt w w.heap.size 6 TW.row (some ad) l) (h0 : l.length = 0) : Calls Try.prog 40 #[.slice (some ad) n c, .agg #[.int .i64 xa, .int .i64 xs, .int .i64 xt, .bool xm, .int .u8 xy, .slice XB xp.length xc]] w (RInsR l ⟨⟨xa, ⟨xs, xt, xm, xy, xp⟩⟩, XB, xc⟩ w) := by
  obtain rfl : l = [] := List.eq_nil_of_length_eq_zero h0
  subst hn
  clear h0
  have HA := Lib.hid hA
  have HI : Hid (insT [] ⟨⟨xa, ⟨xs, xt, xm, xy, xp⟩⟩, XB, xc⟩ = [⟨⟨xa, ⟨xs, xt, xm, xy, xp⟩⟩, XB, xc⟩]) := Lib.hid rfl
  clear hA
  unfold maxLen at hcm
  have IS0 : Hid (ISt w (w.alloc (.cells #[.int .i64 xa, .int .i64 xs, .int .i64 xt, .bool xm, .int .u8 xy, .slice XB xp.length xc] 50)) [.int .i64 xa, .int .i64 xs, .int .i64 xt, .bool xm, .int .u8 xy, .slice XB xp.length xc] none 0 0 []) := Lib.hid ⟨Blk.new w _ _, (Bel.refl w).push _, Owns.nil, by simp⟩
  go_enter Try.func40, Try.ntmps40
  go_wp2_with fail
  go_loopg [5, 6] 0 (fun gk s5 i wr => ∃ (k : Nat) (A1 : Option Addr) (c1 : Nat), gk + k = 0 ∧ s5 = .slice A1 k c1 ∧ i = .int .i64 k ∧ Hid (ISt w wr [.int .i64 xa, .int .i64 xs, .int .i64 xt, .bool xm, .int .u8 xy, .slice XB xp.length xc] A1 k c1 ([])))
  case atStart => exact ⟨0, none, 0, rfl, rfl, rfl, IS0⟩
  case round =>
    obtain ⟨k, A1, c1, hgk, rfl, rfl, IS⟩ := hrel
    have hi0 : (0 : Int) ≤ (k : Int) := by omega
    have hwl := IS.out.bx.lt
    have x0 := IS.out.bx.at 0 _ rfl
    have x1 := IS.out.bx.at 1 _ rfl
    have x2 := IS.out.bx.at 2 _ rfl
    have x3 := IS.out.bx.at 3 _ rfl
    have x4 := IS.out.bx.at 4 _ rfl
    have x5 := IS.out.bx.at 5 _ rfl
    have hk : ¬k < 0 := by omega
    have hi2 : (0 : Int) ≤ (k : Int) := by omega
    obtain rfl : k = 0 := by omega
    have HCUT : Hid (RowsAt w w.heap.size 6 TW.row (some ad) ([] : List TW)) := Lib.hid (RowsAt.nil' (by simp <;> omega))
    have hd1 : decide ((0 : Int) < 0) = false := by rw [decide_eq_false_iff_not]; omega
    have hd2 : decide (0 < 0) = false := by rw [decide_eq_false_iff_not]; omega
    go_wp2_with fail
    go_quiet (fail)
    have IS2 := IS.out.drewN nq
    clear hd1 hd2
    have hxl := IS2.bx.lt
    have y0 := IS2.bx.at 0 _ rfl
    have y1 := IS2.bx.at 1 _ rfl
    have y2 := IS2.bx.at 2 _ rfl
    have y3 := IS2.bx.at 3 _ rfl
    have y4 := IS2.bx.at 4 _ rfl
    have y5 := IS2.bx.at 5 _ rfl
    have IS9 := Lib.hid IS2
    go_upto_region 7 with fail
    have h5 : ((0 : Nat) + 1) * 56 ≤ 140737488355328 := by omega
    have h6 : 0 + 1 ≤ maxLen := by unfold maxLen; omega
    have h7 := IS9.out.hB
    have HX := Lib.hid IS9.out.own
    go_upto_region 8 with (at_builtin; go_loud (refine wpList_append_at (w0 := World.drewN wr nq) rfl _ _ 24 rfl (w.heap.size + 1) 50 6 56 _ Try.underlying24 info_w rfl (by decide) A1 0 c1 _ rfl HX.out [.int .i64 xa, .int .i64 xs, .int .i64 xt, .bool xm, .int .u8 xy, .slice XB xp.length xc] rfl (by simp [Value.oneCell']) rfl h6 h5 h7 ?_); intro A2 c2 wn hown hgr hat)
    have IS10 := Lib.hid (IS9.out.one (l2 := [⟨⟨xa, ⟨xs, xt, xm, xy, xp⟩⟩, XB, xc⟩]) (by simpa [TW.row] using hown) hgr)
    clear hown hgr hat y0 y1 y2 y3 y4 y5
    go_wp2_with (at_builtin; go_loud (refine wpList_append_rows rfl _ _ 24 rfl (w.heap.size + 1) 50 6 56 (.agg #[.int .i64 0, .int .i64 0, .int .i64 0, .bool false, .int .u8 0, .slice none 0 0]) Try.underlying24 info_w rfl (by decide) A2 (0 + 1) c2 _ rfl IS10.out.own w.heap.size TW.row row_sixW row_oneW _ _ _ ([] : List TW) rfl (RowsAt.keep HCUT.out (fun p hp => IS10.out.u.cell hp)) (by simp) (by unfold maxLen; simp <;> omega) (by simp <;> omega) IS10.out.hB (0 + 1) (by simp <;> omega) ?_); intro A3 c3 wm hown hgr hat)
    have IS11 := IS10.out.one (l2 := []) hown hgr
    go_wp2_with fail
    go_ret
    exact ⟨A3, c3, rfl, by rw [HI.out]; simpa using IS11.own, IS11.u⟩
theorem rins_any (l : List TW) (x : TW) (A : Option Addr) (n c : Nat) (w : World) (hn : l.length = n) (hl : n ≤ 1000) (hcap : n ≤ c) (hcm : c ≤ maxLen) (hA : RowsAt w w.heap.size 6 TW.row A l) : Calls Try.prog 40 #[.slice A n c, .agg x.row.toArray] w (RInsR l x w) := by
  obtain ⟨⟨xa, ⟨xs, xt, xm, xy, xp⟩⟩, XB, xc⟩ := x
  rcases Nat.eq_zero_or_pos l.length with h0 | h0
  · rcases A with _ | ad
    · exact rins_no l n c xa xs xt xm xy XB xp xc w hn hl hcap hcm hA h0
    · exact rins_no0 ad l n c xa xs xt xm xy XB xp xc w hn hl hcap hcm hA h0
  · obtain ⟨bA, oA, rfl, _⟩ := hA h0
    by_cases hcp : c = (l.takeWhile (befB ⟨⟨xa, ⟨xs, xt, xm, xy, xp⟩⟩, XB, xc⟩)).length
    · exact rins_end bA oA l n c xa xs xt xm xy XB xp xc w hn hl hcap hcm hA (Nat.le_of_eq hcp)
    · exact rins_some bA oA l n c xa xs xt xm xy XB xp xc w hn hl hcap hcm hA hcp
end Go.Proofs.Ytnaafjdnmbajjaa
/- Layer 30: Run of the reference. -/
namespace Go.Proofs.Ytnaafjdnmbajjaa
open Go.RowKit
set_option linter.unusedVariables false
set_option linter.unusedSimpArgs false
attribute [local go_sem ↓] run_min_plain run_max_plain
attribute [local go_sem] setCell_drewN alloc_drewN
set_option maxRecDepth 100000 in
set_option maxHeartbeats 12800000 in
theorem rrun_let (le mo nw : Int) (on : Bool) (ze fi hi dn sp tr : Int) (A : Option Addr) (l : List TW) (n qc : Nat) (la tw pd : Int) (now : Int) (w : World) (hn : l.length = n) (hl : n ≤ 100000) (hcap : n ≤ qc) (hcm : qc ≤ maxLen) (hA : Wts w w.heap.size A l) (hP : ∀ a ∈ l, a.w.m.pl.length ≤ 1000000000) : Calls Try.prog 14 #[.agg #[.int .i64 le, .int .i64 mo, .int .i64 nw, .bool on, .int .i64 ze, .int .i64 fi, .int .i64 hi, .int .i64 dn, .int .i64 sp, .int .i64 tr, .slice A n qc, .int .i64 la, .int .i64 tw, .int .i64 pd], .int .i64 now] w (JRunR ⟨le, mo, nw, on, ze, fi, hi, dn, sp, tr, l.map TW.w, la, tw, pd⟩ now w) := by
  subst hn
  obtain ⟨r, hr⟩ : ∃ r, r = Jb.chk ⟨le, mo, nw, on, ze, fi, hi, dn, sp, tr, l.map TW.w, la, tw, pd⟩ now true := ⟨_, rfl⟩
  have HR := Lib.hid hr
  have k1 := Lib.hid fun (W : World) (hW : Bel w W) => rcheck_any le mo nw on ze fi hi dn sp tr A l l.length qc la tw pd now true W rfl hl ((hA.below hW).more hW.size) hP r hr
  have U0 := Lib.hid (((Bel.refl w).push (.cells #[.int .i64 le, .int .i64 mo, .int .i64 nw, .bool on, .int .i64 ze, .int .i64 fi, .int .i64 hi, .int .i64 dn, .int .i64 sp, .int .i64 tr, .slice A l.length qc, .int .i64 la, .int .i64 tw, .int .i64 pd] 26)).push (.cells #[.int .i64 0, .int .i64 0, .int .i64 0, .bool false, .int .i64 0, .int .i64 0, .int .i64 0, .int .i64 0, .int .i64 0, .int .i64 0, .slice none 0 0, .int .i64 0, .int .i64 0, .int .i64 0] 26))
  have BS := Lib.hid ((Blk.new w 26 #[.int .i64 le, .int .i64 mo, .int .i64 nw, .bool on, .int .i64 ze, .int .i64 fi, .int .i64 hi, .int .i64 dn, .int .i64 sp, .int .i64 tr, .slice A l.length qc, .int .i64 la, .int .i64 tw, .int .i64 pd]).push (.cells #[.int .i64 0, .int .i64 0, .int .i64 0, .bool false, .int .i64 0, .int .i64 0, .int .i64 0, .int .i64 0, .int .i64 0, .int .i64 0, .slice none 0 0, .int .i64 0, .int .i64 0, .int .i64 0] 26))
  have BR := Lib.hid (Blk.new1 w (.cells #[.int .i64 le, .int .i64 mo, .int .i64 nw, .bool on, .int .i64 ze, .int .i64 fi, .int .i64 hi, .int .i64 dn, .int .i64 sp, .int .i64 tr, .slice A l.length qc, .int .i64 la, .int .i64 tw, .int .i64 pd] 26) 26 #[.int .i64 0, .int .i64 0, .int .i64 0, .bool false, .int .i64 0, .int .i64 0, .int .i64 0, .int .i64 0, .int .i64 0, .int .i64 0, .slice none 0 0, .int .i64 0, .int .i64 0, .int .i64 0])
  have HA := Lib.hid hA
  clear hr hA hP
  by_cases hr0 : r = 0
  rotate_left
  · have hne : (r != 0) = true := by simpa using hr0
    have HN := Lib.hid hr0
    clear hr0
    go_enter Try.func14, Try.ntmps14
    go_wp2_with fail
    refine (k1.out _ U0.out).mono ?_
    rintro e w1 ⟨rfl, hb1⟩
    have U1 := Lib.hid (U0.out.later hb1)
    have BS1 := Lib.hid (BS.out.later hb1)
    have BR1 := Lib.hid (BR.out.later hb1)
    have hs1 := BR1.out.lt
    clear hb1
    have s0 := (BS1.out).at 0 _ rfl
    have s1 := (BS1.out).at 1 _ rfl
    have s2 := (BS1.out).at 2 _ rfl
    have s3 := (BS1.out).at 3 _ rfl
    have s4 := (BS1.out).at 4 _ rfl
    have s5 := (BS1.out).at 5 _ rfl
    have s6 := (BS1.out).at 6 _ rfl
    have s7 := (BS1.out).at 7 _ rfl
    have s8 := (BS1.out).at 8 _ rfl
    have s9 := (BS1.out).at 9 _ rfl
    have s10 := (BS1.out).at 10 _ rfl
    have s11 := (BS1.out).at 11 _ rfl
    have s12 := (BS1.out).at 12 _ rfl
    have s13 := (BS1.out).at 13 _ rfl
    go_wp2_with fail
    refine (k1.out _ U1.out).mono ?_
    rintro e w2 ⟨rfl, hb2⟩
    have U2 := Lib.hid (U1.out.later hb2)
    have BR2 := Lib.hid (BR1.out.later hb2)
    clear hb2 s0 s1 s2 s3 s4 s5 s6 s7 s8 s9 s10 s11 s12 s13
    have r0 := (BR2.out).at 0 _ rfl
    have r1 := (BR2.out).at 1 _ rfl
    have r2 := (BR2.out).at 2 _ rfl
    have r3 := (BR2.out).at 3 _ rfl
    have r4 := (BR2.out).at 4 _ rfl
    have r5 := (BR2.out).at 5 _ rfl
    have r6 := (BR2.out).at 6 _ rfl
    have r7 := (BR2.out).at 7 _ rfl
    have r8 := (BR2.out).at 8 _ rfl
    have r9 := (BR2.out).at 9 _ rfl
    have r10 := (BR2.out).at 10 _ rfl
    have r11 := (BR2.out).at 11 _ rfl
    have r12 := (BR2.out).at 12 _ rfl
    have r13 := (BR2.out).at 13 _ rfl
    have rfz := BR2.out.frozen
    go_wp2_with fail
    have BF := Blk.setRow BR2.out [.int .i64 0, .int .i64 0, .int .i64 0, .bool false, .int .i64 0, .int .i64 0, .int .i64 0, .int .i64 0, .int .i64 0, .int .i64 0, .slice none 0 0, .int .i64 0, .int .i64 0, .int .i64 0] rfl
    have UF := below_setRow (g := w.heap.size + 1) (by omega) [.int .i64 0, .int .i64 0, .int .i64 0, .bool false, .int .i64 0, .int .i64 0, .int .i64 0, .int .i64 0, .int .i64 0, .int .i64 0, .slice none 0 0, .int .i64 0, .int .i64 0, .int .i64 0] _ 0 U2.out
    simp only [setRow, Nat.zero_add, Nat.reduceAdd] at BF UF
    have hrun : Jb.run ⟨le, mo, nw, on, ze, fi, hi, dn, sp, tr, l.map TW.w, la, tw, pd⟩ now = (Jb.Jt.none, [], r) := by unfold Jb.run; rw [← HR.out, if_neg HN.out]
    refine bodyPost_ret (v := .tuple #[.agg (List.toArray [.int .i64 0, .int .i64 0, .int .i64 0, .bool false, .int .i64 0, .int .i64 0, .int .i64 0, .int .i64 0, .int .i64 0, .int .i64 0, .slice none 0 0, .int .i64 0, .int .i64 0, .int .i64 0]), .slice none 0 0, .int .u8 r]) (res_ctt Try.results14 rfl (run_loadVar_row (P := Try.prog) _ _ _ _ _ _ _ BF Try.underlying26 rfl (by kernel_rfl)) rfl rfl) rfl ⟨none, 0, [], none, 0, [], ?_, ?_, ?_, Wts.empty, Wts.empty, Nat.le_refl _, by unfold maxLen; omega, UF⟩
    · rw [hrun]; rfl
    · rw [hrun]; rfl
    · rw [hrun]; rfl
  subst hr0
  obtain ⟨hok, hnow, _, hlt⟩ := chk_zero HR.out.symm
  obtain ⟨hl2, hpl⟩ := ok_small (l := l) hok rfl
  have hpd := hok.2.2.1.2.2
  have hasc := Jb.okQ.asc hok.2.2.2.2
  simp only at hpd hlt hasc
  obtain ⟨hpd0, hpd1⟩ := hpd
  have hrun : Jb.run ⟨le, mo, nw, on, ze, fi, hi, dn, sp, tr, l.map TW.w, la, tw, pd⟩ now = (Jb.run0 ⟨le, mo, nw, on, ze, fi, hi, dn, sp, tr, l.map TW.w, la, tw, pd⟩ now, Jb.due now (l.map TW.w), 0) := by unfold Jb.run; rw [← HR.out, if_pos rfl]
  have HRUN := Lib.hid hrun
  have HD := Lib.hid (dueT_due (now := now) hasc)
  clear hok hnow hlt hpl hrun hasc
  go_enter Try.func14, Try.ntmps14
  go_wp2_with fail
  refine (k1.out _ U0.out).mono ?_
  rintro e w1 ⟨rfl, hb1⟩
  have U1 := Lib.hid (U0.out.later hb1)
  have BS1 := Lib.hid (BS.out.later hb1)
  have BR1 := Lib.hid (BR.out.later hb1)
  have hs1 := BR1.out.lt
  clear hb1
  have s0 := (BS1.out).at 0 _ rfl
  have s1 := (BS1.out).at 1 _ rfl
  have s2 := (BS1.out).at 2 _ rfl
  have s3 := (BS1.out).at 3 _ rfl
  have s4 := (BS1.out).at 4 _ rfl
  have s5 := (BS1.out).at 5 _ rfl
  have s6 := (BS1.out).at 6 _ rfl
  have s7 := (BS1.out).at 7 _ rfl
  have s8 := (BS1.out).at 8 _ rfl
  have s9 := (BS1.out).at 9 _ rfl
  have s10 := (BS1.out).at 10 _ rfl
  have s11 := (BS1.out).at 11 _ rfl
  have s12 := (BS1.out).at 12 _ rfl
  have s13 := (BS1.out).at 13 _ rfl
  go_wp2_with fail
  have RS : RSt w w1 [.int .i64 le, .int .i64 mo, .int .i64 nw, .bool on, .int .i64 ze, .int .i64 fi, .int .i64 hi, .int .i64 dn, .int .i64 sp, .int .i64 tr, .slice A l.length qc, .int .i64 la, .int .i64 tw, .int .i64 pd] none 0 0 [] none 0 0 [] := ⟨BS1.out, BR1.out, U1.out, Owns.nil, Owns.nil, rfl, rfl, (fun g e => by cases e), by have := BR1.out.lt; omega⟩
  have RS0 := Lib.hid RS
  clear RS BS1 BR1 U1 k1 BS BR U0 s0 s1 s2 s3 s4 s5 s6 s7 s8 s9 s10 s11 s12 s13
  go_loopg [7, 8, 9] l.length (fun gk s7 s8 i wr => ∃ (k : Nat) (A1 : Option Addr) (n1 c1 : Nat) (A2 : Option Addr) (n2 c2 : Nat) (d : Int), gk + k = l.length ∧ s7 = .slice A1 n1 c1 ∧ s8 = .slice A2 n2 c2 ∧ i = .int .i64 k ∧ Hid (d = (Jb.maxSq dn (((l.take k).filter (dueT now)).map TW.w))) ∧ Hid (RSt w wr [.int .i64 le, .int .i64 mo, .int .i64 nw, .bool on, .int .i64 ze, .int .i64 fi, .int .i64 hi, .int .i64 d, .int .i64 sp, .int .i64 tr, .slice A l.length qc, .int .i64 la, .int .i64 tw, .int .i64 pd] A1 n1 c1 ((l.take k).filter (dueT now)) A2 n2 c2 ((l.take k).filter (fun a => !dueT now a))))
  case atStart => exact ⟨0, none, 0, 0, none, 0, 0, dn, rfl, rfl, rfl, rfl, Lib.hid rfl, RS0⟩
  case round =>
    obtain ⟨k, A1, n1, c1, A2, n2, c2, d, hgk, rfl, rfl, rfl, HDN, RS⟩ := hrel
    have hi0 : (0 : Int) ≤ (k : Int) := by omega
    have hwl := RS.out.bs.lt
    have hn1 : n1 ≤ k := by rw [← RS.out.len1]; exact Nat.le_trans (List.length_filter_le _ _) (List.length_take_le _ _)
    have hn2 : n2 ≤ k := by rw [← RS.out.len2]; exact Nat.le_trans (List.length_filter_le _ _) (List.length_take_le _ _)
    have s0 := (RS.out.bs).at 0 _ rfl
    have s1 := (RS.out.bs).at 1 _ rfl
    have s2 := (RS.out.bs).at 2 _ rfl
    have s3 := (RS.out.bs).at 3 _ rfl
    have s4 := (RS.out.bs).at 4 _ rfl
    have s5 := (RS.out.bs).at 5 _ rfl
    have s6 := (RS.out.bs).at 6 _ rfl
    have s7 := (RS.out.bs).at 7 _ rfl
    have s8 := (RS.out.bs).at 8 _ rfl
    have s9 := (RS.out.bs).at 9 _ rfl
    have s10 := (RS.out.bs).at 10 _ rfl
    have s11 := (RS.out.bs).at 11 _ rfl
    have s12 := (RS.out.bs).at 12 _ rfl
    have s13 := (RS.out.bs).at 13 _ rfl
    have sfz := RS.out.bs.frozen
    by_cases hk : k < l.length
    rotate_left
    · obtain rfl : k = l.length := by omega
      have hi1 : (l.length : Int) ≤ (l.length : Int) := Int.le_refl _
      have hpx : -9223372036854775808 ≤ pd + (n1 : Int) ∧ pd + (n1 : Int) ≤ 9223372036854775807 := by omega
      obtain ⟨hp0, hp1⟩ := hpx
      have r0 := (RS.out.br).at 0 _ rfl
      have r1 := (RS.out.br).at 1 _ rfl
      have r2 := (RS.out.br).at 2 _ rfl
      have r3 := (RS.out.br).at 3 _ rfl
      have r4 := (RS.out.br).at 4 _ rfl
      have r5 := (RS.out.br).at 5 _ rfl
      have r6 := (RS.out.br).at 6 _ rfl
      have r7 := (RS.out.br).at 7 _ rfl
      have r8 := (RS.out.br).at 8 _ rfl
      have r9 := (RS.out.br).at 9 _ rfl
      have r10 := (RS.out.br).at 10 _ rfl
      have r11 := (RS.out.br).at 11 _ rfl
      have r12 := (RS.out.br).at 12 _ rfl
      have r13 := (RS.out.br).at 13 _ rfl
      have rfz := RS.out.br.frozen
      have hlr := RS.out.br.lt
      go_wp2_with fail
      have RF : RSt w _ [.int .i64 le, .int .i64 mo, .int .i64 now, .bool on, .int .i64 ze, .int .i64 fi, .int .i64 hi, .int .i64 d, .int .i64 sp, .int .i64 tr, .slice A2 n2 c2, .int .i64 la, .int .i64 tw, .int .i64 (pd + (n1 : Int))] A1 n1 c1 _ A2 n2 c2 _ := ((RS.out.set 10 (.slice A2 n2 c2)).set 13 (.int .i64 (pd + (n1 : Int)))).set 2 (.int .i64 now)
      have hPP : ∀ (p : TW → Bool), ∀ a ∈ (l.take l.length).filter p, IntsAt w w.heap.size .u8 a.B a.w.m.pl := fun p a ha => HA.out.2 a (List.mem_of_mem_take (List.mem_filter.1 ha).1)
      obtain ⟨BF, F1, F2, F4, F5, UF⟩ := RF.fin [.int .i64 le, .int .i64 mo, .int .i64 now, .bool on, .int .i64 ze, .int .i64 fi, .int .i64 hi, .int .i64 d, .int .i64 sp, .int .i64 tr, .slice A2 n2 c2, .int .i64 la, .int .i64 tw, .int .i64 (pd + (n1 : Int))] rfl (hPP _) (hPP _)
      simp only [setRow, Nat.zero_add, Nat.reduceAdd] at BF F1 F2 UF
      have hd := HDN.out
      have hE1 := RS.out.len1
      have hE2 := RS.out.len2
      rw [List.take_length] at F1 F2 hd hE1 hE2
      obtain ⟨D1, D2⟩ := HD.out
      have hR0 : Jb.run0 ⟨le, mo, nw, on, ze, fi, hi, dn, sp, tr, l.map TW.w, la, tw, pd⟩ now = ⟨le, mo, now, on, ze, fi, hi, d, sp, tr, Jb.left now (l.map TW.w), la, tw, pd + (n1 : Int)⟩ := by
        unfold Jb.run0
        rw [hd, D1, ← hE1, ← D1, List.length_map]
      refine bodyPost_ret (v := .tuple #[.agg (List.toArray [.int .i64 le, .int .i64 mo, .int .i64 now, .bool on, .int .i64 ze, .int .i64 fi, .int .i64 hi, .int .i64 d, .int .i64 sp, .int .i64 tr, .slice A2 n2 c2, .int .i64 la, .int .i64 tw, .int .i64 (pd + (n1 : Int))]), .slice A1 n1 c1, .int .u8 0]) (res_ctt Try.results14 rfl (run_loadVar_row (P := Try.prog) _ _ _ _ _ _ _ BF Try.underlying26 rfl (by kernel_rfl)) rfl rfl) rfl ⟨A1, c1, l.filter (dueT now), A2, c2, l.filter (fun a => !dueT now a), ?_, ?_, ?_, F1, F2, by rw [hE2]; exact F4, F5, UF⟩
      · rw [HRUN.out, hR0, hE1, hE2]; rfl
      · rw [HRUN.out]; exact D1
      · rw [HRUN.out, hR0]; exact D2
    have hi1 : (k : Int) < (l.length : Int) := by omega
    obtain ⟨a, ha⟩ : ∃ a, l[k]? = some a := ⟨_, List.getElem?_eq_getElem hk⟩
    obtain ⟨b, off, rfl, hbB, e0, e1, e2, e3, e4, e5⟩ := rowsW (HA.out.1.keep (fun p hp => RS.out.u.cell hp)) ha
    have HT1 := Lib.hid (take_one ha (dueT now))
    have HT2 := Lib.hid (take_one ha (fun a => !dueT now a))
    obtain ⟨⟨at0, ⟨sq0, ti0, mk0, ty0, pl0⟩⟩, B0, c0⟩ := a
    simp only at e0 e1 e2 e3 e4 e5
    have hbw : b < wr.heap.size := by have := RS.out.u.size; omega
    clear ha
    by_cases c : at0 ≤ now
    · have hat0 : at0 ≤ now := c
      have HDUE : Hid (dueT now ⟨⟨at0, ⟨sq0, ti0, mk0, ty0, pl0⟩⟩, B0, c0⟩ = true) := Lib.hid (by unfold dueT; simpa using c)
      clear c
      go_wp2_with (at_builtin; go_loud (refine wpList_append_at rfl _ _ 24 rfl (w.heap.size + 1 + 1) 50 6 56 (.agg #[.int .i64 0, .int .i64 0, .int .i64 0, .bool false, .int .u8 0, .slice none 0 0]) Try.underlying24 info_w rfl (by decide) A1 n1 c1 _ rfl RS.out.o1 [.int .i64 at0, .int .i64 sq0, .int .i64 ti0, .bool mk0, .int .u8 ty0, .slice B0 pl0.length c0] rfl (by simp [Value.oneCell']) rfl (by unfold maxLen; omega) (by omega) RS.out.hB ?_); intro An cn wn hown hgr hat)
      have RS2 : RSt w wn [.int .i64 le, .int .i64 mo, .int .i64 nw, .bool on, .int .i64 ze, .int .i64 fi, .int .i64 hi, .int .i64 d, .int .i64 sp, .int .i64 tr, .slice (some ⟨b, off, none⟩) l.length qc, .int .i64 la, .int .i64 tw, .int .i64 pd] An (n1 + 1) cn (((l.take k).filter (dueT now)) ++ [⟨⟨at0, ⟨sq0, ti0, mk0, ty0, pl0⟩⟩, B0, c0⟩]) A2 n2 c2 ((l.take k).filter (fun a => !dueT now a)) := RS.out.one hown hgr hat
      have HRS2 := Lib.hid RS2
      have hwl2 := RS2.bs.lt
      obtain ⟨f0, f1, f2, f3, f4, f5⟩ : wn.cell? ⟨b, off + k * 6, none⟩ = some (.int .i64 at0) ∧ wn.cell? ⟨b, off + k * 6 + 1, none⟩ = some (.int .i64 sq0) ∧ wn.cell? ⟨b, off + k * 6 + 2, none⟩ = some (.int .i64 ti0) ∧ wn.cell? ⟨b, off + k * 6 + 3, none⟩ = some (.bool mk0) ∧ wn.cell? ⟨b, off + k * 6 + 4, none⟩ = some (.int .u8 ty0) ∧ wn.cell? ⟨b, off + k * 6 + 5, none⟩ = some (.slice B0 pl0.length c0) := by
        have hx : some b ≠ ownB A1 := fun e => by have := (RS.out.o1.block b e.symm).1; omega
        exact ⟨hgr.cell e0 hx, hgr.cell e1 hx, hgr.cell e2 hx, hgr.cell e3 hx, hgr.cell e4 hx, hgr.cell e5 hx⟩
      clear RS2 hown hgr hat e0 e1 e2 e3 e4 e5 s0 s1 s2 s3 s4 s5 s6 s7 s8 s9 s10 s11 s12 s13 sfz
      have s0 := (HRS2.out.bs).at 0 _ rfl
      have s1 := (HRS2.out.bs).at 1 _ rfl
      have s2 := (HRS2.out.bs).at 2 _ rfl
      have s3 := (HRS2.out.bs).at 3 _ rfl
      have s4 := (HRS2.out.bs).at 4 _ rfl
      have s5 := (HRS2.out.bs).at 5 _ rfl
      have s6 := (HRS2.out.bs).at 6 _ rfl
      have s7 := (HRS2.out.bs).at 7 _ rfl
      have s8 := (HRS2.out.bs).at 8 _ rfl
      have s9 := (HRS2.out.bs).at 9 _ rfl
      have s10 := (HRS2.out.bs).at 10 _ rfl
      have s11 := (HRS2.out.bs).at 11 _ rfl
      have s12 := (HRS2.out.bs).at 12 _ rfl
      have s13 := (HRS2.out.bs).at 13 _ rfl
      have sfz := HRS2.out.bs.frozen
      go_wp2_with fail
      go_region
      all_goals
        go_wp2_with fail
        go_roundg (gk - 1)
        case measure => omega
        case rel =>
          refine ⟨k + 1, An, n1 + 1, cn, A2, n2, c2, max d sq0, by omega, rfl, rfl, by go_num, Lib.hid ?_, Lib.hid ?_⟩
          · rw [HT1.out.1 HDUE.out, List.map_append, List.map_singleton, maxSq_snoc2, ← HDN.out]
          · rw [HT1.out.1 HDUE.out, HT2.out.2 (by simp only [HDUE.out]; rfl)]
            exact (HRS2.out.drewN _).set 7 (.int .i64 (max d sq0))
    · have hat0 : now < at0 := Int.not_le.1 c
      have HDUE : Hid (dueT now ⟨⟨at0, ⟨sq0, ti0, mk0, ty0, pl0⟩⟩, B0, c0⟩ = false) := Lib.hid (by unfold dueT; simpa using c)
      clear c
      go_wp2_with (at_builtin; go_loud (refine wpList_append_at rfl _ _ 24 rfl (w.heap.size + 1 + 1) 50 6 56 (.agg #[.int .i64 0, .int .i64 0, .int .i64 0, .bool false, .int .u8 0, .slice none 0 0]) Try.underlying24 info_w rfl (by decide) A2 n2 c2 _ rfl RS.out.o2 [.int .i64 at0, .int .i64 sq0, .int .i64 ti0, .bool mk0, .int .u8 ty0, .slice B0 pl0.length c0] rfl (by simp [Value.oneCell']) rfl (by unfold maxLen; omega) (by omega) RS.out.hB ?_); intro An cn wn hown hgr hat)
      have RS2 : RSt w wn [.int .i64 le, .int .i64 mo, .int .i64 nw, .bool on, .int .i64 ze, .int .i64 fi, .int .i64 hi, .int .i64 d, .int .i64 sp, .int .i64 tr, .slice (some ⟨b, off, none⟩) l.length qc, .int .i64 la, .int .i64 tw, .int .i64 pd] A1 n1 c1 ((l.take k).filter (dueT now)) An (n2 + 1) cn (((l.take k).filter (fun a => !dueT now a)) ++ [⟨⟨at0, ⟨sq0, ti0, mk0, ty0, pl0⟩⟩, B0, c0⟩]) := (RS.out.swap.one hown hgr hat).swap
      have HRS2 := Lib.hid RS2
      clear RS2 hown hgr hat
      go_wp2_with fail
      go_roundg (gk - 1)
      case measure => omega
      case rel =>
        refine ⟨k + 1, A1, n1, c1, An, n2 + 1, cn, d, by omega, rfl, rfl, by go_num, Lib.hid ?_, Lib.hid ?_⟩
        · rw [HT1.out.2 HDUE.out, ← HDN.out]
        · rw [HT1.out.2 HDUE.out, HT2.out.1 (by simp only [HDUE.out]; rfl)]
          exact HRS2.out
theorem rrun_st (s : Jb.Jt) (A : Option Addr) (l : List TW) (n c : Nat) (now : Int) (w : World) (hq : l.map TW.w = s.q) (hn : l.length = n) (hl : n ≤ 100000) (hcap : n ≤ c) (hcm : c ≤ maxLen) (hA : Wts w w.heap.size A l) (hP : ∀ a ∈ l, a.w.m.pl.length ≤ 1000000000) : Calls Try.prog 14 #[.agg #[.int .i64 s.least, .int .i64 s.most, .int .i64 s.now, .bool s.on, .int .i64 s.zero, .int .i64 s.first, .int .i64 s.high, .int .i64 s.done, .int .i64 s.spread, .int .i64 s.trans, .slice A n c, .int .i64 s.late, .int .i64 s.twice, .int .i64 s.played], .int .i64 now] w (JRunR s now w) := by
  obtain ⟨le, mo, nw, on, ze, fi, hi, dn, sp, tr, q, la, tw, pd⟩ := s
  simp only at hq ⊢
  subst hq
  exact rrun_let le mo nw on ze fi hi dn sp tr A l n c la tw pd now w hn hl hcap hcm hA hP
end Go.Proofs.Ytnaafjdnmbajjaa
/- Layer 30: what is taken waits till its time comes; no program in sight. -/
namespace Go.Proofs.Ytnaafjdnmbajjaa.Jb
open Go.RowKit
set_option linter.unusedVariables false
theorem play_eq (s : Jt) (t : Int) (h : s.ok) (h1 : -281474976710656 ≤ t) (h2 : t ≤ 281474976710656) : play s t = ptime s t := by
  unfold play
  rw [if_pos ⟨h, h1, h2⟩]
/-- what a call of Put answers, as the law asks for it -/
theorem put0_cases (s : Jt) (m : Md) (h : s.ok) (hm : m.ok) (hl : s.late < 281474976710656) (ht : s.twice < 281474976710656) :
    ((put0 s m).2 = 1 ∧ s.now < play (put0 s m).1 m.ti ∧ play (put0 s m).1 m.ti ≤ s.now + 120000 ∧ (put0 s m).1.q = ins s.q ⟨play (put0 s m).1 m.ti, m⟩ ∧ (s.q.any fun w => w.m.sq == m.sq) = false) ∨
    ((put0 s m).2 ≠ 1 ∧ (put0 s m).2 ≠ 0 ∧ (put0 s m).1.q = s.q ∧ (s.now < play (put0 s m).1 m.ti → play (put0 s m).1 m.ti ≤ s.now + 120000 → (put0 s m).1.done < m.sq → (s.q.any fun w => w.m.sq == m.sq) = false → ¬s.q.length < 200)) := by
  have hok := put0_ok s m h hm hl ht
  have hp := play_eq _ m.ti hok hm.2.1.1 hm.2.1.2
  rw [hp]
  clear hp hok
  by_cases h1 : (s.q.any fun w => w.m.sq == m.sq) = true
  · right
    have e : put0 s m = ({ s with twice := s.twice + 1 }, 3) := by unfold put0; rw [if_pos h1]
    rw [e]
    exact ⟨by simp, by simp, rfl, fun _ _ _ h2 => by rw [h1] at h2; cases h2⟩
  by_cases h2 : s.on = true ∧ m.sq ≤ s.done
  · right
    have e : put0 s m = ({ s with late := s.late + 1 }, 2) := by unfold put0; rw [if_neg h1, if_pos h2]
    rw [e]
    exact ⟨by simp, by simp, rfl, fun _ _ h3 => by have h4 : s.done < m.sq := h3; omega⟩
  by_cases h3 : 200 ≤ s.q.length
  · right
    have e : put0 s m = (s, 4) := by unfold put0; rw [if_neg h1, if_neg h2, if_pos h3]
    rw [e]
    exact ⟨by simp, by simp, rfl, fun _ _ _ _ => by show ¬s.q.length < 200; omega⟩
  by_cases h4 : ptime (meas s m) m.ti ≤ s.now
  · right
    have e : put0 s m = ({ (meas s m) with late := (meas s m).late + 1 }, 2) := by unfold put0; rw [if_neg h1, if_neg h2, if_neg h3]; dsimp only; rw [if_pos h4]
    rw [e]
    exact ⟨by simp, by simp, rfl, fun h5 => by have h6 : s.now < ptime (meas s m) m.ti := h5; omega⟩
  by_cases h5 : s.now + 120000 < ptime (meas s m) m.ti
  · right
    have e : put0 s m = (meas s m, 5) := by unfold put0; rw [if_neg h1, if_neg h2, if_neg h3]; dsimp only; rw [if_neg h4, if_pos h5]
    rw [e]
    exact ⟨by simp, by simp, rfl, fun _ h6 => by have h7 : ptime (meas s m) m.ti ≤ s.now + 120000 := h6; omega⟩
  · left
    have e : put0 s m = ({ (meas s m) with q := ins (meas s m).q ⟨ptime (meas s m) m.ti, m⟩ }, 1) := by unfold put0; rw [if_neg h1, if_neg h2, if_neg h3]; dsimp only; rw [if_neg h4, if_neg h5]
    rw [e]
    exact ⟨rfl, by show s.now < ptime (meas s m) m.ti; omega, by show ptime (meas s m) m.ti ≤ s.now + 120000; omega, rfl, by simpa using h1⟩
/-- the law's own insertion: ahead of the first that stands behind -/
def ins' (q : List Wt) (w : Wt) : List Wt := q.takeWhile (fun x => !decide (bef w x)) ++ w :: q.dropWhile (fun x => !decide (bef w x))
theorem while_congr {α : Type} (p r : α → Bool) : ∀ l : List α, (∀ x ∈ l, p x = r x) → l.takeWhile p = l.takeWhile r ∧ l.dropWhile p = l.dropWhile r
  | [], _ => ⟨rfl, rfl⟩
  | a :: l, h => by
    obtain ⟨h1, h2⟩ := while_congr p r l (fun x hx => h x (List.mem_cons_of_mem _ hx))
    have ha := h a List.mem_cons_self
    rw [List.takeWhile_cons, List.takeWhile_cons, List.dropWhile_cons, List.dropWhile_cons, ha, h1, h2]
    exact ⟨rfl, rfl⟩
theorem ins_ins' (q : List Wt) (w : Wt) (h : (q.any fun x => x.m.sq == w.m.sq) = false) : ins q w = ins' q w := by
  have hd : ∀ x ∈ q, decide (bef x w) = !decide (bef w x) := fun x hx => by
    have hne : x.m.sq ≠ w.m.sq := fun e => by
      have : (q.any fun x => x.m.sq == w.m.sq) = true := List.any_eq_true.2 ⟨x, hx, by simpa using e⟩
      rw [h] at this; cases this
    rw [Bool.eq_iff_iff]
    simp only [decide_eq_true_eq, Bool.not_eq_true', decide_eq_false_iff_not]
    unfold bef
    omega
  obtain ⟨h1, h2⟩ := while_congr _ _ q hd
  unfold ins ins'
  rw [h1, h2]
/-- all that waits is due within two minutes -/
def Near (now : Int) (q : List Wt) : Prop := ∀ w ∈ q, w.at_ ≤ now + 120000
theorem near_left {now now' : Int} {q : List Wt} (h : Near now q) (hn : now ≤ now') : Near now' (left now' q) := fun w hw => by
  have := h w ((left_sub now' q).subset hw)
  omega
theorem near_ins {now : Int} {q : List Wt} {w : Wt} (h : Near now q) (hw : w.at_ ≤ now + 120000) : Near now (ins q w) := fun x hx => by
  rcases List.mem_cons.1 ((ins_perm q w).subset hx) with rfl | hx
  · exact hw
  · exact h x hx
theorem near_empty {now : Int} {q : List Wt} (h : Near now q) (hq : q.Pairwise bef) : left (now + 1000000) q = [] := by
  apply List.eq_nil_iff_forall_not_mem.2
  intro w hw
  have h1 := left_gt (now + 1000000) q hq w hw
  have h2 := h w ((left_sub _ q).subset hw)
  omega
end Go.Proofs.Ytnaafjdnmbajjaa.Jb
namespace Go.Proofs.Ytnaafjdnmbajjaa.Jb
open Go.RowKit
set_option linter.unusedVariables false
theorem put0_cnt (s : Jt) (m : Md) : (put0 s m).1.late ≤ s.late + 1 ∧ (put0 s m).1.twice ≤ s.twice + 1 ∧ (put0 s m).1.played = s.played ∧ (put0 s m).1.now = s.now ∧ (put0 s m).1.least = s.least ∧ (put0 s m).1.most = s.most := by
  unfold put0
  split
  · exact ⟨by show s.late ≤ _; omega, Int.le_refl _, rfl, rfl, rfl, rfl⟩
  split
  · exact ⟨Int.le_refl _, by show s.twice ≤ _; omega, rfl, rfl, rfl, rfl⟩
  split
  · exact ⟨by show s.late ≤ _; omega, by show s.twice ≤ _; omega, rfl, rfl, rfl, rfl⟩
  dsimp only
  split
  · exact ⟨Int.le_refl _, by show s.twice ≤ _; omega, rfl, rfl, rfl, rfl⟩
  split
  · exact ⟨by show s.late ≤ _; omega, by show s.twice ≤ _; omega, rfl, rfl, rfl, rfl⟩
  · exact ⟨by show s.late ≤ _; omega, by show s.twice ≤ _; omega, rfl, rfl, rfl, rfl⟩
/-- a state of a stream that is not long: it is valid, and its counts are small -/
structure Small (n : Int) (s : Jt) : Prop where
  ok : s.ok
  late : s.late ≤ n
  twice : s.twice ≤ n
  played : s.played ≤ 200 * n
theorem small_new (l m : Int) (h : cfg l m) : Small 0 (new l m).1 := by
  refine ⟨new_ok l m h, ?_, ?_, ?_⟩ <;> (unfold new; rw [if_pos h]; exact Int.le_refl _)
theorem small_run {n : Int} {s : Jt} (h : Small n s) (hn : n ≤ 1000) (now : Int) (h1 : s.now ≤ now) (h2 : now ≤ 281474976710656) : Small (n + 1) (run0 s now) := by
  have hl : (due now s.q).length ≤ s.q.length := (due_sub now s.q).length_le
  have h200 : s.q.length ≤ 200 := h.ok.2.2.2.2.1
  have hp := h.played
  have h0 := h.late
  have h3 := h.twice
  exact ⟨run0_ok s now h.ok h1 h2 (by omega), by show s.late ≤ _; omega, by show s.twice ≤ _; omega, by show s.played + ((due now s.q).length : Int) ≤ _; omega⟩
theorem run0_keeps (s : Jt) (now : Int) : (run0 s now).late = s.late ∧ (run0 s now).twice = s.twice ∧ (run0 s now).now = now ∧ (run0 s now).q = left now s.q ∧ (run0 s now).least = s.least ∧ (run0 s now).most = s.most := ⟨rfl, rfl, rfl, rfl, rfl, rfl⟩
theorem small_put {n : Int} {s : Jt} (h : Small n s) (hn : n ≤ 1000) (now : Int) (h1 : s.now ≤ now) (h2 : now ≤ 281474976710656) (m : Md) (hm : m.ok) : Small (n + 1) (put0 (run0 s now) m).1 := by
  have hr := small_run h hn now h1 h2
  obtain ⟨c1, c2, c3, _⟩ := put0_cnt (run0 s now) m
  have e1 : (run0 s now).late = s.late := rfl
  have e2 : (run0 s now).twice = s.twice := rfl
  have h3 := h.late
  have h4 := h.twice
  have h5 := hr.played
  exact ⟨put0_ok _ m hr.ok hm (by omega) (by omega), by omega, by omega, by omega⟩
theorem chk_run {s : Jt} {now : Int} (h : s.ok) (h1 : s.now ≤ now) (h2 : now ≤ 281474976710656) : chk s now true = 0 := by
  unfold chk
  rw [if_neg (fun hc => ?_), if_neg (by omega)]
  rcases hc with hc | hc | hc
  · exact hc h
  · omega
  · cases hc
theorem chk_put {s : Jt} {now : Int} {m : Md} (h : s.ok) (h1 : s.now ≤ now) (h2 : now ≤ 281474976710656) (hm : m.ok) : chk s now (decide m.ok) = 0 := by
  rw [decide_eq_true hm]
  exact chk_run h h1 h2
theorem chk_bad {s : Jt} {now : Int} {m : Md} (hm : ¬m.ok) : chk s now (decide m.ok) = 2 := by
  unfold chk
  rw [if_pos (Or.inr (Or.inr (decide_eq_false hm)))]
end Go.Proofs.Ytnaafjdnmbajjaa.Jb
/- Layer 30: what Put of the reference holds in memory while it works. -/
namespace Go.Proofs.Ytnaafjdnmbajjaa
open Go.RowKit
set_option linter.unusedVariables false
set_option linter.unusedSimpArgs false
attribute [local go_sem ↓] run_min_plain run_max_plain
attribute [local go_sem] setCell_drewN alloc_drewN
theorem Z14_no : NoU8 Z14 := by
  intro v hv z e
  subst e
  simp [Z14] at hv
theorem NoU8.set {cs : List Value} (h : NoU8 cs) (i : Nat) (v : Value) (hv : ∀ z, v ≠ .int .u8 z) : NoU8 (cs.set i v) := fun x hx z => by
  rcases List.mem_or_eq_of_mem_set hx with hx | rfl
  · exact h x hx z
  · exact hv z
theorem Blk.congr {w : World} {g : Nat} {t : TypeId} {cs cs' : Array Value} (h : Blk w g t cs) (e : cs = cs') : Blk w g t cs' := e ▸ h
/-- the state's box, the packet's box, the result's box; what was played; the queue -/
structure QSt (w W : World) (cs ms : List Value) (A1 : Option Addr) (l1 : List TW) (A2 : Option Addr) (n2 c2 : Nat) (l2 : List TW) : Prop where
  bs : Blk W w.heap.size 26 cs.toArray
  no : NoU8 cs
  bm : Blk W (w.heap.size + 1) 29 ms.toArray
  br : Blk W (w.heap.size + 1 + 1) 26 Z14.toArray
  u : Bel w W
  p1 : Wts W W.heap.size A1 l1
  p2 : Wts W W.heap.size A2 l2
  len2 : l2.length = n2
  cap : n2 ≤ c2
  cm : c2 ≤ maxLen
section
variable {w W W' : World} {n2 c2 : Nat} {cs ms : List Value} {A1 A2 : Option Addr} {l1 l2 : List TW}
theorem QSt.later (h : QSt w W cs ms A1 l1 A2 n2 c2 l2) (hb : Below W.heap.size W W') : QSt w W' cs ms A1 l1 A2 n2 c2 l2 :=
  ⟨h.bs.later hb, h.no, h.bm.later hb, h.br.later hb, h.u.later hb, h.p1.later hb, h.p2.later hb, h.len2, h.cap, h.cm⟩
theorem QSt.drewN (h : QSt w W cs ms A1 l1 A2 n2 c2 l2) : ∀ k, QSt w (W.drewN k) cs ms A1 l1 A2 n2 c2 l2
  | 0 => h
  | k + 1 => (h.drewN k).later (Below.refl _ _).drew
theorem QSt.set (h : QSt w W cs ms A1 l1 A2 n2 c2 l2) (i : Nat) (v : Value) (hv : ∀ z, v ≠ .int .u8 z) : QSt w (W.setCell ⟨w.heap.size, i, none⟩ v) (cs.set i v) ms A1 l1 A2 n2 c2 l2 := by
  have hk : ∀ p : Addr, p.block ≠ w.heap.size → (W.setCell ⟨w.heap.size, i, none⟩ v).cell? p = W.cell? p := fun p hp => World.cell?_setCell_other W _ p v (fun e => hp (by first | rw [e] | rw [← e]))
  have hs : (W.setCell ⟨w.heap.size, i, none⟩ v).heap.size = W.heap.size := by simp [World.setCell]
  refine ⟨?_, h.no.set i v hv, h.bm.far (by simp) _, h.br.far (by simp; omega) _, below_set_old h.u (Nat.le_refl _) _, ?_, ?_, h.len2, h.cap, h.cm⟩
  · exact (h.bs.set_ i v).congr (by simp)
  · rw [hs]; exact h.p1.keepNe h.bs h.no hk
  · rw [hs]; exact h.p2.keepNe h.bs h.no hk
theorem QSt.row {n3 c3 : Nat} {A3 : Option Addr} {l3 : List TW} (h : QSt w W cs ms A1 l1 A2 n2 c2 l2) (vs : List Value) (hl : cs.length = vs.length) (hv : NoU8 vs) : QSt w (setRow w.heap.size W 0 vs) vs ms A1 l1 A2 n2 c2 l2 :=
  ⟨h.bs.setRow vs (by simpa using hl), hv, h.bm.farRow (by omega) vs W 0, h.br.farRow (by omega) vs W 0, Go.Proofs.Ytnaafjdnmbajjaa.below_setRow (Nat.le_refl _) vs W 0 h.u, by rw [setRow_size]; exact h.p1.setRowNe h.bs h.no vs, by rw [setRow_size]; exact h.p2.setRowNe h.bs h.no vs, h.len2, h.cap, h.cm⟩
/-- the queue is another one -/
theorem QSt.queue {n3 c3 : Nat} {A3 : Option Addr} {l3 : List TW} (h : QSt w W cs ms A1 l1 A2 n2 c2 l2) (hp : Wts W W.heap.size A3 l3) (hl : l3.length = n3) (hc : n3 ≤ c3) (hm : c3 ≤ maxLen) : QSt w W cs ms A1 l1 A3 n3 c3 l3 := ⟨h.bs, h.no, h.bm, h.br, h.u, h.p1, hp, hl, hc, hm⟩
/-- the result is written -/
theorem QSt.fin (h : QSt w W cs ms A1 l1 A2 n2 c2 l2) (vs : List Value) (hl : vs.length = 14) : Blk (setRow (w.heap.size + 1 + 1) W 0 vs) (w.heap.size + 1 + 1) 26 vs.toArray ∧ Wts (setRow (w.heap.size + 1 + 1) W 0 vs) (setRow (w.heap.size + 1 + 1) W 0 vs).heap.size A1 l1 ∧ Wts (setRow (w.heap.size + 1 + 1) W 0 vs) (setRow (w.heap.size + 1 + 1) W 0 vs).heap.size A2 l2 ∧ l2.length = n2 ∧ n2 ≤ c2 ∧ c2 ≤ maxLen ∧ Below w.heap.size w (setRow (w.heap.size + 1 + 1) W 0 vs) :=
  ⟨h.br.setRow vs (by simp [Z14, hl]), by rw [setRow_size]; exact h.p1.setRowNe h.br Z14_no vs, by rw [setRow_size]; exact h.p2.setRowNe h.br Z14_no vs, h.len2, h.cap, h.cm, Go.Proofs.Ytnaafjdnmbajjaa.below_setRow (by omega) vs W 0 h.u⟩
end
/-- the boxes while nothing but the zero result is written -/
structure RA (w W : World) (cs ms : List Value) : Prop where
  bs : Blk W w.heap.size 26 cs.toArray
  bm : Blk W (w.heap.size + 1) 29 ms.toArray
  br : Blk W (w.heap.size + 1 + 1) 26 Z14.toArray
  u : Bel w W
theorem RA.later' {w W W' : World} {cs ms : List Value} (hb : Below W.heap.size W W') (h : RA w W cs ms) : RA w W' cs ms := ⟨h.bs.later hb, h.bm.later hb, h.br.later hb, h.u.later hb⟩
theorem RA.drew {w W : World} {cs ms : List Value} (h : RA w W cs ms) : RA w W.drew cs ms := h.later' (Below.refl _ _).drew
theorem RA.store {w W : World} {cs ms : List Value} (h : RA w W cs ms) : RA w (setRow (w.heap.size + 1 + 1) W 0 Z14) cs ms := ⟨h.bs.farRow (by omega) Z14 W 0, h.bm.farRow (by omega) Z14 W 0, (h.br.setRow Z14 rfl), Go.Proofs.Ytnaafjdnmbajjaa.below_setRow (by omega) Z14 W 0 h.u⟩
theorem any_at {l : List TW} {sq : Int} (h : ((l.map TW.w).any fun x => x.m.sq == sq) = true) : ∃ p, p < l.length ∧ (∀ a, l[p]? = some a → a.w.m.sq = sq) ∧ ∀ k a, k < p → l[k]? = some a → a.w.m.sq ≠ sq := by
  induction l with
  | nil => simp at h
  | cons b l ih =>
    by_cases hb : b.w.m.sq = sq
    · exact ⟨0, by simp, fun a ha => by simp at ha; rw [← ha]; exact hb, fun k a hk => by omega⟩
    · have h2 : ((l.map TW.w).any fun x => x.m.sq == sq) = true := by simpa [hb] using h
      obtain ⟨p, hp, h3, h4⟩ := ih h2
      refine ⟨p + 1, by simp; omega, fun a ha => h3 a (by simpa using ha), fun k a hk ha => ?_⟩
      rcases k with _ | k
      · simp at ha; rw [← ha]; exact hb
      · exact h4 k a (by omega) (by simpa using ha)
theorem any_no {l : List TW} {sq : Int} (h : ((l.map TW.w).any fun x => x.m.sq == sq) = false) {k : Nat} {a : TW} (ha : l[k]? = some a) : a.w.m.sq ≠ sq := fun e => by
  rw [List.any_eq_false] at h
  exact h a.w (List.mem_map.2 ⟨a, List.mem_of_getElem? ha, rfl⟩) (by simpa using e)
theorem foldl_snoc (l : List TW) (k : Nat) (a : TW) (h : l[k]? = some a) (z : Int) : ((l.take (k + 1)).map TW.w).foldl (fun z w => max z (w.at_ + 1)) z = max (((l.take k).map TW.w).foldl (fun z w => max z (w.at_ + 1)) z) (a.w.at_ + 1) := by
  rw [List.take_add_one, h, List.map_append, List.foldl_append]
  rfl
end Go.Proofs.Ytnaafjdnmbajjaa

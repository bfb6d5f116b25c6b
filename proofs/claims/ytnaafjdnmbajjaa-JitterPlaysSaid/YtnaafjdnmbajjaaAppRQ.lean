/- 'append(out, x...)' where out is the call's own and x is a slice of structs, nil, empty or not; slices 's[k:]' of structs. -/
import Derived.Test.YtnaafjdnmbajjaaJtSmall2Q
import Derived.Test.YtnaafjdnmbajjaaOpenRowsQ
import Derived.Test.YtnaafjdnmbajjaaJtPlaysPQ
import Derived.Test.YtnaafjdnmbajjaaJtPutSQ
namespace Go.Proofs.Ytnaafjdnmbajjaa
open Go.RowKit
set_option linter.unusedVariables false
section
variable {P : Program} {w : World} {α : Type}
theorem flat_get2 {row : α → List Value} {size : Nat} (hrow : ∀ a, (row a).length = size) : ∀ (l : List α) (j : Nat) (u : Value), (l.flatMap row)[j]? = some u → ∃ (i k : Nat) (a : α), l[i]? = some a ∧ (row a)[k]? = some u ∧ j = i * size + k
  | [], j, u, h => by simp at h
  | a :: l, j, u, h => by
    rw [List.flatMap_cons] at h
    by_cases hj : j < size
    · rw [List.getElem?_append_left (by rw [hrow]; exact hj)] at h
      exact ⟨0, j, a, rfl, h, by omega⟩
    · rw [List.getElem?_append_right (by rw [hrow]; omega), hrow] at h
      obtain ⟨i, k, b, hi, hk, e⟩ := flat_get2 hrow l _ u h
      exact ⟨i + 1, k, b, by simpa using hi, hk, by rw [Nat.add_mul]; omega⟩
theorem add_add2 (b off j : Nat) : (⟨b, off, none⟩ : Addr).add j = ⟨b, off + j, none⟩ := by
  unfold Addr.add
  split <;> simp_all
theorem rows_cells {row : α → List Value} {size B : Nat} (hrow : ∀ a, (row a).length = size) {ad : Addr} {l : List α} (hr : RowsAt w B size row (some ad) l) : ∀ (j : Nat) (u : Value), (l.flatMap row)[j]? = some u → w.cell? (ad.add j) = some u := by
  intro j u hu
  obtain ⟨i, k, a, hi, hk, rfl⟩ := flat_get2 hrow l j u hu
  obtain ⟨b, off, e, _, hc⟩ := hr (by have := (List.getElem?_eq_some_iff.1 hi).1; omega)
  injection e with e
  subst e
  rw [add_add2, ← Nat.add_assoc]
  exact hc i a hi k u hk
theorem flat_len2 {row : α → List Value} {size : Nat} (hrow : ∀ a, (row a).length = size) : ∀ l : List α, (l.flatMap row).length = l.length * size
  | [] => by simp
  | a :: l => by rw [List.flatMap_cons, List.length_append, hrow, flat_len2 hrow l, List.length_cons, Nat.add_mul]; omega
/-- the run's equation -/
theorem run_append_rows (base : Nat) (t ty e : TypeId) (z : Value) (size bytes : Nat) (ht : P.underlying t = some (.slice e)) (hinfo : (P.info? e).map (fun i => (i.zero, i.size, i.bytes)) = some (some z, size, bytes)) (hzs : z.cells.size = size) (hsz : 0 < size)
    (v : Value) (n : Nat) (xs : List Value) (hown : w.ownsRow base e size v n xs)
    (B : Nat) (row : α → List Value) (hrow : ∀ a, (row a).length = size) (hone : ∀ a, ∀ u ∈ row a, u.oneCell' = true) (A : Option Addr) (c : Nat) (l : List α) (hr : RowsAt w B size row A l) (h63 : n + l.length ≤ maxLen) (hbytes : (n + l.length) * bytes ≤ 140737488355328) (hbase : base ≤ w.heap.size) :
    ∃ A' c' w', (Builtin.append_ #[t, t] ty #[v, .slice A l.length c]).run P w = .ok (.slice A' (n + l.length) c') w' ∧ Owns w' base e size A' (n + l.length) c' (xs ++ l.flatMap row) ∧ w.grownBy w' v.ownBlock ∧
      (ownB A' = v.ownBlock ∨ ownB A' = some w.heap.size) := by
  obtain ⟨i, hi, hz0, hz1, hz2⟩ := info_parts hinfo
  have fin : ∀ v' w', (Builtin.append_ #[t, t] ty #[v, .slice A l.length c]).run P w = .ok v' w' → w'.ownsRow base e size v' (n + l.length) (xs ++ l.flatMap row) → w.grownBy w' v.ownBlock → (v'.ownBlock = v.ownBlock ∨ v'.ownBlock = some w.heap.size) →
      ∃ A' c' w', (Builtin.append_ #[t, t] ty #[v, .slice A l.length c]).run P w = .ok (.slice A' (n + l.length) c') w' ∧ Owns w' base e size A' (n + l.length) c' (xs ++ l.flatMap row) ∧ w.grownBy w' v.ownBlock ∧ (ownB A' = v.ownBlock ∨ ownB A' = some w.heap.size) := by
    intro v' w' h1 h2 h3 h4
    obtain ⟨A', c', rfl⟩ := own_form h2
    rw [ownB_eq] at h4
    exact ⟨A', c', w', h1, h2, h3, h4⟩
  rcases A with _ | ad
  · have hz : l = [] := by
      rcases Nat.eq_zero_or_pos l.length with h0 | h0
      · exact List.eq_nil_of_length_eq_zero h0
      · obtain ⟨b, off, h, _⟩ := hr h0
        cases h
    subst hz
    exact fin v w (append_nothing base t ty e i size ht hi v n xs hown none c rfl) (by simpa using hown) (World.grownBy.refl w _) (.inl rfl)
  · obtain ⟨v', w', hrun, h2, h3, _, h5⟩ := run_append_own_at (P := P) w base t ty e i z size bytes ht hi hz0 hz1 hz2 hzs hsz v n xs hown ad l.length c (l.flatMap row) (flat_len2 hrow l) (rows_cells hrow hr) (by
      intro u hu
      obtain ⟨x, _, hx⟩ := List.mem_flatMap.1 hu
      exact hone x u hx) h63 hbytes hbase
    exact fin v' w' hrun h2 h3 h5
/-- 'out = append(out, x...)' -/
theorem wpList_append_rows {ops : Array Oper} {rest : List Oper} {o : Oper} {a : Act} {Q : Exit → Act → World → Prop} (hgd : o.guard = none) (s x : Operand) (t : TypeId)
    (ho : o.op = .call { callee := .builtin .append, args := #[s, x], argTypes := #[t, t] })
    (base : Nat) (e : TypeId) (size bytes : Nat) (z : Value) (ht : P.underlying t = some (.slice e)) (hinfo : (P.info? e).map (fun i => (i.zero, i.size, i.bytes)) = some (some z, size, bytes)) (hzs : z.cells.size = size) (hsz : 0 < size)
    (A0 : Option Addr) (n c0 : Nat) (xs : List Value) (hs : a.eval s = .slice A0 n c0) (hown : Owns w base e size A0 n c0 xs)
    (B : Nat) (row : α → List Value) (hrow : ∀ a, (row a).length = size) (hone : ∀ a, ∀ u ∈ row a, u.oneCell' = true) (A : Option Addr) (k c : Nat) (l : List α) (hx : a.eval x = .slice A k c) (hr : RowsAt w B size row A l) (hk : l.length = k) (h63 : n + l.length ≤ maxLen) (hbytes : (n + l.length) * bytes ≤ 140737488355328) (hbase : base ≤ w.heap.size) (m : Nat) (hm : n + l.length = m)
    (h : ∀ (A' : Option Addr) (c' : Nat) (w' : World), Owns w' base e size A' m c' (xs ++ l.flatMap row) → w.grownBy w' (ownB A0) → (ownB A' = ownB A0 ∨ ownB A' = some w.heap.size) → wpList P ops Q rest (a.put o.dst (.slice A' m c')) w') :
    wpList P ops Q (o :: rest) a w := by
  subst hm hk
  obtain ⟨A', c', w', hrun, h2, h3, h4⟩ := run_append_rows (P := P) base t o.type e z size bytes ht hinfo hzs hsz (.slice A0 n c0) n xs hown B row hrow hone A c l hr h63 hbytes hbase
  rw [ownB_eq] at h3 h4
  refine wpList_plain hgd fun K hK => ?_
  unfold Oper.wp execOp
  simp only [ho, resolve, invoke, builtin, Sem.run_bind, Sem.run_pure, Result.andThen_ok, List.map_toArray, List.map_cons, List.map_nil, hs, hx, hrun]
  exact hK _ _ (h A' c' w' h2 h3 h4)
/-- 's[n:]' of a slice of structs -/
theorem RowsAt.drop {row : α → List Value} {size B : Nat} {b off : Nat} {l : List α} (h : RowsAt w B size row (some ⟨b, off, none⟩) l) (n : Nat) : RowsAt w B size row (some ⟨b, off + n * size, none⟩) (l.drop n) := fun h0 => by
  obtain ⟨b', off', e, hb, hc⟩ := h (by simp at h0; omega)
  injection e with e
  injection e with e1 e2
  subst e1 e2
  refine ⟨b, off + n * size, rfl, hb, fun i a hi j v hv => ?_⟩
  rw [List.getElem?_drop] at hi
  have := hc (n + i) a hi j v hv
  rwa [Nat.add_mul, ← Nat.add_assoc] at this
theorem RowsAt.nil' {row : α → List Value} {size B : Nat} {A : Option Addr} {l : List α} (h : l.length = 0) : RowsAt w B size row A l := fun h0 => by omega
end
end Go.Proofs.Ytnaafjdnmbajjaa
/- Layer 30: what inserted of the reference holds in memory while it works. -/
namespace Go.Proofs.Ytnaafjdnmbajjaa
open Go.RowKit
set_option linter.unusedVariables false
set_option linter.unusedSimpArgs false
attribute [local go_sem ↓] run_min_plain run_max_plain
attribute [local go_sem] setCell_drewN alloc_drewN
def befB (x a : TW) : Bool := decide (Jb.bef a.w x.w)
def insT (l : List TW) (x : TW) : List TW := l.takeWhile (befB x) ++ x :: l.dropWhile (befB x)
theorem insT_map (l : List TW) (x : TW) : (insT l x).map TW.w = Jb.ins (l.map TW.w) x.w := by
  unfold insT Jb.ins
  rw [List.takeWhile_map, List.dropWhile_map, List.map_append, List.map_cons]
  rfl
theorem while_len (p : TW → Bool) : ∀ l : List TW, l.takeWhile p = l.take (l.takeWhile p).length ∧ l.dropWhile p = l.drop (l.takeWhile p).length ∧ (l.takeWhile p).length ≤ l.length ∧ (∀ k a, k < (l.takeWhile p).length → l[k]? = some a → p a = true) ∧ (∀ a, l[(l.takeWhile p).length]? = some a → p a = false)
  | [] => by simp
  | b :: l => by
    obtain ⟨h1, h2, h3, h4, h5⟩ := while_len p l
    by_cases hb : p b = true
    · simp only [List.takeWhile_cons, List.dropWhile_cons, hb, if_true, List.length_cons, List.take_succ_cons, List.drop_succ_cons]
      refine ⟨by rw [← h1], h2, by omega, fun k a hk ha => ?_, fun a ha => h5 a (by simpa using ha)⟩
      rcases k with _ | k
      · simp at ha; rw [← ha]; exact hb
      · exact h4 k a (by omega) (by simpa using ha)
    · have hb' : p b = false := by simpa using hb
      simp only [List.takeWhile_cons, List.dropWhile_cons, hb', if_false, List.length_nil, List.take_zero, List.drop_zero]
      refine ⟨by simp, by simp, by simp, fun k a hk => by simp at hk, fun a ha => ?_⟩
      simp at ha
      rw [← ha]; exact hb'
theorem row_sixW (a : TW) : (TW.row a).length = 6 := rfl
theorem row_oneW (a : TW) : ∀ u ∈ TW.row a, u.oneCell' = true := by
  intro u hu
  simp [TW.row] at hu
  rcases hu with rfl | rfl | rfl | rfl | rfl | rfl <;> rfl
/-- the box of the new packet; the list that the call makes -/
structure ISt (w W : World) (xr : List Value) (A : Option Addr) (n c : Nat) (l : List TW) : Prop where
  bx : Blk W w.heap.size 50 xr.toArray
  u : Bel w W
  own : Owns W (w.heap.size + 1) 50 6 A n c (l.flatMap TW.row)
  hB : w.heap.size + 1 ≤ W.heap.size
theorem ISt.later {w W W' : World} {xr : List Value} {A : Option Addr} {n c : Nat} {l : List TW} (h : ISt w W xr A n c l) (hb : Below W.heap.size W W') : ISt w W' xr A n c l := ⟨h.bx.later hb, h.u.later hb, h.own.below hb, Nat.le_trans h.hB hb.size⟩
theorem ISt.one {w W W' : World} {xr : List Value} {A An : Option Addr} {n m c cn : Nat} {l l2 : List TW} (h : ISt w W xr A n c l) (ho : Owns W' (w.heap.size + 1) 50 6 An m cn (l.flatMap TW.row ++ l2.flatMap TW.row)) (hg : W.grownBy W' (ownB A)) : ISt w W' xr An m cn (l ++ l2) := by
  have hge : ∀ g, ownB A = some g → w.heap.size + 1 ≤ g := fun g e => (h.own.block g e).1
  exact ⟨h.bx.grown hg (fun e => by have := hge _ e.symm; omega), h.u.grown hg (by have := h.hB; omega) (fun g e => by have := hge g e; omega), by rw [List.flatMap_append]; exact ho, Nat.le_trans h.hB hg.size⟩
theorem ISt.drewN {w W : World} {xr : List Value} {A : Option Addr} {n c : Nat} {l : List TW} (h : ISt w W xr A n c l) : ∀ k, ISt w (W.drewN k) xr A n c l
  | 0 => h
  | k + 1 => (h.drewN k).later (Below.refl _ _).drew
theorem insT_len (l : List TW) (x : TW) : (insT l x).length = l.length + 1 := by
  have h := congrArg List.length (List.takeWhile_append_dropWhile (p := befB x) (l := l))
  unfold insT
  simp only [List.length_append, List.length_cons] at h ⊢
  omega
theorem insT_mem {l : List TW} {x a : TW} (h : a ∈ insT l x) : a = x ∨ a ∈ l := by
  unfold insT at h
  rcases List.mem_append.1 h with h | h
  · exact .inr ((List.takeWhile_sublist _).subset h)
  · rcases List.mem_cons.1 h with h | h
    · exact .inl h
    · exact .inr ((List.dropWhile_sublist _).subset h)
/-- what inserted leaves -/
def RInsR (l : List TW) (x : TW) (w : World) (e : Ending) (w' : World) : Prop :=
  ∃ (A' : Option Addr) (c' : Nat), e = .returned (.slice A' (l.length + 1) c') ∧ Owns w' (w.heap.size + 1) 50 6 A' (l.length + 1) c' ((insT l x).flatMap TW.row) ∧ Below w.heap.size w w'
end Go.Proofs.Ytnaafjdnmbajjaa

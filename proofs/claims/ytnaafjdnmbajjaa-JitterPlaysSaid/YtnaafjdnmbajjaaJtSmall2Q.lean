/- Layer 30: the order of the reference; play times; equal packets. -/
import Derived.Test.YtnaafjdnmbajjaaJtSmall
import Derived.Test.YtnaafjdnmbajjaaMemQ
import Derived.Maps.AppendAt
import Derived.Deep.AppendLies
import Derived.OwnWalk
namespace Go.Proofs.Ytnaafjdnmbajjaa
open Go.RowKit
set_option linter.unusedVariables false
set_option linter.unusedSimpArgs false
attribute [local go_sem ↓] run_min_plain run_max_plain
attribute [local go_sem] setCell_drewN alloc_drewN
set_option maxRecDepth 100000 in
set_option maxHeartbeats 12800000 in
theorem before_any (a0 s0 t0 y0 a1 s1 t1 y1 : Int) (m0 m1 : Bool) (A0 A1 : Option Addr) (n0 c0 n1 c1 : Nat) (w : World) (v : Bool) (hv : v = decide (a0 < a1 ∨ (a0 = a1 ∧ s0 < s1))) : Calls Try.prog 55 #[.agg #[.int .i64 a0, .int .i64 s0, .int .i64 t0, .bool m0, .int .u8 y0, .slice A0 n0 c0], .agg #[.int .i64 a1, .int .i64 s1, .int .i64 t1, .bool m1, .int .u8 y1, .slice A1 n1 c1]] w fun e w' => e = .returned (.bool v) ∧ Below w.heap.size w w' := by
  have hc : (a0 < a1 ∧ v = true) ∨ (a1 ≤ a0 ∧ (a0 == a1) = false ∧ v = false) ∨ (a1 ≤ a0 ∧ (a0 == a1) = true ∧ s0 < s1 ∧ v = true) ∨ (a1 ≤ a0 ∧ (a0 == a1) = true ∧ s1 ≤ s0 ∧ v = false) := by
    by_cases h1 : a0 < a1
    · left; exact ⟨h1, by rw [hv]; simp [h1]⟩
    · right
      by_cases h2 : a0 = a1
      · right
        by_cases h3 : s0 < s1
        · left; exact ⟨by omega, by simpa using h2, h3, by rw [hv, decide_eq_true_iff]; omega⟩
        · right; exact ⟨by omega, by simpa using h2, by omega, by rw [hv, decide_eq_false_iff_not]; omega⟩
      · left; exact ⟨by omega, by simpa using h2, by rw [hv, decide_eq_false_iff_not]; omega⟩
  clear hv
  rcases hc with ⟨h1, rfl⟩ | ⟨h1, h2, rfl⟩ | ⟨h1, h2, h3, rfl⟩ | ⟨h1, h2, h3, rfl⟩
  all_goals
    go_enter Try.func55, Try.ntmps55
    go_wp2_with fail
    go_ret
    exact ⟨by first | rfl | (simp; done) | (simp; omega), (((Below.refl _ _).alloc (Nat.le_refl _) _).alloc (by simp) _)⟩
set_option maxRecDepth 100000 in
set_option maxHeartbeats 12800000 in
theorem playTime_any (le mo nw : Int) (on : Bool) (ze fi hi dn sp tr : Int) (QA : Option Addr) (qn qc : Nat) (la tw pd : Int) (t : Int) (w : World) (z0 : -1125899906842624 ≤ ze) (z1 : ze ≤ 1125899906842624) (f0 : -281474976710656 ≤ fi) (f1 : fi ≤ 281474976710656) (t0 : -281474976710656 ≤ t) (t1 : t ≤ 281474976710656) : Calls Try.prog 33 #[.agg #[.int .i64 le, .int .i64 mo, .int .i64 nw, .bool on, .int .i64 ze, .int .i64 fi, .int .i64 hi, .int .i64 dn, .int .i64 sp, .int .i64 tr, .slice QA qn qc, .int .i64 la, .int .i64 tw, .int .i64 pd], .int .i64 t] w fun e w' => e = .returned (.int .i64 (ze + (t - fi) / 8)) ∧ Below w.heap.size w w' := by
  obtain ⟨d, hd⟩ : ∃ d, d = t - fi := ⟨_, rfl⟩
  have e1 : t - fi = d := hd.symm
  have ew : IntKind.i64.wrap (t - fi) = d := by rw [i64_small _ (by omega) (by omega)]; exact e1
  have k1 := Lib.hid fun W => eighth_any d W (by omega) (by omega)
  rw [e1]
  obtain ⟨y, hy⟩ : ∃ y, y = d / 8 := ⟨_, rfl⟩
  have hyb : -140737488355328 ≤ y ∧ y ≤ 140737488355328 := by omega
  obtain ⟨y0, y1⟩ := hyb
  rw [← hy] at k1 ⊢
  have ez : IntKind.i64.wrap (ze + y) = ze + y := i64_small _ (by omega) (by omega)
  have U := Lib.hid ((Bel.refl w).push (.cells #[.int .i64 le, .int .i64 mo, .int .i64 nw, .bool on, .int .i64 ze, .int .i64 fi, .int .i64 hi, .int .i64 dn, .int .i64 sp, .int .i64 tr, .slice QA qn qc, .int .i64 la, .int .i64 tw, .int .i64 pd] 26))
  clear hd hy
  go_enter Try.func33, Try.ntmps33
  go_wp2_with fail
  go_quiet ((go_at_call 50; exact Calls.quiet_of_same ((k1.out _).mono fun _ _ h => ⟨h.1, h.2.symm⟩)))
  go_wp2_with fail
  go_ret
  exact ⟨by first | rfl | simp, U.out.drewN _⟩
end Go.Proofs.Ytnaafjdnmbajjaa
/- 'append(out, x...)' where out is the call's own and x is a slice of integers, nil, empty or not; slices 's[k:]' of integers. -/
namespace Go.Proofs.Ytnaafjdnmbajjaa
open Go.RowKit
set_option linter.unusedVariables false
section
variable {P : Program} {w : World}
theorem own_form {base size n : Nat} {e : TypeId} {v : Value} {xs : List Value} (h : w.ownsRow base e size v n xs) : ∃ A c, v = .slice A n c := by
  rcases h.2 with ⟨rfl, rfl⟩ | ⟨g, cap, _, hv, _⟩
  · exact ⟨none, 0, rfl⟩
  · exact ⟨_, cap, hv⟩
theorem append_nothing (base : Nat) (t ty e : TypeId) (i : TypeInfo) (size : Nat) (ht : P.underlying t = some (.slice e)) (hi : P.info? e = some i)
    (v : Value) (n : Nat) (xs : List Value) (hown : w.ownsRow base e size v n xs) (A : Option Addr) (c : Nat) (hA : A = none) : (Builtin.append_ #[t, t] ty #[v, .slice A 0 c]).run P w = .ok v w := by
  subst hA
  rcases hown.2 with ⟨rfl, rfl⟩ | ⟨g, cap, cur, rfl, _, _, hnc, _⟩
  · simp [Builtin.append_, run_underlying ht, sizeOf, typeInfo, hi, Builtin.lenOf, Builtin.firstCells]
  · simp [Builtin.append_, run_underlying ht, sizeOf, typeInfo, hi, Builtin.lenOf, Builtin.firstCells, hnc, storeCells]
/-- the run's equation -/
theorem run_append_ints (base : Nat) (t ty e : TypeId) (z : Value) (bytes : Nat) (ht : P.underlying t = some (.slice e)) (hinfo : (P.info? e).map (fun i => (i.zero, i.size, i.bytes)) = some (some z, 1, bytes)) (hzs : z.cells.size = 1)
    (v : Value) (n : Nat) (xs : List Value) (hown : w.ownsRow base e 1 v n xs)
    (B : Nat) (k : IntKind) (A : Option Addr) (c : Nat) (zs : List Int) (hr : IntsAt w B k A zs) (h63 : n + zs.length ≤ maxLen) (hbytes : (n + zs.length) * bytes ≤ 140737488355328) (hbase : base ≤ w.heap.size) :
    ∃ A' c' w', (Builtin.append_ #[t, t] ty #[v, .slice A zs.length c]).run P w = .ok (.slice A' (n + zs.length) c') w' ∧ Owns w' base e 1 A' (n + zs.length) c' (xs ++ zs.map (Value.int k)) ∧ w.grownBy w' v.ownBlock ∧
      (ownB A' = v.ownBlock ∨ ownB A' = some w.heap.size) := by
  obtain ⟨i, hi, hz0, hz1, hz2⟩ := info_parts hinfo
  have fin : ∀ v' w', (Builtin.append_ #[t, t] ty #[v, .slice A zs.length c]).run P w = .ok v' w' → w'.ownsRow base e 1 v' (n + zs.length) (xs ++ zs.map (Value.int k)) → w.grownBy w' v.ownBlock → (v'.ownBlock = v.ownBlock ∨ v'.ownBlock = some w.heap.size) →
      ∃ A' c' w', (Builtin.append_ #[t, t] ty #[v, .slice A zs.length c]).run P w = .ok (.slice A' (n + zs.length) c') w' ∧ Owns w' base e 1 A' (n + zs.length) c' (xs ++ zs.map (Value.int k)) ∧ w.grownBy w' v.ownBlock ∧ (ownB A' = v.ownBlock ∨ ownB A' = some w.heap.size) := by
    intro v' w' h1 h2 h3 h4
    obtain ⟨A', c', rfl⟩ := own_form h2
    rw [ownB_eq] at h4
    exact ⟨A', c', w', h1, h2, h3, h4⟩
  rcases A with _ | ad
  · have hz : zs = [] := by
      rcases Nat.eq_zero_or_pos zs.length with h0 | h0
      · exact List.eq_nil_of_length_eq_zero h0
      · obtain ⟨b, off, h, _⟩ := hr h0
        cases h
    subst hz
    exact fin v w (append_nothing base t ty e i 1 ht hi v n xs hown none c rfl) (by simpa using hown) (World.grownBy.refl w _) (.inl rfl)
  · have hcells : ∀ (j : Nat) (u : Value), (zs.map (Value.int k))[j]? = some u → w.cell? (ad.add j) = some u := by
      intro j u hu
      have hj : j < zs.length := by have := (List.getElem?_eq_some_iff.1 hu).1; simpa using this
      obtain ⟨b, off, h, _, hc⟩ := hr (by omega)
      injection h with h
      subst h
      have := hc j hj
      rw [List.getElem?_map, List.getElem?_eq_getElem hj] at hu
      injection hu with hu
      subst hu
      rw [List.getD_eq_getElem?_getD, List.getElem?_eq_getElem hj] at this
      by_cases h0 : j = 0
      · subst h0; exact this
      · simpa [Addr.add, h0] using this
    obtain ⟨v', w', hrun, h2, h3, _, h5⟩ := run_append_own_at (P := P) w base t ty e i z 1 bytes ht hi hz0 hz1 hz2 hzs (by omega) v n xs hown ad zs.length c (zs.map (Value.int k)) (by simp) hcells (by
      intro u hu
      obtain ⟨x, _, rfl⟩ := List.mem_map.1 hu
      rfl) h63 hbytes hbase
    exact fin v' w' hrun h2 h3 h5
/-- 'out = append(out, x...)' -/
theorem wpList_append_ints {ops : Array Oper} {rest : List Oper} {o : Oper} {a : Act} {Q : Exit → Act → World → Prop} (hgd : o.guard = none) (s x : Operand) (t : TypeId)
    (ho : o.op = .call { callee := .builtin .append, args := #[s, x], argTypes := #[t, t] })
    (base : Nat) (e : TypeId) (bytes : Nat) (z : Value) (ht : P.underlying t = some (.slice e)) (hinfo : (P.info? e).map (fun i => (i.zero, i.size, i.bytes)) = some (some z, 1, bytes)) (hzs : z.cells.size = 1)
    (A0 : Option Addr) (n c0 : Nat) (xs : List Value) (hs : a.eval s = .slice A0 n c0) (hown : Owns w base e 1 A0 n c0 xs)
    (B : Nat) (k : IntKind) (A : Option Addr) (c : Nat) (zs : List Int) (hx : a.eval x = .slice A zs.length c) (hr : IntsAt w B k A zs) (h63 : n + zs.length ≤ maxLen) (hbytes : (n + zs.length) * bytes ≤ 140737488355328) (hbase : base ≤ w.heap.size) (m : Nat) (hm : n + zs.length = m)
    (h : ∀ (A' : Option Addr) (c' : Nat) (w' : World), Owns w' base e 1 A' m c' (xs ++ zs.map (Value.int k)) → w.grownBy w' (ownB A0) → (ownB A' = ownB A0 ∨ ownB A' = some w.heap.size) → wpList P ops Q rest (a.put o.dst (.slice A' m c')) w') :
    wpList P ops Q (o :: rest) a w := by
  subst hm
  obtain ⟨A', c', w', hrun, h2, h3, h4⟩ := run_append_ints (P := P) base t o.type e z bytes ht hinfo hzs (.slice A0 n c0) n xs hown B k A c zs hr h63 hbytes hbase
  rw [ownB_eq] at h3 h4
  refine wpList_plain hgd fun K hK => ?_
  unfold Oper.wp execOp
  simp only [ho, resolve, invoke, builtin, Sem.run_bind, Sem.run_pure, Result.andThen_ok, List.map_toArray, List.map_cons, List.map_nil, hs, hx, hrun]
  exact hK _ _ (h A' c' w' h2 h3 h4)
end
theorem own_late {A : Option Addr} {B : Nat} (h : ownB A = ownB none ∨ ownB A = some B) : ∀ g, ownB A = some g → B ≤ g := fun g e => by
  rcases h with h | h
  · rw [h] at e; cases e
  · rw [h] at e; injection e with e; omega
/-- 's[n:]' of a slice of integers, as the walk writes it -/
theorem IntsAt.cut {w : World} {B c n : Nat} {k : IntKind} {A : Option Addr} {zs : List Int} (h : IntsAt w B k A zs) (hc : zs.length ≤ c) : IntsAt w B k (if c = n then A else A.map (fun x => x.add n)) (zs.drop n) := fun h0 => by
  have hn : n < zs.length := by simp at h0; omega
  obtain ⟨b, off, rfl, hd⟩ := h.drop n hn
  rw [if_neg (by omega)]
  obtain ⟨b2, off2, he, hb, hcell⟩ := hd h0
  injection he with he
  injection he with e1 e2
  subst e1 e2
  refine ⟨b, off + n, ?_, hb, hcell⟩
  simp only [Option.map_some, Addr.add]
  by_cases hz : n = 0
  · subst hz; rfl
  · rw [if_neg hz]
theorem IntsAt.cut1 {w : World} {B c n : Nat} {k : IntKind} {A : Option Addr} {zs : List Int} (h : IntsAt w B k A zs) (hc : zs.length ≤ c) (hcn : ¬c = n) : IntsAt w B k (A.map (fun x => x.add n)) (zs.drop n) := by
  have := h.cut (n := n) hc
  rwa [if_neg hcn] at this
theorem IntsAt.cut2 {w : World} {B c n : Nat} {k : IntKind} {A : Option Addr} {zs : List Int} (h : IntsAt w B k A zs) (hc : zs.length ≤ c) (hcn : c = n) : IntsAt w B k A (zs.drop n) := by
  have := h.cut (n := n) hc
  rwa [if_pos hcn] at this
end Go.Proofs.Ytnaafjdnmbajjaa

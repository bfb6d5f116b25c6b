/- Layer 30: slices.Insert, whatever the place and the room. -/
import Derived.Test.YtnaafjdnmbajjaaJtInsQ
import Derived.Test.YtnaafjdnmbajjaaJtRunXQ
namespace Go.Proofs.Ytnaafjdnmbajjaa
open Go.RowKit
set_option linter.unusedVariables false
set_option linter.unusedSimpArgs false
theorem flat_take {α : Type} {row : α → List Value} {k : Nat} (hr : ∀ a, (row a).length = k) : ∀ (l : List α) (i : Nat), (l.take i).flatMap row = (l.flatMap row).take (i * k) ∧ (l.drop i).flatMap row = (l.flatMap row).drop (i * k)
  | [], i => by simp
  | a :: l, 0 => by simp
  | a :: l, i + 1 => by
    obtain ⟨h1, h2⟩ := flat_take hr l i
    have e : (i + 1) * k = (row a).length + i * k := by rw [hr, Nat.add_mul]; omega
    simp only [List.take_succ_cons, List.drop_succ_cons, List.flatMap_cons, h1, h2, e]
    rw [List.take_length_add_append, List.drop_length_add_append]
    exact ⟨rfl, rfl⟩
theorem flat_len {α : Type} {row : α → List Value} {k : Nat} (hr : ∀ a, (row a).length = k) : ∀ l : List α, (l.flatMap row).length = l.length * k
  | [] => by simp
  | a :: l => by rw [List.flatMap_cons, List.length_append, hr, flat_len hr l, List.length_cons, Nat.add_mul]; omega
theorem row_len (a : TW) : a.row.length = 6 := rfl
theorem row_one (a : TW) : ∀ v ∈ a.row, v.oneCell' = true := by
  intro v hv
  simp [TW.row] at hv
  rcases hv with rfl | rfl | rfl | rfl | rfl | rfl <;> rfl
theorem rows_one (l : List TW) : ∀ v ∈ l.flatMap TW.row, v.oneCell' = true := by
  intro v hv
  obtain ⟨a, _, hv⟩ := List.mem_flatMap.1 hv
  exact row_one a v hv
/-- what Insert leaves, as a queue -/
def QInsR (base n : Nat) (l' : List TW) (w : World) (e : Ending) (w' : World) : Prop :=
  ∃ (A' : Option Addr) (c' : Nat), e = .returned (.slice A' (n + 1) c') ∧ QOwn w' base A' (n + 1) c' l' ∧ Below base w w'
theorem QOwn.ins {w w' : World} {base n c c' i : Nat} {A A' : Option Addr} {l : List TW} {a : TW} (h : QOwn w base A n c l) (hbase : base ≤ w.heap.size) (hi : i ≤ n)
    (hown : Owns w' base 50 6 A' (n + 1) c' ((l.take i ++ a :: l.drop i).flatMap TW.row)) (hg : w.grownBy w' (ownB A)) (hat : ownB A' = ownB A ∨ ∀ g, ownB A' = some g → w.heap.size ≤ g)
    (hpay : IntsAt w w.heap.size .u8 a.B a.w.m.pl) (hfar : 0 < a.w.m.pl.length → ∀ b off, a.B = some ⟨b, off, none⟩ → some b ≠ ownB A) (hnew : 0 < a.w.m.pl.length → ∀ b off, a.B = some ⟨b, off, none⟩ → base ≤ b) :
    QOwn w' base A' (n + 1) c' (l.take i ++ a :: l.drop i) ∧ Below base w w' := by
  have hl := h.len
  have hsz := hg.size
  have hmem : ∀ x, x ∈ l.take i ++ a :: l.drop i → x ∈ l ∨ x = a := by
    intro x hx
    rcases List.mem_append.1 hx with hx | hx
    · exact .inl (List.mem_of_mem_take hx)
    · rcases List.mem_cons.1 hx with rfl | hx
      · exact .inr rfl
      · exact .inl (List.mem_of_mem_drop hx)
  have hall : ∀ x, x ∈ l.take i ++ a :: l.drop i → IntsAt w w.heap.size .u8 x.B x.w.m.pl ∧ (0 < x.w.m.pl.length → ∀ b off, x.B = some ⟨b, off, none⟩ → some b ≠ ownB A) ∧ (0 < x.w.m.pl.length → ∀ b off, x.B = some ⟨b, off, none⟩ → base ≤ b) := by
    intro x hx
    rcases hmem x hx with hx | rfl
    · exact ⟨h.pay x hx, h.far x hx, h.new x hx⟩
    · exact ⟨hpay, hfar, hnew⟩
  refine ⟨⟨?_, hown, fun x hx h0 => ?_, fun x hx h0 b off e => ?_, fun x hx => (hall x hx).2.2⟩, ?_⟩
  · simp [hl]; omega
  · obtain ⟨p, f, _⟩ := hall x hx
    obtain ⟨b, off, e, hlt, hc⟩ := p h0
    exact ⟨b, off, e, by omega, fun k hk => hg.cell (hc k hk) (f h0 b off e)⟩
  · obtain ⟨p, f, _⟩ := hall x hx
    rcases hat with e2 | e2
    · rw [e2]; exact f h0 b off e
    · intro he
      have h9 := e2 b he.symm
      obtain ⟨b', off', e', hlt, _⟩ := p h0
      rw [e] at e'
      injection e' with e'
      injection e' with e1 _
      omega
  · exact (Below.refl base w).grown hg hbase (fun g e => (h.own.block g e).1)
theorem insert_any (base n c i vb : Nat) (A : Option Addr) (l : List TW) (a : TW) (w : World) (hn : n ≤ 100000) (hbase : base ≤ w.heap.size) (hQ : QOwn w base A n c l) (hi : i ≤ n) (hV : Blk w vb 50 a.row.toArray) (hvA : some vb ≠ ownB A)
    (hpay : IntsAt w w.heap.size .u8 a.B a.w.m.pl) (hfar : 0 < a.w.m.pl.length → ∀ b off, a.B = some ⟨b, off, none⟩ → some b ≠ ownB A) (hnew : 0 < a.w.m.pl.length → ∀ b off, a.B = some ⟨b, off, none⟩ → base ≤ b) :
    Calls Try.prog 37 #[.slice A n c, .int .i64 i, .slice (some ⟨vb, 0, none⟩) 1 1] w (QInsR base n (l.take i ++ a :: l.drop i) w) := by
  have hfl : (l.flatMap TW.row).length = n * 6 := by rw [flat_len row_len, hQ.len]
  have hys : (l.take i ++ a :: l.drop i).flatMap TW.row = (l.flatMap TW.row).take (i * 6) ++ (a.row ++ (l.flatMap TW.row).drop (i * 6)) := by
    rw [List.flatMap_append, List.flatMap_cons, (flat_take (k := 6) row_len l i).1, (flat_take (k := 6) row_len l i).2]
  by_cases hin : i = n
  · subst hin
    refine (insert_end base i c vb A (l.flatMap TW.row) a.row w hn hbase hQ.own hV rfl (row_one a)).mono ?_
    rintro e w' ⟨A', c', rfl, hown, hg, hat⟩
    have h := hQ.ins (a := a) (i := i) hbase hi (by rw [hys, List.take_of_length_le (by omega), List.drop_of_length_le (by omega), List.append_nil]; exact hown) hg hat hpay hfar hnew
    exact ⟨A', c', rfl, h.1, h.2⟩
  obtain ⟨g, hA, hbg, hlt⟩ := hQ.own.form (by omega)
  subst hA
  obtain ⟨hxl, hcase⟩ := hQ.own
  obtain ⟨cur, hheap, hnc, hcm, hcs, hct⟩ : ∃ cur : Array Value, w.heap[g]? = some (.cells cur 50 (0, 0)) ∧ n ≤ c ∧ c ≤ maxLen ∧ cur.size = c * 6 ∧ cur.toList.take (n * 6) = l.flatMap TW.row := by
    rcases hcase with ⟨hv, _⟩ | ⟨g', cap, cur, hv, _, h1, h2, h3, h4, h5⟩
    · injection hv with h1; cases h1
    · injection hv with e1 e2 e3
      injection e1 with e1
      injection e1 with e1 _
      subst e1 e3
      exact ⟨cur, h1, h2, h3, h4, h5⟩
  clear hcase
  have hvg : vb ≠ g := fun e => hvA (by rw [e]; rfl)
  by_cases hroom : n + 1 ≤ c
  · refine (insert_room g n c i vb cur a.row w (by omega) hroom hcm hvg hheap hV rfl hcs (by rw [hct]; exact rows_one l) (row_one a)).mono ?_
    rintro e w' ⟨rfl, hB, hg⟩
    have hl6 : cur.toList.length = c * 6 := by simpa using hcs
    have hdl : (cur.toList.drop (i * 6)).take ((n - i) * 6) = (l.flatMap TW.row).drop (i * 6) := by rw [← hct, List.drop_take, show (n - i) * 6 = n * 6 - i * 6 by omega]
    have htl : cur.toList.take (i * 6) = (l.flatMap TW.row).take (i * 6) := by rw [← hct, List.take_take, Nat.min_eq_left (by omega)]
    have hown : Owns w' base 50 6 (some ⟨g, 0, none⟩) (n + 1) c ((l.take i ++ a :: l.drop i).flatMap TW.row) := by
      refine ⟨by rw [flat_len row_len]; simp [hQ.len]; omega, .inr ⟨g, c, _, rfl, hbg, hB, hroom, hcm, ?_, ?_⟩⟩
      · simp only [List.size_toArray, List.length_append, List.length_take, List.length_drop, hl6, TW.row, List.length_cons, List.length_nil]
        omega
      · rw [hys, hdl, htl]
        show List.take _ (_ ++ (a.row ++ (_ ++ _))) = _
        have e1 : (l.flatMap TW.row).take (i * 6) ++ (a.row ++ ((l.flatMap TW.row).drop (i * 6) ++ cur.toList.drop ((n + 1) * 6))) = ((l.flatMap TW.row).take (i * 6) ++ (a.row ++ (l.flatMap TW.row).drop (i * 6))) ++ cur.toList.drop ((n + 1) * 6) := by simp only [List.append_assoc]
        have e2 : ((l.flatMap TW.row).take (i * 6) ++ (a.row ++ (l.flatMap TW.row).drop (i * 6))).length = (n + 1) * 6 := by
          simp only [List.length_append, List.length_take, List.length_drop, hfl, TW.row, List.length_cons, List.length_nil]; omega
        rw [e1, ← e2, List.take_left]
    have h := hQ.ins (a := a) (i := i) hbase hi hown hg (.inl rfl) hpay hfar hnew
    exact ⟨_, c, rfl, h.1, h.2⟩
  · have hcn : c = n := by omega
    subst hcn
    refine (insert_grow g c i vb (l.flatMap TW.row) a.row w (by omega) hn hV.lt hlt (fun j v hj => ?_) hfl hV rfl (rows_one l) (row_one a)).mono ?_
    · have h9 := World.ownsRow.cells (g := g) hQ.own rfl j v hj
      rw [Addr.add_lit, Nat.zero_add] at h9
      exact h9
    · rintro e w' ⟨G, hG1, hG2, rfl, ⟨row, hr1, hr2, hr3⟩, hg⟩
      have hown : Owns w' base 50 6 (some ⟨w.heap.size, 0, none⟩) (c + 1) G ((l.take i ++ a :: l.drop i).flatMap TW.row) := by
        refine ⟨by rw [flat_len row_len]; simp [hQ.len]; omega, .inr ⟨w.heap.size, G, row.toArray, rfl, hbase, hr3, hG1, hG2, by simpa using hr1, ?_⟩⟩
        rw [hys]
        exact hr2
      have hg' : w.grownBy w' (ownB (some ⟨g, 0, none⟩)) := ⟨hg.os, hg.tape, hg.output, hg.size, fun k hk _ => hg.block k hk (by simp)⟩
      have h := hQ.ins (a := a) (i := i) hbase hi hown hg' (.inr fun g' e => by injection e with e; rw [← e]; exact Nat.le_refl _) hpay hfar hnew
      exact ⟨_, G, rfl, h.1, h.2⟩
end Go.Proofs.Ytnaafjdnmbajjaa
/- Layer 30: measure. -/
namespace Go.Proofs.Ytnaafjdnmbajjaa
open Go.RowKit
set_option linter.unusedVariables false
set_option linter.unusedSimpArgs false
attribute [local go_sem ↓] run_min_plain run_max_plain
attribute [local go_sem] setCell_drewN alloc_drewN
theorem meas_sp_lt {sp T tr : Int} (h : T < tr) : sp + (tr - T - (sp + 8) / 16) = sp + max (T - tr) (tr - T) - (sp + 8) / 16 := by omega
theorem meas_sp_ge {sp T tr : Int} (h : tr ≤ T) : sp + (T - tr - (sp + 8) / 16) = sp + max (T - tr) (tr - T) - (sp + 8) / 16 := by omega
/-- what measure leaves -/
def MeasR (s : Jb.Jt) (m : Jb.Md) (A : Option Addr) (n c : Nat) (w : World) (e : Ending) (w' : World) : Prop := e = .returned (JV (Jb.meas s m) A n c) ∧ Below w.heap.size w w'
set_option maxRecDepth 100000 in
set_option maxHeartbeats 12800000 in
theorem measure_off0 (le mo nw : Int) (ze fi hi dn sp tr : Int) (A : Option Addr) (l : List TW) (n qc : Nat) (la tw pd : Int) (sq ti : Int) (mk : Bool) (ty : Int) (MA : Option Addr) (mn mc : Nat) (w : World) (hn : l.length = n) (hl : n ≤ 200) (hA : Wts w w.heap.size A l) (n0 : 0 ≤ nw) (n1 : nw ≤ 281474976710656) (t0 : -281474976710656 ≤ ti) (t1 : ti ≤ 281474976710656) (r0 : -1125899906842624 ≤ tr) (r1 : tr ≤ 1125899906842624) (s0 : 0 ≤ sp) (s1 : sp ≤ 72057594037927936) (c0 : 1 ≤ le) (c1 : le ≤ mo) (c2 : mo ≤ 1000) (hAt : ∀ a ∈ l, 0 ≤ a.w.at_ ∧ a.w.at_ ≤ 562949953421312) (pl : List Int) (h0 : n = 0) : Calls Try.prog 32 #[.agg #[.int .i64 le, .int .i64 mo, .int .i64 nw, .bool false, .int .i64 ze, .int .i64 fi, .int .i64 hi, .int .i64 dn, .int .i64 sp, .int .i64 tr, .slice A n qc, .int .i64 la, .int .i64 tw, .int .i64 pd], .agg #[.int .i64 sq, .int .i64 ti, .bool mk, .int .u8 ty, .slice MA mn mc]] w (MeasR ⟨le, mo, nw, false, ze, fi, hi, dn, sp, tr, l.map TW.w, la, tw, pd⟩ ⟨sq, ti, mk, ty, pl⟩ A n qc w) := by
  obtain rfl : l = [] := List.eq_nil_of_length_eq_zero (by omega)
  subst h0
  obtain ⟨y, hy⟩ : ∃ y, y = ti / 8 := ⟨_, rfl⟩
  have k1 := Lib.hid fun W => eighth_any ti W (by omega) (by omega)
  rw [← hy] at k1
  have hyb : -35184372088832 ≤ y ∧ y ≤ 35184372088832 := by omega
  obtain ⟨y0, y1⟩ := hyb
  obtain ⟨T, hT⟩ : ∃ T, T = nw - y := ⟨_, rfl⟩
  have e1 : nw - y = T := hT.symm
  have ew : IntKind.i64.wrap (nw - y) = T := by rw [i64_small _ (by omega) (by omega)]; exact e1
  have HT := Lib.hid hT
  have HY := Lib.hid hy
  have T0 : -1000000000000000 ≤ T := by omega
  have T1 : T ≤ 1000000000000000 := by omega
  have HA := Lib.hid hA
  have HAT := Lib.hid hAt
  clear hT hy hA hAt
  go_enter Try.func32, Try.ntmps32
  go_wp2_with fail
  go_quiet ((go_at_call 50; exact Calls.quiet_of_same ((k1.out _).mono fun _ _ h => ⟨h.1, h.2.symm⟩)))
  go_wp2_with fail
  have BF : Blk ((((w.alloc (.cells #[.int .i64 le, .int .i64 mo, .int .i64 nw, .bool true, .int .i64 (nw + min (le + sp / 4) mo), .int .i64 ti, .int .i64 (max hi sq), .int .i64 dn, .int .i64 sp, .int .i64 T, .slice A 0 qc, .int .i64 la, .int .i64 tw, .int .i64 pd] 26)).alloc (.cells #[.int .i64 sq, .int .i64 ti, .bool mk, .int .u8 ty, .slice MA mn mc] 29)).alloc (.cells #[.int .i64 le, .int .i64 mo, .int .i64 nw, .bool true, .int .i64 (nw + min (le + sp / 4) mo), .int .i64 ti, .int .i64 (max hi sq), .int .i64 dn, .int .i64 sp, .int .i64 T, .slice A 0 qc, .int .i64 la, .int .i64 tw, .int .i64 pd] 26)).drewN nq) (w.heap.size + 1 + 1) 26 #[.int .i64 le, .int .i64 mo, .int .i64 nw, .bool true, .int .i64 (nw + min (le + sp / 4) mo), .int .i64 ti, .int .i64 (max hi sq), .int .i64 dn, .int .i64 sp, .int .i64 T, .slice A 0 qc, .int .i64 la, .int .i64 tw, .int .i64 pd] := by
    have h9 := Blk.new ((w.alloc (.cells #[.int .i64 le, .int .i64 mo, .int .i64 nw, .bool true, .int .i64 (nw + min (le + sp / 4) mo), .int .i64 ti, .int .i64 (max hi sq), .int .i64 dn, .int .i64 sp, .int .i64 T, .slice A 0 qc, .int .i64 la, .int .i64 tw, .int .i64 pd] 26)).alloc (.cells #[.int .i64 sq, .int .i64 ti, .bool mk, .int .u8 ty, .slice MA mn mc] 29)) 26 #[.int .i64 le, .int .i64 mo, .int .i64 nw, .bool true, .int .i64 (nw + min (le + sp / 4) mo), .int .i64 ti, .int .i64 (max hi sq), .int .i64 dn, .int .i64 sp, .int .i64 T, .slice A 0 qc, .int .i64 la, .int .i64 tw, .int .i64 pd]
    rw [size_alloc2] at h9
    exact h9.drewN _
  have hM : Jb.meas ⟨le, mo, nw, false, ze, fi, hi, dn, sp, tr, [].map TW.w, la, tw, pd⟩ ⟨sq, ti, mk, ty, pl⟩ = ⟨le, mo, nw, true, (nw + min (le + sp / 4) mo), ti, max hi sq, dn, sp, T, [], la, tw, pd⟩ := by
    unfold Jb.meas Jb.lastAt
    simp [← HY.out, ← HT.out]
  refine bodyPost_ret (v := .agg #[.int .i64 le, .int .i64 mo, .int .i64 nw, .bool true, .int .i64 (nw + min (le + sp / 4) mo), .int .i64 ti, .int .i64 (max hi sq), .int .i64 dn, .int .i64 sp, .int .i64 T, .slice A 0 qc, .int .i64 la, .int .i64 tw, .int .i64 pd]) (res_c Try.results32 rfl (run_loadVar_row (P := Try.prog) _ _ _ _ _ _ _ BF Try.underlying26 rfl (by kernel_rfl))) rfl ⟨by rw [hM]; rfl, ?_⟩
  exact Bel.drewN (((((Bel.refl w).push _).push _).push _)) _
set_option maxRecDepth 100000 in
set_option maxHeartbeats 12800000 in
theorem measure_off1 (le mo nw : Int) (ze fi hi dn sp tr : Int) (A : Option Addr) (l : List TW) (n qc : Nat) (la tw pd : Int) (sq ti : Int) (mk : Bool) (ty : Int) (MA : Option Addr) (mn mc : Nat) (w : World) (hn : l.length = n) (hl : n ≤ 200) (hA : Wts w w.heap.size A l) (n0 : 0 ≤ nw) (n1 : nw ≤ 281474976710656) (t0 : -281474976710656 ≤ ti) (t1 : ti ≤ 281474976710656) (r0 : -1125899906842624 ≤ tr) (r1 : tr ≤ 1125899906842624) (s0 : 0 ≤ sp) (s1 : sp ≤ 72057594037927936) (c0 : 1 ≤ le) (c1 : le ≤ mo) (c2 : mo ≤ 1000) (hAt : ∀ a ∈ l, 0 ≤ a.w.at_ ∧ a.w.at_ ≤ 562949953421312) (pl : List Int) (h0 : 0 < n) : Calls Try.prog 32 #[.agg #[.int .i64 le, .int .i64 mo, .int .i64 nw, .bool false, .int .i64 ze, .int .i64 fi, .int .i64 hi, .int .i64 dn, .int .i64 sp, .int .i64 tr, .slice A n qc, .int .i64 la, .int .i64 tw, .int .i64 pd], .agg #[.int .i64 sq, .int .i64 ti, .bool mk, .int .u8 ty, .slice MA mn mc]] w (MeasR ⟨le, mo, nw, false, ze, fi, hi, dn, sp, tr, l.map TW.w, la, tw, pd⟩ ⟨sq, ti, mk, ty, pl⟩ A n qc w) := by
  subst hn
  obtain ⟨y, hy⟩ : ∃ y, y = ti / 8 := ⟨_, rfl⟩
  have k1 := Lib.hid fun W => eighth_any ti W (by omega) (by omega)
  rw [← hy] at k1
  have hyb : -35184372088832 ≤ y ∧ y ≤ 35184372088832 := by omega
  obtain ⟨y0, y1⟩ := hyb
  obtain ⟨T, hT⟩ : ∃ T, T = nw - y := ⟨_, rfl⟩
  have e1 : nw - y = T := hT.symm
  have ew : IntKind.i64.wrap (nw - y) = T := by rw [i64_small _ (by omega) (by omega)]; exact e1
  have HT := Lib.hid hT
  have HY := Lib.hid hy
  have T0 : -1000000000000000 ≤ T := by omega
  have T1 : T ≤ 1000000000000000 := by omega
  have HA := Lib.hid hA
  have HAT := Lib.hid hAt
  clear hT hy hA hAt
  have h0' : (0 : Int) < (l.length : Int) := by omega
  have h0n : ¬l.length = 0 := by omega
  have h0l : ¬l = [] := by intro h; rw [h] at h0n; exact h0n rfl
  obtain ⟨a, ha⟩ : ∃ a, l[l.length - 1]? = some a := ⟨_, List.getElem?_eq_getElem (by omega)⟩
  obtain ⟨b, off, rfl, hbB, e0, q1, q2, q3, q4, q5⟩ := rowsW HA.out.1 ha
  obtain ⟨z0, z1⟩ := HAT.out a (List.mem_of_getElem? ha)
  have hgd : (l.map TW.w).getD (l.length - 1) Jb.Wt.zero = a.w := by simp [List.getD_eq_getElem?_getD, ha]
  have HGD := Lib.hid hgd
  obtain ⟨at0, hat0⟩ : ∃ x, x = a.w.at_ := ⟨_, rfl⟩
  rw [← hat0] at e0 z0 z1
  have HAT0 := Lib.hid hat0
  obtain ⟨m, hm⟩ : ∃ m, l.length = m + 1 := ⟨l.length - 1, by omega⟩
  rw [hm, Nat.add_sub_cancel] at e0
  have HMM := Lib.hid hm
  have hw1 : IntKind.i64.wrap ((l.length : Int) - 1) = (m : Int) := by rw [i64_small _ (by omega) (by omega)]; omega
  have hw3 : (l.length : Int) - 1 = (m : Int) := by omega
  have hm0 : (0 : Int) ≤ (m : Int) := by omega
  have hm1 : (m : Int) < (l.length : Int) := by omega
  have hm2 : m < l.length := by omega
  have hw5 : IntKind.i64.wrap (at0 + 1) = at0 + 1 := i64_small _ (by omega) (by omega)
  have hce : ∀ o1 o2 o3 : Obj, (((w.alloc o1).alloc o2).alloc o3).cell? ⟨b, off + m * 6, none⟩ = some (.int .i64 at0) := fun o1 o2 o3 => by
    rw [World.cell?_alloc_lt _ _ _ (by simp; omega), World.cell?_alloc_lt _ _ _ (by simp; omega), World.cell?_alloc_lt _ _ _ (by exact hbB)]; exact e0
  have hb1 : ¬b = w.heap.size := by omega
  have hb2 : ¬b = w.heap.size + 1 := by omega
  have hb3 : ¬b = w.heap.size + 1 + 1 := by omega
  clear ha hgd hat0 hm q1 q2 q3 q4 q5 h0
  go_enter Try.func32, Try.ntmps32
  go_wp2_with fail
  go_quiet ((go_at_call 50; exact Calls.quiet_of_same ((k1.out _).mono fun _ _ h => ⟨h.1, h.2.symm⟩)))
  go_wp2_with fail
  go_region
  go_wp2_with fail
  have hla : ∀ z, Jb.lastAt z (l.map TW.w) = max z (at0 + 1) := by
    intro z
    unfold Jb.lastAt
    rw [if_neg (by simp; omega), List.length_map, HGD.out, ← HAT0.out]
  have BF : Blk ((((w.alloc (.cells #[.int .i64 le, .int .i64 mo, .int .i64 nw, .bool true, .int .i64 (max (nw + min (le + sp / 4) mo) (at0 + 1)), .int .i64 ti, .int .i64 (max hi sq), .int .i64 dn, .int .i64 sp, .int .i64 T, .slice (some ⟨b, off, none⟩) l.length qc, .int .i64 la, .int .i64 tw, .int .i64 pd] 26)).alloc (.cells #[.int .i64 sq, .int .i64 ti, .bool mk, .int .u8 ty, .slice MA mn mc] 29)).alloc (.cells #[.int .i64 le, .int .i64 mo, .int .i64 nw, .bool true, .int .i64 (max (nw + min (le + sp / 4) mo) (at0 + 1)), .int .i64 ti, .int .i64 (max hi sq), .int .i64 dn, .int .i64 sp, .int .i64 T, .slice (some ⟨b, off, none⟩) l.length qc, .int .i64 la, .int .i64 tw, .int .i64 pd] 26)).drewN (nq + 1)) (w.heap.size + 1 + 1) 26 #[.int .i64 le, .int .i64 mo, .int .i64 nw, .bool true, .int .i64 (max (nw + min (le + sp / 4) mo) (at0 + 1)), .int .i64 ti, .int .i64 (max hi sq), .int .i64 dn, .int .i64 sp, .int .i64 T, .slice (some ⟨b, off, none⟩) l.length qc, .int .i64 la, .int .i64 tw, .int .i64 pd] := by
    have h9 := Blk.new ((w.alloc (.cells #[.int .i64 le, .int .i64 mo, .int .i64 nw, .bool true, .int .i64 (max (nw + min (le + sp / 4) mo) (at0 + 1)), .int .i64 ti, .int .i64 (max hi sq), .int .i64 dn, .int .i64 sp, .int .i64 T, .slice (some ⟨b, off, none⟩) l.length qc, .int .i64 la, .int .i64 tw, .int .i64 pd] 26)).alloc (.cells #[.int .i64 sq, .int .i64 ti, .bool mk, .int .u8 ty, .slice MA mn mc] 29)) 26 #[.int .i64 le, .int .i64 mo, .int .i64 nw, .bool true, .int .i64 (max (nw + min (le + sp / 4) mo) (at0 + 1)), .int .i64 ti, .int .i64 (max hi sq), .int .i64 dn, .int .i64 sp, .int .i64 T, .slice (some ⟨b, off, none⟩) l.length qc, .int .i64 la, .int .i64 tw, .int .i64 pd]
    rw [size_alloc2] at h9
    exact h9.drewN _
  have hM : Jb.meas ⟨le, mo, nw, false, ze, fi, hi, dn, sp, tr, l.map TW.w, la, tw, pd⟩ ⟨sq, ti, mk, ty, pl⟩ = ⟨le, mo, nw, true, (max (nw + min (le + sp / 4) mo) (at0 + 1)), ti, max hi sq, dn, sp, T, l.map TW.w, la, tw, pd⟩ := by
    unfold Jb.meas
    simp [hla, ← HY.out, ← HT.out]
  refine bodyPost_ret (v := .agg #[.int .i64 le, .int .i64 mo, .int .i64 nw, .bool true, .int .i64 (max (nw + min (le + sp / 4) mo) (at0 + 1)), .int .i64 ti, .int .i64 (max hi sq), .int .i64 dn, .int .i64 sp, .int .i64 T, .slice (some ⟨b, off, none⟩) l.length qc, .int .i64 la, .int .i64 tw, .int .i64 pd]) (res_c Try.results32 rfl (run_loadVar_row (P := Try.prog) _ _ _ _ _ _ _ BF Try.underlying26 rfl (by kernel_rfl))) rfl ⟨by rw [hM]; rfl, ?_⟩
  exact Bel.drewN (((((Bel.refl w).push _).push _).push _)) _
end Go.Proofs.Ytnaafjdnmbajjaa

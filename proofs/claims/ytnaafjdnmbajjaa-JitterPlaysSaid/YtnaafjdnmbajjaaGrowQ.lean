/- A slice that is passed on and appended to by callees: what becomes of it and of the rest of memory. -/
import Derived.Test.YtnaafjdnmbajjaaOpenRowsQ
import Derived.Test.YtnaafjdnmbajjaaJtSmall2Q
import Derived.Test.YtnaafjdnmbajjaaOpenQ
import Derived.Laws.CopyOwn
import Derived.Laws.Rows
import Derived.Deep.LoopGhost
namespace Go.Proofs.Ytnaafjdnmbajjaa
open Go.RowKit
set_option linter.unusedVariables false
/-- from w0 (own slice at A0) to w (own slice at A): only the own block of w0 and new blocks have been written -/
def Grow (w0 : World) (A0 : Option Addr) (w : World) (A : Option Addr) : Prop :=
  w0.grownBy w (ownB A0) ∧ (ownB A = ownB A0 ∨ ∀ g, ownB A = some g → w0.heap.size ≤ g)
section
variable {w0 w w' : World} {A0 A A' : Option Addr}
theorem Grow.refl (w : World) (A : Option Addr) : Grow w A w A := ⟨World.grownBy.refl w _, .inl rfl⟩
theorem Grow.size (h : Grow w0 A0 w A) : w0.heap.size ≤ w.heap.size := h.1.size
/-- an append: the own block or a new one -/
theorem Grow.step (h : Grow w0 A0 w A) (hg : w.grownBy w' (ownB A)) (hat : ownB A' = ownB A ∨ ∀ g, ownB A' = some g → w.heap.size ≤ g) : Grow w0 A0 w' A' := by
  refine ⟨⟨hg.os.trans h.1.os, hg.tape.trans h.1.tape, hg.output.trans h.1.output, Nat.le_trans h.1.size hg.size, fun k hk hne => ?_⟩, ?_⟩
  · have h1 := h.1.block k hk hne
    have h2 : some k ≠ ownB A := by
      rcases h.2 with e | e
      · rw [e]; exact hne
      · intro e2
        have := e k e2.symm
        omega
    exact (hg.block k (Nat.lt_of_lt_of_le hk h.1.size) h2).trans h1
  · rcases hat with e | e
    · rw [e]; exact h.2
    · exact .inr fun g hg' => Nat.le_trans h.1.size (e g hg')
theorem Grow.alloc (h : Grow w0 A0 w A) (o : Obj) : Grow w0 A0 (w.alloc o) A := h.step (World.grownBy_alloc w o _) (.inl rfl)
theorem Grow.drew (h : Grow w0 A0 w A) : Grow w0 A0 w.drew A := ⟨⟨h.1.os, h.1.tape, h.1.output, h.1.size, h.1.block⟩, h.2⟩
/-- a call that makes new memory alone -/
theorem Grow.below (h : Grow w0 A0 w A) (hb : Below w.heap.size w w') : Grow w0 A0 w' A :=
  h.step ⟨hb.os, hb.tape, hb.output, hb.size, fun k hk _ => hb.block k hk⟩ (.inl rfl)
theorem Grow.trans {w1 : World} {A1 : Option Addr} (h : Grow w0 A0 w A) (h2 : Grow w A w1 A1) : Grow w0 A0 w1 A1 := h.step h2.1 h2.2
/-- what lies in another block stays -/
theorem Grow.blk {g : Nat} {t : TypeId} {cs : Array Value} (h : Grow w0 A0 w A) (hb : Blk w0 g t cs) (hne : some g ≠ ownB A0) : Blk w g t cs := hb.grown h.1 hne
theorem Grow.cell {a : Addr} {v : Value} (h : Grow w0 A0 w A) (hc : w0.cell? a = some v) (hne : some a.block ≠ ownB A0) : w.cell? a = some v := h.1.cell hc hne
theorem Grow.bel {a : World} {base size n c : Nat} {e : TypeId} {xs : List Value} (h : Grow w0 A0 w A) (ho : Owns w0 base e size A0 n c xs) (hb : Bel a w0) (hbase : a.heap.size ≤ base) : Bel a w :=
  below_own hb ho h.1 (Below.size hb) hbase
end
/-- 'out = append(out, x)', with where the new slice lies -/
theorem wpList_append_at {P : Program} {w0 : World} {ops : Array Oper} {rest : List Oper} {o : Oper} {a : Act} {Q : Exit → Act → World → Prop} (hgd : o.guard = none) (s x : Operand) (t : TypeId)
    (ho : o.op = .call { callee := .builtin .append, args := #[s, x], argTypes := #[t, t] })
    (base : Nat) (e : TypeId) (size bytes : Nat) (z : Value) (ht : P.underlying t = some (.slice e)) (hinfo : (P.info? e).map (fun i => (i.zero, i.size, i.bytes)) = some (some z, size, bytes))
    (hzs : z.cells.size = size) (hsz : 0 < size) (A : Option Addr) (n c : Nat) (xs : List Value) (hs : a.eval s = .slice A n c) (hown : Owns w0 base e size A n c xs)
    (cs : List Value) (hl : cs.length = size) (h1 : ∀ u ∈ cs, u.oneCell' = true) (hx : a.eval x = .slice (some ⟨w0.heap.size, 0, none⟩) 1 1)
    (h63 : n + 1 ≤ maxLen) (hbytes : (n + 1) * bytes ≤ 140737488355328) (hbase : base ≤ w0.heap.size)
    (h : ∀ (A' : Option Addr) (c' : Nat) (w' : World), Owns w' base e size A' (n + 1) c' (xs ++ cs) → w0.grownBy w' (ownB A) → (ownB A' = ownB A ∨ ∀ g, ownB A' = some g → w0.heap.size ≤ g) →
      wpList P ops Q rest (a.put o.dst (.slice A' (n + 1) c')) w') : wpList P ops Q (o :: rest) a (w0.alloc (.cells cs.toArray e)) := by
  obtain ⟨i, hi, hz0, hz1, hz2⟩ := info_parts hinfo
  refine wpList_append_lies (w0.alloc (.cells cs.toArray e)) hgd s x t ho base e i z size bytes ht hi hz0 hz1 hz2 hzs hsz _ n xs hs (hown.alloc _) ⟨w0.heap.size, 0, none⟩ 1 1 cs hx (by omega) ?_ h1 (by omega) h63 hbytes (by simp; omega) _ rfl ?_
  · intro j u hu
    have hc := Blk_cell w0 cs e j
    rw [← hu, ← hc]
    by_cases h0 : j = 0
    · subst h0; rfl
    · simp [Addr.add, h0]
  · intro g cap w' hown' hg hat hlt
    rw [ownB_eq] at hg hat
    have hsz' := hg.size
    refine h _ _ w' hown' ⟨hg.os, hg.tape, hg.output, Nat.le_trans (by simp) hsz', fun k hk hne => (hg.block k (by simp; omega) hne).trans (Below.heap_alloc w0 _ k hk)⟩ ?_
    rcases hat with e | e
    · exact .inl e.symm
    · refine .inr fun g' hg' => ?_
      injection hg' with hg'
      rw [← hg', e]; simp
/-- big-endian bytes -/
def be : Nat → Int → List Int
  | 0, _ => []
  | n + 1, x => be n (x / 256) ++ [x % 256]
theorem be_len : ∀ (n : Nat) (x : Int), (be n x).length = n
  | 0, _ => rfl
  | n + 1, x => by unfold be; rw [List.length_append, be_len n]; rfl
theorem be_bd : ∀ (n : Nat) (x : Int), Within 0 255 (be n x)
  | 0, _ => Within.nil _ _
  | n + 1, x => by
    unfold be
    refine (be_bd n _).append fun z hz => ?_
    rw [List.mem_singleton.1 hz]
    omega
/-- the byte k from the left -/
theorem be_front : ∀ (n : Nat) (x : Int), 0 ≤ x → be (n + 1) x = [x / 256 ^ n % 256] ++ be n x
  | 0, x, h => by simp [be]
  | n + 1, x, h => by
    have ih := be_front n (x / 256) (Int.ediv_nonneg h (by omega))
    show be (n + 1) (x / 256) ++ [x % 256] = _
    rw [ih]
    show _ = [x / 256 ^ (n + 1) % 256] ++ (be n (x / 256) ++ [x % 256])
    rw [List.append_assoc]
    congr 2
    rw [Int.ediv_ediv_of_nonneg (by omega)]
    congr 3
    rw [Int.pow_succ]; omega
end Go.Proofs.Ytnaafjdnmbajjaa
/- Layer 30: copyMedia. -/
namespace Go.Proofs.Ytnaafjdnmbajjaa
open Go.RowKit
set_option linter.unusedVariables false
set_option linter.unusedSimpArgs false
attribute [local go_sem ↓] run_min_plain run_max_plain
attribute [local go_sem] setCell_drewN alloc_drewN
theorem info_u8 : (Try.prog.info? 5).map (fun i => (i.zero, i.size, i.bytes)) = some (some (.int .u8 0), 1, 1) := by kernel_rfl
def u8s (l : List Int) : List Value := l.map (Value.int .u8)
theorem ints_blk {w : World} {g : Nat} {t : TypeId} {bs : List Int} (h : Blk w g t (u8s bs).toArray) : IntsAt w w.heap.size .u8 (some ⟨g, 0, none⟩) bs := fun h0 => by
  refine ⟨g, 0, rfl, h.lt, fun i hi => ?_⟩
  rw [Nat.zero_add, h.cell i]
  simp [u8s, List.getElem?_eq_getElem hi, List.getD_eq_getElem?_getD]
/-- what copyMedia leaves -/
def MediaR (sq ti : Int) (mk : Bool) (ty : Int) (pl : List Int) (w : World) (e : Ending) (w' : World) : Prop :=
  ∃ (A' : Option Addr) (c' : Nat), e = .returned (.agg #[.int .i64 sq, .int .i64 ti, .bool mk, .int .u8 ty, .slice A' pl.length c']) ∧ IntsNew w.heap.size w' .u8 A' pl ∧ Below w.heap.size w w'
set_option maxRecDepth 100000 in
set_option maxHeartbeats 12800000 in
theorem copyMedia_nil (sq ti : Int) (mk : Bool) (ty : Int) (A : Option Addr) (c : Nat) (w : World) : Calls Try.prog 34 #[.agg #[.int .i64 sq, .int .i64 ti, .bool mk, .int .u8 ty, .slice A 0 c]] w (MediaR sq ti mk ty [] w) := by
  go_enter Try.func34, Try.ntmps34
  go_wp2_with fail
  have U := Lib.hid (((Bel.refl w).push (.cells #[.int .i64 sq, .int .i64 ti, .bool mk, .int .u8 ty, .slice none 0 0] 29)).push (.cells #[.int .i64 sq, .int .i64 ti, .bool mk, .int .u8 ty, .slice none 0 0] 29))
  have B := Lib.hid (Blk.new1 w (.cells #[.int .i64 sq, .int .i64 ti, .bool mk, .int .u8 ty, .slice none 0 0] 29) 29 #[.int .i64 sq, .int .i64 ti, .bool mk, .int .u8 ty, .slice none 0 0])
  exact bodyPost_ret (v := .agg #[.int .i64 sq, .int .i64 ti, .bool mk, .int .u8 ty, .slice none 0 0]) (res_c Try.results34 rfl (run_loadVar_row (P := Try.prog) _ _ _ _ _ _ _ B.out Try.underlying29 rfl (by kernel_rfl))) rfl ⟨none, 0, rfl, IntsNew.nil, U.out⟩
set_option maxRecDepth 100000 in
set_option maxHeartbeats 12800000 in
theorem copyMedia_some (sq ti : Int) (mk : Bool) (ty : Int) (A : Option Addr) (pl : List Int) (c : Nat) (w : World) (hA : IntsAt w w.heap.size .u8 A pl) (hl : pl.length ≤ 1000000) (h0 : 0 < pl.length) : Calls Try.prog 34 #[.agg #[.int .i64 sq, .int .i64 ti, .bool mk, .int .u8 ty, .slice A pl.length c]] w (MediaR sq ti mk ty pl w) := by
  obtain ⟨b, off, rfl, hbB, hcell⟩ := hA h0
  obtain ⟨W0, hW0⟩ : ∃ W0, W0 = (w.alloc (.cells #[.int .i64 sq, .int .i64 ti, .bool mk, .int .u8 ty, .slice (some ⟨b, off, none⟩) pl.length c] 29)).alloc (.cells #[.int .i64 0, .int .i64 0, .bool false, .int .u8 0, .slice none 0 0] 29) := ⟨_, rfl⟩
  have hmk := run_make_row' (P := Try.prog) 27 5 (.int .u8 0) 1 Try.underlying27 info_u8 rfl .i64 .i64 pl.length (by omega) (by omega) W0
  obtain ⟨cur, hcur⟩ : ∃ cur : List Value, cur = (madeCells #[.int .u8 0] pl.length).toList := ⟨_, rfl⟩
  have hcl : cur.length = pl.length := by rw [hcur]; simp [madeCells]
  have hs0 : W0.heap.size = w.heap.size + 1 + 1 := by rw [hW0]; simp
  obtain ⟨W1, hW1⟩ : ∃ W1, W1 = W0.alloc (.cells (madeCells #[.int .u8 0] pl.length) 5) := ⟨_, rfl⟩
  have hB : Blk W1 (w.heap.size + 1 + 1) 5 cur.toArray := by rw [hW1, hcur, Array.toArray_toList, ← hs0]; exact Blk.new _ _ _
  have hU : Below W0.heap.size W0 W1 := by rw [hW1]; exact (Below.refl _ _).alloc (Nat.le_refl _) _
  have BX : Blk W0 w.heap.size 29 #[.int .i64 sq, .int .i64 ti, .bool mk, .int .u8 ty, .slice (some ⟨b, off, none⟩) pl.length c] := by rw [hW0]; exact (Blk.new w _ _).push _
  have BZ : Blk W0 (w.heap.size + 1) 29 #[.int .i64 0, .int .i64 0, .bool false, .int .u8 0, .slice none 0 0] := by rw [hW0]; exact Blk.new1 w _ _ _
  have UW : Bel w W0 := by rw [hW0]; exact ((Bel.refl w).push _).push _
  rw [← hW1, hs0] at hmk
  have hl1 : ¬pl.length = 0 := by omega
  have hl2 : ¬pl = [] := by intro h5; rw [h5] at hl1; exact hl1 rfl
  have hl3 : (0 : Int) < (pl.length : Int) := by omega
  have hsp : splice cur 0 (u8s pl) = u8s pl := by simp [splice, u8s, hcl]
  have UW1 : Bel w W1 := UW.later hU
  have HC : ∀ j v, (u8s pl)[j]? = some v → W1.cell? ((⟨b, off, none⟩ : Addr).add j) = some v := by
    intro j v hv
    have hj : j < pl.length := by
      have := (List.getElem?_eq_some_iff.1 hv).1
      simpa [u8s] using this
    have := (UW1.cell (p := ⟨b, off + j, none⟩) hbB).trans (hcell j hj)
    rw [show ((⟨b, off, none⟩ : Addr).add j) = ⟨b, off + j, none⟩ by simp [Addr.add], this]
    simp [u8s, List.getElem?_eq_getElem hj] at hv
    rw [← hv]; simp [List.getD_eq_getElem?_getD, List.getElem?_eq_getElem hj]
  have x4 := (BX.later hU).at 4 _ rfl
  have HCC := Lib.hid HC
  have HB := Lib.hid hB
  have HU := Lib.hid hU
  have HSP := Lib.hid hsp
  have HCL := Lib.hid hcl
  have HBX := Lib.hid BX
  have HBZ := Lib.hid BZ
  have HUW := Lib.hid UW
  have HS0 := Lib.hid hs0
  have hmk' := hmk
  rw [hW0] at hmk'
  clear HC hB hU hsp hcell hA hcl BX BZ UW UW1 hs0 hW1 hcur hmk
  go_enter Try.func34, Try.ntmps34
  go_wp2_with (refine wpList_copy_splice (o := ⟨some 15, _, _, _, _, _⟩) rfl (.tmp 12) (.tmp 14) 27 27 rfl 5 Try.underlying27 (by kernel_rfl) _ _ _ _ _ _ rfl rfl (w.heap.size + 1 + 1) 0 cur 5 HB.out (u8s pl) (by simp [u8s]) (fun _ => ⟨rfl, _, rfl, HCC.out⟩) (by rw [HCL.out]; simp [u8s]) (by intro v hv; simp [u8s] at hv; obtain ⟨z, _, rfl⟩ := hv; rfl) W0.heap.size W0 HU.out (by rw [HS0.out]; exact Nat.le_refl _) ?_
               intro w2 hB2 hU2
               have hz2 := (HBX.out.later hU2).frozen
               have x0 := (HBX.out.later hU2).at 0 _ rfl
               have x1 := (HBX.out.later hU2).at 1 _ rfl
               have x2 := (HBX.out.later hU2).at 2 _ rfl
               have x3 := (HBX.out.later hU2).at 3 _ rfl
               have x4' := (HBX.out.later hU2).at 4 _ rfl
               have zz := (HBZ.out.later hU2).frozen
               have y0 := (HBZ.out.later hU2).at 0 _ rfl
               have y1 := (HBZ.out.later hU2).at 1 _ rfl
               have y2 := (HBZ.out.later hU2).at 2 _ rfl
               have y3 := (HBZ.out.later hU2).at 3 _ rfl
               have y4 := (HBZ.out.later hU2).at 4 _ rfl)
  rw [HSP.out] at hB2
  have BF := Blk.setRow ((HBZ.out.later hU2).far (p := ⟨w.heap.size, 4, none⟩) (by simp) (.slice (some ⟨w.heap.size + 1 + 1, 0, none⟩) pl.length pl.length)) [.int .i64 sq, .int .i64 ti, .bool mk, .int .u8 ty, .slice (some ⟨w.heap.size + 1 + 1, 0, none⟩) pl.length pl.length] rfl
  have IN : IntsNew (w.heap.size + 1 + 1) w2 .u8 (some ⟨w.heap.size + 1 + 1, 0, none⟩) pl := ⟨ints_blk hB2.out, fun _ b' off' e => by cases e; exact Nat.le_refl _⟩
  have R3 := (IntsNew.setRow (g := w.heap.size + 1) (n := w.heap.size + 1 + 1) (by omega) [.int .i64 sq, .int .i64 ti, .bool mk, .int .u8 ty, .slice (some ⟨w.heap.size + 1 + 1, 0, none⟩) pl.length pl.length] _ 0 (IN.setCell (p := ⟨w.heap.size, 4, none⟩) (by simp; omega) (.slice (some ⟨w.heap.size + 1 + 1, 0, none⟩) pl.length pl.length))).less (m := w.heap.size) (by omega)
  have UF := below_setRow (g := w.heap.size + 1) (by omega) [.int .i64 sq, .int .i64 ti, .bool mk, .int .u8 ty, .slice (some ⟨w.heap.size + 1 + 1, 0, none⟩) pl.length pl.length] _ 0 (below_set_old (p := ⟨w.heap.size, 4, none⟩) (HUW.out.later hU2) (Nat.le_refl _) (.slice (some ⟨w.heap.size + 1 + 1, 0, none⟩) pl.length pl.length))
  simp only [setRow, Nat.zero_add, Nat.reduceAdd] at BF R3 UF
  exact bodyPost_ret (v := .agg #[.int .i64 sq, .int .i64 ti, .bool mk, .int .u8 ty, .slice (some ⟨w.heap.size + 1 + 1, 0, none⟩) pl.length pl.length]) (res_c Try.results34 rfl (run_loadVar_row (P := Try.prog) _ _ _ _ _ _ _ BF Try.underlying29 rfl (by kernel_rfl))) rfl ⟨_, _, rfl, R3, UF⟩
theorem copyMedia_any (sq ti : Int) (mk : Bool) (ty : Int) (A : Option Addr) (pl : List Int) (n c : Nat) (w : World) (B : Nat) (hB : B ≤ w.heap.size) (hA : IntsAt w B .u8 A pl) (hl : n ≤ 1000000) (hn : pl.length = n) : Calls Try.prog 34 #[.agg #[.int .i64 sq, .int .i64 ti, .bool mk, .int .u8 ty, .slice A n c]] w (MediaR sq ti mk ty pl w) := by
  subst hn
  by_cases h0 : pl.length = 0
  · obtain rfl := List.eq_nil_of_length_eq_zero h0
    exact copyMedia_nil sq ti mk ty A c w
  · exact copyMedia_some sq ti mk ty A pl c w (hA.more hB) hl (by omega)
end Go.Proofs.Ytnaafjdnmbajjaa
/- Layer 30: slices.IndexFunc with the closure of run. -/
namespace Go.Proofs.Ytnaafjdnmbajjaa
open Go.RowKit
set_option linter.unusedVariables false
set_option linter.unusedSimpArgs false
attribute [local go_sem ↓] run_min_plain run_max_plain
attribute [local go_sem] setCell_drewN alloc_drewN
set_option maxRecDepth 100000 in
set_option maxHeartbeats 12800000 in
theorem run1_any (a0 s0 t0 y0 : Int) (m0 : Bool) (A0 : Option Addr) (n0 c0 : Nat) (g : Nat) (now : Int) (w : World) (hg : w.cell? ⟨g, 0, none⟩ = some (.int .i64 now)) (hlt : g < w.heap.size) : Calls Try.prog 48 #[.agg #[.int .i64 a0, .int .i64 s0, .int .i64 t0, .bool m0, .int .u8 y0, .slice A0 n0 c0], .pointer (some ⟨g, 0, none⟩)] w fun e w' => e = .returned (.bool (decide (now < a0))) ∧ Below w.heap.size w w' := by
  have hne : ¬g = w.heap.size := by omega
  go_enter Try.func48, Try.ntmps48
  go_wp2_with fail
  go_ret
  exact ⟨by first | rfl | simp, (Below.refl _ _).alloc (Nat.le_refl _) _⟩
/-- the first packet that is not due yet -/
def firstLate (now : Int) (q : List Jb.Wt) : Int := if (Jb.due now q).length = q.length then -1 else ((Jb.due now q).length : Int)
theorem due_full (now : Int) : ∀ q : List Jb.Wt, (∀ x ∈ q, x.at_ ≤ now) → Jb.due now q = q
  | [], _ => rfl
  | a :: q, h => by
    unfold Jb.due
    rw [List.takeWhile_cons, if_pos (by simpa using h a List.mem_cons_self)]
    have := due_full now q (fun x hx => h x (List.mem_cons_of_mem _ hx))
    unfold Jb.due at this
    rw [this]
theorem due_at (now : Int) : ∀ (q : List Jb.Wt) (k : Nat) (a : Jb.Wt), q[k]? = some a → (∀ x ∈ q.take k, x.at_ ≤ now) → now < a.at_ → (Jb.due now q).length = k ∧ k < q.length
  | [], k, a, h, _, _ => by simp at h
  | b :: q, 0, a, h, _, h2 => by
    simp at h
    subst h
    unfold Jb.due
    rw [List.takeWhile_cons, if_neg (by simpa using h2)]
    simp
  | b :: q, k + 1, a, h, h1, h2 => by
    have hb := h1 b (by simp)
    obtain ⟨e1, e2⟩ := due_at now q k a (by simpa using h) (fun x hx => h1 x (by simp; exact Or.inr hx)) h2
    unfold Jb.due at e1 ⊢
    rw [List.takeWhile_cons, if_pos (by simpa using hb)]
    simp [e1]
    omega
set_option maxRecDepth 100000 in
set_option maxHeartbeats 12800000 in
theorem index_any (A : Option Addr) (l : List TW) (n c : Nat) (g : Nat) (now : Int) (w : World) (hn : l.length = n) (hl : n ≤ 1000000) (hA : Wts w w.heap.size A l) (hg : w.cell? ⟨g, 0, none⟩ = some (.int .i64 now)) (hlt : g < w.heap.size) : Calls Try.prog 47 #[.slice A n c, .func (Fn.func 48) #[] #[.pointer (some ⟨g, 0, none⟩)]] w fun e w' => e = .returned (.int .i64 (firstLate now (l.map TW.w))) ∧ Below w.heap.size w w' := by
  subst hn
  have HA := Lib.hid hA
  have HG := Lib.hid hg
  obtain ⟨R, hR⟩ : ∃ R, R = firstLate now (l.map TW.w) := ⟨_, rfl⟩
  rw [← hR]
  have HR := Lib.hid hR
  clear hA hg hR
  go_enter Try.func47, Try.ntmps47
  go_wp2_with fail
  go_loopg [8] l.length (fun gk i wr => ∃ k : Nat, gk + k = l.length ∧ i = .int .i64 k ∧ Hid (∀ x ∈ (l.map TW.w).take k, x.at_ ≤ now) ∧ Hid (Bel w wr))
  case atStart => exact ⟨0, rfl, rfl, Lib.hid (fun x hx => by simp at hx), Lib.hid (Bel.refl w)⟩
  case round =>
    obtain ⟨k, hgk, rfl, HT, U⟩ := hrel
    have hi0 : (0 : Int) ≤ (k : Int) := by omega
    by_cases hk : k < l.length
    rotate_left
    · obtain rfl : k = l.length := by omega
      have hi1 : (l.length : Int) ≤ (l.length : Int) := Int.le_refl _
      have hall := HT.out
      rw [List.take_of_length_le (by simp)] at hall
      have hv : R = -1 := by rw [HR.out]; unfold firstLate; rw [due_full now _ hall, if_pos rfl]
      subst hv
      go_wp2_with fail
      go_ret
      exact ⟨rfl, U.out⟩
    have hi1 : (k : Int) < (l.length : Int) := by omega
    obtain ⟨a, ha⟩ : ∃ a, l[k]? = some a := ⟨_, List.getElem?_eq_getElem hk⟩
    obtain ⟨b, off, rfl, hbB, e0, e1, e2, e3, e4, e5⟩ := rowsW (HA.out.1.keep (fun p hp => U.out.cell hp)) ha
    have hcg := (U.out.cell (p := ⟨g, 0, none⟩) hlt).trans HG.out
    have hgl : g < wr.heap.size := Nat.lt_of_lt_of_le hlt U.out.size
    have k1 := run1_any a.w.at_ a.w.m.sq a.w.m.ti a.w.m.ty a.w.m.mrk a.B a.w.m.pl.length a.c g now wr hcg hgl
    have hm : (l.map TW.w)[k]? = some a.w := by rw [List.getElem?_map, ha]; rfl
    have HM := Lib.hid hm
    have K1 := Lib.hid k1
    clear ha hm k1
    by_cases hd : now < a.w.at_
    · have hb : decide (now < a.w.at_) = true := by simpa using hd
      obtain ⟨d1, d2⟩ := due_at now _ k a.w HM.out HT.out hd
      have hv : R = (k : Int) := by rw [HR.out]; unfold firstLate; rw [d1, if_neg (by omega)]
      subst hv
      rw [hb] at K1
      clear hd hb d1 d2
      go_wp2_with fail
      refine (K1.out).mono ?_
      rintro e w1 ⟨rfl, hb1⟩
      go_wp2_with fail
      go_ret
      exact ⟨rfl, U.out.later hb1⟩
    · have hb : decide (now < a.w.at_) = false := by simpa using hd
      rw [hb] at K1
      have HD := Lib.hid hd
      clear hd hb
      go_wp2_with fail
      refine (K1.out).mono ?_
      rintro e w1 ⟨rfl, hb1⟩
      have U1 := Lib.hid (U.out.later hb1)
      clear hb1
      go_wp2_with fail
      go_roundg (gk - 1)
      case measure => omega
      case rel =>
        refine ⟨k + 1, by omega, by go_num, Lib.hid (fun x hx => ?_), U1⟩
        rw [List.take_add_one, HM.out] at hx
        rcases List.mem_append.1 hx with hx | hx
        · exact HT.out x hx
        · simp at hx
          subst hx
          have := HD.out
          omega
end Go.Proofs.Ytnaafjdnmbajjaa
/- Layer 30: slices.ContainsFunc with the closure of Put. -/
namespace Go.Proofs.Ytnaafjdnmbajjaa
open Go.RowKit
set_option linter.unusedVariables false
set_option linter.unusedSimpArgs false
attribute [local go_sem ↓] run_min_plain run_max_plain
attribute [local go_sem] setCell_drewN alloc_drewN
set_option maxRecDepth 100000 in
set_option maxHeartbeats 12800000 in
theorem put1_any (a0 s0 t0 y0 : Int) (m0 : Bool) (A0 : Option Addr) (n0 c0 : Nat) (g : Nat) (sq : Int) (w : World) (hg : w.cell? ⟨g, 0, none⟩ = some (.int .i64 sq)) (hlt : g < w.heap.size) : Calls Try.prog 30 #[.agg #[.int .i64 a0, .int .i64 s0, .int .i64 t0, .bool m0, .int .u8 y0, .slice A0 n0 c0], .pointer (some ⟨g, 0, none⟩)] w fun e w' => e = .returned (.bool (s0 == sq)) ∧ Below w.heap.size w w' := by
  have hne : ¬g = w.heap.size := by omega
  go_enter Try.func30, Try.ntmps30
  go_wp2_with fail
  go_ret
  exact ⟨by first | rfl | simp, (Below.refl _ _).alloc (Nat.le_refl _) _⟩
def AtLeast (b : Bool) (w : World) (e : Ending) (w' : World) : Prop := ∃ r : Int, e = .returned (.int .i64 r) ∧ decide (0 ≤ r) = b ∧ Below w.heap.size w w'
set_option maxRecDepth 100000 in
set_option maxHeartbeats 12800000 in
theorem index2_any (A : Option Addr) (l : List TW) (n c : Nat) (g : Nat) (sq : Int) (w : World) (hn : l.length = n) (hl : n ≤ 1000000) (hA : Wts w w.heap.size A l) (hg : w.cell? ⟨g, 0, none⟩ = some (.int .i64 sq)) (hlt : g < w.heap.size) : Calls Try.prog 47 #[.slice A n c, .func (Fn.func 30) #[] #[.pointer (some ⟨g, 0, none⟩)]] w (AtLeast ((l.map TW.w).any fun x => x.m.sq == sq) w) := by
  subst hn
  have HA := Lib.hid hA
  have HG := Lib.hid hg
  obtain ⟨R, hR⟩ : ∃ R, R = (l.map TW.w).any fun x => x.m.sq == sq := ⟨_, rfl⟩
  rw [← hR]
  have HR := Lib.hid hR
  clear hA hg hR
  go_enter Try.func47, Try.ntmps47
  go_wp2_with fail
  go_loopg [8] l.length (fun gk i wr => ∃ k : Nat, gk + k = l.length ∧ i = .int .i64 k ∧ Hid (R = ((l.map TW.w).drop k).any fun x => x.m.sq == sq) ∧ Hid (Bel w wr))
  case atStart => exact ⟨0, rfl, rfl, Lib.hid (by rw [List.drop_zero]; exact HR.out), Lib.hid (Bel.refl w)⟩
  case round =>
    clear HR
    obtain ⟨k, hgk, rfl, HT, U⟩ := hrel
    have hi0 : (0 : Int) ≤ (k : Int) := by omega
    by_cases hk : k < l.length
    rotate_left
    · obtain rfl : k = l.length := by omega
      have hi1 : (l.length : Int) ≤ (l.length : Int) := Int.le_refl _
      have hv : R = false := by rw [HT.out, List.drop_eq_nil_of_le (by simp)]; rfl
      subst hv
      go_wp2_with fail
      go_ret
      exact ⟨-1, rfl, rfl, U.out⟩
    have hi1 : (k : Int) < (l.length : Int) := by omega
    obtain ⟨a, ha⟩ : ∃ a, l[k]? = some a := ⟨_, List.getElem?_eq_getElem hk⟩
    obtain ⟨b, off, rfl, hbB, e0, e1, e2, e3, e4, e5⟩ := rowsW (HA.out.1.keep (fun p hp => U.out.cell hp)) ha
    have hcg := (U.out.cell (p := ⟨g, 0, none⟩) hlt).trans HG.out
    have hgl : g < wr.heap.size := Nat.lt_of_lt_of_le hlt U.out.size
    have k1 := put1_any a.w.at_ a.w.m.sq a.w.m.ti a.w.m.ty a.w.m.mrk a.B a.w.m.pl.length a.c g sq wr hcg hgl
    have hd : (l.map TW.w).drop k = a.w :: (l.map TW.w).drop (k + 1) := by
      have hm : (l.map TW.w)[k]? = some a.w := by rw [List.getElem?_map, ha]; rfl
      obtain ⟨h1, h2⟩ := List.getElem?_eq_some_iff.1 hm
      rw [List.drop_eq_getElem_cons h1, h2]
    have HD := Lib.hid hd
    have K1 := Lib.hid k1
    clear ha hd k1
    cases hb : (a.w.m.sq == sq)
    · rw [hb] at K1
      have HN : Hid (R = ((l.map TW.w).drop (k + 1)).any fun x => x.m.sq == sq) := Lib.hid (by rw [HT.out, HD.out, List.any_cons, hb, Bool.false_or])
      clear hb HT HD
      go_wp2_with fail
      refine (K1.out).mono ?_
      rintro e w1 ⟨rfl, hb1⟩
      have U1 := Lib.hid (U.out.later hb1)
      clear hb1
      go_wp2_with fail
      go_roundg (gk - 1)
      case measure => omega
      case rel => exact ⟨k + 1, by omega, by go_num, HN, U1⟩
    · rw [hb] at K1
      have hv : R = true := by rw [HT.out, HD.out, List.any_cons, hb, Bool.true_or]
      subst hv
      clear hb HT HD
      go_wp2_with fail
      refine (K1.out).mono ?_
      rintro e w1 ⟨rfl, hb1⟩
      go_wp2_with fail
      go_ret
      exact ⟨(k : Int), rfl, by simp, U.out.later hb1⟩
set_option maxRecDepth 100000 in
set_option maxHeartbeats 12800000 in
theorem contains_any (A : Option Addr) (l : List TW) (n c : Nat) (g : Nat) (sq : Int) (w : World) (hn : l.length = n) (hl : n ≤ 1000000) (hA : Wts w w.heap.size A l) (hg : w.cell? ⟨g, 0, none⟩ = some (.int .i64 sq)) (hlt : g < w.heap.size) : Calls Try.prog 31 #[.slice A n c, .func (Fn.func 30) #[] #[.pointer (some ⟨g, 0, none⟩)]] w fun e w' => e = .returned (.bool ((l.map TW.w).any fun x => x.m.sq == sq)) ∧ Below w.heap.size w w' := by
  have k1 := Lib.hid (index2_any A l n c g sq w hn hl hA hg hlt)
  generalize ((l.map TW.w).any fun x => x.m.sq == sq) = R at *
  clear hA hg
  go_enter Try.func31, Try.ntmps31
  go_wp2_with fail
  refine k1.out.mono ?_
  rintro e w1 ⟨r, rfl, hr, hb⟩
  go_wp2_with fail
  go_ret
  first | exact ⟨rfl, hb⟩ | exact ⟨ret_b hr, hb⟩
end Go.Proofs.Ytnaafjdnmbajjaa

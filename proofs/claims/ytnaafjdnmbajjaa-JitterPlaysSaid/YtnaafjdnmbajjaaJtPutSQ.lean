/- Layer 30: what Put holds in memory while it works. -/
import Derived.Test.YtnaafjdnmbajjaaJtInsAQ
import Derived.Test.YtnaafjdnmbajjaaJtMeas3Q
import Derived.Test.YtnaafjdnmbajjaaRes
import Derived.Test.YtnaafjdnmbajjaaOpenQ
import Derived.Deep.RegionHeld3
namespace Go.Proofs.Ytnaafjdnmbajjaa
open Go.RowKit
set_option linter.unusedVariables false
set_option linter.unusedSimpArgs false
def Z14 : List Value := [.int .i64 0, .int .i64 0, .int .i64 0, .bool false, .int .i64 0, .int .i64 0, .int .i64 0, .int .i64 0, .int .i64 0, .int .i64 0, .slice none 0 0, .int .i64 0, .int .i64 0, .int .i64 0]
/-- the state's box, the packet's box, the result's box; what was played; the queue -/
structure PSt (w W : World) (lo B : Nat) (cs ms : List Value) (A1 : Option Addr) (l1 : List TW) (A2 : Option Addr) (n2 c2 : Nat) (l2 : List TW) : Prop where
  bs : Blk W w.heap.size 26 cs.toArray
  bm : Blk W (w.heap.size + 1) 29 ms.toArray
  br : Blk W (w.heap.size + 1 + 1) 26 Z14.toArray
  u : Bel w W
  p1 : WtsIn W lo B A1 l1
  q2 : QOwn W B A2 n2 c2 l2
  lo1 : w.heap.size + 1 + 1 < lo
  lo2 : lo ≤ B
  hB : B ≤ W.heap.size
section
variable {w W W' : World} {lo B n2 c2 : Nat} {cs ms : List Value} {A1 A2 : Option Addr} {l1 l2 : List TW}
theorem PSt.later (h : PSt w W lo B cs ms A1 l1 A2 n2 c2 l2) (hb : Below W.heap.size W W') : PSt w W' lo B cs ms A1 l1 A2 n2 c2 l2 :=
  ⟨h.bs.later hb, h.bm.later hb, h.br.later hb, h.u.later hb, h.p1.below hb h.hB, h.q2.below hb, h.lo1, h.lo2, Nat.le_trans h.hB hb.size⟩
theorem PSt.set (h : PSt w W lo B cs ms A1 l1 A2 n2 c2 l2) (i : Nat) (v : Value) : PSt w (W.setCell ⟨w.heap.size, i, none⟩ v) lo B (cs.set i v) ms A1 l1 A2 n2 c2 l2 := by
  have h1 := h.lo1
  have h2 := h.lo2
  refine ⟨?_, h.bm.far (by simp) _, h.br.far (by simp; omega) _, below_set_old h.u (Nat.le_refl _) _, h.p1.setCell (by simp; omega) _, h.q2.setCell (by simp; omega) _, h.lo1, h.lo2, by simpa [World.setCell] using h.hB⟩
  have := h.bs.set_ i v
  simpa using this
theorem PSt.row (h : PSt w W lo B cs ms A1 l1 A2 n2 c2 l2) (vs : List Value) (hl : cs.length = vs.length) : PSt w (setRow w.heap.size W 0 vs) lo B vs ms A1 l1 A2 n2 c2 l2 := by
  have h1 := h.lo1
  have h2 := h.lo2
  exact ⟨h.bs.setRow vs (by simpa using hl), h.bm.farRow (by omega) vs W 0, h.br.farRow (by omega) vs W 0, Go.Proofs.Ytnaafjdnmbajjaa.below_setRow (Nat.le_refl _) vs W 0 h.u, WtsIn.setRow (by omega) vs W 0 h.p1, QOwn.setRow (by omega) vs W 0 h.q2, h.lo1, h.lo2, by rw [setRow_size]; exact h.hB⟩
/-- the result is written -/
theorem PSt.fin (h : PSt w W lo B cs ms A1 l1 A2 n2 c2 l2) (vs : List Value) (hl : vs.length = 14) : Blk (setRow (w.heap.size + 1 + 1) W 0 vs) (w.heap.size + 1 + 1) 26 vs.toArray ∧ Wts (setRow (w.heap.size + 1 + 1) W 0 vs) (setRow (w.heap.size + 1 + 1) W 0 vs).heap.size A1 l1 ∧ Wts (setRow (w.heap.size + 1 + 1) W 0 vs) (setRow (w.heap.size + 1 + 1) W 0 vs).heap.size A2 l2 ∧ l2.length = n2 ∧ n2 ≤ c2 ∧ c2 ≤ maxLen ∧ Below w.heap.size w (setRow (w.heap.size + 1 + 1) W 0 vs) := by
  have h1 := h.lo1
  have h2 := h.lo2
  have q := QOwn.setRow (g := w.heap.size + 1 + 1) (by omega) vs W 0 h.q2
  exact ⟨h.br.setRow vs (by simp [Z14, hl]), (WtsIn.setRow (g := w.heap.size + 1 + 1) (by omega) vs W 0 h.p1).rows.more (by rw [setRow_size]; exact h.hB), q.wts, q.len, q.own.cap, Owns.capm q.own, Go.Proofs.Ytnaafjdnmbajjaa.below_setRow (by omega) vs W 0 h.u⟩
/-- the queue got one more packet -/
theorem PSt.ins {A3 : Option Addr} {n3 c3 : Nat} {l3 : List TW} (h : PSt w W lo B cs ms A1 l1 A2 n2 c2 l2) (hb : Below B W W') (hq : QOwn W' B A3 n3 c3 l3) : PSt w W' lo B cs ms A1 l1 A3 n3 c3 l3 := by
  have h1 := h.lo1
  have h2 := h.lo2
  exact ⟨h.bs.below hb (by omega), h.bm.below hb (by omega), h.br.below hb (by omega), h.u.trans (hb.mono (by omega)), h.p1.below hb (Nat.le_refl _), hq, h.lo1, h.lo2, Nat.le_trans h.hB hb.size⟩
end
end Go.Proofs.Ytnaafjdnmbajjaa
/- Steps of regions that draw their order; the cells of a block, all at once. -/
namespace Go.Proofs.Ytnaafjdnmbajjaa
open Go.RowKit
set_option linter.unusedVariables false
set_option linter.unusedSimpArgs false
attribute [local go_sem ↓] run_min_plain run_max_plain
attribute [local go_sem] setCell_drewN alloc_drewN
theorem tk1 {P : Program} {md : _} {ops : Array Oper} {Q : Exit → Act → World → Prop} {S : World → Prop} {i : Nat} {oi : Oper} {v : Value} {fuel : Nat} {listed : Array Bool} {a : Act} {w : World} (hi : ops[i]? = some oi)
    (hy : YieldsIf P ops S oi v a) (hS : S w) (h : wpAnyH P md ops Q S fuel (listed.setIfInBounds i true) (a.put oi.dst v) w)
    (hs : Region.noSelect ops = true := by kernel_rfl) (hf : Region.free md ops listed i = true := by kernel_rfl) (hr : (Region.ready md ops listed).contains i = true := by kernel_rfl)
    (hQ : ∀ c a w, Q (.panic c) (a.put oi.dst v) w → Q (.panic c) a w := by exact fun _ _ _ h => h) : wpAnyH P md ops Q S (fuel + 1) listed a w := wpAnyH_take hi hs hf hr hQ hy hS h
theorem Blk.c14 {W : World} {g : Nat} {t : TypeId} {v0 v1 v2 v3 v4 v5 v6 v7 v8 v9 v10 v11 v12 v13 : Value} (h : Blk W g t #[v0, v1, v2, v3, v4, v5, v6, v7, v8, v9, v10, v11, v12, v13]) : W.cell? ⟨g, 0, none⟩ = some v0 ∧ W.cell? ⟨g, 1, none⟩ = some v1 ∧ W.cell? ⟨g, 2, none⟩ = some v2 ∧ W.cell? ⟨g, 3, none⟩ = some v3 ∧ W.cell? ⟨g, 4, none⟩ = some v4 ∧ W.cell? ⟨g, 5, none⟩ = some v5 ∧ W.cell? ⟨g, 6, none⟩ = some v6 ∧ W.cell? ⟨g, 7, none⟩ = some v7 ∧ W.cell? ⟨g, 8, none⟩ = some v8 ∧ W.cell? ⟨g, 9, none⟩ = some v9 ∧ W.cell? ⟨g, 10, none⟩ = some v10 ∧ W.cell? ⟨g, 11, none⟩ = some v11 ∧ W.cell? ⟨g, 12, none⟩ = some v12 ∧ W.cell? ⟨g, 13, none⟩ = some v13 := ⟨h.at 0 _ rfl, h.at 1 _ rfl, h.at 2 _ rfl, h.at 3 _ rfl, h.at 4 _ rfl, h.at 5 _ rfl, h.at 6 _ rfl, h.at 7 _ rfl, h.at 8 _ rfl, h.at 9 _ rfl, h.at 10 _ rfl, h.at 11 _ rfl, h.at 12 _ rfl, h.at 13 _ rfl⟩
theorem Blk.c5 {W : World} {g : Nat} {t : TypeId} {v0 v1 v2 v3 v4 : Value} (h : Blk W g t #[v0, v1, v2, v3, v4]) : W.cell? ⟨g, 0, none⟩ = some v0 ∧ W.cell? ⟨g, 1, none⟩ = some v1 ∧ W.cell? ⟨g, 2, none⟩ = some v2 ∧ W.cell? ⟨g, 3, none⟩ = some v3 ∧ W.cell? ⟨g, 4, none⟩ = some v4 := ⟨h.at 0 _ rfl, h.at 1 _ rfl, h.at 2 _ rfl, h.at 3 _ rfl, h.at 4 _ rfl⟩
end Go.Proofs.Ytnaafjdnmbajjaa
/- Layer 30: what Put leaves. -/
namespace Go.Proofs.Ytnaafjdnmbajjaa
open Go.RowKit
set_option linter.unusedVariables false
set_option linter.unusedSimpArgs false
attribute [local go_sem ↓] run_min_plain run_max_plain
attribute [local go_sem] setCell_drewN alloc_drewN
theorem put_facts (s : Jb.Jt) (m : Jb.Md) (now : Int) (h : s.ok) (hm : m.ok) (h1 : s.now ≤ now) (h2 : now ≤ 281474976710656) :
    (-1125899906842624 ≤ (Jb.meas (Jb.run0 s now) m).zero ∧ (Jb.meas (Jb.run0 s now) m).zero ≤ 1125899906842624) ∧ (-281474976710656 ≤ (Jb.meas (Jb.run0 s now) m).first ∧ (Jb.meas (Jb.run0 s now) m).first ≤ 281474976710656) ∧ Jb.okQ now s.high (Jb.left now s.q) := by
  have h0 : ({ s with played := 0 } : Jb.Jt).ok := Jb.cnt_ok s h s.late s.twice 0 h.2.2.1.1 h.2.2.1.2.1 (by simp)
  have hd := due_len now s.q
  have hq := ((Jb.okQ_iff _ _ _).1 h.2.2.2.2).1
  have hr := Jb.run0_ok { s with played := 0 } now h0 h1 h2 (by show (0 : Int) + (Jb.due now s.q).length ≤ _; omega)
  have hM := Jb.meas_ok _ m hr hm
  exact ⟨hM.1.2.1, hM.1.2.2.2.1, hr.2.2.2.2⟩
theorem put0_twice (s : Jb.Jt) (m : Jb.Md) (h0 : (s.q.any fun w => w.m.sq == m.sq) = true) : Jb.put0 s m = ({ s with twice := s.twice + 1 }, 3) := by unfold Jb.put0; rw [if_pos h0]
theorem put0_late (s : Jb.Jt) (m : Jb.Md) (h0 : (s.q.any fun w => w.m.sq == m.sq) = false) (h1 : s.on = true ∧ m.sq ≤ s.done) : Jb.put0 s m = ({ s with late := s.late + 1 }, 2) := by unfold Jb.put0; rw [if_neg (by rw [h0]; simp), if_pos h1]
theorem put0_full (s : Jb.Jt) (m : Jb.Md) (h0 : (s.q.any fun w => w.m.sq == m.sq) = false) (h1 : ¬(s.on = true ∧ m.sq ≤ s.done)) (h2 : 200 ≤ s.q.length) : Jb.put0 s m = (s, 4) := by unfold Jb.put0; rw [if_neg (by rw [h0]; simp), if_neg h1, if_pos h2]
theorem put0_more (s : Jb.Jt) (m : Jb.Md) (h0 : (s.q.any fun w => w.m.sq == m.sq) = false) (h1 : ¬(s.on = true ∧ m.sq ≤ s.done)) (h2 : ¬200 ≤ s.q.length) (s2 : Jb.Jt) (AT : Int) (h3 : Jb.meas s m = s2) (h4 : s2.zero + (m.ti - s2.first) / 8 = AT) :
    Jb.put0 s m = if AT ≤ s.now then ({ s2 with late := s2.late + 1 }, 2) else if s.now + 120000 < AT then (s2, 5) else ({ s2 with q := Jb.ins s2.q ⟨AT, m⟩ }, 1) := by
  unfold Jb.put0
  rw [if_neg (by rw [h0]; simp), if_neg h1, if_neg h2]
  simp only [h3]
  unfold Jb.ptime
  rw [h4]
/-- what Put leaves -/
def JPutR (s : Jb.Jt) (now : Int) (m : Jb.Md) (w : World) (e : Ending) (w' : World) : Prop :=
  ∃ (A1 : Option Addr) (c1 : Nat) (l1 : List TW) (A2 : Option Addr) (c2 : Nat) (l2 : List TW), e = .returned (.tuple #[JV (Jb.put s now m).1 A2 l2.length c2, .slice A1 l1.length c1, .int .u8 (Jb.put s now m).2.2.1, .int .u8 (Jb.put s now m).2.2.2]) ∧ l1.map TW.w = (Jb.put s now m).2.1 ∧ l2.map TW.w = (Jb.put s now m).1.q ∧ Wts w' w'.heap.size A1 l1 ∧ Wts w' w'.heap.size A2 l2 ∧ l2.length ≤ c2 ∧ c2 ≤ maxLen ∧ Below w.heap.size w w' ∧ l1.length ≤ c1 ∧ c1 ≤ maxLen
end Go.Proofs.Ytnaafjdnmbajjaa
/- Layer 30: Put of the program, one way. -/
namespace Go.Proofs.Ytnaafjdnmbajjaa
open Go.RowKit
set_option linter.unusedVariables false
set_option linter.unusedSimpArgs false
attribute [local go_sem ↓] run_min_plain run_max_plain
attribute [local go_sem] setCell_drewN alloc_drewN
set_option maxRecDepth 100000 in
set_option maxHeartbeats 12800000 in
theorem jput_bad (le mo nw : Int) (on : Bool) (ze fi hi dn sp tr : Int) (A : Option Addr) (l : List TW) (n qc : Nat) (la tw pd : Int) (now : Int) (sq ti : Int) (mk : Bool) (ty : Int) (MA : Option Addr) (mn mc : Nat) (pl : List Int) (w : World) (hn : l.length = n) (hmn : pl.length = mn) (hl : n ≤ 100000) (hm9 : mn ≤ 100000) (hcap : n ≤ qc) (hcm : qc ≤ maxLen) (hA : Wts w w.heap.size A l) (hK : ∀ a ∈ l, I64 a.w.m.sq) (hMI : IntsAt w w.heap.size .u8 MA pl) (hr0 : ¬Jb.chk ⟨le, mo, nw, on, ze, fi, hi, dn, sp, tr, l.map TW.w, la, tw, pd⟩ now (decide (Jb.Md.ok ⟨sq, ti, mk, ty, pl⟩)) = 0) : Calls Try.prog 11 #[.agg #[.int .i64 le, .int .i64 mo, .int .i64 nw, .bool on, .int .i64 ze, .int .i64 fi, .int .i64 hi, .int .i64 dn, .int .i64 sp, .int .i64 tr, .slice A n qc, .int .i64 la, .int .i64 tw, .int .i64 pd], .int .i64 now, .agg #[.int .i64 sq, .int .i64 ti, .bool mk, .int .u8 ty, .slice MA mn mc]] w (JPutR ⟨le, mo, nw, on, ze, fi, hi, dn, sp, tr, l.map TW.w, la, tw, pd⟩ now ⟨sq, ti, mk, ty, pl⟩ w) := by
  subst hn
  subst hmn
  obtain ⟨r, hr⟩ : ∃ r, r = Jb.chk ⟨le, mo, nw, on, ze, fi, hi, dn, sp, tr, l.map TW.w, la, tw, pd⟩ now (decide (Jb.Md.ok ⟨sq, ti, mk, ty, pl⟩)) := ⟨_, rfl⟩
  rw [← hr] at hr0
  have HR := Lib.hid hr
  have k1 := Lib.hid fun (W : World) (hW : Bel w W) => check_any le mo nw on ze fi hi dn sp tr A l l.length qc la tw pd now sq ti mk ty MA pl.length mc W rfl hl ((hA.below hW).more hW.size) hK (decide (Jb.Md.ok ⟨sq, ti, mk, ty, pl⟩)) rfl r hr
  have U0 := Lib.hid ((((Bel.refl w).push (.cells #[.int .i64 le, .int .i64 mo, .int .i64 nw, .bool on, .int .i64 ze, .int .i64 fi, .int .i64 hi, .int .i64 dn, .int .i64 sp, .int .i64 tr, .slice A l.length qc, .int .i64 la, .int .i64 tw, .int .i64 pd] 26)).push (.cells #[.int .i64 sq, .int .i64 ti, .bool mk, .int .u8 ty, .slice MA pl.length mc] 29)).push (.cells #[.int .i64 0, .int .i64 0, .int .i64 0, .bool false, .int .i64 0, .int .i64 0, .int .i64 0, .int .i64 0, .int .i64 0, .int .i64 0, .slice none 0 0, .int .i64 0, .int .i64 0, .int .i64 0] 26))
  have BS := Lib.hid (((Blk.new w 26 #[.int .i64 le, .int .i64 mo, .int .i64 nw, .bool on, .int .i64 ze, .int .i64 fi, .int .i64 hi, .int .i64 dn, .int .i64 sp, .int .i64 tr, .slice A l.length qc, .int .i64 la, .int .i64 tw, .int .i64 pd]).push (.cells #[.int .i64 sq, .int .i64 ti, .bool mk, .int .u8 ty, .slice MA pl.length mc] 29)).push (.cells #[.int .i64 0, .int .i64 0, .int .i64 0, .bool false, .int .i64 0, .int .i64 0, .int .i64 0, .int .i64 0, .int .i64 0, .int .i64 0, .slice none 0 0, .int .i64 0, .int .i64 0, .int .i64 0] 26))
  have BM := Lib.hid ((Blk.new1 w (.cells #[.int .i64 le, .int .i64 mo, .int .i64 nw, .bool on, .int .i64 ze, .int .i64 fi, .int .i64 hi, .int .i64 dn, .int .i64 sp, .int .i64 tr, .slice A l.length qc, .int .i64 la, .int .i64 tw, .int .i64 pd] 26) 29 #[.int .i64 sq, .int .i64 ti, .bool mk, .int .u8 ty, .slice MA pl.length mc]).push (.cells #[.int .i64 0, .int .i64 0, .int .i64 0, .bool false, .int .i64 0, .int .i64 0, .int .i64 0, .int .i64 0, .int .i64 0, .int .i64 0, .slice none 0 0, .int .i64 0, .int .i64 0, .int .i64 0] 26))
  have BR : Hid (Blk (((w.alloc (.cells #[.int .i64 le, .int .i64 mo, .int .i64 nw, .bool on, .int .i64 ze, .int .i64 fi, .int .i64 hi, .int .i64 dn, .int .i64 sp, .int .i64 tr, .slice A l.length qc, .int .i64 la, .int .i64 tw, .int .i64 pd] 26)).alloc (.cells #[.int .i64 sq, .int .i64 ti, .bool mk, .int .u8 ty, .slice MA pl.length mc] 29)).alloc (.cells #[.int .i64 0, .int .i64 0, .int .i64 0, .bool false, .int .i64 0, .int .i64 0, .int .i64 0, .int .i64 0, .int .i64 0, .int .i64 0, .slice none 0 0, .int .i64 0, .int .i64 0, .int .i64 0] 26)) (w.heap.size + 1 + 1) 26 #[.int .i64 0, .int .i64 0, .int .i64 0, .bool false, .int .i64 0, .int .i64 0, .int .i64 0, .int .i64 0, .int .i64 0, .int .i64 0, .slice none 0 0, .int .i64 0, .int .i64 0, .int .i64 0]) := Lib.hid (by have h9 := Blk.new ((w.alloc (.cells #[.int .i64 le, .int .i64 mo, .int .i64 nw, .bool on, .int .i64 ze, .int .i64 fi, .int .i64 hi, .int .i64 dn, .int .i64 sp, .int .i64 tr, .slice A l.length qc, .int .i64 la, .int .i64 tw, .int .i64 pd] 26)).alloc (.cells #[.int .i64 sq, .int .i64 ti, .bool mk, .int .u8 ty, .slice MA pl.length mc] 29)) 26 #[.int .i64 0, .int .i64 0, .int .i64 0, .bool false, .int .i64 0, .int .i64 0, .int .i64 0, .int .i64 0, .int .i64 0, .int .i64 0, .slice none 0 0, .int .i64 0, .int .i64 0, .int .i64 0]; rw [size_alloc2] at h9; exact h9)
  have HA := Lib.hid hA
  have HMI := Lib.hid hMI
  clear hr hA hMI
  have hne : (r != 0) = true := by simpa using hr0
  have HN := Lib.hid hr0
  clear hr0
  go_enter Try.func11, Try.ntmps11
  go_wp2_with fail
  refine (k1.out _ U0.out).mono ?_
  rintro e w1 ⟨rfl, hb1⟩
  have U1 := Lib.hid (U0.out.later hb1)
  have BS1 := Lib.hid (BS.out.later hb1)
  have BM1 := Lib.hid (BM.out.later hb1)
  have BR1 := Lib.hid (BR.out.later hb1)
  have hs1 := BR1.out.lt
  clear hb1
  have r0 := (BR1.out).at 0 _ rfl
  have r1 := (BR1.out).at 1 _ rfl
  have r2 := (BR1.out).at 2 _ rfl
  have r3 := (BR1.out).at 3 _ rfl
  have r4 := (BR1.out).at 4 _ rfl
  have r5 := (BR1.out).at 5 _ rfl
  have r6 := (BR1.out).at 6 _ rfl
  have r7 := (BR1.out).at 7 _ rfl
  have r8 := (BR1.out).at 8 _ rfl
  have r9 := (BR1.out).at 9 _ rfl
  have r10 := (BR1.out).at 10 _ rfl
  have r11 := (BR1.out).at 11 _ rfl
  have r12 := (BR1.out).at 12 _ rfl
  have r13 := (BR1.out).at 13 _ rfl
  have rfz := BR1.out.frozen
  go_wp2_with fail
  have BF := Blk.setRow BR1.out [.int .i64 0, .int .i64 0, .int .i64 0, .bool false, .int .i64 0, .int .i64 0, .int .i64 0, .int .i64 0, .int .i64 0, .int .i64 0, .slice none 0 0, .int .i64 0, .int .i64 0, .int .i64 0] rfl
  have UF := below_setRow (g := w.heap.size + 1 + 1) (by omega) [.int .i64 0, .int .i64 0, .int .i64 0, .bool false, .int .i64 0, .int .i64 0, .int .i64 0, .int .i64 0, .int .i64 0, .int .i64 0, .slice none 0 0, .int .i64 0, .int .i64 0, .int .i64 0] _ 0 U1.out
  simp only [setRow, Nat.zero_add, Nat.reduceAdd] at BF UF
  have hput : Jb.put ⟨le, mo, nw, on, ze, fi, hi, dn, sp, tr, l.map TW.w, la, tw, pd⟩ now ⟨sq, ti, mk, ty, pl⟩ = (Jb.Jt.none, [], 0, r) := by unfold Jb.put; rw [← HR.out, if_neg HN.out]
  refine bodyPost_ret (v := .tuple #[.agg (List.toArray [.int .i64 0, .int .i64 0, .int .i64 0, .bool false, .int .i64 0, .int .i64 0, .int .i64 0, .int .i64 0, .int .i64 0, .int .i64 0, .slice none 0 0, .int .i64 0, .int .i64 0, .int .i64 0]), .slice none 0 0, .int .u8 0, .int .u8 r]) (res_cttt Try.results11 rfl (run_loadVar_row (P := Try.prog) _ _ _ _ _ _ _ BF Try.underlying26 rfl (by kernel_rfl)) rfl rfl rfl) rfl ⟨none, 0, [], none, 0, [], ?_, ?_, ?_, Wts.empty, Wts.empty, Nat.le_refl _, by unfold maxLen; omega, UF, Nat.le_refl _, Nat.zero_le _⟩
  · rw [hput]; rfl
  · rw [hput]; rfl
  · rw [hput]; rfl
end Go.Proofs.Ytnaafjdnmbajjaa

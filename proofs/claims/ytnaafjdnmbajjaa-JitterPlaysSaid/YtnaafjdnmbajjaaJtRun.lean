/- Layer 30: run: the due packets are played. -/
import Derived.Test.YtnaafjdnmbajjaaJtQueue
namespace Go.Proofs.Ytnaafjdnmbajjaa
open Go.RowKit
set_option linter.unusedVariables false
set_option linter.unusedSimpArgs false
attribute [local go_sem ↓] run_min_plain run_max_plain
attribute [local go_sem] setCell_drewN alloc_drewN
section
variable {α : Type} {row : α → List Value} {w : World} {B size : Nat} {A : Option Addr} {l : List α}
theorem RowsAt.take (h : RowsAt w B size row A l) (n : Nat) : RowsAt w B size row A (l.take n) := fun h0 => by
  obtain ⟨b, off, rfl, hb, hc⟩ := h (by simp at h0; omega)
  refine ⟨b, off, rfl, hb, fun i a ha j v hv => hc i a ?_ j v hv⟩
  rw [List.getElem?_take] at ha
  split at ha
  · exact ha
  · cases ha
theorem RowsAt.dropAt {b off : Nat} (h : RowsAt w B size row (some ⟨b, off, none⟩) l) (n : Nat) : RowsAt w B size row (some ⟨b, off + n * size, none⟩) (l.drop n) := fun h0 => by
  obtain ⟨b', off', e, hb, hc⟩ := h (by simp at h0; omega)
  injection e with e
  injection e with e1 e2
  subst e1 e2
  refine ⟨b, off + n * size, rfl, hb, fun i a ha j v hv => ?_⟩
  rw [List.getElem?_drop] at ha
  have := hc (n + i) a ha j v hv
  rw [← this]
  congr 2
  rw [Nat.add_mul]; omega
end
theorem Wts.take {w : World} {B : Nat} {A : Option Addr} {l : List TW} (h : Wts w B A l) (n : Nat) : Wts w B A (l.take n) := ⟨h.1.take n, fun a ha => h.2 a (List.mem_of_mem_take ha)⟩
theorem Wts.dropAt {w : World} {B b off : Nat} {l : List TW} (h : Wts w B (some ⟨b, off, none⟩) l) (n : Nat) : Wts w B (some ⟨b, off + n * 6, none⟩) (l.drop n) := ⟨h.1.dropAt n, fun a ha => h.2 a (List.mem_of_mem_drop ha)⟩
/-- a queue is nil and empty, or lies at an address -/
theorem Wts.form {w : World} {B : Nat} {A : Option Addr} {l : List TW} (h : Wts w B A l) : l = [] ∨ ∃ b off, A = some ⟨b, off, none⟩ := by
  rcases Nat.eq_zero_or_pos l.length with h0 | h0
  · exact .inl (List.eq_nil_of_length_eq_zero h0)
  · obtain ⟨b, off, e, _⟩ := h.1 h0
    exact .inr ⟨b, off, e⟩
theorem Wts.empty {w : World} {B : Nat} {A : Option Addr} : Wts w B A [] := ⟨RowsAt.nil, fun _ h => by cases h⟩
theorem Owns.cap {w : World} {base size n c : Nat} {e : TypeId} {A : Option Addr} {xs : List Value} (h : Owns w base e size A n c xs) : n ≤ c := by
  rcases h.2 with ⟨hv, h0⟩ | ⟨g, cap, cur, hv, _, _, hnc, _⟩
  · injection hv with _ h1 h2
    omega
  · injection hv with _ _ h2
    omega
theorem Owns.capm {w : World} {base size n c : Nat} {e : TypeId} {A : Option Addr} {xs : List Value} (h : Owns w base e size A n c xs) : c ≤ maxLen := by
  rcases h.2 with ⟨hv, h0⟩ | ⟨g, cap, cur, hv, _, _, hnc, hr⟩
  · injection hv with _ h1 h2
    unfold maxLen; omega
  · injection hv with _ _ h2
    have := hr.1
    omega
/-- a queue whose cells lie in blocks from lo to hi -/
structure WtsIn (w : World) (lo hi : Nat) (A : Option Addr) (l : List TW) : Prop where
  rows : Wts w hi A l
  low : 0 < l.length → ∀ b off, A = some ⟨b, off, none⟩ → lo ≤ b
  plow : ∀ a ∈ l, 0 < a.w.m.pl.length → ∀ b off, a.B = some ⟨b, off, none⟩ → lo ≤ b
theorem WtsIn.keep {w w' : World} {lo hi : Nat} {A : Option Addr} {l : List TW} (h : WtsIn w lo hi A l) (hk : ∀ p : Addr, lo ≤ p.block → p.block < hi → w'.cell? p = w.cell? p) : WtsIn w' lo hi A l := by
  refine ⟨⟨fun h0 => ?_, fun a ha h0 => ?_⟩, h.low, h.plow⟩
  · obtain ⟨b, off, rfl, hb, hc⟩ := h.rows.1 h0
    have hlo := h.low h0 b off rfl
    exact ⟨b, off, rfl, hb, fun i a ha j v hv => (hk _ hlo hb).trans (hc i a ha j v hv)⟩
  · obtain ⟨b, off, e, hb, hc⟩ := h.rows.2 a ha h0
    have hlo := h.plow a ha h0 b off e
    exact ⟨b, off, e, hb, fun i hi => (hk _ hlo hb).trans (hc i hi)⟩
theorem WtsIn.less {w : World} {lo lo' hi : Nat} {A : Option Addr} {l : List TW} (h : WtsIn w lo hi A l) (hl : lo' ≤ lo) : WtsIn w lo' hi A l :=
  ⟨h.rows, fun h0 b off e => Nat.le_trans hl (h.low h0 b off e), fun a ha h0 b off e => Nat.le_trans hl (h.plow a ha h0 b off e)⟩
theorem WtsIn.setCell {w : World} {lo hi : Nat} {A : Option Addr} {l : List TW} (h : WtsIn w lo hi A l) {p : Addr} (hp : p.block < lo) (u : Value) : WtsIn (w.setCell p u) lo hi A l :=
  h.keep fun q hq _ => World.cell?_setCell_other w p q u (fun e => by subst e; omega)
theorem WtsIn.below {w w' : World} {lo hi : Nat} {A : Option Addr} {l : List TW} (h : WtsIn w lo hi A l) {B : Nat} (hb : Below B w w') (hB : hi ≤ B) : WtsIn w' lo hi A l := h.keep fun q _ hq => hb.cell (by omega)
theorem QOwn.wtsIn {w : World} {base n c : Nat} {A : Option Addr} {l : List TW} (h : QOwn w base A n c l) : WtsIn w base w.heap.size A l :=
  ⟨h.wts, fun h0 b off e => (h.own.block b (by rw [e]; rfl)).1, h.new⟩
theorem QOwn.setCell {w : World} {base n c : Nat} {A : Option Addr} {l : List TW} (h : QOwn w base A n c l) {p : Addr} (hp : p.block < base) (u : Value) : QOwn (w.setCell p u) base A n c l := by
  refine ⟨h.len, h.own.setCell (fun g hg e => ?_) u, fun a ha h0 => ?_, h.far, h.new⟩
  · have := (h.own.block g hg).1
    omega
  · obtain ⟨b, off, e, hb, hc⟩ := h.pay a ha h0
    have hlo := h.new a ha h0 b off e
    exact ⟨b, off, e, by simpa [World.setCell] using hb, fun i hi => (World.cell?_setCell_other w p _ u (fun e => by subst e; simp at hp; omega)).trans (hc i hi)⟩
theorem QOwn.push {w : World} {base n c : Nat} {A : Option Addr} {l : List TW} (h : QOwn w base A n c l) (o : Obj) : QOwn (w.alloc o) base A n c l := h.below ((Below.refl _ _).alloc (Nat.le_refl _) _)
theorem QOwn.setRow {base n c g : Nat} {A : Option Addr} {l : List TW} (hg : g < base) : ∀ (vs : List Value) (w : World) (i : Nat), QOwn w base A n c l → QOwn (Go.Proofs.Ytnaafjdnmbajjaa.setRow g w i vs) base A n c l
  | [], _, _, h => h
  | v :: vs, w, i, h => QOwn.setRow hg vs _ (i + 1) (QOwn.setCell h (by exact hg) v)
theorem WtsIn.setRow {lo hi g : Nat} {A : Option Addr} {l : List TW} (hg : g < lo) : ∀ (vs : List Value) (w : World) (i : Nat), WtsIn w lo hi A l → WtsIn (Go.Proofs.Ytnaafjdnmbajjaa.setRow g w i vs) lo hi A l
  | [], _, _, h => h
  | v :: vs, w, i, h => WtsIn.setRow hg vs _ (i + 1) (WtsIn.setCell h (by exact hg) v)
def QueueN (n : Nat) (q : List Jb.Wt) (w : World) (e : Ending) (w' : World) : Prop :=
  ∃ (A' : Option Addr) (c' : Nat) (l' : List TW), e = .returned (.slice A' n c') ∧ l'.map TW.w = q ∧ QOwn w' w.heap.size A' n c' l' ∧ Below w.heap.size w w'
theorem copyQueue_n (A : Option Addr) (l : List TW) (n c : Nat) (w : World) (B : Nat) (hB : B ≤ w.heap.size) (hn : l.length = n) (hl : n ≤ 100000) (hA : Wts w B A l) (hp : ∀ a ∈ l, a.w.m.pl.length ≤ 1000000) (q : List Jb.Wt) (hq : l.map TW.w = q) : Calls Try.prog 49 #[.slice A n c] w (QueueN n q w) := by
  refine (copyQueue_any A l n c w hn hl (hA.more hB) hp).mono ?_
  rintro e w' ⟨A', c', l', rfl, h1, h2, h3⟩
  rw [hn] at h2
  exact ⟨A', c', l', by rw [hn], h1.trans hq, h2, h3⟩
/-- what run leaves -/
def RunR (le mo : Int) (on : Bool) (ze fi hi dn sp tr : Int) (q : List Jb.Wt) (la tw pd now : Int) (w : World) (e : Ending) (w' : World) : Prop :=
  ∃ (A1 : Option Addr) (c1 : Nat) (l1 : List TW) (A2 : Option Addr) (c2 : Nat) (l2 : List TW) (B : Nat),
    e = .returned (.tuple #[.agg #[.int .i64 le, .int .i64 mo, .int .i64 now, .bool on, .int .i64 ze, .int .i64 fi, .int .i64 hi, .int .i64 (Jb.maxSq dn (Jb.due now q)), .int .i64 sp, .int .i64 tr, .slice A2 l2.length c2, .int .i64 la, .int .i64 tw, .int .i64 (pd + (Jb.due now q).length)], .slice A1 l1.length c1]) ∧
    l1.map TW.w = Jb.due now q ∧ l2.map TW.w = Jb.left now q ∧ WtsIn w' w.heap.size B A1 l1 ∧ QOwn w' B A2 l2.length c2 l2 ∧ w.heap.size ≤ B ∧ B ≤ w'.heap.size ∧ (l1.length ≤ c1 ∧ c1 ≤ maxLen) ∧ Below w.heap.size w w'
theorem due_take (now : Int) (q : List Jb.Wt) : Jb.due now q = q.take (Jb.due now q).length ∧ Jb.left now q = q.drop (Jb.due now q).length := by
  have h := Jb.due_left now q
  constructor
  · conv => rhs; arg 2; rw [← h]
    rw [List.take_left]
  · conv => rhs; arg 2; rw [← h]
    rw [List.drop_left]
theorem maxSq_snoc (d : Int) (l : List Jb.Wt) (x : Jb.Wt) : Jb.maxSq d (l ++ [x]) = max (Jb.maxSq d l) x.m.sq := by unfold Jb.maxSq; rw [List.foldl_append]; rfl
set_option maxRecDepth 100000 in
set_option maxHeartbeats 12800000 in
theorem run_some (le mo nw : Int) (on : Bool) (ze fi hi dn sp tr : Int) (A : Option Addr) (l : List TW) (n qc : Nat) (la tw pd now : Int) (w : World) (hn : l.length = n) (hl : n ≤ 200) (hcap : n ≤ qc) (hcm : qc ≤ maxLen) (hA : Wts w w.heap.size A l) (hp : ∀ a ∈ l, a.w.m.pl.length ≤ 1000000) (hpd : -9223372036854775808 ≤ pd ∧ pd ≤ 9223372036854775000)
    (d : Nat) (hd : d = (Jb.due now (l.map TW.w)).length) (hdl : d < n) : Calls Try.prog 29 #[.agg #[.int .i64 le, .int .i64 mo, .int .i64 nw, .bool on, .int .i64 ze, .int .i64 fi, .int .i64 hi, .int .i64 dn, .int .i64 sp, .int .i64 tr, .slice A n qc, .int .i64 la, .int .i64 tw, .int .i64 pd], .int .i64 now] w (RunR le mo on ze fi hi dn sp tr (l.map TW.w) la tw pd now w) := by
  subst hn
  unfold maxLen at hcm
  obtain ⟨b, off, rfl⟩ : ∃ b off, A = some ⟨b, off, none⟩ := by
    rcases hA.form with e | e
    · subst e; simp at hdl
    · exact e
  have h1 : (0 : Int) ≤ (d : Int) := by omega
  have h2 : (d : Int) ≤ (l.length : Int) := by omega
  have h3 : (d : Int) ≤ (qc : Int) := by omega
  have h4 : ¬qc = d := by omega
  have h5 : (l.length : Int) ≤ (qc : Int) := by omega
  have hR : firstLate now (l.map TW.w) = (d : Int) := by unfold firstLate; rw [← hd, if_neg (by simp; omega)]
  obtain ⟨W0, hW0⟩ : ∃ W0, W0 = ((w.alloc (.cells #[.int .i64 le, .int .i64 mo, .int .i64 nw, .bool on, .int .i64 ze, .int .i64 fi, .int .i64 hi, .int .i64 dn, .int .i64 sp, .int .i64 tr, .slice (some ⟨b, off, none⟩) l.length qc, .int .i64 la, .int .i64 tw, .int .i64 pd] 26)).alloc (.cells #[.int .i64 now] 3)).alloc (.cells #[.int .i64 0, .int .i64 0, .int .i64 0, .bool false, .int .i64 0, .int .i64 0, .int .i64 0, .int .i64 0, .int .i64 0, .int .i64 0, .slice none 0 0, .int .i64 0, .int .i64 0, .int .i64 0] 26) := ⟨_, rfl⟩
  have hU0 : Bel w W0 := by rw [hW0]; exact (((Bel.refl w).push _).push _).push _
  have hB0 : Blk W0 w.heap.size 26 #[.int .i64 le, .int .i64 mo, .int .i64 nw, .bool on, .int .i64 ze, .int .i64 fi, .int .i64 hi, .int .i64 dn, .int .i64 sp, .int .i64 tr, .slice (some ⟨b, off, none⟩) l.length qc, .int .i64 la, .int .i64 tw, .int .i64 pd] := by rw [hW0]; exact ((Blk.new w _ _).push _).push _
  have hB1 : Blk W0 (w.heap.size + 1) 3 #[.int .i64 now] := by rw [hW0]; exact (Blk.new1 w _ _ _).push _
  have hB2 : Blk W0 (w.heap.size + 1 + 1) 26 #[.int .i64 0, .int .i64 0, .int .i64 0, .bool false, .int .i64 0, .int .i64 0, .int .i64 0, .int .i64 0, .int .i64 0, .int .i64 0, .slice none 0 0, .int .i64 0, .int .i64 0, .int .i64 0] := by rw [hW0]; have := Blk.new ((w.alloc (.cells #[.int .i64 le, .int .i64 mo, .int .i64 nw, .bool on, .int .i64 ze, .int .i64 fi, .int .i64 hi, .int .i64 dn, .int .i64 sp, .int .i64 tr, .slice (some ⟨b, off, none⟩) l.length qc, .int .i64 la, .int .i64 tw, .int .i64 pd] 26)).alloc (.cells #[.int .i64 now] 3)) 26 #[.int .i64 0, .int .i64 0, .int .i64 0, .bool false, .int .i64 0, .int .i64 0, .int .i64 0, .int .i64 0, .int .i64 0, .int .i64 0, .slice none 0 0, .int .i64 0, .int .i64 0, .int .i64 0]; rw [size_alloc2] at this; exact this
  have hA0 : Wts W0 W0.heap.size (some ⟨b, off, none⟩) l := (hA.below hU0).more hU0.size
  have k1 := index_any (some ⟨b, off, none⟩) l l.length qc (w.heap.size + 1) now W0 rfl (by omega) hA0 (hB1.at 0 _ rfl) hB1.lt
  rw [hR] at k1
  rw [hW0] at k1
  have K1 := Lib.hid k1
  have HW0 := Lib.hid hW0
  have U0 := Lib.hid hU0
  have BS := Lib.hid hB0
  have BN := Lib.hid hB1
  have BR := Lib.hid hB2
  have HA := Lib.hid hA0
  have HP := Lib.hid hp
  have HD := Lib.hid hd
  clear k1 hW0 hU0 hB0 hB1 hB2 hA0 hp hA hd hR
  go_enter Try.func29, Try.ntmps29
  go_wp2_with fail
  refine K1.out.mono ?_
  rw [← HW0.out]
  rintro e w1 ⟨rfl, hb1⟩
  have U1 := Lib.hid (U0.out.later hb1)
  have BS1 := Lib.hid (BS.out.later hb1)
  have BN1 := Lib.hid (BN.out.later hb1)
  have BR1 := Lib.hid (BR.out.later hb1)
  have HA1 := Lib.hid (HA.out.later hb1)
  have g10 := BS1.out.at 10 _ rfl
  clear hb1 K1 HW0 U0 BS BN BR HA
  have HQ := Lib.hid (due_take now (l.map TW.w))
  rw [← HD.out] at HQ
  have HPT := Lib.hid (fun (a : TW) (ha : a ∈ l.take d) => HP.out a (List.mem_of_mem_take ha))
  have HPD := Lib.hid (fun (a : TW) (ha : a ∈ l.drop d) => HP.out a (List.mem_of_mem_drop ha))
  have k2 := Lib.hid (copyQueue_n (some ⟨b, off, none⟩) (l.take d) d d w1 w1.heap.size (Nat.le_refl _) (by simp; omega) (by omega) (HA1.out.take d) HPT.out (Jb.due now (l.map TW.w)) (by rw [HQ.out.1, List.map_take]))
  go_wp2_with fail
  refine k2.out.mono ?_
  rintro e w2 ⟨A1, c1, l1, rfl, hm1, hq1, hb2⟩
  have HM1 := Lib.hid hm1
  have Q1 := Lib.hid hq1.wtsIn
  have HL1 := Lib.hid hq1.len
  have HCA : Hid (l1.length ≤ c1 ∧ c1 ≤ maxLen) := Lib.hid ⟨by rw [hq1.len]; exact hq1.own.cap, Owns.capm hq1.own⟩
  have U2 := Lib.hid (U1.out.later hb2)
  have BS2 := Lib.hid (BS1.out.later hb2)
  have BN2 := Lib.hid (BN1.out.later hb2)
  have BR2 := Lib.hid (BR1.out.later hb2)
  have HA2 := Lib.hid (HA1.out.later hb2)
  have hs1 := BR1.out.lt
  have hs2 := hb2.size
  have k3 := Lib.hid (copyQueue_n (some ⟨b, off + d * 6, none⟩) (l.drop d) (l.length - d) (qc - d) w2 w2.heap.size (Nat.le_refl _) (by simp) (by omega) (HA2.out.dropAt d) HPD.out (Jb.left now (l.map TW.w)) (by rw [HQ.out.2, List.map_drop]))
  clear hb2 hm1 hq1 U1 BS1 BN1 BR1 HA1 k2
  clear g10
  have g10 := BS2.out.at 10 _ rfl
  go_wp2_with fail
  refine k3.out.mono ?_
  rintro e w3 ⟨A2, c2, l2, rfl, hm2, hq2, hb3⟩
  have HM2 := Lib.hid hm2
  have Q2 := Lib.hid hq2
  have Q1' := Lib.hid (Q1.out.below hb3 (Nat.le_refl _))
  have U3 := Lib.hid (U2.out.later hb3)
  have BS3 := Lib.hid (BS2.out.later hb3)
  have BN3 := Lib.hid (BN2.out.later hb3)
  have BR3 := Lib.hid (BR2.out.later hb3)
  have hs3 := hb3.size
  clear hb3 hm2 hq2 U2 BS2 BN2 BR2 HA2 k3 Q1 g10
  have f13 := BS3.out.at 13 _ rfl
  have f10 := BS3.out.at 10 _ rfl
  have fz := BS3.out.frozen
  go_wp2_with fail
  go_loopg [38] d (fun gk i wr => ∃ k : Nat, gk + k = d ∧ i = .int .i64 k ∧ Hid (Blk wr w.heap.size 26 #[.int .i64 le, .int .i64 mo, .int .i64 nw, .bool on, .int .i64 ze, .int .i64 fi, .int .i64 hi, .int .i64 (Jb.maxSq dn ((Jb.due now (l.map TW.w)).take k)), .int .i64 sp, .int .i64 tr, .slice A2 (l.length - d) c2, .int .i64 la, .int .i64 tw, .int .i64 (pd + d)]) ∧ Hid (Blk wr (w.heap.size + 1) 3 #[.int .i64 now]) ∧ Hid (Blk wr (w.heap.size + 1 + 1) 26 #[.int .i64 0, .int .i64 0, .int .i64 0, .bool false, .int .i64 0, .int .i64 0, .int .i64 0, .int .i64 0, .int .i64 0, .int .i64 0, .slice none 0 0, .int .i64 0, .int .i64 0, .int .i64 0]) ∧ Hid (WtsIn wr w1.heap.size w2.heap.size A1 l1) ∧ Hid (QOwn wr w2.heap.size A2 (l.length - d) c2 l2) ∧ Hid (Bel w wr) ∧ Hid (w2.heap.size ≤ wr.heap.size))
  case atStart =>
    refine ⟨0, rfl, rfl, Lib.hid ?_, Lib.hid ?_, Lib.hid ?_, Lib.hid ?_, Lib.hid ?_, Lib.hid ?_, Lib.hid ?_⟩
    · exact (BS3.out.set_ 10 (.slice A2 (l.length - d) c2)).set_ 13 (.int .i64 (pd + d))
    · exact (BN3.out.far (by simp) _).far (by simp) _
    · exact (BR3.out.far (by simp; omega) _).far (by simp; omega) _
    · exact (Q1'.out.setCell (by simp; omega) _).setCell (by simp; omega) _
    · exact (Q2.out.setCell (by simp; omega) _).setCell (by simp; omega) _
    · exact below_set_old (below_set_old U3.out (Nat.le_refl _) _) (Nat.le_refl _) _
    · simpa [World.setCell] using hs3
  case round =>
    obtain ⟨k, hgk, rfl, BSr, BNr, BRr, W1r, Q2r, Ur, HSr⟩ := hrel
    have hi0 : (0 : Int) ≤ (k : Int) := by omega
    have hz0 := BSr.out.lt
    have fzr := BSr.out.frozen
    by_cases hk : k < d
    rotate_left
    · obtain rfl : k = d := by omega
      have hi1 : (k : Int) ≤ (k : Int) := Int.le_refl _
      have p0 := BSr.out.at 0 _ rfl
      have p1 := BSr.out.at 1 _ rfl
      have p2 := BSr.out.at 2 _ rfl
      have p3 := BSr.out.at 3 _ rfl
      have p4 := BSr.out.at 4 _ rfl
      have p5 := BSr.out.at 5 _ rfl
      have p6 := BSr.out.at 6 _ rfl
      have p7 := BSr.out.at 7 _ rfl
      have p8 := BSr.out.at 8 _ rfl
      have p9 := BSr.out.at 9 _ rfl
      have p10 := BSr.out.at 10 _ rfl
      have p11 := BSr.out.at 11 _ rfl
      have p12 := BSr.out.at 12 _ rfl
      have p13 := BSr.out.at 13 _ rfl
      have r0 := BRr.out.at 0 _ rfl
      have r1 := BRr.out.at 1 _ rfl
      have r2 := BRr.out.at 2 _ rfl
      have r3 := BRr.out.at 3 _ rfl
      have r4 := BRr.out.at 4 _ rfl
      have r5 := BRr.out.at 5 _ rfl
      have r6 := BRr.out.at 6 _ rfl
      have r7 := BRr.out.at 7 _ rfl
      have r8 := BRr.out.at 8 _ rfl
      have r9 := BRr.out.at 9 _ rfl
      have r10 := BRr.out.at 10 _ rfl
      have r11 := BRr.out.at 11 _ rfl
      have r12 := BRr.out.at 12 _ rfl
      have r13 := BRr.out.at 13 _ rfl
      have n0 := BNr.out.at 0 _ rfl
      have rfz := BRr.out.frozen
      go_wp2_with fail
      have htk : (Jb.due now (l.map TW.w)).take k = Jb.due now (l.map TW.w) := List.take_of_length_le (Nat.le_of_eq HD.out.symm)
      rw [htk]
      have BF := Blk.setRow (BRr.out.far (p := ⟨w.heap.size, 2, none⟩) (by simp; omega) (.int .i64 now)) [.int .i64 le, .int .i64 mo, .int .i64 now, .bool on, .int .i64 ze, .int .i64 fi, .int .i64 hi, .int .i64 (Jb.maxSq dn (Jb.due now (l.map TW.w))), .int .i64 sp, .int .i64 tr, .slice A2 (l.length - k) c2, .int .i64 la, .int .i64 tw, .int .i64 (pd + k)] rfl
      have QF := QOwn.setRow (g := w.heap.size + 1 + 1) (by omega) [.int .i64 le, .int .i64 mo, .int .i64 now, .bool on, .int .i64 ze, .int .i64 fi, .int .i64 hi, .int .i64 (Jb.maxSq dn (Jb.due now (l.map TW.w))), .int .i64 sp, .int .i64 tr, .slice A2 (l.length - k) c2, .int .i64 la, .int .i64 tw, .int .i64 (pd + k)] _ 0 (Q2r.out.setCell (p := ⟨w.heap.size, 2, none⟩) (by simp; omega) (.int .i64 now))
      have WF := WtsIn.setRow (g := w.heap.size + 1 + 1) (by omega) [.int .i64 le, .int .i64 mo, .int .i64 now, .bool on, .int .i64 ze, .int .i64 fi, .int .i64 hi, .int .i64 (Jb.maxSq dn (Jb.due now (l.map TW.w))), .int .i64 sp, .int .i64 tr, .slice A2 (l.length - k) c2, .int .i64 la, .int .i64 tw, .int .i64 (pd + k)] _ 0 (W1r.out.setCell (p := ⟨w.heap.size, 2, none⟩) (by simp; omega) (.int .i64 now))
      have UF := below_setRow (g := w.heap.size + 1 + 1) (by omega) [.int .i64 le, .int .i64 mo, .int .i64 now, .bool on, .int .i64 ze, .int .i64 fi, .int .i64 hi, .int .i64 (Jb.maxSq dn (Jb.due now (l.map TW.w))), .int .i64 sp, .int .i64 tr, .slice A2 (l.length - k) c2, .int .i64 la, .int .i64 tw, .int .i64 (pd + k)] _ 0 (below_set_old (p := ⟨w.heap.size, 2, none⟩) Ur.out (Nat.le_refl _) (.int .i64 now))
      have SF := setRow_size (w.heap.size + 1 + 1) [.int .i64 le, .int .i64 mo, .int .i64 now, .bool on, .int .i64 ze, .int .i64 fi, .int .i64 hi, .int .i64 (Jb.maxSq dn (Jb.due now (l.map TW.w))), .int .i64 sp, .int .i64 tr, .slice A2 (l.length - k) c2, .int .i64 la, .int .i64 tw, .int .i64 (pd + k)] (wr.setCell ⟨w.heap.size, 2, none⟩ (.int .i64 now)) 0
      obtain ⟨W, hW⟩ : ∃ W, W = setRow (w.heap.size + 1 + 1) (wr.setCell ⟨w.heap.size, 2, none⟩ (.int .i64 now)) 0 [.int .i64 le, .int .i64 mo, .int .i64 now, .bool on, .int .i64 ze, .int .i64 fi, .int .i64 hi, .int .i64 (Jb.maxSq dn (Jb.due now (l.map TW.w))), .int .i64 sp, .int .i64 tr, .slice A2 (l.length - k) c2, .int .i64 la, .int .i64 tw, .int .i64 (pd + k)] := ⟨_, rfl⟩
      rw [← hW] at BF QF WF UF SF
      simp only [setRow, Nat.zero_add, Nat.reduceAdd] at hW
      rw [← hW]
      have hl2 : l2.length = l.length - k := Q2r.out.len
      have hl1 : l1.length = k := HL1.out
      rw [← hl2] at BF QF
      exact bodyPost_ret (v := .tuple #[.agg (List.toArray [.int .i64 le, .int .i64 mo, .int .i64 now, .bool on, .int .i64 ze, .int .i64 fi, .int .i64 hi, .int .i64 (Jb.maxSq dn (Jb.due now (l.map TW.w))), .int .i64 sp, .int .i64 tr, .slice A2 l2.length c2, .int .i64 la, .int .i64 tw, .int .i64 (pd + k)]), .slice A1 k c1]) (res_ct Try.results29 rfl (run_loadVar_row (P := Try.prog) _ _ _ _ _ _ _ BF Try.underlying26 rfl (by kernel_rfl)) rfl) rfl ⟨A1, c1, l1, A2, c2, l2, w2.heap.size, by rw [hl1, ← HD.out], HM1.out, HM2.out, WF.less (by omega), QF, by omega, by have := HSr.out; rw [SF]; simpa [World.setCell] using this, HCA.out, UF⟩
    have hi1 : (k : Int) < (d : Int) := by omega
    have hl1 : l1.length = d := HL1.out
    obtain ⟨a, ha⟩ : ∃ a, l1[k]? = some a := ⟨_, List.getElem?_eq_getElem (by omega)⟩
    obtain ⟨b9, off9, rfl, hbB, e0, e1, e2, e3, e4, e5⟩ := rowsW W1r.out.rows.1 ha
    have hm : (Jb.due now (l.map TW.w))[k]? = some a.w := by rw [← HM1.out, List.getElem?_map, ha]; rfl
    have HM := Lib.hid hm
    obtain ⟨⟨at0, ⟨sq0, ti0, mk0, ty0, pl0⟩⟩, B0, c0⟩ := a
    simp only at e0 e1 e2 e3 e4 e5 HM
    have hbw : b9 < wr.heap.size := Nat.lt_of_lt_of_le hbB HSr.out
    have p7 := BSr.out.at 7 _ rfl
    clear ha hm hl1
    go_wp2_with fail
    go_roundg (gk - 1)
    case measure => omega
    case rel =>
      refine ⟨k + 1, by omega, by go_num, Lib.hid ?_, Lib.hid ?_, Lib.hid ?_, Lib.hid ?_, Lib.hid ?_, Lib.hid ?_, Lib.hid ?_⟩
      · rw [List.take_add_one, HM.out]
        simp only [Option.toList_some]
        rw [maxSq_snoc]
        exact (BSr.out.set_ 7 _).push _
      · exact (BNr.out.far (by simp) _).push _
      · exact (BRr.out.far (by simp; omega) _).push _
      · exact (W1r.out.setCell (by simp; omega) _).below ((Below.refl _ _).alloc (Nat.le_refl _) _) (by have := HSr.out; simpa [World.setCell] using this)
      · exact (Q2r.out.setCell (by simp; omega) _).push _
      · exact Bel.push (below_set_old Ur.out (Nat.le_refl _) _) _
      · have := HSr.out; simp [World.setCell]; omega
end Go.Proofs.Ytnaafjdnmbajjaa
